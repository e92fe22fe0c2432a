/-
  Unify of the program: what may be asked.
-/
import Derived.Test.YtfebhekplhjigaaWUni6
import Derived.Test.YtfebhekplhjigaaCCatTy
import Derived.Test.YtfebhekplhjigaaPUni3
open List(length_map length_append map_append append_assoc)
open Nat(reduceEqDiff reduceLeDiff reduceAdd reduceLT reduceMul)
set_option linter.unusedSimpArgs false
set_option linter.unusedVariables false
namespace Go.Ab
set_option maxRecDepth 100000
theorem ar0{P:Program}{f:FuncId}{args:List AV}{nl:Bool}{e s:Nat}{xs:List AV}(h:uq P f args nl e s xs)(hn:AV.ae args=true)(hx:AV.ae xs=true)(O:List ad):fE P f args O (.row O.length xs.length) (O++ [cq nl e s xs]):=by
 have:=fE.fresh h hn O;have e1:(cq nl e s xs).bP (λ n=>O.length+n)=cq nl e s xs:=fJ (ac5 hx);simpa [AV.bP,e1]using this
theorem a7.used{P:Program}{f:FuncId}{args:List AV}{O:List ad}{res:AV}(h:a7 P f (args.map (iW O)) res)(hn:AV.ae (args.map (iW O))=true):fE P f args O res (xo O args res):=
 ⟨h.1,λ I L w vs hi hr=>by
   have:=jD («as»:=args) (aX:=[]) (vs:=vs) hi (by simpa using hr) (by simpa using hn) (by simpa using h);exact this⟩
end Go.Ab
namespace Go.Proofs.Ab
open Go.Ab
set_option maxRecDepth 100000
set_option maxHeartbeats 4000000
theorem ayj{O:List ad}{k:Nat}{l:List Int}{g:FuncId}{aX:List AV}{p:Int->Bool}(hO:O[k]? =some (cq true 3 1 (l.map au)))(hl:l.length<=1073741824)(hc:∀x∈l,fE Try.prog g (au x::aX) O (.v (.bool (p x))) O):
  fE Try.prog F.bQ [.row k l.length,.fn g aX] O (au (mW p l 0)) O:=by
 refine gT A.ly rfl ?_;by_cases bn:l= []
 ·subst bn;have pN:O[k]? =some (.nil 3 1):=by rw[hO];simp[cq]
  have d0:decide ((0:Int)<0)=false:=by decide
  simp only[A.bQ,pN,↓OD,OA,reduceEqDiff,reduceCtorEq];refine bd (ι:=Unit) (λ _=>True) (λ _=>jw [(0,.row k 0),(1,.fn g aX),(7,.v (.int .i64 0)),(8,.v (.int .i64 0))]) (λ _=>O) (λ _=>0) () trivial (.of_eq rfl rfl) ?_;rintro⟨⟩ _;simp only[d0,↓OD,OA,reduceEqDiff,reduceCtorEq];exact mI (.inl rfl) (by simp only[OA];rfl)
 have aET:l.map au≠[]:=λ h=>bn (List.map_eq_nil_iff.1 h)
 have pN:O[k]? =some (.live 3 1 (l.map au)):=by rw[hO];simp[cq,bn]
 simp only[A.bQ,pN,length_map,true_and,↓OD,OA,reduceEqDiff,reduceCtorEq]
 refine bd (ι:=List Int×List Int) (λ q=>q.1++q.2=l/\mW p l 0=mW p q.2 q.1.length)
  (λ q=>jw [(0,.row k l.length),(1,.fn g aX),(7,.v (.int .i64 (l.length:Int))),(8,.v (.int .i64 (q.1.length:Int)))]) (λ _=>O) (λ q=>q.2.length) ([],l) ⟨rfl,rfl⟩ (.of_eq rfl rfl) ?_
 rintro⟨done,rest⟩ ⟨hd,hg⟩;simp only at hd hg;have hll:done.length+rest.length=l.length:=by rw[←hd,length_append]
 cases rest with
 |nil=>
  have d:decide ((done.length:Int)<(l.length:Int))=false:=decide_eq_false (by simp at hll;omega);simp only[d,↓OD,OA,reduceEqDiff,reduceCtorEq];exact mI (.inl rfl) (by simp only[OA];rw[hg];rfl)
 |cons x rest=>
  have d:decide ((done.length:Int)<(l.length:Int))=true:=decide_eq_true (by simp at hll;omega);have aF:done.length<l.length:=by simp at hll;omega
  have iQ:(l.map au).getD done.length .top=au x:=by rw[←hd,map_append,List.map_cons];exact tB (by simp)
  have hxl:x∈l:=by rw[←hd];simp
  simp only[d,pN,length_map,Int.toNat_natCast,iQ,AV.cells,↓OD,OA,reduceEqDiff,reduceCtorEq];refine⟨by omega,by omega,aF,aD _ _ (hc x hxl) ?_⟩;cases hp:p x with
  |true=>
   simp only[↓OD,OA,reduceEqDiff,reduceCtorEq];exact mI (.inl rfl) (by simp only[OA];rw[hg];unfold mW;rw[if_pos hp])
  |false=>
   simp only[↓OD,OA,reduceEqDiff,reduceCtorEq];refine a6 (done++ [x],rest) ⟨by rw[←hd];simp,?_⟩ (by simp) (.of_eq (by rw[bh (by omega) (by omega),length_append];rfl) rfl);rw[hg]
   conv=>lhs;unfold mW
   rw[if_neg (by simp[hp]),length_append];rfl
theorem az5{O:List ad}{k:Nat}{l:List Int}{g:FuncId}{aX:List AV}{p:Int->Bool}(hO:O[k]? =some (cq true 3 1 (l.map au)))(hl:l.length<=1073741824)(hc:∀x∈l,fE Try.prog g (au x::aX) O (.v (.bool (p x))) O):
  fE Try.prog F.bT [.row k l.length,.fn g aX] O (.v (.bool (l.any p))) O:=by
 refine gT A.kl rfl ?_;simp only[A.bT,↓OD,OA,reduceEqDiff,reduceCtorEq];refine aD _ _ (ayj hO hl hc) ?_;simp only[↓OD,OA,reduceEqDiff,reduceCtorEq];exact mI (.inl rfl) (by simp only[OA];rw[←zC])
theorem vc{O:List ad}{b:Nat}{m n:Int}(h:O[b]? =some (.live 3 1 [au m])):fE Try.prog F.fN [au n,.ptr b 1 0 0] O (.v (.bool (decide (m<=n)))) O:=by
 refine gT A.tN rfl ?_;simp only[A.fN,h,↓OD,OA,reduceEqDiff,reduceCtorEq];exact mI (.inl rfl) (by simp only[OA])
theorem zo(m:Int)(a b:List aa)(hm:l8 m)(ha:(a.map aa.wt).sum+a.length<=1048576)(hb:(b.map aa.wt).sum+b.length<=1048576)(O:List ad):
  ∃O',fE Try.prog F.gz [au m,.sl (a.map aa.av),.sl (b.map aa.av)] O (.v (.bool (ch m a b))) O'/\∃E,O'=O++E:=by
 have key:∃res O',(res= .v (.bool (ch m a b))/\∃E,O'=O++E)/\fE Try.prog F.gz [au m,.sl (a.map aa.av),.sl (b.map aa.av)] O res O':=by
  refine jx A.wM rfl ?_;simp only[A.gz,au,↓OD,OA,reduceEqDiff];simp only[ku,OA];refine aD _ _ ((kU m 0 300).any rfl rfl _) ?_;have no:∀{ok:Bool},ch m a b=ok->∀E,(AV.v (.bool ok)= .v (.bool (ch m a b)))/\∃E',O++E=O++E':=λ h E=>⟨by rw[h],E,rfl⟩
  cases h1:l9 m 0 300 with
  |false=>
   simp only[Bool.not_false,↓OD,OA,reduceEqDiff];exact aY (.inl rfl) (by simp only[OA];exact no (by simp[ch,h1]) _)
  |true=>
  simp only[Bool.not_true,length_map,↓OD,OA,reduceEqDiff,reduceCtorEq];by_cases h2:a.length=b.length;rotate_left
  ·have d2:decide ((a.length:Int)=(b.length:Int))=false:=decide_eq_false (by omega);simp only[d2,Bool.not_false,↓OD,OA,reduceEqDiff];exact aY (.inl rfl) (by simp only[OA];exact no (by simp[ch,h2]) _)
  have d2:decide ((a.length:Int)=(b.length:Int))=true:=decide_eq_true (by omega);simp only[d2,Bool.not_true,length_map,↓OD,OA,reduceEqDiff,reduceCtorEq];by_cases h3:a.length<=200;rotate_left
  ·have d3:decide ((200:Int)<(a.length:Int))=true:=decide_eq_true (by omega);simp only[d3,↓OD,OA,reduceEqDiff];exact aY (.inl rfl) (by simp only[OA];exact no (by simp[ch,h3]) _)
  have d3:decide ((200:Int)<(a.length:Int))=false:=decide_eq_false (by omega);simp only[d3,↓OD,OA,reduceEqDiff,reduceAdd];have hM:(O++ [ad.live 3 1 [AV.v (.int .i64 m)]]++ [ad.live 27 1 [AV.sl (a.map aa.av),AV.sl (b.map aa.av)]])=O++ [ad.live 3 1 [AV.v (.int .i64 m)],ad.live 27 1 [AV.sl (a.map aa.av),AV.sl (b.map aa.av)]]:=by simp
  have hfz:([AV.row (O.length+1) 2].map (iW (O++ [ad.live 3 1 [AV.v (.int .i64 m)],ad.live 27 1 [AV.sl (a.map aa.av),AV.sl (b.map aa.av)]])))= [.sl [.sl (a.map aa.av),.sl (b.map aa.av)]]:=by
   simp[iW]
  have azc:=(a7.used (O:=O++ [ad.live 3 1 [AV.v (.int .i64 m)],ad.live 27 1 [AV.sl (a.map aa.av),AV.sl (b.map aa.av)]]) (args:=[.row (O.length+1) 2]) (by rw[hfz];exact awa a b (by omega)) (by rw[hfz];simp only[AV.ae,AV.ag,Bool.and_true,Bool.and_eq_true];exact⟨bA aa.ag,bA aa.ag⟩))
  have avu:xo (O++ [ad.live 3 1 [AV.v (.int .i64 m)],ad.live 27 1 [AV.sl (a.map aa.av),AV.sl (b.map aa.av)]]) [.row (O.length+1) 2] (.sl ((a++b).map aa.av))=O++ [ad.live 3 1 [AV.v (.int .i64 m)],.dead]:=by
   simp[xo,eD,AV.flat]
  rw[avu]at azc;rw[hM];refine aD _ _ azc ?_;simp only[length_map,↓OD,OA,reduceEqDiff];have hl:(a++b).length=a.length+b.length:=length_append;have hwt:((a++b).map aa.wt).sum<=2097152:=by rw[map_append,List.sum_append];omega
  have hwx:∀t∈a++b,t.wt<=1048576:=λ t ht=>by
   rcases List.mem_append.1 ht with h|h
   ·have:=cY aa.wt h;omega
   ·have:=cY aa.wt h;omega
  have hM0:ch m a b=(a++b).all (fH m):=by simp[ch,h1,h2];omega
  generalize aEZ:a++b=l at hl hwt hwx hM0
  refine bd (ι:=List aa×List aa×List ad) (λ q=>q.1++q.2.1=l/\l.all (fH m)=q.2.1.all (fH m))
   (λ q=>jw [(3,.ptr O.length 1 0 0),(27,.sl (l.map aa.av)),(28,.v (.int .i64 ((a.length+b.length:Nat):Int))),(29,.v (.int .i64 (q.1.length:Int)))])
   (λ q=>O++ .live 3 1 [.v (.int .i64 m)]::q.2.2) (λ q=>q.2.1.length) ([],l,[.dead]) ⟨rfl,rfl⟩ (.of_eq (by first|rfl|simp) rfl) ?_
  rintro⟨done,rest,E⟩ ⟨hd,hg⟩;simp only at hd hg;have hll:done.length+rest.length=l.length:=by rw[←hd,length_append]
  have kK:∀E':List ad,((O++ .live 3 1 [.v (.int .i64 m)]::E)++E')[O.length]? =some (.live 3 1 [.v (.int .i64 m)]):=λ E'=>by rw[append_assoc];exact ku
  have noE:∀{ok:Bool} (E':List ad),ch m a b=ok->(AV.v (.bool ok)= .v (.bool (ch m a b)))/\∃E'',(O++ .live 3 1 [.v (.int .i64 m)]::E)++E'=O++E'':=λ E' h=>⟨by rw[h],_,append_assoc _ _ _⟩
  cases rest with
  |nil=>
   have d:decide ((done.length:Int)<((a.length+b.length:Nat):Int))=false:=decide_eq_false (by simp at hll;omega);simp only[d,↓OD,OA,reduceEqDiff];exact aY (.inl rfl) (by simp only[OA];exact no (by rw[hM0,hg];rfl) _)
  |cons t rest=>
   have d:decide ((done.length:Int)<((a.length+b.length:Nat):Int))=true:=decide_eq_true (by simp at hll;omega);have aF:done.length<l.length:=by simp at hll;omega
   have iQ:(l.map aa.av).getD done.length .top=t.av:=by rw[←hd,map_append,List.map_cons];exact tB (by simp)
   have htl:t∈l:=by rw[←hd];simp
   have htw:=hwx t htl;generalize hQ:O++ .live 3 1 [.v (.int .i64 m)]::E=Q at kK noE;simp only[d,length_map,Int.toNat_natCast,iQ,aa.width,aa.isAgg,aa.storable,↓OD,OA,reduceEqDiff];refine⟨by omega,by omega,?_⟩;simp only[ku,as0,aa.width,aa.isAgg,OA,reduceAdd];refine aD _ _ ((nG t htw).any (by simp[AV.ae,aa.ag]) rfl _) ?_;cases ho:t.jn with
   |false=>
    simp only[Bool.not_false,↓OD,OA,reduceEqDiff];exact aY (.inl rfl) (by simp only[OA];exact noE _ (by rw[hM0,hg];simp[fH,ho]))
   |true=>
    simp only[Bool.not_true,ku,aa.width,aa.isAgg,↓OD,OA,reduceEqDiff];refine aD _ _ ((rU t htw).any (by simp[AV.ae,aa.ag]) rfl _) ?_;by_cases qp:t.dw<=200;rotate_left
    ·have d1:decide ((200:Int)<(t.dw:Int))=true:=decide_eq_true (by omega);simp only[d1,au,↓OD,OA,reduceEqDiff,reduceCtorEq];exact aY (.inl rfl) (by simp only[OA];exact noE _ (by rw[hM0,hg];simp[fH,qp]))
    have d1:decide ((200:Int)<(t.dw:Int))=false:=decide_eq_false (by omega);simp only[d1,ku,au,aa.width,aa.isAgg,↓OD,OA,reduceEqDiff,reduceCtorEq];have aok:l9 11 9 11=true:=by decide
    have aoq:=afu t 11 htw;rw[ho,aok]at aoq;simp only[Bool.and_self,if_true]at aoq;have hfl:=jz (t.dn 11) [];have aFf:=t.mw 11;have hfc:=ar0 aoq (by simp[AV.ae,AV.ag,aa.ag]) (ahC _) (Q++ [.live 29 4 [t.av]]);rw[length_map]at hfc;refine aD _ _ hfc ?_;simp only[↓OD,OA,reduceEqDiff];refine aD _ _ (az5 (p:=λ n=>decide (m<=n)) (by rw[append_assoc];exact ux) (by simp at hfl;omega) λ n hn=>vc (by rw[append_assoc];exact kK _)) ?_
    have aCz:(bc [] (t.dn 11)).any (λ n=>decide (m<=n))= !((t.dn 11).all λ n=>decide (n<m)):=by
     rw[Bool.eq_iff_iff];simp[pr]
    rw[aCz];cases mf:(t.dn 11).all λ n=>decide (n<m)with
    |false=>
     simp only[Bool.not_false,↓OD,OA,reduceEqDiff,reduceCtorEq];exact aY (.inl rfl) (by simp only[OA];rw[append_assoc];exact noE _ (by rw[hM0,hg];simp only[List.all_cons,fH,mf,Bool.and_false,Bool.false_and]))
    |true=>
     simp only[Bool.not_true,↓OD,OA,reduceEqDiff,reduceCtorEq];refine a6 (done++ [t],rest,E++ [.live 29 4 [t.av],_]) ⟨by rw[←hd];simp,?_⟩ (by simp) (.of_eq (by rw[bh (by omega) (by omega),length_append];rfl) (by rw[←hQ];simp;rfl));rw[hg];simp[fH,ho,qp,mf]
 obtain⟨res,O',⟨rfl,h⟩,hc⟩:=key;exact⟨O',hc,h⟩
end Go.Proofs.Ab
