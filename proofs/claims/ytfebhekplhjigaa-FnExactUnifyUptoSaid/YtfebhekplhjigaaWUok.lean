/-
  Unify of the program: what may be asked.
-/
import Derived.Test.YtfebhekplhjigaaWUni6
import Derived.Test.YtfebhekplhjigaaCCatTy
import Derived.Test.YtfebhekplhjigaaPUni3
open List(length_map length_append map_append append_assoc)
open Nat(reduceEqDiff reduceLeDiff reduceAdd reduceLT reduceMul)
set_option linter.unusedVariables false
set_option linter.unusedSimpArgs false
namespace Go.Ab
set_option maxRecDepth 100000
theorem asb{P:Program}{f:FuncId}{args:List AV}{nl:Bool}{e s:Nat}{xs:List AV}(h:xh P f args nl e s xs)(hn:AV.ae args=true)(hx:AV.ae xs=true)(O:List aa):cF P f args O (.row O.length xs.length) (O++ [b6 nl e s xs]):=by
 have:=cF.fresh h hn O;have e1:(b6 nl e s xs).bj (λ n=>O.length+n)=b6 nl e s xs:=fy (aeM hx);simpa [AV.bj,e1]using this
theorem a7.used{P:Program}{f:FuncId}{args:List AV}{O:List aa}{res:AV}(h:a7 P f (args.map (jL O)) res)(hn:AV.ae (args.map (jL O))=true):cF P f args O res (zD O args res):=
 ⟨h.1,λ I L w vs hi hr=>by
   have:=jV («as»:=args) (aV:=[]) (vs:=vs) hi (by simpa using hr) (by simpa using hn) (by simpa using h);exact this⟩
end Go.Ab
namespace Go.Proofs.Ab
open Go.Ab
set_option maxRecDepth 100000
set_option maxHeartbeats 4000000
theorem ax4{O:List aa}{k:Nat}{l:List Int}{g:FuncId}{aV:List AV}{p:Int->Bool}(hO:O[k]? =some (b6 true 3 1 (l.map aO)))(hl:l.length<=1073741824)(hc:∀x∈l,cF Try.prog g (aO x::aV) O (.v (.bool (p x))) O):
  cF Try.prog F.bD [.row k l.length,.fn g aV] O (aO (oe p l 0)) O:=by
 refine cY A.mB rfl ?_;by_cases bk:l= []
 ·subst bk;have sj:O[k]? =some (.nil 3 1):=by rw[hO];simp[b6]
  have d0:decide ((0:Int)<0)=false:=by decide
  simp only[A.bD,sj,↓OD,OA,reduceEqDiff,reduceCtorEq,reduceAdd,reduceLT,reduceLeDiff,reduceIte];refine aQ (ι:=Unit) (λ _=>True) (λ _=>iA [(0,.row k 0),(1,.fn g aV),(7,.v (.int .i64 0)),(8,.v (.int .i64 0))]) (λ _=>O) (λ _=>0) () trivial (.of_eq rfl rfl) ?_;rintro⟨⟩ _;simp only[d0,↓OD,OA,reduceEqDiff,reduceCtorEq,reduceAdd,reduceLT,reduceLeDiff,reduceIte];exact mf (.inl rfl) (by simp only[↓OD,OA,reduceEqDiff,reduceCtorEq,reduceAdd,reduceLT,reduceLeDiff,reduceIte];rfl)
 have aEx:l.map aO≠[]:=λ h=>bk (List.map_eq_nil_iff.1 h)
 have sj:O[k]? =some (.live 3 1 (l.map aO)):=by rw[hO];simp[b6,bk]
 simp only[A.bD,sj,length_map,true_and,↓OD,OA,reduceEqDiff,reduceCtorEq,reduceAdd,reduceLT,reduceLeDiff,reduceIte]
 refine aQ (ι:=List Int×List Int) (λ q=>q.1++q.2=l/\oe p l 0=oe p q.2 q.1.length)
  (λ q=>iA [(0,.row k l.length),(1,.fn g aV),(7,.v (.int .i64 (l.length:Int))),(8,.v (.int .i64 (q.1.length:Int)))]) (λ _=>O) (λ q=>q.2.length) ([],l) ⟨rfl,rfl⟩ (.of_eq rfl rfl) ?_
 rintro⟨done,rest⟩ ⟨hd,hg⟩;simp only at hd hg;have zu:done.length+rest.length=l.length:=by rw[←hd,length_append]
 cases rest with
 |nil=>
  have d:decide ((done.length:Int)<(l.length:Int))=false:=decide_eq_false (by simp at zu;omega);simp only[d,↓OD,OA,reduceEqDiff,reduceCtorEq,reduceAdd,reduceLT,reduceLeDiff,reduceIte];exact mf (.inl rfl) (by simp only[↓OD,OA,reduceEqDiff,reduceCtorEq,reduceAdd,reduceLT,reduceLeDiff,reduceIte];rw[hg];rfl)
 |cons x rest=>
  have d:decide ((done.length:Int)<(l.length:Int))=true:=decide_eq_true (by simp at zu;omega);have aw:done.length<l.length:=by simp at zu;omega
  have je:(l.map aO).getD done.length .top=aO x:=by rw[←hd,map_append,List.map_cons];exact mY (by simp)
  have hxl:x∈l:=by rw[←hd];simp
  simp only[d,sj,length_map,Int.toNat_natCast,je,AV.cells,↓OD,OA,reduceEqDiff,reduceCtorEq,reduceAdd,reduceLT,reduceLeDiff,reduceIte];refine⟨by omega,by omega,aw,aj _ _ (hc x hxl) ?_⟩;cases hp:p x with
  |true=>
   simp only[↓OD,OA,reduceEqDiff,reduceCtorEq,reduceAdd,reduceLT,reduceLeDiff,reduceIte];exact mf (.inl rfl) (by simp only[↓OD,OA,reduceEqDiff,reduceCtorEq,reduceAdd,reduceLT,reduceLeDiff,reduceIte];rw[hg];unfold oe;rw[if_pos hp])
  |false=>
   simp only[↓OD,OA,reduceEqDiff,reduceCtorEq,reduceAdd,reduceLT,reduceLeDiff,reduceIte];refine aL (done++ [x],rest) ⟨by rw[←hd];simp,?_⟩ (by simp) (.of_eq (by rw[da (by omega) (by omega),length_append];rfl) rfl);rw[hg]
   conv=>lhs;unfold oe
   rw[if_neg (by simp[hp]),length_append];rfl
theorem azM{O:List aa}{k:Nat}{l:List Int}{g:FuncId}{aV:List AV}{p:Int->Bool}(hO:O[k]? =some (b6 true 3 1 (l.map aO)))(hl:l.length<=1073741824)(hc:∀x∈l,cF Try.prog g (aO x::aV) O (.v (.bool (p x))) O):
  cF Try.prog F.bE [.row k l.length,.fn g aV] O (.v (.bool (l.any p))) O:=by
 refine cY A.kQ rfl ?_;simp only[A.bE,↓OD,OA,reduceEqDiff,reduceCtorEq,reduceAdd,reduceLT,reduceLeDiff,reduceIte];refine aj _ _ (ax4 hO hl hc) ?_;simp only[↓OD,OA,reduceEqDiff,reduceCtorEq,reduceAdd,reduceLT,reduceLeDiff,reduceIte];exact mf (.inl rfl) (by simp only[↓OD,OA,reduceEqDiff,reduceCtorEq,reduceAdd,reduceLT,reduceLeDiff,reduceIte];rw[←abD])
theorem xT{O:List aa}{b:Nat}{m n:Int}(h:O[b]? =some (.live 3 1 [aO m])):cF Try.prog F.fB [aO n,.ptr b 1 0 0] O (.v (.bool (decide (m<=n)))) O:=by
 refine cY A.wJ rfl ?_;simp only[A.fB,h,↓OD,OA,reduceEqDiff,reduceCtorEq,reduceAdd,reduceLT,reduceLeDiff,reduceIte];exact mf (.inl rfl) (by simp only[↓OD,OA,reduceEqDiff,reduceCtorEq,reduceAdd,reduceLT,reduceLeDiff,reduceIte])
theorem abp(m:Int)(a b:List ad)(hm:inR m)(ha:(a.map ad.wt).sum+a.length<=1048576)(hb:(b.map ad.wt).sum+b.length<=1048576)(O:List aa):
  ∃O',cF Try.prog F.gg [aO m,.sl (a.map ad.av),.sl (b.map ad.av)] O (.v (.bool (b9 m a b))) O'/\∃E,O'=O++E:=by
 have key:∃res O',(res= .v (.bool (b9 m a b))/\∃E,O'=O++E)/\cF Try.prog F.gg [aO m,.sl (a.map ad.av),.sl (b.map ad.av)] O res O':=by
  refine jM A.zc rfl ?_;simp only[A.gg,aO,↓OD,OA,reduceEqDiff,reduceCtorEq,reduceAdd,reduceLT,reduceLeDiff,reduceIte];simp only[kh,↓OD,OA,reduceEqDiff,reduceCtorEq,reduceAdd,reduceLT,reduceLeDiff,reduceIte];refine aj _ _ ((pD m 0 300).any rfl rfl _) ?_;have no:∀{ok:Bool},b9 m a b=ok->∀E,(AV.v (.bool ok)= .v (.bool (b9 m a b)))/\∃E',O++E=O++E':=λ h E=>⟨by rw[h],E,rfl⟩
  cases h1:oa m 0 300 with
  |false=>
   simp only[Bool.not_false,↓OD,OA,reduceEqDiff,reduceCtorEq,reduceAdd,reduceLT,reduceLeDiff,reduceIte];exact aU (.inl rfl) (by simp only[↓OD,OA,reduceEqDiff,reduceCtorEq,reduceAdd,reduceLT,reduceLeDiff,reduceIte];exact no (by simp[b9,h1]) _)
  |true=>
  simp only[Bool.not_true,length_map,↓OD,OA,reduceEqDiff,reduceCtorEq,reduceAdd,reduceLT,reduceLeDiff,reduceIte];by_cases h2:a.length=b.length;rotate_left
  ·have d2:decide ((a.length:Int)=(b.length:Int))=false:=decide_eq_false (by omega);simp only[d2,Bool.not_false,↓OD,OA,reduceEqDiff,reduceCtorEq,reduceAdd,reduceLT,reduceLeDiff,reduceIte];exact aU (.inl rfl) (by simp only[↓OD,OA,reduceEqDiff,reduceCtorEq,reduceAdd,reduceLT,reduceLeDiff,reduceIte];exact no (by simp[b9,h2]) _)
  have d2:decide ((a.length:Int)=(b.length:Int))=true:=decide_eq_true (by omega);simp only[d2,Bool.not_true,length_map,↓OD,OA,reduceEqDiff,reduceCtorEq,reduceAdd,reduceLT,reduceLeDiff,reduceIte];by_cases h3:a.length<=200;rotate_left
  ·have d3:decide ((200:Int)<(a.length:Int))=true:=decide_eq_true (by omega);simp only[d3,↓OD,OA,reduceEqDiff,reduceCtorEq,reduceAdd,reduceLT,reduceLeDiff,reduceIte];exact aU (.inl rfl) (by simp only[↓OD,OA,reduceEqDiff,reduceCtorEq,reduceAdd,reduceLT,reduceLeDiff,reduceIte];exact no (by simp[b9,h3]) _)
  have d3:decide ((200:Int)<(a.length:Int))=false:=decide_eq_false (by omega);simp only[d3,↓OD,OA,reduceEqDiff,reduceCtorEq,reduceAdd,reduceLT,reduceLeDiff,reduceIte];have hM:(O++ [aa.live 3 1 [AV.v (.int .i64 m)]]++ [aa.live 27 1 [AV.sl (a.map ad.av),AV.sl (b.map ad.av)]])=O++ [aa.live 3 1 [AV.v (.int .i64 m)],aa.live 27 1 [AV.sl (a.map ad.av),AV.sl (b.map ad.av)]]:=by simp
  have hfz:([AV.row (O.length+1) 2].map (jL (O++ [aa.live 3 1 [AV.v (.int .i64 m)],aa.live 27 1 [AV.sl (a.map ad.av),AV.sl (b.map ad.av)]])))= [.sl [.sl (a.map ad.av),.sl (b.map ad.av)]]:=by
   simp[jL,uu]
  have ay0:=(a7.used (O:=O++ [aa.live 3 1 [AV.v (.int .i64 m)],aa.live 27 1 [AV.sl (a.map ad.av),AV.sl (b.map ad.av)]]) (args:=[.row (O.length+1) 2]) (by rw[hfz];exact av3 a b (by omega)) (by rw[hfz];simp only[AV.ae,AV.ag,Bool.and_true,Bool.and_eq_true];exact⟨bt ad.ag,bt ad.ag⟩))
  have avm:zD (O++ [aa.live 3 1 [AV.v (.int .i64 m)],aa.live 27 1 [AV.sl (a.map ad.av),AV.sl (b.map ad.av)]]) [.row (O.length+1) 2] (.sl ((a++b).map ad.av))=O++ [aa.live 3 1 [AV.v (.int .i64 m)],.dead]:=by
   simp[zD,ec,AV.flat]
  rw[avm]at ay0;rw[hM];refine aj _ _ ay0 ?_;simp only[length_map,↓OD,OA,reduceEqDiff,reduceCtorEq,reduceAdd,reduceLT,reduceLeDiff,reduceIte];have hl:(a++b).length=a.length+b.length:=length_append;have hwt:((a++b).map ad.wt).sum<=2097152:=by rw[map_append,List.sum_append];omega
  have hwx:∀t∈a++b,t.wt<=1048576:=λ t ht=>by
   rcases List.mem_append.1 ht with h|h
   ·have:=de ad.wt h;omega
   ·have:=de ad.wt h;omega
  have hM0:b9 m a b=(a++b).all (fQ m):=by simp[b9,h1,h2];omega
  generalize aED:a++b=l at hl hwt hwx hM0
  refine aQ (ι:=List ad×List ad×List aa) (λ q=>q.1++q.2.1=l/\l.all (fQ m)=q.2.1.all (fQ m))
   (λ q=>iA [(3,.ptr O.length 1 0 0),(27,.sl (l.map ad.av)),(28,.v (.int .i64 ((a.length+b.length:Nat):Int))),(29,.v (.int .i64 (q.1.length:Int)))])
   (λ q=>O++ .live 3 1 [.v (.int .i64 m)]::q.2.2) (λ q=>q.2.1.length) ([],l,[.dead]) ⟨rfl,rfl⟩ (.of_eq (by first|rfl|simp) rfl) ?_
  rintro⟨done,rest,E⟩ ⟨hd,hg⟩;simp only at hd hg;have zu:done.length+rest.length=l.length:=by rw[←hd,length_append]
  have lI:∀E':List aa,((O++ .live 3 1 [.v (.int .i64 m)]::E)++E')[O.length]? =some (.live 3 1 [.v (.int .i64 m)]):=λ E'=>by rw[append_assoc];exact kh
  have noE:∀{ok:Bool} (E':List aa),b9 m a b=ok->(AV.v (.bool ok)= .v (.bool (b9 m a b)))/\∃E'',(O++ .live 3 1 [.v (.int .i64 m)]::E)++E'=O++E'':=λ E' h=>⟨by rw[h],_,append_assoc _ _ _⟩
  cases rest with
  |nil=>
   have d:decide ((done.length:Int)<((a.length+b.length:Nat):Int))=false:=decide_eq_false (by simp at zu;omega);simp only[d,↓OD,OA,reduceEqDiff,reduceCtorEq,reduceAdd,reduceLT,reduceLeDiff,reduceIte];exact aU (.inl rfl) (by simp only[↓OD,OA,reduceEqDiff,reduceCtorEq,reduceAdd,reduceLT,reduceLeDiff,reduceIte];exact no (by rw[hM0,hg];rfl) _)
  |cons t rest=>
   have d:decide ((done.length:Int)<((a.length+b.length:Nat):Int))=true:=decide_eq_true (by simp at zu;omega);have aw:done.length<l.length:=by simp at zu;omega
   have je:(l.map ad.av).getD done.length .top=t.av:=by rw[←hd,map_append,List.map_cons];exact mY (by simp)
   have htl:t∈l:=by rw[←hd];simp
   have htw:=hwx t htl;generalize hQ:O++ .live 3 1 [.v (.int .i64 m)]::E=Q at lI noE;simp only[d,length_map,Int.toNat_natCast,je,ad.width,ad.isAgg,ad.storable,↓OD,OA,reduceEqDiff,reduceCtorEq,reduceAdd,reduceLT,reduceLeDiff,reduceIte];refine⟨by omega,by omega,?_⟩;simp only[kh,as0,ad.width,ad.isAgg,ad.storable,↓OD,OA,reduceEqDiff,reduceCtorEq,reduceAdd,reduceLT,reduceLeDiff,reduceIte];refine aj _ _ ((sY t htw).any (by simp[AV.ae,ad.ag]) rfl _) ?_;cases ho:t.mO with
   |false=>
    simp only[Bool.not_false,↓OD,OA,reduceEqDiff,reduceCtorEq,reduceAdd,reduceLT,reduceLeDiff,reduceIte];exact aU (.inl rfl) (by simp only[↓OD,OA,reduceEqDiff,reduceCtorEq,reduceAdd,reduceLT,reduceLeDiff,reduceIte];exact noE _ (by rw[hM0,hg];simp[fQ,ho]))
   |true=>
    simp only[Bool.not_true,kh,as0,ad.width,ad.isAgg,ad.storable,↓OD,OA,reduceEqDiff,reduceCtorEq,reduceAdd,reduceLT,reduceLeDiff,reduceIte];refine aj _ _ ((uP t htw).any (by simp[AV.ae,ad.ag]) rfl _) ?_;by_cases ta:t.dP<=200;rotate_left
    ·have d1:decide ((200:Int)<(t.dP:Int))=true:=decide_eq_true (by omega);simp only[d1,aO,↓OD,OA,reduceEqDiff,reduceCtorEq,reduceAdd,reduceLT,reduceLeDiff,reduceIte];exact aU (.inl rfl) (by simp only[↓OD,OA,reduceEqDiff,reduceCtorEq,reduceAdd,reduceLT,reduceLeDiff,reduceIte];exact noE _ (by rw[hM0,hg];simp[fQ,ta]))
    have d1:decide ((200:Int)<(t.dP:Int))=false:=decide_eq_false (by omega);simp only[d1,kh,aO,ad.width,ad.isAgg,ad.storable,↓OD,OA,reduceEqDiff,reduceCtorEq,reduceAdd,reduceLT,reduceLeDiff,reduceIte];have ao0:oa 11 9 11=true:=by decide
    have ao6:=ahb t 11 htw;rw[ho,ao0]at ao6;simp only[Bool.and_self,if_true]at ao6;have hfl:=jQ (t.cV 11) [];have aER:=t.nz 11;have hfc:=asb ao6 (by simp[AV.ae,AV.ag,ad.ag,aO]) (aiN _) (Q++ [.live 29 4 [t.av]]);rw[length_map]at hfc;refine aj _ _ hfc ?_;simp only[↓OD,OA,reduceEqDiff,reduceCtorEq,reduceAdd,reduceLT,reduceLeDiff,reduceIte];refine aj _ _ (azM (p:=λ n=>decide (m<=n)) (by rw[append_assoc];exact uu) (by simp at hfl;omega) λ n hn=>xT (by rw[append_assoc];exact lI _)) ?_
    have aCi:(a6 [] (t.cV 11)).any (λ n=>decide (m<=n))= !((t.cV 11).all λ n=>decide (n<m)):=by
     rw[Bool.eq_iff_iff];simp[rP]
    rw[aCi];cases m9:(t.cV 11).all λ n=>decide (n<m)with
    |false=>
     simp only[Bool.not_false,↓OD,OA,reduceEqDiff,reduceCtorEq,reduceAdd,reduceLT,reduceLeDiff,reduceIte];exact aU (.inl rfl) (by simp only[↓OD,OA,reduceEqDiff,reduceCtorEq,reduceAdd,reduceLT,reduceLeDiff,reduceIte];rw[append_assoc];exact noE _ (by rw[hM0,hg];simp only[List.all_cons,fQ,m9,Bool.and_false,Bool.false_and]))
    |true=>
     simp only[Bool.not_true,↓OD,OA,reduceEqDiff,reduceCtorEq,reduceAdd,reduceLT,reduceLeDiff,reduceIte];refine aL (done++ [t],rest,E++ [.live 29 4 [t.av],_]) ⟨by rw[←hd];simp,?_⟩ (by simp) (.of_eq (by rw[da (by omega) (by omega),length_append];rfl) (by rw[←hQ];simp;rfl));rw[hg];simp[fQ,ho,ta,m9]
 obtain⟨res,O',⟨rfl,h⟩,hc⟩:=key;exact⟨O',hc,h⟩
end Go.Proofs.Ab
