/-
  Unify of the program: what may be asked.
-/
import Derived.Test.YtfebhekplhjigaaWUni6
import Derived.Test.YtfebhekplhjigaaCCatTy
import Derived.Test.YtfebhekplhjigaaPUni3
open List(length_map length_append map_append append_assoc)
open Nat(reduceEqDiff reduceLeDiff reduceAdd reduceLT reduceMul)
set_option linter.unusedVariables false
set_option linter.unusedSimpArgs false
namespace Go.Ab
set_option maxRecDepth 100000
theorem ap0{P:Program}{f:FuncId}{args:List AV}{nl:Bool}{e s:Nat}{xs:List AV}(h:tf P f args nl e s xs)(hn:AV.ad args=true)(hx:AV.ad xs=true)(O:List ae):hD P f args O (.row O.length xs.length) (O++ [cK nl e s xs]):=by
 have:=hD.fresh h hn O;have e1:(cK nl e s xs).bU (λ n=>O.length+n)=cK nl e s xs:=fD (abw hx);simpa [AV.bU,e1]using this
theorem a7.used{P:Program}{f:FuncId}{args:List AV}{O:List ae}{res:AV}(h:a7 P f (args.map (iF O)) res)(hn:AV.ad (args.map (iF O))=true):hD P f args O res (vW O args res):=
 ⟨h.1,λ I L w vs hi hr=>by
   have:=jh («as»:=args) (a6:=[]) (vs:=vs) hi (by simpa using hr) (by simpa using hn) (by simpa using h);exact this⟩
end Go.Ab
namespace Go.Proofs.Ab
open Go.Ab
set_option maxRecDepth 100000
set_option maxHeartbeats 4000000
theorem awt{O:List ae}{k:Nat}{l:List Int}{g:FuncId}{a6:List AV}{p:Int->Bool}(hO:O[k]? =some (cK true 3 1 (l.map aA)))(hl:l.length<=1073741824)(hc:∀x∈l,hD Try.prog g (aA x::a6) O (.v (.bool (p x))) O):
  hD Try.prog F.bV [.row k l.length,.fn g a6] O (aA (mc p l 0)) O:=by
 refine ik A.kN rfl ?_;by_cases bB:l= []
 ·subst bB;have o9:O[k]? =some (.nil 3 1):=by rw[hO];simp[cK]
  have d0:decide ((0:Int)<0)=false:=by decide
  simp only[A.bV,o9,↓OD,OA,reduceEqDiff,reduceCtorEq,reduceAdd,reduceLT,reduceLeDiff,reduceIte];refine cR (ι:=Unit) (λ _=>True) (λ _=>pc [(0,.row k 0),(1,.fn g a6),(7,.v (.int .i64 0)),(8,.v (.int .i64 0))]) (λ _=>O) (λ _=>0) () trivial (.of_eq rfl rfl) ?_;rintro⟨⟩ _;simp only[d0,↓OD,OA,reduceEqDiff,reduceCtorEq,reduceAdd,reduceLT,reduceLeDiff,reduceIte];exact nD (.inl rfl) (by simp only[↓OD,OA,reduceEqDiff,reduceCtorEq,reduceAdd,reduceLT,reduceLeDiff,reduceIte];rfl)
 have aCM:l.map aA≠[]:=λ h=>bB (List.map_eq_nil_iff.1 h)
 have o9:O[k]? =some (.live 3 1 (l.map aA)):=by rw[hO];simp[cK,bB]
 simp only[A.bV,o9,length_map,true_and,↓OD,OA,reduceEqDiff,reduceCtorEq,reduceAdd,reduceLT,reduceLeDiff,reduceIte]
 refine cR (ι:=List Int×List Int) (λ q=>q.1++q.2=l/\mc p l 0=mc p q.2 q.1.length)
  (λ q=>pc [(0,.row k l.length),(1,.fn g a6),(7,.v (.int .i64 (l.length:Int))),(8,.v (.int .i64 (q.1.length:Int)))]) (λ _=>O) (λ q=>q.2.length) ([],l) ⟨rfl,rfl⟩ (.of_eq rfl rfl) ?_
 rintro⟨done,rest⟩ ⟨hd,hg⟩;simp only at hd hg;have hll:done.length+rest.length=l.length:=by rw[←hd,length_append]
 cases rest with
 |nil=>
  have d:decide ((done.length:Int)<(l.length:Int))=false:=decide_eq_false (by simp at hll;omega);simp only[d,↓OD,OA,reduceEqDiff,reduceCtorEq,reduceAdd,reduceLT,reduceLeDiff,reduceIte];exact nD (.inl rfl) (by simp only[↓OD,OA,reduceEqDiff,reduceCtorEq,reduceAdd,reduceLT,reduceLeDiff,reduceIte];rw[hg];rfl)
 |cons x rest=>
  have d:decide ((done.length:Int)<(l.length:Int))=true:=decide_eq_true (by simp at hll;omega);have aF:done.length<l.length:=by simp at hll;omega
  have iA:(l.map aA).getD done.length .top=aA x:=by rw[←hd,map_append,List.map_cons];exact wh (by simp)
  have hxl:x∈l:=by rw[←hd];simp
  simp only[d,o9,length_map,Int.toNat_natCast,iA,AV.cells,↓OD,OA,reduceEqDiff,reduceCtorEq,reduceAdd,reduceLT,reduceLeDiff,reduceIte];refine⟨by omega,by omega,aF,bj _ _ (hc x hxl) ?_⟩;cases hp:p x with
  |true=>
   simp only[↓OD,OA,reduceEqDiff,reduceCtorEq,reduceAdd,reduceLT,reduceLeDiff,reduceIte];exact nD (.inl rfl) (by simp only[↓OD,OA,reduceEqDiff,reduceCtorEq,reduceAdd,reduceLT,reduceLeDiff,reduceIte];rw[hg];unfold mc;rw[if_pos hp])
  |false=>
   simp only[↓OD,OA,reduceEqDiff,reduceCtorEq,reduceAdd,reduceLT,reduceLeDiff,reduceIte];refine b6 (done++ [x],rest) ⟨by rw[←hd];simp,?_⟩ (by simp) (.of_eq (by rw[bm (by omega) (by omega),length_append];rfl) rfl);rw[hg]
   conv=>lhs;unfold mc
   rw[if_neg (by simp[hp]),length_append];rfl
theorem aya{O:List ae}{k:Nat}{l:List Int}{g:FuncId}{a6:List AV}{p:Int->Bool}(hO:O[k]? =some (cK true 3 1 (l.map aA)))(hl:l.length<=1073741824)(hc:∀x∈l,hD Try.prog g (aA x::a6) O (.v (.bool (p x))) O):
  hD Try.prog F.bY [.row k l.length,.fn g a6] O (.v (.bool (l.any p))) O:=by
 refine ik A.jN rfl ?_;simp only[A.bY,↓OD,OA,reduceEqDiff,reduceCtorEq,reduceAdd,reduceLT,reduceLeDiff,reduceIte];refine bj _ _ (awt hO hl hc) ?_;simp only[↓OD,OA,reduceEqDiff,reduceCtorEq,reduceAdd,reduceLT,reduceLeDiff,reduceIte];exact nD (.inl rfl) (by simp only[↓OD,OA,reduceEqDiff,reduceCtorEq,reduceAdd,reduceLT,reduceLeDiff,reduceIte];rw[←yh])
theorem tT{O:List ae}{b:Nat}{m n:Int}(h:O[b]? =some (.live 3 1 [aA m])):hD Try.prog F.fG [aA n,.ptr b 1 0 0] O (.v (.bool (decide (m<=n)))) O:=by
 refine ik A.sN rfl ?_;simp only[A.fG,h,↓OD,OA,reduceEqDiff,reduceCtorEq,reduceAdd,reduceLT,reduceLeDiff,reduceIte];exact nD (.inl rfl) (by simp only[↓OD,OA,reduceEqDiff,reduceCtorEq,reduceAdd,reduceLT,reduceLeDiff,reduceIte])
theorem xY(m:Int)(a b:List aa)(hm:l9 m)(ha:(a.map aa.wt).sum+a.length<=1048576)(hb:(b.map aa.wt).sum+b.length<=1048576)(O:List ae):
  ∃O',hD Try.prog F.gf [aA m,.sl (a.map aa.av),.sl (b.map aa.av)] O (.v (.bool (dA m a b))) O'/\∃E,O'=O++E:=by
 have key:∃res O',(res= .v (.bool (dA m a b))/\∃E,O'=O++E)/\hD Try.prog F.gf [aA m,.sl (a.map aa.av),.sl (b.map aa.av)] O res O':=by
  refine pQ A.vw rfl ?_;simp only[A.gf,aA,↓OD,OA,reduceEqDiff,reduceCtorEq,reduceAdd,reduceLT,reduceLeDiff,reduceIte];simp only[tj,↓OD,OA,reduceEqDiff,reduceCtorEq,reduceAdd,reduceLT,reduceLeDiff,reduceIte];refine bj _ _ ((kh m 0 300).any rfl rfl _) ?_;have no:∀{ok:Bool},dA m a b=ok->∀E,(AV.v (.bool ok)= .v (.bool (dA m a b)))/\∃E',O++E=O++E':=λ h E=>⟨by rw[h],E,rfl⟩
  cases h1:ld m 0 300 with
  |false=>
   simp only[Bool.not_false,↓OD,OA,reduceEqDiff,reduceCtorEq,reduceAdd,reduceLT,reduceLeDiff,reduceIte];exact ck (.inl rfl) (by simp only[↓OD,OA,reduceEqDiff,reduceCtorEq,reduceAdd,reduceLT,reduceLeDiff,reduceIte];exact no (by simp[dA,h1]) _)
  |true=>
  simp only[Bool.not_true,length_map,↓OD,OA,reduceEqDiff,reduceCtorEq,reduceAdd,reduceLT,reduceLeDiff,reduceIte];by_cases h2:a.length=b.length;rotate_left
  ·have d2:decide ((a.length:Int)=(b.length:Int))=false:=decide_eq_false (by omega);simp only[d2,Bool.not_false,↓OD,OA,reduceEqDiff,reduceCtorEq,reduceAdd,reduceLT,reduceLeDiff,reduceIte];exact ck (.inl rfl) (by simp only[↓OD,OA,reduceEqDiff,reduceCtorEq,reduceAdd,reduceLT,reduceLeDiff,reduceIte];exact no (by simp[dA,h2]) _)
  have d2:decide ((a.length:Int)=(b.length:Int))=true:=decide_eq_true (by omega);simp only[d2,Bool.not_true,length_map,↓OD,OA,reduceEqDiff,reduceCtorEq,reduceAdd,reduceLT,reduceLeDiff,reduceIte];by_cases h3:a.length<=200;rotate_left
  ·have d3:decide ((200:Int)<(a.length:Int))=true:=decide_eq_true (by omega);simp only[d3,↓OD,OA,reduceEqDiff,reduceCtorEq,reduceAdd,reduceLT,reduceLeDiff,reduceIte];exact ck (.inl rfl) (by simp only[↓OD,OA,reduceEqDiff,reduceCtorEq,reduceAdd,reduceLT,reduceLeDiff,reduceIte];exact no (by simp[dA,h3]) _)
  have d3:decide ((200:Int)<(a.length:Int))=false:=decide_eq_false (by omega);simp only[d3,↓OD,OA,reduceEqDiff,reduceCtorEq,reduceAdd,reduceLT,reduceLeDiff,reduceIte];have hM:(O++ [ae.live 3 1 [AV.v (.int .i64 m)]]++ [ae.live 27 1 [AV.sl (a.map aa.av),AV.sl (b.map aa.av)]])=O++ [ae.live 3 1 [AV.v (.int .i64 m)],ae.live 27 1 [AV.sl (a.map aa.av),AV.sl (b.map aa.av)]]:=by simp
  have hfz:([AV.row (O.length+1) 2].map (iF (O++ [ae.live 3 1 [AV.v (.int .i64 m)],ae.live 27 1 [AV.sl (a.map aa.av),AV.sl (b.map aa.av)]])))= [.sl [.sl (a.map aa.av),.sl (b.map aa.av)]]:=by
   simp[iF,ag1]
  have axh:=(a7.used (O:=O++ [ae.live 3 1 [AV.v (.int .i64 m)],ae.live 27 1 [AV.sl (a.map aa.av),AV.sl (b.map aa.av)]]) (args:=[.row (O.length+1) 2]) (by rw[hfz];exact at9 a b (by omega)) (by rw[hfz];simp only[AV.ad,AV.ag,Bool.and_true,Bool.and_eq_true];exact⟨bH aa.ag,bH aa.ag⟩))
  have atq:vW (O++ [ae.live 3 1 [AV.v (.int .i64 m)],ae.live 27 1 [AV.sl (a.map aa.av),AV.sl (b.map aa.av)]]) [.row (O.length+1) 2] (.sl ((a++b).map aa.av))=O++ [ae.live 3 1 [AV.v (.int .i64 m)],.dead]:=by
   simp[vW,eA,AV.flat]
  rw[atq]at axh;rw[hM];refine bj _ _ axh ?_;simp only[length_map,↓OD,OA,reduceEqDiff,reduceCtorEq,reduceAdd,reduceLT,reduceLeDiff,reduceIte];have hl:(a++b).length=a.length+b.length:=length_append;have hwt:((a++b).map aa.wt).sum<=2097152:=by rw[map_append,List.sum_append];omega
  have hwx:∀t∈a++b,t.wt<=1048576:=λ t ht=>by
   rcases List.mem_append.1 ht with h|h
   ·have:=ca aa.wt h;omega
   ·have:=ca aa.wt h;omega
  have hM0:dA m a b=(a++b).all (jy m):=by simp[dA,h1,h2];omega
  generalize aCS:a++b=l at hl hwt hwx hM0
  refine cR (ι:=List aa×List aa×List ae) (λ q=>q.1++q.2.1=l/\l.all (jy m)=q.2.1.all (jy m))
   (λ q=>pc [(3,.ptr O.length 1 0 0),(27,.sl (l.map aa.av)),(28,.v (.int .i64 ((a.length+b.length:Nat):Int))),(29,.v (.int .i64 (q.1.length:Int)))])
   (λ q=>O++ .live 3 1 [.v (.int .i64 m)]::q.2.2) (λ q=>q.2.1.length) ([],l,[.dead]) ⟨rfl,rfl⟩ (.of_eq (by first|rfl|simp) rfl) ?_
  rintro⟨done,rest,E⟩ ⟨hd,hg⟩;simp only at hd hg;have hll:done.length+rest.length=l.length:=by rw[←hd,length_append]
  have ou:∀E':List ae,((O++ .live 3 1 [.v (.int .i64 m)]::E)++E')[O.length]? =some (.live 3 1 [.v (.int .i64 m)]):=λ E'=>by rw[append_assoc];exact tj
  have noE:∀{ok:Bool} (E':List ae),dA m a b=ok->(AV.v (.bool ok)= .v (.bool (dA m a b)))/\∃E'',(O++ .live 3 1 [.v (.int .i64 m)]::E)++E'=O++E'':=λ E' h=>⟨by rw[h],_,append_assoc _ _ _⟩
  cases rest with
  |nil=>
   have d:decide ((done.length:Int)<((a.length+b.length:Nat):Int))=false:=decide_eq_false (by simp at hll;omega);simp only[d,↓OD,OA,reduceEqDiff,reduceCtorEq,reduceAdd,reduceLT,reduceLeDiff,reduceIte];exact ck (.inl rfl) (by simp only[↓OD,OA,reduceEqDiff,reduceCtorEq,reduceAdd,reduceLT,reduceLeDiff,reduceIte];exact no (by rw[hM0,hg];rfl) _)
  |cons t rest=>
   have d:decide ((done.length:Int)<((a.length+b.length:Nat):Int))=true:=decide_eq_true (by simp at hll;omega);have aF:done.length<l.length:=by simp at hll;omega
   have iA:(l.map aa.av).getD done.length .top=t.av:=by rw[←hd,map_append,List.map_cons];exact wh (by simp)
   have htl:t∈l:=by rw[←hd];simp
   have htw:=hwx t htl;generalize hQ:O++ .live 3 1 [.v (.int .i64 m)]::E=Q at ou noE;simp only[d,length_map,Int.toNat_natCast,iA,aa.width,aa.isAgg,aa.storable,↓OD,OA,reduceEqDiff,reduceCtorEq,reduceAdd,reduceLT,reduceLeDiff,reduceIte];refine⟨by omega,by omega,?_⟩;simp only[tj,as0,aa.width,aa.isAgg,aa.storable,↓OD,OA,reduceEqDiff,reduceCtorEq,reduceAdd,reduceLT,reduceLeDiff,reduceIte];refine bj _ _ ((mP t htw).any (by simp[AV.ad,aa.ag]) rfl _) ?_;cases ho:t.iU with
   |false=>
    simp only[Bool.not_false,↓OD,OA,reduceEqDiff,reduceCtorEq,reduceAdd,reduceLT,reduceLeDiff,reduceIte];exact ck (.inl rfl) (by simp only[↓OD,OA,reduceEqDiff,reduceCtorEq,reduceAdd,reduceLT,reduceLeDiff,reduceIte];exact noE _ (by rw[hM0,hg];simp[jy,ho]))
   |true=>
    simp only[Bool.not_true,tj,as0,aa.width,aa.isAgg,aa.storable,↓OD,OA,reduceEqDiff,reduceCtorEq,reduceAdd,reduceLT,reduceLeDiff,reduceIte];refine bj _ _ ((qP t htw).any (by simp[AV.ad,aa.ag]) rfl _) ?_;by_cases sd:t.eW<=200;rotate_left
    ·have d1:decide ((200:Int)<(t.eW:Int))=true:=decide_eq_true (by omega);simp only[d1,aA,↓OD,OA,reduceEqDiff,reduceCtorEq,reduceAdd,reduceLT,reduceLeDiff,reduceIte];exact ck (.inl rfl) (by simp only[↓OD,OA,reduceEqDiff,reduceCtorEq,reduceAdd,reduceLT,reduceLeDiff,reduceIte];exact noE _ (by rw[hM0,hg];simp[jy,sd]))
    have d1:decide ((200:Int)<(t.eW:Int))=false:=decide_eq_false (by omega);simp only[d1,tj,aA,aa.width,aa.isAgg,aa.storable,↓OD,OA,reduceEqDiff,reduceCtorEq,reduceAdd,reduceLT,reduceLeDiff,reduceIte];have sU:ld 11 9 11=true:=by decide
    have amx:=adM t 11 htw;rw[ho,sU]at amx;simp only[Bool.and_self,if_true]at amx;have hfl:=je (t.bC 11) [];have aw9:=t.lJ 11;have hfc:=ap0 amx (by simp[AV.ad,AV.ag,aa.ag,aA]) (afQ _) (Q++ [.live 29 4 [t.av]]);rw[length_map]at hfc;refine bj _ _ hfc ?_;simp only[↓OD,OA,reduceEqDiff,reduceCtorEq,reduceAdd,reduceLT,reduceLeDiff,reduceIte];refine bj _ _ (aya (p:=λ n=>decide (m<=n)) (by rw[append_assoc];exact ag1) (by simp at hfl;omega) λ n hn=>tT (by rw[append_assoc];exact ou _)) ?_
    have aAr:(aQ [] (t.bC 11)).any (λ n=>decide (m<=n))= !((t.bC 11).all λ n=>decide (n<m)):=by
     rw[Bool.eq_iff_iff];simp[mq]
    rw[aAr];cases jP:(t.bC 11).all λ n=>decide (n<m)with
    |false=>
     simp only[Bool.not_false,↓OD,OA,reduceEqDiff,reduceCtorEq,reduceAdd,reduceLT,reduceLeDiff,reduceIte];exact ck (.inl rfl) (by simp only[↓OD,OA,reduceEqDiff,reduceCtorEq,reduceAdd,reduceLT,reduceLeDiff,reduceIte];rw[append_assoc];exact noE _ (by rw[hM0,hg];simp only[List.all_cons,jy,jP,Bool.and_false,Bool.false_and]))
    |true=>
     simp only[Bool.not_true,↓OD,OA,reduceEqDiff,reduceCtorEq,reduceAdd,reduceLT,reduceLeDiff,reduceIte];refine b6 (done++ [t],rest,E++ [.live 29 4 [t.av],_]) ⟨by rw[←hd];simp,?_⟩ (by simp) (.of_eq (by rw[bm (by omega) (by omega),length_append];rfl) (by rw[←hQ];simp;rfl));rw[hg];simp[jy,ho,sd,jP]
 obtain⟨res,O',⟨rfl,h⟩,hc⟩:=key;exact⟨O',hc,h⟩
end Go.Proofs.Ab
