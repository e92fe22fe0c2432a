/-
  Sizes of types.
-/
import Derived.Test.YtfebhekplhjigaaCSmall
import Derived.Test.YtfebhekplhjigaaGM
open List(getElem_mem map_append sum_append)
open Nat(reduceEqDiff reduceLeDiff reduceAdd reduceLT reduceMul)
set_option linter.unusedVariables false
set_option linter.unusedSimpArgs false
namespace Go.Ab
set_option maxRecDepth 100000
set_option maxHeartbeats 4000000
mutual
def ad.dP:ad->Nat
 | .mk _ _ _ kids=>1+ad.aqG kids
def ad.aqG:List ad->Nat
 | []=>0
 |x::l=>x.dP+ad.aqG l
end
theorem ad.ajX:∀l:List ad,ad.aqG l=(l.map ad.dP).sum
 | []=>rfl
 |x::l=>by rw[ad.aqG,ad.ajX l];rfl
theorem ad.pz(x:ad):x.dP=1+(x.Kids.map ad.dP).sum:=by cases x;rw[ad.dP,ad.ajX];rfl
theorem ad.ain(x:ad):x.dP<=x.wt+1:=by
 have h1:=x.pz;have h2:=x.gR
 have h3:∀l:List ad,(∀y∈l,y.dP<=y.wt+1)->(l.map ad.dP).sum<=l.length+(l.map ad.wt).sum:=by
  intro l
  induction l with
  |nil=>intro _;simp
  |cons y l ih=>
   intro h;have:=h y (by simp);have:=ih λ z hz=>h z (by simp[hz])
   simp only[List.map_cons,List.sum_cons,List.length_cons];omega
 have:=h3 x.Kids λ y hy=>ad.ain y
 omega
termination_by SizeOf.sizeOf x
decreasing_by all_goals exact ad.fg hy
end Go.Ab
namespace Go.Proofs.Ab
open Go.Ab
set_option maxRecDepth 100000
set_option maxHeartbeats 4000000
set_option maxHeartbeats 4000000
theorem uP(x:ad)(hb:x.wt<=1048576):a7 Try.prog F.fO [x.av] (aO x.dP):=by
 have hw:=x.gR;have hv:=x.pz;have hvl:=x.ain;refine T.zn rfl (by simp[AV.ae,AV.ag,ad.ag]) ?_;simp only[T.fO,ad.cells,ad.isAgg,ad.storable,WA,reduceEqDiff,reduceAdd,reduceLT,reduceLeDiff,reduceMul,reduceIte,reduceCtorEq,Int.reduceEq,Int.reduceLT,Int.reduceLE,Int.reduceNe];refine fe [aO x.dP] rfl ?_ ?_
 ·simp only[ad.cells,WA,reduceEqDiff,reduceAdd,reduceLT,reduceLeDiff,reduceMul,reduceIte,reduceCtorEq,Int.reduceEq,Int.reduceLT,Int.reduceLE,Int.reduceNe];refine wv x.Kids.length (λ i=>[aO ((1+((x.Kids.take i).map ad.dP).sum:Nat):Int),aO i]) rfl λ i hi=> ?_
  simp only[ad.cells,List.length_map,WA,reduceEqDiff,reduceAdd,reduceLT,reduceLeDiff,reduceMul,reduceIte,reduceCtorEq,Int.reduceEq,Int.reduceLT,Int.reduceLE,Int.reduceNe];refine ba (λ h=> ?_) (λ h=> ?_)
  ·have aw:i<x.Kids.length:=by omega
   have hkw:=de ad.wt (getElem_mem aw);simp only[ad.cells,WA,reduceEqDiff,reduceAdd,reduceLT,reduceLeDiff,reduceMul,reduceIte,reduceCtorEq,Int.reduceEq,Int.reduceLT,Int.reduceLE,Int.reduceNe];refine yP ad.av aw (ad.width _) ?_;simp only[ad.cells,ad.isAgg,ad.width,ad.storable,WA,reduceEqDiff,reduceAdd,reduceLT,reduceLeDiff,reduceMul,reduceIte,reduceCtorEq,Int.reduceEq,Int.reduceLT,Int.reduceLE,Int.reduceNe];refine bo (uP x.Kids[i] (by omega)) ?_
   have hs:((x.Kids.take (i+1)).map ad.dP).sum=((x.Kids.take i).map ad.dP).sum+(x.Kids[i]).dP:=by
    rw[List.take_succ_eq_append_getElem aw,map_append,sum_append];simp
   have hle:((x.Kids.take (i+1)).map ad.dP).sum<=(x.Kids.map ad.dP).sum:=by
    conv=>rhs;rw[←List.take_append_drop (i+1) x.Kids,map_append,sum_append]
    omega
   have hw2:IntKind.i64.wrap (((1+((x.Kids.take i).map ad.dP).sum:Nat):Int)+((x.Kids[i]).dP:Int))=((1+((x.Kids.take (i+1)).map ad.dP).sum:Nat):Int):=by
    rw[da (by omega) (by omega)];omega
   simp(disch:=omega) only[hw2,aG,WA,reduceEqDiff,reduceAdd,reduceLT,reduceLeDiff,reduceMul,reduceIte,reduceCtorEq,Int.reduceEq,Int.reduceLT,Int.reduceLE,Int.reduceNe]
   first|exact aw|exact⟨aw,rfl⟩
  ·have he:i=x.Kids.length:=by omega
   subst he;rw[List.take_length];simp only[WA,reduceEqDiff,reduceAdd,reduceLT,reduceLeDiff,reduceMul,reduceIte,reduceCtorEq,Int.reduceEq,Int.reduceLT,Int.reduceLE,Int.reduceNe];simp only[←hv,WA,reduceEqDiff,reduceAdd,reduceLT,reduceLeDiff,reduceMul,reduceIte,reduceCtorEq,Int.reduceEq,Int.reduceLT,Int.reduceLE,Int.reduceNe]
 ·simp only[WA,reduceEqDiff,reduceAdd,reduceLT,reduceLeDiff,reduceMul,reduceIte,reduceCtorEq,Int.reduceEq,Int.reduceLT,Int.reduceLE,Int.reduceNe]
termination_by SizeOf.sizeOf x
decreasing_by all_goals exact ad.fg (getElem_mem aw)
theorem uJ(x:ad)(hb:x.wt<=1048576):a7 Try.prog F.fL [x.av] (aO x.dP):=by
 have hw:=x.gR;have hv:=x.pz;have hvl:=x.ain;refine T.y7 rfl (by simp[AV.ae,AV.ag,ad.ag]) ?_;simp only[T.fL,ad.cells,ad.isAgg,ad.storable,WA,reduceEqDiff,reduceAdd,reduceLT,reduceLeDiff,reduceMul,reduceIte,reduceCtorEq,Int.reduceEq,Int.reduceLT,Int.reduceLE,Int.reduceNe];refine fe [aO x.dP] rfl ?_ ?_
 ·simp only[ad.cells,WA,reduceEqDiff,reduceAdd,reduceLT,reduceLeDiff,reduceMul,reduceIte,reduceCtorEq,Int.reduceEq,Int.reduceLT,Int.reduceLE,Int.reduceNe];refine wv x.Kids.length (λ i=>[aO ((1+((x.Kids.take i).map ad.dP).sum:Nat):Int),aO i]) rfl λ i hi=> ?_
  simp only[ad.cells,List.length_map,WA,reduceEqDiff,reduceAdd,reduceLT,reduceLeDiff,reduceMul,reduceIte,reduceCtorEq,Int.reduceEq,Int.reduceLT,Int.reduceLE,Int.reduceNe];refine ba (λ h=> ?_) (λ h=> ?_)
  ·have aw:i<x.Kids.length:=by omega
   have hkw:=de ad.wt (getElem_mem aw);simp only[ad.cells,WA,reduceEqDiff,reduceAdd,reduceLT,reduceLeDiff,reduceMul,reduceIte,reduceCtorEq,Int.reduceEq,Int.reduceLT,Int.reduceLE,Int.reduceNe];refine yP ad.av aw (ad.width _) ?_;simp only[ad.cells,ad.isAgg,ad.width,ad.storable,WA,reduceEqDiff,reduceAdd,reduceLT,reduceLeDiff,reduceMul,reduceIte,reduceCtorEq,Int.reduceEq,Int.reduceLT,Int.reduceLE,Int.reduceNe];refine bo (uJ x.Kids[i] (by omega)) ?_
   have hs:((x.Kids.take (i+1)).map ad.dP).sum=((x.Kids.take i).map ad.dP).sum+(x.Kids[i]).dP:=by
    rw[List.take_succ_eq_append_getElem aw,map_append,sum_append];simp
   have hle:((x.Kids.take (i+1)).map ad.dP).sum<=(x.Kids.map ad.dP).sum:=by
    conv=>rhs;rw[←List.take_append_drop (i+1) x.Kids,map_append,sum_append]
    omega
   have hw2:IntKind.i64.wrap (((1+((x.Kids.take i).map ad.dP).sum:Nat):Int)+((x.Kids[i]).dP:Int))=((1+((x.Kids.take (i+1)).map ad.dP).sum:Nat):Int):=by
    rw[da (by omega) (by omega)];omega
   simp(disch:=omega) only[hw2,aG,WA,reduceEqDiff,reduceAdd,reduceLT,reduceLeDiff,reduceMul,reduceIte,reduceCtorEq,Int.reduceEq,Int.reduceLT,Int.reduceLE,Int.reduceNe]
   first|exact aw|exact⟨aw,rfl⟩
  ·have he:i=x.Kids.length:=by omega
   subst he;rw[List.take_length];simp only[WA,reduceEqDiff,reduceAdd,reduceLT,reduceLeDiff,reduceMul,reduceIte,reduceCtorEq,Int.reduceEq,Int.reduceLT,Int.reduceLE,Int.reduceNe];simp only[←hv,WA,reduceEqDiff,reduceAdd,reduceLT,reduceLeDiff,reduceMul,reduceIte,reduceCtorEq,Int.reduceEq,Int.reduceLT,Int.reduceLE,Int.reduceNe]
 ·simp only[WA,reduceEqDiff,reduceAdd,reduceLT,reduceLeDiff,reduceMul,reduceIte,reduceCtorEq,Int.reduceEq,Int.reduceLT,Int.reduceLE,Int.reduceNe]
termination_by SizeOf.sizeOf x
decreasing_by all_goals exact ad.fg (getElem_mem aw)
end Go.Proofs.Ab
