/-
  Sizes of types.
-/
import Derived.Test.YtfebhekplhjigaaCSmall
import Derived.Test.YtfebhekplhjigaaGM
open List(getElem_mem map_append sum_append)
open Nat(reduceEqDiff reduceLeDiff reduceAdd reduceLT reduceMul)
set_option linter.unusedVariables false
set_option linter.unusedSimpArgs false
namespace Go.Ab
set_option maxRecDepth 100000
set_option maxHeartbeats 4000000
mutual
def aa.eW:aa->Nat
 | .mk _ _ _ kids=>1+aa.aop kids
def aa.aop:List aa->Nat
 | []=>0
 |x::l=>x.eW+aa.aop l
end
theorem aa.ag7:∀l:List aa,aa.aop l=(l.map aa.eW).sum
 | []=>rfl
 |x::l=>by rw[aa.aop,aa.ag7 l];rfl
theorem aa.jV(x:aa):x.eW=1+(x.Kids.map aa.eW).sum:=by cases x;rw[aa.eW,aa.ag7];rfl
theorem aa.afl(x:aa):x.eW<=x.wt+1:=by
 have h1:=x.jV;have h2:=x.bg
 have h3:∀l:List aa,(∀y∈l,y.eW<=y.wt+1)->(l.map aa.eW).sum<=l.length+(l.map aa.wt).sum:=by
  intro l
  induction l with
  |nil=>intro _;simp
  |cons y l ih=>
   intro h;have:=h y (by simp);have:=ih λ z hz=>h z (by simp[hz])
   simp only[List.map_cons,List.sum_cons,List.length_cons];omega
 have:=h3 x.Kids λ y hy=>aa.afl y
 omega
termination_by SizeOf.sizeOf x
decreasing_by all_goals exact aa.cP hy
end Go.Ab
namespace Go.Proofs.Ab
open Go.Ab
set_option maxRecDepth 100000
set_option maxHeartbeats 4000000
set_option maxHeartbeats 4000000
theorem qP(x:aa)(hb:x.wt<=1048576):a7 Try.prog F.fR [x.av] (aA x.eW):=by
 have hw:=x.bg;have hv:=x.jV;have hvl:=x.afl;refine T.vK rfl (by simp[AV.ad,AV.ag,aa.ag]) ?_;simp only[T.fR,aa.cells,aa.isAgg,aa.storable,WA,reduceEqDiff,reduceAdd,reduceLT,reduceLeDiff,reduceMul,reduceIte,reduceCtorEq,Int.reduceEq,Int.reduceLT,Int.reduceLE,Int.reduceNe];refine cC [aA x.eW] rfl ?_ ?_
 ·simp only[aa.cells,WA,reduceEqDiff,reduceAdd,reduceLT,reduceLeDiff,reduceMul,reduceIte,reduceCtorEq,Int.reduceEq,Int.reduceLT,Int.reduceLE,Int.reduceNe];refine abJ x.Kids.length (λ i=>[aA ((1+((x.Kids.take i).map aa.eW).sum:Nat):Int),aA i]) rfl λ i hi=> ?_
  simp only[aa.cells,List.length_map,WA,reduceEqDiff,reduceAdd,reduceLT,reduceLeDiff,reduceMul,reduceIte,reduceCtorEq,Int.reduceEq,Int.reduceLT,Int.reduceLE,Int.reduceNe];refine aE (λ h=> ?_) (λ h=> ?_)
  ·have aF:i<x.Kids.length:=by omega
   have hkw:=ca aa.wt (getElem_mem aF);simp only[aa.cells,WA,reduceEqDiff,reduceAdd,reduceLT,reduceLeDiff,reduceMul,reduceIte,reduceCtorEq,Int.reduceEq,Int.reduceLT,Int.reduceLE,Int.reduceNe];refine nP aa.av aF (aa.width _) ?_;simp only[aa.cells,aa.isAgg,aa.width,aa.storable,WA,reduceEqDiff,reduceAdd,reduceLT,reduceLeDiff,reduceMul,reduceIte,reduceCtorEq,Int.reduceEq,Int.reduceLT,Int.reduceLE,Int.reduceNe];refine bn (qP x.Kids[i] (by omega)) ?_
   have hs:((x.Kids.take (i+1)).map aa.eW).sum=((x.Kids.take i).map aa.eW).sum+(x.Kids[i]).eW:=by
    rw[List.take_succ_eq_append_getElem aF,map_append,sum_append];simp
   have hle:((x.Kids.take (i+1)).map aa.eW).sum<=(x.Kids.map aa.eW).sum:=by
    conv=>rhs;rw[←List.take_append_drop (i+1) x.Kids,map_append,sum_append]
    omega
   have hw2:IntKind.i64.wrap (((1+((x.Kids.take i).map aa.eW).sum:Nat):Int)+((x.Kids[i]).eW:Int))=((1+((x.Kids.take (i+1)).map aa.eW).sum:Nat):Int):=by
    rw[bm (by omega) (by omega)];omega
   simp(disch:=omega) only[hw2,au,WA,reduceEqDiff,reduceAdd,reduceLT,reduceLeDiff,reduceMul,reduceIte,reduceCtorEq,Int.reduceEq,Int.reduceLT,Int.reduceLE,Int.reduceNe]
   first|exact aF|exact⟨aF,rfl⟩
  ·have he:i=x.Kids.length:=by omega
   subst he;rw[List.take_length];simp only[WA,reduceEqDiff,reduceAdd,reduceLT,reduceLeDiff,reduceMul,reduceIte,reduceCtorEq,Int.reduceEq,Int.reduceLT,Int.reduceLE,Int.reduceNe];simp only[←hv,WA,reduceEqDiff,reduceAdd,reduceLT,reduceLeDiff,reduceMul,reduceIte,reduceCtorEq,Int.reduceEq,Int.reduceLT,Int.reduceLE,Int.reduceNe]
 ·simp only[WA,reduceEqDiff,reduceAdd,reduceLT,reduceLeDiff,reduceMul,reduceIte,reduceCtorEq,Int.reduceEq,Int.reduceLT,Int.reduceLE,Int.reduceNe]
termination_by SizeOf.sizeOf x
decreasing_by all_goals exact aa.cP (getElem_mem aF)
theorem mU(x:aa)(hb:x.wt<=1048576):a7 Try.prog F.fO [x.av] (aA x.eW):=by
 have hw:=x.bg;have hv:=x.jV;have hvl:=x.afl;refine T.vq rfl (by simp[AV.ad,AV.ag,aa.ag]) ?_;simp only[T.fO,aa.cells,aa.isAgg,aa.storable,WA,reduceEqDiff,reduceAdd,reduceLT,reduceLeDiff,reduceMul,reduceIte,reduceCtorEq,Int.reduceEq,Int.reduceLT,Int.reduceLE,Int.reduceNe];refine cC [aA x.eW] rfl ?_ ?_
 ·simp only[aa.cells,WA,reduceEqDiff,reduceAdd,reduceLT,reduceLeDiff,reduceMul,reduceIte,reduceCtorEq,Int.reduceEq,Int.reduceLT,Int.reduceLE,Int.reduceNe];refine abJ x.Kids.length (λ i=>[aA ((1+((x.Kids.take i).map aa.eW).sum:Nat):Int),aA i]) rfl λ i hi=> ?_
  simp only[aa.cells,List.length_map,WA,reduceEqDiff,reduceAdd,reduceLT,reduceLeDiff,reduceMul,reduceIte,reduceCtorEq,Int.reduceEq,Int.reduceLT,Int.reduceLE,Int.reduceNe];refine aE (λ h=> ?_) (λ h=> ?_)
  ·have aF:i<x.Kids.length:=by omega
   have hkw:=ca aa.wt (getElem_mem aF);simp only[aa.cells,WA,reduceEqDiff,reduceAdd,reduceLT,reduceLeDiff,reduceMul,reduceIte,reduceCtorEq,Int.reduceEq,Int.reduceLT,Int.reduceLE,Int.reduceNe];refine nP aa.av aF (aa.width _) ?_;simp only[aa.cells,aa.isAgg,aa.width,aa.storable,WA,reduceEqDiff,reduceAdd,reduceLT,reduceLeDiff,reduceMul,reduceIte,reduceCtorEq,Int.reduceEq,Int.reduceLT,Int.reduceLE,Int.reduceNe];refine bn (mU x.Kids[i] (by omega)) ?_
   have hs:((x.Kids.take (i+1)).map aa.eW).sum=((x.Kids.take i).map aa.eW).sum+(x.Kids[i]).eW:=by
    rw[List.take_succ_eq_append_getElem aF,map_append,sum_append];simp
   have hle:((x.Kids.take (i+1)).map aa.eW).sum<=(x.Kids.map aa.eW).sum:=by
    conv=>rhs;rw[←List.take_append_drop (i+1) x.Kids,map_append,sum_append]
    omega
   have hw2:IntKind.i64.wrap (((1+((x.Kids.take i).map aa.eW).sum:Nat):Int)+((x.Kids[i]).eW:Int))=((1+((x.Kids.take (i+1)).map aa.eW).sum:Nat):Int):=by
    rw[bm (by omega) (by omega)];omega
   simp(disch:=omega) only[hw2,au,WA,reduceEqDiff,reduceAdd,reduceLT,reduceLeDiff,reduceMul,reduceIte,reduceCtorEq,Int.reduceEq,Int.reduceLT,Int.reduceLE,Int.reduceNe]
   first|exact aF|exact⟨aF,rfl⟩
  ·have he:i=x.Kids.length:=by omega
   subst he;rw[List.take_length];simp only[WA,reduceEqDiff,reduceAdd,reduceLT,reduceLeDiff,reduceMul,reduceIte,reduceCtorEq,Int.reduceEq,Int.reduceLT,Int.reduceLE,Int.reduceNe];simp only[←hv,WA,reduceEqDiff,reduceAdd,reduceLT,reduceLeDiff,reduceMul,reduceIte,reduceCtorEq,Int.reduceEq,Int.reduceLT,Int.reduceLE,Int.reduceNe]
 ·simp only[WA,reduceEqDiff,reduceAdd,reduceLT,reduceLeDiff,reduceMul,reduceIte,reduceCtorEq,Int.reduceEq,Int.reduceLT,Int.reduceLE,Int.reduceNe]
termination_by SizeOf.sizeOf x
decreasing_by all_goals exact aa.cP (getElem_mem aF)
end Go.Proofs.Ab
