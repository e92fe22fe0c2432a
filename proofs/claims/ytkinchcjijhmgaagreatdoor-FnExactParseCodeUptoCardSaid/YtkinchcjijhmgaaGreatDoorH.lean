/-
  THE LAWS' OWN HELPERS, by their types (printed by wip/tool/helpers.py).
-/
import Derived.Test.YtkinchcjijhmgaaGreatDoorST
import Derived.Test.YtkinchcjijhmgaaGreatDoorGM
open Nat(reduceEqDiff reduceLeDiff reduceAdd reduceLT reduceMul)
set_option linter.unusedVariables false
set_option linter.unusedSimpArgs false
namespace Go.Proofs.Ab
open Go.Ab
set_option maxRecDepth 100000
theorem aiK(x:aa)(hb:x.wt<=1048576):aI Tryz.prog F.gb [x.av,x.av] (.v (.bool true)):=by
 have hw:=aa.jy x;refine T.tq rfl (by simp[AV.ad,AV.ag,aa.ag]) ?_;simp(disch:=omega) only[T.gb,aa.cells,aa.isAgg,aa.storable,aa.ag,aa.eta,cR,lh,WA,reduceEqDiff,reduceAdd,reduceLT,reduceLeDiff,reduceMul,reduceIte,reduceCtorEq,Int.reduceEq,Int.reduceLT,Int.reduceLE,Int.reduceNe]
theorem amf(x:ai)(hb:x.wt<=1048576):aI Tryz.prog F.fU [x.av,x.av] (.v (.bool true)):=by
 have hw:=ai.jy x
 have ao2:aI Tryz.prog F.gF [.sl (x.ar.map aa.av),.sl (x.ar.map aa.av)] (.v (.bool true)):=
  T.rX rfl (by simp only[AV.ad,AV.ag,Bool.and_true,Bool.and_self];exact(bu (f:=aa.av) (l:=x.ar) aa.ag)) (avV aa.shape (by omega) λ y hy=>aiK y (by have:=afn aa.wt hy;omega))
 have ao0:aI Tryz.prog F.iR [.sl (x.aM.map λ y=> .v (.int .i64 y)),.sl (x.aM.map λ y=> .v (.int .i64 y))] (.v (.bool true)):=T.vt rfl (by simp only[AV.ad,AV.ag,Bool.and_true,Bool.and_self];exact(bu (f:=λ y=> .v (.int .i64 y)) (l:=x.aM) λ _=>rfl)) (avW (g:=λ y=> .int .i64 y) (λ y K h=>axi _ y K h) (by omega));refine T.vv rfl (by simp[AV.ad,AV.ag,ai.ag]) ?_;simp(disch:=omega) only[T.fU,ai.cells,ai.isAgg,ai.storable,ai.ag,ai.eta,cR,lh,WA,reduceEqDiff,reduceAdd,reduceLT,reduceLeDiff,reduceMul,reduceIte,reduceCtorEq,Int.reduceEq,Int.reduceLT,Int.reduceLE,Int.reduceNe];refine bj ao2 ?_;simp(disch:=omega) only[ai.cells,ai.isAgg,ai.storable,ai.ag,ai.eta,cR,lh,WA,reduceEqDiff,reduceAdd,reduceLT,reduceLeDiff,reduceMul,reduceIte,reduceCtorEq,Int.reduceEq,Int.reduceLT,Int.reduceLE,Int.reduceNe];refine bj ao0 ?_;simp(disch:=omega) only[ai.cells,ai.isAgg,ai.storable,ai.ag,ai.eta,cR,lh,WA,reduceEqDiff,reduceAdd,reduceLT,reduceLeDiff,reduceMul,reduceIte,reduceCtorEq,Int.reduceEq,Int.reduceLT,Int.reduceLE,Int.reduceNe]
end Go.Proofs.Ab
