/-
  THE LAWS' OWN HELPERS, by their types (printed by wip/tool/helpers.py).
-/
import Derived.Test.YtiakemdoealcoaaDoorST
import Derived.Test.YtiakemdoealcoaaDoorGM
set_option linter.unusedVariables false
set_option linter.unusedSimpArgs false
set_option linter.defProp false
namespace Go.Proofs.Ab
open Go.Ab
set_option maxRecDepth 100000
theorem szToken_c (x : VToken) (b : Nat) (hb : x.wt ≤ b) (hb1 : b ≤ 1048576) : PCon Tryd.prog F.laws_szToken [x.av, .v (.int .i64 b)] (.v (.int .i64 (b - x.wt : Nat))) := by
  have hw := VToken.wt_eq x
  refine T.laws_szToken_con rfl (by simp [AV.norefs, AV.noref, VToken.noref]) ?_
  simp (disch := omega) only [T.laws_szToken, VToken.cells, VToken.isAgg, VToken.storable, VToken.noref, VToken.eta, wrapS, lt0, W00, W01, W02, W03, W04, W05, W06, W07, W08, W09, Nat.reduceEqDiff, Nat.reduceAdd, Nat.reduceLT, Nat.reduceLeDiff, Nat.reduceMul, reduceIte, reduceCtorEq, Int.reduceEq, Int.reduceLT, Int.reduceLE, Int.reduceNe]
  first | done | exact congrArg (fun n : Nat => AV.v (.int .i64 (n : Int))) (by omega)
theorem toToken_c (x : VToken) (hb : x.wt ≤ 1048576) : PCon Tryd.prog F.laws_toToken [x.av] x.av := by
  have hw := VToken.wt_eq x
  refine T.laws_toToken_con rfl (by simp [AV.norefs, AV.noref, VToken.noref]) ?_
  simp (disch := omega) only [T.laws_toToken, VToken.cells, VToken.isAgg, VToken.storable, VToken.noref, VToken.eta, wrapS, lt0, W00, W01, W02, W03, W04, W05, W06, W07, W08, W09, Nat.reduceEqDiff, Nat.reduceAdd, Nat.reduceLT, Nat.reduceLeDiff, Nat.reduceMul, reduceIte, reduceCtorEq, Int.reduceEq, Int.reduceLT, Int.reduceLE, Int.reduceNe]
end Go.Proofs.Ab
