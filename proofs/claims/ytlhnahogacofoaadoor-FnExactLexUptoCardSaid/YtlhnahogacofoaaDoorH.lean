/-
  THE LAWS' OWN HELPERS, by their types (printed by wip/tool/helpers.py).
-/
import Derived.Test.YtlhnahogacofoaaDoorST
import Derived.Test.YtlhnahogacofoaaDoorGM
set_option linter.unusedVariables false
set_option linter.unusedSimpArgs false
set_option linter.defProp false
namespace Go.Proofs.Ab
open Go.Ab
set_option maxRecDepth 100000
theorem eqToken_c (x : VToken) (hb : x.wt ≤ 1048576) : PCon Tryd.prog F.laws_eqToken [x.av, x.av] (.v (.bool true)) := by
  have hw := VToken.wt_eq x
  refine T.laws_eqToken_con rfl (by simp [AV.norefs, AV.noref, VToken.noref]) ?_
  simp (disch := omega) only [T.laws_eqToken, VToken.cells, VToken.isAgg, VToken.storable, VToken.noref, VToken.eta, wrapS, lt0, WA, Nat.reduceEqDiff, Nat.reduceAdd, Nat.reduceLT, Nat.reduceLeDiff, Nat.reduceMul, reduceIte, reduceCtorEq, Int.reduceEq, Int.reduceLT, Int.reduceLE, Int.reduceNe]
theorem eqTokenS_c (l : List VToken) (h : l.length + (l.map VToken.wt).sum ≤ 1048576) : PCon Tryd.prog F.laws_eqTokenS [.sl (l.map VToken.av), .sl (l.map VToken.av)] (.v (.bool true)) :=
  T.laws_eqTokenS_con rfl (by simp only [AV.norefs, AV.noref, Bool.and_true, Bool.and_self]; exact (norefsM (f := VToken.av) (l := l) VToken.noref)) (eqS_T VToken.shape (by omega) fun y hy => eqToken_c y (by have := le_sum VToken.wt hy; omega))
end Go.Proofs.Ab
