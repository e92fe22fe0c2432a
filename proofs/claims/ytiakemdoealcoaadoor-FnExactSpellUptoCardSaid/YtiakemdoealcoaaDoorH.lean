/-
  THE LAWS' OWN HELPERS, by their types (printed by wip/tool/helpers.py).
-/
import Derived.Test.YtiakemdoealcoaaDoorST
import Derived.Test.YtiakemdoealcoaaDoorGM
set_option linter.unusedVariables false
set_option linter.unusedSimpArgs false
set_option linter.defProp false
namespace Go.Proofs.Ab
open Go.Ab
set_option maxRecDepth 100000
theorem szToken_c (x : VToken) (b : Nat) (hb : x.wt ≤ b) (hb1 : b ≤ 1048576) : PCon Tryd.prog F.laws_szToken [x.av, .v (.int .i64 b)] (.v (.int .i64 (b - x.wt : Nat))) := by
  have hw := VToken.wt_eq x
  refine T.laws_szToken_con rfl (by simp [AV.norefs, AV.noref, VToken.noref]) ?_
  simp (disch := omega) only [T.laws_szToken, VToken.cells, VToken.isAgg, VToken.storable, VToken.noref, VToken.eta, wrapS, lt0, W00, W01, W02, W03, W04, W05, W06, W07, W08, W09, Nat.reduceEqDiff, Nat.reduceAdd, Nat.reduceLT, Nat.reduceLeDiff, Nat.reduceMul, reduceIte, reduceCtorEq, Int.reduceEq, Int.reduceLT, Int.reduceLE, Int.reduceNe]
  first | done | exact congrArg (fun n : Nat => AV.v (.int .i64 (n : Int))) (by omega)
theorem toToken_c (x : VToken) (hb : x.wt ≤ 1048576) : PCon Tryd.prog F.laws_toToken [x.av] x.av := by
  have hw := VToken.wt_eq x
  refine T.laws_toToken_con rfl (by simp [AV.norefs, AV.noref, VToken.noref]) ?_
  simp (disch := omega) only [T.laws_toToken, VToken.cells, VToken.isAgg, VToken.storable, VToken.noref, VToken.eta, wrapS, lt0, W00, W01, W02, W03, W04, W05, W06, W07, W08, W09, Nat.reduceEqDiff, Nat.reduceAdd, Nat.reduceLT, Nat.reduceLeDiff, Nat.reduceMul, reduceIte, reduceCtorEq, Int.reduceEq, Int.reduceLT, Int.reduceLE, Int.reduceNe]
theorem eqToken_c (x : VToken) (hb : x.wt ≤ 1048576) : PCon Tryd.prog F.laws_eqToken [x.av, x.av] (.v (.bool true)) := by
  have hw := VToken.wt_eq x
  refine T.laws_eqToken_con rfl (by simp [AV.norefs, AV.noref, VToken.noref]) ?_
  simp (disch := omega) only [T.laws_eqToken, VToken.cells, VToken.isAgg, VToken.storable, VToken.noref, VToken.eta, wrapS, lt0, W00, W01, W02, W03, W04, W05, W06, W07, W08, W09, Nat.reduceEqDiff, Nat.reduceAdd, Nat.reduceLT, Nat.reduceLeDiff, Nat.reduceMul, reduceIte, reduceCtorEq, Int.reduceEq, Int.reduceLT, Int.reduceLE, Int.reduceNe]
theorem szTokenS_c (l : List VToken) (c : Nat) (h1 : l.length + (l.map VToken.wt).sum ≤ c) (h2 : c ≤ 1048576) : PCon Tryd.prog F.laws_szTokenS [.sl (l.map VToken.av), .v (.int .i64 c)] (.v (.int .i64 (c - (l.length + (l.map VToken.wt).sum) : Nat))) :=
  T.laws_szTokenS_con rfl (by simp only [AV.norefs, AV.noref, Bool.and_true, Bool.and_self]; exact (norefsM (f := VToken.av) (l := l) VToken.noref)) (szS_T VToken.shape h1 h2 fun y hy c h1 h2 => szToken_c y c h1 h2)
theorem toTokenS_c (l : List VToken) (h : l.length + (l.map VToken.wt).sum ≤ 1048576) : PCon Tryd.prog F.laws_toTokenS [.sl (l.map VToken.av)] (.sl (l.map VToken.av)) :=
  T.laws_toTokenS_con rfl (by simp only [AV.norefs, AV.noref, Bool.and_true, Bool.and_self]; exact (norefsM (f := VToken.av) (l := l) VToken.noref)) (toS_T VToken.shape4 rfl (by omega) (by omega) fun y hy => toToken_c y (by have := le_sum VToken.wt hy; omega))
theorem eqTokenS_c (l : List VToken) (h : l.length + (l.map VToken.wt).sum ≤ 1048576) : PCon Tryd.prog F.laws_eqTokenS [.sl (l.map VToken.av), .sl (l.map VToken.av)] (.v (.bool true)) :=
  T.laws_eqTokenS_con rfl (by simp only [AV.norefs, AV.noref, Bool.and_true, Bool.and_self]; exact (norefsM (f := VToken.av) (l := l) VToken.noref)) (eqS_T VToken.shape (by omega) fun y hy => eqToken_c y (by have := le_sum VToken.wt hy; omega))
end Go.Proofs.Ab
