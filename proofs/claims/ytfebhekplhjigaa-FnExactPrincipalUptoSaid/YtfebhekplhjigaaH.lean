/-
  THE LAWS' OWN HELPERS, by their types (printed by wip/tool/helpers.py).
-/
import Derived.Test.YtfebhekplhjigaaST
import Derived.Test.YtfebhekplhjigaaGM
set_option linter.unusedVariables false
set_option linter.unusedSimpArgs false
set_option linter.defProp false
namespace Go.Proofs.Ab
open Go.Ab
set_option maxRecDepth 100000
theorem szTy_c (x : VTy) (b : Nat) (hb : x.wt ≤ b) (hb1 : b ≤ 1048576) : PCon Try.prog F.laws_szTy [x.av, .v (.int .i64 b)] (.v (.int .i64 (b - x.wt : Nat))) := by
  have hw := VTy.wt_eq x
  have hKids : ∀ c : Nat, x.Kids.length + (x.Kids.map VTy.wt).sum ≤ c → c ≤ 1048576 → PCon Try.prog F.laws_szTyS [.sl (x.Kids.map VTy.av), .v (.int .i64 c)] (.v (.int .i64 (c - (x.Kids.length + (x.Kids.map VTy.wt).sum) : Nat))) := fun c h1 h2 =>
    T.laws_szTyS_con rfl (by simp only [AV.norefs, AV.noref, Bool.and_true]; exact (norefsM (f := VTy.av) (l := x.Kids) VTy.noref)) (szS_T VTy.shape h1 h2 fun y hy c h1 h2 => szTy_c y c h1 h2)
  refine T.laws_szTy_con rfl (by simp [AV.norefs, AV.noref, VTy.noref]) ?_
  simp (disch := omega) only [T.laws_szTy, VTy.cells, VTy.isAgg, VTy.storable, VTy.noref, VTy.eta, wrapS, lt0, WA, Nat.reduceEqDiff, Nat.reduceAdd, Nat.reduceLT, Nat.reduceLeDiff, Nat.reduceMul, reduceIte, reduceCtorEq, Int.reduceEq, Int.reduceLT, Int.reduceLE, Int.reduceNe]
  refine call_v (hKids _ (by omega) (by omega)) ?_
  simp (disch := omega) only [VTy.cells, VTy.isAgg, VTy.storable, VTy.noref, VTy.eta, wrapS, lt0, WA, Nat.reduceEqDiff, Nat.reduceAdd, Nat.reduceLT, Nat.reduceLeDiff, Nat.reduceMul, reduceIte, reduceCtorEq, Int.reduceEq, Int.reduceLT, Int.reduceLE, Int.reduceNe]
  first | done | exact congrArg (fun n : Nat => AV.v (.int .i64 (n : Int))) (by omega)
termination_by SizeOf.sizeOf x
decreasing_by all_goals first | exact VTy.Kids_lt (by assumption)
theorem toTy_c (x : VTy) (hb : x.wt ≤ 1048576) : PCon Try.prog F.laws_toTy [x.av] x.av := by
  have hw := VTy.wt_eq x
  have hKids : PCon Try.prog F.laws_toTyS [.sl (x.Kids.map VTy.av)] (.sl (x.Kids.map VTy.av)) :=
    T.laws_toTyS_con rfl (by simp only [AV.norefs, AV.noref, Bool.and_true]; exact (norefsM (f := VTy.av) (l := x.Kids) VTy.noref)) (toS_T VTy.shape4 rfl (by omega) (by omega) fun y hy => toTy_c y (by have := le_sum VTy.wt hy; omega))
  refine T.laws_toTy_con rfl (by simp [AV.norefs, AV.noref, VTy.noref]) ?_
  simp (disch := omega) only [T.laws_toTy, VTy.cells, VTy.isAgg, VTy.storable, VTy.noref, VTy.eta, wrapS, lt0, WA, Nat.reduceEqDiff, Nat.reduceAdd, Nat.reduceLT, Nat.reduceLeDiff, Nat.reduceMul, reduceIte, reduceCtorEq, Int.reduceEq, Int.reduceLT, Int.reduceLE, Int.reduceNe]
  refine call_p hKids (norefsM (f := VTy.av) (l := x.Kids) VTy.noref) ?_
  simp (disch := omega) only [VTy.cells, VTy.isAgg, VTy.storable, VTy.noref, VTy.eta, wrapS, lt0, WA, Nat.reduceEqDiff, Nat.reduceAdd, Nat.reduceLT, Nat.reduceLeDiff, Nat.reduceMul, reduceIte, reduceCtorEq, Int.reduceEq, Int.reduceLT, Int.reduceLE, Int.reduceNe]
termination_by SizeOf.sizeOf x
decreasing_by all_goals first | exact VTy.Kids_lt (by assumption)
theorem eqTy_c (x : VTy) (hb : x.wt ≤ 1048576) : PCon Try.prog F.laws_eqTy [x.av, x.av] (.v (.bool true)) := by
  have hw := VTy.wt_eq x
  have hKids : PCon Try.prog F.laws_eqTyS [.sl (x.Kids.map VTy.av), .sl (x.Kids.map VTy.av)] (.v (.bool true)) :=
    T.laws_eqTyS_con rfl (by simp only [AV.norefs, AV.noref, Bool.and_true, Bool.and_self]; exact (norefsM (f := VTy.av) (l := x.Kids) VTy.noref)) (eqS_T VTy.shape (by omega) fun y hy => eqTy_c y (by have := le_sum VTy.wt hy; omega))
  refine T.laws_eqTy_con rfl (by simp [AV.norefs, AV.noref, VTy.noref]) ?_
  simp (disch := omega) only [T.laws_eqTy, VTy.cells, VTy.isAgg, VTy.storable, VTy.noref, VTy.eta, wrapS, lt0, WA, Nat.reduceEqDiff, Nat.reduceAdd, Nat.reduceLT, Nat.reduceLeDiff, Nat.reduceMul, reduceIte, reduceCtorEq, Int.reduceEq, Int.reduceLT, Int.reduceLE, Int.reduceNe]
  refine call_v hKids ?_
  simp (disch := omega) only [VTy.cells, VTy.isAgg, VTy.storable, VTy.noref, VTy.eta, wrapS, lt0, WA, Nat.reduceEqDiff, Nat.reduceAdd, Nat.reduceLT, Nat.reduceLeDiff, Nat.reduceMul, reduceIte, reduceCtorEq, Int.reduceEq, Int.reduceLT, Int.reduceLE, Int.reduceNe]
termination_by SizeOf.sizeOf x
decreasing_by all_goals first | exact VTy.Kids_lt (by assumption)
end Go.Proofs.Ab
