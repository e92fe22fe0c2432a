/-
  THE LAWS' OWN HELPERS, by their types (printed by wip/tool/helpers.py).
-/
import Derived.Test.YtlckfombibfhcaaST
import Derived.Test.YtlckfombibfhcaaGM
set_option linter.unusedVariables false
set_option linter.unusedSimpArgs false
set_option linter.defProp false
namespace Go.Proofs.Ab
open Go.Ab
set_option maxRecDepth 100000
theorem szTy_c (x : VTy) (b : Nat) (hb : x.wt ≤ b) (hb1 : b ≤ 1048576) : PCon Try.prog F.laws_szTy [x.av, .v (.int .i64 b)] (.v (.int .i64 (b - x.wt : Nat))) := by
  have hw := VTy.wt_eq x
  have hKids : ∀ c : Nat, x.Kids.length + (x.Kids.map VTy.wt).sum ≤ c → c ≤ 1048576 → PCon Try.prog F.laws_szTyS [.sl (x.Kids.map VTy.av), .v (.int .i64 c)] (.v (.int .i64 (c - (x.Kids.length + (x.Kids.map VTy.wt).sum) : Nat))) := fun c h1 h2 =>
    T.laws_szTyS_con rfl (by simp only [AV.norefs, AV.noref, Bool.and_true]; exact (norefsM (f := VTy.av) (l := x.Kids) VTy.noref)) (szS_T VTy.shape h1 h2 fun y hy c h1 h2 => szTy_c y c h1 h2)
  refine T.laws_szTy_con rfl (by simp [AV.norefs, AV.noref, VTy.noref]) ?_
  simp (disch := omega) only [T.laws_szTy, VTy.cells, VTy.isAgg, VTy.storable, VTy.noref, VTy.eta, wrapS, lt0, WA, Nat.reduceEqDiff, Nat.reduceAdd, Nat.reduceLT, Nat.reduceLeDiff, Nat.reduceMul, reduceIte, reduceCtorEq, Int.reduceEq, Int.reduceLT, Int.reduceLE, Int.reduceNe]
  refine call_v (hKids _ (by omega) (by omega)) ?_
  simp (disch := omega) only [VTy.cells, VTy.isAgg, VTy.storable, VTy.noref, VTy.eta, wrapS, lt0, WA, Nat.reduceEqDiff, Nat.reduceAdd, Nat.reduceLT, Nat.reduceLeDiff, Nat.reduceMul, reduceIte, reduceCtorEq, Int.reduceEq, Int.reduceLT, Int.reduceLE, Int.reduceNe]
  first | done | exact congrArg (fun n : Nat => AV.v (.int .i64 (n : Int))) (by omega)
termination_by SizeOf.sizeOf x
decreasing_by all_goals first | exact VTy.Kids_lt (by assumption)
theorem toTy_c (x : VTy) (hb : x.wt ≤ 1048576) : PCon Try.prog F.laws_toTy [x.av] x.av := by
  have hw := VTy.wt_eq x
  have hKids : PCon Try.prog F.laws_toTyS [.sl (x.Kids.map VTy.av)] (.sl (x.Kids.map VTy.av)) :=
    T.laws_toTyS_con rfl (by simp only [AV.norefs, AV.noref, Bool.and_true]; exact (norefsM (f := VTy.av) (l := x.Kids) VTy.noref)) (toS_T VTy.shape4 rfl (by omega) (by omega) fun y hy => toTy_c y (by have := le_sum VTy.wt hy; omega))
  refine T.laws_toTy_con rfl (by simp [AV.norefs, AV.noref, VTy.noref]) ?_
  simp (disch := omega) only [T.laws_toTy, VTy.cells, VTy.isAgg, VTy.storable, VTy.noref, VTy.eta, wrapS, lt0, WA, Nat.reduceEqDiff, Nat.reduceAdd, Nat.reduceLT, Nat.reduceLeDiff, Nat.reduceMul, reduceIte, reduceCtorEq, Int.reduceEq, Int.reduceLT, Int.reduceLE, Int.reduceNe]
  refine call_p hKids (norefsM (f := VTy.av) (l := x.Kids) VTy.noref) ?_
  simp (disch := omega) only [VTy.cells, VTy.isAgg, VTy.storable, VTy.noref, VTy.eta, wrapS, lt0, WA, Nat.reduceEqDiff, Nat.reduceAdd, Nat.reduceLT, Nat.reduceLeDiff, Nat.reduceMul, reduceIte, reduceCtorEq, Int.reduceEq, Int.reduceLT, Int.reduceLE, Int.reduceNe]
termination_by SizeOf.sizeOf x
decreasing_by all_goals first | exact VTy.Kids_lt (by assumption)
theorem eqTy_c (x : VTy) (hb : x.wt ≤ 1048576) : PCon Try.prog F.laws_eqTy [x.av, x.av] (.v (.bool true)) := by
  have hw := VTy.wt_eq x
  have hKids : PCon Try.prog F.laws_eqTyS [.sl (x.Kids.map VTy.av), .sl (x.Kids.map VTy.av)] (.v (.bool true)) :=
    T.laws_eqTyS_con rfl (by simp only [AV.norefs, AV.noref, Bool.and_true, Bool.and_self]; exact (norefsM (f := VTy.av) (l := x.Kids) VTy.noref)) (eqS_T VTy.shape (by omega) fun y hy => eqTy_c y (by have := le_sum VTy.wt hy; omega))
  refine T.laws_eqTy_con rfl (by simp [AV.norefs, AV.noref, VTy.noref]) ?_
  simp (disch := omega) only [T.laws_eqTy, VTy.cells, VTy.isAgg, VTy.storable, VTy.noref, VTy.eta, wrapS, lt0, WA, Nat.reduceEqDiff, Nat.reduceAdd, Nat.reduceLT, Nat.reduceLeDiff, Nat.reduceMul, reduceIte, reduceCtorEq, Int.reduceEq, Int.reduceLT, Int.reduceLE, Int.reduceNe]
  refine call_v hKids ?_
  simp (disch := omega) only [VTy.cells, VTy.isAgg, VTy.storable, VTy.noref, VTy.eta, wrapS, lt0, WA, Nat.reduceEqDiff, Nat.reduceAdd, Nat.reduceLT, Nat.reduceLeDiff, Nat.reduceMul, reduceIte, reduceCtorEq, Int.reduceEq, Int.reduceLT, Int.reduceLE, Int.reduceNe]
termination_by SizeOf.sizeOf x
decreasing_by all_goals first | exact VTy.Kids_lt (by assumption)
theorem szKVal_c (x : VKVal) (b : Nat) (hb : x.wt ≤ b) (hb1 : b ≤ 1048576) : PCon Try.prog F.laws_szKVal [x.av, .v (.int .i64 b)] (.v (.int .i64 (b - x.wt : Nat))) := by
  have hw := VKVal.wt_eq x
  refine T.laws_szKVal_con rfl (by simp [AV.norefs, AV.noref, VKVal.noref]) ?_
  simp (disch := omega) only [T.laws_szKVal, VKVal.cells, VKVal.isAgg, VKVal.storable, VKVal.noref, VKVal.eta, wrapS, lt0, WA, Nat.reduceEqDiff, Nat.reduceAdd, Nat.reduceLT, Nat.reduceLeDiff, Nat.reduceMul, reduceIte, reduceCtorEq, Int.reduceEq, Int.reduceLT, Int.reduceLE, Int.reduceNe]
  first | done | exact congrArg (fun n : Nat => AV.v (.int .i64 (n : Int))) (by omega)
theorem toKVal_c (x : VKVal) (hb : x.wt ≤ 1048576) : PCon Try.prog F.laws_toKVal [x.av] x.av := by
  have hw := VKVal.wt_eq x
  refine T.laws_toKVal_con rfl (by simp [AV.norefs, AV.noref, VKVal.noref]) ?_
  simp (disch := omega) only [T.laws_toKVal, VKVal.cells, VKVal.isAgg, VKVal.storable, VKVal.noref, VKVal.eta, wrapS, lt0, WA, Nat.reduceEqDiff, Nat.reduceAdd, Nat.reduceLT, Nat.reduceLeDiff, Nat.reduceMul, reduceIte, reduceCtorEq, Int.reduceEq, Int.reduceLT, Int.reduceLE, Int.reduceNe]
theorem eqKVal_c (x : VKVal) (hb : x.wt ≤ 1048576) : PCon Try.prog F.laws_eqKVal [x.av, x.av] (.v (.bool true)) := by
  have hw := VKVal.wt_eq x
  refine T.laws_eqKVal_con rfl (by simp [AV.norefs, AV.noref, VKVal.noref]) ?_
  simp (disch := omega) only [T.laws_eqKVal, VKVal.cells, VKVal.isAgg, VKVal.storable, VKVal.noref, VKVal.eta, wrapS, lt0, WA, Nat.reduceEqDiff, Nat.reduceAdd, Nat.reduceLT, Nat.reduceLeDiff, Nat.reduceMul, reduceIte, reduceCtorEq, Int.reduceEq, Int.reduceLT, Int.reduceLE, Int.reduceNe]
theorem szKTerm_c (x : VKTerm) (b : Nat) (hb : x.wt ≤ b) (hb1 : b ≤ 1048576) : PCon Try.prog F.laws_szKTerm [x.av, .v (.int .i64 b)] (.v (.int .i64 (b - x.wt : Nat))) := by
  have hw := VKTerm.wt_eq x
  have hTs : ∀ c : Nat, x.Ts.length + (x.Ts.map VTy.wt).sum ≤ c → c ≤ 1048576 → PCon Try.prog F.laws_szTyS [.sl (x.Ts.map VTy.av), .v (.int .i64 c)] (.v (.int .i64 (c - (x.Ts.length + (x.Ts.map VTy.wt).sum) : Nat))) := fun c h1 h2 =>
    T.laws_szTyS_con rfl (by simp only [AV.norefs, AV.noref, Bool.and_true]; exact (norefsM (f := VTy.av) (l := x.Ts) VTy.noref)) (szS_T VTy.shape h1 h2 fun y hy c h1 h2 => szTy_c y c h1 h2)
  have hVs : ∀ c : Nat, x.Vs.length + (x.Vs.map VKVal.wt).sum ≤ c → c ≤ 1048576 → PCon Try.prog F.laws_szKValS [.sl (x.Vs.map VKVal.av), .v (.int .i64 c)] (.v (.int .i64 (c - (x.Vs.length + (x.Vs.map VKVal.wt).sum) : Nat))) := fun c h1 h2 =>
    T.laws_szKValS_con rfl (by simp only [AV.norefs, AV.noref, Bool.and_true]; exact (norefsM (f := VKVal.av) (l := x.Vs) VKVal.noref)) (szS_T VKVal.shape h1 h2 fun y hy c h1 h2 => szKVal_c y c h1 h2)
  have hKids : ∀ c : Nat, x.Kids.length + (x.Kids.map VKTerm.wt).sum ≤ c → c ≤ 1048576 → PCon Try.prog F.laws_szKTermS [.sl (x.Kids.map VKTerm.av), .v (.int .i64 c)] (.v (.int .i64 (c - (x.Kids.length + (x.Kids.map VKTerm.wt).sum) : Nat))) := fun c h1 h2 =>
    T.laws_szKTermS_con rfl (by simp only [AV.norefs, AV.noref, Bool.and_true]; exact (norefsM (f := VKTerm.av) (l := x.Kids) VKTerm.noref)) (szS_T VKTerm.shape h1 h2 fun y hy c h1 h2 => szKTerm_c y c h1 h2)
  refine T.laws_szKTerm_con rfl (by simp [AV.norefs, AV.noref, VKTerm.noref]) ?_
  simp (disch := omega) only [T.laws_szKTerm, VKTerm.cells, VKTerm.isAgg, VKTerm.storable, VKTerm.noref, VTy.cells, VTy.isAgg, VTy.storable, VTy.noref, VKTerm.eta, VTy.eta, wrapS, lt0, WA, Nat.reduceEqDiff, Nat.reduceAdd, Nat.reduceLT, Nat.reduceLeDiff, Nat.reduceMul, reduceIte, reduceCtorEq, Int.reduceEq, Int.reduceLT, Int.reduceLE, Int.reduceNe]
  refine call_v (szTy_c x.T _ (by omega) (by omega)) ?_
  simp (disch := omega) only [VKTerm.cells, VKTerm.isAgg, VKTerm.storable, VKTerm.noref, VTy.cells, VTy.isAgg, VTy.storable, VTy.noref, VKTerm.eta, VTy.eta, wrapS, lt0, WA, Nat.reduceEqDiff, Nat.reduceAdd, Nat.reduceLT, Nat.reduceLeDiff, Nat.reduceMul, reduceIte, reduceCtorEq, Int.reduceEq, Int.reduceLT, Int.reduceLE, Int.reduceNe]
  refine call_v (hTs _ (by omega) (by omega)) ?_
  simp (disch := omega) only [VKTerm.cells, VKTerm.isAgg, VKTerm.storable, VKTerm.noref, VTy.cells, VTy.isAgg, VTy.storable, VTy.noref, VKTerm.eta, VTy.eta, wrapS, lt0, WA, Nat.reduceEqDiff, Nat.reduceAdd, Nat.reduceLT, Nat.reduceLeDiff, Nat.reduceMul, reduceIte, reduceCtorEq, Int.reduceEq, Int.reduceLT, Int.reduceLE, Int.reduceNe]
  refine call_v (hVs _ (by omega) (by omega)) ?_
  simp (disch := omega) only [VKTerm.cells, VKTerm.isAgg, VKTerm.storable, VKTerm.noref, VTy.cells, VTy.isAgg, VTy.storable, VTy.noref, VKTerm.eta, VTy.eta, wrapS, lt0, WA, Nat.reduceEqDiff, Nat.reduceAdd, Nat.reduceLT, Nat.reduceLeDiff, Nat.reduceMul, reduceIte, reduceCtorEq, Int.reduceEq, Int.reduceLT, Int.reduceLE, Int.reduceNe]
  refine call_v (hKids _ (by omega) (by omega)) ?_
  simp (disch := omega) only [VKTerm.cells, VKTerm.isAgg, VKTerm.storable, VKTerm.noref, VTy.cells, VTy.isAgg, VTy.storable, VTy.noref, VKTerm.eta, VTy.eta, wrapS, lt0, WA, Nat.reduceEqDiff, Nat.reduceAdd, Nat.reduceLT, Nat.reduceLeDiff, Nat.reduceMul, reduceIte, reduceCtorEq, Int.reduceEq, Int.reduceLT, Int.reduceLE, Int.reduceNe]
  first | done | exact congrArg (fun n : Nat => AV.v (.int .i64 (n : Int))) (by omega)
termination_by SizeOf.sizeOf x
decreasing_by all_goals first | exact VKTerm.Kids_lt (by assumption)
theorem toKTerm_c (x : VKTerm) (hb : x.wt ≤ 1048576) : PCon Try.prog F.laws_toKTerm [x.av] x.av := by
  have hw := VKTerm.wt_eq x
  have hTs : PCon Try.prog F.laws_toTyS [.sl (x.Ts.map VTy.av)] (.sl (x.Ts.map VTy.av)) :=
    T.laws_toTyS_con rfl (by simp only [AV.norefs, AV.noref, Bool.and_true]; exact (norefsM (f := VTy.av) (l := x.Ts) VTy.noref)) (toS_T VTy.shape4 rfl (by omega) (by omega) fun y hy => toTy_c y (by have := le_sum VTy.wt hy; omega))
  have hVs : PCon Try.prog F.laws_toKValS [.sl (x.Vs.map VKVal.av)] (.sl (x.Vs.map VKVal.av)) :=
    T.laws_toKValS_con rfl (by simp only [AV.norefs, AV.noref, Bool.and_true]; exact (norefsM (f := VKVal.av) (l := x.Vs) VKVal.noref)) (toS_T VKVal.shape4 rfl (by omega) (by omega) fun y hy => toKVal_c y (by have := le_sum VKVal.wt hy; omega))
  have hKids : PCon Try.prog F.laws_toKTermS [.sl (x.Kids.map VKTerm.av)] (.sl (x.Kids.map VKTerm.av)) :=
    T.laws_toKTermS_con rfl (by simp only [AV.norefs, AV.noref, Bool.and_true]; exact (norefsM (f := VKTerm.av) (l := x.Kids) VKTerm.noref)) (toS_T VKTerm.shape4 rfl (by omega) (by omega) fun y hy => toKTerm_c y (by have := le_sum VKTerm.wt hy; omega))
  refine T.laws_toKTerm_con rfl (by simp [AV.norefs, AV.noref, VKTerm.noref]) ?_
  simp (disch := omega) only [T.laws_toKTerm, VKTerm.cells, VKTerm.isAgg, VKTerm.storable, VKTerm.noref, VTy.cells, VTy.isAgg, VTy.storable, VTy.noref, VKTerm.eta, VTy.eta, wrapS, lt0, WA, Nat.reduceEqDiff, Nat.reduceAdd, Nat.reduceLT, Nat.reduceLeDiff, Nat.reduceMul, reduceIte, reduceCtorEq, Int.reduceEq, Int.reduceLT, Int.reduceLE, Int.reduceNe]
  refine call_p (toTy_c x.T (by omega)) (VTy.noref _) ?_
  simp (disch := omega) only [VKTerm.cells, VKTerm.isAgg, VKTerm.storable, VKTerm.noref, VTy.cells, VTy.isAgg, VTy.storable, VTy.noref, VKTerm.eta, VTy.eta, wrapS, lt0, WA, Nat.reduceEqDiff, Nat.reduceAdd, Nat.reduceLT, Nat.reduceLeDiff, Nat.reduceMul, reduceIte, reduceCtorEq, Int.reduceEq, Int.reduceLT, Int.reduceLE, Int.reduceNe]
  refine call_p hTs (norefsM (f := VTy.av) (l := x.Ts) VTy.noref) ?_
  simp (disch := omega) only [VKTerm.cells, VKTerm.isAgg, VKTerm.storable, VKTerm.noref, VTy.cells, VTy.isAgg, VTy.storable, VTy.noref, VKTerm.eta, VTy.eta, wrapS, lt0, WA, Nat.reduceEqDiff, Nat.reduceAdd, Nat.reduceLT, Nat.reduceLeDiff, Nat.reduceMul, reduceIte, reduceCtorEq, Int.reduceEq, Int.reduceLT, Int.reduceLE, Int.reduceNe]
  refine call_p hVs (norefsM (f := VKVal.av) (l := x.Vs) VKVal.noref) ?_
  simp (disch := omega) only [VKTerm.cells, VKTerm.isAgg, VKTerm.storable, VKTerm.noref, VTy.cells, VTy.isAgg, VTy.storable, VTy.noref, VKTerm.eta, VTy.eta, wrapS, lt0, WA, Nat.reduceEqDiff, Nat.reduceAdd, Nat.reduceLT, Nat.reduceLeDiff, Nat.reduceMul, reduceIte, reduceCtorEq, Int.reduceEq, Int.reduceLT, Int.reduceLE, Int.reduceNe]
  refine call_p hKids (norefsM (f := VKTerm.av) (l := x.Kids) VKTerm.noref) ?_
  simp (disch := omega) only [VKTerm.cells, VKTerm.isAgg, VKTerm.storable, VKTerm.noref, VTy.cells, VTy.isAgg, VTy.storable, VTy.noref, VKTerm.eta, VTy.eta, wrapS, lt0, WA, Nat.reduceEqDiff, Nat.reduceAdd, Nat.reduceLT, Nat.reduceLeDiff, Nat.reduceMul, reduceIte, reduceCtorEq, Int.reduceEq, Int.reduceLT, Int.reduceLE, Int.reduceNe]
termination_by SizeOf.sizeOf x
decreasing_by all_goals first | exact VKTerm.Kids_lt (by assumption)
theorem eqKTerm_c (x : VKTerm) (hb : x.wt ≤ 1048576) : PCon Try.prog F.laws_eqKTerm [x.av, x.av] (.v (.bool true)) := by
  have hw := VKTerm.wt_eq x
  have hTs : PCon Try.prog F.laws_eqTyS [.sl (x.Ts.map VTy.av), .sl (x.Ts.map VTy.av)] (.v (.bool true)) :=
    T.laws_eqTyS_con rfl (by simp only [AV.norefs, AV.noref, Bool.and_true, Bool.and_self]; exact (norefsM (f := VTy.av) (l := x.Ts) VTy.noref)) (eqS_T VTy.shape (by omega) fun y hy => eqTy_c y (by have := le_sum VTy.wt hy; omega))
  have hVs : PCon Try.prog F.laws_eqKValS [.sl (x.Vs.map VKVal.av), .sl (x.Vs.map VKVal.av)] (.v (.bool true)) :=
    T.laws_eqKValS_con rfl (by simp only [AV.norefs, AV.noref, Bool.and_true, Bool.and_self]; exact (norefsM (f := VKVal.av) (l := x.Vs) VKVal.noref)) (eqS_T VKVal.shape (by omega) fun y hy => eqKVal_c y (by have := le_sum VKVal.wt hy; omega))
  have hKids : PCon Try.prog F.laws_eqKTermS [.sl (x.Kids.map VKTerm.av), .sl (x.Kids.map VKTerm.av)] (.v (.bool true)) :=
    T.laws_eqKTermS_con rfl (by simp only [AV.norefs, AV.noref, Bool.and_true, Bool.and_self]; exact (norefsM (f := VKTerm.av) (l := x.Kids) VKTerm.noref)) (eqS_T VKTerm.shape (by omega) fun y hy => eqKTerm_c y (by have := le_sum VKTerm.wt hy; omega))
  refine T.laws_eqKTerm_con rfl (by simp [AV.norefs, AV.noref, VKTerm.noref]) ?_
  simp (disch := omega) only [T.laws_eqKTerm, VKTerm.cells, VKTerm.isAgg, VKTerm.storable, VKTerm.noref, VTy.cells, VTy.isAgg, VTy.storable, VTy.noref, VKTerm.eta, VTy.eta, wrapS, lt0, WA, Nat.reduceEqDiff, Nat.reduceAdd, Nat.reduceLT, Nat.reduceLeDiff, Nat.reduceMul, reduceIte, reduceCtorEq, Int.reduceEq, Int.reduceLT, Int.reduceLE, Int.reduceNe]
  refine call_v (eqTy_c x.T (by omega)) ?_
  simp (disch := omega) only [VKTerm.cells, VKTerm.isAgg, VKTerm.storable, VKTerm.noref, VTy.cells, VTy.isAgg, VTy.storable, VTy.noref, VKTerm.eta, VTy.eta, wrapS, lt0, WA, Nat.reduceEqDiff, Nat.reduceAdd, Nat.reduceLT, Nat.reduceLeDiff, Nat.reduceMul, reduceIte, reduceCtorEq, Int.reduceEq, Int.reduceLT, Int.reduceLE, Int.reduceNe]
  refine call_v hTs ?_
  simp (disch := omega) only [VKTerm.cells, VKTerm.isAgg, VKTerm.storable, VKTerm.noref, VTy.cells, VTy.isAgg, VTy.storable, VTy.noref, VKTerm.eta, VTy.eta, wrapS, lt0, WA, Nat.reduceEqDiff, Nat.reduceAdd, Nat.reduceLT, Nat.reduceLeDiff, Nat.reduceMul, reduceIte, reduceCtorEq, Int.reduceEq, Int.reduceLT, Int.reduceLE, Int.reduceNe]
  refine call_v hVs ?_
  simp (disch := omega) only [VKTerm.cells, VKTerm.isAgg, VKTerm.storable, VKTerm.noref, VTy.cells, VTy.isAgg, VTy.storable, VTy.noref, VKTerm.eta, VTy.eta, wrapS, lt0, WA, Nat.reduceEqDiff, Nat.reduceAdd, Nat.reduceLT, Nat.reduceLeDiff, Nat.reduceMul, reduceIte, reduceCtorEq, Int.reduceEq, Int.reduceLT, Int.reduceLE, Int.reduceNe]
  refine call_v hKids ?_
  simp (disch := omega) only [VKTerm.cells, VKTerm.isAgg, VKTerm.storable, VKTerm.noref, VTy.cells, VTy.isAgg, VTy.storable, VTy.noref, VKTerm.eta, VTy.eta, wrapS, lt0, WA, Nat.reduceEqDiff, Nat.reduceAdd, Nat.reduceLT, Nat.reduceLeDiff, Nat.reduceMul, reduceIte, reduceCtorEq, Int.reduceEq, Int.reduceLT, Int.reduceLE, Int.reduceNe]
termination_by SizeOf.sizeOf x
decreasing_by all_goals first | exact VKTerm.Kids_lt (by assumption)
end Go.Proofs.Ab
