/-
  THE LAWS' OWN HELPERS, by their types (printed by wip/tool/helpers.py).
-/
import Derived.Test.YtiakemdoealcoaaGreatDoorST
import Derived.Test.YtiakemdoealcoaaGreatDoorGM
set_option linter.unusedVariables false
set_option linter.unusedSimpArgs false
set_option linter.defProp false
namespace Go.Proofs.Ab
open Go.Ab
set_option maxRecDepth 100000
theorem szPat_c (x : VPat) (b : Nat) (hb : x.wt ≤ b) (hb1 : b ≤ 1048576) : PCon Tryz.prog F.laws_szPat [x.av, .v (.int .i64 b)] (.v (.int .i64 (b - x.wt : Nat))) := by
  have hw := VPat.wt_eq x
  have hKids : ∀ c : Nat, x.Kids.length + (x.Kids.map VPat.wt).sum ≤ c → c ≤ 1048576 → PCon Tryz.prog F.laws_szPatS [.sl (x.Kids.map VPat.av), .v (.int .i64 c)] (.v (.int .i64 (c - (x.Kids.length + (x.Kids.map VPat.wt).sum) : Nat))) := fun c h1 h2 =>
    T.laws_szPatS_con rfl (by simp only [AV.norefs, AV.noref, Bool.and_true]; exact (norefsM (f := VPat.av) (l := x.Kids) VPat.noref)) (szS_T VPat.shape h1 h2 fun y hy c h1 h2 => szPat_c y c h1 h2)
  refine T.laws_szPat_con rfl (by simp [AV.norefs, AV.noref, VPat.noref]) ?_
  simp (disch := omega) only [T.laws_szPat, VPat.cells, VPat.isAgg, VPat.storable, VPat.noref, VPat.eta, wrapS, lt0, WA, Nat.reduceEqDiff, Nat.reduceAdd, Nat.reduceLT, Nat.reduceLeDiff, Nat.reduceMul, reduceIte, reduceCtorEq, Int.reduceEq, Int.reduceLT, Int.reduceLE, Int.reduceNe]
  refine call_v (hKids _ (by omega) (by omega)) ?_
  simp (disch := omega) only [VPat.cells, VPat.isAgg, VPat.storable, VPat.noref, VPat.eta, wrapS, lt0, WA, Nat.reduceEqDiff, Nat.reduceAdd, Nat.reduceLT, Nat.reduceLeDiff, Nat.reduceMul, reduceIte, reduceCtorEq, Int.reduceEq, Int.reduceLT, Int.reduceLE, Int.reduceNe]
  first | done | exact congrArg (fun n : Nat => AV.v (.int .i64 (n : Int))) (by omega)
termination_by SizeOf.sizeOf x
decreasing_by all_goals first | exact VPat.Kids_lt (by assumption)
theorem toPat_c (x : VPat) (hb : x.wt ≤ 1048576) : PCon Tryz.prog F.laws_toPat [x.av] x.av := by
  have hw := VPat.wt_eq x
  have hKids : PCon Tryz.prog F.laws_toPatS [.sl (x.Kids.map VPat.av)] (.sl (x.Kids.map VPat.av)) :=
    T.laws_toPatS_con rfl (by simp only [AV.norefs, AV.noref, Bool.and_true]; exact (norefsM (f := VPat.av) (l := x.Kids) VPat.noref)) (toS_T VPat.shape4 rfl (by omega) (by omega) fun y hy => toPat_c y (by have := le_sum VPat.wt hy; omega))
  refine T.laws_toPat_con rfl (by simp [AV.norefs, AV.noref, VPat.noref]) ?_
  simp (disch := omega) only [T.laws_toPat, VPat.cells, VPat.isAgg, VPat.storable, VPat.noref, VPat.eta, wrapS, lt0, WA, Nat.reduceEqDiff, Nat.reduceAdd, Nat.reduceLT, Nat.reduceLeDiff, Nat.reduceMul, reduceIte, reduceCtorEq, Int.reduceEq, Int.reduceLT, Int.reduceLE, Int.reduceNe]
  refine call_p hKids (norefsM (f := VPat.av) (l := x.Kids) VPat.noref) ?_
  simp (disch := omega) only [VPat.cells, VPat.isAgg, VPat.storable, VPat.noref, VPat.eta, wrapS, lt0, WA, Nat.reduceEqDiff, Nat.reduceAdd, Nat.reduceLT, Nat.reduceLeDiff, Nat.reduceMul, reduceIte, reduceCtorEq, Int.reduceEq, Int.reduceLT, Int.reduceLE, Int.reduceNe]
termination_by SizeOf.sizeOf x
decreasing_by all_goals first | exact VPat.Kids_lt (by assumption)
theorem eqPat_c (x : VPat) (hb : x.wt ≤ 1048576) : PCon Tryz.prog F.laws_eqPat [x.av, x.av] (.v (.bool true)) := by
  have hw := VPat.wt_eq x
  have hKids : PCon Tryz.prog F.laws_eqPatS [.sl (x.Kids.map VPat.av), .sl (x.Kids.map VPat.av)] (.v (.bool true)) :=
    T.laws_eqPatS_con rfl (by simp only [AV.norefs, AV.noref, Bool.and_true, Bool.and_self]; exact (norefsM (f := VPat.av) (l := x.Kids) VPat.noref)) (eqS_T VPat.shape (by omega) fun y hy => eqPat_c y (by have := le_sum VPat.wt hy; omega))
  refine T.laws_eqPat_con rfl (by simp [AV.norefs, AV.noref, VPat.noref]) ?_
  simp (disch := omega) only [T.laws_eqPat, VPat.cells, VPat.isAgg, VPat.storable, VPat.noref, VPat.eta, wrapS, lt0, WA, Nat.reduceEqDiff, Nat.reduceAdd, Nat.reduceLT, Nat.reduceLeDiff, Nat.reduceMul, reduceIte, reduceCtorEq, Int.reduceEq, Int.reduceLT, Int.reduceLE, Int.reduceNe]
  refine call_v hKids ?_
  simp (disch := omega) only [VPat.cells, VPat.isAgg, VPat.storable, VPat.noref, VPat.eta, wrapS, lt0, WA, Nat.reduceEqDiff, Nat.reduceAdd, Nat.reduceLT, Nat.reduceLeDiff, Nat.reduceMul, reduceIte, reduceCtorEq, Int.reduceEq, Int.reduceLT, Int.reduceLE, Int.reduceNe]
termination_by SizeOf.sizeOf x
decreasing_by all_goals first | exact VPat.Kids_lt (by assumption)
mutual
theorem szExp_c (x : VExp) (b : Nat) (hb : x.wt ≤ b) (hb1 : b ≤ 1048576) : PCon Tryz.prog F.laws_szExp [x.av, .v (.int .i64 b)] (.v (.int .i64 (b - x.wt : Nat))) := by
  have hw := VExp.wt_eq x
  have hKids : ∀ c : Nat, x.Kids.length + (x.Kids.map VExp.wt).sum ≤ c → c ≤ 1048576 → PCon Tryz.prog F.laws_szExpS [.sl (x.Kids.map VExp.av), .v (.int .i64 c)] (.v (.int .i64 (c - (x.Kids.length + (x.Kids.map VExp.wt).sum) : Nat))) := fun c h1 h2 =>
    T.laws_szExpS_con rfl (by simp only [AV.norefs, AV.noref, Bool.and_true]; exact (norefsM (f := VExp.av) (l := x.Kids) VExp.noref)) (szS_T VExp.shape h1 h2 fun y hy c h1 h2 => szExp_c y c h1 h2)
  have hArms : ∀ c : Nat, x.Arms.length + (x.Arms.map VArm.wt).sum ≤ c → c ≤ 1048576 → PCon Tryz.prog F.laws_szArmS [.sl (x.Arms.map VArm.av), .v (.int .i64 c)] (.v (.int .i64 (c - (x.Arms.length + (x.Arms.map VArm.wt).sum) : Nat))) := fun c h1 h2 =>
    T.laws_szArmS_con rfl (by simp only [AV.norefs, AV.noref, Bool.and_true]; exact (norefsM (f := VArm.av) (l := x.Arms) VArm.noref)) (szS_T VArm.shape h1 h2 fun y hy c h1 h2 => szArm_c y c h1 h2)
  refine T.laws_szExp_con rfl (by simp [AV.norefs, AV.noref, VExp.noref]) ?_
  simp (disch := omega) only [T.laws_szExp, VExp.cells, VExp.isAgg, VExp.storable, VExp.noref, VExp.eta, wrapS, lt0, WA, Nat.reduceEqDiff, Nat.reduceAdd, Nat.reduceLT, Nat.reduceLeDiff, Nat.reduceMul, reduceIte, reduceCtorEq, Int.reduceEq, Int.reduceLT, Int.reduceLE, Int.reduceNe]
  refine call_v (hKids _ (by omega) (by omega)) ?_
  simp (disch := omega) only [VExp.cells, VExp.isAgg, VExp.storable, VExp.noref, VExp.eta, wrapS, lt0, WA, Nat.reduceEqDiff, Nat.reduceAdd, Nat.reduceLT, Nat.reduceLeDiff, Nat.reduceMul, reduceIte, reduceCtorEq, Int.reduceEq, Int.reduceLT, Int.reduceLE, Int.reduceNe]
  refine call_v (hArms _ (by omega) (by omega)) ?_
  simp (disch := omega) only [VExp.cells, VExp.isAgg, VExp.storable, VExp.noref, VExp.eta, wrapS, lt0, WA, Nat.reduceEqDiff, Nat.reduceAdd, Nat.reduceLT, Nat.reduceLeDiff, Nat.reduceMul, reduceIte, reduceCtorEq, Int.reduceEq, Int.reduceLT, Int.reduceLE, Int.reduceNe]
  first | done | exact congrArg (fun n : Nat => AV.v (.int .i64 (n : Int))) (by omega)
termination_by SizeOf.sizeOf x
decreasing_by all_goals first | exact VExp.Kids_lt (by assumption) | exact VExp.Arms_lt (by assumption) | exact VArm.E_lt _
theorem szArm_c (x : VArm) (b : Nat) (hb : x.wt ≤ b) (hb1 : b ≤ 1048576) : PCon Tryz.prog F.laws_szArm [x.av, .v (.int .i64 b)] (.v (.int .i64 (b - x.wt : Nat))) := by
  have hw := VArm.wt_eq x
  refine T.laws_szArm_con rfl (by simp [AV.norefs, AV.noref, VArm.noref]) ?_
  simp (disch := omega) only [T.laws_szArm, VArm.cells, VArm.isAgg, VArm.storable, VArm.noref, VExp.cells, VExp.isAgg, VExp.storable, VExp.noref, VPat.cells, VPat.isAgg, VPat.storable, VPat.noref, VArm.eta, VExp.eta, VPat.eta, wrapS, lt0, WA, Nat.reduceEqDiff, Nat.reduceAdd, Nat.reduceLT, Nat.reduceLeDiff, Nat.reduceMul, reduceIte, reduceCtorEq, Int.reduceEq, Int.reduceLT, Int.reduceLE, Int.reduceNe]
  refine call_v (szPat_c x.P _ (by omega) (by omega)) ?_
  simp (disch := omega) only [VArm.cells, VArm.isAgg, VArm.storable, VArm.noref, VExp.cells, VExp.isAgg, VExp.storable, VExp.noref, VPat.cells, VPat.isAgg, VPat.storable, VPat.noref, VArm.eta, VExp.eta, VPat.eta, wrapS, lt0, WA, Nat.reduceEqDiff, Nat.reduceAdd, Nat.reduceLT, Nat.reduceLeDiff, Nat.reduceMul, reduceIte, reduceCtorEq, Int.reduceEq, Int.reduceLT, Int.reduceLE, Int.reduceNe]
  refine call_v (szExp_c x.E _ (by omega) (by omega)) ?_
  simp (disch := omega) only [VArm.cells, VArm.isAgg, VArm.storable, VArm.noref, VExp.cells, VExp.isAgg, VExp.storable, VExp.noref, VPat.cells, VPat.isAgg, VPat.storable, VPat.noref, VArm.eta, VExp.eta, VPat.eta, wrapS, lt0, WA, Nat.reduceEqDiff, Nat.reduceAdd, Nat.reduceLT, Nat.reduceLeDiff, Nat.reduceMul, reduceIte, reduceCtorEq, Int.reduceEq, Int.reduceLT, Int.reduceLE, Int.reduceNe]
  first | done | exact congrArg (fun n : Nat => AV.v (.int .i64 (n : Int))) (by omega)
termination_by SizeOf.sizeOf x
decreasing_by all_goals first | exact VExp.Kids_lt (by assumption) | exact VExp.Arms_lt (by assumption) | exact VArm.E_lt _
end
mutual
theorem toExp_c (x : VExp) (hb : x.wt ≤ 1048576) : PCon Tryz.prog F.laws_toExp [x.av] x.av := by
  have hw := VExp.wt_eq x
  have hKids : PCon Tryz.prog F.laws_toExpS [.sl (x.Kids.map VExp.av)] (.sl (x.Kids.map VExp.av)) :=
    T.laws_toExpS_con rfl (by simp only [AV.norefs, AV.noref, Bool.and_true]; exact (norefsM (f := VExp.av) (l := x.Kids) VExp.noref)) (toS_T VExp.shape4 rfl (by omega) (by omega) fun y hy => toExp_c y (by have := le_sum VExp.wt hy; omega))
  have hArms : PCon Tryz.prog F.laws_toArmS [.sl (x.Arms.map VArm.av)] (.sl (x.Arms.map VArm.av)) :=
    T.laws_toArmS_con rfl (by simp only [AV.norefs, AV.noref, Bool.and_true]; exact (norefsM (f := VArm.av) (l := x.Arms) VArm.noref)) (toS_T VArm.shape4 rfl (by omega) (by omega) fun y hy => toArm_c y (by have := le_sum VArm.wt hy; omega))
  refine T.laws_toExp_con rfl (by simp [AV.norefs, AV.noref, VExp.noref]) ?_
  simp (disch := omega) only [T.laws_toExp, VExp.cells, VExp.isAgg, VExp.storable, VExp.noref, VExp.eta, wrapS, lt0, WA, Nat.reduceEqDiff, Nat.reduceAdd, Nat.reduceLT, Nat.reduceLeDiff, Nat.reduceMul, reduceIte, reduceCtorEq, Int.reduceEq, Int.reduceLT, Int.reduceLE, Int.reduceNe]
  refine call_p hKids (norefsM (f := VExp.av) (l := x.Kids) VExp.noref) ?_
  simp (disch := omega) only [VExp.cells, VExp.isAgg, VExp.storable, VExp.noref, VExp.eta, wrapS, lt0, WA, Nat.reduceEqDiff, Nat.reduceAdd, Nat.reduceLT, Nat.reduceLeDiff, Nat.reduceMul, reduceIte, reduceCtorEq, Int.reduceEq, Int.reduceLT, Int.reduceLE, Int.reduceNe]
  refine call_p hArms (norefsM (f := VArm.av) (l := x.Arms) VArm.noref) ?_
  simp (disch := omega) only [VExp.cells, VExp.isAgg, VExp.storable, VExp.noref, VExp.eta, wrapS, lt0, WA, Nat.reduceEqDiff, Nat.reduceAdd, Nat.reduceLT, Nat.reduceLeDiff, Nat.reduceMul, reduceIte, reduceCtorEq, Int.reduceEq, Int.reduceLT, Int.reduceLE, Int.reduceNe]
termination_by SizeOf.sizeOf x
decreasing_by all_goals first | exact VExp.Kids_lt (by assumption) | exact VExp.Arms_lt (by assumption) | exact VArm.E_lt _
theorem toArm_c (x : VArm) (hb : x.wt ≤ 1048576) : PCon Tryz.prog F.laws_toArm [x.av] x.av := by
  have hw := VArm.wt_eq x
  refine T.laws_toArm_con rfl (by simp [AV.norefs, AV.noref, VArm.noref]) ?_
  simp (disch := omega) only [T.laws_toArm, VArm.cells, VArm.isAgg, VArm.storable, VArm.noref, VExp.cells, VExp.isAgg, VExp.storable, VExp.noref, VPat.cells, VPat.isAgg, VPat.storable, VPat.noref, VArm.eta, VExp.eta, VPat.eta, wrapS, lt0, WA, Nat.reduceEqDiff, Nat.reduceAdd, Nat.reduceLT, Nat.reduceLeDiff, Nat.reduceMul, reduceIte, reduceCtorEq, Int.reduceEq, Int.reduceLT, Int.reduceLE, Int.reduceNe]
  refine call_p (toPat_c x.P (by omega)) (VPat.noref _) ?_
  simp (disch := omega) only [VArm.cells, VArm.isAgg, VArm.storable, VArm.noref, VExp.cells, VExp.isAgg, VExp.storable, VExp.noref, VPat.cells, VPat.isAgg, VPat.storable, VPat.noref, VArm.eta, VExp.eta, VPat.eta, wrapS, lt0, WA, Nat.reduceEqDiff, Nat.reduceAdd, Nat.reduceLT, Nat.reduceLeDiff, Nat.reduceMul, reduceIte, reduceCtorEq, Int.reduceEq, Int.reduceLT, Int.reduceLE, Int.reduceNe]
  refine call_p (toExp_c x.E (by omega)) (VExp.noref _) ?_
  simp (disch := omega) only [VArm.cells, VArm.isAgg, VArm.storable, VArm.noref, VExp.cells, VExp.isAgg, VExp.storable, VExp.noref, VPat.cells, VPat.isAgg, VPat.storable, VPat.noref, VArm.eta, VExp.eta, VPat.eta, wrapS, lt0, WA, Nat.reduceEqDiff, Nat.reduceAdd, Nat.reduceLT, Nat.reduceLeDiff, Nat.reduceMul, reduceIte, reduceCtorEq, Int.reduceEq, Int.reduceLT, Int.reduceLE, Int.reduceNe]
termination_by SizeOf.sizeOf x
decreasing_by all_goals first | exact VExp.Kids_lt (by assumption) | exact VExp.Arms_lt (by assumption) | exact VArm.E_lt _
end
mutual
theorem eqExp_c (x : VExp) (hb : x.wt ≤ 1048576) : PCon Tryz.prog F.laws_eqExp [x.av, x.av] (.v (.bool true)) := by
  have hw := VExp.wt_eq x
  have hKids : PCon Tryz.prog F.laws_eqExpS [.sl (x.Kids.map VExp.av), .sl (x.Kids.map VExp.av)] (.v (.bool true)) :=
    T.laws_eqExpS_con rfl (by simp only [AV.norefs, AV.noref, Bool.and_true, Bool.and_self]; exact (norefsM (f := VExp.av) (l := x.Kids) VExp.noref)) (eqS_T VExp.shape (by omega) fun y hy => eqExp_c y (by have := le_sum VExp.wt hy; omega))
  have hArms : PCon Tryz.prog F.laws_eqArmS [.sl (x.Arms.map VArm.av), .sl (x.Arms.map VArm.av)] (.v (.bool true)) :=
    T.laws_eqArmS_con rfl (by simp only [AV.norefs, AV.noref, Bool.and_true, Bool.and_self]; exact (norefsM (f := VArm.av) (l := x.Arms) VArm.noref)) (eqS_T VArm.shape (by omega) fun y hy => eqArm_c y (by have := le_sum VArm.wt hy; omega))
  refine T.laws_eqExp_con rfl (by simp [AV.norefs, AV.noref, VExp.noref]) ?_
  simp (disch := omega) only [T.laws_eqExp, VExp.cells, VExp.isAgg, VExp.storable, VExp.noref, VExp.eta, wrapS, lt0, WA, Nat.reduceEqDiff, Nat.reduceAdd, Nat.reduceLT, Nat.reduceLeDiff, Nat.reduceMul, reduceIte, reduceCtorEq, Int.reduceEq, Int.reduceLT, Int.reduceLE, Int.reduceNe]
  refine call_v hKids ?_
  simp (disch := omega) only [VExp.cells, VExp.isAgg, VExp.storable, VExp.noref, VExp.eta, wrapS, lt0, WA, Nat.reduceEqDiff, Nat.reduceAdd, Nat.reduceLT, Nat.reduceLeDiff, Nat.reduceMul, reduceIte, reduceCtorEq, Int.reduceEq, Int.reduceLT, Int.reduceLE, Int.reduceNe]
  refine call_v hArms ?_
  simp (disch := omega) only [VExp.cells, VExp.isAgg, VExp.storable, VExp.noref, VExp.eta, wrapS, lt0, WA, Nat.reduceEqDiff, Nat.reduceAdd, Nat.reduceLT, Nat.reduceLeDiff, Nat.reduceMul, reduceIte, reduceCtorEq, Int.reduceEq, Int.reduceLT, Int.reduceLE, Int.reduceNe]
termination_by SizeOf.sizeOf x
decreasing_by all_goals first | exact VExp.Kids_lt (by assumption) | exact VExp.Arms_lt (by assumption) | exact VArm.E_lt _
theorem eqArm_c (x : VArm) (hb : x.wt ≤ 1048576) : PCon Tryz.prog F.laws_eqArm [x.av, x.av] (.v (.bool true)) := by
  have hw := VArm.wt_eq x
  refine T.laws_eqArm_con rfl (by simp [AV.norefs, AV.noref, VArm.noref]) ?_
  simp (disch := omega) only [T.laws_eqArm, VArm.cells, VArm.isAgg, VArm.storable, VArm.noref, VExp.cells, VExp.isAgg, VExp.storable, VExp.noref, VPat.cells, VPat.isAgg, VPat.storable, VPat.noref, VArm.eta, VExp.eta, VPat.eta, wrapS, lt0, WA, Nat.reduceEqDiff, Nat.reduceAdd, Nat.reduceLT, Nat.reduceLeDiff, Nat.reduceMul, reduceIte, reduceCtorEq, Int.reduceEq, Int.reduceLT, Int.reduceLE, Int.reduceNe]
  refine call_v (eqPat_c x.P (by omega)) ?_
  simp (disch := omega) only [VArm.cells, VArm.isAgg, VArm.storable, VArm.noref, VExp.cells, VExp.isAgg, VExp.storable, VExp.noref, VPat.cells, VPat.isAgg, VPat.storable, VPat.noref, VArm.eta, VExp.eta, VPat.eta, wrapS, lt0, WA, Nat.reduceEqDiff, Nat.reduceAdd, Nat.reduceLT, Nat.reduceLeDiff, Nat.reduceMul, reduceIte, reduceCtorEq, Int.reduceEq, Int.reduceLT, Int.reduceLE, Int.reduceNe]
  refine call_v (eqExp_c x.E (by omega)) ?_
  simp (disch := omega) only [VArm.cells, VArm.isAgg, VArm.storable, VArm.noref, VExp.cells, VExp.isAgg, VExp.storable, VExp.noref, VPat.cells, VPat.isAgg, VPat.storable, VPat.noref, VArm.eta, VExp.eta, VPat.eta, wrapS, lt0, WA, Nat.reduceEqDiff, Nat.reduceAdd, Nat.reduceLT, Nat.reduceLeDiff, Nat.reduceMul, reduceIte, reduceCtorEq, Int.reduceEq, Int.reduceLT, Int.reduceLE, Int.reduceNe]
termination_by SizeOf.sizeOf x
decreasing_by all_goals first | exact VExp.Kids_lt (by assumption) | exact VExp.Arms_lt (by assumption) | exact VArm.E_lt _
end
theorem szTypeExp_c (x : VTypeExp) (b : Nat) (hb : x.wt ≤ b) (hb1 : b ≤ 1048576) : PCon Tryz.prog F.laws_szTypeExp [x.av, .v (.int .i64 b)] (.v (.int .i64 (b - x.wt : Nat))) := by
  have hw := VTypeExp.wt_eq x
  have hKids : ∀ c : Nat, x.Kids.length + (x.Kids.map VTypeExp.wt).sum ≤ c → c ≤ 1048576 → PCon Tryz.prog F.laws_szTypeExpS [.sl (x.Kids.map VTypeExp.av), .v (.int .i64 c)] (.v (.int .i64 (c - (x.Kids.length + (x.Kids.map VTypeExp.wt).sum) : Nat))) := fun c h1 h2 =>
    T.laws_szTypeExpS_con rfl (by simp only [AV.norefs, AV.noref, Bool.and_true]; exact (norefsM (f := VTypeExp.av) (l := x.Kids) VTypeExp.noref)) (szS_T VTypeExp.shape h1 h2 fun y hy c h1 h2 => szTypeExp_c y c h1 h2)
  refine T.laws_szTypeExp_con rfl (by simp [AV.norefs, AV.noref, VTypeExp.noref]) ?_
  simp (disch := omega) only [T.laws_szTypeExp, VTypeExp.cells, VTypeExp.isAgg, VTypeExp.storable, VTypeExp.noref, VTypeExp.eta, wrapS, lt0, WA, Nat.reduceEqDiff, Nat.reduceAdd, Nat.reduceLT, Nat.reduceLeDiff, Nat.reduceMul, reduceIte, reduceCtorEq, Int.reduceEq, Int.reduceLT, Int.reduceLE, Int.reduceNe]
  refine call_v (hKids _ (by omega) (by omega)) ?_
  simp (disch := omega) only [VTypeExp.cells, VTypeExp.isAgg, VTypeExp.storable, VTypeExp.noref, VTypeExp.eta, wrapS, lt0, WA, Nat.reduceEqDiff, Nat.reduceAdd, Nat.reduceLT, Nat.reduceLeDiff, Nat.reduceMul, reduceIte, reduceCtorEq, Int.reduceEq, Int.reduceLT, Int.reduceLE, Int.reduceNe]
  first | done | exact congrArg (fun n : Nat => AV.v (.int .i64 (n : Int))) (by omega)
termination_by SizeOf.sizeOf x
decreasing_by all_goals first | exact VTypeExp.Kids_lt (by assumption)
theorem toTypeExp_c (x : VTypeExp) (hb : x.wt ≤ 1048576) : PCon Tryz.prog F.laws_toTypeExp [x.av] x.av := by
  have hw := VTypeExp.wt_eq x
  have hKids : PCon Tryz.prog F.laws_toTypeExpS [.sl (x.Kids.map VTypeExp.av)] (.sl (x.Kids.map VTypeExp.av)) :=
    T.laws_toTypeExpS_con rfl (by simp only [AV.norefs, AV.noref, Bool.and_true]; exact (norefsM (f := VTypeExp.av) (l := x.Kids) VTypeExp.noref)) (toS_T VTypeExp.shape4 rfl (by omega) (by omega) fun y hy => toTypeExp_c y (by have := le_sum VTypeExp.wt hy; omega))
  refine T.laws_toTypeExp_con rfl (by simp [AV.norefs, AV.noref, VTypeExp.noref]) ?_
  simp (disch := omega) only [T.laws_toTypeExp, VTypeExp.cells, VTypeExp.isAgg, VTypeExp.storable, VTypeExp.noref, VTypeExp.eta, wrapS, lt0, WA, Nat.reduceEqDiff, Nat.reduceAdd, Nat.reduceLT, Nat.reduceLeDiff, Nat.reduceMul, reduceIte, reduceCtorEq, Int.reduceEq, Int.reduceLT, Int.reduceLE, Int.reduceNe]
  refine call_p hKids (norefsM (f := VTypeExp.av) (l := x.Kids) VTypeExp.noref) ?_
  simp (disch := omega) only [VTypeExp.cells, VTypeExp.isAgg, VTypeExp.storable, VTypeExp.noref, VTypeExp.eta, wrapS, lt0, WA, Nat.reduceEqDiff, Nat.reduceAdd, Nat.reduceLT, Nat.reduceLeDiff, Nat.reduceMul, reduceIte, reduceCtorEq, Int.reduceEq, Int.reduceLT, Int.reduceLE, Int.reduceNe]
termination_by SizeOf.sizeOf x
decreasing_by all_goals first | exact VTypeExp.Kids_lt (by assumption)
theorem eqTypeExp_c (x : VTypeExp) (hb : x.wt ≤ 1048576) : PCon Tryz.prog F.laws_eqTypeExp [x.av, x.av] (.v (.bool true)) := by
  have hw := VTypeExp.wt_eq x
  have hKids : PCon Tryz.prog F.laws_eqTypeExpS [.sl (x.Kids.map VTypeExp.av), .sl (x.Kids.map VTypeExp.av)] (.v (.bool true)) :=
    T.laws_eqTypeExpS_con rfl (by simp only [AV.norefs, AV.noref, Bool.and_true, Bool.and_self]; exact (norefsM (f := VTypeExp.av) (l := x.Kids) VTypeExp.noref)) (eqS_T VTypeExp.shape (by omega) fun y hy => eqTypeExp_c y (by have := le_sum VTypeExp.wt hy; omega))
  refine T.laws_eqTypeExp_con rfl (by simp [AV.norefs, AV.noref, VTypeExp.noref]) ?_
  simp (disch := omega) only [T.laws_eqTypeExp, VTypeExp.cells, VTypeExp.isAgg, VTypeExp.storable, VTypeExp.noref, VTypeExp.eta, wrapS, lt0, WA, Nat.reduceEqDiff, Nat.reduceAdd, Nat.reduceLT, Nat.reduceLeDiff, Nat.reduceMul, reduceIte, reduceCtorEq, Int.reduceEq, Int.reduceLT, Int.reduceLE, Int.reduceNe]
  refine call_v hKids ?_
  simp (disch := omega) only [VTypeExp.cells, VTypeExp.isAgg, VTypeExp.storable, VTypeExp.noref, VTypeExp.eta, wrapS, lt0, WA, Nat.reduceEqDiff, Nat.reduceAdd, Nat.reduceLT, Nat.reduceLeDiff, Nat.reduceMul, reduceIte, reduceCtorEq, Int.reduceEq, Int.reduceLT, Int.reduceLE, Int.reduceNe]
termination_by SizeOf.sizeOf x
decreasing_by all_goals first | exact VTypeExp.Kids_lt (by assumption)
theorem szCtor_c (x : VCtor) (b : Nat) (hb : x.wt ≤ b) (hb1 : b ≤ 1048576) : PCon Tryz.prog F.laws_szCtor [x.av, .v (.int .i64 b)] (.v (.int .i64 (b - x.wt : Nat))) := by
  have hw := VCtor.wt_eq x
  refine T.laws_szCtor_con rfl (by simp [AV.norefs, AV.noref, VCtor.noref]) ?_
  simp (disch := omega) only [T.laws_szCtor, VCtor.cells, VCtor.isAgg, VCtor.storable, VCtor.noref, VTypeExp.cells, VTypeExp.isAgg, VTypeExp.storable, VTypeExp.noref, VCtor.eta, VTypeExp.eta, wrapS, lt0, WA, Nat.reduceEqDiff, Nat.reduceAdd, Nat.reduceLT, Nat.reduceLeDiff, Nat.reduceMul, reduceIte, reduceCtorEq, Int.reduceEq, Int.reduceLT, Int.reduceLE, Int.reduceNe]
  refine call_v (szTypeExp_c x.Arg _ (by omega) (by omega)) ?_
  simp (disch := omega) only [VCtor.cells, VCtor.isAgg, VCtor.storable, VCtor.noref, VTypeExp.cells, VTypeExp.isAgg, VTypeExp.storable, VTypeExp.noref, VCtor.eta, VTypeExp.eta, wrapS, lt0, WA, Nat.reduceEqDiff, Nat.reduceAdd, Nat.reduceLT, Nat.reduceLeDiff, Nat.reduceMul, reduceIte, reduceCtorEq, Int.reduceEq, Int.reduceLT, Int.reduceLE, Int.reduceNe]
  first | done | exact congrArg (fun n : Nat => AV.v (.int .i64 (n : Int))) (by omega)
theorem toCtor_c (x : VCtor) (hb : x.wt ≤ 1048576) : PCon Tryz.prog F.laws_toCtor [x.av] x.av := by
  have hw := VCtor.wt_eq x
  refine T.laws_toCtor_con rfl (by simp [AV.norefs, AV.noref, VCtor.noref]) ?_
  simp (disch := omega) only [T.laws_toCtor, VCtor.cells, VCtor.isAgg, VCtor.storable, VCtor.noref, VTypeExp.cells, VTypeExp.isAgg, VTypeExp.storable, VTypeExp.noref, VCtor.eta, VTypeExp.eta, wrapS, lt0, WA, Nat.reduceEqDiff, Nat.reduceAdd, Nat.reduceLT, Nat.reduceLeDiff, Nat.reduceMul, reduceIte, reduceCtorEq, Int.reduceEq, Int.reduceLT, Int.reduceLE, Int.reduceNe]
  refine call_p (toTypeExp_c x.Arg (by omega)) (VTypeExp.noref _) ?_
  simp (disch := omega) only [VCtor.cells, VCtor.isAgg, VCtor.storable, VCtor.noref, VTypeExp.cells, VTypeExp.isAgg, VTypeExp.storable, VTypeExp.noref, VCtor.eta, VTypeExp.eta, wrapS, lt0, WA, Nat.reduceEqDiff, Nat.reduceAdd, Nat.reduceLT, Nat.reduceLeDiff, Nat.reduceMul, reduceIte, reduceCtorEq, Int.reduceEq, Int.reduceLT, Int.reduceLE, Int.reduceNe]
theorem eqCtor_c (x : VCtor) (hb : x.wt ≤ 1048576) : PCon Tryz.prog F.laws_eqCtor [x.av, x.av] (.v (.bool true)) := by
  have hw := VCtor.wt_eq x
  refine T.laws_eqCtor_con rfl (by simp [AV.norefs, AV.noref, VCtor.noref]) ?_
  simp (disch := omega) only [T.laws_eqCtor, VCtor.cells, VCtor.isAgg, VCtor.storable, VCtor.noref, VTypeExp.cells, VTypeExp.isAgg, VTypeExp.storable, VTypeExp.noref, VCtor.eta, VTypeExp.eta, wrapS, lt0, WA, Nat.reduceEqDiff, Nat.reduceAdd, Nat.reduceLT, Nat.reduceLeDiff, Nat.reduceMul, reduceIte, reduceCtorEq, Int.reduceEq, Int.reduceLT, Int.reduceLE, Int.reduceNe]
  refine call_v (eqTypeExp_c x.Arg (by omega)) ?_
  simp (disch := omega) only [VCtor.cells, VCtor.isAgg, VCtor.storable, VCtor.noref, VTypeExp.cells, VTypeExp.isAgg, VTypeExp.storable, VTypeExp.noref, VCtor.eta, VTypeExp.eta, wrapS, lt0, WA, Nat.reduceEqDiff, Nat.reduceAdd, Nat.reduceLT, Nat.reduceLeDiff, Nat.reduceMul, reduceIte, reduceCtorEq, Int.reduceEq, Int.reduceLT, Int.reduceLE, Int.reduceNe]
theorem szData_c (x : VData) (b : Nat) (hb : x.wt ≤ b) (hb1 : b ≤ 1048576) : PCon Tryz.prog F.laws_szData [x.av, .v (.int .i64 b)] (.v (.int .i64 (b - x.wt : Nat))) := by
  have hw := VData.wt_eq x
  have hVars : ∀ c : Nat, x.Vars.length + (x.Vars.map fun y => y.size).sum ≤ c → c ≤ 1048576 → PCon Tryz.prog F.laws_szStringS [.sl (x.Vars.map fun y => .v (.string y)), .v (.int .i64 c)] (.v (.int .i64 (c - (x.Vars.length + (x.Vars.map fun y => y.size).sum) : Nat))) := fun c h1 h2 => T.laws_szStringS_con rfl (by simp only [AV.norefs, AV.noref, Bool.and_true]; exact (norefsM (f := fun y => .v (.string y)) (l := x.Vars) fun _ => rfl)) (szB_T h1 h2)
  have hCtors : ∀ c : Nat, x.Ctors.length + (x.Ctors.map VCtor.wt).sum ≤ c → c ≤ 1048576 → PCon Tryz.prog F.laws_szCtorS [.sl (x.Ctors.map VCtor.av), .v (.int .i64 c)] (.v (.int .i64 (c - (x.Ctors.length + (x.Ctors.map VCtor.wt).sum) : Nat))) := fun c h1 h2 =>
    T.laws_szCtorS_con rfl (by simp only [AV.norefs, AV.noref, Bool.and_true]; exact (norefsM (f := VCtor.av) (l := x.Ctors) VCtor.noref)) (szS_T VCtor.shape h1 h2 fun y hy c h1 h2 => szCtor_c y c h1 h2)
  refine T.laws_szData_con rfl (by simp [AV.norefs, AV.noref, VData.noref]) ?_
  simp (disch := omega) only [T.laws_szData, VData.cells, VData.isAgg, VData.storable, VData.noref, VData.eta, wrapS, lt0, WA, Nat.reduceEqDiff, Nat.reduceAdd, Nat.reduceLT, Nat.reduceLeDiff, Nat.reduceMul, reduceIte, reduceCtorEq, Int.reduceEq, Int.reduceLT, Int.reduceLE, Int.reduceNe]
  refine call_v (hVars _ (by omega) (by omega)) ?_
  simp (disch := omega) only [VData.cells, VData.isAgg, VData.storable, VData.noref, VData.eta, wrapS, lt0, WA, Nat.reduceEqDiff, Nat.reduceAdd, Nat.reduceLT, Nat.reduceLeDiff, Nat.reduceMul, reduceIte, reduceCtorEq, Int.reduceEq, Int.reduceLT, Int.reduceLE, Int.reduceNe]
  refine call_v (hCtors _ (by omega) (by omega)) ?_
  simp (disch := omega) only [VData.cells, VData.isAgg, VData.storable, VData.noref, VData.eta, wrapS, lt0, WA, Nat.reduceEqDiff, Nat.reduceAdd, Nat.reduceLT, Nat.reduceLeDiff, Nat.reduceMul, reduceIte, reduceCtorEq, Int.reduceEq, Int.reduceLT, Int.reduceLE, Int.reduceNe]
  first | done | exact congrArg (fun n : Nat => AV.v (.int .i64 (n : Int))) (by omega)
theorem toData_c (x : VData) (hb : x.wt ≤ 1048576) : PCon Tryz.prog F.laws_toData [x.av] x.av := by
  have hw := VData.wt_eq x
  have hVars : PCon Tryz.prog F.laws_toStringS [.sl (x.Vars.map fun y => .v (.string y))] (.sl (x.Vars.map fun y => .v (.string y))) := T.laws_toStringS_con rfl (by simp only [AV.norefs, AV.noref, Bool.and_true]; exact (norefsM (f := fun y => .v (.string y)) (l := x.Vars) fun _ => rfl)) (toI_T (g := fun y => .string y) rfl (by omega) (by omega))
  have hCtors : PCon Tryz.prog F.laws_toCtorS [.sl (x.Ctors.map VCtor.av)] (.sl (x.Ctors.map VCtor.av)) :=
    T.laws_toCtorS_con rfl (by simp only [AV.norefs, AV.noref, Bool.and_true]; exact (norefsM (f := VCtor.av) (l := x.Ctors) VCtor.noref)) (toS_T VCtor.shape4 rfl (by omega) (by omega) fun y hy => toCtor_c y (by have := le_sum VCtor.wt hy; omega))
  refine T.laws_toData_con rfl (by simp [AV.norefs, AV.noref, VData.noref]) ?_
  simp (disch := omega) only [T.laws_toData, VData.cells, VData.isAgg, VData.storable, VData.noref, VData.eta, wrapS, lt0, WA, Nat.reduceEqDiff, Nat.reduceAdd, Nat.reduceLT, Nat.reduceLeDiff, Nat.reduceMul, reduceIte, reduceCtorEq, Int.reduceEq, Int.reduceLT, Int.reduceLE, Int.reduceNe]
  refine call_p hVars (norefsM (f := fun y => .v (.string y)) (l := x.Vars) fun _ => rfl) ?_
  simp (disch := omega) only [VData.cells, VData.isAgg, VData.storable, VData.noref, VData.eta, wrapS, lt0, WA, Nat.reduceEqDiff, Nat.reduceAdd, Nat.reduceLT, Nat.reduceLeDiff, Nat.reduceMul, reduceIte, reduceCtorEq, Int.reduceEq, Int.reduceLT, Int.reduceLE, Int.reduceNe]
  refine call_p hCtors (norefsM (f := VCtor.av) (l := x.Ctors) VCtor.noref) ?_
  simp (disch := omega) only [VData.cells, VData.isAgg, VData.storable, VData.noref, VData.eta, wrapS, lt0, WA, Nat.reduceEqDiff, Nat.reduceAdd, Nat.reduceLT, Nat.reduceLeDiff, Nat.reduceMul, reduceIte, reduceCtorEq, Int.reduceEq, Int.reduceLT, Int.reduceLE, Int.reduceNe]
theorem eqData_c (x : VData) (hb : x.wt ≤ 1048576) : PCon Tryz.prog F.laws_eqData [x.av, x.av] (.v (.bool true)) := by
  have hw := VData.wt_eq x
  have hVars : PCon Tryz.prog F.laws_eqStringS [.sl (x.Vars.map fun y => .v (.string y)), .sl (x.Vars.map fun y => .v (.string y))] (.v (.bool true)) := T.laws_eqStringS_con rfl (by simp only [AV.norefs, AV.noref, Bool.and_true, Bool.and_self]; exact (norefsM (f := fun y => .v (.string y)) (l := x.Vars) fun _ => rfl)) (eqI_T (g := fun y => .string y) (fun y K h => neqS y K h) (by omega))
  have hCtors : PCon Tryz.prog F.laws_eqCtorS [.sl (x.Ctors.map VCtor.av), .sl (x.Ctors.map VCtor.av)] (.v (.bool true)) :=
    T.laws_eqCtorS_con rfl (by simp only [AV.norefs, AV.noref, Bool.and_true, Bool.and_self]; exact (norefsM (f := VCtor.av) (l := x.Ctors) VCtor.noref)) (eqS_T VCtor.shape (by omega) fun y hy => eqCtor_c y (by have := le_sum VCtor.wt hy; omega))
  refine T.laws_eqData_con rfl (by simp [AV.norefs, AV.noref, VData.noref]) ?_
  simp (disch := omega) only [T.laws_eqData, VData.cells, VData.isAgg, VData.storable, VData.noref, VData.eta, wrapS, lt0, WA, Nat.reduceEqDiff, Nat.reduceAdd, Nat.reduceLT, Nat.reduceLeDiff, Nat.reduceMul, reduceIte, reduceCtorEq, Int.reduceEq, Int.reduceLT, Int.reduceLE, Int.reduceNe]
  refine call_v hVars ?_
  simp (disch := omega) only [VData.cells, VData.isAgg, VData.storable, VData.noref, VData.eta, wrapS, lt0, WA, Nat.reduceEqDiff, Nat.reduceAdd, Nat.reduceLT, Nat.reduceLeDiff, Nat.reduceMul, reduceIte, reduceCtorEq, Int.reduceEq, Int.reduceLT, Int.reduceLE, Int.reduceNe]
  refine call_v hCtors ?_
  simp (disch := omega) only [VData.cells, VData.isAgg, VData.storable, VData.noref, VData.eta, wrapS, lt0, WA, Nat.reduceEqDiff, Nat.reduceAdd, Nat.reduceLT, Nat.reduceLeDiff, Nat.reduceMul, reduceIte, reduceCtorEq, Int.reduceEq, Int.reduceLT, Int.reduceLE, Int.reduceNe]
theorem szProg_c (x : VProg) (b : Nat) (hb : x.wt ≤ b) (hb1 : b ≤ 1048576) : PCon Tryz.prog F.laws_szProg [x.av, .v (.int .i64 b)] (.v (.int .i64 (b - x.wt : Nat))) := by
  have hw := VProg.wt_eq x
  have hTypes : ∀ c : Nat, x.Types.length + (x.Types.map VData.wt).sum ≤ c → c ≤ 1048576 → PCon Tryz.prog F.laws_szDataS [.sl (x.Types.map VData.av), .v (.int .i64 c)] (.v (.int .i64 (c - (x.Types.length + (x.Types.map VData.wt).sum) : Nat))) := fun c h1 h2 =>
    T.laws_szDataS_con rfl (by simp only [AV.norefs, AV.noref, Bool.and_true]; exact (norefsM (f := VData.av) (l := x.Types) VData.noref)) (szS_T VData.shape h1 h2 fun y hy c h1 h2 => szData_c y c h1 h2)
  refine T.laws_szProg_con rfl (by simp [AV.norefs, AV.noref, VProg.noref]) ?_
  simp (disch := omega) only [T.laws_szProg, VExp.cells, VExp.isAgg, VExp.storable, VExp.noref, VProg.cells, VProg.isAgg, VProg.storable, VProg.noref, VExp.eta, VProg.eta, wrapS, lt0, WA, Nat.reduceEqDiff, Nat.reduceAdd, Nat.reduceLT, Nat.reduceLeDiff, Nat.reduceMul, reduceIte, reduceCtorEq, Int.reduceEq, Int.reduceLT, Int.reduceLE, Int.reduceNe]
  refine call_v (hTypes _ (by omega) (by omega)) ?_
  simp (disch := omega) only [VExp.cells, VExp.isAgg, VExp.storable, VExp.noref, VProg.cells, VProg.isAgg, VProg.storable, VProg.noref, VExp.eta, VProg.eta, wrapS, lt0, WA, Nat.reduceEqDiff, Nat.reduceAdd, Nat.reduceLT, Nat.reduceLeDiff, Nat.reduceMul, reduceIte, reduceCtorEq, Int.reduceEq, Int.reduceLT, Int.reduceLE, Int.reduceNe]
  refine call_v (szExp_c x.Body _ (by omega) (by omega)) ?_
  simp (disch := omega) only [VExp.cells, VExp.isAgg, VExp.storable, VExp.noref, VProg.cells, VProg.isAgg, VProg.storable, VProg.noref, VExp.eta, VProg.eta, wrapS, lt0, WA, Nat.reduceEqDiff, Nat.reduceAdd, Nat.reduceLT, Nat.reduceLeDiff, Nat.reduceMul, reduceIte, reduceCtorEq, Int.reduceEq, Int.reduceLT, Int.reduceLE, Int.reduceNe]
  first | done | exact congrArg (fun n : Nat => AV.v (.int .i64 (n : Int))) (by omega)
theorem toProg_c (x : VProg) (hb : x.wt ≤ 1048576) : PCon Tryz.prog F.laws_toProg [x.av] x.av := by
  have hw := VProg.wt_eq x
  have hTypes : PCon Tryz.prog F.laws_toDataS [.sl (x.Types.map VData.av)] (.sl (x.Types.map VData.av)) :=
    T.laws_toDataS_con rfl (by simp only [AV.norefs, AV.noref, Bool.and_true]; exact (norefsM (f := VData.av) (l := x.Types) VData.noref)) (toS_T VData.shape4 rfl (by omega) (by omega) fun y hy => toData_c y (by have := le_sum VData.wt hy; omega))
  refine T.laws_toProg_con rfl (by simp [AV.norefs, AV.noref, VProg.noref]) ?_
  simp (disch := omega) only [T.laws_toProg, VExp.cells, VExp.isAgg, VExp.storable, VExp.noref, VProg.cells, VProg.isAgg, VProg.storable, VProg.noref, VExp.eta, VProg.eta, wrapS, lt0, WA, Nat.reduceEqDiff, Nat.reduceAdd, Nat.reduceLT, Nat.reduceLeDiff, Nat.reduceMul, reduceIte, reduceCtorEq, Int.reduceEq, Int.reduceLT, Int.reduceLE, Int.reduceNe]
  refine call_p hTypes (norefsM (f := VData.av) (l := x.Types) VData.noref) ?_
  simp (disch := omega) only [VExp.cells, VExp.isAgg, VExp.storable, VExp.noref, VProg.cells, VProg.isAgg, VProg.storable, VProg.noref, VExp.eta, VProg.eta, wrapS, lt0, WA, Nat.reduceEqDiff, Nat.reduceAdd, Nat.reduceLT, Nat.reduceLeDiff, Nat.reduceMul, reduceIte, reduceCtorEq, Int.reduceEq, Int.reduceLT, Int.reduceLE, Int.reduceNe]
  refine call_p (toExp_c x.Body (by omega)) (VExp.noref _) ?_
  simp (disch := omega) only [VExp.cells, VExp.isAgg, VExp.storable, VExp.noref, VProg.cells, VProg.isAgg, VProg.storable, VProg.noref, VExp.eta, VProg.eta, wrapS, lt0, WA, Nat.reduceEqDiff, Nat.reduceAdd, Nat.reduceLT, Nat.reduceLeDiff, Nat.reduceMul, reduceIte, reduceCtorEq, Int.reduceEq, Int.reduceLT, Int.reduceLE, Int.reduceNe]
theorem eqProg_c (x : VProg) (hb : x.wt ≤ 1048576) : PCon Tryz.prog F.laws_eqProg [x.av, x.av] (.v (.bool true)) := by
  have hw := VProg.wt_eq x
  have hTypes : PCon Tryz.prog F.laws_eqDataS [.sl (x.Types.map VData.av), .sl (x.Types.map VData.av)] (.v (.bool true)) :=
    T.laws_eqDataS_con rfl (by simp only [AV.norefs, AV.noref, Bool.and_true, Bool.and_self]; exact (norefsM (f := VData.av) (l := x.Types) VData.noref)) (eqS_T VData.shape (by omega) fun y hy => eqData_c y (by have := le_sum VData.wt hy; omega))
  refine T.laws_eqProg_con rfl (by simp [AV.norefs, AV.noref, VProg.noref]) ?_
  simp (disch := omega) only [T.laws_eqProg, VExp.cells, VExp.isAgg, VExp.storable, VExp.noref, VProg.cells, VProg.isAgg, VProg.storable, VProg.noref, VExp.eta, VProg.eta, wrapS, lt0, WA, Nat.reduceEqDiff, Nat.reduceAdd, Nat.reduceLT, Nat.reduceLeDiff, Nat.reduceMul, reduceIte, reduceCtorEq, Int.reduceEq, Int.reduceLT, Int.reduceLE, Int.reduceNe]
  refine call_v hTypes ?_
  simp (disch := omega) only [VExp.cells, VExp.isAgg, VExp.storable, VExp.noref, VProg.cells, VProg.isAgg, VProg.storable, VProg.noref, VExp.eta, VProg.eta, wrapS, lt0, WA, Nat.reduceEqDiff, Nat.reduceAdd, Nat.reduceLT, Nat.reduceLeDiff, Nat.reduceMul, reduceIte, reduceCtorEq, Int.reduceEq, Int.reduceLT, Int.reduceLE, Int.reduceNe]
  refine call_v (eqExp_c x.Body (by omega)) ?_
  simp (disch := omega) only [VExp.cells, VExp.isAgg, VExp.storable, VExp.noref, VProg.cells, VProg.isAgg, VProg.storable, VProg.noref, VExp.eta, VProg.eta, wrapS, lt0, WA, Nat.reduceEqDiff, Nat.reduceAdd, Nat.reduceLT, Nat.reduceLeDiff, Nat.reduceMul, reduceIte, reduceCtorEq, Int.reduceEq, Int.reduceLT, Int.reduceLE, Int.reduceNe]
end Go.Proofs.Ab
