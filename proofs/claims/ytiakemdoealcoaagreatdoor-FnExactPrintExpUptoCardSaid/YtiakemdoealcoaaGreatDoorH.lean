/-
  THE LAWS' OWN HELPERS, by their types (printed by wip/tool/helpers.py).
-/
import Derived.Test.YtiakemdoealcoaaGreatDoorST
import Derived.Test.YtiakemdoealcoaaGreatDoorGM
set_option linter.unusedVariables false
set_option linter.unusedSimpArgs false
set_option linter.defProp false
namespace Go.Proofs.Ab
open Go.Ab
set_option maxRecDepth 100000
theorem szPat_c (x : VPat) (b : Nat) (hb : x.wt ≤ b) (hb1 : b ≤ 1048576) : PCon Tryz.prog F.laws_szPat [x.av, .v (.int .i64 b)] (.v (.int .i64 (b - x.wt : Nat))) := by
  have hw := VPat.wt_eq x
  have hKids : ∀ c : Nat, x.Kids.length + (x.Kids.map VPat.wt).sum ≤ c → c ≤ 1048576 → PCon Tryz.prog F.laws_szPatS [.sl (x.Kids.map VPat.av), .v (.int .i64 c)] (.v (.int .i64 (c - (x.Kids.length + (x.Kids.map VPat.wt).sum) : Nat))) := fun c h1 h2 =>
    T.laws_szPatS_con rfl (by simp only [AV.norefs, AV.noref, Bool.and_true]; exact (norefsM (f := VPat.av) (l := x.Kids) VPat.noref)) (szS_T VPat.shape h1 h2 fun y hy c h1 h2 => szPat_c y c h1 h2)
  refine T.laws_szPat_con rfl (by simp [AV.norefs, AV.noref, VPat.noref]) ?_
  simp (disch := omega) only [T.laws_szPat, VPat.cells, VPat.isAgg, VPat.storable, VPat.noref, VPat.eta, wrapS, lt0, W00, W01, W02, W03, W04, W05, W06, W07, W08, W09, Nat.reduceEqDiff, Nat.reduceAdd, Nat.reduceLT, Nat.reduceLeDiff, Nat.reduceMul, reduceIte, reduceCtorEq, Int.reduceEq, Int.reduceLT, Int.reduceLE, Int.reduceNe]
  refine call_v (hKids _ (by omega) (by omega)) ?_
  simp (disch := omega) only [VPat.cells, VPat.isAgg, VPat.storable, VPat.noref, VPat.eta, wrapS, lt0, W00, W01, W02, W03, W04, W05, W06, W07, W08, W09, Nat.reduceEqDiff, Nat.reduceAdd, Nat.reduceLT, Nat.reduceLeDiff, Nat.reduceMul, reduceIte, reduceCtorEq, Int.reduceEq, Int.reduceLT, Int.reduceLE, Int.reduceNe]
  first | done | exact congrArg (fun n : Nat => AV.v (.int .i64 (n : Int))) (by omega)
termination_by SizeOf.sizeOf x
decreasing_by all_goals first | exact VPat.Kids_lt (by assumption)
theorem toPat_c (x : VPat) (hb : x.wt ≤ 1048576) : PCon Tryz.prog F.laws_toPat [x.av] x.av := by
  have hw := VPat.wt_eq x
  have hKids : PCon Tryz.prog F.laws_toPatS [.sl (x.Kids.map VPat.av)] (.sl (x.Kids.map VPat.av)) :=
    T.laws_toPatS_con rfl (by simp only [AV.norefs, AV.noref, Bool.and_true]; exact (norefsM (f := VPat.av) (l := x.Kids) VPat.noref)) (toS_T VPat.shape4 rfl (by omega) (by omega) fun y hy => toPat_c y (by have := le_sum VPat.wt hy; omega))
  refine T.laws_toPat_con rfl (by simp [AV.norefs, AV.noref, VPat.noref]) ?_
  simp (disch := omega) only [T.laws_toPat, VPat.cells, VPat.isAgg, VPat.storable, VPat.noref, VPat.eta, wrapS, lt0, W00, W01, W02, W03, W04, W05, W06, W07, W08, W09, Nat.reduceEqDiff, Nat.reduceAdd, Nat.reduceLT, Nat.reduceLeDiff, Nat.reduceMul, reduceIte, reduceCtorEq, Int.reduceEq, Int.reduceLT, Int.reduceLE, Int.reduceNe]
  refine call_p hKids (norefsM (f := VPat.av) (l := x.Kids) VPat.noref) ?_
  simp (disch := omega) only [VPat.cells, VPat.isAgg, VPat.storable, VPat.noref, VPat.eta, wrapS, lt0, W00, W01, W02, W03, W04, W05, W06, W07, W08, W09, Nat.reduceEqDiff, Nat.reduceAdd, Nat.reduceLT, Nat.reduceLeDiff, Nat.reduceMul, reduceIte, reduceCtorEq, Int.reduceEq, Int.reduceLT, Int.reduceLE, Int.reduceNe]
termination_by SizeOf.sizeOf x
decreasing_by all_goals first | exact VPat.Kids_lt (by assumption)
theorem eqPat_c (x : VPat) (hb : x.wt ≤ 1048576) : PCon Tryz.prog F.laws_eqPat [x.av, x.av] (.v (.bool true)) := by
  have hw := VPat.wt_eq x
  have hKids : PCon Tryz.prog F.laws_eqPatS [.sl (x.Kids.map VPat.av), .sl (x.Kids.map VPat.av)] (.v (.bool true)) :=
    T.laws_eqPatS_con rfl (by simp only [AV.norefs, AV.noref, Bool.and_true, Bool.and_self]; exact (norefsM (f := VPat.av) (l := x.Kids) VPat.noref)) (eqS_T VPat.shape (by omega) fun y hy => eqPat_c y (by have := le_sum VPat.wt hy; omega))
  refine T.laws_eqPat_con rfl (by simp [AV.norefs, AV.noref, VPat.noref]) ?_
  simp (disch := omega) only [T.laws_eqPat, VPat.cells, VPat.isAgg, VPat.storable, VPat.noref, VPat.eta, wrapS, lt0, W00, W01, W02, W03, W04, W05, W06, W07, W08, W09, Nat.reduceEqDiff, Nat.reduceAdd, Nat.reduceLT, Nat.reduceLeDiff, Nat.reduceMul, reduceIte, reduceCtorEq, Int.reduceEq, Int.reduceLT, Int.reduceLE, Int.reduceNe]
  refine call_v hKids ?_
  simp (disch := omega) only [VPat.cells, VPat.isAgg, VPat.storable, VPat.noref, VPat.eta, wrapS, lt0, W00, W01, W02, W03, W04, W05, W06, W07, W08, W09, Nat.reduceEqDiff, Nat.reduceAdd, Nat.reduceLT, Nat.reduceLeDiff, Nat.reduceMul, reduceIte, reduceCtorEq, Int.reduceEq, Int.reduceLT, Int.reduceLE, Int.reduceNe]
termination_by SizeOf.sizeOf x
decreasing_by all_goals first | exact VPat.Kids_lt (by assumption)
mutual
theorem szExp_c (x : VExp) (b : Nat) (hb : x.wt ≤ b) (hb1 : b ≤ 1048576) : PCon Tryz.prog F.laws_szExp [x.av, .v (.int .i64 b)] (.v (.int .i64 (b - x.wt : Nat))) := by
  have hw := VExp.wt_eq x
  have hKids : ∀ c : Nat, x.Kids.length + (x.Kids.map VExp.wt).sum ≤ c → c ≤ 1048576 → PCon Tryz.prog F.laws_szExpS [.sl (x.Kids.map VExp.av), .v (.int .i64 c)] (.v (.int .i64 (c - (x.Kids.length + (x.Kids.map VExp.wt).sum) : Nat))) := fun c h1 h2 =>
    T.laws_szExpS_con rfl (by simp only [AV.norefs, AV.noref, Bool.and_true]; exact (norefsM (f := VExp.av) (l := x.Kids) VExp.noref)) (szS_T VExp.shape h1 h2 fun y hy c h1 h2 => szExp_c y c h1 h2)
  have hArms : ∀ c : Nat, x.Arms.length + (x.Arms.map VArm.wt).sum ≤ c → c ≤ 1048576 → PCon Tryz.prog F.laws_szArmS [.sl (x.Arms.map VArm.av), .v (.int .i64 c)] (.v (.int .i64 (c - (x.Arms.length + (x.Arms.map VArm.wt).sum) : Nat))) := fun c h1 h2 =>
    T.laws_szArmS_con rfl (by simp only [AV.norefs, AV.noref, Bool.and_true]; exact (norefsM (f := VArm.av) (l := x.Arms) VArm.noref)) (szS_T VArm.shape h1 h2 fun y hy c h1 h2 => szArm_c y c h1 h2)
  refine T.laws_szExp_con rfl (by simp [AV.norefs, AV.noref, VExp.noref]) ?_
  simp (disch := omega) only [T.laws_szExp, VExp.cells, VExp.isAgg, VExp.storable, VExp.noref, VExp.eta, wrapS, lt0, W00, W01, W02, W03, W04, W05, W06, W07, W08, W09, Nat.reduceEqDiff, Nat.reduceAdd, Nat.reduceLT, Nat.reduceLeDiff, Nat.reduceMul, reduceIte, reduceCtorEq, Int.reduceEq, Int.reduceLT, Int.reduceLE, Int.reduceNe]
  refine call_v (hKids _ (by omega) (by omega)) ?_
  simp (disch := omega) only [VExp.cells, VExp.isAgg, VExp.storable, VExp.noref, VExp.eta, wrapS, lt0, W00, W01, W02, W03, W04, W05, W06, W07, W08, W09, Nat.reduceEqDiff, Nat.reduceAdd, Nat.reduceLT, Nat.reduceLeDiff, Nat.reduceMul, reduceIte, reduceCtorEq, Int.reduceEq, Int.reduceLT, Int.reduceLE, Int.reduceNe]
  refine call_v (hArms _ (by omega) (by omega)) ?_
  simp (disch := omega) only [VExp.cells, VExp.isAgg, VExp.storable, VExp.noref, VExp.eta, wrapS, lt0, W00, W01, W02, W03, W04, W05, W06, W07, W08, W09, Nat.reduceEqDiff, Nat.reduceAdd, Nat.reduceLT, Nat.reduceLeDiff, Nat.reduceMul, reduceIte, reduceCtorEq, Int.reduceEq, Int.reduceLT, Int.reduceLE, Int.reduceNe]
  first | done | exact congrArg (fun n : Nat => AV.v (.int .i64 (n : Int))) (by omega)
termination_by SizeOf.sizeOf x
decreasing_by all_goals first | exact VExp.Kids_lt (by assumption) | exact VExp.Arms_lt (by assumption) | exact VArm.E_lt _
theorem szArm_c (x : VArm) (b : Nat) (hb : x.wt ≤ b) (hb1 : b ≤ 1048576) : PCon Tryz.prog F.laws_szArm [x.av, .v (.int .i64 b)] (.v (.int .i64 (b - x.wt : Nat))) := by
  have hw := VArm.wt_eq x
  refine T.laws_szArm_con rfl (by simp [AV.norefs, AV.noref, VArm.noref]) ?_
  simp (disch := omega) only [T.laws_szArm, VArm.cells, VArm.isAgg, VArm.storable, VArm.noref, VExp.cells, VExp.isAgg, VExp.storable, VExp.noref, VPat.cells, VPat.isAgg, VPat.storable, VPat.noref, VArm.eta, VExp.eta, VPat.eta, wrapS, lt0, W00, W01, W02, W03, W04, W05, W06, W07, W08, W09, Nat.reduceEqDiff, Nat.reduceAdd, Nat.reduceLT, Nat.reduceLeDiff, Nat.reduceMul, reduceIte, reduceCtorEq, Int.reduceEq, Int.reduceLT, Int.reduceLE, Int.reduceNe]
  refine call_v (szPat_c x.P _ (by omega) (by omega)) ?_
  simp (disch := omega) only [VArm.cells, VArm.isAgg, VArm.storable, VArm.noref, VExp.cells, VExp.isAgg, VExp.storable, VExp.noref, VPat.cells, VPat.isAgg, VPat.storable, VPat.noref, VArm.eta, VExp.eta, VPat.eta, wrapS, lt0, W00, W01, W02, W03, W04, W05, W06, W07, W08, W09, Nat.reduceEqDiff, Nat.reduceAdd, Nat.reduceLT, Nat.reduceLeDiff, Nat.reduceMul, reduceIte, reduceCtorEq, Int.reduceEq, Int.reduceLT, Int.reduceLE, Int.reduceNe]
  refine call_v (szExp_c x.E _ (by omega) (by omega)) ?_
  simp (disch := omega) only [VArm.cells, VArm.isAgg, VArm.storable, VArm.noref, VExp.cells, VExp.isAgg, VExp.storable, VExp.noref, VPat.cells, VPat.isAgg, VPat.storable, VPat.noref, VArm.eta, VExp.eta, VPat.eta, wrapS, lt0, W00, W01, W02, W03, W04, W05, W06, W07, W08, W09, Nat.reduceEqDiff, Nat.reduceAdd, Nat.reduceLT, Nat.reduceLeDiff, Nat.reduceMul, reduceIte, reduceCtorEq, Int.reduceEq, Int.reduceLT, Int.reduceLE, Int.reduceNe]
  first | done | exact congrArg (fun n : Nat => AV.v (.int .i64 (n : Int))) (by omega)
termination_by SizeOf.sizeOf x
decreasing_by all_goals first | exact VExp.Kids_lt (by assumption) | exact VExp.Arms_lt (by assumption) | exact VArm.E_lt _
end
mutual
theorem toExp_c (x : VExp) (hb : x.wt ≤ 1048576) : PCon Tryz.prog F.laws_toExp [x.av] x.av := by
  have hw := VExp.wt_eq x
  have hKids : PCon Tryz.prog F.laws_toExpS [.sl (x.Kids.map VExp.av)] (.sl (x.Kids.map VExp.av)) :=
    T.laws_toExpS_con rfl (by simp only [AV.norefs, AV.noref, Bool.and_true]; exact (norefsM (f := VExp.av) (l := x.Kids) VExp.noref)) (toS_T VExp.shape4 rfl (by omega) (by omega) fun y hy => toExp_c y (by have := le_sum VExp.wt hy; omega))
  have hArms : PCon Tryz.prog F.laws_toArmS [.sl (x.Arms.map VArm.av)] (.sl (x.Arms.map VArm.av)) :=
    T.laws_toArmS_con rfl (by simp only [AV.norefs, AV.noref, Bool.and_true]; exact (norefsM (f := VArm.av) (l := x.Arms) VArm.noref)) (toS_T VArm.shape4 rfl (by omega) (by omega) fun y hy => toArm_c y (by have := le_sum VArm.wt hy; omega))
  refine T.laws_toExp_con rfl (by simp [AV.norefs, AV.noref, VExp.noref]) ?_
  simp (disch := omega) only [T.laws_toExp, VExp.cells, VExp.isAgg, VExp.storable, VExp.noref, VExp.eta, wrapS, lt0, W00, W01, W02, W03, W04, W05, W06, W07, W08, W09, Nat.reduceEqDiff, Nat.reduceAdd, Nat.reduceLT, Nat.reduceLeDiff, Nat.reduceMul, reduceIte, reduceCtorEq, Int.reduceEq, Int.reduceLT, Int.reduceLE, Int.reduceNe]
  refine call_p hKids (norefsM (f := VExp.av) (l := x.Kids) VExp.noref) ?_
  simp (disch := omega) only [VExp.cells, VExp.isAgg, VExp.storable, VExp.noref, VExp.eta, wrapS, lt0, W00, W01, W02, W03, W04, W05, W06, W07, W08, W09, Nat.reduceEqDiff, Nat.reduceAdd, Nat.reduceLT, Nat.reduceLeDiff, Nat.reduceMul, reduceIte, reduceCtorEq, Int.reduceEq, Int.reduceLT, Int.reduceLE, Int.reduceNe]
  refine call_p hArms (norefsM (f := VArm.av) (l := x.Arms) VArm.noref) ?_
  simp (disch := omega) only [VExp.cells, VExp.isAgg, VExp.storable, VExp.noref, VExp.eta, wrapS, lt0, W00, W01, W02, W03, W04, W05, W06, W07, W08, W09, Nat.reduceEqDiff, Nat.reduceAdd, Nat.reduceLT, Nat.reduceLeDiff, Nat.reduceMul, reduceIte, reduceCtorEq, Int.reduceEq, Int.reduceLT, Int.reduceLE, Int.reduceNe]
termination_by SizeOf.sizeOf x
decreasing_by all_goals first | exact VExp.Kids_lt (by assumption) | exact VExp.Arms_lt (by assumption) | exact VArm.E_lt _
theorem toArm_c (x : VArm) (hb : x.wt ≤ 1048576) : PCon Tryz.prog F.laws_toArm [x.av] x.av := by
  have hw := VArm.wt_eq x
  refine T.laws_toArm_con rfl (by simp [AV.norefs, AV.noref, VArm.noref]) ?_
  simp (disch := omega) only [T.laws_toArm, VArm.cells, VArm.isAgg, VArm.storable, VArm.noref, VExp.cells, VExp.isAgg, VExp.storable, VExp.noref, VPat.cells, VPat.isAgg, VPat.storable, VPat.noref, VArm.eta, VExp.eta, VPat.eta, wrapS, lt0, W00, W01, W02, W03, W04, W05, W06, W07, W08, W09, Nat.reduceEqDiff, Nat.reduceAdd, Nat.reduceLT, Nat.reduceLeDiff, Nat.reduceMul, reduceIte, reduceCtorEq, Int.reduceEq, Int.reduceLT, Int.reduceLE, Int.reduceNe]
  refine call_p (toPat_c x.P (by omega)) (VPat.noref _) ?_
  simp (disch := omega) only [VArm.cells, VArm.isAgg, VArm.storable, VArm.noref, VExp.cells, VExp.isAgg, VExp.storable, VExp.noref, VPat.cells, VPat.isAgg, VPat.storable, VPat.noref, VArm.eta, VExp.eta, VPat.eta, wrapS, lt0, W00, W01, W02, W03, W04, W05, W06, W07, W08, W09, Nat.reduceEqDiff, Nat.reduceAdd, Nat.reduceLT, Nat.reduceLeDiff, Nat.reduceMul, reduceIte, reduceCtorEq, Int.reduceEq, Int.reduceLT, Int.reduceLE, Int.reduceNe]
  refine call_p (toExp_c x.E (by omega)) (VExp.noref _) ?_
  simp (disch := omega) only [VArm.cells, VArm.isAgg, VArm.storable, VArm.noref, VExp.cells, VExp.isAgg, VExp.storable, VExp.noref, VPat.cells, VPat.isAgg, VPat.storable, VPat.noref, VArm.eta, VExp.eta, VPat.eta, wrapS, lt0, W00, W01, W02, W03, W04, W05, W06, W07, W08, W09, Nat.reduceEqDiff, Nat.reduceAdd, Nat.reduceLT, Nat.reduceLeDiff, Nat.reduceMul, reduceIte, reduceCtorEq, Int.reduceEq, Int.reduceLT, Int.reduceLE, Int.reduceNe]
termination_by SizeOf.sizeOf x
decreasing_by all_goals first | exact VExp.Kids_lt (by assumption) | exact VExp.Arms_lt (by assumption) | exact VArm.E_lt _
end
mutual
theorem eqExp_c (x : VExp) (hb : x.wt ≤ 1048576) : PCon Tryz.prog F.laws_eqExp [x.av, x.av] (.v (.bool true)) := by
  have hw := VExp.wt_eq x
  have hKids : PCon Tryz.prog F.laws_eqExpS [.sl (x.Kids.map VExp.av), .sl (x.Kids.map VExp.av)] (.v (.bool true)) :=
    T.laws_eqExpS_con rfl (by simp only [AV.norefs, AV.noref, Bool.and_true, Bool.and_self]; exact (norefsM (f := VExp.av) (l := x.Kids) VExp.noref)) (eqS_T VExp.shape (by omega) fun y hy => eqExp_c y (by have := le_sum VExp.wt hy; omega))
  have hArms : PCon Tryz.prog F.laws_eqArmS [.sl (x.Arms.map VArm.av), .sl (x.Arms.map VArm.av)] (.v (.bool true)) :=
    T.laws_eqArmS_con rfl (by simp only [AV.norefs, AV.noref, Bool.and_true, Bool.and_self]; exact (norefsM (f := VArm.av) (l := x.Arms) VArm.noref)) (eqS_T VArm.shape (by omega) fun y hy => eqArm_c y (by have := le_sum VArm.wt hy; omega))
  refine T.laws_eqExp_con rfl (by simp [AV.norefs, AV.noref, VExp.noref]) ?_
  simp (disch := omega) only [T.laws_eqExp, VExp.cells, VExp.isAgg, VExp.storable, VExp.noref, VExp.eta, wrapS, lt0, W00, W01, W02, W03, W04, W05, W06, W07, W08, W09, Nat.reduceEqDiff, Nat.reduceAdd, Nat.reduceLT, Nat.reduceLeDiff, Nat.reduceMul, reduceIte, reduceCtorEq, Int.reduceEq, Int.reduceLT, Int.reduceLE, Int.reduceNe]
  refine call_v hKids ?_
  simp (disch := omega) only [VExp.cells, VExp.isAgg, VExp.storable, VExp.noref, VExp.eta, wrapS, lt0, W00, W01, W02, W03, W04, W05, W06, W07, W08, W09, Nat.reduceEqDiff, Nat.reduceAdd, Nat.reduceLT, Nat.reduceLeDiff, Nat.reduceMul, reduceIte, reduceCtorEq, Int.reduceEq, Int.reduceLT, Int.reduceLE, Int.reduceNe]
  refine call_v hArms ?_
  simp (disch := omega) only [VExp.cells, VExp.isAgg, VExp.storable, VExp.noref, VExp.eta, wrapS, lt0, W00, W01, W02, W03, W04, W05, W06, W07, W08, W09, Nat.reduceEqDiff, Nat.reduceAdd, Nat.reduceLT, Nat.reduceLeDiff, Nat.reduceMul, reduceIte, reduceCtorEq, Int.reduceEq, Int.reduceLT, Int.reduceLE, Int.reduceNe]
termination_by SizeOf.sizeOf x
decreasing_by all_goals first | exact VExp.Kids_lt (by assumption) | exact VExp.Arms_lt (by assumption) | exact VArm.E_lt _
theorem eqArm_c (x : VArm) (hb : x.wt ≤ 1048576) : PCon Tryz.prog F.laws_eqArm [x.av, x.av] (.v (.bool true)) := by
  have hw := VArm.wt_eq x
  refine T.laws_eqArm_con rfl (by simp [AV.norefs, AV.noref, VArm.noref]) ?_
  simp (disch := omega) only [T.laws_eqArm, VArm.cells, VArm.isAgg, VArm.storable, VArm.noref, VExp.cells, VExp.isAgg, VExp.storable, VExp.noref, VPat.cells, VPat.isAgg, VPat.storable, VPat.noref, VArm.eta, VExp.eta, VPat.eta, wrapS, lt0, W00, W01, W02, W03, W04, W05, W06, W07, W08, W09, Nat.reduceEqDiff, Nat.reduceAdd, Nat.reduceLT, Nat.reduceLeDiff, Nat.reduceMul, reduceIte, reduceCtorEq, Int.reduceEq, Int.reduceLT, Int.reduceLE, Int.reduceNe]
  refine call_v (eqPat_c x.P (by omega)) ?_
  simp (disch := omega) only [VArm.cells, VArm.isAgg, VArm.storable, VArm.noref, VExp.cells, VExp.isAgg, VExp.storable, VExp.noref, VPat.cells, VPat.isAgg, VPat.storable, VPat.noref, VArm.eta, VExp.eta, VPat.eta, wrapS, lt0, W00, W01, W02, W03, W04, W05, W06, W07, W08, W09, Nat.reduceEqDiff, Nat.reduceAdd, Nat.reduceLT, Nat.reduceLeDiff, Nat.reduceMul, reduceIte, reduceCtorEq, Int.reduceEq, Int.reduceLT, Int.reduceLE, Int.reduceNe]
  refine call_v (eqExp_c x.E (by omega)) ?_
  simp (disch := omega) only [VArm.cells, VArm.isAgg, VArm.storable, VArm.noref, VExp.cells, VExp.isAgg, VExp.storable, VExp.noref, VPat.cells, VPat.isAgg, VPat.storable, VPat.noref, VArm.eta, VExp.eta, VPat.eta, wrapS, lt0, W00, W01, W02, W03, W04, W05, W06, W07, W08, W09, Nat.reduceEqDiff, Nat.reduceAdd, Nat.reduceLT, Nat.reduceLeDiff, Nat.reduceMul, reduceIte, reduceCtorEq, Int.reduceEq, Int.reduceLT, Int.reduceLE, Int.reduceNe]
termination_by SizeOf.sizeOf x
decreasing_by all_goals first | exact VExp.Kids_lt (by assumption) | exact VExp.Arms_lt (by assumption) | exact VArm.E_lt _
end
end Go.Proofs.Ab
