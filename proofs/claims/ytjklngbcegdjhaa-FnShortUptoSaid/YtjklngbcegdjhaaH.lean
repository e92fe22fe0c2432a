/-
  THE LAWS' OWN HELPERS, by their types (printed by wip/tool/helpers.py).
-/
import Derived.Test.YtjklngbcegdjhaaST
import Derived.Test.YtjklngbcegdjhaaGM

set_option linter.unusedVariables false
set_option linter.unusedSimpArgs false
set_option linter.defProp false

namespace Go.Proofs.Ab
open Go.Ab
set_option maxRecDepth 100000
set_option maxHeartbeats 1000000

theorem szPat_c (x : VPat) (b : Nat) (hb : x.wt ≤ b) (hb1 : b ≤ 1048576) : PCon Try.prog F.laws_szPat [x.av, .v (.int .i64 b)] (.v (.int .i64 (b - x.wt : Nat))) := by
  have hw := VPat.wt_eq x
  have hKids : ∀ c : Nat, x.Kids.length + (x.Kids.map VPat.wt).sum ≤ c → c ≤ 1048576 → PCon Try.prog F.laws_szPatS [.sl (x.Kids.map VPat.av), .v (.int .i64 c)] (.v (.int .i64 (c - (x.Kids.length + (x.Kids.map VPat.wt).sum) : Nat))) := fun c h1 h2 =>
    T.laws_szPatS_con rfl (by simp only [AV.norefs, AV.noref, Bool.and_true]; exact (norefsM (f := VPat.av) (l := x.Kids) VPat.noref)) (szS_T VPat.shape h1 h2 fun y hy c h1 h2 => szPat_c y c h1 h2)
  refine T.laws_szPat_con rfl (by simp [AV.norefs, AV.noref, VPat.noref]) ?_
  simp (disch := omega) only [T.laws_szPat, VPat.cells, VPat.isAgg, VPat.storable, VPat.noref, VPat.eta, wrapS, lt0, W00, W01, W02, W03, W04, W05, W06, W07, W08, W09, Nat.reduceEqDiff, Nat.reduceAdd, Nat.reduceLT, Nat.reduceLeDiff, Nat.reduceMul, reduceIte, reduceCtorEq, Int.reduceEq, Int.reduceLT, Int.reduceLE, Int.reduceNe]
  refine call_v (hKids _ (by omega) (by omega)) ?_
  simp (disch := omega) only [VPat.cells, VPat.isAgg, VPat.storable, VPat.noref, VPat.eta, wrapS, lt0, W00, W01, W02, W03, W04, W05, W06, W07, W08, W09, Nat.reduceEqDiff, Nat.reduceAdd, Nat.reduceLT, Nat.reduceLeDiff, Nat.reduceMul, reduceIte, reduceCtorEq, Int.reduceEq, Int.reduceLT, Int.reduceLE, Int.reduceNe]
  first | done | exact congrArg (fun n : Nat => AV.v (.int .i64 (n : Int))) (by omega)
termination_by SizeOf.sizeOf x
decreasing_by all_goals first | exact VPat.Kids_lt (by assumption)

theorem toPat_c (x : VPat) (hb : x.wt ≤ 1048576) : PCon Try.prog F.laws_toPat [x.av] x.av := by
  have hw := VPat.wt_eq x
  have hKids : PCon Try.prog F.laws_toPatS [.sl (x.Kids.map VPat.av)] (.sl (x.Kids.map VPat.av)) :=
    T.laws_toPatS_con rfl (by simp only [AV.norefs, AV.noref, Bool.and_true]; exact (norefsM (f := VPat.av) (l := x.Kids) VPat.noref)) (toS_T VPat.shape4 rfl (by omega) (by omega) fun y hy => toPat_c y (by have := le_sum VPat.wt hy; omega))
  refine T.laws_toPat_con rfl (by simp [AV.norefs, AV.noref, VPat.noref]) ?_
  simp (disch := omega) only [T.laws_toPat, VPat.cells, VPat.isAgg, VPat.storable, VPat.noref, VPat.eta, wrapS, lt0, W00, W01, W02, W03, W04, W05, W06, W07, W08, W09, Nat.reduceEqDiff, Nat.reduceAdd, Nat.reduceLT, Nat.reduceLeDiff, Nat.reduceMul, reduceIte, reduceCtorEq, Int.reduceEq, Int.reduceLT, Int.reduceLE, Int.reduceNe]
  refine call_p hKids (norefsM (f := VPat.av) (l := x.Kids) VPat.noref) ?_
  simp (disch := omega) only [VPat.cells, VPat.isAgg, VPat.storable, VPat.noref, VPat.eta, wrapS, lt0, W00, W01, W02, W03, W04, W05, W06, W07, W08, W09, Nat.reduceEqDiff, Nat.reduceAdd, Nat.reduceLT, Nat.reduceLeDiff, Nat.reduceMul, reduceIte, reduceCtorEq, Int.reduceEq, Int.reduceLT, Int.reduceLE, Int.reduceNe]
termination_by SizeOf.sizeOf x
decreasing_by all_goals first | exact VPat.Kids_lt (by assumption)

theorem eqPat_c (x : VPat) (hb : x.wt ≤ 1048576) : PCon Try.prog F.laws_eqPat [x.av, x.av] (.v (.bool true)) := by
  have hw := VPat.wt_eq x
  have hKids : PCon Try.prog F.laws_eqPatS [.sl (x.Kids.map VPat.av), .sl (x.Kids.map VPat.av)] (.v (.bool true)) :=
    T.laws_eqPatS_con rfl (by simp only [AV.norefs, AV.noref, Bool.and_true, Bool.and_self]; exact (norefsM (f := VPat.av) (l := x.Kids) VPat.noref)) (eqS_T VPat.shape (by omega) fun y hy => eqPat_c y (by have := le_sum VPat.wt hy; omega))
  refine T.laws_eqPat_con rfl (by simp [AV.norefs, AV.noref, VPat.noref]) ?_
  simp (disch := omega) only [T.laws_eqPat, VPat.cells, VPat.isAgg, VPat.storable, VPat.noref, VPat.eta, wrapS, lt0, W00, W01, W02, W03, W04, W05, W06, W07, W08, W09, Nat.reduceEqDiff, Nat.reduceAdd, Nat.reduceLT, Nat.reduceLeDiff, Nat.reduceMul, reduceIte, reduceCtorEq, Int.reduceEq, Int.reduceLT, Int.reduceLE, Int.reduceNe]
  refine call_v hKids ?_
  simp (disch := omega) only [VPat.cells, VPat.isAgg, VPat.storable, VPat.noref, VPat.eta, wrapS, lt0, W00, W01, W02, W03, W04, W05, W06, W07, W08, W09, Nat.reduceEqDiff, Nat.reduceAdd, Nat.reduceLT, Nat.reduceLeDiff, Nat.reduceMul, reduceIte, reduceCtorEq, Int.reduceEq, Int.reduceLT, Int.reduceLE, Int.reduceNe]
termination_by SizeOf.sizeOf x
decreasing_by all_goals first | exact VPat.Kids_lt (by assumption)

theorem szPatS_c (l : List VPat) (c : Nat) (h1 : l.length + (l.map VPat.wt).sum ≤ c) (h2 : c ≤ 1048576) : PCon Try.prog F.laws_szPatS [.sl (l.map VPat.av), .v (.int .i64 c)] (.v (.int .i64 (c - (l.length + (l.map VPat.wt).sum) : Nat))) :=
  T.laws_szPatS_con rfl (by simp only [AV.norefs, AV.noref, Bool.and_true, Bool.and_self]; exact (norefsM (f := VPat.av) (l := l) VPat.noref)) (szS_T VPat.shape h1 h2 fun y hy c h1 h2 => szPat_c y c h1 h2)
theorem toPatS_c (l : List VPat) (h : l.length + (l.map VPat.wt).sum ≤ 1048576) : PCon Try.prog F.laws_toPatS [.sl (l.map VPat.av)] (.sl (l.map VPat.av)) :=
  T.laws_toPatS_con rfl (by simp only [AV.norefs, AV.noref, Bool.and_true, Bool.and_self]; exact (norefsM (f := VPat.av) (l := l) VPat.noref)) (toS_T VPat.shape4 rfl (by omega) (by omega) fun y hy => toPat_c y (by have := le_sum VPat.wt hy; omega))
theorem eqPatS_c (l : List VPat) (h : l.length + (l.map VPat.wt).sum ≤ 1048576) : PCon Try.prog F.laws_eqPatS [.sl (l.map VPat.av), .sl (l.map VPat.av)] (.v (.bool true)) :=
  T.laws_eqPatS_con rfl (by simp only [AV.norefs, AV.noref, Bool.and_true, Bool.and_self]; exact (norefsM (f := VPat.av) (l := l) VPat.noref)) (eqS_T VPat.shape (by omega) fun y hy => eqPat_c y (by have := le_sum VPat.wt hy; omega))
mutual
theorem szExp_c (x : VExp) (b : Nat) (hb : x.wt ≤ b) (hb1 : b ≤ 1048576) : PCon Try.prog F.laws_szExp [x.av, .v (.int .i64 b)] (.v (.int .i64 (b - x.wt : Nat))) := by
  have hw := VExp.wt_eq x
  have hKids : ∀ c : Nat, x.Kids.length + (x.Kids.map VExp.wt).sum ≤ c → c ≤ 1048576 → PCon Try.prog F.laws_szExpS [.sl (x.Kids.map VExp.av), .v (.int .i64 c)] (.v (.int .i64 (c - (x.Kids.length + (x.Kids.map VExp.wt).sum) : Nat))) := fun c h1 h2 =>
    T.laws_szExpS_con rfl (by simp only [AV.norefs, AV.noref, Bool.and_true]; exact (norefsM (f := VExp.av) (l := x.Kids) VExp.noref)) (szS_T VExp.shape h1 h2 fun y hy c h1 h2 => szExp_c y c h1 h2)
  have hArms : ∀ c : Nat, x.Arms.length + (x.Arms.map VArm.wt).sum ≤ c → c ≤ 1048576 → PCon Try.prog F.laws_szArmS [.sl (x.Arms.map VArm.av), .v (.int .i64 c)] (.v (.int .i64 (c - (x.Arms.length + (x.Arms.map VArm.wt).sum) : Nat))) := fun c h1 h2 =>
    T.laws_szArmS_con rfl (by simp only [AV.norefs, AV.noref, Bool.and_true]; exact (norefsM (f := VArm.av) (l := x.Arms) VArm.noref)) (szS_T VArm.shape h1 h2 fun y hy c h1 h2 => szArm_c y c h1 h2)
  refine T.laws_szExp_con rfl (by simp [AV.norefs, AV.noref, VExp.noref]) ?_
  simp (disch := omega) only [T.laws_szExp, VExp.cells, VExp.isAgg, VExp.storable, VExp.noref, VExp.eta, wrapS, lt0, W00, W01, W02, W03, W04, W05, W06, W07, W08, W09, Nat.reduceEqDiff, Nat.reduceAdd, Nat.reduceLT, Nat.reduceLeDiff, Nat.reduceMul, reduceIte, reduceCtorEq, Int.reduceEq, Int.reduceLT, Int.reduceLE, Int.reduceNe]
  refine call_v (hKids _ (by omega) (by omega)) ?_
  simp (disch := omega) only [VExp.cells, VExp.isAgg, VExp.storable, VExp.noref, VExp.eta, wrapS, lt0, W00, W01, W02, W03, W04, W05, W06, W07, W08, W09, Nat.reduceEqDiff, Nat.reduceAdd, Nat.reduceLT, Nat.reduceLeDiff, Nat.reduceMul, reduceIte, reduceCtorEq, Int.reduceEq, Int.reduceLT, Int.reduceLE, Int.reduceNe]
  refine call_v (hArms _ (by omega) (by omega)) ?_
  simp (disch := omega) only [VExp.cells, VExp.isAgg, VExp.storable, VExp.noref, VExp.eta, wrapS, lt0, W00, W01, W02, W03, W04, W05, W06, W07, W08, W09, Nat.reduceEqDiff, Nat.reduceAdd, Nat.reduceLT, Nat.reduceLeDiff, Nat.reduceMul, reduceIte, reduceCtorEq, Int.reduceEq, Int.reduceLT, Int.reduceLE, Int.reduceNe]
  first | done | exact congrArg (fun n : Nat => AV.v (.int .i64 (n : Int))) (by omega)
termination_by SizeOf.sizeOf x
decreasing_by all_goals first | exact VExp.Kids_lt (by assumption) | exact VExp.Arms_lt (by assumption) | exact VArm.E_lt _
theorem szArm_c (x : VArm) (b : Nat) (hb : x.wt ≤ b) (hb1 : b ≤ 1048576) : PCon Try.prog F.laws_szArm [x.av, .v (.int .i64 b)] (.v (.int .i64 (b - x.wt : Nat))) := by
  have hw := VArm.wt_eq x
  refine T.laws_szArm_con rfl (by simp [AV.norefs, AV.noref, VArm.noref]) ?_
  simp (disch := omega) only [T.laws_szArm, VArm.cells, VArm.isAgg, VArm.storable, VArm.noref, VExp.cells, VExp.isAgg, VExp.storable, VExp.noref, VPat.cells, VPat.isAgg, VPat.storable, VPat.noref, VArm.eta, VExp.eta, VPat.eta, wrapS, lt0, W00, W01, W02, W03, W04, W05, W06, W07, W08, W09, Nat.reduceEqDiff, Nat.reduceAdd, Nat.reduceLT, Nat.reduceLeDiff, Nat.reduceMul, reduceIte, reduceCtorEq, Int.reduceEq, Int.reduceLT, Int.reduceLE, Int.reduceNe]
  refine call_v (szPat_c x.P _ (by omega) (by omega)) ?_
  simp (disch := omega) only [VArm.cells, VArm.isAgg, VArm.storable, VArm.noref, VExp.cells, VExp.isAgg, VExp.storable, VExp.noref, VPat.cells, VPat.isAgg, VPat.storable, VPat.noref, VArm.eta, VExp.eta, VPat.eta, wrapS, lt0, W00, W01, W02, W03, W04, W05, W06, W07, W08, W09, Nat.reduceEqDiff, Nat.reduceAdd, Nat.reduceLT, Nat.reduceLeDiff, Nat.reduceMul, reduceIte, reduceCtorEq, Int.reduceEq, Int.reduceLT, Int.reduceLE, Int.reduceNe]
  refine call_v (szExp_c x.E _ (by omega) (by omega)) ?_
  simp (disch := omega) only [VArm.cells, VArm.isAgg, VArm.storable, VArm.noref, VExp.cells, VExp.isAgg, VExp.storable, VExp.noref, VPat.cells, VPat.isAgg, VPat.storable, VPat.noref, VArm.eta, VExp.eta, VPat.eta, wrapS, lt0, W00, W01, W02, W03, W04, W05, W06, W07, W08, W09, Nat.reduceEqDiff, Nat.reduceAdd, Nat.reduceLT, Nat.reduceLeDiff, Nat.reduceMul, reduceIte, reduceCtorEq, Int.reduceEq, Int.reduceLT, Int.reduceLE, Int.reduceNe]
  first | done | exact congrArg (fun n : Nat => AV.v (.int .i64 (n : Int))) (by omega)
termination_by SizeOf.sizeOf x
decreasing_by all_goals first | exact VExp.Kids_lt (by assumption) | exact VExp.Arms_lt (by assumption) | exact VArm.E_lt _
end

mutual
theorem toExp_c (x : VExp) (hb : x.wt ≤ 1048576) : PCon Try.prog F.laws_toExp [x.av] x.av := by
  have hw := VExp.wt_eq x
  have hKids : PCon Try.prog F.laws_toExpS [.sl (x.Kids.map VExp.av)] (.sl (x.Kids.map VExp.av)) :=
    T.laws_toExpS_con rfl (by simp only [AV.norefs, AV.noref, Bool.and_true]; exact (norefsM (f := VExp.av) (l := x.Kids) VExp.noref)) (toS_T VExp.shape4 rfl (by omega) (by omega) fun y hy => toExp_c y (by have := le_sum VExp.wt hy; omega))
  have hArms : PCon Try.prog F.laws_toArmS [.sl (x.Arms.map VArm.av)] (.sl (x.Arms.map VArm.av)) :=
    T.laws_toArmS_con rfl (by simp only [AV.norefs, AV.noref, Bool.and_true]; exact (norefsM (f := VArm.av) (l := x.Arms) VArm.noref)) (toS_T VArm.shape4 rfl (by omega) (by omega) fun y hy => toArm_c y (by have := le_sum VArm.wt hy; omega))
  refine T.laws_toExp_con rfl (by simp [AV.norefs, AV.noref, VExp.noref]) ?_
  simp (disch := omega) only [T.laws_toExp, VExp.cells, VExp.isAgg, VExp.storable, VExp.noref, VExp.eta, wrapS, lt0, W00, W01, W02, W03, W04, W05, W06, W07, W08, W09, Nat.reduceEqDiff, Nat.reduceAdd, Nat.reduceLT, Nat.reduceLeDiff, Nat.reduceMul, reduceIte, reduceCtorEq, Int.reduceEq, Int.reduceLT, Int.reduceLE, Int.reduceNe]
  refine call_p hKids (norefsM (f := VExp.av) (l := x.Kids) VExp.noref) ?_
  simp (disch := omega) only [VExp.cells, VExp.isAgg, VExp.storable, VExp.noref, VExp.eta, wrapS, lt0, W00, W01, W02, W03, W04, W05, W06, W07, W08, W09, Nat.reduceEqDiff, Nat.reduceAdd, Nat.reduceLT, Nat.reduceLeDiff, Nat.reduceMul, reduceIte, reduceCtorEq, Int.reduceEq, Int.reduceLT, Int.reduceLE, Int.reduceNe]
  refine call_p hArms (norefsM (f := VArm.av) (l := x.Arms) VArm.noref) ?_
  simp (disch := omega) only [VExp.cells, VExp.isAgg, VExp.storable, VExp.noref, VExp.eta, wrapS, lt0, W00, W01, W02, W03, W04, W05, W06, W07, W08, W09, Nat.reduceEqDiff, Nat.reduceAdd, Nat.reduceLT, Nat.reduceLeDiff, Nat.reduceMul, reduceIte, reduceCtorEq, Int.reduceEq, Int.reduceLT, Int.reduceLE, Int.reduceNe]
termination_by SizeOf.sizeOf x
decreasing_by all_goals first | exact VExp.Kids_lt (by assumption) | exact VExp.Arms_lt (by assumption) | exact VArm.E_lt _
theorem toArm_c (x : VArm) (hb : x.wt ≤ 1048576) : PCon Try.prog F.laws_toArm [x.av] x.av := by
  have hw := VArm.wt_eq x
  refine T.laws_toArm_con rfl (by simp [AV.norefs, AV.noref, VArm.noref]) ?_
  simp (disch := omega) only [T.laws_toArm, VArm.cells, VArm.isAgg, VArm.storable, VArm.noref, VExp.cells, VExp.isAgg, VExp.storable, VExp.noref, VPat.cells, VPat.isAgg, VPat.storable, VPat.noref, VArm.eta, VExp.eta, VPat.eta, wrapS, lt0, W00, W01, W02, W03, W04, W05, W06, W07, W08, W09, Nat.reduceEqDiff, Nat.reduceAdd, Nat.reduceLT, Nat.reduceLeDiff, Nat.reduceMul, reduceIte, reduceCtorEq, Int.reduceEq, Int.reduceLT, Int.reduceLE, Int.reduceNe]
  refine call_p (toPat_c x.P (by omega)) (VPat.noref _) ?_
  simp (disch := omega) only [VArm.cells, VArm.isAgg, VArm.storable, VArm.noref, VExp.cells, VExp.isAgg, VExp.storable, VExp.noref, VPat.cells, VPat.isAgg, VPat.storable, VPat.noref, VArm.eta, VExp.eta, VPat.eta, wrapS, lt0, W00, W01, W02, W03, W04, W05, W06, W07, W08, W09, Nat.reduceEqDiff, Nat.reduceAdd, Nat.reduceLT, Nat.reduceLeDiff, Nat.reduceMul, reduceIte, reduceCtorEq, Int.reduceEq, Int.reduceLT, Int.reduceLE, Int.reduceNe]
  refine call_p (toExp_c x.E (by omega)) (VExp.noref _) ?_
  simp (disch := omega) only [VArm.cells, VArm.isAgg, VArm.storable, VArm.noref, VExp.cells, VExp.isAgg, VExp.storable, VExp.noref, VPat.cells, VPat.isAgg, VPat.storable, VPat.noref, VArm.eta, VExp.eta, VPat.eta, wrapS, lt0, W00, W01, W02, W03, W04, W05, W06, W07, W08, W09, Nat.reduceEqDiff, Nat.reduceAdd, Nat.reduceLT, Nat.reduceLeDiff, Nat.reduceMul, reduceIte, reduceCtorEq, Int.reduceEq, Int.reduceLT, Int.reduceLE, Int.reduceNe]
termination_by SizeOf.sizeOf x
decreasing_by all_goals first | exact VExp.Kids_lt (by assumption) | exact VExp.Arms_lt (by assumption) | exact VArm.E_lt _
end

mutual
theorem eqExp_c (x : VExp) (hb : x.wt ≤ 1048576) : PCon Try.prog F.laws_eqExp [x.av, x.av] (.v (.bool true)) := by
  have hw := VExp.wt_eq x
  have hKids : PCon Try.prog F.laws_eqExpS [.sl (x.Kids.map VExp.av), .sl (x.Kids.map VExp.av)] (.v (.bool true)) :=
    T.laws_eqExpS_con rfl (by simp only [AV.norefs, AV.noref, Bool.and_true, Bool.and_self]; exact (norefsM (f := VExp.av) (l := x.Kids) VExp.noref)) (eqS_T VExp.shape (by omega) fun y hy => eqExp_c y (by have := le_sum VExp.wt hy; omega))
  have hArms : PCon Try.prog F.laws_eqArmS [.sl (x.Arms.map VArm.av), .sl (x.Arms.map VArm.av)] (.v (.bool true)) :=
    T.laws_eqArmS_con rfl (by simp only [AV.norefs, AV.noref, Bool.and_true, Bool.and_self]; exact (norefsM (f := VArm.av) (l := x.Arms) VArm.noref)) (eqS_T VArm.shape (by omega) fun y hy => eqArm_c y (by have := le_sum VArm.wt hy; omega))
  refine T.laws_eqExp_con rfl (by simp [AV.norefs, AV.noref, VExp.noref]) ?_
  simp (disch := omega) only [T.laws_eqExp, VExp.cells, VExp.isAgg, VExp.storable, VExp.noref, VExp.eta, wrapS, lt0, W00, W01, W02, W03, W04, W05, W06, W07, W08, W09, Nat.reduceEqDiff, Nat.reduceAdd, Nat.reduceLT, Nat.reduceLeDiff, Nat.reduceMul, reduceIte, reduceCtorEq, Int.reduceEq, Int.reduceLT, Int.reduceLE, Int.reduceNe]
  refine call_v hKids ?_
  simp (disch := omega) only [VExp.cells, VExp.isAgg, VExp.storable, VExp.noref, VExp.eta, wrapS, lt0, W00, W01, W02, W03, W04, W05, W06, W07, W08, W09, Nat.reduceEqDiff, Nat.reduceAdd, Nat.reduceLT, Nat.reduceLeDiff, Nat.reduceMul, reduceIte, reduceCtorEq, Int.reduceEq, Int.reduceLT, Int.reduceLE, Int.reduceNe]
  refine call_v hArms ?_
  simp (disch := omega) only [VExp.cells, VExp.isAgg, VExp.storable, VExp.noref, VExp.eta, wrapS, lt0, W00, W01, W02, W03, W04, W05, W06, W07, W08, W09, Nat.reduceEqDiff, Nat.reduceAdd, Nat.reduceLT, Nat.reduceLeDiff, Nat.reduceMul, reduceIte, reduceCtorEq, Int.reduceEq, Int.reduceLT, Int.reduceLE, Int.reduceNe]
termination_by SizeOf.sizeOf x
decreasing_by all_goals first | exact VExp.Kids_lt (by assumption) | exact VExp.Arms_lt (by assumption) | exact VArm.E_lt _
theorem eqArm_c (x : VArm) (hb : x.wt ≤ 1048576) : PCon Try.prog F.laws_eqArm [x.av, x.av] (.v (.bool true)) := by
  have hw := VArm.wt_eq x
  refine T.laws_eqArm_con rfl (by simp [AV.norefs, AV.noref, VArm.noref]) ?_
  simp (disch := omega) only [T.laws_eqArm, VArm.cells, VArm.isAgg, VArm.storable, VArm.noref, VExp.cells, VExp.isAgg, VExp.storable, VExp.noref, VPat.cells, VPat.isAgg, VPat.storable, VPat.noref, VArm.eta, VExp.eta, VPat.eta, wrapS, lt0, W00, W01, W02, W03, W04, W05, W06, W07, W08, W09, Nat.reduceEqDiff, Nat.reduceAdd, Nat.reduceLT, Nat.reduceLeDiff, Nat.reduceMul, reduceIte, reduceCtorEq, Int.reduceEq, Int.reduceLT, Int.reduceLE, Int.reduceNe]
  refine call_v (eqPat_c x.P (by omega)) ?_
  simp (disch := omega) only [VArm.cells, VArm.isAgg, VArm.storable, VArm.noref, VExp.cells, VExp.isAgg, VExp.storable, VExp.noref, VPat.cells, VPat.isAgg, VPat.storable, VPat.noref, VArm.eta, VExp.eta, VPat.eta, wrapS, lt0, W00, W01, W02, W03, W04, W05, W06, W07, W08, W09, Nat.reduceEqDiff, Nat.reduceAdd, Nat.reduceLT, Nat.reduceLeDiff, Nat.reduceMul, reduceIte, reduceCtorEq, Int.reduceEq, Int.reduceLT, Int.reduceLE, Int.reduceNe]
  refine call_v (eqExp_c x.E (by omega)) ?_
  simp (disch := omega) only [VArm.cells, VArm.isAgg, VArm.storable, VArm.noref, VExp.cells, VExp.isAgg, VExp.storable, VExp.noref, VPat.cells, VPat.isAgg, VPat.storable, VPat.noref, VArm.eta, VExp.eta, VPat.eta, wrapS, lt0, W00, W01, W02, W03, W04, W05, W06, W07, W08, W09, Nat.reduceEqDiff, Nat.reduceAdd, Nat.reduceLT, Nat.reduceLeDiff, Nat.reduceMul, reduceIte, reduceCtorEq, Int.reduceEq, Int.reduceLT, Int.reduceLE, Int.reduceNe]
termination_by SizeOf.sizeOf x
decreasing_by all_goals first | exact VExp.Kids_lt (by assumption) | exact VExp.Arms_lt (by assumption) | exact VArm.E_lt _
end

theorem szExpS_c (l : List VExp) (c : Nat) (h1 : l.length + (l.map VExp.wt).sum ≤ c) (h2 : c ≤ 1048576) : PCon Try.prog F.laws_szExpS [.sl (l.map VExp.av), .v (.int .i64 c)] (.v (.int .i64 (c - (l.length + (l.map VExp.wt).sum) : Nat))) :=
  T.laws_szExpS_con rfl (by simp only [AV.norefs, AV.noref, Bool.and_true, Bool.and_self]; exact (norefsM (f := VExp.av) (l := l) VExp.noref)) (szS_T VExp.shape h1 h2 fun y hy c h1 h2 => szExp_c y c h1 h2)
theorem toExpS_c (l : List VExp) (h : l.length + (l.map VExp.wt).sum ≤ 1048576) : PCon Try.prog F.laws_toExpS [.sl (l.map VExp.av)] (.sl (l.map VExp.av)) :=
  T.laws_toExpS_con rfl (by simp only [AV.norefs, AV.noref, Bool.and_true, Bool.and_self]; exact (norefsM (f := VExp.av) (l := l) VExp.noref)) (toS_T VExp.shape4 rfl (by omega) (by omega) fun y hy => toExp_c y (by have := le_sum VExp.wt hy; omega))
theorem eqExpS_c (l : List VExp) (h : l.length + (l.map VExp.wt).sum ≤ 1048576) : PCon Try.prog F.laws_eqExpS [.sl (l.map VExp.av), .sl (l.map VExp.av)] (.v (.bool true)) :=
  T.laws_eqExpS_con rfl (by simp only [AV.norefs, AV.noref, Bool.and_true, Bool.and_self]; exact (norefsM (f := VExp.av) (l := l) VExp.noref)) (eqS_T VExp.shape (by omega) fun y hy => eqExp_c y (by have := le_sum VExp.wt hy; omega))
theorem szArmS_c (l : List VArm) (c : Nat) (h1 : l.length + (l.map VArm.wt).sum ≤ c) (h2 : c ≤ 1048576) : PCon Try.prog F.laws_szArmS [.sl (l.map VArm.av), .v (.int .i64 c)] (.v (.int .i64 (c - (l.length + (l.map VArm.wt).sum) : Nat))) :=
  T.laws_szArmS_con rfl (by simp only [AV.norefs, AV.noref, Bool.and_true, Bool.and_self]; exact (norefsM (f := VArm.av) (l := l) VArm.noref)) (szS_T VArm.shape h1 h2 fun y hy c h1 h2 => szArm_c y c h1 h2)
theorem toArmS_c (l : List VArm) (h : l.length + (l.map VArm.wt).sum ≤ 1048576) : PCon Try.prog F.laws_toArmS [.sl (l.map VArm.av)] (.sl (l.map VArm.av)) :=
  T.laws_toArmS_con rfl (by simp only [AV.norefs, AV.noref, Bool.and_true, Bool.and_self]; exact (norefsM (f := VArm.av) (l := l) VArm.noref)) (toS_T VArm.shape4 rfl (by omega) (by omega) fun y hy => toArm_c y (by have := le_sum VArm.wt hy; omega))
theorem eqArmS_c (l : List VArm) (h : l.length + (l.map VArm.wt).sum ≤ 1048576) : PCon Try.prog F.laws_eqArmS [.sl (l.map VArm.av), .sl (l.map VArm.av)] (.v (.bool true)) :=
  T.laws_eqArmS_con rfl (by simp only [AV.norefs, AV.noref, Bool.and_true, Bool.and_self]; exact (norefsM (f := VArm.av) (l := l) VArm.noref)) (eqS_T VArm.shape (by omega) fun y hy => eqArm_c y (by have := le_sum VArm.wt hy; omega))
theorem szTy_c (x : VTy) (b : Nat) (hb : x.wt ≤ b) (hb1 : b ≤ 1048576) : PCon Try.prog F.laws_szTy [x.av, .v (.int .i64 b)] (.v (.int .i64 (b - x.wt : Nat))) := by
  have hw := VTy.wt_eq x
  have hKids : ∀ c : Nat, x.Kids.length + (x.Kids.map VTy.wt).sum ≤ c → c ≤ 1048576 → PCon Try.prog F.laws_szTyS [.sl (x.Kids.map VTy.av), .v (.int .i64 c)] (.v (.int .i64 (c - (x.Kids.length + (x.Kids.map VTy.wt).sum) : Nat))) := fun c h1 h2 =>
    T.laws_szTyS_con rfl (by simp only [AV.norefs, AV.noref, Bool.and_true]; exact (norefsM (f := VTy.av) (l := x.Kids) VTy.noref)) (szS_T VTy.shape h1 h2 fun y hy c h1 h2 => szTy_c y c h1 h2)
  refine T.laws_szTy_con rfl (by simp [AV.norefs, AV.noref, VTy.noref]) ?_
  simp (disch := omega) only [T.laws_szTy, VTy.cells, VTy.isAgg, VTy.storable, VTy.noref, VTy.eta, wrapS, lt0, W00, W01, W02, W03, W04, W05, W06, W07, W08, W09, Nat.reduceEqDiff, Nat.reduceAdd, Nat.reduceLT, Nat.reduceLeDiff, Nat.reduceMul, reduceIte, reduceCtorEq, Int.reduceEq, Int.reduceLT, Int.reduceLE, Int.reduceNe]
  refine call_v (hKids _ (by omega) (by omega)) ?_
  simp (disch := omega) only [VTy.cells, VTy.isAgg, VTy.storable, VTy.noref, VTy.eta, wrapS, lt0, W00, W01, W02, W03, W04, W05, W06, W07, W08, W09, Nat.reduceEqDiff, Nat.reduceAdd, Nat.reduceLT, Nat.reduceLeDiff, Nat.reduceMul, reduceIte, reduceCtorEq, Int.reduceEq, Int.reduceLT, Int.reduceLE, Int.reduceNe]
  first | done | exact congrArg (fun n : Nat => AV.v (.int .i64 (n : Int))) (by omega)
termination_by SizeOf.sizeOf x
decreasing_by all_goals first | exact VTy.Kids_lt (by assumption)

theorem toTy_c (x : VTy) (hb : x.wt ≤ 1048576) : PCon Try.prog F.laws_toTy [x.av] x.av := by
  have hw := VTy.wt_eq x
  have hKids : PCon Try.prog F.laws_toTyS [.sl (x.Kids.map VTy.av)] (.sl (x.Kids.map VTy.av)) :=
    T.laws_toTyS_con rfl (by simp only [AV.norefs, AV.noref, Bool.and_true]; exact (norefsM (f := VTy.av) (l := x.Kids) VTy.noref)) (toS_T VTy.shape4 rfl (by omega) (by omega) fun y hy => toTy_c y (by have := le_sum VTy.wt hy; omega))
  refine T.laws_toTy_con rfl (by simp [AV.norefs, AV.noref, VTy.noref]) ?_
  simp (disch := omega) only [T.laws_toTy, VTy.cells, VTy.isAgg, VTy.storable, VTy.noref, VTy.eta, wrapS, lt0, W00, W01, W02, W03, W04, W05, W06, W07, W08, W09, Nat.reduceEqDiff, Nat.reduceAdd, Nat.reduceLT, Nat.reduceLeDiff, Nat.reduceMul, reduceIte, reduceCtorEq, Int.reduceEq, Int.reduceLT, Int.reduceLE, Int.reduceNe]
  refine call_p hKids (norefsM (f := VTy.av) (l := x.Kids) VTy.noref) ?_
  simp (disch := omega) only [VTy.cells, VTy.isAgg, VTy.storable, VTy.noref, VTy.eta, wrapS, lt0, W00, W01, W02, W03, W04, W05, W06, W07, W08, W09, Nat.reduceEqDiff, Nat.reduceAdd, Nat.reduceLT, Nat.reduceLeDiff, Nat.reduceMul, reduceIte, reduceCtorEq, Int.reduceEq, Int.reduceLT, Int.reduceLE, Int.reduceNe]
termination_by SizeOf.sizeOf x
decreasing_by all_goals first | exact VTy.Kids_lt (by assumption)

theorem eqTy_c (x : VTy) (hb : x.wt ≤ 1048576) : PCon Try.prog F.laws_eqTy [x.av, x.av] (.v (.bool true)) := by
  have hw := VTy.wt_eq x
  have hKids : PCon Try.prog F.laws_eqTyS [.sl (x.Kids.map VTy.av), .sl (x.Kids.map VTy.av)] (.v (.bool true)) :=
    T.laws_eqTyS_con rfl (by simp only [AV.norefs, AV.noref, Bool.and_true, Bool.and_self]; exact (norefsM (f := VTy.av) (l := x.Kids) VTy.noref)) (eqS_T VTy.shape (by omega) fun y hy => eqTy_c y (by have := le_sum VTy.wt hy; omega))
  refine T.laws_eqTy_con rfl (by simp [AV.norefs, AV.noref, VTy.noref]) ?_
  simp (disch := omega) only [T.laws_eqTy, VTy.cells, VTy.isAgg, VTy.storable, VTy.noref, VTy.eta, wrapS, lt0, W00, W01, W02, W03, W04, W05, W06, W07, W08, W09, Nat.reduceEqDiff, Nat.reduceAdd, Nat.reduceLT, Nat.reduceLeDiff, Nat.reduceMul, reduceIte, reduceCtorEq, Int.reduceEq, Int.reduceLT, Int.reduceLE, Int.reduceNe]
  refine call_v hKids ?_
  simp (disch := omega) only [VTy.cells, VTy.isAgg, VTy.storable, VTy.noref, VTy.eta, wrapS, lt0, W00, W01, W02, W03, W04, W05, W06, W07, W08, W09, Nat.reduceEqDiff, Nat.reduceAdd, Nat.reduceLT, Nat.reduceLeDiff, Nat.reduceMul, reduceIte, reduceCtorEq, Int.reduceEq, Int.reduceLT, Int.reduceLE, Int.reduceNe]
termination_by SizeOf.sizeOf x
decreasing_by all_goals first | exact VTy.Kids_lt (by assumption)

theorem szTyS_c (l : List VTy) (c : Nat) (h1 : l.length + (l.map VTy.wt).sum ≤ c) (h2 : c ≤ 1048576) : PCon Try.prog F.laws_szTyS [.sl (l.map VTy.av), .v (.int .i64 c)] (.v (.int .i64 (c - (l.length + (l.map VTy.wt).sum) : Nat))) :=
  T.laws_szTyS_con rfl (by simp only [AV.norefs, AV.noref, Bool.and_true, Bool.and_self]; exact (norefsM (f := VTy.av) (l := l) VTy.noref)) (szS_T VTy.shape h1 h2 fun y hy c h1 h2 => szTy_c y c h1 h2)
theorem toTyS_c (l : List VTy) (h : l.length + (l.map VTy.wt).sum ≤ 1048576) : PCon Try.prog F.laws_toTyS [.sl (l.map VTy.av)] (.sl (l.map VTy.av)) :=
  T.laws_toTyS_con rfl (by simp only [AV.norefs, AV.noref, Bool.and_true, Bool.and_self]; exact (norefsM (f := VTy.av) (l := l) VTy.noref)) (toS_T VTy.shape4 rfl (by omega) (by omega) fun y hy => toTy_c y (by have := le_sum VTy.wt hy; omega))
theorem eqTyS_c (l : List VTy) (h : l.length + (l.map VTy.wt).sum ≤ 1048576) : PCon Try.prog F.laws_eqTyS [.sl (l.map VTy.av), .sl (l.map VTy.av)] (.v (.bool true)) :=
  T.laws_eqTyS_con rfl (by simp only [AV.norefs, AV.noref, Bool.and_true, Bool.and_self]; exact (norefsM (f := VTy.av) (l := l) VTy.noref)) (eqS_T VTy.shape (by omega) fun y hy => eqTy_c y (by have := le_sum VTy.wt hy; omega))
theorem szKVal_c (x : VKVal) (b : Nat) (hb : x.wt ≤ b) (hb1 : b ≤ 1048576) : PCon Try.prog F.laws_szKVal [x.av, .v (.int .i64 b)] (.v (.int .i64 (b - x.wt : Nat))) := by
  have hw := VKVal.wt_eq x
  refine T.laws_szKVal_con rfl (by simp [AV.norefs, AV.noref, VKVal.noref]) ?_
  simp (disch := omega) only [T.laws_szKVal, VKVal.cells, VKVal.isAgg, VKVal.storable, VKVal.noref, VKVal.eta, wrapS, lt0, W00, W01, W02, W03, W04, W05, W06, W07, W08, W09, Nat.reduceEqDiff, Nat.reduceAdd, Nat.reduceLT, Nat.reduceLeDiff, Nat.reduceMul, reduceIte, reduceCtorEq, Int.reduceEq, Int.reduceLT, Int.reduceLE, Int.reduceNe]
  first | done | exact congrArg (fun n : Nat => AV.v (.int .i64 (n : Int))) (by omega)

theorem toKVal_c (x : VKVal) (hb : x.wt ≤ 1048576) : PCon Try.prog F.laws_toKVal [x.av] x.av := by
  have hw := VKVal.wt_eq x
  refine T.laws_toKVal_con rfl (by simp [AV.norefs, AV.noref, VKVal.noref]) ?_
  simp (disch := omega) only [T.laws_toKVal, VKVal.cells, VKVal.isAgg, VKVal.storable, VKVal.noref, VKVal.eta, wrapS, lt0, W00, W01, W02, W03, W04, W05, W06, W07, W08, W09, Nat.reduceEqDiff, Nat.reduceAdd, Nat.reduceLT, Nat.reduceLeDiff, Nat.reduceMul, reduceIte, reduceCtorEq, Int.reduceEq, Int.reduceLT, Int.reduceLE, Int.reduceNe]

theorem eqKVal_c (x : VKVal) (hb : x.wt ≤ 1048576) : PCon Try.prog F.laws_eqKVal [x.av, x.av] (.v (.bool true)) := by
  have hw := VKVal.wt_eq x
  refine T.laws_eqKVal_con rfl (by simp [AV.norefs, AV.noref, VKVal.noref]) ?_
  simp (disch := omega) only [T.laws_eqKVal, VKVal.cells, VKVal.isAgg, VKVal.storable, VKVal.noref, VKVal.eta, wrapS, lt0, W00, W01, W02, W03, W04, W05, W06, W07, W08, W09, Nat.reduceEqDiff, Nat.reduceAdd, Nat.reduceLT, Nat.reduceLeDiff, Nat.reduceMul, reduceIte, reduceCtorEq, Int.reduceEq, Int.reduceLT, Int.reduceLE, Int.reduceNe]

theorem szKValS_c (l : List VKVal) (c : Nat) (h1 : l.length + (l.map VKVal.wt).sum ≤ c) (h2 : c ≤ 1048576) : PCon Try.prog F.laws_szKValS [.sl (l.map VKVal.av), .v (.int .i64 c)] (.v (.int .i64 (c - (l.length + (l.map VKVal.wt).sum) : Nat))) :=
  T.laws_szKValS_con rfl (by simp only [AV.norefs, AV.noref, Bool.and_true, Bool.and_self]; exact (norefsM (f := VKVal.av) (l := l) VKVal.noref)) (szS_T VKVal.shape h1 h2 fun y hy c h1 h2 => szKVal_c y c h1 h2)
theorem toKValS_c (l : List VKVal) (h : l.length + (l.map VKVal.wt).sum ≤ 1048576) : PCon Try.prog F.laws_toKValS [.sl (l.map VKVal.av)] (.sl (l.map VKVal.av)) :=
  T.laws_toKValS_con rfl (by simp only [AV.norefs, AV.noref, Bool.and_true, Bool.and_self]; exact (norefsM (f := VKVal.av) (l := l) VKVal.noref)) (toS_T VKVal.shape4 rfl (by omega) (by omega) fun y hy => toKVal_c y (by have := le_sum VKVal.wt hy; omega))
theorem eqKValS_c (l : List VKVal) (h : l.length + (l.map VKVal.wt).sum ≤ 1048576) : PCon Try.prog F.laws_eqKValS [.sl (l.map VKVal.av), .sl (l.map VKVal.av)] (.v (.bool true)) :=
  T.laws_eqKValS_con rfl (by simp only [AV.norefs, AV.noref, Bool.and_true, Bool.and_self]; exact (norefsM (f := VKVal.av) (l := l) VKVal.noref)) (eqS_T VKVal.shape (by omega) fun y hy => eqKVal_c y (by have := le_sum VKVal.wt hy; omega))
theorem szKTerm_c (x : VKTerm) (b : Nat) (hb : x.wt ≤ b) (hb1 : b ≤ 1048576) : PCon Try.prog F.laws_szKTerm [x.av, .v (.int .i64 b)] (.v (.int .i64 (b - x.wt : Nat))) := by
  have hw := VKTerm.wt_eq x
  have hTs : ∀ c : Nat, x.Ts.length + (x.Ts.map VTy.wt).sum ≤ c → c ≤ 1048576 → PCon Try.prog F.laws_szTyS [.sl (x.Ts.map VTy.av), .v (.int .i64 c)] (.v (.int .i64 (c - (x.Ts.length + (x.Ts.map VTy.wt).sum) : Nat))) := fun c h1 h2 =>
    T.laws_szTyS_con rfl (by simp only [AV.norefs, AV.noref, Bool.and_true]; exact (norefsM (f := VTy.av) (l := x.Ts) VTy.noref)) (szS_T VTy.shape h1 h2 fun y hy c h1 h2 => szTy_c y c h1 h2)
  have hVs : ∀ c : Nat, x.Vs.length + (x.Vs.map VKVal.wt).sum ≤ c → c ≤ 1048576 → PCon Try.prog F.laws_szKValS [.sl (x.Vs.map VKVal.av), .v (.int .i64 c)] (.v (.int .i64 (c - (x.Vs.length + (x.Vs.map VKVal.wt).sum) : Nat))) := fun c h1 h2 =>
    T.laws_szKValS_con rfl (by simp only [AV.norefs, AV.noref, Bool.and_true]; exact (norefsM (f := VKVal.av) (l := x.Vs) VKVal.noref)) (szS_T VKVal.shape h1 h2 fun y hy c h1 h2 => szKVal_c y c h1 h2)
  have hKids : ∀ c : Nat, x.Kids.length + (x.Kids.map VKTerm.wt).sum ≤ c → c ≤ 1048576 → PCon Try.prog F.laws_szKTermS [.sl (x.Kids.map VKTerm.av), .v (.int .i64 c)] (.v (.int .i64 (c - (x.Kids.length + (x.Kids.map VKTerm.wt).sum) : Nat))) := fun c h1 h2 =>
    T.laws_szKTermS_con rfl (by simp only [AV.norefs, AV.noref, Bool.and_true]; exact (norefsM (f := VKTerm.av) (l := x.Kids) VKTerm.noref)) (szS_T VKTerm.shape h1 h2 fun y hy c h1 h2 => szKTerm_c y c h1 h2)
  refine T.laws_szKTerm_con rfl (by simp [AV.norefs, AV.noref, VKTerm.noref]) ?_
  simp (disch := omega) only [T.laws_szKTerm, VKTerm.cells, VKTerm.isAgg, VKTerm.storable, VKTerm.noref, VTy.cells, VTy.isAgg, VTy.storable, VTy.noref, VKTerm.eta, VTy.eta, wrapS, lt0, W00, W01, W02, W03, W04, W05, W06, W07, W08, W09, Nat.reduceEqDiff, Nat.reduceAdd, Nat.reduceLT, Nat.reduceLeDiff, Nat.reduceMul, reduceIte, reduceCtorEq, Int.reduceEq, Int.reduceLT, Int.reduceLE, Int.reduceNe]
  refine call_v (szTy_c x.T _ (by omega) (by omega)) ?_
  simp (disch := omega) only [VKTerm.cells, VKTerm.isAgg, VKTerm.storable, VKTerm.noref, VTy.cells, VTy.isAgg, VTy.storable, VTy.noref, VKTerm.eta, VTy.eta, wrapS, lt0, W00, W01, W02, W03, W04, W05, W06, W07, W08, W09, Nat.reduceEqDiff, Nat.reduceAdd, Nat.reduceLT, Nat.reduceLeDiff, Nat.reduceMul, reduceIte, reduceCtorEq, Int.reduceEq, Int.reduceLT, Int.reduceLE, Int.reduceNe]
  refine call_v (hTs _ (by omega) (by omega)) ?_
  simp (disch := omega) only [VKTerm.cells, VKTerm.isAgg, VKTerm.storable, VKTerm.noref, VTy.cells, VTy.isAgg, VTy.storable, VTy.noref, VKTerm.eta, VTy.eta, wrapS, lt0, W00, W01, W02, W03, W04, W05, W06, W07, W08, W09, Nat.reduceEqDiff, Nat.reduceAdd, Nat.reduceLT, Nat.reduceLeDiff, Nat.reduceMul, reduceIte, reduceCtorEq, Int.reduceEq, Int.reduceLT, Int.reduceLE, Int.reduceNe]
  refine call_v (hVs _ (by omega) (by omega)) ?_
  simp (disch := omega) only [VKTerm.cells, VKTerm.isAgg, VKTerm.storable, VKTerm.noref, VTy.cells, VTy.isAgg, VTy.storable, VTy.noref, VKTerm.eta, VTy.eta, wrapS, lt0, W00, W01, W02, W03, W04, W05, W06, W07, W08, W09, Nat.reduceEqDiff, Nat.reduceAdd, Nat.reduceLT, Nat.reduceLeDiff, Nat.reduceMul, reduceIte, reduceCtorEq, Int.reduceEq, Int.reduceLT, Int.reduceLE, Int.reduceNe]
  refine call_v (hKids _ (by omega) (by omega)) ?_
  simp (disch := omega) only [VKTerm.cells, VKTerm.isAgg, VKTerm.storable, VKTerm.noref, VTy.cells, VTy.isAgg, VTy.storable, VTy.noref, VKTerm.eta, VTy.eta, wrapS, lt0, W00, W01, W02, W03, W04, W05, W06, W07, W08, W09, Nat.reduceEqDiff, Nat.reduceAdd, Nat.reduceLT, Nat.reduceLeDiff, Nat.reduceMul, reduceIte, reduceCtorEq, Int.reduceEq, Int.reduceLT, Int.reduceLE, Int.reduceNe]
  first | done | exact congrArg (fun n : Nat => AV.v (.int .i64 (n : Int))) (by omega)
termination_by SizeOf.sizeOf x
decreasing_by all_goals first | exact VKTerm.Kids_lt (by assumption)

theorem toKTerm_c (x : VKTerm) (hb : x.wt ≤ 1048576) : PCon Try.prog F.laws_toKTerm [x.av] x.av := by
  have hw := VKTerm.wt_eq x
  have hTs : PCon Try.prog F.laws_toTyS [.sl (x.Ts.map VTy.av)] (.sl (x.Ts.map VTy.av)) :=
    T.laws_toTyS_con rfl (by simp only [AV.norefs, AV.noref, Bool.and_true]; exact (norefsM (f := VTy.av) (l := x.Ts) VTy.noref)) (toS_T VTy.shape4 rfl (by omega) (by omega) fun y hy => toTy_c y (by have := le_sum VTy.wt hy; omega))
  have hVs : PCon Try.prog F.laws_toKValS [.sl (x.Vs.map VKVal.av)] (.sl (x.Vs.map VKVal.av)) :=
    T.laws_toKValS_con rfl (by simp only [AV.norefs, AV.noref, Bool.and_true]; exact (norefsM (f := VKVal.av) (l := x.Vs) VKVal.noref)) (toS_T VKVal.shape4 rfl (by omega) (by omega) fun y hy => toKVal_c y (by have := le_sum VKVal.wt hy; omega))
  have hKids : PCon Try.prog F.laws_toKTermS [.sl (x.Kids.map VKTerm.av)] (.sl (x.Kids.map VKTerm.av)) :=
    T.laws_toKTermS_con rfl (by simp only [AV.norefs, AV.noref, Bool.and_true]; exact (norefsM (f := VKTerm.av) (l := x.Kids) VKTerm.noref)) (toS_T VKTerm.shape4 rfl (by omega) (by omega) fun y hy => toKTerm_c y (by have := le_sum VKTerm.wt hy; omega))
  refine T.laws_toKTerm_con rfl (by simp [AV.norefs, AV.noref, VKTerm.noref]) ?_
  simp (disch := omega) only [T.laws_toKTerm, VKTerm.cells, VKTerm.isAgg, VKTerm.storable, VKTerm.noref, VTy.cells, VTy.isAgg, VTy.storable, VTy.noref, VKTerm.eta, VTy.eta, wrapS, lt0, W00, W01, W02, W03, W04, W05, W06, W07, W08, W09, Nat.reduceEqDiff, Nat.reduceAdd, Nat.reduceLT, Nat.reduceLeDiff, Nat.reduceMul, reduceIte, reduceCtorEq, Int.reduceEq, Int.reduceLT, Int.reduceLE, Int.reduceNe]
  refine call_p (toTy_c x.T (by omega)) (VTy.noref _) ?_
  simp (disch := omega) only [VKTerm.cells, VKTerm.isAgg, VKTerm.storable, VKTerm.noref, VTy.cells, VTy.isAgg, VTy.storable, VTy.noref, VKTerm.eta, VTy.eta, wrapS, lt0, W00, W01, W02, W03, W04, W05, W06, W07, W08, W09, Nat.reduceEqDiff, Nat.reduceAdd, Nat.reduceLT, Nat.reduceLeDiff, Nat.reduceMul, reduceIte, reduceCtorEq, Int.reduceEq, Int.reduceLT, Int.reduceLE, Int.reduceNe]
  refine call_p hTs (norefsM (f := VTy.av) (l := x.Ts) VTy.noref) ?_
  simp (disch := omega) only [VKTerm.cells, VKTerm.isAgg, VKTerm.storable, VKTerm.noref, VTy.cells, VTy.isAgg, VTy.storable, VTy.noref, VKTerm.eta, VTy.eta, wrapS, lt0, W00, W01, W02, W03, W04, W05, W06, W07, W08, W09, Nat.reduceEqDiff, Nat.reduceAdd, Nat.reduceLT, Nat.reduceLeDiff, Nat.reduceMul, reduceIte, reduceCtorEq, Int.reduceEq, Int.reduceLT, Int.reduceLE, Int.reduceNe]
  refine call_p hVs (norefsM (f := VKVal.av) (l := x.Vs) VKVal.noref) ?_
  simp (disch := omega) only [VKTerm.cells, VKTerm.isAgg, VKTerm.storable, VKTerm.noref, VTy.cells, VTy.isAgg, VTy.storable, VTy.noref, VKTerm.eta, VTy.eta, wrapS, lt0, W00, W01, W02, W03, W04, W05, W06, W07, W08, W09, Nat.reduceEqDiff, Nat.reduceAdd, Nat.reduceLT, Nat.reduceLeDiff, Nat.reduceMul, reduceIte, reduceCtorEq, Int.reduceEq, Int.reduceLT, Int.reduceLE, Int.reduceNe]
  refine call_p hKids (norefsM (f := VKTerm.av) (l := x.Kids) VKTerm.noref) ?_
  simp (disch := omega) only [VKTerm.cells, VKTerm.isAgg, VKTerm.storable, VKTerm.noref, VTy.cells, VTy.isAgg, VTy.storable, VTy.noref, VKTerm.eta, VTy.eta, wrapS, lt0, W00, W01, W02, W03, W04, W05, W06, W07, W08, W09, Nat.reduceEqDiff, Nat.reduceAdd, Nat.reduceLT, Nat.reduceLeDiff, Nat.reduceMul, reduceIte, reduceCtorEq, Int.reduceEq, Int.reduceLT, Int.reduceLE, Int.reduceNe]
termination_by SizeOf.sizeOf x
decreasing_by all_goals first | exact VKTerm.Kids_lt (by assumption)

theorem eqKTerm_c (x : VKTerm) (hb : x.wt ≤ 1048576) : PCon Try.prog F.laws_eqKTerm [x.av, x.av] (.v (.bool true)) := by
  have hw := VKTerm.wt_eq x
  have hTs : PCon Try.prog F.laws_eqTyS [.sl (x.Ts.map VTy.av), .sl (x.Ts.map VTy.av)] (.v (.bool true)) :=
    T.laws_eqTyS_con rfl (by simp only [AV.norefs, AV.noref, Bool.and_true, Bool.and_self]; exact (norefsM (f := VTy.av) (l := x.Ts) VTy.noref)) (eqS_T VTy.shape (by omega) fun y hy => eqTy_c y (by have := le_sum VTy.wt hy; omega))
  have hVs : PCon Try.prog F.laws_eqKValS [.sl (x.Vs.map VKVal.av), .sl (x.Vs.map VKVal.av)] (.v (.bool true)) :=
    T.laws_eqKValS_con rfl (by simp only [AV.norefs, AV.noref, Bool.and_true, Bool.and_self]; exact (norefsM (f := VKVal.av) (l := x.Vs) VKVal.noref)) (eqS_T VKVal.shape (by omega) fun y hy => eqKVal_c y (by have := le_sum VKVal.wt hy; omega))
  have hKids : PCon Try.prog F.laws_eqKTermS [.sl (x.Kids.map VKTerm.av), .sl (x.Kids.map VKTerm.av)] (.v (.bool true)) :=
    T.laws_eqKTermS_con rfl (by simp only [AV.norefs, AV.noref, Bool.and_true, Bool.and_self]; exact (norefsM (f := VKTerm.av) (l := x.Kids) VKTerm.noref)) (eqS_T VKTerm.shape (by omega) fun y hy => eqKTerm_c y (by have := le_sum VKTerm.wt hy; omega))
  refine T.laws_eqKTerm_con rfl (by simp [AV.norefs, AV.noref, VKTerm.noref]) ?_
  simp (disch := omega) only [T.laws_eqKTerm, VKTerm.cells, VKTerm.isAgg, VKTerm.storable, VKTerm.noref, VTy.cells, VTy.isAgg, VTy.storable, VTy.noref, VKTerm.eta, VTy.eta, wrapS, lt0, W00, W01, W02, W03, W04, W05, W06, W07, W08, W09, Nat.reduceEqDiff, Nat.reduceAdd, Nat.reduceLT, Nat.reduceLeDiff, Nat.reduceMul, reduceIte, reduceCtorEq, Int.reduceEq, Int.reduceLT, Int.reduceLE, Int.reduceNe]
  refine call_v (eqTy_c x.T (by omega)) ?_
  simp (disch := omega) only [VKTerm.cells, VKTerm.isAgg, VKTerm.storable, VKTerm.noref, VTy.cells, VTy.isAgg, VTy.storable, VTy.noref, VKTerm.eta, VTy.eta, wrapS, lt0, W00, W01, W02, W03, W04, W05, W06, W07, W08, W09, Nat.reduceEqDiff, Nat.reduceAdd, Nat.reduceLT, Nat.reduceLeDiff, Nat.reduceMul, reduceIte, reduceCtorEq, Int.reduceEq, Int.reduceLT, Int.reduceLE, Int.reduceNe]
  refine call_v hTs ?_
  simp (disch := omega) only [VKTerm.cells, VKTerm.isAgg, VKTerm.storable, VKTerm.noref, VTy.cells, VTy.isAgg, VTy.storable, VTy.noref, VKTerm.eta, VTy.eta, wrapS, lt0, W00, W01, W02, W03, W04, W05, W06, W07, W08, W09, Nat.reduceEqDiff, Nat.reduceAdd, Nat.reduceLT, Nat.reduceLeDiff, Nat.reduceMul, reduceIte, reduceCtorEq, Int.reduceEq, Int.reduceLT, Int.reduceLE, Int.reduceNe]
  refine call_v hVs ?_
  simp (disch := omega) only [VKTerm.cells, VKTerm.isAgg, VKTerm.storable, VKTerm.noref, VTy.cells, VTy.isAgg, VTy.storable, VTy.noref, VKTerm.eta, VTy.eta, wrapS, lt0, W00, W01, W02, W03, W04, W05, W06, W07, W08, W09, Nat.reduceEqDiff, Nat.reduceAdd, Nat.reduceLT, Nat.reduceLeDiff, Nat.reduceMul, reduceIte, reduceCtorEq, Int.reduceEq, Int.reduceLT, Int.reduceLE, Int.reduceNe]
  refine call_v hKids ?_
  simp (disch := omega) only [VKTerm.cells, VKTerm.isAgg, VKTerm.storable, VKTerm.noref, VTy.cells, VTy.isAgg, VTy.storable, VTy.noref, VKTerm.eta, VTy.eta, wrapS, lt0, W00, W01, W02, W03, W04, W05, W06, W07, W08, W09, Nat.reduceEqDiff, Nat.reduceAdd, Nat.reduceLT, Nat.reduceLeDiff, Nat.reduceMul, reduceIte, reduceCtorEq, Int.reduceEq, Int.reduceLT, Int.reduceLE, Int.reduceNe]
termination_by SizeOf.sizeOf x
decreasing_by all_goals first | exact VKTerm.Kids_lt (by assumption)

theorem szKTermS_c (l : List VKTerm) (c : Nat) (h1 : l.length + (l.map VKTerm.wt).sum ≤ c) (h2 : c ≤ 1048576) : PCon Try.prog F.laws_szKTermS [.sl (l.map VKTerm.av), .v (.int .i64 c)] (.v (.int .i64 (c - (l.length + (l.map VKTerm.wt).sum) : Nat))) :=
  T.laws_szKTermS_con rfl (by simp only [AV.norefs, AV.noref, Bool.and_true, Bool.and_self]; exact (norefsM (f := VKTerm.av) (l := l) VKTerm.noref)) (szS_T VKTerm.shape h1 h2 fun y hy c h1 h2 => szKTerm_c y c h1 h2)
theorem toKTermS_c (l : List VKTerm) (h : l.length + (l.map VKTerm.wt).sum ≤ 1048576) : PCon Try.prog F.laws_toKTermS [.sl (l.map VKTerm.av)] (.sl (l.map VKTerm.av)) :=
  T.laws_toKTermS_con rfl (by simp only [AV.norefs, AV.noref, Bool.and_true, Bool.and_self]; exact (norefsM (f := VKTerm.av) (l := l) VKTerm.noref)) (toS_T VKTerm.shape4 rfl (by omega) (by omega) fun y hy => toKTerm_c y (by have := le_sum VKTerm.wt hy; omega))
theorem eqKTermS_c (l : List VKTerm) (h : l.length + (l.map VKTerm.wt).sum ≤ 1048576) : PCon Try.prog F.laws_eqKTermS [.sl (l.map VKTerm.av), .sl (l.map VKTerm.av)] (.v (.bool true)) :=
  T.laws_eqKTermS_con rfl (by simp only [AV.norefs, AV.noref, Bool.and_true, Bool.and_self]; exact (norefsM (f := VKTerm.av) (l := l) VKTerm.noref)) (eqS_T VKTerm.shape (by omega) fun y hy => eqKTerm_c y (by have := le_sum VKTerm.wt hy; omega))
theorem szInstr_c (x : VInstr) (b : Nat) (hb : x.wt ≤ b) (hb1 : b ≤ 1048576) : PCon Try.prog F.laws_szInstr [x.av, .v (.int .i64 b)] (.v (.int .i64 (b - x.wt : Nat))) := by
  have hw := VInstr.wt_eq x
  refine T.laws_szInstr_con rfl (by simp [AV.norefs, AV.noref, VInstr.noref]) ?_
  simp (disch := omega) only [T.laws_szInstr, VInstr.cells, VInstr.isAgg, VInstr.storable, VInstr.noref, VInstr.eta, wrapS, lt0, W00, W01, W02, W03, W04, W05, W06, W07, W08, W09, Nat.reduceEqDiff, Nat.reduceAdd, Nat.reduceLT, Nat.reduceLeDiff, Nat.reduceMul, reduceIte, reduceCtorEq, Int.reduceEq, Int.reduceLT, Int.reduceLE, Int.reduceNe]
  first | done | exact congrArg (fun n : Nat => AV.v (.int .i64 (n : Int))) (by omega)

theorem toInstr_c (x : VInstr) (hb : x.wt ≤ 1048576) : PCon Try.prog F.laws_toInstr [x.av] x.av := by
  have hw := VInstr.wt_eq x
  refine T.laws_toInstr_con rfl (by simp [AV.norefs, AV.noref, VInstr.noref]) ?_
  simp (disch := omega) only [T.laws_toInstr, VInstr.cells, VInstr.isAgg, VInstr.storable, VInstr.noref, VInstr.eta, wrapS, lt0, W00, W01, W02, W03, W04, W05, W06, W07, W08, W09, Nat.reduceEqDiff, Nat.reduceAdd, Nat.reduceLT, Nat.reduceLeDiff, Nat.reduceMul, reduceIte, reduceCtorEq, Int.reduceEq, Int.reduceLT, Int.reduceLE, Int.reduceNe]

theorem eqInstr_c (x : VInstr) (hb : x.wt ≤ 1048576) : PCon Try.prog F.laws_eqInstr [x.av, x.av] (.v (.bool true)) := by
  have hw := VInstr.wt_eq x
  refine T.laws_eqInstr_con rfl (by simp [AV.norefs, AV.noref, VInstr.noref]) ?_
  simp (disch := omega) only [T.laws_eqInstr, VInstr.cells, VInstr.isAgg, VInstr.storable, VInstr.noref, VInstr.eta, wrapS, lt0, W00, W01, W02, W03, W04, W05, W06, W07, W08, W09, Nat.reduceEqDiff, Nat.reduceAdd, Nat.reduceLT, Nat.reduceLeDiff, Nat.reduceMul, reduceIte, reduceCtorEq, Int.reduceEq, Int.reduceLT, Int.reduceLE, Int.reduceNe]

theorem szInstrS_c (l : List VInstr) (c : Nat) (h1 : l.length + (l.map VInstr.wt).sum ≤ c) (h2 : c ≤ 1048576) : PCon Try.prog F.laws_szInstrS [.sl (l.map VInstr.av), .v (.int .i64 c)] (.v (.int .i64 (c - (l.length + (l.map VInstr.wt).sum) : Nat))) :=
  T.laws_szInstrS_con rfl (by simp only [AV.norefs, AV.noref, Bool.and_true, Bool.and_self]; exact (norefsM (f := VInstr.av) (l := l) VInstr.noref)) (szS_T VInstr.shape h1 h2 fun y hy c h1 h2 => szInstr_c y c h1 h2)
theorem toInstrS_c (l : List VInstr) (h : l.length + (l.map VInstr.wt).sum ≤ 1048576) : PCon Try.prog F.laws_toInstrS [.sl (l.map VInstr.av)] (.sl (l.map VInstr.av)) :=
  T.laws_toInstrS_con rfl (by simp only [AV.norefs, AV.noref, Bool.and_true, Bool.and_self]; exact (norefsM (f := VInstr.av) (l := l) VInstr.noref)) (toS_T VInstr.shape4 rfl (by omega) (by omega) fun y hy => toInstr_c y (by have := le_sum VInstr.wt hy; omega))
theorem eqInstrS_c (l : List VInstr) (h : l.length + (l.map VInstr.wt).sum ≤ 1048576) : PCon Try.prog F.laws_eqInstrS [.sl (l.map VInstr.av), .sl (l.map VInstr.av)] (.v (.bool true)) :=
  T.laws_eqInstrS_con rfl (by simp only [AV.norefs, AV.noref, Bool.and_true, Bool.and_self]; exact (norefsM (f := VInstr.av) (l := l) VInstr.noref)) (eqS_T VInstr.shape (by omega) fun y hy => eqInstr_c y (by have := le_sum VInstr.wt hy; omega))
theorem szCode_c (x : VCode) (b : Nat) (hb : x.wt ≤ b) (hb1 : b ≤ 1048576) : PCon Try.prog F.laws_szCode [x.av, .v (.int .i64 b)] (.v (.int .i64 (b - x.wt : Nat))) := by
  have hw := VCode.wt_eq x
  have hInstrs : ∀ c : Nat, x.Instrs.length + (x.Instrs.map VInstr.wt).sum ≤ c → c ≤ 1048576 → PCon Try.prog F.laws_szInstrS [.sl (x.Instrs.map VInstr.av), .v (.int .i64 c)] (.v (.int .i64 (c - (x.Instrs.length + (x.Instrs.map VInstr.wt).sum) : Nat))) := fun c h1 h2 =>
    T.laws_szInstrS_con rfl (by simp only [AV.norefs, AV.noref, Bool.and_true]; exact (norefsM (f := VInstr.av) (l := x.Instrs) VInstr.noref)) (szS_T VInstr.shape h1 h2 fun y hy c h1 h2 => szInstr_c y c h1 h2)
  have hStarts : ∀ c : Nat, x.Starts.length ≤ c → c ≤ 1048576 → PCon Try.prog F.laws_szIntS [.sl (x.Starts.map fun y => .v (.int .i64 y)), .v (.int .i64 c)] (.v (.int .i64 (c - x.Starts.length : Nat))) := fun c h1 h2 => by
    have := szI_T (P := Try.prog) (L := fun _ _ _ => False) (xs := (x.Starts.map fun y => .v (.int .i64 y))) (by simpa using h1) h2
    rw [List.length_map] at this
    exact T.laws_szIntS_con rfl (by simp only [AV.norefs, AV.noref, Bool.and_true]; exact (norefsM (f := fun y => .v (.int .i64 y)) (l := x.Starts) fun _ => rfl)) this
  refine T.laws_szCode_con rfl (by simp [AV.norefs, AV.noref, VCode.noref]) ?_
  simp (disch := omega) only [T.laws_szCode, VCode.cells, VCode.isAgg, VCode.storable, VCode.noref, VCode.eta, wrapS, lt0, W00, W01, W02, W03, W04, W05, W06, W07, W08, W09, Nat.reduceEqDiff, Nat.reduceAdd, Nat.reduceLT, Nat.reduceLeDiff, Nat.reduceMul, reduceIte, reduceCtorEq, Int.reduceEq, Int.reduceLT, Int.reduceLE, Int.reduceNe]
  refine call_v (hInstrs _ (by omega) (by omega)) ?_
  simp (disch := omega) only [VCode.cells, VCode.isAgg, VCode.storable, VCode.noref, VCode.eta, wrapS, lt0, W00, W01, W02, W03, W04, W05, W06, W07, W08, W09, Nat.reduceEqDiff, Nat.reduceAdd, Nat.reduceLT, Nat.reduceLeDiff, Nat.reduceMul, reduceIte, reduceCtorEq, Int.reduceEq, Int.reduceLT, Int.reduceLE, Int.reduceNe]
  refine call_v (hStarts _ (by omega) (by omega)) ?_
  simp (disch := omega) only [VCode.cells, VCode.isAgg, VCode.storable, VCode.noref, VCode.eta, wrapS, lt0, W00, W01, W02, W03, W04, W05, W06, W07, W08, W09, Nat.reduceEqDiff, Nat.reduceAdd, Nat.reduceLT, Nat.reduceLeDiff, Nat.reduceMul, reduceIte, reduceCtorEq, Int.reduceEq, Int.reduceLT, Int.reduceLE, Int.reduceNe]
  first | done | exact congrArg (fun n : Nat => AV.v (.int .i64 (n : Int))) (by omega)

theorem toCode_c (x : VCode) (hb : x.wt ≤ 1048576) : PCon Try.prog F.laws_toCode [x.av] x.av := by
  have hw := VCode.wt_eq x
  have hInstrs : PCon Try.prog F.laws_toInstrS [.sl (x.Instrs.map VInstr.av)] (.sl (x.Instrs.map VInstr.av)) :=
    T.laws_toInstrS_con rfl (by simp only [AV.norefs, AV.noref, Bool.and_true]; exact (norefsM (f := VInstr.av) (l := x.Instrs) VInstr.noref)) (toS_T VInstr.shape4 rfl (by omega) (by omega) fun y hy => toInstr_c y (by have := le_sum VInstr.wt hy; omega))
  have hStarts : PCon Try.prog F.laws_toIntS [.sl (x.Starts.map fun y => .v (.int .i64 y))] (.sl (x.Starts.map fun y => .v (.int .i64 y))) := T.laws_toIntS_con rfl (by simp only [AV.norefs, AV.noref, Bool.and_true]; exact (norefsM (f := fun y => .v (.int .i64 y)) (l := x.Starts) fun _ => rfl)) (toI_T (g := fun y => .int .i64 y) rfl (by omega) (by omega))
  refine T.laws_toCode_con rfl (by simp [AV.norefs, AV.noref, VCode.noref]) ?_
  simp (disch := omega) only [T.laws_toCode, VCode.cells, VCode.isAgg, VCode.storable, VCode.noref, VCode.eta, wrapS, lt0, W00, W01, W02, W03, W04, W05, W06, W07, W08, W09, Nat.reduceEqDiff, Nat.reduceAdd, Nat.reduceLT, Nat.reduceLeDiff, Nat.reduceMul, reduceIte, reduceCtorEq, Int.reduceEq, Int.reduceLT, Int.reduceLE, Int.reduceNe]
  refine call_p hInstrs (norefsM (f := VInstr.av) (l := x.Instrs) VInstr.noref) ?_
  simp (disch := omega) only [VCode.cells, VCode.isAgg, VCode.storable, VCode.noref, VCode.eta, wrapS, lt0, W00, W01, W02, W03, W04, W05, W06, W07, W08, W09, Nat.reduceEqDiff, Nat.reduceAdd, Nat.reduceLT, Nat.reduceLeDiff, Nat.reduceMul, reduceIte, reduceCtorEq, Int.reduceEq, Int.reduceLT, Int.reduceLE, Int.reduceNe]
  refine call_p hStarts (norefsM (f := fun y => .v (.int .i64 y)) (l := x.Starts) fun _ => rfl) ?_
  simp (disch := omega) only [VCode.cells, VCode.isAgg, VCode.storable, VCode.noref, VCode.eta, wrapS, lt0, W00, W01, W02, W03, W04, W05, W06, W07, W08, W09, Nat.reduceEqDiff, Nat.reduceAdd, Nat.reduceLT, Nat.reduceLeDiff, Nat.reduceMul, reduceIte, reduceCtorEq, Int.reduceEq, Int.reduceLT, Int.reduceLE, Int.reduceNe]

theorem eqCode_c (x : VCode) (hb : x.wt ≤ 1048576) : PCon Try.prog F.laws_eqCode [x.av, x.av] (.v (.bool true)) := by
  have hw := VCode.wt_eq x
  have hInstrs : PCon Try.prog F.laws_eqInstrS [.sl (x.Instrs.map VInstr.av), .sl (x.Instrs.map VInstr.av)] (.v (.bool true)) :=
    T.laws_eqInstrS_con rfl (by simp only [AV.norefs, AV.noref, Bool.and_true, Bool.and_self]; exact (norefsM (f := VInstr.av) (l := x.Instrs) VInstr.noref)) (eqS_T VInstr.shape (by omega) fun y hy => eqInstr_c y (by have := le_sum VInstr.wt hy; omega))
  have hStarts : PCon Try.prog F.laws_eqIntS [.sl (x.Starts.map fun y => .v (.int .i64 y)), .sl (x.Starts.map fun y => .v (.int .i64 y))] (.v (.bool true)) := T.laws_eqIntS_con rfl (by simp only [AV.norefs, AV.noref, Bool.and_true, Bool.and_self]; exact (norefsM (f := fun y => .v (.int .i64 y)) (l := x.Starts) fun _ => rfl)) (eqI_T (g := fun y => .int .i64 y) (fun y K h => neqI _ y K h) (by omega))
  refine T.laws_eqCode_con rfl (by simp [AV.norefs, AV.noref, VCode.noref]) ?_
  simp (disch := omega) only [T.laws_eqCode, VCode.cells, VCode.isAgg, VCode.storable, VCode.noref, VCode.eta, wrapS, lt0, W00, W01, W02, W03, W04, W05, W06, W07, W08, W09, Nat.reduceEqDiff, Nat.reduceAdd, Nat.reduceLT, Nat.reduceLeDiff, Nat.reduceMul, reduceIte, reduceCtorEq, Int.reduceEq, Int.reduceLT, Int.reduceLE, Int.reduceNe]
  refine call_v hInstrs ?_
  simp (disch := omega) only [VCode.cells, VCode.isAgg, VCode.storable, VCode.noref, VCode.eta, wrapS, lt0, W00, W01, W02, W03, W04, W05, W06, W07, W08, W09, Nat.reduceEqDiff, Nat.reduceAdd, Nat.reduceLT, Nat.reduceLeDiff, Nat.reduceMul, reduceIte, reduceCtorEq, Int.reduceEq, Int.reduceLT, Int.reduceLE, Int.reduceNe]
  refine call_v hStarts ?_
  simp (disch := omega) only [VCode.cells, VCode.isAgg, VCode.storable, VCode.noref, VCode.eta, wrapS, lt0, W00, W01, W02, W03, W04, W05, W06, W07, W08, W09, Nat.reduceEqDiff, Nat.reduceAdd, Nat.reduceLT, Nat.reduceLeDiff, Nat.reduceMul, reduceIte, reduceCtorEq, Int.reduceEq, Int.reduceLT, Int.reduceLE, Int.reduceNe]

theorem szIntS_c (l : List Int) (c : Nat) (h1 : l.length ≤ c) (h2 : c ≤ 1048576) : PCon Try.prog F.laws_szIntS [.sl (l.map fun y => .v (.int .i64 y)), .v (.int .i64 c)] (.v (.int .i64 (c - l.length : Nat))) := by
  have := szI_T (P := Try.prog) (L := fun _ _ _ => False) (xs := l.map fun y => .v (.int .i64 y)) (by simpa using h1) h2
  rw [List.length_map] at this
  exact T.laws_szIntS_con rfl (by simp only [AV.norefs, AV.noref, Bool.and_true, Bool.and_self]; exact (norefsM (f := fun y => .v (.int .i64 y)) (l := l) fun _ => rfl)) this
theorem toIntS_c (l : List Int) (h : l.length ≤ 1048576) : PCon Try.prog F.laws_toIntS [.sl (l.map fun y => .v (.int .i64 y))] (.sl (l.map fun y => .v (.int .i64 y))) := T.laws_toIntS_con rfl (by simp only [AV.norefs, AV.noref, Bool.and_true, Bool.and_self]; exact (norefsM (f := fun y => .v (.int .i64 y)) (l := l) fun _ => rfl)) (toI_T (g := fun y => .int .i64 y) rfl (by omega) h)
theorem eqIntS_c (l : List Int) (h : l.length ≤ 1048576) : PCon Try.prog F.laws_eqIntS [.sl (l.map fun y => .v (.int .i64 y)), .sl (l.map fun y => .v (.int .i64 y))] (.v (.bool true)) := T.laws_eqIntS_con rfl (by simp only [AV.norefs, AV.noref, Bool.and_true, Bool.and_self]; exact (norefsM (f := fun y => .v (.int .i64 y)) (l := l) fun _ => rfl)) (eqI_T (g := fun y => .int .i64 y) (fun y K h => neqI _ y K h) h)
end Go.Proofs.Ab
