/-
  PROGRAMS THAT ARE THE SAME.
-/
import Derived.Test.YtimcinieaeaolaaGreatDoorCSl
set_option linter.unusedVariables false
set_option linter.unusedSimpArgs false
set_option linter.defProp false
namespace Go.Ab
set_option maxRecDepth 100000
set_option maxHeartbeats 4000000
mutual
def VPat.same : VPat → VPat → Bool
  | .mk k n m _ kids, y => decide (k = y.Kind) && decide (n = y.Name) && decide (m = y.Num) && VPat.sames kids y.Kids
def VPat.sames : List VPat → List VPat → Bool
  | [], [] => true
  | x :: l, y :: m => x.same y && VPat.sames l m
  | _, _ => false
end
theorem VPat.sames_eq : ∀ (l m : List VPat), VPat.sames l m = all2 VPat.same l m
  | [], [] => by simp [VPat.sames, all2]
  | [], _ :: _ => by simp [VPat.sames, all2]
  | _ :: _, [] => by simp [VPat.sames, all2]
  | x :: l, y :: m => by simp [VPat.sames, all2, VPat.sames_eq l m]
theorem VPat.same_eq (x y : VPat) : x.same y = (decide (x.Kind = y.Kind) && decide (x.Name = y.Name) && decide (x.Num = y.Num) && all2 VPat.same x.Kids y.Kids) := by
  cases x; rw [VPat.same, VPat.sames_eq]; rfl
mutual
def VTypeExp.same : VTypeExp → VTypeExp → Bool
  | .mk k n _ kids, y => decide (k = y.Kind) && decide (n = y.Name) && VTypeExp.sames kids y.Kids
def VTypeExp.sames : List VTypeExp → List VTypeExp → Bool
  | [], [] => true
  | x :: l, y :: m => x.same y && VTypeExp.sames l m
  | _, _ => false
end
theorem VTypeExp.sames_eq : ∀ (l m : List VTypeExp), VTypeExp.sames l m = all2 VTypeExp.same l m
  | [], [] => by simp [VTypeExp.sames, all2]
  | [], _ :: _ => by simp [VTypeExp.sames, all2]
  | _ :: _, [] => by simp [VTypeExp.sames, all2]
  | x :: l, y :: m => by simp [VTypeExp.sames, all2, VTypeExp.sames_eq l m]
theorem VTypeExp.same_eq (x y : VTypeExp) : x.same y = (decide (x.Kind = y.Kind) && decide (x.Name = y.Name) && all2 VTypeExp.same x.Kids y.Kids) := by
  cases x; rw [VTypeExp.same, VTypeExp.sames_eq]; rfl
mutual
def VExp.same : VExp → VExp → Bool
  | .mk k n m t _ kids arms, y => decide (k = y.Kind) && decide (n = y.Name) && decide (m = y.Num) && decide (t = y.Text) && VExp.sames kids y.Kids && VArm.sames arms y.Arms
def VExp.sames : List VExp → List VExp → Bool
  | [], [] => true
  | x :: l, y :: m => x.same y && VExp.sames l m
  | _, _ => false
def VArm.sames : List VArm → List VArm → Bool
  | [], [] => true
  | .mk p e :: l, y :: m => (p.same y.P && e.same y.E) && VArm.sames l m
  | _, _ => false
end
def VArm.same (x y : VArm) : Bool := x.P.same y.P && x.E.same y.E
theorem VExp.sames_eq : ∀ (l m : List VExp), VExp.sames l m = all2 VExp.same l m
  | [], [] => by simp [VExp.sames, all2]
  | [], _ :: _ => by simp [VExp.sames, all2]
  | _ :: _, [] => by simp [VExp.sames, all2]
  | x :: l, y :: m => by simp [VExp.sames, all2, VExp.sames_eq l m]
theorem VArm.sames_eq : ∀ (l m : List VArm), VArm.sames l m = all2 VArm.same l m
  | [], [] => by simp [VArm.sames, all2]
  | [], _ :: _ => by simp [VArm.sames, all2]
  | .mk _ _ :: _, [] => by simp [VArm.sames, all2]
  | .mk p e :: l, y :: m => by simp [VArm.sames, all2, VArm.sames_eq l m, VArm.same, VArm.P, VArm.E]
theorem VExp.same_eq (x y : VExp) : x.same y = (decide (x.Kind = y.Kind) && decide (x.Name = y.Name) && decide (x.Num = y.Num) && decide (x.Text = y.Text) && all2 VExp.same x.Kids y.Kids && all2 VArm.same x.Arms y.Arms) := by
  cases x; rw [VExp.same, VExp.sames_eq, VArm.sames_eq]; rfl
def VCtor.same (x y : VCtor) : Bool := decide (x.Name = y.Name) && (x.Has == y.Has) && x.Arg.same y.Arg
def VData.same (x y : VData) : Bool := decide (x.Name = y.Name) && all2 (fun a b : ByteArray => decide (a = b)) x.Vars y.Vars && all2 VCtor.same x.Ctors y.Ctors
def VProg.same (x y : VProg) : Bool := all2 VData.same x.Types y.Types && x.Body.same y.Body
theorem VArm.E_lt'' {x : VExp} {a : VArm} (h : a ∈ x.Arms) : SizeOf.sizeOf a.E < SizeOf.sizeOf x := Nat.lt_trans (VArm.E_lt a) (VExp.Arms_lt h)
end Go.Ab
namespace Go.Proofs.Ab
open Go.Ab
set_option maxRecDepth 100000
set_option maxHeartbeats 4000000
theorem impl_samePat_c (x y : VPat) (hb : x.wt ≤ 1048576) : PCon Tryz.prog F.impl_samePat [x.av, y.av] (.v (.bool (x.same y))) := by
  have hw := x.wt_eq
  have hv := x.same_eq y
  refine T.impl_samePat_con rfl (by simp [AV.norefs, AV.noref, VPat.noref]) ?_
  simp only [T.impl_samePat, VPat.cells, VPat.isAgg, VPat.storable, WA, Nat.reduceEqDiff, Nat.reduceAdd, Nat.reduceLT, Nat.reduceLeDiff, Nat.reduceMul, reduceIte, reduceCtorEq, Int.reduceEq, Int.reduceLT, Int.reduceLE, Int.reduceNe]
  repeat' (first | (simp (disch := (first | omega | rfl | exact rfl | (simp only [cells_v, List.length_cons, List.length_nil]; done) | exact VPat.width _)) only [VPat.cells, VPat.isAgg, VPat.storable, VPat.eta, wrapS, wrapA, wrapA1, lt0, WA, Nat.reduceEqDiff, Nat.reduceAdd, Nat.reduceLT, Nat.reduceLeDiff, Nat.reduceMul, reduceIte, reduceCtorEq, Int.reduceEq, Int.reduceLT, Int.reduceLE, Int.reduceNe]) | (refine ite_dec (fun hq => ?_) (fun hq => ?_) <;> (try simp only [hq, decide_true, decide_false, Bool.not_true, Bool.not_false, Bool.not_eq_true', Bool.not_eq_false'])) | (refine ite_ndec (fun hq => ?_) (fun hq => ?_) <;> (try simp only [hq, decide_true, decide_false, Bool.not_true, Bool.not_false, Bool.not_eq_true', Bool.not_eq_false'])) | (refine ite_intro (fun hq => ?_) (fun hq => ?_) <;> (try simp only [hq, decide_true, decide_false, Bool.not_true, Bool.not_false, Bool.not_eq_true', Bool.not_eq_false'])) | (refine bind_push ?_) | (refine call_v (eqF_Pat x.Kids y.Kids _ [] VPat.same (by omega) rfl (fun k hm z _ => impl_samePat_c k z (by have := le_sum VPat.wt hm; omega))) ?_))
  all_goals (first | (simp_all; done) | (simp_all [-List.all_eq_true, -List.any_eq_true, -List.all_eq_false, -List.any_eq_false]; done) | (simp_all <;> (intros; omega)) | (simp_all [-List.all_eq_true, -List.any_eq_true, -List.all_eq_false, -List.any_eq_false] <;> (intros; omega)) | (refine avb ?_; simp_all <;> (intros; omega)) | (refine avb ?_; simp_all [-List.all_eq_true, -List.any_eq_true, -List.all_eq_false, -List.any_eq_false] <;> (intros; omega)))
termination_by SizeOf.sizeOf x
decreasing_by all_goals exact VPat.Kids_lt hm
theorem impl_sameType_c (x y : VTypeExp) (hb : x.wt ≤ 1048576) : PCon Tryz.prog F.impl_sameType [x.av, y.av] (.v (.bool (x.same y))) := by
  have hw := x.wt_eq
  have hv := x.same_eq y
  refine T.impl_sameType_con rfl (by simp [AV.norefs, AV.noref, VTypeExp.noref]) ?_
  simp only [T.impl_sameType, VTypeExp.cells, VTypeExp.isAgg, VTypeExp.storable, WA, Nat.reduceEqDiff, Nat.reduceAdd, Nat.reduceLT, Nat.reduceLeDiff, Nat.reduceMul, reduceIte, reduceCtorEq, Int.reduceEq, Int.reduceLT, Int.reduceLE, Int.reduceNe]
  repeat' (first | (simp (disch := (first | omega | rfl | exact rfl | (simp only [cells_v, List.length_cons, List.length_nil]; done) | exact VTypeExp.width _)) only [VTypeExp.cells, VTypeExp.isAgg, VTypeExp.storable, VTypeExp.eta, wrapS, wrapA, wrapA1, lt0, WA, Nat.reduceEqDiff, Nat.reduceAdd, Nat.reduceLT, Nat.reduceLeDiff, Nat.reduceMul, reduceIte, reduceCtorEq, Int.reduceEq, Int.reduceLT, Int.reduceLE, Int.reduceNe]) | (refine ite_dec (fun hq => ?_) (fun hq => ?_) <;> (try simp only [hq, decide_true, decide_false, Bool.not_true, Bool.not_false, Bool.not_eq_true', Bool.not_eq_false'])) | (refine ite_ndec (fun hq => ?_) (fun hq => ?_) <;> (try simp only [hq, decide_true, decide_false, Bool.not_true, Bool.not_false, Bool.not_eq_true', Bool.not_eq_false'])) | (refine ite_intro (fun hq => ?_) (fun hq => ?_) <;> (try simp only [hq, decide_true, decide_false, Bool.not_true, Bool.not_false, Bool.not_eq_true', Bool.not_eq_false'])) | (refine bind_push ?_) | (refine call_v (eqF_TypeExp x.Kids y.Kids _ [] VTypeExp.same (by omega) rfl (fun k hm z _ => impl_sameType_c k z (by have := le_sum VTypeExp.wt hm; omega))) ?_))
  all_goals (first | (simp_all; done) | (simp_all [-List.all_eq_true, -List.any_eq_true, -List.all_eq_false, -List.any_eq_false]; done) | (simp_all <;> (intros; omega)) | (simp_all [-List.all_eq_true, -List.any_eq_true, -List.all_eq_false, -List.any_eq_false] <;> (intros; omega)) | (refine avb ?_; simp_all <;> (intros; omega)) | (refine avb ?_; simp_all [-List.all_eq_true, -List.any_eq_true, -List.all_eq_false, -List.any_eq_false] <;> (intros; omega)))
termination_by SizeOf.sizeOf x
decreasing_by all_goals exact VTypeExp.Kids_lt hm
theorem impl_sameExp_c (x y : VExp) (hb : x.wt ≤ 1048576) : PCon Tryz.prog F.impl_sameExp [x.av, y.av] (.v (.bool (x.same y))) := by
  have hw := x.wt_eq
  have hv := x.same_eq y
  have h1 : ∀ a ∈ x.Arms, ∀ b ∈ y.Arms, PCon Tryz.prog F.impl_sameExp_1 [a.av, b.av] (.v (.bool (a.same b))) := fun a hm b _ => by
    have h2 := le_sum VArm.wt hm
    have h3 := a.wt_eq
    refine T.impl_sameExp_1_con rfl (by simp [AV.norefs, AV.noref, VArm.noref]) ?_
    simp only [T.impl_sameExp_1, VArm.cells, VArm.isAgg, VArm.storable, WA, Nat.reduceEqDiff, Nat.reduceAdd, Nat.reduceLT, Nat.reduceLeDiff, Nat.reduceMul, reduceIte, reduceCtorEq, Int.reduceEq, Int.reduceLT, Int.reduceLE, Int.reduceNe]
    repeat' (first | (simp (disch := (first | omega | rfl | exact rfl | (simp only [cells_v, List.length_cons, List.length_nil]; done) | exact VArm.width _)) only [VArm.cells, VArm.isAgg, VArm.storable, VArm.eta, VArm.load_P, VPat.eta, VArm.load_E, VExp.eta, wrapS, wrapA, wrapA1, lt0, WA, Nat.reduceEqDiff, Nat.reduceAdd, Nat.reduceLT, Nat.reduceLeDiff, Nat.reduceMul, reduceIte, reduceCtorEq, Int.reduceEq, Int.reduceLT, Int.reduceLE, Int.reduceNe]) | (refine ite_dec (fun hq => ?_) (fun hq => ?_) <;> (try simp only [hq, decide_true, decide_false, Bool.not_true, Bool.not_false, Bool.not_eq_true', Bool.not_eq_false'])) | (refine ite_ndec (fun hq => ?_) (fun hq => ?_) <;> (try simp only [hq, decide_true, decide_false, Bool.not_true, Bool.not_false, Bool.not_eq_true', Bool.not_eq_false'])) | (refine ite_intro (fun hq => ?_) (fun hq => ?_) <;> (try simp only [hq, decide_true, decide_false, Bool.not_true, Bool.not_false, Bool.not_eq_true', Bool.not_eq_false'])) | (refine bind_push ?_) | (refine call_v (impl_samePat_c a.P b.P (by omega)) ?_) | (refine call_v (impl_sameExp_c a.E b.E (by omega)) ?_))
    all_goals (first | (simp_all [VArm.same]; done) | (simp_all [VArm.same, -List.all_eq_true, -List.any_eq_true, -List.all_eq_false, -List.any_eq_false]; done) | (simp_all [VArm.same] <;> (intros; omega)) | (simp_all [VArm.same, -List.all_eq_true, -List.any_eq_true, -List.all_eq_false, -List.any_eq_false] <;> (intros; omega)) | (refine avb ?_; simp_all [VArm.same] <;> (intros; omega)) | (refine avb ?_; simp_all [VArm.same, -List.all_eq_true, -List.any_eq_true, -List.all_eq_false, -List.any_eq_false] <;> (intros; omega)))
  refine T.impl_sameExp_con rfl (by simp [AV.norefs, AV.noref, VExp.noref]) ?_
  simp only [T.impl_sameExp, VExp.cells, VExp.isAgg, VExp.storable, WA, Nat.reduceEqDiff, Nat.reduceAdd, Nat.reduceLT, Nat.reduceLeDiff, Nat.reduceMul, reduceIte, reduceCtorEq, Int.reduceEq, Int.reduceLT, Int.reduceLE, Int.reduceNe]
  repeat' (first | (simp (disch := (first | omega | rfl | exact rfl | (simp only [cells_v, List.length_cons, List.length_nil]; done) | exact VExp.width _)) only [VExp.cells, VExp.isAgg, VExp.storable, VExp.eta, wrapS, wrapA, wrapA1, lt0, WA, Nat.reduceEqDiff, Nat.reduceAdd, Nat.reduceLT, Nat.reduceLeDiff, Nat.reduceMul, reduceIte, reduceCtorEq, Int.reduceEq, Int.reduceLT, Int.reduceLE, Int.reduceNe]) | (refine ite_dec (fun hq => ?_) (fun hq => ?_) <;> (try simp only [hq, decide_true, decide_false, Bool.not_true, Bool.not_false, Bool.not_eq_true', Bool.not_eq_false'])) | (refine ite_ndec (fun hq => ?_) (fun hq => ?_) <;> (try simp only [hq, decide_true, decide_false, Bool.not_true, Bool.not_false, Bool.not_eq_true', Bool.not_eq_false'])) | (refine ite_intro (fun hq => ?_) (fun hq => ?_) <;> (try simp only [hq, decide_true, decide_false, Bool.not_true, Bool.not_false, Bool.not_eq_true', Bool.not_eq_false'])) | (refine bind_push ?_) | (refine call_v (eqF_Exp x.Kids y.Kids _ [] VExp.same (by omega) rfl (fun k hm z _ => impl_sameExp_c k z (by have := le_sum VExp.wt hm; omega))) ?_) | (refine call_v (eqF_Arm x.Arms y.Arms _ [] VArm.same (by omega) rfl h1) ?_))
  all_goals (first | (simp_all; done) | (simp_all [-List.all_eq_true, -List.any_eq_true, -List.all_eq_false, -List.any_eq_false]; done) | (simp_all <;> (intros; omega)) | (simp_all [-List.all_eq_true, -List.any_eq_true, -List.all_eq_false, -List.any_eq_false] <;> (intros; omega)) | (refine avb ?_; simp_all <;> (intros; omega)) | (refine avb ?_; simp_all [-List.all_eq_true, -List.any_eq_true, -List.all_eq_false, -List.any_eq_false] <;> (intros; omega)))
termination_by SizeOf.sizeOf x
decreasing_by all_goals first | exact VExp.Kids_lt hm | exact VArm.E_lt'' hm
theorem impl_SameProg_1_c (x y : VCtor) (hb : x.wt ≤ 1048576) : PCon Tryz.prog F.impl_SameProg_1 [x.av, y.av] (.v (.bool (x.same y))) := by
  have hw := x.wt_eq
  refine T.impl_SameProg_1_con rfl (by simp [AV.norefs, AV.noref, VCtor.noref]) ?_
  simp only [T.impl_SameProg_1, VCtor.cells, VCtor.isAgg, VCtor.storable, WA, Nat.reduceEqDiff, Nat.reduceAdd, Nat.reduceLT, Nat.reduceLeDiff, Nat.reduceMul, reduceIte, reduceCtorEq, Int.reduceEq, Int.reduceLT, Int.reduceLE, Int.reduceNe]
  repeat' (first | (simp (disch := (first | omega | rfl | exact rfl | (simp only [cells_v, List.length_cons, List.length_nil]; done) | exact VCtor.width _)) only [VCtor.cells, VCtor.isAgg, VCtor.storable, VCtor.eta, VCtor.load_Arg, VTypeExp.eta, wrapS, wrapA, wrapA1, lt0, WA, Nat.reduceEqDiff, Nat.reduceAdd, Nat.reduceLT, Nat.reduceLeDiff, Nat.reduceMul, reduceIte, reduceCtorEq, Int.reduceEq, Int.reduceLT, Int.reduceLE, Int.reduceNe]) | (refine ite_dec (fun hq => ?_) (fun hq => ?_) <;> (try simp only [hq, decide_true, decide_false, Bool.not_true, Bool.not_false, Bool.not_eq_true', Bool.not_eq_false'])) | (refine ite_ndec (fun hq => ?_) (fun hq => ?_) <;> (try simp only [hq, decide_true, decide_false, Bool.not_true, Bool.not_false, Bool.not_eq_true', Bool.not_eq_false'])) | (refine ite_intro (fun hq => ?_) (fun hq => ?_) <;> (try simp only [hq, decide_true, decide_false, Bool.not_true, Bool.not_false, Bool.not_eq_true', Bool.not_eq_false'])) | (refine bind_push ?_) | (refine call_v (impl_sameType_c _ _ (by omega)) ?_))
  all_goals (first | (simp_all [VCtor.same]; done) | (simp_all [VCtor.same, -List.all_eq_true, -List.any_eq_true, -List.all_eq_false, -List.any_eq_false]; done) | (simp_all [VCtor.same] <;> (intros; omega)) | (simp_all [VCtor.same, -List.all_eq_true, -List.any_eq_true, -List.all_eq_false, -List.any_eq_false] <;> (intros; omega)) | (refine avb ?_; simp_all [VCtor.same] <;> (intros; omega)) | (refine avb ?_; simp_all [VCtor.same, -List.all_eq_true, -List.any_eq_true, -List.all_eq_false, -List.any_eq_false] <;> (intros; omega)))
theorem impl_SameProg_2_c (x y : VData) (hb : x.wt ≤ 1048576) : PCon Tryz.prog F.impl_SameProg_2 [x.av, y.av, .iptr (.fn F.impl_SameProg_1 []) 0] (.v (.bool (x.same y))) := by
  have hw := x.wt_eq
  refine T.impl_SameProg_2_con rfl (by simp [AV.norefs, AV.noref, VData.noref]) ?_
  simp only [T.impl_SameProg_2, VData.cells, VData.isAgg, VData.storable, WA, Nat.reduceEqDiff, Nat.reduceAdd, Nat.reduceLT, Nat.reduceLeDiff, Nat.reduceMul, reduceIte, reduceCtorEq, Int.reduceEq, Int.reduceLT, Int.reduceLE, Int.reduceNe]
  repeat' (first | (simp (disch := (first | omega | rfl | exact rfl | (simp only [cells_v, List.length_cons, List.length_nil]; done) | exact VData.width _)) only [VData.cells, VData.isAgg, VData.storable, VData.eta, wrapS, wrapA, wrapA1, lt0, WA, Nat.reduceEqDiff, Nat.reduceAdd, Nat.reduceLT, Nat.reduceLeDiff, Nat.reduceMul, reduceIte, reduceCtorEq, Int.reduceEq, Int.reduceLT, Int.reduceLE, Int.reduceNe]) | (refine ite_dec (fun hq => ?_) (fun hq => ?_) <;> (try simp only [hq, decide_true, decide_false, Bool.not_true, Bool.not_false, Bool.not_eq_true', Bool.not_eq_false'])) | (refine ite_ndec (fun hq => ?_) (fun hq => ?_) <;> (try simp only [hq, decide_true, decide_false, Bool.not_true, Bool.not_false, Bool.not_eq_true', Bool.not_eq_false'])) | (refine ite_intro (fun hq => ?_) (fun hq => ?_) <;> (try simp only [hq, decide_true, decide_false, Bool.not_true, Bool.not_false, Bool.not_eq_true', Bool.not_eq_false'])) | (refine bind_push ?_) | (refine call_v (eqE_string _ _ (by omega)) ?_) | (refine call_v (eqF_Ctor x.Ctors y.Ctors _ [] VCtor.same (by omega) rfl (fun a hm b _ => impl_SameProg_1_c a b (by have := le_sum VCtor.wt hm; omega))) ?_))
  all_goals (first | (simp_all [VData.same]; done) | (simp_all [VData.same, -List.all_eq_true, -List.any_eq_true, -List.all_eq_false, -List.any_eq_false]; done) | (simp_all [VData.same] <;> (intros; omega)) | (simp_all [VData.same, -List.all_eq_true, -List.any_eq_true, -List.all_eq_false, -List.any_eq_false] <;> (intros; omega)) | (refine avb ?_; simp_all [VData.same] <;> (intros; omega)) | (refine avb ?_; simp_all [VData.same, -List.all_eq_true, -List.any_eq_true, -List.all_eq_false, -List.any_eq_false] <;> (intros; omega)))
theorem impl_SameProg_c (x y : VProg) (hb : x.wt ≤ 1048576) : PCon Tryz.prog F.impl_SameProg [x.av, y.av] (.v (.bool (x.same y))) := by
  have hw := x.wt_eq
  refine T.impl_SameProg_con rfl (by simp [AV.norefs, AV.noref, VProg.noref]) ?_
  simp only [T.impl_SameProg, VProg.cells, VProg.isAgg, VProg.storable, WA, Nat.reduceEqDiff, Nat.reduceAdd, Nat.reduceLT, Nat.reduceLeDiff, Nat.reduceMul, reduceIte, reduceCtorEq, Int.reduceEq, Int.reduceLT, Int.reduceLE, Int.reduceNe]
  repeat' (first | (simp (disch := (first | omega | rfl | exact rfl | (simp only [cells_v, List.length_cons, List.length_nil]; done) | exact VProg.width _)) only [VProg.cells, VProg.isAgg, VProg.storable, VProg.eta, VProg.load_Body, VExp.eta, wrapS, wrapA, wrapA1, lt0, WA, Nat.reduceEqDiff, Nat.reduceAdd, Nat.reduceLT, Nat.reduceLeDiff, Nat.reduceMul, reduceIte, reduceCtorEq, Int.reduceEq, Int.reduceLT, Int.reduceLE, Int.reduceNe]) | (refine ite_dec (fun hq => ?_) (fun hq => ?_) <;> (try simp only [hq, decide_true, decide_false, Bool.not_true, Bool.not_false, Bool.not_eq_true', Bool.not_eq_false'])) | (refine ite_ndec (fun hq => ?_) (fun hq => ?_) <;> (try simp only [hq, decide_true, decide_false, Bool.not_true, Bool.not_false, Bool.not_eq_true', Bool.not_eq_false'])) | (refine ite_intro (fun hq => ?_) (fun hq => ?_) <;> (try simp only [hq, decide_true, decide_false, Bool.not_true, Bool.not_false, Bool.not_eq_true', Bool.not_eq_false'])) | (refine bind_push ?_) | (refine call_v (impl_sameExp_c _ _ (by omega)) ?_) | (refine call_v (eqF_Data x.Types y.Types _ _ VData.same (by omega) rfl (fun a hm b _ => impl_SameProg_2_c a b (by have := le_sum VData.wt hm; omega))) ?_))
  all_goals (first | (simp_all [VProg.same]; done) | (simp_all [VProg.same, -List.all_eq_true, -List.any_eq_true, -List.all_eq_false, -List.any_eq_false]; done) | (simp_all [VProg.same] <;> (intros; omega)) | (simp_all [VProg.same, -List.all_eq_true, -List.any_eq_true, -List.all_eq_false, -List.any_eq_false] <;> (intros; omega)) | (refine avb ?_; simp_all [VProg.same] <;> (intros; omega)) | (refine avb ?_; simp_all [VProg.same, -List.all_eq_true, -List.any_eq_true, -List.all_eq_false, -List.any_eq_false] <;> (intros; omega)))
end Go.Proofs.Ab
