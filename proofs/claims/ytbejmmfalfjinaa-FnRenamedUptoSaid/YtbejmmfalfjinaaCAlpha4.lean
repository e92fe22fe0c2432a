/-
  Alpha: the contracts of both.
-/
import Derived.Test.YtbejmmfalfjinaaCAlpha3
set_option linter.unusedVariables false
set_option linter.unusedSimpArgs false
set_option linter.defProp false
namespace Go.Proofs.Ab
open Go.Ab
set_option maxRecDepth 100000
set_option maxHeartbeats 4000000
theorem room0 {w : Nat} (h : w ≤ 1048576) : ([] : List ByteArray).length + (w + 1) * 2097152 ≤ 4398046511104 := by
  have : (w + 1) * 2097152 ≤ 1048577 * 2097152 := Nat.mul_le_mul_right _ (by omega)
  simp only [List.length_nil, Nat.zero_add]
  exact Nat.le_trans this (by decide)
theorem impl_Alpha_c (x z : VExp) (hb : x.wt ≤ 1048576) (hb2 : z.wt ≤ 1048576) : PCon Try.prog F.impl_Alpha [x.av, z.av] (.v (.bool (x.okM && z.okM && x.alpha z [] []))) := by
  have h0 : PCon Try.prog F.impl_alpha [x.av, z.av, .nils, .nils] (.v (.bool (x.alpha z [] []))) := by
    refine PCon.args (impl_alpha_c x z [] [] hb hb2 (room0 hb) (room0 hb2)) rfl fun i a b ha hb => ?_
    match i, ha, hb with
    | 0, ha, hb => simp at ha hb; subst ha; subst hb; exact .refl _
    | 1, ha, hb => simp at ha hb; subst ha; subst hb; exact .refl _
    | 2, ha, hb => simp at ha hb; subst ha; subst hb; exact .nil
    | 3, ha, hb => simp at ha hb; subst ha; subst hb; exact .nil
    | _ + 4, ha, hb => simp at ha
  refine T.impl_Alpha_con rfl (by simp [AV.norefs, AV.noref, VExp.noref]) ?_
  simp only [T.impl_Alpha, VExp.cells, VExp.isAgg, VExp.storable, W00, W01, W02, W03, W04, W05, W06, W07, W08, W09, Nat.reduceEqDiff, Nat.reduceAdd, Nat.reduceLT, Nat.reduceLeDiff, Nat.reduceMul, reduceIte, reduceCtorEq, Int.reduceEq, Int.reduceLT, Int.reduceLE, Int.reduceNe]
  repeat' (first | (simp (disch := (first | omega | rfl | exact rfl | (simp only [cells_v, List.length_cons, List.length_nil]; done) | exact VExp.width _)) only [hel, hely, hd, hdy, VExp.cells, VExp.isAgg, VExp.storable, VExp.eta, wrapS, wrapA, wrapA1, lt0, W00, W01, W02, W03, W04, W05, W06, W07, W08, W09, Nat.reduceEqDiff, Nat.reduceAdd, Nat.reduceLT, Nat.reduceLeDiff, Nat.reduceMul, reduceIte, reduceCtorEq, Int.reduceEq, Int.reduceLT, Int.reduceLE, Int.reduceNe]) | (simp (disch := (first | omega | rfl | exact rfl | (simp only [cells_v, List.length_cons, List.length_nil]; done) | exact VExp.width _)) only [hel, hd, VExp.cells, VExp.isAgg, VExp.storable, VExp.eta, wrapS, wrapA, wrapA1, lt0, W00, W01, W02, W03, W04, W05, W06, W07, W08, W09, Nat.reduceEqDiff, Nat.reduceAdd, Nat.reduceLT, Nat.reduceLeDiff, Nat.reduceMul, reduceIte, reduceCtorEq, Int.reduceEq, Int.reduceLT, Int.reduceLE, Int.reduceNe]) | (simp (disch := (first | omega | rfl | exact rfl | (simp only [cells_v, List.length_cons, List.length_nil]; done) | exact VExp.width _)) only [hd, hdy, VExp.cells, VExp.isAgg, VExp.storable, VExp.eta, wrapS, wrapA, wrapA1, lt0, W00, W01, W02, W03, W04, W05, W06, W07, W08, W09, Nat.reduceEqDiff, Nat.reduceAdd, Nat.reduceLT, Nat.reduceLeDiff, Nat.reduceMul, reduceIte, reduceCtorEq, Int.reduceEq, Int.reduceLT, Int.reduceLE, Int.reduceNe]) | (simp (disch := (first | omega | rfl | exact rfl | (simp only [cells_v, List.length_cons, List.length_nil]; done) | exact VExp.width _)) only [hix, hd, VExp.cells, VExp.isAgg, VExp.storable, VExp.eta, wrapS, wrapA, wrapA1, lt0, W00, W01, W02, W03, W04, W05, W06, W07, W08, W09, Nat.reduceEqDiff, Nat.reduceAdd, Nat.reduceLT, Nat.reduceLeDiff, Nat.reduceMul, reduceIte, reduceCtorEq, Int.reduceEq, Int.reduceLT, Int.reduceLE, Int.reduceNe]) | (simp (disch := (first | omega | rfl | exact rfl | (simp only [cells_v, List.length_cons, List.length_nil]; done) | exact VExp.width _)) only [hd, VExp.cells, VExp.isAgg, VExp.storable, VExp.eta, wrapS, wrapA, wrapA1, lt0, W00, W01, W02, W03, W04, W05, W06, W07, W08, W09, Nat.reduceEqDiff, Nat.reduceAdd, Nat.reduceLT, Nat.reduceLeDiff, Nat.reduceMul, reduceIte, reduceCtorEq, Int.reduceEq, Int.reduceLT, Int.reduceLE, Int.reduceNe]) | (simp (disch := (first | omega | rfl | exact rfl | (simp only [cells_v, List.length_cons, List.length_nil]; done) | exact VExp.width _)) only [VExp.cells, VExp.isAgg, VExp.storable, VExp.eta, wrapS, wrapA, wrapA1, lt0, W00, W01, W02, W03, W04, W05, W06, W07, W08, W09, Nat.reduceEqDiff, Nat.reduceAdd, Nat.reduceLT, Nat.reduceLeDiff, Nat.reduceMul, reduceIte, reduceCtorEq, Int.reduceEq, Int.reduceLT, Int.reduceLE, Int.reduceNe]) | (refine ite_dec (fun hq => ?_) (fun hq => ?_) <;> (try simp only [hq, decide_true, decide_false, Bool.not_true, Bool.not_false, Bool.not_eq_true', Bool.not_eq_false'])) | (refine ite_ndec (fun hq => ?_) (fun hq => ?_) <;> (try simp only [hq, decide_true, decide_false, Bool.not_true, Bool.not_false, Bool.not_eq_true', Bool.not_eq_false'])) | (refine ite_intro (fun hq => ?_) (fun hq => ?_) <;> (try simp only [hq, decide_true, decide_false, Bool.not_true, Bool.not_false, Bool.not_eq_true', Bool.not_eq_false'])) | (refine bind_push ?_) | (refine call_v (impl_ExpOk_c x hb) ?_) | (refine call_v (impl_ExpOk_c z hb2) ?_) | (refine call_v (h0) ?_))
  all_goals (first | (simp_all; done) | (simp_all [-List.all_eq_true, -List.any_eq_true, -List.all_eq_false, -List.any_eq_false]; done) | (simp_all <;> (intros; omega)) | (simp_all [-List.all_eq_true, -List.any_eq_true, -List.all_eq_false, -List.any_eq_false] <;> (intros; omega)) | (refine avb ?_; simp_all <;> (intros; omega)) | (refine avb ?_; simp_all [-List.all_eq_true, -List.any_eq_true, -List.all_eq_false, -List.any_eq_false] <;> (intros; omega)))
end Go.Proofs.Ab
