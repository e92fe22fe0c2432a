/-
  THE SIZES OF TREES (printed by wip/tool/sizes.py).
-/
import Derived.Test.YtnmljeojillkpaaH
set_option linter.unusedVariables false
set_option linter.unusedSimpArgs false
set_option linter.defProp false
namespace Go.Proofs.Ab
open Go.Ab
set_option maxRecDepth 100000

end Go.Proofs.Ab
namespace Go.Ab
mutual
def VPat.sz : VPat → Nat
  | .mk _ _ _ _ k => 1 + VPat.szs k
def VPat.szs : List VPat → Nat
  | [] => 0
  | x :: l => x.sz + VPat.szs l
end
theorem VPat.szs_eq (l : List VPat) : VPat.szs l = (l.map VPat.sz).sum := by
  induction l with
  | nil => rfl
  | cons x l ih => simp only [VPat.szs, ih, List.map_cons, List.sum_cons]
theorem VPat.sz_eq (x : VPat) : x.sz = 1 + (x.Kids.map VPat.sz).sum := by
  cases x
  simp only [VPat.sz, VPat.szs_eq, VPat.Kids]
mutual
theorem VPat.sz_le : ∀ x : VPat, x.sz ≤ 1 + 2 * x.wt
  | .mk Kind Name Num Pos Kids => by
    have h1 := VPat.szs_le Kids
    simp only [VPat.sz, VPat.wt]; omega
theorem VPat.szs_le : ∀ l : List VPat, VPat.szs l ≤ l.length + 2 * VPat.wts l
  | [] => by simp [VPat.szs]
  | x :: l => by
    have h1 := x.sz_le; have h2 := VPat.szs_le l
    simp only [VPat.szs, VPat.wts, List.length_cons]; omega
end
end Go.Ab
namespace Go.Proofs.Ab
open Go.Ab
theorem spec_l2PatSize_c (x : VPat) (hb : x.wt ≤ 1048576) : PCon Try.prog F.spec_l2PatSize [x.av] (.v (.int .i64 x.sz)) := by
  have hw := x.wt_eq; have hs := x.sz_eq; have hle := x.sz_le
  refine T.spec_l2PatSize_con rfl (by simp [AV.norefs, AV.noref, VPat.noref]) ?_
  simp (disch := omega) only [T.spec_l2PatSize, VPat.cells, VPat.isAgg, VPat.width, VPat.storable, W00, W01, W02, W03, W04, W05, W06, W07, W08, Nat.reduceEqDiff, Nat.reduceAdd, Nat.reduceLT, Nat.reduceLeDiff, Nat.reduceMul, reduceIte, reduceCtorEq]
  refine bind_cut [.v (.int .i64 x.sz)] rfl ?_ (by simp (disch := omega) only [VPat.cells, VPat.isAgg, VPat.width, VPat.storable, W00, W01, W02, W03, W04, W05, W06, W07, W08, Nat.reduceEqDiff, Nat.reduceAdd, Nat.reduceLT, Nat.reduceLeDiff, Nat.reduceMul, reduceIte, reduceCtorEq])
  simp (disch := omega) only [VPat.cells, VPat.isAgg, VPat.width, VPat.storable, W00, W01, W02, W03, W04, W05, W06, W07, W08, Nat.reduceEqDiff, Nat.reduceAdd, Nat.reduceLT, Nat.reduceLeDiff, Nat.reduceMul, reduceIte, reduceCtorEq]
  refine loop_up x.Kids.length (fun i => [.v (.int .i64 (1 + ((x.Kids.take i).map VPat.sz).sum : Nat)), .v (.int .i64 i)]) (by simp) fun i hi => ?_
  simp (disch := omega) only [VPat.cells, VPat.isAgg, VPat.width, VPat.storable, W00, W01, W02, W03, W04, W05, W06, W07, W08, Nat.reduceEqDiff, Nat.reduceAdd, Nat.reduceLT, Nat.reduceLeDiff, Nat.reduceMul, reduceIte, reduceCtorEq]
  refine ite_dec (fun h => ?_) (fun h => ?_)
  · have hlt : i < x.Kids.length := by omega
    have h1 := sum_take VPat.sz x.Kids i hlt
    have h2 := sum_le VPat.sz x.Kids (i + 1)
    have h3 := le_sum VPat.wt (List.getElem_mem hlt)
    simp (disch := omega) only [VPat.cells, VPat.isAgg, VPat.width, VPat.storable, W00, W01, W02, W03, W04, W05, W06, W07, W08, Nat.reduceEqDiff, Nat.reduceAdd, Nat.reduceLT, Nat.reduceLeDiff, Nat.reduceMul, reduceIte, reduceCtorEq]
    refine elemM VPat.av hlt (VPat.width _) ?_
    simp (disch := omega) only [VPat.cells, VPat.isAgg, VPat.width, VPat.storable, wrapA, wrapA1, W00, W01, W02, W03, W04, W05, W06, W07, W08, Nat.reduceEqDiff, Nat.reduceAdd, Nat.reduceLT, Nat.reduceLeDiff, Nat.reduceMul, reduceIte, reduceCtorEq]
    refine call_v (spec_l2PatSize_c x.Kids[i] (by omega)) ?_
    simp (disch := omega) only [VPat.cells, VPat.isAgg, VPat.width, VPat.storable, wrapA, wrapA1, W00, W01, W02, W03, W04, W05, W06, W07, W08, Nat.reduceEqDiff, Nat.reduceAdd, Nat.reduceLT, Nat.reduceLeDiff, Nat.reduceMul, reduceIte, reduceCtorEq]
    exact ⟨hlt, by rw [h1]; simp only [Nat.add_assoc, Nat.add_comm, Nat.add_left_comm]⟩
  · have he : i = x.Kids.length := by omega
    subst he
    simp (disch := omega) only [List.take_length, W00, W01, W02, W03, W04, W05, W06, W07, W08, Nat.reduceEqDiff, Nat.reduceAdd, Nat.reduceLT, Nat.reduceLeDiff, Nat.reduceMul, reduceIte, reduceCtorEq]
    rw [hs]
termination_by SizeOf.sizeOf x
decreasing_by all_goals exact VPat.Kids_lt (List.getElem_mem _)
theorem impl_patSize_c (x : VPat) (hb : x.wt ≤ 1048576) : PCon Try.prog F.impl_patSize [x.av] (.v (.int .i64 x.sz)) := by
  have hw := x.wt_eq; have hs := x.sz_eq; have hle := x.sz_le
  refine T.impl_patSize_con rfl (by simp [AV.norefs, AV.noref, VPat.noref]) ?_
  simp (disch := omega) only [T.impl_patSize, VPat.cells, VPat.isAgg, VPat.width, VPat.storable, W00, W01, W02, W03, W04, W05, W06, W07, W08, Nat.reduceEqDiff, Nat.reduceAdd, Nat.reduceLT, Nat.reduceLeDiff, Nat.reduceMul, reduceIte, reduceCtorEq]
  refine bind_cut [.v (.int .i64 x.sz)] rfl ?_ (by simp (disch := omega) only [VPat.cells, VPat.isAgg, VPat.width, VPat.storable, W00, W01, W02, W03, W04, W05, W06, W07, W08, Nat.reduceEqDiff, Nat.reduceAdd, Nat.reduceLT, Nat.reduceLeDiff, Nat.reduceMul, reduceIte, reduceCtorEq])
  simp (disch := omega) only [VPat.cells, VPat.isAgg, VPat.width, VPat.storable, W00, W01, W02, W03, W04, W05, W06, W07, W08, Nat.reduceEqDiff, Nat.reduceAdd, Nat.reduceLT, Nat.reduceLeDiff, Nat.reduceMul, reduceIte, reduceCtorEq]
  refine loop_up x.Kids.length (fun i => [.v (.int .i64 (1 + ((x.Kids.take i).map VPat.sz).sum : Nat)), .v (.int .i64 i)]) (by simp) fun i hi => ?_
  simp (disch := omega) only [VPat.cells, VPat.isAgg, VPat.width, VPat.storable, W00, W01, W02, W03, W04, W05, W06, W07, W08, Nat.reduceEqDiff, Nat.reduceAdd, Nat.reduceLT, Nat.reduceLeDiff, Nat.reduceMul, reduceIte, reduceCtorEq]
  refine ite_dec (fun h => ?_) (fun h => ?_)
  · have hlt : i < x.Kids.length := by omega
    have h1 := sum_take VPat.sz x.Kids i hlt
    have h2 := sum_le VPat.sz x.Kids (i + 1)
    have h3 := le_sum VPat.wt (List.getElem_mem hlt)
    simp (disch := omega) only [VPat.cells, VPat.isAgg, VPat.width, VPat.storable, W00, W01, W02, W03, W04, W05, W06, W07, W08, Nat.reduceEqDiff, Nat.reduceAdd, Nat.reduceLT, Nat.reduceLeDiff, Nat.reduceMul, reduceIte, reduceCtorEq]
    refine elemM VPat.av hlt (VPat.width _) ?_
    simp (disch := omega) only [VPat.cells, VPat.isAgg, VPat.width, VPat.storable, wrapA, wrapA1, W00, W01, W02, W03, W04, W05, W06, W07, W08, Nat.reduceEqDiff, Nat.reduceAdd, Nat.reduceLT, Nat.reduceLeDiff, Nat.reduceMul, reduceIte, reduceCtorEq]
    refine call_v (impl_patSize_c x.Kids[i] (by omega)) ?_
    simp (disch := omega) only [VPat.cells, VPat.isAgg, VPat.width, VPat.storable, wrapA, wrapA1, W00, W01, W02, W03, W04, W05, W06, W07, W08, Nat.reduceEqDiff, Nat.reduceAdd, Nat.reduceLT, Nat.reduceLeDiff, Nat.reduceMul, reduceIte, reduceCtorEq]
    exact ⟨hlt, by rw [h1]; simp only [Nat.add_assoc, Nat.add_comm, Nat.add_left_comm]⟩
  · have he : i = x.Kids.length := by omega
    subst he
    simp (disch := omega) only [List.take_length, W00, W01, W02, W03, W04, W05, W06, W07, W08, Nat.reduceEqDiff, Nat.reduceAdd, Nat.reduceLT, Nat.reduceLeDiff, Nat.reduceMul, reduceIte, reduceCtorEq]
    rw [hs]
termination_by SizeOf.sizeOf x
decreasing_by all_goals exact VPat.Kids_lt (List.getElem_mem _)
end Go.Proofs.Ab
namespace Go.Ab
mutual
def VExp.sz : VExp → Nat
  | .mk _ _ _ _ _ k a => 1 + VExp.szs k + VArm.szs a
def VArm.sz : VArm → Nat
  | .mk p e => p.sz + e.sz
def VArm.szs : List VArm → Nat
  | [] => 0
  | x :: l => x.sz + VArm.szs l
def VExp.szs : List VExp → Nat
  | [] => 0
  | x :: l => x.sz + VExp.szs l
end
theorem VExp.szs_eq (l : List VExp) : VExp.szs l = (l.map VExp.sz).sum := by
  induction l with
  | nil => rfl
  | cons x l ih => simp only [VExp.szs, ih, List.map_cons, List.sum_cons]
theorem VArm.szs_eq (l : List VArm) : VArm.szs l = (l.map VArm.sz).sum := by
  induction l with
  | nil => rfl
  | cons x l ih => simp only [VArm.szs, ih, List.map_cons, List.sum_cons]
theorem VExp.sz_eq (x : VExp) : x.sz = 1 + (x.Kids.map VExp.sz).sum + (x.Arms.map VArm.sz).sum := by
  cases x
  simp only [VExp.sz, VExp.szs_eq, VArm.szs_eq, VExp.Kids, VExp.Arms]
theorem VArm.sz_eq (x : VArm) : x.sz = x.P.sz + x.E.sz := by
  cases x
  simp only [VArm.sz, VArm.P, VArm.E]
mutual
theorem VExp.sz_le : ∀ x : VExp, x.sz ≤ 1 + 2 * x.wt
  | .mk Kind Name Num Text Pos Kids Arms => by
    have h1 := VExp.szs_le Kids; have h2 := VArm.szs_le Arms
    simp only [VExp.sz, VExp.wt]; omega
theorem VArm.sz_le : ∀ x : VArm, x.sz ≤ 2 + 2 * x.wt
  | .mk P E => by
    have h1 := P.sz_le; have h2 := E.sz_le
    simp only [VArm.sz, VArm.wt]; omega
theorem VArm.szs_le : ∀ l : List VArm, VArm.szs l ≤ 2 * l.length + 2 * VArm.wts l
  | [] => by simp [VArm.szs]
  | x :: l => by
    have h1 := x.sz_le; have h2 := VArm.szs_le l
    simp only [VArm.szs, VArm.wts, List.length_cons]; omega
theorem VExp.szs_le : ∀ l : List VExp, VExp.szs l ≤ l.length + 2 * VExp.wts l
  | [] => by simp [VExp.szs]
  | x :: l => by
    have h1 := x.sz_le; have h2 := VExp.szs_le l
    simp only [VExp.szs, VExp.wts, List.length_cons]; omega
end
end Go.Ab
namespace Go.Proofs.Ab
open Go.Ab
theorem spec_ExpSize_c (x : VExp) (hb : x.wt ≤ 1048576) : PCon Try.prog F.spec_ExpSize [x.av] (.v (.int .i64 x.sz)) := by
  have hw := x.wt_eq; have hs := x.sz_eq; have hle := x.sz_le
  refine T.spec_ExpSize_con rfl (by simp [AV.norefs, AV.noref, VExp.noref]) ?_
  simp (disch := omega) only [T.spec_ExpSize, VExp.cells, VExp.isAgg, VExp.width, VExp.storable, VArm.isAgg, VArm.width, VArm.storable, VArm.load_P, VArm.load_E, VArm.cells, VPat.isAgg, VPat.width, VPat.storable, VPat.eta, VExp.eta, W00, W01, W02, W03, W04, W05, W06, W07, W08, Nat.reduceEqDiff, Nat.reduceAdd, Nat.reduceLT, Nat.reduceLeDiff, Nat.reduceMul, reduceIte, reduceCtorEq]
  refine bind_cut [.v (.int .i64 (1 + (x.Kids.map VExp.sz).sum : Nat))] rfl ?_ ?_
  · simp (disch := omega) only [VExp.cells, VExp.isAgg, VExp.width, VExp.storable, VArm.isAgg, VArm.width, VArm.storable, VArm.load_P, VArm.load_E, VArm.cells, VPat.isAgg, VPat.width, VPat.storable, VPat.eta, VExp.eta, W00, W01, W02, W03, W04, W05, W06, W07, W08, Nat.reduceEqDiff, Nat.reduceAdd, Nat.reduceLT, Nat.reduceLeDiff, Nat.reduceMul, reduceIte, reduceCtorEq]
    refine loop_up x.Kids.length (fun i => [.v (.int .i64 (1 + ((x.Kids.take i).map VExp.sz).sum : Nat)), .v (.int .i64 i)]) (by simp) fun i hi => ?_
    simp (disch := omega) only [VExp.cells, VExp.isAgg, VExp.width, VExp.storable, VArm.isAgg, VArm.width, VArm.storable, VArm.load_P, VArm.load_E, VArm.cells, VPat.isAgg, VPat.width, VPat.storable, VPat.eta, VExp.eta, W00, W01, W02, W03, W04, W05, W06, W07, W08, Nat.reduceEqDiff, Nat.reduceAdd, Nat.reduceLT, Nat.reduceLeDiff, Nat.reduceMul, reduceIte, reduceCtorEq]
    refine ite_dec (fun h => ?_) (fun h => ?_)
    · have hlt : i < x.Kids.length := by omega
      have h1 := sum_take VExp.sz x.Kids i hlt
      have h2 := sum_le VExp.sz x.Kids (i + 1)
      have h3 := le_sum VExp.wt (List.getElem_mem hlt)
      simp (disch := omega) only [VExp.cells, VExp.isAgg, VExp.width, VExp.storable, VArm.isAgg, VArm.width, VArm.storable, VArm.load_P, VArm.load_E, VArm.cells, VPat.isAgg, VPat.width, VPat.storable, VPat.eta, VExp.eta, W00, W01, W02, W03, W04, W05, W06, W07, W08, Nat.reduceEqDiff, Nat.reduceAdd, Nat.reduceLT, Nat.reduceLeDiff, Nat.reduceMul, reduceIte, reduceCtorEq]
      refine elemM VExp.av hlt (VExp.width _) ?_
      simp (disch := omega) only [VExp.cells, VExp.isAgg, VExp.width, VExp.storable, VArm.isAgg, VArm.width, VArm.storable, VArm.load_P, VArm.load_E, VArm.cells, VPat.isAgg, VPat.width, VPat.storable, VPat.eta, VExp.eta, wrapA, wrapA1, W00, W01, W02, W03, W04, W05, W06, W07, W08, Nat.reduceEqDiff, Nat.reduceAdd, Nat.reduceLT, Nat.reduceLeDiff, Nat.reduceMul, reduceIte, reduceCtorEq]
      refine call_v (spec_ExpSize_c x.Kids[i] (by omega)) ?_
      simp (disch := omega) only [VExp.cells, VExp.isAgg, VExp.width, VExp.storable, VArm.isAgg, VArm.width, VArm.storable, VArm.load_P, VArm.load_E, VArm.cells, VPat.isAgg, VPat.width, VPat.storable, VPat.eta, VExp.eta, wrapA, wrapA1, W00, W01, W02, W03, W04, W05, W06, W07, W08, Nat.reduceEqDiff, Nat.reduceAdd, Nat.reduceLT, Nat.reduceLeDiff, Nat.reduceMul, reduceIte, reduceCtorEq]
      exact ⟨hlt, by rw [h1]; simp only [Nat.add_assoc, Nat.add_comm, Nat.add_left_comm]⟩
    · have he : i = x.Kids.length := by omega
      subst he
      simp (disch := omega) only [List.take_length, W00, W01, W02, W03, W04, W05, W06, W07, W08, Nat.reduceEqDiff, Nat.reduceAdd, Nat.reduceLT, Nat.reduceLeDiff, Nat.reduceMul, reduceIte, reduceCtorEq]
  simp only [VExp.cells, VExp.isAgg, VExp.width, VExp.storable, VArm.isAgg, VArm.width, VArm.storable, VArm.load_P, VArm.load_E, VArm.cells, VPat.isAgg, VPat.width, VPat.storable, VPat.eta, VExp.eta, W00, W01, W02, W03, W04, W05, W06, W07, W08, Nat.reduceEqDiff, Nat.reduceAdd, Nat.reduceLT, Nat.reduceLeDiff, Nat.reduceMul, reduceIte, reduceCtorEq]
  refine bind_cut [.v (.int .i64 x.sz)] rfl ?_ (by simp (disch := omega) only [VExp.cells, VExp.isAgg, VExp.width, VExp.storable, VArm.isAgg, VArm.width, VArm.storable, VArm.load_P, VArm.load_E, VArm.cells, VPat.isAgg, VPat.width, VPat.storable, VPat.eta, VExp.eta, W00, W01, W02, W03, W04, W05, W06, W07, W08, Nat.reduceEqDiff, Nat.reduceAdd, Nat.reduceLT, Nat.reduceLeDiff, Nat.reduceMul, reduceIte, reduceCtorEq])
  simp (disch := omega) only [VExp.cells, VExp.isAgg, VExp.width, VExp.storable, VArm.isAgg, VArm.width, VArm.storable, VArm.load_P, VArm.load_E, VArm.cells, VPat.isAgg, VPat.width, VPat.storable, VPat.eta, VExp.eta, W00, W01, W02, W03, W04, W05, W06, W07, W08, Nat.reduceEqDiff, Nat.reduceAdd, Nat.reduceLT, Nat.reduceLeDiff, Nat.reduceMul, reduceIte, reduceCtorEq]
  refine loop_up x.Arms.length (fun i => [.v (.int .i64 (1 + (x.Kids.map VExp.sz).sum + ((x.Arms.take i).map VArm.sz).sum : Nat)), .v (.int .i64 i)]) (by simp) fun i hi => ?_
  simp (disch := omega) only [VExp.cells, VExp.isAgg, VExp.width, VExp.storable, VArm.isAgg, VArm.width, VArm.storable, VArm.load_P, VArm.load_E, VArm.cells, VPat.isAgg, VPat.width, VPat.storable, VPat.eta, VExp.eta, W00, W01, W02, W03, W04, W05, W06, W07, W08, Nat.reduceEqDiff, Nat.reduceAdd, Nat.reduceLT, Nat.reduceLeDiff, Nat.reduceMul, reduceIte, reduceCtorEq]
  refine ite_dec (fun h => ?_) (fun h => ?_)
  · have hlt : i < x.Arms.length := by omega
    have h1 := sum_take VArm.sz x.Arms i hlt
    have h2 := sum_le VArm.sz x.Arms (i + 1)
    have h3 := le_sum VArm.wt (List.getElem_mem hlt)
    simp (disch := omega) only [VExp.cells, VExp.isAgg, VExp.width, VExp.storable, VArm.isAgg, VArm.width, VArm.storable, VArm.load_P, VArm.load_E, VArm.cells, VPat.isAgg, VPat.width, VPat.storable, VPat.eta, VExp.eta, W00, W01, W02, W03, W04, W05, W06, W07, W08, Nat.reduceEqDiff, Nat.reduceAdd, Nat.reduceLT, Nat.reduceLeDiff, Nat.reduceMul, reduceIte, reduceCtorEq]
    have h4 := VArm.sz_eq x.Arms[i]
    refine elemM VArm.av hlt (VArm.width _) ?_
    simp (disch := omega) only [VExp.cells, VExp.isAgg, VExp.width, VExp.storable, VArm.isAgg, VArm.width, VArm.storable, VArm.load_P, VArm.load_E, VArm.cells, VPat.isAgg, VPat.width, VPat.storable, VPat.eta, VExp.eta, wrapA, wrapA1, W00, W01, W02, W03, W04, W05, W06, W07, W08, Nat.reduceEqDiff, Nat.reduceAdd, Nat.reduceLT, Nat.reduceLeDiff, Nat.reduceMul, reduceIte, reduceCtorEq]
    refine call_v (spec_l2PatSize_c x.Arms[i].P (by have := VArm.wt_eq x.Arms[i]; omega)) ?_
    simp (disch := omega) only [VExp.cells, VExp.isAgg, VExp.width, VExp.storable, VArm.isAgg, VArm.width, VArm.storable, VArm.load_P, VArm.load_E, VArm.cells, VPat.isAgg, VPat.width, VPat.storable, VPat.eta, VExp.eta, wrapA, wrapA1, W00, W01, W02, W03, W04, W05, W06, W07, W08, Nat.reduceEqDiff, Nat.reduceAdd, Nat.reduceLT, Nat.reduceLeDiff, Nat.reduceMul, reduceIte, reduceCtorEq]
    refine elemM VArm.av hlt (VArm.width _) ?_
    simp (disch := omega) only [VExp.cells, VExp.isAgg, VExp.width, VExp.storable, VArm.isAgg, VArm.width, VArm.storable, VArm.load_P, VArm.load_E, VArm.cells, VPat.isAgg, VPat.width, VPat.storable, VPat.eta, VExp.eta, wrapA, wrapA1, W00, W01, W02, W03, W04, W05, W06, W07, W08, Nat.reduceEqDiff, Nat.reduceAdd, Nat.reduceLT, Nat.reduceLeDiff, Nat.reduceMul, reduceIte, reduceCtorEq]
    refine call_v (spec_ExpSize_c x.Arms[i].E (by have := VArm.wt_eq x.Arms[i]; omega)) ?_
    simp (disch := omega) only [VExp.cells, VExp.isAgg, VExp.width, VExp.storable, VArm.isAgg, VArm.width, VArm.storable, VArm.load_P, VArm.load_E, VArm.cells, VPat.isAgg, VPat.width, VPat.storable, VPat.eta, VExp.eta, wrapA, wrapA1, W00, W01, W02, W03, W04, W05, W06, W07, W08, Nat.reduceEqDiff, Nat.reduceAdd, Nat.reduceLT, Nat.reduceLeDiff, Nat.reduceMul, reduceIte, reduceCtorEq]
    exact ⟨hlt, by rw [h1, h4]; simp only [Nat.add_assoc]⟩
  · have he : i = x.Arms.length := by omega
    subst he
    simp (disch := omega) only [List.take_length, W00, W01, W02, W03, W04, W05, W06, W07, W08, Nat.reduceEqDiff, Nat.reduceAdd, Nat.reduceLT, Nat.reduceLeDiff, Nat.reduceMul, reduceIte, reduceCtorEq]
    rw [hs]
termination_by SizeOf.sizeOf x
decreasing_by all_goals first | exact VExp.Kids_lt (List.getElem_mem _) | exact Nat.lt_trans (VArm.E_lt _) (VExp.Arms_lt (List.getElem_mem _))
theorem impl_ExpSize_c (x : VExp) (hb : x.wt ≤ 1048576) : PCon Try.prog F.impl_ExpSize [x.av] (.v (.int .i64 x.sz)) := by
  have hw := x.wt_eq; have hs := x.sz_eq; have hle := x.sz_le
  refine T.impl_ExpSize_con rfl (by simp [AV.norefs, AV.noref, VExp.noref]) ?_
  simp (disch := omega) only [T.impl_ExpSize, VExp.cells, VExp.isAgg, VExp.width, VExp.storable, VArm.isAgg, VArm.width, VArm.storable, VArm.load_P, VArm.load_E, VArm.cells, VPat.isAgg, VPat.width, VPat.storable, VPat.eta, VExp.eta, W00, W01, W02, W03, W04, W05, W06, W07, W08, Nat.reduceEqDiff, Nat.reduceAdd, Nat.reduceLT, Nat.reduceLeDiff, Nat.reduceMul, reduceIte, reduceCtorEq]
  refine bind_cut [.v (.int .i64 (1 + (x.Kids.map VExp.sz).sum : Nat))] rfl ?_ ?_
  · simp (disch := omega) only [VExp.cells, VExp.isAgg, VExp.width, VExp.storable, VArm.isAgg, VArm.width, VArm.storable, VArm.load_P, VArm.load_E, VArm.cells, VPat.isAgg, VPat.width, VPat.storable, VPat.eta, VExp.eta, W00, W01, W02, W03, W04, W05, W06, W07, W08, Nat.reduceEqDiff, Nat.reduceAdd, Nat.reduceLT, Nat.reduceLeDiff, Nat.reduceMul, reduceIte, reduceCtorEq]
    refine loop_up x.Kids.length (fun i => [.v (.int .i64 (1 + ((x.Kids.take i).map VExp.sz).sum : Nat)), .v (.int .i64 i)]) (by simp) fun i hi => ?_
    simp (disch := omega) only [VExp.cells, VExp.isAgg, VExp.width, VExp.storable, VArm.isAgg, VArm.width, VArm.storable, VArm.load_P, VArm.load_E, VArm.cells, VPat.isAgg, VPat.width, VPat.storable, VPat.eta, VExp.eta, W00, W01, W02, W03, W04, W05, W06, W07, W08, Nat.reduceEqDiff, Nat.reduceAdd, Nat.reduceLT, Nat.reduceLeDiff, Nat.reduceMul, reduceIte, reduceCtorEq]
    refine ite_dec (fun h => ?_) (fun h => ?_)
    · have hlt : i < x.Kids.length := by omega
      have h1 := sum_take VExp.sz x.Kids i hlt
      have h2 := sum_le VExp.sz x.Kids (i + 1)
      have h3 := le_sum VExp.wt (List.getElem_mem hlt)
      simp (disch := omega) only [VExp.cells, VExp.isAgg, VExp.width, VExp.storable, VArm.isAgg, VArm.width, VArm.storable, VArm.load_P, VArm.load_E, VArm.cells, VPat.isAgg, VPat.width, VPat.storable, VPat.eta, VExp.eta, W00, W01, W02, W03, W04, W05, W06, W07, W08, Nat.reduceEqDiff, Nat.reduceAdd, Nat.reduceLT, Nat.reduceLeDiff, Nat.reduceMul, reduceIte, reduceCtorEq]
      refine elemM VExp.av hlt (VExp.width _) ?_
      simp (disch := omega) only [VExp.cells, VExp.isAgg, VExp.width, VExp.storable, VArm.isAgg, VArm.width, VArm.storable, VArm.load_P, VArm.load_E, VArm.cells, VPat.isAgg, VPat.width, VPat.storable, VPat.eta, VExp.eta, wrapA, wrapA1, W00, W01, W02, W03, W04, W05, W06, W07, W08, Nat.reduceEqDiff, Nat.reduceAdd, Nat.reduceLT, Nat.reduceLeDiff, Nat.reduceMul, reduceIte, reduceCtorEq]
      refine call_v (impl_ExpSize_c x.Kids[i] (by omega)) ?_
      simp (disch := omega) only [VExp.cells, VExp.isAgg, VExp.width, VExp.storable, VArm.isAgg, VArm.width, VArm.storable, VArm.load_P, VArm.load_E, VArm.cells, VPat.isAgg, VPat.width, VPat.storable, VPat.eta, VExp.eta, wrapA, wrapA1, W00, W01, W02, W03, W04, W05, W06, W07, W08, Nat.reduceEqDiff, Nat.reduceAdd, Nat.reduceLT, Nat.reduceLeDiff, Nat.reduceMul, reduceIte, reduceCtorEq]
      exact ⟨hlt, by rw [h1]; simp only [Nat.add_assoc, Nat.add_comm, Nat.add_left_comm]⟩
    · have he : i = x.Kids.length := by omega
      subst he
      simp (disch := omega) only [List.take_length, W00, W01, W02, W03, W04, W05, W06, W07, W08, Nat.reduceEqDiff, Nat.reduceAdd, Nat.reduceLT, Nat.reduceLeDiff, Nat.reduceMul, reduceIte, reduceCtorEq]
  simp only [VExp.cells, VExp.isAgg, VExp.width, VExp.storable, VArm.isAgg, VArm.width, VArm.storable, VArm.load_P, VArm.load_E, VArm.cells, VPat.isAgg, VPat.width, VPat.storable, VPat.eta, VExp.eta, W00, W01, W02, W03, W04, W05, W06, W07, W08, Nat.reduceEqDiff, Nat.reduceAdd, Nat.reduceLT, Nat.reduceLeDiff, Nat.reduceMul, reduceIte, reduceCtorEq]
  refine bind_cut [.v (.int .i64 x.sz)] rfl ?_ (by simp (disch := omega) only [VExp.cells, VExp.isAgg, VExp.width, VExp.storable, VArm.isAgg, VArm.width, VArm.storable, VArm.load_P, VArm.load_E, VArm.cells, VPat.isAgg, VPat.width, VPat.storable, VPat.eta, VExp.eta, W00, W01, W02, W03, W04, W05, W06, W07, W08, Nat.reduceEqDiff, Nat.reduceAdd, Nat.reduceLT, Nat.reduceLeDiff, Nat.reduceMul, reduceIte, reduceCtorEq])
  simp (disch := omega) only [VExp.cells, VExp.isAgg, VExp.width, VExp.storable, VArm.isAgg, VArm.width, VArm.storable, VArm.load_P, VArm.load_E, VArm.cells, VPat.isAgg, VPat.width, VPat.storable, VPat.eta, VExp.eta, W00, W01, W02, W03, W04, W05, W06, W07, W08, Nat.reduceEqDiff, Nat.reduceAdd, Nat.reduceLT, Nat.reduceLeDiff, Nat.reduceMul, reduceIte, reduceCtorEq]
  refine loop_up x.Arms.length (fun i => [.v (.int .i64 (1 + (x.Kids.map VExp.sz).sum + ((x.Arms.take i).map VArm.sz).sum : Nat)), .v (.int .i64 i)]) (by simp) fun i hi => ?_
  simp (disch := omega) only [VExp.cells, VExp.isAgg, VExp.width, VExp.storable, VArm.isAgg, VArm.width, VArm.storable, VArm.load_P, VArm.load_E, VArm.cells, VPat.isAgg, VPat.width, VPat.storable, VPat.eta, VExp.eta, W00, W01, W02, W03, W04, W05, W06, W07, W08, Nat.reduceEqDiff, Nat.reduceAdd, Nat.reduceLT, Nat.reduceLeDiff, Nat.reduceMul, reduceIte, reduceCtorEq]
  refine ite_dec (fun h => ?_) (fun h => ?_)
  · have hlt : i < x.Arms.length := by omega
    have h1 := sum_take VArm.sz x.Arms i hlt
    have h2 := sum_le VArm.sz x.Arms (i + 1)
    have h3 := le_sum VArm.wt (List.getElem_mem hlt)
    simp (disch := omega) only [VExp.cells, VExp.isAgg, VExp.width, VExp.storable, VArm.isAgg, VArm.width, VArm.storable, VArm.load_P, VArm.load_E, VArm.cells, VPat.isAgg, VPat.width, VPat.storable, VPat.eta, VExp.eta, W00, W01, W02, W03, W04, W05, W06, W07, W08, Nat.reduceEqDiff, Nat.reduceAdd, Nat.reduceLT, Nat.reduceLeDiff, Nat.reduceMul, reduceIte, reduceCtorEq]
    have h4 := VArm.sz_eq x.Arms[i]
    refine elemM VArm.av hlt (VArm.width _) ?_
    simp (disch := omega) only [VExp.cells, VExp.isAgg, VExp.width, VExp.storable, VArm.isAgg, VArm.width, VArm.storable, VArm.load_P, VArm.load_E, VArm.cells, VPat.isAgg, VPat.width, VPat.storable, VPat.eta, VExp.eta, wrapA, wrapA1, W00, W01, W02, W03, W04, W05, W06, W07, W08, Nat.reduceEqDiff, Nat.reduceAdd, Nat.reduceLT, Nat.reduceLeDiff, Nat.reduceMul, reduceIte, reduceCtorEq]
    refine call_v (impl_patSize_c x.Arms[i].P (by have := VArm.wt_eq x.Arms[i]; omega)) ?_
    simp (disch := omega) only [VExp.cells, VExp.isAgg, VExp.width, VExp.storable, VArm.isAgg, VArm.width, VArm.storable, VArm.load_P, VArm.load_E, VArm.cells, VPat.isAgg, VPat.width, VPat.storable, VPat.eta, VExp.eta, wrapA, wrapA1, W00, W01, W02, W03, W04, W05, W06, W07, W08, Nat.reduceEqDiff, Nat.reduceAdd, Nat.reduceLT, Nat.reduceLeDiff, Nat.reduceMul, reduceIte, reduceCtorEq]
    refine call_v (impl_ExpSize_c x.Arms[i].E (by have := VArm.wt_eq x.Arms[i]; omega)) ?_
    simp (disch := omega) only [VExp.cells, VExp.isAgg, VExp.width, VExp.storable, VArm.isAgg, VArm.width, VArm.storable, VArm.load_P, VArm.load_E, VArm.cells, VPat.isAgg, VPat.width, VPat.storable, VPat.eta, VExp.eta, wrapA, wrapA1, W00, W01, W02, W03, W04, W05, W06, W07, W08, Nat.reduceEqDiff, Nat.reduceAdd, Nat.reduceLT, Nat.reduceLeDiff, Nat.reduceMul, reduceIte, reduceCtorEq]
    exact ⟨hlt, by rw [h1, h4]; simp only [Nat.add_assoc]⟩
  · have he : i = x.Arms.length := by omega
    subst he
    simp (disch := omega) only [List.take_length, W00, W01, W02, W03, W04, W05, W06, W07, W08, Nat.reduceEqDiff, Nat.reduceAdd, Nat.reduceLT, Nat.reduceLeDiff, Nat.reduceMul, reduceIte, reduceCtorEq]
    rw [hs]
termination_by SizeOf.sizeOf x
decreasing_by all_goals first | exact VExp.Kids_lt (List.getElem_mem _) | exact Nat.lt_trans (VArm.E_lt _) (VExp.Arms_lt (List.getElem_mem _))
end Go.Proofs.Ab
namespace Go.Ab
mutual
def VCPat.sz : VCPat → Nat
  | .mk _ _ _ _ k => 1 + VCPat.szs k
def VCPat.szs : List VCPat → Nat
  | [] => 0
  | x :: l => x.sz + VCPat.szs l
end
theorem VCPat.szs_eq (l : List VCPat) : VCPat.szs l = (l.map VCPat.sz).sum := by
  induction l with
  | nil => rfl
  | cons x l ih => simp only [VCPat.szs, ih, List.map_cons, List.sum_cons]
theorem VCPat.sz_eq (x : VCPat) : x.sz = 1 + (x.Kids.map VCPat.sz).sum := by
  cases x
  simp only [VCPat.sz, VCPat.szs_eq, VCPat.Kids]
mutual
theorem VCPat.sz_le : ∀ x : VCPat, x.sz ≤ 1 + 2 * x.wt
  | .mk Kind Num Name T Kids => by
    have h1 := VCPat.szs_le Kids
    simp only [VCPat.sz, VCPat.wt]; omega
theorem VCPat.szs_le : ∀ l : List VCPat, VCPat.szs l ≤ l.length + 2 * VCPat.wts l
  | [] => by simp [VCPat.szs]
  | x :: l => by
    have h1 := x.sz_le; have h2 := VCPat.szs_le l
    simp only [VCPat.szs, VCPat.wts, List.length_cons]; omega
end
end Go.Ab
namespace Go.Proofs.Ab
open Go.Ab
theorem spec_l7PatSize_c (x : VCPat) (hb : x.wt ≤ 1048576) : PCon Try.prog F.spec_l7PatSize [x.av] (.v (.int .i64 x.sz)) := by
  have hw := x.wt_eq; have hs := x.sz_eq; have hle := x.sz_le
  refine T.spec_l7PatSize_con rfl (by simp [AV.norefs, AV.noref, VCPat.noref]) ?_
  simp (disch := omega) only [T.spec_l7PatSize, VCPat.cells, VCPat.isAgg, VCPat.width, VCPat.storable, W00, W01, W02, W03, W04, W05, W06, W07, W08, Nat.reduceEqDiff, Nat.reduceAdd, Nat.reduceLT, Nat.reduceLeDiff, Nat.reduceMul, reduceIte, reduceCtorEq]
  refine bind_cut [.v (.int .i64 x.sz)] rfl ?_ (by simp (disch := omega) only [VCPat.cells, VCPat.isAgg, VCPat.width, VCPat.storable, W00, W01, W02, W03, W04, W05, W06, W07, W08, Nat.reduceEqDiff, Nat.reduceAdd, Nat.reduceLT, Nat.reduceLeDiff, Nat.reduceMul, reduceIte, reduceCtorEq])
  simp (disch := omega) only [VCPat.cells, VCPat.isAgg, VCPat.width, VCPat.storable, W00, W01, W02, W03, W04, W05, W06, W07, W08, Nat.reduceEqDiff, Nat.reduceAdd, Nat.reduceLT, Nat.reduceLeDiff, Nat.reduceMul, reduceIte, reduceCtorEq]
  refine loop_up x.Kids.length (fun i => [.v (.int .i64 (1 + ((x.Kids.take i).map VCPat.sz).sum : Nat)), .v (.int .i64 i)]) (by simp) fun i hi => ?_
  simp (disch := omega) only [VCPat.cells, VCPat.isAgg, VCPat.width, VCPat.storable, W00, W01, W02, W03, W04, W05, W06, W07, W08, Nat.reduceEqDiff, Nat.reduceAdd, Nat.reduceLT, Nat.reduceLeDiff, Nat.reduceMul, reduceIte, reduceCtorEq]
  refine ite_dec (fun h => ?_) (fun h => ?_)
  · have hlt : i < x.Kids.length := by omega
    have h1 := sum_take VCPat.sz x.Kids i hlt
    have h2 := sum_le VCPat.sz x.Kids (i + 1)
    have h3 := le_sum VCPat.wt (List.getElem_mem hlt)
    simp (disch := omega) only [VCPat.cells, VCPat.isAgg, VCPat.width, VCPat.storable, W00, W01, W02, W03, W04, W05, W06, W07, W08, Nat.reduceEqDiff, Nat.reduceAdd, Nat.reduceLT, Nat.reduceLeDiff, Nat.reduceMul, reduceIte, reduceCtorEq]
    refine elemM VCPat.av hlt (VCPat.width _) ?_
    simp (disch := omega) only [VCPat.cells, VCPat.isAgg, VCPat.width, VCPat.storable, wrapA, wrapA1, W00, W01, W02, W03, W04, W05, W06, W07, W08, Nat.reduceEqDiff, Nat.reduceAdd, Nat.reduceLT, Nat.reduceLeDiff, Nat.reduceMul, reduceIte, reduceCtorEq]
    refine call_v (spec_l7PatSize_c x.Kids[i] (by omega)) ?_
    simp (disch := omega) only [VCPat.cells, VCPat.isAgg, VCPat.width, VCPat.storable, wrapA, wrapA1, W00, W01, W02, W03, W04, W05, W06, W07, W08, Nat.reduceEqDiff, Nat.reduceAdd, Nat.reduceLT, Nat.reduceLeDiff, Nat.reduceMul, reduceIte, reduceCtorEq]
    exact ⟨hlt, by rw [h1]; simp only [Nat.add_assoc, Nat.add_comm, Nat.add_left_comm]⟩
  · have he : i = x.Kids.length := by omega
    subst he
    simp (disch := omega) only [List.take_length, W00, W01, W02, W03, W04, W05, W06, W07, W08, Nat.reduceEqDiff, Nat.reduceAdd, Nat.reduceLT, Nat.reduceLeDiff, Nat.reduceMul, reduceIte, reduceCtorEq]
    rw [hs]
termination_by SizeOf.sizeOf x
decreasing_by all_goals exact VCPat.Kids_lt (List.getElem_mem _)
theorem impl_cpatSize_c (x : VCPat) (hb : x.wt ≤ 1048576) : PCon Try.prog F.impl_cpatSize [x.av] (.v (.int .i64 x.sz)) := by
  have hw := x.wt_eq; have hs := x.sz_eq; have hle := x.sz_le
  refine T.impl_cpatSize_con rfl (by simp [AV.norefs, AV.noref, VCPat.noref]) ?_
  simp (disch := omega) only [T.impl_cpatSize, VCPat.cells, VCPat.isAgg, VCPat.width, VCPat.storable, W00, W01, W02, W03, W04, W05, W06, W07, W08, Nat.reduceEqDiff, Nat.reduceAdd, Nat.reduceLT, Nat.reduceLeDiff, Nat.reduceMul, reduceIte, reduceCtorEq]
  refine bind_cut [.v (.int .i64 x.sz)] rfl ?_ (by simp (disch := omega) only [VCPat.cells, VCPat.isAgg, VCPat.width, VCPat.storable, W00, W01, W02, W03, W04, W05, W06, W07, W08, Nat.reduceEqDiff, Nat.reduceAdd, Nat.reduceLT, Nat.reduceLeDiff, Nat.reduceMul, reduceIte, reduceCtorEq])
  simp (disch := omega) only [VCPat.cells, VCPat.isAgg, VCPat.width, VCPat.storable, W00, W01, W02, W03, W04, W05, W06, W07, W08, Nat.reduceEqDiff, Nat.reduceAdd, Nat.reduceLT, Nat.reduceLeDiff, Nat.reduceMul, reduceIte, reduceCtorEq]
  refine loop_up x.Kids.length (fun i => [.v (.int .i64 (1 + ((x.Kids.take i).map VCPat.sz).sum : Nat)), .v (.int .i64 i)]) (by simp) fun i hi => ?_
  simp (disch := omega) only [VCPat.cells, VCPat.isAgg, VCPat.width, VCPat.storable, W00, W01, W02, W03, W04, W05, W06, W07, W08, Nat.reduceEqDiff, Nat.reduceAdd, Nat.reduceLT, Nat.reduceLeDiff, Nat.reduceMul, reduceIte, reduceCtorEq]
  refine ite_dec (fun h => ?_) (fun h => ?_)
  · have hlt : i < x.Kids.length := by omega
    have h1 := sum_take VCPat.sz x.Kids i hlt
    have h2 := sum_le VCPat.sz x.Kids (i + 1)
    have h3 := le_sum VCPat.wt (List.getElem_mem hlt)
    simp (disch := omega) only [VCPat.cells, VCPat.isAgg, VCPat.width, VCPat.storable, W00, W01, W02, W03, W04, W05, W06, W07, W08, Nat.reduceEqDiff, Nat.reduceAdd, Nat.reduceLT, Nat.reduceLeDiff, Nat.reduceMul, reduceIte, reduceCtorEq]
    refine elemM VCPat.av hlt (VCPat.width _) ?_
    simp (disch := omega) only [VCPat.cells, VCPat.isAgg, VCPat.width, VCPat.storable, wrapA, wrapA1, W00, W01, W02, W03, W04, W05, W06, W07, W08, Nat.reduceEqDiff, Nat.reduceAdd, Nat.reduceLT, Nat.reduceLeDiff, Nat.reduceMul, reduceIte, reduceCtorEq]
    refine call_v (impl_cpatSize_c x.Kids[i] (by omega)) ?_
    simp (disch := omega) only [VCPat.cells, VCPat.isAgg, VCPat.width, VCPat.storable, wrapA, wrapA1, W00, W01, W02, W03, W04, W05, W06, W07, W08, Nat.reduceEqDiff, Nat.reduceAdd, Nat.reduceLT, Nat.reduceLeDiff, Nat.reduceMul, reduceIte, reduceCtorEq]
    exact ⟨hlt, by rw [h1]; simp only [Nat.add_assoc, Nat.add_comm, Nat.add_left_comm]⟩
  · have he : i = x.Kids.length := by omega
    subst he
    simp (disch := omega) only [List.take_length, W00, W01, W02, W03, W04, W05, W06, W07, W08, Nat.reduceEqDiff, Nat.reduceAdd, Nat.reduceLT, Nat.reduceLeDiff, Nat.reduceMul, reduceIte, reduceCtorEq]
    rw [hs]
termination_by SizeOf.sizeOf x
decreasing_by all_goals exact VCPat.Kids_lt (List.getElem_mem _)
end Go.Proofs.Ab
namespace Go.Ab
mutual
def VCore.sz : VCore → Nat
  | .mk _ _ _ _ _ _ _ k a => 1 + VCore.szs k + VCArm.szs a
def VCArm.sz : VCArm → Nat
  | .mk p e => p.sz + e.sz
def VCArm.szs : List VCArm → Nat
  | [] => 0
  | x :: l => x.sz + VCArm.szs l
def VCore.szs : List VCore → Nat
  | [] => 0
  | x :: l => x.sz + VCore.szs l
end
theorem VCore.szs_eq (l : List VCore) : VCore.szs l = (l.map VCore.sz).sum := by
  induction l with
  | nil => rfl
  | cons x l ih => simp only [VCore.szs, ih, List.map_cons, List.sum_cons]
theorem VCArm.szs_eq (l : List VCArm) : VCArm.szs l = (l.map VCArm.sz).sum := by
  induction l with
  | nil => rfl
  | cons x l ih => simp only [VCArm.szs, ih, List.map_cons, List.sum_cons]
theorem VCore.sz_eq (x : VCore) : x.sz = 1 + (x.Kids.map VCore.sz).sum + (x.Arms.map VCArm.sz).sum := by
  cases x
  simp only [VCore.sz, VCore.szs_eq, VCArm.szs_eq, VCore.Kids, VCore.Arms]
theorem VCArm.sz_eq (x : VCArm) : x.sz = x.P.sz + x.E.sz := by
  cases x
  simp only [VCArm.sz, VCArm.P, VCArm.E]
mutual
theorem VCore.sz_le : ∀ x : VCore, x.sz ≤ 1 + 2 * x.wt
  | .mk Kind N Num Text Name T Ts Kids Arms => by
    have h1 := VCore.szs_le Kids; have h2 := VCArm.szs_le Arms
    simp only [VCore.sz, VCore.wt]; omega
theorem VCArm.sz_le : ∀ x : VCArm, x.sz ≤ 2 + 2 * x.wt
  | .mk P E => by
    have h1 := P.sz_le; have h2 := E.sz_le
    simp only [VCArm.sz, VCArm.wt]; omega
theorem VCArm.szs_le : ∀ l : List VCArm, VCArm.szs l ≤ 2 * l.length + 2 * VCArm.wts l
  | [] => by simp [VCArm.szs]
  | x :: l => by
    have h1 := x.sz_le; have h2 := VCArm.szs_le l
    simp only [VCArm.szs, VCArm.wts, List.length_cons]; omega
theorem VCore.szs_le : ∀ l : List VCore, VCore.szs l ≤ l.length + 2 * VCore.wts l
  | [] => by simp [VCore.szs]
  | x :: l => by
    have h1 := x.sz_le; have h2 := VCore.szs_le l
    simp only [VCore.szs, VCore.wts, List.length_cons]; omega
end
end Go.Ab
namespace Go.Proofs.Ab
open Go.Ab
theorem spec_CoreSize_c (x : VCore) (hb : x.wt ≤ 1048576) : PCon Try.prog F.spec_CoreSize [x.av] (.v (.int .i64 x.sz)) := by
  have hw := x.wt_eq; have hs := x.sz_eq; have hle := x.sz_le
  refine T.spec_CoreSize_con rfl (by simp [AV.norefs, AV.noref, VCore.noref]) ?_
  simp (disch := omega) only [T.spec_CoreSize, VCore.cells, VCore.isAgg, VCore.width, VCore.storable, VCArm.isAgg, VCArm.width, VCArm.storable, VCArm.load_P, VCArm.load_E, VCArm.cells, VCPat.isAgg, VCPat.width, VCPat.storable, VCPat.eta, VCore.eta, W00, W01, W02, W03, W04, W05, W06, W07, W08, Nat.reduceEqDiff, Nat.reduceAdd, Nat.reduceLT, Nat.reduceLeDiff, Nat.reduceMul, reduceIte, reduceCtorEq]
  refine bind_cut [.v (.int .i64 (1 + (x.Kids.map VCore.sz).sum : Nat))] rfl ?_ ?_
  · simp (disch := omega) only [VCore.cells, VCore.isAgg, VCore.width, VCore.storable, VCArm.isAgg, VCArm.width, VCArm.storable, VCArm.load_P, VCArm.load_E, VCArm.cells, VCPat.isAgg, VCPat.width, VCPat.storable, VCPat.eta, VCore.eta, W00, W01, W02, W03, W04, W05, W06, W07, W08, Nat.reduceEqDiff, Nat.reduceAdd, Nat.reduceLT, Nat.reduceLeDiff, Nat.reduceMul, reduceIte, reduceCtorEq]
    refine loop_up x.Kids.length (fun i => [.v (.int .i64 (1 + ((x.Kids.take i).map VCore.sz).sum : Nat)), .v (.int .i64 i)]) (by simp) fun i hi => ?_
    simp (disch := omega) only [VCore.cells, VCore.isAgg, VCore.width, VCore.storable, VCArm.isAgg, VCArm.width, VCArm.storable, VCArm.load_P, VCArm.load_E, VCArm.cells, VCPat.isAgg, VCPat.width, VCPat.storable, VCPat.eta, VCore.eta, W00, W01, W02, W03, W04, W05, W06, W07, W08, Nat.reduceEqDiff, Nat.reduceAdd, Nat.reduceLT, Nat.reduceLeDiff, Nat.reduceMul, reduceIte, reduceCtorEq]
    refine ite_dec (fun h => ?_) (fun h => ?_)
    · have hlt : i < x.Kids.length := by omega
      have h1 := sum_take VCore.sz x.Kids i hlt
      have h2 := sum_le VCore.sz x.Kids (i + 1)
      have h3 := le_sum VCore.wt (List.getElem_mem hlt)
      simp (disch := omega) only [VCore.cells, VCore.isAgg, VCore.width, VCore.storable, VCArm.isAgg, VCArm.width, VCArm.storable, VCArm.load_P, VCArm.load_E, VCArm.cells, VCPat.isAgg, VCPat.width, VCPat.storable, VCPat.eta, VCore.eta, W00, W01, W02, W03, W04, W05, W06, W07, W08, Nat.reduceEqDiff, Nat.reduceAdd, Nat.reduceLT, Nat.reduceLeDiff, Nat.reduceMul, reduceIte, reduceCtorEq]
      refine elemM VCore.av hlt (VCore.width _) ?_
      simp (disch := omega) only [VCore.cells, VCore.isAgg, VCore.width, VCore.storable, VCArm.isAgg, VCArm.width, VCArm.storable, VCArm.load_P, VCArm.load_E, VCArm.cells, VCPat.isAgg, VCPat.width, VCPat.storable, VCPat.eta, VCore.eta, wrapA, wrapA1, W00, W01, W02, W03, W04, W05, W06, W07, W08, Nat.reduceEqDiff, Nat.reduceAdd, Nat.reduceLT, Nat.reduceLeDiff, Nat.reduceMul, reduceIte, reduceCtorEq]
      refine call_v (spec_CoreSize_c x.Kids[i] (by omega)) ?_
      simp (disch := omega) only [VCore.cells, VCore.isAgg, VCore.width, VCore.storable, VCArm.isAgg, VCArm.width, VCArm.storable, VCArm.load_P, VCArm.load_E, VCArm.cells, VCPat.isAgg, VCPat.width, VCPat.storable, VCPat.eta, VCore.eta, wrapA, wrapA1, W00, W01, W02, W03, W04, W05, W06, W07, W08, Nat.reduceEqDiff, Nat.reduceAdd, Nat.reduceLT, Nat.reduceLeDiff, Nat.reduceMul, reduceIte, reduceCtorEq]
      exact ⟨hlt, by rw [h1]; simp only [Nat.add_assoc, Nat.add_comm, Nat.add_left_comm]⟩
    · have he : i = x.Kids.length := by omega
      subst he
      simp (disch := omega) only [List.take_length, W00, W01, W02, W03, W04, W05, W06, W07, W08, Nat.reduceEqDiff, Nat.reduceAdd, Nat.reduceLT, Nat.reduceLeDiff, Nat.reduceMul, reduceIte, reduceCtorEq]
  simp only [VCore.cells, VCore.isAgg, VCore.width, VCore.storable, VCArm.isAgg, VCArm.width, VCArm.storable, VCArm.load_P, VCArm.load_E, VCArm.cells, VCPat.isAgg, VCPat.width, VCPat.storable, VCPat.eta, VCore.eta, W00, W01, W02, W03, W04, W05, W06, W07, W08, Nat.reduceEqDiff, Nat.reduceAdd, Nat.reduceLT, Nat.reduceLeDiff, Nat.reduceMul, reduceIte, reduceCtorEq]
  refine bind_cut [.v (.int .i64 x.sz)] rfl ?_ (by simp (disch := omega) only [VCore.cells, VCore.isAgg, VCore.width, VCore.storable, VCArm.isAgg, VCArm.width, VCArm.storable, VCArm.load_P, VCArm.load_E, VCArm.cells, VCPat.isAgg, VCPat.width, VCPat.storable, VCPat.eta, VCore.eta, W00, W01, W02, W03, W04, W05, W06, W07, W08, Nat.reduceEqDiff, Nat.reduceAdd, Nat.reduceLT, Nat.reduceLeDiff, Nat.reduceMul, reduceIte, reduceCtorEq])
  simp (disch := omega) only [VCore.cells, VCore.isAgg, VCore.width, VCore.storable, VCArm.isAgg, VCArm.width, VCArm.storable, VCArm.load_P, VCArm.load_E, VCArm.cells, VCPat.isAgg, VCPat.width, VCPat.storable, VCPat.eta, VCore.eta, W00, W01, W02, W03, W04, W05, W06, W07, W08, Nat.reduceEqDiff, Nat.reduceAdd, Nat.reduceLT, Nat.reduceLeDiff, Nat.reduceMul, reduceIte, reduceCtorEq]
  refine loop_up x.Arms.length (fun i => [.v (.int .i64 (1 + (x.Kids.map VCore.sz).sum + ((x.Arms.take i).map VCArm.sz).sum : Nat)), .v (.int .i64 i)]) (by simp) fun i hi => ?_
  simp (disch := omega) only [VCore.cells, VCore.isAgg, VCore.width, VCore.storable, VCArm.isAgg, VCArm.width, VCArm.storable, VCArm.load_P, VCArm.load_E, VCArm.cells, VCPat.isAgg, VCPat.width, VCPat.storable, VCPat.eta, VCore.eta, W00, W01, W02, W03, W04, W05, W06, W07, W08, Nat.reduceEqDiff, Nat.reduceAdd, Nat.reduceLT, Nat.reduceLeDiff, Nat.reduceMul, reduceIte, reduceCtorEq]
  refine ite_dec (fun h => ?_) (fun h => ?_)
  · have hlt : i < x.Arms.length := by omega
    have h1 := sum_take VCArm.sz x.Arms i hlt
    have h2 := sum_le VCArm.sz x.Arms (i + 1)
    have h3 := le_sum VCArm.wt (List.getElem_mem hlt)
    simp (disch := omega) only [VCore.cells, VCore.isAgg, VCore.width, VCore.storable, VCArm.isAgg, VCArm.width, VCArm.storable, VCArm.load_P, VCArm.load_E, VCArm.cells, VCPat.isAgg, VCPat.width, VCPat.storable, VCPat.eta, VCore.eta, W00, W01, W02, W03, W04, W05, W06, W07, W08, Nat.reduceEqDiff, Nat.reduceAdd, Nat.reduceLT, Nat.reduceLeDiff, Nat.reduceMul, reduceIte, reduceCtorEq]
    have h4 := VCArm.sz_eq x.Arms[i]
    refine elemM VCArm.av hlt (VCArm.width _) ?_
    simp (disch := omega) only [VCore.cells, VCore.isAgg, VCore.width, VCore.storable, VCArm.isAgg, VCArm.width, VCArm.storable, VCArm.load_P, VCArm.load_E, VCArm.cells, VCPat.isAgg, VCPat.width, VCPat.storable, VCPat.eta, VCore.eta, wrapA, wrapA1, W00, W01, W02, W03, W04, W05, W06, W07, W08, Nat.reduceEqDiff, Nat.reduceAdd, Nat.reduceLT, Nat.reduceLeDiff, Nat.reduceMul, reduceIte, reduceCtorEq]
    refine call_v (spec_l7PatSize_c x.Arms[i].P (by have := VCArm.wt_eq x.Arms[i]; omega)) ?_
    simp (disch := omega) only [VCore.cells, VCore.isAgg, VCore.width, VCore.storable, VCArm.isAgg, VCArm.width, VCArm.storable, VCArm.load_P, VCArm.load_E, VCArm.cells, VCPat.isAgg, VCPat.width, VCPat.storable, VCPat.eta, VCore.eta, wrapA, wrapA1, W00, W01, W02, W03, W04, W05, W06, W07, W08, Nat.reduceEqDiff, Nat.reduceAdd, Nat.reduceLT, Nat.reduceLeDiff, Nat.reduceMul, reduceIte, reduceCtorEq]
    refine elemM VCArm.av hlt (VCArm.width _) ?_
    simp (disch := omega) only [VCore.cells, VCore.isAgg, VCore.width, VCore.storable, VCArm.isAgg, VCArm.width, VCArm.storable, VCArm.load_P, VCArm.load_E, VCArm.cells, VCPat.isAgg, VCPat.width, VCPat.storable, VCPat.eta, VCore.eta, wrapA, wrapA1, W00, W01, W02, W03, W04, W05, W06, W07, W08, Nat.reduceEqDiff, Nat.reduceAdd, Nat.reduceLT, Nat.reduceLeDiff, Nat.reduceMul, reduceIte, reduceCtorEq]
    refine call_v (spec_CoreSize_c x.Arms[i].E (by have := VCArm.wt_eq x.Arms[i]; omega)) ?_
    simp (disch := omega) only [VCore.cells, VCore.isAgg, VCore.width, VCore.storable, VCArm.isAgg, VCArm.width, VCArm.storable, VCArm.load_P, VCArm.load_E, VCArm.cells, VCPat.isAgg, VCPat.width, VCPat.storable, VCPat.eta, VCore.eta, wrapA, wrapA1, W00, W01, W02, W03, W04, W05, W06, W07, W08, Nat.reduceEqDiff, Nat.reduceAdd, Nat.reduceLT, Nat.reduceLeDiff, Nat.reduceMul, reduceIte, reduceCtorEq]
    exact ⟨hlt, by rw [h1, h4]; simp only [Nat.add_assoc]⟩
  · have he : i = x.Arms.length := by omega
    subst he
    simp (disch := omega) only [List.take_length, W00, W01, W02, W03, W04, W05, W06, W07, W08, Nat.reduceEqDiff, Nat.reduceAdd, Nat.reduceLT, Nat.reduceLeDiff, Nat.reduceMul, reduceIte, reduceCtorEq]
    rw [hs]
termination_by SizeOf.sizeOf x
decreasing_by all_goals first | exact VCore.Kids_lt (List.getElem_mem _) | exact Nat.lt_trans (VCArm.E_lt _) (VCore.Arms_lt (List.getElem_mem _))
theorem impl_CoreSize_c (x : VCore) (hb : x.wt ≤ 1048576) : PCon Try.prog F.impl_CoreSize [x.av] (.v (.int .i64 x.sz)) := by
  have hw := x.wt_eq; have hs := x.sz_eq; have hle := x.sz_le
  refine T.impl_CoreSize_con rfl (by simp [AV.norefs, AV.noref, VCore.noref]) ?_
  simp (disch := omega) only [T.impl_CoreSize, VCore.cells, VCore.isAgg, VCore.width, VCore.storable, VCArm.isAgg, VCArm.width, VCArm.storable, VCArm.load_P, VCArm.load_E, VCArm.cells, VCPat.isAgg, VCPat.width, VCPat.storable, VCPat.eta, VCore.eta, W00, W01, W02, W03, W04, W05, W06, W07, W08, Nat.reduceEqDiff, Nat.reduceAdd, Nat.reduceLT, Nat.reduceLeDiff, Nat.reduceMul, reduceIte, reduceCtorEq]
  refine bind_cut [.v (.int .i64 (1 + (x.Kids.map VCore.sz).sum : Nat))] rfl ?_ ?_
  · simp (disch := omega) only [VCore.cells, VCore.isAgg, VCore.width, VCore.storable, VCArm.isAgg, VCArm.width, VCArm.storable, VCArm.load_P, VCArm.load_E, VCArm.cells, VCPat.isAgg, VCPat.width, VCPat.storable, VCPat.eta, VCore.eta, W00, W01, W02, W03, W04, W05, W06, W07, W08, Nat.reduceEqDiff, Nat.reduceAdd, Nat.reduceLT, Nat.reduceLeDiff, Nat.reduceMul, reduceIte, reduceCtorEq]
    refine loop_up x.Kids.length (fun i => [.v (.int .i64 (1 + ((x.Kids.take i).map VCore.sz).sum : Nat)), .v (.int .i64 i)]) (by simp) fun i hi => ?_
    simp (disch := omega) only [VCore.cells, VCore.isAgg, VCore.width, VCore.storable, VCArm.isAgg, VCArm.width, VCArm.storable, VCArm.load_P, VCArm.load_E, VCArm.cells, VCPat.isAgg, VCPat.width, VCPat.storable, VCPat.eta, VCore.eta, W00, W01, W02, W03, W04, W05, W06, W07, W08, Nat.reduceEqDiff, Nat.reduceAdd, Nat.reduceLT, Nat.reduceLeDiff, Nat.reduceMul, reduceIte, reduceCtorEq]
    refine ite_dec (fun h => ?_) (fun h => ?_)
    · have hlt : i < x.Kids.length := by omega
      have h1 := sum_take VCore.sz x.Kids i hlt
      have h2 := sum_le VCore.sz x.Kids (i + 1)
      have h3 := le_sum VCore.wt (List.getElem_mem hlt)
      simp (disch := omega) only [VCore.cells, VCore.isAgg, VCore.width, VCore.storable, VCArm.isAgg, VCArm.width, VCArm.storable, VCArm.load_P, VCArm.load_E, VCArm.cells, VCPat.isAgg, VCPat.width, VCPat.storable, VCPat.eta, VCore.eta, W00, W01, W02, W03, W04, W05, W06, W07, W08, Nat.reduceEqDiff, Nat.reduceAdd, Nat.reduceLT, Nat.reduceLeDiff, Nat.reduceMul, reduceIte, reduceCtorEq]
      refine elemM VCore.av hlt (VCore.width _) ?_
      simp (disch := omega) only [VCore.cells, VCore.isAgg, VCore.width, VCore.storable, VCArm.isAgg, VCArm.width, VCArm.storable, VCArm.load_P, VCArm.load_E, VCArm.cells, VCPat.isAgg, VCPat.width, VCPat.storable, VCPat.eta, VCore.eta, wrapA, wrapA1, W00, W01, W02, W03, W04, W05, W06, W07, W08, Nat.reduceEqDiff, Nat.reduceAdd, Nat.reduceLT, Nat.reduceLeDiff, Nat.reduceMul, reduceIte, reduceCtorEq]
      refine call_v (impl_CoreSize_c x.Kids[i] (by omega)) ?_
      simp (disch := omega) only [VCore.cells, VCore.isAgg, VCore.width, VCore.storable, VCArm.isAgg, VCArm.width, VCArm.storable, VCArm.load_P, VCArm.load_E, VCArm.cells, VCPat.isAgg, VCPat.width, VCPat.storable, VCPat.eta, VCore.eta, wrapA, wrapA1, W00, W01, W02, W03, W04, W05, W06, W07, W08, Nat.reduceEqDiff, Nat.reduceAdd, Nat.reduceLT, Nat.reduceLeDiff, Nat.reduceMul, reduceIte, reduceCtorEq]
      exact ⟨hlt, by rw [h1]; simp only [Nat.add_assoc, Nat.add_comm, Nat.add_left_comm]⟩
    · have he : i = x.Kids.length := by omega
      subst he
      simp (disch := omega) only [List.take_length, W00, W01, W02, W03, W04, W05, W06, W07, W08, Nat.reduceEqDiff, Nat.reduceAdd, Nat.reduceLT, Nat.reduceLeDiff, Nat.reduceMul, reduceIte, reduceCtorEq]
  simp only [VCore.cells, VCore.isAgg, VCore.width, VCore.storable, VCArm.isAgg, VCArm.width, VCArm.storable, VCArm.load_P, VCArm.load_E, VCArm.cells, VCPat.isAgg, VCPat.width, VCPat.storable, VCPat.eta, VCore.eta, W00, W01, W02, W03, W04, W05, W06, W07, W08, Nat.reduceEqDiff, Nat.reduceAdd, Nat.reduceLT, Nat.reduceLeDiff, Nat.reduceMul, reduceIte, reduceCtorEq]
  refine bind_cut [.v (.int .i64 x.sz)] rfl ?_ (by simp (disch := omega) only [VCore.cells, VCore.isAgg, VCore.width, VCore.storable, VCArm.isAgg, VCArm.width, VCArm.storable, VCArm.load_P, VCArm.load_E, VCArm.cells, VCPat.isAgg, VCPat.width, VCPat.storable, VCPat.eta, VCore.eta, W00, W01, W02, W03, W04, W05, W06, W07, W08, Nat.reduceEqDiff, Nat.reduceAdd, Nat.reduceLT, Nat.reduceLeDiff, Nat.reduceMul, reduceIte, reduceCtorEq])
  simp (disch := omega) only [VCore.cells, VCore.isAgg, VCore.width, VCore.storable, VCArm.isAgg, VCArm.width, VCArm.storable, VCArm.load_P, VCArm.load_E, VCArm.cells, VCPat.isAgg, VCPat.width, VCPat.storable, VCPat.eta, VCore.eta, W00, W01, W02, W03, W04, W05, W06, W07, W08, Nat.reduceEqDiff, Nat.reduceAdd, Nat.reduceLT, Nat.reduceLeDiff, Nat.reduceMul, reduceIte, reduceCtorEq]
  refine loop_up x.Arms.length (fun i => [.v (.int .i64 (1 + (x.Kids.map VCore.sz).sum + ((x.Arms.take i).map VCArm.sz).sum : Nat)), .v (.int .i64 i)]) (by simp) fun i hi => ?_
  simp (disch := omega) only [VCore.cells, VCore.isAgg, VCore.width, VCore.storable, VCArm.isAgg, VCArm.width, VCArm.storable, VCArm.load_P, VCArm.load_E, VCArm.cells, VCPat.isAgg, VCPat.width, VCPat.storable, VCPat.eta, VCore.eta, W00, W01, W02, W03, W04, W05, W06, W07, W08, Nat.reduceEqDiff, Nat.reduceAdd, Nat.reduceLT, Nat.reduceLeDiff, Nat.reduceMul, reduceIte, reduceCtorEq]
  refine ite_dec (fun h => ?_) (fun h => ?_)
  · have hlt : i < x.Arms.length := by omega
    have h1 := sum_take VCArm.sz x.Arms i hlt
    have h2 := sum_le VCArm.sz x.Arms (i + 1)
    have h3 := le_sum VCArm.wt (List.getElem_mem hlt)
    simp (disch := omega) only [VCore.cells, VCore.isAgg, VCore.width, VCore.storable, VCArm.isAgg, VCArm.width, VCArm.storable, VCArm.load_P, VCArm.load_E, VCArm.cells, VCPat.isAgg, VCPat.width, VCPat.storable, VCPat.eta, VCore.eta, W00, W01, W02, W03, W04, W05, W06, W07, W08, Nat.reduceEqDiff, Nat.reduceAdd, Nat.reduceLT, Nat.reduceLeDiff, Nat.reduceMul, reduceIte, reduceCtorEq]
    have h4 := VCArm.sz_eq x.Arms[i]
    refine elemM VCArm.av hlt (VCArm.width _) ?_
    simp (disch := omega) only [VCore.cells, VCore.isAgg, VCore.width, VCore.storable, VCArm.isAgg, VCArm.width, VCArm.storable, VCArm.load_P, VCArm.load_E, VCArm.cells, VCPat.isAgg, VCPat.width, VCPat.storable, VCPat.eta, VCore.eta, wrapA, wrapA1, W00, W01, W02, W03, W04, W05, W06, W07, W08, Nat.reduceEqDiff, Nat.reduceAdd, Nat.reduceLT, Nat.reduceLeDiff, Nat.reduceMul, reduceIte, reduceCtorEq]
    refine call_v (impl_cpatSize_c x.Arms[i].P (by have := VCArm.wt_eq x.Arms[i]; omega)) ?_
    simp (disch := omega) only [VCore.cells, VCore.isAgg, VCore.width, VCore.storable, VCArm.isAgg, VCArm.width, VCArm.storable, VCArm.load_P, VCArm.load_E, VCArm.cells, VCPat.isAgg, VCPat.width, VCPat.storable, VCPat.eta, VCore.eta, wrapA, wrapA1, W00, W01, W02, W03, W04, W05, W06, W07, W08, Nat.reduceEqDiff, Nat.reduceAdd, Nat.reduceLT, Nat.reduceLeDiff, Nat.reduceMul, reduceIte, reduceCtorEq]
    refine call_v (impl_CoreSize_c x.Arms[i].E (by have := VCArm.wt_eq x.Arms[i]; omega)) ?_
    simp (disch := omega) only [VCore.cells, VCore.isAgg, VCore.width, VCore.storable, VCArm.isAgg, VCArm.width, VCArm.storable, VCArm.load_P, VCArm.load_E, VCArm.cells, VCPat.isAgg, VCPat.width, VCPat.storable, VCPat.eta, VCore.eta, wrapA, wrapA1, W00, W01, W02, W03, W04, W05, W06, W07, W08, Nat.reduceEqDiff, Nat.reduceAdd, Nat.reduceLT, Nat.reduceLeDiff, Nat.reduceMul, reduceIte, reduceCtorEq]
    exact ⟨hlt, by rw [h1, h4]; simp only [Nat.add_assoc]⟩
  · have he : i = x.Arms.length := by omega
    subst he
    simp (disch := omega) only [List.take_length, W00, W01, W02, W03, W04, W05, W06, W07, W08, Nat.reduceEqDiff, Nat.reduceAdd, Nat.reduceLT, Nat.reduceLeDiff, Nat.reduceMul, reduceIte, reduceCtorEq]
    rw [hs]
termination_by SizeOf.sizeOf x
decreasing_by all_goals first | exact VCore.Kids_lt (List.getElem_mem _) | exact Nat.lt_trans (VCArm.E_lt _) (VCore.Arms_lt (List.getElem_mem _))
end Go.Proofs.Ab
namespace Go.Ab
mutual
def VKTerm.sz : VKTerm → Nat
  | .mk _ _ _ _ _ _ _ k => 1 + VKTerm.szs k
def VKTerm.szs : List VKTerm → Nat
  | [] => 0
  | x :: l => x.sz + VKTerm.szs l
end
theorem VKTerm.szs_eq (l : List VKTerm) : VKTerm.szs l = (l.map VKTerm.sz).sum := by
  induction l with
  | nil => rfl
  | cons x l ih => simp only [VKTerm.szs, ih, List.map_cons, List.sum_cons]
theorem VKTerm.sz_eq (x : VKTerm) : x.sz = 1 + (x.Kids.map VKTerm.sz).sum := by
  cases x
  simp only [VKTerm.sz, VKTerm.szs_eq, VKTerm.Kids]
mutual
theorem VKTerm.sz_le : ∀ x : VKTerm, x.sz ≤ 1 + 2 * x.wt
  | .mk Kind Name N Num T Ts Vs Kids => by
    have h1 := VKTerm.szs_le Kids
    simp only [VKTerm.sz, VKTerm.wt]; omega
theorem VKTerm.szs_le : ∀ l : List VKTerm, VKTerm.szs l ≤ l.length + 2 * VKTerm.wts l
  | [] => by simp [VKTerm.szs]
  | x :: l => by
    have h1 := x.sz_le; have h2 := VKTerm.szs_le l
    simp only [VKTerm.szs, VKTerm.wts, List.length_cons]; omega
end
end Go.Ab
namespace Go.Proofs.Ab
open Go.Ab
theorem spec_KSize_c (x : VKTerm) (hb : x.wt ≤ 1048576) : PCon Try.prog F.spec_KSize [x.av] (.v (.int .i64 x.sz)) := by
  have hw := x.wt_eq; have hs := x.sz_eq; have hle := x.sz_le
  refine T.spec_KSize_con rfl (by simp [AV.norefs, AV.noref, VKTerm.noref]) ?_
  simp (disch := omega) only [T.spec_KSize, VKTerm.cells, VKTerm.isAgg, VKTerm.width, VKTerm.storable, W00, W01, W02, W03, W04, W05, W06, W07, W08, Nat.reduceEqDiff, Nat.reduceAdd, Nat.reduceLT, Nat.reduceLeDiff, Nat.reduceMul, reduceIte, reduceCtorEq]
  refine bind_cut [.v (.int .i64 x.sz)] rfl ?_ (by simp (disch := omega) only [VKTerm.cells, VKTerm.isAgg, VKTerm.width, VKTerm.storable, W00, W01, W02, W03, W04, W05, W06, W07, W08, Nat.reduceEqDiff, Nat.reduceAdd, Nat.reduceLT, Nat.reduceLeDiff, Nat.reduceMul, reduceIte, reduceCtorEq])
  simp (disch := omega) only [VKTerm.cells, VKTerm.isAgg, VKTerm.width, VKTerm.storable, W00, W01, W02, W03, W04, W05, W06, W07, W08, Nat.reduceEqDiff, Nat.reduceAdd, Nat.reduceLT, Nat.reduceLeDiff, Nat.reduceMul, reduceIte, reduceCtorEq]
  refine loop_up x.Kids.length (fun i => [.v (.int .i64 (1 + ((x.Kids.take i).map VKTerm.sz).sum : Nat)), .v (.int .i64 i)]) (by simp) fun i hi => ?_
  simp (disch := omega) only [VKTerm.cells, VKTerm.isAgg, VKTerm.width, VKTerm.storable, W00, W01, W02, W03, W04, W05, W06, W07, W08, Nat.reduceEqDiff, Nat.reduceAdd, Nat.reduceLT, Nat.reduceLeDiff, Nat.reduceMul, reduceIte, reduceCtorEq]
  refine ite_dec (fun h => ?_) (fun h => ?_)
  · have hlt : i < x.Kids.length := by omega
    have h1 := sum_take VKTerm.sz x.Kids i hlt
    have h2 := sum_le VKTerm.sz x.Kids (i + 1)
    have h3 := le_sum VKTerm.wt (List.getElem_mem hlt)
    simp (disch := omega) only [VKTerm.cells, VKTerm.isAgg, VKTerm.width, VKTerm.storable, W00, W01, W02, W03, W04, W05, W06, W07, W08, Nat.reduceEqDiff, Nat.reduceAdd, Nat.reduceLT, Nat.reduceLeDiff, Nat.reduceMul, reduceIte, reduceCtorEq]
    refine elemM VKTerm.av hlt (VKTerm.width _) ?_
    simp (disch := omega) only [VKTerm.cells, VKTerm.isAgg, VKTerm.width, VKTerm.storable, wrapA, wrapA1, W00, W01, W02, W03, W04, W05, W06, W07, W08, Nat.reduceEqDiff, Nat.reduceAdd, Nat.reduceLT, Nat.reduceLeDiff, Nat.reduceMul, reduceIte, reduceCtorEq]
    refine call_v (spec_KSize_c x.Kids[i] (by omega)) ?_
    simp (disch := omega) only [VKTerm.cells, VKTerm.isAgg, VKTerm.width, VKTerm.storable, wrapA, wrapA1, W00, W01, W02, W03, W04, W05, W06, W07, W08, Nat.reduceEqDiff, Nat.reduceAdd, Nat.reduceLT, Nat.reduceLeDiff, Nat.reduceMul, reduceIte, reduceCtorEq]
    exact ⟨hlt, by rw [h1]; simp only [Nat.add_assoc, Nat.add_comm, Nat.add_left_comm]⟩
  · have he : i = x.Kids.length := by omega
    subst he
    simp (disch := omega) only [List.take_length, W00, W01, W02, W03, W04, W05, W06, W07, W08, Nat.reduceEqDiff, Nat.reduceAdd, Nat.reduceLT, Nat.reduceLeDiff, Nat.reduceMul, reduceIte, reduceCtorEq]
    rw [hs]
termination_by SizeOf.sizeOf x
decreasing_by all_goals exact VKTerm.Kids_lt (List.getElem_mem _)
theorem impl_KSize_c (x : VKTerm) (hb : x.wt ≤ 1048576) : PCon Try.prog F.impl_KSize [x.av] (.v (.int .i64 x.sz)) := by
  have hw := x.wt_eq; have hs := x.sz_eq; have hle := x.sz_le
  refine T.impl_KSize_con rfl (by simp [AV.norefs, AV.noref, VKTerm.noref]) ?_
  simp (disch := omega) only [T.impl_KSize, VKTerm.cells, VKTerm.isAgg, VKTerm.width, VKTerm.storable, W00, W01, W02, W03, W04, W05, W06, W07, W08, Nat.reduceEqDiff, Nat.reduceAdd, Nat.reduceLT, Nat.reduceLeDiff, Nat.reduceMul, reduceIte, reduceCtorEq]
  refine bind_cut [.v (.int .i64 x.sz)] rfl ?_ (by simp (disch := omega) only [VKTerm.cells, VKTerm.isAgg, VKTerm.width, VKTerm.storable, W00, W01, W02, W03, W04, W05, W06, W07, W08, Nat.reduceEqDiff, Nat.reduceAdd, Nat.reduceLT, Nat.reduceLeDiff, Nat.reduceMul, reduceIte, reduceCtorEq])
  simp (disch := omega) only [VKTerm.cells, VKTerm.isAgg, VKTerm.width, VKTerm.storable, W00, W01, W02, W03, W04, W05, W06, W07, W08, Nat.reduceEqDiff, Nat.reduceAdd, Nat.reduceLT, Nat.reduceLeDiff, Nat.reduceMul, reduceIte, reduceCtorEq]
  refine loop_up x.Kids.length (fun i => [.v (.int .i64 (1 + ((x.Kids.take i).map VKTerm.sz).sum : Nat)), .v (.int .i64 i)]) (by simp) fun i hi => ?_
  simp (disch := omega) only [VKTerm.cells, VKTerm.isAgg, VKTerm.width, VKTerm.storable, W00, W01, W02, W03, W04, W05, W06, W07, W08, Nat.reduceEqDiff, Nat.reduceAdd, Nat.reduceLT, Nat.reduceLeDiff, Nat.reduceMul, reduceIte, reduceCtorEq]
  refine ite_dec (fun h => ?_) (fun h => ?_)
  · have hlt : i < x.Kids.length := by omega
    have h1 := sum_take VKTerm.sz x.Kids i hlt
    have h2 := sum_le VKTerm.sz x.Kids (i + 1)
    have h3 := le_sum VKTerm.wt (List.getElem_mem hlt)
    simp (disch := omega) only [VKTerm.cells, VKTerm.isAgg, VKTerm.width, VKTerm.storable, W00, W01, W02, W03, W04, W05, W06, W07, W08, Nat.reduceEqDiff, Nat.reduceAdd, Nat.reduceLT, Nat.reduceLeDiff, Nat.reduceMul, reduceIte, reduceCtorEq]
    refine elemM VKTerm.av hlt (VKTerm.width _) ?_
    simp (disch := omega) only [VKTerm.cells, VKTerm.isAgg, VKTerm.width, VKTerm.storable, wrapA, wrapA1, W00, W01, W02, W03, W04, W05, W06, W07, W08, Nat.reduceEqDiff, Nat.reduceAdd, Nat.reduceLT, Nat.reduceLeDiff, Nat.reduceMul, reduceIte, reduceCtorEq]
    refine call_v (impl_KSize_c x.Kids[i] (by omega)) ?_
    simp (disch := omega) only [VKTerm.cells, VKTerm.isAgg, VKTerm.width, VKTerm.storable, wrapA, wrapA1, W00, W01, W02, W03, W04, W05, W06, W07, W08, Nat.reduceEqDiff, Nat.reduceAdd, Nat.reduceLT, Nat.reduceLeDiff, Nat.reduceMul, reduceIte, reduceCtorEq]
    exact ⟨hlt, by rw [h1]; simp only [Nat.add_assoc, Nat.add_comm, Nat.add_left_comm]⟩
  · have he : i = x.Kids.length := by omega
    subst he
    simp (disch := omega) only [List.take_length, W00, W01, W02, W03, W04, W05, W06, W07, W08, Nat.reduceEqDiff, Nat.reduceAdd, Nat.reduceLT, Nat.reduceLeDiff, Nat.reduceMul, reduceIte, reduceCtorEq]
    rw [hs]
termination_by SizeOf.sizeOf x
decreasing_by all_goals exact VKTerm.Kids_lt (List.getElem_mem _)
end Go.Proofs.Ab
