/-
  THE SIZES OF TREES (printed by wip/tool/sizes.py).
-/
import Derived.Test.YtimcinieaeaolaaGreatDoorH
set_option linter.unusedVariables false
set_option linter.unusedSimpArgs false
set_option linter.defProp false
namespace Go.Proofs.Ab
open Go.Ab
set_option maxRecDepth 100000
set_option maxHeartbeats 4000000
end Go.Proofs.Ab
namespace Go.Ab
mutual
def VPat.sz : VPat → Nat
  | .mk _ _ _ _ k => 1 + VPat.szs k
def VPat.szs : List VPat → Nat
  | [] => 0
  | x :: l => x.sz + VPat.szs l
end
theorem VPat.szs_eq (l : List VPat) : VPat.szs l = (l.map VPat.sz).sum := by
  induction l with
  | nil => rfl
  | cons x l ih => simp only [VPat.szs, ih, List.map_cons, List.sum_cons]
theorem VPat.sz_eq (x : VPat) : x.sz = 1 + (x.Kids.map VPat.sz).sum := by
  cases x
  simp only [VPat.sz, VPat.szs_eq, VPat.Kids]
mutual
theorem VPat.sz_le : ∀ x : VPat, x.sz ≤ 1 + 2 * x.wt
  | .mk Kind Name Num Pos Kids => by
    have h1 := VPat.szs_le Kids
    simp only [VPat.sz, VPat.wt]; omega
theorem VPat.szs_le : ∀ l : List VPat, VPat.szs l ≤ l.length + 2 * VPat.wts l
  | [] => by simp [VPat.szs]
  | x :: l => by
    have h1 := x.sz_le; have h2 := VPat.szs_le l
    simp only [VPat.szs, VPat.wts, List.length_cons]; omega
end
end Go.Ab
namespace Go.Proofs.Ab
open Go.Ab
theorem impl_patSize_c (x : VPat) (hb : x.wt ≤ 1048576) : PCon Tryz.prog F.impl_patSize [x.av] (.v (.int .i64 x.sz)) := by
  have hw := x.wt_eq; have hs := x.sz_eq; have hle := x.sz_le
  refine T.impl_patSize_con rfl (by simp [AV.norefs, AV.noref, VPat.noref]) ?_
  simp (disch := omega) only [T.impl_patSize, VPat.cells, VPat.isAgg, VPat.width, VPat.storable, WA, Nat.reduceEqDiff, Nat.reduceAdd, Nat.reduceLT, Nat.reduceLeDiff, Nat.reduceMul, reduceIte, reduceCtorEq, Int.reduceEq, Int.reduceLT, Int.reduceLE, Int.reduceNe]
  refine bind_cut [.v (.int .i64 x.sz)] rfl ?_ (by simp (disch := omega) only [VPat.cells, VPat.isAgg, VPat.width, VPat.storable, WA, Nat.reduceEqDiff, Nat.reduceAdd, Nat.reduceLT, Nat.reduceLeDiff, Nat.reduceMul, reduceIte, reduceCtorEq, Int.reduceEq, Int.reduceLT, Int.reduceLE, Int.reduceNe])
  simp (disch := omega) only [VPat.cells, VPat.isAgg, VPat.width, VPat.storable, WA, Nat.reduceEqDiff, Nat.reduceAdd, Nat.reduceLT, Nat.reduceLeDiff, Nat.reduceMul, reduceIte, reduceCtorEq, Int.reduceEq, Int.reduceLT, Int.reduceLE, Int.reduceNe]
  refine loop_up x.Kids.length (fun i => [.v (.int .i64 (1 + ((x.Kids.take i).map VPat.sz).sum : Nat)), .v (.int .i64 i)]) (by simp) fun i hi => ?_
  simp (disch := omega) only [VPat.cells, VPat.isAgg, VPat.width, VPat.storable, WA, Nat.reduceEqDiff, Nat.reduceAdd, Nat.reduceLT, Nat.reduceLeDiff, Nat.reduceMul, reduceIte, reduceCtorEq, Int.reduceEq, Int.reduceLT, Int.reduceLE, Int.reduceNe]
  refine ite_dec (fun h => ?_) (fun h => ?_)
  · have hlt : i < x.Kids.length := by omega
    have h1 := sum_take VPat.sz x.Kids i hlt
    have h2 := sum_le VPat.sz x.Kids (i + 1)
    have h3 := le_sum VPat.wt (List.getElem_mem hlt)
    simp (disch := omega) only [VPat.cells, VPat.isAgg, VPat.width, VPat.storable, WA, Nat.reduceEqDiff, Nat.reduceAdd, Nat.reduceLT, Nat.reduceLeDiff, Nat.reduceMul, reduceIte, reduceCtorEq, Int.reduceEq, Int.reduceLT, Int.reduceLE, Int.reduceNe]
    refine elemM VPat.av hlt (VPat.width _) ?_
    simp (disch := omega) only [VPat.cells, VPat.isAgg, VPat.width, VPat.storable, wrapA, wrapA1, WA, Nat.reduceEqDiff, Nat.reduceAdd, Nat.reduceLT, Nat.reduceLeDiff, Nat.reduceMul, reduceIte, reduceCtorEq, Int.reduceEq, Int.reduceLT, Int.reduceLE, Int.reduceNe]
    refine call_v (impl_patSize_c x.Kids[i] (by omega)) ?_
    simp (disch := omega) only [VPat.cells, VPat.isAgg, VPat.width, VPat.storable, wrapA, wrapA1, WA, Nat.reduceEqDiff, Nat.reduceAdd, Nat.reduceLT, Nat.reduceLeDiff, Nat.reduceMul, reduceIte, reduceCtorEq, Int.reduceEq, Int.reduceLT, Int.reduceLE, Int.reduceNe]
    exact ⟨hlt, by rw [h1]; simp only [Nat.add_assoc, Nat.add_comm, Nat.add_left_comm]⟩
  · have he : i = x.Kids.length := by omega
    subst he
    simp (disch := omega) only [List.take_length, WA, Nat.reduceEqDiff, Nat.reduceAdd, Nat.reduceLT, Nat.reduceLeDiff, Nat.reduceMul, reduceIte, reduceCtorEq, Int.reduceEq, Int.reduceLT, Int.reduceLE, Int.reduceNe]
    rw [hs]
termination_by SizeOf.sizeOf x
decreasing_by all_goals exact VPat.Kids_lt (List.getElem_mem _)
end Go.Proofs.Ab
namespace Go.Ab
mutual
def VExp.sz : VExp → Nat
  | .mk _ _ _ _ _ k a => 1 + VExp.szs k + VArm.szs a
def VArm.sz : VArm → Nat
  | .mk p e => p.sz + e.sz
def VArm.szs : List VArm → Nat
  | [] => 0
  | x :: l => x.sz + VArm.szs l
def VExp.szs : List VExp → Nat
  | [] => 0
  | x :: l => x.sz + VExp.szs l
end
theorem VExp.szs_eq (l : List VExp) : VExp.szs l = (l.map VExp.sz).sum := by
  induction l with
  | nil => rfl
  | cons x l ih => simp only [VExp.szs, ih, List.map_cons, List.sum_cons]
theorem VArm.szs_eq (l : List VArm) : VArm.szs l = (l.map VArm.sz).sum := by
  induction l with
  | nil => rfl
  | cons x l ih => simp only [VArm.szs, ih, List.map_cons, List.sum_cons]
theorem VExp.sz_eq (x : VExp) : x.sz = 1 + (x.Kids.map VExp.sz).sum + (x.Arms.map VArm.sz).sum := by
  cases x
  simp only [VExp.sz, VExp.szs_eq, VArm.szs_eq, VExp.Kids, VExp.Arms]
theorem VArm.sz_eq (x : VArm) : x.sz = x.P.sz + x.E.sz := by
  cases x
  simp only [VArm.sz, VArm.P, VArm.E]
mutual
theorem VExp.sz_le : ∀ x : VExp, x.sz ≤ 1 + 2 * x.wt
  | .mk Kind Name Num Text Pos Kids Arms => by
    have h1 := VExp.szs_le Kids; have h2 := VArm.szs_le Arms
    simp only [VExp.sz, VExp.wt]; omega
theorem VArm.sz_le : ∀ x : VArm, x.sz ≤ 2 + 2 * x.wt
  | .mk P E => by
    have h1 := P.sz_le; have h2 := E.sz_le
    simp only [VArm.sz, VArm.wt]; omega
theorem VArm.szs_le : ∀ l : List VArm, VArm.szs l ≤ 2 * l.length + 2 * VArm.wts l
  | [] => by simp [VArm.szs]
  | x :: l => by
    have h1 := x.sz_le; have h2 := VArm.szs_le l
    simp only [VArm.szs, VArm.wts, List.length_cons]; omega
theorem VExp.szs_le : ∀ l : List VExp, VExp.szs l ≤ l.length + 2 * VExp.wts l
  | [] => by simp [VExp.szs]
  | x :: l => by
    have h1 := x.sz_le; have h2 := VExp.szs_le l
    simp only [VExp.szs, VExp.wts, List.length_cons]; omega
end
end Go.Ab
namespace Go.Proofs.Ab
open Go.Ab
theorem impl_ExpSize_c (x : VExp) (hb : x.wt ≤ 1048576) : PCon Tryz.prog F.impl_ExpSize [x.av] (.v (.int .i64 x.sz)) := by
  have hw := x.wt_eq; have hs := x.sz_eq; have hle := x.sz_le
  refine T.impl_ExpSize_con rfl (by simp [AV.norefs, AV.noref, VExp.noref]) ?_
  simp (disch := omega) only [T.impl_ExpSize, VExp.cells, VExp.isAgg, VExp.width, VExp.storable, VArm.isAgg, VArm.width, VArm.storable, VArm.load_P, VArm.load_E, VArm.cells, VPat.isAgg, VPat.width, VPat.storable, VPat.eta, VExp.eta, WA, Nat.reduceEqDiff, Nat.reduceAdd, Nat.reduceLT, Nat.reduceLeDiff, Nat.reduceMul, reduceIte, reduceCtorEq, Int.reduceEq, Int.reduceLT, Int.reduceLE, Int.reduceNe]
  refine bind_cut [.v (.int .i64 (1 + (x.Kids.map VExp.sz).sum : Nat))] rfl ?_ ?_
  · simp (disch := omega) only [VExp.cells, VExp.isAgg, VExp.width, VExp.storable, VArm.isAgg, VArm.width, VArm.storable, VArm.load_P, VArm.load_E, VArm.cells, VPat.isAgg, VPat.width, VPat.storable, VPat.eta, VExp.eta, WA, Nat.reduceEqDiff, Nat.reduceAdd, Nat.reduceLT, Nat.reduceLeDiff, Nat.reduceMul, reduceIte, reduceCtorEq, Int.reduceEq, Int.reduceLT, Int.reduceLE, Int.reduceNe]
    refine loop_up x.Kids.length (fun i => [.v (.int .i64 (1 + ((x.Kids.take i).map VExp.sz).sum : Nat)), .v (.int .i64 i)]) (by simp) fun i hi => ?_
    simp (disch := omega) only [VExp.cells, VExp.isAgg, VExp.width, VExp.storable, VArm.isAgg, VArm.width, VArm.storable, VArm.load_P, VArm.load_E, VArm.cells, VPat.isAgg, VPat.width, VPat.storable, VPat.eta, VExp.eta, WA, Nat.reduceEqDiff, Nat.reduceAdd, Nat.reduceLT, Nat.reduceLeDiff, Nat.reduceMul, reduceIte, reduceCtorEq, Int.reduceEq, Int.reduceLT, Int.reduceLE, Int.reduceNe]
    refine ite_dec (fun h => ?_) (fun h => ?_)
    · have hlt : i < x.Kids.length := by omega
      have h1 := sum_take VExp.sz x.Kids i hlt
      have h2 := sum_le VExp.sz x.Kids (i + 1)
      have h3 := le_sum VExp.wt (List.getElem_mem hlt)
      simp (disch := omega) only [VExp.cells, VExp.isAgg, VExp.width, VExp.storable, VArm.isAgg, VArm.width, VArm.storable, VArm.load_P, VArm.load_E, VArm.cells, VPat.isAgg, VPat.width, VPat.storable, VPat.eta, VExp.eta, WA, Nat.reduceEqDiff, Nat.reduceAdd, Nat.reduceLT, Nat.reduceLeDiff, Nat.reduceMul, reduceIte, reduceCtorEq, Int.reduceEq, Int.reduceLT, Int.reduceLE, Int.reduceNe]
      refine elemM VExp.av hlt (VExp.width _) ?_
      simp (disch := omega) only [VExp.cells, VExp.isAgg, VExp.width, VExp.storable, VArm.isAgg, VArm.width, VArm.storable, VArm.load_P, VArm.load_E, VArm.cells, VPat.isAgg, VPat.width, VPat.storable, VPat.eta, VExp.eta, wrapA, wrapA1, WA, Nat.reduceEqDiff, Nat.reduceAdd, Nat.reduceLT, Nat.reduceLeDiff, Nat.reduceMul, reduceIte, reduceCtorEq, Int.reduceEq, Int.reduceLT, Int.reduceLE, Int.reduceNe]
      refine call_v (impl_ExpSize_c x.Kids[i] (by omega)) ?_
      simp (disch := omega) only [VExp.cells, VExp.isAgg, VExp.width, VExp.storable, VArm.isAgg, VArm.width, VArm.storable, VArm.load_P, VArm.load_E, VArm.cells, VPat.isAgg, VPat.width, VPat.storable, VPat.eta, VExp.eta, wrapA, wrapA1, WA, Nat.reduceEqDiff, Nat.reduceAdd, Nat.reduceLT, Nat.reduceLeDiff, Nat.reduceMul, reduceIte, reduceCtorEq, Int.reduceEq, Int.reduceLT, Int.reduceLE, Int.reduceNe]
      exact ⟨hlt, by rw [h1]; simp only [Nat.add_assoc, Nat.add_comm, Nat.add_left_comm]⟩
    · have he : i = x.Kids.length := by omega
      subst he
      simp (disch := omega) only [List.take_length, WA, Nat.reduceEqDiff, Nat.reduceAdd, Nat.reduceLT, Nat.reduceLeDiff, Nat.reduceMul, reduceIte, reduceCtorEq, Int.reduceEq, Int.reduceLT, Int.reduceLE, Int.reduceNe]
  simp only [VExp.cells, VExp.isAgg, VExp.width, VExp.storable, VArm.isAgg, VArm.width, VArm.storable, VArm.load_P, VArm.load_E, VArm.cells, VPat.isAgg, VPat.width, VPat.storable, VPat.eta, VExp.eta, WA, Nat.reduceEqDiff, Nat.reduceAdd, Nat.reduceLT, Nat.reduceLeDiff, Nat.reduceMul, reduceIte, reduceCtorEq, Int.reduceEq, Int.reduceLT, Int.reduceLE, Int.reduceNe]
  refine bind_cut [.v (.int .i64 x.sz)] rfl ?_ (by simp (disch := omega) only [VExp.cells, VExp.isAgg, VExp.width, VExp.storable, VArm.isAgg, VArm.width, VArm.storable, VArm.load_P, VArm.load_E, VArm.cells, VPat.isAgg, VPat.width, VPat.storable, VPat.eta, VExp.eta, WA, Nat.reduceEqDiff, Nat.reduceAdd, Nat.reduceLT, Nat.reduceLeDiff, Nat.reduceMul, reduceIte, reduceCtorEq, Int.reduceEq, Int.reduceLT, Int.reduceLE, Int.reduceNe])
  simp (disch := omega) only [VExp.cells, VExp.isAgg, VExp.width, VExp.storable, VArm.isAgg, VArm.width, VArm.storable, VArm.load_P, VArm.load_E, VArm.cells, VPat.isAgg, VPat.width, VPat.storable, VPat.eta, VExp.eta, WA, Nat.reduceEqDiff, Nat.reduceAdd, Nat.reduceLT, Nat.reduceLeDiff, Nat.reduceMul, reduceIte, reduceCtorEq, Int.reduceEq, Int.reduceLT, Int.reduceLE, Int.reduceNe]
  refine loop_up x.Arms.length (fun i => [.v (.int .i64 (1 + (x.Kids.map VExp.sz).sum + ((x.Arms.take i).map VArm.sz).sum : Nat)), .v (.int .i64 i)]) (by simp) fun i hi => ?_
  simp (disch := omega) only [VExp.cells, VExp.isAgg, VExp.width, VExp.storable, VArm.isAgg, VArm.width, VArm.storable, VArm.load_P, VArm.load_E, VArm.cells, VPat.isAgg, VPat.width, VPat.storable, VPat.eta, VExp.eta, WA, Nat.reduceEqDiff, Nat.reduceAdd, Nat.reduceLT, Nat.reduceLeDiff, Nat.reduceMul, reduceIte, reduceCtorEq, Int.reduceEq, Int.reduceLT, Int.reduceLE, Int.reduceNe]
  refine ite_dec (fun h => ?_) (fun h => ?_)
  · have hlt : i < x.Arms.length := by omega
    have h1 := sum_take VArm.sz x.Arms i hlt
    have h2 := sum_le VArm.sz x.Arms (i + 1)
    have h3 := le_sum VArm.wt (List.getElem_mem hlt)
    simp (disch := omega) only [VExp.cells, VExp.isAgg, VExp.width, VExp.storable, VArm.isAgg, VArm.width, VArm.storable, VArm.load_P, VArm.load_E, VArm.cells, VPat.isAgg, VPat.width, VPat.storable, VPat.eta, VExp.eta, WA, Nat.reduceEqDiff, Nat.reduceAdd, Nat.reduceLT, Nat.reduceLeDiff, Nat.reduceMul, reduceIte, reduceCtorEq, Int.reduceEq, Int.reduceLT, Int.reduceLE, Int.reduceNe]
    have h4 := VArm.sz_eq x.Arms[i]
    refine elemM VArm.av hlt (VArm.width _) ?_
    simp (disch := omega) only [VExp.cells, VExp.isAgg, VExp.width, VExp.storable, VArm.isAgg, VArm.width, VArm.storable, VArm.load_P, VArm.load_E, VArm.cells, VPat.isAgg, VPat.width, VPat.storable, VPat.eta, VExp.eta, wrapA, wrapA1, WA, Nat.reduceEqDiff, Nat.reduceAdd, Nat.reduceLT, Nat.reduceLeDiff, Nat.reduceMul, reduceIte, reduceCtorEq, Int.reduceEq, Int.reduceLT, Int.reduceLE, Int.reduceNe]
    refine call_v (impl_patSize_c x.Arms[i].P (by have := VArm.wt_eq x.Arms[i]; omega)) ?_
    simp (disch := omega) only [VExp.cells, VExp.isAgg, VExp.width, VExp.storable, VArm.isAgg, VArm.width, VArm.storable, VArm.load_P, VArm.load_E, VArm.cells, VPat.isAgg, VPat.width, VPat.storable, VPat.eta, VExp.eta, wrapA, wrapA1, WA, Nat.reduceEqDiff, Nat.reduceAdd, Nat.reduceLT, Nat.reduceLeDiff, Nat.reduceMul, reduceIte, reduceCtorEq, Int.reduceEq, Int.reduceLT, Int.reduceLE, Int.reduceNe]
    refine call_v (impl_ExpSize_c x.Arms[i].E (by have := VArm.wt_eq x.Arms[i]; omega)) ?_
    simp (disch := omega) only [VExp.cells, VExp.isAgg, VExp.width, VExp.storable, VArm.isAgg, VArm.width, VArm.storable, VArm.load_P, VArm.load_E, VArm.cells, VPat.isAgg, VPat.width, VPat.storable, VPat.eta, VExp.eta, wrapA, wrapA1, WA, Nat.reduceEqDiff, Nat.reduceAdd, Nat.reduceLT, Nat.reduceLeDiff, Nat.reduceMul, reduceIte, reduceCtorEq, Int.reduceEq, Int.reduceLT, Int.reduceLE, Int.reduceNe]
    exact ⟨hlt, by rw [h1, h4]; simp only [Nat.add_assoc]⟩
  · have he : i = x.Arms.length := by omega
    subst he
    simp (disch := omega) only [List.take_length, WA, Nat.reduceEqDiff, Nat.reduceAdd, Nat.reduceLT, Nat.reduceLeDiff, Nat.reduceMul, reduceIte, reduceCtorEq, Int.reduceEq, Int.reduceLT, Int.reduceLE, Int.reduceNe]
    rw [hs]
termination_by SizeOf.sizeOf x
decreasing_by all_goals first | exact VExp.Kids_lt (List.getElem_mem _) | exact Nat.lt_trans (VArm.E_lt _) (VExp.Arms_lt (List.getElem_mem _))
end Go.Proofs.Ab
