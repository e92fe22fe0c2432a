/-
  Uses of the program: a closure that writes a slice of one's own.
-/
import Derived.Test.YtlckfombibfhcaaCUses
import Derived.Test.YtlckfombibfhcaaSB
set_option linter.unusedVariables false
set_option linter.unusedSimpArgs false
set_option linter.defProp false
namespace Go.Ab
set_option maxRecDepth 100000
theorem avI_getD (l : List Int) (i : Nat) (h : i < l.length) : (l.map avI).getD i .top = avI (l.getD i 0) := by simp [List.getD, h]
theorem ksL_append : ∀ l m : List VKTerm, VKTerm.ksL (l ++ m) = VKTerm.ksL l + VKTerm.ksL m
  | [], m => by simp [VKTerm.ksL]
  | x :: l, m => by simp [VKTerm.ksL, ksL_append l m, Nat.add_assoc]
theorem norI_scoped (k : Nat) (l : List Int) : AV.scopeds k (l.map avI) = true := norefs_scopeds _ (norefsM (f := avI) fun _ => rfl)
end Go.Ab
namespace Go.Proofs.Ab
open Go.Ab
set_option maxRecDepth 100000
set_option maxHeartbeats 4000000
theorem uses_1 (v a : Int) (last : List Int) (hl : last.length ≤ 4194304) : Con Try.prog F.impl_Uses_1 [avI v, avI a, .ptr 0 1 0 0] [.live 23 1 [.row 1 last.length], .live 3 1 (last.map avI)] (.tup [])
    [.live 23 1 [.row 1 last.length], .live 3 1 ((useN last v a).map avI)] := by
  have hw : IntKind.i64.wrap ((last.length : Int) - 1) = (last.length : Int) - 1 := wrapI (by omega) (by omega)
  refine con_of_wp A.impl_Uses_1_ok rfl ?_
  simp only [A.impl_Uses_1, avI, List.length_map, hw, ↓OD, OA, Nat.reduceEqDiff, reduceCtorEq, Nat.reduceAdd, Nat.reduceLT, Nat.reduceLeDiff, reduceIte]
  refine callK_intro _ _ ((impl_within_c v 0 _).any rfl rfl _) ?_
  simp only [↓OD, OA, Nat.reduceEqDiff, reduceCtorEq, Nat.reduceAdd, Nat.reduceLT, Nat.reduceLeDiff, reduceIte]
  refine condK_intro (fun h => ?_) (fun h => ?_)
  · simp only [↓OD, OA, Nat.reduceEqDiff, reduceCtorEq, Nat.reduceAdd, Nat.reduceLT, Nat.reduceLeDiff, reduceIte]
    refine drawK_intro ?_
    have h0 := h
    simp only [inB, Bool.and_eq_true, decide_eq_true_eq] at h0
    have hlt : v.toNat < last.length := by omega
    have hg := avI_getD last v.toNat hlt
    simp only [avI] at hg
    simp only [avI, List.length_map, hg, ↓OD, OA, Nat.reduceEqDiff, reduceCtorEq, Nat.reduceAdd, Nat.reduceLT, Nat.reduceLeDiff, reduceIte]
    refine ⟨by omega, by omega, hlt, by omega, by omega, hlt, ?_⟩
    refine ⟨by kernel_rfl, ?_⟩
    try simp only [↓OD, OA, Nat.reduceEqDiff, reduceCtorEq, Nat.reduceAdd, Nat.reduceLT, Nat.reduceLeDiff, reduceIte]
    refine ret_unit (.inr rfl) ?_ (by simp) ?_
    · have : useN last v a = last.set v.toNat (max (last.getD v.toNat 0) a) := by unfold useN; rw [if_pos h]
      rw [this, List.map_set]
      rfl
    · simp [AObj.inScope, AV.scopeds, AV.inScope, norI_scoped]
  · simp only [↓OD, OA, Nat.reduceEqDiff, reduceCtorEq, Nat.reduceAdd, Nat.reduceLT, Nat.reduceLeDiff, reduceIte]
    refine ret_unit (.inr rfl) ?_ (by simp) ?_
    · have : useN last v a = last := by unfold useN; rw [if_neg (by rw [h]; decide)]
      rw [this]
      rfl
    · simp [AObj.inScope, AV.scopeds, AV.inScope, norI_scoped]
theorem eachAt_own (x : VKTerm) (n least : Nat) (last : List Int) (hb : x.wt ≤ 1048576) (hn : n + x.ks ≤ 4194304) (hle : least ≤ 4194304) (hl : last.length ≤ 4194304) :
    Con Try.prog F.impl_eachAt [x.av, avI n, avI least, .fn F.impl_Uses_1 [.ptr 0 1 0 0]] [.live 23 1 [.row 1 last.length], .live 3 1 (last.map avI)] (.tup [])
      [.live 23 1 [.row 1 last.length], .live 3 1 ((x.uses n least last).map avI)] := by
  have hw := x.wt_eq
  have hk := x.ks_eq
  have hv := x.uses_eq n least last
  have hks := x.ks_le
  have hsc : ∀ (l : List Int) (m : Nat), ([AObj.live 23 1 [.row 1 m], .live 3 1 (l.map avI)]).all (AObj.inScope 2) = true := fun l m => by simp [AObj.inScope, AV.scopeds, AV.inScope, norI_scoped]
  have hxs : x.av.inScope 3 = true := noref_scoped _ (VKTerm.noref x)
  refine con_of_wp A.impl_eachAt_ok rfl ?_
  simp only [A.impl_eachAt, VKTerm.cells, VKTerm.width, VKTerm.isAgg, VKTerm.storable, avI, List.length_map, ↓OD, OA, Nat.reduceEqDiff, reduceCtorEq, Nat.reduceAdd, Nat.reduceLT, Nat.reduceLeDiff, reduceIte]
  refine loopK_intro (ι := List VKVal × List VKVal × List Int) (fun p => p.1 ++ p.2.1 = x.Vs ∧ usesV ((max n least : Nat) : Int) p.2.2 p.2.1 = usesV ((max n least : Nat) : Int) last x.Vs ∧ p.2.2.length = last.length)
    (fun p => envL [(1, avI n), (2, avI least), (3, .fn F.impl_Uses_1 [.ptr 0 1 0 0]), (4, .ptr 2 1 0 0), (14, .sl (x.Vs.map VKVal.av)), (15, avI x.Vs.length), (16, avI p.1.length)])
    (fun p => [.live 23 1 [.row 1 last.length], .live 3 1 (p.2.2.map avI), .live 65 11 [x.av]]) (fun p => p.2.1.length) ([], x.Vs, last) ⟨rfl, rfl, rfl⟩ (.of_eq rfl rfl) ?_
  rintro ⟨done, rest, cur⟩ ⟨d1, d2, d3⟩
  simp only at d1 d2 d3
  simp only [avI, ↓OD, OA, Nat.reduceEqDiff, reduceCtorEq, Nat.reduceAdd, Nat.reduceLT, Nat.reduceLeDiff, reduceIte]
  have hlen : done.length + rest.length = x.Vs.length := by rw [← d1, List.length_append]
  refine condK_intro (fun hc => ?_) (fun hc => ?_)
  · cases rest with
    | nil => simp at hc hlen; omega
    | cons v r =>
    have hlt : done.length < x.Vs.length := by simp at hlen; omega
    have hg : (x.Vs.map VKVal.av).getD done.length .top = v.av := by rw [← d1, List.map_append, List.map_cons]; exact mid_get (by simp)
    simp only [Int.toNat_natCast, List.length_map, hg, VKVal.width, VKVal.isAgg, VKVal.storable, VKVal.cells, ↓OD, OA, Nat.reduceEqDiff, reduceCtorEq, Nat.reduceAdd, Nat.reduceLT, Nat.reduceLeDiff, reduceIte]
    refine ⟨by omega, by omega, ?_⟩
    have d2' : usesV ((max n least : Nat) : Int) (useV ((max n least : Nat) : Int) cur v) r = usesV ((max n least : Nat) : Int) last x.Vs := d2
    have hi1 : IntKind.i64.wrap ((done.length : Int) + 1) = ((done ++ [v]).length : Int) := by rw [wrapA1 (by omega)]; simp
    refine condK_intro (fun hk1 => ?_) (fun hk1 => ?_)
    · have hk1' : v.Kind = 1 := by simpa using hk1
      have hu := (uses_1 v.N ((max n least : Nat) : Int) cur (by omega)).front rfl (by simp [AV.scopeds, AV.inScope]) rfl (by rw [d3]; exact hsc _ _) (by rw [d3]; exact hsc _ _)
      rw [d3] at hu
      simp only [VKVal.cells, VKVal.width, VKVal.isAgg, VKVal.storable, avI, ↓OD, OA, Nat.reduceEqDiff, reduceCtorEq, Nat.reduceAdd, Nat.reduceLT, Nat.reduceLeDiff, reduceIte]
      rw [show (max (n : Int) (least : Int)) = ((max n least : Nat) : Int) by omega]
      refine callK_intro _ _ (hu [_, _]) ?_
      simp only [avI, hi1, ↓OD, OA, Nat.reduceEqDiff, reduceCtorEq, Nat.reduceAdd, Nat.reduceLT, Nat.reduceLeDiff, reduceIte]
      refine roundQ_intro (done ++ [v], r, useN cur v.N ((max n least : Nat) : Int)) ⟨by simp [d1], ?_, by rw [useN_len]; exact d3⟩ (by simp) (.forgetE 3 (by simp [avI]) rfl (by omega) (by simp) ?_ ?_)
      · simp only [useV, if_pos hk1'] at d2'; exact d2'
      · simp [AObj.inScope, AV.scopeds, AV.inScope, norI_scoped, hxs]
      · simp [AV.inScope, AV.scopeds, norefs_scopeds _ (norefsM (f := VKVal.av) (l := x.Vs) VKVal.noref), avI]
    · have hk1' : ¬ v.Kind = 1 := by simpa using hk1
      simp only [avI, hi1, ↓OD, OA, Nat.reduceEqDiff, reduceCtorEq, Nat.reduceAdd, Nat.reduceLT, Nat.reduceLeDiff, reduceIte]
      refine roundQ_intro (done ++ [v], r, cur) ⟨by simp [d1], ?_, d3⟩ (by simp) (.forgetE 3 (by simp [avI]) rfl (by omega) (by simp) ?_ ?_)
      · simp only [useV, if_neg hk1'] at d2'; exact d2'
      · simp [AObj.inScope, AV.scopeds, AV.inScope, norI_scoped, hxs]
      · simp [AV.inScope, AV.scopeds, norefs_scopeds _ (norefsM (f := VKVal.av) (l := x.Vs) VKVal.noref), avI]
  · have hr0 : rest = [] := by
      cases rest with
      | nil => rfl
      | cons v r => simp at hc hlen; omega
    subst hr0
    have hcur : cur = usesV ((max n least : Nat) : Int) last x.Vs := d2
    simp only [VKTerm.cells, VKTerm.width, VKTerm.isAgg, VKTerm.storable, avI, List.length_map, ↓OD, OA, Nat.reduceEqDiff, reduceCtorEq, Nat.reduceAdd, Nat.reduceLT, Nat.reduceLeDiff, reduceIte]
    generalize hlow : (if x.Kind = 9 then max least (mostF x.Kids n) else least) = low1 at hv
    refine loopK_intro (ι := List VKTerm × List VKTerm × List Int) (fun p => p.1 ++ p.2.1 = x.Kids ∧ VKTerm.usesL x.binds n least low1 p.1.length p.2.1 p.2.2 = x.uses n least last ∧ p.2.2.length = last.length)
      (fun p => envL [(1, avI n), (2, avI least), (3, .fn F.impl_Uses_1 [.ptr 0 1 0 0]), (4, .ptr 2 1 0 0), (32, .sl (x.Kids.map VKTerm.av)), (33, avI x.Kids.length), (34, avI p.1.length)])
      (fun p => [.live 23 1 [.row 1 last.length], .live 3 1 (p.2.2.map avI), .live 65 11 [x.av]]) (fun p => p.2.1.length) ([], x.Kids, cur) ⟨rfl, by rw [hv, ← hcur]; rfl, d3⟩ (.of_eq rfl rfl) ?_
    rintro ⟨done, rest, cur⟩ ⟨d1, d2, d3⟩
    simp only at d1 d2 d3
    simp only [avI, ↓OD, OA, Nat.reduceEqDiff, reduceCtorEq, Nat.reduceAdd, Nat.reduceLT, Nat.reduceLeDiff, reduceIte]
    have hlen : done.length + rest.length = x.Kids.length := by rw [← d1, List.length_append]
    refine condK_intro (fun hc => ?_) (fun hc => ?_)
    · cases rest with
      | nil => simp at hc hlen; omega
      | cons k r =>
      have hm : k ∈ x.Kids := by rw [← d1]; simp
      have hsm := le_sum VKTerm.wt hm
      have hlt : done.length < x.Kids.length := by simp at hlen; omega
      have hg : (x.Kids.map VKTerm.av).getD done.length .top = k.av := by rw [← d1, List.map_append, List.map_cons]; exact mid_get (by simp)
      have hkn := kidN_le x.binds r.length n
      have hks1 : VKTerm.ksL x.Kids = VKTerm.ksL done + (k.ks + VKTerm.ksL r) := by rw [← d1, ksL_append]; rfl
      have hi1 : IntKind.i64.wrap ((done.length : Int) + 1) = ((done ++ [k]).length : Int) := by rw [wrapA1 (by omega)]; simp
      simp only [Int.toNat_natCast, List.length_map, hg, VKTerm.width, VKTerm.isAgg, VKTerm.storable, VKTerm.cells, ↓OD, OA, Nat.reduceEqDiff, reduceCtorEq, Nat.reduceAdd, Nat.reduceLT, Nat.reduceLeDiff, reduceIte]
      refine ⟨by omega, by omega, ?_⟩
      by_cases h9 : x.Kind = 9
      · by_cases hi : done.length = 1
        · obtain ⟨k0, ks0, hk0⟩ := List.exists_cons_of_ne_nil (show x.Kids ≠ [] by rw [← d1]; simp)
          have hm0 : k0 ∈ x.Kids := by rw [hk0]; simp
          have hsm0 := le_sum VKTerm.wt hm0
          have hks0 : VKTerm.ksL x.Kids = k0.ks + VKTerm.ksL ks0 := by rw [hk0]; rfl
          have hmb := k0.most_le n
          have hg0 : (x.Kids.map VKTerm.av).getD 0 .top = k0.av := by rw [hk0]; rfl
          obtain ⟨L, hLL⟩ : ∃ L, L = max least (k0.most n) := ⟨_, rfl⟩
          have hL : lowK done.length low1 least = L := by
            rw [lowK, if_pos hi, ← hlow, if_pos h9, hLL, hk0]
            rfl
          have hd9 : decide (x.Kind = 9) = true := decide_eq_true h9
          have hd1 : decide ((done.length : Int) = 1) = true := decide_eq_true (by omega)
          have hmx : max (least : Int) ((k0.most n : Nat) : Int) = (L : Int) := by omega
          have he := (eachAt_own k (kidN x.binds r.length n) L cur (by omega) (by omega) (by omega) (by omega)).front rfl (by simp [AV.scopeds, AV.inScope, avI, noref_scoped _ (VKTerm.noref k)]) rfl (by rw [d3]; exact hsc _ _) (by rw [d3]; exact hsc _ _)
          rw [d3] at he
          simp only [hd9, hd1, hg0, VKTerm.cells, Int.toNat_zero, List.length_map, VKTerm.width, VKTerm.isAgg, VKTerm.storable, avI, ↓OD, OA, Nat.reduceEqDiff, reduceCtorEq, Nat.reduceAdd, Nat.reduceLT, Nat.reduceLeDiff, reduceIte]
          refine ⟨by omega, by omega, ?_⟩
          refine callK_intro _ _ ((impl_greatestScope_c k0 n (by omega) (by omega)).any (by simp [AV.norefs, AV.noref, VKTerm.noref]) rfl _) ?_
          simp only [avI, hmx, ↓OD, OA, Nat.reduceEqDiff, reduceCtorEq, Nat.reduceAdd, Nat.reduceLT, Nat.reduceLeDiff, reduceIte]
          refine drawK_intro ?_
          simp only [VKTerm.width, VKTerm.isAgg, VKTerm.storable, avI, ↓OD, OA, Nat.reduceEqDiff, reduceCtorEq, Nat.reduceAdd, Nat.reduceLT, Nat.reduceLeDiff, reduceIte]
          refine qcallK_intro _ (impl_homeScope_c x done.length r.length n hb (by simp at hlen; omega) (by omega)) (by simp [AV.norefs, AV.noref, VKTerm.noref]) ?_
          simp only [VKTerm.width, VKTerm.isAgg, VKTerm.storable, avI, ↓OD, OA, Nat.reduceEqDiff, reduceCtorEq, Nat.reduceAdd, Nat.reduceLT, Nat.reduceLeDiff, reduceIte]
          refine callK_intro _ _ (he [_, _]) ?_
          simp only [avI, ↓OD, OA, Nat.reduceEqDiff, reduceCtorEq, Nat.reduceAdd, Nat.reduceLT, Nat.reduceLeDiff, reduceIte]
          refine ⟨by kernel_rfl, ?_⟩
          simp only [hi1, avI, ↓OD, OA, Nat.reduceEqDiff, reduceCtorEq, Nat.reduceAdd, Nat.reduceLT, Nat.reduceLeDiff, reduceIte]
          refine roundQ_intro (done ++ [k], r, k.uses (kidN x.binds r.length n) L cur) ⟨by simp [d1], ?_, by rw [VKTerm.uses_len]; exact d3⟩ (by simp) (.forgetE 3 (by simp [avI]) rfl (by omega) (by simp) ?_ ?_)
          · rw [VKTerm.usesL, hL] at d2
            simpa using d2
          · simp [AObj.inScope, AV.scopeds, AV.inScope, norI_scoped, hxs]
          · simp [AV.inScope, AV.scopeds, norefs_scopeds _ (norefsM (f := VKTerm.av) (l := x.Kids) VKTerm.noref), avI]
        · have hL : lowK done.length low1 least = least := by rw [lowK, if_neg hi]
          have hd9 : decide (x.Kind = 9) = true := decide_eq_true h9
          have hd1 : decide ((done.length : Int) = 1) = false := decide_eq_false (by omega)
          have he := (eachAt_own k (kidN x.binds r.length n) least cur (by omega) (by omega) (by omega) (by omega)).front rfl (by simp [AV.scopeds, AV.inScope, avI, noref_scoped _ (VKTerm.noref k)]) rfl (by rw [d3]; exact hsc _ _) (by rw [d3]; exact hsc _ _)
          rw [d3] at he
          simp only [hd9, hd1, VKTerm.width, VKTerm.isAgg, VKTerm.storable, avI, ↓OD, OA, Nat.reduceEqDiff, reduceCtorEq, Nat.reduceAdd, Nat.reduceLT, Nat.reduceLeDiff, reduceIte]
          refine drawK_intro ?_
          simp only [VKTerm.width, VKTerm.isAgg, VKTerm.storable, avI, ↓OD, OA, Nat.reduceEqDiff, reduceCtorEq, Nat.reduceAdd, Nat.reduceLT, Nat.reduceLeDiff, reduceIte]
          refine qcallK_intro _ (impl_homeScope_c x done.length r.length n hb (by simp at hlen; omega) (by omega)) (by simp [AV.norefs, AV.noref, VKTerm.noref]) ?_
          simp only [VKTerm.width, VKTerm.isAgg, VKTerm.storable, avI, ↓OD, OA, Nat.reduceEqDiff, reduceCtorEq, Nat.reduceAdd, Nat.reduceLT, Nat.reduceLeDiff, reduceIte]
          refine callK_intro _ _ (he [_, _]) ?_
          simp only [avI, ↓OD, OA, Nat.reduceEqDiff, reduceCtorEq, Nat.reduceAdd, Nat.reduceLT, Nat.reduceLeDiff, reduceIte]
          refine ⟨by kernel_rfl, ?_⟩
          simp only [hi1, avI, ↓OD, OA, Nat.reduceEqDiff, reduceCtorEq, Nat.reduceAdd, Nat.reduceLT, Nat.reduceLeDiff, reduceIte]
          refine roundQ_intro (done ++ [k], r, k.uses (kidN x.binds r.length n) least cur) ⟨by simp [d1], ?_, by rw [VKTerm.uses_len]; exact d3⟩ (by simp) (.forgetE 3 (by simp [avI]) rfl (by omega) (by simp) ?_ ?_)
          · rw [VKTerm.usesL, hL] at d2
            simpa using d2
          · simp [AObj.inScope, AV.scopeds, AV.inScope, norI_scoped, hxs]
          · simp [AV.inScope, AV.scopeds, norefs_scopeds _ (norefsM (f := VKTerm.av) (l := x.Kids) VKTerm.noref), avI]
      · have hL : lowK done.length low1 least = least := by
          rw [lowK, ← hlow, if_neg h9]; split <;> rfl
        have hd9 : decide (x.Kind = 9) = false := decide_eq_false h9
        have he := (eachAt_own k (kidN x.binds r.length n) least cur (by omega) (by omega) (by omega) (by omega)).front rfl (by simp [AV.scopeds, AV.inScope, avI, noref_scoped _ (VKTerm.noref k)]) rfl (by rw [d3]; exact hsc _ _) (by rw [d3]; exact hsc _ _)
        rw [d3] at he
        simp only [hd9, VKTerm.width, VKTerm.isAgg, VKTerm.storable, avI, ↓OD, OA, Nat.reduceEqDiff, reduceCtorEq, Nat.reduceAdd, Nat.reduceLT, Nat.reduceLeDiff, reduceIte]
        refine drawK_intro ?_
        simp only [VKTerm.width, VKTerm.isAgg, VKTerm.storable, avI, ↓OD, OA, Nat.reduceEqDiff, reduceCtorEq, Nat.reduceAdd, Nat.reduceLT, Nat.reduceLeDiff, reduceIte]
        refine qcallK_intro _ (impl_homeScope_c x done.length r.length n hb (by simp at hlen; omega) (by omega)) (by simp [AV.norefs, AV.noref, VKTerm.noref]) ?_
        simp only [VKTerm.width, VKTerm.isAgg, VKTerm.storable, avI, ↓OD, OA, Nat.reduceEqDiff, reduceCtorEq, Nat.reduceAdd, Nat.reduceLT, Nat.reduceLeDiff, reduceIte]
        refine callK_intro _ _ (he [_, _]) ?_
        simp only [avI, ↓OD, OA, Nat.reduceEqDiff, reduceCtorEq, Nat.reduceAdd, Nat.reduceLT, Nat.reduceLeDiff, reduceIte]
        refine ⟨by kernel_rfl, ?_⟩
        simp only [hi1, avI, ↓OD, OA, Nat.reduceEqDiff, reduceCtorEq, Nat.reduceAdd, Nat.reduceLT, Nat.reduceLeDiff, reduceIte]
        refine roundQ_intro (done ++ [k], r, k.uses (kidN x.binds r.length n) least cur) ⟨by simp [d1], ?_, by rw [VKTerm.uses_len]; exact d3⟩ (by simp) (.forgetE 3 (by simp [avI]) rfl (by omega) (by simp) ?_ ?_)
        · rw [VKTerm.usesL, hL] at d2
          simpa using d2
        · simp [AObj.inScope, AV.scopeds, AV.inScope, norI_scoped, hxs]
        · simp [AV.inScope, AV.scopeds, norefs_scopeds _ (norefsM (f := VKTerm.av) (l := x.Kids) VKTerm.noref), avI]
    · have hr0 : rest = [] := by
        cases rest with
        | nil => rfl
        | cons v r => simp at hc hlen; omega
      subst hr0
      simp only [↓OD, OA, Nat.reduceEqDiff, reduceCtorEq, Nat.reduceAdd, Nat.reduceLT, Nat.reduceLeDiff, reduceIte]
      refine ret_unit (.inr rfl) ?_ (by simp) (hsc _ _)
      rw [← d2]
      rfl
termination_by SizeOf.sizeOf x
decreasing_by all_goals exact VKTerm.Kids_lt hm
theorem impl_Uses_f (x : VKTerm) (first : Int) (hb : x.wt ≤ 1048576) : FCon Try.prog F.impl_Uses [x.av, avI first] (!(inB first 0 9000 && decide (x.ks ≤ 9000))) 3 1
    ((if inB first 0 9000 && decide (x.ks ≤ 9000) then x.uses first.toNat 0 (List.replicate (x.great first.toNat) (-1)) else []).map avI) := by
  have hn1 : AV.norefs [x.av] = true := by simp [AV.norefs, VKTerm.noref]
  unfold FCon
  refine con_of_wp A.impl_Uses_ok rfl ?_
  simp only [A.impl_Uses, VKTerm.width, VKTerm.isAgg, VKTerm.storable, avI, ↓OD, OA, Nat.reduceEqDiff, reduceCtorEq, Nat.reduceAdd, Nat.reduceLT, Nat.reduceLeDiff, reduceIte]
  refine callK_intro _ _ ((impl_within_c first 0 9000).any rfl rfl _) ?_
  by_cases h1 : inB first 0 9000 = true
  · simp only [h1, VKTerm.width, VKTerm.isAgg, VKTerm.storable, avI, ↓OD, OA, Nat.reduceEqDiff, reduceCtorEq, Nat.reduceAdd, Nat.reduceLT, Nat.reduceLeDiff, reduceIte]
    refine callK_intro _ _ ((impl_KSize_c x hb).any hn1 rfl _) ?_
    by_cases h2 : x.ks ≤ 9000
    · have h3 : decide ((9000 : Int) < (x.ks : Int)) = false := decide_eq_false (by omega)
      have h4 : decide (x.ks ≤ 9000) = true := decide_eq_true h2
      have h0 := h1
      simp only [inB, Bool.and_eq_true, decide_eq_true_eq] at h0
      obtain ⟨n, rfl⟩ : ∃ n : Nat, first = n := ⟨first.toNat, by omega⟩
      have hgm := x.great_max n
      have hbl := x.bound_le n
      simp only [h3, h4, VKTerm.width, VKTerm.isAgg, VKTerm.storable, avI, ↓OD, OA, Nat.reduceEqDiff, reduceCtorEq, Nat.reduceAdd, Nat.reduceLT, Nat.reduceLeDiff, reduceIte]
      refine callK_intro _ _ ((impl_greatestBound_c x n hb (by omega)).any (by simp [AV.norefs, AV.noref, VKTerm.noref]) rfl _) ?_
      simp only [avI, Int.toNat_natCast, ↓OD, OA, Nat.reduceEqDiff, reduceCtorEq, Nat.reduceAdd, Nat.reduceLT, Nat.reduceLeDiff, reduceIte]
      refine ⟨by omega, by omega, by omega, by omega, by simp, ?_⟩
      generalize hg : x.great n = g at *
      have hge : ∀ i, i ≤ g → (List.replicate i (-1 : Int) ++ List.replicate (g - i) 0).length = g := fun i hi => by simp; omega
      refine loopK_intro (ι := Nat) (fun i => i ≤ g) (fun i => envL [(1, avI n), (2, .ptr 0 1 0 0), (5, .ptr 2 1 0 0), (20, avI g), (21, avI i)])
        (fun i => [.live 65 11 [x.av], .live 3 1 ((List.replicate i (-1 : Int) ++ List.replicate (g - i) 0).map avI), .live 23 1 [.row 1 g]]) (fun i => g - i) 0 (Nat.zero_le _) (.of_eq rfl (by simp [avI])) ?_
      intro i hi
      simp only [avI, ↓OD, OA, Nat.reduceEqDiff, reduceCtorEq, Nat.reduceAdd, Nat.reduceLT, Nat.reduceLeDiff, reduceIte]
      refine condK_intro (fun hc => ?_) (fun hc => ?_)
      · have hlt : i < g := by simpa using hc
        have hgi : ((List.replicate i (-1 : Int) ++ List.replicate (g - i) 0).map avI).getD i .top = avI 0 := by
          obtain ⟨m, hm⟩ : ∃ m, g - i = m + 1 := ⟨g - i - 1, by omega⟩
          rw [hm, List.replicate_succ, List.map_append, List.map_cons]
          exact mid_get (by simp)
        have hset : ((List.replicate i (-1 : Int) ++ List.replicate (g - i) 0).map avI).set i (avI (-1)) = (List.replicate (i + 1) (-1 : Int) ++ List.replicate (g - (i + 1)) 0).map avI := by
          obtain ⟨m, hm⟩ : ∃ m, g - i = m + 1 := ⟨g - i - 1, by omega⟩
          rw [hm, show g - (i + 1) = m by omega, List.replicate_succ, List.map_append, List.map_cons, mid_set (by simp), List.replicate_succ', List.map_append]
          simp
        simp only [avI] at hgi hset
        simp only [Int.toNat_natCast, List.length_map, hge i hi, hgi, avI, ↓OD, OA, Nat.reduceEqDiff, reduceCtorEq, Nat.reduceAdd, Nat.reduceLT, Nat.reduceLeDiff, reduceIte]
        repeat (refine And.intro (by omega) ?_)
        rw [wrapA1 (by omega), hset]
        exact roundQ_intro (i + 1) (by omega) (by omega) (.of_eq rfl rfl)
      · have hge2 : i = g := by have : ¬ i < g := by simpa using hc
                                omega
        subst hge2
        have hfr := (eachAt_own x n 0 (List.replicate i (-1)) hb (by omega) (by omega) (by simp; omega)).frame (O := [.live 65 11 [x.av], .live 3 1 ((List.replicate i (-1 : Int)).map avI), .live 23 1 [.row 1 i]])
          (O'' := [.live 65 11 [x.av], .live 3 1 ((x.uses n 0 (List.replicate i (-1))).map avI), .live 23 1 [.row 1 i]]) (fun m => if m = 0 then 2 else if m = 1 then 1 else m + 1)
          (by intro m hm; simp at hm; split <;> (try split) <;> simp <;> omega) (by intro m hm; match m, hm with | 0, _ => simp [AObj.ren, AV.ren] | 1, _ => simp [AObj.ren, avI, AV.ren]) (by intro m m' hm hm' he; simp at hm hm'; split at he <;> split at he <;> (try split at he) <;> (try split at he) <;> omega)
          (by intro m hm; simp at hm; simp; split <;> (try split) <;> omega) (fun a ha => by simp at ha; rcases ha with rfl | rfl | rfl | rfl <;> first | exact noref_scoped _ (VKTerm.noref x) | rfl) (fun ob ho => by rcases List.mem_cons.1 ho with rfl | ho; rfl; rcases List.mem_cons.1 ho with rfl | ho; exact norI_scoped _ _; cases ho)
          rfl (by intro m hm; match m, hm with | 0, _ => simp [AObj.ren, AV.ren] | 1, _ => simp [AObj.ren, avI, AV.ren]) (by intro m hm hno; match m, hm with | 0, _ => rfl | 1, _ => exact (hno 1 (by simp) rfl).elim | 2, _ => exact (hno 0 (by simp) rfl).elim)
        have hxr : ∀ s : Nat → Nat, x.av.ren s = x.av := fun s => noref_ren _ (VKTerm.noref x)
        simp only [List.map_cons, List.map_nil, hxr, avI, AV.ren, rens_eq, if_true] at hfr
        simp only [Nat.sub_self, List.replicate_zero, List.append_nil, VKTerm.width, VKTerm.isAgg, VKTerm.storable, avI, ↓OD, OA, Nat.reduceEqDiff, reduceCtorEq, Nat.reduceAdd, Nat.reduceLT, Nat.reduceLeDiff, reduceIte]
        refine callK_intro _ _ hfr ?_
        simp only [avI, ↓OD, OA, Nat.reduceEqDiff, reduceCtorEq, Nat.reduceAdd, Nat.reduceLT, Nat.reduceLeDiff, reduceIte]
        rw [show (List.map avI (x.uses n 0 (List.replicate i (-1)))).length = i by rw [List.length_map, VKTerm.uses_len, List.length_replicate], show rowOb false 3 1 (List.map avI (x.uses n 0 (List.replicate i (-1)))) = .live 3 1 (List.map avI (x.uses n 0 (List.replicate i (-1)))) by simp [rowOb]]
        exact ret_row (k := 1) (.inl rfl) rfl rfl (norIs _)
    · have h3 : decide ((9000 : Int) < (x.ks : Int)) = true := decide_eq_true (by omega)
      have h4 : decide (x.ks ≤ 9000) = false := decide_eq_false h2
      simp only [h3, h4, avI, ↓OD, OA, Nat.reduceEqDiff, reduceCtorEq, Nat.reduceAdd, Nat.reduceLT, Nat.reduceLeDiff, reduceIte]
      exact ret_nil (.inl rfl) (by simp only [↓OD, OA, Nat.reduceEqDiff, reduceCtorEq, Nat.reduceAdd, Nat.reduceLT, Nat.reduceLeDiff, reduceIte])
  · have h1' : inB first 0 9000 = false := by simpa using h1
    simp only [h1', avI, ↓OD, OA, Nat.reduceEqDiff, reduceCtorEq, Nat.reduceAdd, Nat.reduceLT, Nat.reduceLeDiff, reduceIte]
    exact ret_nil (.inl rfl) (by simp only [↓OD, OA, Nat.reduceEqDiff, reduceCtorEq, Nat.reduceAdd, Nat.reduceLT, Nat.reduceLeDiff, reduceIte])
end Go.Proofs.Ab
