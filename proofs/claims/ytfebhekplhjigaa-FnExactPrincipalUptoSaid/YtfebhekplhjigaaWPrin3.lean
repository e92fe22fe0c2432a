/-
  Principal of the reference, whole.
-/
import Derived.Test.YtfebhekplhjigaaWPrin2
set_option linter.unusedVariables false
set_option linter.unusedSimpArgs false
set_option linter.defProp false
namespace Go.Proofs.Ab
open Go.Ab
set_option maxRecDepth 100000
set_option maxHeartbeats 4000000
theorem fitsO_norefs (names : List Int) (es : List (Int × VTy)) : (fitsO names es).all AObj.norefs = true := by
  simp only [fitsO, List.all_cons, List.all_nil, AObj.norefs, putA_norefs, knownA_norefs, Bool.and_true]
def prin0 : List AOper := [
     ⟨none, (some 32), .load (some 4) (.t 6)⟩,
     ⟨none, (some 33), .load (some 4) (.t 3)⟩,
     ⟨none, (some 34), .mov (.t 5)⟩,
     ⟨none, (some 35), .lenL (.t 34)⟩,
     ⟨none, (some 36), .mkF 29 4 56 zTy (.t 35) (.t 35)⟩,
     ⟨none, (some 37), .mov (.t 5)⟩,
     ⟨none, (some 38), .lenL (.t 37)⟩,
     ⟨none, (some 39), .mkF 4 1 1 (.v (.bool false)) (.t 38) (.t 38)⟩,
     ⟨none, (some 40), .call F.spec_l7Fits [(.t 32), (.t 33), (.t 36), (.t 39)]⟩,
     ⟨none, (some 4), .mov (.t 40)⟩]
def prin1 : List AOper := [
     ⟨none, (some 32), .load (some 4) (.t 6)⟩,
     ⟨none, (some 33), .load (some 4) (.t 3)⟩,
     ⟨none, (some 34), .mov (.t 5)⟩,
     ⟨none, (some 35), .lenL (.t 34)⟩,
     ⟨none, (some 36), .mkAt 3 29 4 56 zTy (.t 35) (.t 35)⟩,
     ⟨none, (some 37), .mov (.t 5)⟩,
     ⟨none, (some 38), .lenL (.t 37)⟩,
     ⟨none, (some 39), .mk 4 1 1 (.v (.bool false)) (.t 38) (.t 38)⟩,
     ⟨none, (some 40), .call F.spec_l7Fits [(.t 32), (.t 33), (.t 36), (.t 39)]⟩,
     ⟨none, (some 4), .mov (.t 40)⟩]
theorem spec_Principal_c (x y : VTy) (hx : x.wt ≤ 1048576) (hy : y.wt ≤ 1048576) : PCon Try.prog F.spec_Principal [x.av, y.av] (.v (.bool (princM x y))) := by
  have hn : ∀ (z : VTy) (k : Int), AV.norefs [z.av, .v (.int .i64 k)] = true := fun z k => by simp [AV.norefs, AV.noref, VTy.noref]
  have hn1 : ∀ z : VTy, AV.norefs [z.av] = true := fun z => by simp [AV.norefs, VTy.noref]
  have fx := spec_Free_f x 11 hx
  have fy := spec_Free_f y 11 hy
  have f9 := spec_Free_f x 9 hx
  refine con_of_wp A.spec_Principal_ok rfl ?_
  simp only [A.spec_Principal, VTy.width, VTy.isAgg, VTy.storable, avI, ↓OD, OA, Nat.reduceEqDiff, reduceCtorEq, Nat.reduceAdd, Nat.reduceLT, Nat.reduceLeDiff, reduceIte]
  refine callK_intro _ _ ((spec_TyOk_c x hx).any (hn1 x) rfl _) ?_
  by_cases h1 : x.okM = true
  rotate_left
  · have h1 : x.okM = false := by simpa using h1
    have hm : princM x y = false := by simp [princM, h1]
    rw [hm]
    simp only [h1, VTy.width, VTy.isAgg, VTy.storable, avI, ↓OD, OA, Nat.reduceEqDiff, reduceCtorEq, Nat.reduceAdd, Nat.reduceLT, Nat.reduceLeDiff, reduceIte]
    exact ret_keep (.inl rfl) rfl rfl (by simp) rfl
  simp only [h1, VTy.width, VTy.isAgg, VTy.storable, avI, ↓OD, OA, Nat.reduceEqDiff, reduceCtorEq, Nat.reduceAdd, Nat.reduceLT, Nat.reduceLeDiff, reduceIte]
  refine callK_intro _ _ ((spec_TyOk_c y hy).any (hn1 y) rfl _) ?_
  by_cases h2 : y.okM = true
  rotate_left
  · have h2 : y.okM = false := by simpa using h2
    have hm : princM x y = false := by simp [princM, h2]
    rw [hm]
    simp only [h2, VTy.width, VTy.isAgg, VTy.storable, avI, ↓OD, OA, Nat.reduceEqDiff, reduceCtorEq, Nat.reduceAdd, Nat.reduceLT, Nat.reduceLeDiff, reduceIte]
    exact ret_keep (.inl rfl) rfl rfl (by simp) rfl
  have i11 : inB 11 9 11 = true := by decide
  have i9 : inB 9 9 11 = true := by decide
  simp only [h1, h2, i11, i9, Bool.and_self, if_true] at fx fy f9
  simp only [h2, VTy.width, VTy.isAgg, VTy.storable, avI, ↓OD, OA, Nat.reduceEqDiff, reduceCtorEq, Nat.reduceAdd, Nat.reduceLT, Nat.reduceLeDiff, reduceIte]
  refine callK_intro _ _ ((fx.plain (norI _)).any (hn x 11) (norI _) _) ?_
  by_cases h3 : x.frees 11 = []
  rotate_left
  · have hm : princM x y = false := by simp [princM, h3]
    have d3 : decide ((0 : Int) < ((addAll [] (x.frees 11)).length : Int)) = true := decide_eq_true (by
      have : (addAll [] (x.frees 11)).length ≠ 0 := fun h => h3 (addAll_empty.1 h)
      omega)
    rw [hm]
    simp only [List.length_map, d3, VTy.width, VTy.isAgg, VTy.storable, avI, ↓OD, OA, Nat.reduceEqDiff, reduceCtorEq, Nat.reduceAdd, Nat.reduceLT, Nat.reduceLeDiff, reduceIte]
    exact ret_keep (.inl rfl) rfl rfl (by simp) rfl
  have d3 : decide ((0 : Int) < ((addAll [] (x.frees 11)).length : Int)) = false := by rw [addAll_empty.2 h3]; rfl
  simp only [List.length_map, d3, VTy.width, VTy.isAgg, VTy.storable, avI, ↓OD, OA, Nat.reduceEqDiff, reduceCtorEq, Nat.reduceAdd, Nat.reduceLT, Nat.reduceLeDiff, reduceIte]
  refine callK_intro _ _ ((fy.plain (norI _)).any (hn y 11) (norI _) _) ?_
  by_cases h4 : y.frees 11 = []
  rotate_left
  · have hm : princM x y = false := by simp [princM, h4]
    have d4 : decide ((0 : Int) < ((addAll [] (y.frees 11)).length : Int)) = true := decide_eq_true (by
      have : (addAll [] (y.frees 11)).length ≠ 0 := fun h => h4 (addAll_empty.1 h)
      omega)
    rw [hm]
    simp only [List.length_map, d4, VTy.width, VTy.isAgg, VTy.storable, avI, ↓OD, OA, Nat.reduceEqDiff, reduceCtorEq, Nat.reduceAdd, Nat.reduceLT, Nat.reduceLeDiff, reduceIte]
    exact ret_keep (.inl rfl) rfl rfl (by simp) rfl
  have d4 : decide ((0 : Int) < ((addAll [] (y.frees 11)).length : Int)) = false := by rw [addAll_empty.2 h4]; rfl
  have hm : princM x y = (x.fit y []).1 := by simp [princM, h1, h2, h3, h4]
  rw [hm]
  simp only [List.length_map, d4, VTy.width, VTy.isAgg, VTy.storable, avI, ↓OD, OA, Nat.reduceEqDiff, reduceCtorEq, Nat.reduceAdd, Nat.reduceLT, Nat.reduceLeDiff, reduceIte]
  refine callK_intro _ _ ((f9.plain (norI _)).any (hn x 9) (norI _) _) ?_
  obtain ⟨names, hnames⟩ : ∃ l, l = addAll [] (x.frees 9) := ⟨_, rfl⟩
  have hlen : names.length ≤ 4194304 := by
    have h1 := addAll_len (x.frees 9) []
    have h2 := x.frees_len 9
    rw [← hnames] at h1
    simp only [List.length_nil] at h1
    omega
  have hnd : names.Nodup := by rw [hnames]; exact addAll_nodup _ _ (by simp)
  have hin : ∀ n ∈ x.frees 9, n ∈ names := fun n hn => by rw [hnames]; exact (addAll_mem _ _ _).2 (.inr hn)
  rw [← hnames]
  simp only [VTy.width, VTy.isAgg, VTy.storable, avI, ↓OD, OA, Nat.reduceEqDiff, reduceCtorEq, Nat.reduceAdd, Nat.reduceLT, Nat.reduceLeDiff, reduceIte]
  refine callK_intro _ _ ((spec_l7Small_c x names hx hlen).any (by simp only [AV.norefs, AV.noref, VTy.noref, Bool.and_true, Bool.true_and]; exact norI _) (VTy.noref _) _) ?_
  simp only [VTy.width, VTy.isAgg, VTy.storable, avI, ↓OD, OA, Nat.reduceEqDiff, reduceCtorEq, Nat.reduceAdd, Nat.reduceLT, Nat.reduceLeDiff, reduceIte]
  repeat (refine And.intro (by decide) ?_)
  try simp only [VTy.width, VTy.isAgg, VTy.storable, avI, ↓OD, OA, Nat.reduceEqDiff, reduceCtorEq, Nat.reduceAdd, Nat.reduceLT, Nat.reduceLeDiff, reduceIte]
  by_cases h0 : names = []
  · have hno : x.frees 9 = [] := addAll_empty.1 (by rw [← hnames, h0]; rfl)
    subst h0
    refine weak_intro _ _ (.refl _ _ _) ?_
    simp only [VTy.width, VTy.isAgg, VTy.storable, avI, ↓OD, OA, Nat.reduceEqDiff, reduceCtorEq, Nat.reduceAdd, Nat.reduceLT, Nat.reduceLeDiff, reduceIte]
    refine drawK_as (al := prin0) rfl ?_
    simp only [prin0, List.length_map, VTy.width, VTy.isAgg, VTy.storable, avI, zTy, ↓OD, OA, Nat.reduceEqDiff, reduceCtorEq, Nat.reduceAdd, Nat.reduceLT, Nat.reduceLeDiff, reduceIte]
    refine ⟨by decide, by decide, by decide, by decide, by decide, by decide, by decide, by decide, ?_⟩
    have hcall := (spec_l7Fits_no x y hx hy hno).any (by simp [AV.norefs, AV.noref, VTy.noref]) rfl [.live 29 4 [x.av], .live 29 4 [y.av], .live 29 4 [(x.small []).av]]
    rw [VTy.small_nil]
    rw [VTy.small_nil] at hcall
    refine callK_intro _ _ hcall ?_
    simp only [VTy.width, VTy.isAgg, VTy.storable, avI, ↓OD, OA, Nat.reduceEqDiff, reduceCtorEq, Nat.reduceAdd, Nat.reduceLT, Nat.reduceLeDiff, reduceIte]
    refine ⟨by kernel_rfl, ?_⟩
    exact ret_keep (.inl rfl) rfl rfl (by simp) rfl
  · have hpos : 0 < names.length := List.length_pos_iff.2 h0
    refine weak_intro _ _ (.nilpad 29 4) ?_
    simp only [List.cons_append, List.nil_append, VTy.width, VTy.isAgg, VTy.storable, avI, ↓OD, OA, Nat.reduceEqDiff, reduceCtorEq, Nat.reduceAdd, Nat.reduceLT, Nat.reduceLeDiff, reduceIte]
    refine drawK_as (al := prin1) rfl ?_
    simp only [prin1, List.length_map, Int.toNat_natCast, VTy.width, VTy.isAgg, VTy.storable, avI, ↓OD, OA, Nat.reduceEqDiff, reduceCtorEq, Nat.reduceAdd, Nat.reduceLT, Nat.reduceLeDiff, reduceIte]
    refine ⟨by omega, by omega, by omega, by omega, rfl, by omega, by omega, by omega, by omega, ?_⟩
    have hcall := (spec_l7Fits_own names hnd hlen x y [] hx hy (fun p hp => by simp at hp) hin).back rfl (by simp [AV.scopeds, AV.inScope, noref_scoped _ (VTy.noref _), fitsO]) rfl (fitsO_norefs _ _) (fitsO_norefs _ _) [.live 29 4 [x.av], .live 29 4 [y.av], .live 29 4 [(x.small names).av]]
    simp only [fitsO, List.cons_append, List.nil_append, putA_nil, knownA_nil, List.map_cons, List.map_nil, List.length_cons, List.length_nil, noref_ren _ (VTy.noref _), AV.ren, Nat.reduceAdd] at hcall
    refine callK_intro _ _ hcall ?_
    simp only [VTy.width, VTy.isAgg, VTy.storable, avI, ↓OD, OA, Nat.reduceEqDiff, reduceCtorEq, Nat.reduceAdd, Nat.reduceLT, Nat.reduceLeDiff, reduceIte]
    refine ⟨by kernel_rfl, ?_⟩
    exact ret_keep (.inl rfl) rfl rfl (by simp) rfl
end Go.Proofs.Ab
