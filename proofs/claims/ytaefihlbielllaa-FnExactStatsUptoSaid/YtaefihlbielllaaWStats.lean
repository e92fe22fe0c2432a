/-
  Stats of the reference and of the program: how many instructions of each sort.
-/
import Derived.Test.YtaefihlbielllaaGM
import Derived.Test.YtaefihlbielllaaCSmall
import Derived.Test.YtaefihlbielllaaH
import Derived.Test.YtaefihlbielllaaSC
set_option linter.unusedVariables false
set_option linter.unusedSimpArgs false
set_option linter.defProp false
namespace Go.Ab
set_option maxRecDepth 100000
/-- the sort of an instruction -/
def sortI (x : VInstr) : Nat := if 1 ≤ x.Op ∧ x.Op ≤ 15 then x.Op.toNat else 0
theorem sortI_lt (x : VInstr) : sortI x < 16 := by unfold sortI; split <;> omega
def bump (t : List Int) (k : Nat) : List Int := t.set k (IntKind.i64.wrap (t.getD k 0 + 1))
def statsI (l : List VInstr) : List Int := l.foldl (fun t x => bump t (sortI x)) [0, 0, 0, 0, 0, 0, 0, 0, 0, 0, 0, 0, 0, 0, 0, 0]
theorem bump_len (t : List Int) (k : Nat) : (bump t k).length = t.length := by simp [bump]
theorem stats_len (l : List VInstr) : (statsI l).length = 16 := by
  unfold statsI
  have : ∀ (l : List VInstr) (t : List Int), (l.foldl (fun t x => bump t (sortI x)) t).length = t.length := by
    intro l
    induction l with
    | nil => intro t; rfl
    | cons x l ih => intro t; rw [List.foldl_cons, ih, bump_len]
  rw [this]; rfl
theorem stats_snoc (l : List VInstr) (i : Nat) (h : i < l.length) : statsI (l.take (i + 1)) = bump (statsI (l.take i)) (sortI l[i]) := by
  rw [List.take_add_one, List.getElem?_eq_getElem h]
  simp only [statsI, Option.toList_some, List.foldl_append, List.foldl_cons, List.foldl_nil]
theorem upd_arr {t : List Int} {k : Nat} (h2 : 2 ≤ t.length) (h : k < t.length) (x : Int) : upd (.agg (t.map avI)) k (.v (.int .i64 x)) = .agg ((t.set k x).map avI) := by
  match t, h2 with
  | a :: b :: t, _ =>
    rw [List.map_cons, List.map_cons, upd_v _ (by simpa using h), List.map_set]
    rfl
theorem avI_getD' (l : List Int) (i : Nat) (h : i < l.length) : (l.map avI).getD i .top = avI (l.getD i 0) := by simp [List.getD, h]
theorem norA (t : List Int) : (AV.agg (t.map avI)).noref = true := by
  simp only [AV.noref]
  exact norefsM (f := avI) fun _ => rfl
theorem stoA (t : List Int) : (AV.agg (t.map avI)).storable = true := by simp [AV.storable, AV.cells, AV.isCell, avI]
theorem stoB (t : List Int) : (t.map avI).all AV.isCell = true := by simp [AV.isCell, avI]
end Go.Ab
namespace Go.Proofs.Ab
open Go.Ab
set_option maxRecDepth 100000
set_option maxHeartbeats 4000000
theorem spec_Stats_c (c : VCode) (hb : c.wt ≤ 1048576) : PCon Try.prog F.spec_Stats [c.av] (.agg ((statsI c.Instrs).map avI)) := by
  have hw := c.wt_eq
  have hlen : c.Instrs.length ≤ 1048576 := by omega
  refine con_of_wp A.spec_Stats_ok rfl ?_
  simp only [A.spec_Stats, VCode.width, VCode.storable, VCode.isAgg, VCode.cells, VInstr.width, VInstr.storable, VInstr.isAgg, VInstr.cells, List.length_map, Int.toNat_natCast, Nat.mul_one, avI, ↓OD, OA, Nat.reduceEqDiff, reduceCtorEq, Nat.reduceAdd, Nat.reduceLT, Nat.reduceLeDiff, reduceIte]
  refine loopK_intro (ι := Nat) (fun i => i ≤ c.Instrs.length) (fun i => envL [(1, .ptr 0 1 0 0), (2, .ptr 1 1 0 0), (3, .ptr 2 1 0 0), (4, .v (.int .i64 i))])
    (fun i => [.live 31 2 [c.av], .live 27 16 [.agg ((statsI []).map avI)], .live 27 16 [.agg ((statsI (c.Instrs.take i)).map avI)]]) (fun i => c.Instrs.length - i) 0 (Nat.zero_le _) (.of_eq rfl rfl) ?_
  intro i hi
  simp only [VCode.width, VCode.storable, VCode.isAgg, VCode.cells, VInstr.width, VInstr.storable, VInstr.isAgg, VInstr.cells, List.length_map, Int.toNat_natCast, Nat.mul_one, avI, ↓OD, OA, Nat.reduceEqDiff, reduceCtorEq, Nat.reduceAdd, Nat.reduceLT, Nat.reduceLeDiff, reduceIte]
  refine condK_intro (fun hc => ?_) (fun hc => ?_)
  · have hlt : i < c.Instrs.length := by simpa using hc
    have hg : (c.Instrs.map VInstr.av).getD i .top = (c.Instrs[i]).av := by simp [List.getD, hlt]
    have hi1 : IntKind.i64.wrap ((i : Int) + 1) = ((i + 1 : Nat) : Int) := wrapA1 (by omega)
    simp only [hg, VCode.width, VCode.storable, VCode.isAgg, VCode.cells, VInstr.width, VInstr.storable, VInstr.isAgg, VInstr.cells, List.length_map, Int.toNat_natCast, Nat.mul_one, avI, ↓OD, OA, Nat.reduceEqDiff, reduceCtorEq, Nat.reduceAdd, Nat.reduceLT, Nat.reduceLeDiff, reduceIte]
    refine ⟨by omega, by omega, ?_⟩
    refine callK_intro _ _ ((spec_l1In_c _ 1 15).any rfl rfl _) ?_
    have hst := stats_snoc c.Instrs i hlt
    have hsl := stats_len (c.Instrs.take i)
    have hso := sortI_lt c.Instrs[i]
    have hn : ∀ k x, k = sortI c.Instrs[i] → x = IntKind.i64.wrap ((statsI (c.Instrs.take i)).getD k 0 + 1) → AV.agg (((statsI (c.Instrs.take i)).set k x).map avI) = .agg ((statsI (c.Instrs.take (i + 1))).map avI) := fun k x hk hx => by
      rw [hst, bump, hk, hx, hk]
    have hg1 : ∀ k : Nat, k < 16 → ((statsI (c.Instrs.take i)).map avI).getD k .top = .v (.int .i64 ((statsI (c.Instrs.take i)).getD k 0)) := fun k hk => avI_getD' _ k (by omega)
    have hu1 : ∀ (k : Nat) (x : Int), k < 16 → upd (.agg ((statsI (c.Instrs.take i)).map avI)) k (.v (.int .i64 x)) = .agg (((statsI (c.Instrs.take i)).set k x).map avI) := fun k x hk => upd_arr (by omega) (by omega) x
    by_cases hb1 : inB c.Instrs[i].Op 1 15 = true
    · have h9 := hb1
      simp only [inB, Bool.and_eq_true, decide_eq_true_eq] at h9
      have hk : sortI c.Instrs[i] = c.Instrs[i].Op.toNat := by unfold sortI; rw [if_pos h9]
      have hk1 : c.Instrs[i].Op.toNat < 16 := by omega
      simp only [hb1, hsl, hk1, hg1 _ hk1, hu1 _ _ hk1, hn _ _ hk.symm rfl, hi1, VCode.width, VCode.storable, VCode.isAgg, VCode.cells, VInstr.width, VInstr.storable, VInstr.isAgg, VInstr.cells, List.length_map, Int.toNat_natCast, Nat.mul_one, avI, ↓OD, OA, Nat.reduceEqDiff, reduceCtorEq, Nat.reduceAdd, Nat.reduceLT, Nat.reduceLeDiff, reduceIte]
      repeat (refine And.intro (by omega) ?_)
      exact roundQ_intro (i + 1) hlt (by omega) (.of_eq rfl rfl)
    · have hk : sortI c.Instrs[i] = 0 := by
        unfold sortI; rw [if_neg]; intro h9
        exact hb1 (by simp only [inB, Bool.and_eq_true, decide_eq_true_eq]; exact h9)
      have hb2 : inB c.Instrs[i].Op 1 15 = false := by simpa using hb1
      simp only [hb2, hsl, hg1 0 (by decide), hu1 0 _ (by decide), hn 0 _ hk.symm rfl, hi1, Int.toNat_zero, Nat.zero_mul, VCode.width, VCode.storable, VCode.isAgg, VCode.cells, VInstr.width, VInstr.storable, VInstr.isAgg, VInstr.cells, List.length_map, Int.toNat_natCast, Nat.mul_one, avI, ↓OD, OA, Nat.reduceEqDiff, reduceCtorEq, Nat.reduceAdd, Nat.reduceLT, Nat.reduceLeDiff, reduceIte]
      repeat (refine And.intro (by omega) ?_)
      exact roundQ_intro (i + 1) hlt (by omega) (.of_eq rfl rfl)
  · have he : i = c.Instrs.length := by simp at hc; omega
    subst he
    rw [List.take_length]
    have hsl := stats_len c.Instrs
    have hs0 := stats_len []
    generalize statsI c.Instrs = t at *
    have hlw : loadC (some 16) (.agg (t.map avI)) 0 = .agg (t.map avI) := loadC_whole rfl (by simp [AV.cells, hsl])
    have hup : upd (.agg ((statsI []).map avI)) 0 (.agg (t.map avI)) = .agg (t.map avI) := upd_whole (by simp [AV.cells, hsl, hs0])
    simp only [hlw, hup, stoA, hsl, hs0, VCode.width, VCode.storable, VCode.isAgg, VCode.cells, VInstr.width, VInstr.storable, VInstr.isAgg, VInstr.cells, List.length_map, Int.toNat_natCast, Nat.mul_one, avI, ↓OD, OA, Nat.reduceEqDiff, reduceCtorEq, Nat.reduceAdd, Nat.reduceLT, Nat.reduceLeDiff, reduceIte]
    refine ⟨stoB t, ?_⟩
    refine pret_any (.inl rfl) ?_ (norA t)
    simp only [hlw, hsl, VCode.width, VCode.storable, VCode.isAgg, VCode.cells, VInstr.width, VInstr.storable, VInstr.isAgg, VInstr.cells, List.length_map, Int.toNat_natCast, Nat.mul_one, avI, ↓OD, OA, Nat.reduceEqDiff, reduceCtorEq, Nat.reduceAdd, Nat.reduceLT, Nat.reduceLeDiff, reduceIte]
theorem impl_Stats_c (c : VCode) (hb : c.wt ≤ 1048576) : PCon Try.prog F.impl_Stats [c.av] (.agg ((statsI c.Instrs).map avI)) := by
  have hw := c.wt_eq
  have hlen : c.Instrs.length ≤ 1048576 := by omega
  refine con_of_wp A.impl_Stats_ok rfl ?_
  simp only [A.impl_Stats, VCode.width, VCode.storable, VCode.isAgg, VCode.cells, VInstr.width, VInstr.storable, VInstr.isAgg, VInstr.cells, List.length_map, Int.toNat_natCast, Nat.mul_one, avI, ↓OD, OA, Nat.reduceEqDiff, reduceCtorEq, Nat.reduceAdd, Nat.reduceLT, Nat.reduceLeDiff, reduceIte]
  refine loopK_intro (ι := Nat) (fun i => i ≤ c.Instrs.length) (fun i => envL [(2, .ptr 1 1 0 0), (3, .ptr 2 1 0 0), (7, .sl (c.Instrs.map VInstr.av)), (8, .v (.int .i64 c.Instrs.length)), (9, .v (.int .i64 i))])
    (fun i => [.live 31 2 [c.av], .live 27 16 [.agg ((statsI []).map avI)], .live 27 16 [.agg ((statsI (c.Instrs.take i)).map avI)]]) (fun i => c.Instrs.length - i) 0 (Nat.zero_le _) (.of_eq rfl rfl) ?_
  intro i hi
  simp only [VCode.width, VCode.storable, VCode.isAgg, VCode.cells, VInstr.width, VInstr.storable, VInstr.isAgg, VInstr.cells, List.length_map, Int.toNat_natCast, Nat.mul_one, avI, ↓OD, OA, Nat.reduceEqDiff, reduceCtorEq, Nat.reduceAdd, Nat.reduceLT, Nat.reduceLeDiff, reduceIte]
  refine condK_intro (fun hc => ?_) (fun hc => ?_)
  · have hlt : i < c.Instrs.length := by simpa using hc
    have hg : (c.Instrs.map VInstr.av).getD i .top = (c.Instrs[i]).av := by simp [List.getD, hlt]
    have hi1 : IntKind.i64.wrap ((i : Int) + 1) = ((i + 1 : Nat) : Int) := wrapA1 (by omega)
    simp only [hg, VCode.width, VCode.storable, VCode.isAgg, VCode.cells, VInstr.width, VInstr.storable, VInstr.isAgg, VInstr.cells, List.length_map, Int.toNat_natCast, Nat.mul_one, avI, ↓OD, OA, Nat.reduceEqDiff, reduceCtorEq, Nat.reduceAdd, Nat.reduceLT, Nat.reduceLeDiff, reduceIte]
    refine ⟨by omega, by omega, ?_⟩
    refine callK_intro _ _ ((impl_within_c _ 1 15).any rfl rfl _) ?_
    have hst := stats_snoc c.Instrs i hlt
    have hsl := stats_len (c.Instrs.take i)
    have hso := sortI_lt c.Instrs[i]
    have hn : ∀ k x, k = sortI c.Instrs[i] → x = IntKind.i64.wrap ((statsI (c.Instrs.take i)).getD k 0 + 1) → AV.agg (((statsI (c.Instrs.take i)).set k x).map avI) = .agg ((statsI (c.Instrs.take (i + 1))).map avI) := fun k x hk hx => by
      rw [hst, bump, hk, hx, hk]
    have hg1 : ∀ k : Nat, k < 16 → ((statsI (c.Instrs.take i)).map avI).getD k .top = .v (.int .i64 ((statsI (c.Instrs.take i)).getD k 0)) := fun k hk => avI_getD' _ k (by omega)
    have hu1 : ∀ (k : Nat) (x : Int), k < 16 → upd (.agg ((statsI (c.Instrs.take i)).map avI)) k (.v (.int .i64 x)) = .agg (((statsI (c.Instrs.take i)).set k x).map avI) := fun k x hk => upd_arr (by omega) (by omega) x
    by_cases hb1 : inB c.Instrs[i].Op 1 15 = true
    · have h9 := hb1
      simp only [inB, Bool.and_eq_true, decide_eq_true_eq] at h9
      have hk : sortI c.Instrs[i] = c.Instrs[i].Op.toNat := by unfold sortI; rw [if_pos h9]
      have hk1 : c.Instrs[i].Op.toNat < 16 := by omega
      simp only [hb1, hsl, hk1, hg1 _ hk1, hu1 _ _ hk1, hn _ _ hk.symm rfl, hi1, VCode.width, VCode.storable, VCode.isAgg, VCode.cells, VInstr.width, VInstr.storable, VInstr.isAgg, VInstr.cells, List.length_map, Int.toNat_natCast, Nat.mul_one, avI, ↓OD, OA, Nat.reduceEqDiff, reduceCtorEq, Nat.reduceAdd, Nat.reduceLT, Nat.reduceLeDiff, reduceIte]
      repeat (refine And.intro (by omega) ?_)
      refine roundQ_intro (i + 1) hlt (by omega) (.forgetE 3 rfl rfl (by omega) (by simp) ?_ ?_)
      · simp [AObj.inScope, AV.scopeds, noref_scoped _ (norA _), noref_scoped _ (VCode.noref c)]
      · simp [AV.inScope, norefs_scopeds _ (norefsM (f := VInstr.av) (l := c.Instrs) VInstr.noref)]
    · have hk : sortI c.Instrs[i] = 0 := by
        unfold sortI; rw [if_neg]; intro h9
        exact hb1 (by simp only [inB, Bool.and_eq_true, decide_eq_true_eq]; exact h9)
      have hb2 : inB c.Instrs[i].Op 1 15 = false := by simpa using hb1
      simp only [hb2, hsl, hg1 0 (by decide), hu1 0 _ (by decide), hn 0 _ hk.symm rfl, hi1, Int.toNat_zero, Nat.zero_mul, VCode.width, VCode.storable, VCode.isAgg, VCode.cells, VInstr.width, VInstr.storable, VInstr.isAgg, VInstr.cells, List.length_map, Int.toNat_natCast, Nat.mul_one, avI, ↓OD, OA, Nat.reduceEqDiff, reduceCtorEq, Nat.reduceAdd, Nat.reduceLT, Nat.reduceLeDiff, reduceIte]
      repeat (refine And.intro (by omega) ?_)
      refine roundQ_intro (i + 1) hlt (by omega) (.forgetE 3 rfl rfl (by omega) (by simp) ?_ ?_)
      · simp [AObj.inScope, AV.scopeds, noref_scoped _ (norA _), noref_scoped _ (VCode.noref c)]
      · simp [AV.inScope, norefs_scopeds _ (norefsM (f := VInstr.av) (l := c.Instrs) VInstr.noref)]
  · have he : i = c.Instrs.length := by simp at hc; omega
    subst he
    rw [List.take_length]
    have hsl := stats_len c.Instrs
    have hs0 := stats_len []
    generalize statsI c.Instrs = t at *
    have hlw : loadC (some 16) (.agg (t.map avI)) 0 = .agg (t.map avI) := loadC_whole rfl (by simp [AV.cells, hsl])
    have hup : upd (.agg ((statsI []).map avI)) 0 (.agg (t.map avI)) = .agg (t.map avI) := upd_whole (by simp [AV.cells, hsl, hs0])
    simp only [hlw, hup, stoA, hsl, hs0, VCode.width, VCode.storable, VCode.isAgg, VCode.cells, VInstr.width, VInstr.storable, VInstr.isAgg, VInstr.cells, List.length_map, Int.toNat_natCast, Nat.mul_one, avI, ↓OD, OA, Nat.reduceEqDiff, reduceCtorEq, Nat.reduceAdd, Nat.reduceLT, Nat.reduceLeDiff, reduceIte]
    refine ⟨stoB t, ?_⟩
    refine pret_any (.inl rfl) ?_ (norA t)
    simp only [hlw, hsl, VCode.width, VCode.storable, VCode.isAgg, VCode.cells, VInstr.width, VInstr.storable, VInstr.isAgg, VInstr.cells, List.length_map, Int.toNat_natCast, Nat.mul_one, avI, ↓OD, OA, Nat.reduceEqDiff, reduceCtorEq, Nat.reduceAdd, Nat.reduceLT, Nat.reduceLeDiff, reduceIte]
theorem eqIntA16_c (t : List Int) (ht : t.length = 16) : PCon Try.prog F.laws_eqIntA16 [.agg (t.map avI), .agg (t.map avI)] (.v (.bool true)) := by
  have hg1 : ∀ k : Nat, k < 16 → (t.map avI).getD k .top = .v (.int .i64 (t.getD k 0)) := fun k hk => avI_getD' _ k (by omega)
  refine con_of_wp A.laws_eqIntA16_ok rfl ?_
  simp only [A.laws_eqIntA16, stoA, ht, VCode.width, VCode.storable, VCode.isAgg, VCode.cells, VInstr.width, VInstr.storable, VInstr.isAgg, VInstr.cells, List.length_map, Int.toNat_natCast, Nat.mul_one, avI, ↓OD, OA, Nat.reduceEqDiff, reduceCtorEq, Nat.reduceAdd, Nat.reduceLT, Nat.reduceLeDiff, reduceIte]
  refine ⟨stoB t, stoB t, ?_⟩
  refine loopK_intro (ι := Nat) (fun i => i ≤ 16) (fun i => envL [(2, .ptr 0 1 0 0), (3, .ptr 1 1 0 0), (5, .v (.int .i64 i))])
    (fun i => [.live 27 16 [.agg (t.map avI)], .live 27 16 [.agg (t.map avI)]]) (fun i => 16 - i) 0 (Nat.zero_le _) (.of_eq rfl rfl) ?_
  intro i hi
  simp only [VCode.width, VCode.storable, VCode.isAgg, VCode.cells, VInstr.width, VInstr.storable, VInstr.isAgg, VInstr.cells, List.length_map, Int.toNat_natCast, Nat.mul_one, avI, ↓OD, OA, Nat.reduceEqDiff, reduceCtorEq, Nat.reduceAdd, Nat.reduceLT, Nat.reduceLeDiff, reduceIte]
  refine condK_intro (fun hc => ?_) (fun hc => ?_)
  · have hlt : i < 16 := by simp at hc; omega
    have hi1 : IntKind.i64.wrap ((i : Int) + 1) = ((i + 1 : Nat) : Int) := wrapA1 (by omega)
    simp only [Int.toNat_natCast, Nat.mul_one, avI, ↓OD, OA, Nat.reduceEqDiff, reduceCtorEq, Nat.reduceAdd, Nat.reduceLT, Nat.reduceLeDiff, reduceIte]
    refine drawK_intro ?_
    simp only [ht, hg1 i hlt, VCode.width, VCode.storable, VCode.isAgg, VCode.cells, VInstr.width, VInstr.storable, VInstr.isAgg, VInstr.cells, List.length_map, Int.toNat_natCast, Nat.mul_one, avI, ↓OD, OA, Nat.reduceEqDiff, reduceCtorEq, Nat.reduceAdd, Nat.reduceLT, Nat.reduceLeDiff, reduceIte]
    repeat (refine And.intro (by omega) ?_)
    refine ⟨by kernel_rfl, ?_⟩
    have hne : (t.getD i 0 != t.getD i 0) = false := bne_self_eq_false _
    simp only [hne, hi1, Int.toNat_natCast, Nat.mul_one, avI, ↓OD, OA, Nat.reduceEqDiff, reduceCtorEq, Nat.reduceAdd, Nat.reduceLT, Nat.reduceLeDiff, reduceIte]
    exact roundQ_intro (i + 1) hlt (by omega) (.of_eq rfl rfl)
  · simp only [VCode.width, VCode.storable, VCode.isAgg, VCode.cells, VInstr.width, VInstr.storable, VInstr.isAgg, VInstr.cells, List.length_map, Int.toNat_natCast, Nat.mul_one, avI, ↓OD, OA, Nat.reduceEqDiff, reduceCtorEq, Nat.reduceAdd, Nat.reduceLT, Nat.reduceLeDiff, reduceIte]
    refine pret_tmp (.inl rfl) ?_ rfl
    simp only [VCode.width, VCode.storable, VCode.isAgg, VCode.cells, VInstr.width, VInstr.storable, VInstr.isAgg, VInstr.cells, List.length_map, Int.toNat_natCast, Nat.mul_one, avI, ↓OD, OA, Nat.reduceEqDiff, reduceCtorEq, Nat.reduceAdd, Nat.reduceLT, Nat.reduceLeDiff, reduceIte]
end Go.Proofs.Ab
