/-
  Principal of the program: its map.
-/
import Derived.Test.YtfebhekplhjigaaCPrin
import Derived.Test.YtfebhekplhjigaaGM
import Derived.Test.YtfebhekplhjigaaSA
set_option linter.unusedVariables false
set_option linter.unusedSimpArgs false
set_option linter.defProp false
namespace Go.Ab
set_option maxRecDepth 100000
/-- the map's entries -/
def ents (es : List (Int × VTy)) : List (AV × AV) := es.map fun p => (avI p.1, p.2.av)
theorem ents_none {n : Int} : ∀ (es : List (Int × VTy)) (i : Nat), lookM n es = none → mfind (.int .i64 n) (ents es) i = none
  | [], _, _ => rfl
  | (k, t) :: r, i, h => by
    rw [lookM] at h
    by_cases hq : n = k
    · rw [if_pos hq] at h; cases h
    · rw [if_neg hq] at h
      show mfind _ ((avI k, t.av) :: ents r) i = none
      simp only [mfind, avI, keyB, decide_true, Bool.true_and, decide_eq_true_eq, if_neg hq]
      exact ents_none r (i + 1) h
theorem ents_some {n : Int} {u : VTy} : ∀ (es : List (Int × VTy)) (i : Nat), lookM n es = some u → ∃ j, mfind (.int .i64 n) (ents es) i = some (j, u.av)
  | [], _, h => by simp [lookM] at h
  | (k, t) :: r, i, h => by
    rw [lookM] at h
    show ∃ j, mfind _ ((avI k, t.av) :: ents r) i = some (j, u.av)
    by_cases hq : n = k
    · rw [if_pos hq] at h; cases h
      exact ⟨i, by simp only [mfind, avI, keyB, decide_true, Bool.true_and, decide_eq_true_eq, if_pos hq]⟩
    · rw [if_neg hq] at h
      simp only [mfind, avI, keyB, decide_true, Bool.true_and, decide_eq_true_eq, if_neg hq]
      exact ents_some r (i + 1) h
theorem ents_keys (es : List (Int × VTy)) : (KD.int .i64).all (ents es) = true := by
  simp [KD.all, ents, avI, KD.ok]
theorem ents_set {n : Int} {es : List (Int × VTy)} (h : lookM n es = none) (t : VTy) : mset (.int .i64 n) t.av (ents es) = ents (es ++ [(n, t)]) := by
  unfold mset
  rw [ents_none es 0 h]
  simp [ents, avI]
theorem ents_norefs (es : List (Int × VTy)) : (AObj.gho (.mp (ents es))).norefs = true := by
  simp [AObj.norefs, ents, avI, AV.noref, VTy.noref]
theorem ents_scoped (k : Nat) (es : List (Int × VTy)) : (AObj.gho (.mp (ents es))).inScope k = true := obj_norefs_scoped (ents_norefs es)
/-- the end of a call that gives a plain value; what was handed stays -/
theorem ret_keep {n0 t : Nat} {v : Value} {x : AX} (hx : x = .ret ∨ x = .normal) {e : Env} {O O' : List AObj} (h : e t = .v v) (hO : O.take n0 = O') (hk : n0 ≤ O.length) (hb : O'.all (fun ob => ob.inScope n0) = true) : retK n0 [.tmp t] (.v v) O' x e O := by
  have : resK e O [.tmp t] [] fun xs' => ∃ e', WK n0 (fun t => if t = 0 then packR xs' else .top) O e' O' ∧ e' 0 = .v v := by
    rw [resK_tmp, resK_nil]
    simp only [List.reverse_cons, List.reverse_nil, List.nil_append, packR, h]
    refine ⟨fun t => if t = 0 then .v v else .top, .forget (k := n0) hO (Nat.le_refl _) hk (fun ob ho => List.all_eq_true.1 hb ob ho) fun t => ?_, rfl⟩
    by_cases ht : t = 0
    · subst ht; exact .inr ⟨rfl, rfl⟩
    · exact .inl (by simp [ht])
  rcases hx with rfl | rfl <;> exact this
end Go.Ab
namespace Go.Proofs.Ab
open Go.Ab
set_option maxRecDepth 100000
set_option maxHeartbeats 4000000
theorem impl_puts_own (x y : VTy) (es : List (Int × VTy)) (hx : x.wt ≤ 1048576) (hy : y.wt ≤ 1048576) (he : smallE 1048576 es) :
    Con Try.prog F.impl_puts [x.av, y.av, .own 0] [.gho (.mp (ents es))] (.v (.bool (x.fit y es).1)) [.gho (.mp (ents (x.fit y es).2))] := by
  have hw := x.wt_eq
  have hv := y.wt_eq
  have hf := x.fit_eq y es
  refine con_of_wp A.impl_puts_ok rfl ?_
  simp only [A.impl_puts, VTy.width, VTy.isAgg, VTy.storable, VTy.cells, avI, ↓OD, OA, Nat.reduceEqDiff, reduceCtorEq, Nat.reduceAdd, Nat.reduceLT, Nat.reduceLeDiff, reduceIte]
  refine condK_intro (fun hc => ?_) (fun hc => ?_)
  · have h9 : x.Kind = 9 := by simpa using hc
    rw [if_pos h9] at hf
    simp only [VTy.width, VTy.isAgg, VTy.storable, VTy.cells, avI, ↓OD, OA, Nat.reduceEqDiff, reduceCtorEq, Nat.reduceAdd, Nat.reduceLT, Nat.reduceLeDiff, reduceIte]
    cases hl : lookM x.N es with
    | none =>
      rw [hl] at hf
      refine mget_no rfl rfl (ents_keys es) (ents_none es 0 hl) ?_
      simp only [VTy.width, VTy.isAgg, VTy.storable, VTy.cells, avI, ↓OD, OA, Nat.reduceEqDiff, reduceCtorEq, Nat.reduceAdd, Nat.reduceLT, Nat.reduceLeDiff, reduceIte]
      repeat (refine And.intro (by decide) ?_)
      try simp only [VTy.width, VTy.isAgg, VTy.storable, VTy.cells, avI, ↓OD, OA, Nat.reduceEqDiff, reduceCtorEq, Nat.reduceAdd, Nat.reduceLT, Nat.reduceLeDiff, reduceIte]
      refine mset_intro rfl rfl (ents_keys es) ?_
      rw [ents_set hl]
      simp only [VTy.width, VTy.isAgg, VTy.storable, VTy.cells, avI, ↓OD, OA, Nat.reduceEqDiff, reduceCtorEq, Nat.reduceAdd, Nat.reduceLT, Nat.reduceLeDiff, reduceIte]
      rw [hf]
      exact ret_keep (.inl rfl) rfl rfl (by simp) (by simp only [List.all_cons, List.all_nil, ents_scoped, Bool.and_true])
    | some t =>
      rw [hl] at hf
      obtain ⟨j, hj⟩ := ents_some es 0 hl
      refine mget_yes rfl rfl (ents_keys es) hj ?_
      simp only [VTy.width, VTy.isAgg, VTy.storable, VTy.cells, avI, ↓OD, OA, Nat.reduceEqDiff, reduceCtorEq, Nat.reduceAdd, Nat.reduceLT, Nat.reduceLeDiff, reduceIte]
      repeat (refine And.intro (by decide) ?_)
      try simp only [VTy.width, VTy.isAgg, VTy.storable, VTy.cells, avI, ↓OD, OA, Nat.reduceEqDiff, reduceCtorEq, Nat.reduceAdd, Nat.reduceLT, Nat.reduceLeDiff, reduceIte]
      refine callK_intro _ _ ((impl_SameTy_c t y (he.look hl)).any (by simp [AV.norefs, VTy.noref]) rfl _) ?_
      simp only [VTy.width, VTy.isAgg, VTy.storable, VTy.cells, avI, ↓OD, OA, Nat.reduceEqDiff, reduceCtorEq, Nat.reduceAdd, Nat.reduceLT, Nat.reduceLeDiff, reduceIte]
      rw [hf]
      exact ret_keep (.inl rfl) rfl rfl (by simp) (by simp only [List.all_cons, List.all_nil, ents_scoped, Bool.and_true])
  · have h9 : ¬ x.Kind = 9 := by simpa using hc
    rw [if_neg h9] at hf
    by_cases h1 : x.Kind = y.Kind
    rotate_left
    · have d1 : decide (x.Kind = y.Kind) = false := decide_eq_false h1
      rw [if_neg (fun h => h1 h.1)] at hf
      simp only [d1, VTy.width, VTy.isAgg, VTy.storable, VTy.cells, avI, ↓OD, OA, Nat.reduceEqDiff, reduceCtorEq, Nat.reduceAdd, Nat.reduceLT, Nat.reduceLeDiff, reduceIte]
      rw [hf]
      exact ret_keep (.inl rfl) rfl rfl (by simp) (by simp only [List.all_cons, List.all_nil, ents_scoped, Bool.and_true])
    have d1 : decide (x.Kind = y.Kind) = true := decide_eq_true h1
    by_cases h2 : x.N = y.N
    rotate_left
    · have d2 : decide (x.N = y.N) = false := decide_eq_false h2
      rw [if_neg (fun h => h2 h.2.1)] at hf
      simp only [d1, d2, VTy.width, VTy.isAgg, VTy.storable, VTy.cells, avI, ↓OD, OA, Nat.reduceEqDiff, reduceCtorEq, Nat.reduceAdd, Nat.reduceLT, Nat.reduceLeDiff, reduceIte]
      rw [hf]
      exact ret_keep (.inl rfl) rfl rfl (by simp) (by simp only [List.all_cons, List.all_nil, ents_scoped, Bool.and_true])
    have d2 : decide (x.N = y.N) = true := decide_eq_true h2
    by_cases h3 : x.Name = y.Name
    rotate_left
    · have d3 : decide (x.Name = y.Name) = false := decide_eq_false h3
      rw [if_neg (fun h => h3 h.2.2.1)] at hf
      simp only [d1, d2, d3, avB, VTy.width, VTy.isAgg, VTy.storable, VTy.cells, avI, ↓OD, OA, Nat.reduceEqDiff, reduceCtorEq, Nat.reduceAdd, Nat.reduceLT, Nat.reduceLeDiff, reduceIte]
      rw [hf]
      exact ret_keep (.inl rfl) rfl rfl (by simp) (by simp only [List.all_cons, List.all_nil, ents_scoped, Bool.and_true])
    have d3 : decide (x.Name = y.Name) = true := decide_eq_true h3
    by_cases h4 : x.Kids.length = y.Kids.length
    rotate_left
    · have d4 : decide ((x.Kids.length : Int) = (y.Kids.length : Int)) = false := decide_eq_false (by omega)
      rw [if_neg (fun h => h4 h.2.2.2)] at hf
      simp only [d1, d2, d3, d4, avB, List.length_map, VTy.width, VTy.isAgg, VTy.storable, VTy.cells, avI, ↓OD, OA, Nat.reduceEqDiff, reduceCtorEq, Nat.reduceAdd, Nat.reduceLT, Nat.reduceLeDiff, reduceIte]
      rw [hf]
      exact ret_keep (.inl rfl) rfl rfl (by simp) (by simp only [List.all_cons, List.all_nil, ents_scoped, Bool.and_true])
    have d4 : decide ((x.Kids.length : Int) = (y.Kids.length : Int)) = true := decide_eq_true (by omega)
    rw [if_pos ⟨h1, h2, h3, h4⟩] at hf
    simp only [d1, d2, d3, d4, avB, List.length_map, VTy.width, VTy.isAgg, VTy.storable, VTy.cells, avI, ↓OD, OA, Nat.reduceEqDiff, reduceCtorEq, Nat.reduceAdd, Nat.reduceLT, Nat.reduceLeDiff, reduceIte]
    refine loopK_intro (ι := Nat × List (Int × VTy)) (fun q => smallE 1048576 q.2 ∧ VTy.fits (x.Kids.drop q.1) (y.Kids.drop q.1) q.2 = x.fit y es ∧ q.1 ≤ x.Kids.length)
      (fun q => envL [(2, .own 0), (3, .ptr 1 1 0 0), (4, .ptr 2 1 0 0), (63, avI x.Kids.length), (64, avI q.1)])
      (fun q => [.gho (.mp (ents q.2)), .live 29 4 [x.av], .live 29 4 [y.av]]) (fun q => x.Kids.length - q.1) (0, es)
      ⟨he, by rw [hf, List.drop_zero, List.drop_zero], Nat.zero_le _⟩ (.of_eq (by simp [avI]) rfl) ?_
    rintro ⟨i, es'⟩ ⟨he', hr, hle⟩
    simp only at he' hr hle
    simp only [avI, ↓OD, OA, Nat.reduceEqDiff, reduceCtorEq, Nat.reduceAdd, Nat.reduceLT, Nat.reduceLeDiff, reduceIte]
    refine condK_intro (fun hc => ?_) (fun hc => ?_)
    · have hlt : i < x.Kids.length := by simpa using hc
      have hlt2 : i < y.Kids.length := by omega
      rw [dropC hlt, dropC hlt2, VTy.fits] at hr
      have gx : (x.Kids.map VTy.av).getD i .top = (x.Kids[i]).av := by simp [List.getD, hlt]
      have gy : (y.Kids.map VTy.av).getD i .top = (y.Kids[i]).av := by simp [List.getD, hlt2]
      have bx : (x.Kids[i]).wt ≤ 1048576 := by have := le_sum VTy.wt (List.getElem_mem hlt); omega
      have b_y : (y.Kids[i]).wt ≤ 1048576 := by have := le_sum VTy.wt (List.getElem_mem hlt2); omega
      simp only [VTy.width, VTy.isAgg, VTy.storable, VTy.cells, avI, ↓OD, OA, Nat.reduceEqDiff, reduceCtorEq, Nat.reduceAdd, Nat.reduceLT, Nat.reduceLeDiff, reduceIte]
      refine drawK_intro ?_
      simp only [gx, gy, Int.toNat_natCast, List.length_map, VTy.width, VTy.isAgg, VTy.storable, VTy.cells, avI, ↓OD, OA, Nat.reduceEqDiff, reduceCtorEq, Nat.reduceAdd, Nat.reduceLT, Nat.reduceLeDiff, reduceIte]
      refine ⟨by omega, by omega, by omega, by omega, ?_⟩
      have hcall := (impl_puts_own x.Kids[i] y.Kids[i] es' bx b_y he').one' (by simp only [List.all_cons, List.all_nil, noref_one (VTy.noref _), Bool.true_and, Bool.and_true]; rfl) (ents_norefs _) (ents_norefs _) rfl (O := [.gho (.mp (ents es')), .live 29 4 [x.av], .live 29 4 [y.av]]) 0 rfl
      simp only [List.map_cons, List.map_nil, noref_ren _ (VTy.noref _), ren_own, List.set_cons_zero] at hcall
      refine callK_intro _ _ hcall ?_
      have hsm := (x.Kids[i]).fit_small y.Kids[i] es' he' b_y
      generalize x.Kids[i].fit y.Kids[i] es' = r at *
      obtain ⟨r1, es2⟩ := r
      simp only at hr hsm hcall ⊢
      simp only [VTy.width, VTy.isAgg, VTy.storable, VTy.cells, avI, ↓OD, OA, Nat.reduceEqDiff, reduceCtorEq, Nat.reduceAdd, Nat.reduceLT, Nat.reduceLeDiff, reduceIte]
      refine ⟨by kernel_rfl, ?_⟩
      have hi1 : IntKind.i64.wrap ((i : Int) + 1) = ((i + 1 : Nat) : Int) := wrapA1 (by omega)
      cases r1 with
      | true =>
        rw [if_pos rfl] at hr
        simp only [hi1, avI, ↓OD, OA, Nat.reduceEqDiff, reduceCtorEq, Nat.reduceAdd, Nat.reduceLT, Nat.reduceLeDiff, reduceIte]
        exact roundQ_intro (i + 1, es2) ⟨hsm, hr, hlt⟩ (show x.Kids.length - (i + 1) < x.Kids.length - i by omega) (.of_eq (by simp [avI]) rfl)
      | false =>
        rw [if_neg (by simp)] at hr
        simp only [avI, ↓OD, OA, Nat.reduceEqDiff, reduceCtorEq, Nat.reduceAdd, Nat.reduceLT, Nat.reduceLeDiff, reduceIte]
        rw [← hr]
        exact ret_keep (.inl rfl) rfl rfl (by simp) (by simp only [List.all_cons, List.all_nil, ents_scoped, Bool.and_true])
    · have he0 : i = x.Kids.length := by have : ¬ i < x.Kids.length := by simpa using hc
                                         omega
      rw [List.drop_of_length_le (by omega), List.drop_of_length_le (by omega), show VTy.fits [] [] es' = (true, es') by simp [VTy.fits]] at hr
      simp only [avI, ↓OD, OA, Nat.reduceEqDiff, reduceCtorEq, Nat.reduceAdd, Nat.reduceLT, Nat.reduceLeDiff, reduceIte]
      rw [← hr]
      exact ret_keep (.inl rfl) rfl rfl (by simp) (by simp only [List.all_cons, List.all_nil, ents_scoped, Bool.and_true])
termination_by SizeOf.sizeOf x
decreasing_by all_goals exact VTy.Kids_lt (List.getElem_mem _)
theorem impl_Principal_c (x y : VTy) (hx : x.wt ≤ 1048576) (hy : y.wt ≤ 1048576) : PCon Try.prog F.impl_Principal [x.av, y.av] (.v (.bool (princM x y))) := by
  have hn : ∀ z : VTy, AV.norefs [z.av, avI 11] = true := fun z => by simp [AV.norefs, AV.noref, VTy.noref]
  have hn1 : ∀ z : VTy, AV.norefs [z.av] = true := fun z => by simp [AV.norefs, VTy.noref]
  have fx := impl_Free_f x 11 hx
  have fy := impl_Free_f y 11 hy
  refine con_of_wp A.impl_Principal_ok rfl ?_
  simp only [A.impl_Principal, VTy.width, VTy.isAgg, VTy.storable, avI, ↓OD, OA, Nat.reduceEqDiff, reduceCtorEq, Nat.reduceAdd, Nat.reduceLT, Nat.reduceLeDiff, reduceIte]
  refine callK_intro _ _ ((impl_TyOk_c x hx).any (hn1 x) rfl _) ?_
  by_cases h1 : x.okM = true
  rotate_left
  · have h1 : x.okM = false := by simpa using h1
    have hm : princM x y = false := by simp [princM, h1]
    rw [hm]
    simp only [h1, VTy.width, VTy.isAgg, VTy.storable, avI, ↓OD, OA, Nat.reduceEqDiff, reduceCtorEq, Nat.reduceAdd, Nat.reduceLT, Nat.reduceLeDiff, reduceIte]
    exact ret_keep (.inr rfl) rfl rfl (by simp) rfl
  simp only [h1, VTy.width, VTy.isAgg, VTy.storable, avI, ↓OD, OA, Nat.reduceEqDiff, reduceCtorEq, Nat.reduceAdd, Nat.reduceLT, Nat.reduceLeDiff, reduceIte]
  refine callK_intro _ _ ((impl_TyOk_c y hy).any (hn1 y) rfl _) ?_
  by_cases h2 : y.okM = true
  rotate_left
  · have h2 : y.okM = false := by simpa using h2
    have hm : princM x y = false := by simp [princM, h2]
    rw [hm]
    simp only [h2, VTy.width, VTy.isAgg, VTy.storable, avI, ↓OD, OA, Nat.reduceEqDiff, reduceCtorEq, Nat.reduceAdd, Nat.reduceLT, Nat.reduceLeDiff, reduceIte]
    exact ret_keep (.inr rfl) rfl rfl (by simp) rfl
  have i11 : inB 11 9 11 = true := by decide
  simp only [h1, h2, i11, Bool.and_self, if_true] at fx fy
  simp only [h2, VTy.width, VTy.isAgg, VTy.storable, avI, ↓OD, OA, Nat.reduceEqDiff, reduceCtorEq, Nat.reduceAdd, Nat.reduceLT, Nat.reduceLeDiff, reduceIte]
  refine callK_intro _ _ ((fx.plain (norI _)).any (hn x) (norI _) _) ?_
  by_cases h3 : x.frees 11 = []
  rotate_left
  · have hm : princM x y = false := by simp [princM, h3]
    have d3 : decide (((addAll [] (x.frees 11)).length : Int) = 0) = false := decide_eq_false fun h => h3 (addAll_empty.1 (by omega))
    rw [hm]
    simp only [List.length_map, d3, VTy.width, VTy.isAgg, VTy.storable, avI, ↓OD, OA, Nat.reduceEqDiff, reduceCtorEq, Nat.reduceAdd, Nat.reduceLT, Nat.reduceLeDiff, reduceIte]
    exact ret_keep (.inr rfl) rfl rfl (by simp) rfl
  have d3 : decide (((addAll [] (x.frees 11)).length : Int) = 0) = true := decide_eq_true (by rw [addAll_empty.2 h3]; rfl)
  simp only [List.length_map, d3, VTy.width, VTy.isAgg, VTy.storable, avI, ↓OD, OA, Nat.reduceEqDiff, reduceCtorEq, Nat.reduceAdd, Nat.reduceLT, Nat.reduceLeDiff, reduceIte]
  refine callK_intro _ _ ((fy.plain (norI _)).any (hn y) (norI _) _) ?_
  by_cases h4 : y.frees 11 = []
  rotate_left
  · have hm : princM x y = false := by simp [princM, h4]
    have d4 : decide (((addAll [] (y.frees 11)).length : Int) = 0) = false := decide_eq_false fun h => h4 (addAll_empty.1 (by omega))
    rw [hm]
    simp only [List.length_map, d4, VTy.width, VTy.isAgg, VTy.storable, avI, ↓OD, OA, Nat.reduceEqDiff, reduceCtorEq, Nat.reduceAdd, Nat.reduceLT, Nat.reduceLeDiff, reduceIte]
    exact ret_keep (.inr rfl) rfl rfl (by simp) rfl
  have d4 : decide (((addAll [] (y.frees 11)).length : Int) = 0) = true := decide_eq_true (by rw [addAll_empty.2 h4]; rfl)
  have hm : princM x y = (x.fit y []).1 := by simp [princM, h1, h2, h3, h4]
  rw [hm]
  simp only [List.length_map, d4, VTy.width, VTy.isAgg, VTy.storable, avI, ↓OD, OA, Nat.reduceEqDiff, reduceCtorEq, Nat.reduceAdd, Nat.reduceLT, Nat.reduceLeDiff, reduceIte]
  have hcall := (impl_puts_own x y [] hx hy (fun p hp => by simp at hp)).one' (by simp only [List.all_cons, List.all_nil, noref_one (VTy.noref _), Bool.true_and, Bool.and_true]; rfl) (ents_norefs _) (ents_norefs _) rfl (O := [.live 29 4 [x.av], .live 29 4 [y.av], .gho (.mp (ents []))]) 2 rfl
  simp only [List.map_cons, List.map_nil, noref_ren _ (VTy.noref _), ren_own, List.set_cons_zero, List.set_cons_succ] at hcall
  refine callK_intro _ _ hcall ?_
  simp only [VTy.width, VTy.isAgg, VTy.storable, avI, ↓OD, OA, Nat.reduceEqDiff, reduceCtorEq, Nat.reduceAdd, Nat.reduceLT, Nat.reduceLeDiff, reduceIte]
  exact ret_keep (.inr rfl) rfl rfl (by simp) rfl
end Go.Proofs.Ab
