/-
  Principal: types put in the place of a type's TyVars; the plain law, and TyVars numbered by their places.
-/
import Derived.Test.YtfebhekplhjigaaCFree
import Derived.Test.YtfebhekplhjigaaCSameTy
set_option linter.unusedVariables false
set_option linter.unusedSimpArgs false
set_option linter.defProp false
namespace Go.Ab
set_option maxRecDepth 100000
set_option maxHeartbeats 4000000
/-- what is found for a TyVar -/
def lookM (n : Int) : List (Int × VTy) → Option VTy
  | [] => none
  | (k, t) :: r => if n = k then some t else lookM n r
mutual
def VTy.fit : VTy → VTy → List (Int × VTy) → Bool × List (Int × VTy)
  | .mk kd n nm kids, y, es =>
    if kd = 9 then (match lookM n es with
      | some t => (t.same y, es)
      | none => (true, es ++ [(n, y)]))
    else if kd = y.Kind ∧ n = y.N ∧ nm = y.Name ∧ kids.length = y.Kids.length then VTy.fits kids y.Kids es else (false, es)
def VTy.fits : List VTy → List VTy → List (Int × VTy) → Bool × List (Int × VTy)
  | x :: l, y :: m, es => if (x.fit y es).1 = true then VTy.fits l m (x.fit y es).2 else (false, (x.fit y es).2)
  | _, _, es => (true, es)
end
theorem VTy.fit_eq (x y : VTy) (es : List (Int × VTy)) : x.fit y es = if x.Kind = 9 then (match lookM x.N es with
      | some t => (t.same y, es)
      | none => (true, es ++ [(x.N, y)]))
    else if x.Kind = y.Kind ∧ x.N = y.N ∧ x.Name = y.Name ∧ x.Kids.length = y.Kids.length then VTy.fits x.Kids y.Kids es else (false, es) := by
  cases x; rw [VTy.fit]; rfl
/-- the place of a TyVar -/
def idxN (n : Int) : List Int → Nat → Int → Int
  | [], _, d => d
  | m :: r, i, d => idxN n r (i + 1) (if m = n then (i : Int) else d)
mutual
def VTy.small (names : List Int) : VTy → VTy
  | .mk kd n nm kids => .mk kd (if kd = 9 then idxN n names 0 n else n) nm (VTy.smalls names kids)
def VTy.smalls (names : List Int) : List VTy → List VTy
  | [] => []
  | x :: l => x.small names :: VTy.smalls names l
end
theorem VTy.smalls_eq (names : List Int) : ∀ l : List VTy, VTy.smalls names l = l.map (VTy.small names)
  | [] => rfl
  | x :: l => by simp only [VTy.smalls, VTy.smalls_eq names l, List.map_cons]
theorem VTy.small_eq (names : List Int) (x : VTy) : x.small names = .mk x.Kind (if x.Kind = 9 then idxN x.N names 0 x.N else x.N) x.Name (x.Kids.map (VTy.small names)) := by
  cases x; rw [VTy.small, VTy.smalls_eq]; rfl
theorem idxN_not {n : Int} : ∀ (names : List Int) (i : Nat) (d : Int), n ∉ names → idxN n names i d = d
  | [], _, _, _ => rfl
  | m :: r, i, d, h => by
    simp only [List.mem_cons, not_or] at h
    rw [idxN, if_neg (fun e => h.1 e.symm)]
    exact idxN_not r _ _ h.2
theorem idxN_at {n : Int} : ∀ (names : List Int) (i : Nat) (d : Int), n ∈ names → names.Nodup → ∃ j : Nat, idxN n names i d = ((i + j : Nat) : Int) ∧ names[j]? = some n
  | [], _, _, h, _ => by simp at h
  | m :: r, i, d, h, hn => by
    rw [idxN]
    by_cases hm : m = n
    · subst hm
      rw [if_pos rfl, idxN_not r _ _ (List.nodup_cons.1 hn).1]
      exact ⟨0, rfl, rfl⟩
    · rw [if_neg hm]
      have hr : n ∈ r := by
        rcases List.mem_cons.1 h with h | h
        · exact (hm h.symm).elim
        · exact h
      obtain ⟨j, h1, h2⟩ := idxN_at r (i + 1) d hr (List.nodup_cons.1 hn).2
      exact ⟨j + 1, by rw [h1]; congr 1; omega, by simpa using h2⟩
theorem lookM_snoc {n k : Int} {t : VTy} : ∀ (es : List (Int × VTy)), lookM n (es ++ [(k, t)]) = match lookM n es with
    | some u => some u
    | none => if n = k then some t else none
  | [] => rfl
  | (q, u) :: r => by
    simp only [List.cons_append, lookM]
    by_cases h : n = q
    · rw [if_pos h, if_pos h]
    · rw [if_neg h, if_neg h]; exact lookM_snoc r
theorem lookM_mem {n : Int} {t : VTy} : ∀ (es : List (Int × VTy)), lookM n es = some t → ∃ k, (k, t) ∈ es
  | [], h => by simp [lookM] at h
  | (q, u) :: r, h => by
    rw [lookM] at h
    by_cases hq : n = q
    · rw [if_pos hq] at h; cases h; exact ⟨q, by simp⟩
    · rw [if_neg hq] at h
      obtain ⟨k, hk⟩ := lookM_mem r h
      exact ⟨k, by simp [hk]⟩
/-- all that is found is no greater than this -/
def smallE (b : Nat) (es : List (Int × VTy)) : Prop := ∀ p ∈ es, p.2.wt ≤ b
theorem smallE.look {b : Nat} {es : List (Int × VTy)} (h : smallE b es) {n : Int} {t : VTy} (ht : lookM n es = some t) : t.wt ≤ b := by
  obtain ⟨k, hk⟩ := lookM_mem es ht
  exact h _ hk
theorem smallE.snoc {b : Nat} {es : List (Int × VTy)} (h : smallE b es) {n : Int} {t : VTy} (ht : t.wt ≤ b) : smallE b (es ++ [(n, t)]) := by
  intro p hp
  rcases List.mem_append.1 hp with hp | hp
  · exact h p hp
  · simp at hp; subst hp; exact ht
mutual
theorem VTy.fit_small {b : Nat} : ∀ (x y : VTy) (es : List (Int × VTy)), smallE b es → y.wt ≤ b → smallE b (x.fit y es).2
  | .mk kd n nm kids, y, es, h, hy => by
    have hw := y.wt_eq
    rw [VTy.fit]
    split
    · split
      · exact h
      · exact h.snoc hy
    · split
      · exact VTy.fits_small kids y.Kids es h fun z hz => by have := le_sum VTy.wt hz; omega
      · exact h
theorem VTy.fits_small {b : Nat} : ∀ (l m : List VTy) (es : List (Int × VTy)), smallE b es → (∀ y ∈ m, y.wt ≤ b) → smallE b (VTy.fits l m es).2
  | x :: l, y :: m, es, h, hy => by
    rw [VTy.fits]
    have h1 := VTy.fit_small x y es h (hy y (by simp))
    split
    · exact VTy.fits_small l m _ h1 fun z hz => hy z (by simp [hz])
    · exact h1
  | [], [], es, h, _ => by simpa [VTy.fits] using h
  | [], _ :: _, es, h, _ => by simpa [VTy.fits] using h
  | _ :: _, [], es, h, _ => by simpa [VTy.fits] using h
end
/- TyVars found -/
theorem VTy.frees_kid {x y : VTy} {k : Int} (hm : y ∈ x.Kids) {n : Int} (h : n ∈ y.frees k) : n ∈ x.frees k := by
  rw [x.frees_eq]
  refine List.mem_append_right _ ?_
  generalize x.Kids = l at hm
  induction l with
  | nil => simp at hm
  | cons a l ih =>
    simp only [VTy.freesL, List.mem_append]
    rcases List.mem_cons.1 hm with rfl | hm
    · exact .inl h
    · exact .inr (ih hm)
theorem addN_nodup {o : List Int} (h : o.Nodup) (n : Int) : (addN o n).Nodup := by
  unfold addN
  split
  · exact h
  · rename_i hn
    rw [hasN_iff] at hn
    exact List.nodup_append.2 ⟨h, by simp, fun a ha b hb => by simp at hb; subst hb; exact fun e => hn (e ▸ ha)⟩
theorem addAll_nodup : ∀ (l o : List Int), o.Nodup → (addAll o l).Nodup
  | [], _, h => h
  | n :: l, o, h => by
    have e : addAll o (n :: l) = addAll (addN o n) l := rfl
    rw [e]; exact addAll_nodup l _ (addN_nodup h n)
def princM (a b : VTy) : Bool := a.okM && b.okM && decide (a.frees 11 = []) && decide (b.frees 11 = []) && (a.fit b []).1
theorem addAll_empty {l : List Int} : (addAll [] l).length = 0 ↔ l = [] := by
  constructor
  · intro h
    cases l with
    | nil => rfl
    | cons n l =>
      have : n ∈ addAll [] (n :: l) := (addAll_mem _ _ _).2 (.inr (by simp))
      rw [List.eq_nil_of_length_eq_zero h] at this
      simp at this
  · rintro rfl; rfl
end Go.Ab
namespace Go.Proofs.Ab
open Go.Ab
set_option maxRecDepth 100000
set_option maxHeartbeats 4000000
theorem spec_l7Small_c (x : VTy) (names : List Int) (hb : x.wt ≤ 1048576) (hl : names.length ≤ 4194304) : PCon Try.prog F.spec_l7Small [x.av, .sl (names.map avI)] (x.small names).av := by
  have hw := x.wt_eq
  have hse := x.small_eq names
  refine T.spec_l7Small_con rfl (by simp only [AV.norefs, AV.noref, VTy.noref, Bool.and_true, Bool.true_and]; exact norI _) ?_
  simp only [T.spec_l7Small, VTy.cells, VTy.isAgg, VTy.storable, WA, Nat.reduceEqDiff, Nat.reduceAdd, Nat.reduceLT, Nat.reduceLeDiff, Nat.reduceMul, reduceIte, reduceCtorEq, Int.reduceEq, Int.reduceLT, Int.reduceLE, Int.reduceNe]
  refine bind_cut [avI (if x.Kind = 9 then idxN x.N names 0 x.N else x.N)] rfl ?_ ?_
  · repeat' (first | (simp (disch := (first | omega | rfl | exact rfl | (simp only [cells_v, List.length_cons, List.length_nil]; done) | exact VTy.width _)) only [hel, hely, hd, hdy, VTy.cells, VTy.isAgg, VTy.storable, VTy.eta, List.length_map, wrapS, wrapA, wrapA1, lt0, WA, Nat.reduceEqDiff, Nat.reduceAdd, Nat.reduceLT, Nat.reduceLeDiff, Nat.reduceMul, reduceIte, reduceCtorEq, Int.reduceEq, Int.reduceLT, Int.reduceLE, Int.reduceNe]) | (simp (disch := (first | omega | rfl | exact rfl | (simp only [cells_v, List.length_cons, List.length_nil]; done) | exact VTy.width _)) only [hel, hd, VTy.cells, VTy.isAgg, VTy.storable, VTy.eta, List.length_map, wrapS, wrapA, wrapA1, lt0, WA, Nat.reduceEqDiff, Nat.reduceAdd, Nat.reduceLT, Nat.reduceLeDiff, Nat.reduceMul, reduceIte, reduceCtorEq, Int.reduceEq, Int.reduceLT, Int.reduceLE, Int.reduceNe]) | (simp (disch := (first | omega | rfl | exact rfl | (simp only [cells_v, List.length_cons, List.length_nil]; done) | exact VTy.width _)) only [hd, hdy, VTy.cells, VTy.isAgg, VTy.storable, VTy.eta, List.length_map, wrapS, wrapA, wrapA1, lt0, WA, Nat.reduceEqDiff, Nat.reduceAdd, Nat.reduceLT, Nat.reduceLeDiff, Nat.reduceMul, reduceIte, reduceCtorEq, Int.reduceEq, Int.reduceLT, Int.reduceLE, Int.reduceNe]) | (simp (disch := (first | omega | rfl | exact rfl | (simp only [cells_v, List.length_cons, List.length_nil]; done) | exact VTy.width _)) only [hix, hd, VTy.cells, VTy.isAgg, VTy.storable, VTy.eta, List.length_map, wrapS, wrapA, wrapA1, lt0, WA, Nat.reduceEqDiff, Nat.reduceAdd, Nat.reduceLT, Nat.reduceLeDiff, Nat.reduceMul, reduceIte, reduceCtorEq, Int.reduceEq, Int.reduceLT, Int.reduceLE, Int.reduceNe]) | (simp (disch := (first | omega | rfl | exact rfl | (simp only [cells_v, List.length_cons, List.length_nil]; done) | exact VTy.width _)) only [hd, VTy.cells, VTy.isAgg, VTy.storable, VTy.eta, List.length_map, wrapS, wrapA, wrapA1, lt0, WA, Nat.reduceEqDiff, Nat.reduceAdd, Nat.reduceLT, Nat.reduceLeDiff, Nat.reduceMul, reduceIte, reduceCtorEq, Int.reduceEq, Int.reduceLT, Int.reduceLE, Int.reduceNe]) | (simp (disch := (first | omega | rfl | exact rfl | (simp only [cells_v, List.length_cons, List.length_nil]; done) | exact VTy.width _)) only [VTy.cells, VTy.isAgg, VTy.storable, VTy.eta, List.length_map, wrapS, wrapA, wrapA1, lt0, WA, Nat.reduceEqDiff, Nat.reduceAdd, Nat.reduceLT, Nat.reduceLeDiff, Nat.reduceMul, reduceIte, reduceCtorEq, Int.reduceEq, Int.reduceLT, Int.reduceLE, Int.reduceNe]) | (refine ite_dec (fun hq => ?_) (fun hq => ?_) <;> (try simp only [hq, decide_true, decide_false, Bool.not_true, Bool.not_false, Bool.not_eq_true', Bool.not_eq_false'])) | (refine ite_ndec (fun hq => ?_) (fun hq => ?_) <;> (try simp only [hq, decide_true, decide_false, Bool.not_true, Bool.not_false, Bool.not_eq_true', Bool.not_eq_false'])) | (refine ite_intro (fun hq => ?_) (fun hq => ?_) <;> (try simp only [hq, decide_true, decide_false, Bool.not_true, Bool.not_false, Bool.not_eq_true', Bool.not_eq_false'])) | (refine bind_push ?_) | (refine loop_list names (fun i (q : Int) => [avI q, avI i]) (fun i rest q => idxN x.N rest i q = idxN x.N names 0 x.N) x.N rfl ?_ (fun i k rest b hi hx hm hel hd hg => ?_) (fun b hd hg => ?_)))
    all_goals first | rfl | skip
    · refine ⟨hi, _, ?_, rfl⟩
      rw [idxN, if_pos (by assumption)] at hg
      exact hg
    · refine ⟨hi, _, ?_, rfl⟩
      rw [idxN, if_neg (by assumption)] at hg
      exact hg
    · rw [← hg]; rfl
  · simp only [VTy.cells, WA, Nat.reduceEqDiff, Nat.reduceAdd, Nat.reduceLT, Nat.reduceLeDiff, Nat.reduceMul, reduceIte, reduceCtorEq, Int.reduceEq, Int.reduceLT, Int.reduceLE, Int.reduceNe]
    refine bind_cut [.sl ((x.Kids.map (VTy.small names)).map VTy.av)] rfl ?_ ?_
    · repeat' (first | (simp (disch := (first | omega | rfl | exact rfl | (simp only [cells_v, List.length_cons, List.length_nil]; done) | exact VTy.width _)) only [hel, hely, hd, hdy, VTy.cells, VTy.isAgg, VTy.storable, VTy.eta, List.length_map, wrapS, wrapA, wrapA1, lt0, WA, Nat.reduceEqDiff, Nat.reduceAdd, Nat.reduceLT, Nat.reduceLeDiff, Nat.reduceMul, reduceIte, reduceCtorEq, Int.reduceEq, Int.reduceLT, Int.reduceLE, Int.reduceNe]) | (simp (disch := (first | omega | rfl | exact rfl | (simp only [cells_v, List.length_cons, List.length_nil]; done) | exact VTy.width _)) only [hel, hd, VTy.cells, VTy.isAgg, VTy.storable, VTy.eta, List.length_map, wrapS, wrapA, wrapA1, lt0, WA, Nat.reduceEqDiff, Nat.reduceAdd, Nat.reduceLT, Nat.reduceLeDiff, Nat.reduceMul, reduceIte, reduceCtorEq, Int.reduceEq, Int.reduceLT, Int.reduceLE, Int.reduceNe]) | (simp (disch := (first | omega | rfl | exact rfl | (simp only [cells_v, List.length_cons, List.length_nil]; done) | exact VTy.width _)) only [hd, hdy, VTy.cells, VTy.isAgg, VTy.storable, VTy.eta, List.length_map, wrapS, wrapA, wrapA1, lt0, WA, Nat.reduceEqDiff, Nat.reduceAdd, Nat.reduceLT, Nat.reduceLeDiff, Nat.reduceMul, reduceIte, reduceCtorEq, Int.reduceEq, Int.reduceLT, Int.reduceLE, Int.reduceNe]) | (simp (disch := (first | omega | rfl | exact rfl | (simp only [cells_v, List.length_cons, List.length_nil]; done) | exact VTy.width _)) only [hix, hd, VTy.cells, VTy.isAgg, VTy.storable, VTy.eta, List.length_map, wrapS, wrapA, wrapA1, lt0, WA, Nat.reduceEqDiff, Nat.reduceAdd, Nat.reduceLT, Nat.reduceLeDiff, Nat.reduceMul, reduceIte, reduceCtorEq, Int.reduceEq, Int.reduceLT, Int.reduceLE, Int.reduceNe]) | (simp (disch := (first | omega | rfl | exact rfl | (simp only [cells_v, List.length_cons, List.length_nil]; done) | exact VTy.width _)) only [hd, VTy.cells, VTy.isAgg, VTy.storable, VTy.eta, List.length_map, wrapS, wrapA, wrapA1, lt0, WA, Nat.reduceEqDiff, Nat.reduceAdd, Nat.reduceLT, Nat.reduceLeDiff, Nat.reduceMul, reduceIte, reduceCtorEq, Int.reduceEq, Int.reduceLT, Int.reduceLE, Int.reduceNe]) | (simp (disch := (first | omega | rfl | exact rfl | (simp only [cells_v, List.length_cons, List.length_nil]; done) | exact VTy.width _)) only [VTy.cells, VTy.isAgg, VTy.storable, VTy.eta, List.length_map, wrapS, wrapA, wrapA1, lt0, WA, Nat.reduceEqDiff, Nat.reduceAdd, Nat.reduceLT, Nat.reduceLeDiff, Nat.reduceMul, reduceIte, reduceCtorEq, Int.reduceEq, Int.reduceLT, Int.reduceLE, Int.reduceNe]) | (refine ite_dec (fun hq => ?_) (fun hq => ?_) <;> (try simp only [hq, decide_true, decide_false, Bool.not_true, Bool.not_false, Bool.not_eq_true', Bool.not_eq_false'])) | (refine ite_ndec (fun hq => ?_) (fun hq => ?_) <;> (try simp only [hq, decide_true, decide_false, Bool.not_true, Bool.not_false, Bool.not_eq_true', Bool.not_eq_false'])) | (refine ite_intro (fun hq => ?_) (fun hq => ?_) <;> (try simp only [hq, decide_true, decide_false, Bool.not_true, Bool.not_false, Bool.not_eq_true', Bool.not_eq_false'])) | (refine bind_push ?_) | (refine loop_list x.Kids (fun i (q : List VTy) => [.sl (q.map VTy.av), avI i]) (fun i rest q => q ++ rest.map (VTy.small names) = x.Kids.map (VTy.small names)) ([] : List VTy) rfl ?_ (fun i k rest b hi hx hm hel hd hg => ?_) (fun b hd hg => ?_)) | (refine call_p (spec_l7Small_c k names (by have := le_sum VTy.wt hm; omega) hl) (VTy.noref _) ?_))
      · have hg' := congrArg List.length hg
        simp at hg'
        refine ⟨fun y hy => by rw [hy]; exact VTy.width _, by omega, by omega, hi, b ++ [k.small names], by rw [← hg]; simp, ?_⟩
        rw [List.map_append]; rfl
      · have hg' : b = x.Kids.map (VTy.small names) := by simpa using hg
        rw [hg']
    · simp only [VTy.cells, cells_v, isCell_v, WA, Nat.reduceEqDiff, Nat.reduceAdd, Nat.reduceLT, Nat.reduceLeDiff, Nat.reduceMul, reduceIte, reduceCtorEq, Int.reduceEq, Int.reduceLT, Int.reduceLE, Int.reduceNe]
      rw [hse]
      exact VTy.eta (.mk x.Kind (if x.Kind = 9 then idxN x.N names 0 x.N else x.N) x.Name (x.Kids.map (VTy.small names)))
termination_by SizeOf.sizeOf x
decreasing_by all_goals exact VTy.Kids_lt hm
end Go.Proofs.Ab
