/-
  CALLS.
-/
import Derived.Test.YtaaoifpijmbhoaaAbSound12
set_option linter.unusedVariables false
set_option linter.unusedSimpArgs false
set_option linter.defProp false
namespace Go.Ab

theorem norefs_mem {xs : List AV} (h : AV.norefs xs = true) : ∀ x ∈ xs, x.noref = true := by
  induction xs with
  | nil => simp
  | cons y ys ih =>
    simp only [AV.norefs, Bool.and_eq_true] at h
    intro x hx
    rcases List.mem_cons.1 hx with rfl | hx
    · exact h.1
    · exact ih h.2 x hx

theorem noref_cells {x : AV} (h : x.noref = true) : ∀ c ∈ x.cells, c.noref = true := by
  cases x <;> simp only [AV.cells] <;> try (intro c hc; simp at hc; subst hc; exact h)
  simp only [AV.noref] at h
  exact norefs_mem h

theorem R.noref {I I' : Imm} {L L' : Nat → Loc} {O O' : List AObj} (hI : ∀ b o x, I b o = some x → I' b o = some x) {a : AV} {x : Value} (hr : R I L O a x) (h : a.noref = true) : R I' L' O' a x := by
  induction hr with
  | top x => exact .top x
  | v x hx => exact .v x hx
  | nils => exact .nils
  | sl0 a cap => exact .sl0 a cap
  | sl xs blk off cap s vals h1 h2 h3 h4 _ ih =>
    refine .sl xs blk off cap s vals h1 h2 h3 (fun i x j c hi hj => ⟨hI _ _ _ (h4 i x j c hi hj).1, (h4 i x j c hi hj).2⟩) fun i x j c hi hj => ih i x j c hi hj ?_
    exact noref_cells (norefs_mem (by simpa [AV.noref] using h) x (List.mem_of_getElem? hi)) c (List.mem_of_getElem? hj)
  | iptr x f blk base vals h1 _ ih =>
    refine .iptr x f blk base vals (fun j c hj => ⟨hI _ _ _ (h1 j c hj).1, (h1 j c hj).2⟩) fun j c hj => ih j c hj ?_
    exact noref_cells (by simpa [AV.noref] using h) c (List.mem_of_getElem? hj)
  | rowLive => simp [AV.noref] at h
  | rowNil => simp [AV.noref] at h
  | rowDead => simp [AV.noref] at h
  | ptrLive => simp [AV.noref] at h
  | ptrDead => simp [AV.noref] at h
  | fn f caps vs h1 _ ih => exact .fn f caps vs h1 fun i c x hi hx => ih i c x hi hx (norefs_mem (by simpa [AV.noref] using h) c (List.mem_of_getElem? hi))
  | agg cs vs h1 _ ih => exact .agg cs vs h1 fun i c x hi hx => ih i c x hi hx (norefs_mem (by simpa [AV.noref] using h) c (List.mem_of_getElem? hi))
  | tup cs vs h1 _ ih => exact .tup cs vs h1 fun i c x hi hx => ih i c x hi hx (norefs_mem (by simpa [AV.noref] using h) c (List.mem_of_getElem? hi))

/-- what is known where nothing is owned names nothing that is owned -/
theorem R.of_nil {I : Imm} {L L' : Nat → Loc} {O' : List AObj} {a : AV} {x : Value} (hr : R I L [] a x) : R I L' O' a x := by
  generalize hO : ([] : List AObj) = O at hr
  induction hr with
  | top x => exact .top x
  | v x hx => exact .v x hx
  | nils => exact .nils
  | sl0 a cap => exact .sl0 a cap
  | sl xs blk off cap s vals h1 h2 h3 h4 _ ih => exact .sl xs blk off cap s vals h1 h2 h3 h4 fun i x j c hi hj => ih i x j c hi hj
  | iptr x f blk base vals h1 _ ih => exact .iptr x f blk base vals h1 fun j c hj => ih j c hj
  | rowLive n len e s xs hn => subst hO; simp at hn
  | rowNil n e s hn => subst hO; simp at hn
  | rowDead n len x hn => subst hO; simp at hn
  | ptrLive n len i f e s xs hn => subst hO; simp at hn
  | ptrDead n len i f x hn => subst hO; simp at hn
  | fn f caps vs h1 _ ih => exact .fn f caps vs h1 fun i c x hi hx => ih i c x hi hx
  | agg cs vs h1 _ ih => exact .agg cs vs h1 fun i c x hi hx => ih i c x hi hx
  | tup cs vs h1 _ ih => exact .tup cs vs h1 fun i c x hi hx => ih i c x hi hx

theorem flat_noref {a : AV} (h : a.flat = true) : a.noref = true := by
  cases a <;> simp only [AV.flat] at h <;> first | rfl | (simp at h; done) | skip
  rename_i vs
  simp only [AV.noref]
  induction vs with
  | nil => rfl
  | cons y ys ih =>
    simp only [List.all_cons, Bool.and_eq_true] at h
    simp only [AV.norefs, Bool.and_eq_true]
    refine ⟨?_, ih h.2⟩
    cases y <;> first | rfl | (simp at h; done)

theorem R.flat {I I' : Imm} {L L' : Nat → Loc} {O O' : List AObj} {a : AV} {x : Value} (hr : R I L O a x) (h : a.flat = true) : R I' L' O' a x := by
  cases hr <;> simp only [AV.flat] at h <;> first | (simp at h; done) | skip
  · exact .v _ (by assumption)
  · rename_i cs vs h1 h2
    refine .tup _ _ h1 fun i c x hc hx => ?_
    have hm := List.all_eq_true.1 h c (List.mem_of_getElem? hc)
    have hr := h2 i c x hc hx
    cases c <;> simp at hm
    cases hr; exact .v _ (by assumption)

theorem killRow_length (O : List AObj) (a : AV) : (killRow O a).length = O.length := by
  cases a <;> simp [killRow]

theorem kill_length (as : List AV) (O : List AObj) : (as.foldl killRow O).length = O.length := by
  induction as generalizing O with
  | nil => rfl
  | cons a as ih => simp [ih, killRow_length]

theorem kill_live (as : List AV) (O : List AObj) {n e s : Nat} {xs : List AV} (h : (as.foldl killRow O)[n]? = some (.live e s xs)) :
    O[n]? = some (.live e s xs) ∧ ∀ len, AV.row n len ∉ as := by
  induction as generalizing O with
  | nil => exact ⟨h, by simp⟩
  | cons a as ih =>
    obtain ⟨h1, h2⟩ := ih (killRow O a) h
    cases a <;> simp only [killRow] at h1 <;> try exact ⟨h1, fun len hm => by rcases List.mem_cons.1 hm with h3 | h3; cases h3; exact h2 len h3⟩
    rename_i m ml
    rw [List.getElem?_set] at h1
    by_cases hm : m = n
    · subst hm; simp at h1
    · rw [if_neg hm] at h1
      refine ⟨h1, fun len hmem => ?_⟩
      rcases List.mem_cons.1 hmem with h3 | h3
      · cases h3; exact hm rfl
      · exact h2 len h3

section
variable {P : Program} {I : Imm} {L : Nat → Loc} {O : List AObj} {w : World}

open Classical in
/-- what is lent to a call: the rows among its arguments -/
noncomputable def lent (I : Imm) (L : Nat → Loc) (O : List AObj) (w : World) (as : List AV) : Imm := fun b o =>
  if (∃ (n len e s : Nat) (xs : List AV), AV.row n len ∈ as ∧ O[n]? = some (.live e s xs) ∧ xs.length = len ∧ (L n).blk = b) then w.cell? ⟨b, o, none⟩ else I b o

theorem kill_nil (as : List AV) (O : List AObj) {n e s : Nat} (h : (as.foldl killRow O)[n]? = some (.nil e s)) : O[n]? = some (.nil e s) := by
  induction as generalizing O with
  | nil => exact h
  | cons a as ih =>
    have h0 := ih _ h
    cases a <;> try exact h0
    simp only [killRow, List.getElem?_set] at h0
    split at h0
    · split at h0 <;> cases h0
    · exact h0

theorem lent_le (hi : Inv I L O w) (as : List AV) : ∀ b o x, I b o = some x → lent I L O w as b o = some x := by
  intro b o x hx
  unfold lent
  split
  · exact hi.imm b o x hx
  · exact hx

theorem lent_row (hi : Inv I L O w) {as : List AV} {n len : Nat} (hm : AV.row n len ∈ as) {e s : Nat} {xs : List AV} (hO : O[n]? = some (.live e s xs)) (hl : xs.length = len) (o : Nat) :
    lent I L O w as (L n).blk o = w.cell? ⟨(L n).blk, o, none⟩ := by
  unfold lent
  rw [if_pos ⟨n, len, e, s, xs, hm, hO, hl, rfl⟩]

theorem frz_sound (hi : Inv I L O w) {as : List AV} {a : AV} (ha : a ∈ as) {x : Value} (hr : R I L O a x) (hn : (frz O a).noref = true) : R (lent I L O w as) L [] (frz O a) x := by
  have hle := lent_le hi as
  cases a
  case row n len =>
    simp only [frz] at hn ⊢
    cases hO : O[n]? with
    | none => simp only [hO] at hn; simp [AV.noref] at hn
    | some ob =>
      cases ob with
      | dead => simp only [hO] at hn; simp [AV.noref] at hn
      | nil e s =>
        simp only [hO] at hn ⊢
        obtain ⟨rfl, rfl⟩ := hr.row_nil hO
        rw [if_pos rfl]
        exact .sl0 _ _
      | live e s xs =>
        simp only [hO] at hn ⊢
        by_cases hl : xs.length = len
        · rw [if_pos hl] at hn ⊢
          have := hr.row_live hO hl
          subst this
          obtain ⟨c, h1, h2, h3, h4, h5, h6⟩ := hi.obj n e s xs hO
          by_cases hx : xs = []
          · subst hx; simp at hl; subst hl; exact .sl0 _ _
          · subst hl
            refine (.sl xs (L n).blk 0 (L n).cap s (fun i j => (c[i * s + j]?).getD undef) h3 hx (fun i x hx => (h6 i x hx).1) (fun i x j d hx hj => ?_) fun i x j d hx hj => ?_)
            · obtain ⟨y, hy, ho, _⟩ := (h6 i x hx).2 j d hj
              rw [lent_row hi ha hO rfl, Nat.zero_add, cell_cells h1, hy]
              exact ⟨rfl, ho⟩
            · obtain ⟨y, hy, ho, hr'⟩ := (h6 i x hx).2 j d hj
              rw [hy]
              exact hr'.noref hle (noref_cells (norefs_mem (by simpa [AV.noref] using hn) x (List.mem_of_getElem? hx)) d (List.mem_of_getElem? hj))
        · rw [if_neg hl] at hn; simp [AV.noref] at hn
  all_goals exact hr.noref hle hn

theorem pcall_sound {f : FuncId} {as caps : List AV} {vs : Array Value} {res : AV} (hi : Inv I L O w) (hr : RL I L O (as ++ caps) vs) (hn : AV.norefs (as.map (frz O) ++ caps) = true) (hc : PCon P f (as.map (frz O) ++ caps) res) :
    Calls P f vs w fun e w' => ∃ y I' L', e = .returned y ∧ R I' L' (aft O as res) res y ∧ Good I L O w I' L' (aft O as res) w' := by
  have hle := lent_le hi as
  have hinv : Inv (lent I L O w as) L [] w := by
    refine ⟨fun b o x hx => ?_, by simp, by simp, by simp⟩
    unfold lent at hx
    split at hx
    · exact hx
    · exact hi.imm b o x hx
  have hargs : RL (lent I L O w as) L [] (as.map (frz O) ++ caps) vs := by
    refine ⟨by have := hr.1; simpa using this, fun i a x ha hx => ?_⟩
    have hna := norefs_mem hn a (List.mem_of_getElem? ha)
    by_cases hlt : i < as.length
    · rw [List.getElem?_append_left (by simpa using hlt)] at ha
      simp only [List.getElem?_map, Option.map_eq_some_iff] at ha
      obtain ⟨a0, ha0, rfl⟩ := ha
      exact frz_sound hi (List.mem_of_getElem? ha0) (hr.2 i a0 x (by rw [List.getElem?_append_left hlt]; exact ha0) hx) hna
    · rw [List.getElem?_append_right (by simp; omega)] at ha
      simp only [List.length_map] at ha
      exact (hr.2 i a x (by rw [List.getElem?_append_right (by omega)]; exact ha) hx).noref hle hna
  refine (hc.2 _ _ _ _ hinv hargs).mono ?_
  rintro e w' ⟨y, I', L', rfl, hry, hg⟩
  have hblk : ∀ b, b < w.heap.size → w'.heap[b]? = w.heap[b]? := fun b hb => hg.frm.block b hb (fun ⟨n, e, s, xs, h, _⟩ => by simp at h)
  have hold : ∀ {n e s xs}, O[n]? = some (.live e s xs) → (L n).blk < w.heap.size := by
    intro n e s xs h
    obtain ⟨c, h1, _⟩ := hi.obj n e s xs h
    exact (Array.getElem?_eq_some_iff.1 h1).1
  by_cases hf : res.flat = true
  · rw [aft, if_pos hf]
    refine ⟨y, I, L, rfl, hry.flat hf, ⟨⟨fun b o x hx => ?_, fun n e s xs hn => ?_, hi.sep, hi.immSep⟩, .refl _ _ _, ⟨hg.frm.os, hg.frm.tape, hg.frm.output, hg.frm.size, fun b hb _ => hblk b hb⟩, fun _ h => .inl h, fun _ _ _ h => .inl h⟩⟩
    · have := hi.imm b o x hx
      rw [← this]
      exact World.cell?_of_block (a := ⟨b, o, none⟩) (hblk b (cell_block this))
    · exact (hi.obj n e s xs hn).congr (hblk _ (hold hn)) fun _ _ h => h
  · rw [aft, if_neg hf]
    have hle' : ∀ b o x, I b o = some x → I' b o = some x := fun b o x h => hg.ext.imm _ _ _ (hle b o x h)
    have hext : Ext I L O I' L (as.foldl killRow O) := ⟨hle', by rw [kill_length]; exact Nat.le_refl _, fun n _ e s xs h => .inl ⟨xs, (kill_live as O h).1, Nat.le_refl _, fun _ => rfl⟩, fun n _ e s h => kill_nil as O h⟩
    have hnew : ∀ b o x, I' b o = some x → I b o = some x ∨ (∃ (n len e s : Nat) (xs : List AV), AV.row n len ∈ as ∧ O[n]? = some (.live e s xs) ∧ xs.length = len ∧ (L n).blk = b) ∨ w.heap.size ≤ b := by
      intro b o x h
      rcases hg.immNew b o x h with h1 | ⟨n, e, s, xs, h1, _⟩ | h1
      · unfold lent at h1
        split at h1
        · rename_i hh; exact .inr (.inl hh)
        · exact .inl h1
      · simp at h1
      · exact .inr (.inr h1)
    refine ⟨y, I', L, rfl, hry.of_nil, ⟨⟨hg.inv.imm, fun n e s xs hn => ?_, fun n m e s xs e' s' ys h1 h2 => hi.sep n m _ _ _ _ _ _ (kill_live as O h1).1 (kill_live as O h2).1, fun n e s xs o h => ?_⟩, hext, ⟨hg.frm.os, hg.frm.tape, hg.frm.output, hg.frm.size, fun b hb _ => hblk b hb⟩, ?_, ?_⟩⟩
    · have h0 := (kill_live as O hn).1
      exact (hi.obj n e s xs h0).congr (hblk _ (hold h0)) fun _ _ h => h.mono hext
    · obtain ⟨h0, h1⟩ := kill_live as O h
      cases hx : I' (L n).blk o with
      | none => rfl
      | some x =>
        rcases hnew _ _ _ hx with h2 | ⟨m, len, e', s', xs', h2, h3, h4, h5⟩ | h2
        · rw [hi.immSep n e s xs o h0] at h2; cases h2
        · have := hi.sep m n _ _ _ _ _ _ h3 h0 h5
          subst this
          exact (h1 len h2).elim
        · have := hold h0; omega
    · rintro b ⟨n, e, s, xs, h, hb⟩
      exact .inl ⟨n, e, s, xs, (kill_live as O h).1, hb⟩
    · intro b o x h
      rcases hnew b o x h with h1 | ⟨n, len, e, s, xs, _, h2, _, h3⟩ | h1
      · exact .inl h1
      · exact .inr (.inl ⟨n, e, s, xs, h2, h3⟩)
      · exact .inr (.inr h1)

end
end Go.Ab
