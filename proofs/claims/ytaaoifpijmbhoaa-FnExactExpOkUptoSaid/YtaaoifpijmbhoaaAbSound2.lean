/-
  How memory is handed on: an object that is new, or written, or moved.
-/
import Derived.Test.YtaaoifpijmbhoaaAbSound1
set_option linter.unusedVariables false
set_option linter.unusedSimpArgs false
set_option linter.defProp false
namespace Go.Ab

theorem cell_block {w : World} {b o : Nat} {x : Value} (h : w.cell? ⟨b, o, none⟩ = some x) : b < w.heap.size := by
  unfold World.cell? at h
  split at h
  · rename_i c e f hh; exact (Array.getElem?_eq_some_iff.1 hh).1
  · cases h

theorem cell_cells {w : World} {b o : Nat} {c : Array Value} {e : TypeId} {f : Nat × Nat} (h : w.heap[b]? = some (.cells c e f)) : w.cell? ⟨b, o, none⟩ = c[o]? := by
  simp [World.cell?, h]

theorem ObjOk.congr {I I' : Imm} {L L' : Nat → Loc} {O O' : List AObj} {w w' : World} {l : Loc} {e s : Nat} {xs : List AV} (h : ObjOk I L O w l e s xs)
    (hb : w'.heap[l.blk]? = w.heap[l.blk]?) (hr : ∀ a x, R I L O a x → R I' L' O' a x) : ObjOk I' L' O' w' l e s xs := by
  obtain ⟨c, h1, h2, h3, h4, h5, h6⟩ := h
  refine ⟨c, hb.trans h1, h2, h3, h4, h5, fun i x hx => ⟨(h6 i x hx).1, fun j a ha => ?_⟩⟩
  obtain ⟨y, hy, ho, hr'⟩ := (h6 i x hx).2 j a ha
  exact ⟨y, hy, ho, hr _ _ hr'⟩

theorem Good.refl {I : Imm} {L : Nat → Loc} {O : List AObj} {w : World} (h : Inv I L O w) : Good I L O w I L O w :=
  ⟨h, .refl _ _ _, .refl _ _, fun _ h => .inl h, fun _ _ _ h => .inl h⟩

theorem Good.trans {I I' I'' : Imm} {L L' L'' : Nat → Loc} {O O' O'' : List AObj} {w w' w'' : World} (h : Good I L O w I' L' O' w') (k : Good I' L' O' w' I'' L'' O'' w'') : Good I L O w I'' L'' O'' w'' :=
  ⟨k.inv, h.ext.trans k.ext, h.frm.trans k.frm h.lb, fun b hb => by
    rcases k.lb b hb with h1 | h1
    · exact h.lb b h1
    · exact .inr (Nat.le_trans h.frm.size h1), fun b o x hx => by
    rcases k.immNew b o x hx with h1 | h1 | h1
    · exact h.immNew b o x h1
    · exact .inr (h.lb b h1)
    · exact .inr (.inr (Nat.le_trans h.frm.size h1))⟩

/-- a draw changes nothing. -/
theorem Good.drawn {I : Imm} {L : Nat → Loc} {O : List AObj} {w : World} (h : Inv I L O w) (k : Nat) : Good I L O w I L O { w with drawn := k } :=
  ⟨⟨h.imm, h.obj, h.sep, h.immSep⟩, .refl _ _ _, ⟨rfl, rfl, rfl, Nat.le_refl _, fun _ _ _ => rfl⟩, fun _ h => .inl h, fun _ _ _ h => .inl h⟩

theorem Inv.put {I : Imm} {L : Nat → Loc} {O O' : List AObj} {w w' : World} {n : Nat} {l : Loc} {e s : Nat} {xs : List AV} (h : Inv I L O w)
    (hO : ∀ k : Nat, O'[k]? = if k = n then some (.live e s xs) else O[k]?) (hlen : O.length ≤ O'.length)
    (hw : ∀ b, b < w.heap.size → b ≠ l.blk → w'.heap[b]? = w.heap[b]?)
    (hos : w'.os = w.os) (htape : w'.tape = w.tape) (hout : w'.output = w.output) (hsize : w.heap.size ≤ w'.heap.size)
    (hl : w.heap.size ≤ l.blk ∨ ∃ e s xs, O[n]? = some (.live e s xs) ∧ (L n).blk = l.blk)
    (hok : ObjOk I L O w' l e s xs)
    (hold : n < O.length → (∃ ys, O[n]? = some (.live e s ys) ∧ ys.length ≤ xs.length ∧ (ys.length = xs.length → l = L n)) ∨ (O[n]? = some (.nil e s) ∧ xs ≠ [])) :
    Good I L O w I (fun k => if k = n then l else L k) O' w' := by
  have hext : Ext I L O I (fun k => if k = n then l else L k) O' := by
    refine ⟨fun _ _ _ h => h, hlen, fun k hk e' s' xs' hx => ?_, fun k hk e' s' hx => ?_⟩
    · rw [hO] at hx
      by_cases hkn : k = n
      · subst hkn
        rw [if_pos rfl] at hx
        cases hx
        rcases hold hk with ⟨ys, h1, h2, h3⟩ | h1
        · exact .inl ⟨ys, h1, h2, fun he => by simp [h3 he]⟩
        · exact .inr h1
      · rw [if_neg hkn] at hx
        exact .inl ⟨xs', hx, Nat.le_refl _, fun _ => by simp [hkn]⟩
    · rw [hO] at hx
      by_cases hkn : k = n
      · rw [if_pos hkn] at hx; cases hx
      · rwa [if_neg hkn] at hx
  have hlt : ∀ {b o x}, I b o = some x → b < w.heap.size ∧ b ≠ l.blk := by
    intro b o x hx
    have hb := cell_block (h.imm b o x hx)
    refine ⟨hb, fun he => ?_⟩
    rcases hl with h1 | ⟨e', s', xs', h1, h2⟩
    · omega
    · have := h.immSep n e' s' xs' o h1
      rw [h2, ← he, hx] at this; cases this
  have hblk : ∀ {k : Nat} {e' s' xs'}, O[k]? = some (.live e' s' xs') → (L k).blk < w.heap.size := by
    intro k e' s' xs' hk
    obtain ⟨c, hc, _⟩ := h.obj k e' s' xs' hk
    exact (Array.getElem?_eq_some_iff.1 hc).1
  have hne : ∀ {k : Nat} {e' s' xs'}, O[k]? = some (.live e' s' xs') → k ≠ n → (L k).blk ≠ l.blk := by
    intro k e' s' xs' hk hkn he
    rcases hl with h1 | ⟨e'', s'', xs'', h1, h2⟩
    · have := hblk hk; omega
    · exact hkn (h.sep k n _ _ _ _ _ _ hk h1 (he.trans h2.symm))
  refine ⟨⟨?_, ?_, ?_, ?_⟩, hext, ⟨hos, htape, hout, hsize, ?_⟩, ?_, fun _ _ _ h => .inl h⟩
  · intro b o x hx
    obtain ⟨h1, h2⟩ := hlt hx
    rw [← h.imm b o x hx]
    exact World.cell?_of_block (a := ⟨b, o, none⟩) (hw b h1 h2)
  · intro k e' s' xs' hk
    rw [hO] at hk
    by_cases hkn : k = n
    · subst hkn
      rw [if_pos rfl] at hk
      cases hk
      simp only [if_true]
      exact hok.congr rfl fun a x => R.mono hext
    · rw [if_neg hkn] at hk
      simp only [if_neg hkn]
      exact (h.obj k e' s' xs' hk).congr (hw _ (hblk hk) (hne hk hkn)) fun a x => R.mono hext
  · intro k m e1 s1 xs1 e2 s2 xs2 hk hm hb
    rw [hO] at hk hm
    by_cases hkn : k = n <;> by_cases hmn : m = n
    · omega
    · subst hkn
      simp only [if_true, if_neg hmn] at hb hm
      exact (hne hm hmn hb.symm).elim
    · subst hmn
      simp only [if_true, if_neg hkn] at hb hk
      exact (hne hk hkn hb).elim
    · simp only [if_neg hkn, if_neg hmn] at hb hk hm
      exact h.sep k m _ _ _ _ _ _ hk hm hb
  · intro k e1 s1 xs1 o hk
    rw [hO] at hk
    by_cases hkn : k = n
    · subst hkn
      simp only [if_true]
      cases hx : I l.blk o with
      | none => rfl
      | some x => exact ((hlt hx).2 rfl).elim
    · simp only [if_neg hkn] at hk ⊢
      exact h.immSep k _ _ _ o hk
  · intro b hb hn
    refine hw b hb fun he => ?_
    rcases hl with h1 | ⟨e', s', xs', h1, h2⟩
    · omega
    · exact hn ⟨n, e', s', xs', h1, h2.trans he.symm⟩
  · rintro b ⟨k, e', s', xs', hk, hb⟩
    rw [hO] at hk
    by_cases hkn : k = n
    · subst hkn
      simp only [if_true] at hb
      subst hb
      rcases hl with h1 | ⟨e', s', xs', h1, h2⟩
      · exact .inr h1
      · exact .inl ⟨k, e', s', xs', h1, h2⟩
    · simp only [if_neg hkn] at hk hb
      exact .inl ⟨k, e', s', xs', hk, hb⟩

/-- A new object. -/
theorem Inv.new {I : Imm} {L : Nat → Loc} {O : List AObj} {w : World} (h : Inv I L O w) {e s : Nat} {xs : List AV} (c : Array Value) (cap : Nat)
    (hc : c.size = cap * s) (hx : xs.length ≤ cap) (hm : cap ≤ maxLen) (hs : 0 < s)
    (hr : ∀ (i : Nat) x, xs[i]? = some x → x.cells.length = s ∧ ∀ (j : Nat) a, x.cells[j]? = some a → ∃ y, c[i * s + j]? = some y ∧ y.oneCell' = true ∧ R I L O a y) :
    Good I L O w I (fun k => if k = O.length then ⟨w.heap.size, cap⟩ else L k) (O ++ [.live e s xs]) (w.alloc (.cells c e)) := by
  refine h.put (n := O.length) (l := ⟨w.heap.size, cap⟩) (e := e) (s := s) (xs := xs) (w' := w.alloc (.cells c e)) ?_ (by simp) ?_ rfl rfl rfl (by simp) (.inl (Nat.le_refl _)) ?_ (by omega)
  · intro k
    by_cases hk : k = O.length
    · subst hk; simp
    · rw [if_neg hk, List.getElem?_append]
      split
      · rfl
      · rw [List.getElem?_eq_none (by simp; omega), List.getElem?_eq_none (by omega)]
  · intro b hb _
    exact heap_alloc_old w _ b hb
  · exact ⟨c, heap_alloc_new w _, hc, hx, hm, hs, hr⟩

end Go.Ab
