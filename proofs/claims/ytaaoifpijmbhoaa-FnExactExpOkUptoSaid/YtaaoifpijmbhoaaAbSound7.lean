/-
  APPEND.
-/
import Derived.Test.YtaaoifpijmbhoaaAbSound6
set_option linter.unusedVariables false
set_option linter.unusedSimpArgs false
set_option linter.defProp false
namespace Go.Ab

section
variable {P : Program} {I : Imm} {L : Nat → Loc} {O : List AObj} {w : World} {K : AV → List AObj → Prop} {e : Env} {a : Act}

/-- where a source's cells lie -/
theorem src_inv {y : AV} {v : Value} (hi : Inv I L O w) (hr : R I L O y v) {M : List AV → Prop} (h : srcK O y M) :
    ∃ ys ya c, M ys ∧ v = .slice ya ys.length c ∧ ∀ s, (∀ x ∈ ys, x.cells.length = s) → ys ≠ [] → ∃ b o, ya = some ⟨b, o, none⟩ ∧
      ∀ (i : Nat) x, ys[i]? = some x → ∀ (j : Nat) d, x.cells[j]? = some d → ∃ u, w.cell? ⟨b, o + (i * s + j), none⟩ = some u ∧ u.oneCell' = true ∧ R I L O d u := by
  unfold srcK at h
  split at h
  · cases hr; exact ⟨[], none, 0, h, rfl, fun s _ h => (h rfl).elim⟩
  · rename_i ys
    cases hr with
    | sl0 ya cap => exact ⟨[], ya, cap, h, rfl, fun s _ h => (h rfl).elim⟩
    | sl _ blk off cap s vals h1 h2 h3 h4 h5 =>
      refine ⟨ys, _, cap, h, rfl, fun s' hs' hne => ⟨blk, off, rfl, fun i x hx j d hj => ?_⟩⟩
      have hss : s = s' := by rw [← h3 i x hx, hs' x (List.mem_of_getElem? hx)]
      subst hss
      obtain ⟨h6, h7⟩ := h4 i x j d hx hj
      exact ⟨vals i j, by rw [← Nat.add_assoc]; exact hi.imm _ _ _ h6, h7, h5 i x j d hx hj⟩
  · rename_i n len
    split at h
    · rename_i t s0 xs hn
      obtain ⟨rfl, h⟩ := h
      have hv := hr.row_live hn rfl
      subst hv
      · refine ⟨xs, _, _, h, rfl, fun s hs hne => ⟨_, 0, rfl, fun i x hx j d hj => ?_⟩⟩
        obtain ⟨c, h1, h2, h3, h4, h5, h6⟩ := hi.obj n t s0 xs hn
        obtain ⟨h7, h8⟩ := h6 i x hx
        have hss : s0 = s := by rw [← h7, hs x (List.mem_of_getElem? hx)]
        subst hss
        obtain ⟨u, hu, ho, hru⟩ := h8 j d hj
        exact ⟨u, by rw [Nat.zero_add, cell_cells h1]; exact hu, ho, hru⟩
    · rename_i t s0 hn
      obtain ⟨rfl, h⟩ := h
      obtain ⟨rfl, _⟩ := hr.row_nil hn
      exact ⟨[], none, 0, h, rfl, fun s _ h => (h rfl).elim⟩
    · exact h.elim
  · exact h.elim

/-- the cells of the source, as a list -/
def newsOf (w : World) (b o n : Nat) : List Value := (List.range n).map fun k => (w.cell? ⟨b, o + k, none⟩).getD undef

theorem split_idx {k n s : Nat} (h : k < n * s) : k / s < n ∧ k % s < s ∧ k / s * s + k % s = k := by
  have hs : 0 < s := by rcases Nat.eq_zero_or_pos s with rfl | h0; simp at h; exact h0
  exact ⟨(Nat.div_lt_iff_lt_mul hs).2 h, Nat.mod_lt _ hs, by rw [Nat.mul_comm]; exact Nat.div_add_mod k s⟩

theorem newsOf_spec {ys : List AV} {s b o : Nat} (hs : ∀ x ∈ ys, x.cells.length = s)
    (h : ∀ (i : Nat) x, ys[i]? = some x → ∀ (j : Nat) d, x.cells[j]? = some d → ∃ u, w.cell? ⟨b, o + (i * s + j), none⟩ = some u ∧ u.oneCell' = true ∧ R I L O d u) :
    (newsOf w b o (ys.length * s)).length = ys.length * s ∧
    (∀ (j : Nat) u, (newsOf w b o (ys.length * s))[j]? = some u → w.cell? ((⟨b, o, none⟩ : Addr).add j) = some u) ∧
    (∀ u ∈ newsOf w b o (ys.length * s), u.oneCell' = true) ∧
    RRow I L O s ys (newsOf w b o (ys.length * s)).toArray := by
  have hget : ∀ k, k < ys.length * s → ∃ u, w.cell? ⟨b, o + k, none⟩ = some u ∧ u.oneCell' = true ∧ (newsOf w b o (ys.length * s))[k]? = some u := by
    intro k hk
    obtain ⟨h1, h2, h3⟩ := split_idx hk
    have hx : ys[k / s]? = some ys[k / s] := by simp [h1]
    have hl := hs _ (List.mem_of_getElem? hx)
    obtain ⟨u, hu, ho, _⟩ := h _ _ hx (k % s) (ys[k / s].cells[k % s]'(by omega)) (by simp [hl, h2])
    rw [h3] at hu
    refine ⟨u, hu, ho, ?_⟩
    simp [newsOf, hk, hu]
  refine ⟨by simp [newsOf], fun j u hu => ?_, fun u hu => ?_, fun i x hx => ⟨hs x (List.mem_of_getElem? hx), fun j d hj => ?_⟩⟩
  · have hj : j < ys.length * s := by have := (List.getElem?_eq_some_iff.1 hu).1; simpa [newsOf] using this
    obtain ⟨u', h1, h2, h3⟩ := hget j hj
    rw [h3] at hu; cases hu
    rw [add_lit]; exact h1
  · obtain ⟨j, hj⟩ := List.getElem?_of_mem hu
    have hjl : j < ys.length * s := by have := (List.getElem?_eq_some_iff.1 hj).1; simpa [newsOf] using this
    obtain ⟨u', h1, h2, h3⟩ := hget j hjl
    rw [h3] at hj; cases hj; exact h2
  · obtain ⟨u, hu, ho, hr⟩ := h i x hx j d hj
    have hlt : i * s + j < ys.length * s := idx_lt (List.getElem?_eq_some_iff.1 hx).1 (by rw [← hs x (List.mem_of_getElem? hx)]; exact (List.getElem?_eq_some_iff.1 hj).1)
    refine ⟨u, ?_, ho, hr⟩
    simp [newsOf, hlt, hu]

theorem RRow.append {s : Nat} {xs ys : List AV} {c d : Array Value} (hx : RRow I L O s xs c) (hy : RRow I L O s ys d) (r : List Value) (olds : List Value)
    (ho : olds.length = xs.length * s) (hoc : ∀ (k : Nat), k < xs.length * s → olds[k]? = c[k]?) :
    RRow I L O s (xs ++ ys) (olds ++ d.toList ++ r).toArray := by
  intro i x hi
  by_cases h : i < xs.length
  · rw [List.getElem?_append_left h] at hi
    obtain ⟨h1, h2⟩ := hx i x hi
    refine ⟨h1, fun j u hj => ?_⟩
    obtain ⟨y, hy', ho', hr⟩ := h2 j u hj
    have hjs : j < s := by rw [← h1]; exact (List.getElem?_eq_some_iff.1 hj).1
    have hlt : i * s + j < xs.length * s := idx_lt h hjs
    refine ⟨y, ?_, ho', hr⟩
    simp only [List.getElem?_toArray]
    rw [List.append_assoc, List.getElem?_append_left (by omega), hoc _ hlt, hy']
  · rw [List.getElem?_append_right (by omega)] at hi
    obtain ⟨h1, h2⟩ := hy _ x hi
    refine ⟨h1, fun j u hj => ?_⟩
    obtain ⟨y, hy', ho', hr⟩ := h2 j u hj
    have he : i * s + j = xs.length * s + ((i - xs.length) * s + j) := by
      rw [← Nat.add_assoc, ← Nat.add_mul]; congr 2; omega
    have hlt : (i - xs.length) * s + j < d.toList.length := by
      have := (Array.getElem?_eq_some_iff.1 hy').1; simpa using this
    refine ⟨y, ?_, ho', hr⟩
    simp only [List.getElem?_toArray]
    rw [List.append_assoc, he, List.getElem?_append_right (by omega), ho, Nat.add_sub_cancel_left, List.getElem?_append_left hlt, Array.getElem?_toList, hy']

end
end Go.Ab
