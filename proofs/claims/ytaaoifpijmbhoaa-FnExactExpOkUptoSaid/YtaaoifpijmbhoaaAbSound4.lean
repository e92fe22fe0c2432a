/-
  Filling a row of cells; the operations that build.
-/
import Derived.Test.YtaaoifpijmbhoaaAbSound3
set_option linter.unusedVariables false
set_option linter.unusedSimpArgs false
set_option linter.defProp false
namespace Go.Ab

theorem foldl_set_size (vs : List (Value × Nat)) (off : Nat) (cells : Array Value) :
    (vs.foldl (fun cs (p : Value × Nat) => cs.setIfInBounds (off + p.2) p.1) cells).size = cells.size := by
  induction vs generalizing cells with
  | nil => rfl
  | cons a l ih => simp [ih]

theorem foldl_set_get (vs : List Value) (off : Nat) : ∀ (k : Nat) (cells : Array Value), off + k + vs.length ≤ cells.size → ∀ j : Nat,
    ((vs.zipIdx k).foldl (fun cs (p : Value × Nat) => cs.setIfInBounds (off + p.2) p.1) cells)[j]? = if off + k ≤ j ∧ j < off + k + vs.length then vs[j - (off + k)]? else cells[j]? := by
  induction vs with
  | nil =>
    intro k cells h j
    rw [if_neg (by simp only [List.length_nil]; omega)]; rfl
  | cons a l ih =>
    intro k cells h j
    simp only [List.zipIdx_cons, List.foldl_cons, List.length_cons] at h ⊢
    rw [ih (k + 1) _ (by simp; omega)]
    by_cases h1 : off + (k + 1) ≤ j ∧ j < off + (k + 1) + l.length
    · rw [if_pos h1, if_pos (by omega)]
      rw [show j - (off + k) = (j - (off + (k + 1))) + 1 by omega, List.getElem?_cons_succ]
    · rw [if_neg h1, Array.getElem?_setIfInBounds]
      by_cases h2 : off + k = j
      · subst h2
        rw [if_pos rfl, if_pos (by omega), if_pos (by omega)]
        simp
      · rw [if_neg h2, if_neg (by omega)]

/-- one part laid into cells -/
def lay (off : Nat) (vs : List Value) (cells : Array Value) : Array Value := (vs.zipIdx.foldl (fun cs (p : Value × Nat) => cs.setIfInBounds (off + p.2) p.1) cells)

theorem lay_size (off : Nat) (vs : List Value) (cells : Array Value) : (lay off vs cells).size = cells.size := foldl_set_size _ _ _

theorem lay_get {off : Nat} {vs : List Value} {cells : Array Value} (h : off + vs.length ≤ cells.size) (j : Nat) :
    (lay off vs cells)[j]? = if off ≤ j ∧ j < off + vs.length then vs[j - off]? else cells[j]? := by
  have := foldl_set_get vs off 0 cells (by omega) j
  simpa [lay] using this

theorem fill_cons {place : Nat → Option (Nat × Nat)} {cells : Array Value} {i off size : Nat} {v : Value} {rest : List (Nat × Value)} (hp : place i = some (off, size)) (hs : v.cells.size = size) (hf : off + size ≤ cells.size) :
    Instr.fill place cells ((i, v) :: rest) = Instr.fill place (lay off v.cells.toList cells) rest := by
  rw [Instr.fill, hp]
  simp only [hs, ne_eq, not_true_eq_false, decide_false, Bool.false_or, decide_eq_true_eq]
  rw [if_neg (by omega)]
  congr 1
  rw [lay, ← Array.foldl_toList, Array.toList_zipIdx]

section
variable {P : Program} {I : Imm} {L : Nat → Loc} {O : List AObj} {w : World}

/-- cells that read as abstract cells -/
def RCs (I : Imm) (L : Nat → Loc) (O : List AObj) (cs : List AV) (vs : Array Value) : Prop :=
  cs.length = vs.size ∧ ∀ (j : Nat) c y, cs[j]? = some c → vs[j]? = some y → R I L O c y

theorem RCs.lay {cs : List AV} {vs : Array Value} (h : RCs I L O cs vs) {x : AV} {y : Value} (hr : R I L O x y) (hx : (x.isCell || x.isAgg) = true) {off : Nat} (hf : off + x.cells.length ≤ cs.length) :
    RCs I L O (cs.take off ++ x.cells ++ cs.drop (off + x.cells.length)) (lay off y.cells.toList vs) ∧ y.cells.size = x.cells.length := by
  obtain ⟨h1, h2⟩ := hr.cells hx
  have hlen : y.cells.toList.length = x.cells.length := by simp [h1]
  refine ⟨⟨by rw [lay_size]; simp [← h.1]; omega, fun j c z hc hz => ?_⟩, h1.symm⟩
  rw [lay_get (by rw [hlen, ← h.1]; exact hf), hlen] at hz
  by_cases hj : off ≤ j ∧ j < off + x.cells.length
  · rw [if_pos hj] at hz
    have hc' : x.cells[j - off]? = some c := by
      rw [List.append_assoc, List.getElem?_append_right (by simp; omega), List.getElem?_append_left (by simp; omega)] at hc
      rwa [List.length_take, Nat.min_eq_left (by omega)] at hc
    obtain ⟨y', hy', hr'⟩ := h2 _ c hc'
    rw [Array.getElem?_toList, hy'] at hz
    cases hz; exact hr'
  · rw [if_neg hj] at hz
    have hc' : cs[j]? = some c := by
      by_cases hlt : j < off
      · rwa [List.append_assoc, List.getElem?_append_left (by simp; omega), List.getElem?_take, if_pos hlt] at hc
      · rw [List.getElem?_append_right (by simp; omega), List.getElem?_drop] at hc
        rw [← hc]; congr 1; simp; omega
    exact h.2 j c z hc' hz

end
end Go.Ab
