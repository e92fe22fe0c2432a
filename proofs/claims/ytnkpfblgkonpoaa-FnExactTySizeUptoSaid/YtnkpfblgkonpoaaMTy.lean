/-
  Types of the program as trees of our own: impl.Ty, laws.Ty.
-/
import Derived.Test.YtnkpfblgkonpoaaAbFz
set_option linter.unusedVariables false
set_option linter.unusedSimpArgs false
namespace Go.Ab

inductive Ty where
  | mk (kind n : Int) (name : ByteArray) (kids : List Ty)

namespace Ty
mutual
def av : Ty → AV
  | .mk k n s ks => .agg [.v (.int .i64 k), .v (.int .i64 n), .v (.string s), .sl (avs ks)]
def avs : List Ty → List AV
  | [] => []
  | t :: ts => t.av :: avs ts
end
mutual
def size : Ty → Nat
  | .mk _ _ _ ks => 1 + sizes ks
def sizes : List Ty → Nat
  | [] => 0
  | t :: ts => t.size + sizes ts
end
mutual
/-- what the laws' szTy takes off its bound -/
def wt : Ty → Nat
  | .mk _ _ s ks => s.size + (ks.length + wts ks)
def wts : List Ty → Nat
  | [] => 0
  | t :: ts => t.wt + wts ts
end
theorem wts_eq (l : List Ty) : wts l = (l.map wt).sum := by
  induction l with
  | nil => rfl
  | cons t l ih => simp [wts, ih]
theorem sum1 (l : List Ty) : (l.map fun t => 1 + t.wt).sum = l.length + wts l := by
  induction l with
  | nil => rfl
  | cons t l ih => simp only [List.map_cons, List.sum_cons, ih, List.length_cons, wts]; omega
mutual
theorem size_le_wt : ∀ (t : Ty), t.size ≤ 1 + t.wt
  | .mk k n s ks => by have := sizes_le_wts ks; simp only [size, wt]; omega
theorem sizes_le_wts : ∀ (l : List Ty), sizes l ≤ l.length + wts l
  | [] => by simp [sizes]
  | t :: ts => by have := size_le_wt t; have := sizes_le_wts ts; simp only [sizes, wts, List.length_cons]; omega
end
theorem wt_mem {l : List Ty} {t : Ty} (h : t ∈ l) : t.wt ≤ wts l := by
  induction l with
  | nil => simp at h
  | cons a l ih =>
    rcases List.mem_cons.1 h with rfl | h
    · simp [wts]
    · have := ih h; simp [wts]; omega
theorem avs_eq (l : List Ty) : avs l = l.map av := by
  induction l with
  | nil => rfl
  | cons t l ih => simp [avs, ih]
theorem avs_mem {l : List Ty} {x : AV} (h : x ∈ avs l) : ∃ t ∈ l, x = t.av := by
  rw [avs_eq] at h
  obtain ⟨t, ht, rfl⟩ := List.mem_map.1 h
  exact ⟨t, ht, rfl⟩
theorem avs_get {l : List Ty} {i : Nat} {x : AV} (h : (avs l)[i]? = some x) : ∃ t, l[i]? = some t ∧ x = t.av := by
  rw [avs_eq, List.getElem?_map] at h
  cases hi : l[i]? with
  | none => simp [hi] at h
  | some t => simp [hi] at h; exact ⟨t, rfl, h.symm⟩
theorem avs_length (l : List Ty) : (avs l).length = l.length := by rw [avs_eq]; simp
theorem cells_av (t : Ty) : t.av.cells.length = 4 := by cases t; rfl
theorem isAgg_av (t : Ty) : t.av.isAgg = true := by cases t; rfl
mutual
theorem noref_av : ∀ (t : Ty), t.av.noref = true
  | .mk k n s ks => by simp [av, AV.noref, AV.norefs, norefs_avs ks]
theorem norefs_avs : ∀ (l : List Ty), AV.norefs (avs l) = true
  | [] => rfl
  | t :: ts => by simp [avs, AV.norefs, noref_av t, norefs_avs ts]
end
theorem storable_av (t : Ty) : t.av.storable = true := by cases t; rfl
theorem scoped_av (k : Nat) (t : Ty) : t.av.inScope k = true := noref_scoped _ (noref_av t)
theorem scopeds_avs (k : Nat) (l : List Ty) : AV.scopeds k (avs l) = true := norefs_scopeds _ (norefs_avs l)
theorem getD_avs (l : List Ty) (i : Nat) (h : i < l.length) : (avs l).getD i .top = (l[i]).av := by
  rw [avs_eq]; simp [List.getD, h]
theorem size_pos (t : Ty) : 1 ≤ t.size := by cases t; simp [size]
theorem size_mem {l : List Ty} {t : Ty} (h : t ∈ l) : t.size ≤ sizes l := by
  induction l with
  | nil => simp at h
  | cons a l ih =>
    rcases List.mem_cons.1 h with rfl | h
    · simp [sizes]
    · have := ih h; simp [sizes]; omega
theorem sizes_take_succ (l : List Ty) (i : Nat) (h : i < l.length) : sizes (l.take (i + 1)) = sizes (l.take i) + (l[i]).size := by
  induction l generalizing i with
  | nil => simp at h
  | cons a l ih =>
    cases i with
    | zero => simp [sizes]
    | succ i =>
      simp at h
      simp [sizes, ih i h]; omega
theorem length_le_sizes (l : List Ty) : l.length ≤ sizes l := by
  induction l with
  | nil => simp
  | cons a l ih => simp [sizes]; have := size_pos a; omega
theorem sizes_take_le (l : List Ty) (i : Nat) : sizes (l.take i) ≤ sizes l := by
  induction l generalizing i with
  | nil => simp
  | cons a l ih =>
    cases i with
    | zero => simp [sizes]
    | succ i => simp [sizes]; exact ih i
theorem fz_av (O : List AObj) (k : Nat) (t : Ty) : fz O k t.av = t.av := by
  cases t
  cases k with
  | zero => rfl
  | succ k => simp [av, fz_agg, fz_v, fz_sl]
theorem elt {l : List Ty} : ∀ x ∈ avs l, x.isAgg = true ∧ x.cells.length = 4 ∧ x.noref = true := by
  intro x hx
  obtain ⟨t, _, rfl⟩ := avs_mem hx
  exact ⟨isAgg_av t, cells_av t, noref_av t⟩
end Ty
end Go.Ab
