/-
  ROWS: made, literal, written.
-/
import Derived.Test.YtaaoifpijmbhoaaAbSound5
set_option linter.unusedVariables false
set_option linter.unusedSimpArgs false
set_option linter.defProp false
namespace Go.Ab

/-- cells that hold a row of elements -/
def RRow (I : Imm) (L : Nat → Loc) (O : List AObj) (s : Nat) (xs : List AV) (c : Array Value) : Prop :=
  ∀ (i : Nat) x, xs[i]? = some x → x.cells.length = s ∧ ∀ (j : Nat) a, x.cells[j]? = some a → ∃ y, c[i * s + j]? = some y ∧ y.oneCell' = true ∧ R I L O a y

theorem idx_lt {i j s n : Nat} (hi : i < n) (hj : j < s) : i * s + j < n * s := by
  calc i * s + j < i * s + s := by omega
    _ = (i + 1) * s := by rw [Nat.add_mul, Nat.one_mul]
    _ ≤ n * s := Nat.mul_le_mul_right s hi

theorem idx_ne {i i' j s : Nat} (hj : j < s) (h : i ≠ i') : ¬ (i' * s ≤ i * s + j ∧ i * s + j < i' * s + s) := by
  intro ⟨h1, h2⟩
  rcases Nat.lt_or_gt_of_ne h with h3 | h3
  · have := Nat.mul_le_mul_right s (show i + 1 ≤ i' from h3)
    rw [Nat.add_mul] at this; omega
  · have := Nat.mul_le_mul_right s (show i' + 1 ≤ i from h3)
    rw [Nat.add_mul] at this; omega

section
variable {P : Program} {I : Imm} {L : Nat → Loc} {O : List AObj} {w : World} {K : AV → List AObj → Prop} {e : Env} {a : Act}

theorem RRow.made {z : AV} {z0 : Value} {s n cap : Nat} (hz : R I L O z z0) (hs : z.storable = true) (hl : z.cells.length = s) (h0 : 0 < s) (hn : n ≤ cap) :
    RRow I L O s (List.replicate n z) ((Array.range (cap * s)).map (z0.cells[· % z0.cells.size]!)) := by
  obtain ⟨h1, h2⟩ := hz.cellsOne hs
  intro i x hx
  rw [List.getElem?_replicate] at hx
  split at hx <;> simp at hx
  rename_i hi
  subst hx
  refine ⟨hl, fun j c hj => ?_⟩
  obtain ⟨y, hy, ho, hr⟩ := h2 j c hj
  have hjs : j < s := by rw [← hl]; exact (List.getElem?_eq_some_iff.1 hj).1
  have hlt : i * s + j < cap * s := idx_lt (by omega) hjs
  have hmod : (i * s + j) % z0.cells.size = j := by
    rw [← h1, hl, Nat.add_comm, Nat.add_mul_mod_self_right, Nat.mod_eq_of_lt hjs]
  refine ⟨y, ?_, ho, hr⟩
  rw [Array.getElem?_map, Array.getElem?_range]
  simp only [hlt, if_true, Option.map_some, hmod]
  obtain ⟨hlt', he⟩ := Array.getElem?_eq_some_iff.1 hy
  rw [← he, getElem!_pos z0.cells j hlt']

theorem RRow.lay {xs : List AV} {c : Array Value} {s : Nat} (h : RRow I L O s xs c) (hc : xs.length * s ≤ c.size) {x : AV} {y : Value} (hr : R I L O x y) (hs : x.storable = true) (hl : x.cells.length = s) {i : Nat} (hi : i < xs.length) :
    RRow I L O s (xs.set i x) (lay (i * s) y.cells.toList c) ∧ y.cells.size = s := by
  obtain ⟨h1, h2⟩ := hr.cellsOne hs
  have hlen : y.cells.toList.length = s := by simp; omega
  have hfit : i * s + s ≤ c.size := by
    have := Nat.mul_le_mul_right s (show i + 1 ≤ xs.length from hi)
    rw [Nat.add_mul] at this; omega
  refine ⟨fun k z hz => ?_, by omega⟩
  rw [List.getElem?_set] at hz
  by_cases hk : i = k
  · subst hk
    rw [if_pos rfl, if_pos hi] at hz
    cases hz
    refine ⟨hl, fun j d hj => ?_⟩
    obtain ⟨v, hv, ho, hrv⟩ := h2 j d hj
    have hjs : j < s := by rw [← hl]; exact (List.getElem?_eq_some_iff.1 hj).1
    refine ⟨v, ?_, ho, hrv⟩
    rw [lay_get (by omega), if_pos (by omega)]
    simpa using hv
  · rw [if_neg hk] at hz
    obtain ⟨h3, h4⟩ := h k z hz
    refine ⟨h3, fun j d hj => ?_⟩
    obtain ⟨v, hv, ho, hrv⟩ := h4 j d hj
    have hjs : j < s := by rw [← h3]; exact (List.getElem?_eq_some_iff.1 hj).1
    refine ⟨v, ?_, ho, hrv⟩
    rw [lay_get (by omega), hlen, if_neg (idx_ne hjs (fun h => hk h.symm))]
    exact hv

theorem rowK_sound (he : ∀ t, R I L O (e t) (a.tmps.getD t undef)) {s : Nat} {M : List AV → Prop} :
    ∀ (parts : List (Nat × Operand)) (ps : List (Nat × Opd)) (xs : List AV) (c : Array Value), RRow I L O s xs c → c.size = xs.length * s →
    (parts.mapM fun (p : Nat × Operand) => do some (p.1, ← cOpd p.2)) = some ps →
    rowK e s xs ps M → ∃ xs' c', M xs' ∧ RRow I L O s xs' c' ∧ xs'.length = xs.length ∧ c'.size = c.size ∧
        Instr.fill (fun i => some (i * s, s)) c (parts.map fun (p : Nat × Operand) => (p.1, a.eval p.2)) = some c'
  | [], ps, xs, c, hx, hc, hp, hk => by
    simp at hp; subst hp
    exact ⟨xs, c, hk, hx, rfl, rfl, rfl⟩
  | (i, x) :: parts, ps, xs, c, hx, hc, hp, hk => by
    simp only [List.mapM_cons, Option.bind_eq_bind, Option.pure_def, Option.bind_eq_some_iff, Option.some.injEq] at hp
    obtain ⟨q, ⟨ax, hax, rfl⟩, qs, hqs, rfl⟩ := hp
    obtain ⟨h1, h2, h3, h4⟩ := hk
    have hr := cOpd_sound hax he
    obtain ⟨hx', hsz⟩ := hx.lay (by omega) hr h2 h1 h3
    have hfit : i * s + s ≤ c.size := by
      have := Nat.mul_le_mul_right s (show i + 1 ≤ xs.length from h3)
      rw [Nat.add_mul] at this; omega
    obtain ⟨xs', c', m1, m2, m3, m4, m5⟩ := rowK_sound he parts qs _ _ hx' (by rw [lay_size]; simpa using hc) hqs h4
    refine ⟨xs', c', m1, m2, by simpa using m3, by rw [m4, lay_size], ?_⟩
    rw [List.map_cons, fill_cons rfl hsz hfit]
    exact m5

end
end Go.Ab
