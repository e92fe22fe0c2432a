/-
  What the operations do: operands, cells, loads.
-/
import Derived.Test.YtaaoifpijmbhoaaAbOps
set_option linter.unusedVariables false
set_option linter.unusedSimpArgs false
set_option linter.defProp false
namespace Go.Ab

theorem add_lit (b o j : Nat) : (⟨b, o, none⟩ : Addr).add j = ⟨b, o + j, none⟩ := by
  unfold Addr.add; split <;> simp_all

section
variable {I : Imm} {L : Nat → Loc} {O : List AObj}

theorem absC_sound {v : Value} {a : AV} (h : absC v = some a) : R I L O a v := by
  unfold absC at h
  split at h <;> cases h <;> first | exact .v _ rfl | exact .nils

theorem absC_cell {v : Value} {a : AV} (h : absC v = some a) : a.isCell = true ∧ v.oneCell' = true := by
  unfold absC at h
  split at h <;> cases h <;> exact ⟨rfl, rfl⟩

theorem mapM_some {α β : Type} {f : α → Option β} : ∀ {l : List α} {r : List β}, l.mapM f = some r → r.length = l.length ∧ ∀ (i : Nat) (x : α) (y : β), l[i]? = some x → r[i]? = some y → f x = some y
  | [], r, h => by simp at h; subst h; simp
  | a :: l, r, h => by
    simp only [List.mapM_cons, Option.bind_eq_bind, Option.bind_eq_some_iff, Option.pure_def, Option.some.injEq] at h
    obtain ⟨b, hb, bs, hbs, rfl⟩ := h
    obtain ⟨h1, h2⟩ := mapM_some hbs
    refine ⟨by simp [h1], fun i x y hx hy => ?_⟩
    cases i with
    | zero => simp at hx hy; subst hx; subst hy; exact hb
    | succ i => simp at hx hy; exact h2 i x y hx hy

theorem absV_sound {v : Value} {a : AV} (h : absV v = some a) : R I L O a v := by
  unfold absV at h
  split at h
  · rename_i cs
    simp only [Option.map_eq_some_iff] at h
    obtain ⟨as, has, rfl⟩ := h
    obtain ⟨h1, h2⟩ := mapM_some has
    refine .agg _ _ (by simpa using h1) fun i c x hc hx => absC_sound (h2 i x c (by simpa using hx) hc)
  · rename_i f first captured
    split at h
    · rename_i hh
      cases h
      obtain rfl : first = #[] := Array.eq_empty_of_size_eq_zero hh.1
      exact .fn _ _ _ (by simp [hh.2]) (by simp)
    · cases h
  · exact absC_sound h

theorem cOpd_sound {x : Operand} {ax : Opd} (h : cOpd x = some ax) {e : Env} {a : Act} (he : ∀ t, R I L O (e t) (a.tmps.getD t undef)) : R I L O (ax.ev e) (a.eval x) := by
  unfold cOpd at h
  split at h
  · cases h; exact he _
  · simp only [Option.map_eq_some_iff] at h
    obtain ⟨c, hc, rfl⟩ := h
    exact absV_sound hc
  · cases h; exact .fn _ _ _ rfl (by simp)
  · cases h

/-- what is a value of one cell, or an aggregate: its cells. -/
theorem R.isCell {a : AV} {x : Value} (h : R I L O a x) (hc : a.isCell = true) : x.oneCell' = true := by
  cases h <;> first | rfl | (simp [AV.isCell] at hc; done) | assumption

theorem Value.cells_one {x : Value} (h : x.oneCell' = true) : x.cells = #[x] := by
  cases x <;> first | rfl | (simp [Value.oneCell'] at h; done)

theorem AV.cells_cell {a : AV} (h : a.isCell = true) : a.cells = [a] := by
  cases a <;> first | rfl | (simp [AV.isCell] at h; done)

theorem AV.agg_of {a : AV} (h : a.isAgg = true) : a = .agg a.cells := by
  cases a <;> first | rfl | (simp [AV.isAgg] at h; done)

theorem R.cells {a : AV} {x : Value} (h : R I L O a x) (hc : (a.isCell || a.isAgg) = true) :
    a.cells.length = x.cells.size ∧ ∀ (j : Nat) c, a.cells[j]? = some c → ∃ y, x.cells[j]? = some y ∧ R I L O c y := by
  by_cases h1 : a.isCell = true
  · have h2 := h.isCell h1
    rw [AV.cells_cell h1, Value.cells_one h2]
    refine ⟨rfl, fun j c hj => ?_⟩
    cases j with
    | zero => simp at hj; subst hj; exact ⟨x, rfl, h⟩
    | succ j => simp at hj
  · have h3 : a.isAgg = true := by simpa [h1] using hc
    rw [AV.agg_of h3] at h
    cases h with
    | agg _ vs hl hr =>
      refine ⟨hl, fun j c hj => ?_⟩
      have hlt : j < vs.size := by rw [← hl]; exact (List.getElem?_eq_some_iff.1 hj).1
      have hy : vs[j]? = some vs[j] := by simp [hlt]
      exact ⟨vs[j], hy, hr j c _ hj hy⟩

theorem storable_cases {a : AV} (h : a.storable = true) : (a.isCell || a.isAgg) = true := by
  cases a <;> first | rfl | (simp [AV.storable, AV.cells, AV.isCell] at h; done)

theorem R.cellsOne {a : AV} {x : Value} (h : R I L O a x) (hc : a.storable = true) :
    a.cells.length = x.cells.size ∧ ∀ (j : Nat) c, a.cells[j]? = some c → ∃ y, x.cells[j]? = some y ∧ y.oneCell' = true ∧ R I L O c y := by
  obtain ⟨h1, h2⟩ := h.cells (storable_cases hc)
  refine ⟨h1, fun j c hj => ?_⟩
  obtain ⟨y, hy, hr⟩ := h2 j c hj
  exact ⟨y, hy, hr.isCell (List.all_eq_true.1 hc c (List.mem_of_getElem? hj)), hr⟩

theorem R.allOne {a : AV} {x : Value} (h : R I L O a x) (hc : a.storable = true) : ∀ v ∈ x.cells.toList, v.oneCell' = true := by
  obtain ⟨h1, h2⟩ := h.cellsOne hc
  intro v hv
  obtain ⟨j, hj⟩ := List.getElem?_of_mem hv
  have hj' : x.cells[j]? = some v := by simpa using hj
  have hlt : j < a.cells.length := by rw [h1]; exact (Array.getElem?_eq_some_iff.1 hj').1
  obtain ⟨y, hy, ho, _⟩ := h2 j a.cells[j] (by simp [hlt])
  rw [hj'] at hy; cases hy; exact ho

end

theorem R.row_live {I : Imm} {L : Nat → Loc} {O : List AObj} {n len e s : Nat} {xs : List AV} {x : Value} (h : R I L O (.row n len) x) (hn : O[n]? = some (.live e s xs)) (hl : xs.length = len) :
    x = .slice (some ⟨(L n).blk, 0, none⟩) len (L n).cap := by
  cases h with
  | rowLive => rfl
  | rowNil _ _ _ hn' => rw [hn] at hn'; cases hn'
  | rowDead _ _ _ _ _ hd => have := hd _ _ _ hn; omega

theorem R.row_nil {I : Imm} {L : Nat → Loc} {O : List AObj} {n len e s : Nat} {x : Value} (h : R I L O (.row n len) x) (hn : O[n]? = some (.nil e s)) : x = .slice none 0 0 ∧ len = 0 := by
  cases h with
  | rowLive _ _ _ _ _ hn' => rw [hn] at hn'; cases hn'
  | rowNil => exact ⟨rfl, rfl⟩
  | rowDead _ _ _ _ hd => exact (hd _ _ hn).elim

theorem R.ptr_live {I : Imm} {L : Nat → Loc} {O : List AObj} {n len i f e s : Nat} {xs : List AV} {x : Value} (h : R I L O (.ptr n len i f) x) (hn : O[n]? = some (.live e s xs)) (hl : xs.length = len) :
    x = .pointer (some ⟨(L n).blk, i * s + f, none⟩) := by
  cases h with
  | ptrLive _ _ _ _ _ _ _ hn' => rw [hn] at hn'; cases hn'; rfl
  | ptrDead _ _ _ _ _ _ _ hd => have := hd _ _ _ hn; omega

/- LOADS -/

theorem run_isAgg {P : Program} {t : TypeId} {d : TypeDesc} (hd : P.underlying t = some d) (w : World) :
    (isAgg t).run P w = .ok (aggT d) w := by
  cases d <;> simp [isAgg, run_underlying hd, aggT]

/-- what a load gives -/
def loadV (n : Option Nat) (vals : Nat → Value) : Value :=
  match n with
  | none => vals 0
  | some m => .agg ((List.range m).map vals).toArray

theorem run_loadAt {P : Program} {t : TypeId} {n : Option Nat} (hn : cWidth P t = some n) (b o : Nat) (vals : Nat → Value) (w : World)
    (hc : ∀ j, j < n.getD 1 → w.cell? ⟨b, o + j, none⟩ = some (vals j)) :
    (Instr.loadAt t (.pointer (some ⟨b, o, none⟩))).run P w = .ok (loadV n vals) w := by
  unfold cWidth at hn
  simp only [Option.bind_eq_bind, Option.bind_eq_some_iff] at hn
  obtain ⟨d, hd, i, hi, hn⟩ := hn
  cases n with
  | none =>
    have hf : aggT d = false := by
      by_cases h : aggT d = true
      · rw [if_pos h] at hn; split at hn <;> simp at hn
      · simpa using h
    have h0 := hc 0 (by simp)
    simp only [Nat.add_zero] at h0
    simp [Instr.loadAt, Instr.sureAddr, loadVar, run_isAgg hd, hf, run_load, h0, loadV]
  | some m =>
    have hf : aggT d = true ∧ i.size = m := by
      by_cases h : aggT d = true
      · rw [if_pos h] at hn; split at hn <;> simp at hn; exact ⟨h, hn⟩
      · rw [if_neg h] at hn; simp at hn
    have hl := run_loadCells (P := P) w ⟨b, o, none⟩ m vals (fun j hj => by rw [add_lit]; exact hc j (by simpa using hj))
    simp [Instr.loadAt, Instr.sureAddr, loadVar, run_isAgg hd, hf.1, sizeOf, typeInfo, hi, hf.2, hl, loadV]

theorem loadC_sound {I : Imm} {L : Nat → Loc} {O : List AObj} {x : AV} {n : Option Nat} {f : Nat} {vals : Nat → Value} (hf : f + n.getD 1 ≤ x.cells.length)
    (hr : ∀ (j : Nat) c, x.cells[f + j]? = some c → j < n.getD 1 → R I L O c (vals j)) :
    R I L O (loadC n x f) (loadV n vals) := by
  cases n with
  | none =>
    simp only [Option.getD_none] at hf
    have h1 : x.cells[f]? = some x.cells[f] := by simp [show f < x.cells.length by omega]
    have := hr 0 _ (by rw [Nat.add_zero]; exact h1) (by simp)
    simpa [loadC, List.getD, h1, loadV] using this
  | some m =>
    simp only [Option.getD_some] at hf hr
    simp only [loadC, loadV]
    split
    · rename_i hh
      obtain ⟨rfl, ha, hl⟩ := hh
      rw [AV.agg_of ha]
      refine .agg _ _ (by simp [hl]) fun i c v hc hv => ?_
      have hlt : i < m := by rw [← hl]; exact (List.getElem?_eq_some_iff.1 hc).1
      simp [hlt] at hv
      subst hv
      exact hr i c (by simpa using hc) hlt
    · refine .agg _ _ (by simp; omega) fun i c v hc hv => ?_
      have hlt : i < m := by
        have := (List.getElem?_eq_some_iff.1 hc).1
        simp at this; omega
      simp [hlt] at hv
      subst hv
      rw [List.getElem?_take, if_pos hlt, List.getElem?_drop] at hc
      exact hr i c hc hlt

end Go.Ab
