/-
  EACH OPERATION DOES WHAT ITS ABSTRACT ONE SAYS.
-/
import Derived.Test.YtaaoifpijmbhoaaAbSound4
set_option linter.unusedVariables false
set_option linter.unusedSimpArgs false
set_option linter.defProp false
namespace Go.Ab

section
variable {P : Program} {I : Imm} {L : Nat → Loc} {O : List AObj} {w : World} {K : AV → List AObj → Prop} {e : Env} {a : Act}

theorem cOpds_sound {xs : List Operand} {as : List Opd} (h : xs.mapM cOpd = some as) (he : ∀ t, R I L O (e t) (a.tmps.getD t undef)) :
    RL I L O (as.map (Opd.ev e)) (xs.map a.eval).toArray := by
  obtain ⟨h1, h2⟩ := mapM_some h
  refine ⟨by simp [h1], fun i c x hc hx => ?_⟩
  simp only [List.getElem?_map, Option.map_eq_some_iff] at hc
  obtain ⟨o, ho, rfl⟩ := hc
  simp only [List.getElem?_toArray, List.getElem?_map, Option.map_eq_some_iff] at hx
  obtain ⟨q, hq, rfl⟩ := hx
  exact cOpd_sound (h2 i q o hq ho) he

theorem cElem_inv {t s b : Nat} {z : AV} (h : cElem P t = some (s, b, z)) :
    ∃ i z0, P.info? t = some i ∧ i.zero = some z0 ∧ absV z0 = some z ∧ i.size = s ∧ i.bytes = b ∧ z.cells.length = s ∧ 0 < s ∧ z0.cells.size = s ∧ z.storable = true := by
  unfold cElem at h
  simp only [Option.bind_eq_bind, Option.bind_eq_some_iff] at h
  obtain ⟨i, hi, z0, hz, a, ha, h⟩ := h
  split at h <;> simp at h
  rename_i hh
  obtain ⟨rfl, rfl, rfl⟩ := h
  exact ⟨i, z0, hi, hz, ha, rfl, rfl, hh.1, hh.2.1, hh.2.2.1, hh.2.2.2⟩

/-- one new box -/
theorem Inv.box (hi : Inv I L O w) {x : AV} {y : Value} (t : Nat) {s : Nat} (hr : R I L O x y) (hs : x.storable = true) (hl : x.cells.length = s) (h0 : 0 < s) :
    Good I L O w I (fun k => if k = O.length then ⟨w.heap.size, 1⟩ else L k) (O ++ [.live t s [x]]) (w.alloc (.cells y.cells t)) ∧
    R I (fun k => if k = O.length then ⟨w.heap.size, 1⟩ else L k) (O ++ [.live t s [x]]) (.ptr O.length 1 0 0) (.pointer (some ⟨w.heap.size, 0, none⟩)) := by
  obtain ⟨h1, h2⟩ := hr.cellsOne hs
  refine ⟨hi.new y.cells 1 (by omega) (by simp) (by simp [maxLen]) h0 fun i z hz => ?_, ?_⟩
  · cases i with
    | zero =>
      simp at hz; subst hz
      exact ⟨hl, fun j c hj => by simpa using h2 j c hj⟩
    | succ i => simp at hz
  · have := R.ptrLive (I := I) (L := fun k => if k = O.length then ⟨w.heap.size, 1⟩ else L k) (O := O ++ [.live t s [x]]) O.length 1 0 0 t s [x] (by simp) rfl
    simpa using this

theorem buildK_sound {fs : Array Field} (he : ∀ t, R I L O (e t) (a.tmps.getD t undef)) {M : AV → Prop} :
    ∀ (parts : List (Nat × Operand)) (ps : List (Nat × Nat × Opd)) (z : List AV) (vs : Array Value), RCs I L O z vs →
    (parts.mapM fun (p : Nat × Operand) => do let f ← fs[p.1]?; let n ← P.info? f.type; some (f.offset, n.size, ← cOpd p.2)) = some ps →
    buildK e z ps M → ∃ zs vs', M (.agg zs) ∧ RCs I L O zs vs' ∧
      ∀ pl : Nat → Option (Nat × Nat), (∀ i f n, fs[i]? = some f → P.info? f.type = some n → pl i = some (f.offset, n.size)) →
        Instr.fill pl vs (parts.map fun (p : Nat × Operand) => (p.1, a.eval p.2)) = some vs'
  | [], ps, z, vs, hz, hp, hk => by
    simp at hp; subst hp
    exact ⟨z, vs, hk, hz, fun pl _ => rfl⟩
  | (i, x) :: parts, ps, z, vs, hz, hp, hk => by
    simp only [List.mapM_cons, Option.bind_eq_bind, Option.pure_def, Option.bind_eq_some_iff, Option.some.injEq] at hp
    obtain ⟨q, ⟨f, hf, n, hn, ax, hx, rfl⟩, qs, hqs, rfl⟩ := hp
    obtain ⟨h1, h2, h3, h4⟩ := hk
    have hr := cOpd_sound hx he
    obtain ⟨hz', hsz⟩ := hz.lay hr h2 (off := f.offset) (by omega)
    rw [h1] at hz'
    obtain ⟨zs, vs', m1, m2, m3⟩ := buildK_sound he parts qs _ _ hz' hqs h4
    refine ⟨zs, vs', m1, m2, fun pl hpl => ?_⟩
    rw [List.map_cons, fill_cons (hpl i f n hf hn) (hsz.trans h1) (by rw [← hz.1]; omega)]
    exact m3 pl hpl

end
end Go.Ab
