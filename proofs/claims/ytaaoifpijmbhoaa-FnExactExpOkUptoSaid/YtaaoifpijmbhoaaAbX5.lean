/-
  THE SYMBOLIC WALK IS SOUND: operations without memory.
-/
import Derived.Test.YtaaoifpijmbhoaaAbX4
set_option linter.unusedVariables false
set_option linter.unusedSimpArgs false
set_option linter.defProp false
namespace Go.Ab

section
variable {P : Program}

theorem dsOf_map : ∀ {cs : List SV} {ds : List D}, dsOf cs = some ds → cs = ds.map .d
  | [], ds, h => by simp [dsOf] at h; subst h; rfl
  | v :: l, ds, h => by
    cases v <;> simp only [dsOf, reduceCtorEq] at h
    split at h
    · rename_i ds' hd
      cases h
      rw [dsOf_map hd]; rfl
    · cases h
theorem evs_map (r : List AV) : ∀ (ds : List D), SV.evs r (ds.map .d) = D.evs r ds
  | [] => rfl
  | d :: ds => by simp only [List.map_cons, SV.evs, D.evs, SV.ev, evs_map r ds]
theorem D.evs_eq (r : List AV) (l : List D) : D.evs r l = l.map (D.ev r) := by
  induction l with
  | nil => rfl
  | cons a l ih => simp [D.evs, ih]
theorem SV.evs_eq (r : List AV) (l : List SV) : SV.evs r l = l.map (SV.ev r) := by
  induction l with
  | nil => rfl
  | cons a l ih => simp [SV.evs, ih]
theorem cls_all {n : Nat} : ∀ {l : List D}, D.cls n l = true ↔ ∀ d ∈ l, d.cl n = true
  | [] => by simp [D.cls]
  | a :: l => by simp [D.cls, cls_all (l := l)]
theorem scls_all {n : Nat} : ∀ {l : List SV}, SV.cls n l = true ↔ ∀ d ∈ l, d.cl n = true
  | [] => by simp [SV.cls]
  | a :: l => by simp [SV.cls, scls_all (l := l)]

theorem cells_of (r : List AV) (i m : Nat) (h : (r.getD i .top).cells.length = m) : ((List.range m).map fun j => (r.getD i .top).cells.getD j .top) = (r.getD i .top).cells := by
  generalize (r.getD i .top).cells = l at h ⊢
  subst h
  apply List.ext_getElem
  · simp
  · intro k h1 h2
    rw [List.getElem_map, List.getElem_range, List.getD, List.getElem?_eq_getElem h2]; rfl

theorem etaOf_sound {kn : List (Nat × Nat)} {ds : List D} {i : Nat} (h : etaOf kn ds = some i) : ds = (List.range ds.length).map fun j => .cell i j := by
  unfold etaOf at h
  split at h
  · split at h
    · cases h; rename_i hb; exact D.beqs_eq _ _ hb.2
    · cases h
  · cases h

theorem asD_sound {kn : List (Nat × Nat)} {v : SV} {ns : List Node} {d : D} (h : asD kn v = some (ns, d)) {r : List AV} {G : List AV → Prop} (hw : wpN P ns r G) : G r ∧ d.ev r = v.ev r := by
  unfold asD at h
  split at h
  · cases h; exact ⟨hw, rfl⟩
  · rename_i cs
    split at h
    · rename_i ds hd
      have hcs := dsOf_map hd
      subst hcs
      split at h
      · rename_i i hi
        cases h
        have he := etaOf_sound hi
        simp only [wpN, Chk.wp, D.ev] at hw
        obtain ⟨h1, h2, h3, h4⟩ := hw
        refine ⟨h4, ?_⟩
        simp only [D.ev, SV.ev, evs_map]
        rw [he, D.evs_eq, List.map_map]
        have := cells_of r i _ h2
        rw [AV.agg_of h1]
        congr 1
        rw [← this]
        rfl
      · cases h
        exact ⟨hw, by simp only [D.ev, SV.ev, evs_map]⟩
    · cases h
  · cases h; exact ⟨hw, rfl⟩
  · cases h
theorem asD_nv {kn : List (Nat × Nat)} {v : SV} {ns : List Node} {d : D} (h : asD kn v = some (ns, d)) (nv : Nat) : nvN nv ns = nv := by
  unfold asD at h
  split at h
  · cases h; rfl
  · split at h
    · split at h <;> cases h <;> rfl
    · cases h
  · cases h; rfl
  · cases h
theorem nvN_append (nv : Nat) : ∀ (a b : List Node), nvN nv (a ++ b) = nvN (nvN nv a) b := by
  intro a
  induction a generalizing nv with
  | nil => intro b; rfl
  | cons x a ih => intro b; cases x <;> simp [nvN, ih]

theorem cur_sound {s : SS} {n : Nat} {l : D} {nl : Bool} {e sz : Nat} (h : cur s n l = some (nl, e, sz)) : s.objs[n]? = some (.row nl e sz l) := by
  unfold cur at h
  split at h
  · rename_i l' ho
    split at h
    · rename_i hb
      cases h
      rw [ho, D.beq_eq _ _ hb]
    · cases h
  · cases h
theorem box_sound {s : SS} {n e : Nat} {cs : List SV} (h : boxOf s n = some (e, cs)) : s.objs[n]? = some (.box e cs) := by
  unfold boxOf at h
  split at h
  · rename_i ho; cases h; exact ho
  · cases h
theorem stO_get {s : SS} {n : Nat} {o : SO} (h : s.objs[n]? = some o) (r : List AV) : (stO s r)[n]? = some (o.ev r) := by
  simp [stO, h]
theorem stO_len (s : SS) (r : List AV) : (stO s r).length = s.objs.length := by simp [stO]
theorem mkA_cells {cs : List AV} (h : cs.length ≠ 1) : mkA cs = .agg cs := by
  unfold mkA
  split
  · simp at h
  · rfl
/-- a box's cells -/
theorem mkA_one {c : AV} (h : c.isCell = true) : (mkA [c]).cells = [c] := AV.cells_cell h

/-- the cells of a value -/
theorem ones_sound {cs : List SV} (ht : noTops cs = true) {r : List AV} {G : List AV → Prop} (hw : wpN P (chkOnes cs) r G) : G r ∧ ∀ c ∈ SV.evs r cs, c.isCell = true := by
  induction cs with
  | nil => exact ⟨hw, by simp [SV.evs]⟩
  | cons v l ih =>
    cases v with
    | d x =>
      simp only [chkOnes, wpN, Chk.wp] at hw
      obtain ⟨h1, h2, h3⟩ := hw
      obtain ⟨h4, h5⟩ := ih (by simpa [noTops] using ht) h3
      refine ⟨h4, fun c hc => ?_⟩
      simp only [SV.evs, SV.ev, List.mem_cons] at hc
      rcases hc with rfl | hc
      · exact h2
      · exact h5 c hc
    | top => simp [noTops] at ht
    | agg _ => simp [noTops] at ht
    | _ =>
      simp only [chkOnes] at hw
      obtain ⟨h4, h5⟩ := ih (by simpa [noTops] using ht) hw
      refine ⟨h4, fun c hc => ?_⟩
      simp only [SV.evs, SV.ev, List.mem_cons] at hc
      rcases hc with rfl | hc
      · rfl
      · exact h5 c hc
theorem ones_nv (cs : List SV) (nv : Nat) : nvN nv (chkOnes cs) = nv := by
  induction cs with
  | nil => rfl
  | cons v l ih => cases v <;> simp [chkOnes, nvN, ih]

/-- the cells of a value, as an expansion gives them -/
structure Exp1 (m : Nat) (a : AV) (cs : List AV) : Prop where
  len : a.cells.length = m
  sto : a.storable = true
  cells : a.cells = cs
  kind : (a.isCell || a.isAgg) = true
  one : m = 1 → a.isCell = true
  agg : m ≠ 1 → a.isAgg = true

theorem storable_of_cell {a : AV} (h : a.isCell = true) : a.storable = true := by
  unfold AV.storable
  rw [AV.cells_cell h]
  simp [h]

theorem Exp1.mkA {m : Nat} {a : AV} {cs : List AV} (h : Exp1 m a cs) : a = mkA cs := by
  by_cases hm : m = 1
  · have := AV.cells_cell (h.one hm)
    rw [← h.cells, this]; rfl
  · rw [mkA_cells (by rw [← h.cells, h.len]; exact hm), ← h.cells]
    exact AV.agg_of (h.agg hm)

theorem expand_sound {nv m : Nat} {v : SV} {ns : List Node} {cs : List SV} (h : expand nv m v = some (ns, cs)) {r : List AV} (hl : r.length = nv) (hv : v.cl nv = true) {G : List AV → Prop} (hw : wpN P ns r G) :
    ∃ r', (∃ more, r' = r ++ more) ∧ r'.length = nvN nv ns ∧ G r' ∧ Exp1 m (v.ev r) (SV.evs r' cs) := by
  unfold expand at h
  split at h
  · rename_i hm
    subst hm
    have one : ∀ {a : AV}, a.isCell = true → Exp1 1 a [a] := fun {a} ha => ⟨by rw [AV.cells_cell ha]; rfl, storable_of_cell ha, AV.cells_cell ha, by rw [ha]; rfl, fun _ => ha, fun h => (h rfl).elim⟩
    split at h
    · rename_i x
      cases h
      simp only [wpN, Chk.wp] at hw
      exact ⟨r, ⟨[], by simp⟩, hl, hw.2.2, one hw.2.1⟩
    · cases h
    · cases h
    · rename_i h1 h2 h3
      cases h
      refine ⟨r, ⟨[], by simp⟩, hl, hw, ?_⟩
      cases v
      case d x => exact (h1 x rfl).elim
      case agg x => exact (h2 x rfl).elim
      case top => exact (h3 rfl).elim
      all_goals exact one rfl
  · rename_i hm
    have agg : ∀ {a : AV} {cs : List AV}, a.isAgg = true → a.cells.length = m → a.storable = true → a.cells = cs → Exp1 m a cs := fun {a cs} h1 h2 h3 h4 => ⟨h2, h3, h4, by rw [h1]; simp, fun h => (hm h).elim, fun _ => h1⟩
    split at h
    · rename_i cs'
      split at h
      · rename_i hc
        cases h
        obtain ⟨h1, h2⟩ := ones_sound hc.2 hw
        refine ⟨r, ⟨[], by simp⟩, by rw [ones_nv, hl], h1, agg rfl ?_ ?_ rfl⟩
        · simp [SV.ev, AV.cells, SV.evs_eq, hc.1]
        · simp only [SV.ev, AV.storable, AV.cells, List.all_eq_true]
          exact h2
      · cases h
    · rename_i i
      cases h
      simp only [wpN, Chk.wp, D.ev] at hw
      obtain ⟨h1, h2, h3, h4⟩ := hw
      refine ⟨r, ⟨[], by simp⟩, hl, h4, agg h1 h2 h3 ?_⟩
      simp only [SV.ev, D.ev]
      rw [← cells_of r i m h2, SV.evs_eq, List.map_map]
      rfl
    · rename_i l
      split at h
      · rename_i hll
        cases h
        simp only [wpN, Chk.wp] at hw
        obtain ⟨h1, h2, h3, h4⟩ := hw
        exact ⟨r, ⟨[], by simp⟩, hl, h4, agg h1 h2 h3 (by simp only [SV.ev, D.ev, AV.cells]; rw [evs_map])⟩
      · cases h
    · rename_i l
      split at h
      · rename_i hll
        cases h
        simp only [wpN, Chk.wp] at hw
        obtain ⟨h1, h2, h3, h4⟩ := hw
        refine ⟨r, ⟨[], by simp⟩, hl, h4, agg h1 h2 h3 ?_⟩
        simp only [SV.ev, D.ev, AV.cells, SV.evs_eq, List.map_map]
        exact (List.map_id l).symm
      · cases h
    · rename_i x _ _ _
      cases h
      simp only [wpN, PO.wp, Chk.wp] at hw
      have hx : (r ++ [x.ev r]).getD nv .top = x.ev r := by simp [List.getD, ← hl]
      simp only [D.ev, hx] at hw
      obtain ⟨h1, h2, h3, h4⟩ := hw
      refine ⟨r ++ [x.ev r], ⟨_, rfl⟩, by simp [nvN, hl], h4, agg h1 h2 h3 ?_⟩
      simp only [SV.ev]
      have := cells_of (r ++ [x.ev r]) nv m (by rw [hx]; exact h2)
      rw [hx] at this
      rw [← this, SV.evs_eq, List.map_map]
      apply List.map_congr_left
      intro j _
      simp only [Function.comp, SV.ev, D.ev, hx]
    · cases h

theorem getD_new {r : List AV} {nv : Nat} (h : r.length = nv) (a : AV) : (r ++ [a]).getD nv .top = a := by simp [List.getD, ← h]

theorem D.evo_opt {s : SS} {x : Option Opd} {d : Option D} (h : xOpt s x = some d) (r : List AV) : D.evo r d = x.map (Opd.ev (stE s r)) := by
  unfold xOpt at h
  split at h
  · cases h; rfl
  · rename_i o
    split at h
    · rename_i y hy
      cases h
      have := opd_ev s o r
      rw [hy] at this
      simp only [D.evo, Option.map_some, ← this]; rfl
    · cases h

end
end Go.Ab
