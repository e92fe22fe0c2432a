/-
  APPEND's RUN, STORES.
-/
import Derived.Test.YtaaoifpijmbhoaaAbSound7
set_option linter.unusedVariables false
set_option linter.unusedSimpArgs false
set_option linter.defProp false
namespace Go.Ab

section
variable {P : Program} {I : Imm} {L : Nat → Loc} {O : List AObj} {w : World} {K : AV → List AObj → Prop} {e : Env} {a : Act}

theorem append_zero {t ty el : TypeId} {i : TypeInfo} (ht : P.underlying t = some (.slice el)) (hi : P.info? el = some i) (b y : Option Addr) (n cap c : Nat) (hn : n ≤ cap) (w : World) :
    (Builtin.append_ #[t, t] ty #[.slice b n cap, .slice y 0 c]).run P w = .ok (.slice b n cap) w := by
  have hf : (Builtin.firstCells i.size 0 (.slice y 0 c)).run P w = .ok #[] w := by
    cases y with
    | none => simp [Builtin.firstCells]
    | some y => have := run_firstCells_some (P := P) w i.size 0 y 0 c [] (by simp) (by simp); simpa using this
  cases b <;> simp [Builtin.append_, run_underlying ht, sizeOf, typeInfo, hi, Builtin.lenOf, hn, hf, storeCells]

theorem set_get {n : Nat} (hn : n < O.length) (o : AObj) (k : Nat) : (O.set n o)[k]? = if k = n then some o else O[k]? := by
  rw [List.getElem?_set]
  by_cases hk : n = k
  · subst hk; simp [hn]
  · rw [if_neg hk, if_neg (fun h => hk h.symm)]

theorem RRow.of_append {s : Nat} {xs : List AV} {r : List Value} {d z : Array Value} (h : RRow I L O s xs (r ++ d.toList ++ z.toList).toArray) : RRow I L O s xs (r.toArray ++ d ++ z) := by
  intro i x hx
  obtain ⟨q1, q2⟩ := h i x hx
  refine ⟨q1, fun j d' hj => ?_⟩
  obtain ⟨u, hu, ho, hr⟩ := q2 j d' hj
  exact ⟨u, by rw [← hu]; congr 1; apply Array.ext'; simp, ho, hr⟩

theorem app_nil {t ty el : Nat} {i : TypeInfo} {z0 : Value} (ht : P.underlying t = some (.slice el)) (hi : P.info? el = some i) (hz : i.zero = some z0) (h0 : 0 < i.size) (hzs : z0.cells.size = i.size)
    (hinv : Inv I L O w) {ys : List AV} {b o c : Nat} (hs : ∀ x ∈ ys, x.cells.length = i.size) (hne : ys ≠ [])
    (hc : ∀ (k : Nat) x, ys[k]? = some x → ∀ (j : Nat) d, x.cells[j]? = some d → ∃ u, w.cell? ⟨b, o + (k * i.size + j), none⟩ = some u ∧ u.oneCell' = true ∧ R I L O d u)
    (h48 : ys.length * i.bytes ≤ 140737488355328) (hmx : ys.length ≤ maxLen) :
    ∃ y' I' L' w', Good I L O w I' L' (O ++ [.live el i.size ys]) w' ∧ R I' L' (O ++ [.live el i.size ys]) (.row O.length ys.length) y' ∧
      (Builtin.append_ #[t, t] ty #[.slice none 0 0, .slice (some ⟨b, o, none⟩) ys.length c]).run P w = .ok y' w' := by
  obtain ⟨h1, h2, h3, h4⟩ := newsOf_spec hs hc
  have hpos : 0 < ys.length := List.length_pos_iff.2 hne
  have hm : ys.length ≤ 9223372036854775807 := by simpa [maxLen] using hmx
  have hrun := run_append_nil (P := P) w t ty el i z0 ht hi hz ⟨b, o, none⟩ ys.length c (newsOf w b o (ys.length * i.size)) h1 h2 hpos (by omega) (by omega)
  have hge := grownCap_ge w ys.length 0 el
  have hle := grownCap_le_maxLen w ys.length 0 el hmx
  generalize grownCap w ys.length 0 el = cap at *
  have hgood := (Good.drawn hinv (w.drawn + 1))
  have hrow := RRow.append (I := I) (L := L) (O := O) (s := i.size) (xs := []) (ys := ys) (c := #[]) (d := (newsOf w b o (ys.length * i.size)).toArray) (fun i x hx => by simp at hx) h4 (Builtin.zeroCells z0.cells (cap - ys.length)).toList [] (by simp) (by simp)
  have hnew := hgood.inv.new (e := el) (s := i.size) (xs := ys) ((newsOf w b o (ys.length * i.size)).toArray ++ Builtin.zeroCells z0.cells (cap - ys.length)) cap
    (by rw [Array.size_append, size_zeroCells, hzs]; simp only [List.size_toArray, h1]; rw [← Nat.add_mul]; congr 1; omega) hge hle h0 (by
      have : RRow I L O i.size ys ((newsOf w b o (ys.length * i.size)).toArray ++ Builtin.zeroCells z0.cells (cap - ys.length)) := by simpa using RRow.of_append hrow
      exact this)
  refine ⟨_, _, _, _, hgood.trans hnew, ?_, hrun⟩
  have := R.rowLive (I := I) (L := fun k => if k = O.length then ⟨w.heap.size, cap⟩ else L k) (O := O ++ [.live el i.size ys]) O.length ys.length el i.size ys (by simp) rfl
  simpa using this

theorem app_first {t ty el : Nat} {i : TypeInfo} {z0 : Value} (ht : P.underlying t = some (.slice el)) (hi : P.info? el = some i) (hz : i.zero = some z0) (h0 : 0 < i.size) (hzs : z0.cells.size = i.size)
    (hinv : Inv I L O w) {n : Nat} (hn : O[n]? = some (.nil el i.size)) {ys : List AV} {b o c : Nat} (hs : ∀ x ∈ ys, x.cells.length = i.size) (hne : ys ≠ [])
    (hc : ∀ (k : Nat) x, ys[k]? = some x → ∀ (j : Nat) d, x.cells[j]? = some d → ∃ u, w.cell? ⟨b, o + (k * i.size + j), none⟩ = some u ∧ u.oneCell' = true ∧ R I L O d u)
    (h48 : ys.length * i.bytes ≤ 140737488355328) (hmx : ys.length ≤ maxLen) :
    ∃ y' I' L' w', Good I L O w I' L' (O.set n (.live el i.size ys)) w' ∧ R I' L' (O.set n (.live el i.size ys)) (.row n ys.length) y' ∧
      (Builtin.append_ #[t, t] ty #[.slice none 0 0, .slice (some ⟨b, o, none⟩) ys.length c]).run P w = .ok y' w' := by
  have hnlt : n < O.length := (List.getElem?_eq_some_iff.1 hn).1
  obtain ⟨h1, h2, h3, h4⟩ := newsOf_spec hs hc
  have hpos : 0 < ys.length := List.length_pos_iff.2 hne
  have hm : ys.length ≤ 9223372036854775807 := by simpa [maxLen] using hmx
  have hrun := run_append_nil (P := P) w t ty el i z0 ht hi hz ⟨b, o, none⟩ ys.length c (newsOf w b o (ys.length * i.size)) h1 h2 hpos (by omega) (by omega)
  have hge := grownCap_ge w ys.length 0 el
  have hle := grownCap_le_maxLen w ys.length 0 el hmx
  generalize grownCap w ys.length 0 el = cap at *
  have hgood := (Good.drawn hinv (w.drawn + 1))
  have hrow := RRow.append (I := I) (L := L) (O := O) (s := i.size) (xs := []) (ys := ys) (c := #[]) (d := (newsOf w b o (ys.length * i.size)).toArray) (fun i x hx => by simp at hx) h4 (Builtin.zeroCells z0.cells (cap - ys.length)).toList [] (by simp) (by simp)
  have hnew := hgood.inv.put (n := n) (l := ⟨w.heap.size, cap⟩) (e := el) (s := i.size) (xs := ys) (O' := O.set n (.live el i.size ys))
    (w' := w.drew.alloc (.cells ((newsOf w b o (ys.length * i.size)).toArray ++ Builtin.zeroCells z0.cells (cap - ys.length)) el))
    (set_get hnlt _) (by simp) (fun b' hb' _ => heap_alloc_old w.drew _ b' hb') rfl rfl rfl (by rw [World.size_alloc]; exact Nat.le_succ _) (.inl (Nat.le_refl _))
    ⟨_, heap_alloc_new w.drew _, by rw [Array.size_append, size_zeroCells, hzs]; simp only [List.size_toArray, h1]; rw [← Nat.add_mul]; congr 1; omega, hge, hle, h0, by
      have : RRow I L O i.size ys ((newsOf w b o (ys.length * i.size)).toArray ++ Builtin.zeroCells z0.cells (cap - ys.length)) := by simpa using RRow.of_append hrow
      exact this⟩
    (fun _ => .inr ⟨hn, hne⟩)
  refine ⟨_, _, _, _, hgood.trans hnew, ?_, hrun⟩
  have := R.rowLive (I := I) (L := fun k => if k = n then ⟨w.heap.size, cap⟩ else L k) (O := O.set n (.live el i.size ys)) n ys.length el i.size ys (by simp [hnlt]) rfl
  simpa using this

theorem app_room {t ty el : Nat} {i : TypeInfo} (ht : P.underlying t = some (.slice el)) (hi : P.info? el = some i)
    (hinv : Inv I L O w) {n : Nat} {xs ys : List AV} {b o c : Nat} (hn : O[n]? = some (.live el i.size xs)) (hs : ∀ x ∈ ys, x.cells.length = i.size)
    (hc : ∀ (k : Nat) x, ys[k]? = some x → ∀ (j : Nat) d, x.cells[j]? = some d → ∃ u, w.cell? ⟨b, o + (k * i.size + j), none⟩ = some u ∧ u.oneCell' = true ∧ R I L O d u)
    (hroom : xs.length + ys.length ≤ (L n).cap) :
    ∃ y' I' L' w', Good I L O w I' L' (O.set n (.live el i.size (xs ++ ys))) w' ∧ R I' L' (O.set n (.live el i.size (xs ++ ys))) (.row n (xs.length + ys.length)) y' ∧
      (Builtin.append_ #[t, t] ty #[.slice (some ⟨(L n).blk, 0, none⟩) xs.length (L n).cap, .slice (some ⟨b, o, none⟩) ys.length c]).run P w = .ok y' w' := by
  obtain ⟨h1, h2, h3, h4⟩ := newsOf_spec hs hc
  obtain ⟨cur, g1, g2, g3, g4, g5, g6⟩ := hinv.obj n _ _ xs hn
  have hnlt : n < O.length := (List.getElem?_eq_some_iff.1 hn).1
  have hmul : xs.length * i.size + ys.length * i.size ≤ (L n).cap * i.size := by rw [← Nat.add_mul]; exact Nat.mul_le_mul_right _ hroom
  have hfit : xs.length * i.size + (newsOf w b o (ys.length * i.size)).length ≤ cur.size := by
    rw [h1, g2]; exact hmul
  have hrun := run_append_room (P := P) w t ty el i ht hi (L n).blk xs.length (L n).cap cur g1 ⟨b, o, none⟩ ys.length c (newsOf w b o (ys.length * i.size)) h1 h2 h3 hroom hfit
  have hrow := RRow.append (I := I) (L := L) (O := O) (s := i.size) (xs := xs) (ys := ys) (c := cur) (d := (newsOf w b o (ys.length * i.size)).toArray) g6 h4 (cur.toList.drop (xs.length * i.size + (newsOf w b o (ys.length * i.size)).length)) (cur.toList.take (xs.length * i.size))
    (by simp only [List.length_take, Array.length_toList]; omega) (fun k hk => by rw [List.getElem?_take, if_pos hk, Array.getElem?_toList])
  have hgood := hinv.put (n := n) (l := L n) (e := el) (s := i.size) (xs := xs ++ ys) (O' := O.set n (.live el i.size (xs ++ ys))) (w' := w.setRow (L n).blk (cur.toList.take (xs.length * i.size) ++ newsOf w b o (ys.length * i.size) ++ cur.toList.drop (xs.length * i.size + (newsOf w b o (ys.length * i.size)).length)).toArray)
    (set_get hnlt _) (by simp) (fun b' _ hb' => setRow_other w _ _ _ hb') rfl rfl rfl (by simp) (.inr ⟨_, _, _, hn, rfl⟩)
    ⟨_, setRow_heap w _ cur _ _ _ g1, by simp only [List.size_toArray, List.length_append, List.length_take, List.length_drop, Array.length_toList]; omega, by simpa using hroom, g4, g5, hrow⟩
    (fun _ => .inl ⟨xs, hn, by simp, fun _ => rfl⟩)
  refine ⟨_, _, _, _, hgood, ?_, hrun⟩
  have := R.rowLive (I := I) (L := fun k => if k = n then L n else L k) (O := O.set n (.live el i.size (xs ++ ys))) n (xs.length + ys.length) el i.size (xs ++ ys) (by simp [hnlt]) (by simp)
  simpa using this

theorem app_grow {t ty el : Nat} {i : TypeInfo} {z0 : Value} (ht : P.underlying t = some (.slice el)) (hi : P.info? el = some i) (hz : i.zero = some z0) (hzs : z0.cells.size = i.size)
    (hinv : Inv I L O w) {n : Nat} {xs ys : List AV} {b o c : Nat} (hn : O[n]? = some (.live el i.size xs)) (hs : ∀ x ∈ ys, x.cells.length = i.size) (hne : ys ≠ [])
    (hc : ∀ (k : Nat) x, ys[k]? = some x → ∀ (j : Nat) d, x.cells[j]? = some d → ∃ u, w.cell? ⟨b, o + (k * i.size + j), none⟩ = some u ∧ u.oneCell' = true ∧ R I L O d u)
    (h48 : (xs.length + ys.length) * i.bytes ≤ 140737488355328) (hmx : xs.length + ys.length ≤ maxLen) (hroom : (L n).cap < xs.length + ys.length) :
    ∃ y' I' L' w', Good I L O w I' L' (O.set n (.live el i.size (xs ++ ys))) w' ∧ R I' L' (O.set n (.live el i.size (xs ++ ys))) (.row n (xs.length + ys.length)) y' ∧
      (Builtin.append_ #[t, t] ty #[.slice (some ⟨(L n).blk, 0, none⟩) xs.length (L n).cap, .slice (some ⟨b, o, none⟩) ys.length c]).run P w = .ok y' w' := by
  obtain ⟨h1, h2, h3, h4⟩ := newsOf_spec hs hc
  obtain ⟨cur, g1, g2, g3, g4, g5, g6⟩ := hinv.obj n _ _ xs hn
  have hnlt : n < O.length := (List.getElem?_eq_some_iff.1 hn).1
  have hm : xs.length + ys.length ≤ 9223372036854775807 := by simpa [maxLen] using hmx
  have hpos : 0 < ys.length := List.length_pos_iff.2 hne
  have holds : (cur.toList.take (xs.length * i.size)).length = xs.length * i.size := by
    simp only [List.length_take, Array.length_toList, g2]
    exact Nat.min_eq_left (Nat.mul_le_mul_right _ g3)
  have hrun := run_append_grow (P := P) w t ty el i z0 ht hi hz ⟨(L n).blk, 0, none⟩ xs.length (L n).cap (cur.toList.take (xs.length * i.size)) holds (fun j v hv => by
      rw [add_lit, Nat.zero_add, cell_cells g1]
      rw [List.getElem?_take] at hv
      split at hv
      · simpa using hv
      · cases hv) ⟨b, o, none⟩ ys.length c (newsOf w b o (ys.length * i.size)) h1 h2 (by omega) (by omega) (growslice_fits (by omega) h48)
  have hge := grownCap_ge w (xs.length + ys.length) (L n).cap el
  have hle := grownCap_le_maxLen w (xs.length + ys.length) (L n).cap el hmx
  generalize grownCap w (xs.length + ys.length) (L n).cap el = cap at *
  have hrow := RRow.append (I := I) (L := L) (O := O) (s := i.size) (xs := xs) (ys := ys) (c := cur) (d := (newsOf w b o (ys.length * i.size)).toArray) g6 h4 (Builtin.zeroCells z0.cells (cap - (xs.length + ys.length))).toList (cur.toList.take (xs.length * i.size))
    holds (fun k hk => by rw [List.getElem?_take, if_pos hk, Array.getElem?_toList])
  have hgood0 := (Good.drawn hinv (w.drawn + 1))
  have hgood := hgood0.inv.put (n := n) (l := ⟨w.heap.size, cap⟩) (e := el) (s := i.size) (xs := xs ++ ys) (O' := O.set n (.live el i.size (xs ++ ys)))
    (w' := w.drew.alloc (.cells ((cur.toList.take (xs.length * i.size)).toArray ++ (newsOf w b o (ys.length * i.size)).toArray ++ Builtin.zeroCells z0.cells (cap - (xs.length + ys.length))) el))
    (set_get hnlt _) (by simp) (fun b' hb' _ => heap_alloc_old w.drew _ b' hb') rfl rfl rfl (by rw [World.size_alloc]; exact Nat.le_succ _) (.inl (Nat.le_refl _))
    ⟨_, heap_alloc_new w.drew _, by
        simp only [Array.size_append, size_zeroCells, hzs, List.size_toArray, holds, h1]
        rw [← Nat.add_mul, ← Nat.add_mul]; congr 1; omega, by simpa using hge, hle, g5, RRow.of_append hrow⟩
    (fun _ => .inl ⟨xs, hn, by simp, fun he => by simp at he; exact (hne he).elim⟩)
  refine ⟨_, _, _, _, hgood0.trans hgood, ?_, hrun⟩
  have := R.rowLive (I := I) (L := fun k => if k = n then ⟨w.heap.size, cap⟩ else L k) (O := O.set n (.live el i.size (xs ++ ys))) n (xs.length + ys.length) el i.size (xs ++ ys) (by simp [hnlt]) (by simp)
  simpa using this

theorem app_ran {t ty el s by_ : Nat} {z : AV} (ht : P.underlying t = some (.slice el)) (hel : cElem P el = some (s, by_, z)) {x y : AV} {vx vy : Value}
    (hinv : Inv I L O w) (hx : R I L O x vx) (hy : R I L O y vy)
    (hk0 : srcK O y fun ys => (∀ y ∈ ys, y.cells.length = s) ∧ appK O x el s by_ ys K) :
    ∃ x' O' y' I' L' w', K x' O' ∧ Good I L O w I' L' O' w' ∧ R I' L' O' x' y' ∧ (Builtin.append_ #[t, t] ty #[vx, vy]).run P w = .ok y' w' := by
  obtain ⟨i, z0, hi, hz, hz0, hsz, hby, hzl, h0, hzs, hst⟩ := cElem_inv hel
  obtain ⟨ys, ya, c, ⟨hs, hk⟩, rfl, hsrc⟩ := src_inv hinv hy hk0
  clear hk0
  subst hsz; subst hby
  cases x
  case nils =>
    obtain ⟨h48, hmx, hk0, hk1⟩ := hk
    cases hx
    by_cases hne : ys = []
    · subst hne
      exact ⟨_, O, _, I, L, w, hk0 rfl, .refl hinv, .nils, append_zero ht hi none ya 0 0 c (Nat.le_refl _) w⟩
    · obtain ⟨b, o, rfl, hc⟩ := hsrc i.size hs hne
      obtain ⟨y', I', L', w', q1, q2, q3⟩ := app_nil ht hi hz h0 hzs hinv hs hne hc h48 hmx (c := c)
      exact ⟨_, _, y', I', L', w', hk1 hne, q1, q2, q3⟩
  case row n len =>
    cases hn : O[n]? with
    | none => simp only [appK, hn] at hk
    | some ob =>
      cases ob with
      | dead => simp only [appK, hn] at hk
      | nil t' s' =>
        simp only [appK, hn] at hk
        obtain ⟨rfl, rfl, rfl, h48, hmx, hk0, hk1⟩ := hk
        obtain ⟨rfl, _⟩ := hx.row_nil hn
        by_cases hne : ys = []
        · subst hne
          exact ⟨_, O, _, I, L, w, hk0 rfl, .refl hinv, .rowNil n _ _ hn, append_zero ht hi none ya 0 0 c (Nat.le_refl _) w⟩
        · obtain ⟨b, o, rfl, hc⟩ := hsrc i.size hs hne
          obtain ⟨y', I', L', w', q1, q2, q3⟩ := app_first ht hi hz h0 hzs hinv hn hs hne hc h48 hmx (c := c)
          exact ⟨_, _, y', I', L', w', hk1 hne, q1, q2, q3⟩
      | live t' s' xs =>
        simp only [appK, hn] at hk
        obtain ⟨rfl, rfl, hlen, h48, hmx, hk⟩ := hk
        have hv := hx.row_live hn hlen
        subst hv
        subst hlen
        have hnlt : n < O.length := (List.getElem?_eq_some_iff.1 hn).1
        by_cases hne : ys = []
        · subst hne
          obtain ⟨cur, g1, g2, g3, g4, g5, g6⟩ := hinv.obj n _ _ xs hn
          have hO : O.set n (.live t' i.size (xs ++ [])) = O := by
            rw [List.append_nil]; apply List.ext_getElem?; intro k; rw [set_get hnlt]; split
            · rename_i hk'; rw [hk', hn]
            · rfl
          rw [hO] at hk
          exact ⟨_, O, _, I, L, w, hk, .refl hinv, hx, append_zero ht hi _ ya xs.length _ c g3 w⟩
        · obtain ⟨b, o, rfl, hc⟩ := hsrc i.size hs hne
          by_cases hroom : xs.length + ys.length ≤ (L n).cap
          · obtain ⟨y', I', L', w', q1, q2, q3⟩ := app_room ht hi hinv hn hs hc hroom (c := c)
            exact ⟨_, _, y', I', L', w', hk, q1, q2, q3⟩
          · obtain ⟨y', I', L', w', q1, q2, q3⟩ := app_grow ht hi hz hzs hinv hn hs hne hc h48 hmx (by omega) (c := c)
            exact ⟨_, _, y', I', L', w', hk, q1, q2, q3⟩
  all_goals exact hk.elim

end
end Go.Ab
