/-
  EACH OPERATION DOES WHAT ITS ABSTRACT ONE SAYS (1).
-/
import Derived.Test.YtaaoifpijmbhoaaAbSound8
set_option linter.unusedVariables false
set_option linter.unusedSimpArgs false
set_option linter.defProp false
namespace Go.Ab

section
variable {P : Program} {I : Imm} {L : Nat → Loc} {O : List AObj} {w : World} {K : AV → List AObj → Prop} {e : Env} {a : Act}
variable {d : Option Tmp} {ty : TypeId} {pos : String} {af : Array Edge} {g : Option (Nat × Bool)} {ao : AOp}

theorem ran_mov (hi : Inv I L O w) (he : ∀ t, R I L O (e t) (a.tmps.getD t undef)) {x : Operand} (hc : cOp1 P ty (.move x) = some ao) (hk : wpOp P ao e O K) :
    Ran P I L O w (execOp a.eval ⟨d, .move x, ty, pos, af, g⟩) K := by
  simp only [cOp1, Option.bind_eq_bind, Option.bind_eq_some_iff, Option.some.injEq] at hc
  obtain ⟨ax, hx, rfl⟩ := hc
  exact Ran.same hi hk (cOpd_sound hx he) rfl

theorem ran_assign (hi : Inv I L O w) (he : ∀ t, R I L O (e t) (a.tmps.getD t undef)) {x : Operand} (hc : cOp1 P ty (.assign x) = some ao) (hk : wpOp P ao e O K) :
    Ran P I L O w (execOp a.eval ⟨d, .assign x, ty, pos, af, g⟩) K := by
  simp only [cOp1, Option.bind_eq_bind, Option.bind_eq_some_iff, Option.some.injEq] at hc
  obtain ⟨ax, hx, rfl⟩ := hc
  exact Ran.same hi hk (cOpd_sound hx he) rfl

theorem ran_pick (hi : Inv I L O w) (he : ∀ t, R I L O (e t) (a.tmps.getD t undef)) {x y z : Operand} (hc : cOp1 P ty (.pick x y z) = some ao) (hk : wpOp P ao e O K) :
    Ran P I L O w (execOp a.eval ⟨d, .pick x y z, ty, pos, af, g⟩) K := by
  simp only [cOp1, Option.bind_eq_bind, Option.bind_eq_some_iff, Option.some.injEq] at hc
  obtain ⟨ax, hx, ay, hy, az, hz, rfl⟩ := hc
  have rx := cOpd_sound hx he
  simp only [wpOp] at hk
  split at hk
  · rename_i t ht
    rw [ht] at rx
    have := rx.bool
    refine Ran.same hi hk (y := if t = true then a.eval y else a.eval z) ?_ ?_
    · cases t
      · simpa using cOpd_sound hz he
      · simpa using cOpd_sound hy he
    · simp [execOp, this, asBool]
  · exact hk.elim

theorem ran_alloc (hi : Inv I L O w) {t : TypeId} (hc : cOp1 P ty (.alloc t) = some ao) (hk : wpOp P ao e O K) :
    Ran P I L O w (execOp a.eval ⟨d, .alloc t, ty, pos, af, g⟩) K := by
  simp only [cOp1, Option.bind_eq_bind, Option.bind_eq_some_iff, Option.some.injEq] at hc
  obtain ⟨⟨s, b, z⟩, hz, rfl⟩ := hc
  obtain ⟨i, z0, h1, h2, h3, rfl, rfl, h4, h5, h6, h7⟩ := cElem_inv hz
  obtain ⟨q1, q2⟩ := hi.box t (absV_sound (I := I) (L := L) (O := O) h3) h7 h4 h5
  exact ⟨_, _, _, _, _, _, hk, q1, q2, .inl (by simp [execOp, Instr.alloc, zeroValue, typeInfo, h1, h2, newVar, newRow])⟩

theorem ran_box (hi : Inv I L O w) (he : ∀ t, R I L O (e t) (a.tmps.getD t undef)) {t : TypeId} {x : Operand} (hc : cOp1 P ty (.box t x) = some ao) (hk : wpOp P ao e O K) :
    Ran P I L O w (execOp a.eval ⟨d, .box t x, ty, pos, af, g⟩) K := by
  simp only [cOp1, Option.bind_eq_bind, Option.bind_eq_some_iff] at hc
  obtain ⟨i, hi', hc⟩ := hc
  split at hc
  · rename_i hs
    simp only [Option.bind_eq_some_iff, Option.some.injEq] at hc
    obtain ⟨ax, hx, rfl⟩ := hc
    obtain ⟨h1, h2, h3⟩ := hk
    obtain ⟨q1, q2⟩ := hi.box t (cOpd_sound hx he) h2 h1 hs
    exact ⟨_, _, _, _, _, _, h3, q1, q2, .inl (by simp [execOp, Instr.box, newVar, newRow])⟩
  · cases hc

theorem ran_load (hi : Inv I L O w) (he : ∀ t, R I L O (e t) (a.tmps.getD t undef)) {t : TypeId} {x : Operand} (hc : cOp1 P ty (.load t x) = some ao) (hk : wpOp P ao e O K) :
    Ran P I L O w (execOp a.eval ⟨d, .load t x, ty, pos, af, g⟩) K := by
  simp only [cOp1, Option.bind_eq_bind, Option.bind_eq_some_iff, Option.some.injEq] at hc
  obtain ⟨n, hn, ax, hx, rfl⟩ := hc
  have rx := cOpd_sound hx he
  simp only [wpOp] at hk
  generalize ax.ev e = A at rx hk
  generalize hX : a.eval x = X at rx
  cases A
  case iptr y f =>
    obtain ⟨h1, h2⟩ := hk
    cases rx with
    | iptr _ _ blk base vals hv hr =>
      have hget : ∀ j, j < n.getD 1 → ∃ c, y.cells[f + j]? = some c := fun j hj => ⟨y.cells[f + j]'(by omega), by simp⟩
      have hrun := run_loadAt (P := P) (t := t) hn blk (base + f) (fun j => vals (f + j)) w (fun j hj => by
        obtain ⟨c, hc⟩ := hget j hj
        rw [Nat.add_assoc]; exact hi.imm _ _ _ (hv _ c hc).1)
      refine Ran.same hi h2 (loadC_sound (vals := fun j => vals (f + j)) h1 fun j c hj hlt => hr _ c hj) ?_
      simp only [execOp, hX]
      simp [hrun]
  case ptr k len i f =>
    cases hO : O[k]? with
    | none => simp only [hO] at hk
    | some ob =>
      cases ob with
      | dead => simp only [hO] at hk
      | nil t' s' => simp only [hO] at hk
      | live t' s xs =>
        simp only [hO] at hk
        obtain ⟨hl, hlt, hf, hk⟩ := hk
        have := rx.ptr_live hO hl
        subst this
        obtain ⟨c, g1, g2, g3, g4, g5, g6⟩ := hi.obj k _ _ xs hO
        have hx' : xs[i]? = some (xs.getD i .top) := by simp [List.getD, show i < xs.length by omega]
        obtain ⟨g7, g8⟩ := g6 i _ hx'
        generalize xs.getD i .top = y at *
        have hex : ∀ j, ∃ u, j < n.getD 1 → c[i * s + (f + j)]? = some u ∧ ∀ c', y.cells[f + j]? = some c' → R I L O c' u := by
          intro j
          by_cases hj : j < n.getD 1
          · have hc' : y.cells[f + j]? = some (y.cells[f + j]'(by omega)) := by simp
            obtain ⟨u, hu, _, hr⟩ := g8 (f + j) _ hc'
            exact ⟨u, fun _ => ⟨hu, fun c'' h'' => by rw [hc'] at h''; cases h''; exact hr⟩⟩
          · exact ⟨undef, fun h => (hj h).elim⟩
        let vals : Nat → Value := fun j => (hex j).choose
        have hvals : ∀ j, j < n.getD 1 → c[i * s + (f + j)]? = some (vals j) ∧ ∀ c', y.cells[f + j]? = some c' → R I L O c' (vals j) := fun j hj => (hex j).choose_spec hj
        have hrun := run_loadAt (P := P) (t := t) hn (L k).blk (i * s + f) vals w (fun j hj => by
          rw [cell_cells g1, Nat.add_assoc]; exact (hvals j hj).1)
        refine Ran.same hi hk (loadC_sound (vals := vals) hf fun j c' hj hlt' => (hvals j hlt').2 c' hj) ?_
        simp only [execOp, hX]
        simp [hrun]
  all_goals exact hk.elim

theorem upd_cells {x y : AV} {f : Nat} (hf : f + y.cells.length ≤ x.cells.length) (j : Nat) :
    (upd x f y).cells.length = x.cells.length ∧ (upd x f y).cells[j]? = if f ≤ j ∧ j < f + y.cells.length then y.cells[j - f]? else x.cells[j]? := by
  unfold upd
  split
  · rename_i h
    obtain ⟨rfl, hl⟩ := h
    refine ⟨hl, ?_⟩
    split
    · simp
    · rename_i hn
      rw [List.getElem?_eq_none (by omega), List.getElem?_eq_none (by omega)]
  · generalize hxs : x.cells = xs at *
    generalize hys : y.cells = ys at *
    show (xs.take f ++ ys ++ xs.drop (f + ys.length)).length = xs.length ∧ (xs.take f ++ ys ++ xs.drop (f + ys.length))[j]? = _
    refine ⟨by simp; omega, ?_⟩
    split
    · rename_i h
      rw [List.append_assoc, List.getElem?_append_right (by simp; omega), List.getElem?_append_left (by simp; omega)]
      congr 1; simp; omega
    · rename_i h
      by_cases hlt : j < f
      · rw [List.append_assoc, List.getElem?_append_left (by simp; omega), List.getElem?_take, if_pos hlt]
      · rw [List.getElem?_append_right (by simp; omega), List.getElem?_drop]
        congr 1; simp; omega

theorem ran_store (hi : Inv I L O w) (he : ∀ t, R I L O (e t) (a.tmps.getD t undef)) {t : TypeId} {x y : Operand} (hc : cOp1 P ty (.store t x y) = some ao) (hk : wpOp P ao e O K) :
    Ran P I L O w (execOp a.eval ⟨d, .store t x y, ty, pos, af, g⟩) K := by
  simp only [cOp1, Option.bind_eq_bind, Option.bind_eq_some_iff, Option.some.injEq] at hc
  obtain ⟨inf, hinf, ax, hx, ay, hy, rfl⟩ := hc
  have rx := cOpd_sound hx he
  have ry := cOpd_sound hy he
  simp only [wpOp] at hk
  generalize ax.ev e = A at rx hk
  generalize ay.ev e = B at ry hk
  generalize hX : a.eval x = X at rx
  generalize hY : a.eval y = Y at ry
  cases A
  case ptr k len i f =>
    cases hO : O[k]? with
    | none => simp only [hO] at hk
    | some ob =>
      cases ob with
      | dead => simp only [hO] at hk
      | nil t' s' => simp only [hO] at hk
      | live t' s xs =>
        simp only [hO] at hk
        obtain ⟨hl, hlt, hm, hst, hf, hk⟩ := hk
        have := rx.ptr_live hO hl
        subst this
        obtain ⟨c, g1, g2, g3, g4, g5, g6⟩ := hi.obj k _ _ xs hO
        have hklt : k < O.length := (List.getElem?_eq_some_iff.1 hO).1
        have hx' : xs[i]? = some (xs.getD i .top) := by simp [List.getD, show i < xs.length by omega]
        obtain ⟨g7, g8⟩ := g6 i _ hx'
        obtain ⟨r1, r2⟩ := ry.cellsOne hst
        have hone := ry.allOne hst
        have hYl : Y.cells.toList.length = B.cells.length := by simp [r1]
        have hrow := idx_lt (s := s) (show i < xs.length by omega) (show s - 1 < s by omega)
        have hcap : xs.length * s ≤ c.size := by rw [g2]; exact Nat.mul_le_mul_right _ g3
        have hfit : i * s + f + 0 + Y.cells.toList.length ≤ c.size := by omega
        have hrun := run_storeCells_at (P := P) (L k).blk (i * s + f) t' Y.cells.toList 0 c w g1 hfit hone
        have hc2 : ∀ j : Nat, ((c.toList.take (i * s + f + 0) ++ Y.cells.toList ++ c.toList.drop (i * s + f + 0 + Y.cells.toList.length)).toArray)[j]? = if i * s + f ≤ j ∧ j < i * s + f + B.cells.length then Y.cells[j - (i * s + f)]? else c[j]? := by
          intro j
          simp only [List.getElem?_toArray, Nat.add_zero]
          split
          · rename_i h
            rw [List.append_assoc, List.getElem?_append_right (by simp; omega), List.getElem?_append_left (by simp; omega), Array.getElem?_toList]
            congr 1; simp; omega
          · rename_i h
            by_cases hlt' : j < i * s + f
            · rw [List.append_assoc, List.getElem?_append_left (by simp; omega), List.getElem?_take, if_pos hlt', Array.getElem?_toList]
            · rw [List.getElem?_append_right (by simp; omega), List.getElem?_drop, Array.getElem?_toList]
              congr 1; simp; omega
        generalize hC2 : (c.toList.take (i * s + f + 0) ++ Y.cells.toList ++ c.toList.drop (i * s + f + 0 + Y.cells.toList.length)).toArray = c2 at *
        have hc2s : c2.size = c.size := by rw [← hC2]; simp; omega
        have hgood := hi.put (n := k) (l := L k) (e := t') (s := s) (xs := xs.set i (upd (xs.getD i .top) f B)) (O' := O.set k (.live t' s (xs.set i (upd (xs.getD i .top) f B)))) (w' := w.setRow (L k).blk c2)
          (set_get hklt _) (by simp) (fun b' _ hb' => setRow_other w _ _ _ hb') rfl rfl rfl (by simp) (.inr ⟨_, _, _, hO, rfl⟩)
          ⟨c2, setRow_heap w _ c _ _ _ g1, by rw [hc2s, g2], by simpa using g3, g4, g5, by
            intro i' z hz
            rw [List.getElem?_set] at hz
            by_cases hii : i = i'
            · subst hii
              rw [if_pos rfl, if_pos (by omega)] at hz
              cases hz
              refine ⟨by rw [(upd_cells (by omega) 0).1, g7], fun j q hj => ?_⟩
              rw [(upd_cells (by omega) j).2] at hj
              by_cases hj' : f ≤ j ∧ j < f + B.cells.length
              · rw [if_pos hj'] at hj
                obtain ⟨u, hu, ho, hr⟩ := r2 _ q hj
                refine ⟨u, ?_, ho, hr⟩
                rw [hc2, if_pos (by omega), ← hu]; congr 1; omega
              · rw [if_neg hj'] at hj
                obtain ⟨u, hu, ho, hr⟩ := g8 j q hj
                refine ⟨u, ?_, ho, hr⟩
                rw [hc2, if_neg (by omega), hu]
            · rw [if_neg hii] at hz
              obtain ⟨q1, q2⟩ := g6 i' z hz
              refine ⟨q1, fun j q hj => ?_⟩
              obtain ⟨u, hu, ho, hr⟩ := q2 j q hj
              have hjs : j < s := by rw [← q1]; exact (List.getElem?_eq_some_iff.1 hj).1
              refine ⟨u, ?_, ho, hr⟩
              have hne := idx_ne (i := i') (i' := i) hjs (fun h => hii h.symm)
              rw [hc2, if_neg (by omega), hu]⟩
          (fun _ => .inl ⟨xs, hO, by simp, fun _ => rfl⟩)
        refine ⟨_, _, undef, _, _, _, hk, hgood, .top _, .inr ⟨?_, rfl⟩⟩
        have hsz : Y.cells.size = inf.size := by omega
        simp only [execOp, hX, hY]
        simp [Instr.storeAt, Instr.sureAddr, storeVar, sizeOf, typeInfo, hinf, hsz, hrun]
  all_goals exact hk.elim

end
end Go.Ab
