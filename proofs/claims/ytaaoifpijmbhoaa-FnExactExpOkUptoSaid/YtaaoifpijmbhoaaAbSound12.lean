/-
  EACH OPERATION DOES WHAT ITS ABSTRACT ONE SAYS (4).
-/
import Derived.Test.YtaaoifpijmbhoaaAbSound11
set_option linter.unusedVariables false
set_option linter.unusedSimpArgs false
set_option linter.defProp false
namespace Go.Ab

section
variable {P : Program} {I : Imm} {L : Nat → Loc} {O : List AObj} {w : World} {K : AV → List AObj → Prop} {e : Env} {a : Act}
variable {d : Option Tmp} {ty : TypeId} {pos : String} {af : Array Edge} {g : Option (Nat × Bool)} {ao : AOp}

theorem ran_iaddr (hi : Inv I L O w) (he : ∀ t, R I L O (e t) (a.tmps.getD t undef)) {t : TypeId} {x y : Operand} (hc : cOp1 P ty (.indexAddr t x y) = some ao) (hk : wpOp P ao e O K) :
    Ran P I L O w (execOp a.eval ⟨d, .indexAddr t x y, ty, pos, af, g⟩) K := by
  simp only [cOp1, Option.bind_eq_bind, Option.bind_eq_some_iff, Option.some.injEq] at hc
  obtain ⟨el, hel, inf, hinf, ax, hx, ay, hy, rfl⟩ := hc
  have ht := cSlice_inv hel
  have rx := cOpd_sound hx he
  have ry := cOpd_sound hy he
  simp only [wpOp] at hk
  generalize ax.ev e = A at rx hk
  generalize ay.ev e = B at ry hk
  generalize hX : a.eval x = X at rx
  generalize hY : a.eval y = Y at ry
  have hrun : ∀ (kk : IntKind) (b o n c : Nat) (j : Int), 0 ≤ j → j < n → (Instr.indexAt t (.slice (some ⟨b, o, none⟩) n c) (.int kk j)).run P w = .ok (.pointer (some ⟨b, o + j.toNat * inf.size, none⟩)) w := by
    intro kk b o n c j h0 h1
    simp [Instr.indexAt, asIntOf, run_underlying ht, sizeOf, typeInfo, hinf, h0, h1, add_lit]
  cases A
  case sl xs =>
    cases B
    case v p =>
      cases p
      case int kk j =>
        obtain ⟨h0, h1, h2, hk⟩ := hk
        have := ry.exact
        subst this
        have hlt : j.toNat < xs.length := by omega
        have hx' : xs[j.toNat]? = some (xs.getD j.toNat .top) := by simp [List.getD, hlt]
        cases rx with
        | sl0 => simp at h1; omega
        | sl _ blk off cap s vals q1 q2 q3 q4 q5 =>
          have hs : s = inf.size := by rw [← q3 _ _ hx', h2]
          subst hs
          refine Ran.same hi hk (y := .pointer (some ⟨blk, off + j.toNat * inf.size + 0, none⟩)) (.iptr _ 0 blk (off + j.toNat * inf.size) (vals j.toNat) (fun k c hc => q4 _ _ k c hx' hc) (fun k c hc => q5 _ _ k c hx' hc)) ?_
          simp only [execOp, hX, hY]
          simp [hrun _ _ _ _ _ _ h0 h1]
      all_goals exact hk.elim
    all_goals exact hk.elim
  case row n len =>
    cases B
    case v p =>
      cases p
      case int kk j =>
        have := ry.exact
        subst this
        cases hO : O[n]? with
        | none => simp only [hO] at hk
        | some ob =>
          cases ob with
          | dead => simp only [hO] at hk
          | nil t' s' => simp only [hO] at hk
          | live t' s xs =>
            simp only [hO] at hk
            obtain ⟨rfl, hl, h0, h1, hk⟩ := hk
            have := rx.row_live hO hl
            subst this
            refine Ran.same hi hk (.ptrLive n len j.toNat 0 t' inf.size xs hO hl) ?_
            simp only [execOp, hX, hY]
            simp [hrun _ _ _ _ _ _ h0 h1]
      all_goals exact hk.elim
    all_goals exact hk.elim
  all_goals exact hk.elim

theorem ran_index (hi : Inv I L O w) (he : ∀ t, R I L O (e t) (a.tmps.getD t undef)) {t : TypeId} {x y : Operand} (hc : cOp1 P ty (.index t x y) = some ao) (hk : wpOp P ao e O K) :
    Ran P I L O w (execOp a.eval ⟨d, .index t x y, ty, pos, af, g⟩) K := by
  simp only [cOp1] at hc
  split at hc
  · rename_i ht
    simp only [Option.bind_eq_bind, Option.bind_eq_some_iff, Option.some.injEq] at hc
    obtain ⟨ax, hx, ay, hy, rfl⟩ := hc
    have rx := cOpd_sound hx he
    have ry := cOpd_sound hy he
    simp only [wpOp] at hk
    generalize ax.ev e = A at rx hk
    generalize ay.ev e = B at ry hk
    generalize hX : a.eval x = X at rx
    generalize hY : a.eval y = Y at ry
    cases A
    case v p =>
      cases p
      case string s =>
        cases B
        case v q =>
          cases q
          case int kk j =>
            obtain ⟨h0, h1, hk⟩ := hk
            have e1 := rx.exact
            have e2 := ry.exact
            subst e1; subst e2
            have hlt : j.toNat < s.size := by omega
            have hb : s[j.toNat]? = some (s.data.toList.getD j.toNat 0) := by
              rw [getElem?_pos s j.toNat hlt]
              have hl2 : j.toNat < s.data.toList.length := by simpa using hlt
              simp only [List.getD, List.getElem?_eq_getElem hl2, Option.getD_some, Option.some.injEq]
              rfl
            refine Ran.same hi hk (.v _ rfl) ?_
            simp only [execOp, hX, hY]
            generalize s.data.toList.getD j.toNat 0 = q at hb
            simp [Instr.index, asIntOf, run_underlying ht, h0, hb]
          all_goals exact hk.elim
        all_goals exact hk.elim
      all_goals exact hk.elim
    all_goals exact hk.elim
  · cases hc

theorem ran_lenS (hi : Inv I L O w) (he : ∀ t, R I L O (e t) (a.tmps.getD t undef)) {t : TypeId} {x : Operand} (ht : P.underlying t = some .string) {ax : Opd} (hx : cOpd x = some ax) (hk : wpOp P (.lenS ax) e O K) :
    ∃ x' y, K x' O ∧ R I L O x' y ∧ (Builtin.len_ #[t] ty #[a.eval x]).run P w = .ok y w := by
  have rx := cOpd_sound hx he
  simp only [wpOp] at hk
  generalize ax.ev e = A at rx hk
  generalize a.eval x = X at rx
  cases A
  case v p =>
    cases p
    case string s =>
      have e1 := rx.exact
      subst e1
      exact ⟨_, .int .i64 s.size, hk, .v _ rfl, by simp [Builtin.len_, run_underlying ht, goInt]⟩
    all_goals exact hk.elim
  all_goals exact hk.elim

theorem ran_lenL (hi : Inv I L O w) (he : ∀ t, R I L O (e t) (a.tmps.getD t undef)) {t el : TypeId} {x : Operand} (ht : P.underlying t = some (.slice el)) {ax : Opd} (hx : cOpd x = some ax) (hk : wpOp P (.lenL ax) e O K) :
    ∃ x' y, K x' O ∧ R I L O x' y ∧ (Builtin.len_ #[t] ty #[a.eval x]).run P w = .ok y w := by
  have rx := cOpd_sound hx he
  simp only [wpOp] at hk
  generalize ax.ev e = A at rx hk
  generalize a.eval x = X at rx
  have hs : ∀ b n c, (Builtin.len_ #[t] ty #[.slice b n c]).run P w = .ok (.int .i64 n) w := by
    intro b n c
    simp [Builtin.len_, run_underlying ht, goInt]
  cases A
  case nils => cases rx; exact ⟨_, .int .i64 0, hk, .v _ rfl, hs none 0 0⟩
  case sl xs =>
    cases rx with
    | sl0 b c => exact ⟨_, .int .i64 0, hk, .v _ rfl, hs b 0 c⟩
    | sl _ blk off cap s vals => exact ⟨_, .int .i64 xs.length, hk, .v _ rfl, hs _ _ _⟩
  case row n len =>
    cases hO : O[n]? with
    | none => simp only [hO] at hk
    | some ob =>
      cases ob with
      | dead => simp only [hO] at hk
      | nil t' s' =>
        simp only [hO] at hk
        obtain ⟨rfl, hk⟩ := hk
        obtain ⟨rfl, _⟩ := rx.row_nil hO
        exact ⟨_, .int .i64 0, hk, .v _ rfl, hs _ _ _⟩
      | live t' s xs =>
        simp only [hO] at hk
        have := rx.row_live hO hk.1
        subst this
        exact ⟨_, .int .i64 len, hk.2, .v _ rfl, hs _ _ _⟩
  all_goals exact hk.elim

theorem ran_makeSlice (hi : Inv I L O w) (he : ∀ t, R I L O (e t) (a.tmps.getD t undef)) {t : TypeId} {x y : Operand} (hc : cOp1 P ty (.makeSlice t x y) = some ao) (hk : wpOp P ao e O K) :
    Ran P I L O w (execOp a.eval ⟨d, .makeSlice t x y, ty, pos, af, g⟩) K := by
  simp only [cOp1, Option.bind_eq_bind, Option.bind_eq_some_iff, Option.some.injEq] at hc
  obtain ⟨el, hel, ⟨s, b, z⟩, hz, ax, hx, ay, hy, rfl⟩ := hc
  have ht := cSlice_inv hel
  obtain ⟨i, z0, h1, h2, h3, rfl, rfl, h4, h5, h6, h7⟩ := cElem_inv hz
  have rx := cOpd_sound hx he
  have ry := cOpd_sound hy he
  simp only [wpOp] at hk
  generalize ax.ev e = A at rx hk
  generalize ay.ev e = B at ry hk
  generalize hX : a.eval x = X at rx
  generalize hY : a.eval y = Y at ry
  split at hk
  · rename_i n c
    obtain ⟨q1, q2, q3, q4, hk⟩ := hk
    have e1 := rx.exact
    have e2 := ry.exact
    subst e1; subst e2
    have hm : c ≤ 9223372036854775807 := by simpa [maxLen] using q4
    have hrun := run_make (P := P) w t el i z0 ht h1 h2 .i64 .i64 n c q1 q2 (by omega) hm
    have hmade := RRow.made (I := I) (L := L) (O := O) (cap := c.toNat) (n := n.toNat) (absV_sound h3) h7 h4 h5 (by omega)
    have hgood := hi.new (e := el) (s := i.size) (xs := List.replicate n.toNat z) (madeCells z0.cells (c.toNat * i.size)) c.toNat (size_madeCells _ _) (by simp; omega) (by simp only [maxLen] at q4 ⊢; omega) h5 hmade
    have hr := R.rowLive (I := I) (L := fun k => if k = O.length then ⟨w.heap.size, c.toNat⟩ else L k) (O := O ++ [.live el i.size (List.replicate n.toNat z)]) O.length n.toNat el i.size (List.replicate n.toNat z) (by simp) (by simp)
    refine ⟨_, _, _, _, _, _, hk, hgood, hr, .inl ?_⟩
    simp only [execOp, hX, hY]
    rw [Sem.run_bind, hrun]
    simp
  · exact hk.elim

theorem bound_run {x : Option Operand} {ax : Option Opd} (hx : x.mapM cOpd = some ax) (he : ∀ t, R I L O (e t) (a.tmps.getD t undef)) {dflt : Int} {M : Int → Prop} (h : boundK dflt e ax M) :
    ∃ i : Int, M i ∧ ((x = none ∧ i = dflt) ∨ ∃ o k, x = some o ∧ a.eval o = .int k i) := by
  cases x with
  | none => simp at hx; subst hx; exact ⟨dflt, h, .inl ⟨rfl, rfl⟩⟩
  | some o =>
    simp only [Option.mapM_some, Option.map_eq_map, Option.map_eq_some_iff] at hx
    obtain ⟨ao, hao, rfl⟩ := hx
    have r := cOpd_sound hao he
    simp only [boundK] at h
    generalize ao.ev e = A at r h
    cases A
    case v p =>
      cases p
      case int k i => exact ⟨i, h, .inr ⟨o, k, rfl, r.exact⟩⟩
      all_goals exact h.elim
    all_goals exact h.elim

theorem run_sliceBound {k : IntKind} {i : Int} {y : Nat} {code : BoundsCode} (h0 : 0 ≤ i) (h1 : i ≤ y) (w : World) : (Instr.sliceBound (.int k i) y code).run P w = .ok i.toNat w := by
  simp [Instr.sliceBound, asIntOf, h0, h1]

theorem run_sliceBounds {sl : Bool} {len cap : Nat} {lo hi : Option Operand} {l h : Int} (hlc : len ≤ cap)
    (hlo : (lo = none ∧ l = 0) ∨ ∃ o k, lo = some o ∧ a.eval o = .int k l) (hhi : (hi = none ∧ h = len) ∨ ∃ o k, hi = some o ∧ a.eval o = .int k h)
    (h0 : 0 ≤ l) (h1 : l ≤ h) (h2 : h ≤ len) (w : World) :
    (Instr.sliceBounds sl len cap (lo.map a.eval) (hi.map a.eval) none).run P w = .ok (l.toNat, h.toNat, cap) w := by
  rcases hhi with ⟨rfl, rfl⟩ | ⟨o, k, rfl, ho⟩ <;> rcases hlo with ⟨rfl, rfl⟩ | ⟨o', k', rfl, ho'⟩
  · simp [Instr.sliceBounds]
  · simp [Instr.sliceBounds, ho', run_sliceBound (P := P) (k := k') (i := l) (y := len) h0 (by omega) w]
  · simp [Instr.sliceBounds, ho, run_sliceBound (P := P) (k := k) (i := h) (y := cap) (by omega) (by omega) w]
  · simp [Instr.sliceBounds, ho, ho', run_sliceBound (P := P) (k := k) (i := h) (y := cap) (by omega) (by omega) w, run_sliceBound (P := P) (k := k') (i := l) (y := h.toNat) h0 (by omega) w]

theorem ran_slice (hi : Inv I L O w) (he : ∀ t, R I L O (e t) (a.tmps.getD t undef)) {t : TypeId} {x : Operand} {lo hi' mx : Option Operand} (hc : cOp1 P ty (.slice t x lo hi' mx) = some ao) (hk : wpOp P ao e O K) :
    Ran P I L O w (execOp a.eval ⟨d, .slice t x lo hi' mx, ty, pos, af, g⟩) K := by
  simp only [cOp1] at hc
  split at hc
  · cases hc
  · rename_i hmx
    obtain rfl : mx = none := by cases mx <;> simp at hmx ⊢
    split at hc
    · rename_i ht
      simp only [Option.bind_eq_bind, Option.bind_eq_some_iff, Option.some.injEq] at hc
      obtain ⟨ax, hx, al, hl, ah, hh, rfl⟩ := hc
      have rx := cOpd_sound hx he
      simp only [wpOp] at hk
      generalize ax.ev e = A at rx hk
      generalize hX : a.eval x = X at rx
      cases A
      case v p =>
        cases p
        case string s =>
          have e1 := rx.exact
          subst e1
          obtain ⟨l, hk, hlo⟩ := bound_run hl he hk
          obtain ⟨h, hk, hhi⟩ := bound_run hh he hk
          obtain ⟨q1, q2, q3, hk⟩ := hk
          have hb := run_sliceBounds (P := P) (sl := false) (cap := s.size) (Nat.le_refl _) hlo hhi q1 q2 q3 w
          refine Ran.same hi hk (.v _ rfl) ?_
          simp only [execOp, hX]
          simp [Instr.sliceAt, Instr.slice, run_underlying ht, hb]
        all_goals exact hk.elim
      all_goals exact hk.elim
    · rename_i el ht
      simp only [Option.bind_eq_bind, Option.bind_eq_some_iff, Option.some.injEq] at hc
      obtain ⟨inf, hinf, ax, hx, al, hl, ah, hh, rfl⟩ := hc
      have rx := cOpd_sound hx he
      simp only [wpOp] at hk
      generalize ax.ev e = A at rx hk
      generalize hX : a.eval x = X at rx
      cases A
      case sl xs =>
        obtain ⟨l, hk, hlo⟩ := bound_run hl he hk
        obtain ⟨h, hk, hhi⟩ := bound_run hh he hk
        obtain ⟨q1, q2, q3, q4, hk⟩ := hk
        cases rx with
        | sl0 b cap =>
          simp at q3 hhi
          obtain rfl : l = 0 := by omega
          obtain rfl : h = 0 := by omega
          have hb := run_sliceBounds (P := P) (sl := true) (len := 0) (cap := cap) (Nat.zero_le _) hlo (by simpa using hhi) q1 q2 (by simp) w
          refine Ran.same hi hk (y := .slice (if cap = 0 then b else b.map (·.add (0 * inf.size))) 0 (cap - 0)) (.sl0 _ _) ?_
          simp only [execOp, hX]
          simp at hb
          simp [Instr.sliceAt, Instr.slice, run_underlying ht, hb, sizeOf, typeInfo, hinf]
        | sl _ blk off cap s vals r1 r2 r3 r4 r5 =>
          have hb := run_sliceBounds (P := P) (sl := true) (len := xs.length) (cap := cap) r1 hlo hhi q1 q2 q3 w
          have hs : s = inf.size := by
            obtain ⟨y, hy⟩ := List.exists_mem_of_ne_nil _ r2
            obtain ⟨j, hj⟩ := List.getElem?_of_mem hy
            rw [← r3 j y hj, q4 y hy]
          subst hs
          by_cases hlen : l = h
          · subst hlen
            have hnil : (xs.take l.toNat).drop l.toNat = [] := by simp
            rw [hnil] at hk
            refine Ran.same hi hk (y := .slice (if cap = l.toNat then some ⟨blk, off, none⟩ else some ⟨blk, off + l.toNat * inf.size, none⟩) 0 (cap - l.toNat)) (.sl0 _ _) ?_
            simp only [execOp, hX]
            simp [Instr.sliceAt, Instr.slice, run_underlying ht, hb, sizeOf, typeInfo, hinf, add_lit]
          · have hlh : l.toNat < h.toNat := by omega
            have hcl : ¬ (cap = l.toNat) := by omega
            have hlen2 : ((xs.take h.toNat).drop l.toNat).length = h.toNat - l.toNat := by simp; omega
            have hsub : ∀ (i : Nat) y, ((xs.take h.toNat).drop l.toNat)[i]? = some y → xs[l.toNat + i]? = some y := by
              intro i y hy
              rw [List.getElem?_drop, List.getElem?_take] at hy
              split at hy
              · exact hy
              · cases hy
            have hne : (xs.take h.toNat).drop l.toNat ≠ [] := by
              intro h0
              have := congrArg List.length h0
              rw [hlen2] at this; simp at this; omega
            have hr := R.sl (I := I) (L := L) (O := O) ((xs.take h.toNat).drop l.toNat) blk (off + l.toNat * inf.size) (cap - l.toNat) inf.size (fun i => vals (l.toNat + i)) (by omega) hne
              (fun i y hy => r3 _ y (hsub i y hy))
              (fun i y j c hy hj => by have := r4 _ y j c (hsub i y hy) hj; rwa [Nat.add_mul, ← Nat.add_assoc] at this)
              (fun i y j c hy hj => r5 _ y j c (hsub i y hy) hj)
            rw [hlen2] at hr
            refine Ran.same hi hk hr ?_
            simp only [execOp, hX]
            simp [Instr.sliceAt, Instr.slice, run_underlying ht, hb, sizeOf, typeInfo, hinf, add_lit, hcl]
      all_goals exact hk.elim
    · cases hc

end
end Go.Ab
