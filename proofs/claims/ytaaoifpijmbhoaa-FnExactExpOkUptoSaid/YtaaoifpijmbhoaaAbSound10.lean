/-
  EACH OPERATION DOES WHAT ITS ABSTRACT ONE SAYS (2).
-/
import Derived.Test.YtaaoifpijmbhoaaAbSound9
set_option linter.unusedVariables false
set_option linter.unusedSimpArgs false
set_option linter.defProp false
namespace Go.Ab

section
variable {P : Program} {I : Imm} {L : Nat → Loc} {O : List AObj} {w : World} {K : AV → List AObj → Prop} {e : Env} {a : Act}
variable {d : Option Tmp} {ty : TypeId} {pos : String} {af : Array Edge} {g : Option (Nat × Bool)} {ao : AOp}

theorem ran_bin (hi : Inv I L O w) (he : ∀ t, R I L O (e t) (a.tmps.getD t undef)) {op : BinOp} {t u : TypeId} {x y : Operand} (hc : cOp1 P ty (.binOp op t x y u) = some ao) (hk : wpOp P ao e O K) :
    Ran P I L O w (execOp a.eval ⟨d, .binOp op t x y u, ty, pos, af, g⟩) K := by
  simp only [cOp1] at hc
  split at hc
  · rename_i hb
    simp only [Option.bind_eq_bind, Option.bind_eq_some_iff, Option.some.injEq] at hc
    obtain ⟨ax, hx, ay, hy, rfl⟩ := hc
    have rx := cOpd_sound hx he
    have ry := cOpd_sound hy he
    simp only [wpOp] at hk
    split at hk
    · rename_i p q hp hq
      rw [hp] at rx
      rw [hq] at ry
      have h1 := rx.bool
      have h2 := ry.bool
      have key : (op = .eql ∨ op = .neq) ∧ P.underlying t = some .bool := by
        unfold isBoolEq at hb
        split at hb
        · rename_i h; exact ⟨.inl rfl, h⟩
        · rename_i h; exact ⟨.inr rfl, h⟩
        · cases hb
      obtain ⟨hop, ht⟩ := key
      refine Ran.same hi hk (.v _ rfl) ?_
      simp only [execOp, h1, h2]
      have he : (Op.equal t (.bool p) (.bool q)).run P w = .ok (p == q) w := by
        have e1 : Op.equal t (.bool p) (.bool q) = Op.equalIn (9999 + 1) t (.bool p) (.bool q) := rfl
        rw [e1, Op.equalIn]
        simp [run_underlying ht]
      rcases hop with rfl | rfl
      · simp [eqGuard, Go.binOp, he, isNeq]
      · simp [eqGuard, Go.binOp, he, isNeq]
    · exact hk.elim
  simp only [Option.bind_eq_bind, Option.bind_eq_some_iff, Option.some.injEq] at hc
  obtain ⟨ax, hx, ay, hy, rfl⟩ := hc
  have rx := cOpd_sound hx he
  have ry := cOpd_sound hy he
  simp only [wpOp] at hk
  generalize ax.ev e = A at rx hk
  generalize ay.ev e = B at ry hk
  cases A <;> cases B <;> simp only at hk
  rename_i p q
  cases hz : sbin op p q with
  | none => simp only [hz] at hk
  | some z =>
    simp only [hz] at hk
    have h1 := rx.exact
    have h2 := ry.exact
    obtain ⟨hr, ho⟩ := sbin_run (P := P) hz t x y w
    refine Ran.same hi hk (.v z ho) ?_
    simp only [execOp, h1, h2]
    rw [Sem.run_bind, hr]
    rfl

theorem ran_un (hi : Inv I L O w) (he : ∀ t, R I L O (e t) (a.tmps.getD t undef)) {op : UnOp} {t : TypeId} {x : Operand} (hc : cOp1 P ty (.unOp op t x) = some ao) (hk : wpOp P ao e O K) :
    Ran P I L O w (execOp a.eval ⟨d, .unOp op t x, ty, pos, af, g⟩) K := by
  simp only [cOp1, Option.bind_eq_bind, Option.bind_eq_some_iff, Option.some.injEq] at hc
  obtain ⟨ax, hx, rfl⟩ := hc
  have rx := cOpd_sound hx he
  simp only [wpOp] at hk
  generalize ax.ev e = A at rx hk
  cases A <;> simp only at hk
  rename_i p
  cases hz : sun op p with
  | none => simp only [hz] at hk
  | some z =>
    simp only [hz] at hk
    have h1 := rx.exact
    obtain ⟨hr, ho⟩ := sun_run (P := P) hz w
    refine Ran.same hi hk (.v z ho) ?_
    simp only [execOp, h1]
    rw [Sem.run_bind, hr]
    rfl

theorem ran_convert (hi : Inv I L O w) (he : ∀ t, R I L O (e t) (a.tmps.getD t undef)) {s t : TypeId} {x : Operand} (hc : cOp1 P ty (.convert s t x) = some ao) (hk : wpOp P ao e O K) :
    Ran P I L O w (execOp a.eval ⟨d, .convert s t x, ty, pos, af, g⟩) K := by
  simp only [cOp1] at hc
  split at hc
  · rename_i k1 k2 hs ht
    simp only [Option.bind_eq_bind, Option.bind_eq_some_iff, Option.some.injEq] at hc
    obtain ⟨ax, hx, rfl⟩ := hc
    have rx := cOpd_sound hx he
    simp only [wpOp] at hk
    generalize ax.ev e = A at rx hk
    cases A
    case v p =>
     cases p
     case int k n =>
       have h1 := rx.exact
       refine Ran.same hi hk (.v _ rfl) ?_
       simp only [execOp, h1]
       simp [convert, run_underlying hs, run_underlying ht, Conv.intToInt]
     all_goals exact hk.elim
    all_goals exact hk.elim
  · cases hc

theorem ran_faddr (hi : Inv I L O w) (he : ∀ t, R I L O (e t) (a.tmps.getD t undef)) {t : TypeId} {x : Operand} {f : Nat} (hc : cOp1 P ty (.fieldAddr t x f) = some ao) (hk : wpOp P ao e O K) :
    Ran P I L O w (execOp a.eval ⟨d, .fieldAddr t x f, ty, pos, af, g⟩) K := by
  simp only [cOp1] at hc
  split at hc
  · rename_i fs hs
    simp only [Option.bind_eq_bind, Option.bind_eq_some_iff] at hc
    obtain ⟨fd, hf, i, hfi, hc⟩ := hc
    split at hc
    · rename_i hpos
      simp only [Option.bind_eq_some_iff, Option.some.injEq] at hc
      obtain ⟨ax, hx, rfl⟩ := hc
      have rx := cOpd_sound hx he
      simp only [wpOp] at hk
      generalize ax.ev e = A at rx hk
      generalize hX : a.eval x = X at rx
      have hrun : ∀ b o, (Instr.fieldAt t (.pointer (some ⟨b, o, none⟩)) f).run P w = .ok (.pointer (some ⟨b, o + fd.offset, none⟩)) w := by
        intro b o
        simp [Instr.fieldAt, run_underlying hs, hf, Instr.sureAddr, fieldPlace, sizeOf, typeInfo, hfi, Nat.ne_of_gt hpos, add_lit]
      cases A
      case iptr y q =>
        cases rx with
        | iptr _ _ blk base vals hv hr =>
          refine Ran.same hi hk (.iptr y (q + fd.offset) blk base vals hv hr) ?_
          simp only [execOp, hX]
          simp [hrun, Nat.add_assoc]
      case ptr n len j q =>
        cases hO : O[n]? with
        | none => simp only [hO] at hk
        | some ob =>
          cases ob with
          | dead => simp only [hO] at hk
          | nil t' s' => simp only [hO] at hk
          | live t' s xs =>
            simp only [hO] at hk
            have := rx.ptr_live hO hk.1
            subst this
            refine Ran.same hi hk.2 (.ptrLive n len j (q + fd.offset) t' s xs hO hk.1) ?_
            simp only [execOp, hX]
            simp [hrun, Nat.add_assoc]
      all_goals exact hk.elim
    · cases hc
  · cases hc

theorem ran_fld (hi : Inv I L O w) (he : ∀ t, R I L O (e t) (a.tmps.getD t undef)) {t : TypeId} {x : Operand} {f : Nat} (hc : cOp1 P ty (.field t x f) = some ao) (hk : wpOp P ao e O K) :
    Ran P I L O w (execOp a.eval ⟨d, .field t x f, ty, pos, af, g⟩) K := by
  simp only [cOp1] at hc
  split at hc
  · rename_i fs hs
    simp only [Option.bind_eq_bind, Option.bind_eq_some_iff, Option.some.injEq] at hc
    obtain ⟨fd, hf, n, hn, ax, hx, rfl⟩ := hc
    have rx := cOpd_sound hx he
    obtain ⟨h1, h2, h3⟩ := hk
    generalize ax.ev e = A at rx h1 h2 h3
    generalize hX : a.eval x = X at rx
    rw [AV.agg_of h1] at rx
    cases rx with
    | agg _ vs hl hr =>
      have hfit : fd.offset + n.getD 1 ≤ vs.size := by omega
      refine Ran.same hi h3 (y := loadV n fun j => vs.getD (fd.offset + j) undef) (loadC_sound h2 fun j c hj hlt => hr _ c _ hj (by simp [Array.getD, show fd.offset + j < vs.size by omega])) ?_
      unfold cWidth at hn
      simp only [Option.bind_eq_bind, Option.bind_eq_some_iff] at hn
      obtain ⟨dd, hd, i, hii, hn⟩ := hn
      simp only [execOp, hX]
      cases n with
      | none =>
        have hag : aggT dd = false := by
          by_cases h : aggT dd = true
          · rw [if_pos h] at hn; split at hn <;> simp at hn
          · simpa using h
        have hlt : fd.offset < vs.size := by simp only [Option.getD_none] at hfit; omega
        have h0 : vs[fd.offset]? = some (vs.getD fd.offset undef) := by rw [Array.getElem?_eq_getElem hlt]; simp [Array.getD, hlt]
        generalize vs.getD fd.offset undef = q at h0
        simp [Instr.field, run_underlying hs, hf, asAgg, part, run_isAgg hd, hag, h0, loadV]
      | some m =>
        have hag : aggT dd = true ∧ i.size = m := by
          by_cases h : aggT dd = true
          · rw [if_pos h] at hn; split at hn <;> simp at hn; exact ⟨h, hn⟩
          · rw [if_neg h] at hn; simp at hn
        have hex : vs.extract fd.offset (fd.offset + m) = ((List.range m).map fun j => vs.getD (fd.offset + j) undef).toArray := by
          apply Array.ext
          · simp only [Option.getD_some] at hfit; simp; omega
          · intro j hj1 hj2
            simp only [Option.getD_some] at hfit
            simp at hj1 hj2
            simp [Array.getD, show fd.offset + j < vs.size by omega]
        simp [Instr.field, run_underlying hs, hf, asAgg, part, run_isAgg hd, hag.1, sizeOf, typeInfo, hii, hag.2, hex, loadV]
  · cases hc

theorem ran_nilc (hi : Inv I L O w) (he : ∀ t, R I L O (e t) (a.tmps.getD t undef)) {x : Operand} (hc : cOp1 P ty (.nilCheck x) = some ao) (hk : wpOp P ao e O K) :
    Ran P I L O w (execOp a.eval ⟨d, .nilCheck x, ty, pos, af, g⟩) K := by
  simp only [cOp1, Option.bind_eq_bind, Option.bind_eq_some_iff, Option.some.injEq] at hc
  obtain ⟨ax, hx, rfl⟩ := hc
  have rx := cOpd_sound hx he
  simp only [wpOp] at hk
  generalize ax.ev e = A at rx hk
  generalize hX : a.eval x = X at rx
  cases A
  case iptr y q =>
    cases rx with
    | iptr _ _ blk base vals hv hr =>
      exact Ran.same hi hk (.iptr y q blk base vals hv hr) (by simp only [execOp, hX]; simp)
  case fn f caps =>
    cases rx with
    | fn _ _ vs h1 h2 =>
      exact Ran.same hi hk (.fn f caps vs h1 h2) (by simp only [execOp, hX]; simp)
  case ptr n len j q =>
    cases hO : O[n]? with
    | none => simp only [hO] at hk
    | some ob =>
      cases ob with
      | dead => simp only [hO] at hk
      | nil t' s' => simp only [hO] at hk
      | live t' s xs =>
        simp only [hO] at hk
        have := rx.ptr_live hO hk.1
        subst this
        exact Ran.same hi hk.2 rx (by simp only [execOp, hX]; simp)
  all_goals exact hk.elim

theorem ran_ext (hi : Inv I L O w) (he : ∀ t, R I L O (e t) (a.tmps.getD t undef)) {x : Operand} {i : Nat} (hc : cOp1 P ty (.extract x i) = some ao) (hk : wpOp P ao e O K) :
    Ran P I L O w (execOp a.eval ⟨d, .extract x i, ty, pos, af, g⟩) K := by
  simp only [cOp1, Option.bind_eq_bind, Option.bind_eq_some_iff, Option.some.injEq] at hc
  obtain ⟨ax, hx, rfl⟩ := hc
  have rx := cOpd_sound hx he
  simp only [wpOp] at hk
  generalize ax.ev e = A at rx hk
  generalize hX : a.eval x = X at rx
  cases A <;> simp only at hk
  rename_i vs
  obtain ⟨hlt, hk⟩ := hk
  cases rx with
  | tup _ us h1 h2 =>
    have hu : us[i]? = some (us[i]'(by omega)) := by simp
    refine Ran.same hi hk (h2 i _ _ (by simp [List.getD, hlt]) hu) ?_
    generalize us[i]'(by omega) = q at hu
    simp only [execOp, hX]
    simp [Instr.extract, hu]

theorem ran_mkfn (hi : Inv I L O w) (he : ∀ t, R I L O (e t) (a.tmps.getD t undef)) {fn : Fn} {first caps : Array Operand} (hc : cOp1 P ty (.makeFunc fn first caps) = some ao) (hk : wpOp P ao e O K) :
    Ran P I L O w (execOp a.eval ⟨d, .makeFunc fn first caps, ty, pos, af, g⟩) K := by
  cases fn <;> simp only [cOp1] at hc
  case func f =>
    split at hc
    · rename_i hfe
      simp only [Option.bind_eq_bind, Option.bind_eq_some_iff, Option.some.injEq] at hc
      obtain ⟨as, has, rfl⟩ := hc
      obtain rfl : first = #[] := by simpa using hfe
      obtain ⟨h1, h2⟩ := cOpds_sound has he
      refine Ran.same hi hk (y := .func (.func f) #[] (caps.map a.eval)) (.fn f _ _ (by simpa using h1) fun i c x hc hx => h2 i c x hc (by simpa using hx)) ?_
      simp [execOp, Instr.makeFunc]
    · cases hc
  all_goals cases hc

end
end Go.Ab
