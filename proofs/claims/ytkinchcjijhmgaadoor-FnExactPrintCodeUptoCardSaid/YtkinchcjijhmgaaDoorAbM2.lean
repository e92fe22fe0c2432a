/- Part of a proof: the functions that the law reaches, walked by the abstract logic of the texts Ab. -/
import Derived.Test.YtkinchcjijhmgaaDoorAbM1
import Derived.Laws.BytesArg
set_option linter.unusedVariables false
set_option linter.unusedSimpArgs false
set_option linter.defProp false
/-
  EACH OPERATION DOES WHAT ITS ABSTRACT ONE SAYS (2).
-/
namespace Go.Ab
section
variable {P : Program} {I : Imm} {L : Nat → Loc} {O : List AObj} {w : World} {K : AV → List AObj → Prop} {e : Env} {a : Act}
variable {d : Option Tmp} {ty : TypeId} {pos : String} {af : Array Edge} {g : Option (Nat × Bool)} {ao : AOp}
theorem ran_bin (hi : Inv I L O w) (he : ∀ t, R I L O (e t) (a.tmps.getD t undef)) {op : BinOp} {t u : TypeId} {x y : Operand} (hc : cOp1 P ty (.binOp op t x y u) = some ao) (hk : wpOp P ao e O K) :
    Ran P I L O w (execOp a.eval ⟨d, .binOp op t x y u, ty, pos, af, g⟩) K := by
  simp only [cOp1] at hc
  split at hc
  · rename_i hb
    simp only [Option.bind_eq_bind, Option.bind_eq_some_iff, Option.some.injEq] at hc
    obtain ⟨ax, hx, ay, hy, rfl⟩ := hc
    have rx := cOpd_sound hx he
    have ry := cOpd_sound hy he
    simp only [wpOp] at hk
    split at hk
    · rename_i p q hp hq
      rw [hp] at rx
      rw [hq] at ry
      have h1 := rx.bool
      have h2 := ry.bool
      have key : (op = .eql ∨ op = .neq) ∧ P.underlying t = some .bool := by
        unfold isBoolEq at hb
        split at hb
        · rename_i h; exact ⟨.inl rfl, h⟩
        · rename_i h; exact ⟨.inr rfl, h⟩
        · cases hb
      obtain ⟨hop, ht⟩ := key
      refine Ran.same hi hk (.v _ rfl) ?_
      simp only [execOp, h1, h2]
      have he : (Op.equal t (.bool p) (.bool q)).run P w = .ok (p == q) w := by
        have e1 : Op.equal t (.bool p) (.bool q) = Op.equalIn (9999 + 1) t (.bool p) (.bool q) := rfl
        rw [e1, Op.equalIn]
        simp [run_underlying ht]
      rcases hop with rfl | rfl
      · simp [eqGuard, Go.binOp, he, isNeq]
      · simp [eqGuard, Go.binOp, he, isNeq]
    · exact hk.elim
  split at hc
  · rename_i _ hp
    simp only [isPtrEq, Bool.and_eq_true] at hp
    obtain ⟨hop, hbx⟩ := hp
    obtain ⟨el, inf, ht, hel, hsz⟩ := isBox_inv hbx
    simp only [Option.bind_eq_bind, Option.bind_eq_some_iff, Option.some.injEq] at hc
    obtain ⟨ax, hx, ay, hy, rfl⟩ := hc
    have rx := cOpd_sound hx he
    have ry := cOpd_sound hy he
    simp only [wpOp] at hk
    split at hk
    · rename_i n m hn hm
      rw [hn] at rx
      rw [hm] at ry
      obtain ⟨k1, k2, hk⟩ := hk
      have h1 := key_val k1 rx
      have h2 := key_val k2 ry
      have heq := ptr_equal (P := P) (w := w) ht hel hsz (key_same (P := P) hi k1 k2)
      refine Ran.same hi hk (.v _ rfl) ?_
      have ho : op = .eql ∨ op = .neq := by cases op <;> first | exact .inl rfl | exact .inr rfl | (simp [isEqOp] at hop; done)
      rcases ho with rfl | rfl
      · simp [execOp, h1, h2, eqGuard, Go.binOp, heq, isNeq]
      · simp [execOp, h1, h2, eqGuard, Go.binOp, heq, isNeq]
    · exact hk.elim
  simp only [Option.bind_eq_bind, Option.bind_eq_some_iff, Option.some.injEq] at hc
  obtain ⟨ax, hx, ay, hy, rfl⟩ := hc
  have rx := cOpd_sound hx he
  have ry := cOpd_sound hy he
  simp only [wpOp] at hk
  generalize ax.ev e = A at rx hk
  generalize ay.ev e = B at ry hk
  cases A <;> cases B <;> simp only at hk
  rename_i p q
  cases hz : sbin op p q with
  | none => simp only [hz] at hk
  | some z =>
    simp only [hz] at hk
    have h1 := rx.exact
    have h2 := ry.exact
    obtain ⟨hr, ho⟩ := sbin_run (P := P) hz t x y w
    refine Ran.same hi hk (.v z ho) ?_
    simp only [execOp, h1, h2]
    rw [Sem.run_bind, hr]
    rfl
theorem ran_un (hi : Inv I L O w) (he : ∀ t, R I L O (e t) (a.tmps.getD t undef)) {op : UnOp} {t : TypeId} {x : Operand} (hc : cOp1 P ty (.unOp op t x) = some ao) (hk : wpOp P ao e O K) :
    Ran P I L O w (execOp a.eval ⟨d, .unOp op t x, ty, pos, af, g⟩) K := by
  simp only [cOp1, Option.bind_eq_bind, Option.bind_eq_some_iff, Option.some.injEq] at hc
  obtain ⟨ax, hx, rfl⟩ := hc
  have rx := cOpd_sound hx he
  simp only [wpOp] at hk
  generalize ax.ev e = A at rx hk
  cases A <;> simp only at hk
  rename_i p
  cases hz : sun op p with
  | none => simp only [hz] at hk
  | some z =>
    simp only [hz] at hk
    have h1 := rx.exact
    obtain ⟨hr, ho⟩ := sun_run (P := P) hz w
    refine Ran.same hi hk (.v z ho) ?_
    simp only [execOp, h1]
    rw [Sem.run_bind, hr]
    rfl
theorem ran_convert (hi : Inv I L O w) (he : ∀ t, R I L O (e t) (a.tmps.getD t undef)) {s t : TypeId} {x : Operand} (hc : cOp1 P ty (.convert s t x) = some ao) (hk : wpOp P ao e O K) :
    Ran P I L O w (execOp a.eval ⟨d, .convert s t x, ty, pos, af, g⟩) K := by
  simp only [cOp1] at hc
  split at hc
  · rename_i k1 k2 hs ht
    simp only [Option.bind_eq_bind, Option.bind_eq_some_iff, Option.some.injEq] at hc
    obtain ⟨ax, hx, rfl⟩ := hc
    have rx := cOpd_sound hx he
    simp only [wpOp] at hk
    generalize ax.ev e = A at rx hk
    cases A
    case v p =>
     cases p
     case int k n =>
       have h1 := rx.exact
       refine Ran.same hi hk (.v _ rfl) ?_
       simp only [execOp, h1]
       simp [convert, run_underlying hs, run_underlying ht, Conv.intToInt]
     all_goals exact hk.elim
    all_goals exact hk.elim
  · rename_i el hs ht
    split at hc
    · rename_i hu
      simp only [Option.bind_eq_bind, Option.bind_eq_some_iff, Option.some.injEq] at hc
      obtain ⟨ax, hx, rfl⟩ := hc
      exact ran_s2b hi hs ht hu he hx hk
    · cases hc
  · rename_i el0 el hs ht
    split at hc
    · rename_i hu
      simp only [Option.bind_eq_bind, Option.bind_eq_some_iff, Option.some.injEq] at hc
      obtain ⟨ax, hx, rfl⟩ := hc
      obtain ⟨hu, rfl⟩ := hu
      exact ran_markS hi ht hu he hx hk
    · cases hc
  · cases hc
theorem ran_faddr (hi : Inv I L O w) (he : ∀ t, R I L O (e t) (a.tmps.getD t undef)) {t : TypeId} {x : Operand} {f : Nat} (hc : cOp1 P ty (.fieldAddr t x f) = some ao) (hk : wpOp P ao e O K) :
    Ran P I L O w (execOp a.eval ⟨d, .fieldAddr t x f, ty, pos, af, g⟩) K := by
  simp only [cOp1] at hc
  split at hc
  · rename_i fs hs
    simp only [Option.bind_eq_bind, Option.bind_eq_some_iff] at hc
    obtain ⟨fd, hf, i, hfi, hc⟩ := hc
    split at hc
    · rename_i hpos
      simp only [Option.bind_eq_some_iff, Option.some.injEq] at hc
      obtain ⟨ax, hx, rfl⟩ := hc
      have rx := cOpd_sound hx he
      simp only [wpOp] at hk
      generalize ax.ev e = A at rx hk
      generalize hX : a.eval x = X at rx
      have hrun : ∀ b o, (Instr.fieldAt t (.pointer (some ⟨b, o, none⟩)) f).run P w = .ok (.pointer (some ⟨b, o + fd.offset, none⟩)) w := by
        intro b o
        simp [Instr.fieldAt, run_underlying hs, hf, Instr.sureAddr, fieldPlace, sizeOf, typeInfo, hfi, Nat.ne_of_gt hpos, add_lit]
      cases A
      case iptr y q =>
        cases rx with
        | iptr _ _ blk base vals hv hr =>
          refine Ran.same hi hk (.iptr y (q + fd.offset) blk base vals hv hr) ?_
          simp only [execOp, hX]
          simp [hrun, Nat.add_assoc]
      case ptr n len j q =>
        cases hO : O[n]? with
        | none => simp only [hO] at hk
        | some ob =>
          cases ob with
          | dead => simp only [hO] at hk
          | own a => simp only [hO] at hk
          | gho g => simp only [hO] at hk
          | nil t' s' => simp only [hO] at hk
          | live t' s xs =>
            simp only [hO] at hk
            have := rx.ptr_live hO hk.1
            subst this
            refine Ran.same hi hk.2 (.ptrLive n len j (q + fd.offset) t' s xs hO hk.1) ?_
            simp only [execOp, hX]
            simp [hrun, Nat.add_assoc]
      all_goals exact hk.elim
    · cases hc
  · cases hc
theorem ran_fld (hi : Inv I L O w) (he : ∀ t, R I L O (e t) (a.tmps.getD t undef)) {t : TypeId} {x : Operand} {f : Nat} (hc : cOp1 P ty (.field t x f) = some ao) (hk : wpOp P ao e O K) :
    Ran P I L O w (execOp a.eval ⟨d, .field t x f, ty, pos, af, g⟩) K := by
  simp only [cOp1] at hc
  split at hc
  · rename_i fs hs
    simp only [Option.bind_eq_bind, Option.bind_eq_some_iff, Option.some.injEq] at hc
    obtain ⟨fd, hf, n, hn, ax, hx, rfl⟩ := hc
    have rx := cOpd_sound hx he
    obtain ⟨h1, h2, h3⟩ := hk
    generalize ax.ev e = A at rx h1 h2 h3
    generalize hX : a.eval x = X at rx
    rw [AV.agg_of h1] at rx
    cases rx with
    | agg _ vs hl hr =>
      have hfit : fd.offset + n.getD 1 ≤ vs.size := by omega
      refine Ran.same hi h3 (y := loadV n fun j => vs.getD (fd.offset + j) undef) (loadC_sound h2 fun j c hj hlt => hr _ c _ hj (by simp [Array.getD, show fd.offset + j < vs.size by omega])) ?_
      unfold cWidth at hn
      simp only [Option.bind_eq_bind, Option.bind_eq_some_iff] at hn
      obtain ⟨dd, hd, i, hii, hn⟩ := hn
      simp only [execOp, hX]
      cases n with
      | none =>
        have hag : aggT dd = false := by
          by_cases h : aggT dd = true
          · rw [if_pos h] at hn; split at hn <;> simp at hn
          · simpa using h
        have hlt : fd.offset < vs.size := by simp only [Option.getD_none] at hfit; omega
        have h0 : vs[fd.offset]? = some (vs.getD fd.offset undef) := by rw [Array.getElem?_eq_getElem hlt]; simp [Array.getD, hlt]
        generalize vs.getD fd.offset undef = q at h0
        simp [Instr.field, run_underlying hs, hf, asAgg, part, run_isAgg hd, hag, h0, loadV]
      | some m =>
        have hag : aggT dd = true ∧ i.size = m := by
          by_cases h : aggT dd = true
          · rw [if_pos h] at hn; split at hn <;> simp at hn; exact ⟨h, hn⟩
          · rw [if_neg h] at hn; simp at hn
        have hex : vs.extract fd.offset (fd.offset + m) = ((List.range m).map fun j => vs.getD (fd.offset + j) undef).toArray := by
          apply Array.ext
          · simp only [Option.getD_some] at hfit; simp; omega
          · intro j hj1 hj2
            simp only [Option.getD_some] at hfit
            simp at hj1 hj2
            simp [Array.getD, show fd.offset + j < vs.size by omega]
        simp [Instr.field, run_underlying hs, hf, asAgg, part, run_isAgg hd, hag.1, sizeOf, typeInfo, hii, hag.2, hex, loadV]
  · cases hc
theorem ran_nilc (hi : Inv I L O w) (he : ∀ t, R I L O (e t) (a.tmps.getD t undef)) {x : Operand} (hc : cOp1 P ty (.nilCheck x) = some ao) (hk : wpOp P ao e O K) :
    Ran P I L O w (execOp a.eval ⟨d, .nilCheck x, ty, pos, af, g⟩) K := by
  simp only [cOp1, Option.bind_eq_bind, Option.bind_eq_some_iff, Option.some.injEq] at hc
  obtain ⟨ax, hx, rfl⟩ := hc
  have rx := cOpd_sound hx he
  simp only [wpOp] at hk
  generalize ax.ev e = A at rx hk
  generalize hX : a.eval x = X at rx
  cases A
  case iptr y q =>
    cases rx with
    | iptr _ _ blk base vals hv hr =>
      exact Ran.same hi hk (.iptr y q blk base vals hv hr) (by simp only [execOp, hX]; simp)
  case fn f caps =>
    cases rx with
    | fn _ _ vs h1 h2 =>
      exact Ran.same hi hk (.fn f caps vs h1 h2) (by simp only [execOp, hX]; simp)
  case ptr n len j q =>
    cases hO : O[n]? with
    | none => simp only [hO] at hk
    | some ob =>
      cases ob with
      | dead => simp only [hO] at hk
      | own a => simp only [hO] at hk
      | gho g => simp only [hO] at hk
      | nil t' s' => simp only [hO] at hk
      | live t' s xs =>
        simp only [hO] at hk
        have := rx.ptr_live hO hk.1
        subst this
        exact Ran.same hi hk.2 rx (by simp only [execOp, hX]; simp)
  all_goals exact hk.elim
theorem ran_ext (hi : Inv I L O w) (he : ∀ t, R I L O (e t) (a.tmps.getD t undef)) {x : Operand} {i : Nat} (hc : cOp1 P ty (.extract x i) = some ao) (hk : wpOp P ao e O K) :
    Ran P I L O w (execOp a.eval ⟨d, .extract x i, ty, pos, af, g⟩) K := by
  simp only [cOp1, Option.bind_eq_bind, Option.bind_eq_some_iff, Option.some.injEq] at hc
  obtain ⟨ax, hx, rfl⟩ := hc
  have rx := cOpd_sound hx he
  simp only [wpOp] at hk
  generalize ax.ev e = A at rx hk
  generalize hX : a.eval x = X at rx
  cases A <;> simp only at hk
  rename_i vs
  obtain ⟨hlt, hk⟩ := hk
  cases rx with
  | tup _ us h1 h2 =>
    have hu : us[i]? = some (us[i]'(by omega)) := by simp
    refine Ran.same hi hk (h2 i _ _ (by simp [List.getD, hlt]) hu) ?_
    generalize us[i]'(by omega) = q at hu
    simp only [execOp, hX]
    simp [Instr.extract, hu]
theorem ran_mkfn (hi : Inv I L O w) (he : ∀ t, R I L O (e t) (a.tmps.getD t undef)) {fn : Fn} {first caps : Array Operand} (hc : cOp1 P ty (.makeFunc fn first caps) = some ao) (hk : wpOp P ao e O K) :
    Ran P I L O w (execOp a.eval ⟨d, .makeFunc fn first caps, ty, pos, af, g⟩) K := by
  cases fn <;> simp only [cOp1] at hc
  case func f =>
    split at hc
    · rename_i hfe
      simp only [Option.bind_eq_bind, Option.bind_eq_some_iff, Option.some.injEq] at hc
      obtain ⟨as, has, rfl⟩ := hc
      obtain rfl : first = #[] := by simpa using hfe
      obtain ⟨h1, h2⟩ := cOpds_sound has he
      refine Ran.same hi hk (y := .func (.func f) #[] (caps.map a.eval)) (.fn f _ _ (by simpa using h1) fun i c x hc hx => h2 i c x hc (by simpa using hx)) ?_
      simp [execOp, Instr.makeFunc]
    · cases hc
  all_goals cases hc
end
end Go.Ab
/-
  EACH OPERATION DOES WHAT ITS ABSTRACT ONE SAYS (3).
-/
namespace Go.Ab
section
variable {P : Program} {I : Imm} {L : Nat → Loc} {O : List AObj} {w : World} {K : AV → List AObj → Prop} {e : Env} {a : Act}
variable {d : Option Tmp} {ty : TypeId} {pos : String} {af : Array Edge} {g : Option (Nat × Bool)} {ao : AOp}
theorem cSlice_inv {t el : TypeId} (h : cSlice P t = some el) : P.underlying t = some (.slice el) := by
  unfold cSlice at h
  split at h
  · rename_i x hx; cases h; exact hx
  · cases h
theorem ran_build (hi : Inv I L O w) (he : ∀ t, R I L O (e t) (a.tmps.getD t undef)) {t : TypeId} {parts : Array (Nat × Operand)} (hc : cOp1 P ty (.build t parts) = some ao) (hk : wpOp P ao e O K) :
    Ran P I L O w (execOp a.eval ⟨d, .build t parts, ty, pos, af, g⟩) K := by
  simp only [cOp1] at hc
  split at hc
  · rename_i fs hs
    simp only [Option.bind_eq_bind, Option.bind_eq_some_iff, Option.some.injEq] at hc
    obtain ⟨⟨s, b, z⟩, hz, places, hpl, ps, hps, rfl⟩ := hc
    obtain ⟨i, z0, h1, h2, h3, rfl, rfl, h4, h5, h6, h7⟩ := cElem_inv hz
    have rz := (absV_sound (I := I) (L := L) (O := O) h3).cells (storable_cases h7)
    have hz0 : RCs I L O z.cells z0.cells := ⟨rz.1, fun j c y hj hy => by obtain ⟨y', hy', hr⟩ := rz.2 j c hj; rw [hy] at hy'; cases hy'; exact hr⟩
    obtain ⟨zs, vs', m1, m2, m3⟩ := buildK_sound he parts.toList ps z.cells z0.cells hz0 hps hk
    have hfill := m3 (fun i => places.toArray[i]?) (fun j f n hj hn => by
      obtain ⟨q1, q2⟩ := mapM_some hpl
      have hlt : j < places.length := by rw [q1]; simpa using (Array.getElem?_eq_some_iff.1 hj).1
      have := q2 j f places[j] (by simpa using hj) (by simp)
      rw [hn] at this
      simp at this
      simp [hlt, this])
    have hb : P.built t (parts.map fun (i, x) => (i, a.eval x)).toList = some vs' := by
      simp only [Program.built, h1, hs, h2, hpl]
      simpa using hfill
    refine Ran.same hi m1 (y := .agg vs') (.agg _ _ m2.1 m2.2) ?_
    simp only [execOp]
    rw [Sem.run_bind, run_build w t _ vs' hb]
    rfl
  · rename_i m el hs
    split at hc
    · rename_i hemp
      simp only [Option.bind_eq_bind, Option.bind_eq_some_iff, Option.some.injEq] at hc
      obtain ⟨⟨s, b, z⟩, hz, ie, hie, rfl⟩ := hc
      obtain ⟨i, z0, h1, h2, h3, rfl, rfl, h4, h5, h6, h7⟩ := cElem_inv hz
      have rz := (absV_sound (I := I) (L := L) (O := O) h3).cells (storable_cases h7)
      have hp : parts = #[] := by simpa using hemp
      subst hp
      have hb : P.built t (Array.map (fun (i, x) => (i, a.eval x)) #[]).toList = some z0.cells := by
        simp only [Program.built, h1, hs, h2, hie]
        simp [Instr.fill]
      simp only [wpOp, buildK] at hk
      refine Ran.same hi hk (y := .agg z0.cells) (.agg _ _ rz.1 fun j c y hj hy => by obtain ⟨y', hy', hr⟩ := rz.2 j c hj; rw [hy] at hy'; cases hy'; exact hr) ?_
      simp only [execOp]
      rw [Sem.run_bind, run_build w t _ z0.cells hb]
      rfl
    · cases hc
  · cases hc
theorem ran_buildSlice (hi : Inv I L O w) (he : ∀ t, R I L O (e t) (a.tmps.getD t undef)) {t : TypeId} {len : Nat} {parts : Array (Nat × Operand)} (hc : cOp1 P ty (.buildSlice t len parts) = some ao) (hk : wpOp P ao e O K) :
    Ran P I L O w (execOp a.eval ⟨d, .buildSlice t len parts, ty, pos, af, g⟩) K := by
  simp only [cOp1, Option.bind_eq_bind, Option.bind_eq_some_iff] at hc
  obtain ⟨el, hel, ⟨s, b, z⟩, hz, ps, hps, hc⟩ := hc
  split at hc
  · rename_i hbig
    simp only [Option.some.injEq] at hc
    subst hc
    have ht := cSlice_inv hel
    obtain ⟨i, z0, h1, h2, h3, rfl, rfl, h4, h5, h6, h7⟩ := cElem_inv hz
    have hmade := RRow.made (I := I) (L := L) (O := O) (cap := len) (n := len) (absV_sound h3) h7 h4 h5 (Nat.le_refl _)
    obtain ⟨xs', c', m1, m2, m3, m4, m5⟩ := rowK_sound he parts.toList ps _ _ hmade (by simp) hps hk
    have hcap : len ≤ maxLen := by
      have h8 : len * 1 ≤ len * i.size := Nat.mul_le_mul_left _ h5
      simp only at hbig
      simp only [maxLen]; omega
    have hgood := hi.new (e := el) (s := i.size) (xs := xs') c' len (by rw [m4]; simp) (by simpa using (Nat.le_of_eq m3)) hcap h5 m2
    have hr := R.rowLive (I := I) (L := fun k => if k = O.length then Loc.at w.heap.size (len) else L k) (O := O ++ [.live el i.size xs']) O.length len el i.size xs' (by simp) (by simpa using m3)
    refine ⟨_, _, .slice (some ⟨w.heap.size, 0, none⟩) len len, _, _, _, m1, hgood, by simpa using hr, .inl ?_⟩
    have hns : ¬ (len * i.size > 2 ^ 24) := by simpa using hbig
    simp only [execOp]
    by_cases h0 : len * i.size = 0
    · have hl0 : len = 0 := by rcases Nat.mul_eq_zero.1 h0 with h | h <;> omega
      subst hl0
      simp [Array.range_zero'] at m5
      simp [Instr.buildSlice, run_underlying ht, sizeOf, typeInfo, h1, m5, newRow, Array.range_zero']
    · simp [Instr.buildSlice, run_underlying ht, sizeOf, typeInfo, h1, hns, h0, zeroValue, h2, m5, newRow]
  · cases hc
/-- a new block whose cells nobody writes -/
theorem Inv.newF (h : Inv I L O w) {el s : Nat} {xs : List AV} (c : Array Value) (cap : Nat) (hx : xs.length ≤ cap) (hn : ∀ (i : Nat) x, xs[i]? = some x → ∀ (j : Nat) a, x.cells[j]? = some a → ∀ {I' : Imm} {L' : Nat → Loc} {O' : List AObj} {v : Value}, (∀ b o x, I b o = some x → I' b o = some x) → R I L O a v → R I' L' O' a v)
    (hr : ∀ (i : Nat) x, xs[i]? = some x → x.cells.length = s ∧ ∀ (j : Nat) a, x.cells[j]? = some a → ∃ y, c[i * s + j]? = some y ∧ y.oneCell' = true ∧ R I L O a y) :
    ∃ I', Good I L O w I' L O (w.alloc (.cells c el)) ∧ R I' L O (.sl xs) (.slice (some ⟨w.heap.size, 0, none⟩) xs.length cap) := by
  have hnew : (w.alloc (.cells c el)).heap[w.heap.size]? = some (.cells c el (0, 0)) := heap_alloc_new w _
  have hold : ∀ b, b < w.heap.size → (w.alloc (.cells c el)).heap[b]? = w.heap[b]? := fun b hb => heap_alloc_old w _ b hb
  have hlt : ∀ {b o x}, I b o = some x → b < w.heap.size := fun hx => cell_block (h.imm _ _ _ hx)
  have hext : ∀ b o x, I b o = some x → (fun b o => if b = w.heap.size then (w.alloc (.cells c el)).cell? ⟨b, o, none⟩ else I b o) b o = some x := by
    intro b o x hx
    have := hlt hx
    show (if b = w.heap.size then _ else I b o) = _
    rw [if_neg (by omega)]; exact hx
  have hcell : ∀ {b o}, b < w.heap.size → (w.alloc (.cells c el)).cell? ⟨b, o, none⟩ = w.cell? ⟨b, o, none⟩ := by
    intro b o hb
    simp only [World.cell?]
    rw [hold b hb]
  have hE : Ext I L O (fun b o => if b = w.heap.size then (w.alloc (.cells c el)).cell? ⟨b, o, none⟩ else I b o) L O :=
    ⟨hext, Nat.le_refl _, fun n hn e k ys hy => .inl ⟨ys, hy, Nat.le_refl _, fun _ => rfl⟩, fun _ _ _ _ h => h, fun _ _ a h => ⟨⟨a, h⟩, rfl⟩, fun _ _ a h => ⟨⟨a, h, rfl⟩, rfl⟩⟩
  have hblk : ∀ {n e k ys}, O[n]? = some (.live e k ys) → (L n).blk < w.heap.size := by
    intro n e k ys hn
    obtain ⟨c', ⟨_, h1, _⟩, _⟩ := h.obj n e k ys hn
    exact (Array.getElem?_eq_some_iff.1 h1).1
  refine ⟨fun b o => if b = w.heap.size then (w.alloc (.cells c el)).cell? ⟨b, o, none⟩ else I b o, ⟨⟨fun b o x hx => ?_, fun n e k ys hn => ?_, h.sep, fun n e k ys o hn => ?_, fun p hp => hext _ _ _ (h.fix p hp), h.blk_frm (fun b hb _ => hold b hb) hext, h.ow.step (fun _ _ h => ⟨h, rfl⟩) (fun b o v hv => ?_) (fun m e s xs hm => .inl ⟨m, e, s, xs, hm, rfl⟩) (fun b hb _ => hold b hb), h.gh.step (fun _ _ h => ⟨h, rfl⟩) (fun _ _ hr => hr.mono hE) fun b hb => hold b hb.1⟩, hE, ⟨rfl, rfl, rfl, by simp, fun b hb _ => hold b hb⟩, fun _ hb => .inl hb, fun b o x hx => ?_⟩, ?_⟩
  · by_cases hb : b = w.heap.size
    · rw [if_pos hb] at hx; exact hx
    · rw [if_neg hb] at hx
      rw [hcell (hlt hx)]; exact h.imm b o x hx
  · exact (h.obj n e k ys hn).congr (hold _ (hblk hn)) fun _ _ hr => hr.mono hE
  · have := hblk hn
    show (if (L n).blk = w.heap.size then _ else I (L n).blk o) = _
    rw [if_neg (by omega)]; exact h.immSep n e k ys o hn
  · by_cases hb : b = w.heap.size
    · exact .inr (.inr (by omega))
    · rw [if_neg hb] at hv; exact .inl ⟨o, v, hv⟩
  · by_cases hb : b = w.heap.size
    · exact .inr (.inr (by omega))
    · rw [if_neg hb] at hx; exact .inl hx
  · by_cases hxs : xs = []
    · subst hxs; exact .sl0 _ _
    · refine (.sl xs w.heap.size 0 cap s (fun i j => (c[i * s + j]?).getD undef) hx hxs (fun i x hx => (hr i x hx).1) (fun i x j d hx hj => ?_) fun i x j d hx hj => ?_)
      · obtain ⟨y, hy, ho, _⟩ := (hr i x hx).2 j d hj
        show (if w.heap.size = w.heap.size then _ else _) = _ ∧ _
        rw [if_pos rfl, Nat.zero_add, cell_cells hnew, hy]
        exact ⟨rfl, ho⟩
      · obtain ⟨y, hy, ho, hr'⟩ := (hr i x hx).2 j d hj
        rw [hy]
        exact hn i x hx j d hj hext hr'
end
end Go.Ab
/-
  EACH OPERATION DOES WHAT ITS ABSTRACT ONE SAYS (4).
-/
namespace Go.Ab
section
variable {P : Program} {I : Imm} {L : Nat → Loc} {O : List AObj} {w : World} {K : AV → List AObj → Prop} {e : Env} {a : Act}
variable {d : Option Tmp} {ty : TypeId} {pos : String} {af : Array Edge} {g : Option (Nat × Bool)} {ao : AOp}
theorem ran_iaddr (hi : Inv I L O w) (he : ∀ t, R I L O (e t) (a.tmps.getD t undef)) {t : TypeId} {x y : Operand} (hc : cOp1 P ty (.indexAddr t x y) = some ao) (hk : wpOp P ao e O K) :
    Ran P I L O w (execOp a.eval ⟨d, .indexAddr t x y, ty, pos, af, g⟩) K := by
  simp only [cOp1] at hc
  split at hc
  · rename_i m el ht
    simp only [Option.bind_eq_bind, Option.bind_eq_some_iff, Option.some.injEq] at hc
    obtain ⟨inf, hinf, ax, hx, ay, hy, rfl⟩ := hc
    have rx := cOpd_sound hx he
    have ry := cOpd_sound hy he
    simp only [wpOp] at hk
    generalize ax.ev e = A at rx hk
    generalize ay.ev e = B at ry hk
    generalize hX : a.eval x = X at rx
    generalize hY : a.eval y = Y at ry
    have hrun : ∀ (kk : IntKind) (b o : Nat) (j : Int), 0 ≤ j → j < m → (Instr.indexAt t (.pointer (some ⟨b, o, none⟩)) (.int kk j)).run P w = .ok (.pointer (some ⟨b, o + j.toNat * inf.size, none⟩)) w := by
      intro kk b o j h0 h1
      simp [Instr.indexAt, Instr.sureAddr, asIntOf, run_underlying ht, sizeOf, typeInfo, hinf, h0, h1, add_lit]
    cases A
    case iptr z q =>
      cases B
      case v p =>
        cases p
        case int kk j =>
          obtain ⟨h0, h1, hk⟩ := hk
          have := ry.exact
          subst this
          cases rx with
          | iptr _ _ blk base vals hv hr =>
            refine Ran.same hi hk (.iptr z (q + j.toNat * inf.size) blk base vals hv hr) ?_
            simp only [execOp, hX, hY]
            simp [hrun _ _ _ _ h0 h1, Nat.add_assoc]
        all_goals exact hk.elim
      all_goals exact hk.elim
    case ptr n len i q =>
      cases B
      case v p =>
        cases p
        case int kk j =>
          have := ry.exact
          subst this
          cases hO : O[n]? with
          | none => simp only [hO] at hk
          | some ob =>
            cases ob with
            | dead => simp only [hO] at hk
            | own a => simp only [hO] at hk
            | gho g => simp only [hO] at hk
            | nil t' s' => simp only [hO] at hk
            | live t' s xs =>
              simp only [hO] at hk
              obtain ⟨hl, h0, h1, hk⟩ := hk
              have := rx.ptr_live hO hl
              subst this
              refine Ran.same hi hk (.ptrLive n len i (q + j.toNat * inf.size) t' s xs hO hl) ?_
              simp only [execOp, hX, hY]
              simp [hrun _ _ _ _ h0 h1, Nat.add_assoc]
        all_goals exact hk.elim
      all_goals exact hk.elim
    all_goals exact hk.elim
  simp only [Option.bind_eq_bind, Option.bind_eq_some_iff, Option.some.injEq] at hc
  obtain ⟨el, hel, inf, hinf, ax, hx, ay, hy, rfl⟩ := hc
  have ht := cSlice_inv hel
  have rx := cOpd_sound hx he
  have ry := cOpd_sound hy he
  simp only [wpOp] at hk
  generalize ax.ev e = A at rx hk
  generalize ay.ev e = B at ry hk
  generalize hX : a.eval x = X at rx
  generalize hY : a.eval y = Y at ry
  have hrun : ∀ (kk : IntKind) (b o n c : Nat) (j : Int), 0 ≤ j → j < n → (Instr.indexAt t (.slice (some ⟨b, o, none⟩) n c) (.int kk j)).run P w = .ok (.pointer (some ⟨b, o + j.toNat * inf.size, none⟩)) w := by
    intro kk b o n c j h0 h1
    simp [Instr.indexAt, asIntOf, run_underlying ht, sizeOf, typeInfo, hinf, h0, h1, add_lit]
  cases A
  case sl xs =>
    cases B
    case v p =>
      cases p
      case int kk j =>
        obtain ⟨h0, h1, h2, hk⟩ := hk
        have := ry.exact
        subst this
        have hlt : j.toNat < xs.length := by omega
        have hx' : xs[j.toNat]? = some (xs.getD j.toNat .top) := by simp [List.getD, hlt]
        cases rx with
        | sl0 => simp at h1; omega
        | sl _ blk off cap s vals q1 q2 q3 q4 q5 =>
          have hs : s = inf.size := by rw [← q3 _ _ hx', h2]
          subst hs
          refine Ran.same hi hk (y := .pointer (some ⟨blk, off + j.toNat * inf.size + 0, none⟩)) (.iptr _ 0 blk (off + j.toNat * inf.size) (vals j.toNat) (fun k c hc => q4 _ _ k c hx' hc) (fun k c hc => q5 _ _ k c hx' hc)) ?_
          simp only [execOp, hX, hY]
          simp [hrun _ _ _ _ _ _ h0 h1]
      all_goals exact hk.elim
    all_goals exact hk.elim
  case row n len =>
    cases B
    case v p =>
      cases p
      case int kk j =>
        have := ry.exact
        subst this
        cases hO : O[n]? with
        | none => simp only [hO] at hk
        | some ob =>
          cases ob with
          | dead => simp only [hO] at hk
          | own a => simp only [hO] at hk
          | gho g => simp only [hO] at hk
          | nil t' s' => simp only [hO] at hk
          | live t' s xs =>
            simp only [hO] at hk
            obtain ⟨rfl, hl, h0, h1, hk⟩ := hk
            have := rx.row_live hO hl
            subst this
            refine Ran.same hi hk (.ptrLive n len j.toNat 0 t' inf.size xs hO hl) ?_
            simp only [execOp, hX, hY]
            simp [hrun _ _ _ _ _ _ h0 h1]
      all_goals exact hk.elim
    all_goals exact hk.elim
  all_goals exact hk.elim
theorem ran_index (hi : Inv I L O w) (he : ∀ t, R I L O (e t) (a.tmps.getD t undef)) {t : TypeId} {x y : Operand} (hc : cOp1 P ty (.index t x y) = some ao) (hk : wpOp P ao e O K) :
    Ran P I L O w (execOp a.eval ⟨d, .index t x y, ty, pos, af, g⟩) K := by
  simp only [cOp1] at hc
  split at hc
  · rename_i ht
    simp only [Option.bind_eq_bind, Option.bind_eq_some_iff, Option.some.injEq] at hc
    obtain ⟨ax, hx, ay, hy, rfl⟩ := hc
    have rx := cOpd_sound hx he
    have ry := cOpd_sound hy he
    simp only [wpOp] at hk
    generalize ax.ev e = A at rx hk
    generalize ay.ev e = B at ry hk
    generalize hX : a.eval x = X at rx
    generalize hY : a.eval y = Y at ry
    cases A
    case v p =>
      cases p
      case string s =>
        cases B
        case v q =>
          cases q
          case int kk j =>
            obtain ⟨h0, h1, hk⟩ := hk
            have e1 := rx.exact
            have e2 := ry.exact
            subst e1; subst e2
            have hlt : j.toNat < s.size := by omega
            have hb : s[j.toNat]? = some (s.data.toList.getD j.toNat 0) := by
              rw [getElem?_pos s j.toNat hlt]
              have hl2 : j.toNat < s.data.toList.length := by simpa using hlt
              simp only [List.getD, List.getElem?_eq_getElem hl2, Option.getD_some, Option.some.injEq]
              rfl
            refine Ran.same hi hk (.v _ rfl) ?_
            simp only [execOp, hX, hY]
            generalize s.data.toList.getD j.toNat 0 = q at hb
            simp [Instr.index, asIntOf, run_underlying ht, h0, hb]
          all_goals exact hk.elim
        all_goals exact hk.elim
      all_goals exact hk.elim
    all_goals exact hk.elim
  · cases hc
theorem ran_lenS (hi : Inv I L O w) (he : ∀ t, R I L O (e t) (a.tmps.getD t undef)) {t : TypeId} {x : Operand} (ht : P.underlying t = some .string) {ax : Opd} (hx : cOpd x = some ax) (hk : wpOp P (.lenS ax) e O K) :
    ∃ x' y, K x' O ∧ R I L O x' y ∧ (Builtin.len_ #[t] ty #[a.eval x]).run P w = .ok y w := by
  have rx := cOpd_sound hx he
  simp only [wpOp] at hk
  generalize ax.ev e = A at rx hk
  generalize a.eval x = X at rx
  cases A
  case v p =>
    cases p
    case string s =>
      have e1 := rx.exact
      subst e1
      exact ⟨_, .int .i64 s.size, hk, .v _ rfl, by simp [Builtin.len_, run_underlying ht, goInt]⟩
    all_goals exact hk.elim
  all_goals exact hk.elim
theorem ran_lenL (hi : Inv I L O w) (he : ∀ t, R I L O (e t) (a.tmps.getD t undef)) {t el : TypeId} {x : Operand} (ht : P.underlying t = some (.slice el)) {ax : Opd} (hx : cOpd x = some ax) (hk : wpOp P (.lenL ax) e O K) :
    ∃ x' y, K x' O ∧ R I L O x' y ∧ (Builtin.len_ #[t] ty #[a.eval x]).run P w = .ok y w := by
  have rx := cOpd_sound hx he
  simp only [wpOp] at hk
  generalize ax.ev e = A at rx hk
  generalize a.eval x = X at rx
  have hs : ∀ b n c, (Builtin.len_ #[t] ty #[.slice b n c]).run P w = .ok (.int .i64 n) w := by
    intro b n c
    simp [Builtin.len_, run_underlying ht, goInt]
  cases A
  case nils => cases rx; exact ⟨_, .int .i64 0, hk, .v _ rfl, hs none 0 0⟩
  case sl xs =>
    cases rx with
    | sl0 b c => exact ⟨_, .int .i64 0, hk, .v _ rfl, hs b 0 c⟩
    | sl _ blk off cap s vals => exact ⟨_, .int .i64 xs.length, hk, .v _ rfl, hs _ _ _⟩
  case row n len =>
    cases hO : O[n]? with
    | none => simp only [hO] at hk
    | some ob =>
      cases ob with
      | dead => simp only [hO] at hk
      | own a => simp only [hO] at hk
      | gho g => simp only [hO] at hk
      | nil t' s' =>
        simp only [hO] at hk
        obtain ⟨rfl, hk⟩ := hk
        obtain ⟨rfl, _⟩ := rx.row_nil hO
        exact ⟨_, .int .i64 0, hk, .v _ rfl, hs _ _ _⟩
      | live t' s xs =>
        simp only [hO] at hk
        have := rx.row_live hO hk.1
        subst this
        exact ⟨_, .int .i64 len, hk.2, .v _ rfl, hs _ _ _⟩
  all_goals exact hk.elim
theorem ran_makeSlice (hi : Inv I L O w) (he : ∀ t, R I L O (e t) (a.tmps.getD t undef)) {t : TypeId} {x y : Operand} (hc : cOp1 P ty (.makeSlice t x y) = some ao) (hk : wpOp P ao e O K) :
    Ran P I L O w (execOp a.eval ⟨d, .makeSlice t x y, ty, pos, af, g⟩) K := by
  simp only [cOp1, Option.bind_eq_bind, Option.bind_eq_some_iff, Option.some.injEq] at hc
  obtain ⟨el, hel, ⟨s, b, z⟩, hz, ax, hx, ay, hy, rfl⟩ := hc
  have ht := cSlice_inv hel
  obtain ⟨i, z0, h1, h2, h3, rfl, rfl, h4, h5, h6, h7⟩ := cElem_inv hz
  have rx := cOpd_sound hx he
  have ry := cOpd_sound hy he
  simp only [wpOp] at hk
  generalize ax.ev e = A at rx hk
  generalize ay.ev e = B at ry hk
  generalize hX : a.eval x = X at rx
  generalize hY : a.eval y = Y at ry
  split at hk
  · rename_i n c
    obtain ⟨q1, q2, q3, q4, hk⟩ := hk
    have e1 := rx.exact
    have e2 := ry.exact
    subst e1; subst e2
    have hm : c ≤ 9223372036854775807 := by simpa [maxLen] using q4
    have hrun := run_make (P := P) w t el i z0 ht h1 h2 .i64 .i64 n c q1 q2 (by omega) hm
    have hmade := RRow.made (I := I) (L := L) (O := O) (cap := c.toNat) (n := n.toNat) (absV_sound h3) h7 h4 h5 (by omega)
    have hgood := hi.new (e := el) (s := i.size) (xs := List.replicate n.toNat z) (madeCells z0.cells (c.toNat * i.size)) c.toNat (size_madeCells _ _) (by simp; omega) (by simp only [maxLen] at q4 ⊢; omega) h5 hmade
    have hr := R.rowLive (I := I) (L := fun k => if k = O.length then Loc.at w.heap.size (c.toNat) else L k) (O := O ++ [.live el i.size (List.replicate n.toNat z)]) O.length n.toNat el i.size (List.replicate n.toNat z) (by simp) (by simp)
    refine ⟨_, _, _, _, _, _, hk, hgood, hr, .inl ?_⟩
    simp only [execOp, hX, hY]
    rw [Sem.run_bind, hrun]
    simp
  · exact hk.elim
theorem bound_run {x : Option Operand} {ax : Option Opd} (hx : x.mapM cOpd = some ax) (he : ∀ t, R I L O (e t) (a.tmps.getD t undef)) {dflt : Int} {M : Int → Prop} (h : boundK dflt e ax M) :
    ∃ i : Int, M i ∧ ((x = none ∧ i = dflt) ∨ ∃ o k, x = some o ∧ a.eval o = .int k i) := by
  cases x with
  | none => simp at hx; subst hx; exact ⟨dflt, h, .inl ⟨rfl, rfl⟩⟩
  | some o =>
    simp only [Option.mapM_some, Option.map_eq_map, Option.map_eq_some_iff] at hx
    obtain ⟨ao, hao, rfl⟩ := hx
    have r := cOpd_sound hao he
    simp only [boundK] at h
    generalize ao.ev e = A at r h
    cases A
    case v p =>
      cases p
      case int k i => exact ⟨i, h, .inr ⟨o, k, rfl, r.exact⟩⟩
      all_goals exact h.elim
    all_goals exact h.elim
theorem run_sliceBound {k : IntKind} {i : Int} {y : Nat} {code : BoundsCode} (h0 : 0 ≤ i) (h1 : i ≤ y) (w : World) : (Instr.sliceBound (.int k i) y code).run P w = .ok i.toNat w := by
  simp [Instr.sliceBound, asIntOf, h0, h1]
theorem run_sliceBounds {sl : Bool} {len cap : Nat} {lo hi : Option Operand} {l h : Int} (hlc : len ≤ cap)
    (hlo : (lo = none ∧ l = 0) ∨ ∃ o k, lo = some o ∧ a.eval o = .int k l) (hhi : (hi = none ∧ h = len) ∨ ∃ o k, hi = some o ∧ a.eval o = .int k h)
    (h0 : 0 ≤ l) (h1 : l ≤ h) (h2 : h ≤ len) (w : World) :
    (Instr.sliceBounds sl len cap (lo.map a.eval) (hi.map a.eval) none).run P w = .ok (l.toNat, h.toNat, cap) w := by
  rcases hhi with ⟨rfl, rfl⟩ | ⟨o, k, rfl, ho⟩ <;> rcases hlo with ⟨rfl, rfl⟩ | ⟨o', k', rfl, ho'⟩
  · simp [Instr.sliceBounds]
  · simp [Instr.sliceBounds, ho', run_sliceBound (P := P) (k := k') (i := l) (y := len) h0 (by omega) w]
  · simp [Instr.sliceBounds, ho, run_sliceBound (P := P) (k := k) (i := h) (y := cap) (by omega) (by omega) w]
  · simp [Instr.sliceBounds, ho, ho', run_sliceBound (P := P) (k := k) (i := h) (y := cap) (by omega) (by omega) w, run_sliceBound (P := P) (k := k') (i := l) (y := h.toNat) h0 (by omega) w]
theorem ran_slice (hi : Inv I L O w) (he : ∀ t, R I L O (e t) (a.tmps.getD t undef)) {t : TypeId} {x : Operand} {lo hi' mx : Option Operand} (hc : cOp1 P ty (.slice t x lo hi' mx) = some ao) (hk : wpOp P ao e O K) :
    Ran P I L O w (execOp a.eval ⟨d, .slice t x lo hi' mx, ty, pos, af, g⟩) K := by
  simp only [cOp1] at hc
  split at hc
  · cases hc
  · rename_i hmx
    obtain rfl : mx = none := by cases mx <;> simp at hmx ⊢
    split at hc
    · rename_i ht
      simp only [Option.bind_eq_bind, Option.bind_eq_some_iff, Option.some.injEq] at hc
      obtain ⟨ax, hx, al, hl, ah, hh, rfl⟩ := hc
      have rx := cOpd_sound hx he
      simp only [wpOp] at hk
      generalize ax.ev e = A at rx hk
      generalize hX : a.eval x = X at rx
      cases A
      case v p =>
        cases p
        case string s =>
          have e1 := rx.exact
          subst e1
          obtain ⟨l, hk, hlo⟩ := bound_run hl he hk
          obtain ⟨h, hk, hhi⟩ := bound_run hh he hk
          obtain ⟨q1, q2, q3, hk⟩ := hk
          have hb := run_sliceBounds (P := P) (sl := false) (cap := s.size) (Nat.le_refl _) hlo hhi q1 q2 q3 w
          refine Ran.same hi hk (.v _ rfl) ?_
          simp only [execOp, hX]
          simp [Instr.sliceAt, Instr.slice, run_underlying ht, hb]
        all_goals exact hk.elim
      all_goals exact hk.elim
    · rename_i el ht
      simp only [Option.bind_eq_bind, Option.bind_eq_some_iff, Option.some.injEq] at hc
      obtain ⟨inf, hinf, ax, hx, al, hl, ah, hh, rfl⟩ := hc
      have rx := cOpd_sound hx he
      simp only [wpOp] at hk
      generalize ax.ev e = A at rx hk
      generalize hX : a.eval x = X at rx
      cases A
      case sl xs =>
        obtain ⟨l, hk, hlo⟩ := bound_run hl he hk
        obtain ⟨h, hk, hhi⟩ := bound_run hh he hk
        obtain ⟨q1, q2, q3, q4, hk⟩ := hk
        cases rx with
        | sl0 b cap =>
          simp at q3 hhi
          obtain rfl : l = 0 := by omega
          obtain rfl : h = 0 := by omega
          have hb := run_sliceBounds (P := P) (sl := true) (len := 0) (cap := cap) (Nat.zero_le _) hlo (by simpa using hhi) q1 q2 (by simp) w
          refine Ran.same hi hk (y := .slice (if cap = 0 then b else b.map (·.add (0 * inf.size))) 0 (cap - 0)) (.sl0 _ _) ?_
          simp only [execOp, hX]
          simp at hb
          simp [Instr.sliceAt, Instr.slice, run_underlying ht, hb, sizeOf, typeInfo, hinf]
        | sl _ blk off cap s vals r1 r2 r3 r4 r5 =>
          have hb := run_sliceBounds (P := P) (sl := true) (len := xs.length) (cap := cap) r1 hlo hhi q1 q2 q3 w
          have hs : s = inf.size := by
            obtain ⟨y, hy⟩ := List.exists_mem_of_ne_nil _ r2
            obtain ⟨j, hj⟩ := List.getElem?_of_mem hy
            rw [← r3 j y hj, q4 y hy]
          subst hs
          by_cases hlen : l = h
          · subst hlen
            have hnil : (xs.take l.toNat).drop l.toNat = [] := by simp
            rw [hnil] at hk
            refine Ran.same hi hk (y := .slice (if cap = l.toNat then some ⟨blk, off, none⟩ else some ⟨blk, off + l.toNat * inf.size, none⟩) 0 (cap - l.toNat)) (.sl0 _ _) ?_
            simp only [execOp, hX]
            simp [Instr.sliceAt, Instr.slice, run_underlying ht, hb, sizeOf, typeInfo, hinf, add_lit]
          · have hlh : l.toNat < h.toNat := by omega
            have hcl : ¬ (cap = l.toNat) := by omega
            have hlen2 : ((xs.take h.toNat).drop l.toNat).length = h.toNat - l.toNat := by simp; omega
            have hsub : ∀ (i : Nat) y, ((xs.take h.toNat).drop l.toNat)[i]? = some y → xs[l.toNat + i]? = some y := by
              intro i y hy
              rw [List.getElem?_drop, List.getElem?_take] at hy
              split at hy
              · exact hy
              · cases hy
            have hne : (xs.take h.toNat).drop l.toNat ≠ [] := by
              intro h0
              have := congrArg List.length h0
              rw [hlen2] at this; simp at this; omega
            have hr := R.sl (I := I) (L := L) (O := O) ((xs.take h.toNat).drop l.toNat) blk (off + l.toNat * inf.size) (cap - l.toNat) inf.size (fun i => vals (l.toNat + i)) (by omega) hne
              (fun i y hy => r3 _ y (hsub i y hy))
              (fun i y j c hy hj => by have := r4 _ y j c (hsub i y hy) hj; rwa [Nat.add_mul, ← Nat.add_assoc] at this)
              (fun i y j c hy hj => r5 _ y j c (hsub i y hy) hj)
            rw [hlen2] at hr
            refine Ran.same hi hk hr ?_
            simp only [execOp, hX]
            simp [Instr.sliceAt, Instr.slice, run_underlying ht, hb, sizeOf, typeInfo, hinf, add_lit, hcl]
      all_goals exact hk.elim
    · cases hc
end
end Go.Ab
/-
  CALLS.
-/
namespace Go.Ab
theorem norefs_mem {xs : List AV} (h : AV.norefs xs = true) : ∀ x ∈ xs, x.noref = true := by
  induction xs with
  | nil => simp
  | cons y ys ih =>
    simp only [AV.norefs, Bool.and_eq_true] at h
    intro x hx
    rcases List.mem_cons.1 hx with rfl | hx
    · exact h.1
    · exact ih h.2 x hx
theorem noref_cells {x : AV} (h : x.noref = true) : ∀ c ∈ x.cells, c.noref = true := by
  cases x <;> simp only [AV.cells] <;> try (intro c hc; simp at hc; subst hc; exact h)
  simp only [AV.noref] at h
  exact norefs_mem h
theorem R.noref {I I' : Imm} {L L' : Nat → Loc} {O O' : List AObj} (hI : ∀ b o x, I b o = some x → I' b o = some x) {a : AV} {x : Value} (hr : R I L O a x) (h : a.noref = true) : R I' L' O' a x := by
  induction hr with
  | top x => exact .top x
  | v x hx => exact .v x hx
  | nils => exact .nils
  | ifc t x => exact .ifc t x
  | sl0 a cap => exact .sl0 a cap
  | sl xs blk off cap s vals h1 h2 h3 h4 _ ih =>
    refine .sl xs blk off cap s vals h1 h2 h3 (fun i x j c hi hj => ⟨hI _ _ _ (h4 i x j c hi hj).1, (h4 i x j c hi hj).2⟩) fun i x j c hi hj => ih i x j c hi hj ?_
    exact noref_cells (norefs_mem (by simpa [AV.noref] using h) x (List.mem_of_getElem? hi)) c (List.mem_of_getElem? hj)
  | iptr x f blk base vals h1 _ ih =>
    refine .iptr x f blk base vals (fun j c hj => ⟨hI _ _ _ (h1 j c hj).1, (h1 j c hj).2⟩) fun j c hj => ih j c hj ?_
    exact noref_cells (by simpa [AV.noref] using h) c (List.mem_of_getElem? hj)
  | rowLive => simp [AV.noref] at h
  | rowNil => simp [AV.noref] at h
  | rowDead => simp [AV.noref] at h
  | ptrLive => simp [AV.noref] at h
  | ptrDead => simp [AV.noref] at h
  | fn f caps vs h1 _ ih => exact .fn f caps vs h1 fun i c x hi hx => ih i c x hi hx (norefs_mem (by simpa [AV.noref] using h) c (List.mem_of_getElem? hi))
  | agg cs vs h1 _ ih => exact .agg cs vs h1 fun i c x hi hx => ih i c x hi hx (norefs_mem (by simpa [AV.noref] using h) c (List.mem_of_getElem? hi))
  | tup cs vs h1 _ ih => exact .tup cs vs h1 fun i c x hi hx => ih i c x hi hx (norefs_mem (by simpa [AV.noref] using h) c (List.mem_of_getElem? hi))
  | ownLive => simp [AV.noref] at h
  | ownGho => simp [AV.noref] at h
  | ownDead => simp [AV.noref] at h
/-- what is known where nothing is owned names nothing that is owned -/
theorem R.of_nil {I : Imm} {L L' : Nat → Loc} {O' : List AObj} {a : AV} {x : Value} (hr : R I L [] a x) : R I L' O' a x := by
  generalize hO : ([] : List AObj) = O at hr
  induction hr with
  | top x => exact .top x
  | v x hx => exact .v x hx
  | nils => exact .nils
  | ifc t x => exact .ifc t x
  | sl0 a cap => exact .sl0 a cap
  | sl xs blk off cap s vals h1 h2 h3 h4 _ ih => exact .sl xs blk off cap s vals h1 h2 h3 h4 fun i x j c hi hj => ih i x j c hi hj
  | iptr x f blk base vals h1 _ ih => exact .iptr x f blk base vals h1 fun j c hj => ih j c hj
  | rowLive n len e s xs hn => subst hO; simp at hn
  | rowNil n e s hn => subst hO; simp at hn
  | rowDead n len x hn => subst hO; simp at hn
  | ptrLive n len i f e s xs hn => subst hO; simp at hn
  | ptrDead n len i f x hn => subst hO; simp at hn
  | fn f caps vs h1 _ ih => exact .fn f caps vs h1 fun i c x hi hx => ih i c x hi hx
  | agg cs vs h1 _ ih => exact .agg cs vs h1 fun i c x hi hx => ih i c x hi hx
  | tup cs vs h1 _ ih => exact .tup cs vs h1 fun i c x hi hx => ih i c x hi hx
  | ownLive n a hn => subst hO; simp at hn
  | ownGho n a hn => subst hO; simp at hn
  | ownDead n x hn => subst hO; simp at hn
theorem R.flat {I I' : Imm} {L L' : Nat → Loc} {O O' : List AObj} {a : AV} {x : Value} (hr : R I L O a x) (h : a.flat = true) : R I' L' O' a x := by
  cases hr <;> simp only [AV.flat] at h <;> first | (simp at h; done) | skip
  · exact .v _ (by assumption)
  · rename_i cs vs h1 h2
    refine .tup _ _ h1 fun i c x hc hx => ?_
    have hm := List.all_eq_true.1 h c (List.mem_of_getElem? hc)
    have hr := h2 i c x hc hx
    cases c <;> simp at hm
    cases hr; exact .v _ (by assumption)
theorem killRow_length (O : List AObj) (a : AV) : (killRow O a).length = O.length := by
  cases a <;> simp [killRow]
theorem kill_length (as : List AV) (O : List AObj) : (as.foldl killRow O).length = O.length := by
  induction as generalizing O with
  | nil => rfl
  | cons a as ih => simp [ih, killRow_length]
theorem kill_live (as : List AV) (O : List AObj) {n e s : Nat} {xs : List AV} (h : (as.foldl killRow O)[n]? = some (.live e s xs)) :
    O[n]? = some (.live e s xs) ∧ ∀ len, AV.row n len ∉ as := by
  induction as generalizing O with
  | nil => exact ⟨h, by simp⟩
  | cons a as ih =>
    obtain ⟨h1, h2⟩ := ih (killRow O a) h
    cases a with
    | row m ml =>
      simp only [killRow, List.getElem?_set] at h1
      by_cases hm : m = n
      · subst hm; simp at h1
      · rw [if_neg hm] at h1
        refine ⟨h1, fun len hmem => ?_⟩
        rcases List.mem_cons.1 hmem with h3 | h3
        · cases h3; exact hm rfl
        · exact h2 len h3
    | own m =>
      simp only [killRow, List.getElem?_set] at h1
      by_cases hm : m = n
      · subst hm; simp at h1
      · rw [if_neg hm] at h1
        refine ⟨h1, fun len hmem => ?_⟩
        rcases List.mem_cons.1 hmem with h3 | h3
        · cases h3
        · exact h2 len h3
    | _ => exact ⟨h1, fun len hm => by rcases List.mem_cons.1 hm with h3 | h3; cases h3; exact h2 len h3⟩
section
variable {P : Program} {I : Imm} {L : Nat → Loc} {O : List AObj} {w : World}
open Classical in
/-- what is lent to a call: the rows among its arguments -/
noncomputable def lent (I : Imm) (L : Nat → Loc) (O : List AObj) (w : World) (as : List AV) : Imm := fun b o =>
  if (∃ (n len e s : Nat) (xs : List AV), AV.row n len ∈ as ∧ O[n]? = some (.live e s xs) ∧ xs.length = len ∧ (L n).blk = b) ∨ (∃ (n : Nat) (a : AV) (o : Nat) (v : Value), AV.own n ∈ as ∧ O[n]? = some (.own a) ∧ (L n).mem b o = some v) then w.cell? ⟨b, o, none⟩ else I b o
theorem kill_nil (as : List AV) (O : List AObj) {n e s : Nat} (h : (as.foldl killRow O)[n]? = some (.nil e s)) : O[n]? = some (.nil e s) := by
  induction as generalizing O with
  | nil => exact h
  | cons a as ih =>
    have h0 := ih _ h
    cases a <;> try exact h0
    all_goals
      simp only [killRow, List.getElem?_set] at h0
      split at h0
      · split at h0 <;> cases h0
      · exact h0
theorem kill_own (as : List AV) (O : List AObj) {n : Nat} {a : AV} (h : (as.foldl killRow O)[n]? = some (.own a)) : O[n]? = some (.own a) := by
  induction as generalizing O with
  | nil => exact h
  | cons a as ih =>
    have h0 := ih _ h
    cases a <;> try exact h0
    all_goals
      simp only [killRow, List.getElem?_set] at h0
      split at h0
      · split at h0 <;> cases h0
      · exact h0
theorem kill_gho (as : List AV) (O : List AObj) {n : Nat} {a : Gho} (h : (as.foldl killRow O)[n]? = some (.gho a)) : O[n]? = some (.gho a) := by
  induction as generalizing O with
  | nil => exact h
  | cons a as ih =>
    have h0 := ih _ h
    cases a <;> try exact h0
    all_goals
      simp only [killRow, List.getElem?_set] at h0
      split at h0
      · split at h0 <;> cases h0
      · exact h0
theorem kill_own' (as : List AV) (O : List AObj) {n : Nat} {c : AV} (h : (as.foldl killRow O)[n]? = some (.own c)) : AV.own n ∉ as := by
  induction as generalizing O with
  | nil => simp
  | cons a as ih =>
    intro hm
    rcases List.mem_cons.1 hm with h3 | h3
    · subst h3
      have h1 := kill_own as _ h
      simp only [killRow, List.getElem?_set] at h1
      split at h1
      · split at h1 <;> cases h1
      · rename_i hne; exact (hne trivial).elim
    · exact ih _ h h3
theorem lent_le (hi : Inv I L O w) (as : List AV) : ∀ b o x, I b o = some x → lent I L O w as b o = some x := by
  intro b o x hx
  unfold lent
  split
  · exact hi.imm b o x hx
  · exact hx
theorem lent_row (hi : Inv I L O w) {as : List AV} {n len : Nat} (hm : AV.row n len ∈ as) {e s : Nat} {xs : List AV} (hO : O[n]? = some (.live e s xs)) (hl : xs.length = len) (o : Nat) :
    lent I L O w as (L n).blk o = w.cell? ⟨(L n).blk, o, none⟩ := by
  unfold lent
  rw [if_pos (.inl ⟨n, len, e, s, xs, hm, hO, hl, rfl⟩)]
theorem frz_sound (hi : Inv I L O w) {as : List AV} {a : AV} (ha : a ∈ as) {x : Value} (hr : R I L O a x) (hn : (frz O a).noref = true) : R (lent I L O w as) L [] (frz O a) x := by
  have hle := lent_le hi as
  cases a
  case row n len =>
    simp only [frz] at hn ⊢
    cases hO : O[n]? with
    | none => simp only [hO] at hn; simp [AV.noref] at hn
    | some ob =>
      cases ob with
      | dead => simp only [hO] at hn; simp [AV.noref] at hn
      | own a => simp only [hO] at hn; simp [AV.noref] at hn
      | gho g => simp only [hO] at hn; simp [AV.noref] at hn
      | nil e s =>
        simp only [hO] at hn ⊢
        obtain ⟨rfl, rfl⟩ := hr.row_nil hO
        rw [if_pos rfl]
        exact .sl0 _ _
      | live e s xs =>
        simp only [hO] at hn ⊢
        by_cases hl : xs.length = len
        · rw [if_pos hl] at hn ⊢
          have := hr.row_live hO hl
          subst this
          obtain ⟨c, ⟨m0z, h1, hm0z⟩, h2, h3, h4, h5, h6⟩ := hi.obj n e s xs hO
          by_cases hx : xs = []
          · subst hx; simp at hl; subst hl; exact .sl0 _ _
          · subst hl
            refine (.sl xs (L n).blk 0 (L n).cap s (fun i j => (c[i * s + j]?).getD undef) h3 hx (fun i x hx => (h6 i x hx).1) (fun i x j d hx hj => ?_) fun i x j d hx hj => ?_)
            · obtain ⟨y, hy, ho, _⟩ := (h6 i x hx).2 j d hj
              rw [lent_row hi ha hO rfl, Nat.zero_add, cell_cells h1, hy]
              exact ⟨rfl, ho⟩
            · obtain ⟨y, hy, ho, hr'⟩ := (h6 i x hx).2 j d hj
              rw [hy]
              exact hr'.noref hle (noref_cells (norefs_mem (by simpa [AV.noref] using hn) x (List.mem_of_getElem? hx)) d (List.mem_of_getElem? hj))
        · rw [if_neg hl] at hn; simp [AV.noref] at hn
  case own n =>
    simp only [frz] at hn ⊢
    cases hr with
    | ownLive _ b hO =>
      simp only [hO] at hn ⊢
      refine (hi.ow.tree n b hO L []).noref (fun p o v hv => ?_) hn
      unfold lent
      rw [if_pos (.inr ⟨n, b, o, v, ha, hO, hv⟩)]
      exact hi.ow.cell n b hO p o v hv
    | ownGho _ g hO => simp only [hO] at hn; simp [AV.noref] at hn
    | ownDead _ _ hlt hno =>
      cases hO : O[n]? with
      | none => simp only [hO] at hn; simp [AV.noref] at hn
      | some ob =>
        cases ob with
        | own b => exact (hno b hO).elim
        | _ => simp only [hO] at hn; simp [AV.noref] at hn
  all_goals exact hr.noref hle hn
theorem pcall_sound {f : FuncId} {as caps : List AV} {vs : Array Value} {res : AV} (hi : Inv I L O w) (hr : RL I L O (as ++ caps) vs) (hn : AV.norefs (as.map (frz O) ++ caps) = true) (hc : PCon P f (as.map (frz O) ++ caps) res) :
    Calls P f vs w fun e w' => ∃ y I' L', e = .returned y ∧ R I' L' (aft O as res) res y ∧ Good I L O w I' L' (aft O as res) w' := by
  have hle := lent_le hi as
  have hinv : Inv (lent I L O w as) L [] w := by
    refine ⟨fun b o x hx => ?_, by simp, by simp, by simp, fun p hp => hle _ _ _ (hi.fix p hp), hi.blk_imm hle, .no (by simp), .no (by simp)⟩
    unfold lent at hx
    split at hx
    · exact hx
    · exact hi.imm b o x hx
  have hargs : RL (lent I L O w as) L [] (as.map (frz O) ++ caps) vs := by
    refine ⟨by have := hr.1; simpa using this, fun i a x ha hx => ?_⟩
    have hna := norefs_mem hn a (List.mem_of_getElem? ha)
    by_cases hlt : i < as.length
    · rw [List.getElem?_append_left (by simpa using hlt)] at ha
      simp only [List.getElem?_map, Option.map_eq_some_iff] at ha
      obtain ⟨a0, ha0, rfl⟩ := ha
      exact frz_sound hi (List.mem_of_getElem? ha0) (hr.2 i a0 x (by rw [List.getElem?_append_left hlt]; exact ha0) hx) hna
    · rw [List.getElem?_append_right (by simp; omega)] at ha
      simp only [List.length_map] at ha
      exact (hr.2 i a x (by rw [List.getElem?_append_right (by omega)]; exact ha) hx).noref hle hna
  refine (hc.2 _ _ _ _ hinv hargs).mono ?_
  rintro e w' ⟨y, I', L', rfl, hry, hg⟩
  have hblk : ∀ b, b < w.heap.size → w'.heap[b]? = w.heap[b]? := fun b hb => hg.frm.block b hb LB_nil
  have hold : ∀ {n e s xs}, O[n]? = some (.live e s xs) → (L n).blk < w.heap.size := by
    intro n e s xs h
    obtain ⟨c, ⟨m0z, h1, hm0z⟩, _⟩ := hi.obj n e s xs h
    exact (Array.getElem?_eq_some_iff.1 h1).1
  by_cases hf : res.flat = true
  · rw [aft, if_pos hf]
    refine ⟨y, I, L, rfl, hry.flat hf, ⟨⟨fun b o x hx => ?_, fun n e s xs hn => ?_, hi.sep, hi.immSep, hi.fix, hi.blk_frm (fun b hb _ => hblk b hb) (fun _ _ _ h => h), hi.ow.keep fun b hb _ => hblk b hb, hi.gh.step (fun _ _ h => ⟨h, rfl⟩) (fun _ _ h => h) fun b hb => hblk b hb.1⟩, .refl _ _ _, ⟨hg.frm.os, hg.frm.tape, hg.frm.output, hg.frm.size, fun b hb _ => hblk b hb⟩, fun _ h => .inl h, fun _ _ _ h => .inl h⟩⟩
    · have := hi.imm b o x hx
      rw [← this]
      exact World.cell?_of_block (a := ⟨b, o, none⟩) (hblk b (cell_block this))
    · exact (hi.obj n e s xs hn).congr (hblk _ (hold hn)) fun _ _ h => h
  · rw [aft, if_neg hf]
    have hle' : ∀ b o x, I b o = some x → I' b o = some x := fun b o x h => hg.ext.imm _ _ _ (hle b o x h)
    have hext : Ext I L O I' L (as.foldl killRow O) := ⟨hle', by rw [kill_length]; exact Nat.le_refl _, fun n _ e s xs h => .inl ⟨xs, (kill_live as O h).1, Nat.le_refl _, fun _ => rfl⟩, fun n _ e s h => kill_nil as O h, fun n _ a h => ⟨⟨a, kill_own as O h⟩, rfl⟩, fun n _ a h => ⟨⟨a, kill_gho as O h, rfl⟩, rfl⟩⟩
    have hnew : ∀ b o x, I' b o = some x → I b o = some x ∨ (∃ (n len e s : Nat) (xs : List AV), AV.row n len ∈ as ∧ O[n]? = some (.live e s xs) ∧ xs.length = len ∧ (L n).blk = b) ∨ w.heap.size ≤ b ∨ (∃ (n : Nat) (a : AV) (o : Nat) (v : Value), AV.own n ∈ as ∧ O[n]? = some (.own a) ∧ (L n).mem b o = some v) := by
      intro b o x h
      rcases hg.immNew b o x h with h1 | h1 | h1
      · unfold lent at h1
        split at h1
        · rename_i hh
          rcases hh with hh | hh
          · exact .inr (.inl hh)
          · exact .inr (.inr (.inr hh))
        · exact .inl h1
      · exact (LB_nil h1).elim
      · exact .inr (.inr (.inl h1))
    refine ⟨y, I', L, rfl, hry.of_nil, ⟨⟨hg.inv.imm, fun n e s xs hn => ?_, fun n m e s xs e' s' ys h1 h2 => hi.sep n m _ _ _ _ _ _ (kill_live as O h1).1 (kill_live as O h2).1, fun n e s xs o h => ?_, hg.inv.fix, hg.inv.blk, hi.ow.stepK (fun n a h => ⟨kill_own as O h, rfl⟩) (fun b o v hv => ?_) (fun m e s xs hm => .inl ⟨m, e, s, xs, (kill_live as O hm).1, rfl⟩) (fun b hb _ => hblk b hb), hi.gh.step (fun n a h => ⟨kill_gho as O h, rfl⟩) (fun _ _ h => h.mono hext) fun b hb => hblk b hb.1⟩, hext, ⟨hg.frm.os, hg.frm.tape, hg.frm.output, hg.frm.size, fun b hb _ => hblk b hb⟩, ?_, ?_⟩⟩
    · have h0 := (kill_live as O hn).1
      exact (hi.obj n e s xs h0).congr (hblk _ (hold h0)) fun _ _ h => h.mono hext
    · obtain ⟨h0, h1⟩ := kill_live as O h
      cases hx : I' (L n).blk o with
      | none => rfl
      | some x =>
        rcases hnew _ _ _ hx with h2 | ⟨m, len, e', s', xs', h2, h3, h4, h5⟩ | h2 | ⟨m, c, o2, v2, h2, h3, h4⟩
        · rw [hi.immSep n e s xs o h0] at h2; cases h2
        · have := hi.sep m n _ _ _ _ _ _ h3 h0 h5
          subst this
          exact (h1 len h2).elim
        · have := hold h0; omega
        · exact (hi.ow.live m c h3 _ o2 v2 h4 n _ _ _ h0 rfl).elim
    · rcases hnew b o v hv with h1 | ⟨n, len, e, s, xs, _, h2, _, h3⟩ | h1 | ⟨m, c, o2, v2, h2, h3, h4⟩
      · exact .inl ⟨o, v, h1⟩
      · exact .inr (.inl ⟨n, e, s, xs, h2, h3⟩)
      · exact .inr (.inr (.inl h1))
      · exact .inr (.inr (.inr ⟨m, c, o2, v2, h3, h4, fun d hd => kill_own' as O hd h2⟩))
    · rintro b (⟨n, e, s, xs, h, hb⟩ | ⟨n, a, o, v, h, hb⟩ | ⟨n, a, h, hb⟩)
      · exact .inl (.inl ⟨n, e, s, xs, (kill_live as O h).1, hb⟩)
      · exact .inl (.inr (.inl ⟨n, a, o, v, kill_own as O h, hb⟩))
      · exact .inl (.inr (.inr ⟨n, a, kill_gho as O h, hb⟩))
    · intro b o x h
      rcases hnew b o x h with h1 | ⟨n, len, e, s, xs, _, h2, _, h3⟩ | h1 | ⟨m, c, o2, v2, h2, h3, h4⟩
      · exact .inl h1
      · exact .inr (.inl (.inl ⟨n, e, s, xs, h2, h3⟩))
      · exact .inr (.inr h1)
      · exact .inr (.inl (.inr (.inl ⟨m, c, o2, v2, h3, h4⟩)))
end
section
variable {P : Program} {I : Imm} {L : Nat → Loc} {O : List AObj} {w : World} {K : AV → List AObj → Prop} {e : Env} {a : Act}
variable {d : Option Tmp} {ty : TypeId} {pos : String} {af : Array Edge} {g : Option (Nat × Bool)}
/-- a slice of these, which nobody writes -/
theorem ran_buildF (hi : Inv I L O w) (he : ∀ t, R I L O (e t) (a.tmps.getD t undef)) {t : TypeId} {len : Nat} {parts : Array (Nat × Operand)} {el' s' l' : Nat} {z' : AV} {ps' : List (Nat × Opd)}
    (hc : cOp1 P ty (.buildSlice t len parts) = some (.buildSlice el' s' l' z' ps')) (hk : wpOp P (.buildF el' s' l' z' ps') e O K) :
    Ran P I L O w (execOp a.eval ⟨d, .buildSlice t len parts, ty, pos, af, g⟩) K := by
  simp only [cOp1, Option.bind_eq_bind, Option.bind_eq_some_iff] at hc
  obtain ⟨el, hel, ⟨s, b, z⟩, hz, ps, hps, hc⟩ := hc
  split at hc
  · rename_i hbig
    simp only [Option.some.injEq, AOp.buildSlice.injEq] at hc
    obtain ⟨rfl, rfl, rfl, rfl, rfl⟩ := hc
    have ht := cSlice_inv hel
    obtain ⟨i, z0, h1, h2, h3, rfl, rfl, h4, h5, h6, h7⟩ := cElem_inv hz
    have hmade := RRow.made (I := I) (L := L) (O := O) (cap := len) (n := len) (absV_sound h3) h7 h4 h5 (Nat.le_refl _)
    obtain ⟨xs', c', ⟨hno, m1⟩, m2, m3, m4, m5⟩ := rowK_sound he parts.toList ps _ _ hmade (by simp) hps hk
    have hlx : xs'.length = len := by simpa using m3
    obtain ⟨I', hg, hr⟩ := hi.newF (el := el) (s := i.size) (xs := xs') c' len (by omega) (fun k x hx j c hj I' L' O' v hI hv => hv.noref hI (noref_cells (norefs_mem hno x (List.mem_of_getElem? hx)) c (List.mem_of_getElem? hj))) m2
    rw [hlx] at hr
    refine ⟨_, _, .slice (some ⟨w.heap.size, 0, none⟩) len len, _, _, _, m1, hg, hr, .inl ?_⟩
    have hns : ¬ (len * i.size > 2 ^ 24) := by simpa using hbig
    simp only [execOp]
    by_cases h0 : len * i.size = 0
    · have hl0 : len = 0 := by rcases Nat.mul_eq_zero.1 h0 with h | h <;> omega
      subst hl0
      simp [Array.range_zero'] at m5
      simp [Instr.buildSlice, run_underlying ht, sizeOf, typeInfo, h1, m5, newRow, Array.range_zero']
    · simp [Instr.buildSlice, run_underlying ht, sizeOf, typeInfo, h1, hns, h0, zeroValue, h2, m5, newRow]
  · cases hc
end
end Go.Ab
/-
  THE FRAME RULE: a contract on the objects that a call reaches holds among others too: its objects are renamed, the others stay.
-/
namespace Go.Ab
mutual
/-- all references are to objects ahead of k -/
def AV.inScope (k : Nat) : AV → Bool
  | .top | .v _ | .nils | .ifc => true
  | .sl xs => AV.scopeds k xs
  | .iptr x _ => x.inScope k
  | .row n _ => n < k
  | .ptr n _ _ _ => n < k
  | .fn _ cs => AV.scopeds k cs
  | .agg cs => AV.scopeds k cs
  | .tup vs => AV.scopeds k vs
  | .own n => n < k
def AV.scopeds (k : Nat) : List AV → Bool
  | [] => true
  | x :: xs => x.inScope k && AV.scopeds k xs
end
theorem scopeds_mem {k : Nat} {xs : List AV} (h : AV.scopeds k xs = true) : ∀ x ∈ xs, x.inScope k = true := by
  induction xs with
  | nil => simp
  | cons y ys ih =>
    simp only [AV.scopeds, Bool.and_eq_true] at h
    intro x hx
    rcases List.mem_cons.1 hx with rfl | hx
    · exact h.1
    · exact ih h.2 x hx
mutual
theorem noref_scoped {k : Nat} : ∀ (x : AV), x.noref = true → x.inScope k = true
  | .top, _ | .v _, _ | .nils, _ | .ifc, _ => rfl
  | .sl xs, h => by simp only [AV.noref, AV.inScope] at *; exact norefs_scopeds xs h
  | .iptr x _, h => by simp only [AV.noref, AV.inScope] at *; exact noref_scoped x h
  | .row _ _, h => by simp [AV.noref] at h
  | .ptr _ _ _ _, h => by simp [AV.noref] at h
  | .fn _ cs, h => by simp only [AV.noref, AV.inScope] at *; exact norefs_scopeds cs h
  | .agg cs, h => by simp only [AV.noref, AV.inScope] at *; exact norefs_scopeds cs h
  | .tup cs, h => by simp only [AV.noref, AV.inScope] at *; exact norefs_scopeds cs h
  | .own _, h => by simp [AV.noref] at h
theorem norefs_scopeds {k : Nat} : ∀ (xs : List AV), AV.norefs xs = true → AV.scopeds k xs = true
  | [], _ => rfl
  | x :: xs, h => by
    simp only [AV.norefs, AV.scopeds, Bool.and_eq_true] at *
    exact ⟨noref_scoped x h.1, norefs_scopeds xs h.2⟩
end
theorem scoped_cells {k : Nat} {x : AV} (h : x.inScope k = true) : ∀ c ∈ x.cells, c.inScope k = true := by
  cases x <;> simp only [AV.cells] <;> try (intro c hc; simp at hc; subst hc; exact h)
  simp only [AV.inScope] at h
  exact scopeds_mem h
def AObj.inScope (k : Nat) : AObj → Bool
  | .dead => true
  | .own _ => true
  | .nil _ _ => true
  | .live _ _ xs => AV.scopeds k xs
  | .gho (.mp es) => es.all fun p => p.1.inScope k && p.2.inScope k
  | .gho (.it _ _) => true
theorem rens_eq (s : Nat → Nat) (xs : List AV) : AV.rens s xs = xs.map (AV.ren s) := by
  induction xs with
  | nil => rfl
  | cons x xs ih => simp [AV.rens, ih]
mutual
theorem noref_ren {s : Nat → Nat} : ∀ (a : AV), a.noref = true → a.ren s = a
  | .top, _ | .v _, _ | .nils, _ | .ifc, _ => rfl
  | .sl xs, h => by simp only [AV.ren]; rw [norefs_rens xs (by simpa [AV.noref] using h)]
  | .iptr x _, h => by simp only [AV.ren]; rw [noref_ren x (by simpa [AV.noref] using h)]
  | .row _ _, h => by simp [AV.noref] at h
  | .ptr _ _ _ _, h => by simp [AV.noref] at h
  | .fn _ cs, h => by simp only [AV.ren]; rw [norefs_rens cs (by simpa [AV.noref] using h)]
  | .agg cs, h => by simp only [AV.ren]; rw [norefs_rens cs (by simpa [AV.noref] using h)]
  | .tup cs, h => by simp only [AV.ren]; rw [norefs_rens cs (by simpa [AV.noref] using h)]
  | .own _, h => by simp [AV.noref] at h
theorem norefs_rens {s : Nat → Nat} : ∀ (xs : List AV), AV.norefs xs = true → AV.rens s xs = xs
  | [], _ => rfl
  | x :: xs, h => by
    simp only [AV.norefs, Bool.and_eq_true] at h
    simp only [AV.rens]
    rw [noref_ren x h.1, norefs_rens xs h.2]
end
theorem cells_ren (s : Nat → Nat) (a : AV) : (a.ren s).cells = a.cells.map (AV.ren s) := by
  cases a <;> simp [AV.ren, AV.cells, rens_eq]
theorem map_get {s : Nat → Nat} {xs : List AV} {i : Nat} {y : AV} (h : (xs.map (AV.ren s))[i]? = some y) : ∃ x, xs[i]? = some x ∧ y = x.ren s := by
  simp only [List.getElem?_map, Option.map_eq_some_iff] at h
  obtain ⟨x, hx, rfl⟩ := h
  exact ⟨x, hx, rfl⟩
theorem R.ren {I : Imm} {L L' : Nat → Loc} {O O' : List AObj} {s : Nat → Nat} (hn : ∀ n, n < O'.length → s n < O.length)
    (hg : ∀ n, n < O'.length → O[s n]? = (O'[n]?).map (AObj.ren s)) (hL : ∀ n, n < O'.length → L (s n) = L' n) {a : AV} {x : Value} (hr : R I L' O' a x) : R I L O (a.ren s) x := by
  have live : ∀ {n e k xs}, O'[n]? = some (.live e k xs) → O[s n]? = some (.live e k (xs.map (AV.ren s))) ∧ L (s n) = L' n := by
    intro n e k xs h
    have hlt := (List.getElem?_eq_some_iff.1 h).1
    exact ⟨by rw [hg n hlt, h]; rfl, hL n hlt⟩
  have back : ∀ {n e k xs}, n < O'.length → O[s n]? = some (.live e k xs) → ∃ ys, O'[n]? = some (.live e k ys) ∧ ys.length = xs.length := by
    intro n e k xs hlt h
    rw [hg n hlt, Option.map_eq_some_iff] at h
    obtain ⟨ob, h1, h2⟩ := h
    cases ob with
    | dead => cases h2
    | own a => cases h2
    | gho g => cases h2
    | nil => cases h2
    | live e' k' ys => cases h2; exact ⟨ys, h1, by simp⟩
  have nilb : ∀ {n e k}, n < O'.length → O'[n]? ≠ some (.nil e k) → O[s n]? ≠ some (.nil e k) := by
    intro n e k hlt hne h
    rw [hg n hlt, Option.map_eq_some_iff] at h
    obtain ⟨ob, h1, h2⟩ := h
    cases ob with
    | dead => cases h2
    | own a => cases h2
    | gho g => cases h2
    | nil => cases h2; exact hne h1
    | live => cases h2
  induction hr with
  | top x => exact .top x
  | v x hx => exact .v x hx
  | nils => exact .nils
  | ifc t x => exact .ifc t x
  | sl0 a cap => exact .sl0 a cap
  | sl xs blk off cap k vals h1 h2 h3 h4 _ ih =>
    simp only [AV.ren, rens_eq]
    rw [show xs.length = (xs.map (AV.ren s)).length by simp]
    refine .sl _ blk off cap k vals (by simpa using h1) (by simpa using h2) (fun i x hx => ?_) (fun i x j c hx hc => ?_) (fun i x j c hx hc => ?_)
    · obtain ⟨y, hy, rfl⟩ := map_get hx
      rw [cells_ren, List.length_map]; exact h3 i y hy
    · obtain ⟨y, hy, rfl⟩ := map_get hx
      rw [cells_ren] at hc
      obtain ⟨d, hd, rfl⟩ := map_get hc
      exact h4 i y j d hy hd
    · obtain ⟨y, hy, rfl⟩ := map_get hx
      rw [cells_ren] at hc
      obtain ⟨d, hd, rfl⟩ := map_get hc
      exact ih i y j d hy hd
  | iptr x f blk base vals h1 _ ih =>
    simp only [AV.ren]
    refine .iptr _ f blk base vals (fun j c hc => ?_) (fun j c hc => ?_)
    · rw [cells_ren] at hc
      obtain ⟨d, hd, rfl⟩ := map_get hc
      exact h1 j d hd
    · rw [cells_ren] at hc
      obtain ⟨d, hd, rfl⟩ := map_get hc
      exact ih j d hd
  | rowLive n len e k xs hx hl =>
    obtain ⟨h1, h2⟩ := live hx
    simp only [AV.ren]
    rw [← h2]
    exact .rowLive (s n) len e k _ h1 (by simpa using hl)
  | rowNil n e k hx =>
    simp only [AV.ren]
    refine .rowNil (s n) e k ?_
    rw [hg n (List.getElem?_eq_some_iff.1 hx).1, hx]; rfl
  | rowDead n len x hlt hnn hs hx =>
    simp only [AV.ren]
    refine .rowDead (s n) len x (hn n hlt) (fun e k he => nilb hlt (hnn e k) he) (fun e k xs hxs => ?_) hx
    obtain ⟨ys, hy, he⟩ := back hlt hxs
    rw [← he]; exact hs e k ys hy
  | ptrLive n len i f e k xs hx hl =>
    obtain ⟨h1, h2⟩ := live hx
    simp only [AV.ren]
    rw [← h2]
    exact .ptrLive (s n) len i f e k _ h1 (by simpa using hl)
  | ptrDead n len i f x hlt hnn hs hx =>
    simp only [AV.ren]
    refine .ptrDead (s n) len i f x (hn n hlt) (fun e k he => nilb hlt (hnn e k) he) (fun e k xs hxs => ?_) hx
    obtain ⟨ys, hy, he⟩ := back hlt hxs
    rw [← he]; exact hs e k ys hy
  | fn f caps vs h1 _ ih =>
    simp only [AV.ren, rens_eq]
    refine .fn f _ vs (by simpa using h1) fun i c x hc hx => ?_
    obtain ⟨d, hd, rfl⟩ := map_get hc
    exact ih i d x hd hx
  | agg cs vs h1 _ ih =>
    simp only [AV.ren, rens_eq]
    refine .agg _ vs (by simpa using h1) fun i c x hc hx => ?_
    obtain ⟨d, hd, rfl⟩ := map_get hc
    exact ih i d x hd hx
  | tup cs vs h1 _ ih =>
    simp only [AV.ren, rens_eq]
    refine .tup _ vs (by simpa using h1) fun i c x hc hx => ?_
    obtain ⟨d, hd, rfl⟩ := map_get hc
    exact ih i d x hd hx
  | ownLive n a h h1 =>
    have hlt := (List.getElem?_eq_some_iff.1 h).1
    rw [← hL n hlt] at h1 ⊢
    exact .ownLive (s n) a (by rw [hg n hlt, h]; rfl) h1
  | ownGho n g h =>
    have hlt := (List.getElem?_eq_some_iff.1 h).1
    have : g.val (L' n).blk = (g.ren s).val (L (s n)).blk := by unfold Gho.val; rw [Gho.ren_mp, hL n hlt]
    rw [this]
    exact .ownGho (s n) (g.ren s) (by rw [hg n hlt, h]; rfl)
  | ownDead n x hlt hno hng h1 =>
    refine .ownDead (s n) x (hn n hlt) (fun a ha => ?_) (fun a ha => ?_) h1
    · rw [hg n hlt, Option.map_eq_some_iff] at ha
      obtain ⟨ob, h1, h2⟩ := ha
      cases ob with
      | own c => exact hno c h1
      | _ => cases h2
    · rw [hg n hlt, Option.map_eq_some_iff] at ha
      obtain ⟨ob, h1, h2⟩ := ha
      cases ob with
      | gho c => exact hng c h1
      | _ => cases h2
/-- back: what is said of renamed references is said of the references -/
theorem R.unren {I : Imm} {L L' : Nat → Loc} {O O' : List AObj} {s : Nat → Nat} (hg : ∀ n, n < O'.length → O[s n]? = (O'[n]?).map (AObj.ren s)) (hL : ∀ n, n < O'.length → L (s n) = L' n)
    {b : AV} {x : Value} (hr : R I L O b x) : ∀ a : AV, b = a.ren s → a.inScope O'.length = true → R I L' O' a x := by
  have live : ∀ {n e k xs}, n < O'.length → O[s n]? = some (.live e k xs) → ∃ ys, O'[n]? = some (.live e k ys) ∧ xs = ys.map (AV.ren s) := by
    intro n e k xs hlt h
    rw [hg n hlt, Option.map_eq_some_iff] at h
    obtain ⟨ob, h1, h2⟩ := h
    cases ob with
    | dead => cases h2
    | own a => cases h2
    | gho g => cases h2
    | nil => cases h2
    | live e' k' ys => cases h2; exact ⟨ys, h1, rfl⟩
  have fwd : ∀ {n e k ys}, O'[n]? = some (.live e k ys) → O[s n]? = some (.live e k (ys.map (AV.ren s))) := by
    intro n e k ys h
    rw [hg n (List.getElem?_eq_some_iff.1 h).1, h]; rfl
  have fwdn : ∀ {n e k}, O'[n]? = some (.nil e k) → O[s n]? = some (.nil e k) := by
    intro n e k h
    rw [hg n (List.getElem?_eq_some_iff.1 h).1, h]; rfl
  have cm : ∀ {y : AV} {j : Nat} {d : AV}, y.cells[j]? = some d → (y.ren s).cells[j]? = some (d.ren s) := by
    intro y j d h
    rw [cells_ren, List.getElem?_map, h]; rfl
  have mm : ∀ {ys : List AV} {j : Nat} {d : AV}, ys[j]? = some d → (ys.map (AV.ren s))[j]? = some (d.ren s) := by
    intro ys j d h
    rw [List.getElem?_map, h]; rfl
  induction hr with
  | top x => intro a h; cases a <;> simp [AV.ren] at h; intro _; exact .top x
  | v x hx => intro a h; cases a <;> simp [AV.ren] at h; intro _; subst h; exact .v x hx
  | nils => intro a h; cases a <;> simp [AV.ren] at h; intro _; exact .nils
  | ifc t x => intro a h; cases a <;> simp [AV.ren] at h; intro _; exact .ifc t x
  | sl0 a cap =>
    intro a h; cases a <;> simp [AV.ren, rens_eq] at h; intro _; subst h; exact .sl0 _ cap
  | sl xs blk off cap k vals h1 h2 h3 h4 _ ih =>
    intro a h
    cases a <;> simp [AV.ren, rens_eq] at h
    rename_i ys
    subst h
    intro hs
    have hs' := scopeds_mem (by simpa [AV.inScope] using hs)
    rw [List.length_map]
    refine .sl ys blk off cap k vals (by simpa using h1) (by simpa using h2) (fun i x hx => ?_) (fun i x j c hx hc => h4 i _ j _ (mm hx) (cm hc)) (fun i x j c hx hc => ?_)
    · have := h3 i _ (mm hx)
      rwa [cells_ren, List.length_map] at this
    · exact ih i _ j _ (mm hx) (cm hc) c rfl (scoped_cells (hs' x (List.mem_of_getElem? hx)) c (List.mem_of_getElem? hc))
  | iptr x f blk base vals h1 _ ih =>
    intro a h
    cases a <;> simp [AV.ren] at h
    rename_i y g
    obtain ⟨rfl, rfl⟩ := h
    intro hs
    refine .iptr y f blk base vals (fun j c hc => h1 j _ (cm hc)) (fun j c hc => ih j _ (cm hc) c rfl (scoped_cells (by simpa [AV.inScope] using hs) c (List.mem_of_getElem? hc)))
  | rowLive n len e k xs hx hl =>
    intro a h
    cases a <;> simp [AV.ren] at h
    rename_i n' l'
    obtain ⟨rfl, rfl⟩ := h
    intro hs
    have hlt : n' < O'.length := by simpa [AV.inScope] using hs
    obtain ⟨ys, hy, rfl⟩ := live hlt hx
    rw [hL n' hlt]
    exact .rowLive n' len e k ys hy (by simpa using hl)
  | rowNil n e k hx =>
    intro a h
    cases a <;> simp [AV.ren] at h
    rename_i n' l'
    obtain ⟨rfl, rfl⟩ := h
    intro hs
    have hlt : n' < O'.length := by simpa [AV.inScope] using hs
    rw [hg n' hlt, Option.map_eq_some_iff] at hx
    obtain ⟨ob, h1, h2⟩ := hx
    cases ob with
    | dead => cases h2
    | own a => cases h2
    | gho g => cases h2
    | live => cases h2
    | nil => cases h2; exact .rowNil n' e k h1
  | rowDead n len x hlt0 hnn hd hx =>
    intro a h
    cases a <;> simp [AV.ren] at h
    rename_i n' l'
    obtain ⟨rfl, rfl⟩ := h
    intro hs
    refine .rowDead n' len x (by simpa [AV.inScope] using hs) (fun e k he => hnn e k (fwdn he)) (fun e k ys hys => ?_) hx
    have := hd e k _ (fwd hys)
    simpa using this
  | ptrLive n len i f e k xs hx hl =>
    intro a h
    cases a <;> simp [AV.ren] at h
    rename_i n' l' i' f'
    obtain ⟨rfl, rfl, rfl, rfl⟩ := h
    intro hs
    have hlt : n' < O'.length := by simpa [AV.inScope] using hs
    obtain ⟨ys, hy, rfl⟩ := live hlt hx
    rw [hL n' hlt]
    exact .ptrLive n' len i f e k ys hy (by simpa using hl)
  | ptrDead n len i f x hlt0 hnn hd hx =>
    intro a h
    cases a <;> simp [AV.ren] at h
    rename_i n' l' i' f'
    obtain ⟨rfl, rfl, rfl, rfl⟩ := h
    intro hs
    refine .ptrDead n' len i f x (by simpa [AV.inScope] using hs) (fun e k he => hnn e k (fwdn he)) (fun e k ys hys => ?_) hx
    have := hd e k _ (fwd hys)
    simpa using this
  | fn f caps vs h1 _ ih =>
    intro a h
    cases a <;> simp [AV.ren, rens_eq] at h
    rename_i f' ys
    obtain ⟨rfl, rfl⟩ := h
    intro hs
    exact .fn f ys vs (by simpa using h1) fun i c x hc hx => ih i _ x (mm hc) hx c rfl (scopeds_mem (by simpa [AV.inScope] using hs) c (List.mem_of_getElem? hc))
  | agg cs vs h1 _ ih =>
    intro a h
    cases a <;> simp [AV.ren, rens_eq] at h
    rename_i ys
    subst h
    intro hs
    exact .agg ys vs (by simpa using h1) fun i c x hc hx => ih i _ x (mm hc) hx c rfl (scopeds_mem (by simpa [AV.inScope] using hs) c (List.mem_of_getElem? hc))
  | tup cs vs h1 _ ih =>
    intro a h
    cases a <;> simp [AV.ren, rens_eq] at h
    rename_i ys
    subst h
    intro hs
    exact .tup ys vs (by simpa using h1) fun i c x hc hx => ih i _ x (mm hc) hx c rfl (scopeds_mem (by simpa [AV.inScope] using hs) c (List.mem_of_getElem? hc))
  | ownLive n a hx hone =>
    intro b h
    cases b <;> simp [AV.ren] at h
    rename_i n'
    subst h
    intro hs
    have hlt : n' < O'.length := by simpa [AV.inScope] using hs
    rw [hg n' hlt, Option.map_eq_some_iff] at hx
    obtain ⟨ob, h1, h2⟩ := hx
    rw [hL n' hlt] at hone ⊢
    cases ob with
    | own c => exact .ownLive n' c h1 hone
    | _ => cases h2
  | ownGho n g hx =>
    intro b h
    cases b <;> simp [AV.ren] at h
    rename_i n'
    subst h
    intro hs
    have hlt : n' < O'.length := by simpa [AV.inScope] using hs
    rw [hg n' hlt, Option.map_eq_some_iff] at hx
    obtain ⟨ob, h1, h2⟩ := hx
    rw [hL n' hlt]
    cases ob with
    | gho c =>
      cases h2
      have : (c.ren s).val (L' n').blk = c.val (L' n').blk := by unfold Gho.val; rw [Gho.ren_mp]
      rw [this]
      exact .ownGho n' c h1
    | _ => cases h2
  | ownDead n x hlt0 hno hng hone =>
    intro b h
    cases b <;> simp [AV.ren] at h
    rename_i n'
    subst h
    intro hs
    have hlt : n' < O'.length := by simpa [AV.inScope] using hs
    exact .ownDead n' x hlt (fun a ha => hno a (by rw [hg n' hlt, ha]; rfl)) (fun a ha => hng (a.ren s) (by rw [hg n' hlt, ha]; rfl)) hone
theorem GhoOk.un {I : Imm} {L L1 : Nat → Loc} {O O1 : List AObj} {w : World} {l : Loc} {g : Gho} {s : Nat → Nat} {k : Nat} (un : ∀ a x, R I L O (a.ren s) x → a.inScope k = true → R I L1 O1 a x) (h : GhoOk I L O w l (g.ren s)) (hs : (AObj.gho g).inScope k = true) : GhoOk I L1 O1 w l g := by
  cases g with
  | it a b => exact h
  | mp es =>
    obtain ⟨en, c, q1, q2, q3⟩ := h
    refine ⟨en, c, q1, by simpa using q2, fun i k' v hx => ?_⟩
    obtain ⟨e, q4, q5, q6⟩ := q3 i (k'.ren s) (v.ren s) (by rw [List.getElem?_map, hx]; rfl)
    have hsc' := List.all_eq_true.1 (show es.all (fun p => p.1.inScope k && p.2.inScope k) = true from hs) (k', v) (List.mem_of_getElem? hx)
    simp only [Bool.and_eq_true] at hsc'
    exact ⟨e, q4, un _ _ q5 hsc'.1, un _ _ q6 hsc'.2⟩
theorem Con.frame {P : Program} {f : FuncId} {args : List AV} {O1 : List AObj} {res : AV} {O1' : List AObj} (h : Con P f args O1 res O1') {O O'' : List AObj} (s : Nat → Nat)
    (hs : ∀ i, i < O1.length → s i < O.length) (hg : ∀ i, i < O1.length → O[s i]? = (O1[i]?).map (AObj.ren s)) (hinj : ∀ i j, i < O1.length → j < O1.length → s i = s j → i = j)
    (hnew : ∀ i, O1.length ≤ i → s i = O.length + (i - O1.length)) (hsc : ∀ a ∈ args, a.inScope O1.length = true) (hsO : ∀ ob ∈ O1, ob.inScope O1.length = true)
    (hl : O''.length = O.length + (O1'.length - O1.length)) (h1 : ∀ i, i < O1'.length → O''[s i]? = (O1'[i]?).map (AObj.ren s)) (h2 : ∀ n, n < O.length → (∀ i, i < O1.length → s i ≠ n) → O''[n]? = O[n]?) :
    Con P f (args.map (AV.ren s)) O (res.ren s) O'' := by
  refine ⟨h.1, fun I L w vs hi hr => ?_⟩
  have inj : ∀ i j, s i = s j → i = j := by
    intro i j he
    by_cases hi : i < O1.length <;> by_cases hj : j < O1.length
    · exact hinj i j hi hj he
    · have := hs i hi; have := hnew j (by omega); omega
    · have := hs j hj; have := hnew i (by omega); omega
    · have := hnew i (by omega); have := hnew j (by omega); omega
  let L1 : Nat → Loc := fun n => L (s n)
  have live1 : ∀ {n e k ys}, O1[n]? = some (.live e k ys) → O[s n]? = some (.live e k (ys.map (AV.ren s))) := by
    intro n e k ys hn
    rw [hg n (List.getElem?_eq_some_iff.1 hn).1, hn]; rfl
  have un : ∀ {a : AV} {x : Value}, R I L O (a.ren s) x → a.inScope O1.length = true → R I L1 O1 a x := fun hr hsc => R.unren hg (fun _ _ => rfl) hr _ rfl hsc
  have own1 : ∀ {n : Nat} {a : AV}, O1[n]? = some (.own a) → O[s n]? = some (.own a) := by
    intro n a hn
    rw [hg n (List.getElem?_eq_some_iff.1 hn).1, hn]; rfl
  have gho1 : ∀ {n : Nat} {g : Gho}, O1[n]? = some (.gho g) → O[s n]? = some (.gho (g.ren s)) := by
    intro n a hn
    rw [hg n (List.getElem?_eq_some_iff.1 hn).1, hn]; rfl
  have hi1 : Inv I L1 O1 w := by
    refine ⟨hi.imm, fun n e k ys hn => ?_, fun n n' e k ys e' k' ys' hn hn' hb => ?_, fun n e k ys o hn => hi.immSep _ _ _ _ o (live1 hn), hi.fix, hi.blk,
      ⟨fun n a hn => hi.ow.tree _ a (own1 hn), fun n a hn => hi.ow.cell _ a (own1 hn), fun n a hn => hi.ow.imm _ a (own1 hn), fun n a hn b o v hv m e k xs hm => hi.ow.live _ a (own1 hn) b o v hv _ _ _ _ (live1 hm),
        fun n m a c hn hm b o o' v v' hv hv' => inj _ _ (hi.ow.sep _ _ a c (own1 hn) (own1 hm) b o o' v v' hv hv'), fun n a hn => hi.ow.deep _ a (own1 hn)⟩, ⟨fun n g hn => ?_, fun n m g g' hn hm hb => inj _ _ (hi.gh.sep _ _ _ _ (gho1 hn) (gho1 hm) hb)⟩⟩
    rotate_right
    · have q := hi.gh.ok _ _ (gho1 hn)
      cases g with
      | it a b => exact q
      | mp es =>
        obtain ⟨en, c, q1, q2, q3⟩ := q
        refine ⟨en, c, q1, by simpa using q2, fun i k v hx => ?_⟩
        obtain ⟨e, q4, q5, q6⟩ := q3 i (k.ren s) (v.ren s) (by rw [List.getElem?_map, hx]; rfl)
        have hbo := hsO _ (List.mem_of_getElem? hn)
        have hsc' := List.all_eq_true.1 (show es.all (fun p => p.1.inScope O1.length && p.2.inScope O1.length) = true from hbo) (k, v) (List.mem_of_getElem? hx)
        simp only [Bool.and_eq_true] at hsc'
        exact ⟨e, q4, un q5 hsc'.1, un q6 hsc'.2⟩
    · obtain ⟨c, ⟨m0z, q1, hm0z⟩, q2, q3, q4, q5, q6⟩ := hi.obj _ _ _ _ (live1 hn)
      refine ⟨c, ⟨m0z, q1, hm0z⟩, q2, by simpa using q3, q4, q5, fun i x hx => ?_⟩
      have hmx : (ys.map (AV.ren s))[i]? = some (x.ren s) := by rw [List.getElem?_map, hx]; rfl
      obtain ⟨r1, r2⟩ := q6 i _ hmx
      rw [cells_ren, List.length_map] at r1
      refine ⟨r1, fun j a ha => ?_⟩
      obtain ⟨y, hy, ho, hr'⟩ := r2 j (a.ren s) (by rw [cells_ren, List.getElem?_map, ha]; rfl)
      have hbo := hsO _ (List.mem_of_getElem? hn)
      exact ⟨y, hy, ho, un hr' (scoped_cells (scopeds_mem hbo x (List.mem_of_getElem? hx)) a (List.mem_of_getElem? ha))⟩
    · exact inj _ _ (hi.sep _ _ _ _ _ _ _ _ (live1 hn) (live1 hn') hb)
  have hr1 : RL I L1 O1 args vs := by
    refine ⟨by simpa using hr.1, fun i a x ha hx => un (hr.2 i _ x (by rw [List.getElem?_map, ha]; rfl) hx) (hsc a (List.mem_of_getElem? ha))⟩
  refine (h.2 I L1 w vs hi1 hr1).mono ?_
  rintro e w' ⟨y, I', L1', rfl, hy, hgd⟩
  have hlen := hgd.ext.len
  open Classical in
  let L'' : Nat → Loc := fun n => if hx : ∃ i, i < O1'.length ∧ s i = n then L1' hx.choose else L n
  have hL1 : ∀ i, i < O1'.length → L'' (s i) = L1' i := by
    intro i hi
    have hx : ∃ j, j < O1'.length ∧ s j = s i := ⟨i, hi, rfl⟩
    show (if hx : ∃ j, j < O1'.length ∧ s j = s i then L1' hx.choose else L (s i)) = _
    rw [dif_pos hx]
    rw [inj _ _ hx.choose_spec.2]
  have hL2 : ∀ n, (∀ i, i < O1'.length → s i ≠ n) → L'' n = L n := by
    intro n hn
    exact dif_neg (by rintro ⟨i, hi, he⟩; exact hn i hi he)
  have hsl : ∀ i, i < O1'.length → s i < O''.length := by
    intro i hi
    by_cases hm : i < O1.length
    · have := hs i hm; omega
    · have := hnew i (by omega); omega
  -- every object behind the call is one of the call's or one that stays
  have cls : ∀ n e k xs, O''[n]? = some (.live e k xs) → (∃ i ys, i < O1'.length ∧ s i = n ∧ O1'[i]? = some (.live e k ys) ∧ xs = ys.map (AV.ren s)) ∨ (n < O.length ∧ (∀ i, i < O1'.length → s i ≠ n) ∧ O[n]? = some (.live e k xs)) := by
    intro n e k xs hn
    by_cases hx : ∃ i, i < O1'.length ∧ s i = n
    · obtain ⟨i, hi, rfl⟩ := hx
      rw [h1 i hi, Option.map_eq_some_iff] at hn
      obtain ⟨ob, q1, q2⟩ := hn
      cases ob with
      | dead => cases q2
      | own a => cases q2
      | gho g => cases q2
      | nil => cases q2
      | live e' k' ys => cases q2; exact .inl ⟨i, ys, hi, rfl, q1, rfl⟩
    · have hno : ∀ i, i < O1'.length → s i ≠ n := fun i hi he => hx ⟨i, hi, he⟩
      have hlt : n < O.length := by
        have := (List.getElem?_eq_some_iff.1 hn).1
        rcases Nat.lt_or_ge n O.length with h' | h'
        · exact h'
        · exact absurd (hnew (O1.length + (n - O.length)) (by omega)) (fun he => hno (O1.length + (n - O.length)) (by omega) (by omega))
      rw [h2 n hlt (fun i hi => hno i (by omega))] at hn
      exact .inr ⟨hlt, hno, hn⟩
  have lb1 : ∀ {b}, LB L1 O1 b → LB L O b := by
    rintro b (⟨n, e, k, ys, hn, hb⟩ | ⟨n, a, o, v, hn, hb⟩ | ⟨n, g, hn, hb⟩)
    · exact .inl ⟨s n, e, k, _, live1 hn, hb⟩
    · exact .inr (.inl ⟨s n, a, o, v, own1 hn, hb⟩)
    · exact .inr (.inr ⟨s n, _, gho1 hn, hb⟩)
  have old : ∀ {n e k xs}, O[n]? = some (.live e k xs) → (∀ i, i < O1'.length → s i ≠ n) → ¬ LB L1 O1 (L n).blk ∧ (L n).blk < w.heap.size := by
    intro n e k xs hn hno
    refine ⟨?_, ?_⟩
    · rintro (⟨i, e', k', ys, hi', hb⟩ | ⟨i, a, o, v, hi', hb⟩ | ⟨i, g, hi', hb⟩)
      · have := hi.sep _ _ _ _ _ _ _ _ (live1 hi') hn hb
        exact hno i (by have := (List.getElem?_eq_some_iff.1 hi').1; omega) this
      · exact hi.ow.live _ a (own1 hi') _ o v hb _ _ _ _ hn rfl
      · obtain ⟨c, ⟨m0z, q1, hm0z⟩, _⟩ := hi.obj n e k xs hn
        have hq := (hi.gh.ok _ _ (gho1 hi')).no.2 c e m0z
        exact hq (by rw [show (L (s i)).blk = (L n).blk from hb]; exact q1)
    · obtain ⟨c, ⟨m0z, q1, hm0z⟩, _⟩ := hi.obj n e k xs hn
      exact (Array.getElem?_eq_some_iff.1 q1).1
  have oldo : ∀ {n : Nat} {a : AV} {b o : Nat} {v : Value}, O[n]? = some (.own a) → (∀ i, i < O1'.length → s i ≠ n) → (L n).mem b o = some v → ¬ LB L1 O1 b ∧ b < w.heap.size := by
    intro n a b o v hn hno hv
    refine ⟨?_, cell_block (hi.ow.cell n a hn b o v hv)⟩
    rintro (⟨i, e', k', ys, hi', hb⟩ | ⟨i, c, o', v', hi', hb⟩ | ⟨i, g, hi', hb⟩)
    · exact hi.ow.live n a hn b o v hv _ _ _ _ (live1 hi') hb
    · have := hi.ow.sep _ _ c a (own1 hi') hn b o' o v' v hb hv
      exact hno i (by have := (List.getElem?_eq_some_iff.1 hi').1; omega) this
    · have hq := (hi.gh.ok _ _ (gho1 hi')).no.cell (o := o)
      rw [show (L (s i)).blk = b from hb, hi.ow.cell n a hn b o v hv] at hq
      cases hq
  have oldg : ∀ {n : Nat} {g : Gho}, O[n]? = some (.gho g) → (∀ i, i < O1'.length → s i ≠ n) → ¬ LB L1 O1 (L n).blk ∧ (L n).blk < w.heap.size := by
    intro n g hn hno
    have hq := (hi.gh.ok _ _ hn).no
    refine ⟨?_, hq.1⟩
    rintro (⟨i, e', k', ys, hi', hb⟩ | ⟨i, c, o', v', hi', hb⟩ | ⟨i, g', hi', hb⟩)
    · obtain ⟨c, ⟨m0z, q1, hm0z⟩, _⟩ := hi.obj _ _ _ _ (live1 hi')
      exact hq.2 c e' m0z (by rw [← show (L (s i)).blk = (L n).blk from hb]; exact q1)
    · have h0 := hq.cell (o := o')
      rw [hi.ow.cell _ c (own1 hi') _ o' v' hb] at h0
      cases h0
    · have := hi.gh.sep _ _ _ _ (gho1 hi') hn hb
      exact hno i (by have := (List.getElem?_eq_some_iff.1 hi').1; omega) this
  have clso : ∀ (n : Nat) (a : AV), O''[n]? = some (.own a) → (∃ i, i < O1'.length ∧ s i = n ∧ O1'[i]? = some (.own a)) ∨ (n < O.length ∧ (∀ i, i < O1'.length → s i ≠ n) ∧ O[n]? = some (.own a)) := by
    intro n a hn
    by_cases hx : ∃ i, i < O1'.length ∧ s i = n
    · obtain ⟨i, hi, rfl⟩ := hx
      rw [h1 i hi, Option.map_eq_some_iff] at hn
      obtain ⟨ob, q1, q2⟩ := hn
      cases ob with
      | dead => cases q2
      | live => cases q2
      | nil => cases q2
      | gho g => cases q2
      | own c => cases q2; exact .inl ⟨i, hi, rfl, q1⟩
    · have hno : ∀ i, i < O1'.length → s i ≠ n := fun i hi he => hx ⟨i, hi, he⟩
      have hlt : n < O.length := by
        have := (List.getElem?_eq_some_iff.1 hn).1
        rcases Nat.lt_or_ge n O.length with h' | h'
        · exact h'
        · exact absurd (hnew (O1.length + (n - O.length)) (by omega)) (fun he => hno (O1.length + (n - O.length)) (by omega) (by omega))
      rw [h2 n hlt (fun i hi => hno i (by omega))] at hn
      exact .inr ⟨hlt, hno, hn⟩
  have clsg : ∀ (n : Nat) (g : Gho), O''[n]? = some (.gho g) → (∃ i g', i < O1'.length ∧ s i = n ∧ O1'[i]? = some (.gho g') ∧ g = g'.ren s) ∨ (n < O.length ∧ (∀ i, i < O1'.length → s i ≠ n) ∧ O[n]? = some (.gho g)) := by
    intro n a hn
    by_cases hx : ∃ i, i < O1'.length ∧ s i = n
    · obtain ⟨i, hi, rfl⟩ := hx
      rw [h1 i hi, Option.map_eq_some_iff] at hn
      obtain ⟨ob, q1, q2⟩ := hn
      cases ob with
      | dead => cases q2
      | live => cases q2
      | nil => cases q2
      | own c => cases q2
      | gho g => cases q2; exact .inl ⟨i, g, hi, rfl, q1, rfl⟩
    · have hno : ∀ i, i < O1'.length → s i ≠ n := fun i hi he => hx ⟨i, hi, he⟩
      have hlt : n < O.length := by
        have := (List.getElem?_eq_some_iff.1 hn).1
        rcases Nat.lt_or_ge n O.length with h' | h'
        · exact h'
        · exact absurd (hnew (O1.length + (n - O.length)) (by omega)) (fun he => hno (O1.length + (n - O.length)) (by omega) (by omega))
      rw [h2 n hlt (fun i hi => hno i (by omega))] at hn
      exact .inr ⟨hlt, hno, hn⟩
  have ext : Ext I L O I' L'' O'' := by
    refine ⟨hgd.ext.imm, by omega, fun n hn e k xs hx => ?_, fun n hn e k hx => ?_, fun n hn a hx => ?_, fun n hn g hx => ?_⟩
    rotate_right
    · rcases clsg n g hx with ⟨i, g', hi', rfl, q1, rfl⟩ | ⟨hlt, hno, q1⟩
      · have him : i < O1.length := by
          rcases Nat.lt_or_ge i O1.length with h' | h'
          · exact h'
          · have := hnew i h'; omega
        obtain ⟨⟨b, hb, hk⟩, hv⟩ := hgd.ext.gho i him g' q1
        exact ⟨⟨_, gho1 hb, by rw [Gho.ren_mp, Gho.ren_mp]; exact hk⟩, by rw [hL1 i hi']; exact hv⟩
      · exact ⟨⟨g, q1, rfl⟩, by rw [hL2 n hno]⟩
    rotate_left 2
    · rcases clso n a hx with ⟨i, hi', rfl, q1⟩ | ⟨hlt, hno, q1⟩
      · have him : i < O1.length := by
          rcases Nat.lt_or_ge i O1.length with h' | h'
          · exact h'
          · have := hnew i h'; omega
        obtain ⟨⟨b, hb⟩, hv⟩ := hgd.ext.own i him a q1
        exact ⟨⟨b, own1 hb⟩, by rw [hL1 i hi']; exact hv⟩
      · exact ⟨⟨a, q1⟩, by rw [hL2 n hno]⟩
    rotate_left
    · by_cases hex : ∃ i, i < O1'.length ∧ s i = n
      · obtain ⟨i, hi', rfl⟩ := hex
        rw [h1 i hi', Option.map_eq_some_iff] at hx
        obtain ⟨ob, q1, q2⟩ := hx
        cases ob with
        | dead => cases q2
        | own a => cases q2
        | gho g => cases q2
        | live => cases q2
        | nil =>
          cases q2
          have him : i < O1.length := by
            rcases Nat.lt_or_ge i O1.length with h' | h'
            · exact h'
            · have := hnew i h'; omega
          rw [hg i him, hgd.ext.nil i him e k q1]; rfl
      · rwa [h2 n hn (fun i hi' he => hex ⟨i, by omega, he⟩)] at hx
    rcases cls n e k xs hx with ⟨i, ys, hi', rfl, q1, rfl⟩ | ⟨hlt, hno, q1⟩
    · have him : i < O1.length := by
        rcases Nat.lt_or_ge i O1.length with h' | h'
        · exact h'
        · have := hnew i h'; omega
      rcases hgd.ext.obj i him e k ys q1 with ⟨zs, z1, z2, z3⟩ | ⟨z1, z2⟩
      · refine .inl ⟨_, live1 z1, by simpa using z2, fun he => ?_⟩
        rw [hL1 i hi', z3 (by simpa using he)]
      · exact .inr ⟨by rw [hg i him, z1]; rfl, by simpa using z2⟩
    · exact .inl ⟨xs, q1, Nat.le_refl _, fun _ => hL2 n hno⟩
  have fwd : ∀ {a : AV} {x : Value}, R I' L1' O1' a x → R I' L'' O'' (a.ren s) x := fun hr => hr.ren hsl h1 hL1
  have how : Own I' L'' O'' w' := by
    have immo : ∀ {n : Nat} {a : AV}, O[n]? = some (.own a) → (∀ i, i < O1'.length → s i ≠ n) → ∀ {b o v}, (L n).mem b o = some v → ∀ o', I' b o' = none := by
      intro n a hn hno b o v hv o'
      obtain ⟨o1, o2⟩ := oldo hn hno hv
      cases hx : I' b o' with
      | none => rfl
      | some u =>
        rcases hgd.immNew _ _ _ hx with h' | h' | h'
        · rw [hi.ow.imm _ _ hn b o v hv] at h'; cases h'
        · exact (o1 h').elim
        · omega
    refine ⟨fun n a hn => ?_, fun n a hn b o v hv => ?_, fun n a hn b o v hv o' => ?_, fun n a hn b o v hv m e k xs hm hb => ?_, fun n m a c hn hm b o o' v v' hv hv' => ?_, fun n a hn => ?_⟩
    · rcases clso n a hn with ⟨i, hi', rfl, q1⟩ | ⟨hlt, hno, q1⟩
      · rw [hL1 i hi']; exact hgd.inv.ow.tree _ _ q1
      · rw [hL2 n hno]; exact hi.ow.tree _ _ q1
    · rcases clso n a hn with ⟨i, hi', rfl, q1⟩ | ⟨hlt, hno, q1⟩
      · rw [hL1 i hi'] at hv; exact hgd.inv.ow.cell _ _ q1 b o v hv
      · rw [hL2 n hno] at hv
        obtain ⟨o1, o2⟩ := oldo q1 hno hv
        rw [← hi.ow.cell _ _ q1 b o v hv]
        exact World.cell?_of_block (a := ⟨b, o, none⟩) (hgd.frm.block _ o2 o1)
    · rcases clso n a hn with ⟨i, hi', rfl, q1⟩ | ⟨hlt, hno, q1⟩
      · rw [hL1 i hi'] at hv; exact hgd.inv.ow.imm _ _ q1 b o v hv o'
      · rw [hL2 n hno] at hv; exact immo q1 hno hv o'
    · rcases clso n a hn with ⟨i, hi', rfl, q1⟩ | ⟨hlt, hno, q1⟩ <;> rcases cls m e k xs hm with ⟨i', ys', hi'', rfl, q1', rfl⟩ | ⟨hlt', hno', q1'⟩
      · rw [hL1 i' hi''] at hb
        rw [hL1 i hi'] at hv
        exact hgd.inv.ow.live _ _ q1 b o v hv _ _ _ _ q1' hb
      · rw [hL2 m hno'] at hb
        rw [hL1 i hi'] at hv
        obtain ⟨o1, o2⟩ := old q1' hno'
        rw [hb] at o1 o2
        rcases hgd.lb b (.inr (.inl ⟨i, a, o, v, q1, hv⟩)) with h' | h'
        · exact o1 h'
        · omega
      · rw [hL1 i' hi''] at hb
        rw [hL2 n hno] at hv
        obtain ⟨o1, o2⟩ := oldo q1 hno hv
        rcases hgd.lb b (.inl ⟨i', _, _, _, q1', hb⟩) with h' | h'
        · exact o1 h'
        · omega
      · rw [hL2 m hno'] at hb
        rw [hL2 n hno] at hv
        exact hi.ow.live _ _ q1 b o v hv _ _ _ _ q1' hb
    · rcases clso n a hn with ⟨i, hi', rfl, q1⟩ | ⟨hlt, hno, q1⟩ <;> rcases clso m c hm with ⟨i', hi'', rfl, q1'⟩ | ⟨hlt', hno', q1'⟩
      · rw [hL1 i hi'] at hv
        rw [hL1 i' hi''] at hv'
        rw [hgd.inv.ow.sep _ _ _ _ q1 q1' b o o' v v' hv hv']
      · rw [hL1 i hi'] at hv
        rw [hL2 m hno'] at hv'
        obtain ⟨o1, o2⟩ := oldo q1' hno' hv'
        rcases hgd.lb b (.inr (.inl ⟨i, a, o, v, q1, hv⟩)) with h' | h'
        · exact (o1 h').elim
        · omega
      · rw [hL2 n hno] at hv
        rw [hL1 i' hi''] at hv'
        obtain ⟨o1, o2⟩ := oldo q1 hno hv
        rcases hgd.lb b (.inr (.inl ⟨i', c, o', v', q1', hv'⟩)) with h' | h'
        · exact (o1 h').elim
        · omega
      · rw [hL2 n hno] at hv
        rw [hL2 m hno'] at hv'
        exact hi.ow.sep _ _ _ _ q1 q1' b o o' v v' hv hv'
    · rcases clso n a hn with ⟨i, hi', rfl, q1⟩ | ⟨hlt, hno, q1⟩
      · rw [hL1 i hi']; exact hgd.inv.ow.deep _ _ q1
      · rw [hL2 n hno]
        obtain ⟨S, p1, p2⟩ := hi.ow.deep _ _ q1
        refine ⟨S, p1.congr fun b hb => ?_, p2⟩
        obtain ⟨o, v, hv⟩ := (p2 b).1 hb
        obtain ⟨o1, o2⟩ := oldo q1 hno hv
        exact hgd.frm.block _ o2 o1
  have hgh : Gh I' L'' O'' w' := by
    refine ⟨fun n g hn => ?_, fun n m g g' hn hm hb => ?_⟩
    · rcases clsg n g hn with ⟨i, g0, hi', rfl, q1, rfl⟩ | ⟨hlt, hno, q1⟩
      · have q := hgd.inv.gh.ok _ _ q1
        rw [hL1 i hi']
        cases g0 with
        | it a b => exact q
        | mp es =>
          obtain ⟨en, c, p1, p2, p3⟩ := q
          refine ⟨en, c, p1, by simpa using p2, fun j k v hx => ?_⟩
          rw [List.getElem?_map, Option.map_eq_some_iff] at hx
          obtain ⟨z, hz, hze⟩ := hx
          cases hze
          obtain ⟨e, p4, p5, p6⟩ := p3 j z.1 z.2 hz
          exact ⟨e, p4, fwd p5, fwd p6⟩
      · obtain ⟨o1, o2⟩ := oldg q1 hno
        rw [hL2 n hno]
        exact (hi.gh.ok _ _ q1).mono rfl (fun _ _ hr => hr.mono ext) (hgd.frm.block _ o2 o1)
    · rcases clsg n g hn with ⟨i, g0, hi', rfl, q1, rfl⟩ | ⟨hlt, hno, q1⟩ <;> rcases clsg m g' hm with ⟨i', g0', hi'', rfl, q1', rfl⟩ | ⟨hlt', hno', q1'⟩
      · rw [hL1 i hi', hL1 i' hi''] at hb
        rw [hgd.inv.gh.sep _ _ _ _ q1 q1' hb]
      · rw [hL1 i hi', hL2 m hno'] at hb
        obtain ⟨o1, o2⟩ := oldg q1' hno'
        rcases hgd.lb _ (.inr (.inr ⟨i, _, q1, hb⟩)) with h' | h'
        · exact (o1 h').elim
        · omega
      · rw [hL1 i' hi'', hL2 n hno] at hb
        obtain ⟨o1, o2⟩ := oldg q1 hno
        rcases hgd.lb _ (.inr (.inr ⟨i', _, q1', hb.symm⟩)) with h' | h'
        · exact (o1 h').elim
        · omega
      · rw [hL2 n hno, hL2 m hno'] at hb
        exact hi.gh.sep _ _ _ _ q1 q1' hb
  refine ⟨y, I', L'', rfl, fwd hy, ⟨⟨hgd.inv.imm, fun n e k xs hn => ?_, fun n n' e k xs e' k' xs' hn hn' hb => ?_, fun n e k xs o hn => ?_, hgd.inv.fix, hgd.inv.blk, how, hgh⟩, ext, ⟨hgd.frm.os, hgd.frm.tape, hgd.frm.output, hgd.frm.size, fun b hb hno => hgd.frm.block b hb fun hc => hno (lb1 hc)⟩, ?_, fun b o x hx => ?_⟩⟩
  · rcases cls n e k xs hn with ⟨i, ys, hi', rfl, q1, rfl⟩ | ⟨hlt, hno, q1⟩
    · obtain ⟨c, ⟨m0z, q1, hm0z⟩, q2, q3, q4, q5, q6⟩ := hgd.inv.obj _ _ _ _ q1
      rw [hL1 i hi']
      refine ⟨c, ⟨m0z, q1, hm0z⟩, q2, by simpa using q3, q4, q5, fun j x hx => ?_⟩
      obtain ⟨z, hz, rfl⟩ := map_get hx
      rw [cells_ren]
      refine ⟨by rw [List.length_map]; exact (q6 j z hz).1, fun l a ha => ?_⟩
      obtain ⟨b, hb, rfl⟩ := map_get ha
      obtain ⟨v, hv, ho, hr'⟩ := (q6 j z hz).2 l b hb
      exact ⟨v, hv, ho, fwd hr'⟩
    · obtain ⟨o1, o2⟩ := old q1 hno
      rw [hL2 n hno]
      obtain ⟨c, ⟨m0z, q1, hm0z⟩, q2, q3, q4, q5, q6⟩ := hi.obj _ _ _ _ q1
      refine ⟨c, ⟨m0z, by rw [hgd.frm.block _ o2 o1]; exact q1, hm0z⟩, q2, q3, q4, q5, fun j x hx => ⟨(q6 j x hx).1, fun l a ha => ?_⟩⟩
      obtain ⟨v, hv, ho, hr'⟩ := (q6 j x hx).2 l a ha
      exact ⟨v, hv, ho, hr'.mono ext⟩
  · rcases cls n e k xs hn with ⟨i, ys, hi', rfl, q1, rfl⟩ | ⟨hlt, hno, q1⟩ <;> rcases cls n' e' k' xs' hn' with ⟨i', ys', hi'', rfl, q1', rfl⟩ | ⟨hlt', hno', q1'⟩
    · rw [hL1 i hi', hL1 i' hi''] at hb
      rw [hgd.inv.sep _ _ _ _ _ _ _ _ q1 q1' hb]
    · rw [hL1 i hi', hL2 n' hno'] at hb
      obtain ⟨o1, o2⟩ := old q1' hno'
      rcases hgd.lb _ (.inl ⟨i, _, _, _, q1, hb⟩) with h' | h'
      · exact (o1 h').elim
      · omega
    · rw [hL1 i' hi'', hL2 n hno] at hb
      obtain ⟨o1, o2⟩ := old q1 hno
      rcases hgd.lb _ (.inl ⟨i', _, _, _, q1', hb.symm⟩) with h' | h'
      · exact (o1 h').elim
      · omega
    · rw [hL2 n hno, hL2 n' hno'] at hb
      exact hi.sep _ _ _ _ _ _ _ _ q1 q1' hb
  · rcases cls n e k xs hn with ⟨i, ys, hi', rfl, q1, rfl⟩ | ⟨hlt, hno, q1⟩
    · rw [hL1 i hi']; exact hgd.inv.immSep _ _ _ _ o q1
    · rw [hL2 n hno]
      obtain ⟨o1, o2⟩ := old q1 hno
      cases hx : I' (L n).blk o with
      | none => rfl
      | some x =>
        rcases hgd.immNew _ _ _ hx with h' | h' | h'
        · rw [hi.immSep _ _ _ _ o q1] at h'; cases h'
        · exact (o1 h').elim
        · omega
  · rintro b (⟨n, e, k, xs, hn, hb⟩ | ⟨n, a, o, v, hn, hb⟩ | ⟨n, g, hn, hb⟩)
    rotate_right
    · rcases clsg n g hn with ⟨i, g', hi', rfl, q1, rfl⟩ | ⟨hlt, hno, q1⟩
      · rw [hL1 i hi'] at hb
        rcases hgd.lb b (.inr (.inr ⟨i, _, q1, hb⟩)) with h' | h'
        · exact .inl (lb1 h')
        · exact .inr h'
      · rw [hL2 n hno] at hb
        exact .inl (.inr (.inr ⟨n, _, q1, hb⟩))
    · rcases cls n e k xs hn with ⟨i, ys, hi', rfl, q1, rfl⟩ | ⟨hlt, hno, q1⟩
      · rw [hL1 i hi'] at hb
        rcases hgd.lb b (.inl ⟨i, _, _, _, q1, hb⟩) with h' | h'
        · exact .inl (lb1 h')
        · exact .inr h'
      · rw [hL2 n hno] at hb
        exact .inl (.inl ⟨n, _, _, _, q1, hb⟩)
    · rcases clso n a hn with ⟨i, hi', rfl, q1⟩ | ⟨hlt, hno, q1⟩
      · rw [hL1 i hi'] at hb
        rcases hgd.lb b (.inr (.inl ⟨i, a, o, v, q1, hb⟩)) with h' | h'
        · exact .inl (lb1 h')
        · exact .inr h'
      · rw [hL2 n hno] at hb
        exact .inl (.inr (.inl ⟨n, a, o, v, q1, hb⟩))
  · rcases hgd.immNew b o x hx with h' | h' | h'
    · exact .inl h'
    · exact .inr (.inl (lb1 h'))
    · exact .inr (.inr h')
/-- a call that makes objects, among whatever objects -/
theorem Con.fresh {P : Program} {f : FuncId} {args : List AV} {res : AV} {O1' : List AObj} (h : Con P f args [] res O1') (hn : AV.norefs args = true) (O : List AObj) :
    Con P f args O (res.ren fun n => O.length + n) (O ++ O1'.map (AObj.ren fun n => O.length + n)) := by
  have := h.frame (O := O) (O'' := O ++ O1'.map (AObj.ren fun n => O.length + n)) (fun n => O.length + n) (by simp) (by simp) (by simp) (by simp) (fun a ha => noref_scoped a (norefs_mem hn a ha)) (by simp) (by simp)
    (fun i hi => by rw [List.getElem?_append_right (by omega), List.getElem?_map, show O.length + i - O.length = i by omega]) (fun n hn _ => by rw [List.getElem?_append_left hn])
  rwa [← rens_eq, norefs_rens args hn] at this
theorem one_ren {n : Nat} {s : Nat → Nat} (h : s 0 = n) {a : AV} (ha : a.one = true) : a.ren s = a.ren fun _ => n := by
  cases a <;> simp only [AV.one] at ha
  case row m l => have : m = 0 := by simpa using ha
                  subst this; simp only [AV.ren, h]
  case ptr m l i f => have : m = 0 := by simpa using ha
                      subst this; simp only [AV.ren, h]
  case own m => have : m = 0 := by simpa using ha
                subst this; simp only [AV.ren, h]
  all_goals rw [noref_ren _ ha, noref_ren _ ha]
theorem one_scoped {a : AV} (ha : a.one = true) : a.inScope 1 = true := by
  cases a <;> simp only [AV.one] at ha
  case row m l => have : m = 0 := by simpa using ha
                  subst this; rfl
  case ptr m l i f => have : m = 0 := by simpa using ha
                      subst this; rfl
  case own m => have : m = 0 := by simpa using ha
                subst this; rfl
  all_goals exact noref_scoped _ ha
theorem obj_norefs_ren {s : Nat → Nat} {ob : AObj} (h : ob.norefs = true) : ob.ren s = ob := by
  cases ob <;> try rfl
  · simp only [AObj.norefs] at h
    simp only [AObj.ren]
    rw [← rens_eq, norefs_rens _ h]
  · rename_i g
    cases g with
    | it a b => rfl
    | mp es =>
      simp only [AObj.norefs, List.all_eq_true, Bool.and_eq_true] at h
      simp only [AObj.ren, Gho.ren]
      have : (es.map fun p => (p.1.ren s, p.2.ren s)) = es.map id := List.map_congr_left fun p hp => by
        obtain ⟨a, b⟩ := p
        have := h _ hp
        rw [noref_ren _ this.1, noref_ren _ this.2]; rfl
      rw [this, List.map_id]
theorem obj_norefs_scoped {k : Nat} {ob : AObj} (h : ob.norefs = true) : ob.inScope k = true := by
  cases ob <;> try rfl
  · exact norefs_scopeds _ h
  · rename_i g
    cases g with
    | it a b => rfl
    | mp es =>
      simp only [AObj.norefs, List.all_eq_true, Bool.and_eq_true] at h
      simp only [AObj.inScope, List.all_eq_true, Bool.and_eq_true]
      exact fun p hp => ⟨noref_scoped _ (h p hp).1, noref_scoped _ (h p hp).2⟩
/-- a call that reaches one object and makes none -/
theorem Con.one' {P : Program} {f : FuncId} {a0 : List AV} {res : AV} {ob ob' : AObj} (h : Con P f a0 [ob] res [ob']) (ha : a0.all AV.one = true) (hx : ob.norefs = true) (hy : ob'.norefs = true) (hr : res.noref = true)
    {O : List AObj} (k : Nat) (hk : O[k]? = some ob) : Con P f (a0.map (AV.ren fun _ => k)) O res (O.set k ob') := by
  have hlt : k < O.length := (List.getElem?_eq_some_iff.1 hk).1
  have := h.frame (O := O) (O'' := O.set k ob') (fun n => if n = 0 then k else O.length + (n - 1))
    (by intro i hi; simp at hi; subst hi; simpa using hlt) (by intro i hi; simp at hi; subst hi; simp [hk, obj_norefs_ren hx]) (by intro i j hi hj _; simp at hi hj; omega)
    (by intro i hi; simp at hi; simp; omega) (fun a h' => one_scoped (List.all_eq_true.1 ha a h')) (by intro b ho; simp at ho; subst ho; exact obj_norefs_scoped hx) (by simp)
    (by intro i hi; simp at hi; subst hi; simp [hlt, obj_norefs_ren hy]) (by intro n hn hno; have := hno 0 (by simp); simp at this; rw [List.getElem?_set_ne this])
  rw [noref_ren _ hr] at this
  have he : a0.map (AV.ren fun n => if n = 0 then k else O.length + (n - 1)) = a0.map (AV.ren fun _ => k) := List.map_congr_left fun a h' => one_ren (by simp) (List.all_eq_true.1 ha a h')
  rwa [he] at this
/- AN OBJECT GETS A NAME THAT WAS KEPT FOR IT -/
mutual
theorem scoped_of_cells {k : Nat} : ∀ (x : AV), (∀ c ∈ x.cells, c.inScope k = true) → x.inScope k = true
  | .agg cs, h => by simp only [AV.inScope]; exact scopeds_of cs h
  | .top, _ | .v _, _ | .nils, _ | .ifc, _ => rfl
  | .sl xs, h => h (.sl xs) (by simp [AV.cells])
  | .iptr x f, h => h (.iptr x f) (by simp [AV.cells])
  | .row n l, h => h (.row n l) (by simp [AV.cells])
  | .ptr n l i f, h => h (.ptr n l i f) (by simp [AV.cells])
  | .fn f cs, h => h (.fn f cs) (by simp [AV.cells])
  | .tup vs, h => h (.tup vs) (by simp [AV.cells])
  | .own x, h => h (.own x) (by simp [AV.cells])
theorem scopeds_of {k : Nat} : ∀ (xs : List AV), (∀ c ∈ xs, c.inScope k = true) → AV.scopeds k xs = true
  | [], _ => rfl
  | x :: xs, h => by simp only [AV.scopeds, h x (by simp), scopeds_of xs fun c hc => h c (by simp [hc])]; rfl
end
theorem R.inScope {I : Imm} {L : Nat → Loc} {O : List AObj} {a : AV} {x : Value} (hr : R I L O a x) : a.inScope O.length = true := by
  have ix : ∀ {xs : List AV} {vs : Array Value}, xs.length = vs.size → (∀ (i : Nat) c x, xs[i]? = some c → vs[i]? = some x → c.inScope O.length = true) → AV.scopeds O.length xs = true := by
    intro xs vs hl h
    refine scopeds_of xs fun c hc => ?_
    obtain ⟨i, hi⟩ := List.getElem?_of_mem hc
    have hlt := (List.getElem?_eq_some_iff.1 hi).1
    exact h i c _ hi (by rw [Array.getElem?_eq_getElem (show i < vs.size by omega)])
  induction hr with
  | top x => rfl
  | v x _ => rfl
  | nils => rfl
  | ifc => rfl
  | sl0 a cap => rfl
  | sl xs blk off cap s vals h1 h2 h3 h4 _ ih =>
    refine scopeds_of xs fun x hx => scoped_of_cells x fun c hc => ?_
    obtain ⟨i, hi⟩ := List.getElem?_of_mem hx
    obtain ⟨j, hj⟩ := List.getElem?_of_mem hc
    exact ih i x j c hi hj
  | iptr x f blk base vals h1 _ ih =>
    refine scoped_of_cells x fun c hc => ?_
    obtain ⟨j, hj⟩ := List.getElem?_of_mem hc
    exact ih j c hj
  | rowLive n len e s xs hn hl => exact decide_eq_true (List.getElem?_eq_some_iff.1 hn).1
  | rowNil n e s hn => exact decide_eq_true (List.getElem?_eq_some_iff.1 hn).1
  | rowDead n len x hn => exact decide_eq_true hn
  | ptrLive n len i f e s xs hn hl => exact decide_eq_true (List.getElem?_eq_some_iff.1 hn).1
  | ptrDead n len i f x hn => exact decide_eq_true hn
  | fn f caps vs h1 _ ih => exact ix h1 ih
  | agg cs vs h1 _ ih => exact ix h1 ih
  | tup cs vs h1 _ ih => exact ix h1 ih
  | ownLive n a hn => exact decide_eq_true (List.getElem?_eq_some_iff.1 hn).1
  | ownGho n a hn => exact decide_eq_true (List.getElem?_eq_some_iff.1 hn).1
  | ownDead n x hn => exact decide_eq_true hn
section
variable {I I' : Imm} {L L' : Nat → Loc} {O : List AObj} {w w' : World} {t s k : Nat} {xs : List AV}
def moveL (L : Nat → Loc) (k N : Nat) : Nat → Loc := fun n => if n = k then L N else L n
theorem R.move (hk : O[k]? = some (.nil t s)) (hne : xs ≠ []) {a : AV} {x : Value} (hr : R I' L' (O ++ [.live t s xs]) a x) (h : a.inScope O.length = true) : R I' (moveL L' k O.length) (O.set k (.live t s xs)) a x := by
  have hkl := (List.getElem?_eq_some_iff.1 hk).1
  have old : ∀ {n : Nat}, n < O.length → (O ++ [AObj.live t s xs])[n]? = O[n]? := fun {n} hn => List.getElem?_append_left hn
  have oth : ∀ {n : Nat}, n ≠ k → (O.set k (.live t s xs))[n]? = O[n]? := fun {n} hn => List.getElem?_set_ne (fun he => hn he.symm)
  have self : (O.set k (.live t s xs))[k]? = some (.live t s xs) := List.getElem?_set_self hkl
  have hL : ∀ {n : Nat}, n ≠ k → moveL L' k O.length n = L' n := fun {n} hn => if_neg hn
  induction hr with
  | top x => exact .top x
  | v x hx => exact .v x hx
  | nils => exact .nils
  | ifc t x => exact .ifc t x
  | sl0 a cap => exact .sl0 a cap
  | sl xs blk off cap s vals h1 h2 h3 h4 _ ih =>
    refine .sl xs blk off cap s vals h1 h2 h3 h4 fun i x j c hi hj => ih i x j c hi hj ?_
    exact scoped_cells (scopeds_mem (by simpa [AV.inScope] using h) x (List.mem_of_getElem? hi)) c (List.mem_of_getElem? hj)
  | iptr x f blk base vals h1 _ ih =>
    refine .iptr x f blk base vals h1 fun j c hj => ih j c hj ?_
    exact scoped_cells (by simpa [AV.inScope] using h) c (List.mem_of_getElem? hj)
  | rowLive n len e s' ys hn hl =>
    have hlt : n < O.length := by simpa [AV.inScope] using h
    rw [old hlt] at hn
    have hne : n ≠ k := by rintro rfl; rw [hk] at hn; cases hn
    rw [← hL hne]
    exact .rowLive n len e s' ys (by rw [oth hne]; exact hn) hl
  | rowNil n e s' hn =>
    have hlt : n < O.length := by simpa [AV.inScope] using h
    rw [old hlt] at hn
    by_cases hnk : n = k
    · subst hnk
      exact .rowDead n 0 _ (by simpa using hlt) (fun e s he => by rw [self] at he; cases he) (fun e s ys hy => by rw [self] at hy; cases hy; exact List.length_pos_iff.2 hne) rfl
    · exact .rowNil n e s' (by rw [oth hnk]; exact hn)
  | rowDead n len x hlt' hnn hs hx =>
    have hlt : n < O.length := by simpa [AV.inScope] using h
    have hnk : n ≠ k := by rintro rfl; exact hnn t s (by rw [old hlt]; exact hk)
    exact .rowDead n len x (by simpa using hlt) (fun e s' he => hnn e s' (by rw [old hlt]; rwa [oth hnk] at he)) (fun e s' ys hy => hs e s' ys (by rw [old hlt]; rwa [oth hnk] at hy)) hx
  | ptrLive n len i f e s' ys hn hl =>
    have hlt : n < O.length := by simpa [AV.inScope] using h
    rw [old hlt] at hn
    have hne : n ≠ k := by rintro rfl; rw [hk] at hn; cases hn
    rw [← hL hne]
    exact .ptrLive n len i f e s' ys (by rw [oth hne]; exact hn) hl
  | ptrDead n len i f x hlt' hnn hs hx =>
    have hlt : n < O.length := by simpa [AV.inScope] using h
    have hnk : n ≠ k := by rintro rfl; exact hnn t s (by rw [old hlt]; exact hk)
    exact .ptrDead n len i f x (by simpa using hlt) (fun e s' he => hnn e s' (by rw [old hlt]; rwa [oth hnk] at he)) (fun e s' ys hy => hs e s' ys (by rw [old hlt]; rwa [oth hnk] at hy)) hx
  | fn f caps vs h1 _ ih => exact .fn f caps vs h1 fun i c x hi hx => ih i c x hi hx (scopeds_mem (by simpa [AV.inScope] using h) c (List.mem_of_getElem? hi))
  | agg cs vs h1 _ ih => exact .agg cs vs h1 fun i c x hi hx => ih i c x hi hx (scopeds_mem (by simpa [AV.inScope] using h) c (List.mem_of_getElem? hi))
  | tup cs vs h1 _ ih => exact .tup cs vs h1 fun i c x hi hx => ih i c x hi hx (scopeds_mem (by simpa [AV.inScope] using h) c (List.mem_of_getElem? hi))
  | ownLive n a hn h1 =>
    have hlt : n < O.length := by simpa [AV.inScope] using h
    rw [old hlt] at hn
    have hne : n ≠ k := by rintro rfl; rw [hk] at hn; cases hn
    rw [← hL hne] at h1 ⊢
    exact .ownLive n a (by rw [oth hne]; exact hn) h1
  | ownGho n a hn =>
    have hlt : n < O.length := by simpa [AV.inScope] using h
    rw [old hlt] at hn
    have hne : n ≠ k := by rintro rfl; rw [hk] at hn; cases hn
    rw [← hL hne]
    exact .ownGho n a (by rw [oth hne]; exact hn)
  | ownDead n x hlt' hno hng h1 =>
    have hlt : n < O.length := by simpa [AV.inScope] using h
    refine .ownDead n x (by simpa using hlt) (fun a ha => ?_) (fun a ha => ?_) h1
    · by_cases hnk : n = k
      · subst hnk; rw [self] at ha; cases ha
      · exact hno a (by rw [old hlt]; rwa [oth hnk] at ha)
    · by_cases hnk : n = k
      · subst hnk; rw [self] at ha; cases ha
      · exact hng a (by rw [old hlt]; rwa [oth hnk] at ha)
theorem Good.move (hi : Inv I L O w) (hk : O[k]? = some (.nil t s)) (hne : xs ≠ []) (hsc : ∀ x ∈ xs, ∀ c ∈ x.cells, c.inScope O.length = true) (hg : Good I L O w I' L' (O ++ [.live t s xs]) w') :
    Good I L O w I' (moveL L' k O.length) (O.set k (.live t s xs)) w' := by
  have hkl := (List.getElem?_eq_some_iff.1 hk).1
  have old : ∀ {n : Nat}, n < O.length → (O ++ [AObj.live t s xs])[n]? = O[n]? := fun {n} hn => List.getElem?_append_left hn
  have oth : ∀ {n : Nat}, n ≠ k → (O.set k (.live t s xs))[n]? = O[n]? := fun {n} hn => List.getElem?_set_ne (fun he => hn he.symm)
  have self : (O.set k (.live t s xs))[k]? = some (.live t s xs) := List.getElem?_set_self hkl
  have hnew : (O ++ [AObj.live t s xs])[O.length]? = some (.live t s xs) := by simp
  -- where an object was
  have src : ∀ {n e k' ys}, (O.set k (.live t s xs))[n]? = some (.live e k' ys) → ∃ m, (O ++ [AObj.live t s xs])[m]? = some (.live e k' ys) ∧ moveL L' k O.length n = L' m ∧ (∀ x ∈ ys, ∀ c ∈ x.cells, c.inScope O.length = true) ∧ ((n = k ∧ m = O.length) ∨ (n ≠ k ∧ m = n ∧ n < O.length)) := by
    intro n e k' ys hn
    by_cases hnk : n = k
    · subst hnk
      rw [self] at hn
      cases hn
      exact ⟨O.length, hnew, if_pos rfl, hsc, .inl ⟨rfl, rfl⟩⟩
    · rw [oth hnk] at hn
      have hlt := (List.getElem?_eq_some_iff.1 hn).1
      refine ⟨n, by rw [old hlt]; exact hn, if_neg hnk, fun x hx c hc => ?_, .inr ⟨hnk, rfl, hlt⟩⟩
      obtain ⟨_, ⟨m0z, _, hm0z⟩, _, _, _, _, q⟩ := hi.obj n e k' ys hn
      obtain ⟨i, hix⟩ := List.getElem?_of_mem hx
      obtain ⟨j, hjc⟩ := List.getElem?_of_mem hc
      obtain ⟨_, _, _, hr⟩ := (q i x hix).2 j c hjc
      exact hr.inScope
  have srco : ∀ {n : Nat} {a : AV}, (O.set k (.live t s xs))[n]? = some (.own a) → (O ++ [AObj.live t s xs])[n]? = some (.own a) ∧ moveL L' k O.length n = L' n := by
    intro n a hn
    by_cases hnk : n = k
    · subst hnk
      rw [self] at hn; cases hn
    · rw [oth hnk] at hn
      rw [old (List.getElem?_eq_some_iff.1 hn).1]; exact ⟨hn, if_neg hnk⟩
  have srcg : ∀ {n : Nat} {a : Gho}, (O.set k (.live t s xs))[n]? = some (.gho a) → (O ++ [AObj.live t s xs])[n]? = some (.gho a) ∧ moveL L' k O.length n = L' n ∧ O[n]? = some (.gho a) := by
    intro n a hn
    by_cases hnk : n = k
    · subst hnk
      rw [self] at hn; cases hn
    · rw [oth hnk] at hn
      rw [old (List.getElem?_eq_some_iff.1 hn).1]; exact ⟨hn, if_neg hnk, hn⟩
  have hgh : Gh I' (moveL L' k O.length) (O.set k (.live t s xs)) w' := by
    refine ⟨fun n g hn => ?_, fun n m g g' hn hm hb => ?_⟩
    · obtain ⟨q1, q2, q3⟩ := srcg hn
      have h1 := hg.inv.gh.ok n g q1
      have h2 := hi.gh.ok n g q3
      rw [q2]
      cases g with
      | it a b => exact h1
      | mp es =>
        obtain ⟨en, c, r1, r2, r3⟩ := h1
        obtain ⟨en0, c0, s1, s2, s3⟩ := h2
        refine ⟨en, c, r1, r2, fun i a v hx => ?_⟩
        obtain ⟨e, r4, r5, r6⟩ := r3 i a v hx
        obtain ⟨e0, s4, s5, s6⟩ := s3 i a v hx
        exact ⟨e, r4, r5.move hk hne s5.inScope, r6.move hk hne s6.inScope⟩
    · obtain ⟨q1, q2, _⟩ := srcg hn
      obtain ⟨p1, p2, _⟩ := srcg hm
      rw [q2, p2] at hb
      exact hg.inv.gh.sep _ _ _ _ q1 p1 hb
  refine ⟨⟨hg.inv.imm, fun n e k' ys hn => ?_, fun n m e k' ys e' k'' ys' hn hm hb => ?_, fun n e k' ys o hn => ?_, hg.inv.fix, hg.inv.blk, hg.inv.ow.same (fun n a hn => srco hn) (fun b o v hv => .inl ⟨o, v, hv⟩) (fun m e k' ys hm => by obtain ⟨m1, h1, h2, _⟩ := src hm; rw [h2]; exact .inl ⟨m1, _, _, _, h1, rfl⟩) rfl, hgh⟩, ⟨hg.ext.imm, by simp, fun n hn e k' ys hx => ?_, fun n hn e k' hx => ?_, fun n hn a hx => by obtain ⟨q1, q2⟩ := srco hx; rw [q2]; exact hg.ext.own n hn a q1, fun n hn a hx => by obtain ⟨q1, q2, _⟩ := srcg hx; rw [q2]; exact hg.ext.gho n hn a q1⟩, hg.frm, ?_, hg.immNew⟩
  · obtain ⟨m, h1, h2, h3, _⟩ := src hn
    rw [h2]
    obtain ⟨c, ⟨m0z, q1, hm0z⟩, q2, q3, q4, q5, q6⟩ := hg.inv.obj m e k' ys h1
    refine ⟨c, ⟨m0z, q1, hm0z⟩, q2, q3, q4, q5, fun i x hx => ⟨(q6 i x hx).1, fun j a ha => ?_⟩⟩
    obtain ⟨y, hy, ho, hr⟩ := (q6 i x hx).2 j a ha
    exact ⟨y, hy, ho, hr.move hk hne (h3 x (List.mem_of_getElem? hx) a (List.mem_of_getElem? ha))⟩
  · obtain ⟨m1, h1, h2, _, h4⟩ := src hn
    obtain ⟨m2, k1, k2, _, k4⟩ := src hm
    rw [h2, k2] at hb
    have := hg.inv.sep m1 m2 _ _ _ _ _ _ h1 k1 hb
    rcases h4 with ⟨a1, a2⟩ | ⟨a1, a2, a3⟩ <;> rcases k4 with ⟨b1, b2⟩ | ⟨b1, b2, b3⟩ <;> omega
  · obtain ⟨m, h1, h2, _⟩ := src hn
    rw [h2]; exact hg.inv.immSep m e k' ys o h1
  · by_cases hnk : n = k
    · subst hnk
      rw [self] at hx
      cases hx
      exact .inr ⟨hk, hne⟩
    · rw [oth hnk] at hx
      rcases hg.ext.obj n hn e k' ys (by rw [old hn]; exact hx) with ⟨zs, z1, z2, z3⟩ | h
      · exact .inl ⟨zs, z1, z2, fun he => by rw [show moveL L' k O.length n = L' n from if_neg hnk]; exact z3 he⟩
      · exact .inr h
  · by_cases hnk : n = k
    · subst hnk
      rw [self] at hx; cases hx
    · rwa [oth hnk] at hx
  · rintro b (⟨n, e, k', ys, hn, hb⟩ | ⟨n, a, o, v, hn, hb⟩ | ⟨n, a, hn, hb⟩)
    rotate_right
    · obtain ⟨q1, q2, _⟩ := srcg hn
      rw [q2] at hb
      exact hg.lb b (.inr (.inr ⟨n, a, q1, hb⟩))
    · obtain ⟨m, h1, h2, _⟩ := src hn
      rw [h2] at hb
      exact hg.lb b (.inl ⟨m, e, k', ys, h1, hb⟩)
    · obtain ⟨q1, q2⟩ := srco hn
      rw [q2] at hb
      exact hg.lb b (.inr (.inl ⟨n, a, o, v, q1, hb⟩))
end
end Go.Ab
/-
  ONE OPERATION IN THE MODEL's WALK.
-/
namespace Go.Ab
def AOp.strip : AOp → AOp
  | .pcall f args => .call f args
  | .pcallv x args => .callv x args
  | .qcall f args => .call f args
  | .qcallv x args => .callv x args
  | .rcall f args => .call f args
  | .fcall _ _ _ f args => .call f args
  | .scall _ f args => .call f args
  | .scall1 _ f args => .call f args
  | .lcall _ f args => .call f args
  | .kcall _ f args => .call f args
  | .allocAt _ t s z => .alloc t s z
  | .boxAt _ t s x => .box t s x
  | .buildAt _ t s l z ps => .buildSlice t s l z ps
  | .buildF t s l z ps => .buildSlice t s l z ps
  | .cut s x l h => .sliceL s x l h
  | .pnil neg x => .pu (.isNilP neg) [x]
  | .mkF e s b z l c => .mk e s b z l c
  | .mkAt _ e s b z l c => .mk e s b z l c
  | o => o
section
variable {P : Program} {I : Imm} {L : Nat → Loc} {O : List AObj} {w : World} {K : AV → List AObj → Prop} {e : Env} {a : Act}
theorem Ran.wp {o : Oper} (h : Ran P I L O w (execOp a.eval o) K) {next : Act → World → Prop} {Q : Exit → Act → World → Prop}
    (hn : ∀ x O' y I' L' w', K x O' → Good I L O w I' L' O' w' → R I' L' O' x y → next (a.put o.dst y) w') : o.wp P a w next Q := by
  obtain ⟨x, O', y, I', L', w', hk, hg, hr, h | ⟨h, rfl⟩⟩ := h
  · unfold Oper.wp; rw [h]; exact hn _ _ _ _ _ _ hk hg hr
  · unfold Oper.wp; rw [h]; exact hn _ _ _ _ _ _ hk hg hr
theorem call_wp {o : Oper} {f : FuncId} {vs : Array Value} {next : Act → World → Prop} {Q : Exit → Act → World → Prop} {M : Value → World → Prop}
    (hrun : (execOp a.eval o).run P w = .ok (.enter f vs) w) (hc : Calls P f vs w fun e w' => ∃ y, e = .returned y ∧ M y w') (hn : ∀ y w', M y w' → next (a.put o.dst y) w') : o.wp P a w next Q := by
  unfold Oper.wp
  rw [hrun]
  show Calls P f vs w _
  refine hc.mono fun e w' ⟨y, he, hm⟩ => ?_
  subst he
  exact hn y w' hm
theorem run_callFunc {f : FuncId} (h : Enters P f) (vs : Array Value) (w : World) : (callFunc f vs).run P w = .ok (.enter f vs) w := by
  obtain ⟨fn, h1, h2, h3⟩ := h
  obtain ⟨b, hb⟩ := Option.isSome_iff_exists.1 h2
  have h4 : ¬ fn.name = "runtime.NumGoroutine" := by simpa using h3
  simp [callFunc, h1, h4, hb]
theorem run_callOp {c : Call} {fv : Operand} (hcal : c.callee = .value fv) {f : FuncId} {caps : Array Value} (hfv : a.eval fv = .func (.func f) #[] caps) (he : Enters P f) {d : Option Tmp} {ty : TypeId} {pos : String} {af : Array Edge} {g : Option (Nat × Bool)} :
    (execOp a.eval ⟨d, .call c, ty, pos, af, g⟩).run P w = .ok (.enter f (c.args.map a.eval ++ caps)) w := by
  simp only [execOp, resolve, hcal, hfv, Deferred.ofValue]
  simp [invoke, run_callFunc he]
def AOp.isAt : AOp → Bool
  | .allocAt _ _ _ _ | .boxAt _ _ _ _ | .buildAt _ _ _ _ _ _ | .cut _ _ _ _ | .pnil _ _ | .mkF _ _ _ _ _ _ | .mkAt _ _ _ _ _ _ _ => true
  | _ => false
theorem strip_eq {ao b : AOp} (ha : ao.isAt = false) (h : b = ao.strip) (hb : b.isCall = false) (hs : ∀ t s l z ps, b ≠ .buildSlice t s l z ps) : ao = b := by
  subst h
  cases ao <;> first | rfl | (simp [AOp.strip, AOp.isCall] at hb; done) | (simp [AOp.isAt] at ha; done) | (exact (hs _ _ _ _ _ rfl).elim)
theorem op1_ran {d : Option Tmp} {op : Op} {ty : TypeId} {pos : String} {af : Array Edge} {g : Option (Nat × Bool)} {ao : AOp} (hc : cOp1 P ty op = some ao) (hi : Inv I L O w) (he : ∀ t, R I L O (e t) (a.tmps.getD t undef)) (hk : wpOp P ao e O K) :
    Ran P I L O w (execOp a.eval ⟨d, op, ty, pos, af, g⟩) K := by
  cases op
  case move => exact ran_mov hi he hc hk
  case assign => exact ran_assign hi he hc hk
  case pick => exact ran_pick hi he hc hk
  case alloc => exact ran_alloc hi hc hk
  case box => exact ran_box hi he hc hk
  case build => exact ran_build hi he hc hk
  case buildSlice => exact ran_buildSlice hi he hc hk
  case load => exact ran_load hi he hc hk
  case store => exact ran_store hi he hc hk
  case nilCheck => exact ran_nilc hi he hc hk
  case binOp => exact ran_bin hi he hc hk
  case unOp => exact ran_un hi he hc hk
  case convert => exact ran_convert hi he hc hk
  case fieldAddr => exact ran_faddr hi he hc hk
  case field => exact ran_fld hi he hc hk
  case indexAddr => exact ran_iaddr hi he hc hk
  case index => exact ran_index hi he hc hk
  case slice => exact ran_slice hi he hc hk
  case makeSlice => exact ran_makeSlice hi he hc hk
  case extract => exact ran_ext hi he hc hk
  case makeMap => exact ran_mkmap hi hc hk
  case lookup => exact ran_mget hi he hc hk
  case mapUpdate => exact ran_mset hi he hc hk
  case insert => exact ran_insert hi he hc hk
  case range => exact ran_strit hi he hc hk
  case next => exact ran_snext hi he hc hk
  case makeFunc => exact ran_mkfn hi he hc hk
  all_goals cases hc
theorem aft_nil (O : List AObj) (res : AV) : aft O [] res = O := by simp [aft]
theorem callop_sound {c : Call} {ao : AOp} {d : Option Tmp} {ty : TypeId} {pos : String} {af : Array Edge} {g : Option (Nat × Bool)} (hc : cCall P c = some ao.strip) (hi : Inv I L O w) (he : ∀ t, R I L O (e t) (a.tmps.getD t undef)) (hk : wpOp P ao e O K) {next : Act → World → Prop} {Q : Exit → Act → World → Prop}
    (hn : ∀ x O' y I' L' w', K x O' → Good I L O w I' L' O' w' → R I' L' O' x y → next (a.put d y) w') : Oper.wp P ⟨d, .call c, ty, pos, af, g⟩ a w next Q := by
  unfold cCall at hc
  split at hc
  · rename_i fv hcal
    have hrl : ∀ {args}, cOpds c.args = some args → RL I L O (args.map (Opd.ev e)) (c.args.map a.eval) := by
      intro args h
      have := cOpds_sound (I := I) (L := L) (O := O) (e := e) (a := a) h he
      have h2 : (List.map a.eval c.args.toList).toArray = Array.map a.eval c.args := by apply Array.ext'; simp
      rwa [h2] at this
    split at hc
    · rename_i f args hf hargs
      have rf := cOpd_sound hf he
      have hv : a.eval fv = .func (.func f) #[] #[] := by
        generalize a.eval fv = X at rf
        cases rf with
        | fn _ _ vs h1 h2 => congr 1; exact (Array.eq_empty_of_size_eq_zero h1.symm)
      have hra := hrl hargs
      simp only [Option.some.injEq] at hc
      cases ao <;> simp only [AOp.strip] at hc <;> first | (cases hc; done) | skip
      case call f' args' =>
        cases hc
        obtain ⟨res, O', hcon, hk⟩ := hk
        refine call_wp (a := a) (run_callOp hcal hv hcon.1) (M := fun y w' => ∃ I' L', R I' L' O' res y ∧ Good I L O w I' L' O' w') ?_ fun y w' ⟨I', L', h1, h2⟩ => hn _ _ _ _ _ _ hk h2 h1
        refine (hcon.2 I L w _ hi (by simpa using hra)).mono ?_
        rintro e' w' ⟨y, I', L', rfl, h1, h2⟩
        exact ⟨y, rfl, I', L', h1, h2⟩
      case pcall f' args' =>
        cases hc
        obtain ⟨res, hnr, hcon, hk⟩ := hk
        have := pcall_sound (as := args.map (Opd.ev e)) (caps := []) (vs := c.args.map a.eval) hi (by simpa using hra) (by simpa [Function.comp_def] using hnr) (by simpa [Function.comp_def] using hcon)
        refine call_wp (a := a) (run_callOp hcal hv hcon.1) (M := fun y w' => ∃ I' L', R I' L' (aft O (args.map (Opd.ev e)) res) res y ∧ Good I L O w I' L' (aft O (args.map (Opd.ev e)) res) w') ?_ fun y w' ⟨I', L', h1, h2⟩ => hn _ _ _ _ _ _ hk h2 h1
        simp only [Array.append_empty]
        refine this.mono ?_
        rintro e' w' ⟨y, I', L', rfl, h1, h2⟩
        exact ⟨y, rfl, I', L', h1, h2⟩
      case qcall f' args' =>
        cases hc
        obtain ⟨res, hnr, hcon, hk⟩ := hk
        have := pcall_sound (as := []) (caps := args.map (Opd.ev e)) (vs := c.args.map a.eval) hi (by simpa using hra) (by simpa using hnr) (by simpa using hcon)
        rw [aft_nil] at this
        refine call_wp (a := a) (run_callOp hcal hv hcon.1) (M := fun y w' => ∃ I' L', R I' L' O res y ∧ Good I L O w I' L' O w') ?_ fun y w' ⟨I', L', h1, h2⟩ => hn _ _ _ _ _ _ hk h2 h1
        simp only [Array.append_empty]
        refine this.mono ?_
        rintro e' w' ⟨y, I', L', rfl, h1, h2⟩
        exact ⟨y, rfl, I', L', h1, h2⟩
      case scall gs f' args' =>
        cases hc
        obtain ⟨res, O', hcon, hk⟩ := hk
        refine call_wp (a := a) (run_callOp hcal hv hcon.1) (M := fun y w' => ∃ I' L', R I' L' O' res y ∧ Good I L O w I' L' O' w') ?_ fun y w' ⟨I', L', h1, h2⟩ => hn _ _ _ _ _ _ hk h2 h1
        refine (hcon.2 I L w _ hi (by simpa using hra)).mono ?_
        rintro e' w' ⟨y, I', L', rfl, h1, h2⟩
        exact ⟨y, rfl, I', L', h1, h2⟩
      case scall1 gs f' args' =>
        cases hc
        obtain ⟨n, a0, ob, res, ob', q1, q2, q3, q4, q5, q6, q7, q8, hk⟩ := hk
        have hcon := q8.one' q2 q5 q7 q6 n q4
        rw [← q1] at hcon
        refine call_wp (a := a) (run_callOp hcal hv hcon.1) (M := fun y w' => ∃ I' L', R I' L' (O.set n ob') res y ∧ Good I L O w I' L' (O.set n ob') w') ?_ fun y w' ⟨I', L', h1, h2⟩ => hn _ _ _ _ _ _ hk h2 h1
        refine (hcon.2 I L w _ hi (by simpa using hra)).mono ?_
        rintro e' w' ⟨y, I', L', rfl, h1, h2⟩
        exact ⟨y, rfl, I', L', h1, h2⟩
      case lcall rd' f' args' =>
        cases hc
        obtain ⟨res, ob, hcon0, hk⟩ := hk
        have hcon := hcon0 O rfl fun _ _ => rfl
        refine call_wp (a := a) (run_callOp hcal hv hcon.1) (M := fun y w' => ∃ I' L', R I' L' (O ++ [ob]) res y ∧ Good I L O w I' L' (O ++ [ob]) w') ?_ fun y w' ⟨I', L', h1, h2⟩ => hn _ _ _ _ _ _ hk h2 h1
        refine (hcon.2 I L w _ hi (by simpa using hra)).mono ?_
        rintro e' w' ⟨y, I', L', rfl, h1, h2⟩
        exact ⟨y, rfl, I', L', h1, h2⟩
      case kcall rd' f' args' =>
        cases hc
        obtain ⟨res, hcon0, hk⟩ := hk
        have hcon := hcon0 O fun _ _ => rfl
        refine call_wp (a := a) (run_callOp hcal hv hcon.1) (M := fun y w' => ∃ I' L', R I' L' O res y ∧ Good I L O w I' L' O w') ?_ fun y w' ⟨I', L', h1, h2⟩ => hn _ _ _ _ _ _ hk h2 h1
        refine (hcon.2 I L w _ hi (by simpa using hra)).mono ?_
        rintro e' w' ⟨y, I', L', rfl, h1, h2⟩
        exact ⟨y, rfl, I', L', h1, h2⟩
      case fcall nl' t' s' f' args' =>
        cases hc
        obtain ⟨res, ob, hno, hcon0, hk⟩ := hk
        have hcon := hcon0.fresh hno O
        refine call_wp (a := a) (run_callOp hcal hv hcon.1) (M := fun y w' => ∃ I' L', R I' L' (O ++ [ob.ren fun n => O.length + n]) (res.ren fun n => O.length + n) y ∧ Good I L O w I' L' (O ++ [ob.ren fun n => O.length + n]) w') ?_ fun y w' ⟨I', L', h1, h2⟩ => hn _ _ _ _ _ _ hk h2 h1
        refine (hcon.2 I L w _ hi (by simpa using hra)).mono ?_
        rintro e' w' ⟨y, I', L', rfl, h1, h2⟩
        exact ⟨y, rfl, I', L', h1, h2⟩
      case rcall f' args' =>
        cases hc
        obtain ⟨res, hfl, hnr, hcon, hk⟩ := hk
        have haft : aft O (args.map (Opd.ev e)) res = O := if_pos hfl
        have := pcall_sound (as := args.map (Opd.ev e)) (caps := []) (vs := c.args.map a.eval) hi (by simpa using hra) (by simpa [Function.comp_def] using hnr) (by simpa [Function.comp_def] using hcon)
        rw [haft] at this
        refine call_wp (a := a) (run_callOp hcal hv hcon.1) (M := fun y w' => ∃ I' L', R I' L' O res y ∧ Good I L O w I' L' O w') ?_ fun y w' ⟨I', L', h1, h2⟩ => hn _ _ _ _ _ _ hk h2 h1
        simp only [Array.append_empty]
        refine this.mono ?_
        rintro e' w' ⟨y, I', L', rfl, h1, h2⟩
        exact ⟨y, rfl, I', L', h1, h2⟩
    · rename_i x args hne hf hargs
      have rf := cOpd_sound hf he
      have hra := hrl hargs
      simp only [Option.some.injEq] at hc
      cases ao <;> simp only [AOp.strip] at hc <;> first | (cases hc; done) | skip
      case callv x' args' =>
        cases hc
        simp only [wpOp] at hk
        generalize hA : x.ev e = A at rf hk
        cases A <;> simp only at hk
        rename_i f caps
        obtain ⟨res, O', hcon, hk⟩ := hk
        generalize hX : a.eval fv = X at rf
        cases rf with
        | fn _ _ vs h1 h2 =>
          refine call_wp (a := a) (run_callOp hcal hX hcon.1) (M := fun y w' => ∃ I' L', R I' L' O' res y ∧ Good I L O w I' L' O' w') ?_ fun y w' ⟨I', L', h1, h2⟩ => hn _ _ _ _ _ _ hk h2 h1
          refine (hcon.2 I L w _ hi ?_).mono ?_
          · refine ⟨by simp only [List.length_append, Array.size_append, h1, hra.1], fun i b y hb hy => ?_⟩
            by_cases hlt : i < (args.map (Opd.ev e)).length
            · rw [List.getElem?_append_left hlt] at hb
              rw [Array.getElem?_append_left (by rw [← hra.1]; exact hlt)] at hy
              exact hra.2 i b y hb hy
            · rw [List.getElem?_append_right (by omega)] at hb
              rw [Array.getElem?_append_right (by rw [← hra.1]; omega), ← hra.1] at hy
              exact h2 _ b y hb hy
          · rintro e' w' ⟨y, I', L', rfl, h1, h2⟩
            exact ⟨y, rfl, I', L', h1, h2⟩
      case pcallv x' args' =>
        cases hc
        simp only [wpOp] at hk
        generalize hA : x.ev e = A at rf hk
        cases A <;> simp only at hk
        rename_i f caps
        obtain ⟨res, hnr, hcon, hk⟩ := hk
        generalize hX : a.eval fv = X at rf
        cases rf with
        | fn _ _ vs h1 h2 =>
          have := pcall_sound (as := args.map (Opd.ev e)) (caps := caps) (vs := c.args.map a.eval ++ vs) hi (by
            refine ⟨by simp only [List.length_append, Array.size_append, h1, hra.1], fun i b y hb hy => ?_⟩
            by_cases hlt : i < (args.map (Opd.ev e)).length
            · rw [List.getElem?_append_left hlt] at hb
              rw [Array.getElem?_append_left (by rw [← hra.1]; exact hlt)] at hy
              exact hra.2 i b y hb hy
            · rw [List.getElem?_append_right (by omega)] at hb
              rw [Array.getElem?_append_right (by rw [← hra.1]; omega), ← hra.1] at hy
              exact h2 _ b y hb hy) (by simpa [Function.comp_def] using hnr) (by simpa [Function.comp_def] using hcon)
          refine call_wp (a := a) (run_callOp hcal hX hcon.1) (M := fun y w' => ∃ I' L', R I' L' (aft O (args.map (Opd.ev e)) res) res y ∧ Good I L O w I' L' (aft O (args.map (Opd.ev e)) res) w') ?_ fun y w' ⟨I', L', h1, h2⟩ => hn _ _ _ _ _ _ hk h2 h1
          refine this.mono ?_
          rintro e' w' ⟨y, I', L', rfl, h1, h2⟩
          exact ⟨y, rfl, I', L', h1, h2⟩
      case qcallv x' args' =>
        cases hc
        simp only [wpOp] at hk
        generalize hA : x.ev e = A at rf hk
        cases A <;> simp only at hk
        rename_i f caps
        obtain ⟨res, hnr, hcon, hk⟩ := hk
        generalize hX : a.eval fv = X at rf
        cases rf with
        | fn _ _ vs h1 h2 =>
          have := pcall_sound (as := []) (caps := args.map (Opd.ev e) ++ caps) (vs := c.args.map a.eval ++ vs) hi (by
            refine ⟨by simp only [List.nil_append, List.length_append, Array.size_append, h1, hra.1], fun i b y hb hy => ?_⟩
            rw [List.nil_append] at hb
            by_cases hlt : i < (args.map (Opd.ev e)).length
            · rw [List.getElem?_append_left hlt] at hb
              rw [Array.getElem?_append_left (by rw [← hra.1]; exact hlt)] at hy
              exact hra.2 i b y hb hy
            · rw [List.getElem?_append_right (by omega)] at hb
              rw [Array.getElem?_append_right (by rw [← hra.1]; omega), ← hra.1] at hy
              exact h2 _ b y hb hy) (by simpa using hnr) (by simpa using hcon)
          rw [aft_nil] at this
          refine call_wp (a := a) (run_callOp hcal hX hcon.1) (M := fun y w' => ∃ I' L', R I' L' O res y ∧ Good I L O w I' L' O w') ?_ fun y w' ⟨I', L', h1, h2⟩ => hn _ _ _ _ _ _ hk h2 h1
          refine this.mono ?_
          rintro e' w' ⟨y, I', L', rfl, h1, h2⟩
          exact ⟨y, rfl, I', L', h1, h2⟩
    · cases hc
  · rename_i hcal
    split at hc
    · rename_i t x hts has
      have hat : c.argTypes = #[t] := by apply Array.ext'; simpa using hts
      have haa : c.args = #[x] := by apply Array.ext'; simpa using has
      split at hc
      · rename_i ht
        simp only [Option.map_eq_some_iff] at hc
        obtain ⟨ax, hx, hc⟩ := hc
        have := strip_eq (by cases ao <;> first | rfl | (simp [AOp.strip] at hc; done)) hc rfl (by simp)
        subst this
        obtain ⟨x', y, h1, h2, h3⟩ := ran_lenS (ty := ty) hi he ht hx hk
        refine Ran.wp (Ran.same hi h1 h2 ?_) hn
        simp only [execOp, resolve, hcal, hat, haa]
        simp [invoke, builtin, h3]
      · rename_i el ht
        simp only [Option.map_eq_some_iff] at hc
        obtain ⟨ax, hx, hc⟩ := hc
        have := strip_eq (by cases ao <;> first | rfl | (simp [AOp.strip] at hc; done)) hc rfl (by simp)
        subst this
        obtain ⟨x', y, h1, h2, h3⟩ := ran_lenL (ty := ty) hi he ht hx hk
        refine Ran.wp (Ran.same hi h1 h2 ?_) hn
        simp only [execOp, resolve, hcal, hat, haa]
        simp [invoke, builtin, h3]
      · cases hc
    · cases hc
  · rename_i hcal
    split at hc
    · rename_i t u x y hts has
      split at hc
      · rename_i htu
        subst htu
        have hat : c.argTypes = #[t, t] := by apply Array.ext'; simpa using hts
        have haa : c.args = #[x, y] := by apply Array.ext'; simpa using has
        simp only [Option.bind_eq_bind, Option.bind_eq_some_iff, Option.some.injEq] at hc
        obtain ⟨el, hel, ⟨s, b, z⟩, hz, ax, hx, ay, hy, hc⟩ := hc
        have := strip_eq (by cases ao <;> first | rfl | (simp [AOp.strip] at hc; done)) hc rfl (by simp)
        subst this
        obtain ⟨x', O', y', I', L', w', h1, h2, h3, h4⟩ := app_ran (ty := ty) (cSlice_inv hel) hz hi (cOpd_sound hx he) (cOpd_sound hy he) hk
        refine Ran.wp ⟨x', O', y', I', L', w', h1, h2, h3, .inl ?_⟩ hn
        simp only [execOp, resolve, hcal, hat, haa]
        simp [invoke, builtin, h4]
      · cases hc
    · cases hc
  · cases hc
theorem cOp1_buildSlice {ty : TypeId} {op : Op} {t s l : Nat} {z : AV} {ps : List (Nat × Opd)} (h : cOp1 P ty op = some (.buildSlice t s l z ps)) : ∃ t len parts, op = .buildSlice t len parts := by
  cases op <;> simp only [cOp1] at h
  case buildSlice t len parts => exact ⟨t, len, parts, rfl⟩
  all_goals (repeat' split at h)
  all_goals first
    | (simp [Option.bind_eq_some_iff] at h; done)
    | (rename_i heq; cases heq; done)
    | (exfalso; simp_all; done)
theorem lent_inv (hi : Inv I L O w) (as : List AV) : Inv (lent I L O w as) L [] w := by
  refine ⟨fun b o x hx => ?_, by simp, by simp, by simp, fun p hp => lent_le hi as _ _ _ (hi.fix p hp), hi.blk_imm (lent_le hi as), .no (by simp), .no (by simp)⟩
  unfold lent at hx
  split at hx
  · exact hx
  · exact hi.imm b o x hx
theorem isSl_inv {t : TypeId} (h : isSl P t = true) : ∃ el, P.underlying t = some (.slice el) := by
  unfold isSl at h; split at h
  · rename_i x hx; exact ⟨_, hx⟩
  · cases h
theorem isPtr_inv {t : TypeId} (h : isPtr P t = true) : ∃ el, P.underlying t = some (.pointer el) := by
  unfold isPtr at h; split at h
  · rename_i x hx; exact ⟨_, hx⟩
  · cases h
theorem isIfc_inv {t : TypeId} (h : isIfc P t = true) : ∃ el, P.underlying t = some (.interface el) := by
  unfold isIfc at h; split at h
  · rename_i x hx; exact ⟨_, hx⟩
  · cases h
theorem isU8_inv {t : TypeId} (h : isU8 P t = true) : P.underlying t = some (.int .u8) := by
  unfold isU8 at h; split at h
  · rename_i hx; exact hx
  · cases h
theorem isInt_inv {t : TypeId} (h : isInt P t = true) : ∃ k, P.underlying t = some (.int k) := by
  unfold isInt at h; split at h
  · rename_i k hx; exact ⟨k, hx⟩
  · cases h
theorem isStr_inv {t : TypeId} (h : isStr P t = true) : P.underlying t = some .string := by
  unfold isStr at h; split at h
  · rename_i hx; exact hx
  · cases h
/-- a read value -/
theorem pu_read (hi : Inv I L O w) {v : AV} {x : Value} (hr : R I L O v x) (hn : (frz O v).noref = true) (as : List AV) (hm : v ∈ as) : R (lent I L O w as) L [] (frz O v) x := frz_sound hi hm hr hn
theorem u8s_spec : ∀ {xs : List AV} {l : List UInt8}, u8s xs = some l → ∃ ns : List Int, xs = ns.map (fun n => .v (.int .u8 n)) ∧ l = ns.map fun n => UInt8.ofNat n.toNat
  | [], l, h => by simp [u8s] at h; subst h; exact ⟨[], rfl, rfl⟩
  | x :: r, l, h => by
    unfold u8s at h
    split at h
    · rename_i hx; cases hx
    · rename_i n r' hx
      cases hx
      simp only [Option.map_eq_some_iff] at h
      obtain ⟨l', h1, rfl⟩ := h
      obtain ⟨ns, rfl, rfl⟩ := u8s_spec h1
      exact ⟨n :: ns, rfl, rfl⟩
    · cases h
theorem b2s_run {s d el : TypeId} (hs : P.underlying s = some (.slice el)) (he : P.underlying el = some (.int .u8)) (hd : P.underlying d = some .string) {I' : Imm} {L' : Nat → Loc} (hinv : Inv I' L' [] w) {v : AV} {x : Value} {y : AV} (hr : R I' L' [] v x) (hp : puF .b2s [v] = some y) :
    ∃ z, y = .v z ∧ z.oneCell' = true ∧ (convert s d x).run P w = .ok z w := by
  unfold puF at hp
  split at hp <;> first | (rename_i ho hv; cases ho; done) | (rename_i ho; cases ho; done) | skip
  · rename_i ys ho hv
    cases hv
    simp only [Option.map_eq_some_iff] at hp
    obtain ⟨l, hl, rfl⟩ := hp
    obtain ⟨ns, rfl, rfl⟩ := u8s_spec hl
    generalize hX : (ns.map fun n => AV.v (.int .u8 n)) = X at hr
    cases hr with
    | sl0 a cap =>
      have hn : ns = [] := by simpa using hX
      subst hn
      refine ⟨_, rfl, rfl, ?_⟩
      rw [run_convert_bytes_string w s d el a 0 cap hs he hd]
      cases a with
      | none => simp [Conv.bytesToString]; rfl
      | some a => simp [Conv.bytesToString, loadCells, loadCellsFrom]; rfl
    | sl xs blk off cap s' vals h1 h2 h3 h4 h5 =>
      subst hX
      refine ⟨_, rfl, rfl, ?_⟩
      have hlen : ns.length = (ns.map fun n => AV.v (.int .u8 n)).length := by simp
      have := run_convert_bytes_arg (P := P) w s el hs he blk off (ns.map fun n => AV.v (.int .u8 n)).length cap ns hlen (fun i hi => ?_) d hd
      · rw [this]; rfl
      · have hi' : i < ns.length := by simpa using hi
        have hx : (ns.map fun n => AV.v (.int .u8 n))[i]? = some (.v (.int .u8 ns[i])) := by simp [hi']
        have hs1 : s' = 1 := by have := h3 i _ hx; simpa [AV.cells] using this.symm
        subst hs1
        have hc0 : (AV.v (.int .u8 ns[i])).cells[0]? = some (.v (.int .u8 ns[i])) := rfl
        have hcell := (h4 i _ 0 _ hx hc0).1
        have hval := (h5 i _ 0 _ hx hc0).exact
        rw [hval] at hcell
        have := hinv.imm _ _ _ hcell
        simp only [Nat.mul_one, Nat.add_zero] at this
        rw [this]
        simp [List.getD, hi']
  · rename_i ho hv
    cases hv
    simp only [Option.some.injEq] at hp
    subst hp
    cases hr
    refine ⟨_, rfl, rfl, ?_⟩
    rw [run_convert_bytes_string w s d el none 0 0 hs he hd]
    simp [Conv.bytesToString]; rfl
  · cases hp
theorem eq_ops {op : BinOp} (h : isEqOp op = true) : op = .eql ∨ op = .neq := by
  cases op <;> simp [isEqOp] at h <;> simp
theorem equal_red {t : TypeId} {x y : Value} {b : Bool} {op : BinOp} (ho : op = .eql ∨ op = .neq) (ht : (Op.equalIn (9999 + 1) t x y).run P w = .ok b w) (ox oy : Operand)
    (hb : ∀ op : BinOp, op = .eql ∨ op = .neq → (eqGuard op t ox oy x y).run P w = .ok () w) (h2 : ∀ op : BinOp, op = .eql → binOp op t x y = do pure (.bool (← Op.equal t x y))) (h3 : ∀ op : BinOp, op = .neq → binOp op t x y = do pure (.bool (!(← Op.equal t x y)))) :
    (do eqGuard op t ox oy x y; binOp op t x y : Sem Value).run P w = .ok (.bool (isNeq op != b)) w := by
  have e1 : (Op.equal t x y).run P w = .ok b w := ht
  rcases ho with rfl | rfl
  · rw [Sem.run_bind, hb _ (.inl rfl), h2 _ rfl]; simp [e1, isNeq]
  · rw [Sem.run_bind, hb _ (.inr rfl), h3 _ rfl]; simp [e1, isNeq]
theorem isNilS_run {t el : TypeId} (ht : P.underlying t = some (.slice el)) {op : BinOp} (ho : isEqOp op = true) {I' : Imm} {L' : Nat → Loc} {v : AV} {x : Value} {y : AV} (hr : R I' L' [] v x) (hp : puF (.isNilS (isNeq op)) [v] = some y) (ox oy : Operand) :
    ∃ z, y = .v z ∧ z.oneCell' = true ∧ (do eqGuard op t ox oy x (.slice none 0 0); binOp op t x (.slice none 0 0) : Sem Value).run P w = .ok z w := by
  have ho := eq_ops ho
  unfold puF at hp
  split at hp <;> first | (rename_i h1 h2; cases h1; done) | (rename_i h1; cases h1; done) | skip
  · rename_i neg h1 h2
    cases h1; cases h2
    cases hr
    simp only [Option.some.injEq] at hp; subst hp
    refine ⟨_, rfl, rfl, equal_red (b := true) ho ?_ ox oy (fun op ho => ?_) (fun op ho => ?_) (fun op ho => ?_)⟩
    · rw [Op.equalIn]; simp [run_underlying ht]
    · rcases ho with rfl | rfl <;> simp [eqGuard]
    · subst ho; rfl
    · subst ho; rfl
  · rename_i neg a l h1 h2
    cases h1; cases h2
    simp only [Option.some.injEq] at hp; subst hp
    cases hr with
    | sl xs blk off cap s' vals h1 h2 h3 h4 h5 =>
      refine ⟨_, rfl, rfl, equal_red (b := false) ho ?_ ox oy (fun op ho => ?_) (fun op ho => ?_) (fun op ho => ?_)⟩
      · rw [Op.equalIn]; simp [run_underlying ht]
      · rcases ho with rfl | rfl <;> simp [eqGuard]
      · subst ho; rfl
      · subst ho; rfl
  · cases hp
theorem isNilP_run {t el : TypeId} (ht : P.underlying t = some (.pointer el)) {op : BinOp} (ho : isEqOp op = true) {I' : Imm} {L' : Nat → Loc} {v : AV} {x : Value} {y : AV} (hr : R I' L' [] v x) (hp : puF (.isNilP (isNeq op)) [v] = some y) (ox oy : Operand) :
    ∃ z, y = .v z ∧ z.oneCell' = true ∧ (do eqGuard op t ox oy x (.pointer none); binOp op t x (.pointer none) : Sem Value).run P w = .ok z w := by
  have ho := eq_ops ho
  unfold puF at hp
  split at hp <;> first | (rename_i h1 h2; cases h1; done) | (rename_i h1; cases h1; done) | skip
  · rename_i neg h1 h2
    cases h1; cases h2
    have := hr.exact
    subst this
    simp only [Option.some.injEq] at hp; subst hp
    refine ⟨_, rfl, rfl, equal_red (b := true) ho ?_ ox oy (fun op ho => ?_) (fun op ho => ?_) (fun op ho => ?_)⟩
    · rw [Op.equalIn]; simp [run_underlying ht]
    · rcases ho with rfl | rfl <;> simp [eqGuard]
    · subst ho; rfl
    · subst ho; rfl
  · rename_i neg a l h1 h2
    cases h1; cases h2
    simp only [Option.some.injEq] at hp; subst hp
    cases hr
    refine ⟨_, rfl, rfl, equal_red (b := false) ho ?_ ox oy (fun op ho => ?_) (fun op ho => ?_) (fun op ho => ?_)⟩
    · rw [Op.equalIn]; simp [run_underlying ht]
    · rcases ho with rfl | rfl <;> simp [eqGuard]
    · subst ho; rfl
    · subst ho; rfl
  · cases hp
theorem isNilI_run {t : TypeId} {el : Array (String × TypeId)} (ht : P.underlying t = some (.interface el)) {op : BinOp} (ho : isEqOp op = true) {I' : Imm} {L' : Nat → Loc} {v : AV} {x : Value} {y : AV} (hr : R I' L' [] v x) (hp : puF (.isNilI (isNeq op)) [v] = some y) (ox : Operand) :
    ∃ z, y = .v z ∧ z.oneCell' = true ∧ (do eqGuard op t ox (.const .nilIface) x .nilIface; binOp op t x .nilIface : Sem Value).run P w = .ok z w := by
  have ho := eq_ops ho
  unfold puF at hp
  split at hp <;> first | (rename_i h1 h2; cases h1; done) | (rename_i h1; cases h1; done) | skip
  · rename_i neg h1 h2
    cases h1; cases h2
    have := hr.exact
    subst this
    simp only [Option.some.injEq] at hp; subst hp
    refine ⟨_, rfl, rfl, equal_red (b := true) ho ?_ ox (.const .nilIface) (fun op ho => ?_) (fun op ho => ?_) (fun op ho => ?_)⟩
    · rw [Op.equalIn]; simp [run_underlying ht]
    · rcases ho with rfl | rfl <;> simp [eqGuard]
    · subst ho; rfl
    · subst ho; rfl
  · rename_i neg h1 h2
    cases h1; cases h2
    simp only [Option.some.injEq] at hp; subst hp
    cases hr
    refine ⟨_, rfl, rfl, equal_red (b := false) ho ?_ ox (.const .nilIface) (fun op ho => ?_) (fun op ho => ?_) (fun op ho => ?_)⟩
    · rw [Op.equalIn]; simp [run_underlying ht]
    · rcases ho with rfl | rfl <;> simp [eqGuard]
    · subst ho; rfl
    · subst ho; rfl
  · cases hp
theorem min_run {I' : Imm} {L' : Nat → Loc} {u v : AV} {x x' : Value} {y : AV} (hr : R I' L' [] u x) (hr' : R I' L' [] v x') (hp : puF .min [u, v] = some y) (ts : Array TypeId) (ty : TypeId) :
    ∃ z, y = .v z ∧ z.oneCell' = true ∧ (Builtin.min_ ts ty #[x, x']).run P w = .ok z w := by
  unfold puF at hp
  split at hp <;> first | (rename_i h1 h2; cases h1; done) | (rename_i h1; cases h1; done) | skip
  · rename_i k a k' b h1 h2
    cases h2
    have e1 := hr.exact
    have e2 := hr'.exact
    subst e1; subst e2
    split at hp
    · rename_i hk; subst hk
      simp only [Option.some.injEq] at hp; subst hp
      exact ⟨_, rfl, rfl, by simp [Builtin.min_, Builtin.min2]⟩
    · cases hp
  · cases hp
theorem max_run {I' : Imm} {L' : Nat → Loc} {u v : AV} {x x' : Value} {y : AV} (hr : R I' L' [] u x) (hr' : R I' L' [] v x') (hp : puF .max [u, v] = some y) (ts : Array TypeId) (ty : TypeId) :
    ∃ z, y = .v z ∧ z.oneCell' = true ∧ (Builtin.max_ ts ty #[x, x']).run P w = .ok z w := by
  unfold puF at hp
  split at hp <;> first | (rename_i h1 h2; cases h1; done) | (rename_i h1; cases h1; done) | skip
  · rename_i k a k' b h1 h2
    cases h2
    have e1 := hr.exact
    have e2 := hr'.exact
    subst e1; subst e2
    split at hp
    · rename_i hk; subst hk
      simp only [Option.some.injEq] at hp; subst hp
      exact ⟨_, rfl, rfl, by simp [Builtin.max_, Builtin.max2]⟩
    · cases hp
  · cases hp
theorem capN_run {I' : Imm} {L' : Nat → Loc} {v : AV} {x : Value} {y : AV} (hr : R I' L' [] v x) (hp : puF .capN [v] = some y) :
    ∃ z, y = .v z ∧ z.oneCell' = true ∧ x = .slice none 0 0 ∧ z = .int .i64 0 := by
  unfold puF at hp
  split at hp <;> first | (rename_i h1 h2; cases h1; done) | (rename_i h1; cases h1; done) | skip
  · rename_i h1 h2
    cases h2
    cases hr
    simp only [Option.some.injEq] at hp; subst hp
    exact ⟨_, rfl, rfl, rfl, rfl⟩
  · cases hp
theorem puK_inv {o : PU} {xs : List AV} {M : AV → Prop} (h : puK o xs M) : ∃ y, puF o xs = some y ∧ M y := by
  unfold puK at h; split at h
  · rename_i v hv; exact ⟨v, hv, h⟩
  · exact h.elim
theorem opX_ran {d : Option Tmp} {op : Op} {ty : TypeId} {pos : String} {af : Array Edge} {g : Option (Nat × Bool)} {ao : AOp} (hc : cOpX P op = some ao) (hi : Inv I L O w) (he : ∀ t, R I L O (e t) (a.tmps.getD t undef)) (hk : wpOp P ao e O K) :
    Ran P I L O w (execOp a.eval ⟨d, op, ty, pos, af, g⟩) K := by
  unfold cOpX at hc
  split at hc
  · rename_i op t x u
    split at hc
    · rename_i hb
      simp only [Option.bind_eq_bind, Option.bind_eq_some_iff, Option.some.injEq] at hc
      obtain ⟨ax, hx, rfl⟩ := hc
      obtain ⟨el, ht⟩ := isSl_inv hb.2
      obtain ⟨hn, hk⟩ := hk
      simp only [List.map_cons, List.map_nil] at hn hk
      obtain ⟨y, hy, hk⟩ := puK_inv hk
      have rx := pu_read hi (cOpd_sound hx he) (by simpa [AV.norefs] using hn) [ax.ev e] (by simp)
      obtain ⟨z, rfl, hz, hrun⟩ := isNilS_run (P := P) (w := w) ht hb.1 rx hy x (.const (.slice none 0 0))
      refine Ran.same hi hk (.v z hz) ?_
      simp only [execOp]
      have : a.eval (.const (.slice none 0 0)) = .slice none 0 0 := rfl
      rw [this, Sem.run_bind, hrun]; rfl
    · cases hc
  · rename_i op t x u
    split at hc
    · rename_i hb
      simp only [Option.bind_eq_bind, Option.bind_eq_some_iff, Option.some.injEq] at hc
      obtain ⟨ax, hx, rfl⟩ := hc
      obtain ⟨el, ht⟩ := isPtr_inv hb.2
      obtain ⟨hn, hk⟩ := hk
      simp only [List.map_cons, List.map_nil] at hn hk
      obtain ⟨y, hy, hk⟩ := puK_inv hk
      have rx := pu_read hi (cOpd_sound hx he) (by simpa [AV.norefs] using hn) [ax.ev e] (by simp)
      obtain ⟨z, rfl, hz, hrun⟩ := isNilP_run (P := P) (w := w) ht hb.1 rx hy x (.const (.pointer none))
      refine Ran.same hi hk (.v z hz) ?_
      simp only [execOp]
      have : a.eval (.const (.pointer none)) = .pointer none := rfl
      rw [this, Sem.run_bind, hrun]; rfl
    · cases hc
  · rename_i op t x u
    split at hc
    · rename_i hb
      simp only [Option.bind_eq_bind, Option.bind_eq_some_iff, Option.some.injEq] at hc
      obtain ⟨ax, hx, rfl⟩ := hc
      obtain ⟨el, ht⟩ := isIfc_inv hb.2
      obtain ⟨hn, hk⟩ := hk
      simp only [List.map_cons, List.map_nil] at hn hk
      obtain ⟨y, hy, hk⟩ := puK_inv hk
      have rx := pu_read hi (cOpd_sound hx he) (by simpa [AV.norefs] using hn) [ax.ev e] (by simp)
      obtain ⟨z, rfl, hz, hrun⟩ := isNilI_run (P := P) (w := w) ht hb.1 rx hy x
      refine Ran.same hi hk (.v z hz) ?_
      simp only [execOp]
      have : a.eval (.const .nilIface) = .nilIface := rfl
      rw [this, Sem.run_bind, hrun]; rfl
    · cases hc
  · rename_i s d' x
    simp only [Option.bind_eq_bind, Option.bind_eq_some_iff] at hc
    obtain ⟨el, hel, hc⟩ := hc
    split at hc
    · rename_i hb
      simp only [Option.bind_eq_some_iff, Option.some.injEq] at hc
      obtain ⟨ax, hx, rfl⟩ := hc
      obtain ⟨hn, hk⟩ := hk
      simp only [List.map_cons, List.map_nil] at hn hk
      obtain ⟨y, hy, hk⟩ := puK_inv hk
      have rx := pu_read hi (cOpd_sound hx he) (by simpa [AV.norefs] using hn) [ax.ev e] (by simp)
      obtain ⟨z, rfl, hz, hrun⟩ := b2s_run (P := P) (cSlice_inv hel) (isU8_inv hb.1) (isStr_inv hb.2) (lent_inv hi [ax.ev e]) rx hy
      refine Ran.same hi hk (.v z hz) ?_
      simp only [execOp]
      rw [Sem.run_bind, hrun]; rfl
    · cases hc
  · rename_i c
    split at hc
    · rename_i t u x y hcal hts has
      have hat : c.argTypes = #[t, u] := by apply Array.ext'; simpa using hts
      have haa : c.args = #[x, y] := by apply Array.ext'; simpa using has
      split at hc
      · rename_i hu
        simp only [Option.bind_eq_bind, Option.bind_eq_some_iff] at hc
        obtain ⟨el, hel, ⟨s, b, z⟩, hz, hc⟩ := hc
        split at hc
        · simp only [Option.bind_eq_some_iff, Option.some.injEq] at hc
          obtain ⟨ax, hx, ay, hy, rfl⟩ := hc
          simp only [wpOp] at hk
          split at hk
          · rename_i sb hsb
            have ry := cOpd_sound (I := I) (L := L) (O := O) hy he
            rw [hsb] at ry
            have hv := ry.exact
            obtain ⟨x', O', y', I', L', w', h1, h2, h3, h4⟩ := apps_ran (ty := ty) (cSlice_inv hel) (isStr_inv hu) hz hi (cOpd_sound hx he) hk.1 hk.2
            refine ⟨x', O', y', I', L', w', h1, h2, h3, .inl ?_⟩
            simp only [execOp, resolve, hcal, hat, haa]
            simp [invoke, builtin, hv, h4]
          · exact hk.elim
        · cases hc
      · split at hc
        · rename_i hin
          obtain ⟨ki, hu⟩ := isInt_inv hin
          simp only [Option.bind_eq_bind, Option.bind_eq_some_iff, Option.some.injEq] at hc
          obtain ⟨el, hel, ⟨s, b, z⟩, hz, ax, hx, ay, hy, rfl⟩ := hc
          simp only [wpOp] at hk
          have rx := cOpd_sound (I := I) (L := L) (O := O) hx he
          have ry := cOpd_sound (I := I) (L := L) (O := O) hy he
          split at hk
          · rename_i k hA hB
            rw [hA] at rx
            rw [hB] at ry
            have e2 := ry.exact
            obtain ⟨k0, k1, k2, hk⟩ := hk
            obtain ⟨n, rfl⟩ : ∃ n : Nat, k = n := ⟨k.toNat, by omega⟩
            obtain ⟨i, z0, h1, h2, h3, rfl, rfl, h4, h5, h6, h7⟩ := cElem_inv hz
            have k1' : n * i.bytes ≤ 281474976710656 := by
              have : ((i.bytes * n : Nat) : Int) ≤ 281474976710656 := by rw [Int.natCast_mul]; omega
              rw [Nat.mul_comm]; omega
            obtain ⟨y', I', L', w', g1, g2, g3⟩ := appz_nil (P := P) (w := w) (t := t) (u := u) (ty := ty) (cSlice_inv hel) hu h1 h2 h3 h5 h6 h7 h4 hi (by omega) k1' (by omega)
            simp only [Int.toNat_natCast] at hk
            refine ⟨_, _, y', I', L', w', hk, g1, g2, .inl ?_⟩
            have e1 : a.eval x = .slice none 0 0 := by generalize a.eval x = X at rx; cases rx; rfl
            simp only [execOp, resolve, hcal, hat, haa]
            simp [invoke, builtin, e1, e2, g3]
          · exact hk.elim
        · cases hc
    · rename_i t x hcal hts has
      have hat : c.argTypes = #[t] := by apply Array.ext'; simpa using hts
      have haa : c.args = #[x] := by apply Array.ext'; simpa using has
      split at hc
      · rename_i hsl
        obtain ⟨el, ht⟩ := isSl_inv hsl
        simp only [Option.bind_eq_bind, Option.bind_eq_some_iff, Option.some.injEq] at hc
        obtain ⟨ax, hx, rfl⟩ := hc
        obtain ⟨hn, hk⟩ := hk
        simp only [List.map_cons, List.map_nil] at hn hk
        simp only [AV.norefs, Bool.and_true] at hn
        obtain ⟨v, hv, hk⟩ := puK_inv hk
        have rx := pu_read hi (cOpd_sound hx he) hn [ax.ev e] (by simp)
        obtain ⟨z, rfl, hz, hX, rfl⟩ := capN_run rx hv
        refine Ran.same hi hk (.v _ hz) ?_
        simp only [execOp, resolve, hcal, hat, haa]
        simp [invoke, builtin, hX, Builtin.cap_, run_underlying ht]
        rfl
      · cases hc
    · rename_i t u x y hcal hts has
      have hat : c.argTypes = #[t, u] := by apply Array.ext'; simpa using hts
      have haa : c.args = #[x, y] := by apply Array.ext'; simpa using has
      simp only [Option.bind_eq_bind, Option.bind_eq_some_iff, Option.some.injEq] at hc
      obtain ⟨ax, hx, ay, hy, rfl⟩ := hc
      obtain ⟨hn, hk⟩ := hk
      simp only [List.map_cons, List.map_nil] at hn hk
      simp only [AV.norefs, Bool.and_true, Bool.and_eq_true] at hn
      obtain ⟨v, hv, hk⟩ := puK_inv hk
      have rx := pu_read hi (cOpd_sound hx he) hn.1 [ax.ev e, ay.ev e] (by simp)
      have ry := pu_read hi (cOpd_sound hy he) hn.2 [ax.ev e, ay.ev e] (by simp)
      obtain ⟨z, rfl, hz, hrun⟩ := min_run (P := P) (w := w) rx ry hv #[t, u] ty
      refine Ran.same hi hk (.v z hz) ?_
      simp only [execOp, resolve, hcal, hat, haa]
      simp [invoke, builtin, hrun]
    · rename_i t u x y hcal hts has
      have hat : c.argTypes = #[t, u] := by apply Array.ext'; simpa using hts
      have haa : c.args = #[x, y] := by apply Array.ext'; simpa using has
      simp only [Option.bind_eq_bind, Option.bind_eq_some_iff, Option.some.injEq] at hc
      obtain ⟨ax, hx, ay, hy, rfl⟩ := hc
      obtain ⟨hn, hk⟩ := hk
      simp only [List.map_cons, List.map_nil] at hn hk
      simp only [AV.norefs, Bool.and_true, Bool.and_eq_true] at hn
      obtain ⟨v, hv, hk⟩ := puK_inv hk
      have rx := pu_read hi (cOpd_sound hx he) hn.1 [ax.ev e, ay.ev e] (by simp)
      have ry := pu_read hi (cOpd_sound hy he) hn.2 [ax.ev e, ay.ev e] (by simp)
      obtain ⟨z, rfl, hz, hrun⟩ := max_run (P := P) (w := w) rx ry hv #[t, u] ty
      refine Ran.same hi hk (.v z hz) ?_
      simp only [execOp, resolve, hcal, hat, haa]
      simp [invoke, builtin, hrun]
    · cases hc
  · cases hc
theorem op_sound0 {o : Oper} {b ao : AOp} (hat : ao.isAt = false) (hc : cOp0 P o.type o.op = some b) (hab : b = ao.strip) (hi : Inv I L O w) (he : ∀ t, R I L O (e t) (a.tmps.getD t undef)) (hk : wpOp P ao e O K) {next : Act → World → Prop} {Q : Exit → Act → World → Prop}
    (hn : ∀ x O' y I' L' w', K x O' → Good I L O w I' L' O' w' → R I' L' O' x y → next (a.put o.dst y) w') : o.wp P a w next Q := by
  obtain ⟨dst, op, ty, pos, af, g⟩ := o
  subst hab
  unfold cOp0 at hc
  simp only at hc
  split at hc
  · exact callop_sound hc hi he hk hn
  · simp only [Option.bind_eq_some_iff] at hc
    obtain ⟨b, hb, hc⟩ := hc
    split at hc
    · cases hc
    · rename_i hnc
      simp only [Option.some.injEq] at hc
      by_cases hbs : ∃ t s l z ps, b = .buildSlice t s l z ps
      · obtain ⟨t, s, l, z, ps, rfl⟩ := hbs
        obtain ⟨t', len, parts, rfl⟩ := cOp1_buildSlice hb
        cases ao <;> simp only [AOp.strip] at hc <;> first | (cases hc; done) | (simp [AOp.isAt] at hat; done) | skip
        case buildSlice => cases hc; exact (op1_ran hb hi he hk).wp hn
        case buildF => cases hc; exact (ran_buildF hi he hb hk).wp hn
      · have := strip_eq hat hc (by simpa using hnc) (fun t s l z ps h => hbs ⟨t, s, l, z, ps, h⟩)
        subst this
        exact (op1_ran hb hi he hk).wp hn
theorem cOpX_plain {op : Op} {b : AOp} (h : cOpX P op = some b) : (∃ o as, b = .pu o as) ∨ (∃ t s by_ x y, b = .appS t s by_ x y) ∨ ∃ t s by_ z x y, b = .appZ t s by_ z x y := by
  unfold cOpX at h
  split at h
  · split at h
    · simp only [Option.bind_eq_bind, Option.bind_eq_some_iff, Option.some.injEq] at h; obtain ⟨_, _, rfl⟩ := h; exact .inl ⟨_, _, rfl⟩
    · cases h
  · split at h
    · simp only [Option.bind_eq_bind, Option.bind_eq_some_iff, Option.some.injEq] at h; obtain ⟨_, _, rfl⟩ := h; exact .inl ⟨_, _, rfl⟩
    · cases h
  · split at h
    · simp only [Option.bind_eq_bind, Option.bind_eq_some_iff, Option.some.injEq] at h; obtain ⟨_, _, rfl⟩ := h; exact .inl ⟨_, _, rfl⟩
    · cases h
  · simp only [Option.bind_eq_bind, Option.bind_eq_some_iff] at h
    obtain ⟨_, _, h⟩ := h
    split at h
    · simp only [Option.bind_eq_some_iff, Option.some.injEq] at h; obtain ⟨_, _, rfl⟩ := h; exact .inl ⟨_, _, rfl⟩
    · cases h
  · split at h
    · split at h
      · simp only [Option.bind_eq_bind, Option.bind_eq_some_iff] at h
        obtain ⟨_, _, _, _, h⟩ := h
        split at h
        · simp only [Option.bind_eq_some_iff, Option.some.injEq] at h; obtain ⟨_, _, _, _, rfl⟩ := h; exact .inr (.inl ⟨_, _, _, _, _, rfl⟩)
        · cases h
      · split at h
        · simp only [Option.bind_eq_bind, Option.bind_eq_some_iff, Option.some.injEq] at h
          obtain ⟨_, _, _, _, _, _, _, _, rfl⟩ := h
          exact .inr (.inr ⟨_, _, _, _, _, _, rfl⟩)
        · cases h
    · split at h
      · simp only [Option.bind_eq_bind, Option.bind_eq_some_iff, Option.some.injEq] at h; obtain ⟨_, _, rfl⟩ := h; exact .inl ⟨_, _, rfl⟩
      · cases h
    · simp only [Option.bind_eq_bind, Option.bind_eq_some_iff, Option.some.injEq] at h; obtain ⟨_, _, _, _, rfl⟩ := h; exact .inl ⟨_, _, rfl⟩
    · simp only [Option.bind_eq_bind, Option.bind_eq_some_iff, Option.some.injEq] at h; obtain ⟨_, _, _, _, rfl⟩ := h; exact .inl ⟨_, _, rfl⟩
    · cases h
  · cases h
theorem op_sound1 {o : Oper} {ao : AOp} (hat : ao.isAt = false) (hc : cOp P o.type o.op = some ao.strip) (hi : Inv I L O w) (he : ∀ t, R I L O (e t) (a.tmps.getD t undef)) (hk : wpOp P ao e O K) {next : Act → World → Prop} {Q : Exit → Act → World → Prop}
    (hn : ∀ x O' y I' L' w', K x O' → Good I L O w I' L' O' w' → R I' L' O' x y → next (a.put o.dst y) w') : o.wp P a w next Q := by
  unfold cOp cOpS at hc
  simp only [Option.some.injEq] at hc
  split at hc
  · rename_i b hb
    have hx := cOpX_plain hb
    have hab : ao = b := by
      refine strip_eq hat hc ?_ ?_
      · rcases hx with ⟨_, _, rfl⟩ | ⟨_, _, _, _, _, rfl⟩ | ⟨_, _, _, _, _, _, rfl⟩ <;> rfl
      · rcases hx with ⟨_, _, rfl⟩ | ⟨_, _, _, _, _, rfl⟩ | ⟨_, _, _, _, _, _, rfl⟩ <;> simp
    subst hab
    obtain ⟨dst, op, ty, pos, af, g⟩ := o
    exact (opX_ran hb hi he hk).wp hn
  · cases h0 : cOp0 P o.type o.op with
    | some b => rw [h0] at hc; exact op_sound0 hat h0 hc hi he hk hn
    | none =>
      rw [h0] at hc
      simp only [Option.getD_none] at hc
      cases ao <;> simp only [AOp.strip] at hc <;> first | (cases hc; done) | (simp [AOp.isAt] at hat; done) | exact hk.elim
theorem Opd.scoped_of (he : ∀ t, R I L O (e t) (a.tmps.getD t undef)) {x : Opd} (h : x.okc = true) : (x.ev e).inScope O.length = true := by
  cases x with
  | t n => exact (he n).inScope
  | c y => exact noref_scoped y h
theorem rowK_scoped (he : ∀ t, R I L O (e t) (a.tmps.getD t undef)) {s : Nat} : ∀ (ps : List (Nat × Opd)) (zs : List AV) {M : List AV → Prop}, ps.all (fun p => p.2.okc) = true → (∀ x ∈ zs, ∀ c ∈ x.cells, c.inScope O.length = true) → rowK e s zs ps M →
    rowK e s zs ps fun xs => (∀ x ∈ xs, ∀ c ∈ x.cells, c.inScope O.length = true) ∧ M xs
  | [], zs, M, _, hz, h => ⟨hz, h⟩
  | (i, x) :: ps, zs, M, hp, hz, h => by
    simp only [List.all_cons, Bool.and_eq_true] at hp
    obtain ⟨h1, h2, h3, h4⟩ := h
    refine ⟨h1, h2, h3, rowK_scoped he ps _ hp.2 (fun y hy c hc => ?_) h4⟩
    rcases List.mem_or_eq_of_mem_set hy with hy | rfl
    · exact hz y hy c hc
    · exact scoped_cells (Opd.scoped_of he hp.1) c hc
/-- a slice of one's own is cut to nothing: it gets another name -/
theorem Good.cut (hi : Inv I L O w) {n t s : Nat} {xs : List AV} (hO : O[n]? = some (.live t s xs)) :
    Good I L O w I (fun k => if k = O.length then L n else L k) (O.set n .dead ++ [.live t s []]) w ∧ R I (fun k => if k = O.length then L n else L k) (O.set n .dead ++ [.live t s []]) (.row O.length 0) (.slice (some ⟨(L n).blk, 0, none⟩) 0 (L n).cap) := by
  have hlt := (List.getElem?_eq_some_iff.1 hO).1
  have hget : ∀ {m e k ys}, (O.set n .dead ++ [AObj.live t s []])[m]? = some (.live e k ys) → (m = O.length ∧ e = t ∧ k = s ∧ ys = []) ∨ (m < O.length ∧ m ≠ n ∧ O[m]? = some (.live e k ys)) := by
    intro m e k ys hm
    by_cases hml : m < O.length
    · rw [List.getElem?_append_left (by simpa using hml)] at hm
      by_cases hmn : m = n
      · subst hmn; rw [List.getElem?_set_self hlt] at hm; cases hm
      · rw [List.getElem?_set_ne (fun h => hmn h.symm)] at hm
        exact .inr ⟨hml, hmn, hm⟩
    · rw [List.getElem?_append_right (by simp; omega), List.length_set] at hm
      have : m - O.length = 0 := by
        rcases Nat.eq_zero_or_pos (m - O.length) with h | h
        · exact h
        · rw [List.getElem?_eq_none (by simp; omega)] at hm; cases hm
      rw [this] at hm
      simp at hm
      obtain ⟨rfl, rfl, rfl⟩ := hm
      exact .inl ⟨by omega, rfl, rfl, rfl⟩
  have hgeto : ∀ {m : Nat} {a : AV}, (O.set n .dead ++ [AObj.live t s []])[m]? = some (.own a) → O[m]? = some (.own a) ∧ (if m = O.length then L n else L m) = L m := by
    intro m a hm
    by_cases hml : m < O.length
    · rw [List.getElem?_append_left (by simpa using hml)] at hm
      by_cases hmn : m = n
      · subst hmn; rw [List.getElem?_set_self hml] at hm; cases hm
      · rw [List.getElem?_set_ne (fun h => hmn h.symm)] at hm
        exact ⟨hm, if_neg (by omega)⟩
    · rw [List.getElem?_append_right (by simp; omega)] at hm
      cases hq : m - (O.set n .dead).length with
      | zero => rw [hq] at hm; cases hm
      | succ q => rw [hq] at hm; simp at hm
  have hgetg : ∀ {m : Nat} {a : Gho}, (O.set n .dead ++ [AObj.live t s []])[m]? = some (.gho a) → O[m]? = some (.gho a) ∧ (if m = O.length then L n else L m) = L m := by
    intro m a hm
    by_cases hml : m < O.length
    · rw [List.getElem?_append_left (by simpa using hml)] at hm
      by_cases hmn : m = n
      · subst hmn; rw [List.getElem?_set_self hml] at hm; cases hm
      · rw [List.getElem?_set_ne (fun h => hmn h.symm)] at hm
        exact ⟨hm, if_neg (by omega)⟩
    · rw [List.getElem?_append_right (by simp; omega)] at hm
      cases hq : m - (O.set n .dead).length with
      | zero => rw [hq] at hm; cases hm
      | succ q => rw [hq] at hm; simp at hm
  have hnew : (O.set n .dead ++ [AObj.live t s []])[O.length]? = some (.live t s []) := by
    rw [List.getElem?_append_right (by simp)]; simp
  have hL : ∀ {m}, m < O.length → (if m = O.length then L n else L m) = L m := fun {m} hm => if_neg (by omega)
  have hext : Ext I L O I (fun k => if k = O.length then L n else L k) (O.set n .dead ++ [.live t s []]) := by
    refine ⟨fun _ _ _ h => h, by simp, fun m hm e k ys hx => ?_, fun m hm e k hx => ?_, fun m hm a hx => by obtain ⟨q1, q2⟩ := hgeto hx; exact ⟨⟨a, q1⟩, by rw [q2]⟩, fun m hm a hx => by obtain ⟨q1, q2⟩ := hgetg hx; exact ⟨⟨a, q1, rfl⟩, by rw [q2]⟩⟩
    · rcases hget hx with ⟨h1, _⟩ | ⟨_, _, h3⟩
      · omega
      · exact .inl ⟨ys, h3, Nat.le_refl _, fun _ => hL hm⟩
    · rw [List.getElem?_append_left (by simpa using hm)] at hx
      by_cases hmn : m = n
      · subst hmn; rw [List.getElem?_set_self hlt] at hx; cases hx
      · rwa [List.getElem?_set_ne (fun h => hmn h.symm)] at hx
  refine ⟨⟨⟨hi.imm, fun m e k ys hm => ?_, fun m m' e k ys e' k' ys' hm hm' hb => ?_, fun m e k ys o hm => ?_, hi.fix, hi.blk, hi.ow.same (fun m a hm => hgeto hm) (fun b o v hv => .inl ⟨o, v, hv⟩) (fun m e k ys hm => ?_) rfl, hi.gh.step (fun m a hm => ⟨(hgetg hm).1, by rw [(hgetg hm).2]⟩) (fun _ _ hr => hr.mono hext) fun _ _ => rfl⟩, hext, Frm.refl _ _, ?_, fun _ _ _ h => .inl h⟩, ?_⟩
  · rcases hget hm with ⟨rfl, rfl, rfl, rfl⟩ | ⟨h1, h2, h3⟩
    · obtain ⟨c, ⟨m0z, q1, hm0z⟩, q2, q3, q4, q5, q6⟩ := hi.obj n _ _ _ hO
      simp only [if_true]
      exact ⟨c, ⟨_, q1, hm0z⟩, q2, Nat.zero_le _, q4, q5, by simp⟩
    · simp only [hL h1]
      exact (hi.obj m _ _ _ h3).congr rfl fun _ _ h => h.mono hext
  · rcases hget hm with ⟨rfl, rfl, rfl, rfl⟩ | ⟨h1, h2, h3⟩ <;> rcases hget hm' with ⟨h4, _, _, _⟩ | ⟨h4, h5, h6⟩
    · exact h4.symm
    · simp only [if_true, hL h4] at hb
      exact (h5 (hi.sep _ _ _ _ _ _ _ _ h6 hO hb.symm)).elim
    · subst h4
      simp only [if_true, hL h1] at hb
      exact (h2 (hi.sep _ _ _ _ _ _ _ _ h3 hO hb)).elim
    · simp only [hL h1, hL h4] at hb
      exact hi.sep _ _ _ _ _ _ _ _ h3 h6 hb
  · rcases hget hm with ⟨rfl, rfl, rfl, rfl⟩ | ⟨h1, h2, h3⟩
    · simp only [if_true]
      exact hi.immSep n _ _ _ o hO
    · simp only [hL h1]
      exact hi.immSep m _ _ _ o h3
  · rcases hget hm with ⟨rfl, rfl, rfl, rfl⟩ | ⟨h1, h2, h3⟩
    · simp only [if_true]
      exact .inl ⟨n, _, _, _, hO, rfl⟩
    · simp only [hL h1]
      exact .inl ⟨m, _, _, _, h3, rfl⟩
  · rintro b (⟨m, e, k, ys, hm, hb⟩ | ⟨m, a, o, v, hm, hb⟩ | ⟨m, a, hm, hb⟩)
    rotate_right
    · obtain ⟨q1, q2⟩ := hgetg hm
      simp only [q2] at hb
      exact .inl (.inr (.inr ⟨m, a, q1, hb⟩))
    · rcases hget hm with ⟨rfl, rfl, rfl, rfl⟩ | ⟨h1, h2, h3⟩
      · simp only [if_true] at hb
        exact .inl (.inl ⟨n, _, _, _, hO, hb⟩)
      · simp only [hL h1] at hb
        exact .inl (.inl ⟨m, _, _, _, h3, hb⟩)
    · obtain ⟨q1, q2⟩ := hgeto hm
      simp only [q2] at hb
      exact .inl (.inr (.inl ⟨m, a, o, v, q1, hb⟩))
  · have := R.rowLive (I := I) (L := fun k => if k = O.length then L n else L k) (O := O.set n .dead ++ [.live t s []]) O.length 0 t s [] hnew rfl
    simpa using this
theorem cOp1_sliceL {ty : TypeId} {op : Op} {s : Nat} {x : Opd} {lo hi : Option Opd} (h : cOp1 P ty op = some (.sliceL s x lo hi)) :
    ∃ t el ox olo ohi, op = .slice t ox olo ohi none ∧ P.underlying t = some (.slice el) ∧ cOpd ox = some x ∧ olo.mapM cOpd = some lo ∧ ohi.mapM cOpd = some hi ∧ (∃ inf, P.info? el = some inf ∧ inf.size = s) := by
  cases op <;> simp only [cOp1] at h
  case slice t ox olo ohi mx =>
    split at h
    · cases h
    · rename_i hmx
      obtain rfl : mx = none := by cases mx <;> simp at hmx ⊢
      split at h
      · simp only [Option.bind_eq_bind, Option.bind_eq_some_iff, Option.some.injEq] at h
        obtain ⟨_, _, _, _, _, _, h⟩ := h
        cases h
      · rename_i el ht
        simp only [Option.bind_eq_bind, Option.bind_eq_some_iff, Option.some.injEq] at h
        obtain ⟨inf, hinf, ax, hx, al, hl, ah, hh, h⟩ := h
        cases h
        exact ⟨t, el, ox, olo, ohi, rfl, ht, hx, hl, hh, inf, hinf, rfl⟩
      · cases h
  all_goals (repeat' split at h)
  all_goals first
    | (simp [Option.bind_eq_some_iff] at h; done)
    | (exfalso; simp_all; done)
theorem cOp_sliceL {ty : TypeId} {op : Op} {s : Nat} {x : Opd} {lo hi : Option Opd} (h : cOp P ty op = some (.sliceL s x lo hi)) : cOp1 P ty op = some (.sliceL s x lo hi) := by
  unfold cOp cOpS at h
  simp only [Option.some.injEq] at h
  split at h
  · rename_i b hb
    rcases cOpX_plain hb with ⟨_, _, rfl⟩ | ⟨_, _, _, _, _, rfl⟩ | ⟨_, _, _, _, _, _, rfl⟩ <;> cases h
  · cases h0 : cOp0 P ty op with
    | none => rw [h0] at h; cases h
    | some b =>
      rw [h0] at h
      simp only [Option.getD_some] at h
      subst h
      unfold cOp0 at h0
      split at h0
      · rename_i c
        exfalso
        unfold cCall at h0
        split at h0
        · split at h0
          · cases h0
          · cases h0
          · cases h0
        · split at h0
          · split at h0
            · simp only [Option.map_eq_some_iff] at h0; obtain ⟨_, _, h⟩ := h0; cases h
            · simp only [Option.map_eq_some_iff] at h0; obtain ⟨_, _, h⟩ := h0; cases h
            · cases h0
          · cases h0
        · split at h0
          · split at h0
            · simp only [Option.bind_eq_bind, Option.bind_eq_some_iff, Option.some.injEq] at h0
              obtain ⟨_, _, _, _, _, _, _, _, h⟩ := h0; cases h
            · cases h0
          · cases h0
        · cases h0
      · rw [Option.bind_eq_some_iff] at h0
        obtain ⟨b', hb, hb'⟩ := h0
        split at hb'
        · cases hb'
        · cases hb'; exact hb
theorem cOp_mk {ty : TypeId} {op : Op} {el s b : Nat} {z : AV} {x y : Opd} (h : cOp P ty op = some (.mk el s b z x y)) : cOp1 P ty op = some (.mk el s b z x y) := by
  unfold cOp cOpS at h
  simp only [Option.some.injEq] at h
  split at h
  · rename_i b hb
    rcases cOpX_plain hb with ⟨_, _, rfl⟩ | ⟨_, _, _, _, _, rfl⟩ | ⟨_, _, _, _, _, _, rfl⟩ <;> cases h
  · cases h0 : cOp0 P ty op with
    | none => rw [h0] at h; cases h
    | some bb =>
      rw [h0] at h
      simp only [Option.getD_some] at h
      subst h
      unfold cOp0 at h0
      split at h0
      · rename_i c
        exfalso
        unfold cCall at h0
        split at h0
        · split at h0
          · cases h0
          · cases h0
          · cases h0
        · split at h0
          · split at h0
            · simp only [Option.map_eq_some_iff] at h0; obtain ⟨_, _, h⟩ := h0; cases h
            · simp only [Option.map_eq_some_iff] at h0; obtain ⟨_, _, h⟩ := h0; cases h
            · cases h0
          · cases h0
        · split at h0
          · split at h0
            · simp only [Option.bind_eq_bind, Option.bind_eq_some_iff, Option.some.injEq] at h0
              obtain ⟨_, _, _, _, _, _, _, _, h⟩ := h0; cases h
            · cases h0
          · cases h0
        · cases h0
      · rw [Option.bind_eq_some_iff] at h0
        obtain ⟨b', hb, hb'⟩ := h0
        split at hb'
        · cases hb'
        · cases hb'; exact hb
theorem norefs_rep {z : AV} (h : z.noref = true) : ∀ n : Nat, AV.norefs (List.replicate n z) = true
  | 0 => rfl
  | n + 1 => by simp only [List.replicate_succ, AV.norefs, h, norefs_rep h n, Bool.and_self]
theorem cOp1_mk {ty : TypeId} {op : Op} {el s b : Nat} {z : AV} {x y : Opd} (h : cOp1 P ty op = some (.mk el s b z x y)) : ∃ t ox oy, op = .makeSlice t ox oy := by
  cases op <;> simp only [cOp1] at h
  case makeSlice t ox oy => exact ⟨t, ox, oy, rfl⟩
  all_goals (repeat' split at h)
  all_goals first
    | (cases h; done)
    | (simp [Option.bind_eq_some_iff] at h; done)
    | (exfalso; simp_all; done)
theorem ran_mkF (hi : Inv I L O w) (he : ∀ t, R I L O (e t) (a.tmps.getD t undef)) {ty : TypeId} {op : Op} {d : Option Tmp} {pos : String} {af : Array Edge} {g : Option (Nat × Bool)} {el s b : Nat} {z : AV} {x y : Opd} (hc : cOp1 P ty op = some (.mk el s b z x y)) (hk : wpOp P (.mkF el s b z x y) e O K) :
    Ran P I L O w (execOp a.eval ⟨d, op, ty, pos, af, g⟩) K := by
  obtain ⟨t, ox, oy, rfl⟩ := cOp1_mk hc
  simp only [cOp1, Option.bind_eq_bind, Option.bind_eq_some_iff, Option.some.injEq, AOp.mk.injEq] at hc
  obtain ⟨el', hel, ⟨s', b', z'⟩, hz, ax, hx, ay, hy, hq⟩ := hc
  obtain ⟨rfl, rfl, rfl, rfl, rfl, rfl⟩ := hq
  have ht := cSlice_inv hel
  obtain ⟨i, z0, h1, h2, h3, rfl, rfl, h4, h5, h6, h7⟩ := cElem_inv hz
  have rx := cOpd_sound hx he
  have ry := cOpd_sound hy he
  simp only [wpOp] at hk
  generalize ax.ev e = A at rx hk
  generalize ay.ev e = B at ry hk
  generalize hX : a.eval ox = X at rx
  generalize hY : a.eval oy = Y at ry
  split at hk
  · rename_i n c
    obtain ⟨q1, q2, q3, q4, q5, hk⟩ := hk
    have e1 := rx.exact
    have e2 := ry.exact
    subst e1; subst e2
    have hm : c ≤ 9223372036854775807 := by simpa [maxLen] using q4
    have hrun := run_make (P := P) w t el' i z0 ht h1 h2 .i64 .i64 n c q1 q2 (by omega) hm
    have hmade := RRow.made (I := I) (L := L) (O := O) (cap := c.toNat) (n := n.toNat) (absV_sound h3) h7 h4 h5 (by omega)
    have hno : AV.norefs (List.replicate n.toNat z') = true := norefs_rep q5 _
    obtain ⟨I', hg, hr⟩ := hi.newF (el := el') (s := i.size) (xs := List.replicate n.toNat z') (madeCells z0.cells (c.toNat * i.size)) c.toNat (by simp; omega) (fun k x hx j c hj I' L' O' v hI hv => hv.noref hI (noref_cells (norefs_mem hno x (List.mem_of_getElem? hx)) c (List.mem_of_getElem? hj))) hmade
    rw [List.length_replicate] at hr
    refine ⟨_, _, _, _, _, _, hk, hg, hr, .inl ?_⟩
    simp only [execOp, hX, hY]
    rw [Sem.run_bind, hrun]
    simp
  · exact hk.elim
theorem cOp_isNilP {ty : TypeId} {op : Op} {neg : Bool} {x : Opd} (h : cOp P ty op = some (.pu (.isNilP neg) [x])) :
    ∃ o t y u, op = .binOp o t y (.const (.pointer none)) u ∧ isEqOp o = true ∧ isPtr P t = true ∧ cOpd y = some x ∧ neg = isNeq o := by
  unfold cOp cOpS at h
  simp only [Option.some.injEq] at h
  split at h
  · rename_i b hb
    subst h
    unfold cOpX at hb
    split at hb
    case h_2 o t y u =>
      split at hb
      · rename_i hq
        simp only [Option.bind_eq_bind, Option.bind_eq_some_iff, Option.some.injEq] at hb
        obtain ⟨ax, hx, hb⟩ := hb
        cases hb
        exact ⟨o, t, y, u, rfl, hq.1, hq.2, hx, rfl⟩
      · cases hb
    all_goals (repeat' split at hb)
    all_goals first
      | (cases hb; done)
      | (simp [Option.bind_eq_some_iff] at hb; done)
      | (exfalso; simp only [Option.bind_eq_bind, Option.bind_eq_some_iff, Option.some.injEq] at hb; obtain ⟨_, _, hb⟩ := hb; cases hb; done)
      | (exfalso; simp only [Option.bind_eq_bind, Option.bind_eq_some_iff, Option.some.injEq] at hb; obtain ⟨_, _, hb⟩ := hb; split at hb <;> simp [Option.bind_eq_some_iff] at hb; done)
  · exfalso
    cases h0 : cOp0 P ty op with
    | none => rw [h0] at h; cases h
    | some b =>
      rw [h0] at h
      simp only [Option.getD_some] at h
      subst h
      unfold cOp0 at h0
      split at h0
      · rename_i c
        unfold cCall at h0
        split at h0
        · split at h0
          · cases h0
          · cases h0
          · cases h0
        · split at h0
          · split at h0
            · simp only [Option.map_eq_some_iff] at h0; obtain ⟨_, _, h⟩ := h0; cases h
            · simp only [Option.map_eq_some_iff] at h0; obtain ⟨_, _, h⟩ := h0; cases h
            · cases h0
          · cases h0
        · split at h0
          · split at h0
            · simp only [Option.bind_eq_bind, Option.bind_eq_some_iff, Option.some.injEq] at h0
              obtain ⟨_, _, _, _, _, _, _, _, h⟩ := h0; cases h
            · cases h0
          · cases h0
        · cases h0
      · rw [Option.bind_eq_some_iff] at h0
        obtain ⟨b', hb, hb'⟩ := h0
        split at hb'
        · cases hb'
        · cases hb'
          cases op <;> simp only [cOp1] at hb
          all_goals (repeat' split at hb)
          all_goals first
            | (cases hb; done)
            | (simp [Option.bind_eq_some_iff] at hb; done)
            | (exfalso; simp_all; done)
theorem ran_pnil (hi : Inv I L O w) (he : ∀ t, R I L O (e t) (a.tmps.getD t undef)) {ty : TypeId} {op : Op} {d : Option Tmp} {pos : String} {af : Array Edge} {g : Option (Nat × Bool)} {neg : Bool} {x : Opd} (hc : cOp P ty op = some (.pu (.isNilP neg) [x])) (hk : wpOp P (.pnil neg x) e O K) :
    Ran P I L O w (execOp a.eval ⟨d, op, ty, pos, af, g⟩) K := by
  obtain ⟨o, t, y, u, rfl, ho, ht, hy, rfl⟩ := cOp_isNilP hc
  obtain ⟨el, ht⟩ := isPtr_inv ht
  have rx := cOpd_sound (I := I) (L := L) (O := O) hy he
  have key : ∀ (b : Bool) (v : Option Addr), a.eval y = .pointer v → v.isNone = b → Ran P I L O w (execOp a.eval ⟨d, .binOp o t y (.const (.pointer none)) u, ty, pos, af, g⟩) K ∨ ¬ K (.v (.bool (isNeq o != b))) O := by
    intro b v hv hb
    by_cases hK : K (.v (.bool (isNeq o != b))) O
    · left
      refine Ran.same hi hK (.v _ rfl) ?_
      have he0 : a.eval (.const (.pointer none)) = .pointer none := rfl
      have heq : (Op.equal t (.pointer v) (.pointer none)).run P w = .ok b w := by
        have e1 : Op.equal t (.pointer v) (.pointer none) = Op.equalIn (9999 + 1) t (.pointer v) (.pointer none) := rfl
        rw [e1, Op.equalIn]
        cases v <;> simp at hb <;> subst hb <;> simp [run_underlying ht]
      rcases eq_ops ho with rfl | rfl
      · simp [execOp, he0, hv, eqGuard, Go.binOp, heq, isNeq]
      · simp [execOp, he0, hv, eqGuard, Go.binOp, heq, isNeq]
    · exact .inr hK
  simp only [wpOp] at hk
  split at hk
  · rename_i hx
    rw [hx] at rx
    have hv := rx.exact
    rcases key true none hv rfl with h | h
    · exact h
    · exact (h hk).elim
  · rename_i n len i f hx
    rw [hx] at rx
    split at hk
    · rename_i t' s xs hO
      have hv := rx.ptr_live hO hk.1
      rcases key false _ hv rfl with h | h
      · exact h
      · exact (h hk.2).elim
    · exact hk.elim
  · exact hk.elim
theorem ran_cut (hi : Inv I L O w) (he : ∀ t, R I L O (e t) (a.tmps.getD t undef)) {ty : TypeId} {op : Op} {d : Option Tmp} {pos : String} {af : Array Edge} {g : Option (Nat × Bool)} {s : Nat} {x : Opd} {lo hi' : Option Opd} (hc : cOp1 P ty op = some (.sliceL s x lo hi')) (hk : wpOp P (.cut s x lo hi') e O K) :
    Ran P I L O w (execOp a.eval ⟨d, op, ty, pos, af, g⟩) K := by
  obtain ⟨t, el, ox, olo, ohi, rfl, ht, hx, hl, hh, inf, hinf, rfl⟩ := cOp1_sliceL hc
  have rx := cOpd_sound hx he
  simp only [wpOp] at hk
  generalize x.ev e = A at rx hk
  generalize hX : a.eval ox = X at rx
  cases A
  case nils =>
    obtain ⟨l, hk, hlo⟩ := bound_run hl he hk
    obtain ⟨h, hk, hhi⟩ := bound_run hh he hk
    obtain ⟨rfl, rfl, hk⟩ := hk
    cases rx
    have hb := run_sliceBounds (P := P) (sl := true) (len := 0) (cap := 0) (Nat.zero_le _) hlo (by simpa using hhi) (Int.le_refl _) (Int.le_refl _) (by simp) w
    refine Ran.same hi hk (y := .slice none 0 0) .nils ?_
    simp only [execOp, hX]
    simp at hb
    simp [Instr.sliceAt, Instr.slice, run_underlying ht, hb, sizeOf, typeInfo, hinf]
  case row n len =>
    simp only at hk
    split at hk
    · rename_i t' s' xs hO
      obtain ⟨hlen, rfl, hk⟩ := hk
      obtain ⟨l, hk, hlo⟩ := bound_run hl he hk
      obtain ⟨h, hk, hhi⟩ := bound_run hh he hk
      obtain ⟨rfl, rfl, hk⟩ := hk
      have hv := rx.row_live hO hlen
      subst hv
      obtain ⟨c, ⟨m0z, q1, hm0z⟩, q2, q3, q4, q5, q6⟩ := hi.obj n _ _ _ hO
      have hb := run_sliceBounds (P := P) (sl := true) (len := len) (cap := (L n).cap) (by omega) hlo hhi (Int.le_refl _) (Int.le_refl _) (by omega) w
      obtain ⟨hg, hr⟩ := Good.cut hi hO
      refine ⟨_, _, _, _, _, _, hk, hg, hr, .inl ?_⟩
      simp only [execOp, hX]
      simp at hb
      simp [Instr.sliceAt, Instr.slice, run_underlying ht, hb, sizeOf, typeInfo, hinf, add_lit]
    · exact hk.elim
  all_goals exact hk.elim
theorem op_sound {o : Oper} {ao : AOp} (hc : cOp P o.type o.op = some ao.strip) (hi : Inv I L O w) (he : ∀ t, R I L O (e t) (a.tmps.getD t undef)) (hk : wpOp P ao e O K) {next : Act → World → Prop} {Q : Exit → Act → World → Prop}
    (hn : ∀ x O' y I' L' w', K x O' → Good I L O w I' L' O' w' → R I' L' O' x y → next (a.put o.dst y) w') : o.wp P a w next Q := by
  cases hat : ao.isAt with
  | false => exact op_sound1 hat hc hi he hk hn
  | true =>
    cases ao <;> first | (simp [AOp.isAt] at hat; done) | skip
    case cut s x lo hi' =>
      obtain ⟨dst, op, ty, pos, af, g⟩ := o
      exact (ran_cut hi he (cOp_sliceL hc) hk).wp hn
    case mkF el s b z x y =>
      obtain ⟨dst, op, ty, pos, af, g⟩ := o
      exact (ran_mkF hi he (cOp_mk hc) hk).wp hn
    case mkAt k t s b z x y =>
      simp only [wpOp] at hk
      split at hk
      · rename_i n c hx hy
        obtain ⟨q1, q2, q3, q4, q5, hO, hK⟩ := hk
        have hno : AV.norefs (List.replicate n.toNat z) = true := norefs_rep q5 _
        refine op_sound1 (ao := .mk t s b z x y) rfl hc hi he (K := fun v O' => v = .row O.length n.toNat ∧ O' = O ++ [.live t s (List.replicate n.toNat z)]) (by simp only [wpOp, hx, hy]; exact ⟨by omega, q2, q3, q4, by simp⟩) ?_
        rintro x' O' y' I' L' w' ⟨rfl, rfl⟩ hg hr
        have hv := hr.row_live (show _ = _ from by rw [List.getElem?_append_right (Nat.le_refl _), Nat.sub_self]; rfl) (by simp)
        refine hn _ _ y' _ _ w' hK (hg.move hi hO (by simp; omega) (fun z' hz' c hcc => ?_)) ?_
        · rw [(List.mem_replicate.1 hz').2] at hcc
          exact scoped_cells (noref_scoped _ q5) c hcc
        · rw [hv]
          have := R.rowLive (I := I') (L := moveL L' k O.length) (O := O.set k (.live t s (List.replicate n.toNat z))) k n.toNat t s (List.replicate n.toNat z) (List.getElem?_set_self (List.getElem?_eq_some_iff.1 hO).1) (by simp)
          simpa [moveL] using this
      · exact hk.elim
    case pnil neg x =>
      obtain ⟨dst, op, ty, pos, af, g⟩ := o
      exact (ran_pnil hi he hc hk).wp hn
    case allocAt k t s z =>
      obtain ⟨hz, hO, hK⟩ := hk
      refine op_sound1 (ao := .alloc t s z) rfl hc hi he (K := fun x O' => x = .ptr O.length 1 0 0 ∧ O' = O ++ [.live t s [z]]) ⟨rfl, rfl⟩ ?_
      rintro x O' y I' L' w' ⟨rfl, rfl⟩ hg hr
      have hv := hr.ptr_live (show _ = _ from by rw [List.getElem?_append_right (Nat.le_refl _), Nat.sub_self]; rfl) rfl
      refine hn _ _ y _ _ w' hK (hg.move hi hO (by simp) (fun x hx c hcc => ?_)) ?_
      · simp at hx; subst hx; exact scoped_cells (noref_scoped _ hz) c hcc
      · rw [hv]
        have := R.ptrLive (I := I') (L := moveL L' k O.length) (O := O.set k (.live t s [z])) k 1 0 0 t s [z] (List.getElem?_set_self (List.getElem?_eq_some_iff.1 hO).1) rfl
        simpa [moveL] using this
    case boxAt k t s x =>
      obtain ⟨hx, hO, h1, h2, hK⟩ := hk
      refine op_sound1 (ao := .box t s x) rfl hc hi he (K := fun y O' => y = .ptr O.length 1 0 0 ∧ O' = O ++ [.live t s [x.ev e]]) ⟨h1, h2, rfl, rfl⟩ ?_
      rintro x' O' y I' L' w' ⟨rfl, rfl⟩ hg hr
      have hv := hr.ptr_live (show _ = _ from by rw [List.getElem?_append_right (Nat.le_refl _), Nat.sub_self]; rfl) rfl
      refine hn _ _ y _ _ w' hK (hg.move hi hO (by simp) (fun z hz c hcc => ?_)) ?_
      · simp at hz; subst hz; exact scoped_cells (Opd.scoped_of he hx) c hcc
      · rw [hv]
        have := R.ptrLive (I := I') (L := moveL L' k O.length) (O := O.set k (.live t s [x.ev e])) k 1 0 0 t s [x.ev e] (List.getElem?_set_self (List.getElem?_eq_some_iff.1 hO).1) rfl
        simpa [moveL] using this
    case buildAt k t s len z ps =>
      obtain ⟨hz, hp, hrow⟩ := hk
      have hrow := rowK_scoped he ps _ hp (fun x hx c hc => by
        rw [List.mem_replicate] at hx
        rw [hx.2] at hc
        exact scoped_cells (noref_scoped _ hz) c hc) hrow
      have hlen : ∀ (ps : List (Nat × Opd)) (zs : List AV) {M : List AV → Prop}, rowK e s zs ps M → rowK e s zs ps fun xs => xs.length = zs.length ∧ M xs := by
        intro ps
        induction ps with
        | nil => intro zs M h; exact ⟨rfl, h⟩
        | cons p ps ih =>
          intro zs M h
          obtain ⟨h1, h2, h3, h4⟩ := h
          have := ih _ h4
          rw [List.length_set] at this
          exact ⟨h1, h2, h3, this⟩
      have hrow := hlen ps _ hrow
      rw [List.length_replicate] at hrow
      refine op_sound1 (ao := .buildSlice t s len z ps) rfl hc hi he (K := fun y O' => ∃ xs, (xs.length = len ∧ (∀ x ∈ xs, ∀ c ∈ x.cells, c.inScope O.length = true) ∧ O[k]? = some (.nil t s) ∧ xs ≠ [] ∧ K (.row k len) (O.set k (.live t s xs))) ∧ y = .row O.length len ∧ O' = O ++ [.live t s xs]) ?_ ?_
      · have hmono : ∀ (ps : List (Nat × Opd)) (zs : List AV) {M M' : List AV → Prop}, (∀ xs, M xs → M' xs) → rowK e s zs ps M → rowK e s zs ps M' := by
          intro ps
          induction ps with
          | nil => intro zs M M' hm h; exact hm _ h
          | cons p ps ih => intro zs M M' hm h; obtain ⟨h1, h2, h3, h4⟩ := h; exact ⟨h1, h2, h3, ih _ hm h4⟩
        exact hmono ps _ (fun xs h => ⟨xs, h, rfl, rfl⟩) hrow
      · rintro x' O' y I' L' w' ⟨xs, ⟨hl, hsc, hO, hne, hK⟩, rfl, rfl⟩ hg hr
        have hv := hr.row_live (show _ = _ from by rw [List.getElem?_append_right (Nat.le_refl _), Nat.sub_self]; rfl) hl
        refine hn _ _ y _ _ w' hK (hg.move hi hO hne hsc) ?_
        rw [hv]
        have := R.rowLive (I := I') (L := moveL L' k O.length) (O := O.set k (.live t s xs)) k len t s xs (List.getElem?_set_self (List.getElem?_eq_some_iff.1 hO).1) hl
        simpa [moveL] using this
end
end Go.Ab
/-
  CODE: regions, control, what a function gives back.
-/
namespace Go.Ab
structure AOper where
  guard : Option (Nat × Bool)
  dst : Option Nat
  op : AOp
def AOper.strip (o : AOper) : AOper := { o with op := o.op.strip }
def setD (e : Env) (d : Option Nat) (a : AV) : Env :=
  match d with
  | some t => e.set t a
  | none => e
def wpOps (P : Program) : List AOper → Env → List AObj → (Env → List AObj → Prop) → Prop
  | [], e, O, K => K e O
  | o :: r, e, O, K =>
    match o.guard with
    | none => wpOp P o.op e O fun x O' => wpOps P r (setD e o.dst x) O' K
    | some (t, want) =>
      match e t with
      | .v (.bool b) =>
        (b = want → wpOp P o.op (e.set t (.v (.bool want))) O fun x O' => wpOps P r (setD (e.set t (.v (.bool want))) o.dst x) O' K) ∧
        (b = !want → wpOps P r (setD (e.set t (.v (.bool (!want)))) o.dst (.tup [])) O K)
      | .tup [] => wpOps P r (setD e o.dst (.tup [])) O K
      | _ => False
/- what an operation may look at and may turn: for regions that draw their order -/
/-- what it turns: nothing, an object, one more object, anything -/
inductive EK where
  | nop
  | set (n : Nat)
  | push (n : Nat)
  | any
structure Lab where
  rd : List Nat
  k : EK
instance : Inhabited Lab := ⟨⟨[], .any⟩⟩
/-- rf: the objects that an operand names; N: the next object -/
def labG (o : AOp) (rf : Opd → List Nat) (N : Nat) : Lab :=
  match o with
  | .mkF _ _ _ _ _ _ | .buildF _ _ _ _ _ | .mov _ | .pick _ _ _ | .build _ _ | .bin _ _ _ | .beq _ _ _ | .un _ _ | .convInt _ _ | .fld _ _ _ | .idxS _ _ | .sliceS _ _ _ | .sliceL _ _ _ _ | .ext _ _ | .mkfn _ _ | .lenS _ | .qcall _ _ | .qcallv _ _ => ⟨[], .nop⟩
  | .load _ x | .faddr _ x | .nilc x | .lenL x => ⟨rf x, .nop⟩
  | .iaddr _ x _ | .aaddr _ _ x _ => ⟨rf x, .nop⟩
  | .pu _ as | .rcall _ as => ⟨as.flatMap rf, .nop⟩
  | .alloc _ _ _ | .box _ _ _ | .buildSlice _ _ _ _ _ | .mk _ _ _ _ _ _ | .fcall _ _ _ _ _ => ⟨[], .push N⟩
  | .mkAt k _ _ _ _ _ _ | .allocAt k _ _ _ | .boxAt k _ _ _ | .buildAt k _ _ _ _ _ => ⟨[k], .set k⟩
  | .lcall rd _ _ => ⟨rd, .push N⟩
  | .kcall rd _ _ => ⟨rd, .nop⟩
  | .scall1 _ _ as => match as.flatMap rf with
    | [n] => ⟨[n], .set n⟩
    | _ => ⟨[], .any⟩
  | .store _ x _ => match rf x with
    | [n] => ⟨[n], .set n⟩
    | _ => ⟨[], .any⟩
  | .app _ _ _ x y => match rf x with
    | [n] => ⟨n :: rf y, .set n⟩
    | _ => ⟨[], .any⟩
  | .appS _ _ _ x y => match rf x with
    | [n] => ⟨n :: rf y, .set n⟩
    | _ => ⟨[], .any⟩
  | _ => ⟨[], .any⟩
def labOf (o : AOp) (e : Env) (N : Nat) : Lab := labG o (fun x => refs (x.ev e)) N
def Lab.pure (l : Lab) : Bool := l.rd.isEmpty && (match l.k with | .nop => true | _ => false)
def EK.hits : EK → List Nat → Bool
  | .nop, _ => false
  | .set n, rd => rd.contains n
  | .push n, rd => rd.contains n
  | .any, _ => true
def EK.isAny : EK → Bool
  | .any => true
  | _ => false
def EK.isPush : EK → Bool
  | .push _ => true
  | _ => false
/-- two that stand side by side may change places -/
def pairOk (p i : Lab) : Bool :=
  if p.k.isAny = true then i.pure else if i.k.isAny = true then p.pure else
    !(p.k.hits i.rd) && !(i.k.hits p.rd) && !(p.k.isPush && i.k.isPush)
def Opd.rd : Opd → List Nat
  | .t n => [n]
  | .c _ => []
def optRd : Option Opd → List Nat
  | some x => x.rd
  | none => []
def AOp.reads : AOp → List Nat
  | .mkmap => []
  | .mget _ _ _ m k => m.rd ++ k.rd
  | .mset _ m k v => m.rd ++ k.rd ++ v.rd
  | .pget _ _ m k => m.rd ++ k.rd
  | .pset m k v => m.rd ++ k.rd ++ v.rd
  | .strit x | .snext x | .markS _ x | .s2b _ x | .pnil _ x => x.rd
  | .peq _ x y => x.rd ++ y.rd
  | .stuck => []
  | .buildF _ _ _ _ ps => ps.flatMap fun p => p.2.rd
  | .pu _ as => as.flatMap Opd.rd
  | .mov x | .box _ _ x | .load _ x | .un _ x | .convInt _ x | .faddr _ x | .fld _ _ x | .lenS x | .lenL x | .ext x _ | .nilc x => x.rd
  | .alloc _ _ _ | .allocAt _ _ _ _ => []
  | .boxAt _ _ _ x => x.rd
  | .buildAt _ _ _ _ _ ps => ps.flatMap fun p => p.2.rd
  | .pick c a b => c.rd ++ a.rd ++ b.rd
  | .build _ ps => ps.flatMap fun p => p.2.2.rd
  | .buildSlice _ _ _ _ ps => ps.flatMap fun p => p.2.rd
  | .store _ x y | .bin _ x y | .beq _ x y | .iaddr _ x y | .aaddr _ _ x y | .idxS x y | .app _ _ _ x y | .appS _ _ _ x y | .appZ _ _ _ _ x y | .mk _ _ _ _ x y | .mkF _ _ _ _ x y | .mkAt _ _ _ _ _ x y => x.rd ++ y.rd
  | .sliceS x l h | .sliceL _ x l h | .cut _ x l h => x.rd ++ optRd l ++ optRd h
  | .mkfn _ cs => cs.flatMap Opd.rd
  | .call _ as | .pcall _ as | .qcall _ as | .rcall _ as | .fcall _ _ _ _ as | .scall _ _ as | .scall1 _ _ as | .lcall _ _ as | .kcall _ _ as => as.flatMap Opd.rd
  | .callv x as | .pcallv x as | .qcallv x as => x.rd ++ as.flatMap Opd.rd
def AOper.reads (o : AOper) : List Nat := (match o.guard with | some (t, _) => [t] | none => []) ++ o.op.reads
/-- may p, which stands ahead of i in the text, be carried out behind it? -/
def indepL (p i : AOper × Lab) : Bool :=
  (match p.1.dst with
    | some t => !(i.1.reads.contains t) && !(i.1.dst == some t)
    | none => true) &&
  (match i.1.dst with
    | some t => !(p.1.reads.contains t)
    | none => true) && pairOk p.2 i.2
/-- row n: the operations that stand ahead of operation n by the edges, as bits -/
def cloN (rows : List (List Nat)) : Nat → List Nat
  | 0 => []
  | n + 1 => let acc := cloN rows n; acc ++ [(rows.getD n []).foldl (fun s j => s ||| (2 ^ j ||| acc.getD j 0)) 0]
def drawOkL (rows : List (List Nat)) (al : List (AOper × Lab)) : Bool :=
  let c := cloN rows al.length
  (List.range al.length).all fun i => (rows.getD i []).all (· < i) &&
    (List.range i).all fun p => (c.getD i 0).testBit p || (match al[p]?, al[i]? with | some x, some y => indepL x y | _, _ => false)
/-- the same as wpOps; what each operation looks at and turns is noted -/
def wpOpsL (P : Program) : List AOper → List Lab → Env → List AObj → (List Lab → Env → List AObj → Prop) → Prop
  | [], acc, e, O, K => K acc e O
  | o :: r, acc, e, O, K =>
    match o.guard with
    | none => wpOp P o.op e O fun x O' => wpOpsL P r (acc ++ [labOf o.op e O.length]) (setD e o.dst x) O' K
    | some (t, want) =>
      match e t with
      | .v (.bool b) =>
        (b = want → wpOp P o.op (e.set t (.v (.bool want))) O fun x O' => wpOpsL P r (acc ++ [labOf o.op (e.set t (.v (.bool want))) O.length]) (setD (e.set t (.v (.bool want))) o.dst x) O' K) ∧
        (b = !want → wpOpsL P r (acc ++ [⟨[], .nop⟩]) (setD (e.set t (.v (.bool (!want)))) o.dst (.tup [])) O K)
      | .tup [] => wpOpsL P r (acc ++ [⟨[], .nop⟩]) (setD e o.dst (.tup [])) O K
      | _ => False
inductive AX where
  | normal
  | exit (id : Nat)
  | ret
inductive ACode where
  | skip
  | region (rows : Option (List (List Nat))) (ops : List AOper)
  | seq (a b : ACode)
  | cond (c : Opd) (t f : ACode)
  | block (id : Nat) (b : ACode)
  | loop (b : ACode)
  | exit (id : Nat)
  | ret
  | keep (live : List Nat) (c : ACode)
  | weak (c : ACode)
  /-- a region without a drawn order, in which less may be known ahead of each operation -/
  | regionW (ops : List AOper)
def ACode.strip : ACode → ACode
  | .region d ops => .region d (ops.map AOper.strip)
  | .seq a b => .seq a.strip b.strip
  | .cond c t f => .cond c t.strip f.strip
  | .block id b => .block id b.strip
  | .loop b => .loop b.strip
  | .keep _ c => c.strip
  | .weak c => c.strip
  | .regionW ops => .region none (ops.map AOper.strip)
  | c => c
/-- only these slots are remembered -/
def keepE (live : List Nat) (e : Env) : Env := fun t => if live.contains t then e t else .top
/-- Less may be known: whatever holds before, holds so behind it. -/
def WK (n0 : Nat) (e : Env) (O : List AObj) (e' : Env) (O' : List AObj) : Prop :=
  ∀ (I0 : Imm) (L0 : Nat → Loc) (O0 : List AObj) (w0 : World) (I : Imm) (L : Nat → Loc) (w : World) (f : Nat → Value), O0.length = n0 → Good I0 L0 O0 w0 I L O w → (∀ t, R I L O (e t) (f t)) →
    ∃ I' L', Good I0 L0 O0 w0 I' L' O' w ∧ ∀ t, R I' L' O' (e' t) (f t)
theorem WK.refl (n0 : Nat) (e : Env) (O : List AObj) : WK n0 e O e O := fun _ _ _ _ I L _ _ _ h k => ⟨I, L, h, k⟩
theorem WK.trans {n0 : Nat} {e e' e'' : Env} {O O' O'' : List AObj} (h : WK n0 e O e' O') (k : WK n0 e' O' e'' O'') : WK n0 e O e'' O'' := by
  intro I0 L0 O0 w0 I L w f h0 hg hr
  obtain ⟨I1, L1, g1, r1⟩ := h I0 L0 O0 w0 I L w f h0 hg hr
  exact k I0 L0 O0 w0 I1 L1 w f h0 g1 r1
def wpOpsW (P : Program) (n0 : Nat) : List AOper → Env → List AObj → (Env → List AObj → Prop) → Prop
  | [], e, O, K => ∃ e' O', WK n0 e O e' O' ∧ K e' O'
  | o :: r, e0, O0, K => ∃ e O, WK n0 e0 O0 e O ∧
    match o.guard with
    | none => wpOp P o.op e O fun x O' => wpOpsW P n0 r (setD e o.dst x) O' K
    | some (t, want) =>
      match e t with
      | .v (.bool b) =>
        (b = want → wpOp P o.op (e.set t (.v (.bool want))) O fun x O' => wpOpsW P n0 r (setD (e.set t (.v (.bool want))) o.dst x) O' K) ∧
        (b = !want → wpOpsW P n0 r (setD (e.set t (.v (.bool (!want)))) o.dst (.tup [])) O K)
      | .tup [] => wpOpsW P n0 r (setD e o.dst (.tup [])) O K
      | _ => False
def wpC (P : Program) (n0 : Nat) : ACode → (AX → Env → List AObj → Prop) → Env → List AObj → Prop
  | .skip, Q, e, O => Q .normal e O
  | .region none ops, Q, e, O => wpOps P ops e O (Q .normal)
  | .region (some rows) ops, Q, e, O => ∃ al, al.map AOper.strip = ops.map AOper.strip ∧ wpOpsL P al [] e O fun labs e O => drawOkL rows (al.zip labs) = true ∧ Q .normal e O
  | .seq a b, Q, e, O => wpC P n0 a (fun x e O => match x with | .normal => wpC P n0 b Q e O | x => Q x e O) e O
  | .cond c t f, Q, e, O => match c.ev e with
    | .v (.bool b) => (b = true → wpC P n0 t Q e O) ∧ (b = false → wpC P n0 f Q e O)
    | _ => False
  | .block id b, Q, e, O => wpC P n0 b (fun x e O => match x with | .exit i => if i = id then Q .normal e O else Q (.exit i) e O | x => Q x e O) e O
  | .loop b, Q, e, O => ∃ (J : Nat → Env → List AObj → Prop) (n : Nat), (∃ e' O', WK n0 e O e' O' ∧ J n e' O') ∧
      ∀ n e O, J n e O → wpC P n0 b (fun x e O => match x with | .normal => ∃ m e' O', m < n ∧ WK n0 e O e' O' ∧ J m e' O' | x => Q x e O) e O
  | .exit id, Q, e, O => Q (.exit id) e O
  | .ret, Q, e, O => Q .ret e O
  | .keep live c, Q, e, O => wpC P n0 c (fun x e O => match x with | .normal => Q .normal (keepE live e) O | x => Q x e O) e O
  | .weak c, Q, e, O => ∃ e' O', WK n0 e O e' O' ∧ wpC P n0 c Q e' O'
  | .regionW ops, Q, e, O => wpOpsW P n0 ops e O (Q .normal)
/- what a function gives back -/
inductive ARes where
  | tmp (t : Nat)
  | cell (t : Nat) (n : Option Nat)
def ARes.get (e : Env) (O : List AObj) (r : ARes) (K : AV → Prop) : Prop :=
  match r with
  | .tmp t => K (e t)
  | .cell t n => match e t with
    | .ptr k 1 0 0 => match O[k]? with
      | some (.live _ _ [x]) => n.getD 1 ≤ x.cells.length ∧ K (loadC n x 0)
      | _ => False
    | _ => False
def resK (e : Env) (O : List AObj) : List ARes → List AV → (List AV → Prop) → Prop
  | [], acc, K => K acc.reverse
  | r :: rs, acc, K => r.get e O fun x => resK e O rs (x :: acc) K
def packR : List AV → AV
  | [x] => x
  | xs => .tup xs
/-- behind the body: the results, and what is owned -/
def retK (n0 : Nat) (rs : List ARes) (res : AV) (O' : List AObj) (x : AX) (e : Env) (O : List AObj) : Prop :=
  match x with
  | .exit _ => False
  | _ => resK e O rs [] fun xs => ∃ e', WK n0 (fun t => if t = 0 then packR xs else .top) O e' O' ∧ e' 0 = res
/- FROM THE MODEL's CODE -/
def cGuard (ops : Array Oper) (nt : Nat) (g : Option (Nat × Bool)) : Option (Option (Nat × Bool)) :=
  match g with
  | none => some none
  | some (j, b) => match (ops[j]?).bind (·.dst) with
    | some t => if t < nt then some (some (t, b)) else none
    | none => none
/-- the edges of a region that draws its order -/
def rowsOf (ops : Array Oper) : List (List Nat) := ops.toList.map fun o => (o.after.toList.filter (Region.binds .any)).map (·.on)
def cOper (P : Program) (nt : Nat) (ops : Array Oper) (o : Oper) : Option AOper :=
  match cOp P o.type o.op, cGuard ops nt o.guard with
  | some op, some g => if o.dst.all (· < nt) = true then some ⟨g, o.dst, op⟩ else none
  | _, _ => none
def cCode (P : Program) (nt : Nat) : Code → Option ACode
  | .skip => some .skip
  | .region _ ops false => (ops.toList.mapM (cOper P nt ops)).map (.region none)
  | .region _ ops true => if Region.departs ops = true ∧ P.follows .mixedOrders = false then none else (ops.toList.mapM (cOper P nt ops)).map (.region (some (rowsOf ops)))
  | .seq a b => match cCode P nt a, cCode P nt b with
    | some a, some b => some (.seq a b)
    | _, _ => none
  | .cond c t f => match cOpd c, cCode P nt t, cCode P nt f with
    | some c, some t, some f => some (.cond c t f)
    | _, _, _ => none
  | .block id b => (cCode P nt b).map (.block id)
  | .loop b => (cCode P nt b).map .loop
  | .exit id => some (.exit id)
  | .ret => some .ret
  | _ => none
def cRes (P : Program) (r : ResultVar) : Option ARes :=
  match r with
  | .tmp t => some (.tmp t)
  | .cell t ty => (cWidth P ty).map (.cell t)
/-- THE WHOLE FUNCTION: number of slots, code, results -/
structure AFn where
  nargs : Nat
  nt : Nat
  code : ACode
  res : List ARes
def entryE (args : List AV) : Env := fun t => args.getD t (.tup [])
end Go.Ab
/-
  REGIONS THAT DRAW THEIR ORDER (1): which operations may change places, and that they may.
-/
namespace Go.Ab
/-- 0: hangs on its operands alone · 1: reads what is owned · 2: makes an object · 3: any -/
def AOp.cls : AOp → Nat
  | .mkF _ _ _ _ _ _ | .buildF _ _ _ _ _ | .mov _ | .pick _ _ _ | .build _ _ | .bin _ _ _ | .beq _ _ _ | .un _ _ | .convInt _ _ | .fld _ _ _ | .idxS _ _ | .sliceS _ _ _ | .sliceL _ _ _ _ | .ext _ _ | .mkfn _ _ | .lenS _ | .qcall _ _ | .qcallv _ _ => 0
  | .load _ _ | .faddr _ _ | .nilc _ | .iaddr _ _ _ | .aaddr _ _ _ _ | .lenL _ | .pu _ _ | .rcall _ _ => 1
  | .alloc _ _ _ | .box _ _ _ | .buildSlice _ _ _ _ _ | .mk _ _ _ _ _ _ | .fcall _ _ _ _ _ => 2
  | _ => 3
def agree (l : List Nat) (e e' : Env) : Prop := ∀ t ∈ l, e t = e' t
theorem agree.ev {x : Opd} {e e' : Env} {l : List Nat} (h : agree l e e') (hx : ∀ t ∈ x.rd, t ∈ l) : x.ev e = x.ev e' := by
  cases x with
  | t n => exact h n (hx n (by simp [Opd.rd]))
  | c a => rfl
theorem agree.evs {xs : List Opd} {e e' : Env} {l : List Nat} (h : agree l e e') (hx : ∀ t ∈ xs.flatMap Opd.rd, t ∈ l) : xs.map (Opd.ev e) = xs.map (Opd.ev e') := by
  apply List.map_congr_left
  intro x hm
  exact h.ev fun t ht => hx t (List.mem_flatMap.2 ⟨x, hm, ht⟩)
theorem boundK_congr {d : Int} {e e' : Env} {x : Option Opd} {l : List Nat} (h : agree l e e') (hx : ∀ t ∈ optRd x, t ∈ l) (K : Int → Prop) : boundK d e x K = boundK d e' x K := by
  cases x with
  | none => rfl
  | some o => simp only [boundK]; rw [h.ev hx]
theorem buildK_congr {e e' : Env} {l : List Nat} (h : agree l e e') : ∀ (ps : List (Nat × Nat × Opd)) (z : List AV) (K : AV → Prop), (∀ t ∈ ps.flatMap (fun p => p.2.2.rd), t ∈ l) → buildK e z ps K = buildK e' z ps K
  | [], _, _, _ => rfl
  | (off, size, x) :: r, z, K, hx => by
    simp only [buildK]
    rw [h.ev (x := x) fun t ht => hx t (by simp [ht]), buildK_congr h r _ K fun t ht => hx t (by simp only [List.flatMap_cons, List.mem_append]; exact .inr ht)]
theorem rowK_congr {e e' : Env} {l : List Nat} (h : agree l e e') (s : Nat) : ∀ (ps : List (Nat × Opd)) (z : List AV) (K : List AV → Prop), (∀ t ∈ ps.flatMap (fun p => p.2.rd), t ∈ l) → rowK e s z ps K = rowK e' s z ps K
  | [], _, _, _ => rfl
  | (i, x) :: r, z, K, hx => by
    simp only [rowK]
    rw [h.ev (x := x) fun t ht => hx t (by simp [ht]), rowK_congr h s r _ K fun t ht => hx t (by simp only [List.flatMap_cons, List.mem_append]; exact .inr ht)]
theorem wpOp_congr {P : Program} {o : AOp} {e e' : Env} (h : agree o.reads e e') (O : List AObj) (K : AV → List AObj → Prop) : wpOp P o e O K = wpOp P o e' O K := by
  cases o <;> simp only [AOp.reads] at h <;> simp only [wpOp]
  case mov x => rw [h.ev fun t ht => ht]
  case pick c a b => rw [h.ev (x := c) (by simp +contextual), h.ev (x := a) (by simp +contextual), h.ev (x := b) (by simp +contextual)]
  case box t s x => rw [h.ev fun t ht => ht]
  case build z ps => exact buildK_congr h ps z _ fun t ht => ht
  case buildSlice t s len z ps => exact rowK_congr h s ps _ _ fun t ht => ht
  case buildF t s len z ps => exact rowK_congr h s ps _ _ fun t ht => ht
  case pu o as =>
    have hm : (as.map fun x => frz O (x.ev e)) = as.map fun x => frz O (x.ev e') := List.map_congr_left fun x hx => by rw [h.ev (x := x) fun t ht => List.mem_flatMap.2 ⟨x, hx, ht⟩]
    rw [hm]
  case appS t s b x y => rw [h.ev (x := x) (by simp +contextual), h.ev (x := y) (by simp +contextual)]
  case load n x => rw [h.ev fun t ht => ht]
  case store m x y => rw [h.ev (x := x) (by simp +contextual), h.ev (x := y) (by simp +contextual)]
  case bin op x y => rw [h.ev (x := x) (by simp +contextual), h.ev (x := y) (by simp +contextual)]
  case beq neg x y => rw [h.ev (x := x) (by simp +contextual), h.ev (x := y) (by simp +contextual)]
  case un op x => rw [h.ev fun t ht => ht]
  case convInt k x => rw [h.ev fun t ht => ht]
  case faddr k x => rw [h.ev fun t ht => ht]
  case fld k n x => rw [h.ev fun t ht => ht]
  case iaddr s x y => rw [h.ev (x := x) (by simp +contextual), h.ev (x := y) (by simp +contextual)]
  case aaddr m s x y => rw [h.ev (x := x) (by simp +contextual), h.ev (x := y) (by simp +contextual)]
  case idxS x y => rw [h.ev (x := x) (by simp +contextual), h.ev (x := y) (by simp +contextual)]
  case sliceS x lo hi =>
    have e1 := fun d K => boundK_congr (d := d) (x := lo) h (by simp +contextual) K
    have e2 := fun d K => boundK_congr (d := d) (x := hi) h (by simp +contextual) K
    rw [h.ev (x := x) (by simp +contextual)]
    simp only [e1, e2]
  case sliceL s x lo hi =>
    have e1 := fun d K => boundK_congr (d := d) (x := lo) h (by simp +contextual) K
    have e2 := fun d K => boundK_congr (d := d) (x := hi) h (by simp +contextual) K
    rw [h.ev (x := x) (by simp +contextual)]
    simp only [e1, e2]
  case appZ t s b z x y => rw [h.ev (x := x) (by simp +contextual), h.ev (x := y) (by simp +contextual)]
  case cut s x lo hi =>
    have e1 := fun d K => boundK_congr (d := d) (x := lo) h (by simp +contextual) K
    have e2 := fun d K => boundK_congr (d := d) (x := hi) h (by simp +contextual) K
    rw [h.ev (x := x) (by simp +contextual)]
    simp only [e1, e2]
  case mkF t s b z x y => rw [h.ev (x := x) (by simp +contextual), h.ev (x := y) (by simp +contextual)]
  case mkAt k t s b z x y => rw [h.ev (x := x) (by simp +contextual), h.ev (x := y) (by simp +contextual)]
  case mk t s b z x y => rw [h.ev (x := x) (by simp +contextual), h.ev (x := y) (by simp +contextual)]
  case lenS x => rw [h.ev fun t ht => ht]
  case lenL x => rw [h.ev fun t ht => ht]
  case app t s b x y => rw [h.ev (x := x) (by simp +contextual), h.ev (x := y) (by simp +contextual)]
  case ext x i => rw [h.ev fun t ht => ht]
  case nilc x => rw [h.ev fun t ht => ht]
  case mkfn f cs => rw [h.evs fun t ht => ht]
  case call f as => rw [h.evs fun t ht => ht]
  case callv x as => rw [h.ev (x := x) (by simp +contextual), h.evs (xs := as) (by simp +contextual)]
  case pcall f as =>
    have hm : (as.map fun x => frz O (x.ev e)) = as.map fun x => frz O (x.ev e') := List.map_congr_left fun x hx => by rw [h.ev (x := x) fun t ht => List.mem_flatMap.2 ⟨x, hx, ht⟩]
    rw [hm, h.evs fun t ht => ht]
  case pcallv x as =>
    have hm : (as.map fun x => frz O (x.ev e)) = as.map fun x => frz O (x.ev e') := List.map_congr_left fun x hx => by rw [h.ev (x := x) fun t ht => List.mem_append_right _ (List.mem_flatMap.2 ⟨x, hx, ht⟩)]
    rw [hm, h.ev (x := x) (by simp +contextual), h.evs (xs := as) (by simp +contextual)]
  case qcall f as => rw [h.evs fun t ht => ht]
  case rcall f as =>
    have hm : (as.map fun x => frz O (x.ev e)) = as.map fun x => frz O (x.ev e') := List.map_congr_left fun x hx => by rw [h.ev (x := x) fun t ht => List.mem_flatMap.2 ⟨x, hx, ht⟩]
    rw [hm]
  case fcall nl t s f as => rw [h.evs fun t ht => ht]
  case mget ok d z m k => rw [h.ev (x := m) (by simp +contextual), h.ev (x := k) (by simp +contextual)]
  case pget ok z m k => rw [h.ev (x := m) (by simp +contextual), h.ev (x := k) (by simp +contextual)]
  case pset m k v => rw [h.ev (x := m) (by simp +contextual), h.ev (x := k) (by simp +contextual), h.ev (x := v) (by simp +contextual)]
  case strit x => rw [h.ev fun t ht => ht]
  case snext x => rw [h.ev fun t ht => ht]
  case markS t x => rw [h.ev fun t ht => ht]
  case s2b t x => rw [h.ev fun t ht => ht]
  case pnil neg x => rw [h.ev fun t ht => ht]
  case peq neg x y => rw [h.ev (x := x) (by simp +contextual), h.ev (x := y) (by simp +contextual)]
  case mset d m k v => rw [h.ev (x := m) (by simp +contextual), h.ev (x := k) (by simp +contextual), h.ev (x := v) (by simp +contextual)]
  case lcall rd f as => rw [h.evs fun t ht => ht]
  case kcall rd f as => rw [h.evs fun t ht => ht]
  case boxAt k t s x => rw [h.ev fun t ht => ht]
  case buildAt k t s len z ps =>
    have := rowK_congr h s ps (List.replicate len z) (fun xs => O[k]? = some (.nil t s) ∧ xs ≠ [] ∧ K (.row k len) (O.set k (.live t s xs))) fun t ht => ht
    rw [this]
  case scall gs f as => rw [h.evs fun t ht => ht]
  case scall1 gs f as =>
    have hm : (as.flatMap fun x => refs (x.ev e)) = as.flatMap fun x => refs (x.ev e') := by
      simp only [← List.flatMap_map (Opd.ev e) refs, ← List.flatMap_map (Opd.ev e') refs]
      rw [h.evs fun t ht => ht]
    rw [h.evs fun t ht => ht, hm]
  case qcallv x as => rw [h.ev (x := x) (by simp +contextual), h.evs (xs := as) (by simp +contextual)]
/-- what an operation gives, for whoever goes on -/
def Ex (P : Program) (o : AOp) (e : Env) (O : List AObj) (x : AV) (O' : List AObj) : Prop := ∀ K : AV → List AObj → Prop, K x O' → wpOp P o e O K
theorem buildK_ex {e : Env} : ∀ (ps : List (Nat × Nat × Opd)) (z : List AV) {K : AV → Prop}, buildK e z ps K → ∃ x, K x ∧ ∀ K' : AV → Prop, K' x → buildK e z ps K'
  | [], _, _, h => ⟨_, h, fun _ h => h⟩
  | (off, size, x) :: r, z, K, h => by
    obtain ⟨h1, h2, h3, h4⟩ := h
    obtain ⟨y, h5, h6⟩ := buildK_ex r _ h4
    exact ⟨y, h5, fun K' h => ⟨h1, h2, h3, h6 K' h⟩⟩
theorem rowK_ex {e : Env} {s : Nat} : ∀ (ps : List (Nat × Opd)) (z : List AV) {K : List AV → Prop}, rowK e s z ps K → ∃ x, K x ∧ ∀ K' : List AV → Prop, K' x → rowK e s z ps K'
  | [], _, _, h => ⟨_, h, fun _ h => h⟩
  | (i, x) :: r, z, K, h => by
    obtain ⟨h1, h2, h3, h4⟩ := h
    obtain ⟨y, h5, h6⟩ := rowK_ex r _ h4
    exact ⟨y, h5, fun K' h => ⟨h1, h2, h3, h6 K' h⟩⟩
theorem boundK_ex {d : Int} {e : Env} {x : Option Opd} {K : Int → Prop} (h : boundK d e x K) : ∃ i, K i ∧ ∀ K' : Int → Prop, K' i → boundK d e x K' := by
  cases x with
  | none => exact ⟨_, h, fun _ h => h⟩
  | some o =>
    simp only [boundK] at h ⊢
    split at h
    · exact ⟨_, h, fun _ h => h⟩
    · exact h.elim
/-- what hangs on its operands alone -/
theorem ex0 {P : Program} {o : AOp} (hc : o.cls = 0) {e : Env} {O : List AObj} {K : AV → List AObj → Prop} (h : wpOp P o e O K) :
    ∃ x, K x O ∧ ∀ O', Ex P o e O' x O' := by
  cases o <;> simp only [AOp.cls] at hc <;> first | (cases hc; done) | skip
  case mov x => exact ⟨_, h, fun O' K' h' => h'⟩
  case pick c a b =>
    simp only [wpOp] at h
    split at h
    · rename_i t ht; exact ⟨_, h, fun O' K' h' => by simp only [wpOp, ht]; exact h'⟩
    · exact h.elim
  case build z ps =>
    obtain ⟨x, h1, h2⟩ := buildK_ex ps z h
    exact ⟨x, h1, fun O' K' h' => h2 (fun a => K' a O') h'⟩
  case mkF t s b z x y =>
    simp only [wpOp] at h
    split at h
    · rename_i n c hx hy
      obtain ⟨h1, h2, h3, h4, h5, h6⟩ := h
      exact ⟨_, h6, fun O' K' h' => by simp only [wpOp, hx, hy]; exact ⟨h1, h2, h3, h4, h5, h'⟩⟩
    · exact h.elim
  case buildF t s len z ps =>
    obtain ⟨xs, ⟨hno, h1⟩, h2⟩ := rowK_ex ps _ h
    exact ⟨_, h1, fun O' K' h' => h2 (fun xs => AV.norefs xs = true ∧ K' (.sl xs) O') ⟨hno, h'⟩⟩
  case beq neg x y =>
    simp only [wpOp] at h
    split at h
    · rename_i a b ha hb
      exact ⟨_, h, fun O' K' h' => by simp only [wpOp, ha, hb]; exact h'⟩
    · exact h.elim
  case bin op x y =>
    simp only [wpOp] at h
    split at h
    · rename_i a b ha hb
      split at h
      · rename_i z hz; exact ⟨_, h, fun O' K' h' => by simp only [wpOp, ha, hb, hz]; exact h'⟩
      · exact h.elim
    · exact h.elim
  case un op x =>
    simp only [wpOp] at h
    split at h
    · rename_i a ha
      split at h
      · rename_i z hz; exact ⟨_, h, fun O' K' h' => by simp only [wpOp, ha, hz]; exact h'⟩
      · exact h.elim
    · exact h.elim
  case convInt k x =>
    simp only [wpOp] at h
    split at h
    · rename_i k' n ha; exact ⟨_, h, fun O' K' h' => by simp only [wpOp, ha]; exact h'⟩
    · exact h.elim
  case fld off n x => exact ⟨_, h.2.2, fun O' K' h' => ⟨h.1, h.2.1, h'⟩⟩
  case idxS x i =>
    simp only [wpOp] at h
    split at h
    · rename_i s k j ha hb; exact ⟨_, h.2.2, fun O' K' h' => by simp only [wpOp, ha, hb]; exact ⟨h.1, h.2.1, h'⟩⟩
    · exact h.elim
  case sliceS x lo hi =>
    simp only [wpOp] at h
    split at h
    · rename_i s ha
      obtain ⟨l, h1, h2⟩ := boundK_ex h
      obtain ⟨u, h3, h4⟩ := boundK_ex h1
      exact ⟨_, h3.2.2.2, fun O' K' h' => by simp only [wpOp, ha]; exact h2 _ (h4 _ ⟨h3.1, h3.2.1, h3.2.2.1, h'⟩)⟩
    · exact h.elim
  case sliceL s x lo hi =>
    simp only [wpOp] at h
    split at h
    · rename_i s ha
      obtain ⟨l, h1, h2⟩ := boundK_ex h
      obtain ⟨u, h3, h4⟩ := boundK_ex h1
      exact ⟨_, h3.2.2.2.2, fun O' K' h' => by simp only [wpOp, ha]; exact h2 _ (h4 _ ⟨h3.1, h3.2.1, h3.2.2.1, h3.2.2.2.1, h'⟩)⟩
    · exact h.elim
  case lenS x =>
    simp only [wpOp] at h
    split at h
    · rename_i s ha; exact ⟨_, h, fun O' K' h' => by simp only [wpOp, ha]; exact h'⟩
    · exact h.elim
  case ext x i =>
    simp only [wpOp] at h
    split at h
    · rename_i vs ha; exact ⟨_, h.2, fun O' K' h' => by simp only [wpOp, ha]; exact ⟨h.1, h'⟩⟩
    · exact h.elim
  case mkfn f cs => exact ⟨_, h, fun O' K' h' => h'⟩
  case qcall f as =>
    obtain ⟨r, h1, h2, h3⟩ := h
    exact ⟨r, h3, fun O' K' h' => ⟨r, h1, h2, h'⟩⟩
  case qcallv x as =>
    simp only [wpOp] at h
    split at h
    · rename_i f caps ha
      obtain ⟨r, h1, h2, h3⟩ := h
      exact ⟨r, h3, fun O' K' h' => by simp only [wpOp, ha]; exact ⟨r, h1, h2, h'⟩⟩
    · exact h.elim
/-- the same objects, where they are looked at -/
def agreeO (rd : List Nat) (O O' : List AObj) : Prop := ∀ n ∈ rd, O'[n]? = O[n]?
theorem frz_agree {O O' : List AObj} {a : AV} (h : agreeO (refs a) O O') : frz O' a = frz O a := by
  cases a with
  | row n len => simp only [frz, h n (by simp [refs])]
  | own n => simp only [frz, h n (by simp [refs])]
  | _ => rfl
theorem frzs_agree {O O' : List AObj} {e : Env} {as : List Opd} (h : agreeO (as.flatMap fun x => refs (x.ev e)) O O') : (as.map fun x => frz O' (x.ev e)) = as.map fun x => frz O (x.ev e) :=
  List.map_congr_left fun x hx => frz_agree fun n hn => h n (List.mem_flatMap.2 ⟨x, hx, hn⟩)
/-- what reads -/
theorem ex1 {P : Program} {o : AOp} (hc : o.cls = 1) {e : Env} {O : List AObj} {K : AV → List AObj → Prop} (h : wpOp P o e O K) :
    ∃ x, K x O ∧ ∀ O' N, agreeO (labOf o e N).rd O O' → Ex P o e O' x O' := by
  cases o <;> simp only [AOp.cls] at hc <;> first | (cases hc; done) | skip
  case pu o as =>
    obtain ⟨hn, hk⟩ := h
    unfold puK at hk
    split at hk
    · rename_i v hv
      refine ⟨v, hk, fun O' N ha K' h' => ?_⟩
      have hm := frzs_agree (O := O) (O' := O') (e := e) (as := as) ha
      exact ⟨by rw [hm]; exact hn, by rw [hm]; unfold puK; rw [hv]; exact h'⟩
    · exact hk.elim
  case rcall f as =>
    obtain ⟨r, h1, h2, h3, h4⟩ := h
    refine ⟨r, h4, fun O' N ha K' h' => ?_⟩
    have hm := frzs_agree (O := O) (O' := O') (e := e) (as := as) ha
    exact ⟨r, h1, by rw [hm]; exact h2, by rw [hm]; exact h3, h'⟩
  case load n x =>
    simp only [wpOp] at h
    split at h
    · rename_i y f ha; exact ⟨_, h.2, fun O' N hg K' h' => by simp only [wpOp, ha]; exact ⟨h.1, h'⟩⟩
    · rename_i k len i f ha
      split at h
      · rename_i t s xs hO
        obtain ⟨h1, h2, h3, h4⟩ := h
        exact ⟨_, h4, fun O' N hg K' h' => by
          have hO' := hg k (by simp [labOf, labG, ha, refs])
          simp only [wpOp, ha, hO', hO]; exact ⟨h1, h2, h3, h'⟩⟩
      · exact h.elim
    · exact h.elim
  case faddr off x =>
    simp only [wpOp] at h
    split at h
    · rename_i y f ha; exact ⟨_, h, fun O' N hg K' h' => by simp only [wpOp, ha]; exact h'⟩
    · rename_i k len i f ha
      split at h
      · rename_i t s xs hO
        exact ⟨_, h.2, fun O' N hg K' h' => by
          have hO' := hg k (by simp [labOf, labG, ha, refs])
          simp only [wpOp, ha, hO', hO]; exact ⟨h.1, h'⟩⟩
      · exact h.elim
    · exact h.elim
  case nilc x =>
    simp only [wpOp] at h
    split at h
    · rename_i y f ha; exact ⟨_, h, fun O' N hg K' h' => by simp only [wpOp, ha]; exact h'⟩
    · rename_i y f ha; exact ⟨_, h, fun O' N hg K' h' => by simp only [wpOp, ha]; exact h'⟩
    · rename_i k len i f ha
      split at h
      · rename_i t s xs hO
        exact ⟨_, h.2, fun O' N hg K' h' => by
          have hO' := hg k (by simp [labOf, labG, ha, refs])
          simp only [wpOp, ha, hO', hO]; exact ⟨h.1, h'⟩⟩
      · exact h.elim
    · exact h.elim
  case iaddr s x y =>
    simp only [wpOp] at h
    split at h
    · rename_i xs k i ha hb
      obtain ⟨h1, h2, h3, h4⟩ := h
      exact ⟨_, h4, fun O' N hg K' h' => by simp only [wpOp, ha, hb]; exact ⟨h1, h2, h3, h'⟩⟩
    · rename_i n len k i ha hb
      split at h
      · rename_i t s' xs hO
        obtain ⟨h1, h2, h3, h4, h5⟩ := h
        exact ⟨_, h5, fun O' N hg K' h' => by
          have hO' := hg n (by simp [labOf, labG, ha, refs])
          simp only [wpOp, ha, hb, hO', hO]; exact ⟨h1, h2, h3, h4, h'⟩⟩
      · exact h.elim
    · exact h.elim
  case aaddr m s x y =>
    simp only [wpOp] at h
    split at h
    · rename_i b f k i ha hb
      obtain ⟨h1, h2, h3⟩ := h
      exact ⟨_, h3, fun O' N hg K' h' => by simp only [wpOp, ha, hb]; exact ⟨h1, h2, h'⟩⟩
    · rename_i n len j f k i ha hb
      split at h
      · rename_i t s' xs hO
        obtain ⟨h1, h2, h3, h4⟩ := h
        exact ⟨_, h4, fun O' N hg K' h' => by
          have hO' := hg n (by simp [labOf, labG, ha, refs])
          simp only [wpOp, ha, hb, hO', hO]; exact ⟨h1, h2, h3, h'⟩⟩
      · exact h.elim
    · exact h.elim
  case lenL x =>
    simp only [wpOp] at h
    split at h
    · rename_i ha; exact ⟨_, h, fun O' N hg K' h' => by simp only [wpOp, ha]; exact h'⟩
    · rename_i xs ha; exact ⟨_, h, fun O' N hg K' h' => by simp only [wpOp, ha]; exact h'⟩
    · rename_i k len ha
      have hO' : ∀ O' N, agreeO (labOf (.lenL x) e N).rd O O' → O'[k]? = O[k]? := fun O' N hg => hg k (by simp [labOf, labG, ha, refs])
      split at h
      · rename_i t s xs hO
        exact ⟨_, h.2, fun O' N hg K' h' => by simp only [wpOp, ha, hO' O' N hg, hO]; exact ⟨h.1, h'⟩⟩
      · rename_i t s hO
        exact ⟨_, h.2, fun O' N hg K' h' => by simp only [wpOp, ha, hO' O' N hg, hO]; exact ⟨h.1, h'⟩⟩
      · exact h.elim
    · exact h.elim
/-- what makes an object -/
theorem ex2 {P : Program} {o : AOp} (hc : o.cls = 2) {e : Env} {O : List AObj} {K : AV → List AObj → Prop} (h : wpOp P o e O K) :
    ∃ x b, K x (O ++ [b]) ∧ ∀ O', O'.length = O.length → Ex P o e O' x (O' ++ [b]) := by
  cases o <;> simp only [AOp.cls] at hc <;> first | (cases hc; done) | skip
  case alloc t s z => exact ⟨_, _, h, fun O' hl K' h' => by simp only [wpOp, hl]; exact h'⟩
  case box t s x => exact ⟨_, _, h.2.2, fun O' hl K' h' => by simp only [wpOp, hl]; exact ⟨h.1, h.2.1, h'⟩⟩
  case buildSlice t s len z ps =>
    obtain ⟨xs, h1, h2⟩ := rowK_ex ps _ h
    exact ⟨.row O.length len, .live t s xs, h1, fun O' hl K' h' => by simp only [wpOp]; exact h2 (fun ys => K' (.row O'.length len) (O' ++ [AObj.live t s ys])) (by rw [hl]; exact h')⟩
  case fcall nl t s f as =>
    obtain ⟨res, ob, h1, h2, h3⟩ := h
    exact ⟨_, _, h3, fun O' hl K' h' => ⟨res, ob, h1, h2, by rw [hl]; exact h'⟩⟩
  case mk t s b z x y =>
    simp only [wpOp] at h
    split at h
    · rename_i n c ha hb
      obtain ⟨h1, h2, h3, h4, h5⟩ := h
      exact ⟨_, _, h5, fun O' hl K' h' => by simp only [wpOp, ha, hb, hl]; exact ⟨h1, h2, h3, h4, h'⟩⟩
    · exact h.elim
theorem srcK_ex {O : List AObj} {y : AV} {K : List AV → Prop} (h : srcK O y K) : ∃ ys, K ys ∧ ∀ K' : List AV → Prop, K' ys → srcK O y K' := by
  unfold srcK at h
  split at h
  · exact ⟨_, h, fun K' h' => h'⟩
  · exact ⟨_, h, fun K' h' => h'⟩
  · rename_i n len
    split at h
    · rename_i t s xs hO; exact ⟨_, h.2, fun K' h' => by simp only [srcK, hO]; exact ⟨h.1, h'⟩⟩
    · rename_i t s hO; exact ⟨_, h.2, fun K' h' => by simp only [srcK, hO]; exact ⟨h.1, h'⟩⟩
    · exact h.elim
  · exact h.elim
theorem appK_ex {O : List AObj} {x : AV} {t s b : Nat} {ys : List AV} {K : AV → List AObj → Prop} (h : appK O x t s b ys K) : ∃ r O', K r O' ∧ ∀ K' : AV → List AObj → Prop, K' r O' → appK O x t s b ys K' := by
  unfold appK at h
  split at h
  · obtain ⟨h1, h2, h3, h4⟩ := h
    by_cases hy : ys = []
    · exact ⟨_, _, h3 hy, fun K' h' => ⟨h1, h2, fun _ => h', fun hn => (hn hy).elim⟩⟩
    · exact ⟨_, _, h4 hy, fun K' h' => ⟨h1, h2, fun hn => (hy hn).elim, fun _ => h'⟩⟩
  · rename_i n len
    split at h
    · rename_i t' s' xs hO
      obtain ⟨h1, h2, h3, h4, h5, h6⟩ := h
      exact ⟨_, _, h6, fun K' h' => by simp only [appK, hO]; exact ⟨h1, h2, h3, h4, h5, h'⟩⟩
    · rename_i t' s' hO
      obtain ⟨h1, h2, h3, h4, h5, h6, h7⟩ := h
      by_cases hy : ys = []
      · exact ⟨_, _, h6 hy, fun K' h' => by simp only [appK, hO]; exact ⟨h1, h2, h3, h4, h5, fun _ => h', fun hn => (hn hy).elim⟩⟩
      · exact ⟨_, _, h7 hy, fun K' h' => by simp only [appK, hO]; exact ⟨h1, h2, h3, h4, h5, fun hn => (hy hn).elim, fun _ => h'⟩⟩
    · exact h.elim
  · exact h.elim
/-- any operation -/
theorem exAny {P : Program} {o : AOp} {e : Env} {O : List AObj} {K : AV → List AObj → Prop} (h : wpOp P o e O K) : ∃ x O', K x O' ∧ Ex P o e O x O' := by
  by_cases h0 : o.cls = 0
  · obtain ⟨x, h1, h2⟩ := ex0 h0 h; exact ⟨x, O, h1, h2 O⟩
  by_cases h1 : o.cls = 1
  · obtain ⟨x, h1, h2⟩ := ex1 h1 h; exact ⟨x, O, h1, h2 O 0 fun _ _ => rfl⟩
  by_cases h2 : o.cls = 2
  · obtain ⟨x, b, h1, h2⟩ := ex2 h2 h; exact ⟨x, _, h1, h2 O rfl⟩
  cases o <;> first | (exact (h0 rfl).elim) | (exact (h1 rfl).elim) | (exact (h2 rfl).elim) | skip
  case stuck => exact h.elim
  case appZ t s b z x y =>
    simp only [wpOp] at h
    split at h
    · rename_i k ha hb
      exact ⟨_, _, h.2.2.2, fun K' h' => by simp only [wpOp, ha, hb]; exact ⟨h.1, h.2.1, h.2.2.1, h'⟩⟩
    · exact h.elim
  case cut s x lo hi =>
    simp only [wpOp] at h
    split at h
    · rename_i ha
      obtain ⟨l, h1, h2⟩ := boundK_ex h
      obtain ⟨u, h3, h4⟩ := boundK_ex h1
      exact ⟨_, _, h3.2.2, fun K' h' => by simp only [wpOp, ha]; exact h2 _ (h4 _ ⟨h3.1, h3.2.1, h'⟩)⟩
    · rename_i n len ha
      split at h
      · rename_i t s' xs hO
        obtain ⟨q1, q2, h⟩ := h
        obtain ⟨l, h1, h2⟩ := boundK_ex h
        obtain ⟨u, h3, h4⟩ := boundK_ex h1
        exact ⟨_, _, h3.2.2, fun K' h' => by simp only [wpOp, ha, hO]; exact ⟨q1, q2, h2 _ (h4 _ ⟨h3.1, h3.2.1, h'⟩)⟩⟩
      · exact h.elim
    · exact h.elim
  case appS t s b x y =>
    simp only [wpOp] at h
    split at h
    · rename_i sb hsb
      obtain ⟨r, O', h1, h2⟩ := appK_ex h.2
      exact ⟨r, O', h1, fun K' h' => by simp only [wpOp, hsb]; exact ⟨h.1, h2 K' h'⟩⟩
    · exact h.elim
  case store m x y =>
    simp only [wpOp] at h
    split at h
    · rename_i k len i f ha
      split at h
      · rename_i t s xs hO
        obtain ⟨q1, q2, q3, q4, q5, q6⟩ := h
        exact ⟨_, _, q6, fun K' h' => by simp only [wpOp, ha, hO]; exact ⟨q1, q2, q3, q4, q5, h'⟩⟩
      · exact h.elim
    · exact h.elim
  case app t s b x y =>
    simp only [wpOp] at h
    obtain ⟨ys, q1, q2⟩ := srcK_ex h
    obtain ⟨r, O', q3, q4⟩ := appK_ex q1.2
    exact ⟨r, O', q3, fun K' h' => by simp only [wpOp]; exact q2 _ ⟨q1.1, q4 K' h'⟩⟩
  case call f as =>
    obtain ⟨r, O', q1, q2⟩ := h
    exact ⟨r, O', q2, fun K' h' => ⟨r, O', q1, h'⟩⟩
  case allocAt k t s z => exact ⟨_, _, h.2.2, fun K' h' => ⟨h.1, h.2.1, h'⟩⟩
  case mkAt k t s b z x y =>
    simp only [wpOp] at h
    split at h
    · rename_i n c hx hy
      obtain ⟨h1, h2, h3, h4, h5, h6, h7⟩ := h
      exact ⟨_, _, h7, fun K' h' => by simp only [wpOp, hx, hy]; exact ⟨h1, h2, h3, h4, h5, h6, h'⟩⟩
    · exact h.elim
  case boxAt k t s x => exact ⟨_, _, h.2.2.2.2, fun K' h' => ⟨h.1, h.2.1, h.2.2.1, h.2.2.2.1, h'⟩⟩
  case buildAt k t s len z ps =>
    obtain ⟨xs, ⟨h1, h2, h3⟩, h4⟩ := rowK_ex ps _ h.2.2
    exact ⟨_, _, h3, fun K' h' => ⟨h.1, h.2.1, h4 (fun xs => O[k]? = some (.nil t s) ∧ xs ≠ [] ∧ K' (.row k len) (O.set k (AObj.live t s xs))) ⟨h1, h2, h'⟩⟩⟩
  case scall gs f as =>
    obtain ⟨r, O', q1, q2⟩ := h
    exact ⟨r, O', q2, fun K' h' => ⟨r, O', q1, h'⟩⟩
  case mkmap => exact ⟨_, _, h, fun K' h' => h'⟩
  case mget ok d z m k =>
    simp only [wpOp] at h
    split at h
    · rename_i n kv hm hk
      split at h
      · rename_i es hO
        obtain ⟨h1, h2, h3⟩ := h
        exact ⟨_, _, h3, fun K' h' => by simp only [wpOp, hm, hk, hO]; exact ⟨h1, h2, h'⟩⟩
      · exact h.elim
    · exact h.elim
  case mset d m k v =>
    simp only [wpOp] at h
    split at h
    · rename_i n kv hm hk
      split at h
      · rename_i es hO
        obtain ⟨h1, h2, h3⟩ := h
        exact ⟨_, _, h3, fun K' h' => by simp only [wpOp, hm, hk, hO]; exact ⟨h1, h2, h'⟩⟩
      · exact h.elim
    · exact h.elim
  case pget ok z m k =>
    simp only [wpOp] at h
    split at h
    · rename_i n j hm hk
      split at h
      · rename_i es hO
        obtain ⟨h1, h2, h3⟩ := h
        exact ⟨_, _, h3, fun K' h' => by simp only [wpOp, hm, hk, hO]; exact ⟨h1, h2, h'⟩⟩
      · exact h.elim
    · exact h.elim
  case pset m k v =>
    simp only [wpOp] at h
    split at h
    · rename_i n j hm hk
      split at h
      · rename_i es hO
        obtain ⟨h1, h2, h3⟩ := h
        exact ⟨_, _, h3, fun K' h' => by simp only [wpOp, hm, hk, hO]; exact ⟨h1, h2, h'⟩⟩
      · exact h.elim
    · exact h.elim
  case strit x =>
    simp only [wpOp] at h
    split at h
    · rename_i s hx
      exact ⟨_, _, h, fun K' h' => by simp only [wpOp, hx]; exact h'⟩
    · exact h.elim
  case snext x =>
    simp only [wpOp] at h
    split at h
    · rename_i n hx
      split at h
      · rename_i s pos hO
        by_cases hp : pos < s.size
        · exact ⟨_, _, h.1 hp, fun K' h' => by simp only [wpOp, hx, hO]; exact ⟨fun _ => h', fun q => (q hp).elim⟩⟩
        · exact ⟨_, _, h.2 hp, fun K' h' => by simp only [wpOp, hx, hO]; exact ⟨fun q => (hp q).elim, fun _ => h'⟩⟩
      · exact h.elim
    · exact h.elim
  case s2b t x =>
    simp only [wpOp] at h
    split at h
    · rename_i s hx
      exact ⟨_, _, h.2, fun K' h' => by simp only [wpOp, hx]; exact ⟨h.1, h'⟩⟩
    · exact h.elim
  case markS t x =>
    simp only [wpOp] at h
    split at h
    · rename_i n len hx
      split at h
      · rename_i t' s xs hO
        obtain ⟨h1, h2, h3, h4⟩ := h
        exact ⟨_, _, h4, fun K' h' => by simp only [wpOp, hx, hO]; exact ⟨h1, h2, h3, h'⟩⟩
      · exact h.elim
    · exact h.elim
  case pnil neg x =>
    simp only [wpOp] at h
    split at h
    · rename_i hx
      exact ⟨_, _, h, fun K' h' => by simp only [wpOp, hx]; exact h'⟩
    · rename_i n len i f hx
      split at h
      · rename_i t s xs hO
        exact ⟨_, _, h.2, fun K' h' => by simp only [wpOp, hx, hO]; exact ⟨h.1, h'⟩⟩
      · exact h.elim
    · exact h.elim
  case peq neg x y =>
    simp only [wpOp] at h
    split at h
    · rename_i n m hx hy
      exact ⟨_, _, h.2.2, fun K' h' => by simp only [wpOp, hx, hy]; exact ⟨h.1, h.2.1, h'⟩⟩
    · exact h.elim
  case lcall rd f as =>
    obtain ⟨r, ob, q1, q2⟩ := h
    exact ⟨r, _, q2, fun K' h' => ⟨r, ob, q1, h'⟩⟩
  case kcall rd f as =>
    obtain ⟨r, q1, q2⟩ := h
    exact ⟨r, _, q2, fun K' h' => ⟨r, q1, h'⟩⟩
  case scall1 gs f as =>
    obtain ⟨n, a0, ob, r, ob', q1, q2, q3, q4, q5, q6, q7, q8, q9⟩ := h
    exact ⟨r, _, q9, fun K' h' => ⟨n, a0, ob, r, ob', q1, q2, q3, q4, q5, q6, q7, q8, h'⟩⟩
  case callv x as =>
    simp only [wpOp] at h
    split at h
    · rename_i f caps ha
      obtain ⟨r, O', q1, q2⟩ := h
      exact ⟨r, O', q2, fun K' h' => by simp only [wpOp, ha]; exact ⟨r, O', q1, h'⟩⟩
    · exact h.elim
  case pcall f as =>
    obtain ⟨r, q1, q2, q3⟩ := h
    exact ⟨r, _, q3, fun K' h' => ⟨r, q1, q2, h'⟩⟩
  case pcallv x as =>
    simp only [wpOp] at h
    split at h
    · rename_i f caps ha
      obtain ⟨r, q1, q2, q3⟩ := h
      exact ⟨r, _, q3, fun K' h' => by simp only [wpOp, ha]; exact ⟨r, q1, q2, h'⟩⟩
    · exact h.elim
/-- appends to an object: the same, wherever that object and what is appended are the same -/
theorem srcK_ex' {O : List AObj} {y : AV} {K : List AV → Prop} (h : srcK O y K) : ∃ ys, K ys ∧ ∀ O', agreeO (refs y) O O' → ∀ K' : List AV → Prop, K' ys → srcK O' y K' := by
  unfold srcK at h
  split at h
  · exact ⟨_, h, fun O' _ K' h' => h'⟩
  · exact ⟨_, h, fun O' _ K' h' => h'⟩
  · rename_i n len
    have hg : ∀ O', agreeO (refs (.row n len)) O O' → O'[n]? = O[n]? := fun O' hg => hg n (by simp [refs])
    split at h
    · rename_i t s xs hO; exact ⟨_, h.2, fun O' ha K' h' => by simp only [srcK, hg O' ha, hO]; exact ⟨h.1, h'⟩⟩
    · rename_i t s hO; exact ⟨_, h.2, fun O' ha K' h' => by simp only [srcK, hg O' ha, hO]; exact ⟨h.1, h'⟩⟩
    · exact h.elim
  · exact h.elim
inductive Eff where
  | nop
  | set (n : Nat) (b : AObj)
  | push (b : AObj)
def Eff.app : Eff → List AObj → List AObj
  | .nop, O => O
  | .set n b, O => O.set n b
  | .push b, O => O ++ [b]
/-- an effect is of a kind, at these objects -/
def Fit : EK → Eff → List AObj → Prop
  | .nop, .nop, _ => True
  | .set _, .nop, _ => True
  | .set n, .set m _, O => m = n ∧ n < O.length
  | .push N, .push _, O => O.length = N
  | _, _, _ => False
theorem appK_ex' {O : List AObj} {n len : Nat} {t s b : Nat} {ys : List AV} {K : AV → List AObj → Prop} (h : appK O (.row n len) t s b ys K) :
    ∃ r eff, Fit (.set n) eff O ∧ K r (eff.app O) ∧ ∀ O', O'[n]? = O[n]? → ∀ K' : AV → List AObj → Prop, K' r (eff.app O') → appK O' (.row n len) t s b ys K' := by
  simp only [appK] at h
  split at h
  · rename_i t' s' xs hO
    obtain ⟨h1, h2, h3, h4, h5, h6⟩ := h
    exact ⟨_, .set n _, ⟨rfl, (List.getElem?_eq_some_iff.1 hO).1⟩, h6, fun O' ho K' h' => by simp only [appK, ho, hO]; exact ⟨h1, h2, h3, h4, h5, h'⟩⟩
  · rename_i t' s' hO
    obtain ⟨h1, h2, h3, h4, h5, h6, h7⟩ := h
    by_cases hy : ys = []
    · exact ⟨_, .nop, trivial, h6 hy, fun O' ho K' h' => by simp only [appK, ho, hO]; exact ⟨h1, h2, h3, h4, h5, fun _ => h', fun hn => (hn hy).elim⟩⟩
    · exact ⟨_, .set n _, ⟨rfl, (List.getElem?_eq_some_iff.1 hO).1⟩, h7 hy, fun O' ho K' h' => by simp only [appK, ho, hO]; exact ⟨h1, h2, h3, h4, h5, fun hn => (hy hn).elim, fun _ => h'⟩⟩
  · exact h.elim
theorem refs_row {a : AV} {n : Nat} (h : refs a = [n]) : (∃ len, a = .row n len) ∨ (∃ len i f, a = .ptr n len i f) ∨ a = .own n := by
  cases a <;> simp [refs] at h
  · subst h; exact .inl ⟨_, rfl⟩
  · subst h; exact .inr (.inl ⟨_, _, _, rfl⟩)
  · subst h; exact .inr (.inr rfl)
/-- WHAT AN OPERATION DOES, by its label: the same wherever what it looks at is the same -/
theorem lab_sound {P : Program} {o : AOp} {e : Env} {O : List AObj} {K : AV → List AObj → Prop} (hk : (labOf o e O.length).k.isAny = false) (h : wpOp P o e O K) :
    ∃ x eff, Fit (labOf o e O.length).k eff O ∧ (∀ n, (labOf o e O.length).k = .set n → n ∈ (labOf o e O.length).rd) ∧ K x (eff.app O) ∧
      ∀ O', agreeO (labOf o e O.length).rd O O' → ((labOf o e O.length).k.isPush = true → O'.length = O.length) → Ex P o e O' x (eff.app O') := by
  by_cases h0 : o.cls = 0
  · have hl : labOf o e O.length = ⟨[], .nop⟩ := by cases o <;> first | (simp [AOp.cls] at h0; done) | rfl
    obtain ⟨x, h1, h2⟩ := ex0 h0 h
    exact ⟨x, .nop, by rw [hl]; trivial, by rw [hl]; simp, h1, fun O' _ _ => h2 O'⟩
  by_cases h1 : o.cls = 1
  · have hl : (labOf o e O.length).k = .nop := by cases o <;> first | (simp [AOp.cls] at h1; done) | rfl
    obtain ⟨x, h2, h3⟩ := ex1 h1 h
    exact ⟨x, .nop, by rw [hl]; trivial, by rw [hl]; simp, h2, fun O' ha _ => h3 O' _ ha⟩
  by_cases h2 : o.cls = 2
  · have hl : labOf o e O.length = ⟨[], .push O.length⟩ := by cases o <;> first | (simp [AOp.cls] at h2; done) | rfl
    obtain ⟨x, b, h3, h4⟩ := ex2 h2 h
    exact ⟨x, .push b, by rw [hl]; exact rfl, by rw [hl]; simp, h3, fun O' _ hp => h4 O' (hp (by rw [hl]; rfl))⟩
  cases o <;> first | (exact (h0 rfl).elim) | (exact (h1 rfl).elim) | (exact (h2 rfl).elim) | (simp [labOf, labG, EK.isAny] at hk; done) | skip
  case allocAt k t s z =>
    obtain ⟨h1, h2, h3⟩ := h
    exact ⟨_, .set k _, ⟨rfl, (List.getElem?_eq_some_iff.1 h2).1⟩, by simp [labOf, labG], h3, fun O' ha _ K' h' => ⟨h1, by rw [ha k (by simp [labOf, labG])]; exact h2, h'⟩⟩
  case mkAt k t s b z x y =>
    simp only [wpOp] at h
    split at h
    · rename_i n c hx hy
      obtain ⟨h1, h2, h3, h4, h5, h6, h7⟩ := h
      exact ⟨_, .set k _, ⟨rfl, (List.getElem?_eq_some_iff.1 h6).1⟩, by simp [labOf, labG], h7, fun O' ha _ K' h' => by simp only [wpOp, hx, hy]; exact ⟨h1, h2, h3, h4, h5, by rw [ha k (by simp [labOf, labG])]; exact h6, h'⟩⟩
    · exact h.elim
  case boxAt k t s x =>
    obtain ⟨h0, h2, h3, h4, h5⟩ := h
    exact ⟨_, .set k _, ⟨rfl, (List.getElem?_eq_some_iff.1 h2).1⟩, by simp [labOf, labG], h5, fun O' ha _ K' h' => ⟨h0, by rw [ha k (by simp [labOf, labG])]; exact h2, h3, h4, h'⟩⟩
  case buildAt k t s len z ps =>
    obtain ⟨h0, hp, h⟩ := h
    obtain ⟨xs, ⟨h1, h2, h3⟩, h4⟩ := rowK_ex ps _ h
    exact ⟨_, .set k (.live t s xs), ⟨rfl, (List.getElem?_eq_some_iff.1 h1).1⟩, by simp [labOf, labG], h3, fun O' ha _ K' h' => ⟨h0, hp, h4 (fun xs => O'[k]? = some (.nil t s) ∧ xs ≠ [] ∧ K' (.row k len) (O'.set k (AObj.live t s xs))) ⟨by rw [ha k (by simp [labOf, labG])]; exact h1, h2, h'⟩⟩⟩
  case lcall rd f as =>
    obtain ⟨res, ob, h1, h2⟩ := h
    exact ⟨res, .push ob, rfl, by simp [labOf, labG], h2, fun O' ha hp K' h' => ⟨res, ob, fun O'' hl hr => h1 O'' (hl.trans (hp rfl)) fun n hn => (hr n hn).trans (ha n hn), h'⟩⟩
  case kcall rd f as =>
    obtain ⟨res, h1, h2⟩ := h
    exact ⟨res, .nop, trivial, by simp [labOf, labG], h2, fun O' ha _ K' h' => ⟨res, fun O'' hr => h1 O'' fun n hn => (hr n hn).trans (ha n hn), h'⟩⟩
  case scall1 gs f as =>
    simp only [labOf, labG] at hk ⊢
    obtain ⟨n, a0, ob, r, ob', q1, q2, q3, q4, q5, q6, q7, q8, q9⟩ := h
    simp only [q3]
    exact ⟨r, .set n ob', ⟨rfl, (List.getElem?_eq_some_iff.1 q4).1⟩, by simp, q9, fun O' ha _ K' h' => ⟨n, a0, ob, r, ob', q1, q2, q3, by rw [ha n (by simp)]; exact q4, q5, q6, q7, q8, h'⟩⟩
  case store m x y =>
    simp only [labOf, labG] at hk ⊢
    split at hk
    · rename_i n hn
      simp only [hn]
      rcases refs_row hn with ⟨len, hx⟩ | ⟨len, i, f, hx⟩ | hx
      rotate_left 2
      · simp only [wpOp, hx] at h
      · simp only [wpOp, hx] at h
      · simp only [wpOp, hx] at h
        split at h
        · rename_i t s xs hO
          obtain ⟨q1, q2, q3, q4, q5, q6⟩ := h
          exact ⟨_, .set n _, ⟨rfl, (List.getElem?_eq_some_iff.1 hO).1⟩, by simp, q6, fun O' ha _ K' h' => by
            simp only [wpOp, hx, ha n (by simp), hO]; exact ⟨q1, q2, q3, q4, q5, h'⟩⟩
        · exact h.elim
    · simp [EK.isAny] at hk
  case app t s b x y =>
    simp only [labOf, labG] at hk ⊢
    split at hk
    · rename_i n hn
      simp only [hn]
      simp only [wpOp] at h
      obtain ⟨ys, ⟨q0, q1⟩, q2⟩ := srcK_ex' h
      rcases refs_row hn with ⟨len, hx⟩ | ⟨len, i, f, hx⟩ | hx
      · rw [hx] at q1
        obtain ⟨r, eff, q3, q4, q5⟩ := appK_ex' q1
        exact ⟨r, eff, q3, by simp, q4, fun O' ha _ K' h' => by
          simp only [wpOp, hx]
          exact q2 O' (fun m hm => ha m (by simp [hm])) _ ⟨q0, q5 O' (ha n (by simp)) K' h'⟩⟩
      · rw [hx] at q1; exact q1.elim
      · rw [hx] at q1; exact q1.elim
    · simp [EK.isAny] at hk
  case appS t s b x y =>
    simp only [labOf, labG] at hk ⊢
    split at hk
    · rename_i n hn
      simp only [hn]
      simp only [wpOp] at h
      split at h
      · rename_i sb hsb
        obtain ⟨q0, q1⟩ := h
        rcases refs_row hn with ⟨len, hx⟩ | ⟨len, i, f, hx⟩ | hx
        · rw [hx] at q1
          obtain ⟨r, eff, q3, q4, q5⟩ := appK_ex' q1
          exact ⟨r, eff, q3, by simp, q4, fun O' ha _ K' h' => by
            simp only [wpOp, hsb, hx]
            exact ⟨q0, q5 O' (ha n (by simp)) K' h'⟩⟩
        · rw [hx] at q1; exact q1.elim
        · rw [hx] at q1; exact q1.elim
      · exact h.elim
    · simp [EK.isAny] at hk
end Go.Ab
/-
  REGIONS THAT DRAW THEIR ORDER (2): a run in the text's order is a run in every order that the edges allow.
-/
namespace Go.Ab
/-- one operation of a region: carried out, or left out -/
inductive Step (P : Program) (o : AOper) (e : Env) (O : List AObj) : Env → List AObj → Prop
  | run (x : AV) (O' : List AObj) : (∀ t want, o.guard = some (t, want) → e t = .v (.bool want)) → Ex P o.op e O x O' → Step P o e O (setD e o.dst x) O'
  | skip (t : Nat) (want : Bool) : o.guard = some (t, want) → (e t = .v (.bool (!want)) ∨ e t = .tup []) → Step P o e O (setD e o.dst (.tup [])) O
inductive Run (P : Program) : List AOper → Env → List AObj → Env → List AObj → Prop
  | nil (e : Env) (O : List AObj) : Run P [] e O e O
  | cons {o : AOper} {l : List AOper} {e e1 e2 : Env} {O O1 O2 : List AObj} : Step P o e O e1 O1 → Run P l e1 O1 e2 O2 → Run P (o :: l) e O e2 O2
theorem set_self {e : Env} {t : Nat} {a : AV} (h : e t = a) : e.set t a = e := by
  funext k; unfold Env.set; split
  · rename_i hk; subst hk; exact h.symm
  · rfl
theorem setD_comm {e : Env} {d d' : Option Nat} {a b : AV} (h : d = none ∨ d ≠ d') : setD (setD e d a) d' b = setD (setD e d' b) d a := by
  cases d <;> cases d' <;> simp only [setD]
  rename_i t t'
  have hne : t ≠ t' := by
    rcases h with h | h
    · cases h
    · intro he; exact h (by rw [he])
  funext k
  simp only [Env.set]
  by_cases h1 : k = t
  · subst h1
    rw [if_neg hne, if_pos rfl, if_pos rfl]
  · rw [if_neg h1, if_neg h1]
theorem agree_setD {l : List Nat} {e : Env} {d : Option Nat} {a : AV} (h : ∀ t, d = some t → t ∉ l) : agree l (setD e d a) e := by
  intro t ht
  cases d with
  | none => rfl
  | some d =>
    simp only [setD, Env.set]
    rw [if_neg]
    intro he; subst he; exact h _ rfl ht
theorem Ex.congr {P : Program} {o : AOp} {e e' : Env} {O O' : List AObj} {x : AV} (h : Ex P o e O x O') (ha : agree o.reads e' e) : Ex P o e' O x O' := by
  intro K hk
  rw [wpOp_congr ha]
  exact h K hk
/-- a step with its label -/
inductive StepL (P : Program) (o : AOper) (l : Lab) (e : Env) (O : List AObj) : Env → List AObj → Prop
  | any (x : AV) (O' : List AObj) : l.k.isAny = true → (∀ t want, o.guard = some (t, want) → e t = .v (.bool want)) → Ex P o.op e O x O' → StepL P o l e O (setD e o.dst x) O'
  | lab (x : AV) (eff : Eff) : l.k.isAny = false → Fit l.k eff O → (∀ n, l.k = .set n → n ∈ l.rd) → (∀ t want, o.guard = some (t, want) → e t = .v (.bool want)) →
      (∀ O', agreeO l.rd O O' → (l.k.isPush = true → O'.length = O.length) → Ex P o.op e O' x (eff.app O')) → StepL P o l e O (setD e o.dst x) (eff.app O)
  | skip (t : Nat) (want : Bool) : o.guard = some (t, want) → (e t = .v (.bool (!want)) ∨ e t = .tup []) → StepL P o l e O (setD e o.dst (.tup [])) O
theorem StepL.step {P : Program} {o : AOper} {l : Lab} {e e' : Env} {O O' : List AObj} (h : StepL P o l e O e' O') : Step P o e O e' O' := by
  cases h with
  | any x _ _ hg hx => exact .run x _ hg hx
  | lab x eff _ _ _ hg hx => exact .run x _ hg (hx O (fun _ _ => rfl) fun _ => rfl)
  | skip t want hg hb => exact .skip t want hg hb
inductive RunL (P : Program) : List (AOper × Lab) → Env → List AObj → Env → List AObj → Prop
  | nil (e : Env) (O : List AObj) : RunL P [] e O e O
  | cons {o : AOper × Lab} {l : List (AOper × Lab)} {e e1 e2 : Env} {O O1 O2 : List AObj} : StepL P o.1 o.2 e O e1 O1 → RunL P l e1 O1 e2 O2 → RunL P (o :: l) e O e2 O2
theorem RunL.run {P : Program} {l : List (AOper × Lab)} {e e' : Env} {O O' : List AObj} (h : RunL P l e O e' O') : Run P (l.map (·.1)) e O e' O' := by
  induction h with
  | nil => exact .nil _ _
  | cons hs _ ih => exact .cons hs.step ih
theorem stepL_of {P : Program} {o : AOper} {e : Env} {O : List AObj} {K : AV → List AObj → Prop} (hg : ∀ t want, o.guard = some (t, want) → e t = .v (.bool want)) (h : wpOp P o.op e O K) :
    ∃ x O', K x O' ∧ StepL P o (labOf o.op e O.length) e O (setD e o.dst x) O' := by
  cases hk : (labOf o.op e O.length).k.isAny with
  | true =>
    obtain ⟨x, O', h1, h2⟩ := exAny h
    exact ⟨x, O', h1, .any x O' hk hg h2⟩
  | false =>
    obtain ⟨x, eff, h1, h2, h3, h4⟩ := lab_sound hk h
    exact ⟨x, _, h3, .lab x eff hk h1 h2 hg h4⟩
theorem runL_of_wp {P : Program} : ∀ (l : List AOper) {acc : List Lab} {e : Env} {O : List AObj} {K : List Lab → Env → List AObj → Prop}, wpOpsL P l acc e O K → ∃ labs e' O', labs.length = l.length ∧ RunL P (l.zip labs) e O e' O' ∧ K (acc ++ labs) e' O'
  | [], acc, e, O, K, h => ⟨[], e, O, rfl, .nil e O, by rw [List.append_nil]; exact h⟩
  | o :: l, acc, e, O, K, h => by
    simp only [wpOpsL] at h
    cases hg : o.guard with
    | none =>
      rw [hg] at h
      obtain ⟨x, O', h1, h2⟩ := stepL_of (fun t want h => by rw [hg] at h; cases h) h
      obtain ⟨labs, e2, O2, h0, h3, h4⟩ := runL_of_wp l h1
      exact ⟨labOf o.op e O.length :: labs, e2, O2, by simp [h0], .cons h2 h3, by rw [List.append_assoc] at h4; exact h4⟩
    | some g =>
      obtain ⟨t, want⟩ := g
      rw [hg] at h
      simp only at h
      split at h
      · rename_i b hb
        by_cases hbw : b = want
        · have hs : e.set t (.v (.bool want)) = e := set_self (by rw [hb, hbw])
          rw [hs] at h
          obtain ⟨x, O', h1, h2⟩ := stepL_of (fun t' want' h => by rw [hg] at h; cases h; rw [hb, hbw]) (h.1 hbw)
          obtain ⟨labs, e2, O2, h0, h3, h4⟩ := runL_of_wp l h1
          exact ⟨labOf o.op e O.length :: labs, e2, O2, by simp [h0], .cons h2 h3, by rw [List.append_assoc] at h4; exact h4⟩
        · have hbn : b = !want := by cases b <;> cases want <;> simp_all
          have hs : e.set t (.v (.bool (!want))) = e := set_self (by rw [hb, hbn])
          rw [hs] at h
          obtain ⟨labs, e2, O2, h0, h3, h4⟩ := runL_of_wp l (h.2 hbn)
          exact ⟨⟨[], .nop⟩ :: labs, e2, O2, by simp [h0], .cons (.skip t want hg (.inl (by rw [hb, hbn]))) h3, by rw [List.append_assoc] at h4; exact h4⟩
      · rename_i hb
        obtain ⟨labs, e2, O2, h0, h3, h4⟩ := runL_of_wp l h
        exact ⟨⟨[], .nop⟩ :: labs, e2, O2, by simp [h0], .cons (.skip t want hg (.inr hb)) h3, by rw [List.append_assoc] at h4; exact h4⟩
      · exact h.elim
theorem indepL_inv {p i : AOper × Lab} (h : indepL p i = true) :
    (∀ t, p.1.dst = some t → t ∉ i.1.reads) ∧ (p.1.dst = none ∨ p.1.dst ≠ i.1.dst) ∧ (∀ t, i.1.dst = some t → t ∉ p.1.reads) ∧ pairOk p.2 i.2 = true := by
  unfold indepL at h
  simp only [Bool.and_eq_true] at h
  obtain ⟨⟨h1, h2⟩, h3⟩ := h
  refine ⟨fun t ht => ?_, ?_, fun t ht => ?_, h3⟩
  · rw [ht] at h1; simp at h1; exact h1.1
  · cases hp : p.1.dst with
    | none => exact .inl rfl
    | some t => rw [hp] at h1; simp at h1; exact .inr fun he => h1.2 he.symm
  · rw [ht] at h2; simpa using h2
theorem pure_inv {l : Lab} (h : l.pure = true) : l.rd = [] ∧ l.k = .nop := by
  unfold Lab.pure at h
  simp only [Bool.and_eq_true, List.isEmpty_iff] at h
  refine ⟨h.1, ?_⟩
  have := h.2
  split at this
  · assumption
  · cases this
/-- what an effect does not hit stays -/
theorem eff_agree {k : EK} {eff : Eff} {O : List AObj} (hf : Fit k eff O) {rd : List Nat} (h : k.hits rd = false) : agreeO rd O (eff.app O) := by
  intro n hn
  cases k <;> cases eff <;> simp only [Fit] at hf <;> simp only [EK.hits] at h <;> simp only [Eff.app]
  · rename_i k m b
    obtain ⟨rfl, hlt⟩ := hf
    have : n ≠ m := by rintro rfl; simp at h; exact h hn
    rw [List.getElem?_set_ne (fun he => this he.symm)]
  · rename_i N b
    have : n ≠ N := by rintro rfl; simp at h; exact h hn
    by_cases hlt : n < O.length
    · rw [List.getElem?_append_left hlt]
    · rw [List.getElem?_eq_none (l := O ++ [b]) (by simp; omega), List.getElem?_eq_none (by omega)]
theorem eff_len {k : EK} {eff : Eff} {O : List AObj} (hf : Fit k eff O) (h : k.isPush = false) : ∀ O' : List AObj, (eff.app O').length = O'.length := by
  intro O'
  cases k <;> cases eff <;> simp only [Fit] at hf <;> simp [Eff.app]
  simp [EK.isPush] at h
/-- two effects change places -/
theorem eff_comm {kp ki : EK} {p i : Eff} {O : List AObj} (hp : Fit kp p O) (hi : Fit ki i (p.app O)) (hpush : (kp.isPush && ki.isPush) = false) (hset : ∀ n m, kp = .set n → ki = .set m → n ≠ m) (hps : ∀ n m, kp = .push n → ki = .set m → n ≠ m) :
    Fit ki i O ∧ Fit kp p (i.app O) ∧ i.app (p.app O) = p.app (i.app O) := by
  cases kp <;> cases p <;> simp only [Fit] at hp <;> cases ki <;> cases i <;> simp only [Fit] at hi <;> simp only [Fit, Eff.app, true_and, and_true] <;> (try simp only [Eff.app] at hi) <;> try trivial
  case set.set.set.set n _ b m _ c =>
    obtain ⟨rfl, h1⟩ := hp
    obtain ⟨rfl, h2⟩ := hi
    have := hset _ _ rfl rfl
    refine ⟨⟨rfl, by simpa using h2⟩, ⟨rfl, by simpa using h1⟩, List.set_comm _ _ (fun he => this he)⟩
  case set.set.push.push n _ b m c =>
    obtain ⟨rfl, h1⟩ := hp
    refine ⟨by simpa using hi, ⟨rfl, by simp; omega⟩, ?_⟩
    rw [List.set_append_left _ _ h1]
  case push.push.set.set =>
    obtain ⟨rfl, h2⟩ := hi
    have := hps _ _ rfl rfl
    have hlt : _ < O.length := Nat.lt_of_le_of_ne (by simp at h2; omega) (fun he => this (hp.symm.trans he.symm))
    refine ⟨⟨rfl, hlt⟩, by simpa using hp, ?_⟩
    rw [List.set_append_left _ _ hlt]
  all_goals simp [EK.isPush] at hpush
theorem stepL_swap {P : Program} {p i : AOper × Lab} (hd : indepL p i = true) {e e1 e2 : Env} {O O1 O2 : List AObj} (h1 : StepL P p.1 p.2 e O e1 O1) (h2 : StepL P i.1 i.2 e1 O1 e2 O2) :
    ∃ e1' O1', StepL P i.1 i.2 e O e1' O1' ∧ StepL P p.1 p.2 e1' O1' e2 O2 := by
  obtain ⟨p, lp⟩ := p
  obtain ⟨i, li⟩ := i
  obtain ⟨d1, d2, d3, d4⟩ := indepL_inv hd
  simp only at d1 d2 d3 d4 h1 h2 ⊢
  have gi : ∀ {t want a}, i.guard = some (t, want) → setD e p.dst a t = e t := by
    intro t want a hg
    exact agree_setD (l := i.reads) d1 t (by simp [AOper.reads, hg])
  have gp : ∀ {t want} {e' : Env} {a}, p.guard = some (t, want) → setD e' i.dst a t = e' t := by
    intro t want e' a hg
    exact agree_setD (l := p.reads) d3 t (by simp [AOper.reads, hg])
  have ri : ∀ {a}, agree i.op.reads e (setD e p.dst a) := fun {a} t ht => (agree_setD (l := i.reads) d1 t (by simp [AOper.reads, ht])).symm
  have rp : ∀ {e' a}, agree p.op.reads (setD e' i.dst a) e' := fun {e' a} t ht => agree_setD (l := p.reads) d3 t (by simp [AOper.reads, ht])
  have hpair : (lp.k.isAny = true ∧ li.pure = true) ∨ (lp.k.isAny = false ∧ li.k.isAny = true ∧ lp.pure = true) ∨ (lp.k.isAny = false ∧ li.k.isAny = false ∧ lp.k.hits li.rd = false ∧ li.k.hits lp.rd = false ∧ (lp.k.isPush && li.k.isPush) = false) := by
    unfold pairOk at d4
    split at d4
    · rename_i h; exact .inl ⟨h, d4⟩
    · rename_i h
      split at d4
      · rename_i h'; exact .inr (.inl ⟨by simpa using h, h', d4⟩)
      · rename_i h'
        simp only [Bool.and_eq_true, Bool.not_eq_true'] at d4
        exact .inr (.inr ⟨by simpa using h, by simpa using h', d4.1.1, d4.1.2, d4.2⟩)
  -- a step of i behind p, without p
  cases h1 with
  | skip t want hg hb =>
    have hp' : ∀ {e' : Env} {O' : List AObj} {y : AV}, e' = setD e i.dst y → StepL P p lp e' O' (setD e' p.dst (.tup [])) O' := by
      rintro e' O' y rfl
      exact .skip t want hg (by rw [gp hg]; exact hb)
    cases h2 with
    | skip t' want' hg' hb' =>
      rw [gi hg'] at hb'
      refine ⟨_, _, .skip t' want' hg' hb', ?_⟩
      rw [setD_comm d2]; exact hp' rfl
    | any y _ ha hq hy =>
      refine ⟨_, _, .any y O2 ha (fun t' want' hg' => by rw [← gi hg']; exact hq t' want' hg') (hy.congr ri), ?_⟩
      rw [setD_comm d2]; exact hp' rfl
    | lab y eff ha hf hm hq hy =>
      refine ⟨_, _, .lab y eff ha hf hm (fun t' want' hg' => by rw [← gi hg']; exact hq t' want' hg') (fun O' h1 h2 => (hy O' h1 h2).congr ri), ?_⟩
      rw [setD_comm d2]; exact hp' rfl
  | any x _ hap hqp hx =>
    have hp' : ∀ {e' : Env} {y : AV}, e' = setD e i.dst y → StepL P p lp e' O (setD e' p.dst x) O1 := by
      rintro e' y rfl
      exact .any x O1 hap (fun t want hg => by rw [gp hg]; exact hqp t want hg) (hx.congr rp)
    have hpu : li.pure = true := by
      rcases hpair with ⟨_, h⟩ | ⟨h, _⟩ | ⟨h, _⟩
      · exact h
      · rw [hap] at h; cases h
      · rw [hap] at h; cases h
    obtain ⟨hrd, hkn⟩ := pure_inv hpu
    cases h2 with
    | skip t' want' hg' hb' =>
      rw [gi hg'] at hb'
      refine ⟨_, _, .skip t' want' hg' hb', ?_⟩
      rw [setD_comm d2]; exact hp' rfl
    | any y _ ha hq hy => rw [hkn] at ha; cases ha
    | lab y eff ha hf hm hq hy =>
      have he : eff = .nop := by rw [hkn] at hf; cases eff <;> simp [Fit] at hf; rfl
      subst he
      refine ⟨_, _, .lab y .nop ha (by rw [hkn]; trivial) hm (fun t' want' hg' => by rw [← gi hg']; exact hq t' want' hg') (fun O' h1 h2 => (hy O' (by rw [hrd]; simp [agreeO]) (by rw [hkn]; simp [EK.isPush])).congr ri), ?_⟩
      rw [setD_comm d2]; exact hp' rfl
  | lab x effp hap hfp hmp hqp hx =>
    cases h2 with
    | skip t' want' hg' hb' =>
      rw [gi hg'] at hb'
      refine ⟨_, _, .skip t' want' hg' hb', ?_⟩
      rw [setD_comm d2]
      exact .lab x effp hap hfp hmp (fun t want hg => by rw [gp hg]; exact hqp t want hg) (fun O' h1 h2 => (hx O' h1 h2).congr rp)
    | any y _ ha hq hy =>
      have hpu : lp.pure = true := by
        rcases hpair with ⟨h, _⟩ | ⟨_, _, h⟩ | ⟨_, h, _⟩
        · rw [hap] at h; cases h
        · exact h
        · rw [ha] at h; cases h
      obtain ⟨hrd, hkn⟩ := pure_inv hpu
      have he : effp = .nop := by rw [hkn] at hfp; cases effp <;> simp [Fit] at hfp; rfl
      subst he
      refine ⟨_, _, .any y O2 ha (fun t' want' hg' => by rw [← gi hg']; exact hq t' want' hg') (hy.congr ri), ?_⟩
      rw [setD_comm d2]
      exact .lab x .nop hap (by rw [hkn]; trivial) hmp (fun t want hg => by rw [gp hg]; exact hqp t want hg) (fun O' h1 h2 => (hx O' (by rw [hrd]; simp [agreeO]) (by rw [hkn]; simp [EK.isPush])).congr rp)
    | lab y effi ha hf hm hq hy =>
      have hh : lp.k.hits li.rd = false ∧ li.k.hits lp.rd = false ∧ (lp.k.isPush && li.k.isPush) = false := by
        rcases hpair with ⟨h, _⟩ | ⟨_, h, _⟩ | ⟨_, _, h⟩
        · rw [hap] at h; cases h
        · rw [ha] at h; cases h
        · exact h
      obtain ⟨hh1, hh2, hh3⟩ := hh
      have hset : ∀ n m, lp.k = .set n → li.k = .set m → n ≠ m := by
        rintro n m hn hm' rfl
        have := hm n hm'
        rw [hn] at hh1; simp [EK.hits] at hh1; exact hh1 this
      have hps : ∀ n m, lp.k = .push n → li.k = .set m → n ≠ m := by
        rintro n m hn hm' rfl
        have := hm n hm'
        rw [hn] at hh1; simp [EK.hits] at hh1; exact hh1 this
      obtain ⟨c1, c2, c3⟩ := eff_comm hfp hf hh3 hset hps
      have a1 := eff_agree hfp hh1
      have a2 := eff_agree c1 hh2
      refine ⟨_, _, .lab y effi ha c1 hm (fun t' want' hg' => by rw [← gi hg']; exact hq t' want' hg') (fun O' h1 h2 => (hy O' (fun n hn => (h1 n hn).trans (a1 n hn).symm) fun hpu => ?_).congr ri), ?_⟩
      · rw [h2 hpu, eff_len hfp (by cases hlp : lp.k.isPush with | false => rfl | true => rw [hlp, hpu] at hh3; cases hh3)]
      · rw [setD_comm d2, c3]
        refine .lab x effp hap c2 hmp (fun t want hg => by rw [gp hg]; exact hqp t want hg) (fun O' h1 h2 => (hx O' (fun n hn => (h1 n hn).trans (a2 n hn)) fun hpu => ?_).congr rp)
        rw [h2 hpu, eff_len c1 (by cases hli : li.k.isPush with | false => rfl | true => rw [hli, hpu] at hh3; cases hh3)]
theorem runL_front {P : Program} {i : AOper × Lab} {post : List (AOper × Lab)} : ∀ (pre : List (AOper × Lab)), (∀ p ∈ pre, indepL p i = true) → ∀ {e e2 : Env} {O O2 : List AObj}, RunL P (pre ++ i :: post) e O e2 O2 → RunL P (i :: (pre ++ post)) e O e2 O2
  | [], _, _, _, _, _, h => h
  | p :: pre, hp, e, e2, O, O2, h => by
    cases h with
    | cons hs hr =>
      have := runL_front pre (fun q hq => hp q (by simp [hq])) hr
      cases this with
      | cons hi hr' =>
        obtain ⟨e1', O1', s1, s2⟩ := stepL_swap (hp p (by simp)) hs hi
        exact .cons s1 (.cons s2 hr')
end Go.Ab
/-
  REGIONS THAT DRAW THEIR ORDER (3): the model's schedules.
-/
namespace Go.Ab
theorem cloN_length (rows : List (List Nat)) (n : Nat) : (cloN rows n).length = n := by
  induction n with
  | zero => rfl
  | succ n ih => simp [cloN, ih]
theorem cloN_get (rows : List (List Nat)) {i n : Nat} (h : i < n) : (cloN rows n).getD i 0 = (rows.getD i []).foldl (fun s j => s ||| (2 ^ j ||| (cloN rows i).getD j 0)) 0 := by
  induction n with
  | zero => omega
  | succ n ih =>
    simp only [cloN]
    by_cases hi : i < n
    · rw [List.getD, List.getElem?_append_left (by rw [cloN_length]; exact hi)]
      exact ih hi
    · obtain rfl : i = n := by omega
      rw [List.getD, List.getElem?_append_right (by rw [cloN_length]; exact Nat.le_refl _)]
      simp [cloN_length]
theorem cloN_stable (rows : List (List Nat)) {i n m : Nat} (h : i < n) (h' : i < m) : (cloN rows n).getD i 0 = (cloN rows m).getD i 0 := by
  rw [cloN_get rows h, cloN_get rows h']
theorem testBit_fold (f : Nat → Nat) (p : Nat) : ∀ (l : List Nat) (s : Nat), (l.foldl (fun s j => s ||| (2 ^ j ||| f j)) s).testBit p = true → s.testBit p = true ∨ ∃ j ∈ l, p = j ∨ (f j).testBit p = true
  | [], s, h => .inl h
  | j :: l, s, h => by
    rcases testBit_fold f p l _ h with h1 | ⟨k, hk, h1⟩
    · rw [Nat.testBit_or, Nat.testBit_or] at h1
      simp only [Bool.or_eq_true] at h1
      rcases h1 with h1 | h1 | h1
      · exact .inl h1
      · rw [Nat.testBit_two_pow] at h1
        exact .inr ⟨j, by simp, .inl (by simpa using (of_decide_eq_true h1).symm)⟩
      · exact .inr ⟨j, by simp, .inr h1⟩
    · exact .inr ⟨k, by simp [hk], h1⟩
/-- what stands ahead is in every set that the edges close -/
theorem clo_in {rows : List (List Nat)} {n : Nat} {S : Nat → Prop} (hrows : ∀ i, i < n → ∀ d ∈ rows.getD i [], d < i) (hS : ∀ j, j < n → S j → ∀ d ∈ rows.getD j [], S d) :
    ∀ i, i < n → (∀ d ∈ rows.getD i [], S d) → ∀ p, ((cloN rows n).getD i 0).testBit p = true → S p := by
  intro i
  induction i using Nat.strongRecOn with
  | _ i ih =>
    intro hi hd p hp
    rw [cloN_get rows hi] at hp
    rcases testBit_fold _ p _ _ hp with h | ⟨j, hj, h⟩
    · simp at h
    · have hji := hrows i hi j hj
      rcases h with rfl | h
      · exact hd p hj
      · exact ih j hji (by omega) (hS j (by omega) (hd j hj)) p (by rw [cloN_stable rows (show j < n by omega) hji]; exact h)
section
variable {P : Program} {ops : Array Oper} {al : List (AOper × Lab)}
theorem rows_get {i : Nat} {o : Oper} (h : ops[i]? = some o) : (rowsOf ops).getD i [] = (o.after.toList.filter (Region.binds .any)).map (·.on) := by
  have : ops.toList[i]? = some o := by simpa using h
  simp [rowsOf, List.getD, this]
theorem go_run (hlen : al.length = ops.size) (hok : drawOkL (rowsOf ops) al = true) {e2 : Env} {O2 : List AObj} :
    ∀ (fuel t : Nat) (listed : Array Bool) (acc rem : List Nat) (e : Env) (O : List AObj), listed.size = ops.size → rem.length ≤ fuel → rem.Pairwise (· < ·) → (∀ j, j ∈ rem ↔ j < ops.size ∧ listed.getD j true = false) →
      (∀ j, j < ops.size → listed.getD j true = true → ∀ d ∈ (rowsOf ops).getD j [], listed.getD d true = true) →
      RunL P (rem.map fun i => al.getD i (⟨none, none, .mov (.c .top)⟩, ⟨[], .any⟩)) e O e2 O2 →
      ∃ l, Region.linearise.go .any ops fuel t listed acc = acc.reverse ++ l ∧ RunL P (l.map fun i => al.getD i (⟨none, none, .mov (.c .top)⟩, ⟨[], .any⟩)) e O e2 O2 ∧ ∀ i ∈ l, i < ops.size := by
  have hok' : ∀ i, i < ops.size → (∀ d ∈ (rowsOf ops).getD i [], d < i) ∧ ∀ p, p < i → ((cloN (rowsOf ops) ops.size).getD i 0).testBit p = true ∨ indepL (al.getD p (⟨none, none, .mov (.c .top)⟩, ⟨[], .any⟩)) (al.getD i (⟨none, none, .mov (.c .top)⟩, ⟨[], .any⟩)) = true := by
    intro i hi
    unfold drawOkL at hok
    simp only [List.all_eq_true, List.mem_range, Bool.and_eq_true, Bool.or_eq_true, decide_eq_true_eq, hlen] at hok
    obtain ⟨h1, h2⟩ := hok i hi
    refine ⟨h1, fun p hp => ?_⟩
    rcases h2 p hp with h | h
    · exact .inl h
    · refine .inr ?_
      have e1 : al[p]? = some (al.getD p (⟨none, none, .mov (.c .top)⟩, ⟨[], .any⟩)) := by simp [List.getD, show p < al.length by omega]
      have e2 : al[i]? = some (al.getD i (⟨none, none, .mov (.c .top)⟩, ⟨[], .any⟩)) := by simp [List.getD, show i < al.length by omega]
      rw [e1, e2] at h
      exact h
  intro fuel
  induction fuel with
  | zero =>
    intro t listed acc rem e O hsz hf hpw hmem hcl hr
    obtain rfl : rem = [] := List.eq_nil_of_length_eq_zero (by omega)
    exact ⟨[], by simp [Region.linearise.go], hr, by simp⟩
  | succ fuel ih =>
    intro t listed acc rem e O hsz hf hpw hmem hcl hr
    simp only [Region.linearise.go]
    generalize hrs : (List.range ops.size).filter (fun i => !listed.getD i true && ((ops[i]?).map (·.after.all fun e => !Region.binds .any e || listed.getD e.on false)).getD false) = rs
    cases hg : rs[t % rs.length]? with
    | none =>
      have hempty : rs = [] := by
        by_cases h0 : rs.length = 0
        · exact List.eq_nil_of_length_eq_zero h0
        · have := Nat.mod_lt t (Nat.pos_of_ne_zero h0)
          rw [List.getElem?_eq_getElem this] at hg; cases hg
      have hrem : rem = [] := by
        cases rem with
        | nil => rfl
        | cons i r =>
          exfalso
          obtain ⟨hi, hli⟩ := (hmem i).1 (by simp)
          have hmin : ∀ d, d < i → listed.getD d true = true := by
            intro d hdi
            cases hld : listed.getD d true with
            | true => rfl
            | false =>
              have hm := (hmem d).2 ⟨by omega, hld⟩
              rcases List.mem_cons.1 hm with rfl | hm
              · omega
              · have := List.rel_of_pairwise_cons hpw hm; omega
          have : i ∈ rs := by
            rw [← hrs, List.mem_filter]
            refine ⟨List.mem_range.2 hi, ?_⟩
            have ho : ops[i]? = some ops[i] := by simp [hi]
            simp only [hli, Bool.not_false, Bool.true_and, ho, Option.map_some, Option.getD_some, Array.all_eq_true, Bool.or_eq_true]
            intro j hj
            by_cases hbj : Region.binds .any (ops[i].after[j]) = true
            rotate_left
            · exact .inl (by simpa using hbj)
            refine .inr ?_
            have hdi : (ops[i].after[j]).on < i := (hok' i hi).1 _ (by rw [rows_get ho]; exact List.mem_map.2 ⟨_, List.mem_filter.2 ⟨Array.getElem_mem_toList hj, hbj⟩, rfl⟩)
            have := hmin _ hdi
            have hlt : (ops[i].after[j]).on < listed.size := by omega
            simp [Array.getD, hlt] at this ⊢
            exact this
          rw [hempty] at this; cases this
      subst hrem
      exact ⟨[], by simp, hr, by simp⟩
    | some i =>
      have hmi : i ∈ rs := List.mem_of_getElem? hg
      rw [← hrs, List.mem_filter] at hmi
      obtain ⟨hi, hprop⟩ := hmi
      have hi : i < ops.size := List.mem_range.1 hi
      have ho : ops[i]? = some ops[i] := by simp [hi]
      simp only [ho, Option.map_some, Option.getD_some, Bool.and_eq_true, Bool.not_eq_true', Array.all_eq_true, Bool.or_eq_true] at hprop
      obtain ⟨hli, hall⟩ := hprop
      have hdeps : ∀ d ∈ (rowsOf ops).getD i [], listed.getD d true = true := by
        intro d hdm
        rw [rows_get ho] at hdm
        obtain ⟨ed, hed0, rfl⟩ := List.mem_map.1 hdm
        obtain ⟨hed, hbe⟩ := List.mem_filter.1 hed0
        obtain ⟨j, hj⟩ := List.getElem?_of_mem hed
        obtain ⟨hjl, hje⟩ := List.getElem?_eq_some_iff.1 hj
        have hjl' : j < ops[i].after.size := by simpa using hjl
        have hje' : ops[i].after[j] = ed := by simpa using hje
        rcases hall j hjl' with h | h
        · rw [hje', hbe] at h; simp at h
        · rw [hje'] at h
          by_cases hlt : ed.on < listed.size
          · simp [Array.getD, hlt] at h ⊢; exact h
          · simp [Array.getD, hlt] at h
      have hirem : i ∈ rem := (hmem i).2 ⟨hi, hli⟩
      obtain ⟨pre, post, rfl⟩ := List.append_of_mem hirem
      have hpw' := List.pairwise_append.1 hpw
      have hpre : ∀ p ∈ pre, p < i := fun p hp => hpw'.2.2 p hp i (by simp)
      have hpost : ∀ p ∈ post, i < p := fun p hp => List.rel_of_pairwise_cons hpw'.2.1 hp
      have hfront := runL_front (P := P) (i := al.getD i (⟨none, none, .mov (.c .top)⟩, ⟨[], .any⟩)) (post := post.map fun i => al.getD i (⟨none, none, .mov (.c .top)⟩, ⟨[], .any⟩)) (pre.map fun i => al.getD i (⟨none, none, .mov (.c .top)⟩, ⟨[], .any⟩)) (by
        intro q hq
        obtain ⟨p, hp, rfl⟩ := List.mem_map.1 hq
        rcases (hok' i hi).2 p (hpre p hp) with h | h
        · exfalso
          have := clo_in (S := fun j => listed.getD j true = true) (fun j hj => (hok' j hj).1) hcl i hi hdeps p h
          have hpm := ((hmem p).1 (by simp [hp])).2
          rw [hpm] at this; cases this
        · exact h) (by simpa using hr)
      cases hfront with
      | cons hs hrest =>
        have hne : ∀ j, j ∈ pre ++ post → j ≠ i := by
          intro j hj he
          subst he
          rcases List.mem_append.1 hj with h | h
          · have := hpre j h; omega
          · have := hpost j h; omega
        have hset : ∀ j, (listed.setIfInBounds i true).getD j true = if j = i then true else listed.getD j true := by
          intro j
          simp only [Array.getD_eq_getD_getElem?, Array.getElem?_setIfInBounds]
          by_cases hji : i = j
          · subst hji; simp [hsz, hi]
          · rw [if_neg hji, if_neg (fun h => hji h.symm)]
        obtain ⟨l, h1, h2, h3⟩ := ih (t / rs.length) (listed.setIfInBounds i true) (i :: acc) (pre ++ post) _ _ (by simp [hsz]) (by simp at hf ⊢; omega)
          (List.pairwise_append.2 ⟨hpw'.1, (List.pairwise_cons.1 hpw'.2.1).2, fun x hx y hy => hpw'.2.2 x hx y (by simp [hy])⟩)
          (by
            intro j
            rw [hset]
            constructor
            · intro hj
              rw [if_neg (hne j hj)]
              exact (hmem j).1 (by rcases List.mem_append.1 hj with h | h <;> simp [h])
            · rintro ⟨hj1, hj2⟩
              by_cases hji : j = i
              · rw [if_pos hji] at hj2; cases hj2
              · rw [if_neg hji] at hj2
                have := (hmem j).2 ⟨hj1, hj2⟩
                simp only [List.mem_append, List.mem_cons] at this ⊢
                rcases this with h | h | h
                · exact .inl h
                · exact (hji h).elim
                · exact .inr h)
          (by
            intro j hj hlj d hd
            rw [hset] at hlj ⊢
            split
            · rfl
            · by_cases hji : j = i
              · subst hji; exact hdeps d hd
              · rw [if_neg hji] at hlj; exact hcl j hj hlj d hd)
          (by simpa using hrest)
        refine ⟨i :: l, by simp [h1], ?_, fun j hj => ?_⟩
        · exact .cons hs h2
        · rcases List.mem_cons.1 hj with rfl | h
          · exact hi
          · exact h3 j h
theorem schedule_run {mixed : Bool} (hd : Region.departs ops = false ∨ mixed = true) (hlen : al.length = ops.size) (hok : drawOkL (rowsOf ops) al = true) {e e2 : Env} {O O2 : List AObj} (hr : RunL P al e O e2 O2) (t : Nat) :
    RunL P ((Region.schedule mixed ops t).map fun i => al.getD i (⟨none, none, .mov (.c .top)⟩, ⟨[], .any⟩)) e O e2 O2 ∧ ∀ i ∈ Region.schedule mixed ops t, i < ops.size := by
  have hs : Region.schedule mixed ops t = Region.linearise .any ops t := by rcases hd with hd | hd <;> simp [Region.schedule, hd]
  rw [hs]
  have hall : (List.range ops.size).map (fun i => al.getD i (⟨none, none, .mov (.c .top)⟩, ⟨[], .any⟩)) = al := by
    apply List.ext_getElem
    · simp [hlen]
    · intro i h1 h2
      simp [List.getD, h2]
  obtain ⟨l, h1, h2, h3⟩ := go_run (P := P) hlen hok ops.size t (Array.replicate ops.size false) [] (List.range ops.size) e O (by simp) (by simp) List.pairwise_lt_range
    (fun j => by
      rw [List.mem_range]
      constructor
      · intro h; exact ⟨h, by simp [Array.getD, h]⟩
      · exact fun h => h.1)
    (fun j hj h => by simp [Array.getD, hj] at h)
    (by rw [hall]; exact hr)
  simp only [Region.linearise]
  rw [h1]
  simpa using ⟨h2, h3⟩
end
end Go.Ab
