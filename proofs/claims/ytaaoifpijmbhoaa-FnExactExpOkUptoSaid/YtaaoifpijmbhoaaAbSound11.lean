/-
  EACH OPERATION DOES WHAT ITS ABSTRACT ONE SAYS (3).
-/
import Derived.Test.YtaaoifpijmbhoaaAbSound10
set_option linter.unusedVariables false
set_option linter.unusedSimpArgs false
set_option linter.defProp false
namespace Go.Ab

section
variable {P : Program} {I : Imm} {L : Nat → Loc} {O : List AObj} {w : World} {K : AV → List AObj → Prop} {e : Env} {a : Act}
variable {d : Option Tmp} {ty : TypeId} {pos : String} {af : Array Edge} {g : Option (Nat × Bool)} {ao : AOp}

theorem cSlice_inv {t el : TypeId} (h : cSlice P t = some el) : P.underlying t = some (.slice el) := by
  unfold cSlice at h
  split at h
  · rename_i x hx; cases h; exact hx
  · cases h

theorem ran_build (hi : Inv I L O w) (he : ∀ t, R I L O (e t) (a.tmps.getD t undef)) {t : TypeId} {parts : Array (Nat × Operand)} (hc : cOp1 P ty (.build t parts) = some ao) (hk : wpOp P ao e O K) :
    Ran P I L O w (execOp a.eval ⟨d, .build t parts, ty, pos, af, g⟩) K := by
  simp only [cOp1] at hc
  split at hc
  · rename_i fs hs
    simp only [Option.bind_eq_bind, Option.bind_eq_some_iff, Option.some.injEq] at hc
    obtain ⟨⟨s, b, z⟩, hz, places, hpl, ps, hps, rfl⟩ := hc
    obtain ⟨i, z0, h1, h2, h3, rfl, rfl, h4, h5, h6, h7⟩ := cElem_inv hz
    have rz := (absV_sound (I := I) (L := L) (O := O) h3).cells (storable_cases h7)
    have hz0 : RCs I L O z.cells z0.cells := ⟨rz.1, fun j c y hj hy => by obtain ⟨y', hy', hr⟩ := rz.2 j c hj; rw [hy] at hy'; cases hy'; exact hr⟩
    obtain ⟨zs, vs', m1, m2, m3⟩ := buildK_sound he parts.toList ps z.cells z0.cells hz0 hps hk
    have hfill := m3 (fun i => places.toArray[i]?) (fun j f n hj hn => by
      obtain ⟨q1, q2⟩ := mapM_some hpl
      have hlt : j < places.length := by rw [q1]; simpa using (Array.getElem?_eq_some_iff.1 hj).1
      have := q2 j f places[j] (by simpa using hj) (by simp)
      rw [hn] at this
      simp at this
      simp [hlt, this])
    have hb : P.built t (parts.map fun (i, x) => (i, a.eval x)).toList = some vs' := by
      simp only [Program.built, h1, hs, h2, hpl]
      simpa using hfill
    refine Ran.same hi m1 (y := .agg vs') (.agg _ _ m2.1 m2.2) ?_
    simp only [execOp]
    rw [Sem.run_bind, run_build w t _ vs' hb]
    rfl
  · cases hc

theorem ran_buildSlice (hi : Inv I L O w) (he : ∀ t, R I L O (e t) (a.tmps.getD t undef)) {t : TypeId} {len : Nat} {parts : Array (Nat × Operand)} (hc : cOp1 P ty (.buildSlice t len parts) = some ao) (hk : wpOp P ao e O K) :
    Ran P I L O w (execOp a.eval ⟨d, .buildSlice t len parts, ty, pos, af, g⟩) K := by
  simp only [cOp1, Option.bind_eq_bind, Option.bind_eq_some_iff] at hc
  obtain ⟨el, hel, ⟨s, b, z⟩, hz, ps, hps, hc⟩ := hc
  split at hc
  · rename_i hbig
    simp only [Option.some.injEq] at hc
    subst hc
    have ht := cSlice_inv hel
    obtain ⟨i, z0, h1, h2, h3, rfl, rfl, h4, h5, h6, h7⟩ := cElem_inv hz
    have hmade := RRow.made (I := I) (L := L) (O := O) (cap := len) (n := len) (absV_sound h3) h7 h4 h5 (Nat.le_refl _)
    obtain ⟨xs', c', m1, m2, m3, m4, m5⟩ := rowK_sound he parts.toList ps _ _ hmade (by simp) hps hk
    have hcap : len ≤ maxLen := by
      have h8 : len * 1 ≤ len * i.size := Nat.mul_le_mul_left _ h5
      simp only at hbig
      simp only [maxLen]; omega
    have hgood := hi.new (e := el) (s := i.size) (xs := xs') c' len (by rw [m4]; simp) (by simpa using (Nat.le_of_eq m3)) hcap h5 m2
    have hr := R.rowLive (I := I) (L := fun k => if k = O.length then ⟨w.heap.size, len⟩ else L k) (O := O ++ [.live el i.size xs']) O.length len el i.size xs' (by simp) (by simpa using m3)
    refine ⟨_, _, .slice (some ⟨w.heap.size, 0, none⟩) len len, _, _, _, m1, hgood, by simpa using hr, .inl ?_⟩
    have hns : ¬ (len * i.size > 2 ^ 24) := by simpa using hbig
    simp only [execOp]
    by_cases h0 : len * i.size = 0
    · have hl0 : len = 0 := by rcases Nat.mul_eq_zero.1 h0 with h | h <;> omega
      subst hl0
      simp [Array.range_zero'] at m5
      simp [Instr.buildSlice, run_underlying ht, sizeOf, typeInfo, h1, m5, newRow, Array.range_zero']
    · simp [Instr.buildSlice, run_underlying ht, sizeOf, typeInfo, h1, hns, h0, zeroValue, h2, m5, newRow]
  · cases hc

end
end Go.Ab
