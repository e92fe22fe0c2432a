/-
  THE OPERATIONS THAT ONLY COMPUTE.
-/
import Derived.Test.YtaaoifpijmbhoaaAbSound2
set_option linter.unusedVariables false
set_option linter.unusedSimpArgs false
set_option linter.defProp false
namespace Go.Ab

/-- An operation's run: a value or nothing, what is known behind it, and the rest of the abstract walk. -/
def Ran (P : Program) (I : Imm) (L : Nat → Loc) (O : List AObj) (w : World) (s : Sem Next) (K : AV → List AObj → Prop) : Prop :=
  ∃ x O' y I' L' w', K x O' ∧ Good I L O w I' L' O' w' ∧ R I' L' O' x y ∧ (s.run P w = .ok (.value y) w' ∨ (s.run P w = .ok .skip w' ∧ y = undef))

section
variable {P : Program} {I : Imm} {L : Nat → Loc} {O : List AObj} {w : World} {K : AV → List AObj → Prop}

theorem Ran.same (h : Inv I L O w) {s : Sem Next} {x : AV} {y : Value} (hk : K x O) (hr : R I L O x y) (hs : s.run P w = .ok (.value y) w) : Ran P I L O w s K :=
  ⟨x, O, y, I, L, w, hk, .refl h, hr, .inl hs⟩

theorem R.bool {x : Value} {b : Bool} (h : R I L O (.v (.bool b)) x) : x = .bool b := by cases h; rfl
theorem R.exact {x y : Value} (h : R I L O (.v y) x) : x = y := by cases h; rfl

theorem sbin_run {op : BinOp} {x y z : Value} (h : sbin op x y = some z) (t : TypeId) (a b : Operand) (w : World) :
    (do eqGuard op t a b x y; binOp op t x y : Sem Value).run P w = .ok z w ∧ z.oneCell' = true := by
  unfold sbin at h
  split at h
  · rename_i k a' k' b'
    split at h
    · cases op <;> simp [BinOp.isShift] at * <;> simp only [shbin] at h <;> split at h <;> simp at h <;> rename_i hh <;> subst h <;>
        simp [eqGuard, binOp, Op.shift, Int.not_lt.2 hh, Value.oneCell']
    · split at h
      · rename_i hk
        subst hk
        cases op <;> simp [BinOp.isShift] at * <;> simp only [ibin] at h
        case quo => split at h <;> simp at h; rename_i hh; subst h; simp [eqGuard, binOp, Op.intDiv, hh, Value.oneCell']
        case rem => split at h <;> simp at h; rename_i hh; subst h; simp [eqGuard, binOp, Op.intDiv, hh, Value.oneCell']
        all_goals (simp at h)
        all_goals (subst h; simp [eqGuard, binOp, Op.intArith, Op.intBits, Op.intCmp, Value.oneCell'])
      · cases h
  · rename_i a' b'
    cases op <;> simp only [stbin] at h
    case add =>
      split at h <;> simp at h
      rename_i hh
      subst h
      have h2 : ¬ ((a'.size : Int) + (b'.size : Int) > IntKind.i64.max) := by have := hh; push_cast at this; omega
      simp [eqGuard, binOp, Op.stringOp, Value.oneCell']
      have h3 : IntKind.i64.max = 9223372036854775807 := by decide
      omega
    all_goals first
      | (simp at h; done)
      | (simp only [Option.some.injEq] at h; subst h; simp [eqGuard, binOp, Op.stringOp, Value.oneCell'])
  · cases h

theorem sun_run {op : UnOp} {x z : Value} (h : sun op x = some z) (w : World) : (Op.unary op x).run P w = .ok z w ∧ z.oneCell' = true := by
  unfold sun at h
  split at h <;> cases h <;> simp [Op.unary, Op.intArith, Value.oneCell']

end

end Go.Ab
