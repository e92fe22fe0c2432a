/-
  TYPES AND CORES THAT ARE RIGHT OR VALUES; THE PLACE OF A CONSTRUCTOR.
-/
import Derived.Test.YtiakemdoealcoaaGreatDoorCTok
import Derived.Test.YtiakemdoealcoaaGreatDoorSL
set_option linter.unusedVariables false
set_option linter.unusedSimpArgs false
set_option linter.defProp false
namespace Go.Ab
set_option maxRecDepth 100000
set_option maxHeartbeats 4000000
def VTy.nodeM (t : VTy) : Bool :=
  (decide (t.Kind = 7) || decide (t.Name = emp)) && (decide (9 ≤ t.Kind) || decide (t.N = 0)) &&
   (if t.Kind = 1 ∨ t.Kind = 2 ∨ t.Kind = 3 ∨ t.Kind = 4 then decide (t.Kids.length = 0) else if t.Kind = 5 then decide (t.Kids.length = 2) else if t.Kind = 6 then decide (2 ≤ t.Kids.length)
    else if t.Kind = 7 then lowM t.Name else if t.Kind = 8 then decide (t.Kids.length = 1) else if t.Kind = 9 ∨ t.Kind = 10 ∨ t.Kind = 11 then decide (t.Kids.length = 0) && decide (0 ≤ t.N) else false)
mutual
def VTy.okM : VTy → Bool
  | .mk k n name kids => (VTy.mk k n name kids).nodeM && VTy.allOk kids
def VTy.allOk : List VTy → Bool
  | [] => true
  | x :: l => x.okM && VTy.allOk l
end
theorem VTy.allOk_eq (l : List VTy) : VTy.allOk l = l.all VTy.okM := by
  induction l with
  | nil => rfl
  | cons x l ih => simp only [VTy.allOk, ih, List.all_cons]
theorem VTy.okM_eq (x : VTy) : x.okM = (x.nodeM && x.Kids.all VTy.okM) := by
  cases x; simp only [VTy.okM, VTy.allOk_eq, VTy.Kids]
end Go.Ab
namespace Go.Proofs.Ab
open Go.Ab
set_option maxRecDepth 100000
set_option maxHeartbeats 4000000
end Go.Proofs.Ab
