/-
  toX AND markX, by their types, on trees of one's own (printed by wip/tool/own.py).
-/
import Derived.Test.YtaefihlbielllaaDoorCOwn0
import Derived.Test.YtaefihlbielllaaDoorSA
set_option linter.unusedVariables false
set_option linter.unusedSimpArgs false
set_option linter.defProp false
namespace Go.Ab
set_option maxRecDepth 100000
theorem VTy.elem (x : VTy) : x.av.elem = true := by simp [AV.elem, VTy.isAgg, VTy.storable, VTy.noref]
theorem VTy.flat_eq (x : VTy) : x.av = .agg [.v (.int .i64 x.Kind), .v (.int .i64 x.N), .v (.string x.Name), .sl (x.Kids.map VTy.av)] := by rw [← VTy.eta x]
theorem VTy.spx (x : VTy) (n : Nat) : spx n x.av = (.agg [.v (.int .i64 x.Kind), .v (.int .i64 x.N), .v (.string x.Name), .own (n)], [.own (.sl (x.Kids.map VTy.av))]) := by rw [VTy.flat_eq x]; rfl
theorem VTy.spx_w (x : VTy) (n : Nat) : (Go.Ab.spx n x.av).1.isAgg = true ∧ (Go.Ab.spx n x.av).1.cells.length = 4 ∧ (Go.Ab.spx n x.av).1.storable = true := by rw [VTy.flat_eq x]; exact ⟨rfl, rfl, rfl⟩
end Go.Ab
namespace Go.Proofs.Ab
open Go.Ab
set_option maxRecDepth 100000
set_option maxHeartbeats 4000000
end Go.Proofs.Ab
