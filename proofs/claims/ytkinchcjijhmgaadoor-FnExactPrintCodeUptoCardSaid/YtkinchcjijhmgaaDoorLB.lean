/- Part of a proof: the functions that the law reaches, walked by the abstract logic of the texts Ab. -/
import Derived.Test.YtkinchcjijhmgaaDoorRows
import Derived.Test.YtkinchcjijhmgaaDoorAbM3
import Derived.WalkKit
import Derived.ProofKit
set_option linter.unusedVariables false
set_option linter.unusedSimpArgs false
set_option linter.defProp false
namespace Go.Proofs.YtkinchcjijhmgaaDoor
open Go.Ab Go.ChangeShapes Go.WideShapes Go.ChangeAt Go.RowKit
theorem own : ownKnob Tryd.prog.godebug = none := by kernel_rfl
theorem laid : laidOutB Tryd.prog = true := by kernel_rfl
mutual
theorem bulk_eq {H : Type} : ∀ d : DataW H, bulk d ≤ Rows.uptoBulk d
  | .lit (.string _) => Nat.le_refl _
  | .lit (.bool _) => Nat.le_refl _
  | .lit (.int _ _) => Nat.le_refl _
  | .lit (.float _ _) => Nat.le_refl _
  | .lit .nil => Nat.le_refl _
  | .nil => Nat.le_refl _
  | .ptr d => by have := bulk_eq d; simp only [bulk, Rows.uptoBulk]; omega
  | .slice es sp => by have := bulkAll_eq es; have := bulkAll_eq sp; simp only [bulk, Rows.uptoBulk]; omega
  | .agg ps => by have := bulkAll_eq ps; simp only [bulk, Rows.uptoBulk]; omega
  | .iface _ d => by have := bulk_eq d; simp only [bulk, Rows.uptoBulk]; omega
  | .map _ => by simp only [bulk, Rows.uptoBulk]; omega
  | .held _ => Nat.le_refl _
theorem bulkAll_eq {H : Type} : ∀ l : List (DataW H), bulkAll l ≤ Rows.uptoBulkAll l
  | [] => Nat.le_refl _
  | d :: r => by have := bulk_eq d; have := bulkAll_eq r; simp only [bulkAll, Rows.uptoBulkAll]; omega
end
end Go.Proofs.YtkinchcjijhmgaaDoor
