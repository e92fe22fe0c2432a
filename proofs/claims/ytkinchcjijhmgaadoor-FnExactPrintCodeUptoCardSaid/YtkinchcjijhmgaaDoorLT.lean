/-
  THE TABLE OF THE POWERS OF TEN, out of the row's condition; a world for the witness.
-/
import Derived.Test.YtkinchcjijhmgaaDoorRD
import Derived.Test.YtkinchcjijhmgaaDoorGM
import Derived.Test.YtkinchcjijhmgaaDoorCards
import Derived.Test.YtkinchcjijhmgaaDoorTie
import Derived.Deep.DeepHandedRow
import Derived.Stop.LaidErr
import Derived.MakeChecks
set_option linter.unusedVariables false
set_option linter.unusedSimpArgs false
set_option linter.defProp false
namespace Go.Proofs.YtkinchcjijhmgaaDoor
open Go.Ab Go.ChangeShapes Go.WideShapes Go.ChangeAt Go.RowKit
set_option maxRecDepth 100000
def tabs : List (String × DataW Unit) := [("math/bits.deBruijn32tab", Rows.laid_math_bits_deBruijn32tab), ("math/bits.deBruijn64tab", Rows.laid_math_bits_deBruijn64tab), ("internal/strconv.uint64pow10", Rows.laid_internal_strconv_uint64pow10)]
theorem gTab : Tryd.prog.globalNamed "internal/strconv.uint64pow10" = some tabNo := by kernel_rfl
theorem tabEq : (Rows.laid_internal_strconv_uint64pow10 : DataW Unit) = Lib.tabData .u64 Lib.pow10Tab := by kernel_rfl
theorem table {W : World} (h : laidMetH Tryd.prog tabs W) : Lib.TabIs Tryd.prog W "internal/strconv.uint64pow10" .u64 Lib.pow10Tab := by
  rw [MakeChecks.laidMetH_plain _ _ _ (by kernel_rfl)] at h
  have h2 := ((h.tail).tail)
  rw [tabEq] at h2
  exact Lib.tabIs_of_head gTab (t := 86) (by kernel_rfl) Tryd.underlying86 Tryd.underlying51 (by kernel_rfl) (by kernel_rfl) h2
theorem tabFix {W : World} (h : laidMetH Tryd.prog tabs W) : (∀ p ∈ fixedCells, W.cell? ⟨p.1, p.2.1, none⟩ = some p.2.2) ∧ ∀ q ∈ fixedBlks, blkSize W q.1 = some q.2 ∧ ∃ v, memI W q.1 0 = some v ∧ fixOk q.1 v = true := by
  have ht := table h
  have hc : ∀ i, i < 20 → W.cell? ⟨tabNo, i, none⟩ = some (.int .u64 (Lib.pow10Tab.getD i 0)) := fun i hi => ht.cell gTab i (by rw [Lib.pow10Tab_length]; exact hi)
  constructor
  · intro p hp
    have he : fixedCells = (List.range 20).map fun i => (tabNo, i, Value.int .u64 (Lib.pow10Tab.getD i 0)) := by kernel_rfl
    rw [he, List.mem_map] at hp
    obtain ⟨i, hi, rfl⟩ := hp
    exact hc i (List.mem_range.1 hi)
  · intro q hq
    have he : fixedBlks = [(tabNo, 20)] := rfl
    rw [he, List.mem_singleton] at hq
    subst hq
    refine ⟨?_, _, hc 0 (by omega), rfl⟩
    unfold Lib.TabIs World.var? at ht
    rw [gTab] at ht
    simp only [Option.bind_some] at ht
    unfold blkSize
    split at ht
    · rename_i hz
      rw [hz]
      simp only [Option.some.injEq] at ht
      subst ht
      simp [Lib.pow10Tab]
    · cases ht
noncomputable def laidWorld (os : Os) : World :=
  { World.holding Tryd.prog os ⟨#[], #[], []⟩ with heap := ((((World.holding Tryd.prog os ⟨#[], #[], []⟩).heap.modify 2 fun
      | .cells _ t frozen => .cells #[.int .u8 0, .int .u8 1, .int .u8 28, .int .u8 2, .int .u8 29, .int .u8 14, .int .u8 24, .int .u8 3, .int .u8 30, .int .u8 22, .int .u8 20, .int .u8 15, .int .u8 25, .int .u8 17, .int .u8 4, .int .u8 8, .int .u8 31, .int .u8 27, .int .u8 13, .int .u8 23, .int .u8 21, .int .u8 19, .int .u8 16, .int .u8 7, .int .u8 26, .int .u8 12, .int .u8 18, .int .u8 6, .int .u8 11, .int .u8 5, .int .u8 10, .int .u8 9] t frozen
      | o => o).modify 3 fun
      | .cells _ t frozen => .cells #[.int .u8 0, .int .u8 1, .int .u8 56, .int .u8 2, .int .u8 57, .int .u8 49, .int .u8 28, .int .u8 3, .int .u8 61, .int .u8 58, .int .u8 42, .int .u8 50, .int .u8 38, .int .u8 29, .int .u8 17, .int .u8 4, .int .u8 62, .int .u8 47, .int .u8 59, .int .u8 36, .int .u8 45, .int .u8 43, .int .u8 51, .int .u8 22, .int .u8 53, .int .u8 39, .int .u8 33, .int .u8 30, .int .u8 24, .int .u8 18, .int .u8 12, .int .u8 5, .int .u8 63, .int .u8 55, .int .u8 48, .int .u8 27, .int .u8 60, .int .u8 41, .int .u8 37, .int .u8 16, .int .u8 46, .int .u8 35, .int .u8 44, .int .u8 21, .int .u8 52, .int .u8 32, .int .u8 23, .int .u8 11, .int .u8 54, .int .u8 26, .int .u8 40, .int .u8 15, .int .u8 34, .int .u8 20, .int .u8 31, .int .u8 10, .int .u8 25, .int .u8 14, .int .u8 19, .int .u8 9, .int .u8 13, .int .u8 8, .int .u8 7, .int .u8 6] t frozen
      | o => o).modify 0 fun
      | .cells _ t frozen => .cells #[.int .u64 1, .int .u64 10, .int .u64 100, .int .u64 1000, .int .u64 10000, .int .u64 100000, .int .u64 1000000, .int .u64 10000000, .int .u64 100000000, .int .u64 1000000000, .int .u64 10000000000, .int .u64 100000000000, .int .u64 1000000000000, .int .u64 10000000000000, .int .u64 100000000000000, .int .u64 1000000000000000, .int .u64 10000000000000000, .int .u64 100000000000000000, .int .u64 1000000000000000000, .int .u64 10000000000000000000] t frozen
      | o => o) }
end Go.Proofs.YtkinchcjijhmgaaDoor
