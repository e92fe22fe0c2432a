/-
  strconv.Itoa AND strings.Join.
-/
import Derived.Test.YtkinchcjijhmgaaDoorGM
import Derived.Test.YtkinchcjijhmgaaDoorPShelf
import Derived.Test.YtkinchcjijhmgaaDoorST
set_option linter.unusedVariables false
set_option linter.unusedSimpArgs false
set_option linter.defProp false
namespace Go.Proofs.Ab
open Go.Ab
set_option maxRecDepth 100000
set_option maxHeartbeats 4000000
theorem itoa_c (n : Int) (h0 : -9223372036854775808 ≤ n) (h1 : n ≤ 9223372036854775807) : PCon Tryd.prog F.strconv_Itoa [avI n] (avB (numB n)) := by
  refine PCon.of_below (Go.Ab.enters_of (by kernel_rfl)) rfl fun I L w vs hi hr => ?_
  obtain ⟨x, rfl, hx⟩ := rl_1 hr
  rw [hx.v_inv]
  refine (Tryd.strconv_Itoa n h0 h1 w (hi.tab (by kernel_rfl))).mono ?_
  rintro e w' ⟨h2, k, os, rfl⟩
  refine ⟨h2, rfl, rfl, rfl, ?_, fun b hb => ?_⟩
  · show w.heap.size ≤ (w.heap ++ os).size
    simp
  · show (w.heap ++ os)[b]? = _
    rw [Array.getElem?_append_left hb]
end Go.Proofs.Ab
