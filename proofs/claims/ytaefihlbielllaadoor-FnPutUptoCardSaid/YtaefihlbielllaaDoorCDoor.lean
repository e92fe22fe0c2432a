/-
  strconv.Itoa AND strings.Join.
-/
import Derived.Test.YtaefihlbielllaaDoorGM
import Derived.Test.YtaefihlbielllaaDoorPShelf
import Derived.Test.YtaefihlbielllaaDoorST
set_option linter.unusedVariables false
set_option linter.unusedSimpArgs false
set_option linter.defProp false
namespace Go.Proofs.Ab
open Go.Ab
set_option maxRecDepth 100000
set_option maxHeartbeats 4000000
theorem itoa_c (n : Int) (h0 : -9223372036854775808 ≤ n) (h1 : n ≤ 9223372036854775807) : PCon Tryd.prog F.strconv_Itoa [avI n] (avB (numB n)) := by
  refine PCon.of_below (Go.Ab.enters_of (by kernel_rfl)) rfl fun I L w vs hi hr => ?_
  obtain ⟨x, rfl, hx⟩ := rl_1 hr
  rw [hx.v_inv]
  refine (Tryd.strconv_Itoa n h0 h1 w (hi.tab (by kernel_rfl))).mono ?_
  rintro e w' ⟨h2, k, os, rfl⟩
  refine ⟨h2, rfl, rfl, rfl, ?_, fun b hb => ?_⟩
  · show w.heap.size ≤ (w.heap ++ os).size
    simp
  · show (w.heap ++ os)[b]? = _
    rw [Array.getElem?_append_left hb]
theorem join_c (l : List ByteArray) (sep : ByteArray) (hl : l.length ≤ 140737488355328) (hs : (joinB sep l).size ≤ 140737488355328) : PCon Tryd.prog F.strings_Join [.sl (l.map avB), avB sep] (avB (joinB sep l)) := by
  refine PCon.of_below (Go.Ab.enters_of (by kernel_rfl)) rfl fun I L w vs hi hr => ?_
  obtain ⟨x, y, rfl, hx, hy⟩ := rl_2 hr
  rw [hy.v_inv]
  rcases strings_at hi hx with ⟨rfl, a, c, rfl⟩ | ⟨bk, o, c, rfl, h1, h2, h3⟩
  · refine (Tryd.strings_Join_none a c sep w).mono ?_
    rintro e w' ⟨h4, rfl⟩
    exact ⟨h4, .refl _ _⟩
  · rw [← joinB_lib]
    refine (Tryd.strings_Join bk o c l sep w h3 h2 hl h1 ?_).mono ?_
    · have := congrArg ByteArray.size (joinB_lib sep l)
      rw [← this] at hs
      simpa [ByteArray.size] using hs
    · rintro e w' ⟨h4, h5⟩
      exact ⟨h4, h5⟩
end Go.Proofs.Ab
