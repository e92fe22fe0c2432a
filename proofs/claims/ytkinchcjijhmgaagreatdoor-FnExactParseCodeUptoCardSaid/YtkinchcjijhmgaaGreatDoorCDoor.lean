/-
  strconv.Itoa AND strings.Join.
-/
import Derived.Test.YtkinchcjijhmgaaGreatDoorGM
import Derived.Test.YtkinchcjijhmgaaGreatDoorPShelf
import Derived.Test.YtkinchcjijhmgaaGreatDoorST
set_option linter.unusedVariables false
set_option linter.unusedSimpArgs false
namespace Go.Proofs.Ab
open Go.Ab
set_option maxRecDepth 100000
set_option maxHeartbeats 4000000
theorem ak8(n:Int)(h0: -9223372036854775808<=n)(h1:n<=9223372036854775807):aI Tryz.prog F.strconv_Itoa [br n] (bE (im n)):=by
 refine aI.oq (Go.Ab.enters_of (by kernel_rfl)) rfl λ I L w vs hi hr=> ?_
 obtain⟨x,rfl,hx⟩:=atO hr;rw[hx.ajC];refine(Tryz.strconv_Itoa n h0 h1 w (hi.tab (by kernel_rfl))).mono ?_;rintro e w' ⟨h2,k,os,rfl⟩;refine⟨h2,rfl,rfl,rfl,?_,λ b hb=> ?_⟩
 ·show w.heap.size<=(w.heap++os).size;simp
 ·show(w.heap++os)[b]? =_;rw[Array.getElem?_append_left hb]
end Go.Proofs.Ab
