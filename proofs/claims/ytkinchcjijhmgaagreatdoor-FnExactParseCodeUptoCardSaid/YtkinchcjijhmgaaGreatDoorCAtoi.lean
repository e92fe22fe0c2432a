/-
  strconv.Atoi: a number, or an error that is not nil; numbers at a place of a text.
-/
import Derived.Test.YtkinchcjijhmgaaGreatDoorGM
import Derived.Test.YtkinchcjijhmgaaGreatDoorPShelf
import Derived.Test.YtkinchcjijhmgaaGreatDoorCLexM
import Derived.Shelf.Strconv.AtoiAll
import Derived.WalkKit
import Derived.BigCall
set_option linter.unusedVariables false
set_option linter.unusedSimpArgs false
namespace Go.Ab
set_option maxRecDepth 100000
set_option maxHeartbeats 4000000
end Go.Ab
namespace Go.Proofs.Ab
open Go.Ab
set_option maxRecDepth 100000
set_option maxHeartbeats 4000000
theorem ame{I:da}{L:Nat->Go.Ab.Loc}{w:World}(hi:Go.Ab.Inv I L [] w):(∃te pe,w.cell? ⟨tV,0,none⟩=some (.iface te pe))/\∃te pe,w.cell? ⟨tU,0,none⟩=some (.iface te pe):=by
 constructor
 ·obtain⟨_,v,h2,h3⟩:=hi.bc (tV,1) (List.mem_of_getElem? (i:=1) rfl);cases v with
  |iface t x=>exact⟨t,x,hi.iy _ _ _ h2⟩
  |_=>cases h3
 ·obtain⟨_,v,h2,h3⟩:=hi.bc (tU,1) (List.mem_of_getElem? (i:=2) rfl);cases v with
  |iface t x=>exact⟨t,x,hi.iy _ _ _ h2⟩
  |_=>cases h3
end Go.Proofs.Ab
