/-
  DERIVED. GIVEN WITH THE SEED: THE CARDS: each row of YtkinchcjijhmgaaDoorRows.lean that lists a variable, with what it lists TIED to the program's text (the seventh form; the later family's looks); each row that meets fmt, with fmt's text TOLD by the authors' own Lean function (tested against real Go, not proved from fmt's source: count such statements apart). THE CARD IS WHAT COUNTS. Prove the row's statement (the work); the ties are given (YtkinchcjijhmgaaDoorTie.lean); close each card by the builder's one call (the guide's Derived/Test/ToyasCard.lean, 'card_holds'). Laid BY PROGRAM, IN A SANDBOX (cutbox-door.mjs). By AI agents, Wed Nov 11 2026. No macro, syntax, notation, axiom, sorry.
-/
import Derived.Test.YtkinchcjijhmgaaDoorRows
import GoSem.ClaimSeven
namespace Go.Proofs.YtkinchcjijhmgaaDoor
namespace Rows

/-- THE TIED CARD OF 'laws.FnExactPrintCode'. -/
def fnExactPrintCodeCard : Claim7 := { stood := { row := fnExactPrintCodeRow, standIns := [], harness := (true, "4c8fbe710b39267a6e415ef7ab0aab9344a8b08a1f3a60e6ce309a2fb80796bf"), looks := false }, kinds := [], alts := [], laidByText := true, laidKinds := [.data, .data, .data], laidTests := true, laidLooks := .later }
def FnExactPrintCodeCardSaid : Prop := Claim7.holds Tryd.pinned (.plain (OpenSpec.ofChange fnExactPrintCodeSpec)) fnExactPrintCodeCard

/-- THE SECOND FORM's CARD OF 'laws.FnExactPrintCode'. -/
def fnExactPrintCodeUptoCard : Claim7 := { stood := { row := fnExactPrintCodeUptoRow, standIns := [], harness := (true, "4c8fbe710b39267a6e415ef7ab0aab9344a8b08a1f3a60e6ce309a2fb80796bf"), looks := false }, kinds := [], alts := [], laidByText := true, laidKinds := [.data, .data, .data], laidTests := true, laidLooks := .later }
def FnExactPrintCodeUptoCardSaid : Prop := Claim7.holds Tryd.pinned (.plain (OpenSpec.upto fnExactPrintCodeSpec)) fnExactPrintCodeUptoCard
end Rows
end Go.Proofs.YtkinchcjijhmgaaDoor
