/-
  DERIVED. GIVEN WITH THE SEED: THE CARDS: each row of YtlhnahogacofoaaDoorRows.lean that lists a variable, with what it lists TIED to the program's text (the seventh form; the later family's looks); each row that meets fmt, with fmt's text TOLD by the authors' own Lean function (tested against real Go, not proved from fmt's source: count such statements apart). THE CARD IS WHAT COUNTS. Prove the row's statement (the work); the ties are given (YtlhnahogacofoaaDoorTie.lean); close each card by the builder's one call (the guide's Derived/Test/ToyasCard.lean, 'card_holds'). Laid BY PROGRAM, IN A SANDBOX (cutbox-door.mjs). By AI agents, Wed Nov 11 2026. No macro, syntax, notation, axiom, sorry.
-/
import Derived.Test.YtlhnahogacofoaaDoorRows
import GoSem.ClaimSeven
namespace Go.Proofs.YtlhnahogacofoaaDoor
namespace Rows

/-- THE TIED CARD OF 'laws.FnExactPrintCode'. -/
def fnExactPrintCodeCard : Claim7 := { stood := { row := fnExactPrintCodeRow, standIns := [], harness := (true, "fb1722b6e19c33211abb45ea19f2a640c5db10b25cdadf69ee0c548446f2a814"), looks := true }, kinds := [], alts := [], laidByText := true, laidKinds := [.data, .data, .data], laidTests := true, laidLooks := .later }
def FnExactPrintCodeCardSaid : Prop := Claim7.holds Tryd.pinned (.plain (OpenSpec.ofChange fnExactPrintCodeSpec)) fnExactPrintCodeCard

/-- THE TIED CARD OF 'laws.FnExactLex'. -/
def fnExactLexCard : Claim7 := { stood := { row := fnExactLexRow, standIns := [], harness := (true, "fb1722b6e19c33211abb45ea19f2a640c5db10b25cdadf69ee0c548446f2a814"), looks := true }, kinds := [], alts := [], laidByText := true, laidKinds := [.data, .data, .data, .sentinel, .sentinel], laidTests := true, laidLooks := .later }
def FnExactLexCardSaid : Prop := Claim7.holds Tryd.pinned (.plain (OpenSpec.ofChange fnExactLexSpec)) fnExactLexCard

/-- THE TIED CARD OF 'laws.FnSpelled'. -/
def fnSpelledCard : Claim7 := { stood := { row := fnSpelledRow, standIns := [], harness := (true, "fb1722b6e19c33211abb45ea19f2a640c5db10b25cdadf69ee0c548446f2a814"), looks := true }, kinds := [], alts := [], laidByText := true, laidKinds := [.data, .data, .data, .sentinel, .sentinel], laidTests := true, laidLooks := .later }
def FnSpelledCardSaid : Prop := Claim7.holds Tryd.pinned (.plain (OpenSpec.ofChange fnSpelledSpec)) fnSpelledCard

/-- THE SECOND FORM's CARD OF 'laws.FnExactPrintCode'. -/
def fnExactPrintCodeUptoCard : Claim7 := { stood := { row := fnExactPrintCodeUptoRow, standIns := [], harness := (true, "fb1722b6e19c33211abb45ea19f2a640c5db10b25cdadf69ee0c548446f2a814"), looks := true }, kinds := [], alts := [], laidByText := true, laidKinds := [.data, .data, .data], laidTests := true, laidLooks := .later }
def FnExactPrintCodeUptoCardSaid : Prop := Claim7.holds Tryd.pinned (.plain (OpenSpec.upto fnExactPrintCodeSpec)) fnExactPrintCodeUptoCard

/-- THE SECOND FORM's CARD OF 'laws.FnExactLex'. -/
def fnExactLexUptoCard : Claim7 := { stood := { row := fnExactLexUptoRow, standIns := [], harness := (true, "fb1722b6e19c33211abb45ea19f2a640c5db10b25cdadf69ee0c548446f2a814"), looks := true }, kinds := [], alts := [], laidByText := true, laidKinds := [.data, .data, .data, .sentinel, .sentinel], laidTests := true, laidLooks := .later }
def FnExactLexUptoCardSaid : Prop := Claim7.holds Tryd.pinned (.plain (OpenSpec.upto fnExactLexSpec)) fnExactLexUptoCard

/-- THE SECOND FORM's CARD OF 'laws.FnSpelled'. -/
def fnSpelledUptoCard : Claim7 := { stood := { row := fnSpelledUptoRow, standIns := [], harness := (true, "fb1722b6e19c33211abb45ea19f2a640c5db10b25cdadf69ee0c548446f2a814"), looks := true }, kinds := [], alts := [], laidByText := true, laidKinds := [.data, .data, .data, .sentinel, .sentinel], laidTests := true, laidLooks := .later }
def FnSpelledUptoCardSaid : Prop := Claim7.holds Tryd.pinned (.plain (OpenSpec.upto fnSpelledSpec)) fnSpelledUptoCard
end Rows
end Go.Proofs.YtlhnahogacofoaaDoor
