/-
  DERIVED. GIVEN WITH THE SEED: THE CARDS: each row of YtiakemdoealcoaaDoorRows.lean that lists a variable, with what it lists TIED to the program's text (the seventh form; the later family's looks); each row that meets fmt, with fmt's text TOLD by the authors' own Lean function (tested against real Go, not proved from fmt's source: count such statements apart). THE CARD IS WHAT COUNTS. Prove the row's statement (the work); the ties are given (YtiakemdoealcoaaDoorTie.lean); close each card by the builder's one call (the guide's Derived/Test/ToyasCard.lean, 'card_holds'). Laid BY PROGRAM, IN A SANDBOX (cutbox-door.mjs). By AI agents, Wed Nov 11 2026. No macro, syntax, notation, axiom, sorry.
-/
import Derived.Test.YtiakemdoealcoaaDoorRows
import GoSem.ClaimSeven
namespace Go.Proofs.YtiakemdoealcoaaDoor
namespace Rows

/-- THE TIED CARD OF 'laws.FnExactSpellToken'. -/
def fnExactSpellTokenCard : Claim7 := { stood := { row := fnExactSpellTokenRow, standIns := [], harness := (true, "1f48f4b98b7dd72d4bc5c3bfada362df6e05f2517a9cb1b02a5d71b85dda7412"), looks := false }, kinds := [], alts := [], laidByText := true, laidKinds := [.data, .data, .data], laidTests := true, laidLooks := .later }
def FnExactSpellTokenCardSaid : Prop := Claim7.holds Tryd.pinned (.plain (OpenSpec.ofChange fnExactSpellTokenSpec)) fnExactSpellTokenCard

/-- THE TIED CARD OF 'laws.FnExactSpell'. -/
def fnExactSpellCard : Claim7 := { stood := { row := fnExactSpellRow, standIns := [], harness := (true, "1f48f4b98b7dd72d4bc5c3bfada362df6e05f2517a9cb1b02a5d71b85dda7412"), looks := false }, kinds := [], alts := [], laidByText := true, laidKinds := [.data, .data, .data], laidTests := true, laidLooks := .later }
def FnExactSpellCardSaid : Prop := Claim7.holds Tryd.pinned (.plain (OpenSpec.ofChange fnExactSpellSpec)) fnExactSpellCard

/-- THE TIED CARD OF 'laws.FnExactTyText'. -/
def fnExactTyTextCard : Claim7 := { stood := { row := fnExactTyTextRow, standIns := [], harness := (true, "1f48f4b98b7dd72d4bc5c3bfada362df6e05f2517a9cb1b02a5d71b85dda7412"), looks := false }, kinds := [], alts := [], laidByText := true, laidKinds := [.data, .data, .data], laidTests := true, laidLooks := .later }
def FnExactTyTextCardSaid : Prop := Claim7.holds Tryd.pinned (.plain (OpenSpec.ofChange fnExactTyTextSpec)) fnExactTyTextCard

/-- THE TIED CARD OF 'laws.FnExactPrintCode'. -/
def fnExactPrintCodeCard : Claim7 := { stood := { row := fnExactPrintCodeRow, standIns := [], harness := (true, "1f48f4b98b7dd72d4bc5c3bfada362df6e05f2517a9cb1b02a5d71b85dda7412"), looks := false }, kinds := [], alts := [], laidByText := true, laidKinds := [.data, .data, .data], laidTests := true, laidLooks := .later }
def FnExactPrintCodeCardSaid : Prop := Claim7.holds Tryd.pinned (.plain (OpenSpec.ofChange fnExactPrintCodeSpec)) fnExactPrintCodeCard

/-- THE SECOND FORM's CARD OF 'laws.FnExactSpellToken'. -/
def fnExactSpellTokenUptoCard : Claim7 := { stood := { row := fnExactSpellTokenUptoRow, standIns := [], harness := (true, "1f48f4b98b7dd72d4bc5c3bfada362df6e05f2517a9cb1b02a5d71b85dda7412"), looks := false }, kinds := [], alts := [], laidByText := true, laidKinds := [.data, .data, .data], laidTests := true, laidLooks := .later }
def FnExactSpellTokenUptoCardSaid : Prop := Claim7.holds Tryd.pinned (.plain (OpenSpec.upto fnExactSpellTokenSpec)) fnExactSpellTokenUptoCard

/-- THE SECOND FORM's CARD OF 'laws.FnExactSpell'. -/
def fnExactSpellUptoCard : Claim7 := { stood := { row := fnExactSpellUptoRow, standIns := [], harness := (true, "1f48f4b98b7dd72d4bc5c3bfada362df6e05f2517a9cb1b02a5d71b85dda7412"), looks := false }, kinds := [], alts := [], laidByText := true, laidKinds := [.data, .data, .data], laidTests := true, laidLooks := .later }
def FnExactSpellUptoCardSaid : Prop := Claim7.holds Tryd.pinned (.plain (OpenSpec.upto fnExactSpellSpec)) fnExactSpellUptoCard

/-- THE SECOND FORM's CARD OF 'laws.FnExactTyText'. -/
def fnExactTyTextUptoCard : Claim7 := { stood := { row := fnExactTyTextUptoRow, standIns := [], harness := (true, "1f48f4b98b7dd72d4bc5c3bfada362df6e05f2517a9cb1b02a5d71b85dda7412"), looks := false }, kinds := [], alts := [], laidByText := true, laidKinds := [.data, .data, .data], laidTests := true, laidLooks := .later }
def FnExactTyTextUptoCardSaid : Prop := Claim7.holds Tryd.pinned (.plain (OpenSpec.upto fnExactTyTextSpec)) fnExactTyTextUptoCard

/-- THE SECOND FORM's CARD OF 'laws.FnExactPrintCode'. -/
def fnExactPrintCodeUptoCard : Claim7 := { stood := { row := fnExactPrintCodeUptoRow, standIns := [], harness := (true, "1f48f4b98b7dd72d4bc5c3bfada362df6e05f2517a9cb1b02a5d71b85dda7412"), looks := false }, kinds := [], alts := [], laidByText := true, laidKinds := [.data, .data, .data], laidTests := true, laidLooks := .later }
def FnExactPrintCodeUptoCardSaid : Prop := Claim7.holds Tryd.pinned (.plain (OpenSpec.upto fnExactPrintCodeSpec)) fnExactPrintCodeUptoCard
end Rows
end Go.Proofs.YtiakemdoealcoaaDoor
