/-
  DERIVED. GIVEN WITH THE SEED: THE CARDS: each row of YtnbnodfchjllgaaDoorRows.lean that lists a variable, with what it lists TIED to the program's text (the seventh form; the later family's looks); each row that meets fmt, with fmt's text TOLD by the authors' own Lean function (tested against real Go, not proved from fmt's source: count such statements apart). THE CARD IS WHAT COUNTS. Prove the row's statement (the work); the ties are given (YtnbnodfchjllgaaDoorTie.lean); close each card by the builder's one call (the guide's Derived/Test/ToyasCard.lean, 'card_holds'). Laid BY PROGRAM, IN A SANDBOX (cutbox-door.mjs). By AI agents, Wed Nov 11 2026. No macro, syntax, notation, axiom, sorry.
-/
import Derived.Test.YtnbnodfchjllgaaDoorRows
import GoSem.ClaimSeven
namespace Go.Proofs.YtnbnodfchjllgaaDoor
namespace Rows

/-- THE TIED CARD OF 'laws.FnExactEntryText'. -/
def fnExactEntryTextCard : Claim7 := { stood := { row := fnExactEntryTextRow, standIns := [], harness := (true, "8b2a94fcb6d8cf089c7ff207793e1c8ae23804b0dd58461370aa0fe37eca85b5"), looks := true }, kinds := [], alts := [], laidByText := true, laidKinds := [.data, .data, .data], laidTests := true, laidLooks := .later }
def FnExactEntryTextCardSaid : Prop := Claim7.holds Tryd.pinned (.plain (OpenSpec.ofChange fnExactEntryTextSpec)) fnExactEntryTextCard

/-- THE TIED CARD OF 'laws.FnExactWireText'. -/
def fnExactWireTextCard : Claim7 := { stood := { row := fnExactWireTextRow, standIns := [], harness := (true, "8b2a94fcb6d8cf089c7ff207793e1c8ae23804b0dd58461370aa0fe37eca85b5"), looks := true }, kinds := [], alts := [], laidByText := true, laidKinds := [.data, .data, .data], laidTests := true, laidLooks := .later }
def FnExactWireTextCardSaid : Prop := Claim7.holds Tryd.pinned (.plain (OpenSpec.ofChange fnExactWireTextSpec)) fnExactWireTextCard

/-- THE TIED CARD OF 'laws.FnExactBoxLines'. -/
def fnExactBoxLinesCard : Claim7 := { stood := { row := fnExactBoxLinesRow, standIns := [], harness := (true, "8b2a94fcb6d8cf089c7ff207793e1c8ae23804b0dd58461370aa0fe37eca85b5"), looks := true }, kinds := [], alts := [], laidByText := true, laidKinds := [.data, .data, .data], laidTests := true, laidLooks := .later }
def FnExactBoxLinesCardSaid : Prop := Claim7.holds Tryd.pinned (.plain (OpenSpec.ofChange fnExactBoxLinesSpec)) fnExactBoxLinesCard

/-- THE TIED CARD OF 'laws.FnExactEventText'. -/
def fnExactEventTextCard : Claim7 := { stood := { row := fnExactEventTextRow, standIns := [], harness := (true, "8b2a94fcb6d8cf089c7ff207793e1c8ae23804b0dd58461370aa0fe37eca85b5"), looks := true }, kinds := [], alts := [], laidByText := true, laidKinds := [.data, .data, .data], laidTests := true, laidLooks := .later }
def FnExactEventTextCardSaid : Prop := Claim7.holds Tryd.pinned (.plain (OpenSpec.ofChange fnExactEventTextSpec)) fnExactEventTextCard

/-- THE TIED CARD OF 'laws.FnExactJsonText'. -/
def fnExactJsonTextCard : Claim7 := { stood := { row := fnExactJsonTextRow, standIns := [], harness := (true, "8b2a94fcb6d8cf089c7ff207793e1c8ae23804b0dd58461370aa0fe37eca85b5"), looks := true }, kinds := [], alts := [], laidByText := true, laidKinds := [.data, .data, .data], laidTests := true, laidLooks := .later }
def FnExactJsonTextCardSaid : Prop := Claim7.holds Tryd.pinned (.plain (OpenSpec.ofChange fnExactJsonTextSpec)) fnExactJsonTextCard

/-- THE TIED CARD OF 'laws.FnExactReadJson'. -/
def fnExactReadJsonCard : Claim7 := { stood := { row := fnExactReadJsonRow, standIns := [], harness := (true, "8b2a94fcb6d8cf089c7ff207793e1c8ae23804b0dd58461370aa0fe37eca85b5"), looks := true }, kinds := [], alts := [], laidByText := true, laidKinds := [.data, .data, .data, .sentinel, .sentinel], laidTests := true, laidLooks := .later }
def FnExactReadJsonCardSaid : Prop := Claim7.holds Tryd.pinned (.plain (OpenSpec.ofChange fnExactReadJsonSpec)) fnExactReadJsonCard

/-- THE TIED CARD OF 'laws.FnExactReadEvent'. -/
def fnExactReadEventCard : Claim7 := { stood := { row := fnExactReadEventRow, standIns := [], harness := (true, "8b2a94fcb6d8cf089c7ff207793e1c8ae23804b0dd58461370aa0fe37eca85b5"), looks := true }, kinds := [], alts := [], laidByText := true, laidKinds := [.data, .data, .data, .data, .sentinel, .sentinel, .pinned], laidTests := true, laidLooks := .later }
def FnExactReadEventCardSaid : Prop := Claim7.holds Tryd.pinned (.plain (OpenSpec.ofChange fnExactReadEventSpec)) fnExactReadEventCard

/-- THE TIED CARD OF 'laws.FnExactParcelOK'. -/
def fnExactParcelOKCard : Claim7 := { stood := { row := fnExactParcelOKRow, standIns := [], harness := (true, "8b2a94fcb6d8cf089c7ff207793e1c8ae23804b0dd58461370aa0fe37eca85b5"), looks := true }, kinds := [], alts := [], laidByText := true, laidKinds := [.data, .data, .data, .sentinel, .sentinel], laidTests := true, laidLooks := .later }
def FnExactParcelOKCardSaid : Prop := Claim7.holds Tryd.pinned (.plain (OpenSpec.ofChange fnExactParcelOKSpec)) fnExactParcelOKCard

/-- THE SECOND FORM's CARD OF 'laws.FnExactEntryText'. -/
def fnExactEntryTextUptoCard : Claim7 := { stood := { row := fnExactEntryTextUptoRow, standIns := [], harness := (true, "8b2a94fcb6d8cf089c7ff207793e1c8ae23804b0dd58461370aa0fe37eca85b5"), looks := true }, kinds := [], alts := [], laidByText := true, laidKinds := [.data, .data, .data], laidTests := true, laidLooks := .later }
def FnExactEntryTextUptoCardSaid : Prop := Claim7.holds Tryd.pinned (.plain (OpenSpec.upto fnExactEntryTextSpec)) fnExactEntryTextUptoCard

/-- THE SECOND FORM's CARD OF 'laws.FnExactWireText'. -/
def fnExactWireTextUptoCard : Claim7 := { stood := { row := fnExactWireTextUptoRow, standIns := [], harness := (true, "8b2a94fcb6d8cf089c7ff207793e1c8ae23804b0dd58461370aa0fe37eca85b5"), looks := true }, kinds := [], alts := [], laidByText := true, laidKinds := [.data, .data, .data], laidTests := true, laidLooks := .later }
def FnExactWireTextUptoCardSaid : Prop := Claim7.holds Tryd.pinned (.plain (OpenSpec.upto fnExactWireTextSpec)) fnExactWireTextUptoCard

/-- THE SECOND FORM's CARD OF 'laws.FnExactBoxLines'. -/
def fnExactBoxLinesUptoCard : Claim7 := { stood := { row := fnExactBoxLinesUptoRow, standIns := [], harness := (true, "8b2a94fcb6d8cf089c7ff207793e1c8ae23804b0dd58461370aa0fe37eca85b5"), looks := true }, kinds := [], alts := [], laidByText := true, laidKinds := [.data, .data, .data], laidTests := true, laidLooks := .later }
def FnExactBoxLinesUptoCardSaid : Prop := Claim7.holds Tryd.pinned (.plain (OpenSpec.upto fnExactBoxLinesSpec)) fnExactBoxLinesUptoCard

/-- THE SECOND FORM's CARD OF 'laws.FnExactEventText'. -/
def fnExactEventTextUptoCard : Claim7 := { stood := { row := fnExactEventTextUptoRow, standIns := [], harness := (true, "8b2a94fcb6d8cf089c7ff207793e1c8ae23804b0dd58461370aa0fe37eca85b5"), looks := true }, kinds := [], alts := [], laidByText := true, laidKinds := [.data, .data, .data], laidTests := true, laidLooks := .later }
def FnExactEventTextUptoCardSaid : Prop := Claim7.holds Tryd.pinned (.plain (OpenSpec.upto fnExactEventTextSpec)) fnExactEventTextUptoCard

/-- THE SECOND FORM's CARD OF 'laws.FnExactJsonText'. -/
def fnExactJsonTextUptoCard : Claim7 := { stood := { row := fnExactJsonTextUptoRow, standIns := [], harness := (true, "8b2a94fcb6d8cf089c7ff207793e1c8ae23804b0dd58461370aa0fe37eca85b5"), looks := true }, kinds := [], alts := [], laidByText := true, laidKinds := [.data, .data, .data], laidTests := true, laidLooks := .later }
def FnExactJsonTextUptoCardSaid : Prop := Claim7.holds Tryd.pinned (.plain (OpenSpec.upto fnExactJsonTextSpec)) fnExactJsonTextUptoCard

/-- THE SECOND FORM's CARD OF 'laws.FnExactReadJson'. -/
def fnExactReadJsonUptoCard : Claim7 := { stood := { row := fnExactReadJsonUptoRow, standIns := [], harness := (true, "8b2a94fcb6d8cf089c7ff207793e1c8ae23804b0dd58461370aa0fe37eca85b5"), looks := true }, kinds := [], alts := [], laidByText := true, laidKinds := [.data, .data, .data, .sentinel, .sentinel], laidTests := true, laidLooks := .later }
def FnExactReadJsonUptoCardSaid : Prop := Claim7.holds Tryd.pinned (.plain (OpenSpec.upto fnExactReadJsonSpec)) fnExactReadJsonUptoCard

/-- THE SECOND FORM's CARD OF 'laws.FnExactReadEvent'. -/
def fnExactReadEventUptoCard : Claim7 := { stood := { row := fnExactReadEventUptoRow, standIns := [], harness := (true, "8b2a94fcb6d8cf089c7ff207793e1c8ae23804b0dd58461370aa0fe37eca85b5"), looks := true }, kinds := [], alts := [], laidByText := true, laidKinds := [.data, .data, .data, .data, .sentinel, .sentinel, .pinned], laidTests := true, laidLooks := .later }
def FnExactReadEventUptoCardSaid : Prop := Claim7.holds Tryd.pinned (.plain (OpenSpec.upto fnExactReadEventSpec)) fnExactReadEventUptoCard

/-- THE SECOND FORM's CARD OF 'laws.FnExactParcelOK'. -/
def fnExactParcelOKUptoCard : Claim7 := { stood := { row := fnExactParcelOKUptoRow, standIns := [], harness := (true, "8b2a94fcb6d8cf089c7ff207793e1c8ae23804b0dd58461370aa0fe37eca85b5"), looks := true }, kinds := [], alts := [], laidByText := true, laidKinds := [.data, .data, .data, .sentinel, .sentinel], laidTests := true, laidLooks := .later }
def FnExactParcelOKUptoCardSaid : Prop := Claim7.holds Tryd.pinned (.plain (OpenSpec.upto fnExactParcelOKSpec)) fnExactParcelOKUptoCard
end Rows
end Go.Proofs.YtnbnodfchjllgaaDoor
