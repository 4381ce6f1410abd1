/-
  DERIVED. GIVEN WITH THE SEED: THE CARDS: each row of YthifpohbdbhnlaaGreatDoorRows.lean that lists a variable, with what it lists TIED to the program's text (the seventh form; the later family's looks); each row that meets fmt, with fmt's text TOLD by the authors' own Lean function (tested against real Go, not proved from fmt's source: count such statements apart). THE CARD IS WHAT COUNTS. Prove the row's statement (the work); the ties are given (YthifpohbdbhnlaaGreatDoorTie.lean); close each card by the builder's one call (the guide's Derived/Test/ToyasCard.lean, 'card_holds'). Laid BY PROGRAM, IN A SANDBOX (cutbox-door.mjs). By AI agents, Wed Nov 11 2026. No macro, syntax, notation, axiom, sorry.
-/
import Derived.Test.YthifpohbdbhnlaaGreatDoorRows
import GoSem.ClaimSeven
namespace Go.Proofs.YthifpohbdbhnlaaGreatDoor
namespace Rows

/-- THE TIED CARD OF 'laws.FnExactSourcePart'. -/
def fnExactSourcePartCard : Claim7 := { stood := { row := fnExactSourcePartRow, standIns := [], harness := (true, "2b33a734da8885788ba332ba9488e9852b31c110b2adea9ded11976d9122e4b0"), looks := true }, kinds := [], alts := [], laidByText := true, laidKinds := [.data, .data, .data, .sentinel, .sentinel], laidTests := true, laidLooks := .later }
def FnExactSourcePartCardSaid : Prop := Claim7.holds Tryz.pinned (.plain (OpenSpec.ofChange fnExactSourcePartSpec)) fnExactSourcePartCard

/-- THE TIED CARD OF 'laws.FnExactBlockedPart'. -/
def fnExactBlockedPartCard : Claim7 := { stood := { row := fnExactBlockedPartRow, standIns := [], harness := (true, "2b33a734da8885788ba332ba9488e9852b31c110b2adea9ded11976d9122e4b0"), looks := true }, kinds := [], alts := [], laidByText := true, laidKinds := [.data, .data, .data, .sentinel, .sentinel], laidTests := true, laidLooks := .later }
def FnExactBlockedPartCardSaid : Prop := Claim7.holds Tryz.pinned (.plain (OpenSpec.ofChange fnExactBlockedPartSpec)) fnExactBlockedPartCard

/-- THE TIED CARD OF 'laws.FnStrip'. -/
def fnStripCard : Claim7 := { stood := { row := fnStripRow, standIns := [], harness := (true, "2b33a734da8885788ba332ba9488e9852b31c110b2adea9ded11976d9122e4b0"), looks := true }, kinds := [], alts := [], laidByText := true, laidKinds := [.data, .data, .data, .sentinel, .sentinel], laidTests := true, laidLooks := .later }
def FnStripCardSaid : Prop := Claim7.holds Tryz.pinned (.plain (OpenSpec.ofChange fnStripSpec)) fnStripCard

/-- THE TIED CARD OF 'laws.FnUrls'. -/
def fnUrlsCard : Claim7 := { stood := { row := fnUrlsRow, standIns := [], harness := (true, "2b33a734da8885788ba332ba9488e9852b31c110b2adea9ded11976d9122e4b0"), looks := true }, kinds := [], alts := [], laidByText := true, laidKinds := [.data, .data, .data, .sentinel, .sentinel], laidTests := true, laidLooks := .later }
def FnUrlsCardSaid : Prop := Claim7.holds Tryz.pinned (.plain (OpenSpec.ofChange fnUrlsSpec)) fnUrlsCard

/-- THE TIED CARD OF 'laws.FnExactGroupOK'. -/
def fnExactGroupOKCard : Claim7 := { stood := { row := fnExactGroupOKRow, standIns := [], harness := (true, "2b33a734da8885788ba332ba9488e9852b31c110b2adea9ded11976d9122e4b0"), looks := true }, kinds := [], alts := [], laidByText := true, laidKinds := [.data, .data, .data, .sentinel, .sentinel], laidTests := true, laidLooks := .later }
def FnExactGroupOKCardSaid : Prop := Claim7.holds Tryz.pinned (.plain (OpenSpec.ofChange fnExactGroupOKSpec)) fnExactGroupOKCard

/-- THE TIED CARD OF 'laws.FnExactSameGroup'. -/
def fnExactSameGroupCard : Claim7 := { stood := { row := fnExactSameGroupRow, standIns := [], harness := (true, "2b33a734da8885788ba332ba9488e9852b31c110b2adea9ded11976d9122e4b0"), looks := true }, kinds := [], alts := [], laidByText := true, laidKinds := [.data, .data, .data, .sentinel, .sentinel], laidTests := true, laidLooks := .later }
def FnExactSameGroupCardSaid : Prop := Claim7.holds Tryz.pinned (.plain (OpenSpec.ofChange fnExactSameGroupSpec)) fnExactSameGroupCard

/-- THE TIED CARD OF 'laws.FnExactPeersOK'. -/
def fnExactPeersOKCard : Claim7 := { stood := { row := fnExactPeersOKRow, standIns := [], harness := (true, "2b33a734da8885788ba332ba9488e9852b31c110b2adea9ded11976d9122e4b0"), looks := true }, kinds := [], alts := [], laidByText := true, laidKinds := [.data, .data, .data, .sentinel, .sentinel], laidTests := true, laidLooks := .later }
def FnExactPeersOKCardSaid : Prop := Claim7.holds Tryz.pinned (.plain (OpenSpec.ofChange fnExactPeersOKSpec)) fnExactPeersOKCard

/-- THE SECOND FORM's CARD OF 'laws.FnExactSourcePart'. -/
def fnExactSourcePartUptoCard : Claim7 := { stood := { row := fnExactSourcePartUptoRow, standIns := [], harness := (true, "2b33a734da8885788ba332ba9488e9852b31c110b2adea9ded11976d9122e4b0"), looks := true }, kinds := [], alts := [], laidByText := true, laidKinds := [.data, .data, .data, .sentinel, .sentinel], laidTests := true, laidLooks := .later }
def FnExactSourcePartUptoCardSaid : Prop := Claim7.holds Tryz.pinned (.plain (OpenSpec.upto fnExactSourcePartSpec)) fnExactSourcePartUptoCard

/-- THE SECOND FORM's CARD OF 'laws.FnExactBlockedPart'. -/
def fnExactBlockedPartUptoCard : Claim7 := { stood := { row := fnExactBlockedPartUptoRow, standIns := [], harness := (true, "2b33a734da8885788ba332ba9488e9852b31c110b2adea9ded11976d9122e4b0"), looks := true }, kinds := [], alts := [], laidByText := true, laidKinds := [.data, .data, .data, .sentinel, .sentinel], laidTests := true, laidLooks := .later }
def FnExactBlockedPartUptoCardSaid : Prop := Claim7.holds Tryz.pinned (.plain (OpenSpec.upto fnExactBlockedPartSpec)) fnExactBlockedPartUptoCard

/-- THE SECOND FORM's CARD OF 'laws.FnStrip'. -/
def fnStripUptoCard : Claim7 := { stood := { row := fnStripUptoRow, standIns := [], harness := (true, "2b33a734da8885788ba332ba9488e9852b31c110b2adea9ded11976d9122e4b0"), looks := true }, kinds := [], alts := [], laidByText := true, laidKinds := [.data, .data, .data, .sentinel, .sentinel], laidTests := true, laidLooks := .later }
def FnStripUptoCardSaid : Prop := Claim7.holds Tryz.pinned (.plain (OpenSpec.upto fnStripSpec)) fnStripUptoCard

/-- THE SECOND FORM's CARD OF 'laws.FnUrls'. -/
def fnUrlsUptoCard : Claim7 := { stood := { row := fnUrlsUptoRow, standIns := [], harness := (true, "2b33a734da8885788ba332ba9488e9852b31c110b2adea9ded11976d9122e4b0"), looks := true }, kinds := [], alts := [], laidByText := true, laidKinds := [.data, .data, .data, .sentinel, .sentinel], laidTests := true, laidLooks := .later }
def FnUrlsUptoCardSaid : Prop := Claim7.holds Tryz.pinned (.plain (OpenSpec.upto fnUrlsSpec)) fnUrlsUptoCard

/-- THE SECOND FORM's CARD OF 'laws.FnExactGroupOK'. -/
def fnExactGroupOKUptoCard : Claim7 := { stood := { row := fnExactGroupOKUptoRow, standIns := [], harness := (true, "2b33a734da8885788ba332ba9488e9852b31c110b2adea9ded11976d9122e4b0"), looks := true }, kinds := [], alts := [], laidByText := true, laidKinds := [.data, .data, .data, .sentinel, .sentinel], laidTests := true, laidLooks := .later }
def FnExactGroupOKUptoCardSaid : Prop := Claim7.holds Tryz.pinned (.plain (OpenSpec.upto fnExactGroupOKSpec)) fnExactGroupOKUptoCard

/-- THE SECOND FORM's CARD OF 'laws.FnExactSameGroup'. -/
def fnExactSameGroupUptoCard : Claim7 := { stood := { row := fnExactSameGroupUptoRow, standIns := [], harness := (true, "2b33a734da8885788ba332ba9488e9852b31c110b2adea9ded11976d9122e4b0"), looks := true }, kinds := [], alts := [], laidByText := true, laidKinds := [.data, .data, .data, .sentinel, .sentinel], laidTests := true, laidLooks := .later }
def FnExactSameGroupUptoCardSaid : Prop := Claim7.holds Tryz.pinned (.plain (OpenSpec.upto fnExactSameGroupSpec)) fnExactSameGroupUptoCard

/-- THE SECOND FORM's CARD OF 'laws.FnExactPeersOK'. -/
def fnExactPeersOKUptoCard : Claim7 := { stood := { row := fnExactPeersOKUptoRow, standIns := [], harness := (true, "2b33a734da8885788ba332ba9488e9852b31c110b2adea9ded11976d9122e4b0"), looks := true }, kinds := [], alts := [], laidByText := true, laidKinds := [.data, .data, .data, .sentinel, .sentinel], laidTests := true, laidLooks := .later }
def FnExactPeersOKUptoCardSaid : Prop := Claim7.holds Tryz.pinned (.plain (OpenSpec.upto fnExactPeersOKSpec)) fnExactPeersOKUptoCard
end Rows
end Go.Proofs.YthifpohbdbhnlaaGreatDoor
