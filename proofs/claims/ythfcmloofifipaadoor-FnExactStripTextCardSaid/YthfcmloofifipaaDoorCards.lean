/-
  DERIVED. GIVEN WITH THE SEED: THE CARDS: each row of YthfcmloofifipaaDoorRows.lean that lists a variable, with what it lists TIED to the program's text (the seventh form; the later family's looks); each row that meets fmt, with fmt's text TOLD by the authors' own Lean function (tested against real Go, not proved from fmt's source: count such statements apart). THE CARD IS WHAT COUNTS. Prove the row's statement (the work); the ties are given (YthfcmloofifipaaDoorTie.lean); close each card by the builder's one call (the guide's Derived/Test/ToyasCard.lean, 'card_holds'). Laid BY PROGRAM, IN A SANDBOX (cutbox-door.mjs). By AI agents, Wed Nov 11 2026. No macro, syntax, notation, axiom, sorry.
-/
import Derived.Test.YthfcmloofifipaaDoorRows
import GoSem.ClaimSeven
namespace Go.Proofs.YthfcmloofifipaaDoor
namespace Rows

/-- THE TIED CARD OF 'laws.FnExactUrlOK'. -/
def fnExactUrlOKCard : Claim7 := { stood := { row := fnExactUrlOKRow, standIns := [], harness := (true, "6787d2359c30850c5a322824f5a62ae537dab5e6b556567aa8054ebcc0c25c03"), looks := true }, kinds := [], alts := [], laidByText := true, laidKinds := [.data, .data, .data], laidTests := true, laidLooks := .later }
def FnExactUrlOKCardSaid : Prop := Claim7.holds Tryd.pinned (.plain (OpenSpec.ofChange fnExactUrlOKSpec)) fnExactUrlOKCard

/-- THE TIED CARD OF 'laws.FnExactSameOrigin'. -/
def fnExactSameOriginCard : Claim7 := { stood := { row := fnExactSameOriginRow, standIns := [], harness := (true, "6787d2359c30850c5a322824f5a62ae537dab5e6b556567aa8054ebcc0c25c03"), looks := true }, kinds := [], alts := [], laidByText := true, laidKinds := [.data, .data, .data], laidTests := true, laidLooks := .later }
def FnExactSameOriginCardSaid : Prop := Claim7.holds Tryd.pinned (.plain (OpenSpec.ofChange fnExactSameOriginSpec)) fnExactSameOriginCard

/-- THE TIED CARD OF 'laws.FnExactUrlText'. -/
def fnExactUrlTextCard : Claim7 := { stood := { row := fnExactUrlTextRow, standIns := [], harness := (true, "6787d2359c30850c5a322824f5a62ae537dab5e6b556567aa8054ebcc0c25c03"), looks := true }, kinds := [], alts := [], laidByText := true, laidKinds := [.data, .data, .data], laidTests := true, laidLooks := .later }
def FnExactUrlTextCardSaid : Prop := Claim7.holds Tryd.pinned (.plain (OpenSpec.ofChange fnExactUrlTextSpec)) fnExactUrlTextCard

/-- THE TIED CARD OF 'laws.FnExactStripUrl'. -/
def fnExactStripUrlCard : Claim7 := { stood := { row := fnExactStripUrlRow, standIns := [], harness := (true, "6787d2359c30850c5a322824f5a62ae537dab5e6b556567aa8054ebcc0c25c03"), looks := true }, kinds := [], alts := [], laidByText := true, laidKinds := [.data, .data, .data], laidTests := true, laidLooks := .later }
def FnExactStripUrlCardSaid : Prop := Claim7.holds Tryd.pinned (.plain (OpenSpec.ofChange fnExactStripUrlSpec)) fnExactStripUrlCard

/-- THE TIED CARD OF 'laws.FnExactOriginOf'. -/
def fnExactOriginOfCard : Claim7 := { stood := { row := fnExactOriginOfRow, standIns := [], harness := (true, "6787d2359c30850c5a322824f5a62ae537dab5e6b556567aa8054ebcc0c25c03"), looks := true }, kinds := [], alts := [], laidByText := true, laidKinds := [.data, .data, .data], laidTests := true, laidLooks := .later }
def FnExactOriginOfCardSaid : Prop := Claim7.holds Tryd.pinned (.plain (OpenSpec.ofChange fnExactOriginOfSpec)) fnExactOriginOfCard

/-- THE TIED CARD OF 'laws.FnExactParseUrl'. -/
def fnExactParseUrlCard : Claim7 := { stood := { row := fnExactParseUrlRow, standIns := [], harness := (true, "6787d2359c30850c5a322824f5a62ae537dab5e6b556567aa8054ebcc0c25c03"), looks := true }, kinds := [], alts := [], laidByText := true, laidKinds := [.data, .data, .data, .sentinel, .sentinel], laidTests := true, laidLooks := .later }
def FnExactParseUrlCardSaid : Prop := Claim7.holds Tryd.pinned (.plain (OpenSpec.ofChange fnExactParseUrlSpec)) fnExactParseUrlCard

/-- THE TIED CARD OF 'laws.FnExactStripText'. -/
def fnExactStripTextCard : Claim7 := { stood := { row := fnExactStripTextRow, standIns := [], harness := (true, "6787d2359c30850c5a322824f5a62ae537dab5e6b556567aa8054ebcc0c25c03"), looks := true }, kinds := [], alts := [], laidByText := true, laidKinds := [.data, .data, .data, .sentinel, .sentinel], laidTests := true, laidLooks := .later }
def FnExactStripTextCardSaid : Prop := Claim7.holds Tryd.pinned (.plain (OpenSpec.ofChange fnExactStripTextSpec)) fnExactStripTextCard

/-- THE SECOND FORM's CARD OF 'laws.FnExactUrlOK'. -/
def fnExactUrlOKUptoCard : Claim7 := { stood := { row := fnExactUrlOKUptoRow, standIns := [], harness := (true, "6787d2359c30850c5a322824f5a62ae537dab5e6b556567aa8054ebcc0c25c03"), looks := true }, kinds := [], alts := [], laidByText := true, laidKinds := [.data, .data, .data], laidTests := true, laidLooks := .later }
def FnExactUrlOKUptoCardSaid : Prop := Claim7.holds Tryd.pinned (.plain (OpenSpec.upto fnExactUrlOKSpec)) fnExactUrlOKUptoCard

/-- THE SECOND FORM's CARD OF 'laws.FnExactSameOrigin'. -/
def fnExactSameOriginUptoCard : Claim7 := { stood := { row := fnExactSameOriginUptoRow, standIns := [], harness := (true, "6787d2359c30850c5a322824f5a62ae537dab5e6b556567aa8054ebcc0c25c03"), looks := true }, kinds := [], alts := [], laidByText := true, laidKinds := [.data, .data, .data], laidTests := true, laidLooks := .later }
def FnExactSameOriginUptoCardSaid : Prop := Claim7.holds Tryd.pinned (.plain (OpenSpec.upto fnExactSameOriginSpec)) fnExactSameOriginUptoCard

/-- THE SECOND FORM's CARD OF 'laws.FnExactUrlText'. -/
def fnExactUrlTextUptoCard : Claim7 := { stood := { row := fnExactUrlTextUptoRow, standIns := [], harness := (true, "6787d2359c30850c5a322824f5a62ae537dab5e6b556567aa8054ebcc0c25c03"), looks := true }, kinds := [], alts := [], laidByText := true, laidKinds := [.data, .data, .data], laidTests := true, laidLooks := .later }
def FnExactUrlTextUptoCardSaid : Prop := Claim7.holds Tryd.pinned (.plain (OpenSpec.upto fnExactUrlTextSpec)) fnExactUrlTextUptoCard

/-- THE SECOND FORM's CARD OF 'laws.FnExactStripUrl'. -/
def fnExactStripUrlUptoCard : Claim7 := { stood := { row := fnExactStripUrlUptoRow, standIns := [], harness := (true, "6787d2359c30850c5a322824f5a62ae537dab5e6b556567aa8054ebcc0c25c03"), looks := true }, kinds := [], alts := [], laidByText := true, laidKinds := [.data, .data, .data], laidTests := true, laidLooks := .later }
def FnExactStripUrlUptoCardSaid : Prop := Claim7.holds Tryd.pinned (.plain (OpenSpec.upto fnExactStripUrlSpec)) fnExactStripUrlUptoCard

/-- THE SECOND FORM's CARD OF 'laws.FnExactOriginOf'. -/
def fnExactOriginOfUptoCard : Claim7 := { stood := { row := fnExactOriginOfUptoRow, standIns := [], harness := (true, "6787d2359c30850c5a322824f5a62ae537dab5e6b556567aa8054ebcc0c25c03"), looks := true }, kinds := [], alts := [], laidByText := true, laidKinds := [.data, .data, .data], laidTests := true, laidLooks := .later }
def FnExactOriginOfUptoCardSaid : Prop := Claim7.holds Tryd.pinned (.plain (OpenSpec.upto fnExactOriginOfSpec)) fnExactOriginOfUptoCard

/-- THE SECOND FORM's CARD OF 'laws.FnExactParseUrl'. -/
def fnExactParseUrlUptoCard : Claim7 := { stood := { row := fnExactParseUrlUptoRow, standIns := [], harness := (true, "6787d2359c30850c5a322824f5a62ae537dab5e6b556567aa8054ebcc0c25c03"), looks := true }, kinds := [], alts := [], laidByText := true, laidKinds := [.data, .data, .data, .sentinel, .sentinel], laidTests := true, laidLooks := .later }
def FnExactParseUrlUptoCardSaid : Prop := Claim7.holds Tryd.pinned (.plain (OpenSpec.upto fnExactParseUrlSpec)) fnExactParseUrlUptoCard

/-- THE SECOND FORM's CARD OF 'laws.FnExactStripText'. -/
def fnExactStripTextUptoCard : Claim7 := { stood := { row := fnExactStripTextUptoRow, standIns := [], harness := (true, "6787d2359c30850c5a322824f5a62ae537dab5e6b556567aa8054ebcc0c25c03"), looks := true }, kinds := [], alts := [], laidByText := true, laidKinds := [.data, .data, .data, .sentinel, .sentinel], laidTests := true, laidLooks := .later }
def FnExactStripTextUptoCardSaid : Prop := Claim7.holds Tryd.pinned (.plain (OpenSpec.upto fnExactStripTextSpec)) fnExactStripTextUptoCard
end Rows
end Go.Proofs.YthfcmloofifipaaDoor
