/-
  DERIVED. GIVEN WITH THE SEED: THE CARDS: each row of YtljpmdeobmmhlaaDoorRows.lean that lists a variable, with what it lists TIED to the program's text (the seventh form; the later family's looks); each row that meets fmt, with fmt's text TOLD by the authors' own Lean function (tested against real Go, not proved from fmt's source: count such statements apart). THE CARD IS WHAT COUNTS. Prove the row's statement (the work); the ties are given (YtljpmdeobmmhlaaDoorTie.lean); close each card by the builder's one call (the guide's Derived/Test/ToyasCard.lean, 'card_holds'). Laid BY PROGRAM, IN A SANDBOX (cutbox-door.mjs). By AI agents, Wed Nov 11 2026. No macro, syntax, notation, axiom, sorry.
-/
import Derived.Test.YtljpmdeobmmhlaaDoorRows
import GoSem.ClaimSeven
namespace Go.Proofs.YtljpmdeobmmhlaaDoor
namespace Rows

/-- THE TIED CARD OF 'laws.FnExactJsonText'. -/
def fnExactJsonTextCard : Claim7 := { stood := { row := fnExactJsonTextRow, standIns := [], harness := (true, "77f0b5a634389545837ce9db3bcb8c8645cd1b87000a15fd7df15c913ed5d8f6"), looks := false }, kinds := [], alts := [], laidByText := true, laidKinds := [.data, .data, .data], laidTests := true, laidLooks := .later }
def FnExactJsonTextCardSaid : Prop := Claim7.holds Tryd.pinned (.plain (OpenSpec.ofChange fnExactJsonTextSpec)) fnExactJsonTextCard

/-- THE SECOND FORM's CARD OF 'laws.FnExactJsonText'. -/
def fnExactJsonTextUptoCard : Claim7 := { stood := { row := fnExactJsonTextUptoRow, standIns := [], harness := (true, "77f0b5a634389545837ce9db3bcb8c8645cd1b87000a15fd7df15c913ed5d8f6"), looks := false }, kinds := [], alts := [], laidByText := true, laidKinds := [.data, .data, .data], laidTests := true, laidLooks := .later }
def FnExactJsonTextUptoCardSaid : Prop := Claim7.holds Tryd.pinned (.plain (OpenSpec.upto fnExactJsonTextSpec)) fnExactJsonTextUptoCard
end Rows
end Go.Proofs.YtljpmdeobmmhlaaDoor
