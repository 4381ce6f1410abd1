/-
  No cell of these rows narrows 'for every input' (looked for: loops, veiled, ifaces, maps, wideKeys, modest, calm, conditions, laid).
  DERIVED. THE GIVEN ROWS OF THIS SEAT. 12 by the template 'for every input the law returns true; each argument reads behind the call as it read before'; 0 by the template 'total and deterministic' (their statements: YtgjeefjmcmionaaTotals.lean).
  GIVEN WITH THE SEED: the statements are not yours to turn. If you find one false, say at which input.
  Laid BY PROGRAM, IN A SANDBOX (cutbox-rows.mjs): the forced cells as the released guide's own fill.sh prints them over the translation 75f4a8cd71c6500d… (all of the seat's roots in one cut). By AI agents, Wed Nov 11 2026. No macro, syntax, notation, axiom, sorry.
-/
import Derived.Test.YtgjeefjmcmionaaChecked
import GoSem.Claim
import GoSem.ClaimJoined
import GoSem.ClaimMapViews
import Derived.JoinedTies
import Derived.KernelRfl
namespace Go.Proofs.Ytgjeefjmcmionaa
/- THE CELL 'sum', in the pinned program and in every row, IS THE sha256 OF THE DUMP (.gsa) THAT YtgjeefjmcmionaaProg.lean LOADS. Nothing in Lean hashes anything: it is a label: what it is worth is what the hold of that sum in a sandbox is worth. -/
noncomputable def Try.pinned : Pinned := { name := "ytgjeefjmcmionaa", sum := "75f4a8cd71c6500d06166dfbcf9dd51d67e534e6bb7bf982cddaa77f03d335c8", checked := Try.checked }
namespace Rows
def none {H : Type} : Left H := { results := [], args := [] }

/-- 'laws.FnExactConstants': WHATEVER THE INPUT: true; the input reads as it did. -/
def fnExactConstantsSpec : ChangeSpec := { name := "fnExactConstants", fn := fun _ => fun
  | [] => { results := [.lit (.bool true)], args := [] }
  | _ => none }
def fnExactConstantsRow : OpenClaim := { program := "ytgjeefjmcmionaa", sum := "75f4a8cd71c6500d06166dfbcf9dd51d67e534e6bb7bf982cddaa77f03d335c8", func := "loop.example/g00779/laws.FnExactConstants", spec := "fnExactConstants", apart := false }
def FnExactConstantsSaid : Prop := fnExactConstantsRow.holds Try.pinned (OpenSpec.ofChange fnExactConstantsSpec)

/-- ITS FALSE NEIGHBOUR: 'it returns false'. Refute it at one input. -/
def fnExactConstantsWrong : ChangeSpec := { name := "fnExactConstants", fn := fun _ => fun
  | [] => { results := [.lit (.bool false)], args := [] }
  | _ => none }
def FnExactConstantsWrongFalsely : Prop := fnExactConstantsRow.holds Try.pinned (OpenSpec.ofChange fnExactConstantsWrong)

/-- 'laws.FnExactCodeWord': WHATEVER THE INPUT: true; the input reads as it did. -/
def fnExactCodeWordSpec : ChangeSpec := { name := "fnExactCodeWord", fn := fun _ => fun
  | [d] => { results := [.lit (.bool true)], args := [d] }
  | _ => none }
def fnExactCodeWordRow : OpenClaim := { program := "ytgjeefjmcmionaa", sum := "75f4a8cd71c6500d06166dfbcf9dd51d67e534e6bb7bf982cddaa77f03d335c8", func := "loop.example/g00779/laws.FnExactCodeWord", spec := "fnExactCodeWord", apart := false }
def FnExactCodeWordSaid : Prop := fnExactCodeWordRow.holds Try.pinned (OpenSpec.ofChange fnExactCodeWordSpec)

/-- ITS FALSE NEIGHBOUR: 'it returns false'. Refute it at one input. -/
def fnExactCodeWordWrong : ChangeSpec := { name := "fnExactCodeWord", fn := fun _ => fun
  | [d] => { results := [.lit (.bool false)], args := [d] }
  | _ => none }
def FnExactCodeWordWrongFalsely : Prop := fnExactCodeWordRow.holds Try.pinned (OpenSpec.ofChange fnExactCodeWordWrong)

/-- 'laws.FnExactFateWord': WHATEVER THE INPUT: true; the input reads as it did. -/
def fnExactFateWordSpec : ChangeSpec := { name := "fnExactFateWord", fn := fun _ => fun
  | [d] => { results := [.lit (.bool true)], args := [d] }
  | _ => none }
def fnExactFateWordRow : OpenClaim := { program := "ytgjeefjmcmionaa", sum := "75f4a8cd71c6500d06166dfbcf9dd51d67e534e6bb7bf982cddaa77f03d335c8", func := "loop.example/g00779/laws.FnExactFateWord", spec := "fnExactFateWord", apart := false }
def FnExactFateWordSaid : Prop := fnExactFateWordRow.holds Try.pinned (OpenSpec.ofChange fnExactFateWordSpec)

/-- ITS FALSE NEIGHBOUR: 'it returns false'. Refute it at one input. -/
def fnExactFateWordWrong : ChangeSpec := { name := "fnExactFateWord", fn := fun _ => fun
  | [d] => { results := [.lit (.bool false)], args := [d] }
  | _ => none }
def FnExactFateWordWrongFalsely : Prop := fnExactFateWordRow.holds Try.pinned (OpenSpec.ofChange fnExactFateWordWrong)

/-- 'laws.FnExactWait': WHATEVER THE INPUT: true; the input reads as it did. -/
def fnExactWaitSpec : ChangeSpec := { name := "fnExactWait", fn := fun _ => fun
  | [d] => { results := [.lit (.bool true)], args := [d] }
  | _ => none }
def fnExactWaitRow : OpenClaim := { program := "ytgjeefjmcmionaa", sum := "75f4a8cd71c6500d06166dfbcf9dd51d67e534e6bb7bf982cddaa77f03d335c8", func := "loop.example/g00779/laws.FnExactWait", spec := "fnExactWait", apart := false }
def FnExactWaitSaid : Prop := fnExactWaitRow.holds Try.pinned (OpenSpec.ofChange fnExactWaitSpec)

/-- ITS FALSE NEIGHBOUR: 'it returns false'. Refute it at one input. -/
def fnExactWaitWrong : ChangeSpec := { name := "fnExactWait", fn := fun _ => fun
  | [d] => { results := [.lit (.bool false)], args := [d] }
  | _ => none }
def FnExactWaitWrongFalsely : Prop := fnExactWaitRow.holds Try.pinned (OpenSpec.ofChange fnExactWaitWrong)

/-- 'laws.FnExactReportOK': WHATEVER THE INPUT: true; the input reads as it did. -/
def fnExactReportOKSpec : ChangeSpec := { name := "fnExactReportOK", fn := fun _ => fun
  | [d] => { results := [.lit (.bool true)], args := [d] }
  | _ => none }
def fnExactReportOKRow : OpenClaim := { program := "ytgjeefjmcmionaa", sum := "75f4a8cd71c6500d06166dfbcf9dd51d67e534e6bb7bf982cddaa77f03d335c8", func := "loop.example/g00779/laws.FnExactReportOK", spec := "fnExactReportOK", apart := false }
def FnExactReportOKSaid : Prop := fnExactReportOKRow.holds Try.pinned (OpenSpec.ofChange fnExactReportOKSpec)

/-- ITS FALSE NEIGHBOUR: 'it returns false'. Refute it at one input. -/
def fnExactReportOKWrong : ChangeSpec := { name := "fnExactReportOK", fn := fun _ => fun
  | [d] => { results := [.lit (.bool false)], args := [d] }
  | _ => none }
def FnExactReportOKWrongFalsely : Prop := fnExactReportOKRow.holds Try.pinned (OpenSpec.ofChange fnExactReportOKWrong)

/-- 'laws.FnExactCodeOf': WHATEVER THE INPUT: true; the input reads as it did. -/
def fnExactCodeOfSpec : ChangeSpec := { name := "fnExactCodeOf", fn := fun _ => fun
  | [d] => { results := [.lit (.bool true)], args := [d] }
  | _ => none }
def fnExactCodeOfRow : OpenClaim := { program := "ytgjeefjmcmionaa", sum := "75f4a8cd71c6500d06166dfbcf9dd51d67e534e6bb7bf982cddaa77f03d335c8", func := "loop.example/g00779/laws.FnExactCodeOf", spec := "fnExactCodeOf", apart := false }
def FnExactCodeOfSaid : Prop := fnExactCodeOfRow.holds Try.pinned (OpenSpec.ofChange fnExactCodeOfSpec)

/-- ITS FALSE NEIGHBOUR: 'it returns false'. Refute it at one input. -/
def fnExactCodeOfWrong : ChangeSpec := { name := "fnExactCodeOf", fn := fun _ => fun
  | [d] => { results := [.lit (.bool false)], args := [d] }
  | _ => none }
def FnExactCodeOfWrongFalsely : Prop := fnExactCodeOfRow.holds Try.pinned (OpenSpec.ofChange fnExactCodeOfWrong)

/-- 'laws.FnExactNameOK': WHATEVER THE INPUT: true; the input reads as it did. -/
def fnExactNameOKSpec : ChangeSpec := { name := "fnExactNameOK", fn := fun _ => fun
  | [d] => { results := [.lit (.bool true)], args := [d] }
  | _ => none }
def fnExactNameOKRow : OpenClaim := { program := "ytgjeefjmcmionaa", sum := "75f4a8cd71c6500d06166dfbcf9dd51d67e534e6bb7bf982cddaa77f03d335c8", func := "loop.example/g00779/laws.FnExactNameOK", spec := "fnExactNameOK", apart := false }
def FnExactNameOKSaid : Prop := fnExactNameOKRow.holds Try.pinned (OpenSpec.ofChange fnExactNameOKSpec)

/-- ITS FALSE NEIGHBOUR: 'it returns false'. Refute it at one input. -/
def fnExactNameOKWrong : ChangeSpec := { name := "fnExactNameOK", fn := fun _ => fun
  | [d] => { results := [.lit (.bool false)], args := [d] }
  | _ => none }
def FnExactNameOKWrongFalsely : Prop := fnExactNameOKRow.holds Try.pinned (OpenSpec.ofChange fnExactNameOKWrong)

/-- 'laws.FnExactQuoteText': WHATEVER THE INPUT: true; the input reads as it did. -/
def fnExactQuoteTextSpec : ChangeSpec := { name := "fnExactQuoteText", fn := fun _ => fun
  | [d] => { results := [.lit (.bool true)], args := [d] }
  | _ => none }
def fnExactQuoteTextRow : OpenClaim := { program := "ytgjeefjmcmionaa", sum := "75f4a8cd71c6500d06166dfbcf9dd51d67e534e6bb7bf982cddaa77f03d335c8", func := "loop.example/g00779/laws.FnExactQuoteText", spec := "fnExactQuoteText", apart := false }
def FnExactQuoteTextSaid : Prop := fnExactQuoteTextRow.holds Try.pinned (OpenSpec.ofChange fnExactQuoteTextSpec)

/-- ITS FALSE NEIGHBOUR: 'it returns false'. Refute it at one input. -/
def fnExactQuoteTextWrong : ChangeSpec := { name := "fnExactQuoteText", fn := fun _ => fun
  | [d] => { results := [.lit (.bool false)], args := [d] }
  | _ => none }
def FnExactQuoteTextWrongFalsely : Prop := fnExactQuoteTextRow.holds Try.pinned (OpenSpec.ofChange fnExactQuoteTextWrong)

/-- 'laws.FnExactViolationOK': WHATEVER THE INPUT: true; the input reads as it did. -/
def fnExactViolationOKSpec : ChangeSpec := { name := "fnExactViolationOK", fn := fun _ => fun
  | [d] => { results := [.lit (.bool true)], args := [d] }
  | _ => none }
def fnExactViolationOKRow : OpenClaim := { program := "ytgjeefjmcmionaa", sum := "75f4a8cd71c6500d06166dfbcf9dd51d67e534e6bb7bf982cddaa77f03d335c8", func := "loop.example/g00779/laws.FnExactViolationOK", spec := "fnExactViolationOK", apart := false }
def FnExactViolationOKSaid : Prop := fnExactViolationOKRow.holds Try.pinned (OpenSpec.ofChange fnExactViolationOKSpec)

/-- ITS FALSE NEIGHBOUR: 'it returns false'. Refute it at one input. -/
def fnExactViolationOKWrong : ChangeSpec := { name := "fnExactViolationOK", fn := fun _ => fun
  | [d] => { results := [.lit (.bool false)], args := [d] }
  | _ => none }
def FnExactViolationOKWrongFalsely : Prop := fnExactViolationOKRow.holds Try.pinned (OpenSpec.ofChange fnExactViolationOKWrong)

/-- 'laws.FnExactBoxOK': WHATEVER THE INPUT: true; the input reads as it did. -/
def fnExactBoxOKSpec : ChangeSpec := { name := "fnExactBoxOK", fn := fun _ => fun
  | [d] => { results := [.lit (.bool true)], args := [d] }
  | _ => none }
def fnExactBoxOKRow : OpenClaim := { program := "ytgjeefjmcmionaa", sum := "75f4a8cd71c6500d06166dfbcf9dd51d67e534e6bb7bf982cddaa77f03d335c8", func := "loop.example/g00779/laws.FnExactBoxOK", spec := "fnExactBoxOK", apart := false }
def FnExactBoxOKSaid : Prop := fnExactBoxOKRow.holds Try.pinned (OpenSpec.ofChange fnExactBoxOKSpec)

/-- ITS FALSE NEIGHBOUR: 'it returns false'. Refute it at one input. -/
def fnExactBoxOKWrong : ChangeSpec := { name := "fnExactBoxOK", fn := fun _ => fun
  | [d] => { results := [.lit (.bool false)], args := [d] }
  | _ => none }
def FnExactBoxOKWrongFalsely : Prop := fnExactBoxOKRow.holds Try.pinned (OpenSpec.ofChange fnExactBoxOKWrong)

/-- 'laws.FnExactBodyOfId': WHATEVER THE INPUT: true; the input reads as it did. -/
def fnExactBodyOfIdSpec : ChangeSpec := { name := "fnExactBodyOfId", fn := fun _ => fun
  | [d1, d2] => { results := [.lit (.bool true)], args := [d1, d2] }
  | _ => none }
def fnExactBodyOfIdRow : OpenClaim := { program := "ytgjeefjmcmionaa", sum := "75f4a8cd71c6500d06166dfbcf9dd51d67e534e6bb7bf982cddaa77f03d335c8", func := "loop.example/g00779/laws.FnExactBodyOfId", spec := "fnExactBodyOfId", apart := false }
def FnExactBodyOfIdSaid : Prop := fnExactBodyOfIdRow.holds Try.pinned (OpenSpec.ofChange fnExactBodyOfIdSpec)

/-- ITS FALSE NEIGHBOUR: 'it returns false'. Refute it at one input. -/
def fnExactBodyOfIdWrong : ChangeSpec := { name := "fnExactBodyOfId", fn := fun _ => fun
  | [d1, d2] => { results := [.lit (.bool false)], args := [d1, d2] }
  | _ => none }
def FnExactBodyOfIdWrongFalsely : Prop := fnExactBodyOfIdRow.holds Try.pinned (OpenSpec.ofChange fnExactBodyOfIdWrong)

/-- 'laws.FnExactTimesOf': WHATEVER THE INPUT: true; the input reads as it did. -/
def fnExactTimesOfSpec : ChangeSpec := { name := "fnExactTimesOf", fn := fun _ => fun
  | [d1, d2] => { results := [.lit (.bool true)], args := [d1, d2] }
  | _ => none }
def fnExactTimesOfRow : OpenClaim := { program := "ytgjeefjmcmionaa", sum := "75f4a8cd71c6500d06166dfbcf9dd51d67e534e6bb7bf982cddaa77f03d335c8", func := "loop.example/g00779/laws.FnExactTimesOf", spec := "fnExactTimesOf", apart := false }
def FnExactTimesOfSaid : Prop := fnExactTimesOfRow.holds Try.pinned (OpenSpec.ofChange fnExactTimesOfSpec)

/-- ITS FALSE NEIGHBOUR: 'it returns false'. Refute it at one input. -/
def fnExactTimesOfWrong : ChangeSpec := { name := "fnExactTimesOf", fn := fun _ => fun
  | [d1, d2] => { results := [.lit (.bool false)], args := [d1, d2] }
  | _ => none }
def FnExactTimesOfWrongFalsely : Prop := fnExactTimesOfRow.holds Try.pinned (OpenSpec.ofChange fnExactTimesOfWrong)

/- THE SECOND FORM. 'bulk': how many values and letters a reading holds, each counted each time it is reached (what is shared counts as often as it is met; a slice's spare places count too). A statement '..UptoSaid' is the law's where the arguments, and the package variables that the reading takes, are together of bulk at most 1048576: NARROWER than '..Said'. Prove '..Said' where nothing that the law and all that it calls make is longer than what came in: it says more and counts as full. Else prove '..UptoSaid'. A law counts once. -/
mutual
def uptoBulk {H : Type} : DataW H → Nat
  | .lit (.string bytes) => bytes.length + 1
  | .lit _ => 1
  | .nil => 1
  | .ptr d => uptoBulk d + 1
  | .slice elems spare => uptoBulkAll elems + uptoBulkAll spare + 1
  | .agg parts => uptoBulkAll parts + 1
  | .iface _ d => uptoBulk d + 1
  | .map entries => uptoBulkEntries entries + 1
  | .held _ => 1
def uptoBulkAll {H : Type} : List (DataW H) → Nat
  | [] => 0
  | d :: r => uptoBulk d + uptoBulkAll r
def uptoBulkEntries {H : Type} : List (Lit × DataW H) → Nat
  | [] => 0
  | x :: r => uptoBulkEntry x + uptoBulkEntries r
def uptoBulkEntry {H : Type} : Lit × DataW H → Nat
  | (.string bytes, d) => bytes.length + uptoBulk d + 1
  | (_, d) => uptoBulk d + 1
 end
def uptoSmall : (H : Type) → List (DataW H) → Bool := fun _ ds => decide (uptoBulkAll ds ≤ 1048576)
def OpenSpec.upto (s : _root_.Go.ChangeSpec) : _root_.Go.OpenSpec := { _root_.Go.OpenSpec.ofChange s with cond := some uptoSmall }

/-- 'laws.FnExactConstants', WHERE WHAT IT READS IS OF BULK AT MOST 1048576: true; the input reads as it did. -/
def fnExactConstantsUptoRow : OpenClaim := { program := "ytgjeefjmcmionaa", sum := "75f4a8cd71c6500d06166dfbcf9dd51d67e534e6bb7bf982cddaa77f03d335c8", func := "loop.example/g00779/laws.FnExactConstants", spec := "fnExactConstants", apart := false, narrowed := true }
def FnExactConstantsUptoSaid : Prop := fnExactConstantsUptoRow.holds Try.pinned (OpenSpec.upto fnExactConstantsSpec)

/-- 'laws.FnExactCodeWord', WHERE WHAT IT READS IS OF BULK AT MOST 1048576: true; the input reads as it did. -/
def fnExactCodeWordUptoRow : OpenClaim := { program := "ytgjeefjmcmionaa", sum := "75f4a8cd71c6500d06166dfbcf9dd51d67e534e6bb7bf982cddaa77f03d335c8", func := "loop.example/g00779/laws.FnExactCodeWord", spec := "fnExactCodeWord", apart := false, narrowed := true }
def FnExactCodeWordUptoSaid : Prop := fnExactCodeWordUptoRow.holds Try.pinned (OpenSpec.upto fnExactCodeWordSpec)

/-- 'laws.FnExactFateWord', WHERE WHAT IT READS IS OF BULK AT MOST 1048576: true; the input reads as it did. -/
def fnExactFateWordUptoRow : OpenClaim := { program := "ytgjeefjmcmionaa", sum := "75f4a8cd71c6500d06166dfbcf9dd51d67e534e6bb7bf982cddaa77f03d335c8", func := "loop.example/g00779/laws.FnExactFateWord", spec := "fnExactFateWord", apart := false, narrowed := true }
def FnExactFateWordUptoSaid : Prop := fnExactFateWordUptoRow.holds Try.pinned (OpenSpec.upto fnExactFateWordSpec)

/-- 'laws.FnExactWait', WHERE WHAT IT READS IS OF BULK AT MOST 1048576: true; the input reads as it did. -/
def fnExactWaitUptoRow : OpenClaim := { program := "ytgjeefjmcmionaa", sum := "75f4a8cd71c6500d06166dfbcf9dd51d67e534e6bb7bf982cddaa77f03d335c8", func := "loop.example/g00779/laws.FnExactWait", spec := "fnExactWait", apart := false, narrowed := true }
def FnExactWaitUptoSaid : Prop := fnExactWaitUptoRow.holds Try.pinned (OpenSpec.upto fnExactWaitSpec)

/-- 'laws.FnExactReportOK', WHERE WHAT IT READS IS OF BULK AT MOST 1048576: true; the input reads as it did. -/
def fnExactReportOKUptoRow : OpenClaim := { program := "ytgjeefjmcmionaa", sum := "75f4a8cd71c6500d06166dfbcf9dd51d67e534e6bb7bf982cddaa77f03d335c8", func := "loop.example/g00779/laws.FnExactReportOK", spec := "fnExactReportOK", apart := false, narrowed := true }
def FnExactReportOKUptoSaid : Prop := fnExactReportOKUptoRow.holds Try.pinned (OpenSpec.upto fnExactReportOKSpec)

/-- 'laws.FnExactCodeOf', WHERE WHAT IT READS IS OF BULK AT MOST 1048576: true; the input reads as it did. -/
def fnExactCodeOfUptoRow : OpenClaim := { program := "ytgjeefjmcmionaa", sum := "75f4a8cd71c6500d06166dfbcf9dd51d67e534e6bb7bf982cddaa77f03d335c8", func := "loop.example/g00779/laws.FnExactCodeOf", spec := "fnExactCodeOf", apart := false, narrowed := true }
def FnExactCodeOfUptoSaid : Prop := fnExactCodeOfUptoRow.holds Try.pinned (OpenSpec.upto fnExactCodeOfSpec)

/-- 'laws.FnExactNameOK', WHERE WHAT IT READS IS OF BULK AT MOST 1048576: true; the input reads as it did. -/
def fnExactNameOKUptoRow : OpenClaim := { program := "ytgjeefjmcmionaa", sum := "75f4a8cd71c6500d06166dfbcf9dd51d67e534e6bb7bf982cddaa77f03d335c8", func := "loop.example/g00779/laws.FnExactNameOK", spec := "fnExactNameOK", apart := false, narrowed := true }
def FnExactNameOKUptoSaid : Prop := fnExactNameOKUptoRow.holds Try.pinned (OpenSpec.upto fnExactNameOKSpec)

/-- 'laws.FnExactQuoteText', WHERE WHAT IT READS IS OF BULK AT MOST 1048576: true; the input reads as it did. -/
def fnExactQuoteTextUptoRow : OpenClaim := { program := "ytgjeefjmcmionaa", sum := "75f4a8cd71c6500d06166dfbcf9dd51d67e534e6bb7bf982cddaa77f03d335c8", func := "loop.example/g00779/laws.FnExactQuoteText", spec := "fnExactQuoteText", apart := false, narrowed := true }
def FnExactQuoteTextUptoSaid : Prop := fnExactQuoteTextUptoRow.holds Try.pinned (OpenSpec.upto fnExactQuoteTextSpec)

/-- 'laws.FnExactViolationOK', WHERE WHAT IT READS IS OF BULK AT MOST 1048576: true; the input reads as it did. -/
def fnExactViolationOKUptoRow : OpenClaim := { program := "ytgjeefjmcmionaa", sum := "75f4a8cd71c6500d06166dfbcf9dd51d67e534e6bb7bf982cddaa77f03d335c8", func := "loop.example/g00779/laws.FnExactViolationOK", spec := "fnExactViolationOK", apart := false, narrowed := true }
def FnExactViolationOKUptoSaid : Prop := fnExactViolationOKUptoRow.holds Try.pinned (OpenSpec.upto fnExactViolationOKSpec)

/-- 'laws.FnExactBoxOK', WHERE WHAT IT READS IS OF BULK AT MOST 1048576: true; the input reads as it did. -/
def fnExactBoxOKUptoRow : OpenClaim := { program := "ytgjeefjmcmionaa", sum := "75f4a8cd71c6500d06166dfbcf9dd51d67e534e6bb7bf982cddaa77f03d335c8", func := "loop.example/g00779/laws.FnExactBoxOK", spec := "fnExactBoxOK", apart := false, narrowed := true }
def FnExactBoxOKUptoSaid : Prop := fnExactBoxOKUptoRow.holds Try.pinned (OpenSpec.upto fnExactBoxOKSpec)

/-- 'laws.FnExactBodyOfId', WHERE WHAT IT READS IS OF BULK AT MOST 1048576: true; the input reads as it did. -/
def fnExactBodyOfIdUptoRow : OpenClaim := { program := "ytgjeefjmcmionaa", sum := "75f4a8cd71c6500d06166dfbcf9dd51d67e534e6bb7bf982cddaa77f03d335c8", func := "loop.example/g00779/laws.FnExactBodyOfId", spec := "fnExactBodyOfId", apart := false, narrowed := true }
def FnExactBodyOfIdUptoSaid : Prop := fnExactBodyOfIdUptoRow.holds Try.pinned (OpenSpec.upto fnExactBodyOfIdSpec)

/-- 'laws.FnExactTimesOf', WHERE WHAT IT READS IS OF BULK AT MOST 1048576: true; the input reads as it did. -/
def fnExactTimesOfUptoRow : OpenClaim := { program := "ytgjeefjmcmionaa", sum := "75f4a8cd71c6500d06166dfbcf9dd51d67e534e6bb7bf982cddaa77f03d335c8", func := "loop.example/g00779/laws.FnExactTimesOf", spec := "fnExactTimesOf", apart := false, narrowed := true }
def FnExactTimesOfUptoSaid : Prop := fnExactTimesOfUptoRow.holds Try.pinned (OpenSpec.upto fnExactTimesOfSpec)

end Rows
end Go.Proofs.Ytgjeefjmcmionaa
