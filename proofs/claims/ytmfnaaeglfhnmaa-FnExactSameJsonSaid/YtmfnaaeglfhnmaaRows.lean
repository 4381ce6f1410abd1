/-
  NARROWER THAN 'FOR EVERY INPUT', by the rows' own cells (each row's printed sentence says how): FnExactJsonOK: loops · FnExactSameJson: loops.
  DERIVED. THE GIVEN ROWS OF THIS SEAT. 12 by the template 'for every input the law returns true; each argument reads behind the call as it read before'; 0 by the template 'total and deterministic' (their statements: YtmfnaaeglfhnmaaTotals.lean).
  GIVEN WITH THE SEED: the statements are not yours to turn. If you find one false, say at which input.
  Laid BY PROGRAM, IN A SANDBOX (cutbox-rows.mjs): the forced cells as the released guide's own fill.sh prints them over the translation 1bb9b065328d2ae7… (all of the seat's roots in one cut). By AI agents, Wed Nov 11 2026. No macro, syntax, notation, axiom, sorry.
-/
import Derived.Test.YtmfnaaeglfhnmaaChecked
import GoSem.Claim
import GoSem.ClaimJoined
import GoSem.ClaimMapViews
import Derived.JoinedTies
import Derived.KernelRfl
namespace Go.Proofs.Ytmfnaaeglfhnmaa
/- THE CELL 'sum', in the pinned program and in every row, IS THE sha256 OF THE DUMP (.gsa) THAT YtmfnaaeglfhnmaaProg.lean LOADS. Nothing in Lean hashes anything: it is a label: what it is worth is what the hold of that sum in a sandbox is worth. -/
noncomputable def Try.pinned : Pinned := { name := "ytmfnaaeglfhnmaa", sum := "1bb9b065328d2ae7601cca614ef5a76c20d1be548f694c6f5e4bf075666010f6", checked := Try.checked }
namespace Rows
def none {H : Type} : Left H := { results := [], args := [] }

/-- 'laws.FnExactEventOK': WHATEVER THE INPUT: true; the input reads as it did. -/
def fnExactEventOKSpec : ChangeSpec := { name := "fnExactEventOK", fn := fun _ => fun
  | [d] => { results := [.lit (.bool true)], args := [d] }
  | _ => none }
def fnExactEventOKRow : OpenClaim := { program := "ytmfnaaeglfhnmaa", sum := "1bb9b065328d2ae7601cca614ef5a76c20d1be548f694c6f5e4bf075666010f6", func := "loop.example/g00779/laws.FnExactEventOK", spec := "fnExactEventOK", apart := false }
def FnExactEventOKSaid : Prop := fnExactEventOKRow.holds Try.pinned (OpenSpec.ofChange fnExactEventOKSpec)

/-- ITS FALSE NEIGHBOUR: 'it returns false'. Refute it at one input. -/
def fnExactEventOKWrong : ChangeSpec := { name := "fnExactEventOK", fn := fun _ => fun
  | [d] => { results := [.lit (.bool false)], args := [d] }
  | _ => none }
def FnExactEventOKWrongFalsely : Prop := fnExactEventOKRow.holds Try.pinned (OpenSpec.ofChange fnExactEventOKWrong)

/-- 'laws.FnExactSameBox': WHATEVER THE INPUT: true; the input reads as it did. -/
def fnExactSameBoxSpec : ChangeSpec := { name := "fnExactSameBox", fn := fun _ => fun
  | [d1, d2] => { results := [.lit (.bool true)], args := [d1, d2] }
  | _ => none }
def fnExactSameBoxRow : OpenClaim := { program := "ytmfnaaeglfhnmaa", sum := "1bb9b065328d2ae7601cca614ef5a76c20d1be548f694c6f5e4bf075666010f6", func := "loop.example/g00779/laws.FnExactSameBox", spec := "fnExactSameBox", apart := false }
def FnExactSameBoxSaid : Prop := fnExactSameBoxRow.holds Try.pinned (OpenSpec.ofChange fnExactSameBoxSpec)

/-- ITS FALSE NEIGHBOUR: 'it returns false'. Refute it at one input. -/
def fnExactSameBoxWrong : ChangeSpec := { name := "fnExactSameBox", fn := fun _ => fun
  | [d1, d2] => { results := [.lit (.bool false)], args := [d1, d2] }
  | _ => none }
def FnExactSameBoxWrongFalsely : Prop := fnExactSameBoxRow.holds Try.pinned (OpenSpec.ofChange fnExactSameBoxWrong)

/-- 'laws.FnExactQueueOK': WHATEVER THE INPUT: true; the input reads as it did. -/
def fnExactQueueOKSpec : ChangeSpec := { name := "fnExactQueueOK", fn := fun _ => fun
  | [d] => { results := [.lit (.bool true)], args := [d] }
  | _ => none }
def fnExactQueueOKRow : OpenClaim := { program := "ytmfnaaeglfhnmaa", sum := "1bb9b065328d2ae7601cca614ef5a76c20d1be548f694c6f5e4bf075666010f6", func := "loop.example/g00779/laws.FnExactQueueOK", spec := "fnExactQueueOK", apart := false }
def FnExactQueueOKSaid : Prop := fnExactQueueOKRow.holds Try.pinned (OpenSpec.ofChange fnExactQueueOKSpec)

/-- ITS FALSE NEIGHBOUR: 'it returns false'. Refute it at one input. -/
def fnExactQueueOKWrong : ChangeSpec := { name := "fnExactQueueOK", fn := fun _ => fun
  | [d] => { results := [.lit (.bool false)], args := [d] }
  | _ => none }
def FnExactQueueOKWrongFalsely : Prop := fnExactQueueOKRow.holds Try.pinned (OpenSpec.ofChange fnExactQueueOKWrong)

/-- 'laws.FnExactSameQueue': WHATEVER THE INPUT: true; the input reads as it did. -/
def fnExactSameQueueSpec : ChangeSpec := { name := "fnExactSameQueue", fn := fun _ => fun
  | [d1, d2] => { results := [.lit (.bool true)], args := [d1, d2] }
  | _ => none }
def fnExactSameQueueRow : OpenClaim := { program := "ytmfnaaeglfhnmaa", sum := "1bb9b065328d2ae7601cca614ef5a76c20d1be548f694c6f5e4bf075666010f6", func := "loop.example/g00779/laws.FnExactSameQueue", spec := "fnExactSameQueue", apart := false }
def FnExactSameQueueSaid : Prop := fnExactSameQueueRow.holds Try.pinned (OpenSpec.ofChange fnExactSameQueueSpec)

/-- ITS FALSE NEIGHBOUR: 'it returns false'. Refute it at one input. -/
def fnExactSameQueueWrong : ChangeSpec := { name := "fnExactSameQueue", fn := fun _ => fun
  | [d1, d2] => { results := [.lit (.bool false)], args := [d1, d2] }
  | _ => none }
def FnExactSameQueueWrongFalsely : Prop := fnExactSameQueueRow.holds Try.pinned (OpenSpec.ofChange fnExactSameQueueWrong)

/-- 'laws.FnExactBatch': WHATEVER THE INPUT: true; the input reads as it did. -/
def fnExactBatchSpec : ChangeSpec := { name := "fnExactBatch", fn := fun _ => fun
  | [d] => { results := [.lit (.bool true)], args := [d] }
  | _ => none }
def fnExactBatchRow : OpenClaim := { program := "ytmfnaaeglfhnmaa", sum := "1bb9b065328d2ae7601cca614ef5a76c20d1be548f694c6f5e4bf075666010f6", func := "loop.example/g00779/laws.FnExactBatch", spec := "fnExactBatch", apart := false }
def FnExactBatchSaid : Prop := fnExactBatchRow.holds Try.pinned (OpenSpec.ofChange fnExactBatchSpec)

/-- ITS FALSE NEIGHBOUR: 'it returns false'. Refute it at one input. -/
def fnExactBatchWrong : ChangeSpec := { name := "fnExactBatch", fn := fun _ => fun
  | [d] => { results := [.lit (.bool false)], args := [d] }
  | _ => none }
def FnExactBatchWrongFalsely : Prop := fnExactBatchRow.holds Try.pinned (OpenSpec.ofChange fnExactBatchWrong)

/-- 'laws.FnExactOffer': WHATEVER THE INPUT: true; the input reads as it did. -/
def fnExactOfferSpec : ChangeSpec := { name := "fnExactOffer", fn := fun _ => fun
  | [d1, d2] => { results := [.lit (.bool true)], args := [d1, d2] }
  | _ => none }
def fnExactOfferRow : OpenClaim := { program := "ytmfnaaeglfhnmaa", sum := "1bb9b065328d2ae7601cca614ef5a76c20d1be548f694c6f5e4bf075666010f6", func := "loop.example/g00779/laws.FnExactOffer", spec := "fnExactOffer", apart := false }
def FnExactOfferSaid : Prop := fnExactOfferRow.holds Try.pinned (OpenSpec.ofChange fnExactOfferSpec)

/-- ITS FALSE NEIGHBOUR: 'it returns false'. Refute it at one input. -/
def fnExactOfferWrong : ChangeSpec := { name := "fnExactOffer", fn := fun _ => fun
  | [d1, d2] => { results := [.lit (.bool false)], args := [d1, d2] }
  | _ => none }
def FnExactOfferWrongFalsely : Prop := fnExactOfferRow.holds Try.pinned (OpenSpec.ofChange fnExactOfferWrong)

/-- 'laws.FnExactExpire': WHATEVER THE INPUT: true; the input reads as it did. -/
def fnExactExpireSpec : ChangeSpec := { name := "fnExactExpire", fn := fun _ => fun
  | [d1, d2, d3] => { results := [.lit (.bool true)], args := [d1, d2, d3] }
  | _ => none }
def fnExactExpireRow : OpenClaim := { program := "ytmfnaaeglfhnmaa", sum := "1bb9b065328d2ae7601cca614ef5a76c20d1be548f694c6f5e4bf075666010f6", func := "loop.example/g00779/laws.FnExactExpire", spec := "fnExactExpire", unfollowed := true, recurses := true, apart := false }
def FnExactExpireSaid : Prop := fnExactExpireRow.holds Try.pinned (OpenSpec.ofChange fnExactExpireSpec)

/-- ITS FALSE NEIGHBOUR: 'it returns false'. Refute it at one input. -/
def fnExactExpireWrong : ChangeSpec := { name := "fnExactExpire", fn := fun _ => fun
  | [d1, d2, d3] => { results := [.lit (.bool false)], args := [d1, d2, d3] }
  | _ => none }
def FnExactExpireWrongFalsely : Prop := fnExactExpireRow.holds Try.pinned (OpenSpec.ofChange fnExactExpireWrong)

/-- 'laws.FnExactSettle': WHATEVER THE INPUT: true; the input reads as it did. -/
def fnExactSettleSpec : ChangeSpec := { name := "fnExactSettle", fn := fun _ => fun
  | [d1, d2] => { results := [.lit (.bool true)], args := [d1, d2] }
  | _ => none }
def fnExactSettleRow : OpenClaim := { program := "ytmfnaaeglfhnmaa", sum := "1bb9b065328d2ae7601cca614ef5a76c20d1be548f694c6f5e4bf075666010f6", func := "loop.example/g00779/laws.FnExactSettle", spec := "fnExactSettle", unfollowed := true, recurses := true, apart := false }
def FnExactSettleSaid : Prop := fnExactSettleRow.holds Try.pinned (OpenSpec.ofChange fnExactSettleSpec)

/-- ITS FALSE NEIGHBOUR: 'it returns false'. Refute it at one input. -/
def fnExactSettleWrong : ChangeSpec := { name := "fnExactSettle", fn := fun _ => fun
  | [d1, d2] => { results := [.lit (.bool false)], args := [d1, d2] }
  | _ => none }
def FnExactSettleWrongFalsely : Prop := fnExactSettleRow.holds Try.pinned (OpenSpec.ofChange fnExactSettleWrong)

/-- 'laws.FnExactMissed': WHATEVER THE INPUT: true; the input reads as it did. -/
def fnExactMissedSpec : ChangeSpec := { name := "fnExactMissed", fn := fun _ => fun
  | [d1, d2] => { results := [.lit (.bool true)], args := [d1, d2] }
  | _ => none }
def fnExactMissedRow : OpenClaim := { program := "ytmfnaaeglfhnmaa", sum := "1bb9b065328d2ae7601cca614ef5a76c20d1be548f694c6f5e4bf075666010f6", func := "loop.example/g00779/laws.FnExactMissed", spec := "fnExactMissed", unfollowed := true, recurses := true, apart := false }
def FnExactMissedSaid : Prop := fnExactMissedRow.holds Try.pinned (OpenSpec.ofChange fnExactMissedSpec)

/-- ITS FALSE NEIGHBOUR: 'it returns false'. Refute it at one input. -/
def fnExactMissedWrong : ChangeSpec := { name := "fnExactMissed", fn := fun _ => fun
  | [d1, d2] => { results := [.lit (.bool false)], args := [d1, d2] }
  | _ => none }
def FnExactMissedWrongFalsely : Prop := fnExactMissedRow.holds Try.pinned (OpenSpec.ofChange fnExactMissedWrong)

/-- 'laws.FnQueues': WHATEVER THE INPUT: true; the input reads as it did. -/
def fnQueuesSpec : ChangeSpec := { name := "fnQueues", fn := fun _ => fun
  | [d1, d2] => { results := [.lit (.bool true)], args := [d1, d2] }
  | _ => none }
def fnQueuesRow : OpenClaim := { program := "ytmfnaaeglfhnmaa", sum := "1bb9b065328d2ae7601cca614ef5a76c20d1be548f694c6f5e4bf075666010f6", func := "loop.example/g00779/laws.FnQueues", spec := "fnQueues", unfollowed := true, recurses := true, apart := false }
def FnQueuesSaid : Prop := fnQueuesRow.holds Try.pinned (OpenSpec.ofChange fnQueuesSpec)

/-- ITS FALSE NEIGHBOUR: 'it returns false'. Refute it at one input. -/
def fnQueuesWrong : ChangeSpec := { name := "fnQueues", fn := fun _ => fun
  | [d1, d2] => { results := [.lit (.bool false)], args := [d1, d2] }
  | _ => none }
def FnQueuesWrongFalsely : Prop := fnQueuesRow.holds Try.pinned (OpenSpec.ofChange fnQueuesWrong)

/-- 'laws.FnExactJsonOK': WHATEVER THE INPUT: true; the input reads as it did. -/
def fnExactJsonOKSpec : ChangeSpec := { name := "fnExactJsonOK", fn := fun _ => fun
  | [d] => { results := [.lit (.bool true)], args := [d] }
  | _ => none }
def fnExactJsonOKRow : OpenClaim := { program := "ytmfnaaeglfhnmaa", sum := "1bb9b065328d2ae7601cca614ef5a76c20d1be548f694c6f5e4bf075666010f6", func := "loop.example/g00779/laws.FnExactJsonOK", spec := "fnExactJsonOK", unfollowed := true, recurses := true, loops := true, apart := false }
def FnExactJsonOKSaid : Prop := fnExactJsonOKRow.holds Try.pinned (OpenSpec.ofChange fnExactJsonOKSpec)

/-- ITS FALSE NEIGHBOUR: 'it returns false'. Refute it at one input. -/
def fnExactJsonOKWrong : ChangeSpec := { name := "fnExactJsonOK", fn := fun _ => fun
  | [d] => { results := [.lit (.bool false)], args := [d] }
  | _ => none }
def FnExactJsonOKWrongFalsely : Prop := fnExactJsonOKRow.holds Try.pinned (OpenSpec.ofChange fnExactJsonOKWrong)

/-- 'laws.FnExactSameJson': WHATEVER THE INPUT: true; the input reads as it did. -/
def fnExactSameJsonSpec : ChangeSpec := { name := "fnExactSameJson", fn := fun _ => fun
  | [d1, d2] => { results := [.lit (.bool true)], args := [d1, d2] }
  | _ => none }
def fnExactSameJsonRow : OpenClaim := { program := "ytmfnaaeglfhnmaa", sum := "1bb9b065328d2ae7601cca614ef5a76c20d1be548f694c6f5e4bf075666010f6", func := "loop.example/g00779/laws.FnExactSameJson", spec := "fnExactSameJson", unfollowed := true, recurses := true, loops := true, apart := false }
def FnExactSameJsonSaid : Prop := fnExactSameJsonRow.holds Try.pinned (OpenSpec.ofChange fnExactSameJsonSpec)

/-- ITS FALSE NEIGHBOUR: 'it returns false'. Refute it at one input. -/
def fnExactSameJsonWrong : ChangeSpec := { name := "fnExactSameJson", fn := fun _ => fun
  | [d1, d2] => { results := [.lit (.bool false)], args := [d1, d2] }
  | _ => none }
def FnExactSameJsonWrongFalsely : Prop := fnExactSameJsonRow.holds Try.pinned (OpenSpec.ofChange fnExactSameJsonWrong)

/- THE SECOND FORM. 'bulk': how many values and letters a reading holds, each counted each time it is reached (what is shared counts as often as it is met; a slice's spare places count too). A statement '..UptoSaid' is the law's where the arguments, and the package variables that the reading takes, are together of bulk at most 1048576: NARROWER than '..Said'. Prove '..Said' where nothing that the law and all that it calls make is longer than what came in: it says more and counts as full. Else prove '..UptoSaid'. A law counts once. -/
mutual
def uptoBulk {H : Type} : DataW H → Nat
  | .lit (.string bytes) => bytes.length + 1
  | .lit _ => 1
  | .nil => 1
  | .ptr d => uptoBulk d + 1
  | .slice elems spare => uptoBulkAll elems + uptoBulkAll spare + 1
  | .agg parts => uptoBulkAll parts + 1
  | .iface _ d => uptoBulk d + 1
  | .map entries => uptoBulkEntries entries + 1
  | .held _ => 1
def uptoBulkAll {H : Type} : List (DataW H) → Nat
  | [] => 0
  | d :: r => uptoBulk d + uptoBulkAll r
def uptoBulkEntries {H : Type} : List (Lit × DataW H) → Nat
  | [] => 0
  | x :: r => uptoBulkEntry x + uptoBulkEntries r
def uptoBulkEntry {H : Type} : Lit × DataW H → Nat
  | (.string bytes, d) => bytes.length + uptoBulk d + 1
  | (_, d) => uptoBulk d + 1
 end
def uptoSmall : (H : Type) → List (DataW H) → Bool := fun _ ds => decide (uptoBulkAll ds ≤ 1048576)
def OpenSpec.upto (s : _root_.Go.ChangeSpec) : _root_.Go.OpenSpec := { _root_.Go.OpenSpec.ofChange s with cond := some uptoSmall }

/-- 'laws.FnExactEventOK', WHERE WHAT IT READS IS OF BULK AT MOST 1048576: true; the input reads as it did. -/
def fnExactEventOKUptoRow : OpenClaim := { program := "ytmfnaaeglfhnmaa", sum := "1bb9b065328d2ae7601cca614ef5a76c20d1be548f694c6f5e4bf075666010f6", func := "loop.example/g00779/laws.FnExactEventOK", spec := "fnExactEventOK", apart := false, narrowed := true }
def FnExactEventOKUptoSaid : Prop := fnExactEventOKUptoRow.holds Try.pinned (OpenSpec.upto fnExactEventOKSpec)

/-- 'laws.FnExactSameBox', WHERE WHAT IT READS IS OF BULK AT MOST 1048576: true; the input reads as it did. -/
def fnExactSameBoxUptoRow : OpenClaim := { program := "ytmfnaaeglfhnmaa", sum := "1bb9b065328d2ae7601cca614ef5a76c20d1be548f694c6f5e4bf075666010f6", func := "loop.example/g00779/laws.FnExactSameBox", spec := "fnExactSameBox", apart := false, narrowed := true }
def FnExactSameBoxUptoSaid : Prop := fnExactSameBoxUptoRow.holds Try.pinned (OpenSpec.upto fnExactSameBoxSpec)

/-- 'laws.FnExactQueueOK', WHERE WHAT IT READS IS OF BULK AT MOST 1048576: true; the input reads as it did. -/
def fnExactQueueOKUptoRow : OpenClaim := { program := "ytmfnaaeglfhnmaa", sum := "1bb9b065328d2ae7601cca614ef5a76c20d1be548f694c6f5e4bf075666010f6", func := "loop.example/g00779/laws.FnExactQueueOK", spec := "fnExactQueueOK", apart := false, narrowed := true }
def FnExactQueueOKUptoSaid : Prop := fnExactQueueOKUptoRow.holds Try.pinned (OpenSpec.upto fnExactQueueOKSpec)

/-- 'laws.FnExactSameQueue', WHERE WHAT IT READS IS OF BULK AT MOST 1048576: true; the input reads as it did. -/
def fnExactSameQueueUptoRow : OpenClaim := { program := "ytmfnaaeglfhnmaa", sum := "1bb9b065328d2ae7601cca614ef5a76c20d1be548f694c6f5e4bf075666010f6", func := "loop.example/g00779/laws.FnExactSameQueue", spec := "fnExactSameQueue", apart := false, narrowed := true }
def FnExactSameQueueUptoSaid : Prop := fnExactSameQueueUptoRow.holds Try.pinned (OpenSpec.upto fnExactSameQueueSpec)

/-- 'laws.FnExactBatch', WHERE WHAT IT READS IS OF BULK AT MOST 1048576: true; the input reads as it did. -/
def fnExactBatchUptoRow : OpenClaim := { program := "ytmfnaaeglfhnmaa", sum := "1bb9b065328d2ae7601cca614ef5a76c20d1be548f694c6f5e4bf075666010f6", func := "loop.example/g00779/laws.FnExactBatch", spec := "fnExactBatch", apart := false, narrowed := true }
def FnExactBatchUptoSaid : Prop := fnExactBatchUptoRow.holds Try.pinned (OpenSpec.upto fnExactBatchSpec)

/-- 'laws.FnExactOffer', WHERE WHAT IT READS IS OF BULK AT MOST 1048576: true; the input reads as it did. -/
def fnExactOfferUptoRow : OpenClaim := { program := "ytmfnaaeglfhnmaa", sum := "1bb9b065328d2ae7601cca614ef5a76c20d1be548f694c6f5e4bf075666010f6", func := "loop.example/g00779/laws.FnExactOffer", spec := "fnExactOffer", apart := false, narrowed := true }
def FnExactOfferUptoSaid : Prop := fnExactOfferUptoRow.holds Try.pinned (OpenSpec.upto fnExactOfferSpec)

/-- 'laws.FnExactExpire', WHERE WHAT IT READS IS OF BULK AT MOST 1048576: true; the input reads as it did. -/
def fnExactExpireUptoRow : OpenClaim := { program := "ytmfnaaeglfhnmaa", sum := "1bb9b065328d2ae7601cca614ef5a76c20d1be548f694c6f5e4bf075666010f6", func := "loop.example/g00779/laws.FnExactExpire", spec := "fnExactExpire", unfollowed := true, recurses := true, apart := false, narrowed := true }
def FnExactExpireUptoSaid : Prop := fnExactExpireUptoRow.holds Try.pinned (OpenSpec.upto fnExactExpireSpec)

/-- 'laws.FnExactSettle', WHERE WHAT IT READS IS OF BULK AT MOST 1048576: true; the input reads as it did. -/
def fnExactSettleUptoRow : OpenClaim := { program := "ytmfnaaeglfhnmaa", sum := "1bb9b065328d2ae7601cca614ef5a76c20d1be548f694c6f5e4bf075666010f6", func := "loop.example/g00779/laws.FnExactSettle", spec := "fnExactSettle", unfollowed := true, recurses := true, apart := false, narrowed := true }
def FnExactSettleUptoSaid : Prop := fnExactSettleUptoRow.holds Try.pinned (OpenSpec.upto fnExactSettleSpec)

/-- 'laws.FnExactMissed', WHERE WHAT IT READS IS OF BULK AT MOST 1048576: true; the input reads as it did. -/
def fnExactMissedUptoRow : OpenClaim := { program := "ytmfnaaeglfhnmaa", sum := "1bb9b065328d2ae7601cca614ef5a76c20d1be548f694c6f5e4bf075666010f6", func := "loop.example/g00779/laws.FnExactMissed", spec := "fnExactMissed", unfollowed := true, recurses := true, apart := false, narrowed := true }
def FnExactMissedUptoSaid : Prop := fnExactMissedUptoRow.holds Try.pinned (OpenSpec.upto fnExactMissedSpec)

/-- 'laws.FnQueues', WHERE WHAT IT READS IS OF BULK AT MOST 1048576: true; the input reads as it did. -/
def fnQueuesUptoRow : OpenClaim := { program := "ytmfnaaeglfhnmaa", sum := "1bb9b065328d2ae7601cca614ef5a76c20d1be548f694c6f5e4bf075666010f6", func := "loop.example/g00779/laws.FnQueues", spec := "fnQueues", unfollowed := true, recurses := true, apart := false, narrowed := true }
def FnQueuesUptoSaid : Prop := fnQueuesUptoRow.holds Try.pinned (OpenSpec.upto fnQueuesSpec)

/-- 'laws.FnExactJsonOK', WHERE WHAT IT READS IS OF BULK AT MOST 1048576: true; the input reads as it did. -/
def fnExactJsonOKUptoRow : OpenClaim := { program := "ytmfnaaeglfhnmaa", sum := "1bb9b065328d2ae7601cca614ef5a76c20d1be548f694c6f5e4bf075666010f6", func := "loop.example/g00779/laws.FnExactJsonOK", spec := "fnExactJsonOK", unfollowed := true, recurses := true, loops := true, apart := false, narrowed := true }
def FnExactJsonOKUptoSaid : Prop := fnExactJsonOKUptoRow.holds Try.pinned (OpenSpec.upto fnExactJsonOKSpec)

/-- 'laws.FnExactSameJson', WHERE WHAT IT READS IS OF BULK AT MOST 1048576: true; the input reads as it did. -/
def fnExactSameJsonUptoRow : OpenClaim := { program := "ytmfnaaeglfhnmaa", sum := "1bb9b065328d2ae7601cca614ef5a76c20d1be548f694c6f5e4bf075666010f6", func := "loop.example/g00779/laws.FnExactSameJson", spec := "fnExactSameJson", unfollowed := true, recurses := true, loops := true, apart := false, narrowed := true }
def FnExactSameJsonUptoSaid : Prop := fnExactSameJsonUptoRow.holds Try.pinned (OpenSpec.upto fnExactSameJsonSpec)

end Rows
end Go.Proofs.Ytmfnaaeglfhnmaa
