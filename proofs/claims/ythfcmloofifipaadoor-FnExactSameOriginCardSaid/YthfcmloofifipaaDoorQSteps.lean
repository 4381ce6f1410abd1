/- A tool of this session wrote this text out of the translation: functions as plain Lean, and proofs that the machine's calls come to their answers. -/
import Derived.Test.YthfcmloofifipaaDoorTWords
import Derived.Test.YthfcmloofifipaaDoorTLast
import Derived.Test.YthfcmloofifipaaDoorTTab
set_option linter.unusedVariables false
namespace Go.Proofs.YthfcmloofifipaaDoor.Steps
open Go.RowKit Go.Proofs.YthfcmloofifipaaDoorW.PrintWords Go.Proofs.YthfcmloofifipaaDoorW.PrintLast
/-- The first i have come up, n are to come. -/
def upTo (i n : Nat) : Array Bool := (List.replicate i true ++ List.replicate n false).toArray
section
variable {P : Program} {md : Region.Mode} {ops : Array Oper} {S : World → Prop} {ds : List Nat} {Q : Exit → Act → World → Prop} {T : Bool × List (List Nat × List Nat)} {B : List Nat}
theorem toU_ {i n fuel : Nat} {l : Array Bool} {a : Act} {w : World} (hl : l = upTo i n) (h : wpAnyLast P md ops Q S ds fuel (upTo i n) a w) : wpAnyLast P md ops Q S ds fuel l a w := hl ▸ h
theorem ofU_ {i n fuel : Nat} {l : Array Bool} {a : Act} {w : World} (hl : upTo i n = l) (h : wpAnyLast P md ops Q S ds fuel l a w) : wpAnyLast P md ops Q S ds fuel (upTo i n) a w := hl ▸ h
/-- The next operation in the text's order, where it yields in every world. -/
theorem pureU_ {v : Value} {oi : Oper} {fuel i j n m : Nat} {a : Act} {w : World} (hT : rtab md ops = T) (hj : i + 1 = j) (hi : ops[i]? = some oi) (hN : oi.dst = some m) (hc : anyT T (upTo i (n + 1)).toList (upTo j n).toList i = true)
    (hQ : ∀ c a w, Q (.panic c) (a.put oi.dst v) w → Q (.panic c) a w) (hy : Yields P ops oi v a) {a' : Act} (ha : a.put (some m) v = a')
    (h : wpAnyLast P md ops Q S ds fuel (upTo j n) a' w) : wpAnyLast P md ops Q S ds (fuel + 1) (upTo i (n + 1)) a w :=
  pure_ _ hi hN (any_of hT hc) hQ hy ha h
/-- The next operation in the text's order, a reading. -/
theorem takeU_ {v : Value} {oi : Oper} {fuel i j n m : Nat} {a : Act} {w : World} (hT : rtab md ops = T) (hB : waitsOk T.2 B = true) (hj : i + 1 = j) (hi : ops[i]? = some oi) (hN : oi.dst = some m) (hc : takeW T B ds (upTo i (n + 1)).toList (upTo j n).toList i = true)
    (hQ : ∀ c a w, Q (.panic c) (a.put oi.dst v) w → Q (.panic c) a w) (hy : YieldsIf P ops S oi v a) (hS : S w) {a' : Act} (ha : a.put (some m) v = a')
    (h : wpAnyLast P md ops Q S ds fuel (upTo j n) a' w) : wpAnyLast P md ops Q S ds (fuel + 1) (upTo i (n + 1)) a w :=
  take_ _ hi hN (take_ofW hT hB hc) hQ hy hS ha h
/-- The next operation in the text's order, passed over. -/
theorem skipU_ {oi : Oper} {fuel i j n m : Nat} {a : Act} {w : World} (hT : rtab md ops = T) (hj : i + 1 = j) (hi : ops[i]? = some oi) (hN : oi.dst = some m) (hc : anyT T (upTo i (n + 1)).toList (upTo j n).toList i = true)
    (hQ : ∀ c a w, Q (.panic c) (a.put oi.dst undef) w → Q (.panic c) a w) (hy : Region.wanted oi (yielded ops a.tmps) = false) {a' : Act} (ha : a.put (some m) undef = a')
    (h : wpAnyLast P md ops Q S ds fuel (upTo j n) a' w) : wpAnyLast P md ops Q S ds (fuel + 1) (upTo i (n + 1)) a w :=
  pureU_ hT hj hi hN hc hQ (Or.inr ⟨hy, rfl⟩) ha h
end
theorem held9_ {w : World} {g : Nat} {c0 c1 c2 c3 c4 c5 c6 c7 c8 : Value} {t : TypeId} (h : w.heap[g]? = some (.cells #[c0, c1, c2, c3, c4, c5, c6, c7, c8] t (0, 0))) :
    w.cell? ⟨g, 0, none⟩ = some c0 ∧ w.cell? ⟨g, 1, none⟩ = some c1 ∧ w.cell? ⟨g, 2, none⟩ = some c2 ∧ w.cell? ⟨g, 3, none⟩ = some c3 ∧ w.cell? ⟨g, 4, none⟩ = some c4 ∧ w.cell? ⟨g, 5, none⟩ = some c5 ∧ w.cell? ⟨g, 6, none⟩ = some c6 ∧ w.cell? ⟨g, 7, none⟩ = some c7 ∧ w.cell? ⟨g, 8, none⟩ = some c8 :=
  ⟨(blk_cell h 0).trans rfl, (blk_cell h 1).trans rfl, (blk_cell h 2).trans rfl, (blk_cell h 3).trans rfl, (blk_cell h 4).trans rfl, (blk_cell h 5).trans rfl, (blk_cell h 6).trans rfl, (blk_cell h 7).trans rfl, (blk_cell h 8).trans rfl⟩
end Go.Proofs.YthfcmloofifipaaDoor.Steps
