/- A tool of this session wrote this text out of the translation: functions as plain Lean, and proofs that the machine's calls come to their answers. -/
import Derived.Test.YtagbjmjfelggmaaDoorQShort
import Derived.Test.YtagbjmjfelggmaaDoorQFnExactReadEventx0
import Derived.Test.YtagbjmjfelggmaaDoorQFnExactReadEventx10
import Derived.Test.YtagbjmjfelggmaaDoorQFnExactReadEventx12
import Derived.Test.YtagbjmjfelggmaaDoorQFnExactReadEventx13
import Derived.Test.YtagbjmjfelggmaaDoorQFnExactReadEventx23
import Derived.Test.YtagbjmjfelggmaaDoorQFnExactReadEventx28
import Derived.Test.YtagbjmjfelggmaaDoorQFnExactReadEventx25
import Derived.Test.YtagbjmjfelggmaaDoorQFnExactReadEventx26
namespace Go.Proofs.YtagbjmjfelggmaaDoor.QFnExactReadEvent
open Go.RowKit Go.Proofs.YtagbjmjfelggmaaDoorW.PrintWords Go.Proofs.YtagbjmjfelggmaaDoorW.PrintLast Go.Proofs.YtagbjmjfelggmaaDoorW.PrintMore
open Go.Proofs.YtagbjmjfelggmaaDoor.Short
attribute [local go_sem] max2_int min2_int max_two min_two max_three min_three max_four min_four   -- for this text's walks alone
set_option linter.unusedVariables false
set_option linter.unusedSimpArgs false

/-! ### impl_readEvent: function 20 -/
theorem impl_readEvent.calls (k : Nat) (a0 : ByteArray) (r1 : Int) (r2 : Int) (r3 : Int) (r4 : Int) (r5 : ByteArray) (r6 : ByteArray) (r7 : ByteArray) (r8 : ByteArray) (r9 : ByteArray) (a : ByteArray) (d : ByteArray) (g : ByteArray) (i : Int) (j : Int) (l : Bool) (m : Bool) (n : Bool) (w : World) (hM : Amb w) (h : impl_readEvent.f k a0 = some (r1, r2, r3, r4, r5, r6, r7, r8, r9, a, d, g, i, j, l, m, n)) :
    Calls Tryd.prog 20 #[.string a0] w fun e w' => e = .returned (.tuple #[.agg #[.int .i64 r1, .int .i64 r2, .int .i64 r3, .int .i64 r4, .string r5, .string r6, .string r7, .string r8, .string r9, .string a, .string d, .string g, .int .i64 i, .int .i64 j, .bool l, .bool m], .bool n]) ∧ Below w.heap.size w w' := by
  have H := h; unfold impl_readEvent.f at H; obtain ⟨⟨t, t', b⟩, e, _⟩ := Option.bind_eq_some_iff.mp H
  by_cases cS : t.toList = ([115, 101, 110, 100] : List UInt8)
  · exact impl_readEvent.callsS_ k a0 r1 r2 r3 r4 r5 r6 r7 r8 r9 a d g i j l m n w hM (fun s s' c e' => by rw [e] at e'; cases e'; exact cS) h
  · by_cases cV : t.toList = ([118, 105, 111, 108, 97, 116, 105, 111, 110] : List UInt8)
    · exact impl_readEvent.callsV_ k a0 r1 r2 r3 r4 r5 r6 r7 r8 r9 a d g i j l m n w hM (fun s s' c e' => by rw [e] at e'; cases e'; exact cV) h
    · exact impl_readEvent.callsA_ k a0 r1 r2 r3 r4 r5 r6 r7 r8 r9 a d g i j l m n w hM (fun s s' c e' => by rw [e] at e'; cases e'; exact ⟨cS, cV⟩) h
end Go.Proofs.YtagbjmjfelggmaaDoor.QFnExactReadEvent
