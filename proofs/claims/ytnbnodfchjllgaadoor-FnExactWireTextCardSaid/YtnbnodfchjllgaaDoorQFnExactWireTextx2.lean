/- A tool of this session wrote this text out of the translation: functions as plain Lean, and proofs that the machine's calls come to their answers. -/
import Derived.Test.YtnbnodfchjllgaaDoorQFnExactWireTextx0
import Derived.Test.YtnbnodfchjllgaaDoorQFnExactWireTextx1
namespace Go.Proofs.YtnbnodfchjllgaaDoor.QFnExactWireText
open Go.RowKit Go.Proofs.YtnbnodfchjllgaaDoorW.PrintWords Go.Proofs.YtnbnodfchjllgaaDoorW.PrintLast
set_option linter.unusedVariables false
set_option linter.unusedSimpArgs false

/-! ### spec_l13Wire: function 54 -/
def spec_l13Wire.f (k : Nat) (a0_0 : Int) (a0_1 : Int) (a0_2 : ByteArray) (a0_3 : ByteArray) (l0_4 : List Int) (a0_5 : ByteArray) (a0_6 : Bool) : Option (ByteArray) := (spec_l00Digits.f k a0_0).bind fun t114 => (if 3 + t114.size ≤ 9223372036854775807 then (if ((⟨#[97, 116, 32]⟩ : ByteArray) ++ t114).size + 1 ≤ 9223372036854775807 then (if (((⟨#[97, 116, 32]⟩ : ByteArray) ++ t114) ++ (⟨#[32]⟩ : ByteArray)).size + a0_2.size ≤ 9223372036854775807 then (if ((((⟨#[97, 116, 32]⟩ : ByteArray) ++ t114) ++ (⟨#[32]⟩ : ByteArray)) ++ a0_2).size + 4 ≤ 9223372036854775807 then (if (((((⟨#[97, 116, 32]⟩ : ByteArray) ++ t114) ++ (⟨#[32]⟩ : ByteArray)) ++ a0_2) ++ (⟨#[32, 116, 111, 32]⟩ : ByteArray)).size + a0_3.size ≤ 9223372036854775807 then (if ((((((⟨#[97, 116, 32]⟩ : ByteArray) ++ t114) ++ (⟨#[32]⟩ : ByteArray)) ++ a0_2) ++ (⟨#[32, 116, 111, 32]⟩ : ByteArray)) ++ a0_3).size + 8 ≤ 9223372036854775807 then ((spec_l00Digits.f k a0_1).bind fun t115 => (if (((((((⟨#[97, 116, 32]⟩ : ByteArray) ++ t114) ++ (⟨#[32]⟩ : ByteArray)) ++ a0_2) ++ (⟨#[32, 116, 111, 32]⟩ : ByteArray)) ++ a0_3) ++ (⟨#[32, 115, 116, 97, 116, 117, 115, 32]⟩ : ByteArray)).size + t115.size ≤ 9223372036854775807 then (if a0_6 = true then (if ((((((((⟨#[97, 116, 32]⟩ : ByteArray) ++ t114) ++ (⟨#[32]⟩ : ByteArray)) ++ a0_2) ++ (⟨#[32, 116, 111, 32]⟩ : ByteArray)) ++ a0_3) ++ (⟨#[32, 115, 116, 97, 116, 117, 115, 32]⟩ : ByteArray)) ++ t115).size + 5 ≤ 9223372036854775807 then (if (((((((((⟨#[97, 116, 32]⟩ : ByteArray) ++ t114) ++ (⟨#[32]⟩ : ByteArray)) ++ a0_2) ++ (⟨#[32, 116, 111, 32]⟩ : ByteArray)) ++ a0_3) ++ (⟨#[32, 115, 116, 97, 116, 117, 115, 32]⟩ : ByteArray)) ++ t115) ++ (⟨#[32, 108, 111, 115, 116]⟩ : ByteArray)).size + 4 ≤ 9223372036854775807 then ((spec_l13Ids.f k l0_4).bind fun t116 => (if ((((((((((⟨#[97, 116, 32]⟩ : ByteArray) ++ t114) ++ (⟨#[32]⟩ : ByteArray)) ++ a0_2) ++ (⟨#[32, 116, 111, 32]⟩ : ByteArray)) ++ a0_3) ++ (⟨#[32, 115, 116, 97, 116, 117, 115, 32]⟩ : ByteArray)) ++ t115) ++ (⟨#[32, 108, 111, 115, 116]⟩ : ByteArray)) ++ (⟨#[32, 105, 100, 115]⟩ : ByteArray)).size + t116.size ≤ 9223372036854775807 then (some (((((((((((⟨#[97, 116, 32]⟩ : ByteArray) ++ t114) ++ (⟨#[32]⟩ : ByteArray)) ++ a0_2) ++ (⟨#[32, 116, 111, 32]⟩ : ByteArray)) ++ a0_3) ++ (⟨#[32, 115, 116, 97, 116, 117, 115, 32]⟩ : ByteArray)) ++ t115) ++ (⟨#[32, 108, 111, 115, 116]⟩ : ByteArray)) ++ (⟨#[32, 105, 100, 115]⟩ : ByteArray)) ++ t116)) else (none))) else (none)) else (none)) else (if ((((((((⟨#[97, 116, 32]⟩ : ByteArray) ++ t114) ++ (⟨#[32]⟩ : ByteArray)) ++ a0_2) ++ (⟨#[32, 116, 111, 32]⟩ : ByteArray)) ++ a0_3) ++ (⟨#[32, 115, 116, 97, 116, 117, 115, 32]⟩ : ByteArray)) ++ t115).size + 4 ≤ 9223372036854775807 then ((spec_l13Ids.f k l0_4).bind fun t117 => (if (((((((((⟨#[97, 116, 32]⟩ : ByteArray) ++ t114) ++ (⟨#[32]⟩ : ByteArray)) ++ a0_2) ++ (⟨#[32, 116, 111, 32]⟩ : ByteArray)) ++ a0_3) ++ (⟨#[32, 115, 116, 97, 116, 117, 115, 32]⟩ : ByteArray)) ++ t115) ++ (⟨#[32, 105, 100, 115]⟩ : ByteArray)).size + t117.size ≤ 9223372036854775807 then (some ((((((((((⟨#[97, 116, 32]⟩ : ByteArray) ++ t114) ++ (⟨#[32]⟩ : ByteArray)) ++ a0_2) ++ (⟨#[32, 116, 111, 32]⟩ : ByteArray)) ++ a0_3) ++ (⟨#[32, 115, 116, 97, 116, 117, 115, 32]⟩ : ByteArray)) ++ t115) ++ (⟨#[32, 105, 100, 115]⟩ : ByteArray)) ++ t117)) else (none))) else (none))) else (none))) else (none)) else (none)) else (none)) else (none)) else (none)) else (none))
theorem spec_l13Wire.mono : ∀ a0 a1 a2 a3 a4 a5 a6 k, LeO (spec_l13Wire.f k a0 a1 a2 a3 a4 a5 a6) (spec_l13Wire.f (k + 1) a0 a1 a2 a3 a4 a5 a6) := by
  intro a0 a1 a2 a3 a4 a5 a6 k
  unfold spec_l13Wire.f
  repeat' first
      | (with_reducible exact spec_l00Digits.mono _ _)
      | (with_reducible exact spec_l13Ids.mono _ _)
      | (with_reducible exact LeO.refl _)
      | (with_reducible exact LeO.none _)
      | (with_reducible refine LeO.ite ?_ ?_)
      | (with_reducible refine LeO.bind ?_ (fun _ => ?_))
      | exact spec_l00Digits.mono _ _
      | exact spec_l13Ids.mono _ _
      | exact LeO.none _
      | refine LeO.ite ?_ ?_
      | refine LeO.bind ?_ (fun _ => ?_)
def spec_l13Wire.T1 : Bool × List (List Nat × List Nat) := (true, [([], []), ([0], [0]), ([1], [1]), ([2], [2]), ([3], [3]), ([], []), ([5], [5]), ([4, 6], [4, 6]), ([7], [7]), ([], []), ([9], [9]), ([8, 10], [8, 10]), ([11], [11]), ([], []), ([13], [13]), ([14, 2], [14]), ([12, 15], [12, 15]), ([16, 15, 0, 1, 2, 3, 4, 5, 6, 7, 8, 9, 10, 11, 12, 13, 14, 15, 16], [16])])
def spec_l13Wire.B1 : List Nat := [0, 1, 3, 7, 15, 0, 32, 127, 255, 0, 512, 2047, 4095, 0, 8192, 24583, 65535, 131071]
theorem spec_l13Wire.tab1 : rtab .any (opsOf Tryd.f54 1) = spec_l13Wire.T1 := by kernel_rfl
theorem spec_l13Wire.bits1 : waitsOk spec_l13Wire.T1.2 spec_l13Wire.B1 = true := by kernel_rfl
set_option maxHeartbeats 8000000 in
set_option maxRecDepth 100000 in
theorem spec_l13Wire.calls (k : Nat) (a0_0 : Int) (a0_1 : Int) (a0_2 : ByteArray) (a0_3 : ByteArray) (A0_4 : Option Addr) (c0_4 : Nat) (l0_4 : List Int) (a0_5 : ByteArray) (a0_6 : Bool) (r : ByteArray) (w : World) (hr0_4 : Kd.C (Kd.int .i64) w A0_4 l0_4.length l0_4) (hc0_4 : l0_4.length ≤ c0_4) (h : spec_l13Wire.f k a0_0 a0_1 a0_2 a0_3 l0_4 a0_5 a0_6 = some r) :
    Calls Tryd.prog 54 #[.agg #[.int .i64 a0_0, .int .i64 a0_1, .string a0_2, .string a0_3, .slice A0_4 l0_4.length c0_4, .string a0_5, .bool a0_6]] w fun e w' => e = .returned (.string r) ∧ Below w.heap.size w w' := by
 have hu34 := Tryd.underlying34
 have HR0_4 := Aside0.mk hr0_4
 have HC0_4 := Aside0.mk hc0_4
 clear hr0_4 hc0_4
 have HB := Aside0.mk (Below.refl w.heap.size w)
 have H : ((spec_l00Digits.f k a0_0).bind fun t114 => (if 3 + t114.size ≤ 9223372036854775807 then (if ((⟨#[97, 116, 32]⟩ : ByteArray) ++ t114).size + 1 ≤ 9223372036854775807 then (if (((⟨#[97, 116, 32]⟩ : ByteArray) ++ t114) ++ (⟨#[32]⟩ : ByteArray)).size + a0_2.size ≤ 9223372036854775807 then (if ((((⟨#[97, 116, 32]⟩ : ByteArray) ++ t114) ++ (⟨#[32]⟩ : ByteArray)) ++ a0_2).size + 4 ≤ 9223372036854775807 then (if (((((⟨#[97, 116, 32]⟩ : ByteArray) ++ t114) ++ (⟨#[32]⟩ : ByteArray)) ++ a0_2) ++ (⟨#[32, 116, 111, 32]⟩ : ByteArray)).size + a0_3.size ≤ 9223372036854775807 then (if ((((((⟨#[97, 116, 32]⟩ : ByteArray) ++ t114) ++ (⟨#[32]⟩ : ByteArray)) ++ a0_2) ++ (⟨#[32, 116, 111, 32]⟩ : ByteArray)) ++ a0_3).size + 8 ≤ 9223372036854775807 then ((spec_l00Digits.f k a0_1).bind fun t115 => (if (((((((⟨#[97, 116, 32]⟩ : ByteArray) ++ t114) ++ (⟨#[32]⟩ : ByteArray)) ++ a0_2) ++ (⟨#[32, 116, 111, 32]⟩ : ByteArray)) ++ a0_3) ++ (⟨#[32, 115, 116, 97, 116, 117, 115, 32]⟩ : ByteArray)).size + t115.size ≤ 9223372036854775807 then (if a0_6 = true then (if ((((((((⟨#[97, 116, 32]⟩ : ByteArray) ++ t114) ++ (⟨#[32]⟩ : ByteArray)) ++ a0_2) ++ (⟨#[32, 116, 111, 32]⟩ : ByteArray)) ++ a0_3) ++ (⟨#[32, 115, 116, 97, 116, 117, 115, 32]⟩ : ByteArray)) ++ t115).size + 5 ≤ 9223372036854775807 then (if (((((((((⟨#[97, 116, 32]⟩ : ByteArray) ++ t114) ++ (⟨#[32]⟩ : ByteArray)) ++ a0_2) ++ (⟨#[32, 116, 111, 32]⟩ : ByteArray)) ++ a0_3) ++ (⟨#[32, 115, 116, 97, 116, 117, 115, 32]⟩ : ByteArray)) ++ t115) ++ (⟨#[32, 108, 111, 115, 116]⟩ : ByteArray)).size + 4 ≤ 9223372036854775807 then ((spec_l13Ids.f k l0_4).bind fun t116 => (if ((((((((((⟨#[97, 116, 32]⟩ : ByteArray) ++ t114) ++ (⟨#[32]⟩ : ByteArray)) ++ a0_2) ++ (⟨#[32, 116, 111, 32]⟩ : ByteArray)) ++ a0_3) ++ (⟨#[32, 115, 116, 97, 116, 117, 115, 32]⟩ : ByteArray)) ++ t115) ++ (⟨#[32, 108, 111, 115, 116]⟩ : ByteArray)) ++ (⟨#[32, 105, 100, 115]⟩ : ByteArray)).size + t116.size ≤ 9223372036854775807 then (some (((((((((((⟨#[97, 116, 32]⟩ : ByteArray) ++ t114) ++ (⟨#[32]⟩ : ByteArray)) ++ a0_2) ++ (⟨#[32, 116, 111, 32]⟩ : ByteArray)) ++ a0_3) ++ (⟨#[32, 115, 116, 97, 116, 117, 115, 32]⟩ : ByteArray)) ++ t115) ++ (⟨#[32, 108, 111, 115, 116]⟩ : ByteArray)) ++ (⟨#[32, 105, 100, 115]⟩ : ByteArray)) ++ t116)) else (none))) else (none)) else (none)) else (if ((((((((⟨#[97, 116, 32]⟩ : ByteArray) ++ t114) ++ (⟨#[32]⟩ : ByteArray)) ++ a0_2) ++ (⟨#[32, 116, 111, 32]⟩ : ByteArray)) ++ a0_3) ++ (⟨#[32, 115, 116, 97, 116, 117, 115, 32]⟩ : ByteArray)) ++ t115).size + 4 ≤ 9223372036854775807 then ((spec_l13Ids.f k l0_4).bind fun t117 => (if (((((((((⟨#[97, 116, 32]⟩ : ByteArray) ++ t114) ++ (⟨#[32]⟩ : ByteArray)) ++ a0_2) ++ (⟨#[32, 116, 111, 32]⟩ : ByteArray)) ++ a0_3) ++ (⟨#[32, 115, 116, 97, 116, 117, 115, 32]⟩ : ByteArray)) ++ t115) ++ (⟨#[32, 105, 100, 115]⟩ : ByteArray)).size + t117.size ≤ 9223372036854775807 then (some ((((((((((⟨#[97, 116, 32]⟩ : ByteArray) ++ t114) ++ (⟨#[32]⟩ : ByteArray)) ++ a0_2) ++ (⟨#[32, 116, 111, 32]⟩ : ByteArray)) ++ a0_3) ++ (⟨#[32, 115, 116, 97, 116, 117, 115, 32]⟩ : ByteArray)) ++ t115) ++ (⟨#[32, 105, 100, 115]⟩ : ByteArray)) ++ t117)) else (none))) else (none))) else (none))) else (none)) else (none)) else (none)) else (none)) else (none)) else (none))) = some r := h
 clear h
 replace H := Option.bind_eq_some_iff.mp H
 obtain ⟨t114, A20, H⟩ := H
 replace H : (if 3 + t114.size ≤ 9223372036854775807 then (if ((⟨#[97, 116, 32]⟩ : ByteArray) ++ t114).size + 1 ≤ 9223372036854775807 then (if (((⟨#[97, 116, 32]⟩ : ByteArray) ++ t114) ++ (⟨#[32]⟩ : ByteArray)).size + a0_2.size ≤ 9223372036854775807 then (if ((((⟨#[97, 116, 32]⟩ : ByteArray) ++ t114) ++ (⟨#[32]⟩ : ByteArray)) ++ a0_2).size + 4 ≤ 9223372036854775807 then (if (((((⟨#[97, 116, 32]⟩ : ByteArray) ++ t114) ++ (⟨#[32]⟩ : ByteArray)) ++ a0_2) ++ (⟨#[32, 116, 111, 32]⟩ : ByteArray)).size + a0_3.size ≤ 9223372036854775807 then (if ((((((⟨#[97, 116, 32]⟩ : ByteArray) ++ t114) ++ (⟨#[32]⟩ : ByteArray)) ++ a0_2) ++ (⟨#[32, 116, 111, 32]⟩ : ByteArray)) ++ a0_3).size + 8 ≤ 9223372036854775807 then ((spec_l00Digits.f k a0_1).bind fun t115 => (if (((((((⟨#[97, 116, 32]⟩ : ByteArray) ++ t114) ++ (⟨#[32]⟩ : ByteArray)) ++ a0_2) ++ (⟨#[32, 116, 111, 32]⟩ : ByteArray)) ++ a0_3) ++ (⟨#[32, 115, 116, 97, 116, 117, 115, 32]⟩ : ByteArray)).size + t115.size ≤ 9223372036854775807 then (if a0_6 = true then (if ((((((((⟨#[97, 116, 32]⟩ : ByteArray) ++ t114) ++ (⟨#[32]⟩ : ByteArray)) ++ a0_2) ++ (⟨#[32, 116, 111, 32]⟩ : ByteArray)) ++ a0_3) ++ (⟨#[32, 115, 116, 97, 116, 117, 115, 32]⟩ : ByteArray)) ++ t115).size + 5 ≤ 9223372036854775807 then (if (((((((((⟨#[97, 116, 32]⟩ : ByteArray) ++ t114) ++ (⟨#[32]⟩ : ByteArray)) ++ a0_2) ++ (⟨#[32, 116, 111, 32]⟩ : ByteArray)) ++ a0_3) ++ (⟨#[32, 115, 116, 97, 116, 117, 115, 32]⟩ : ByteArray)) ++ t115) ++ (⟨#[32, 108, 111, 115, 116]⟩ : ByteArray)).size + 4 ≤ 9223372036854775807 then ((spec_l13Ids.f k l0_4).bind fun t116 => (if ((((((((((⟨#[97, 116, 32]⟩ : ByteArray) ++ t114) ++ (⟨#[32]⟩ : ByteArray)) ++ a0_2) ++ (⟨#[32, 116, 111, 32]⟩ : ByteArray)) ++ a0_3) ++ (⟨#[32, 115, 116, 97, 116, 117, 115, 32]⟩ : ByteArray)) ++ t115) ++ (⟨#[32, 108, 111, 115, 116]⟩ : ByteArray)) ++ (⟨#[32, 105, 100, 115]⟩ : ByteArray)).size + t116.size ≤ 9223372036854775807 then (some (((((((((((⟨#[97, 116, 32]⟩ : ByteArray) ++ t114) ++ (⟨#[32]⟩ : ByteArray)) ++ a0_2) ++ (⟨#[32, 116, 111, 32]⟩ : ByteArray)) ++ a0_3) ++ (⟨#[32, 115, 116, 97, 116, 117, 115, 32]⟩ : ByteArray)) ++ t115) ++ (⟨#[32, 108, 111, 115, 116]⟩ : ByteArray)) ++ (⟨#[32, 105, 100, 115]⟩ : ByteArray)) ++ t116)) else (none))) else (none)) else (none)) else (if ((((((((⟨#[97, 116, 32]⟩ : ByteArray) ++ t114) ++ (⟨#[32]⟩ : ByteArray)) ++ a0_2) ++ (⟨#[32, 116, 111, 32]⟩ : ByteArray)) ++ a0_3) ++ (⟨#[32, 115, 116, 97, 116, 117, 115, 32]⟩ : ByteArray)) ++ t115).size + 4 ≤ 9223372036854775807 then ((spec_l13Ids.f k l0_4).bind fun t117 => (if (((((((((⟨#[97, 116, 32]⟩ : ByteArray) ++ t114) ++ (⟨#[32]⟩ : ByteArray)) ++ a0_2) ++ (⟨#[32, 116, 111, 32]⟩ : ByteArray)) ++ a0_3) ++ (⟨#[32, 115, 116, 97, 116, 117, 115, 32]⟩ : ByteArray)) ++ t115) ++ (⟨#[32, 105, 100, 115]⟩ : ByteArray)).size + t117.size ≤ 9223372036854775807 then (some ((((((((((⟨#[97, 116, 32]⟩ : ByteArray) ++ t114) ++ (⟨#[32]⟩ : ByteArray)) ++ a0_2) ++ (⟨#[32, 116, 111, 32]⟩ : ByteArray)) ++ a0_3) ++ (⟨#[32, 115, 116, 97, 116, 117, 115, 32]⟩ : ByteArray)) ++ t115) ++ (⟨#[32, 105, 100, 115]⟩ : ByteArray)) ++ t117)) else (none))) else (none))) else (none))) else (none)) else (none)) else (none)) else (none)) else (none)) else (none)) = some r := H
 have A2 := Aside0.mk A20
 clear A20
 by_cases c3 : 3 + t114.size ≤ 9223372036854775807
 ·
  rw [if_pos c3] at H
  have c3b0 := eq_true c3
  have c3b1 : decide (3 + t114.size ≤ 9223372036854775807) = true := decide_eq_true c3
  try have c3b2 : (9223372036854775807 < 3 + t114.size) = False := eq_false (Nat.not_lt.2 c3)
  try (have c3b3 := c3b0; simp only [ByteArray.size_extract, ByteArray.size_append, bsize_lit, List.length_cons, List.length_nil, Nat.reduceAdd, Nat.zero_add] at c3b3)
  try (have c3b4 := c3b1; simp only [ByteArray.size_extract, ByteArray.size_append, bsize_lit, List.length_cons, List.length_nil, Nat.reduceAdd, Nat.zero_add] at c3b4)
  try (have c3b5 := c3b2; simp only [ByteArray.size_extract, ByteArray.size_append, bsize_lit, List.length_cons, List.length_nil, Nat.reduceAdd, Nat.zero_add] at c3b5)
  by_cases c4 : ((⟨#[97, 116, 32]⟩ : ByteArray) ++ t114).size + 1 ≤ 9223372036854775807
  ·
   rw [if_pos c4] at H
   have c4b0 := eq_true c4
   have c4b1 : decide (((⟨#[97, 116, 32]⟩ : ByteArray) ++ t114).size + 1 ≤ 9223372036854775807) = true := decide_eq_true c4
   try have c4b2 : (9223372036854775807 < ((⟨#[97, 116, 32]⟩ : ByteArray) ++ t114).size + 1) = False := eq_false (Nat.not_lt.2 c4)
   try (have c4b3 := c4b0; simp only [ByteArray.size_extract, ByteArray.size_append, bsize_lit, List.length_cons, List.length_nil, Nat.reduceAdd, Nat.zero_add] at c4b3)
   try (have c4b4 := c4b1; simp only [ByteArray.size_extract, ByteArray.size_append, bsize_lit, List.length_cons, List.length_nil, Nat.reduceAdd, Nat.zero_add] at c4b4)
   try (have c4b5 := c4b2; simp only [ByteArray.size_extract, ByteArray.size_append, bsize_lit, List.length_cons, List.length_nil, Nat.reduceAdd, Nat.zero_add] at c4b5)
   by_cases c5 : (((⟨#[97, 116, 32]⟩ : ByteArray) ++ t114) ++ (⟨#[32]⟩ : ByteArray)).size + a0_2.size ≤ 9223372036854775807
   ·
    rw [if_pos c5] at H
    have c5b0 := eq_true c5
    have c5b1 : decide ((((⟨#[97, 116, 32]⟩ : ByteArray) ++ t114) ++ (⟨#[32]⟩ : ByteArray)).size + a0_2.size ≤ 9223372036854775807) = true := decide_eq_true c5
    try have c5b2 : (9223372036854775807 < (((⟨#[97, 116, 32]⟩ : ByteArray) ++ t114) ++ (⟨#[32]⟩ : ByteArray)).size + a0_2.size) = False := eq_false (Nat.not_lt.2 c5)
    try (have c5b3 := c5b0; simp only [ByteArray.size_extract, ByteArray.size_append, bsize_lit, List.length_cons, List.length_nil, Nat.reduceAdd, Nat.zero_add] at c5b3)
    try (have c5b4 := c5b1; simp only [ByteArray.size_extract, ByteArray.size_append, bsize_lit, List.length_cons, List.length_nil, Nat.reduceAdd, Nat.zero_add] at c5b4)
    try (have c5b5 := c5b2; simp only [ByteArray.size_extract, ByteArray.size_append, bsize_lit, List.length_cons, List.length_nil, Nat.reduceAdd, Nat.zero_add] at c5b5)
    by_cases c6 : ((((⟨#[97, 116, 32]⟩ : ByteArray) ++ t114) ++ (⟨#[32]⟩ : ByteArray)) ++ a0_2).size + 4 ≤ 9223372036854775807
    ·
     rw [if_pos c6] at H
     have c6b0 := eq_true c6
     have c6b1 : decide (((((⟨#[97, 116, 32]⟩ : ByteArray) ++ t114) ++ (⟨#[32]⟩ : ByteArray)) ++ a0_2).size + 4 ≤ 9223372036854775807) = true := decide_eq_true c6
     try have c6b2 : (9223372036854775807 < ((((⟨#[97, 116, 32]⟩ : ByteArray) ++ t114) ++ (⟨#[32]⟩ : ByteArray)) ++ a0_2).size + 4) = False := eq_false (Nat.not_lt.2 c6)
     try (have c6b3 := c6b0; simp only [ByteArray.size_extract, ByteArray.size_append, bsize_lit, List.length_cons, List.length_nil, Nat.reduceAdd, Nat.zero_add] at c6b3)
     try (have c6b4 := c6b1; simp only [ByteArray.size_extract, ByteArray.size_append, bsize_lit, List.length_cons, List.length_nil, Nat.reduceAdd, Nat.zero_add] at c6b4)
     try (have c6b5 := c6b2; simp only [ByteArray.size_extract, ByteArray.size_append, bsize_lit, List.length_cons, List.length_nil, Nat.reduceAdd, Nat.zero_add] at c6b5)
     by_cases c7 : (((((⟨#[97, 116, 32]⟩ : ByteArray) ++ t114) ++ (⟨#[32]⟩ : ByteArray)) ++ a0_2) ++ (⟨#[32, 116, 111, 32]⟩ : ByteArray)).size + a0_3.size ≤ 9223372036854775807
     ·
      rw [if_pos c7] at H
      have c7b0 := eq_true c7
      have c7b1 : decide ((((((⟨#[97, 116, 32]⟩ : ByteArray) ++ t114) ++ (⟨#[32]⟩ : ByteArray)) ++ a0_2) ++ (⟨#[32, 116, 111, 32]⟩ : ByteArray)).size + a0_3.size ≤ 9223372036854775807) = true := decide_eq_true c7
      try have c7b2 : (9223372036854775807 < (((((⟨#[97, 116, 32]⟩ : ByteArray) ++ t114) ++ (⟨#[32]⟩ : ByteArray)) ++ a0_2) ++ (⟨#[32, 116, 111, 32]⟩ : ByteArray)).size + a0_3.size) = False := eq_false (Nat.not_lt.2 c7)
      try (have c7b3 := c7b0; simp only [ByteArray.size_extract, ByteArray.size_append, bsize_lit, List.length_cons, List.length_nil, Nat.reduceAdd, Nat.zero_add] at c7b3)
      try (have c7b4 := c7b1; simp only [ByteArray.size_extract, ByteArray.size_append, bsize_lit, List.length_cons, List.length_nil, Nat.reduceAdd, Nat.zero_add] at c7b4)
      try (have c7b5 := c7b2; simp only [ByteArray.size_extract, ByteArray.size_append, bsize_lit, List.length_cons, List.length_nil, Nat.reduceAdd, Nat.zero_add] at c7b5)
      by_cases c8 : ((((((⟨#[97, 116, 32]⟩ : ByteArray) ++ t114) ++ (⟨#[32]⟩ : ByteArray)) ++ a0_2) ++ (⟨#[32, 116, 111, 32]⟩ : ByteArray)) ++ a0_3).size + 8 ≤ 9223372036854775807
      ·
       rw [if_pos c8] at H
       have c8b0 := eq_true c8
       have c8b1 : decide (((((((⟨#[97, 116, 32]⟩ : ByteArray) ++ t114) ++ (⟨#[32]⟩ : ByteArray)) ++ a0_2) ++ (⟨#[32, 116, 111, 32]⟩ : ByteArray)) ++ a0_3).size + 8 ≤ 9223372036854775807) = true := decide_eq_true c8
       try have c8b2 : (9223372036854775807 < ((((((⟨#[97, 116, 32]⟩ : ByteArray) ++ t114) ++ (⟨#[32]⟩ : ByteArray)) ++ a0_2) ++ (⟨#[32, 116, 111, 32]⟩ : ByteArray)) ++ a0_3).size + 8) = False := eq_false (Nat.not_lt.2 c8)
       try (have c8b3 := c8b0; simp only [ByteArray.size_extract, ByteArray.size_append, bsize_lit, List.length_cons, List.length_nil, Nat.reduceAdd, Nat.zero_add] at c8b3)
       try (have c8b4 := c8b1; simp only [ByteArray.size_extract, ByteArray.size_append, bsize_lit, List.length_cons, List.length_nil, Nat.reduceAdd, Nat.zero_add] at c8b4)
       try (have c8b5 := c8b2; simp only [ByteArray.size_extract, ByteArray.size_append, bsize_lit, List.length_cons, List.length_nil, Nat.reduceAdd, Nat.zero_add] at c8b5)
       replace H := Option.bind_eq_some_iff.mp H
       obtain ⟨t115, A90, H⟩ := H
       replace H : (if (((((((⟨#[97, 116, 32]⟩ : ByteArray) ++ t114) ++ (⟨#[32]⟩ : ByteArray)) ++ a0_2) ++ (⟨#[32, 116, 111, 32]⟩ : ByteArray)) ++ a0_3) ++ (⟨#[32, 115, 116, 97, 116, 117, 115, 32]⟩ : ByteArray)).size + t115.size ≤ 9223372036854775807 then (if a0_6 = true then (if ((((((((⟨#[97, 116, 32]⟩ : ByteArray) ++ t114) ++ (⟨#[32]⟩ : ByteArray)) ++ a0_2) ++ (⟨#[32, 116, 111, 32]⟩ : ByteArray)) ++ a0_3) ++ (⟨#[32, 115, 116, 97, 116, 117, 115, 32]⟩ : ByteArray)) ++ t115).size + 5 ≤ 9223372036854775807 then (if (((((((((⟨#[97, 116, 32]⟩ : ByteArray) ++ t114) ++ (⟨#[32]⟩ : ByteArray)) ++ a0_2) ++ (⟨#[32, 116, 111, 32]⟩ : ByteArray)) ++ a0_3) ++ (⟨#[32, 115, 116, 97, 116, 117, 115, 32]⟩ : ByteArray)) ++ t115) ++ (⟨#[32, 108, 111, 115, 116]⟩ : ByteArray)).size + 4 ≤ 9223372036854775807 then ((spec_l13Ids.f k l0_4).bind fun t116 => (if ((((((((((⟨#[97, 116, 32]⟩ : ByteArray) ++ t114) ++ (⟨#[32]⟩ : ByteArray)) ++ a0_2) ++ (⟨#[32, 116, 111, 32]⟩ : ByteArray)) ++ a0_3) ++ (⟨#[32, 115, 116, 97, 116, 117, 115, 32]⟩ : ByteArray)) ++ t115) ++ (⟨#[32, 108, 111, 115, 116]⟩ : ByteArray)) ++ (⟨#[32, 105, 100, 115]⟩ : ByteArray)).size + t116.size ≤ 9223372036854775807 then (some (((((((((((⟨#[97, 116, 32]⟩ : ByteArray) ++ t114) ++ (⟨#[32]⟩ : ByteArray)) ++ a0_2) ++ (⟨#[32, 116, 111, 32]⟩ : ByteArray)) ++ a0_3) ++ (⟨#[32, 115, 116, 97, 116, 117, 115, 32]⟩ : ByteArray)) ++ t115) ++ (⟨#[32, 108, 111, 115, 116]⟩ : ByteArray)) ++ (⟨#[32, 105, 100, 115]⟩ : ByteArray)) ++ t116)) else (none))) else (none)) else (none)) else (if ((((((((⟨#[97, 116, 32]⟩ : ByteArray) ++ t114) ++ (⟨#[32]⟩ : ByteArray)) ++ a0_2) ++ (⟨#[32, 116, 111, 32]⟩ : ByteArray)) ++ a0_3) ++ (⟨#[32, 115, 116, 97, 116, 117, 115, 32]⟩ : ByteArray)) ++ t115).size + 4 ≤ 9223372036854775807 then ((spec_l13Ids.f k l0_4).bind fun t117 => (if (((((((((⟨#[97, 116, 32]⟩ : ByteArray) ++ t114) ++ (⟨#[32]⟩ : ByteArray)) ++ a0_2) ++ (⟨#[32, 116, 111, 32]⟩ : ByteArray)) ++ a0_3) ++ (⟨#[32, 115, 116, 97, 116, 117, 115, 32]⟩ : ByteArray)) ++ t115) ++ (⟨#[32, 105, 100, 115]⟩ : ByteArray)).size + t117.size ≤ 9223372036854775807 then (some ((((((((((⟨#[97, 116, 32]⟩ : ByteArray) ++ t114) ++ (⟨#[32]⟩ : ByteArray)) ++ a0_2) ++ (⟨#[32, 116, 111, 32]⟩ : ByteArray)) ++ a0_3) ++ (⟨#[32, 115, 116, 97, 116, 117, 115, 32]⟩ : ByteArray)) ++ t115) ++ (⟨#[32, 105, 100, 115]⟩ : ByteArray)) ++ t117)) else (none))) else (none))) else (none)) = some r := H
       have A9 := Aside0.mk A90
       clear A90
       by_cases c10 : (((((((⟨#[97, 116, 32]⟩ : ByteArray) ++ t114) ++ (⟨#[32]⟩ : ByteArray)) ++ a0_2) ++ (⟨#[32, 116, 111, 32]⟩ : ByteArray)) ++ a0_3) ++ (⟨#[32, 115, 116, 97, 116, 117, 115, 32]⟩ : ByteArray)).size + t115.size ≤ 9223372036854775807
       ·
        rw [if_pos c10] at H
        have c10b0 := eq_true c10
        have c10b1 : decide ((((((((⟨#[97, 116, 32]⟩ : ByteArray) ++ t114) ++ (⟨#[32]⟩ : ByteArray)) ++ a0_2) ++ (⟨#[32, 116, 111, 32]⟩ : ByteArray)) ++ a0_3) ++ (⟨#[32, 115, 116, 97, 116, 117, 115, 32]⟩ : ByteArray)).size + t115.size ≤ 9223372036854775807) = true := decide_eq_true c10
        try have c10b2 : (9223372036854775807 < (((((((⟨#[97, 116, 32]⟩ : ByteArray) ++ t114) ++ (⟨#[32]⟩ : ByteArray)) ++ a0_2) ++ (⟨#[32, 116, 111, 32]⟩ : ByteArray)) ++ a0_3) ++ (⟨#[32, 115, 116, 97, 116, 117, 115, 32]⟩ : ByteArray)).size + t115.size) = False := eq_false (Nat.not_lt.2 c10)
        try (have c10b3 := c10b0; simp only [ByteArray.size_extract, ByteArray.size_append, bsize_lit, List.length_cons, List.length_nil, Nat.reduceAdd, Nat.zero_add] at c10b3)
        try (have c10b4 := c10b1; simp only [ByteArray.size_extract, ByteArray.size_append, bsize_lit, List.length_cons, List.length_nil, Nat.reduceAdd, Nat.zero_add] at c10b4)
        try (have c10b5 := c10b2; simp only [ByteArray.size_extract, ByteArray.size_append, bsize_lit, List.length_cons, List.length_nil, Nat.reduceAdd, Nat.zero_add] at c10b5)
        by_cases c11 : a0_6 = true
        ·
         subst c11
         have H1 : (if ((((((((⟨#[97, 116, 32]⟩ : ByteArray) ++ t114) ++ (⟨#[32]⟩ : ByteArray)) ++ a0_2) ++ (⟨#[32, 116, 111, 32]⟩ : ByteArray)) ++ a0_3) ++ (⟨#[32, 115, 116, 97, 116, 117, 115, 32]⟩ : ByteArray)) ++ t115).size + 5 ≤ 9223372036854775807 then (if (((((((((⟨#[97, 116, 32]⟩ : ByteArray) ++ t114) ++ (⟨#[32]⟩ : ByteArray)) ++ a0_2) ++ (⟨#[32, 116, 111, 32]⟩ : ByteArray)) ++ a0_3) ++ (⟨#[32, 115, 116, 97, 116, 117, 115, 32]⟩ : ByteArray)) ++ t115) ++ (⟨#[32, 108, 111, 115, 116]⟩ : ByteArray)).size + 4 ≤ 9223372036854775807 then ((spec_l13Ids.f k l0_4).bind fun t116 => (if ((((((((((⟨#[97, 116, 32]⟩ : ByteArray) ++ t114) ++ (⟨#[32]⟩ : ByteArray)) ++ a0_2) ++ (⟨#[32, 116, 111, 32]⟩ : ByteArray)) ++ a0_3) ++ (⟨#[32, 115, 116, 97, 116, 117, 115, 32]⟩ : ByteArray)) ++ t115) ++ (⟨#[32, 108, 111, 115, 116]⟩ : ByteArray)) ++ (⟨#[32, 105, 100, 115]⟩ : ByteArray)).size + t116.size ≤ 9223372036854775807 then (some (((((((((((⟨#[97, 116, 32]⟩ : ByteArray) ++ t114) ++ (⟨#[32]⟩ : ByteArray)) ++ a0_2) ++ (⟨#[32, 116, 111, 32]⟩ : ByteArray)) ++ a0_3) ++ (⟨#[32, 115, 116, 97, 116, 117, 115, 32]⟩ : ByteArray)) ++ t115) ++ (⟨#[32, 108, 111, 115, 116]⟩ : ByteArray)) ++ (⟨#[32, 105, 100, 115]⟩ : ByteArray)) ++ t116)) else (none))) else (none)) else (none)) = some r := by rw [if_pos rfl] at H; exact H
         clear H
         have H := H1
         clear H1
         by_cases c12 : ((((((((⟨#[97, 116, 32]⟩ : ByteArray) ++ t114) ++ (⟨#[32]⟩ : ByteArray)) ++ a0_2) ++ (⟨#[32, 116, 111, 32]⟩ : ByteArray)) ++ a0_3) ++ (⟨#[32, 115, 116, 97, 116, 117, 115, 32]⟩ : ByteArray)) ++ t115).size + 5 ≤ 9223372036854775807
         ·
          rw [if_pos c12] at H
          have c12b0 := eq_true c12
          have c12b1 : decide (((((((((⟨#[97, 116, 32]⟩ : ByteArray) ++ t114) ++ (⟨#[32]⟩ : ByteArray)) ++ a0_2) ++ (⟨#[32, 116, 111, 32]⟩ : ByteArray)) ++ a0_3) ++ (⟨#[32, 115, 116, 97, 116, 117, 115, 32]⟩ : ByteArray)) ++ t115).size + 5 ≤ 9223372036854775807) = true := decide_eq_true c12
          try have c12b2 : (9223372036854775807 < ((((((((⟨#[97, 116, 32]⟩ : ByteArray) ++ t114) ++ (⟨#[32]⟩ : ByteArray)) ++ a0_2) ++ (⟨#[32, 116, 111, 32]⟩ : ByteArray)) ++ a0_3) ++ (⟨#[32, 115, 116, 97, 116, 117, 115, 32]⟩ : ByteArray)) ++ t115).size + 5) = False := eq_false (Nat.not_lt.2 c12)
          try (have c12b3 := c12b0; simp only [ByteArray.size_extract, ByteArray.size_append, bsize_lit, List.length_cons, List.length_nil, Nat.reduceAdd, Nat.zero_add] at c12b3)
          try (have c12b4 := c12b1; simp only [ByteArray.size_extract, ByteArray.size_append, bsize_lit, List.length_cons, List.length_nil, Nat.reduceAdd, Nat.zero_add] at c12b4)
          try (have c12b5 := c12b2; simp only [ByteArray.size_extract, ByteArray.size_append, bsize_lit, List.length_cons, List.length_nil, Nat.reduceAdd, Nat.zero_add] at c12b5)
          by_cases c13 : (((((((((⟨#[97, 116, 32]⟩ : ByteArray) ++ t114) ++ (⟨#[32]⟩ : ByteArray)) ++ a0_2) ++ (⟨#[32, 116, 111, 32]⟩ : ByteArray)) ++ a0_3) ++ (⟨#[32, 115, 116, 97, 116, 117, 115, 32]⟩ : ByteArray)) ++ t115) ++ (⟨#[32, 108, 111, 115, 116]⟩ : ByteArray)).size + 4 ≤ 9223372036854775807
          ·
           rw [if_pos c13] at H
           have c13b0 := eq_true c13
           have c13b1 : decide ((((((((((⟨#[97, 116, 32]⟩ : ByteArray) ++ t114) ++ (⟨#[32]⟩ : ByteArray)) ++ a0_2) ++ (⟨#[32, 116, 111, 32]⟩ : ByteArray)) ++ a0_3) ++ (⟨#[32, 115, 116, 97, 116, 117, 115, 32]⟩ : ByteArray)) ++ t115) ++ (⟨#[32, 108, 111, 115, 116]⟩ : ByteArray)).size + 4 ≤ 9223372036854775807) = true := decide_eq_true c13
           try have c13b2 : (9223372036854775807 < (((((((((⟨#[97, 116, 32]⟩ : ByteArray) ++ t114) ++ (⟨#[32]⟩ : ByteArray)) ++ a0_2) ++ (⟨#[32, 116, 111, 32]⟩ : ByteArray)) ++ a0_3) ++ (⟨#[32, 115, 116, 97, 116, 117, 115, 32]⟩ : ByteArray)) ++ t115) ++ (⟨#[32, 108, 111, 115, 116]⟩ : ByteArray)).size + 4) = False := eq_false (Nat.not_lt.2 c13)
           try (have c13b3 := c13b0; simp only [ByteArray.size_extract, ByteArray.size_append, bsize_lit, List.length_cons, List.length_nil, Nat.reduceAdd, Nat.zero_add] at c13b3)
           try (have c13b4 := c13b1; simp only [ByteArray.size_extract, ByteArray.size_append, bsize_lit, List.length_cons, List.length_nil, Nat.reduceAdd, Nat.zero_add] at c13b4)
           try (have c13b5 := c13b2; simp only [ByteArray.size_extract, ByteArray.size_append, bsize_lit, List.length_cons, List.length_nil, Nat.reduceAdd, Nat.zero_add] at c13b5)
           replace H := Option.bind_eq_some_iff.mp H
           obtain ⟨t116, A140, H⟩ := H
           replace H : (if ((((((((((⟨#[97, 116, 32]⟩ : ByteArray) ++ t114) ++ (⟨#[32]⟩ : ByteArray)) ++ a0_2) ++ (⟨#[32, 116, 111, 32]⟩ : ByteArray)) ++ a0_3) ++ (⟨#[32, 115, 116, 97, 116, 117, 115, 32]⟩ : ByteArray)) ++ t115) ++ (⟨#[32, 108, 111, 115, 116]⟩ : ByteArray)) ++ (⟨#[32, 105, 100, 115]⟩ : ByteArray)).size + t116.size ≤ 9223372036854775807 then (some (((((((((((⟨#[97, 116, 32]⟩ : ByteArray) ++ t114) ++ (⟨#[32]⟩ : ByteArray)) ++ a0_2) ++ (⟨#[32, 116, 111, 32]⟩ : ByteArray)) ++ a0_3) ++ (⟨#[32, 115, 116, 97, 116, 117, 115, 32]⟩ : ByteArray)) ++ t115) ++ (⟨#[32, 108, 111, 115, 116]⟩ : ByteArray)) ++ (⟨#[32, 105, 100, 115]⟩ : ByteArray)) ++ t116)) else (none)) = some r := H
           have A14 := Aside0.mk A140
           clear A140
           by_cases c15 : ((((((((((⟨#[97, 116, 32]⟩ : ByteArray) ++ t114) ++ (⟨#[32]⟩ : ByteArray)) ++ a0_2) ++ (⟨#[32, 116, 111, 32]⟩ : ByteArray)) ++ a0_3) ++ (⟨#[32, 115, 116, 97, 116, 117, 115, 32]⟩ : ByteArray)) ++ t115) ++ (⟨#[32, 108, 111, 115, 116]⟩ : ByteArray)) ++ (⟨#[32, 105, 100, 115]⟩ : ByteArray)).size + t116.size ≤ 9223372036854775807
           ·
            rw [if_pos c15] at H
            have c15b0 := eq_true c15
            have c15b1 : decide (((((((((((⟨#[97, 116, 32]⟩ : ByteArray) ++ t114) ++ (⟨#[32]⟩ : ByteArray)) ++ a0_2) ++ (⟨#[32, 116, 111, 32]⟩ : ByteArray)) ++ a0_3) ++ (⟨#[32, 115, 116, 97, 116, 117, 115, 32]⟩ : ByteArray)) ++ t115) ++ (⟨#[32, 108, 111, 115, 116]⟩ : ByteArray)) ++ (⟨#[32, 105, 100, 115]⟩ : ByteArray)).size + t116.size ≤ 9223372036854775807) = true := decide_eq_true c15
            try have c15b2 : (9223372036854775807 < ((((((((((⟨#[97, 116, 32]⟩ : ByteArray) ++ t114) ++ (⟨#[32]⟩ : ByteArray)) ++ a0_2) ++ (⟨#[32, 116, 111, 32]⟩ : ByteArray)) ++ a0_3) ++ (⟨#[32, 115, 116, 97, 116, 117, 115, 32]⟩ : ByteArray)) ++ t115) ++ (⟨#[32, 108, 111, 115, 116]⟩ : ByteArray)) ++ (⟨#[32, 105, 100, 115]⟩ : ByteArray)).size + t116.size) = False := eq_false (Nat.not_lt.2 c15)
            try (have c15b3 := c15b0; simp only [ByteArray.size_extract, ByteArray.size_append, bsize_lit, List.length_cons, List.length_nil, Nat.reduceAdd, Nat.zero_add] at c15b3)
            try (have c15b4 := c15b1; simp only [ByteArray.size_extract, ByteArray.size_append, bsize_lit, List.length_cons, List.length_nil, Nat.reduceAdd, Nat.zero_add] at c15b4)
            try (have c15b5 := c15b2; simp only [ByteArray.size_extract, ByteArray.size_append, bsize_lit, List.length_cons, List.length_nil, Nat.reduceAdd, Nat.zero_add] at c15b5)
            obtain rfl := Option.some.inj H
            go_enter Tryd.func54, Tryd.ntmps54
            try go_wp2_with (first | ((with_reducible refine gate_dst (N := 1) rfl ?_); refine box_event ?hg (N := 1) ?hd (cs := #[.int .i64 a0_0, .int .i64 a0_1, .string a0_2, .string a0_3, .slice A0_4 l0_4.length c0_4, .string a0_5, .bool true]) (t := 34) ?hr ?_; (case hd => rfl); (case hg => rfl); (case hr => first | (go_simp; done) | (go_simp; rfl)); intro gb113 hg w16 hbox hb; have n0_ := Aside0.mk (below_step (by repeat (first | (with_reducible first | exact HB.out | apply below_alloc | apply pw_below_drewN | apply below_drew1) | exact HB.out)) hb); have n1_ := Aside0.mk (hbox); have n2_ := Aside0.mk ((by rw [hg]; exact (below_size (by repeat (first | (with_reducible first | exact HB.out | apply below_alloc | apply pw_below_drewN | apply below_drew1) | exact HB.out))) : w.heap.size ≤ gb113)); have n3_ := Aside0.mk ((by rw [hg]; exact (below_size (by repeat (first | (with_reducible first | exact HB.out | apply below_alloc | apply pw_below_drewN | apply below_drew1) | exact HB.out))) : w.heap.size ≤ gb113)); clear HB; have HB := n0_; have BK113 := n1_; have GW113 := n2_; have GE113 := n3_; clear n0_ n1_ n2_ n3_; clear hb hbox hg))
            have n0_ := Aside0.mk (blk_drew BK113.out)
            have n1_ := Aside0.mk (below_drew1 HB.out)
            clear BK113
            clear HB
            have BK113 := n0_
            have HB := n1_
            clear n0_ n1_
            refine start_ (n := 18) (S := fun w' => w'.cell? ⟨gb113, 0, none⟩ = some (.int .i64 a0_0) ∧ w'.cell? ⟨gb113, 1, none⟩ = some (.int .i64 a0_1) ∧ w'.cell? ⟨gb113, 2, none⟩ = some (.string a0_2) ∧ w'.cell? ⟨gb113, 3, none⟩ = some (.string a0_3) ∧ w'.cell? ⟨gb113, 4, none⟩ = some (.slice A0_4 l0_4.length c0_4) ∧ w'.cell? ⟨gb113, 5, none⟩ = some (.string a0_5) ∧ w'.cell? ⟨gb113, 6, none⟩ = some (.bool true)) (ds := []) #[false, false, false, false, false, false, false, false, false, false, false, false, false, false, false, false, false, false] (by kernel_rfl) rfl rfl ⟨(blk_cell BK113.out 0).trans rfl, (blk_cell BK113.out 1).trans rfl, (blk_cell BK113.out 2).trans rfl, (blk_cell BK113.out 3).trans rfl, (blk_cell BK113.out 4).trans rfl, (blk_cell BK113.out 5).trans rfl, (blk_cell BK113.out 6).trans rfl⟩ (fun hHeld => ?_); refine with_tabW spec_l13Wire.tab1 spec_l13Wire.bits1 (fun HT_ HW_ => ?_)
            generalize w16.drew = w17 at BK113 HB hHeld ⊢
            refine pure_ (i := 0) (N := some 4) (v := ?_) (a' := ?_) #[true, false, false, false, false, false, false, false, false, false, false, false, false, false, false, false, false, false] rfl rfl (any_of HT_.out (by kernel_rfl)) (fun _ _ _ h => h) (Or.inl ⟨by rfl, ?_⟩) ?_ ?_
            rotate_left
            ·
             intro w'
             go_simp
             with_reducible rfl
            rotate_left
            ·
             simp only [Act.put, List.setIfInBounds_toArray, List.set_cons_zero, List.set_cons_succ, i64_w, i32_w]
             rfl
            refine pure_ (i := 5) (N := some 9) (v := ?_) (a' := ?_) #[true, false, false, false, false, true, false, false, false, false, false, false, false, false, false, false, false, false] rfl rfl (any_of HT_.out (by kernel_rfl)) (fun _ _ _ h => h) (Or.inl ⟨by rfl, ?_⟩) ?_ ?_
            rotate_left
            ·
             intro w'
             go_simp
             with_reducible rfl
            rotate_left
            ·
             simp only [Act.put, List.setIfInBounds_toArray, List.set_cons_zero, List.set_cons_succ, i64_w, i32_w]
             rfl
            refine pure_ (i := 9) (N := some 13) (v := ?_) (a' := ?_) #[true, false, false, false, false, true, false, false, false, true, false, false, false, false, false, false, false, false] rfl rfl (any_of HT_.out (by kernel_rfl)) (fun _ _ _ h => h) (Or.inl ⟨by rfl, ?_⟩) ?_ ?_
            rotate_left
            ·
             intro w'
             go_simp
             with_reducible rfl
            rotate_left
            ·
             simp only [Act.put, List.setIfInBounds_toArray, List.set_cons_zero, List.set_cons_succ, i64_w, i32_w]
             rfl
            refine pure_ (i := 13) (N := some 17) (v := ?_) (a' := ?_) #[true, false, false, false, false, true, false, false, false, true, false, false, false, true, false, false, false, false] rfl rfl (any_of HT_.out (by kernel_rfl)) (fun _ _ _ h => h) (Or.inl ⟨by rfl, ?_⟩) ?_ ?_
            rotate_left
            ·
             intro w'
             go_simp
             with_reducible rfl
            rotate_left
            ·
             simp only [Act.put, List.setIfInBounds_toArray, List.set_cons_zero, List.set_cons_succ, i64_w, i32_w]
             rfl
            refine take_ (i := 1) (N := some 5) (v := ?_) (a' := ?_) #[true, true, false, false, false, true, false, false, false, true, false, false, false, true, false, false, false, false] rfl rfl (take_ofW HT_.out HW_.out (by kernel_rfl)) (fun _ _ _ h => h) (Or.inl ⟨by rfl, ?_⟩) hHeld ?_ ?_
            rotate_left
            ·
             rintro w' ⟨s0, s1, s2, s3, s4, s5, s6⟩
             go_simp
             with_reducible rfl
            rotate_left
            ·
             simp only [Act.put, List.setIfInBounds_toArray, List.set_cons_zero, List.set_cons_succ, i64_w, i32_w]
             rfl
            refine take_ (i := 6) (N := some 10) (v := ?_) (a' := ?_) #[true, true, false, false, false, true, true, false, false, true, false, false, false, true, false, false, false, false] rfl rfl (take_ofW HT_.out HW_.out (by kernel_rfl)) (fun _ _ _ h => h) (Or.inl ⟨by rfl, ?_⟩) hHeld ?_ ?_
            rotate_left
            ·
             rintro w' ⟨s0, s1, s2, s3, s4, s5, s6⟩
             go_simp
             with_reducible rfl
            rotate_left
            ·
             simp only [Act.put, List.setIfInBounds_toArray, List.set_cons_zero, List.set_cons_succ, i64_w, i32_w]
             rfl
            refine take_ (i := 10) (N := some 14) (v := ?_) (a' := ?_) #[true, true, false, false, false, true, true, false, false, true, true, false, false, true, false, false, false, false] rfl rfl (take_ofW HT_.out HW_.out (by kernel_rfl)) (fun _ _ _ h => h) (Or.inl ⟨by rfl, ?_⟩) hHeld ?_ ?_
            rotate_left
            ·
             rintro w' ⟨s0, s1, s2, s3, s4, s5, s6⟩
             go_simp
             with_reducible rfl
            rotate_left
            ·
             simp only [Act.put, List.setIfInBounds_toArray, List.set_cons_zero, List.set_cons_succ, i64_w, i32_w]
             rfl
            refine take_ (i := 14) (N := some 18) (v := ?_) (a' := ?_) #[true, true, false, false, false, true, true, false, false, true, true, false, false, true, true, false, false, false] rfl rfl (take_ofW HT_.out HW_.out (by kernel_rfl)) (fun _ _ _ h => h) (Or.inl ⟨by rfl, ?_⟩) hHeld ?_ ?_
            rotate_left
            ·
             rintro w' ⟨s0, s1, s2, s3, s4, s5, s6⟩
             go_simp
             with_reducible rfl
            rotate_left
            ·
             simp only [Act.put, List.setIfInBounds_toArray, List.set_cons_zero, List.set_cons_succ, i64_w, i32_w]
             rfl
            refine one_ (i := 2) (N := some 6) #[true, true, true, false, false, true, true, false, false, true, true, false, false, true, true, false, false, false] rfl rfl (one_of HT_.out (by kernel_rfl)) (by decide) (fun K hK => ?_)
            refine goes_ Tryd.func89 (by kernel_rfl) rfl #[.int .i64 a0_0] (by rfl) rfl rfl (by (try simp only [List.map_toArray, List.map_cons, List.map_nil]); first | done | rfl | (simp only [List.length_drop, List.length_take]; rfl)) ?_
            with_reducible refine (spec_l00Digits.calls k a0_0 t114 _ A2.out).mono ?_
            rintro e w18 ⟨rfl, hb⟩
            refine ⟨_, rfl, ?_⟩
            have n0_ := Aside0.mk (blk_below (g := gb113) (o := .cells #[.int .i64 a0_0, .int .i64 a0_1, .string a0_2, .string a0_3, .slice A0_4 l0_4.length c0_4, .string a0_5, .bool true] 34 (0, 0)) (by (with_reducible repeat (first | refine blk_drewN ?_ _ | refine blk_drew ?_ | refine blk_alloc ?_ _)); exact BK113.out) hb)
            have n1_ := Aside0.mk (below_step (by repeat (first | (with_reducible first | exact HB.out | apply below_alloc | apply pw_below_drewN | apply below_drew1 | refine below_set ?_ GE113.out) | exact HB.out)) hb)
            clear BK113
            clear HB
            have BK113 := n0_
            have HB := n1_
            clear n0_ n1_
            (try clear hb)
            (try clear hb2)
            (try clear hk)
            (try clear hi)
            refine hK.out _ _ ⟨(blk_cell BK113.out 0).trans rfl, (blk_cell BK113.out 1).trans rfl, (blk_cell BK113.out 2).trans rfl, (blk_cell BK113.out 3).trans rfl, (blk_cell BK113.out 4).trans rfl, (blk_cell BK113.out 5).trans rfl, (blk_cell BK113.out 6).trans rfl⟩ (fun hHeld => ?_)
            clear hK K
            refine norm_ (a' := ?_) ?_ ?_
            rotate_left
            ·
             show Act.put _ (some 6) _ = _
             simp only [Act.put, List.setIfInBounds_toArray, List.set_cons_zero, List.set_cons_succ, i64_w, i32_w]
             rfl
            refine pure_ (i := 3) (N := some 7) (v := ?_) (a' := ?_) #[true, true, true, true, false, true, true, false, false, true, true, false, false, true, true, false, false, false] rfl rfl (any_of HT_.out (by kernel_rfl)) (fun _ _ _ h => h) (Or.inl ⟨by rfl, ?_⟩) ?_ ?_
            rotate_left
            ·
             intro w'
             go_simp
             with_reducible rfl
            rotate_left
            ·
             simp only [Act.put, List.setIfInBounds_toArray, List.set_cons_zero, List.set_cons_succ, i64_w, i32_w]
             rfl
            refine pure_ (i := 4) (N := some 8) (v := ?_) (a' := ?_) #[true, true, true, true, true, true, true, false, false, true, true, false, false, true, true, false, false, false] rfl rfl (any_of HT_.out (by kernel_rfl)) (fun _ _ _ h => h) (Or.inl ⟨by rfl, ?_⟩) ?_ ?_
            rotate_left
            ·
             intro w'
             go_simp
             with_reducible rfl
            rotate_left
            ·
             simp only [Act.put, List.setIfInBounds_toArray, List.set_cons_zero, List.set_cons_succ, i64_w, i32_w]
             rfl
            refine pure_ (i := 7) (N := some 11) (v := ?_) (a' := ?_) #[true, true, true, true, true, true, true, true, false, true, true, false, false, true, true, false, false, false] rfl rfl (any_of HT_.out (by kernel_rfl)) (fun _ _ _ h => h) (Or.inl ⟨by rfl, ?_⟩) ?_ ?_
            rotate_left
            ·
             intro w'
             go_simp
             with_reducible rfl
            rotate_left
            ·
             simp only [Act.put, List.setIfInBounds_toArray, List.set_cons_zero, List.set_cons_succ, i64_w, i32_w]
             rfl
            refine pure_ (i := 8) (N := some 12) (v := ?_) (a' := ?_) #[true, true, true, true, true, true, true, true, true, true, true, false, false, true, true, false, false, false] rfl rfl (any_of HT_.out (by kernel_rfl)) (fun _ _ _ h => h) (Or.inl ⟨by rfl, ?_⟩) ?_ ?_
            rotate_left
            ·
             intro w'
             go_simp
             with_reducible rfl
            rotate_left
            ·
             simp only [Act.put, List.setIfInBounds_toArray, List.set_cons_zero, List.set_cons_succ, i64_w, i32_w]
             rfl
            refine pure_ (i := 11) (N := some 15) (v := ?_) (a' := ?_) #[true, true, true, true, true, true, true, true, true, true, true, true, false, true, true, false, false, false] rfl rfl (any_of HT_.out (by kernel_rfl)) (fun _ _ _ h => h) (Or.inl ⟨by rfl, ?_⟩) ?_ ?_
            rotate_left
            ·
             intro w'
             go_simp
             with_reducible rfl
            rotate_left
            ·
             simp only [Act.put, List.setIfInBounds_toArray, List.set_cons_zero, List.set_cons_succ, i64_w, i32_w]
             rfl
            refine pure_ (i := 12) (N := some 16) (v := ?_) (a' := ?_) #[true, true, true, true, true, true, true, true, true, true, true, true, true, true, true, false, false, false] rfl rfl (any_of HT_.out (by kernel_rfl)) (fun _ _ _ h => h) (Or.inl ⟨by rfl, ?_⟩) ?_ ?_
            rotate_left
            ·
             intro w'
             go_simp
             with_reducible rfl
            rotate_left
            ·
             simp only [Act.put, List.setIfInBounds_toArray, List.set_cons_zero, List.set_cons_succ, i64_w, i32_w]
             rfl
            refine one_ (i := 15) (N := some 19) #[true, true, true, true, true, true, true, true, true, true, true, true, true, true, true, true, false, false] rfl rfl (one_of HT_.out (by kernel_rfl)) (by decide) (fun K hK => ?_)
            refine goes_ Tryd.func89 (by kernel_rfl) rfl #[.int .i64 a0_1] (by rfl) rfl rfl (by (try simp only [List.map_toArray, List.map_cons, List.map_nil]); first | done | rfl | (simp only [List.length_drop, List.length_take]; rfl)) ?_
            with_reducible refine (spec_l00Digits.calls k a0_1 t115 _ A9.out).mono ?_
            rintro e w19 ⟨rfl, hb⟩
            refine ⟨_, rfl, ?_⟩
            have n0_ := Aside0.mk (blk_below (g := gb113) (o := .cells #[.int .i64 a0_0, .int .i64 a0_1, .string a0_2, .string a0_3, .slice A0_4 l0_4.length c0_4, .string a0_5, .bool true] 34 (0, 0)) (by (with_reducible repeat (first | refine blk_drewN ?_ _ | refine blk_drew ?_ | refine blk_alloc ?_ _)); exact BK113.out) hb)
            have n1_ := Aside0.mk (below_step (by repeat (first | (with_reducible first | exact HB.out | apply below_alloc | apply pw_below_drewN | apply below_drew1 | refine below_set ?_ GE113.out) | exact HB.out)) hb)
            clear BK113
            clear HB
            have BK113 := n0_
            have HB := n1_
            clear n0_ n1_
            (try clear hb)
            (try clear hb2)
            (try clear hk)
            (try clear hi)
            refine hK.out _ _ ⟨(blk_cell BK113.out 0).trans rfl, (blk_cell BK113.out 1).trans rfl, (blk_cell BK113.out 2).trans rfl, (blk_cell BK113.out 3).trans rfl, (blk_cell BK113.out 4).trans rfl, (blk_cell BK113.out 5).trans rfl, (blk_cell BK113.out 6).trans rfl⟩ (fun hHeld => ?_)
            clear hK K
            refine norm_ (a' := ?_) ?_ ?_
            rotate_left
            ·
             show Act.put _ (some 19) _ = _
             simp only [Act.put, List.setIfInBounds_toArray, List.set_cons_zero, List.set_cons_succ, i64_w, i32_w]
             rfl
            refine pure_ (i := 16) (N := some 20) (v := ?_) (a' := ?_) #[true, true, true, true, true, true, true, true, true, true, true, true, true, true, true, true, true, false] rfl rfl (any_of HT_.out (by kernel_rfl)) (fun _ _ _ h => h) (Or.inl ⟨by rfl, ?_⟩) ?_ ?_
            rotate_left
            ·
             intro w'
             go_simp
             with_reducible rfl
            rotate_left
            ·
             simp only [Act.put, List.setIfInBounds_toArray, List.set_cons_zero, List.set_cons_succ, i64_w, i32_w]
             rfl
            refine pure_ (i := 17) (N := some 3) (v := ?_) (a' := ?_) #[true, true, true, true, true, true, true, true, true, true, true, true, true, true, true, true, true, true] rfl rfl (any_of HT_.out (by kernel_rfl)) (fun _ _ _ h => h) (Or.inl ⟨by rfl, ?_⟩) ?_ ?_
            rotate_left
            ·
             intro w'
             go_simp
             with_reducible rfl
            rotate_left
            ·
             simp only [Act.put, List.setIfInBounds_toArray, List.set_cons_zero, List.set_cons_succ, i64_w, i32_w]
             rfl
            refine done_ (done_of HT_.out (by kernel_rfl)) ?_
            have hcz20_0 : w19.cell? ⟨gb113, 0, none⟩ = some (.int .i64 a0_0) := (blk_cell BK113.out 0).trans rfl
            have hcz20_1 : w19.cell? ⟨gb113, 1, none⟩ = some (.int .i64 a0_1) := (blk_cell BK113.out 1).trans rfl
            have hcz20_2 : w19.cell? ⟨gb113, 2, none⟩ = some (.string a0_2) := (blk_cell BK113.out 2).trans rfl
            have hcz20_3 : w19.cell? ⟨gb113, 3, none⟩ = some (.string a0_3) := (blk_cell BK113.out 3).trans rfl
            have hcz20_4 : w19.cell? ⟨gb113, 4, none⟩ = some (.slice A0_4 l0_4.length c0_4) := (blk_cell BK113.out 4).trans rfl
            have hcz20_5 : w19.cell? ⟨gb113, 5, none⟩ = some (.string a0_5) := (blk_cell BK113.out 5).trans rfl
            have hcz20_6 : w19.cell? ⟨gb113, 6, none⟩ = some (.bool true) := (blk_cell BK113.out 6).trans rfl
            have hfz20_0 := blk_frozen BK113.out 0
            have hfz20_1 := blk_frozen BK113.out 1
            have hfz20_2 := blk_frozen BK113.out 2
            have hfz20_3 := blk_frozen BK113.out 3
            have hfz20_4 := blk_frozen BK113.out 4
            have hfz20_5 := blk_frozen BK113.out 5
            have hfz20_6 := blk_frozen BK113.out 6
            try go_wp2_with (first | ((with_reducible refine gate_callee (f := 92) rfl ?_); refine goesL_ (some 29) rfl rfl Tryd.func92 (by kernel_rfl) rfl #[.slice A0_4 l0_4.length c0_4] rfl (by (try simp only [List.map_toArray, List.map_cons, List.map_nil]); first | done | rfl | (simp only [List.length_drop, List.length_take]; rfl)) ?_; (with_reducible refine (spec_l13Ids.calls k _ _ l0_4 t116 _ ?side1 ?side2 A14.out).mono ?_); (case side1 => repeat (first | exact (Kd.C_below HR0_4.out HB.out) | (with_reducible refine Kd.C_alloc ?_ _) | (with_reducible refine Kd.C_drewN ?_ _) | (with_reducible refine Kd.C_drew ?_))); (case side2 => exact HC0_4.out); rintro e w21 ⟨rfl, hb⟩; refine ⟨_, rfl, ?_⟩; have n0_ := Aside0.mk (blk_below (g := gb113) (o := .cells #[.int .i64 a0_0, .int .i64 a0_1, .string a0_2, .string a0_3, .slice A0_4 l0_4.length c0_4, .string a0_5, .bool true] 34 (0, 0)) (by (with_reducible repeat (first | refine blk_drewN ?_ _ | refine blk_drew ?_ | refine blk_alloc ?_ _)); exact BK113.out) hb); have n1_ := Aside0.mk (below_step (by repeat (first | (with_reducible first | exact HB.out | apply below_alloc | apply pw_below_drewN | apply below_drew1 | refine below_set ?_ GE113.out) | exact HB.out)) hb); clear BK113; clear HB; have BK113 := n0_; have HB := n1_; clear n0_ n1_; (try clear hb); (try clear hb2); (try clear hk); (try clear hi)))
            go_ret
            exact ⟨by first | rfl | (simp [errW_none, errW_some] <;> rfl) | (simp [*, errW_none, errW_some] <;> rfl), by repeat (first | (with_reducible first | exact HB.out | apply below_alloc | apply pw_below_drewN | apply below_drew1 | refine below_set ?_ GE113.out) | exact HB.out)⟩
           ·
            rw [if_neg c15] at H
            exact absurd H (by simp)
          ·
           rw [if_neg c13] at H
           exact absurd H (by simp)
         ·
          rw [if_neg c12] at H
          exact absurd H (by simp)
        ·
         replace c11 := Bool.eq_false_iff.mpr c11
         subst c11
         have H1 : (if ((((((((⟨#[97, 116, 32]⟩ : ByteArray) ++ t114) ++ (⟨#[32]⟩ : ByteArray)) ++ a0_2) ++ (⟨#[32, 116, 111, 32]⟩ : ByteArray)) ++ a0_3) ++ (⟨#[32, 115, 116, 97, 116, 117, 115, 32]⟩ : ByteArray)) ++ t115).size + 4 ≤ 9223372036854775807 then ((spec_l13Ids.f k l0_4).bind fun t117 => (if (((((((((⟨#[97, 116, 32]⟩ : ByteArray) ++ t114) ++ (⟨#[32]⟩ : ByteArray)) ++ a0_2) ++ (⟨#[32, 116, 111, 32]⟩ : ByteArray)) ++ a0_3) ++ (⟨#[32, 115, 116, 97, 116, 117, 115, 32]⟩ : ByteArray)) ++ t115) ++ (⟨#[32, 105, 100, 115]⟩ : ByteArray)).size + t117.size ≤ 9223372036854775807 then (some ((((((((((⟨#[97, 116, 32]⟩ : ByteArray) ++ t114) ++ (⟨#[32]⟩ : ByteArray)) ++ a0_2) ++ (⟨#[32, 116, 111, 32]⟩ : ByteArray)) ++ a0_3) ++ (⟨#[32, 115, 116, 97, 116, 117, 115, 32]⟩ : ByteArray)) ++ t115) ++ (⟨#[32, 105, 100, 115]⟩ : ByteArray)) ++ t117)) else (none))) else (none)) = some r := by rw [if_neg (show ¬ (false = true) by decide)] at H; exact H
         clear H
         have H := H1
         clear H1
         by_cases c22 : ((((((((⟨#[97, 116, 32]⟩ : ByteArray) ++ t114) ++ (⟨#[32]⟩ : ByteArray)) ++ a0_2) ++ (⟨#[32, 116, 111, 32]⟩ : ByteArray)) ++ a0_3) ++ (⟨#[32, 115, 116, 97, 116, 117, 115, 32]⟩ : ByteArray)) ++ t115).size + 4 ≤ 9223372036854775807
         ·
          rw [if_pos c22] at H
          have c22b0 := eq_true c22
          have c22b1 : decide (((((((((⟨#[97, 116, 32]⟩ : ByteArray) ++ t114) ++ (⟨#[32]⟩ : ByteArray)) ++ a0_2) ++ (⟨#[32, 116, 111, 32]⟩ : ByteArray)) ++ a0_3) ++ (⟨#[32, 115, 116, 97, 116, 117, 115, 32]⟩ : ByteArray)) ++ t115).size + 4 ≤ 9223372036854775807) = true := decide_eq_true c22
          try have c22b2 : (9223372036854775807 < ((((((((⟨#[97, 116, 32]⟩ : ByteArray) ++ t114) ++ (⟨#[32]⟩ : ByteArray)) ++ a0_2) ++ (⟨#[32, 116, 111, 32]⟩ : ByteArray)) ++ a0_3) ++ (⟨#[32, 115, 116, 97, 116, 117, 115, 32]⟩ : ByteArray)) ++ t115).size + 4) = False := eq_false (Nat.not_lt.2 c22)
          try (have c22b3 := c22b0; simp only [ByteArray.size_extract, ByteArray.size_append, bsize_lit, List.length_cons, List.length_nil, Nat.reduceAdd, Nat.zero_add] at c22b3)
          try (have c22b4 := c22b1; simp only [ByteArray.size_extract, ByteArray.size_append, bsize_lit, List.length_cons, List.length_nil, Nat.reduceAdd, Nat.zero_add] at c22b4)
          try (have c22b5 := c22b2; simp only [ByteArray.size_extract, ByteArray.size_append, bsize_lit, List.length_cons, List.length_nil, Nat.reduceAdd, Nat.zero_add] at c22b5)
          replace H := Option.bind_eq_some_iff.mp H
          obtain ⟨t117, A230, H⟩ := H
          replace H : (if (((((((((⟨#[97, 116, 32]⟩ : ByteArray) ++ t114) ++ (⟨#[32]⟩ : ByteArray)) ++ a0_2) ++ (⟨#[32, 116, 111, 32]⟩ : ByteArray)) ++ a0_3) ++ (⟨#[32, 115, 116, 97, 116, 117, 115, 32]⟩ : ByteArray)) ++ t115) ++ (⟨#[32, 105, 100, 115]⟩ : ByteArray)).size + t117.size ≤ 9223372036854775807 then (some ((((((((((⟨#[97, 116, 32]⟩ : ByteArray) ++ t114) ++ (⟨#[32]⟩ : ByteArray)) ++ a0_2) ++ (⟨#[32, 116, 111, 32]⟩ : ByteArray)) ++ a0_3) ++ (⟨#[32, 115, 116, 97, 116, 117, 115, 32]⟩ : ByteArray)) ++ t115) ++ (⟨#[32, 105, 100, 115]⟩ : ByteArray)) ++ t117)) else (none)) = some r := H
          have A23 := Aside0.mk A230
          clear A230
          by_cases c24 : (((((((((⟨#[97, 116, 32]⟩ : ByteArray) ++ t114) ++ (⟨#[32]⟩ : ByteArray)) ++ a0_2) ++ (⟨#[32, 116, 111, 32]⟩ : ByteArray)) ++ a0_3) ++ (⟨#[32, 115, 116, 97, 116, 117, 115, 32]⟩ : ByteArray)) ++ t115) ++ (⟨#[32, 105, 100, 115]⟩ : ByteArray)).size + t117.size ≤ 9223372036854775807
          ·
           rw [if_pos c24] at H
           have c24b0 := eq_true c24
           have c24b1 : decide ((((((((((⟨#[97, 116, 32]⟩ : ByteArray) ++ t114) ++ (⟨#[32]⟩ : ByteArray)) ++ a0_2) ++ (⟨#[32, 116, 111, 32]⟩ : ByteArray)) ++ a0_3) ++ (⟨#[32, 115, 116, 97, 116, 117, 115, 32]⟩ : ByteArray)) ++ t115) ++ (⟨#[32, 105, 100, 115]⟩ : ByteArray)).size + t117.size ≤ 9223372036854775807) = true := decide_eq_true c24
           try have c24b2 : (9223372036854775807 < (((((((((⟨#[97, 116, 32]⟩ : ByteArray) ++ t114) ++ (⟨#[32]⟩ : ByteArray)) ++ a0_2) ++ (⟨#[32, 116, 111, 32]⟩ : ByteArray)) ++ a0_3) ++ (⟨#[32, 115, 116, 97, 116, 117, 115, 32]⟩ : ByteArray)) ++ t115) ++ (⟨#[32, 105, 100, 115]⟩ : ByteArray)).size + t117.size) = False := eq_false (Nat.not_lt.2 c24)
           try (have c24b3 := c24b0; simp only [ByteArray.size_extract, ByteArray.size_append, bsize_lit, List.length_cons, List.length_nil, Nat.reduceAdd, Nat.zero_add] at c24b3)
           try (have c24b4 := c24b1; simp only [ByteArray.size_extract, ByteArray.size_append, bsize_lit, List.length_cons, List.length_nil, Nat.reduceAdd, Nat.zero_add] at c24b4)
           try (have c24b5 := c24b2; simp only [ByteArray.size_extract, ByteArray.size_append, bsize_lit, List.length_cons, List.length_nil, Nat.reduceAdd, Nat.zero_add] at c24b5)
           obtain rfl := Option.some.inj H
           go_enter Tryd.func54, Tryd.ntmps54
           try go_wp2_with (first | ((with_reducible refine gate_dst (N := 1) rfl ?_); refine box_event ?hg (N := 1) ?hd (cs := #[.int .i64 a0_0, .int .i64 a0_1, .string a0_2, .string a0_3, .slice A0_4 l0_4.length c0_4, .string a0_5, .bool false]) (t := 34) ?hr ?_; (case hd => rfl); (case hg => rfl); (case hr => first | (go_simp; done) | (go_simp; rfl)); intro gb113 hg w25 hbox hb; have n0_ := Aside0.mk (below_step (by repeat (first | (with_reducible first | exact HB.out | apply below_alloc | apply pw_below_drewN | apply below_drew1) | exact HB.out)) hb); have n1_ := Aside0.mk (hbox); have n2_ := Aside0.mk ((by rw [hg]; exact (below_size (by repeat (first | (with_reducible first | exact HB.out | apply below_alloc | apply pw_below_drewN | apply below_drew1) | exact HB.out))) : w.heap.size ≤ gb113)); have n3_ := Aside0.mk ((by rw [hg]; exact (below_size (by repeat (first | (with_reducible first | exact HB.out | apply below_alloc | apply pw_below_drewN | apply below_drew1) | exact HB.out))) : w.heap.size ≤ gb113)); clear HB; have HB := n0_; have BK113 := n1_; have GW113 := n2_; have GE113 := n3_; clear n0_ n1_ n2_ n3_; clear hb hbox hg))
           have n0_ := Aside0.mk (blk_drew BK113.out)
           have n1_ := Aside0.mk (below_drew1 HB.out)
           clear BK113
           clear HB
           have BK113 := n0_
           have HB := n1_
           clear n0_ n1_
           refine start_ (n := 18) (S := fun w' => w'.cell? ⟨gb113, 0, none⟩ = some (.int .i64 a0_0) ∧ w'.cell? ⟨gb113, 1, none⟩ = some (.int .i64 a0_1) ∧ w'.cell? ⟨gb113, 2, none⟩ = some (.string a0_2) ∧ w'.cell? ⟨gb113, 3, none⟩ = some (.string a0_3) ∧ w'.cell? ⟨gb113, 4, none⟩ = some (.slice A0_4 l0_4.length c0_4) ∧ w'.cell? ⟨gb113, 5, none⟩ = some (.string a0_5) ∧ w'.cell? ⟨gb113, 6, none⟩ = some (.bool false)) (ds := []) #[false, false, false, false, false, false, false, false, false, false, false, false, false, false, false, false, false, false] (by kernel_rfl) rfl rfl ⟨(blk_cell BK113.out 0).trans rfl, (blk_cell BK113.out 1).trans rfl, (blk_cell BK113.out 2).trans rfl, (blk_cell BK113.out 3).trans rfl, (blk_cell BK113.out 4).trans rfl, (blk_cell BK113.out 5).trans rfl, (blk_cell BK113.out 6).trans rfl⟩ (fun hHeld => ?_); refine with_tabW spec_l13Wire.tab1 spec_l13Wire.bits1 (fun HT_ HW_ => ?_)
           generalize w25.drew = w26 at BK113 HB hHeld ⊢
           refine pure_ (i := 0) (N := some 4) (v := ?_) (a' := ?_) #[true, false, false, false, false, false, false, false, false, false, false, false, false, false, false, false, false, false] rfl rfl (any_of HT_.out (by kernel_rfl)) (fun _ _ _ h => h) (Or.inl ⟨by rfl, ?_⟩) ?_ ?_
           rotate_left
           ·
            intro w'
            go_simp
            with_reducible rfl
           rotate_left
           ·
            simp only [Act.put, List.setIfInBounds_toArray, List.set_cons_zero, List.set_cons_succ, i64_w, i32_w]
            rfl
           refine pure_ (i := 5) (N := some 9) (v := ?_) (a' := ?_) #[true, false, false, false, false, true, false, false, false, false, false, false, false, false, false, false, false, false] rfl rfl (any_of HT_.out (by kernel_rfl)) (fun _ _ _ h => h) (Or.inl ⟨by rfl, ?_⟩) ?_ ?_
           rotate_left
           ·
            intro w'
            go_simp
            with_reducible rfl
           rotate_left
           ·
            simp only [Act.put, List.setIfInBounds_toArray, List.set_cons_zero, List.set_cons_succ, i64_w, i32_w]
            rfl
           refine pure_ (i := 9) (N := some 13) (v := ?_) (a' := ?_) #[true, false, false, false, false, true, false, false, false, true, false, false, false, false, false, false, false, false] rfl rfl (any_of HT_.out (by kernel_rfl)) (fun _ _ _ h => h) (Or.inl ⟨by rfl, ?_⟩) ?_ ?_
           rotate_left
           ·
            intro w'
            go_simp
            with_reducible rfl
           rotate_left
           ·
            simp only [Act.put, List.setIfInBounds_toArray, List.set_cons_zero, List.set_cons_succ, i64_w, i32_w]
            rfl
           refine pure_ (i := 13) (N := some 17) (v := ?_) (a' := ?_) #[true, false, false, false, false, true, false, false, false, true, false, false, false, true, false, false, false, false] rfl rfl (any_of HT_.out (by kernel_rfl)) (fun _ _ _ h => h) (Or.inl ⟨by rfl, ?_⟩) ?_ ?_
           rotate_left
           ·
            intro w'
            go_simp
            with_reducible rfl
           rotate_left
           ·
            simp only [Act.put, List.setIfInBounds_toArray, List.set_cons_zero, List.set_cons_succ, i64_w, i32_w]
            rfl
           refine take_ (i := 1) (N := some 5) (v := ?_) (a' := ?_) #[true, true, false, false, false, true, false, false, false, true, false, false, false, true, false, false, false, false] rfl rfl (take_ofW HT_.out HW_.out (by kernel_rfl)) (fun _ _ _ h => h) (Or.inl ⟨by rfl, ?_⟩) hHeld ?_ ?_
           rotate_left
           ·
            rintro w' ⟨s0, s1, s2, s3, s4, s5, s6⟩
            go_simp
            with_reducible rfl
           rotate_left
           ·
            simp only [Act.put, List.setIfInBounds_toArray, List.set_cons_zero, List.set_cons_succ, i64_w, i32_w]
            rfl
           refine take_ (i := 6) (N := some 10) (v := ?_) (a' := ?_) #[true, true, false, false, false, true, true, false, false, true, false, false, false, true, false, false, false, false] rfl rfl (take_ofW HT_.out HW_.out (by kernel_rfl)) (fun _ _ _ h => h) (Or.inl ⟨by rfl, ?_⟩) hHeld ?_ ?_
           rotate_left
           ·
            rintro w' ⟨s0, s1, s2, s3, s4, s5, s6⟩
            go_simp
            with_reducible rfl
           rotate_left
           ·
            simp only [Act.put, List.setIfInBounds_toArray, List.set_cons_zero, List.set_cons_succ, i64_w, i32_w]
            rfl
           refine take_ (i := 10) (N := some 14) (v := ?_) (a' := ?_) #[true, true, false, false, false, true, true, false, false, true, true, false, false, true, false, false, false, false] rfl rfl (take_ofW HT_.out HW_.out (by kernel_rfl)) (fun _ _ _ h => h) (Or.inl ⟨by rfl, ?_⟩) hHeld ?_ ?_
           rotate_left
           ·
            rintro w' ⟨s0, s1, s2, s3, s4, s5, s6⟩
            go_simp
            with_reducible rfl
           rotate_left
           ·
            simp only [Act.put, List.setIfInBounds_toArray, List.set_cons_zero, List.set_cons_succ, i64_w, i32_w]
            rfl
           refine take_ (i := 14) (N := some 18) (v := ?_) (a' := ?_) #[true, true, false, false, false, true, true, false, false, true, true, false, false, true, true, false, false, false] rfl rfl (take_ofW HT_.out HW_.out (by kernel_rfl)) (fun _ _ _ h => h) (Or.inl ⟨by rfl, ?_⟩) hHeld ?_ ?_
           rotate_left
           ·
            rintro w' ⟨s0, s1, s2, s3, s4, s5, s6⟩
            go_simp
            with_reducible rfl
           rotate_left
           ·
            simp only [Act.put, List.setIfInBounds_toArray, List.set_cons_zero, List.set_cons_succ, i64_w, i32_w]
            rfl
           refine one_ (i := 2) (N := some 6) #[true, true, true, false, false, true, true, false, false, true, true, false, false, true, true, false, false, false] rfl rfl (one_of HT_.out (by kernel_rfl)) (by decide) (fun K hK => ?_)
           refine goes_ Tryd.func89 (by kernel_rfl) rfl #[.int .i64 a0_0] (by rfl) rfl rfl (by (try simp only [List.map_toArray, List.map_cons, List.map_nil]); first | done | rfl | (simp only [List.length_drop, List.length_take]; rfl)) ?_
           with_reducible refine (spec_l00Digits.calls k a0_0 t114 _ A2.out).mono ?_
           rintro e w27 ⟨rfl, hb⟩
           refine ⟨_, rfl, ?_⟩
           have n0_ := Aside0.mk (blk_below (g := gb113) (o := .cells #[.int .i64 a0_0, .int .i64 a0_1, .string a0_2, .string a0_3, .slice A0_4 l0_4.length c0_4, .string a0_5, .bool false] 34 (0, 0)) (by (with_reducible repeat (first | refine blk_drewN ?_ _ | refine blk_drew ?_ | refine blk_alloc ?_ _)); exact BK113.out) hb)
           have n1_ := Aside0.mk (below_step (by repeat (first | (with_reducible first | exact HB.out | apply below_alloc | apply pw_below_drewN | apply below_drew1 | refine below_set ?_ GE113.out) | exact HB.out)) hb)
           clear BK113
           clear HB
           have BK113 := n0_
           have HB := n1_
           clear n0_ n1_
           (try clear hb)
           (try clear hb2)
           (try clear hk)
           (try clear hi)
           refine hK.out _ _ ⟨(blk_cell BK113.out 0).trans rfl, (blk_cell BK113.out 1).trans rfl, (blk_cell BK113.out 2).trans rfl, (blk_cell BK113.out 3).trans rfl, (blk_cell BK113.out 4).trans rfl, (blk_cell BK113.out 5).trans rfl, (blk_cell BK113.out 6).trans rfl⟩ (fun hHeld => ?_)
           clear hK K
           refine norm_ (a' := ?_) ?_ ?_
           rotate_left
           ·
            show Act.put _ (some 6) _ = _
            simp only [Act.put, List.setIfInBounds_toArray, List.set_cons_zero, List.set_cons_succ, i64_w, i32_w]
            rfl
           refine pure_ (i := 3) (N := some 7) (v := ?_) (a' := ?_) #[true, true, true, true, false, true, true, false, false, true, true, false, false, true, true, false, false, false] rfl rfl (any_of HT_.out (by kernel_rfl)) (fun _ _ _ h => h) (Or.inl ⟨by rfl, ?_⟩) ?_ ?_
           rotate_left
           ·
            intro w'
            go_simp
            with_reducible rfl
           rotate_left
           ·
            simp only [Act.put, List.setIfInBounds_toArray, List.set_cons_zero, List.set_cons_succ, i64_w, i32_w]
            rfl
           refine pure_ (i := 4) (N := some 8) (v := ?_) (a' := ?_) #[true, true, true, true, true, true, true, false, false, true, true, false, false, true, true, false, false, false] rfl rfl (any_of HT_.out (by kernel_rfl)) (fun _ _ _ h => h) (Or.inl ⟨by rfl, ?_⟩) ?_ ?_
           rotate_left
           ·
            intro w'
            go_simp
            with_reducible rfl
           rotate_left
           ·
            simp only [Act.put, List.setIfInBounds_toArray, List.set_cons_zero, List.set_cons_succ, i64_w, i32_w]
            rfl
           refine pure_ (i := 7) (N := some 11) (v := ?_) (a' := ?_) #[true, true, true, true, true, true, true, true, false, true, true, false, false, true, true, false, false, false] rfl rfl (any_of HT_.out (by kernel_rfl)) (fun _ _ _ h => h) (Or.inl ⟨by rfl, ?_⟩) ?_ ?_
           rotate_left
           ·
            intro w'
            go_simp
            with_reducible rfl
           rotate_left
           ·
            simp only [Act.put, List.setIfInBounds_toArray, List.set_cons_zero, List.set_cons_succ, i64_w, i32_w]
            rfl
           refine pure_ (i := 8) (N := some 12) (v := ?_) (a' := ?_) #[true, true, true, true, true, true, true, true, true, true, true, false, false, true, true, false, false, false] rfl rfl (any_of HT_.out (by kernel_rfl)) (fun _ _ _ h => h) (Or.inl ⟨by rfl, ?_⟩) ?_ ?_
           rotate_left
           ·
            intro w'
            go_simp
            with_reducible rfl
           rotate_left
           ·
            simp only [Act.put, List.setIfInBounds_toArray, List.set_cons_zero, List.set_cons_succ, i64_w, i32_w]
            rfl
           refine pure_ (i := 11) (N := some 15) (v := ?_) (a' := ?_) #[true, true, true, true, true, true, true, true, true, true, true, true, false, true, true, false, false, false] rfl rfl (any_of HT_.out (by kernel_rfl)) (fun _ _ _ h => h) (Or.inl ⟨by rfl, ?_⟩) ?_ ?_
           rotate_left
           ·
            intro w'
            go_simp
            with_reducible rfl
           rotate_left
           ·
            simp only [Act.put, List.setIfInBounds_toArray, List.set_cons_zero, List.set_cons_succ, i64_w, i32_w]
            rfl
           refine pure_ (i := 12) (N := some 16) (v := ?_) (a' := ?_) #[true, true, true, true, true, true, true, true, true, true, true, true, true, true, true, false, false, false] rfl rfl (any_of HT_.out (by kernel_rfl)) (fun _ _ _ h => h) (Or.inl ⟨by rfl, ?_⟩) ?_ ?_
           rotate_left
           ·
            intro w'
            go_simp
            with_reducible rfl
           rotate_left
           ·
            simp only [Act.put, List.setIfInBounds_toArray, List.set_cons_zero, List.set_cons_succ, i64_w, i32_w]
            rfl
           refine one_ (i := 15) (N := some 19) #[true, true, true, true, true, true, true, true, true, true, true, true, true, true, true, true, false, false] rfl rfl (one_of HT_.out (by kernel_rfl)) (by decide) (fun K hK => ?_)
           refine goes_ Tryd.func89 (by kernel_rfl) rfl #[.int .i64 a0_1] (by rfl) rfl rfl (by (try simp only [List.map_toArray, List.map_cons, List.map_nil]); first | done | rfl | (simp only [List.length_drop, List.length_take]; rfl)) ?_
           with_reducible refine (spec_l00Digits.calls k a0_1 t115 _ A9.out).mono ?_
           rintro e w28 ⟨rfl, hb⟩
           refine ⟨_, rfl, ?_⟩
           have n0_ := Aside0.mk (blk_below (g := gb113) (o := .cells #[.int .i64 a0_0, .int .i64 a0_1, .string a0_2, .string a0_3, .slice A0_4 l0_4.length c0_4, .string a0_5, .bool false] 34 (0, 0)) (by (with_reducible repeat (first | refine blk_drewN ?_ _ | refine blk_drew ?_ | refine blk_alloc ?_ _)); exact BK113.out) hb)
           have n1_ := Aside0.mk (below_step (by repeat (first | (with_reducible first | exact HB.out | apply below_alloc | apply pw_below_drewN | apply below_drew1 | refine below_set ?_ GE113.out) | exact HB.out)) hb)
           clear BK113
           clear HB
           have BK113 := n0_
           have HB := n1_
           clear n0_ n1_
           (try clear hb)
           (try clear hb2)
           (try clear hk)
           (try clear hi)
           refine hK.out _ _ ⟨(blk_cell BK113.out 0).trans rfl, (blk_cell BK113.out 1).trans rfl, (blk_cell BK113.out 2).trans rfl, (blk_cell BK113.out 3).trans rfl, (blk_cell BK113.out 4).trans rfl, (blk_cell BK113.out 5).trans rfl, (blk_cell BK113.out 6).trans rfl⟩ (fun hHeld => ?_)
           clear hK K
           refine norm_ (a' := ?_) ?_ ?_
           rotate_left
           ·
            show Act.put _ (some 19) _ = _
            simp only [Act.put, List.setIfInBounds_toArray, List.set_cons_zero, List.set_cons_succ, i64_w, i32_w]
            rfl
           refine pure_ (i := 16) (N := some 20) (v := ?_) (a' := ?_) #[true, true, true, true, true, true, true, true, true, true, true, true, true, true, true, true, true, false] rfl rfl (any_of HT_.out (by kernel_rfl)) (fun _ _ _ h => h) (Or.inl ⟨by rfl, ?_⟩) ?_ ?_
           rotate_left
           ·
            intro w'
            go_simp
            with_reducible rfl
           rotate_left
           ·
            simp only [Act.put, List.setIfInBounds_toArray, List.set_cons_zero, List.set_cons_succ, i64_w, i32_w]
            rfl
           refine pure_ (i := 17) (N := some 3) (v := ?_) (a' := ?_) #[true, true, true, true, true, true, true, true, true, true, true, true, true, true, true, true, true, true] rfl rfl (any_of HT_.out (by kernel_rfl)) (fun _ _ _ h => h) (Or.inl ⟨by rfl, ?_⟩) ?_ ?_
           rotate_left
           ·
            intro w'
            go_simp
            with_reducible rfl
           rotate_left
           ·
            simp only [Act.put, List.setIfInBounds_toArray, List.set_cons_zero, List.set_cons_succ, i64_w, i32_w]
            rfl
           refine done_ (done_of HT_.out (by kernel_rfl)) ?_
           have hcz29_0 : w28.cell? ⟨gb113, 0, none⟩ = some (.int .i64 a0_0) := (blk_cell BK113.out 0).trans rfl
           have hcz29_1 : w28.cell? ⟨gb113, 1, none⟩ = some (.int .i64 a0_1) := (blk_cell BK113.out 1).trans rfl
           have hcz29_2 : w28.cell? ⟨gb113, 2, none⟩ = some (.string a0_2) := (blk_cell BK113.out 2).trans rfl
           have hcz29_3 : w28.cell? ⟨gb113, 3, none⟩ = some (.string a0_3) := (blk_cell BK113.out 3).trans rfl
           have hcz29_4 : w28.cell? ⟨gb113, 4, none⟩ = some (.slice A0_4 l0_4.length c0_4) := (blk_cell BK113.out 4).trans rfl
           have hcz29_5 : w28.cell? ⟨gb113, 5, none⟩ = some (.string a0_5) := (blk_cell BK113.out 5).trans rfl
           have hcz29_6 : w28.cell? ⟨gb113, 6, none⟩ = some (.bool false) := (blk_cell BK113.out 6).trans rfl
           have hfz29_0 := blk_frozen BK113.out 0
           have hfz29_1 := blk_frozen BK113.out 1
           have hfz29_2 := blk_frozen BK113.out 2
           have hfz29_3 := blk_frozen BK113.out 3
           have hfz29_4 := blk_frozen BK113.out 4
           have hfz29_5 := blk_frozen BK113.out 5
           have hfz29_6 := blk_frozen BK113.out 6
           try go_wp2_with (first | ((with_reducible refine gate_callee (f := 92) rfl ?_); refine goesL_ (some 29) rfl rfl Tryd.func92 (by kernel_rfl) rfl #[.slice A0_4 l0_4.length c0_4] rfl (by (try simp only [List.map_toArray, List.map_cons, List.map_nil]); first | done | rfl | (simp only [List.length_drop, List.length_take]; rfl)) ?_; (with_reducible refine (spec_l13Ids.calls k _ _ l0_4 t117 _ ?side1 ?side2 A23.out).mono ?_); (case side1 => repeat (first | exact (Kd.C_below HR0_4.out HB.out) | (with_reducible refine Kd.C_alloc ?_ _) | (with_reducible refine Kd.C_drewN ?_ _) | (with_reducible refine Kd.C_drew ?_))); (case side2 => exact HC0_4.out); rintro e w30 ⟨rfl, hb⟩; refine ⟨_, rfl, ?_⟩; have n0_ := Aside0.mk (blk_below (g := gb113) (o := .cells #[.int .i64 a0_0, .int .i64 a0_1, .string a0_2, .string a0_3, .slice A0_4 l0_4.length c0_4, .string a0_5, .bool false] 34 (0, 0)) (by (with_reducible repeat (first | refine blk_drewN ?_ _ | refine blk_drew ?_ | refine blk_alloc ?_ _)); exact BK113.out) hb); have n1_ := Aside0.mk (below_step (by repeat (first | (with_reducible first | exact HB.out | apply below_alloc | apply pw_below_drewN | apply below_drew1 | refine below_set ?_ GE113.out) | exact HB.out)) hb); clear BK113; clear HB; have BK113 := n0_; have HB := n1_; clear n0_ n1_; (try clear hb); (try clear hb2); (try clear hk); (try clear hi)))
           go_ret
           exact ⟨by first | rfl | (simp [errW_none, errW_some] <;> rfl) | (simp [*, errW_none, errW_some] <;> rfl), by repeat (first | (with_reducible first | exact HB.out | apply below_alloc | apply pw_below_drewN | apply below_drew1 | refine below_set ?_ GE113.out) | exact HB.out)⟩
          ·
           rw [if_neg c24] at H
           exact absurd H (by simp)
         ·
          rw [if_neg c22] at H
          exact absurd H (by simp)
       ·
        rw [if_neg c10] at H
        exact absurd H (by simp)
      ·
       rw [if_neg c8] at H
       exact absurd H (by simp)
     ·
      rw [if_neg c7] at H
      exact absurd H (by simp)
    ·
     rw [if_neg c6] at H
     exact absurd H (by simp)
   ·
    rw [if_neg c5] at H
    exact absurd H (by simp)
  ·
   rw [if_neg c4] at H
   exact absurd H (by simp)
 ·
  rw [if_neg c3] at H
  exact absurd H (by simp)

/-! ### spec_WireText: function 15 -/
def spec_WireText.f (k : Nat) (a0_0 : Int) (a0_1 : Int) (a0_2 : ByteArray) (a0_3 : ByteArray) (l0_4 : List Int) (a0_5 : ByteArray) (a0_6 : Bool) : Option (ByteArray × Int) := if (l0_4.length : Int) > 3 then (some ((⟨#[]⟩ : ByteArray), 1)) else (if (a0_3.size : Int) > 100 then (some ((⟨#[]⟩ : ByteArray), 1)) else (if (a0_2.size : Int) > 12 then (some ((⟨#[]⟩ : ByteArray), 1)) else ((spec_l13Wire.f k a0_0 a0_1 a0_2 a0_3 l0_4 a0_5 a0_6).bind fun t119 => (some (t119, 0)))))
theorem spec_WireText.mono : ∀ a0 a1 a2 a3 a4 a5 a6 k, LeO (spec_WireText.f k a0 a1 a2 a3 a4 a5 a6) (spec_WireText.f (k + 1) a0 a1 a2 a3 a4 a5 a6) := by
  intro a0 a1 a2 a3 a4 a5 a6 k
  unfold spec_WireText.f
  repeat' first
      | (with_reducible exact spec_l13Wire.mono _ _ _ _ _ _ _ _)
      | (with_reducible exact LeO.refl _)
      | (with_reducible exact LeO.none _)
      | (with_reducible refine LeO.ite ?_ ?_)
      | (with_reducible refine LeO.bind ?_ (fun _ => ?_))
      | exact spec_l13Wire.mono _ _ _ _ _ _ _ _
      | exact LeO.none _
      | refine LeO.ite ?_ ?_
      | refine LeO.bind ?_ (fun _ => ?_)
set_option maxHeartbeats 8000000 in
set_option maxRecDepth 100000 in
theorem spec_WireText.calls (k : Nat) (a0_0 : Int) (a0_1 : Int) (a0_2 : ByteArray) (a0_3 : ByteArray) (A0_4 : Option Addr) (c0_4 : Nat) (l0_4 : List Int) (a0_5 : ByteArray) (a0_6 : Bool) (r1 : ByteArray) (r2 : Int) (w : World) (hr0_4 : Kd.C (Kd.int .i64) w A0_4 l0_4.length l0_4) (hc0_4 : l0_4.length ≤ c0_4) (h : spec_WireText.f k a0_0 a0_1 a0_2 a0_3 l0_4 a0_5 a0_6 = some (r1, r2)) :
    Calls Tryd.prog 15 #[.agg #[.int .i64 a0_0, .int .i64 a0_1, .string a0_2, .string a0_3, .slice A0_4 l0_4.length c0_4, .string a0_5, .bool a0_6]] w fun e w' => e = .returned (.tuple #[.string r1, .int .i64 r2]) ∧ Below w.heap.size w w' := by
 have hu34 := Tryd.underlying34
 have HR0_4 := Aside0.mk hr0_4
 have HC0_4 := Aside0.mk hc0_4
 clear hr0_4 hc0_4
 have HB := Aside0.mk (Below.refl w.heap.size w)
 have H : (if (l0_4.length : Int) > 3 then (some ((⟨#[]⟩ : ByteArray), 1)) else (if (a0_3.size : Int) > 100 then (some ((⟨#[]⟩ : ByteArray), 1)) else (if (a0_2.size : Int) > 12 then (some ((⟨#[]⟩ : ByteArray), 1)) else ((spec_l13Wire.f k a0_0 a0_1 a0_2 a0_3 l0_4 a0_5 a0_6).bind fun t119 => (some (t119, 0)))))) = some (r1, r2) := h
 clear h
 by_cases c2 : (l0_4.length : Int) > 3
 ·
  rw [if_pos c2] at H
  have c2b0 : decide (3 < (l0_4.length : Int)) = true := decide_eq_true c2
  have c2b1 : decide (3 < l0_4.length) = true := decide_eq_true (by omega)
  clear c2
  simp only [Option.some.injEq, Prod.mk.injEq] at H
  obtain ⟨rfl, rfl⟩ := H
  go_enter Tryd.func15, Tryd.ntmps15
  go_wp2_with (first | ((with_reducible refine gate_dst (N := 1) rfl ?_); (try (refine gate_guard (by rfl) ?_; dsimp only)); refine box_event ?hg (N := 1) ?hd (cs := #[.int .i64 a0_0, .int .i64 a0_1, .string a0_2, .string a0_3, .slice A0_4 l0_4.length c0_4, .string a0_5, .bool a0_6]) (t := 34) ?hr ?_; (case hd => rfl); (case hg => rfl); (case hr => first | (go_simp; done) | (go_simp; rfl)); intro gb118 hg w3 hbox hb; have n0_ := Aside0.mk (below_step (by repeat (first | (with_reducible first | exact HB.out | apply below_alloc | apply pw_below_drewN | apply below_drew1) | exact HB.out)) hb); have n1_ := Aside0.mk (hbox); have n2_ := Aside0.mk ((by rw [hg]; exact (below_size (by repeat (first | (with_reducible first | exact HB.out | apply below_alloc | apply pw_below_drewN | apply below_drew1) | exact HB.out))) : w.heap.size ≤ gb118)); have n3_ := Aside0.mk ((by rw [hg]; exact (below_size (by repeat (first | (with_reducible first | exact HB.out | apply below_alloc | apply pw_below_drewN | apply below_drew1) | exact HB.out))) : w.heap.size ≤ gb118)); clear HB; have HB := n0_; have BK118 := n1_; have GW118 := n2_; have GE118 := n3_; clear n0_ n1_ n2_ n3_; clear hb hbox hg; have hcz4_0 : w3.cell? ⟨gb118, 0, none⟩ = some (.int .i64 a0_0) := (blk_cell BK118.out 0).trans rfl; have hcz4_1 : w3.cell? ⟨gb118, 1, none⟩ = some (.int .i64 a0_1) := (blk_cell BK118.out 1).trans rfl; have hcz4_2 : w3.cell? ⟨gb118, 2, none⟩ = some (.string a0_2) := (blk_cell BK118.out 2).trans rfl; have hcz4_3 : w3.cell? ⟨gb118, 3, none⟩ = some (.string a0_3) := (blk_cell BK118.out 3).trans rfl; have hcz4_4 : w3.cell? ⟨gb118, 4, none⟩ = some (.slice A0_4 l0_4.length c0_4) := (blk_cell BK118.out 4).trans rfl; have hcz4_5 : w3.cell? ⟨gb118, 5, none⟩ = some (.string a0_5) := (blk_cell BK118.out 5).trans rfl; have hcz4_6 : w3.cell? ⟨gb118, 6, none⟩ = some (.bool a0_6) := (blk_cell BK118.out 6).trans rfl; have hfz4_0 := blk_frozen BK118.out 0; have hfz4_1 := blk_frozen BK118.out 1; have hfz4_2 := blk_frozen BK118.out 2; have hfz4_3 := blk_frozen BK118.out 3; have hfz4_4 := blk_frozen BK118.out 4; have hfz4_5 := blk_frozen BK118.out 5; have hfz4_6 := blk_frozen BK118.out 6))
  go_ret2
  exact ⟨by first | rfl | (simp [errW_none, errW_some] <;> rfl) | (simp [*, errW_none, errW_some] <;> rfl), by repeat (first | (with_reducible first | exact HB.out | apply below_alloc | apply pw_below_drewN | apply below_drew1 | refine below_set ?_ GE118.out) | exact HB.out)⟩
 ·
  rw [if_neg c2] at H
  have c2b0 : decide (3 < (l0_4.length : Int)) = false := decide_eq_false c2
  have c2b1 : decide (3 < l0_4.length) = false := decide_eq_false (by omega)
  clear c2
  by_cases c5 : (a0_3.size : Int) > 100
  ·
   rw [if_pos c5] at H
   have c5b0 : decide (100 < (a0_3.size : Int)) = true := decide_eq_true c5
   have c5b1 : decide (100 < a0_3.size) = true := decide_eq_true (by omega)
   clear c5
   simp only [Option.some.injEq, Prod.mk.injEq] at H
   obtain ⟨rfl, rfl⟩ := H
   go_enter Tryd.func15, Tryd.ntmps15
   go_wp2_with (first | ((with_reducible refine gate_dst (N := 1) rfl ?_); (try (refine gate_guard (by rfl) ?_; dsimp only)); refine box_event ?hg (N := 1) ?hd (cs := #[.int .i64 a0_0, .int .i64 a0_1, .string a0_2, .string a0_3, .slice A0_4 l0_4.length c0_4, .string a0_5, .bool a0_6]) (t := 34) ?hr ?_; (case hd => rfl); (case hg => rfl); (case hr => first | (go_simp; done) | (go_simp; rfl)); intro gb118 hg w6 hbox hb; have n0_ := Aside0.mk (below_step (by repeat (first | (with_reducible first | exact HB.out | apply below_alloc | apply pw_below_drewN | apply below_drew1) | exact HB.out)) hb); have n1_ := Aside0.mk (hbox); have n2_ := Aside0.mk ((by rw [hg]; exact (below_size (by repeat (first | (with_reducible first | exact HB.out | apply below_alloc | apply pw_below_drewN | apply below_drew1) | exact HB.out))) : w.heap.size ≤ gb118)); have n3_ := Aside0.mk ((by rw [hg]; exact (below_size (by repeat (first | (with_reducible first | exact HB.out | apply below_alloc | apply pw_below_drewN | apply below_drew1) | exact HB.out))) : w.heap.size ≤ gb118)); clear HB; have HB := n0_; have BK118 := n1_; have GW118 := n2_; have GE118 := n3_; clear n0_ n1_ n2_ n3_; clear hb hbox hg; have hcz7_0 : w6.cell? ⟨gb118, 0, none⟩ = some (.int .i64 a0_0) := (blk_cell BK118.out 0).trans rfl; have hcz7_1 : w6.cell? ⟨gb118, 1, none⟩ = some (.int .i64 a0_1) := (blk_cell BK118.out 1).trans rfl; have hcz7_2 : w6.cell? ⟨gb118, 2, none⟩ = some (.string a0_2) := (blk_cell BK118.out 2).trans rfl; have hcz7_3 : w6.cell? ⟨gb118, 3, none⟩ = some (.string a0_3) := (blk_cell BK118.out 3).trans rfl; have hcz7_4 : w6.cell? ⟨gb118, 4, none⟩ = some (.slice A0_4 l0_4.length c0_4) := (blk_cell BK118.out 4).trans rfl; have hcz7_5 : w6.cell? ⟨gb118, 5, none⟩ = some (.string a0_5) := (blk_cell BK118.out 5).trans rfl; have hcz7_6 : w6.cell? ⟨gb118, 6, none⟩ = some (.bool a0_6) := (blk_cell BK118.out 6).trans rfl; have hfz7_0 := blk_frozen BK118.out 0; have hfz7_1 := blk_frozen BK118.out 1; have hfz7_2 := blk_frozen BK118.out 2; have hfz7_3 := blk_frozen BK118.out 3; have hfz7_4 := blk_frozen BK118.out 4; have hfz7_5 := blk_frozen BK118.out 5; have hfz7_6 := blk_frozen BK118.out 6))
   go_ret2
   exact ⟨by first | rfl | (simp [errW_none, errW_some] <;> rfl) | (simp [*, errW_none, errW_some] <;> rfl), by repeat (first | (with_reducible first | exact HB.out | apply below_alloc | apply pw_below_drewN | apply below_drew1 | refine below_set ?_ GE118.out) | exact HB.out)⟩
  ·
   rw [if_neg c5] at H
   have c5b0 : decide (100 < (a0_3.size : Int)) = false := decide_eq_false c5
   have c5b1 : decide (100 < a0_3.size) = false := decide_eq_false (by omega)
   clear c5
   by_cases c8 : (a0_2.size : Int) > 12
   ·
    rw [if_pos c8] at H
    have c8b0 : decide (12 < (a0_2.size : Int)) = true := decide_eq_true c8
    have c8b1 : decide (12 < a0_2.size) = true := decide_eq_true (by omega)
    clear c8
    simp only [Option.some.injEq, Prod.mk.injEq] at H
    obtain ⟨rfl, rfl⟩ := H
    go_enter Tryd.func15, Tryd.ntmps15
    go_wp2_with (first | ((with_reducible refine gate_dst (N := 1) rfl ?_); (try (refine gate_guard (by rfl) ?_; dsimp only)); refine box_event ?hg (N := 1) ?hd (cs := #[.int .i64 a0_0, .int .i64 a0_1, .string a0_2, .string a0_3, .slice A0_4 l0_4.length c0_4, .string a0_5, .bool a0_6]) (t := 34) ?hr ?_; (case hd => rfl); (case hg => rfl); (case hr => first | (go_simp; done) | (go_simp; rfl)); intro gb118 hg w9 hbox hb; have n0_ := Aside0.mk (below_step (by repeat (first | (with_reducible first | exact HB.out | apply below_alloc | apply pw_below_drewN | apply below_drew1) | exact HB.out)) hb); have n1_ := Aside0.mk (hbox); have n2_ := Aside0.mk ((by rw [hg]; exact (below_size (by repeat (first | (with_reducible first | exact HB.out | apply below_alloc | apply pw_below_drewN | apply below_drew1) | exact HB.out))) : w.heap.size ≤ gb118)); have n3_ := Aside0.mk ((by rw [hg]; exact (below_size (by repeat (first | (with_reducible first | exact HB.out | apply below_alloc | apply pw_below_drewN | apply below_drew1) | exact HB.out))) : w.heap.size ≤ gb118)); clear HB; have HB := n0_; have BK118 := n1_; have GW118 := n2_; have GE118 := n3_; clear n0_ n1_ n2_ n3_; clear hb hbox hg; have hcz10_0 : w9.cell? ⟨gb118, 0, none⟩ = some (.int .i64 a0_0) := (blk_cell BK118.out 0).trans rfl; have hcz10_1 : w9.cell? ⟨gb118, 1, none⟩ = some (.int .i64 a0_1) := (blk_cell BK118.out 1).trans rfl; have hcz10_2 : w9.cell? ⟨gb118, 2, none⟩ = some (.string a0_2) := (blk_cell BK118.out 2).trans rfl; have hcz10_3 : w9.cell? ⟨gb118, 3, none⟩ = some (.string a0_3) := (blk_cell BK118.out 3).trans rfl; have hcz10_4 : w9.cell? ⟨gb118, 4, none⟩ = some (.slice A0_4 l0_4.length c0_4) := (blk_cell BK118.out 4).trans rfl; have hcz10_5 : w9.cell? ⟨gb118, 5, none⟩ = some (.string a0_5) := (blk_cell BK118.out 5).trans rfl; have hcz10_6 : w9.cell? ⟨gb118, 6, none⟩ = some (.bool a0_6) := (blk_cell BK118.out 6).trans rfl; have hfz10_0 := blk_frozen BK118.out 0; have hfz10_1 := blk_frozen BK118.out 1; have hfz10_2 := blk_frozen BK118.out 2; have hfz10_3 := blk_frozen BK118.out 3; have hfz10_4 := blk_frozen BK118.out 4; have hfz10_5 := blk_frozen BK118.out 5; have hfz10_6 := blk_frozen BK118.out 6))
    go_ret2
    exact ⟨by first | rfl | (simp [errW_none, errW_some] <;> rfl) | (simp [*, errW_none, errW_some] <;> rfl), by repeat (first | (with_reducible first | exact HB.out | apply below_alloc | apply pw_below_drewN | apply below_drew1 | refine below_set ?_ GE118.out) | exact HB.out)⟩
   ·
    rw [if_neg c8] at H
    have c8b0 : decide (12 < (a0_2.size : Int)) = false := decide_eq_false c8
    have c8b1 : decide (12 < a0_2.size) = false := decide_eq_false (by omega)
    clear c8
    replace H := Option.bind_eq_some_iff.mp H
    obtain ⟨t119, A110, H⟩ := H
    replace H : (some (t119, 0)) = some (r1, r2) := H
    have A11 := Aside0.mk A110
    clear A110
    simp only [Option.some.injEq, Prod.mk.injEq] at H
    obtain ⟨rfl, rfl⟩ := H
    go_enter Tryd.func15, Tryd.ntmps15
    go_wp2_with (first | ((with_reducible refine gate_dst (N := 1) rfl ?_); (try (refine gate_guard (by rfl) ?_; dsimp only)); refine box_event ?hg (N := 1) ?hd (cs := #[.int .i64 a0_0, .int .i64 a0_1, .string a0_2, .string a0_3, .slice A0_4 l0_4.length c0_4, .string a0_5, .bool a0_6]) (t := 34) ?hr ?_; (case hd => rfl); (case hg => rfl); (case hr => first | (go_simp; done) | (go_simp; rfl)); intro gb118 hg w12 hbox hb; have n0_ := Aside0.mk (below_step (by repeat (first | (with_reducible first | exact HB.out | apply below_alloc | apply pw_below_drewN | apply below_drew1) | exact HB.out)) hb); have n1_ := Aside0.mk (hbox); have n2_ := Aside0.mk ((by rw [hg]; exact (below_size (by repeat (first | (with_reducible first | exact HB.out | apply below_alloc | apply pw_below_drewN | apply below_drew1) | exact HB.out))) : w.heap.size ≤ gb118)); have n3_ := Aside0.mk ((by rw [hg]; exact (below_size (by repeat (first | (with_reducible first | exact HB.out | apply below_alloc | apply pw_below_drewN | apply below_drew1) | exact HB.out))) : w.heap.size ≤ gb118)); clear HB; have HB := n0_; have BK118 := n1_; have GW118 := n2_; have GE118 := n3_; clear n0_ n1_ n2_ n3_; clear hb hbox hg; have hcz13_0 : w12.cell? ⟨gb118, 0, none⟩ = some (.int .i64 a0_0) := (blk_cell BK118.out 0).trans rfl; have hcz13_1 : w12.cell? ⟨gb118, 1, none⟩ = some (.int .i64 a0_1) := (blk_cell BK118.out 1).trans rfl; have hcz13_2 : w12.cell? ⟨gb118, 2, none⟩ = some (.string a0_2) := (blk_cell BK118.out 2).trans rfl; have hcz13_3 : w12.cell? ⟨gb118, 3, none⟩ = some (.string a0_3) := (blk_cell BK118.out 3).trans rfl; have hcz13_4 : w12.cell? ⟨gb118, 4, none⟩ = some (.slice A0_4 l0_4.length c0_4) := (blk_cell BK118.out 4).trans rfl; have hcz13_5 : w12.cell? ⟨gb118, 5, none⟩ = some (.string a0_5) := (blk_cell BK118.out 5).trans rfl; have hcz13_6 : w12.cell? ⟨gb118, 6, none⟩ = some (.bool a0_6) := (blk_cell BK118.out 6).trans rfl; have hfz13_0 := blk_frozen BK118.out 0; have hfz13_1 := blk_frozen BK118.out 1; have hfz13_2 := blk_frozen BK118.out 2; have hfz13_3 := blk_frozen BK118.out 3; have hfz13_4 := blk_frozen BK118.out 4; have hfz13_5 := blk_frozen BK118.out 5; have hfz13_6 := blk_frozen BK118.out 6) | ((with_reducible refine gate_callee (f := 54) rfl ?_); refine goesL_ (some 21) rfl rfl Tryd.func54 (by kernel_rfl) rfl #[.agg #[.int .i64 a0_0, .int .i64 a0_1, .string a0_2, .string a0_3, .slice A0_4 l0_4.length c0_4, .string a0_5, .bool a0_6]] rfl (by (try simp only [List.map_toArray, List.map_cons, List.map_nil]); first | done | rfl | (simp only [List.length_drop, List.length_take]; rfl)) ?_; (with_reducible refine (spec_l13Wire.calls k a0_0 a0_1 a0_2 a0_3 _ _ l0_4 a0_5 a0_6 t119 _ ?side1 ?side2 A11.out).mono ?_); (case side1 => repeat (first | exact (Kd.C_below HR0_4.out HB.out) | (with_reducible refine Kd.C_alloc ?_ _) | (with_reducible refine Kd.C_drewN ?_ _) | (with_reducible refine Kd.C_drew ?_))); (case side2 => exact HC0_4.out); rintro e w14 ⟨rfl, hb⟩; refine ⟨_, rfl, ?_⟩; have n0_ := Aside0.mk (blk_below (g := gb118) (o := .cells #[.int .i64 a0_0, .int .i64 a0_1, .string a0_2, .string a0_3, .slice A0_4 l0_4.length c0_4, .string a0_5, .bool a0_6] 34 (0, 0)) (by (with_reducible repeat (first | refine blk_drewN ?_ _ | refine blk_drew ?_ | refine blk_alloc ?_ _)); exact BK118.out) hb); have n1_ := Aside0.mk (below_step (by repeat (first | (with_reducible first | exact HB.out | apply below_alloc | apply pw_below_drewN | apply below_drew1 | refine below_set ?_ GE118.out) | exact HB.out)) hb); clear BK118; clear HB; have BK118 := n0_; have HB := n1_; clear n0_ n1_; (try clear hb); (try clear hb2); (try clear hk); (try clear hi)))
    go_ret2
    exact ⟨by first | rfl | (simp [errW_none, errW_some] <;> rfl) | (simp [*, errW_none, errW_some] <;> rfl), by repeat (first | (with_reducible first | exact HB.out | apply below_alloc | apply pw_below_drewN | apply below_drew1 | refine below_set ?_ GE118.out) | exact HB.out)⟩

end Go.Proofs.YtnbnodfchjllgaaDoor.QFnExactWireText
