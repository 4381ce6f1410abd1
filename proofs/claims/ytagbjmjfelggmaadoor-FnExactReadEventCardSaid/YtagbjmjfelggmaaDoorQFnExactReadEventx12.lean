/- A tool of this session wrote this text out of the translation: functions as plain Lean, and proofs that the machine's calls come to their answers. -/
import Derived.Test.YtagbjmjfelggmaaDoorQShort
import Derived.Test.YtagbjmjfelggmaaDoorQFnExactReadEventx0
import Derived.Test.YtagbjmjfelggmaaDoorQFnExactReadEventx10
import Derived.Test.YtagbjmjfelggmaaDoorQFnExactReadEventx11
namespace Go.Proofs.YtagbjmjfelggmaaDoor.QFnExactReadEvent
open Go.RowKit Go.Proofs.YtagbjmjfelggmaaDoorW.PrintWords Go.Proofs.YtagbjmjfelggmaaDoorW.PrintLast Go.Proofs.YtagbjmjfelggmaaDoorW.PrintMore
open Go.Proofs.YtagbjmjfelggmaaDoor.Short
attribute [local go_sem] max2_int min2_int max_two min_two max_three min_three max_four min_four   -- for this text's walks alone
set_option linter.unusedVariables false
set_option linter.unusedSimpArgs false

/-! ### impl_eventText: function 17 -/
mutual
def impl_eventText.j0 : Nat → ByteArray → ByteArray → ByteArray → ByteArray → ByteArray → ByteArray → ByteArray → Int → Int → Bool → Option (ByteArray × Bool)
  | 0, _, _, _, _, _, _, _, _, _, _ => none
  | k + 1, x6, x190000, x190001, x190002, x190003, x190004, x190005, x190006, x190007, x190008 => if 10 + x190004.size ≤ 9223372036854775807 then (if ((⟨#[118, 105, 111, 108, 97, 116, 105, 111, 110, 32]⟩ : ByteArray) ++ x190004).size + 1 ≤ 9223372036854775807 then ((impl_decimal.f x190006).bind fun t190 => (if (((⟨#[118, 105, 111, 108, 97, 116, 105, 111, 110, 32]⟩ : ByteArray) ++ x190004) ++ (⟨#[32]⟩ : ByteArray)).size + t190.size ≤ 9223372036854775807 then (if ((((⟨#[118, 105, 111, 108, 97, 116, 105, 111, 110, 32]⟩ : ByteArray) ++ x190004) ++ (⟨#[32]⟩ : ByteArray)) ++ t190).size + 1 ≤ 9223372036854775807 then ((impl_decimal.f x190007).bind fun t191 => (if (((((⟨#[118, 105, 111, 108, 97, 116, 105, 111, 110, 32]⟩ : ByteArray) ++ x190004) ++ (⟨#[32]⟩ : ByteArray)) ++ t190) ++ (⟨#[32]⟩ : ByteArray)).size + t191.size ≤ 9223372036854775807 then ((some (([x190000, x190001, x190002, x190003] : List ByteArray) : List ByteArray)).bind fun y192 => (impl_eventText.l0 k x6 ((((((⟨#[118, 105, 111, 108, 97, 116, 105, 111, 110, 32]⟩ : ByteArray) ++ x190004) ++ (⟨#[32]⟩ : ByteArray)) ++ t190) ++ (⟨#[32]⟩ : ByteArray)) ++ t191) y192 (y192.length : Int) 0 x190000 x190001 x190002 x190003 x190004 x190005 x190006 x190007 x190008)) else (none))) else (none)) else (none))) else (none)) else (none)
def impl_eventText.l0 : Nat → ByteArray → ByteArray → List ByteArray → Int → Int → ByteArray → ByteArray → ByteArray → ByteArray → ByteArray → ByteArray → Int → Int → Bool → Option (ByteArray × Bool)
  | 0, _, _, _, _, _, _, _, _, _, _, _, _, _, _ => none
  | k + 1, x6, x7, x78, x79, x80, x190000, x190001, x190002, x190003, x190004, x190005, x190006, x190007, x190008 => if x80 < x79 then (if 0 ≤ x80 then (if x80 < (x78.length : Int) then (if (rdOf ByteArray.empty x78 x80).toList = ([45] : List UInt8) then (some ((⟨#[]⟩ : ByteArray), false)) else ((impl_areShown.f k (rdOf ByteArray.empty x78 x80)).bind fun t196 => (if t196 = true then ((impl_dash.f (rdOf ByteArray.empty x78 x80)).bind fun t197 => (if 1 + t197.size ≤ 9223372036854775807 then (if x7.size + ((⟨#[32]⟩ : ByteArray) ++ t197).size ≤ 9223372036854775807 then (impl_eventText.l0 k x6 (x7 ++ ((⟨#[32]⟩ : ByteArray) ++ t197)) x78 x79 (wrap64 (x80 + 1)) x190000 x190001 x190002 x190003 x190004 x190005 x190006 x190007 x190008) else (none)) else (none))) else (some ((⟨#[]⟩ : ByteArray), false))))) else (none)) else (none)) else (if x7.size + 1 ≤ 9223372036854775807 then (if (x7 ++ (⟨#[32]⟩ : ByteArray)).size + x6.size ≤ 9223372036854775807 then (if ((x7 ++ (⟨#[32]⟩ : ByteArray)) ++ x6).size + 1 ≤ 9223372036854775807 then (if (((x7 ++ (⟨#[32]⟩ : ByteArray)) ++ x6) ++ (⟨#[32]⟩ : ByteArray)).size + x190005.size ≤ 9223372036854775807 then (some ((((x7 ++ (⟨#[32]⟩ : ByteArray)) ++ x6) ++ (⟨#[32]⟩ : ByteArray)) ++ x190005, true)) else (none)) else (none)) else (none)) else (none))
end
def impl_eventText.f (k : Nat) (a0_0 : Int) (a0_1 : Int) (a0_2 : Int) (a0_3 : Int) (a0_4 : ByteArray) (a0_5 : ByteArray) (a0_6 : ByteArray) (a0_7 : ByteArray) (a0_8 : ByteArray) (a0_9 : ByteArray) (a0_10 : ByteArray) (a0_11 : ByteArray) (a0_12 : Int) (a0_13 : Int) (a0_14 : Bool) (a0_15 : Bool) : Option (ByteArray × Bool) := if a0_0 = 1 then (if 10 + a0_4.size ≤ 9223372036854775807 then (some ((⟨#[101, 110, 100, 112, 111, 105, 110, 116, 115, 32]⟩ : ByteArray) ++ a0_4, true)) else (none)) else (if a0_0 = 2 then (if 9 + a0_4.size ≤ 9223372036854775807 then (some ((⟨#[114, 101, 112, 111, 114, 116, 116, 111, 32]⟩ : ByteArray) ++ a0_4, true)) else (none)) else (if a0_0 = 3 then (if 7 + a0_4.size ≤ 9223372036854775807 then (some ((⟨#[112, 111, 108, 105, 99, 121, 32]⟩ : ByteArray) ++ a0_4, true)) else (none)) else (if a0_0 = 5 then ((impl_decimal.f a0_3).bind fun t186 => (if 5 + t186.size ≤ 9223372036854775807 then (some ((⟨#[116, 105, 99, 107, 32]⟩ : ByteArray) ++ t186, true)) else (none))) else (if a0_0 = 6 then (if 5 + a0_5.size ≤ 9223372036854775807 then (if ((⟨#[115, 101, 110, 100, 32]⟩ : ByteArray) ++ a0_5).size + 1 ≤ 9223372036854775807 then ((impl_decimal.f a0_1).bind fun t187 => (if (((⟨#[115, 101, 110, 100, 32]⟩ : ByteArray) ++ a0_5) ++ (⟨#[32]⟩ : ByteArray)).size + t187.size ≤ 9223372036854775807 then (if ((((⟨#[115, 101, 110, 100, 32]⟩ : ByteArray) ++ a0_5) ++ (⟨#[32]⟩ : ByteArray)) ++ t187).size + 1 ≤ 9223372036854775807 then ((impl_decimal.f a0_2).bind fun t188 => (if (((((⟨#[115, 101, 110, 100, 32]⟩ : ByteArray) ++ a0_5) ++ (⟨#[32]⟩ : ByteArray)) ++ t187) ++ (⟨#[32]⟩ : ByteArray)).size + t188.size ≤ 9223372036854775807 then (if a0_15 = true then (if ((((((⟨#[115, 101, 110, 100, 32]⟩ : ByteArray) ++ a0_5) ++ (⟨#[32]⟩ : ByteArray)) ++ t187) ++ (⟨#[32]⟩ : ByteArray)) ++ t188).size + 5 ≤ 9223372036854775807 then (some (((((((⟨#[115, 101, 110, 100, 32]⟩ : ByteArray) ++ a0_5) ++ (⟨#[32]⟩ : ByteArray)) ++ t187) ++ (⟨#[32]⟩ : ByteArray)) ++ t188) ++ (⟨#[32, 108, 111, 115, 116]⟩ : ByteArray), true)) else (none)) else (some ((((((⟨#[115, 101, 110, 100, 32]⟩ : ByteArray) ++ a0_5) ++ (⟨#[32]⟩ : ByteArray)) ++ t187) ++ (⟨#[32]⟩ : ByteArray)) ++ t188, true))) else (none))) else (none)) else (none))) else (none)) else (none)) else (if a0_14 = true then (impl_eventText.j0 k (⟨#[121, 101, 115]⟩ : ByteArray) a0_6 a0_7 a0_8 a0_9 a0_10 a0_11 a0_12 a0_13 a0_14) else (impl_eventText.j0 k (⟨#[110, 111]⟩ : ByteArray) a0_6 a0_7 a0_8 a0_9 a0_10 a0_11 a0_12 a0_13 a0_14))))))
theorem impl_eventText.mono_l : ∀ k, (∀ y0 y1 y2 y3 y4 y5 y6 y7 y8 y9, LeO (impl_eventText.j0 k y0 y1 y2 y3 y4 y5 y6 y7 y8 y9) (impl_eventText.j0 (k + 1) y0 y1 y2 y3 y4 y5 y6 y7 y8 y9)) ∧ (∀ y0 y1 y2 y3 y4 y5 y6 y7 y8 y9 y10 y11 y12 y13, LeO (impl_eventText.l0 k y0 y1 y2 y3 y4 y5 y6 y7 y8 y9 y10 y11 y12 y13) (impl_eventText.l0 (k + 1) y0 y1 y2 y3 y4 y5 y6 y7 y8 y9 y10 y11 y12 y13))
  | 0 => ⟨fun _ _ _ _ _ _ _ _ _ _ r h => by simp [impl_eventText.j0] at h, fun _ _ _ _ _ _ _ _ _ _ _ _ _ _ r h => by simp [impl_eventText.l0] at h⟩
  | k + 1 => by
    obtain ⟨ih0, ih1⟩ := impl_eventText.mono_l k; refine ⟨?_, ?_⟩
    · intro y0 y1 y2 y3 y4 y5 y6 y7 y8 y9
      unfold impl_eventText.j0; repeat' first
      | (with_reducible exact ih0 _ _ _ _ _ _ _ _ _ _)
      | (with_reducible exact ih1 _ _ _ _ _ _ _ _ _ _ _ _ _ _)
      | (with_reducible exact impl_areShown.mono _ _)
      | (with_reducible exact LeO.refl _)
      | (with_reducible exact LeO.none _)
      | (with_reducible refine LeO.ite ?_ ?_)
      | (with_reducible refine LeO.bind ?_ (fun _ => ?_))
      | exact ih0 _ _ _ _ _ _ _ _ _ _
      | exact ih1 _ _ _ _ _ _ _ _ _ _ _ _ _ _
      | exact impl_areShown.mono _ _
      | exact LeO.none _
      | refine LeO.ite ?_ ?_
      | refine LeO.bind ?_ (fun _ => ?_)
    · intro y0 y1 y2 y3 y4 y5 y6 y7 y8 y9 y10 y11 y12 y13
      unfold impl_eventText.l0; repeat' first
      | (with_reducible exact ih0 _ _ _ _ _ _ _ _ _ _)
      | (with_reducible exact ih1 _ _ _ _ _ _ _ _ _ _ _ _ _ _)
      | (with_reducible exact impl_areShown.mono _ _)
      | (with_reducible exact LeO.refl _)
      | (with_reducible exact LeO.none _)
      | (with_reducible refine LeO.ite ?_ ?_)
      | (with_reducible refine LeO.bind ?_ (fun _ => ?_))
      | exact ih0 _ _ _ _ _ _ _ _ _ _
      | exact ih1 _ _ _ _ _ _ _ _ _ _ _ _ _ _
      | exact impl_areShown.mono _ _
      | exact LeO.none _
      | refine LeO.ite ?_ ?_
      | refine LeO.bind ?_ (fun _ => ?_)
theorem impl_eventText.mono : ∀ a0 a1 a2 a3 a4 a5 a6 a7 a8 a9 a10 a11 a12 a13 a14 a15 k, LeO (impl_eventText.f k a0 a1 a2 a3 a4 a5 a6 a7 a8 a9 a10 a11 a12 a13 a14 a15) (impl_eventText.f (k + 1) a0 a1 a2 a3 a4 a5 a6 a7 a8 a9 a10 a11 a12 a13 a14 a15) := by
  intro a0 a1 a2 a3 a4 a5 a6 a7 a8 a9 a10 a11 a12 a13 a14 a15 k; obtain ⟨ih0, ih1⟩ := impl_eventText.mono_l k; unfold impl_eventText.f
  repeat' first
      | (with_reducible exact ih0 _ _ _ _ _ _ _ _ _ _)
      | (with_reducible exact ih1 _ _ _ _ _ _ _ _ _ _ _ _ _ _)
      | (with_reducible exact impl_areShown.mono _ _)
      | (with_reducible exact LeO.refl _)
      | (with_reducible exact LeO.none _)
      | (with_reducible refine LeO.ite ?_ ?_)
      | (with_reducible refine LeO.bind ?_ (fun _ => ?_))
      | exact ih0 _ _ _ _ _ _ _ _ _ _
      | exact ih1 _ _ _ _ _ _ _ _ _ _ _ _ _ _
      | exact impl_areShown.mono _ _
      | exact LeO.none _
      | refine LeO.ite ?_ ?_
      | refine LeO.bind ?_ (fun _ => ?_)
def impl_eventText.T11 : Bool × List (List Nat × List Nat) := (true, [([], []), ([0], [0]), ([1], [1]), ([2], [2]), ([], []), ([4], [4]), ([5], [5]), ([3, 6], [3, 6]), ([7], [7]), ([], []), ([9], [9]), ([10, 6], [10]), ([8, 11], [8, 11]), ([12, 11, 0, 1, 2, 3, 4, 5, 6, 7, 8, 9, 10, 11, 12], [12])])
def impl_eventText.B11 : List Nat := [0, 1, 3, 7, 0, 16, 48, 127, 255, 0, 512, 1648, 4095, 8191]
theorem impl_eventText.tab11 : rtab .any (opsOf Tryd.f17 11) = impl_eventText.T11 := by kernel_rfl
theorem impl_eventText.bits11 : waitsOk impl_eventText.T11.2 impl_eventText.B11 = true := by kernel_rfl
def impl_eventText.T18 : Bool × List (List Nat × List Nat) := (true, [([], []), ([0], [0]), ([1], [1]), ([2], [2]), ([], []), ([4], [4]), ([5], [5]), ([3, 6], [3, 6]), ([7], [7]), ([], []), ([9], [9]), ([10, 6], [10]), ([8, 11], [8, 11]), ([12, 11, 0, 1, 2, 3, 4, 5, 6, 7, 8, 9, 10, 11, 12], [12])])
def impl_eventText.B18 : List Nat := [0, 1, 3, 7, 0, 16, 48, 127, 255, 0, 512, 1648, 4095, 8191]
theorem impl_eventText.tab18 : rtab .any (opsOf Tryd.f17 18) = impl_eventText.T18 := by kernel_rfl
theorem impl_eventText.bits18 : waitsOk impl_eventText.T18.2 impl_eventText.B18 = true := by kernel_rfl
set_option maxHeartbeats 8000000 in
set_option maxRecDepth 100000 in
theorem impl_eventText.calls (k : Nat) (a0_0 : Int) (a0_1 : Int) (a0_2 : Int) (a0_3 : Int) (a0_4 : ByteArray) (a0_5 : ByteArray) (a0_6 : ByteArray) (a0_7 : ByteArray) (a0_8 : ByteArray) (a0_9 : ByteArray) (a0_10 : ByteArray) (a0_11 : ByteArray) (a0_12 : Int) (a0_13 : Int) (a0_14 : Bool) (a0_15 : Bool) (r1 : ByteArray) (r2 : Bool) (w : World) (hM : Amb w) (h : impl_eventText.f k a0_0 a0_1 a0_2 a0_3 a0_4 a0_5 a0_6 a0_7 a0_8 a0_9 a0_10 a0_11 a0_12 a0_13 a0_14 a0_15 = some (r1, r2)) :
    Calls Tryd.prog 17 #[.agg #[.int .i64 a0_0, .int .i64 a0_1, .int .i64 a0_2, .int .i64 a0_3, .string a0_4, .string a0_5, .string a0_6, .string a0_7, .string a0_8, .string a0_9, .string a0_10, .string a0_11, .int .i64 a0_12, .int .i64 a0_13, .bool a0_14, .bool a0_15]] w fun e w' => e = .returned (.tuple #[.string r1, .bool r2]) ∧ Below w.heap.size w w' := by
 have hu31 := Tryd.underlying31; have hu29 := Tryd.underlying29; have HB := Aside0.mk (Below.refl w.heap.size w); have HM := Aside0.mk hM; clear hM; have H : (if a0_0 = 1 then (if 10 + a0_4.size ≤ 9223372036854775807 then (some ((⟨#[101, 110, 100, 112, 111, 105, 110, 116, 115, 32]⟩ : ByteArray) ++ a0_4, true)) else (none)) else (if a0_0 = 2 then (if 9 + a0_4.size ≤ 9223372036854775807 then (some ((⟨#[114, 101, 112, 111, 114, 116, 116, 111, 32]⟩ : ByteArray) ++ a0_4, true)) else (none)) else (if a0_0 = 3 then (if 7 + a0_4.size ≤ 9223372036854775807 then (some ((⟨#[112, 111, 108, 105, 99, 121, 32]⟩ : ByteArray) ++ a0_4, true)) else (none)) else (if a0_0 = 5 then ((impl_decimal.f a0_3).bind fun t186 => (if 5 + t186.size ≤ 9223372036854775807 then (some ((⟨#[116, 105, 99, 107, 32]⟩ : ByteArray) ++ t186, true)) else (none))) else (if a0_0 = 6 then (if 5 + a0_5.size ≤ 9223372036854775807 then (if ((⟨#[115, 101, 110, 100, 32]⟩ : ByteArray) ++ a0_5).size + 1 ≤ 9223372036854775807 then ((impl_decimal.f a0_1).bind fun t187 => (if (((⟨#[115, 101, 110, 100, 32]⟩ : ByteArray) ++ a0_5) ++ (⟨#[32]⟩ : ByteArray)).size + t187.size ≤ 9223372036854775807 then (if ((((⟨#[115, 101, 110, 100, 32]⟩ : ByteArray) ++ a0_5) ++ (⟨#[32]⟩ : ByteArray)) ++ t187).size + 1 ≤ 9223372036854775807 then ((impl_decimal.f a0_2).bind fun t188 => (if (((((⟨#[115, 101, 110, 100, 32]⟩ : ByteArray) ++ a0_5) ++ (⟨#[32]⟩ : ByteArray)) ++ t187) ++ (⟨#[32]⟩ : ByteArray)).size + t188.size ≤ 9223372036854775807 then (if a0_15 = true then (if ((((((⟨#[115, 101, 110, 100, 32]⟩ : ByteArray) ++ a0_5) ++ (⟨#[32]⟩ : ByteArray)) ++ t187) ++ (⟨#[32]⟩ : ByteArray)) ++ t188).size + 5 ≤ 9223372036854775807 then (some (((((((⟨#[115, 101, 110, 100, 32]⟩ : ByteArray) ++ a0_5) ++ (⟨#[32]⟩ : ByteArray)) ++ t187) ++ (⟨#[32]⟩ : ByteArray)) ++ t188) ++ (⟨#[32, 108, 111, 115, 116]⟩ : ByteArray), true)) else (none)) else (some ((((((⟨#[115, 101, 110, 100, 32]⟩ : ByteArray) ++ a0_5) ++ (⟨#[32]⟩ : ByteArray)) ++ t187) ++ (⟨#[32]⟩ : ByteArray)) ++ t188, true))) else (none))) else (none)) else (none))) else (none)) else (none)) else (if a0_14 = true then (impl_eventText.j0 k (⟨#[121, 101, 115]⟩ : ByteArray) a0_6 a0_7 a0_8 a0_9 a0_10 a0_11 a0_12 a0_13 a0_14) else (impl_eventText.j0 k (⟨#[110, 111]⟩ : ByteArray) a0_6 a0_7 a0_8 a0_9 a0_10 a0_11 a0_12 a0_13 a0_14))))))) = some (r1, r2) := h; clear h; by_cases c2 : a0_0 = 1
 ·
  rw [if_pos c2] at H; have c2b0 : (a0_0 == 1) = true := beq_iff_eq.mpr c2; have c2b1 : (a0_0 != 1) = false := bne_eq_false_iff_eq.mpr c2; clear c2; by_cases c3 : 10 + a0_4.size ≤ 9223372036854775807
  ·
   rw [if_pos c3] at H; have c3b0 := eq_true c3; have c3b1 : decide (10 + a0_4.size ≤ 9223372036854775807) = true := decide_eq_true c3; try have c3b2 : (9223372036854775807 < 10 + a0_4.size) = False := eq_false (Nat.not_lt.2 c3)
   try (have c3b3 := c3b0; simp only [ByteArray.size_extract, ByteArray.size_append, bsize_lit, List.length_cons, List.length_nil, Nat.reduceAdd, Nat.zero_add] at c3b3)
   try (have c3b4 := c3b1; simp only [ByteArray.size_extract, ByteArray.size_append, bsize_lit, List.length_cons, List.length_nil, Nat.reduceAdd, Nat.zero_add] at c3b4)
   try (have c3b5 := c3b2; simp only [ByteArray.size_extract, ByteArray.size_append, bsize_lit, List.length_cons, List.length_nil, Nat.reduceAdd, Nat.zero_add] at c3b5)
   simp only [Option.some.injEq, Prod.mk.injEq] at H; obtain ⟨rfl, rfl⟩ := H; go_enter Tryd.func17, Tryd.ntmps17; go_wp2_with (first | ((with_reducible refine gate_dst (N := 1) rfl ?_); refine box_event ?hg (N := 1) ?hd (cs := #[.int .i64 a0_0, .int .i64 a0_1, .int .i64 a0_2, .int .i64 a0_3, .string a0_4, .string a0_5, .string a0_6, .string a0_7, .string a0_8, .string a0_9, .string a0_10, .string a0_11, .int .i64 a0_12, .int .i64 a0_13, .bool a0_14, .bool a0_15]) (t := 31) ?hr ?_; (case hd => rfl); (case hg => rfl); (case hr => first | (go_simp; done) | (go_simp; rfl)); intro gb185 hg w4 hbox hb; have n0_ := belB_ hb; have n1_ := Aside0.mk (hbox); have n2_ := Aside0.mk ((by rw [hg]; exact (below_size (by repeat (first | (with_reducible first | exact HB.out | apply below_alloc | apply pw_below_drewN | apply below_drew1) | exact HB.out))) : w.heap.size ≤ gb185)); have n3_ := Aside0.mk ((by rw [hg]; exact (below_size (by repeat (first | (with_reducible first | exact HB.out | apply below_alloc | apply pw_below_drewN | apply below_drew1) | exact HB.out))) : w.heap.size ≤ gb185)); clear HB; have HB := n0_; have BK185 := n1_; have GW185 := n2_; have GE185 := n3_; clear n0_ n1_ n2_ n3_; clear hb hbox hg; obtain ⟨hcz5_0, hcz5_1, hcz5_2, hcz5_3, hcz5_4, hcz5_5, hcz5_6, hcz5_7, hcz5_8, hcz5_9, hcz5_10, hcz5_11, hcz5_12, hcz5_13, hcz5_14, hcz5_15, hfz5_0, hfz5_1, hfz5_2, hfz5_3, hfz5_4, hfz5_5, hfz5_6, hfz5_7, hfz5_8, hfz5_9, hfz5_10, hfz5_11, hfz5_12, hfz5_13, hfz5_14, hfz5_15⟩ := cz16_ BK185)); go_ret2; exact ⟨retE_, belE_⟩
  · rw [if_neg c3] at H; exact absurd H (by simp)
 ·
  rw [if_neg c2] at H; have c2b0 : (a0_0 == 1) = false := beq_eq_false_iff_ne.mpr c2; have c2b1 : (a0_0 != 1) = true := bne_iff_ne.mpr c2; by_cases c6 : a0_0 = 2
  ·
   rw [if_pos c6] at H; have c6b0 : (a0_0 == 2) = true := beq_iff_eq.mpr c6; have c6b1 : (a0_0 != 2) = false := bne_eq_false_iff_eq.mpr c6; clear c6; by_cases c7 : 9 + a0_4.size ≤ 9223372036854775807
   ·
    rw [if_pos c7] at H; have c7b0 := eq_true c7; have c7b1 : decide (9 + a0_4.size ≤ 9223372036854775807) = true := decide_eq_true c7; try have c7b2 : (9223372036854775807 < 9 + a0_4.size) = False := eq_false (Nat.not_lt.2 c7)
    try (have c7b3 := c7b0; simp only [ByteArray.size_extract, ByteArray.size_append, bsize_lit, List.length_cons, List.length_nil, Nat.reduceAdd, Nat.zero_add] at c7b3)
    try (have c7b4 := c7b1; simp only [ByteArray.size_extract, ByteArray.size_append, bsize_lit, List.length_cons, List.length_nil, Nat.reduceAdd, Nat.zero_add] at c7b4)
    try (have c7b5 := c7b2; simp only [ByteArray.size_extract, ByteArray.size_append, bsize_lit, List.length_cons, List.length_nil, Nat.reduceAdd, Nat.zero_add] at c7b5)
    simp only [Option.some.injEq, Prod.mk.injEq] at H; obtain ⟨rfl, rfl⟩ := H; go_enter Tryd.func17, Tryd.ntmps17; go_wp2_with (first | ((with_reducible refine gate_dst (N := 1) rfl ?_); refine box_event ?hg (N := 1) ?hd (cs := #[.int .i64 a0_0, .int .i64 a0_1, .int .i64 a0_2, .int .i64 a0_3, .string a0_4, .string a0_5, .string a0_6, .string a0_7, .string a0_8, .string a0_9, .string a0_10, .string a0_11, .int .i64 a0_12, .int .i64 a0_13, .bool a0_14, .bool a0_15]) (t := 31) ?hr ?_; (case hd => rfl); (case hg => rfl); (case hr => first | (go_simp; done) | (go_simp; rfl)); intro gb185 hg w8 hbox hb; have n0_ := belB_ hb; have n1_ := Aside0.mk (hbox); have n2_ := Aside0.mk ((by rw [hg]; exact (below_size (by repeat (first | (with_reducible first | exact HB.out | apply below_alloc | apply pw_below_drewN | apply below_drew1) | exact HB.out))) : w.heap.size ≤ gb185)); have n3_ := Aside0.mk ((by rw [hg]; exact (below_size (by repeat (first | (with_reducible first | exact HB.out | apply below_alloc | apply pw_below_drewN | apply below_drew1) | exact HB.out))) : w.heap.size ≤ gb185)); clear HB; have HB := n0_; have BK185 := n1_; have GW185 := n2_; have GE185 := n3_; clear n0_ n1_ n2_ n3_; clear hb hbox hg; obtain ⟨hcz9_0, hcz9_1, hcz9_2, hcz9_3, hcz9_4, hcz9_5, hcz9_6, hcz9_7, hcz9_8, hcz9_9, hcz9_10, hcz9_11, hcz9_12, hcz9_13, hcz9_14, hcz9_15, hfz9_0, hfz9_1, hfz9_2, hfz9_3, hfz9_4, hfz9_5, hfz9_6, hfz9_7, hfz9_8, hfz9_9, hfz9_10, hfz9_11, hfz9_12, hfz9_13, hfz9_14, hfz9_15⟩ := cz16_ BK185)); go_ret2; exact ⟨retE_, belE_⟩
   · rw [if_neg c7] at H; exact absurd H (by simp)
  ·
   rw [if_neg c6] at H; have c6b0 : (a0_0 == 2) = false := beq_eq_false_iff_ne.mpr c6; have c6b1 : (a0_0 != 2) = true := bne_iff_ne.mpr c6; by_cases c10 : a0_0 = 3
   ·
    rw [if_pos c10] at H; have c10b0 : (a0_0 == 3) = true := beq_iff_eq.mpr c10; have c10b1 : (a0_0 != 3) = false := bne_eq_false_iff_eq.mpr c10; clear c10; by_cases c11 : 7 + a0_4.size ≤ 9223372036854775807
    ·
     rw [if_pos c11] at H; have c11b0 := eq_true c11; have c11b1 : decide (7 + a0_4.size ≤ 9223372036854775807) = true := decide_eq_true c11; try have c11b2 : (9223372036854775807 < 7 + a0_4.size) = False := eq_false (Nat.not_lt.2 c11)
     try (have c11b3 := c11b0; simp only [ByteArray.size_extract, ByteArray.size_append, bsize_lit, List.length_cons, List.length_nil, Nat.reduceAdd, Nat.zero_add] at c11b3)
     try (have c11b4 := c11b1; simp only [ByteArray.size_extract, ByteArray.size_append, bsize_lit, List.length_cons, List.length_nil, Nat.reduceAdd, Nat.zero_add] at c11b4)
     try (have c11b5 := c11b2; simp only [ByteArray.size_extract, ByteArray.size_append, bsize_lit, List.length_cons, List.length_nil, Nat.reduceAdd, Nat.zero_add] at c11b5)
     simp only [Option.some.injEq, Prod.mk.injEq] at H; obtain ⟨rfl, rfl⟩ := H; go_enter Tryd.func17, Tryd.ntmps17; go_wp2_with (first | ((with_reducible refine gate_dst (N := 1) rfl ?_); refine box_event ?hg (N := 1) ?hd (cs := #[.int .i64 a0_0, .int .i64 a0_1, .int .i64 a0_2, .int .i64 a0_3, .string a0_4, .string a0_5, .string a0_6, .string a0_7, .string a0_8, .string a0_9, .string a0_10, .string a0_11, .int .i64 a0_12, .int .i64 a0_13, .bool a0_14, .bool a0_15]) (t := 31) ?hr ?_; (case hd => rfl); (case hg => rfl); (case hr => first | (go_simp; done) | (go_simp; rfl)); intro gb185 hg w12 hbox hb; have n0_ := belB_ hb; have n1_ := Aside0.mk (hbox); have n2_ := Aside0.mk ((by rw [hg]; exact (below_size (by repeat (first | (with_reducible first | exact HB.out | apply below_alloc | apply pw_below_drewN | apply below_drew1) | exact HB.out))) : w.heap.size ≤ gb185)); have n3_ := Aside0.mk ((by rw [hg]; exact (below_size (by repeat (first | (with_reducible first | exact HB.out | apply below_alloc | apply pw_below_drewN | apply below_drew1) | exact HB.out))) : w.heap.size ≤ gb185)); clear HB; have HB := n0_; have BK185 := n1_; have GW185 := n2_; have GE185 := n3_; clear n0_ n1_ n2_ n3_; clear hb hbox hg; obtain ⟨hcz13_0, hcz13_1, hcz13_2, hcz13_3, hcz13_4, hcz13_5, hcz13_6, hcz13_7, hcz13_8, hcz13_9, hcz13_10, hcz13_11, hcz13_12, hcz13_13, hcz13_14, hcz13_15, hfz13_0, hfz13_1, hfz13_2, hfz13_3, hfz13_4, hfz13_5, hfz13_6, hfz13_7, hfz13_8, hfz13_9, hfz13_10, hfz13_11, hfz13_12, hfz13_13, hfz13_14, hfz13_15⟩ := cz16_ BK185)); go_ret2; exact ⟨retE_, belE_⟩
    · rw [if_neg c11] at H; exact absurd H (by simp)
   ·
    rw [if_neg c10] at H; have c10b0 : (a0_0 == 3) = false := beq_eq_false_iff_ne.mpr c10; have c10b1 : (a0_0 != 3) = true := bne_iff_ne.mpr c10; by_cases c14 : a0_0 = 5
    ·
     rw [if_pos c14] at H; have c14b0 : (a0_0 == 5) = true := beq_iff_eq.mpr c14; have c14b1 : (a0_0 != 5) = false := bne_eq_false_iff_eq.mpr c14; clear c14; obtain ⟨t186, A15, H⟩ := bindE_ H; by_cases c16 : 5 + t186.size ≤ 9223372036854775807
     ·
      rw [if_pos c16] at H; have c16b0 := eq_true c16; have c16b1 : decide (5 + t186.size ≤ 9223372036854775807) = true := decide_eq_true c16; try have c16b2 : (9223372036854775807 < 5 + t186.size) = False := eq_false (Nat.not_lt.2 c16)
      try (have c16b3 := c16b0; simp only [ByteArray.size_extract, ByteArray.size_append, bsize_lit, List.length_cons, List.length_nil, Nat.reduceAdd, Nat.zero_add] at c16b3)
      try (have c16b4 := c16b1; simp only [ByteArray.size_extract, ByteArray.size_append, bsize_lit, List.length_cons, List.length_nil, Nat.reduceAdd, Nat.zero_add] at c16b4)
      try (have c16b5 := c16b2; simp only [ByteArray.size_extract, ByteArray.size_append, bsize_lit, List.length_cons, List.length_nil, Nat.reduceAdd, Nat.zero_add] at c16b5)
      simp only [Option.some.injEq, Prod.mk.injEq] at H; obtain ⟨rfl, rfl⟩ := H; go_enter Tryd.func17, Tryd.ntmps17; go_wp2_with (first | ((with_reducible refine gate_dst (N := 1) rfl ?_); refine box_event ?hg (N := 1) ?hd (cs := #[.int .i64 a0_0, .int .i64 a0_1, .int .i64 a0_2, .int .i64 a0_3, .string a0_4, .string a0_5, .string a0_6, .string a0_7, .string a0_8, .string a0_9, .string a0_10, .string a0_11, .int .i64 a0_12, .int .i64 a0_13, .bool a0_14, .bool a0_15]) (t := 31) ?hr ?_; (case hd => rfl); (case hg => rfl); (case hr => first | (go_simp; done) | (go_simp; rfl)); intro gb185 hg w17 hbox hb; have n0_ := belB_ hb; have n1_ := Aside0.mk (hbox); have n2_ := Aside0.mk ((by rw [hg]; exact (below_size (by repeat (first | (with_reducible first | exact HB.out | apply below_alloc | apply pw_below_drewN | apply below_drew1) | exact HB.out))) : w.heap.size ≤ gb185)); have n3_ := Aside0.mk ((by rw [hg]; exact (below_size (by repeat (first | (with_reducible first | exact HB.out | apply below_alloc | apply pw_below_drewN | apply below_drew1) | exact HB.out))) : w.heap.size ≤ gb185)); clear HB; have HB := n0_; have BK185 := n1_; have GW185 := n2_; have GE185 := n3_; clear n0_ n1_ n2_ n3_; clear hb hbox hg; obtain ⟨hcz18_0, hcz18_1, hcz18_2, hcz18_3, hcz18_4, hcz18_5, hcz18_6, hcz18_7, hcz18_8, hcz18_9, hcz18_10, hcz18_11, hcz18_12, hcz18_13, hcz18_14, hcz18_15, hfz18_0, hfz18_1, hfz18_2, hfz18_3, hfz18_4, hfz18_5, hfz18_6, hfz18_7, hfz18_8, hfz18_9, hfz18_10, hfz18_11, hfz18_12, hfz18_13, hfz18_14, hfz18_15⟩ := cz16_ BK185) | ((with_reducible refine gate_callee (f := 32) rfl ?_); refine cU_ (some 31) Tryd.func32 #[.int .i64 a0_3] ?_; (with_reducible refine (impl_decimal.calls a0_3 t186 _ ?side1 A15.out).mono ?_); (case side1 => exact Amb.on HM.out (by repeat (first | (with_reducible first | exact HB.out | apply below_alloc | apply pw_below_drewN | apply below_drew1 | refine below_set ?_ GE185.out) | exact HB.out))); rintro e w19 ⟨rfl, hb⟩; refine ⟨_, rfl, ?_⟩; replace BK185 := blkK_ BK185 hb; replace HB := belB_ hb; (try clear hb))); go_ret2; exact ⟨retE_, belE_⟩
     · rw [if_neg c16] at H; exact absurd H (by simp)
    ·
     rw [if_neg c14] at H; have c14b0 : (a0_0 == 5) = false := beq_eq_false_iff_ne.mpr c14; have c14b1 : (a0_0 != 5) = true := bne_iff_ne.mpr c14; by_cases c20 : a0_0 = 6
     ·
      rw [if_pos c20] at H; have c20b0 : (a0_0 == 6) = true := beq_iff_eq.mpr c20; have c20b1 : (a0_0 != 6) = false := bne_eq_false_iff_eq.mpr c20; clear c20; by_cases c21 : 5 + a0_5.size ≤ 9223372036854775807
      ·
       rw [if_pos c21] at H; have c21b0 := eq_true c21; have c21b1 : decide (5 + a0_5.size ≤ 9223372036854775807) = true := decide_eq_true c21; try have c21b2 : (9223372036854775807 < 5 + a0_5.size) = False := eq_false (Nat.not_lt.2 c21)
       try (have c21b3 := c21b0; simp only [ByteArray.size_extract, ByteArray.size_append, bsize_lit, List.length_cons, List.length_nil, Nat.reduceAdd, Nat.zero_add] at c21b3)
       try (have c21b4 := c21b1; simp only [ByteArray.size_extract, ByteArray.size_append, bsize_lit, List.length_cons, List.length_nil, Nat.reduceAdd, Nat.zero_add] at c21b4)
       try (have c21b5 := c21b2; simp only [ByteArray.size_extract, ByteArray.size_append, bsize_lit, List.length_cons, List.length_nil, Nat.reduceAdd, Nat.zero_add] at c21b5)
       by_cases c22 : ((⟨#[115, 101, 110, 100, 32]⟩ : ByteArray) ++ a0_5).size + 1 ≤ 9223372036854775807
       ·
        rw [if_pos c22] at H; have c22b0 := eq_true c22; have c22b1 : decide (((⟨#[115, 101, 110, 100, 32]⟩ : ByteArray) ++ a0_5).size + 1 ≤ 9223372036854775807) = true := decide_eq_true c22; try have c22b2 : (9223372036854775807 < ((⟨#[115, 101, 110, 100, 32]⟩ : ByteArray) ++ a0_5).size + 1) = False := eq_false (Nat.not_lt.2 c22)
        try (have c22b3 := c22b0; simp only [ByteArray.size_extract, ByteArray.size_append, bsize_lit, List.length_cons, List.length_nil, Nat.reduceAdd, Nat.zero_add] at c22b3)
        try (have c22b4 := c22b1; simp only [ByteArray.size_extract, ByteArray.size_append, bsize_lit, List.length_cons, List.length_nil, Nat.reduceAdd, Nat.zero_add] at c22b4)
        try (have c22b5 := c22b2; simp only [ByteArray.size_extract, ByteArray.size_append, bsize_lit, List.length_cons, List.length_nil, Nat.reduceAdd, Nat.zero_add] at c22b5)
        obtain ⟨t187, A23, H⟩ := bindE_ H; by_cases c24 : (((⟨#[115, 101, 110, 100, 32]⟩ : ByteArray) ++ a0_5) ++ (⟨#[32]⟩ : ByteArray)).size + t187.size ≤ 9223372036854775807
        ·
         rw [if_pos c24] at H; have c24b0 := eq_true c24; have c24b1 : decide ((((⟨#[115, 101, 110, 100, 32]⟩ : ByteArray) ++ a0_5) ++ (⟨#[32]⟩ : ByteArray)).size + t187.size ≤ 9223372036854775807) = true := decide_eq_true c24; try have c24b2 : (9223372036854775807 < (((⟨#[115, 101, 110, 100, 32]⟩ : ByteArray) ++ a0_5) ++ (⟨#[32]⟩ : ByteArray)).size + t187.size) = False := eq_false (Nat.not_lt.2 c24)
         try (have c24b3 := c24b0; simp only [ByteArray.size_extract, ByteArray.size_append, bsize_lit, List.length_cons, List.length_nil, Nat.reduceAdd, Nat.zero_add] at c24b3)
         try (have c24b4 := c24b1; simp only [ByteArray.size_extract, ByteArray.size_append, bsize_lit, List.length_cons, List.length_nil, Nat.reduceAdd, Nat.zero_add] at c24b4)
         try (have c24b5 := c24b2; simp only [ByteArray.size_extract, ByteArray.size_append, bsize_lit, List.length_cons, List.length_nil, Nat.reduceAdd, Nat.zero_add] at c24b5)
         by_cases c25 : ((((⟨#[115, 101, 110, 100, 32]⟩ : ByteArray) ++ a0_5) ++ (⟨#[32]⟩ : ByteArray)) ++ t187).size + 1 ≤ 9223372036854775807
         ·
          rw [if_pos c25] at H; have c25b0 := eq_true c25; have c25b1 : decide (((((⟨#[115, 101, 110, 100, 32]⟩ : ByteArray) ++ a0_5) ++ (⟨#[32]⟩ : ByteArray)) ++ t187).size + 1 ≤ 9223372036854775807) = true := decide_eq_true c25; try have c25b2 : (9223372036854775807 < ((((⟨#[115, 101, 110, 100, 32]⟩ : ByteArray) ++ a0_5) ++ (⟨#[32]⟩ : ByteArray)) ++ t187).size + 1) = False := eq_false (Nat.not_lt.2 c25)
          try (have c25b3 := c25b0; simp only [ByteArray.size_extract, ByteArray.size_append, bsize_lit, List.length_cons, List.length_nil, Nat.reduceAdd, Nat.zero_add] at c25b3)
          try (have c25b4 := c25b1; simp only [ByteArray.size_extract, ByteArray.size_append, bsize_lit, List.length_cons, List.length_nil, Nat.reduceAdd, Nat.zero_add] at c25b4)
          try (have c25b5 := c25b2; simp only [ByteArray.size_extract, ByteArray.size_append, bsize_lit, List.length_cons, List.length_nil, Nat.reduceAdd, Nat.zero_add] at c25b5)
          obtain ⟨t188, A26, H⟩ := bindE_ H; by_cases c27 : (((((⟨#[115, 101, 110, 100, 32]⟩ : ByteArray) ++ a0_5) ++ (⟨#[32]⟩ : ByteArray)) ++ t187) ++ (⟨#[32]⟩ : ByteArray)).size + t188.size ≤ 9223372036854775807
          ·
           rw [if_pos c27] at H; have c27b0 := eq_true c27; have c27b1 : decide ((((((⟨#[115, 101, 110, 100, 32]⟩ : ByteArray) ++ a0_5) ++ (⟨#[32]⟩ : ByteArray)) ++ t187) ++ (⟨#[32]⟩ : ByteArray)).size + t188.size ≤ 9223372036854775807) = true := decide_eq_true c27; try have c27b2 : (9223372036854775807 < (((((⟨#[115, 101, 110, 100, 32]⟩ : ByteArray) ++ a0_5) ++ (⟨#[32]⟩ : ByteArray)) ++ t187) ++ (⟨#[32]⟩ : ByteArray)).size + t188.size) = False := eq_false (Nat.not_lt.2 c27)
           try (have c27b3 := c27b0; simp only [ByteArray.size_extract, ByteArray.size_append, bsize_lit, List.length_cons, List.length_nil, Nat.reduceAdd, Nat.zero_add] at c27b3)
           try (have c27b4 := c27b1; simp only [ByteArray.size_extract, ByteArray.size_append, bsize_lit, List.length_cons, List.length_nil, Nat.reduceAdd, Nat.zero_add] at c27b4)
           try (have c27b5 := c27b2; simp only [ByteArray.size_extract, ByteArray.size_append, bsize_lit, List.length_cons, List.length_nil, Nat.reduceAdd, Nat.zero_add] at c27b5)
           by_cases c28 : a0_15 = true
           ·
            subst c28; replace H := ifT_ H; by_cases c29 : ((((((⟨#[115, 101, 110, 100, 32]⟩ : ByteArray) ++ a0_5) ++ (⟨#[32]⟩ : ByteArray)) ++ t187) ++ (⟨#[32]⟩ : ByteArray)) ++ t188).size + 5 ≤ 9223372036854775807
            ·
             rw [if_pos c29] at H; have c29b0 := eq_true c29; have c29b1 : decide (((((((⟨#[115, 101, 110, 100, 32]⟩ : ByteArray) ++ a0_5) ++ (⟨#[32]⟩ : ByteArray)) ++ t187) ++ (⟨#[32]⟩ : ByteArray)) ++ t188).size + 5 ≤ 9223372036854775807) = true := decide_eq_true c29; try have c29b2 : (9223372036854775807 < ((((((⟨#[115, 101, 110, 100, 32]⟩ : ByteArray) ++ a0_5) ++ (⟨#[32]⟩ : ByteArray)) ++ t187) ++ (⟨#[32]⟩ : ByteArray)) ++ t188).size + 5) = False := eq_false (Nat.not_lt.2 c29)
             try (have c29b3 := c29b0; simp only [ByteArray.size_extract, ByteArray.size_append, bsize_lit, List.length_cons, List.length_nil, Nat.reduceAdd, Nat.zero_add] at c29b3)
             try (have c29b4 := c29b1; simp only [ByteArray.size_extract, ByteArray.size_append, bsize_lit, List.length_cons, List.length_nil, Nat.reduceAdd, Nat.zero_add] at c29b4)
             try (have c29b5 := c29b2; simp only [ByteArray.size_extract, ByteArray.size_append, bsize_lit, List.length_cons, List.length_nil, Nat.reduceAdd, Nat.zero_add] at c29b5)
             simp only [Option.some.injEq, Prod.mk.injEq] at H; obtain ⟨rfl, rfl⟩ := H; go_enter Tryd.func17, Tryd.ntmps17; try go_wp2_with (first | ((with_reducible refine gate_dst (N := 1) rfl ?_); refine box_event ?hg (N := 1) ?hd (cs := #[.int .i64 a0_0, .int .i64 a0_1, .int .i64 a0_2, .int .i64 a0_3, .string a0_4, .string a0_5, .string a0_6, .string a0_7, .string a0_8, .string a0_9, .string a0_10, .string a0_11, .int .i64 a0_12, .int .i64 a0_13, .bool a0_14, .bool true]) (t := 31) ?hr ?_; (case hd => rfl); (case hg => rfl); (case hr => first | (go_simp; done) | (go_simp; rfl)); intro gb185 hg w30 hbox hb; have n0_ := belB_ hb; have n1_ := Aside0.mk (hbox); have n2_ := Aside0.mk ((by rw [hg]; exact (below_size (by repeat (first | (with_reducible first | exact HB.out | apply below_alloc | apply pw_below_drewN | apply below_drew1) | exact HB.out))) : w.heap.size ≤ gb185)); have n3_ := Aside0.mk ((by rw [hg]; exact (below_size (by repeat (first | (with_reducible first | exact HB.out | apply below_alloc | apply pw_below_drewN | apply below_drew1) | exact HB.out))) : w.heap.size ≤ gb185)); clear HB; have HB := n0_; have BK185 := n1_; have GW185 := n2_; have GE185 := n3_; clear n0_ n1_ n2_ n3_; clear hb hbox hg; obtain ⟨hcz31_0, hcz31_1, hcz31_2, hcz31_3, hcz31_4, hcz31_5, hcz31_6, hcz31_7, hcz31_8, hcz31_9, hcz31_10, hcz31_11, hcz31_12, hcz31_13, hcz31_14, hcz31_15, hfz31_0, hfz31_1, hfz31_2, hfz31_3, hfz31_4, hfz31_5, hfz31_6, hfz31_7, hfz31_8, hfz31_9, hfz31_10, hfz31_11, hfz31_12, hfz31_13, hfz31_14, hfz31_15⟩ := cz16_ BK185))
             replace BK185 := Aside0.mk (blk_drew BK185.out); replace HB := Aside0.mk (below_drew1 HB.out); refine startU_ (n := 14) (S := fun w' => w'.cell? ⟨gb185, 0, none⟩ = some (.int .i64 a0_0) ∧ w'.cell? ⟨gb185, 1, none⟩ = some (.int .i64 a0_1) ∧ w'.cell? ⟨gb185, 2, none⟩ = some (.int .i64 a0_2) ∧ w'.cell? ⟨gb185, 3, none⟩ = some (.int .i64 a0_3) ∧ w'.cell? ⟨gb185, 4, none⟩ = some (.string a0_4) ∧ w'.cell? ⟨gb185, 5, none⟩ = some (.string a0_5) ∧ w'.cell? ⟨gb185, 6, none⟩ = some (.string a0_6) ∧ w'.cell? ⟨gb185, 7, none⟩ = some (.string a0_7) ∧ w'.cell? ⟨gb185, 8, none⟩ = some (.string a0_8) ∧ w'.cell? ⟨gb185, 9, none⟩ = some (.string a0_9) ∧ w'.cell? ⟨gb185, 10, none⟩ = some (.string a0_10) ∧ w'.cell? ⟨gb185, 11, none⟩ = some (.string a0_11) ∧ w'.cell? ⟨gb185, 12, none⟩ = some (.int .i64 a0_12) ∧ w'.cell? ⟨gb185, 13, none⟩ = some (.int .i64 a0_13) ∧ w'.cell? ⟨gb185, 14, none⟩ = some (.bool a0_14) ∧ w'.cell? ⟨gb185, 15, none⟩ = some (.bool true)) (ds := []) (held16_ BK185.out) (fun hHeld => ?_); refine with_tabW impl_eventText.tab11 impl_eventText.bits11 (fun HT_ HW_ => ?_); generalize w30.drew = w32 at BK185 HB hHeld ⊢; refine pU_ ?_; refine pUX_ 4 ?_; refine pUX_ 9 ?_; refine tU_ ?_; iterate 2 refine pU_ ?_
             refine aU_ ?_; refine tU_ ?_; refine tUX_ 10 ?_; refine oU_ (fun K hK => ?_); refine gU_ Tryd.func32 #[.int .i64 a0_1] ?_; with_reducible refine (impl_decimal.calls a0_1 t187 _ ?side1 A23.out).mono ?_
             (case side1 => exact Amb.on HM.out (by repeat (first | (with_reducible first | exact HB.out | apply below_alloc | apply pw_below_drewN | apply below_drew1 | refine below_set ?_ GE185.out) | exact HB.out))); rintro e w33 ⟨rfl, hb⟩; refine ⟨_, rfl, ?_⟩; replace BK185 := blkK_ BK185 hb; replace HB := belB_ hb; (try clear hb); refine hK.out _ _ (held16_ BK185.out) (fun hHeld => ?_); clear hK K; refine nU_ ?_; iterate 2 refine pU_ ?_
             iterate 2 refine aU_ ?_
             refine oU_ (fun K hK => ?_); refine gU_ Tryd.func32 #[.int .i64 a0_2] ?_; with_reducible refine (impl_decimal.calls a0_2 t188 _ ?side1 A26.out).mono ?_
             (case side1 => exact Amb.on HM.out (by repeat (first | (with_reducible first | exact HB.out | apply below_alloc | apply pw_below_drewN | apply below_drew1 | refine below_set ?_ GE185.out) | exact HB.out))); rintro e w34 ⟨rfl, hb⟩; refine ⟨_, rfl, ?_⟩; replace BK185 := blkK_ BK185 hb; replace HB := belB_ hb; (try clear hb); refine hK.out _ _ (held16_ BK185.out) (fun hHeld => ?_); clear hK K; refine nU_ ?_; iterate 2 refine pU_ ?_
             refine doneU_ ?_; obtain ⟨hcz35_0, hcz35_1, hcz35_2, hcz35_3, hcz35_4, hcz35_5, hcz35_6, hcz35_7, hcz35_8, hcz35_9, hcz35_10, hcz35_11, hcz35_12, hcz35_13, hcz35_14, hcz35_15, hfz35_0, hfz35_1, hfz35_2, hfz35_3, hfz35_4, hfz35_5, hfz35_6, hfz35_7, hfz35_8, hfz35_9, hfz35_10, hfz35_11, hfz35_12, hfz35_13, hfz35_14, hfz35_15⟩ := cz16_ BK185; try go_wp2
             go_ret2; exact ⟨retE_, belE_⟩
            · rw [if_neg c29] at H; exact absurd H (by simp)
           ·
            replace c28 := Bool.eq_false_iff.mpr c28; subst c28; replace H := ifF_ H; simp only [Option.some.injEq, Prod.mk.injEq] at H; obtain ⟨rfl, rfl⟩ := H; go_enter Tryd.func17, Tryd.ntmps17; try go_wp2_with (first | ((with_reducible refine gate_dst (N := 1) rfl ?_); refine box_event ?hg (N := 1) ?hd (cs := #[.int .i64 a0_0, .int .i64 a0_1, .int .i64 a0_2, .int .i64 a0_3, .string a0_4, .string a0_5, .string a0_6, .string a0_7, .string a0_8, .string a0_9, .string a0_10, .string a0_11, .int .i64 a0_12, .int .i64 a0_13, .bool a0_14, .bool false]) (t := 31) ?hr ?_; (case hd => rfl); (case hg => rfl); (case hr => first | (go_simp; done) | (go_simp; rfl)); intro gb185 hg w36 hbox hb; have n0_ := belB_ hb; have n1_ := Aside0.mk (hbox); have n2_ := Aside0.mk ((by rw [hg]; exact (below_size (by repeat (first | (with_reducible first | exact HB.out | apply below_alloc | apply pw_below_drewN | apply below_drew1) | exact HB.out))) : w.heap.size ≤ gb185)); have n3_ := Aside0.mk ((by rw [hg]; exact (below_size (by repeat (first | (with_reducible first | exact HB.out | apply below_alloc | apply pw_below_drewN | apply below_drew1) | exact HB.out))) : w.heap.size ≤ gb185)); clear HB; have HB := n0_; have BK185 := n1_; have GW185 := n2_; have GE185 := n3_; clear n0_ n1_ n2_ n3_; clear hb hbox hg; obtain ⟨hcz37_0, hcz37_1, hcz37_2, hcz37_3, hcz37_4, hcz37_5, hcz37_6, hcz37_7, hcz37_8, hcz37_9, hcz37_10, hcz37_11, hcz37_12, hcz37_13, hcz37_14, hcz37_15, hfz37_0, hfz37_1, hfz37_2, hfz37_3, hfz37_4, hfz37_5, hfz37_6, hfz37_7, hfz37_8, hfz37_9, hfz37_10, hfz37_11, hfz37_12, hfz37_13, hfz37_14, hfz37_15⟩ := cz16_ BK185))
            replace BK185 := Aside0.mk (blk_drew BK185.out); replace HB := Aside0.mk (below_drew1 HB.out); refine startU_ (n := 14) (S := fun w' => w'.cell? ⟨gb185, 0, none⟩ = some (.int .i64 a0_0) ∧ w'.cell? ⟨gb185, 1, none⟩ = some (.int .i64 a0_1) ∧ w'.cell? ⟨gb185, 2, none⟩ = some (.int .i64 a0_2) ∧ w'.cell? ⟨gb185, 3, none⟩ = some (.int .i64 a0_3) ∧ w'.cell? ⟨gb185, 4, none⟩ = some (.string a0_4) ∧ w'.cell? ⟨gb185, 5, none⟩ = some (.string a0_5) ∧ w'.cell? ⟨gb185, 6, none⟩ = some (.string a0_6) ∧ w'.cell? ⟨gb185, 7, none⟩ = some (.string a0_7) ∧ w'.cell? ⟨gb185, 8, none⟩ = some (.string a0_8) ∧ w'.cell? ⟨gb185, 9, none⟩ = some (.string a0_9) ∧ w'.cell? ⟨gb185, 10, none⟩ = some (.string a0_10) ∧ w'.cell? ⟨gb185, 11, none⟩ = some (.string a0_11) ∧ w'.cell? ⟨gb185, 12, none⟩ = some (.int .i64 a0_12) ∧ w'.cell? ⟨gb185, 13, none⟩ = some (.int .i64 a0_13) ∧ w'.cell? ⟨gb185, 14, none⟩ = some (.bool a0_14) ∧ w'.cell? ⟨gb185, 15, none⟩ = some (.bool false)) (ds := []) (held16_ BK185.out) (fun hHeld => ?_); refine with_tabW impl_eventText.tab11 impl_eventText.bits11 (fun HT_ HW_ => ?_); generalize w36.drew = w38 at BK185 HB hHeld ⊢; refine pU_ ?_; refine pUX_ 4 ?_; refine pUX_ 9 ?_; refine tU_ ?_; iterate 2 refine pU_ ?_
            refine aU_ ?_; refine tU_ ?_; refine tUX_ 10 ?_; refine oU_ (fun K hK => ?_); refine gU_ Tryd.func32 #[.int .i64 a0_1] ?_; with_reducible refine (impl_decimal.calls a0_1 t187 _ ?side1 A23.out).mono ?_
            (case side1 => exact Amb.on HM.out (by repeat (first | (with_reducible first | exact HB.out | apply below_alloc | apply pw_below_drewN | apply below_drew1 | refine below_set ?_ GE185.out) | exact HB.out))); rintro e w39 ⟨rfl, hb⟩; refine ⟨_, rfl, ?_⟩; replace BK185 := blkK_ BK185 hb; replace HB := belB_ hb; (try clear hb); refine hK.out _ _ (held16_ BK185.out) (fun hHeld => ?_); clear hK K; refine nU_ ?_; iterate 2 refine pU_ ?_
            iterate 2 refine aU_ ?_
            refine oU_ (fun K hK => ?_); refine gU_ Tryd.func32 #[.int .i64 a0_2] ?_; with_reducible refine (impl_decimal.calls a0_2 t188 _ ?side1 A26.out).mono ?_
            (case side1 => exact Amb.on HM.out (by repeat (first | (with_reducible first | exact HB.out | apply below_alloc | apply pw_below_drewN | apply below_drew1 | refine below_set ?_ GE185.out) | exact HB.out))); rintro e w40 ⟨rfl, hb⟩; refine ⟨_, rfl, ?_⟩; replace BK185 := blkK_ BK185 hb; replace HB := belB_ hb; (try clear hb); refine hK.out _ _ (held16_ BK185.out) (fun hHeld => ?_); clear hK K; refine nU_ ?_; iterate 2 refine pU_ ?_
            refine doneU_ ?_; obtain ⟨hcz41_0, hcz41_1, hcz41_2, hcz41_3, hcz41_4, hcz41_5, hcz41_6, hcz41_7, hcz41_8, hcz41_9, hcz41_10, hcz41_11, hcz41_12, hcz41_13, hcz41_14, hcz41_15, hfz41_0, hfz41_1, hfz41_2, hfz41_3, hfz41_4, hfz41_5, hfz41_6, hfz41_7, hfz41_8, hfz41_9, hfz41_10, hfz41_11, hfz41_12, hfz41_13, hfz41_14, hfz41_15⟩ := cz16_ BK185; try go_wp2
            go_ret2; exact ⟨retE_, belE_⟩
          · rw [if_neg c27] at H; exact absurd H (by simp)
         · rw [if_neg c25] at H; exact absurd H (by simp)
        · rw [if_neg c24] at H; exact absurd H (by simp)
       · rw [if_neg c22] at H; exact absurd H (by simp)
      · rw [if_neg c21] at H; exact absurd H (by simp)
     ·
      rw [if_neg c20] at H; have c20b0 : (a0_0 == 6) = false := beq_eq_false_iff_ne.mpr c20; have c20b1 : (a0_0 != 6) = true := bne_iff_ne.mpr c20; have HC42 := Aside0.mk H; clear H; go_enter Tryd.func17, Tryd.ntmps17; go_upto_if 56 with (first | ((with_reducible refine gate_dst (N := 1) rfl ?_); refine box_event ?hg (N := 1) ?hd (cs := #[.int .i64 a0_0, .int .i64 a0_1, .int .i64 a0_2, .int .i64 a0_3, .string a0_4, .string a0_5, .string a0_6, .string a0_7, .string a0_8, .string a0_9, .string a0_10, .string a0_11, .int .i64 a0_12, .int .i64 a0_13, .bool a0_14, .bool a0_15]) (t := 31) ?hr ?_; (case hd => rfl); (case hg => rfl); (case hr => first | (go_simp; done) | (go_simp; rfl)); intro gb185 hg w43 hbox hb; have n0_ := belB_ hb; have n1_ := Aside0.mk (hbox); have n2_ := Aside0.mk ((by rw [hg]; exact (below_size (by repeat (first | (with_reducible first | exact HB.out | apply below_alloc | apply pw_below_drewN | apply below_drew1) | exact HB.out))) : w.heap.size ≤ gb185)); have n3_ := Aside0.mk ((by rw [hg]; exact (below_size (by repeat (first | (with_reducible first | exact HB.out | apply below_alloc | apply pw_below_drewN | apply below_drew1) | exact HB.out))) : w.heap.size ≤ gb185)); clear HB; have HB := n0_; have BK185 := n1_; have GW185 := n2_; have GE185 := n3_; clear n0_ n1_ n2_ n3_; clear hb hbox hg; obtain ⟨hcz44_0, hcz44_1, hcz44_2, hcz44_3, hcz44_4, hcz44_5, hcz44_6, hcz44_7, hcz44_8, hcz44_9, hcz44_10, hcz44_11, hcz44_12, hcz44_13, hcz44_14, hcz44_15, hfz44_0, hfz44_1, hfz44_2, hfz44_3, hfz44_4, hfz44_5, hfz44_6, hfz44_7, hfz44_8, hfz44_9, hfz44_10, hfz44_11, hfz44_12, hfz44_13, hfz44_14, hfz44_15⟩ := cz16_ BK185) | ((with_reducible refine gate_dst (N := 5) rfl ?_); refine box_event ?hg (N := 5) ?hd (cs := #[.string (⟨#[]⟩ : ByteArray), .string (⟨#[]⟩ : ByteArray), .string (⟨#[]⟩ : ByteArray), .string (⟨#[]⟩ : ByteArray), .string (⟨#[]⟩ : ByteArray), .string (⟨#[]⟩ : ByteArray), .int .i64 0, .int .i64 0, .bool false]) (t := 29) ?hr ?_; (case hd => rfl); (case hg => rfl); (case hr => first | (go_simp; done) | (go_simp; rfl)); intro gb189 hg w45 hbox hb; have n0_ := blkB_ (g := gb185) (o := .cells #[.int .i64 a0_0, .int .i64 a0_1, .int .i64 a0_2, .int .i64 a0_3, .string a0_4, .string a0_5, .string a0_6, .string a0_7, .string a0_8, .string a0_9, .string a0_10, .string a0_11, .int .i64 a0_12, .int .i64 a0_13, .bool a0_14, .bool a0_15] 31 (0, 0)) hb; have n1_ := belB_ hb; have n2_ := Aside0.mk (hbox); have n3_ := Aside0.mk ((by rw [hg]; exact (below_size (by repeat (first | (with_reducible first | exact HB.out | apply below_alloc | apply pw_below_drewN | apply below_drew1 | refine below_set ?_ GE185.out) | exact HB.out))) : w.heap.size ≤ gb189)); have n4_ := Aside0.mk ((by rw [hg]; exact (below_size (by repeat (first | (with_reducible first | exact HB.out | apply below_alloc | apply pw_below_drewN | apply below_drew1 | refine below_set ?_ GE185.out) | exact HB.out))) : w.heap.size ≤ gb189)); have n5_ := Aside0.mk ((by rw [hg]; exact Nat.ne_of_lt (blk_lt (g := gb185) (o := .cells #[.int .i64 a0_0, .int .i64 a0_1, .int .i64 a0_2, .int .i64 a0_3, .string a0_4, .string a0_5, .string a0_6, .string a0_7, .string a0_8, .string a0_9, .string a0_10, .string a0_11, .int .i64 a0_12, .int .i64 a0_13, .bool a0_14, .bool a0_15] 31 (0, 0)) (by (with_reducible repeat (first | refine blk_drewN ?_ _ | refine blk_drew ?_ | refine blk_alloc ?_ _)); exact BK185.out)) : gb185 ≠ gb189)); have n6_ := Aside0.mk ((by rw [hg]; exact Nat.ne_of_gt (blk_lt (g := gb185) (o := .cells #[.int .i64 a0_0, .int .i64 a0_1, .int .i64 a0_2, .int .i64 a0_3, .string a0_4, .string a0_5, .string a0_6, .string a0_7, .string a0_8, .string a0_9, .string a0_10, .string a0_11, .int .i64 a0_12, .int .i64 a0_13, .bool a0_14, .bool a0_15] 31 (0, 0)) (by (with_reducible repeat (first | refine blk_drewN ?_ _ | refine blk_drew ?_ | refine blk_alloc ?_ _)); exact BK185.out)) : gb189 ≠ gb185)); clear BK185; clear HB; have BK185 := n0_; have HB := n1_; have BK189 := n2_; have GW189 := n3_; have GE189 := n4_; have NB185_189 := n5_; have NB189_185 := n6_; clear n0_ n1_ n2_ n3_ n4_ n5_ n6_; clear hb hbox hg; have hnb46 := NB189_185.out; have hnc46 := NB185_189.out; obtain ⟨hcz47_0, hcz47_1, hcz47_2, hcz47_3, hcz47_4, hcz47_5, hcz47_6, hcz47_7, hcz47_8, hfz47_0, hfz47_1, hfz47_2, hfz47_3, hfz47_4, hfz47_5, hfz47_6, hfz47_7, hfz47_8⟩ := cz9_ BK189))
      (try simp only [Act.put, List.setIfInBounds_toArray, List.set_cons_zero, List.set_cons_succ]); go_cut [6] (fun v6 wc => ∃ (kq : Nat) (x6_41 : ByteArray), v6 = .string x6_41 ∧ Aside0 (impl_eventText.j0 kq x6_41 a0_6 a0_7 a0_8 a0_9 a0_10 a0_11 a0_12 a0_13 a0_14 = some (r1, r2)) ∧ Aside0 (kq ≤ k) ∧ Aside0 (wc.heap[gb185]? = some (.cells #[.int .i64 a0_0, .int .i64 a0_1, .int .i64 a0_2, .int .i64 a0_3, .string a0_4, .string a0_5, .string a0_6, .string a0_7, .string a0_8, .string a0_9, .string a0_10, .string a0_11, .int .i64 a0_12, .int .i64 a0_13, .bool a0_14, .bool a0_15] 31 (0, 0))) ∧ Aside0 (wc.heap[gb189]? = some (.cells #[.string a0_6, .string a0_7, .string a0_8, .string a0_9, .string a0_10, .string a0_11, .int .i64 a0_12, .int .i64 a0_13, .bool a0_14] 29 (0, 0))) ∧ Aside0 (Below w.heap.size w wc))
      case first =>
       have H := HC42.out; clear HC42; by_cases c48 : a0_14 = true
       ·
        subst c48; replace H := ifT_ H; have H' := Aside0.mk H; clear H; go_wp2; go_meet
        case rel => exact ⟨_, ((⟨#[121, 101, 115]⟩ : ByteArray)), eqE_, H', ⟨leE_⟩, ⟨farE_⟩, ⟨by (with_reducible repeat (first | refine blk_drewN ?_ _ | refine blk_drew ?_ | refine blk_alloc ?_ _)); refine blk_put (cs := #[.string a0_6, .string a0_7, .string a0_8, .string a0_9, .string a0_10, .string a0_11, .int .i64 a0_12, .int .i64 a0_13, .bool false]) ?_ 8 _ rfl; (with_reducible repeat (first | refine blk_drewN ?_ _ | refine blk_drew ?_ | refine blk_alloc ?_ _)); refine blk_put (cs := #[.string a0_6, .string a0_7, .string a0_8, .string a0_9, .string a0_10, .string a0_11, .int .i64 a0_12, .int .i64 0, .bool false]) ?_ 7 _ rfl; (with_reducible repeat (first | refine blk_drewN ?_ _ | refine blk_drew ?_ | refine blk_alloc ?_ _)); refine blk_put (cs := #[.string a0_6, .string a0_7, .string a0_8, .string a0_9, .string a0_10, .string a0_11, .int .i64 0, .int .i64 0, .bool false]) ?_ 6 _ rfl; (with_reducible repeat (first | refine blk_drewN ?_ _ | refine blk_drew ?_ | refine blk_alloc ?_ _)); refine blk_put (cs := #[.string a0_6, .string a0_7, .string a0_8, .string a0_9, .string a0_10, .string (⟨#[]⟩ : ByteArray), .int .i64 0, .int .i64 0, .bool false]) ?_ 5 _ rfl; (with_reducible repeat (first | refine blk_drewN ?_ _ | refine blk_drew ?_ | refine blk_alloc ?_ _)); refine blk_put (cs := #[.string a0_6, .string a0_7, .string a0_8, .string a0_9, .string (⟨#[]⟩ : ByteArray), .string (⟨#[]⟩ : ByteArray), .int .i64 0, .int .i64 0, .bool false]) ?_ 4 _ rfl; (with_reducible repeat (first | refine blk_drewN ?_ _ | refine blk_drew ?_ | refine blk_alloc ?_ _)); refine blk_put (cs := #[.string a0_6, .string a0_7, .string a0_8, .string (⟨#[]⟩ : ByteArray), .string (⟨#[]⟩ : ByteArray), .string (⟨#[]⟩ : ByteArray), .int .i64 0, .int .i64 0, .bool false]) ?_ 3 _ rfl; (with_reducible repeat (first | refine blk_drewN ?_ _ | refine blk_drew ?_ | refine blk_alloc ?_ _)); refine blk_put (cs := #[.string a0_6, .string a0_7, .string (⟨#[]⟩ : ByteArray), .string (⟨#[]⟩ : ByteArray), .string (⟨#[]⟩ : ByteArray), .string (⟨#[]⟩ : ByteArray), .int .i64 0, .int .i64 0, .bool false]) ?_ 2 _ rfl; (with_reducible repeat (first | refine blk_drewN ?_ _ | refine blk_drew ?_ | refine blk_alloc ?_ _)); refine blk_put (cs := #[.string a0_6, .string (⟨#[]⟩ : ByteArray), .string (⟨#[]⟩ : ByteArray), .string (⟨#[]⟩ : ByteArray), .string (⟨#[]⟩ : ByteArray), .string (⟨#[]⟩ : ByteArray), .int .i64 0, .int .i64 0, .bool false]) ?_ 1 _ rfl; (with_reducible repeat (first | refine blk_drewN ?_ _ | refine blk_drew ?_ | refine blk_alloc ?_ _)); refine blk_put (cs := #[.string (⟨#[]⟩ : ByteArray), .string (⟨#[]⟩ : ByteArray), .string (⟨#[]⟩ : ByteArray), .string (⟨#[]⟩ : ByteArray), .string (⟨#[]⟩ : ByteArray), .string (⟨#[]⟩ : ByteArray), .int .i64 0, .int .i64 0, .bool false]) ?_ 0 _ rfl; (with_reducible repeat (first | refine blk_drewN ?_ _ | refine blk_drew ?_ | refine blk_alloc ?_ _)); exact BK189.out⟩, ⟨by repeat (first | (with_reducible first | exact HB.out | apply below_alloc | apply pw_below_drewN | apply below_drew1 | refine below_set ?_ GE185.out | refine below_set ?_ GE189.out) | exact HB.out)⟩⟩
       ·
        replace c48 := Bool.eq_false_iff.mpr c48; subst c48; replace H := ifF_ H; have H' := Aside0.mk H; clear H; go_wp2; go_meet
        case rel => exact ⟨_, ((⟨#[110, 111]⟩ : ByteArray)), eqE_, H', ⟨leE_⟩, ⟨farE_⟩, ⟨by (with_reducible repeat (first | refine blk_drewN ?_ _ | refine blk_drew ?_ | refine blk_alloc ?_ _)); refine blk_put (cs := #[.string a0_6, .string a0_7, .string a0_8, .string a0_9, .string a0_10, .string a0_11, .int .i64 a0_12, .int .i64 a0_13, .bool false]) ?_ 8 _ rfl; (with_reducible repeat (first | refine blk_drewN ?_ _ | refine blk_drew ?_ | refine blk_alloc ?_ _)); refine blk_put (cs := #[.string a0_6, .string a0_7, .string a0_8, .string a0_9, .string a0_10, .string a0_11, .int .i64 a0_12, .int .i64 0, .bool false]) ?_ 7 _ rfl; (with_reducible repeat (first | refine blk_drewN ?_ _ | refine blk_drew ?_ | refine blk_alloc ?_ _)); refine blk_put (cs := #[.string a0_6, .string a0_7, .string a0_8, .string a0_9, .string a0_10, .string a0_11, .int .i64 0, .int .i64 0, .bool false]) ?_ 6 _ rfl; (with_reducible repeat (first | refine blk_drewN ?_ _ | refine blk_drew ?_ | refine blk_alloc ?_ _)); refine blk_put (cs := #[.string a0_6, .string a0_7, .string a0_8, .string a0_9, .string a0_10, .string (⟨#[]⟩ : ByteArray), .int .i64 0, .int .i64 0, .bool false]) ?_ 5 _ rfl; (with_reducible repeat (first | refine blk_drewN ?_ _ | refine blk_drew ?_ | refine blk_alloc ?_ _)); refine blk_put (cs := #[.string a0_6, .string a0_7, .string a0_8, .string a0_9, .string (⟨#[]⟩ : ByteArray), .string (⟨#[]⟩ : ByteArray), .int .i64 0, .int .i64 0, .bool false]) ?_ 4 _ rfl; (with_reducible repeat (first | refine blk_drewN ?_ _ | refine blk_drew ?_ | refine blk_alloc ?_ _)); refine blk_put (cs := #[.string a0_6, .string a0_7, .string a0_8, .string (⟨#[]⟩ : ByteArray), .string (⟨#[]⟩ : ByteArray), .string (⟨#[]⟩ : ByteArray), .int .i64 0, .int .i64 0, .bool false]) ?_ 3 _ rfl; (with_reducible repeat (first | refine blk_drewN ?_ _ | refine blk_drew ?_ | refine blk_alloc ?_ _)); refine blk_put (cs := #[.string a0_6, .string a0_7, .string (⟨#[]⟩ : ByteArray), .string (⟨#[]⟩ : ByteArray), .string (⟨#[]⟩ : ByteArray), .string (⟨#[]⟩ : ByteArray), .int .i64 0, .int .i64 0, .bool false]) ?_ 2 _ rfl; (with_reducible repeat (first | refine blk_drewN ?_ _ | refine blk_drew ?_ | refine blk_alloc ?_ _)); refine blk_put (cs := #[.string a0_6, .string (⟨#[]⟩ : ByteArray), .string (⟨#[]⟩ : ByteArray), .string (⟨#[]⟩ : ByteArray), .string (⟨#[]⟩ : ByteArray), .string (⟨#[]⟩ : ByteArray), .int .i64 0, .int .i64 0, .bool false]) ?_ 1 _ rfl; (with_reducible repeat (first | refine blk_drewN ?_ _ | refine blk_drew ?_ | refine blk_alloc ?_ _)); refine blk_put (cs := #[.string (⟨#[]⟩ : ByteArray), .string (⟨#[]⟩ : ByteArray), .string (⟨#[]⟩ : ByteArray), .string (⟨#[]⟩ : ByteArray), .string (⟨#[]⟩ : ByteArray), .string (⟨#[]⟩ : ByteArray), .int .i64 0, .int .i64 0, .bool false]) ?_ 0 _ rfl; (with_reducible repeat (first | refine blk_drewN ?_ _ | refine blk_drew ?_ | refine blk_alloc ?_ _)); exact BK189.out⟩, ⟨by repeat (first | (with_reducible first | exact HB.out | apply below_alloc | apply pw_below_drewN | apply below_drew1 | refine below_set ?_ GE185.out | refine below_set ?_ GE189.out) | exact HB.out)⟩⟩
      case rest =>
       clear HC42; try clear c2
       try clear c2b0
       try clear c2b1
       try clear c3
       try clear c3b0
       try clear c3b1
       try clear c3b2
       try clear c6
       try clear c6b0
       try clear c6b1
       try clear c7
       try clear c7b0
       try clear c7b1
       try clear c7b2
       try clear c10
       try clear c10b0
       try clear c10b1
       try clear c11
       try clear c11b0
       try clear c11b1
       try clear c11b2
       try clear c14
       try clear c14b0
       try clear c14b1
       try clear c16
       try clear c16b0
       try clear c16b1
       try clear c16b2
       try clear c20
       try clear c20b0
       try clear c20b1
       try clear c21
       try clear c21b0
       try clear c21b1
       try clear c21b2
       try clear c22
       try clear c22b0
       try clear c22b1
       try clear c22b2
       try clear c24
       try clear c24b0
       try clear c24b1
       try clear c24b2
       try clear c25
       try clear c25b0
       try clear c25b1
       try clear c25b2
       try clear c27
       try clear c27b0
       try clear c27b1
       try clear c27b2
       try clear c28
       try clear c29
       try clear c29b0
       try clear c29b1
       try clear c29b2
       try clear hcz13_0 hcz13_1 hcz13_10 hcz13_11 hcz13_12 hcz13_13 hcz13_14 hcz13_15 hcz13_2 hcz13_3 hcz13_4 hcz13_5 hcz13_6 hcz13_7 hcz13_8 hcz13_9
       try clear hcz18_0 hcz18_1 hcz18_10 hcz18_11 hcz18_12 hcz18_13 hcz18_14 hcz18_15 hcz18_2 hcz18_3 hcz18_4 hcz18_5 hcz18_6 hcz18_7 hcz18_8 hcz18_9
       try clear hcz31_0 hcz31_1 hcz31_10 hcz31_11 hcz31_12 hcz31_13 hcz31_14 hcz31_15 hcz31_2 hcz31_3 hcz31_4 hcz31_5 hcz31_6 hcz31_7 hcz31_8 hcz31_9
       try clear hcz35_0 hcz35_1 hcz35_10 hcz35_11 hcz35_12 hcz35_13 hcz35_14 hcz35_15 hcz35_2 hcz35_3 hcz35_4 hcz35_5 hcz35_6 hcz35_7 hcz35_8 hcz35_9
       try clear hcz37_0 hcz37_1 hcz37_10 hcz37_11 hcz37_12 hcz37_13 hcz37_14 hcz37_15 hcz37_2 hcz37_3 hcz37_4 hcz37_5 hcz37_6 hcz37_7 hcz37_8 hcz37_9
       try clear hcz41_0 hcz41_1 hcz41_10 hcz41_11 hcz41_12 hcz41_13 hcz41_14 hcz41_15 hcz41_2 hcz41_3 hcz41_4 hcz41_5 hcz41_6 hcz41_7 hcz41_8 hcz41_9
       try clear hcz44_0 hcz44_1 hcz44_10 hcz44_11 hcz44_12 hcz44_13 hcz44_14 hcz44_15 hcz44_2 hcz44_3 hcz44_4 hcz44_5 hcz44_6 hcz44_7 hcz44_8 hcz44_9
       try clear hcz47_0 hcz47_1 hcz47_2 hcz47_3 hcz47_4 hcz47_5 hcz47_6 hcz47_7 hcz47_8
       try clear hcz5_0 hcz5_1 hcz5_10 hcz5_11 hcz5_12 hcz5_13 hcz5_14 hcz5_15 hcz5_2 hcz5_3 hcz5_4 hcz5_5 hcz5_6 hcz5_7 hcz5_8 hcz5_9
       try clear hcz9_0 hcz9_1 hcz9_10 hcz9_11 hcz9_12 hcz9_13 hcz9_14 hcz9_15 hcz9_2 hcz9_3 hcz9_4 hcz9_5 hcz9_6 hcz9_7 hcz9_8 hcz9_9
       try clear hfz13_0 hfz13_1 hfz13_10 hfz13_11 hfz13_12 hfz13_13 hfz13_14 hfz13_15 hfz13_2 hfz13_3 hfz13_4 hfz13_5 hfz13_6 hfz13_7 hfz13_8 hfz13_9
       try clear hfz18_0 hfz18_1 hfz18_10 hfz18_11 hfz18_12 hfz18_13 hfz18_14 hfz18_15 hfz18_2 hfz18_3 hfz18_4 hfz18_5 hfz18_6 hfz18_7 hfz18_8 hfz18_9
       try clear hfz31_0 hfz31_1 hfz31_10 hfz31_11 hfz31_12 hfz31_13 hfz31_14 hfz31_15 hfz31_2 hfz31_3 hfz31_4 hfz31_5 hfz31_6 hfz31_7 hfz31_8 hfz31_9
       try clear hfz35_0 hfz35_1 hfz35_10 hfz35_11 hfz35_12 hfz35_13 hfz35_14 hfz35_15 hfz35_2 hfz35_3 hfz35_4 hfz35_5 hfz35_6 hfz35_7 hfz35_8 hfz35_9
       try clear hfz37_0 hfz37_1 hfz37_10 hfz37_11 hfz37_12 hfz37_13 hfz37_14 hfz37_15 hfz37_2 hfz37_3 hfz37_4 hfz37_5 hfz37_6 hfz37_7 hfz37_8 hfz37_9
       try clear hfz41_0 hfz41_1 hfz41_10 hfz41_11 hfz41_12 hfz41_13 hfz41_14 hfz41_15 hfz41_2 hfz41_3 hfz41_4 hfz41_5 hfz41_6 hfz41_7 hfz41_8 hfz41_9
       try clear hfz44_0 hfz44_1 hfz44_10 hfz44_11 hfz44_12 hfz44_13 hfz44_14 hfz44_15 hfz44_2 hfz44_3 hfz44_4 hfz44_5 hfz44_6 hfz44_7 hfz44_8 hfz44_9
       try clear hfz47_0 hfz47_1 hfz47_2 hfz47_3 hfz47_4 hfz47_5 hfz47_6 hfz47_7 hfz47_8
       try clear hfz5_0 hfz5_1 hfz5_10 hfz5_11 hfz5_12 hfz5_13 hfz5_14 hfz5_15 hfz5_2 hfz5_3 hfz5_4 hfz5_5 hfz5_6 hfz5_7 hfz5_8 hfz5_9
       try clear hfz9_0 hfz9_1 hfz9_10 hfz9_11 hfz9_12 hfz9_13 hfz9_14 hfz9_15 hfz9_2 hfz9_3 hfz9_4 hfz9_5 hfz9_6 hfz9_7 hfz9_8 hfz9_9
       obtain ⟨kq, x6_41, rfl, HA, HJ41, BK185, BK189, HB⟩ := hcut; cases kq with
       | zero => exact absurd HA.out (by simp [impl_eventText.j0])
       | succ kj41 =>
        have H := HA.out; clear HA; simp only [impl_eventText.j0] at H; by_cases c49 : 10 + a0_10.size ≤ 9223372036854775807
        ·
         rw [if_pos c49] at H; have c49b0 := eq_true c49; have c49b1 : decide (10 + a0_10.size ≤ 9223372036854775807) = true := decide_eq_true c49; try have c49b2 : (9223372036854775807 < 10 + a0_10.size) = False := eq_false (Nat.not_lt.2 c49)
         try (have c49b3 := c49b0; simp only [ByteArray.size_extract, ByteArray.size_append, bsize_lit, List.length_cons, List.length_nil, Nat.reduceAdd, Nat.zero_add] at c49b3)
         try (have c49b4 := c49b1; simp only [ByteArray.size_extract, ByteArray.size_append, bsize_lit, List.length_cons, List.length_nil, Nat.reduceAdd, Nat.zero_add] at c49b4)
         try (have c49b5 := c49b2; simp only [ByteArray.size_extract, ByteArray.size_append, bsize_lit, List.length_cons, List.length_nil, Nat.reduceAdd, Nat.zero_add] at c49b5)
         by_cases c50 : ((⟨#[118, 105, 111, 108, 97, 116, 105, 111, 110, 32]⟩ : ByteArray) ++ a0_10).size + 1 ≤ 9223372036854775807
         ·
          rw [if_pos c50] at H; have c50b0 := eq_true c50; have c50b1 : decide (((⟨#[118, 105, 111, 108, 97, 116, 105, 111, 110, 32]⟩ : ByteArray) ++ a0_10).size + 1 ≤ 9223372036854775807) = true := decide_eq_true c50; try have c50b2 : (9223372036854775807 < ((⟨#[118, 105, 111, 108, 97, 116, 105, 111, 110, 32]⟩ : ByteArray) ++ a0_10).size + 1) = False := eq_false (Nat.not_lt.2 c50)
          try (have c50b3 := c50b0; simp only [ByteArray.size_extract, ByteArray.size_append, bsize_lit, List.length_cons, List.length_nil, Nat.reduceAdd, Nat.zero_add] at c50b3)
          try (have c50b4 := c50b1; simp only [ByteArray.size_extract, ByteArray.size_append, bsize_lit, List.length_cons, List.length_nil, Nat.reduceAdd, Nat.zero_add] at c50b4)
          try (have c50b5 := c50b2; simp only [ByteArray.size_extract, ByteArray.size_append, bsize_lit, List.length_cons, List.length_nil, Nat.reduceAdd, Nat.zero_add] at c50b5)
          obtain ⟨t190, A51, H⟩ := bindE_ H; by_cases c52 : (((⟨#[118, 105, 111, 108, 97, 116, 105, 111, 110, 32]⟩ : ByteArray) ++ a0_10) ++ (⟨#[32]⟩ : ByteArray)).size + t190.size ≤ 9223372036854775807
          ·
           rw [if_pos c52] at H; have c52b0 := eq_true c52; have c52b1 : decide ((((⟨#[118, 105, 111, 108, 97, 116, 105, 111, 110, 32]⟩ : ByteArray) ++ a0_10) ++ (⟨#[32]⟩ : ByteArray)).size + t190.size ≤ 9223372036854775807) = true := decide_eq_true c52; try have c52b2 : (9223372036854775807 < (((⟨#[118, 105, 111, 108, 97, 116, 105, 111, 110, 32]⟩ : ByteArray) ++ a0_10) ++ (⟨#[32]⟩ : ByteArray)).size + t190.size) = False := eq_false (Nat.not_lt.2 c52)
           try (have c52b3 := c52b0; simp only [ByteArray.size_extract, ByteArray.size_append, bsize_lit, List.length_cons, List.length_nil, Nat.reduceAdd, Nat.zero_add] at c52b3)
           try (have c52b4 := c52b1; simp only [ByteArray.size_extract, ByteArray.size_append, bsize_lit, List.length_cons, List.length_nil, Nat.reduceAdd, Nat.zero_add] at c52b4)
           try (have c52b5 := c52b2; simp only [ByteArray.size_extract, ByteArray.size_append, bsize_lit, List.length_cons, List.length_nil, Nat.reduceAdd, Nat.zero_add] at c52b5)
           by_cases c53 : ((((⟨#[118, 105, 111, 108, 97, 116, 105, 111, 110, 32]⟩ : ByteArray) ++ a0_10) ++ (⟨#[32]⟩ : ByteArray)) ++ t190).size + 1 ≤ 9223372036854775807
           ·
            rw [if_pos c53] at H; have c53b0 := eq_true c53; have c53b1 : decide (((((⟨#[118, 105, 111, 108, 97, 116, 105, 111, 110, 32]⟩ : ByteArray) ++ a0_10) ++ (⟨#[32]⟩ : ByteArray)) ++ t190).size + 1 ≤ 9223372036854775807) = true := decide_eq_true c53; try have c53b2 : (9223372036854775807 < ((((⟨#[118, 105, 111, 108, 97, 116, 105, 111, 110, 32]⟩ : ByteArray) ++ a0_10) ++ (⟨#[32]⟩ : ByteArray)) ++ t190).size + 1) = False := eq_false (Nat.not_lt.2 c53)
            try (have c53b3 := c53b0; simp only [ByteArray.size_extract, ByteArray.size_append, bsize_lit, List.length_cons, List.length_nil, Nat.reduceAdd, Nat.zero_add] at c53b3)
            try (have c53b4 := c53b1; simp only [ByteArray.size_extract, ByteArray.size_append, bsize_lit, List.length_cons, List.length_nil, Nat.reduceAdd, Nat.zero_add] at c53b4)
            try (have c53b5 := c53b2; simp only [ByteArray.size_extract, ByteArray.size_append, bsize_lit, List.length_cons, List.length_nil, Nat.reduceAdd, Nat.zero_add] at c53b5)
            obtain ⟨t191, A54, H⟩ := bindE_ H; by_cases c55 : (((((⟨#[118, 105, 111, 108, 97, 116, 105, 111, 110, 32]⟩ : ByteArray) ++ a0_10) ++ (⟨#[32]⟩ : ByteArray)) ++ t190) ++ (⟨#[32]⟩ : ByteArray)).size + t191.size ≤ 9223372036854775807
            ·
             rw [if_pos c55] at H; have c55b0 := eq_true c55; have c55b1 : decide ((((((⟨#[118, 105, 111, 108, 97, 116, 105, 111, 110, 32]⟩ : ByteArray) ++ a0_10) ++ (⟨#[32]⟩ : ByteArray)) ++ t190) ++ (⟨#[32]⟩ : ByteArray)).size + t191.size ≤ 9223372036854775807) = true := decide_eq_true c55; try have c55b2 : (9223372036854775807 < (((((⟨#[118, 105, 111, 108, 97, 116, 105, 111, 110, 32]⟩ : ByteArray) ++ a0_10) ++ (⟨#[32]⟩ : ByteArray)) ++ t190) ++ (⟨#[32]⟩ : ByteArray)).size + t191.size) = False := eq_false (Nat.not_lt.2 c55)
             try (have c55b3 := c55b0; simp only [ByteArray.size_extract, ByteArray.size_append, bsize_lit, List.length_cons, List.length_nil, Nat.reduceAdd, Nat.zero_add] at c55b3)
             try (have c55b4 := c55b1; simp only [ByteArray.size_extract, ByteArray.size_append, bsize_lit, List.length_cons, List.length_nil, Nat.reduceAdd, Nat.zero_add] at c55b4)
             try (have c55b5 := c55b2; simp only [ByteArray.size_extract, ByteArray.size_append, bsize_lit, List.length_cons, List.length_nil, Nat.reduceAdd, Nat.zero_add] at c55b5)
             obtain ⟨y192, hy192⟩ : ∃ y_ : List ByteArray, y_ = (([a0_6, a0_7, a0_8, a0_9] : List ByteArray)) := ⟨_, rfl⟩
             replace H : (impl_eventText.l0 kj41 x6_41 ((((((⟨#[118, 105, 111, 108, 97, 116, 105, 111, 110, 32]⟩ : ByteArray) ++ a0_10) ++ (⟨#[32]⟩ : ByteArray)) ++ t190) ++ (⟨#[32]⟩ : ByteArray)) ++ t191) y192 (y192.length : Int) 0 a0_6 a0_7 a0_8 a0_9 a0_10 a0_11 a0_12 a0_13 a0_14) = some (r1, r2) := by first | (rw [hy192]; with_reducible exact H) | (have H2_ := (Option.bind_some _ _).symm.trans H; rw [hy192]; with_reducible exact H2_) | (have H2_ := (Option.bind_some _ _).symm.trans H; with_reducible exact H2_) | with_reducible exact H | (rw [hy192]; exact H) | exact H
             have Ny192 := Aside0.mk hy192; clear hy192; have H' := Aside0.mk H; clear H; try go_wp2
             replace BK185 := Aside0.mk (blk_drew BK185.out); replace BK189 := Aside0.mk (blk_drew BK189.out); replace HB := Aside0.mk (below_drew1 HB.out); refine startU_ (n := 14) (S := fun w' => w'.cell? ⟨gb189, 0, none⟩ = some (.string a0_6) ∧ w'.cell? ⟨gb189, 1, none⟩ = some (.string a0_7) ∧ w'.cell? ⟨gb189, 2, none⟩ = some (.string a0_8) ∧ w'.cell? ⟨gb189, 3, none⟩ = some (.string a0_9) ∧ w'.cell? ⟨gb189, 4, none⟩ = some (.string a0_10) ∧ w'.cell? ⟨gb189, 5, none⟩ = some (.string a0_11) ∧ w'.cell? ⟨gb189, 6, none⟩ = some (.int .i64 a0_12) ∧ w'.cell? ⟨gb189, 7, none⟩ = some (.int .i64 a0_13) ∧ w'.cell? ⟨gb189, 8, none⟩ = some (.bool a0_14)) (ds := []) (held9_ BK189.out) (fun hHeld => ?_); refine with_tabW impl_eventText.tab18 impl_eventText.bits18 (fun HT_ HW_ => ?_); generalize wc.drew = w56 at BK185 BK189 HB hHeld ⊢; refine pU_ ?_; refine pUX_ 4 ?_; refine pUX_ 9 ?_; refine tU_ ?_; iterate 2 refine pU_ ?_
             refine aU_ ?_; refine tU_ ?_; refine tUX_ 10 ?_; refine oU_ (fun K hK => ?_); refine gU_ Tryd.func32 #[.int .i64 a0_12] ?_; with_reducible refine (impl_decimal.calls a0_12 t190 _ ?side1 A51.out).mono ?_
             (case side1 => exact Amb.on HM.out (by repeat (first | (with_reducible first | exact HB.out | apply below_alloc | apply pw_below_drewN | apply below_drew1 | refine below_set ?_ GE185.out | refine below_set ?_ GE189.out) | exact HB.out))); rintro e w57 ⟨rfl, hb⟩; refine ⟨_, rfl, ?_⟩; replace BK185 := blkB_ (g := gb185) (o := .cells #[.int .i64 a0_0, .int .i64 a0_1, .int .i64 a0_2, .int .i64 a0_3, .string a0_4, .string a0_5, .string a0_6, .string a0_7, .string a0_8, .string a0_9, .string a0_10, .string a0_11, .int .i64 a0_12, .int .i64 a0_13, .bool a0_14, .bool a0_15] 31 (0, 0)) hb; replace BK189 := blkB_ (g := gb189) (o := .cells #[.string a0_6, .string a0_7, .string a0_8, .string a0_9, .string a0_10, .string a0_11, .int .i64 a0_12, .int .i64 a0_13, .bool a0_14] 29 (0, 0)) hb; replace HB := Aside0.mk (below_step (by repeat (first | (with_reducible first | exact HB.out | apply below_alloc | apply pw_below_drewN | apply below_drew1 | refine below_set ?_ GE185.out | refine below_set ?_ GE189.out) | exact HB.out)) hb); (try clear hb); (try clear hb2); (try clear hk); (try clear hi); refine hK.out _ _ (held9_ BK189.out) (fun hHeld => ?_); clear hK K; refine nU_ ?_; iterate 2 refine pU_ ?_
             iterate 2 refine aU_ ?_
             refine oU_ (fun K hK => ?_); refine gU_ Tryd.func32 #[.int .i64 a0_13] ?_; with_reducible refine (impl_decimal.calls a0_13 t191 _ ?side1 A54.out).mono ?_
             (case side1 => exact Amb.on HM.out (by repeat (first | (with_reducible first | exact HB.out | apply below_alloc | apply pw_below_drewN | apply below_drew1 | refine below_set ?_ GE185.out | refine below_set ?_ GE189.out) | exact HB.out))); rintro e w58 ⟨rfl, hb⟩; refine ⟨_, rfl, ?_⟩; replace BK185 := blkB_ (g := gb185) (o := .cells #[.int .i64 a0_0, .int .i64 a0_1, .int .i64 a0_2, .int .i64 a0_3, .string a0_4, .string a0_5, .string a0_6, .string a0_7, .string a0_8, .string a0_9, .string a0_10, .string a0_11, .int .i64 a0_12, .int .i64 a0_13, .bool a0_14, .bool a0_15] 31 (0, 0)) hb; replace BK189 := blkB_ (g := gb189) (o := .cells #[.string a0_6, .string a0_7, .string a0_8, .string a0_9, .string a0_10, .string a0_11, .int .i64 a0_12, .int .i64 a0_13, .bool a0_14] 29 (0, 0)) hb; replace HB := Aside0.mk (below_step (by repeat (first | (with_reducible first | exact HB.out | apply below_alloc | apply pw_below_drewN | apply below_drew1 | refine below_set ?_ GE185.out | refine below_set ?_ GE189.out) | exact HB.out)) hb); (try clear hb); (try clear hb2); (try clear hk); (try clear hi); refine hK.out _ _ (held9_ BK189.out) (fun hHeld => ?_); clear hK K; refine nU_ ?_; iterate 2 refine pU_ ?_
             refine doneU_ ?_; have hnb59 := NB189_185.out; have hnc59 := NB185_189.out; obtain ⟨hcz60_0, hcz60_1, hcz60_2, hcz60_3, hcz60_4, hcz60_5, hcz60_6, hcz60_7, hcz60_8, hfz60_0, hfz60_1, hfz60_2, hfz60_3, hfz60_4, hfz60_5, hfz60_6, hfz60_7, hfz60_8⟩ := cz9_ BK189; try go_wp2_with (first | ((with_reducible refine gate_dst (N := 78) rfl ?_); refine Kd.R_lit Kd.string _ 9 ?hg (N := 78) ?hd (xs := ([a0_6, a0_7, a0_8, a0_9] : List ByteArray)) (inner := [.string a0_6, .string a0_7, .string a0_8, .string a0_9]) (ok := fun _ => True) (okp := fun _ => True) ?hr ?hp (fun _ hk => hk) trivial (Below.refl _ _) (Nat.le_refl _) (by simp) ?_; (case hd => rfl); (case hg => rfl); (case hr => first | (go_simp; done) | (go_simp; rfl)); (case hp => exact (Reps.one (show Kd.M Kd.string _ _ _ a0_6 [.string a0_6] from rfl) (Reps.one (show Kd.M Kd.string _ _ _ a0_7 [.string a0_7] from rfl) (Reps.one (show Kd.M Kd.string _ _ _ a0_8 [.string a0_8] from rfl) (Reps.one (show Kd.M Kd.string _ _ _ a0_9 [.string a0_9] from rfl) (Reps.none _ _)))))); intro v193 w61 ho62 hb hg_ hnew_; clear hg_ hnew_; (first | rw [← Ny192.out] at ho62 | (simp only [Int.reduceToNat] at ho62; rw [← Ny192.out] at ho62)); have n0_ := Aside0.mk (Kd.R_lower ho62 (below_size (by repeat (first | (with_reducible first | exact HB.out | apply below_alloc | apply pw_below_drewN | apply below_drew1 | refine below_set ?_ GE185.out | refine below_set ?_ GE189.out) | exact HB.out)))); have n1_ := blkB_ (g := gb185) (o := .cells #[.int .i64 a0_0, .int .i64 a0_1, .int .i64 a0_2, .int .i64 a0_3, .string a0_4, .string a0_5, .string a0_6, .string a0_7, .string a0_8, .string a0_9, .string a0_10, .string a0_11, .int .i64 a0_12, .int .i64 a0_13, .bool a0_14, .bool a0_15] 31 (0, 0)) hb; have n2_ := blkB_ (g := gb189) (o := .cells #[.string a0_6, .string a0_7, .string a0_8, .string a0_9, .string a0_10, .string a0_11, .int .i64 a0_12, .int .i64 a0_13, .bool a0_14] 29 (0, 0)) hb; have n3_ := Aside0.mk (below_step (by repeat (first | (with_reducible first | exact HB.out | apply below_alloc | apply pw_below_drewN | apply below_drew1 | refine below_set ?_ GE185.out | refine below_set ?_ GE189.out) | exact HB.out)) hb); clear BK185; clear BK189; clear HB; have HO194 := n0_; have BK185 := n1_; have BK189 := n2_; have HB := n3_; clear n0_ n1_ n2_ n3_; clear hb ho62; obtain ⟨Ao63, co63, eo63⟩ := Kd.R_slice HO194.out; subst eo63))
             go_loopg [7, 80] kj41 (fun kq v7 v80 w' => ∃ (x7_2 : ByteArray) (x80_2 : Int), v7 = .string x7_2 ∧ v80 = .int .i64 x80_2 ∧ Aside0 (impl_eventText.l0 kq x6_41 x7_2 y192 (y192.length : Int) x80_2 a0_6 a0_7 a0_8 a0_9 a0_10 a0_11 a0_12 a0_13 a0_14 = some (r1, r2)) ∧ Aside0 (kq ≤ kj41) ∧ Aside0 (Kd.R Kd.string 9 w' w.heap.size (fun _ => True) (.slice Ao63 y192.length co63) y192) ∧ Aside0 (w'.heap[gb185]? = some (.cells #[.int .i64 a0_0, .int .i64 a0_1, .int .i64 a0_2, .int .i64 a0_3, .string a0_4, .string a0_5, .string a0_6, .string a0_7, .string a0_8, .string a0_9, .string a0_10, .string a0_11, .int .i64 a0_12, .int .i64 a0_13, .bool a0_14, .bool a0_15] 31 (0, 0))) ∧ Aside0 (w'.heap[gb189]? = some (.cells #[.string a0_6, .string a0_7, .string a0_8, .string a0_9, .string a0_10, .string a0_11, .int .i64 a0_12, .int .i64 a0_13, .bool a0_14] 29 (0, 0))) ∧ Aside0 (Below w.heap.size w w'))
             case atStart => exact ⟨((((((⟨#[118, 105, 111, 108, 97, 116, 105, 111, 110, 32]⟩ : ByteArray) ++ a0_10) ++ (⟨#[32]⟩ : ByteArray)) ++ t190) ++ (⟨#[32]⟩ : ByteArray)) ++ t191), (0), eqE_, eqE_, H', ⟨Nat.le_refl _⟩, ⟨by (with_reducible repeat (first | apply Kd.R_alloc | apply Kd.R_drewN | apply Kd.R_drew)); exact HO194.out⟩, ⟨blkE_⟩, ⟨blkE_⟩, ⟨by repeat (first | (with_reducible first | exact HB.out | apply below_alloc | apply pw_below_drewN | apply below_drew1 | refine below_set ?_ GE185.out | refine below_set ?_ GE189.out) | exact HB.out)⟩⟩
             case round =>
              clear H'; try clear c2
              try clear c3
              try clear c11
              try clear c11b0
              try clear c11b1
              try clear c11b2
              try clear c14
              try clear c14b0
              try clear c14b1
              try clear c16
              try clear c16b0
              try clear c16b1
              try clear c16b2
              try clear c20
              try clear c20b0
              try clear c20b1
              try clear c21
              try clear c21b0
              try clear c21b1
              try clear c21b2
              try clear c22
              try clear c22b0
              try clear c22b1
              try clear c22b2
              try clear c24
              try clear c24b0
              try clear c24b1
              try clear c24b2
              try clear c25
              try clear c25b0
              try clear c25b1
              try clear c25b2
              try clear c27
              try clear c27b0
              try clear c27b1
              try clear c27b2
              try clear c28
              try clear c29
              try clear c29b0
              try clear c29b1
              try clear c29b2
              try clear c49
              try clear c49b0
              try clear c49b1
              try clear c49b2
              try clear c50
              try clear c50b0
              try clear c50b1
              try clear c50b2
              try clear c52
              try clear c52b0
              try clear c52b1
              try clear c52b2
              try clear c53
              try clear c53b0
              try clear c53b1
              try clear c53b2
              try clear c55
              try clear c55b0
              try clear c55b1
              try clear c55b2
              try clear hcz13_0 hcz13_1 hcz13_10 hcz13_11 hcz13_12 hcz13_13 hcz13_14 hcz13_15 hcz13_2 hcz13_3 hcz13_4 hcz13_5 hcz13_6 hcz13_7 hcz13_8 hcz13_9
              try clear hcz18_0 hcz18_1 hcz18_10 hcz18_11 hcz18_12 hcz18_13 hcz18_14 hcz18_15 hcz18_2 hcz18_3 hcz18_4 hcz18_5 hcz18_6 hcz18_7 hcz18_8 hcz18_9
              try clear hcz31_0 hcz31_1 hcz31_10 hcz31_11 hcz31_12 hcz31_13 hcz31_14 hcz31_15 hcz31_2 hcz31_3 hcz31_4 hcz31_5 hcz31_6 hcz31_7 hcz31_8 hcz31_9
              try clear hcz35_0 hcz35_1 hcz35_10 hcz35_11 hcz35_12 hcz35_13 hcz35_14 hcz35_15 hcz35_2 hcz35_3 hcz35_4 hcz35_5 hcz35_6 hcz35_7 hcz35_8 hcz35_9
              try clear hcz37_0 hcz37_1 hcz37_10 hcz37_11 hcz37_12 hcz37_13 hcz37_14 hcz37_15 hcz37_2 hcz37_3 hcz37_4 hcz37_5 hcz37_6 hcz37_7 hcz37_8 hcz37_9
              try clear hcz41_0 hcz41_1 hcz41_10 hcz41_11 hcz41_12 hcz41_13 hcz41_14 hcz41_15 hcz41_2 hcz41_3 hcz41_4 hcz41_5 hcz41_6 hcz41_7 hcz41_8 hcz41_9
              try clear hcz44_0 hcz44_1 hcz44_10 hcz44_11 hcz44_12 hcz44_13 hcz44_14 hcz44_15 hcz44_2 hcz44_3 hcz44_4 hcz44_5 hcz44_6 hcz44_7 hcz44_8 hcz44_9
              try clear hcz47_0 hcz47_1 hcz47_2 hcz47_3 hcz47_4 hcz47_5 hcz47_6 hcz47_7 hcz47_8
              try clear hcz5_0 hcz5_1 hcz5_10 hcz5_11 hcz5_12 hcz5_13 hcz5_14 hcz5_15 hcz5_2 hcz5_3 hcz5_4 hcz5_5 hcz5_6 hcz5_7 hcz5_8 hcz5_9
              try clear hcz60_0 hcz60_1 hcz60_2 hcz60_3 hcz60_4 hcz60_5 hcz60_6 hcz60_7 hcz60_8
              try clear hcz9_0 hcz9_1 hcz9_10 hcz9_11 hcz9_12 hcz9_13 hcz9_14 hcz9_15 hcz9_2 hcz9_3 hcz9_4 hcz9_5 hcz9_6 hcz9_7 hcz9_8 hcz9_9
              try clear hfz13_0 hfz13_1 hfz13_10 hfz13_11 hfz13_12 hfz13_13 hfz13_14 hfz13_15 hfz13_2 hfz13_3 hfz13_4 hfz13_5 hfz13_6 hfz13_7 hfz13_8 hfz13_9
              try clear hfz18_0 hfz18_1 hfz18_10 hfz18_11 hfz18_12 hfz18_13 hfz18_14 hfz18_15 hfz18_2 hfz18_3 hfz18_4 hfz18_5 hfz18_6 hfz18_7 hfz18_8 hfz18_9
              try clear hfz31_0 hfz31_1 hfz31_10 hfz31_11 hfz31_12 hfz31_13 hfz31_14 hfz31_15 hfz31_2 hfz31_3 hfz31_4 hfz31_5 hfz31_6 hfz31_7 hfz31_8 hfz31_9
              try clear hfz35_0 hfz35_1 hfz35_10 hfz35_11 hfz35_12 hfz35_13 hfz35_14 hfz35_15 hfz35_2 hfz35_3 hfz35_4 hfz35_5 hfz35_6 hfz35_7 hfz35_8 hfz35_9
              try clear hfz37_0 hfz37_1 hfz37_10 hfz37_11 hfz37_12 hfz37_13 hfz37_14 hfz37_15 hfz37_2 hfz37_3 hfz37_4 hfz37_5 hfz37_6 hfz37_7 hfz37_8 hfz37_9
              try clear hfz41_0 hfz41_1 hfz41_10 hfz41_11 hfz41_12 hfz41_13 hfz41_14 hfz41_15 hfz41_2 hfz41_3 hfz41_4 hfz41_5 hfz41_6 hfz41_7 hfz41_8 hfz41_9
              try clear hfz44_0 hfz44_1 hfz44_10 hfz44_11 hfz44_12 hfz44_13 hfz44_14 hfz44_15 hfz44_2 hfz44_3 hfz44_4 hfz44_5 hfz44_6 hfz44_7 hfz44_8 hfz44_9
              try clear hfz47_0 hfz47_1 hfz47_2 hfz47_3 hfz47_4 hfz47_5 hfz47_6 hfz47_7 hfz47_8
              try clear hfz5_0 hfz5_1 hfz5_10 hfz5_11 hfz5_12 hfz5_13 hfz5_14 hfz5_15 hfz5_2 hfz5_3 hfz5_4 hfz5_5 hfz5_6 hfz5_7 hfz5_8 hfz5_9
              try clear hfz60_0 hfz60_1 hfz60_2 hfz60_3 hfz60_4 hfz60_5 hfz60_6 hfz60_7 hfz60_8
              try clear hfz9_0 hfz9_1 hfz9_10 hfz9_11 hfz9_12 hfz9_13 hfz9_14 hfz9_15 hfz9_2 hfz9_3 hfz9_4 hfz9_5 hfz9_6 hfz9_7 hfz9_8 hfz9_9
              obtain ⟨x7_2, x80_2, rfl, rfl, HA, HK2, HO_78, BK185, BK189, HB⟩ := hrel; cases gk with
              | zero => exact absurd HA.out (by simp [impl_eventText.l0])
              | succ k2 =>
               have H := HA.out; clear HA; simp only [impl_eventText.l0] at H; by_cases c64 : x80_2 < (y192.length : Int)
               ·
                rw [if_pos c64] at H; have c64b0 : decide (x80_2 < (y192.length : Int)) = true := decide_eq_true c64; clear c64; by_cases c65 : 0 ≤ x80_2
                ·
                 rw [if_pos c65] at H; have c65b0 : decide (0 ≤ x80_2) = true := decide_eq_true c65; clear c65; by_cases c66 : x80_2 < (y192.length : Int)
                 ·
                  rw [if_pos c66] at H; have c66b0 : decide (x80_2 < (y192.length : Int)) = true := decide_eq_true c66; clear c66; by_cases c67 : (rdOf ByteArray.empty y192 x80_2).toList = ([45] : List UInt8)
                  · rw [if_pos c67] at H; have c67b0 : ((rdOf ByteArray.empty y192 x80_2).toList == ([45] : List UInt8)) = true := beq_iff_eq.mpr c67; have c67b1 : ((rdOf ByteArray.empty y192 x80_2).toList != ([45] : List UInt8)) = false := bne_eq_false_iff_eq.mpr c67; clear c67; simp only [Option.some.injEq, Prod.mk.injEq] at H; obtain ⟨rfl, rfl⟩ := H; have p195 : 0 ≤ (x80_2 : Int) := of_decide_eq_true (by first | (with_reducible assumption) | assumption); have q195 : x80_2 < (y192.length : Int) := of_decide_eq_true (by first | (with_reducible assumption) | assumption); obtain ⟨ad195, e195, hx195_0⟩ := Kd.at_string (Kd.R_reads' HO_78.out).2.2 x80_2 p195 q195; cases e195; replace p195 := eq_true p195; replace q195 := eq_true q195; go_wp2; go_ret2; exact ⟨retE_, by repeat (first | (with_reducible first | exact HB.out | apply below_alloc | apply pw_below_drewN | apply below_drew1 | refine below_set ?_ GE185.out | refine below_set ?_ GE189.out) | exact HB.out)⟩
                  ·
                   rw [if_neg c67] at H; have c67b0 : ((rdOf ByteArray.empty y192 x80_2).toList == ([45] : List UInt8)) = false := beq_eq_false_iff_ne.mpr c67; have c67b1 : ((rdOf ByteArray.empty y192 x80_2).toList != ([45] : List UInt8)) = true := bne_iff_ne.mpr c67; obtain ⟨t196, A68, H⟩ := bindE_ H; by_cases c69 : t196 = true
                   ·
                    subst c69; replace H := ifT_ H; obtain ⟨t197, A70, H⟩ := bindE_ H; by_cases c71 : 1 + t197.size ≤ 9223372036854775807
                    ·
                     rw [if_pos c71] at H; have c71b0 := eq_true c71; have c71b1 : decide (1 + t197.size ≤ 9223372036854775807) = true := decide_eq_true c71; try have c71b2 : (9223372036854775807 < 1 + t197.size) = False := eq_false (Nat.not_lt.2 c71)
                     try (have c71b3 := c71b0; simp only [ByteArray.size_extract, ByteArray.size_append, bsize_lit, List.length_cons, List.length_nil, Nat.reduceAdd, Nat.zero_add] at c71b3)
                     try (have c71b4 := c71b1; simp only [ByteArray.size_extract, ByteArray.size_append, bsize_lit, List.length_cons, List.length_nil, Nat.reduceAdd, Nat.zero_add] at c71b4)
                     try (have c71b5 := c71b2; simp only [ByteArray.size_extract, ByteArray.size_append, bsize_lit, List.length_cons, List.length_nil, Nat.reduceAdd, Nat.zero_add] at c71b5)
                     by_cases c72 : x7_2.size + ((⟨#[32]⟩ : ByteArray) ++ t197).size ≤ 9223372036854775807
                     ·
                      rw [if_pos c72] at H; have c72b0 := eq_true c72; have c72b1 : decide (x7_2.size + ((⟨#[32]⟩ : ByteArray) ++ t197).size ≤ 9223372036854775807) = true := decide_eq_true c72; try have c72b2 : (9223372036854775807 < x7_2.size + ((⟨#[32]⟩ : ByteArray) ++ t197).size) = False := eq_false (Nat.not_lt.2 c72)
                      try (have c72b3 := c72b0; simp only [ByteArray.size_extract, ByteArray.size_append, bsize_lit, List.length_cons, List.length_nil, Nat.reduceAdd, Nat.zero_add] at c72b3)
                      try (have c72b4 := c72b1; simp only [ByteArray.size_extract, ByteArray.size_append, bsize_lit, List.length_cons, List.length_nil, Nat.reduceAdd, Nat.zero_add] at c72b4)
                      try (have c72b5 := c72b2; simp only [ByteArray.size_extract, ByteArray.size_append, bsize_lit, List.length_cons, List.length_nil, Nat.reduceAdd, Nat.zero_add] at c72b5)
                      have H' := Aside0.mk H; clear H; have p195 : 0 ≤ (x80_2 : Int) := of_decide_eq_true (by first | (with_reducible assumption) | assumption); have q195 : x80_2 < (y192.length : Int) := of_decide_eq_true (by first | (with_reducible assumption) | assumption); obtain ⟨ad195, e195, hx195_0⟩ := Kd.at_string (Kd.R_reads' HO_78.out).2.2 x80_2 p195 q195; cases e195; replace p195 := eq_true p195; replace q195 := eq_true q195; go_wp2_with (first | (go_at_call 33; (with_reducible refine (impl_areShown.calls k2 (rdOf ByteArray.empty y192 x80_2) true _ A68.out).mono ?_); rintro e w' ⟨rfl, ⟨nd, rfl⟩⟩) | ((with_reducible refine gate_callee (f := 34) rfl ?_); refine cU_ (some 93) Tryd.func34 #[.string (rdOf ByteArray.empty y192 x80_2)] ?_; (with_reducible refine (impl_dash.calls (rdOf ByteArray.empty y192 x80_2) t197 _ A70.out).mono ?_); rintro e w' ⟨rfl, ⟨nd, rfl⟩⟩; refine ⟨_, rfl, ?_⟩)); go_roundg k2
                      case measure => have := HJ41.out; have := HK2.out; omega
                      case rel => exact ⟨(x7_2 ++ ((⟨#[32]⟩ : ByteArray) ++ t197)), (wrap64 (x80_2 + 1)), eqE_, eqE_, H', ⟨by have := HJ41.out; have := HK2.out; omega⟩, ⟨by (with_reducible repeat (first | apply Kd.R_alloc | apply Kd.R_drewN | apply Kd.R_drew)); exact HO_78.out⟩, ⟨blkE_⟩, ⟨blkE_⟩, ⟨by repeat (first | (with_reducible first | exact HB.out | apply below_alloc | apply pw_below_drewN | apply below_drew1 | refine below_set ?_ GE185.out | refine below_set ?_ GE189.out) | exact HB.out)⟩⟩
                     · rw [if_neg c72] at H; exact absurd H (by simp)
                    · rw [if_neg c71] at H; exact absurd H (by simp)
                   · replace c69 := Bool.eq_false_iff.mpr c69; subst c69; replace H := ifF_ H; simp only [Option.some.injEq, Prod.mk.injEq] at H; obtain ⟨rfl, rfl⟩ := H; have p195 : 0 ≤ (x80_2 : Int) := of_decide_eq_true (by first | (with_reducible assumption) | assumption); have q195 : x80_2 < (y192.length : Int) := of_decide_eq_true (by first | (with_reducible assumption) | assumption); obtain ⟨ad195, e195, hx195_0⟩ := Kd.at_string (Kd.R_reads' HO_78.out).2.2 x80_2 p195 q195; cases e195; replace p195 := eq_true p195; replace q195 := eq_true q195; go_wp2_with (first | (go_at_call 33; (with_reducible refine (impl_areShown.calls k2 (rdOf ByteArray.empty y192 x80_2) false _ A68.out).mono ?_); rintro e w' ⟨rfl, ⟨nd, rfl⟩⟩)); go_ret2; exact ⟨retE_, by repeat (first | (with_reducible first | exact HB.out | apply below_alloc | apply pw_below_drewN | apply below_drew1 | refine below_set ?_ GE185.out | refine below_set ?_ GE189.out) | exact HB.out)⟩
                 · rw [if_neg c66] at H; exact absurd H (by simp)
                · rw [if_neg c65] at H; exact absurd H (by simp)
               ·
                rw [if_neg c64] at H; have c64b0 : decide (x80_2 < (y192.length : Int)) = false := decide_eq_false c64; clear c64; by_cases c73 : x7_2.size + 1 ≤ 9223372036854775807
                ·
                 rw [if_pos c73] at H; have c73b0 := eq_true c73; have c73b1 : decide (x7_2.size + 1 ≤ 9223372036854775807) = true := decide_eq_true c73; try have c73b2 : (9223372036854775807 < x7_2.size + 1) = False := eq_false (Nat.not_lt.2 c73)
                 try (have c73b3 := c73b0; simp only [ByteArray.size_extract, ByteArray.size_append, bsize_lit, List.length_cons, List.length_nil, Nat.reduceAdd, Nat.zero_add] at c73b3)
                 try (have c73b4 := c73b1; simp only [ByteArray.size_extract, ByteArray.size_append, bsize_lit, List.length_cons, List.length_nil, Nat.reduceAdd, Nat.zero_add] at c73b4)
                 try (have c73b5 := c73b2; simp only [ByteArray.size_extract, ByteArray.size_append, bsize_lit, List.length_cons, List.length_nil, Nat.reduceAdd, Nat.zero_add] at c73b5)
                 by_cases c74 : (x7_2 ++ (⟨#[32]⟩ : ByteArray)).size + x6_41.size ≤ 9223372036854775807
                 ·
                  rw [if_pos c74] at H; have c74b0 := eq_true c74; have c74b1 : decide ((x7_2 ++ (⟨#[32]⟩ : ByteArray)).size + x6_41.size ≤ 9223372036854775807) = true := decide_eq_true c74; try have c74b2 : (9223372036854775807 < (x7_2 ++ (⟨#[32]⟩ : ByteArray)).size + x6_41.size) = False := eq_false (Nat.not_lt.2 c74)
                  try (have c74b3 := c74b0; simp only [ByteArray.size_extract, ByteArray.size_append, bsize_lit, List.length_cons, List.length_nil, Nat.reduceAdd, Nat.zero_add] at c74b3)
                  try (have c74b4 := c74b1; simp only [ByteArray.size_extract, ByteArray.size_append, bsize_lit, List.length_cons, List.length_nil, Nat.reduceAdd, Nat.zero_add] at c74b4)
                  try (have c74b5 := c74b2; simp only [ByteArray.size_extract, ByteArray.size_append, bsize_lit, List.length_cons, List.length_nil, Nat.reduceAdd, Nat.zero_add] at c74b5)
                  by_cases c75 : ((x7_2 ++ (⟨#[32]⟩ : ByteArray)) ++ x6_41).size + 1 ≤ 9223372036854775807
                  ·
                   rw [if_pos c75] at H; have c75b0 := eq_true c75; have c75b1 : decide (((x7_2 ++ (⟨#[32]⟩ : ByteArray)) ++ x6_41).size + 1 ≤ 9223372036854775807) = true := decide_eq_true c75; try have c75b2 : (9223372036854775807 < ((x7_2 ++ (⟨#[32]⟩ : ByteArray)) ++ x6_41).size + 1) = False := eq_false (Nat.not_lt.2 c75)
                   try (have c75b3 := c75b0; simp only [ByteArray.size_extract, ByteArray.size_append, bsize_lit, List.length_cons, List.length_nil, Nat.reduceAdd, Nat.zero_add] at c75b3)
                   try (have c75b4 := c75b1; simp only [ByteArray.size_extract, ByteArray.size_append, bsize_lit, List.length_cons, List.length_nil, Nat.reduceAdd, Nat.zero_add] at c75b4)
                   try (have c75b5 := c75b2; simp only [ByteArray.size_extract, ByteArray.size_append, bsize_lit, List.length_cons, List.length_nil, Nat.reduceAdd, Nat.zero_add] at c75b5)
                   by_cases c76 : (((x7_2 ++ (⟨#[32]⟩ : ByteArray)) ++ x6_41) ++ (⟨#[32]⟩ : ByteArray)).size + a0_11.size ≤ 9223372036854775807
                   ·
                    rw [if_pos c76] at H; have c76b0 := eq_true c76; have c76b1 : decide ((((x7_2 ++ (⟨#[32]⟩ : ByteArray)) ++ x6_41) ++ (⟨#[32]⟩ : ByteArray)).size + a0_11.size ≤ 9223372036854775807) = true := decide_eq_true c76; try have c76b2 : (9223372036854775807 < (((x7_2 ++ (⟨#[32]⟩ : ByteArray)) ++ x6_41) ++ (⟨#[32]⟩ : ByteArray)).size + a0_11.size) = False := eq_false (Nat.not_lt.2 c76)
                    try (have c76b3 := c76b0; simp only [ByteArray.size_extract, ByteArray.size_append, bsize_lit, List.length_cons, List.length_nil, Nat.reduceAdd, Nat.zero_add] at c76b3)
                    try (have c76b4 := c76b1; simp only [ByteArray.size_extract, ByteArray.size_append, bsize_lit, List.length_cons, List.length_nil, Nat.reduceAdd, Nat.zero_add] at c76b4)
                    try (have c76b5 := c76b2; simp only [ByteArray.size_extract, ByteArray.size_append, bsize_lit, List.length_cons, List.length_nil, Nat.reduceAdd, Nat.zero_add] at c76b5)
                    simp only [Option.some.injEq, Prod.mk.injEq] at H; obtain ⟨rfl, rfl⟩ := H; have hnb77 := NB189_185.out; have hnc77 := NB185_189.out; obtain ⟨hcz78_0, hcz78_1, hcz78_2, hcz78_3, hcz78_4, hcz78_5, hcz78_6, hcz78_7, hcz78_8, hfz78_0, hfz78_1, hfz78_2, hfz78_3, hfz78_4, hfz78_5, hfz78_6, hfz78_7, hfz78_8⟩ := cz9_ BK189; go_wp2; go_ret2; exact ⟨retE_, by repeat (first | (with_reducible first | exact HB.out | apply below_alloc | apply pw_below_drewN | apply below_drew1 | refine below_set ?_ GE185.out | refine below_set ?_ GE189.out) | exact HB.out)⟩
                   · rw [if_neg c76] at H; exact absurd H (by simp)
                  · rw [if_neg c75] at H; exact absurd H (by simp)
                 · rw [if_neg c74] at H; exact absurd H (by simp)
                · rw [if_neg c73] at H; exact absurd H (by simp)
            · rw [if_neg c55] at H; exact absurd H (by simp)
           · rw [if_neg c53] at H; exact absurd H (by simp)
          · rw [if_neg c52] at H; exact absurd H (by simp)
         · rw [if_neg c50] at H; exact absurd H (by simp)
        · rw [if_neg c49] at H; exact absurd H (by simp)

/-! ### stringslite_Index: function 60, by hand -/
/-- At a text of one byte. -/
def stringslite_Index.f (a0 : ByteArray) (a1 : ByteArray) : Option (Int) := if a1.size = 1 then some (Lib.indexByte a0.data.toList (a1.data.toList.getD 0 0)) else none
theorem stringslite_Index.calls (a0 : ByteArray) (a1 : ByteArray) (r : Int) (w : World) (h : stringslite_Index.f a0 a1 = some r) :
    Calls Tryd.prog 60 #[.string a0, .string a1] w fun e w' => e = .returned (.int .i64 r) ∧ Drawn0 w w' := by
  unfold stringslite_Index.f at h; by_cases hb : a1.size = 1
  · rw [if_pos hb] at h
    cases h; obtain ⟨l⟩ := a1
    obtain ⟨c, rfl⟩ : ∃ c, l = #[c] := by
      obtain ⟨l⟩ := l; match l, hb with
      | [c], _ => exact ⟨c, rfl⟩
    refine (Tryd.stringslite_Index_one a0 c w).mono ?_; rintro e w' ⟨rfl, rfl⟩; exact ⟨rfl, ⟨0, rfl⟩⟩
  · rw [if_neg hb] at h
    cases h

end Go.Proofs.YtagbjmjfelggmaaDoor.QFnExactReadEvent
