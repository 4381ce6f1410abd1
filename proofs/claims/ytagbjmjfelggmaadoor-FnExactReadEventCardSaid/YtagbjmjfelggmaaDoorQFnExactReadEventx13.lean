/- A tool of this session wrote this text out of the translation: functions as plain Lean, and proofs that the machine's calls come to their answers. -/
import Derived.Test.YtagbjmjfelggmaaDoorQShort
import Derived.Test.YtagbjmjfelggmaaDoorQFnExactReadEventx0
import Derived.Test.YtagbjmjfelggmaaDoorQFnExactReadEventx10
import Derived.Test.YtagbjmjfelggmaaDoorQFnExactReadEventx12
namespace Go.Proofs.YtagbjmjfelggmaaDoor.QFnExactReadEvent
open Go.RowKit Go.Proofs.YtagbjmjfelggmaaDoorW.PrintWords Go.Proofs.YtagbjmjfelggmaaDoorW.PrintLast Go.Proofs.YtagbjmjfelggmaaDoorW.PrintMore
open Go.Proofs.YtagbjmjfelggmaaDoor.Short
attribute [local go_sem] max2_int min2_int max_two min_two max_three min_three max_four min_four   -- for this text's walks alone
set_option linter.unusedVariables false
set_option linter.unusedSimpArgs false

/-! ### stringslite_Cut: function 55 -/
def stringslite_Cut.f (a0 : ByteArray) (a1 : ByteArray) : Option (ByteArray × ByteArray × Bool) := (stringslite_Index.f a0 a1).bind fun t272 => (if t272 ≥ 0 then (if 0 ≤ t272 then (if t272 ≤ (a0.size : Int) then (if 0 ≤ (wrap64 (t272 + (a1.size : Int))) then (if (wrap64 (t272 + (a1.size : Int))) ≤ (a0.size : Int) then (some (a0.extract 0 (t272 : Int).toNat, a0.extract ((wrap64 (t272 + (a1.size : Int))) : Int).toNat a0.size, true)) else (none)) else (none)) else (none)) else (none)) else (some (a0, (⟨#[]⟩ : ByteArray), false)))
set_option maxHeartbeats 8000000 in
set_option maxRecDepth 100000 in
theorem stringslite_Cut.calls (a0 : ByteArray) (a1 : ByteArray) (r1 : ByteArray) (r2 : ByteArray) (r3 : Bool) (w : World) (h : stringslite_Cut.f a0 a1 = some (r1, r2, r3)) :
    Calls Tryd.prog 55 #[.string a0, .string a1] w fun e w' => e = .returned (.tuple #[.string r1, .string r2, .bool r3]) ∧ Drawn0 w w' := by
 have H : ((stringslite_Index.f a0 a1).bind fun t272 => (if t272 ≥ 0 then (if 0 ≤ t272 then (if t272 ≤ (a0.size : Int) then (if 0 ≤ (wrap64 (t272 + (a1.size : Int))) then (if (wrap64 (t272 + (a1.size : Int))) ≤ (a0.size : Int) then (some (a0.extract 0 (t272 : Int).toNat, a0.extract ((wrap64 (t272 + (a1.size : Int))) : Int).toNat a0.size, true)) else (none)) else (none)) else (none)) else (none)) else (some (a0, (⟨#[]⟩ : ByteArray), false)))) = some (r1, r2, r3) := h; clear h; obtain ⟨t272, A3, H⟩ := bindE_ H; by_cases c4 : t272 ≥ 0
 ·
  rw [if_pos c4] at H; have c4b0 : decide (0 ≤ t272) = true := decide_eq_true c4; clear c4; by_cases c5 : 0 ≤ t272
  ·
   rw [if_pos c5] at H; have c5b0 := eq_true c5; have c5b1 : decide (0 ≤ t272) = true := decide_eq_true c5; clear c5; by_cases c6 : t272 ≤ (a0.size : Int)
   ·
    rw [if_pos c6] at H; have c6b0 := eq_true c6; have c6b1 : decide (t272 ≤ (a0.size : Int)) = true := decide_eq_true c6; clear c6; obtain ⟨ji7, hji7⟩ : ∃ j_ : Int, (wrap64 (t272 + (a1.size : Int))) = j_ := ⟨_, rfl⟩
    replace H : (if 0 ≤ (ji7) then (if (ji7) ≤ (a0.size : Int) then (some (a0.extract 0 (t272 : Int).toNat, a0.extract ((ji7) : Int).toNat a0.size, true)) else (none)) else (none)) = some (r1, r2, r3) := by first | (rw [hji7] at H; exact H) | (simp only [hji7] at H ⊢; exact H)
    (try rw [hji7] at A3); have hji7w : (IntKind.i64.wrap (t272 + (a1.size : Int))) = ji7 := (i64_w _).trans hji7; by_cases c8 : 0 ≤ (ji7)
    ·
     rw [if_pos c8] at H; have c8b0 := eq_true c8; have c8b1 : decide (0 ≤ (ji7)) = true := decide_eq_true c8; clear c8; by_cases c9 : (ji7) ≤ (a0.size : Int)
     ·
      rw [if_pos c9] at H; have c9b0 := eq_true c9; have c9b1 : decide ((ji7) ≤ (a0.size : Int)) = true := decide_eq_true c9; clear c9; simp only [Option.some.injEq, Prod.mk.injEq] at H; obtain ⟨rfl, rfl, rfl⟩ := H; go_enter Tryd.func55, Tryd.ntmps55; go_wp2_with (first | (go_at_call 60; (with_reducible refine (stringslite_Index.calls a0 a1 t272 _ A3.out).mono ?_); rintro e w' ⟨rfl, ⟨nd, rfl⟩⟩; (try first | exact ⟨rfl, _, World.drewN_drewN _ _ _⟩ | exact ⟨rfl, _, Eq.trans (World.drewN_drewN _ _ _) (congrArg (World.drewN _) (Nat.add_assoc _ _ _))⟩))); repeat (go_quiet (first | (go_at_call 60; (with_reducible refine (stringslite_Index.calls a0 a1 t272 _ A3.out).mono ?_); rintro e w' ⟨rfl, ⟨nd, rfl⟩⟩; (try first | exact ⟨rfl, _, World.drewN_drewN _ _ _⟩ | exact ⟨rfl, _, Eq.trans (World.drewN_drewN _ _ _) (congrArg (World.drewN _) (Nat.add_assoc _ _ _))⟩))); try go_wp2_with (first | (go_at_call 60; (with_reducible refine (stringslite_Index.calls a0 a1 t272 _ A3.out).mono ?_); rintro e w' ⟨rfl, ⟨nd, rfl⟩⟩; (try first | exact ⟨rfl, _, World.drewN_drewN _ _ _⟩ | exact ⟨rfl, _, Eq.trans (World.drewN_drewN _ _ _) (congrArg (World.drewN _) (Nat.add_assoc _ _ _))⟩))))
      go_ret3; exact ⟨by first | rfl | (simp; done) | (simp only [← hji7] <;> (first | rfl | simp)) | (simp [*]; done), drE_⟩
     · rw [if_neg c9] at H; exact absurd H (by simp)
    · rw [if_neg c8] at H; exact absurd H (by simp)
   · rw [if_neg c6] at H; exact absurd H (by simp)
  · rw [if_neg c5] at H; exact absurd H (by simp)
 ·
  rw [if_neg c4] at H; have c4b0 : decide (0 ≤ t272) = false := decide_eq_false c4; clear c4; simp only [Option.some.injEq, Prod.mk.injEq] at H; obtain ⟨rfl, rfl, rfl⟩ := H; go_enter Tryd.func55, Tryd.ntmps55; go_wp2_with (first | (go_at_call 60; (with_reducible refine (stringslite_Index.calls a0 a1 t272 _ A3.out).mono ?_); rintro e w' ⟨rfl, ⟨nd, rfl⟩⟩; (try first | exact ⟨rfl, _, World.drewN_drewN _ _ _⟩ | exact ⟨rfl, _, Eq.trans (World.drewN_drewN _ _ _) (congrArg (World.drewN _) (Nat.add_assoc _ _ _))⟩))); repeat (go_quiet (first | (go_at_call 60; (with_reducible refine (stringslite_Index.calls a0 a1 t272 _ A3.out).mono ?_); rintro e w' ⟨rfl, ⟨nd, rfl⟩⟩; (try first | exact ⟨rfl, _, World.drewN_drewN _ _ _⟩ | exact ⟨rfl, _, Eq.trans (World.drewN_drewN _ _ _) (congrArg (World.drewN _) (Nat.add_assoc _ _ _))⟩))); try go_wp2_with (first | (go_at_call 60; (with_reducible refine (stringslite_Index.calls a0 a1 t272 _ A3.out).mono ?_); rintro e w' ⟨rfl, ⟨nd, rfl⟩⟩; (try first | exact ⟨rfl, _, World.drewN_drewN _ _ _⟩ | exact ⟨rfl, _, Eq.trans (World.drewN_drewN _ _ _) (congrArg (World.drewN _) (Nat.add_assoc _ _ _))⟩))))
  go_ret3; exact ⟨eqE_, drE_⟩

/-! ### strings_Cut: function 40 -/
def strings_Cut.f (a0 : ByteArray) (a1 : ByteArray) : Option (ByteArray × ByteArray × Bool) := (stringslite_Cut.f a0 a1).bind fun bt273 => (some (bt273.1, bt273.2.1, bt273.2.2))
set_option maxHeartbeats 8000000 in
set_option maxRecDepth 100000 in
theorem strings_Cut.calls (a0 : ByteArray) (a1 : ByteArray) (r1 : ByteArray) (r2 : ByteArray) (r3 : Bool) (w : World) (h : strings_Cut.f a0 a1 = some (r1, r2, r3)) :
    Calls Tryd.prog 40 #[.string a0, .string a1] w fun e w' => e = .returned (.tuple #[.string r1, .string r2, .bool r3]) ∧ Drawn0 w w' := by
 have H : ((stringslite_Cut.f a0 a1).bind fun bt273 => (some (bt273.1, bt273.2.1, bt273.2.2))) = some (r1, r2, r3) := h; clear h; replace H := Option.bind_eq_some_iff.mp H; obtain ⟨⟨t273, t274, t275⟩, A30, H⟩ := H; replace H : (some (t273, t274, t275)) = some (r1, r2, r3) := H; have A3 := Aside0.mk A30; clear A30; simp only [Option.some.injEq, Prod.mk.injEq] at H; obtain ⟨rfl, rfl, rfl⟩ := H; go_enter Tryd.func40, Tryd.ntmps40; go_wp2_with (first | ((with_reducible refine gate_callee (f := 55) rfl ?_); refine cU_ (some 9) Tryd.func55 #[.string a0, .string a1] ?_; (with_reducible refine (stringslite_Cut.calls a0 a1 t273 t274 t275 _ A3.out).mono ?_); rintro e w' ⟨rfl, ⟨nd, rfl⟩⟩; refine ⟨_, rfl, ?_⟩)); go_ret3; exact ⟨eqE_, drE_⟩

/-! ### impl_number: function 41, by hand -/
/-- How many digits a number's text has. -/
def impl_number.dig (s : ByteArray) : Int := if 0 < s.size ∧ bt s 0 = 45 then (s.size : Int) - 1 else s.size
def impl_number.val (s : ByteArray) : Int := match Lib.atoiAll s.data.toList with
  | .ok v => v
  | .range => Lib.atoiSat s.data.toList
  | _ => 0
def impl_number.ok (s : ByteArray) : Bool := match Lib.atoiAll s.data.toList with
  | .ok v => decide (impl_number.dig s ≤ 18) && (Lib.itoa v == s.data.toList)
  | _ => false
def impl_number.f (a0 : ByteArray) : Option (Int × Bool) := if a0.size ≤ 1000000000 then some (impl_number.val a0, impl_number.ok a0) else none
theorem impl_number.dig_neg {s : ByteArray} (h : 0 < s.size) (c : (((s[0]).toNat : Int) == 45) = true) : impl_number.dig s = (s.size : Int) - 1 := by
  have hb0 : bt s 0 = ((s[0]).toNat : Int) := by unfold bt; rw [dif_pos (by exact h)]; rfl
  unfold impl_number.dig; rw [if_pos ⟨h, by rw [hb0]; exact beq_iff_eq.1 c⟩]
theorem impl_number.dig_pos {s : ByteArray} (h : 0 < s.size) (c : (((s[0]).toNat : Int) == 45) = false) : impl_number.dig s = s.size := by
  have hb0 : bt s 0 = ((s[0]).toNat : Int) := by unfold bt; rw [dif_pos (by exact h)]; rfl
  unfold impl_number.dig; rw [if_neg (fun hh => by rw [hb0] at hh; exact beq_eq_false_iff_ne.1 c hh.2)]
theorem num_ret {v : Int} {b b' : Bool} (h : b = b') : Ending.returned (.tuple #[.int .i64 v, .bool b]) = Ending.returned (.tuple #[.int .i64 v, .bool b']) := by rw [h]
theorem atoiAll_nil (v : Int) : Lib.atoiAll [] ≠ .ok v := by
  have h : Lib.atoiAll [] = .«syntax» := by decide
  rw [h]; exact fun h => by cases h
theorem atoi_good (s : ByteArray) (hs : s.size ≤ 1000000000) (v : Int) (h : Lib.atoiAll s.data.toList = .ok v) (w : World) :
    Calls Tryd.prog 56 #[.string s] w fun e w' => e = .returned (.tuple #[.int .i64 v, .nilIface]) ∧ Below w.heap.size w w' := by
  refine (Tryd.strconv_Atoi_ok s (by omega) v h w).mono ?_; rintro e w' ⟨rfl, rfl | ⟨t, rfl⟩⟩
  · exact ⟨rfl, Below.refl _ _⟩
  · exact ⟨rfl, Joins.below_bytesWorld _ _ _ _ (Nat.le_refl _)⟩
theorem atoi_bad (s : ByteArray) (hs : s.size ≤ 1000000000) (h : ∀ v, Lib.atoiAll s.data.toList ≠ .ok v) (w : World) (hM : Amb w) :
    Calls Tryd.prog 56 #[.string s] w fun e w' => ∃ t p, e = .returned (.tuple #[.int .i64 (impl_number.val s), .iface t p]) ∧ Below w.heap.size w w' := by
  unfold impl_number.val; obtain ⟨_, ⟨t1, p1, h1⟩, ⟨t2, p2, h2⟩⟩ := hM; cases e : Lib.atoiAll s.data.toList with
  | ok v => exact absurd e (h v)
  | «syntax» =>
    refine (Tryd.strconv_Atoi_syntax s (by omega) e _ w h1 (Or.inr ⟨_, _, rfl⟩)).mono ?_; rintro e w' ⟨N, rfl, _, _, hb⟩; exact ⟨_, _, rfl, hb⟩
  | range =>
    refine (Tryd.strconv_Atoi_range s (by omega) e _ w h2 (Or.inr ⟨_, _, rfl⟩)).mono ?_; rintro e w' ⟨N, rfl, _, _, hb⟩; exact ⟨_, _, rfl, hb⟩
set_option maxHeartbeats 2000000 in
set_option maxRecDepth 100000 in
theorem number_bad (a0 : ByteArray) (hs : a0.size ≤ 1000000000) (hne : ∀ v, Lib.atoiAll a0.data.toList ≠ .ok v) (ho : impl_number.ok a0 = false) (w : World) (hM : Amb w) :
    Calls Tryd.prog 41 #[.string a0] w fun e w' => e = .returned (.tuple #[.int .i64 (impl_number.val a0), .bool (impl_number.ok a0)]) ∧ Below w.heap.size w w' := by
  rw [ho]; have NE := Lib.hid hne; have HM := Lib.hid hM; clear hne hM ho; generalize hV : impl_number.val a0 = V; have HV := Lib.hid hV; clear hV; by_cases hz : 0 < a0.size
  · have hei : a0.toList.isEmpty = false := by
      rw [ByteArray.toList_eq]; cases h : a0.data.toList with
      | nil => have : a0.data.toList.length = 0 := by rw [h]; rfl
               rw [Array.length_toList] at this; exact absurd this (by have : a0.data.size = a0.size := rfl; omega)
      | cons _ _ => rfl
    go_enter Tryd.func41, Tryd.ntmps41; go_wp2_with (first | (go_at_call 56; refine (atoi_bad a0 hs NE.out _ HM.out).mono ?_; rintro e w1 ⟨t1, p1, rfl, hb1⟩; rw [HV.out]; have HB1 := Lib.hid hb1; clear hb1)); all_goals go_ret2
    all_goals exact ⟨rfl, HB1.out⟩
  · have hei : a0.toList = [] := by
      rw [ByteArray.toList_eq]; exact List.length_eq_zero_iff.1 (by rw [Array.length_toList]; show a0.size = 0; omega)
    have hei2 : a0.toList.isEmpty = true := by rw [hei]; rfl
    clear hei; go_enter Tryd.func41, Tryd.ntmps41; go_wp2_with (first | (go_at_call 56; refine (atoi_bad a0 hs NE.out _ HM.out).mono ?_; rintro e w1 ⟨t1, p1, rfl, hb1⟩; rw [HV.out]; have HB1 := Lib.hid hb1; clear hb1)); all_goals go_ret2
    all_goals exact ⟨rfl, HB1.out⟩
set_option maxHeartbeats 2000000 in
set_option maxRecDepth 100000 in
theorem impl_number.calls (a0 : ByteArray) (r1 : Int) (r2 : Bool) (w : World) (hM : Amb w) (h : impl_number.f a0 = some (r1, r2)) :
    Calls Tryd.prog 41 #[.string a0] w fun e w' => e = .returned (.tuple #[.int .i64 r1, .bool r2]) ∧ Below w.heap.size w w' := by
  unfold impl_number.f at h; by_cases hs : a0.size ≤ 1000000000; rotate_left
  · rw [if_neg hs] at h; cases h
  rw [if_pos hs] at h; injection h with h
  injection h with h1 h2
  subst h1 h2; cases e : Lib.atoiAll a0.data.toList with
  | ok v =>
    have hne : 0 < a0.size := by
      rcases Nat.eq_zero_or_pos a0.size with h | h
      · have : a0.data.toList = [] := List.length_eq_zero_iff.1 (by rw [Array.length_toList]; exact h)
        rw [this] at e; exact absurd e (atoiAll_nil v)
      · exact h
    have hv := Lib.atoiAll_bounds e; have ev : impl_number.val a0 = v := by unfold impl_number.val; rw [e]
    have eo : impl_number.ok a0 = (decide (impl_number.dig a0 ≤ 18) && (Lib.itoa v == a0.data.toList)) := by unfold impl_number.ok; rw [e]
    rw [ev, eo]; have EV := Lib.hid ev; clear ev eo; have E := Lib.hid e; clear e
    have hei : a0.toList.isEmpty = false := by
      rw [ByteArray.toList_eq]; cases h : a0.data.toList with
      | nil => have : a0.data.toList.length = 0 := by rw [h]; rfl
               rw [Array.length_toList] at this; exact absurd this (by have : a0.data.size = a0.size := rfl; omega)
      | cons _ _ => rfl
    have hit : strconv_Itoa.f v = some ⟨(Lib.itoa v).toArray⟩ := by unfold strconv_Itoa.f; rw [if_pos hv]
    have HIT := Lib.hid hit; have HM := Lib.hid hM; clear hit hM; go_enter Tryd.func41, Tryd.ntmps41; go_wp2_with (first | (go_at_call 56; refine (atoi_good a0 hs v E.out _).mono ?_; rintro e w1 ⟨rfl, hb1⟩; have HB1 := Lib.hid hb1; clear hb1) | (go_at_call 50; refine (strconv_Itoa.calls v _ _ (HM.out.on HB1.out) HIT.out).mono ?_; rintro e w2 ⟨rfl, hb2⟩; have HB2 := Lib.hid hb2; clear hb2)); all_goals go_ret2
    all_goals
      first
      | (refine ⟨num_ret (b := Lib.itoa v == a0.toList) ?_, below_step HB1.out HB2.out⟩
         rw [ByteArray.toList_eq]; first | rw [impl_number.dig_neg hne (by assumption)] | rw [impl_number.dig_pos hne (by assumption)]
         rw [decide_eq_true (by omega), Bool.true_and])
      | (refine ⟨num_ret (b := false) ?_, HB1.out⟩
         first | rw [impl_number.dig_neg hne (by assumption)] | rw [impl_number.dig_pos hne (by assumption)]
         rw [decide_eq_false (by omega), Bool.false_and])
  | «syntax» =>
    exact number_bad a0 hs (fun v h => by rw [e] at h; cases h) (by unfold impl_number.ok; rw [e]) w hM
  | range =>
    exact number_bad a0 hs (fun v h => by rw [e] at h; cases h) (by unfold impl_number.ok; rw [e]) w hM

/-! ### strings_Split: function 42, by hand -/
theorem split_row {w w' : World} (l : List ByteArray) (N : Nat) (hl : l.length ≤ N) (hN : N ≤ maxLen) (hw : w' = w.alloc (.cells (Lib.cellsOf l N) 9)) :
    Kd.R Kd.string 9 w' w.heap.size (fun _ => True) (.slice (some ⟨w.heap.size, 0, none⟩) l.length N) l := by
  subst hw; refine ⟨fun _ _ => trivial, l.map Value.string, ⟨?_, Or.inr ⟨w.heap.size, N, Lib.cellsOf l N, rfl, Nat.le_refl _, ?_, hl, hN, ?_, ?_⟩⟩, ?_, ?_⟩
  · show (l.map Value.string).length = l.length * 1
    rw [List.length_map, Nat.mul_one]
  · exact blk_new w _
  · show (Lib.cellsOf l N).size = N * 1
    rw [Lib.cellsOf_size hl, Nat.mul_one]
  · show (Lib.cellsOf l N).toList.take (l.length * 1) = _
    rw [Nat.mul_one]; simp [Lib.cellsOf]
  · show (l.map Value.string).length = l.length * 1
    rw [List.length_map, Nat.mul_one]
  · intro i x hx
    show ((l.map Value.string).drop (i * 1)).take 1 = [Value.string x]
    rw [Nat.mul_one]; apply List.ext_getElem?; intro j; cases j with
    | zero => simp [List.getElem?_take, hx]
    | succ j => simp [List.getElem?_take]
theorem indexB_one (x : ByteArray) (c : UInt8) : Lib.indexB x ⟨#[c]⟩ = Lib.indexByte x.data.toList c := Lib.index_one _ _
theorem split_core (s : ByteArray) (c : UInt8) (n : Int) (N : Nat) (w : World) (hs : s.size < 4294967281) (hn0 : n ≠ 0) (hn63 : n ≤ 9223372036854775807) (hN : (N : Int) = min (if n < 0 then (Lib.countB s ⟨#[c]⟩ : Int) + 1 else n) ((s.size : Int) + 1)) :
    Calls Tryd.prog 57 #[.string s, .string ⟨#[c]⟩, .int .i64 0, .int .i64 n] w fun e w' =>
      e = .returned (.slice (some ⟨w.heap.size, 0, none⟩) (Lib.splitB ⟨#[c]⟩ 0 (N - 1) s).length N) ∧ w' = w.alloc (.cells (Lib.cellsOf (Lib.splitB ⟨#[c]⟩ 0 (N - 1) s) N) 9) := by
  refine Any.strings_genSplit_core { Tryd.lays146 with } (by kernel_rfl) s ⟨#[c]⟩ 0 n N w hs (Nat.le_refl 1) (Nat.zero_le _) (fun x cs _ => ?_) ?_ hn0 hn63 hN
  · rw [indexB_one]
    exact Tryd.strings_Index_one x c _
  · refine (Tryd.strings_Count_one s c w).mono ?_
    rintro e w' ⟨rfl, rfl⟩; refine ⟨?_, rfl⟩; show Ending.returned _ = Ending.returned (Value.int .i64 ((Lib.count s.data.toList [c] : Nat) : Int)); rw [Lib.count_one]; rfl
/-- At a text of one byte. -/
def strings_Split.f (a0 : ByteArray) (a1 : ByteArray) : Option (List ByteArray) := if a1.size = 1 ∧ a0.size < 4294967281 then some (Lib.splitB a1 0 (Lib.countB a0 a1) a0) else none
theorem strings_Split.calls (a0 : ByteArray) (a1 : ByteArray) (r : List ByteArray) (w : World) (h : strings_Split.f a0 a1 = some r) :
    Calls Tryd.prog 42 #[.string a0, .string a1] w fun e w' => ∃ v0_ : Value, e = .returned (v0_) ∧ Kd.R Kd.string 9 w' w.heap.size (fun _ => True) v0_ r ∧ Below w.heap.size w w' := by
  unfold strings_Split.f at h; by_cases hb : a1.size = 1 ∧ a0.size < 4294967281; rotate_left
  · rw [if_neg hb] at h; cases h
  rw [if_pos hb] at h; obtain rfl := Option.some.inj h; clear h; obtain ⟨c, rfl⟩ := Lib.one_byte a1 hb.1; have hs := hb.2; have hle := Lib.countB_le ⟨#[c]⟩ (Nat.le_refl 1) a0.size a0 (Nat.le_refl _); have hlen := Lib.splitB_all ⟨#[c]⟩ (Nat.le_refl 1) 0 _ a0 rfl; have cc := split_core a0 c (-1) (Lib.countB a0 ⟨#[c]⟩ + 1) w hs (by decide) (by decide) (by rw [if_pos (by decide)]; omega); rw [Nat.add_sub_cancel] at cc; generalize hp : Lib.splitB ⟨#[c]⟩ 0 (Lib.countB a0 ⟨#[c]⟩) a0 = pieces at cc hlen; generalize Lib.countB a0 ⟨#[c]⟩ = k at cc hlen hle hp; clear hp; go_enter Tryd.func42, Tryd.ntmps42; go_wp2_with (go_at_call 57; refine cc.mono ?_; rintro e w' ⟨rfl, hw⟩; rw [hw]); go_ret; have R := split_row (w := w) pieces (k + 1) (by omega) (by show k + 1 ≤ 9223372036854775807; omega) rfl; rw [hlen] at R; exact ⟨_, rfl, R, below_alloc (Below.refl _ _) _⟩

/-! ### strings_SplitN: function 43, by hand -/
/-- At a text of one byte. -/
def strings_SplitN.f (a0 : ByteArray) (a1 : ByteArray) (a2 : Int) : Option (List ByteArray) := if a1.size = 1 ∧ a0.size < 4294967281 ∧ 1 ≤ a2 ∧ a2 ≤ 1000 then some (Lib.splitB a1 0 (min a2.toNat (a0.size + 1) - 1) a0) else none
theorem strings_SplitN.calls (a0 : ByteArray) (a1 : ByteArray) (a2 : Int) (r : List ByteArray) (w : World) (h : strings_SplitN.f a0 a1 a2 = some r) :
    Calls Tryd.prog 43 #[.string a0, .string a1, .int .i64 a2] w fun e w' => ∃ v0_ : Value, e = .returned (v0_) ∧ Kd.R Kd.string 9 w' w.heap.size (fun _ => True) v0_ r ∧ Below w.heap.size w w' := by
  unfold strings_SplitN.f at h; by_cases hb : a1.size = 1 ∧ a0.size < 4294967281 ∧ 1 ≤ a2 ∧ a2 ≤ 1000; rotate_left
  · rw [if_neg hb] at h; cases h
  rw [if_pos hb] at h; obtain rfl := Option.some.inj h; clear h; obtain ⟨h1, hs, h3, h4⟩ := hb; obtain ⟨c, rfl⟩ := Lib.one_byte a1 h1; obtain ⟨m, rfl⟩ := Int.eq_ofNat_of_zero_le (show 0 ≤ a2 by omega); have cc := split_core a0 c (m : Int) (min m (a0.size + 1)) w hs (by omega) (by omega) (by rw [if_neg (by omega)]; omega); have hle := Lib.splitB_length_le ⟨#[c]⟩ 0 (min m (a0.size + 1) - 1) a0; rw [show ((m : Int)).toNat = m from rfl]; have hk : min m (a0.size + 1) ≤ 1000 := by omega
  have hk1 : 1 ≤ min m (a0.size + 1) := by omega
  generalize Lib.splitB ⟨#[c]⟩ 0 (min m (a0.size + 1) - 1) a0 = pieces at cc hle; generalize min m (a0.size + 1) = k at cc hle hk hk1; go_enter Tryd.func43, Tryd.ntmps43; go_wp2_with (go_at_call 57; refine cc.mono ?_; rintro e w' ⟨rfl, hw⟩; rw [hw]); go_ret; exact ⟨_, rfl, split_row pieces k (by omega) (by show k ≤ 9223372036854775807; omega) rfl, below_alloc (Below.refl _ _) _⟩

/-! ### impl_undash: function 44 -/
def impl_undash.f (a0 : ByteArray) : Option (ByteArray) := if a0.toList = ([45] : List UInt8) then (some (⟨#[]⟩ : ByteArray)) else (some a0)
set_option maxHeartbeats 8000000 in
set_option maxRecDepth 100000 in
theorem impl_undash.calls (a0 : ByteArray) (r : ByteArray) (w : World) (h : impl_undash.f a0 = some r) :
    Calls Tryd.prog 44 #[.string a0] w fun e w' => e = .returned (.string r) ∧ Drawn0 w w' := by
 have H : (if a0.toList = ([45] : List UInt8) then (some (⟨#[]⟩ : ByteArray)) else (some a0)) = some r := h; clear h; by_cases c2 : a0.toList = ([45] : List UInt8)
 · rw [if_pos c2] at H; have c2b0 : (a0.toList == ([45] : List UInt8)) = true := beq_iff_eq.mpr c2; have c2b1 : (a0.toList != ([45] : List UInt8)) = false := bne_eq_false_iff_eq.mpr c2; clear c2; obtain rfl := Option.some.inj H; go_enter Tryd.func44, Tryd.ntmps44; go_wp2; go_ret; exact ⟨eqE_, drE_⟩
 · rw [if_neg c2] at H; have c2b0 : (a0.toList == ([45] : List UInt8)) = false := beq_eq_false_iff_ne.mpr c2; have c2b1 : (a0.toList != ([45] : List UInt8)) = true := bne_iff_ne.mpr c2; obtain rfl := Option.some.inj H; go_enter Tryd.func44, Tryd.ntmps44; go_wp2; go_ret; exact ⟨eqE_, drE_⟩

end Go.Proofs.YtagbjmjfelggmaaDoor.QFnExactReadEvent
