/- A tool of this session wrote this text out of the translation: functions as plain Lean, and proofs that the machine's calls come to their answers. -/
import Derived.Test.YtljpmdeobmmhlaaQShort
import Derived.Test.YtljpmdeobmmhlaaQFnExactMemberx0
namespace Go.Proofs.Ytljpmdeobmmhlaa.QFnExactMember
open Go.RowKit Go.Proofs.YtljpmdeobmmhlaaW.PrintWords Go.Proofs.YtljpmdeobmmhlaaW.PrintLast Go.Proofs.YtljpmdeobmmhlaaW.PrintMore
open Go.Proofs.Ytljpmdeobmmhlaa.Short
attribute [local go_sem] max2_int min2_int max_two min_two max_three min_three max_four min_four   -- for this text's walks alone
set_option linter.unusedVariables false
set_option linter.unusedSimpArgs false

/-! ### impl_first: function 18 -/
def impl_first.l0 : Nat → List Int → Int → Int → Option (Int)
  | 0, _, _, _ => none
  | k + 1, x5, x6, x7 => if x7 < x6 then (if 0 ≤ x7 then (if x7 < (x5.length : Int) then (if (rd x5 x7) = 0 then (impl_first.l0 k x5 x6 (wrap64 (x7 + 1))) else (some (rd x5 x7))) else (none)) else (none)) else (some 0)
def impl_first.f (k : Nat) (l0 : List Int) : Option (Int) := impl_first.l0 k l0 (l0.length : Int) 0
theorem impl_first.mono_l : ∀ k, (∀ y0 y1 y2, LeO (impl_first.l0 k y0 y1 y2) (impl_first.l0 (k + 1) y0 y1 y2))
  | 0 => fun _ _ _ r h => by simp [impl_first.l0] at h
  | k + 1 => by
    have ih0 := impl_first.mono_l k
    · intro y0 y1 y2
      unfold impl_first.l0
      repeat' first
      | (with_reducible exact ih0 _ _ _)
      | (with_reducible exact LeO.refl _)
      | (with_reducible exact LeO.none _)
      | (with_reducible refine LeO.ite ?_ ?_)
      | (with_reducible refine LeO.bind ?_ (fun _ => ?_))
      | exact ih0 _ _ _
      | exact LeO.none _
      | refine LeO.ite ?_ ?_
      | refine LeO.bind ?_ (fun _ => ?_)
theorem impl_first.mono : ∀ a0 k, LeO (impl_first.f k a0) (impl_first.f (k + 1) a0) := by
  intro a0 k
  have ih0 := impl_first.mono_l k
  unfold impl_first.f
  repeat' first
      | (with_reducible exact ih0 _ _ _)
      | (with_reducible exact LeO.refl _)
      | (with_reducible exact LeO.none _)
      | (with_reducible refine LeO.ite ?_ ?_)
      | (with_reducible refine LeO.bind ?_ (fun _ => ?_))
      | exact ih0 _ _ _
      | exact LeO.none _
      | refine LeO.ite ?_ ?_
      | refine LeO.bind ?_ (fun _ => ?_)
set_option maxHeartbeats 8000000 in
set_option maxRecDepth 100000 in
theorem impl_first.calls (k : Nat) (A0 : Option Addr) (c0 : Nat) (l0 : List Int) (r : Int) (w : World) (hr0 : Kd.C (Kd.int .i64) w A0 l0.length l0) (hc0 : l0.length ≤ c0) (h : impl_first.f k l0 = some r) :
    Calls Try.prog 18 #[.slice A0 l0.length c0] w fun e w' => e = .returned (.int .i64 r) ∧ Drawn0 w w' := by
 have HR0 := Aside0.mk hr0
 have HC0 := Aside0.mk hc0
 clear hr0 hc0
 have H : (impl_first.l0 k l0 (l0.length : Int) 0) = some r := h
 clear h
 have H' := Aside0.mk H
 clear H
 go_enter Try.func18, Try.ntmps18
 go_wp2
 go_loopg [7] k (fun kq v7 w' => ∃ (x7_1 : Int), v7 = .int .i64 x7_1 ∧ Aside0 (impl_first.l0 kq l0 (l0.length : Int) x7_1 = some r) ∧ Aside0 (kq ≤ k) ∧ Drawn0 w w')
 case atStart => exact ⟨(0), eqE_, H', ⟨Nat.le_refl _⟩, by repeat (first | exact Drawn0.refl _ | apply Drawn0.step)⟩
 case round =>
  clear H'
  obtain ⟨x7_1, rfl, HA, HK1, ⟨m1, rfl⟩⟩ := hrel
  cases gk with
  | zero => exact absurd HA.out (by simp [impl_first.l0])
  | succ k1 =>
   have H := HA.out
   clear HA
   simp only [impl_first.l0] at H
   by_cases c2 : x7_1 < (l0.length : Int)
   ·
    rw [if_pos c2] at H
    have c2b0 : decide (x7_1 < (l0.length : Int)) = true := decide_eq_true c2
    clear c2
    by_cases c3 : 0 ≤ x7_1
    ·
     rw [if_pos c3] at H
     have c3b0 : decide (0 ≤ x7_1) = true := decide_eq_true c3
     clear c3
     by_cases c4 : x7_1 < (l0.length : Int)
     ·
      rw [if_pos c4] at H
      have c4b0 : decide (x7_1 < (l0.length : Int)) = true := decide_eq_true c4
      clear c4
      by_cases c5 : (rd l0 x7_1) = 0
      ·
       rw [if_pos c5] at H
       have c5b0 : ((rd l0 x7_1) == 0) = true := beq_iff_eq.mpr c5
       have c5b1 : ((rd l0 x7_1) != 0) = false := bne_eq_false_iff_eq.mpr c5
       clear c5
       have H' := Aside0.mk H
       clear H
       have p168 : 0 ≤ (x7_1 : Int) := of_decide_eq_true (by first | (with_reducible assumption) | assumption)
       have q168 : x7_1 < (l0.length : Int) := of_decide_eq_true (by first | (with_reducible assumption) | assumption)
       obtain ⟨ad168, e168, hx168_0⟩ := Kd.at_int HR0.out x7_1 p168 q168
       cases e168
       replace p168 := eq_true p168
       replace q168 := eq_true q168
       go_wp2
       go_roundg k1
       case measure => have := HK1.out; omega
       case rel => exact ⟨(wrap64 (x7_1 + 1)), eqE_, H', ⟨by have := HK1.out; omega⟩, by repeat (first | exact Drawn0.refl _ | apply Drawn0.step)⟩
      ·
       rw [if_neg c5] at H
       have c5b0 : ((rd l0 x7_1) == 0) = false := beq_eq_false_iff_ne.mpr c5
       have c5b1 : ((rd l0 x7_1) != 0) = true := bne_iff_ne.mpr c5
       obtain rfl := Option.some.inj H
       have p168 : 0 ≤ (x7_1 : Int) := of_decide_eq_true (by first | (with_reducible assumption) | assumption)
       have q168 : x7_1 < (l0.length : Int) := of_decide_eq_true (by first | (with_reducible assumption) | assumption)
       obtain ⟨ad168, e168, hx168_0⟩ := Kd.at_int HR0.out x7_1 p168 q168
       cases e168
       replace p168 := eq_true p168
       replace q168 := eq_true q168
       go_wp2
       go_ret
       exact ⟨by first | rfl | (simp; done) | (simp [*]; done) | (simp only [bne_empty_]; rfl), by repeat (first | exact Drawn0.refl _ | apply Drawn0.step)⟩
     ·
      rw [if_neg c4] at H
      exact absurd H (by simp)
    ·
     rw [if_neg c3] at H
     exact absurd H (by simp)
   ·
    rw [if_neg c2] at H
    have c2b0 : decide (x7_1 < (l0.length : Int)) = false := decide_eq_false c2
    clear c2
    obtain rfl := Option.some.inj H
    go_wp2
    go_ret
    exact ⟨by first | rfl | (simp; done) | (simp [*]; done) | (simp only [bne_empty_]; rfl), by repeat (first | exact Drawn0.refl _ | apply Drawn0.step)⟩

/-! ### impl_unless: function 20 -/
def impl_unless.f (a0 : Bool) (a1 : Int) : Option (Int) := if a0 = true then (some 0) else (some a1)
set_option maxHeartbeats 8000000 in
set_option maxRecDepth 100000 in
theorem impl_unless.calls (a0 : Bool) (a1 : Int) (r : Int) (w : World) (h : impl_unless.f a0 a1 = some r) :
    Calls Try.prog 20 #[.bool a0, .int .i64 a1] w fun e w' => e = .returned (.int .i64 r) ∧ Drawn0 w w' := by
 have H : (if a0 = true then (some 0) else (some a1)) = some r := h
 clear h
 by_cases c3 : a0 = true
 ·
  subst c3
  replace H := ifT_ H
  obtain rfl := Option.some.inj H
  go_enter Try.func20, Try.ntmps20
  go_wp2
  go_ret
  exact ⟨by first | rfl | (simp; done) | (simp [*]; done) | (simp only [bne_empty_]; rfl), by repeat (first | exact Drawn0.refl _ | apply Drawn0.step)⟩
 ·
  replace c3 := Bool.eq_false_iff.mpr c3
  subst c3
  replace H := ifF_ H
  obtain rfl := Option.some.inj H
  go_enter Try.func20, Try.ntmps20
  go_wp2
  go_ret
  exact ⟨by first | rfl | (simp; done) | (simp [*]; done) | (simp only [bne_empty_]; rfl), by repeat (first | exact Drawn0.refl _ | apply Drawn0.step)⟩

/-! ### impl_long: function 19 -/
def impl_long.f (a0 : ByteArray) : Option (Int) := (impl_unless.f (decide ((a0.size : Int) ≤ 65536)) 2).bind fun t169 => (some t169)
set_option maxHeartbeats 8000000 in
set_option maxRecDepth 100000 in
theorem impl_long.calls (a0 : ByteArray) (r : Int) (w : World) (h : impl_long.f a0 = some r) :
    Calls Try.prog 19 #[.string a0] w fun e w' => e = .returned (.int .i64 r) ∧ Drawn0 w w' := by
 have H : ((impl_unless.f (decide ((a0.size : Int) ≤ 65536)) 2).bind fun t169 => (some t169)) = some r := h
 clear h
 obtain ⟨t169, A2, H⟩ := bindE_ H
 obtain rfl := Option.some.inj H
 go_enter Try.func19, Try.ntmps19
 go_wp2_with (first | ((with_reducible refine gate_callee (f := 20) rfl ?_); refine cU_ (some 6) Try.func20 #[.bool (decide ((a0.size : Int) ≤ 65536)), .int .i64 2] ?_; (with_reducible refine (impl_unless.calls (decide ((a0.size : Int) ≤ 65536)) 2 t169 _ A2.out).mono ?_); rintro e w' ⟨rfl, ⟨nd, rfl⟩⟩; refine ⟨_, rfl, ?_⟩))
 go_ret
 exact ⟨by first | rfl | (simp; done) | (simp [*]; done) | (simp only [bne_empty_]; rfl), by repeat (first | exact Drawn0.refl _ | apply Drawn0.step)⟩

/-! ### impl_within: function 36 -/
def impl_within.f (a0 : Int) (a1 : Int) (a2 : Int) : Option (Bool) := if a1 ≤ a0 then (some (decide (a0 ≤ a2))) else (some false)
set_option maxHeartbeats 8000000 in
set_option maxRecDepth 100000 in
theorem impl_within.calls (a0 : Int) (a1 : Int) (a2 : Int) (r : Bool) (w : World) (h : impl_within.f a0 a1 a2 = some r) :
    Calls Try.prog 36 #[.int .i64 a0, .int .i64 a1, .int .i64 a2] w fun e w' => e = .returned (.bool r) ∧ Drawn0 w w' := by
 have H : (if a1 ≤ a0 then (some (decide (a0 ≤ a2))) else (some false)) = some r := h
 clear h
 by_cases c4 : a1 ≤ a0
 ·
  rw [if_pos c4] at H
  have c4b0 : decide (a1 ≤ a0) = true := decide_eq_true c4
  clear c4
  obtain rfl := Option.some.inj H
  go_enter Try.func36, Try.ntmps36
  go_wp2
  go_ret
  exact ⟨by first | rfl | (simp; done) | (simp [*]; done) | (simp only [bne_empty_]; rfl), by repeat (first | exact Drawn0.refl _ | apply Drawn0.step)⟩
 ·
  rw [if_neg c4] at H
  have c4b0 : decide (a1 ≤ a0) = false := decide_eq_false c4
  clear c4
  obtain rfl := Option.some.inj H
  go_enter Try.func36, Try.ntmps36
  go_wp2
  go_ret
  exact ⟨by first | rfl | (simp; done) | (simp [*]; done) | (simp only [bne_empty_]; rfl), by repeat (first | exact Drawn0.refl _ | apply Drawn0.step)⟩

/-! ### slices_Index_string_string: function 33 -/
def slices_Index_string_string.l0 : Nat → List ByteArray → ByteArray → Int → Int → Option (Int)
  | 0, _, _, _, _ => none
  | k + 1, x0, x1, x7, x8 => if x8 < x7 then (if 0 ≤ x8 then (if x8 < (x0.length : Int) then (if x1.toList = (rdOf ByteArray.empty x0 x8).toList then (some x8) else (slices_Index_string_string.l0 k x0 x1 x7 (wrap64 (x8 + 1)))) else (none)) else (none)) else (some (-1))
def slices_Index_string_string.f (k : Nat) (l0 : List ByteArray) (a1 : ByteArray) : Option (Int) := slices_Index_string_string.l0 k l0 a1 (l0.length : Int) 0
theorem slices_Index_string_string.mono_l : ∀ k, (∀ y0 y1 y2 y3, LeO (slices_Index_string_string.l0 k y0 y1 y2 y3) (slices_Index_string_string.l0 (k + 1) y0 y1 y2 y3))
  | 0 => fun _ _ _ _ r h => by simp [slices_Index_string_string.l0] at h
  | k + 1 => by
    have ih0 := slices_Index_string_string.mono_l k
    · intro y0 y1 y2 y3
      unfold slices_Index_string_string.l0
      repeat' first
      | (with_reducible exact ih0 _ _ _ _)
      | (with_reducible exact LeO.refl _)
      | (with_reducible exact LeO.none _)
      | (with_reducible refine LeO.ite ?_ ?_)
      | (with_reducible refine LeO.bind ?_ (fun _ => ?_))
      | exact ih0 _ _ _ _
      | exact LeO.none _
      | refine LeO.ite ?_ ?_
      | refine LeO.bind ?_ (fun _ => ?_)
theorem slices_Index_string_string.mono : ∀ a0 a1 k, LeO (slices_Index_string_string.f k a0 a1) (slices_Index_string_string.f (k + 1) a0 a1) := by
  intro a0 a1 k
  have ih0 := slices_Index_string_string.mono_l k
  unfold slices_Index_string_string.f
  repeat' first
      | (with_reducible exact ih0 _ _ _ _)
      | (with_reducible exact LeO.refl _)
      | (with_reducible exact LeO.none _)
      | (with_reducible refine LeO.ite ?_ ?_)
      | (with_reducible refine LeO.bind ?_ (fun _ => ?_))
      | exact ih0 _ _ _ _
      | exact LeO.none _
      | refine LeO.ite ?_ ?_
      | refine LeO.bind ?_ (fun _ => ?_)
set_option maxHeartbeats 8000000 in
set_option maxRecDepth 100000 in
theorem slices_Index_string_string.calls (k : Nat) (A0 : Option Addr) (c0 : Nat) (l0 : List ByteArray) (a1 : ByteArray) (r : Int) (w : World) (hr0 : Kd.C Kd.string w A0 l0.length l0) (hc0 : l0.length ≤ c0) (h : slices_Index_string_string.f k l0 a1 = some r) :
    Calls Try.prog 33 #[.slice A0 l0.length c0, .string a1] w fun e w' => e = .returned (.int .i64 r) ∧ Drawn0 w w' := by
 have HR0 := Aside0.mk hr0
 have HC0 := Aside0.mk hc0
 clear hr0 hc0
 have H : (slices_Index_string_string.l0 k l0 a1 (l0.length : Int) 0) = some r := h
 clear h
 have H' := Aside0.mk H
 clear H
 go_enter Try.func33, Try.ntmps33
 go_wp2
 go_loopg [8] k (fun kq v8 w' => ∃ (x8_1 : Int), v8 = .int .i64 x8_1 ∧ Aside0 (slices_Index_string_string.l0 kq l0 a1 (l0.length : Int) x8_1 = some r) ∧ Aside0 (kq ≤ k) ∧ Drawn0 w w')
 case atStart => exact ⟨(0), eqE_, H', ⟨Nat.le_refl _⟩, by repeat (first | exact Drawn0.refl _ | apply Drawn0.step)⟩
 case round =>
  clear H'
  obtain ⟨x8_1, rfl, HA, HK1, ⟨m1, rfl⟩⟩ := hrel
  cases gk with
  | zero => exact absurd HA.out (by simp [slices_Index_string_string.l0])
  | succ k1 =>
   have H := HA.out
   clear HA
   simp only [slices_Index_string_string.l0] at H
   by_cases c3 : x8_1 < (l0.length : Int)
   ·
    rw [if_pos c3] at H
    have c3b0 : decide (x8_1 < (l0.length : Int)) = true := decide_eq_true c3
    clear c3
    by_cases c4 : 0 ≤ x8_1
    ·
     rw [if_pos c4] at H
     have c4b0 : decide (0 ≤ x8_1) = true := decide_eq_true c4
     clear c4
     by_cases c5 : x8_1 < (l0.length : Int)
     ·
      rw [if_pos c5] at H
      have c5b0 : decide (x8_1 < (l0.length : Int)) = true := decide_eq_true c5
      clear c5
      by_cases c6 : a1.toList = (rdOf ByteArray.empty l0 x8_1).toList
      ·
       rw [if_pos c6] at H
       have c6b0 : (a1.toList == (rdOf ByteArray.empty l0 x8_1).toList) = true := beq_iff_eq.mpr c6
       have c6b1 : (a1.toList != (rdOf ByteArray.empty l0 x8_1).toList) = false := bne_eq_false_iff_eq.mpr c6
       clear c6
       obtain rfl := Option.some.inj H
       have p170 : 0 ≤ (x8_1 : Int) := of_decide_eq_true (by first | (with_reducible assumption) | assumption)
       have q170 : x8_1 < (l0.length : Int) := of_decide_eq_true (by first | (with_reducible assumption) | assumption)
       obtain ⟨ad170, e170, hx170_0⟩ := Kd.at_string HR0.out x8_1 p170 q170
       cases e170
       replace p170 := eq_true p170
       replace q170 := eq_true q170
       go_wp2
       go_ret
       exact ⟨by first | rfl | (simp; done) | (simp [*]; done) | (simp only [bne_empty_]; rfl), by repeat (first | exact Drawn0.refl _ | apply Drawn0.step)⟩
      ·
       rw [if_neg c6] at H
       have c6b0 : (a1.toList == (rdOf ByteArray.empty l0 x8_1).toList) = false := beq_eq_false_iff_ne.mpr c6
       have c6b1 : (a1.toList != (rdOf ByteArray.empty l0 x8_1).toList) = true := bne_iff_ne.mpr c6
       have H' := Aside0.mk H
       clear H
       have p170 : 0 ≤ (x8_1 : Int) := of_decide_eq_true (by first | (with_reducible assumption) | assumption)
       have q170 : x8_1 < (l0.length : Int) := of_decide_eq_true (by first | (with_reducible assumption) | assumption)
       obtain ⟨ad170, e170, hx170_0⟩ := Kd.at_string HR0.out x8_1 p170 q170
       cases e170
       replace p170 := eq_true p170
       replace q170 := eq_true q170
       go_wp2
       go_roundg k1
       case measure => have := HK1.out; omega
       case rel => exact ⟨(wrap64 (x8_1 + 1)), eqE_, H', ⟨by have := HK1.out; omega⟩, by repeat (first | exact Drawn0.refl _ | apply Drawn0.step)⟩
     ·
      rw [if_neg c5] at H
      exact absurd H (by simp)
    ·
     rw [if_neg c4] at H
     exact absurd H (by simp)
   ·
    rw [if_neg c3] at H
    have c3b0 : decide (x8_1 < (l0.length : Int)) = false := decide_eq_false c3
    clear c3
    obtain rfl := Option.some.inj H
    go_wp2
    go_ret
    exact ⟨by first | rfl | (simp; done) | (simp [*]; done) | (simp only [bne_empty_]; rfl), by repeat (first | exact Drawn0.refl _ | apply Drawn0.step)⟩

/-! ### slices_Contains_string_string: function 37 -/
def slices_Contains_string_string.f (k : Nat) (l0 : List ByteArray) (a1 : ByteArray) : Option (Bool) := (slices_Index_string_string.f k l0 a1).bind fun t171 => (some (decide (t171 ≥ 0)))
theorem slices_Contains_string_string.mono : ∀ a0 a1 k, LeO (slices_Contains_string_string.f k a0 a1) (slices_Contains_string_string.f (k + 1) a0 a1) := by
  intro a0 a1 k
  unfold slices_Contains_string_string.f
  repeat' first
      | (with_reducible exact slices_Index_string_string.mono _ _ _)
      | (with_reducible exact LeO.refl _)
      | (with_reducible exact LeO.none _)
      | (with_reducible refine LeO.ite ?_ ?_)
      | (with_reducible refine LeO.bind ?_ (fun _ => ?_))
      | exact slices_Index_string_string.mono _ _ _
      | exact LeO.none _
      | refine LeO.ite ?_ ?_
      | refine LeO.bind ?_ (fun _ => ?_)
set_option maxHeartbeats 8000000 in
set_option maxRecDepth 100000 in
theorem slices_Contains_string_string.calls (k : Nat) (A0 : Option Addr) (c0 : Nat) (l0 : List ByteArray) (a1 : ByteArray) (r : Bool) (w : World) (hr0 : Kd.C Kd.string w A0 l0.length l0) (hc0 : l0.length ≤ c0) (h : slices_Contains_string_string.f k l0 a1 = some r) :
    Calls Try.prog 37 #[.slice A0 l0.length c0, .string a1] w fun e w' => e = .returned (.bool r) ∧ Drawn0 w w' := by
 have HR0 := Aside0.mk hr0
 have HC0 := Aside0.mk hc0
 clear hr0 hc0
 have H : ((slices_Index_string_string.f k l0 a1).bind fun t171 => (some (decide (t171 ≥ 0)))) = some r := h
 clear h
 obtain ⟨t171, A3, H⟩ := bindE_ H
 obtain rfl := Option.some.inj H
 go_enter Try.func37, Try.ntmps37
 go_wp2_with (first | ((with_reducible refine gate_callee (f := 33) rfl ?_); refine cU_ (some 7) Try.func33 #[.slice A0 l0.length c0, .string a1] ?_; (with_reducible refine (slices_Index_string_string.calls k _ _ l0 a1 t171 _ ?side1 ?side2 A3.out).mono ?_); (case side1 => repeat (first | exact HR0.out | (with_reducible refine Kd.C_alloc ?_ _) | (with_reducible refine Kd.C_drewN ?_ _) | (with_reducible refine Kd.C_drew ?_))); (case side2 => exact HC0.out); rintro e w' ⟨rfl, ⟨nd, rfl⟩⟩; refine ⟨_, rfl, ?_⟩))
 go_ret
 exact ⟨by first | rfl | (simp; done) | (simp [*]; done) | (simp only [bne_empty_]; rfl), by repeat (first | exact Drawn0.refl _ | apply Drawn0.step)⟩

/-! ### impl_Json_valid: function 32, by hand -/
/-- The first place, of d from i on, that b tells. -/
def impl_Json_valid.idxB (b : Nat → Bool) : Nat → Nat → Int
  | 0, _ => -1
  | d + 1, i => if b i = true then (i : Int) else impl_Json_valid.idxB b d (i + 1)
/-- What a function value answers at an element in memory. -/
abbrev impl_Json_valid.Ans (g : Nat) (lb : Array Value) (W : World) (x : S29) (r : Bool) : Prop := ∀ (A3 : Option Addr) (c3 : Nat) (A4 : Option Addr) (c4 : Nat), Kd.C Kd.string W A3 x.f3.length x.f3 → x.f3.length ≤ c3 → Kd.C k29 W A4 x.f4.length x.f4 → x.f4.length ≤ c4 →
  Calls Try.prog g (#[.agg #[(.int .i64 x.f0), (.int .i64 x.f1), (.string x.f2), (.slice A3 x.f3.length c3), (.slice A4 x.f4.length c4)]] ++ lb) W fun e w' => e = .returned (.bool r) ∧ Below W.heap.size W w'
set_option maxHeartbeats 4000000 in
theorem impl_Json_valid.idxF (g : Nat) (lb : Array Value) (eg : ∀ args w, (callFunc g args).run Try.prog w = .ok (.enter g args) w) (b : Nat → Bool) (A : Option Addr) (c : Nat) (l : List S29) (w : World) (hr : Kd.C k29 w A l.length l)
    (hp : ∀ (W : World) (i : Nat), i < l.length → Below w.heap.size w W → impl_Json_valid.Ans g lb W (rd_T29 l (i : Int)) (b i)) :
    Calls Try.prog 40 #[.slice A l.length c, .func (.func g) #[] lb] w fun e w' => e = .returned (.int .i64 (impl_Json_valid.idxB b l.length 0)) ∧ Below w.heap.size w w' := by
  have HR := Aside0.mk hr
  have HP := Aside0.mk hp
  have hlen := hr.2.1
  clear hr hp
  go_enter Try.func40, Try.ntmps40
  go_wp2
  go_loopw [5, 8] (fun _ i W => ∃ n d : Nat, n + d = l.length ∧ i = .int .i64 (n : Int) ∧ impl_Json_valid.idxB b d n = impl_Json_valid.idxB b l.length 0 ∧ Below w.heap.size w W) (fun _ i _ => l.length - (intOf i).toNat)
  case atStart => exact ⟨0, l.length, by omega, rfl, rfl, Below.refl _ _⟩
  case round =>
    obtain ⟨n, d, hd, rfl, hk, hb⟩ := hrel
    have HK := Aside0.mk hk
    have HB := Aside0.mk hb
    clear hk hb
    cases d with
    | zero =>
      have hdec : decide ((n : Int) < (l.length : Int)) = false := decide_eq_false (by omega)
      go_wp2
      go_ret
      exact ⟨by rw [← HK.out]; rfl, HB.out⟩
    | succ d =>
      have p : 0 ≤ (n : Int) := by omega
      have q : (n : Int) < (l.length : Int) := by omega
      have hdec : decide ((n : Int) < (l.length : Int)) = true := decide_eq_true q
      obtain ⟨ad, A3, c3, A4, c4, ea, hx0, hx1, hx2, hx3, hx4, l3, g3, l4, g4⟩ := at_T29 (Kd.C_below HR.out HB.out) (n : Int) p q
      cases ea
      simp only [Int.toNat_natCast] at hx0 hx1 hx2 hx3 hx4
      have hcall := HP.out wr n (by omega) HB.out A3 c3 A4 c4 g3 l3 g4 l4
      clear g3 g4
      have hk := HK.out
      rw [impl_Json_valid.idxB] at hk
      cases hbn : b n with
      | true =>
        rw [hbn] at hcall hk
        rw [if_pos rfl] at hk
        have HK' := Aside0.mk hk
        clear hk HK hbn
        go_wp2
        refine hcall.mono ?_
        rintro e w' ⟨rfl, hb'⟩
        go_wp2
        go_ret
        exact ⟨by rw [← HK'.out]; rfl, below_step HB.out hb'⟩
      | false =>
        rw [hbn] at hcall hk
        rw [if_neg Bool.false_ne_true] at hk
        have HK' := Aside0.mk hk
        clear hk HK hbn
        go_wp2
        refine hcall.mono ?_
        rintro e w' ⟨rfl, hb'⟩
        go_wp2
        go_roundw
        case rel => exact ⟨n + 1, d, by omega, by go_num, HK'.out, below_step HB.out hb'⟩
        case measure => simp [intOf]; omega
theorem impl_Json_valid.conF (g : Nat) (lb : Array Value) (eg : ∀ args w, (callFunc g args).run Try.prog w = .ok (.enter g args) w) (b : Nat → Bool) (A : Option Addr) (c : Nat) (l : List S29) (w : World) (hr : Kd.C k29 w A l.length l)
    (hp : ∀ (W : World) (i : Nat), i < l.length → Below w.heap.size w W → impl_Json_valid.Ans g lb W (rd_T29 l (i : Int)) (b i)) :
    Calls Try.prog 38 #[.slice A l.length c, .func (.func g) #[] lb] w fun e w' => e = .returned (.bool (decide (0 ≤ impl_Json_valid.idxB b l.length 0))) ∧ Below w.heap.size w w' := by
  have H := impl_Json_valid.idxF g lb eg b A c l w hr hp
  clear hr hp
  generalize impl_Json_valid.idxB b l.length 0 = t at H ⊢
  go_enter Try.func38, Try.ntmps38
  go_wp2_with (go_at_call 40; refine H.mono ?_; rintro e w' ⟨rfl, hb'⟩)
  go_ret
  exact ⟨by simp, hb'⟩
set_option maxHeartbeats 4000000 in
theorem impl_Json_valid.clo (x : S29) (dp : Int) (r : Bool) (g : Nat) (W : World) (h : W.heap[g]? = some (.cells #[.int .i64 dp] 3 (0, 0))) (hr : ∀ W', Below W.heap.size W W' → ∀ (A3 : Option Addr) (c3 : Nat) (A4 : Option Addr) (c4 : Nat), Kd.C Kd.string W' A3 x.f3.length x.f3 → x.f3.length ≤ c3 → Kd.C k29 W' A4 x.f4.length x.f4 → x.f4.length ≤ c4 →
      Calls Try.prog 32 #[.agg #[(.int .i64 x.f0), (.int .i64 x.f1), (.string x.f2), (.slice A3 x.f3.length c3), (.slice A4 x.f4.length c4)], .int .i64 (wrap64 (dp - 1))] W' fun e w' => e = .returned (.bool r) ∧ Below W'.heap.size W' w') : impl_Json_valid.Ans 39 #[.pointer (some ⟨g, 0, none⟩)] W x (!r) := by
  intro A3 c3 A4 c4 h3 l3 h4 l4
  have HC := Aside0.mk (fun W' hw => hr W' hw A3 c3 A4 c4 (Kd.C_below h3 hw) l3 (Kd.C_below h4 hw) l4)
  have BG := Aside0.mk h
  have HB := Aside0.mk (Below.refl W.heap.size W)
  clear hr h h3 h4
  have hu29 := Try.underlying29
  show Calls Try.prog 39 #[.agg #[(.int .i64 x.f0), (.int .i64 x.f1), (.string x.f2), (.slice A3 x.f3.length c3), (.slice A4 x.f4.length c4)], .pointer (some ⟨g, 0, none⟩)] W _
  go_enter Try.func39, Try.ntmps39
  go_wp2_with (first | ((with_reducible refine gate_dst (N := 2) rfl ?_); refine box_event ?hg (N := 2) ?hd (cs := #[(.int .i64 x.f0), (.int .i64 x.f1), (.string x.f2), (.slice A3 x.f3.length c3), (.slice A4 x.f4.length c4)]) (t := 29) ?hr ?_; (case hd => rfl); (case hg => rfl); (case hr => first | (go_simp; done) | (go_simp; rfl)); intro g2 hg w2 hx hb; have n0 := Aside0.mk (below_step HB.out hb); have n1 := blk_below BG.out hb; clear HB; have HB := n0; clear n0; have q0 : w2.cell? ⟨g2, 0, none⟩ = some (.int .i64 x.f0) := (blk_cell hx 0).trans rfl; have q1 : w2.cell? ⟨g2, 1, none⟩ = some (.int .i64 x.f1) := (blk_cell hx 1).trans rfl; have q2 : w2.cell? ⟨g2, 2, none⟩ = some (.string x.f2) := (blk_cell hx 2).trans rfl; have q3 : w2.cell? ⟨g2, 3, none⟩ = some (.slice A3 x.f3.length c3) := (blk_cell hx 3).trans rfl; have q4 : w2.cell? ⟨g2, 4, none⟩ = some (.slice A4 x.f4.length c4) := (blk_cell hx 4).trans rfl;  have cg : w2.cell? ⟨g, 0, none⟩ = some (.int .i64 dp) := (blk_cell n1 0).trans rfl; clear n1 hx hb hg) | (go_at_call 32; refine (HC.out _ HB.out).mono ?_; rintro e w' ⟨rfl, hb'⟩; have n0 := Aside0.mk (below_step HB.out hb'); clear HB hb'; have HB := n0; clear n0))
  go_ret
  exact ⟨by first | rfl | simp, HB.out⟩
/-- What a value's kind asks of its number, text, names and items; none: no kind. -/
def impl_Json_valid.hd (k n : Int) (t : ByteArray) (nl xl dp : Int) : Option (Bool × Bool × Bool × Bool) :=
  if k = 1 then some (n == 0, t.toList.isEmpty, nl == 0, xl == 0)
  else if k = 2 then some (decide (0 ≤ n) && decide (n ≤ 1), t.toList.isEmpty, nl == 0, xl == 0)
  else if k = 3 then some (decide (-999999999 ≤ n) && decide (n ≤ 999999999), t.toList.isEmpty, nl == 0, xl == 0)
  else if k = 4 then some (n == 0, decide ((t.size : Int) ≤ 120), nl == 0, xl == 0)
  else if k = 5 then some (n == 0, t.toList.isEmpty, nl == 0, decide (xl ≤ 12) && decide (1 < dp))
  else if k = 6 then some (n == 0, t.toList.isEmpty, (decide (xl ≤ 12) && decide (1 < dp)) && nl == xl, decide (xl ≤ 12) && decide (1 < dp))
  else none
/-- The names from i on (d of them): none too long, none twice. -/
def impl_Json_valid.nmF (ns : List ByteArray) : Nat → Nat → Bool
  | 0, _ => true
  | d + 1, i => if 120 < ((rdOf ByteArray.empty ns (i : Int)).size : Int) then false else if (ns.take i).any (fun s => decide ((rdOf ByteArray.empty ns (i : Int)).toList = s.toList)) = true then false else impl_Json_valid.nmF ns d (i + 1)
def impl_Json_valid.top (k n : Int) (t : ByteArray) (ns : List ByteArray) (xl dp : Int) : Bool :=
  match impl_Json_valid.hd k n t ns.length xl dp with
  | none => false
  | some (a, b, c, d) => if (a && b && c && d) = true then impl_Json_valid.nmF ns ns.length 0 else false
mutual
/-- A value is good. -/
def impl_Json_valid.vJ : S29 → Int → Bool
  | ⟨k, n, t, ns, xs⟩, dp => if dp = 0 then false else if impl_Json_valid.top k n t ns xs.length dp = true then impl_Json_valid.vL xs (wrap64 (dp - 1)) else false
def impl_Json_valid.vL : List S29 → Int → Bool
  | [], _ => true
  | x :: xs, dp => impl_Json_valid.vJ x dp && impl_Json_valid.vL xs dp
end
theorem impl_Json_valid.vJ_eq (x : S29) (dp : Int) : impl_Json_valid.vJ x dp = if dp = 0 then false else if impl_Json_valid.top x.f0 x.f1 x.f2 x.f3 x.f4.length dp = true then impl_Json_valid.vL x.f4 (wrap64 (dp - 1)) else false := by
  cases x; rw [impl_Json_valid.vJ]
theorem impl_Json_valid.idx_vL (l : List S29) (dp : Int) : ∀ (d n : Nat), n + d = l.length → (!decide (0 ≤ impl_Json_valid.idxB (fun i => !impl_Json_valid.vJ (rd_T29 l (i : Int)) dp) d n)) = impl_Json_valid.vL (l.drop n) dp := by
  intro d
  induction d with
  | zero => intro n h; rw [List.drop_eq_nil_of_le (by omega), impl_Json_valid.idxB, impl_Json_valid.vL]; rfl
  | succ d ih =>
    intro n h
    have hn : n < l.length := by omega
    rw [List.drop_eq_getElem_cons hn, impl_Json_valid.vL, ← ih (n + 1) (by omega), impl_Json_valid.idxB]
    have e : rd_T29 l (n : Int) = l[n] := by simp [rd_T29, List.getD, hn]
    rw [e]
    cases impl_Json_valid.vJ l[n] dp <;> simp
theorem impl_Json_valid.idx_l0 (l : List ByteArray) (v : ByteArray) (hl : l.length ≤ 9223372036854775807) : ∀ (d n : Nat), n + d = l.length → ∃ r, slices_Index_string_string.l0 (d + 1) l v (l.length : Int) (n : Int) = some r ∧ decide (r ≥ 0) = (l.drop n).any (fun s => decide (v.toList = s.toList)) := by
  intro d
  induction d with
  | zero => intro n h; rw [slices_Index_string_string.l0, if_neg (by omega), List.drop_eq_nil_of_le (by omega)]; exact ⟨_, rfl, rfl⟩
  | succ d ih =>
    intro n h
    have hn : n < l.length := by omega
    have e : rdOf ByteArray.empty l (n : Int) = l[n] := by simp [rdOf, List.getD, hn]
    rw [slices_Index_string_string.l0, if_pos (by omega), if_pos (by omega), if_pos (by omega), List.drop_eq_getElem_cons hn, e, List.any_cons]
    by_cases hq : v.toList = l[n].toList
    · rw [if_pos hq]; exact ⟨_, rfl, by simp [hq]⟩
    · rw [if_neg hq, show wrap64 ((n : Int) + 1) = ((n + 1 : Nat) : Int) from by unfold wrap64; omega]
      obtain ⟨r, h1, h2⟩ := ih (n + 1) (by omega)
      exact ⟨r, h1, by rw [h2]; simp [hq]⟩
theorem impl_Json_valid.con (l : List ByteArray) (v : ByteArray) (hl : l.length ≤ 9223372036854775807) : slices_Contains_string_string.f (l.length + 1) l v = some (l.any (fun s => decide (v.toList = s.toList))) := by
  obtain ⟨r, h1, h2⟩ := impl_Json_valid.idx_l0 l v hl l.length 0 (by omega)
  rw [slices_Contains_string_string.f, slices_Index_string_string.f]
  rw [show ((0 : Nat) : Int) = 0 from rfl] at h1
  rw [h1, Option.bind_some, h2, List.drop_zero]
theorem impl_Json_valid.wi (a lo hi : Int) : impl_within.f a lo hi = some (decide (lo ≤ a) && decide (a ≤ hi)) := by
  rw [impl_within.f]; by_cases h : lo ≤ a
  · rw [if_pos h, decide_eq_true h]; rfl
  · rw [if_neg h, decide_eq_false h]; rfl
theorem impl_Json_valid.topF {k n : Int} {t : ByteArray} {ns : List ByteArray} {xl dp : Int} {a b c d : Bool} (h : impl_Json_valid.hd k n t ns.length xl dp = some (a, b, c, d)) (hf : (a && b && c && d) = false) : impl_Json_valid.top k n t ns xl dp = false := by
  simp only [impl_Json_valid.top, h]; rw [hf]; rfl
theorem impl_Json_valid.topT {k n : Int} {t : ByteArray} {ns : List ByteArray} {xl dp : Int} {a b c d : Bool} (h : impl_Json_valid.hd k n t ns.length xl dp = some (a, b, c, d)) (hf : (a && b && c && d) = true) : impl_Json_valid.top k n t ns xl dp = impl_Json_valid.nmF ns ns.length 0 := by
  simp only [impl_Json_valid.top, h]; rw [hf]; rfl
theorem impl_Json_valid.idx_vL0 (l : List S29) (dp : Int) : (!decide (0 ≤ impl_Json_valid.idxB (fun i => !impl_Json_valid.vJ (rd_T29 l (i : Int)) dp) l.length 0)) = impl_Json_valid.vL l dp := by
  rw [impl_Json_valid.idx_vL l dp l.length 0 (by omega), List.drop_zero]
abbrev impl_Json_valid.P (x : S29) : Prop := ∀ (dp : Int) (A3 : Option Addr) (c3 : Nat) (A4 : Option Addr) (c4 : Nat) (w : World), Kd.C Kd.string w A3 x.f3.length x.f3 → x.f3.length ≤ c3 → Kd.C k29 w A4 x.f4.length x.f4 → x.f4.length ≤ c4 →
  Calls Try.prog 32 #[.agg #[(.int .i64 x.f0), (.int .i64 x.f1), (.string x.f2), (.slice A3 x.f3.length c3), (.slice A4 x.f4.length c4)], .int .i64 dp] w fun e w' => e = .returned (.bool (impl_Json_valid.vJ x dp)) ∧ Below w.heap.size w w'
set_option maxHeartbeats 8000000 in
set_option maxRecDepth 100000 in
theorem impl_Json_valid.own1 (x : S29) (hp : ∀ i : Nat, i < x.f4.length → impl_Json_valid.P (rd_T29 x.f4 (i : Int))) : impl_Json_valid.P x := by
  intro dp A3 c3 A4 c4 w h3 l3 h4 l4
  have H3 := Aside0.mk h3
  have H4 := Aside0.mk h4
  have HP := Aside0.mk hp
  have HV := Aside0.mk (impl_Json_valid.vJ_eq x dp)
  have n3 := h3.2.1
  have HB := Aside0.mk (Below.refl w.heap.size w)
  clear h3 h4 hp
  revert HV
  generalize impl_Json_valid.vJ x dp = r
  intro HV
  have hu29 := Try.underlying29
  by_cases c0 : dp = 0
  · have d0 : (dp == 0) = true := by rw [c0]; rfl
    have hv := HV.out
    rw [if_pos c0] at hv
    subst hv
    clear c0 HV
    go_enter Try.func32, Try.ntmps32
    go_wp2_with (first | ((with_reducible refine gate_dst (N := 2) rfl ?_); refine box_event ?hg (N := 2) ?hd (cs := #[(.int .i64 x.f0), (.int .i64 x.f1), (.string x.f2), (.slice A3 x.f3.length c3), (.slice A4 x.f4.length c4)]) (t := 29) ?hr ?_; (case hd => rfl); (case hg => rfl); (case hr => first | (go_simp; done) | (go_simp; rfl)); intro g2 hg w2 hx hb; have B2 := Aside0.mk hx; have n0 := Aside0.mk (below_step HB.out hb); clear HB; have HB := n0; clear n0 hx hb hg) | ((with_reducible refine gate_dst (N := 3) rfl ?_); refine box_event ?hg (N := 3) ?hd (cs := #[.int .i64 dp]) (t := 3) ?hr ?_; (case hd => rfl); (case hg => rfl); (case hr => first | (go_simp; done) | (go_simp; rfl)); intro g3 hg w3 hx hb; have N23 := Aside0.mk (by rw [hg]; exact Nat.ne_of_lt (blk_lt B2.out) : g2 ≠ g3); have n1 := blk_below B2.out hb; clear B2; have B2 := Aside0.mk n1; have B3 := Aside0.mk hx; have n0 := Aside0.mk (below_step HB.out hb); clear HB; have HB := n0; clear n0; have q0 : w3.cell? ⟨g2, 0, none⟩ = some (.int .i64 x.f0) := (blk_cell n1 0).trans rfl; have q1 : w3.cell? ⟨g2, 1, none⟩ = some (.int .i64 x.f1) := (blk_cell n1 1).trans rfl; have q2 : w3.cell? ⟨g2, 2, none⟩ = some (.string x.f2) := (blk_cell n1 2).trans rfl; have q3 : w3.cell? ⟨g2, 3, none⟩ = some (.slice A3 x.f3.length c3) := (blk_cell n1 3).trans rfl; have q4 : w3.cell? ⟨g2, 4, none⟩ = some (.slice A4 x.f4.length c4) := (blk_cell n1 4).trans rfl; have qd : w3.cell? ⟨g3, 0, none⟩ = some (.int .i64 dp) := (blk_cell hx 0).trans rfl; clear n1 hx hb hg))
    go_ret
    exact ⟨rfl, HB.out⟩
  have d0 : (dp == 0) = false := by simp [c0]
  have hv := HV.out
  rw [if_neg c0] at hv
  have HV' := Aside0.mk hv
  clear hv HV c0
  go_enter Try.func32, Try.ntmps32
  go_wp2_with (first | ((with_reducible refine gate_dst (N := 2) rfl ?_); refine box_event ?hg (N := 2) ?hd (cs := #[(.int .i64 x.f0), (.int .i64 x.f1), (.string x.f2), (.slice A3 x.f3.length c3), (.slice A4 x.f4.length c4)]) (t := 29) ?hr ?_; (case hd => rfl); (case hg => rfl); (case hr => first | (go_simp; done) | (go_simp; rfl)); intro g2 hg w2 hx hb; have B2 := Aside0.mk hx; have n0 := Aside0.mk (below_step HB.out hb); clear HB; have HB := n0; clear n0 hx hb hg) | ((with_reducible refine gate_dst (N := 3) rfl ?_); refine box_event ?hg (N := 3) ?hd (cs := #[.int .i64 dp]) (t := 3) ?hr ?_; (case hd => rfl); (case hg => rfl); (case hr => first | (go_simp; done) | (go_simp; rfl)); intro g3 hg w3 hx hb; have N23 := Aside0.mk (by rw [hg]; exact Nat.ne_of_lt (blk_lt B2.out) : g2 ≠ g3); have n1 := blk_below B2.out hb; clear B2; have B2 := Aside0.mk n1; have B3 := Aside0.mk hx; have n0 := Aside0.mk (below_step HB.out hb); clear HB; have HB := n0; clear n0; have q0 : w3.cell? ⟨g2, 0, none⟩ = some (.int .i64 x.f0) := (blk_cell n1 0).trans rfl; have q1 : w3.cell? ⟨g2, 1, none⟩ = some (.int .i64 x.f1) := (blk_cell n1 1).trans rfl; have q2 : w3.cell? ⟨g2, 2, none⟩ = some (.string x.f2) := (blk_cell n1 2).trans rfl; have q3 : w3.cell? ⟨g2, 3, none⟩ = some (.slice A3 x.f3.length c3) := (blk_cell n1 3).trans rfl; have q4 : w3.cell? ⟨g2, 4, none⟩ = some (.slice A4 x.f4.length c4) := (blk_cell n1 4).trans rfl; have qd : w3.cell? ⟨g3, 0, none⟩ = some (.int .i64 dp) := (blk_cell hx 0).trans rfl; clear n1 hx hb hg))
  go_quiet (fail)
  have B4 := Aside0.mk (blk_drewN B2.out nq)
  have B5 := Aside0.mk (blk_drewN B3.out nq)
  have HB4 := Aside0.mk (show Below w.heap.size w (w3.drewN nq) from by apply pw_below_drewN; exact HB.out)
  clear q0 q1 q2 q3 q4 qd B2 B3 HB
  generalize w3.drewN nq = w4 at B4 B5 HB4 ⊢
  have q0 : w4.cell? ⟨g2, 0, none⟩ = some (.int .i64 x.f0) := (blk_cell B4.out 0).trans rfl
  have q1 : w4.cell? ⟨g2, 1, none⟩ = some (.int .i64 x.f1) := (blk_cell B4.out 1).trans rfl
  have q2 : w4.cell? ⟨g2, 2, none⟩ = some (.string x.f2) := (blk_cell B4.out 2).trans rfl
  have q3 : w4.cell? ⟨g2, 3, none⟩ = some (.slice A3 x.f3.length c3) := (blk_cell B4.out 3).trans rfl
  have q4 : w4.cell? ⟨g2, 4, none⟩ = some (.slice A4 x.f4.length c4) := (blk_cell B4.out 4).trans rfl
  have qd0 : w4.cell? ⟨g3, 0, none⟩ = some (.int .i64 dp) := (blk_cell B5.out 0).trans rfl
  go_upto_block 0 with (fail)
  go_cut [5, 6, 7, 8] (fun v5 v6 v7 v8 W => ∃ a b c d : Bool, v5 = .bool a ∧ v6 = .bool b ∧ v7 = .bool c ∧ v8 = .bool d ∧ Aside0 (impl_Json_valid.hd x.f0 x.f1 x.f2 x.f3.length x.f4.length dp = some (a, b, c, d)) ∧ Aside0 (W.heap[g2]? = some (.cells #[(.int .i64 x.f0), (.int .i64 x.f1), (.string x.f2), (.slice A3 x.f3.length c3), (.slice A4 x.f4.length c4)] 29 (0, 0))) ∧ Aside0 (W.heap[g3]? = some (.cells #[.int .i64 dp] 3 (0, 0))) ∧ Aside0 (Below w.heap.size w W))
  case first =>
    by_cases h1 : x.f0 = 1
    · have k1 : (x.f0 == 1) = true := by simp [h1]
      have HD := Aside0.mk (show impl_Json_valid.hd x.f0 x.f1 x.f2 x.f3.length x.f4.length dp = _ from by rw [impl_Json_valid.hd, if_pos h1])
      clear h1
      go_wp2
      go_meet
      case rel => exact ⟨_, _, _, _, rfl, rfl, rfl, rfl, HD, ⟨by (with_reducible repeat (first | refine blk_drewN ?_ _ | refine blk_drew ?_ | refine blk_alloc ?_ _)); exact B4.out⟩, ⟨by (with_reducible repeat (first | refine blk_drewN ?_ _ | refine blk_drew ?_ | refine blk_alloc ?_ _)); exact B5.out⟩, ⟨by repeat (first | (with_reducible first | exact HB4.out | apply below_alloc | apply pw_below_drewN | apply below_drew1) | exact HB4.out)⟩⟩
    by_cases h2 : x.f0 = 2
    · have k1 : (x.f0 == 1) = false := by simp [h1]
      have k2 : (x.f0 == 2) = true := by simp [h2]
      have HD := Aside0.mk (show impl_Json_valid.hd x.f0 x.f1 x.f2 x.f3.length x.f4.length dp = _ from by rw [impl_Json_valid.hd, if_neg h1, if_pos h2])
      clear h1 h2
      go_wp2_with (go_at_call 36; refine (impl_within.calls x.f1 (0) (1) _ _ (impl_Json_valid.wi x.f1 (0) (1))).mono ?_; rintro e w' ⟨rfl, ⟨m, rfl⟩⟩)
      go_meet
      case rel => exact ⟨_, _, _, _, rfl, rfl, rfl, rfl, HD, ⟨by (with_reducible repeat (first | refine blk_drewN ?_ _ | refine blk_drew ?_ | refine blk_alloc ?_ _)); exact B4.out⟩, ⟨by (with_reducible repeat (first | refine blk_drewN ?_ _ | refine blk_drew ?_ | refine blk_alloc ?_ _)); exact B5.out⟩, ⟨by repeat (first | (with_reducible first | exact HB4.out | apply below_alloc | apply pw_below_drewN | apply below_drew1) | exact HB4.out)⟩⟩
    by_cases h3 : x.f0 = 3
    · have k1 : (x.f0 == 1) = false := by simp [h1]
      have k2 : (x.f0 == 2) = false := by simp [h2]
      have k3 : (x.f0 == 3) = true := by simp [h3]
      have HD := Aside0.mk (show impl_Json_valid.hd x.f0 x.f1 x.f2 x.f3.length x.f4.length dp = _ from by rw [impl_Json_valid.hd, if_neg h1, if_neg h2, if_pos h3])
      clear h1 h2 h3
      go_wp2_with (go_at_call 36; refine (impl_within.calls x.f1 (-999999999) (999999999) _ _ (impl_Json_valid.wi x.f1 (-999999999) (999999999))).mono ?_; rintro e w' ⟨rfl, ⟨m, rfl⟩⟩)
      go_meet
      case rel => exact ⟨_, _, _, _, rfl, rfl, rfl, rfl, HD, ⟨by (with_reducible repeat (first | refine blk_drewN ?_ _ | refine blk_drew ?_ | refine blk_alloc ?_ _)); exact B4.out⟩, ⟨by (with_reducible repeat (first | refine blk_drewN ?_ _ | refine blk_drew ?_ | refine blk_alloc ?_ _)); exact B5.out⟩, ⟨by repeat (first | (with_reducible first | exact HB4.out | apply below_alloc | apply pw_below_drewN | apply below_drew1) | exact HB4.out)⟩⟩
    by_cases h4 : x.f0 = 4
    · have k1 : (x.f0 == 1) = false := by simp [h1]
      have k2 : (x.f0 == 2) = false := by simp [h2]
      have k3 : (x.f0 == 3) = false := by simp [h3]
      have k4 : (x.f0 == 4) = true := by simp [h4]
      have HD := Aside0.mk (show impl_Json_valid.hd x.f0 x.f1 x.f2 x.f3.length x.f4.length dp = _ from by rw [impl_Json_valid.hd, if_neg h1, if_neg h2, if_neg h3, if_pos h4])
      clear h1 h2 h3 h4
      go_wp2
      go_meet
      case rel => exact ⟨_, _, _, _, rfl, rfl, rfl, rfl, HD, ⟨by (with_reducible repeat (first | refine blk_drewN ?_ _ | refine blk_drew ?_ | refine blk_alloc ?_ _)); exact B4.out⟩, ⟨by (with_reducible repeat (first | refine blk_drewN ?_ _ | refine blk_drew ?_ | refine blk_alloc ?_ _)); exact B5.out⟩, ⟨by repeat (first | (with_reducible first | exact HB4.out | apply below_alloc | apply pw_below_drewN | apply below_drew1) | exact HB4.out)⟩⟩
    by_cases h5 : x.f0 = 5
    · have k1 : (x.f0 == 1) = false := by simp [h1]
      have k2 : (x.f0 == 2) = false := by simp [h2]
      have k3 : (x.f0 == 3) = false := by simp [h3]
      have k4 : (x.f0 == 4) = false := by simp [h4]
      have k5 : (x.f0 == 5) = true := by simp [h5]
      cases e12 : decide ((x.f4.length : Int) ≤ 12) with
      | false =>
        have HD := Aside0.mk (show impl_Json_valid.hd x.f0 x.f1 x.f2 x.f3.length x.f4.length dp = _ from by rw [impl_Json_valid.hd, if_neg h1, if_neg h2, if_neg h3, if_neg h4, if_pos h5, e12, Bool.false_and])
        clear h1 h2 h3 h4 h5
        go_wp2
        go_meet
        case rel => exact ⟨_, _, _, _, rfl, rfl, rfl, rfl, HD, ⟨by (with_reducible repeat (first | refine blk_drewN ?_ _ | refine blk_drew ?_ | refine blk_alloc ?_ _)); exact B4.out⟩, ⟨by (with_reducible repeat (first | refine blk_drewN ?_ _ | refine blk_drew ?_ | refine blk_alloc ?_ _)); exact B5.out⟩, ⟨by repeat (first | (with_reducible first | exact HB4.out | apply below_alloc | apply pw_below_drewN | apply below_drew1) | exact HB4.out)⟩⟩
      | true =>
        cases e1 : decide (1 < dp) with
        | false =>
          have HD := Aside0.mk (show impl_Json_valid.hd x.f0 x.f1 x.f2 x.f3.length x.f4.length dp = _ from by rw [impl_Json_valid.hd, if_neg h1, if_neg h2, if_neg h3, if_neg h4, if_pos h5, e12, e1, Bool.true_and])
          clear h1 h2 h3 h4 h5
          go_wp2
          go_meet
          case rel => exact ⟨_, _, _, _, rfl, rfl, rfl, rfl, HD, ⟨by (with_reducible repeat (first | refine blk_drewN ?_ _ | refine blk_drew ?_ | refine blk_alloc ?_ _)); exact B4.out⟩, ⟨by (with_reducible repeat (first | refine blk_drewN ?_ _ | refine blk_drew ?_ | refine blk_alloc ?_ _)); exact B5.out⟩, ⟨by repeat (first | (with_reducible first | exact HB4.out | apply below_alloc | apply pw_below_drewN | apply below_drew1) | exact HB4.out)⟩⟩
        | true =>
          have HD := Aside0.mk (show impl_Json_valid.hd x.f0 x.f1 x.f2 x.f3.length x.f4.length dp = _ from by rw [impl_Json_valid.hd, if_neg h1, if_neg h2, if_neg h3, if_neg h4, if_pos h5, e12, e1, Bool.true_and])
          clear h1 h2 h3 h4 h5
          go_wp2
          go_meet
          case rel => exact ⟨_, _, _, _, rfl, rfl, rfl, rfl, HD, ⟨by (with_reducible repeat (first | refine blk_drewN ?_ _ | refine blk_drew ?_ | refine blk_alloc ?_ _)); exact B4.out⟩, ⟨by (with_reducible repeat (first | refine blk_drewN ?_ _ | refine blk_drew ?_ | refine blk_alloc ?_ _)); exact B5.out⟩, ⟨by repeat (first | (with_reducible first | exact HB4.out | apply below_alloc | apply pw_below_drewN | apply below_drew1) | exact HB4.out)⟩⟩
    by_cases h6 : x.f0 = 6
    · have k1 : (x.f0 == 1) = false := by simp [h1]
      have k2 : (x.f0 == 2) = false := by simp [h2]
      have k3 : (x.f0 == 3) = false := by simp [h3]
      have k4 : (x.f0 == 4) = false := by simp [h4]
      have k5 : (x.f0 == 5) = false := by simp [h5]
      have k6 : (x.f0 == 6) = true := by simp [h6]
      cases e12 : decide ((x.f4.length : Int) ≤ 12) with
      | false =>
        have HD := Aside0.mk (show impl_Json_valid.hd x.f0 x.f1 x.f2 x.f3.length x.f4.length dp = _ from by rw [impl_Json_valid.hd, if_neg h1, if_neg h2, if_neg h3, if_neg h4, if_neg h5, if_pos h6, e12, Bool.false_and])
        clear h1 h2 h3 h4 h5 h6
        go_wp2
        go_meet
        case rel => exact ⟨_, _, _, _, rfl, rfl, rfl, rfl, HD, ⟨by (with_reducible repeat (first | refine blk_drewN ?_ _ | refine blk_drew ?_ | refine blk_alloc ?_ _)); exact B4.out⟩, ⟨by (with_reducible repeat (first | refine blk_drewN ?_ _ | refine blk_drew ?_ | refine blk_alloc ?_ _)); exact B5.out⟩, ⟨by repeat (first | (with_reducible first | exact HB4.out | apply below_alloc | apply pw_below_drewN | apply below_drew1) | exact HB4.out)⟩⟩
      | true =>
        cases e1 : decide (1 < dp) with
        | false =>
          have HD := Aside0.mk (show impl_Json_valid.hd x.f0 x.f1 x.f2 x.f3.length x.f4.length dp = _ from by rw [impl_Json_valid.hd, if_neg h1, if_neg h2, if_neg h3, if_neg h4, if_neg h5, if_pos h6, e12, e1, Bool.true_and, Bool.false_and])
          clear h1 h2 h3 h4 h5 h6
          go_wp2
          go_meet
          case rel => exact ⟨_, _, _, _, rfl, rfl, rfl, rfl, HD, ⟨by (with_reducible repeat (first | refine blk_drewN ?_ _ | refine blk_drew ?_ | refine blk_alloc ?_ _)); exact B4.out⟩, ⟨by (with_reducible repeat (first | refine blk_drewN ?_ _ | refine blk_drew ?_ | refine blk_alloc ?_ _)); exact B5.out⟩, ⟨by repeat (first | (with_reducible first | exact HB4.out | apply below_alloc | apply pw_below_drewN | apply below_drew1) | exact HB4.out)⟩⟩
        | true =>
          have HD := Aside0.mk (show impl_Json_valid.hd x.f0 x.f1 x.f2 x.f3.length x.f4.length dp = _ from by rw [impl_Json_valid.hd, if_neg h1, if_neg h2, if_neg h3, if_neg h4, if_neg h5, if_pos h6, e12, e1, Bool.true_and, Bool.true_and])
          clear h1 h2 h3 h4 h5 h6
          go_wp2
          go_meet
          case rel => exact ⟨_, _, _, _, rfl, rfl, rfl, rfl, HD, ⟨by (with_reducible repeat (first | refine blk_drewN ?_ _ | refine blk_drew ?_ | refine blk_alloc ?_ _)); exact B4.out⟩, ⟨by (with_reducible repeat (first | refine blk_drewN ?_ _ | refine blk_drew ?_ | refine blk_alloc ?_ _)); exact B5.out⟩, ⟨by repeat (first | (with_reducible first | exact HB4.out | apply below_alloc | apply pw_below_drewN | apply below_drew1) | exact HB4.out)⟩⟩
    · have k1 : (x.f0 == 1) = false := by simp [h1]
      have k2 : (x.f0 == 2) = false := by simp [h2]
      have k3 : (x.f0 == 3) = false := by simp [h3]
      have k4 : (x.f0 == 4) = false := by simp [h4]
      have k5 : (x.f0 == 5) = false := by simp [h5]
      have k6 : (x.f0 == 6) = false := by simp [h6]
      have hN : impl_Json_valid.hd x.f0 x.f1 x.f2 x.f3.length x.f4.length dp = none := by rw [impl_Json_valid.hd, if_neg h1, if_neg h2, if_neg h3, if_neg h4, if_neg h5, if_neg h6]
      have hr : r = false := by rw [HV'.out, impl_Json_valid.top, hN]; rfl
      subst hr
      clear hN HV' h1 h2 h3 h4 h5 h6
      go_wp2
      go_ret
      exact ⟨rfl, HB4.out⟩
  case rest =>
    clear q0 q1 q2 q3 q4 qd0 B4 B5 HB4
    obtain ⟨a, b, c, d, rfl, rfl, rfl, rfl, HD, B6, B7, HB⟩ := hcut
    cases a
    · have hr : r = false := by rw [HV'.out, impl_Json_valid.topF HD.out (by simp)]; rfl
      subst hr
      clear HV' HD HP H3 H4
      go_wp2
      go_ret
      exact ⟨rfl, HB.out⟩
    cases b
    · have hr : r = false := by rw [HV'.out, impl_Json_valid.topF HD.out (by simp)]; rfl
      subst hr
      clear HV' HD HP H3 H4
      go_wp2
      go_ret
      exact ⟨rfl, HB.out⟩
    cases c
    · have hr : r = false := by rw [HV'.out, impl_Json_valid.topF HD.out (by simp)]; rfl
      subst hr
      clear HV' HD HP H3 H4
      go_wp2
      go_ret
      exact ⟨rfl, HB.out⟩
    cases d
    · have hr : r = false := by rw [HV'.out, impl_Json_valid.topF HD.out (by simp)]; rfl
      subst hr
      clear HV' HD HP H3 H4
      go_wp2
      go_ret
      exact ⟨rfl, HB.out⟩
    have hv := HV'.out
    rw [impl_Json_valid.topT HD.out (by rfl)] at hv
    clear HV' HD
    have HN := Aside0.mk hv
    clear hv
    have q0 : wc.cell? ⟨g2, 0, none⟩ = some (.int .i64 x.f0) := (blk_cell B6.out 0).trans rfl
    have q1 : wc.cell? ⟨g2, 1, none⟩ = some (.int .i64 x.f1) := (blk_cell B6.out 1).trans rfl
    have q2 : wc.cell? ⟨g2, 2, none⟩ = some (.string x.f2) := (blk_cell B6.out 2).trans rfl
    have q3 : wc.cell? ⟨g2, 3, none⟩ = some (.slice A3 x.f3.length c3) := (blk_cell B6.out 3).trans rfl
    have q4 : wc.cell? ⟨g2, 4, none⟩ = some (.slice A4 x.f4.length c4) := (blk_cell B6.out 4).trans rfl
    have qd0 : wc.cell? ⟨g3, 0, none⟩ = some (.int .i64 dp) := (blk_cell B7.out 0).trans rfl
    go_wp2
    go_loopw [88] (fun i W => ∃ n d : Nat, n + d = x.f3.length ∧ i = .int .i64 (n : Int) ∧ Aside0 (impl_Json_valid.nmF x.f3 d n = impl_Json_valid.nmF x.f3 x.f3.length 0) ∧ Aside0 (W.heap[g2]? = some (.cells #[(.int .i64 x.f0), (.int .i64 x.f1), (.string x.f2), (.slice A3 x.f3.length c3), (.slice A4 x.f4.length c4)] 29 (0, 0))) ∧ Aside0 (W.heap[g3]? = some (.cells #[.int .i64 dp] 3 (0, 0))) ∧ Below w.heap.size w W) (fun i _ => x.f3.length - (intOf i).toNat)
    case atStart => exact ⟨0, x.f3.length, by omega, rfl, ⟨rfl⟩, B6, B7, HB.out⟩
    case round =>
      clear q0 q1 q2 q3 q4 qd0 B6 B7 HB
      obtain ⟨n, d, hd, rfl, HK, B6, B7, hb⟩ := hrel
      have HB := Aside0.mk hb
      clear hb
      have q0 : wr.cell? ⟨g2, 0, none⟩ = some (.int .i64 x.f0) := (blk_cell B6.out 0).trans rfl
      have q1 : wr.cell? ⟨g2, 1, none⟩ = some (.int .i64 x.f1) := (blk_cell B6.out 1).trans rfl
      have q2 : wr.cell? ⟨g2, 2, none⟩ = some (.string x.f2) := (blk_cell B6.out 2).trans rfl
      have q3 : wr.cell? ⟨g2, 3, none⟩ = some (.slice A3 x.f3.length c3) := (blk_cell B6.out 3).trans rfl
      have q4 : wr.cell? ⟨g2, 4, none⟩ = some (.slice A4 x.f4.length c4) := (blk_cell B6.out 4).trans rfl
      have qd0 : wr.cell? ⟨g3, 0, none⟩ = some (.int .i64 dp) := (blk_cell B7.out 0).trans rfl
      cases d with
      | zero =>
        have hdec : decide ((n : Int) < (x.f3.length : Int)) = false := decide_eq_false (by omega)
        have hn : impl_Json_valid.nmF x.f3 x.f3.length 0 = true := by rw [← HK.out]; rfl
        have hv := HN.out
        rw [hn, if_pos rfl, ← impl_Json_valid.idx_vL0] at hv
        have HV := Aside0.mk hv
        have eg : ∀ args w, (callFunc 39 args).run Try.prog w = .ok (.enter 39 args) w := enters_of Try.func39 (by kernel_rfl) rfl
        have hmf : ∀ (fn : Fn) (first cap : Array Value) (w : World), (Instr.makeFunc fn first cap).run Try.prog w = .ok (.func fn first cap) w := fun _ _ _ _ => rfl
        have HC := Aside0.mk (impl_Json_valid.conF 39 #[.pointer (some ⟨g3, 0, none⟩)] eg (fun i => !impl_Json_valid.vJ (rd_T29 x.f4 (i : Int)) (wrap64 (dp - 1))) A4 c4 x.f4 wr (Kd.C_below H4.out HB.out) (fun W i hi hw => impl_Json_valid.clo (rd_T29 x.f4 (i : Int)) dp _ g3 W (blk_below B7.out hw) (fun W' hw' a3 k3 a4 k4 m3 s3 m4 s4 => HP.out i hi (wrap64 (dp - 1)) a3 k3 a4 k4 W' m3 s3 m4 s4)))
        clear hv hn HN HK HP eg
        revert HC HV
        generalize impl_Json_valid.idxB _ _ _ = t
        intro HV HC
        go_wp2_with (go_at_call 38; refine HC.out.mono ?_; rintro e w' ⟨rfl, hb'⟩; have n0 := Aside0.mk (below_step HB.out hb'); clear HB hb'; have HB := n0; clear n0)
        go_ret
        exact ⟨by first | rfl | (rw [HV.out]; done) | (rw [HV.out]; rfl), HB.out⟩
      | succ d =>
        have p : 0 ≤ (n : Int) := by omega
        have q : (n : Int) < (x.f3.length : Int) := by omega
        have hdec : decide ((n : Int) < (x.f3.length : Int)) = true := decide_eq_true q
        obtain ⟨ad, ea, hx⟩ := Kd.at_string (Kd.C_below H3.out HB.out) (n : Int) p q
        subst ea
        simp only [Int.toNat_natCast] at hx
        have hk := HK.out
        rw [impl_Json_valid.nmF] at hk
        by_cases hs : 120 < ((rdOf ByteArray.empty x.f3 (n : Int)).size : Int)
        · have hs' : decide (120 < ((rdOf ByteArray.empty x.f3 (n : Int)).size : Int)) = true := decide_eq_true hs
          rw [if_pos hs] at hk
          have hr : r = false := by rw [HN.out, ← hk]; rfl
          subst hr
          clear hk HK HN HP hs
          go_wp2
          go_ret
          exact ⟨rfl, HB.out⟩
        · have hs' : decide (120 < ((rdOf ByteArray.empty x.f3 (n : Int)).size : Int)) = false := decide_eq_false hs
          rw [if_neg hs] at hk
          have hle : n ≤ x.f3.length := by omega
          have hle' : n ≤ c3 := by omega
          have hlt : (x.f3.take n).length = n := by rw [List.length_take]; omega
          have HQ := slices_Contains_string_string.calls ((x.f3.take n).length + 1) (some ad) c3 (x.f3.take n) (rdOf ByteArray.empty x.f3 (n : Int)) _ wr (Kd.C_take (Kd.C_below H3.out HB.out) hle) (by rw [hlt]; exact hle') (impl_Json_valid.con _ _ (by rw [hlt]; omega))
          rw [hlt] at HQ
          revert HQ hk
          generalize (x.f3.take n).any _ = t
          intro hk HQ
          replace HQ := Aside0.mk HQ
          clear hs
          cases t with
          | true =>
            rw [if_pos rfl] at hk
            have hr : r = false := by rw [HN.out, ← hk]; rfl
            subst hr
            clear hk HK HN HP
            go_wp2_with (go_at_call 37; refine HQ.out.mono ?_; rintro e w' ⟨rfl, ⟨m, rfl⟩⟩)
            go_ret
            exact ⟨rfl, by repeat (first | (with_reducible first | exact HB.out | apply below_alloc | apply pw_below_drewN | apply below_drew1) | exact HB.out)⟩
          | false =>
            rw [if_neg Bool.false_ne_true] at hk
            have HK' := Aside0.mk hk
            clear hk HK
            go_wp2_with (go_at_call 37; refine HQ.out.mono ?_; rintro e w' ⟨rfl, ⟨m, rfl⟩⟩)
            go_roundw
            case rel => exact ⟨n + 1, d, by omega, by go_num, HK', ⟨by (with_reducible repeat (first | refine blk_drewN ?_ _ | refine blk_drew ?_ | refine blk_alloc ?_ _)); exact B6.out⟩, ⟨by (with_reducible repeat (first | refine blk_drewN ?_ _ | refine blk_drew ?_ | refine blk_alloc ?_ _)); exact B7.out⟩, by repeat (first | (with_reducible first | exact HB.out | apply below_alloc | apply pw_below_drewN | apply below_drew1) | exact HB.out)⟩
            case measure => simp [intOf]; omega
theorem impl_Json_valid.all (x : S29) : impl_Json_valid.P x := by
  have : ∀ n : Nat, ∀ x : S29, SizeOf.sizeOf x < n → impl_Json_valid.P x := by
    intro n
    induction n with
    | zero => intro x h; omega
    | succ n ih =>
      intro x h
      refine impl_Json_valid.own1 x fun i hi => ih _ ?_
      have hm : rd_T29 x.f4 (i : Int) ∈ x.f4 := by simp [rd_T29, List.getD, hi]
      have h1 := List.sizeOf_lt_of_mem hm
      have h2 : SizeOf.sizeOf x = 1 + SizeOf.sizeOf x.f0 + SizeOf.sizeOf x.f1 + SizeOf.sizeOf x.f2 + SizeOf.sizeOf x.f3 + SizeOf.sizeOf x.f4 := by cases x; simp
      omega
  exact this _ x (Nat.lt_succ_self _)
def impl_Json_valid.f (a0_0 : Int) (a0_1 : Int) (a0_2 : ByteArray) (l0_3 : List ByteArray) (l0_4 : List (S29)) (a1 : Int) : Option Bool := some (impl_Json_valid.vJ ⟨a0_0, a0_1, a0_2, l0_3, l0_4⟩ a1)
theorem impl_Json_valid.calls (a0_0 : Int) (a0_1 : Int) (a0_2 : ByteArray) (A0_3 : Option Addr) (c0_3 : Nat) (l0_3 : List ByteArray) (A0_4 : Option Addr) (c0_4 : Nat) (l0_4 : List (S29)) (a1 : Int) (r : Bool) (w : World) (hr0_3 : Kd.C Kd.string w A0_3 l0_3.length l0_3) (hc0_3 : l0_3.length ≤ c0_3) (hr0_4 : Kd.C k29 w A0_4 l0_4.length l0_4) (hc0_4 : l0_4.length ≤ c0_4) (h : impl_Json_valid.f a0_0 a0_1 a0_2 l0_3 l0_4 a1 = some r) :
    Calls Try.prog 32 #[.agg #[.int .i64 a0_0, .int .i64 a0_1, .string a0_2, .slice A0_3 l0_3.length c0_3, .slice A0_4 l0_4.length c0_4], .int .i64 a1] w fun e w' => e = .returned (.bool r) ∧ Below w.heap.size w w' := by
  obtain rfl := Option.some.inj h
  exact impl_Json_valid.all ⟨a0_0, a0_1, a0_2, l0_3, l0_4⟩ a1 A0_3 c0_3 A0_4 c0_4 w hr0_3 hc0_3 hr0_4 hc0_4

/-! ### impl_JsonOK: function 21 -/
def impl_JsonOK.f (a0_0 : Int) (a0_1 : Int) (a0_2 : ByteArray) (l0_3 : List ByteArray) (l0_4 : List (S29)) : Option (Bool) := (impl_Json_valid.f a0_0 a0_1 a0_2 l0_3 l0_4 5).bind fun t173 => (some t173)
set_option maxHeartbeats 8000000 in
set_option maxRecDepth 100000 in
theorem impl_JsonOK.calls (a0_0 : Int) (a0_1 : Int) (a0_2 : ByteArray) (A0_3 : Option Addr) (c0_3 : Nat) (l0_3 : List ByteArray) (A0_4 : Option Addr) (c0_4 : Nat) (l0_4 : List (S29)) (r : Bool) (w : World) (hr0_3 : Kd.C Kd.string w A0_3 l0_3.length l0_3) (hc0_3 : l0_3.length ≤ c0_3) (hr0_4 : Kd.C k29 w A0_4 l0_4.length l0_4) (hc0_4 : l0_4.length ≤ c0_4) (h : impl_JsonOK.f a0_0 a0_1 a0_2 l0_3 l0_4 = some r) :
    Calls Try.prog 21 #[.agg #[.int .i64 a0_0, .int .i64 a0_1, .string a0_2, .slice A0_3 l0_3.length c0_3, .slice A0_4 l0_4.length c0_4]] w fun e w' => e = .returned (.bool r) ∧ Below w.heap.size w w' := by
 have hu29 := Try.underlying29
 have HR0_3 := Aside0.mk hr0_3
 have HC0_3 := Aside0.mk hc0_3
 clear hr0_3 hc0_3
 have HR0_4 := Aside0.mk hr0_4
 have HC0_4 := Aside0.mk hc0_4
 clear hr0_4 hc0_4
 have HB := Aside0.mk (Below.refl w.heap.size w)
 have H : ((impl_Json_valid.f a0_0 a0_1 a0_2 l0_3 l0_4 5).bind fun t173 => (some t173)) = some r := h
 clear h
 obtain ⟨t173, A2, H⟩ := bindE_ H
 obtain rfl := Option.some.inj H
 go_enter Try.func21, Try.ntmps21
 go_wp2_with (first | ((with_reducible refine gate_dst (N := 1) rfl ?_); refine box_event ?hg (N := 1) ?hd (cs := #[.int .i64 a0_0, .int .i64 a0_1, .string a0_2, .slice A0_3 l0_3.length c0_3, .slice A0_4 l0_4.length c0_4]) (t := 29) ?hr ?_; (case hd => rfl); (case hg => rfl); (case hr => first | (go_simp; done) | (go_simp; rfl)); intro gb172 hg w3 hbox hb; have n0_ := belB_ hb; have n1_ := Aside0.mk (hbox); have n2_ := Aside0.mk ((by rw [hg]; exact (below_size (by repeat (first | (with_reducible first | exact HB.out | apply below_alloc | apply pw_below_drewN | apply below_drew1) | exact HB.out))) : w.heap.size ≤ gb172)); have n3_ := Aside0.mk ((by rw [hg]; exact (below_size (by repeat (first | (with_reducible first | exact HB.out | apply below_alloc | apply pw_below_drewN | apply below_drew1) | exact HB.out))) : w.heap.size ≤ gb172)); clear HB; have HB := n0_; have BK172 := n1_; have GW172 := n2_; have GE172 := n3_; clear n0_ n1_ n2_ n3_; clear hb hbox hg; have hcz4_0 : w3.cell? ⟨gb172, 0, none⟩ = some (.int .i64 a0_0) := (blk_cell BK172.out 0).trans rfl; have hcz4_1 : w3.cell? ⟨gb172, 1, none⟩ = some (.int .i64 a0_1) := (blk_cell BK172.out 1).trans rfl; have hcz4_2 : w3.cell? ⟨gb172, 2, none⟩ = some (.string a0_2) := (blk_cell BK172.out 2).trans rfl; have hcz4_3 : w3.cell? ⟨gb172, 3, none⟩ = some (.slice A0_3 l0_3.length c0_3) := (blk_cell BK172.out 3).trans rfl; have hcz4_4 : w3.cell? ⟨gb172, 4, none⟩ = some (.slice A0_4 l0_4.length c0_4) := (blk_cell BK172.out 4).trans rfl; have hfz4_0 := blk_frozen BK172.out 0; have hfz4_1 := blk_frozen BK172.out 1; have hfz4_2 := blk_frozen BK172.out 2; have hfz4_3 := blk_frozen BK172.out 3; have hfz4_4 := blk_frozen BK172.out 4) | ((with_reducible refine gate_callee (f := 32) rfl ?_); refine cU_ (some 4) Try.func32 #[.agg #[.int .i64 a0_0, .int .i64 a0_1, .string a0_2, .slice A0_3 l0_3.length c0_3, .slice A0_4 l0_4.length c0_4], .int .i64 5] ?_; (with_reducible refine (impl_Json_valid.calls a0_0 a0_1 a0_2 _ _ l0_3 _ _ l0_4 5 t173 _ ?side1 ?side2 ?side3 ?side4 A2.out).mono ?_); (case side1 => repeat (first | exact (Kd.C_below HR0_3.out HB.out) | (with_reducible refine Kd.C_alloc ?_ _) | (with_reducible refine Kd.C_drewN ?_ _) | (with_reducible refine Kd.C_drew ?_))); (case side2 => exact HC0_3.out); (case side3 => repeat (first | exact (Kd.C_below HR0_4.out HB.out) | (with_reducible refine Kd.C_alloc ?_ _) | (with_reducible refine Kd.C_drewN ?_ _) | (with_reducible refine Kd.C_drew ?_))); (case side4 => exact HC0_4.out); rintro e w5 ⟨rfl, hb⟩; refine ⟨_, rfl, ?_⟩; replace BK172 := blkK_ BK172 hb; replace HB := belB_ hb; (try clear hb)))
 go_ret
 exact ⟨retE_, belE_⟩

/-! ### impl_Json_member: function 22 -/
def impl_Json_member.f (k : Nat) (a0_0 : Int) (a0_1 : Int) (a0_2 : ByteArray) (l0_3 : List ByteArray) (l0_4 : List (S29)) (a1 : ByteArray) : Option (Int × Int × ByteArray × List ByteArray × (List (S29)) × Bool) := (slices_Index_string_string.f k l0_3 a1).bind fun t176 => (if t176 < 0 then (some (0, 0, (⟨#[]⟩ : ByteArray), ([] : List ByteArray), ([] : List (S29)), false)) else (if 0 ≤ t176 then (if t176 < (l0_4.length : Int) then (some ((rd_T29 l0_4 t176).f0, (rd_T29 l0_4 t176).f1, (rd_T29 l0_4 t176).f2, (rd_T29 l0_4 t176).f3, (rd_T29 l0_4 t176).f4, true)) else (none)) else (none)))
theorem impl_Json_member.mono : ∀ a0 a1 a2 a3 a4 a5 k, LeO (impl_Json_member.f k a0 a1 a2 a3 a4 a5) (impl_Json_member.f (k + 1) a0 a1 a2 a3 a4 a5) := by
  intro a0 a1 a2 a3 a4 a5 k
  unfold impl_Json_member.f
  repeat' first
      | (with_reducible exact slices_Index_string_string.mono _ _ _)
      | (with_reducible exact LeO.refl _)
      | (with_reducible exact LeO.none _)
      | (with_reducible refine LeO.ite ?_ ?_)
      | (with_reducible refine LeO.bind ?_ (fun _ => ?_))
      | exact slices_Index_string_string.mono _ _ _
      | exact LeO.none _
      | refine LeO.ite ?_ ?_
      | refine LeO.bind ?_ (fun _ => ?_)
set_option maxHeartbeats 8000000 in
set_option maxRecDepth 100000 in
theorem impl_Json_member.calls (k : Nat) (a0_0 : Int) (a0_1 : Int) (a0_2 : ByteArray) (A0_3 : Option Addr) (c0_3 : Nat) (l0_3 : List ByteArray) (P0_4_ : Nat → Prop) (A0_4 : Option Addr) (c0_4 : Nat) (l0_4 : List (S29)) (a1 : ByteArray) (r1 : Int) (r2 : Int) (r3 : ByteArray) (r4 : List ByteArray) (r5 : List (S29)) (r6 : Bool) (w : World) (hr0_3 : Kd.C Kd.string w A0_3 l0_3.length l0_3) (hc0_3 : l0_3.length ≤ c0_3) (hs0_4 : Kd.V k29 29 w w.heap.size (fun k_ => P0_4_ k_) (.slice A0_4 l0_4.length c0_4) l0_4) (h : impl_Json_member.f k a0_0 a0_1 a0_2 l0_3 l0_4 a1 = some (r1, r2, r3, r4, r5, r6)) :
    Calls Try.prog 22 #[.agg #[.int .i64 a0_0, .int .i64 a0_1, .string a0_2, .slice A0_3 l0_3.length c0_3, .slice A0_4 l0_4.length c0_4], .string a1] w fun e w' => ∃ v3_ v4_ : Value, e = .returned (.tuple #[.agg #[.int .i64 r1, .int .i64 r2, .string r3, v3_, v4_], .bool r6]) ∧ Kd.V Kd.string 9 w' w.heap.size (fun k_ => (P0_4_ k_ ∨ w.heap.size ≤ k_)) v3_ r4 ∧ Kd.V k29 29 w' w.heap.size (fun k_ => (P0_4_ k_ ∨ w.heap.size ≤ k_)) v4_ r5 ∧ Below w.heap.size w w' := by
 have hu29 := Try.underlying29
 have HR0_3 := Aside0.mk hr0_3
 have HC0_3 := Aside0.mk hc0_3
 clear hr0_3 hc0_3
 have HO0_4 := Aside0.mk (show Kd.V k29 29 w w.heap.size (fun k_ => (P0_4_ k_ ∨ w.heap.size ≤ k_)) (.slice A0_4 l0_4.length c0_4) l0_4 from Kd.V_mono hs0_4 (fun k_ hk => .inl hk))
 have HB := Aside0.mk (Below.refl w.heap.size w)
 have H : ((slices_Index_string_string.f k l0_3 a1).bind fun t176 => (if t176 < 0 then (some (0, 0, (⟨#[]⟩ : ByteArray), ([] : List ByteArray), ([] : List (S29)), false)) else (if 0 ≤ t176 then (if t176 < (l0_4.length : Int) then (some ((rd_T29 l0_4 t176).f0, (rd_T29 l0_4 t176).f1, (rd_T29 l0_4 t176).f2, (rd_T29 l0_4 t176).f3, (rd_T29 l0_4 t176).f4, true)) else (none)) else (none)))) = some (r1, r2, r3, r4, r5, r6) := h
 clear h
 obtain ⟨t176, A3, H⟩ := bindE_ H
 by_cases c4 : t176 < 0
 ·
  rw [if_pos c4] at H
  have c4b0 : decide (t176 < 0) = true := decide_eq_true c4
  clear c4
  simp only [Option.some.injEq, Prod.mk.injEq] at H
  obtain ⟨rfl, rfl, rfl, rfl, rfl, rfl⟩ := H
  go_enter Try.func22, Try.ntmps22
  go_wp2_with (first | ((with_reducible refine gate_dst (N := 2) rfl ?_); refine box_event ?hg (N := 2) ?hd (cs := #[.int .i64 a0_0, .int .i64 a0_1, .string a0_2, .slice A0_3 l0_3.length c0_3, .slice A0_4 l0_4.length c0_4]) (t := 29) ?hr ?_; (case hd => rfl); (case hg => rfl); (case hr => first | (go_simp; done) | (go_simp; rfl)); intro gb174 hg w5 hbox hb; have n0_ := Aside0.mk (Kd.V_below (Kd.V_elderB (by (with_reducible repeat (first | apply Kd.V_alloc | apply Kd.V_drewN | apply Kd.V_drew)); exact HO0_4.out) gb174 (Nat.le_of_eq hg.symm)) hb); have n1_ := belB_ hb; have n2_ := Aside0.mk (hbox); have n3_ := Aside0.mk ((by rw [hg]; exact (below_size (by repeat (first | (with_reducible first | exact HB.out | apply below_alloc | apply pw_below_drewN | apply below_drew1) | exact HB.out))) : w.heap.size ≤ gb174)); have n4_ := Aside0.mk ((by rw [hg]; exact (below_size (by repeat (first | (with_reducible first | exact HB.out | apply below_alloc | apply pw_below_drewN | apply below_drew1) | exact HB.out))) : w.heap.size ≤ gb174)); clear HO0_4; clear HB; have HO0_4 := n0_; have HB := n1_; have BK174 := n2_; have GW174 := n3_; have GE174 := n4_; clear n0_ n1_ n2_ n3_ n4_; clear hb hbox hg) | ((with_reducible refine gate_dst (N := 4) rfl ?_); refine box_event ?hg (N := 4) ?hd (cs := #[.int .i64 0, .int .i64 0, .string (⟨#[]⟩ : ByteArray), .slice none 0 0, .slice none 0 0]) (t := 29) ?hr ?_; (case hd => rfl); (case hg => rfl); (case hr => first | (go_simp; done) | (go_simp; rfl)); intro gb175 hg w6 hbox hb; have n0_ := Aside0.mk (Kd.V_below (Kd.V_elderB (by (with_reducible repeat (first | apply Kd.V_alloc | apply Kd.V_drewN | apply Kd.V_drew)); exact HO0_4.out) gb175 (Nat.le_of_eq hg.symm)) hb); have n1_ := blkB_ (g := gb174) (o := .cells #[.int .i64 a0_0, .int .i64 a0_1, .string a0_2, .slice A0_3 l0_3.length c0_3, .slice A0_4 l0_4.length c0_4] 29 (0, 0)) hb; have n2_ := belB_ hb; have n3_ := Aside0.mk (hbox); have n4_ := Aside0.mk ((by rw [hg]; exact (below_size (by repeat (first | (with_reducible first | exact HB.out | apply below_alloc | apply pw_below_drewN | apply below_drew1 | refine below_set ?_ GE174.out) | exact HB.out))) : w.heap.size ≤ gb175)); have n5_ := Aside0.mk ((by rw [hg]; exact (below_size (by repeat (first | (with_reducible first | exact HB.out | apply below_alloc | apply pw_below_drewN | apply below_drew1 | refine below_set ?_ GE174.out) | exact HB.out))) : w.heap.size ≤ gb175)); have n6_ := Aside0.mk ((by rw [hg]; exact Nat.ne_of_lt (blk_lt (g := gb174) (o := .cells #[.int .i64 a0_0, .int .i64 a0_1, .string a0_2, .slice A0_3 l0_3.length c0_3, .slice A0_4 l0_4.length c0_4] 29 (0, 0)) (by (with_reducible repeat (first | refine blk_drewN ?_ _ | refine blk_drew ?_ | refine blk_alloc ?_ _)); exact BK174.out)) : gb174 ≠ gb175)); have n7_ := Aside0.mk ((by rw [hg]; exact Nat.ne_of_gt (blk_lt (g := gb174) (o := .cells #[.int .i64 a0_0, .int .i64 a0_1, .string a0_2, .slice A0_3 l0_3.length c0_3, .slice A0_4 l0_4.length c0_4] 29 (0, 0)) (by (with_reducible repeat (first | refine blk_drewN ?_ _ | refine blk_drew ?_ | refine blk_alloc ?_ _)); exact BK174.out)) : gb175 ≠ gb174)); clear HO0_4; clear BK174; clear HB; have HO0_4 := n0_; have BK174 := n1_; have HB := n2_; have BK175 := n3_; have GW175 := n4_; have GE175 := n5_; have NB174_175 := n6_; have NB175_174 := n7_; clear n0_ n1_ n2_ n3_ n4_ n5_ n6_ n7_; clear hb hbox hg; have hnb7 := NB174_175.out; have hnc7 := NB175_174.out; have hcz8_0 : w6.cell? ⟨gb174, 0, none⟩ = some (.int .i64 a0_0) := (blk_cell BK174.out 0).trans rfl; have hcz8_1 : w6.cell? ⟨gb174, 1, none⟩ = some (.int .i64 a0_1) := (blk_cell BK174.out 1).trans rfl; have hcz8_2 : w6.cell? ⟨gb174, 2, none⟩ = some (.string a0_2) := (blk_cell BK174.out 2).trans rfl; have hcz8_3 : w6.cell? ⟨gb174, 3, none⟩ = some (.slice A0_3 l0_3.length c0_3) := (blk_cell BK174.out 3).trans rfl; have hcz8_4 : w6.cell? ⟨gb174, 4, none⟩ = some (.slice A0_4 l0_4.length c0_4) := (blk_cell BK174.out 4).trans rfl; have hfz8_0 := blk_frozen BK174.out 0; have hfz8_1 := blk_frozen BK174.out 1; have hfz8_2 := blk_frozen BK174.out 2; have hfz8_3 := blk_frozen BK174.out 3; have hfz8_4 := blk_frozen BK174.out 4) | ((with_reducible refine gate_callee (f := 33) rfl ?_); refine cU_ (some 10) Try.func33 #[.slice A0_3 l0_3.length c0_3, .string a1] ?_; (with_reducible refine (slices_Index_string_string.calls k _ _ l0_3 a1 t176 _ ?side1 ?side2 A3.out).mono ?_); (case side1 => repeat (first | exact (Kd.C_below HR0_3.out HB.out) | (with_reducible refine Kd.C_alloc ?_ _) | (with_reducible refine Kd.C_drewN ?_ _) | (with_reducible refine Kd.C_drew ?_))); (case side2 => exact HC0_3.out); rintro e w' ⟨rfl, ⟨nd, rfl⟩⟩; refine ⟨_, rfl, ?_⟩; (try (rw [drewN_self w6]; generalize hq_ : World.drewN w6 _ = w6; have n0_ : Aside0 (Kd.V k29 29 w6 w.heap.size (fun k_ => (P0_4_ k_ ∨ w.heap.size ≤ k_) ∧ k_ ≠ gb174 ∧ k_ ≠ gb175) (.slice A0_4 l0_4.length c0_4) l0_4) := ⟨by rw [← hq_]; exact (by (with_reducible repeat (first | apply Kd.V_alloc | apply Kd.V_drewN | apply Kd.V_drew)); exact Kd.V_mono HO0_4.out (fun _ hk => ⟨hk.1.1, ⟨hk.1.2, hk.2⟩⟩))⟩; have n1_ : Aside0 (w6.heap[gb174]? = some (.cells #[.int .i64 a0_0, .int .i64 a0_1, .string a0_2, .slice A0_3 l0_3.length c0_3, .slice A0_4 l0_4.length c0_4] 29 (0, 0))) := ⟨by rw [← hq_]; exact (by (with_reducible repeat (first | refine blk_drewN ?_ _ | refine blk_drew ?_ | refine blk_alloc ?_ _)); exact BK174.out)⟩; have n2_ : Aside0 (w6.heap[gb175]? = some (.cells #[.int .i64 0, .int .i64 0, .string (⟨#[]⟩ : ByteArray), .slice none 0 0, .slice none 0 0] 29 (0, 0))) := ⟨by rw [← hq_]; exact (by (with_reducible repeat (first | refine blk_drewN ?_ _ | refine blk_drew ?_ | refine blk_alloc ?_ _)); exact BK175.out)⟩; have n3_ : Aside0 (Below w.heap.size w w6) := ⟨by rw [← hq_]; exact (by repeat (first | (with_reducible first | exact HB.out | apply below_alloc | apply pw_below_drewN | apply below_drew1 | refine below_set ?_ GE174.out | refine below_set ?_ GE175.out) | exact HB.out))⟩; clear HO0_4 BK174 BK175 HB hq_; have HO0_4 := n0_; have BK174 := n1_; have BK175 := n2_; have HB := n3_; clear n0_ n1_ n2_ n3_)); have hcz9_0 : w6.cell? ⟨gb175, 0, none⟩ = some (.int .i64 0) := (blk_cell BK175.out 0).trans rfl; have hcz9_1 : w6.cell? ⟨gb175, 1, none⟩ = some (.int .i64 0) := (blk_cell BK175.out 1).trans rfl; have hcz9_2 : w6.cell? ⟨gb175, 2, none⟩ = some (.string (⟨#[]⟩ : ByteArray)) := (blk_cell BK175.out 2).trans rfl; have hcz9_3 : w6.cell? ⟨gb175, 3, none⟩ = some (.slice none 0 0) := (blk_cell BK175.out 3).trans rfl; have hcz9_4 : w6.cell? ⟨gb175, 4, none⟩ = some (.slice none 0 0) := (blk_cell BK175.out 4).trans rfl; have hfz9_0 := blk_frozen BK175.out 0; have hfz9_1 := blk_frozen BK175.out 1; have hfz9_2 := blk_frozen BK175.out 2; have hfz9_3 := blk_frozen BK175.out 3; have hfz9_4 := blk_frozen BK175.out 4))
  refine bodyPost_ret (results_ct rfl _ _ gb175 29 #[.int .i64 0, .int .i64 0, .string (⟨#[]⟩ : ByteArray), .slice none 0 0, .slice none 0 0] (0, 0) _ rfl (by (with_reducible repeat (first | refine blk_drewN ?_ _ | refine blk_drew ?_ | refine blk_alloc ?_ _)); refine blk_put (cs := #[.int .i64 0, .int .i64 0, .string (⟨#[]⟩ : ByteArray), .slice none 0 0, .slice none 0 0]) ?_ 4 _ rfl; (with_reducible repeat (first | refine blk_drewN ?_ _ | refine blk_drew ?_ | refine blk_alloc ?_ _)); refine blk_put (cs := #[.int .i64 0, .int .i64 0, .string (⟨#[]⟩ : ByteArray), .slice none 0 0, .slice none 0 0]) ?_ 3 _ rfl; (with_reducible repeat (first | refine blk_drewN ?_ _ | refine blk_drew ?_ | refine blk_alloc ?_ _)); refine blk_put (cs := #[.int .i64 0, .int .i64 0, .string (⟨#[]⟩ : ByteArray), .slice none 0 0, .slice none 0 0]) ?_ 2 _ rfl; (with_reducible repeat (first | refine blk_drewN ?_ _ | refine blk_drew ?_ | refine blk_alloc ?_ _)); refine blk_put (cs := #[.int .i64 0, .int .i64 0, .string (⟨#[]⟩ : ByteArray), .slice none 0 0, .slice none 0 0]) ?_ 1 _ rfl; (with_reducible repeat (first | refine blk_drewN ?_ _ | refine blk_drew ?_ | refine blk_alloc ?_ _)); refine blk_put (cs := #[.int .i64 0, .int .i64 0, .string (⟨#[]⟩ : ByteArray), .slice none 0 0, .slice none 0 0]) ?_ 0 _ rfl; (with_reducible repeat (first | refine blk_drewN ?_ _ | refine blk_drew ?_ | refine blk_alloc ?_ _)); exact BK175.out) Try.underlying29 rfl (by kernel_rfl)) rfl ?_
  exact ⟨_, _, by first | rfl | (simp [errW_none, errW_some] <;> rfl) | (simp [*, errW_none, errW_some] <;> rfl), Kd.V_nil _ _ _ _ _, Kd.V_nil _ _ _ _ _, by repeat (first | (with_reducible first | exact HB.out | apply below_alloc | apply pw_below_drewN | apply below_drew1 | refine below_set ?_ GE174.out | refine below_set ?_ GE175.out) | exact HB.out)⟩
 ·
  rw [if_neg c4] at H
  have c4b0 : decide (t176 < 0) = false := decide_eq_false c4
  clear c4
  by_cases c10 : 0 ≤ t176
  ·
   rw [if_pos c10] at H
   have c10b0 : decide (0 ≤ t176) = true := decide_eq_true c10
   clear c10
   by_cases c11 : t176 < (l0_4.length : Int)
   ·
    rw [if_pos c11] at H
    have c11b0 : decide (t176 < (l0_4.length : Int)) = true := decide_eq_true c11
    clear c11
    simp only [Option.some.injEq, Prod.mk.injEq] at H
    obtain ⟨rfl, rfl, rfl, rfl, rfl, rfl⟩ := H
    go_enter Try.func22, Try.ntmps22
    go_wp2_with (first | ((with_reducible refine gate_dst (N := 2) rfl ?_); refine box_event ?hg (N := 2) ?hd (cs := #[.int .i64 a0_0, .int .i64 a0_1, .string a0_2, .slice A0_3 l0_3.length c0_3, .slice A0_4 l0_4.length c0_4]) (t := 29) ?hr ?_; (case hd => rfl); (case hg => rfl); (case hr => first | (go_simp; done) | (go_simp; rfl)); intro gb174 hg w12 hbox hb; have n0_ := Aside0.mk (Kd.V_below (Kd.V_elderB (by (with_reducible repeat (first | apply Kd.V_alloc | apply Kd.V_drewN | apply Kd.V_drew)); exact HO0_4.out) gb174 (Nat.le_of_eq hg.symm)) hb); have n1_ := belB_ hb; have n2_ := Aside0.mk (hbox); have n3_ := Aside0.mk ((by rw [hg]; exact (below_size (by repeat (first | (with_reducible first | exact HB.out | apply below_alloc | apply pw_below_drewN | apply below_drew1) | exact HB.out))) : w.heap.size ≤ gb174)); have n4_ := Aside0.mk ((by rw [hg]; exact (below_size (by repeat (first | (with_reducible first | exact HB.out | apply below_alloc | apply pw_below_drewN | apply below_drew1) | exact HB.out))) : w.heap.size ≤ gb174)); clear HO0_4; clear HB; have HO0_4 := n0_; have HB := n1_; have BK174 := n2_; have GW174 := n3_; have GE174 := n4_; clear n0_ n1_ n2_ n3_ n4_; clear hb hbox hg) | ((with_reducible refine gate_dst (N := 4) rfl ?_); refine box_event ?hg (N := 4) ?hd (cs := #[.int .i64 0, .int .i64 0, .string (⟨#[]⟩ : ByteArray), .slice none 0 0, .slice none 0 0]) (t := 29) ?hr ?_; (case hd => rfl); (case hg => rfl); (case hr => first | (go_simp; done) | (go_simp; rfl)); intro gb175 hg w13 hbox hb; have n0_ := Aside0.mk (Kd.V_below (Kd.V_elderB (by (with_reducible repeat (first | apply Kd.V_alloc | apply Kd.V_drewN | apply Kd.V_drew)); exact HO0_4.out) gb175 (Nat.le_of_eq hg.symm)) hb); have n1_ := blkB_ (g := gb174) (o := .cells #[.int .i64 a0_0, .int .i64 a0_1, .string a0_2, .slice A0_3 l0_3.length c0_3, .slice A0_4 l0_4.length c0_4] 29 (0, 0)) hb; have n2_ := belB_ hb; have n3_ := Aside0.mk (hbox); have n4_ := Aside0.mk ((by rw [hg]; exact (below_size (by repeat (first | (with_reducible first | exact HB.out | apply below_alloc | apply pw_below_drewN | apply below_drew1 | refine below_set ?_ GE174.out) | exact HB.out))) : w.heap.size ≤ gb175)); have n5_ := Aside0.mk ((by rw [hg]; exact (below_size (by repeat (first | (with_reducible first | exact HB.out | apply below_alloc | apply pw_below_drewN | apply below_drew1 | refine below_set ?_ GE174.out) | exact HB.out))) : w.heap.size ≤ gb175)); have n6_ := Aside0.mk ((by rw [hg]; exact Nat.ne_of_lt (blk_lt (g := gb174) (o := .cells #[.int .i64 a0_0, .int .i64 a0_1, .string a0_2, .slice A0_3 l0_3.length c0_3, .slice A0_4 l0_4.length c0_4] 29 (0, 0)) (by (with_reducible repeat (first | refine blk_drewN ?_ _ | refine blk_drew ?_ | refine blk_alloc ?_ _)); exact BK174.out)) : gb174 ≠ gb175)); have n7_ := Aside0.mk ((by rw [hg]; exact Nat.ne_of_gt (blk_lt (g := gb174) (o := .cells #[.int .i64 a0_0, .int .i64 a0_1, .string a0_2, .slice A0_3 l0_3.length c0_3, .slice A0_4 l0_4.length c0_4] 29 (0, 0)) (by (with_reducible repeat (first | refine blk_drewN ?_ _ | refine blk_drew ?_ | refine blk_alloc ?_ _)); exact BK174.out)) : gb175 ≠ gb174)); clear HO0_4; clear BK174; clear HB; have HO0_4 := n0_; have BK174 := n1_; have HB := n2_; have BK175 := n3_; have GW175 := n4_; have GE175 := n5_; have NB174_175 := n6_; have NB175_174 := n7_; clear n0_ n1_ n2_ n3_ n4_ n5_ n6_ n7_; clear hb hbox hg; have hnb14 := NB174_175.out; have hnc14 := NB175_174.out; have hcz15_0 : w13.cell? ⟨gb174, 0, none⟩ = some (.int .i64 a0_0) := (blk_cell BK174.out 0).trans rfl; have hcz15_1 : w13.cell? ⟨gb174, 1, none⟩ = some (.int .i64 a0_1) := (blk_cell BK174.out 1).trans rfl; have hcz15_2 : w13.cell? ⟨gb174, 2, none⟩ = some (.string a0_2) := (blk_cell BK174.out 2).trans rfl; have hcz15_3 : w13.cell? ⟨gb174, 3, none⟩ = some (.slice A0_3 l0_3.length c0_3) := (blk_cell BK174.out 3).trans rfl; have hcz15_4 : w13.cell? ⟨gb174, 4, none⟩ = some (.slice A0_4 l0_4.length c0_4) := (blk_cell BK174.out 4).trans rfl; have hfz15_0 := blk_frozen BK174.out 0; have hfz15_1 := blk_frozen BK174.out 1; have hfz15_2 := blk_frozen BK174.out 2; have hfz15_3 := blk_frozen BK174.out 3; have hfz15_4 := blk_frozen BK174.out 4) | ((with_reducible refine gate_callee (f := 33) rfl ?_); refine cU_ (some 10) Try.func33 #[.slice A0_3 l0_3.length c0_3, .string a1] ?_; (with_reducible refine (slices_Index_string_string.calls k _ _ l0_3 a1 t176 _ ?side1 ?side2 A3.out).mono ?_); (case side1 => repeat (first | exact (Kd.C_below HR0_3.out HB.out) | (with_reducible refine Kd.C_alloc ?_ _) | (with_reducible refine Kd.C_drewN ?_ _) | (with_reducible refine Kd.C_drew ?_))); (case side2 => exact HC0_3.out); rintro e w' ⟨rfl, ⟨nd, rfl⟩⟩; refine ⟨_, rfl, ?_⟩; (try (rw [drewN_self w13]; generalize hq_ : World.drewN w13 _ = w13; have n0_ : Aside0 (Kd.V k29 29 w13 w.heap.size (fun k_ => (P0_4_ k_ ∨ w.heap.size ≤ k_) ∧ k_ ≠ gb174 ∧ k_ ≠ gb175) (.slice A0_4 l0_4.length c0_4) l0_4) := ⟨by rw [← hq_]; exact (by (with_reducible repeat (first | apply Kd.V_alloc | apply Kd.V_drewN | apply Kd.V_drew)); exact Kd.V_mono HO0_4.out (fun _ hk => ⟨hk.1.1, ⟨hk.1.2, hk.2⟩⟩))⟩; have n1_ : Aside0 (w13.heap[gb174]? = some (.cells #[.int .i64 a0_0, .int .i64 a0_1, .string a0_2, .slice A0_3 l0_3.length c0_3, .slice A0_4 l0_4.length c0_4] 29 (0, 0))) := ⟨by rw [← hq_]; exact (by (with_reducible repeat (first | refine blk_drewN ?_ _ | refine blk_drew ?_ | refine blk_alloc ?_ _)); exact BK174.out)⟩; have n2_ : Aside0 (w13.heap[gb175]? = some (.cells #[.int .i64 0, .int .i64 0, .string (⟨#[]⟩ : ByteArray), .slice none 0 0, .slice none 0 0] 29 (0, 0))) := ⟨by rw [← hq_]; exact (by (with_reducible repeat (first | refine blk_drewN ?_ _ | refine blk_drew ?_ | refine blk_alloc ?_ _)); exact BK175.out)⟩; have n3_ : Aside0 (Below w.heap.size w w13) := ⟨by rw [← hq_]; exact (by repeat (first | (with_reducible first | exact HB.out | apply below_alloc | apply pw_below_drewN | apply below_drew1 | refine below_set ?_ GE174.out | refine below_set ?_ GE175.out) | exact HB.out))⟩; clear HO0_4 BK174 BK175 HB hq_; have HO0_4 := n0_; have BK174 := n1_; have BK175 := n2_; have HB := n3_; clear n0_ n1_ n2_ n3_)); have hcy_0 : w13.cell? ⟨gb174, 0, none⟩ = some (.int .i64 a0_0) := (blk_cell BK174.out 0).trans rfl; have hfy_0 := blk_frozen BK174.out 0; have hcy_1 : w13.cell? ⟨gb174, 1, none⟩ = some (.int .i64 a0_1) := (blk_cell BK174.out 1).trans rfl; have hfy_1 := blk_frozen BK174.out 1; have hcy_2 : w13.cell? ⟨gb174, 2, none⟩ = some (.string a0_2) := (blk_cell BK174.out 2).trans rfl; have hfy_2 := blk_frozen BK174.out 2; have hcy_3 : w13.cell? ⟨gb174, 3, none⟩ = some (.slice A0_3 l0_3.length c0_3) := (blk_cell BK174.out 3).trans rfl; have hfy_3 := blk_frozen BK174.out 3; have hcy_4 : w13.cell? ⟨gb174, 4, none⟩ = some (.slice A0_4 l0_4.length c0_4) := (blk_cell BK174.out 4).trans rfl; have hfy_4 := blk_frozen BK174.out 4; have p177 : 0 ≤ (t176 : Int) := of_decide_eq_true (by first | (with_reducible assumption) | assumption); have q177 : t176 < (l0_4.length : Int) := of_decide_eq_true (by first | (with_reducible assumption) | assumption); obtain ⟨ad177, A177_3, c177_3, A177_4, c177_4, e177, hx177_0, hx177_1, hx177_2, hx177_3, hx177_4, hl177_3, hi177_3, hl177_4, hi177_4⟩ := at_T29 (Kd.V_reads' HO0_4.out).2.2 t176 p177 q177; cases e177; obtain ⟨ce177, hce177, hMe177, hcc177⟩ := Kd.V_get HO0_4.out z29 t176 p177 (by first | exact q177 | exact of_decide_eq_true (by first | (with_reducible assumption) | assumption) | (have e_ := (Kd.V_reads' HO0_4.out).1; omega)); obtain ⟨ua177_3, uc177_3, ua177_4, uc177_4, rfl, ul177_3, ge177_3, ul177_4, ge177_4⟩ := k29_openF hMe177; have hv177_3 := hcc177 3 _ rfl; rw [add_field _ _ 3 (by omega)] at hv177_3; replace hv177_3 := Option.some.inj (hv177_3.symm.trans hx177_3); injection hv177_3 with hva_ hvn_ hvc_; rw [hva_] at ge177_3; rw [hvc_] at ul177_3; have HL177_3 := Aside0.mk (show Kd.V Kd.string 9 _ w.heap.size _ _ ((rd_T29 l0_4 t176).f3) from Kd.V_mk ul177_3 ge177_3); clear hva_ hvn_ hvc_ ge177_3 ul177_3; have hv177_4 := hcc177 4 _ rfl; rw [add_field _ _ 4 (by omega)] at hv177_4; replace hv177_4 := Option.some.inj (hv177_4.symm.trans hx177_4); injection hv177_4 with hva_ hvn_ hvc_; rw [hva_] at ge177_4; rw [hvc_] at ul177_4; have HL177_4 := Aside0.mk (show Kd.V k29 29 _ w.heap.size _ _ ((rd_T29 l0_4 t176).f4) from Kd.V_mk ul177_4 ge177_4); clear hva_ hvn_ hvc_ ge177_4 ul177_4; clear hcc177 hce177; have HR177_3 := Aside0.mk hi177_3; have HC177_3 := Aside0.mk hl177_3; clear hi177_3 hl177_3; have HR177_4 := Aside0.mk hi177_4; have HC177_4 := Aside0.mk hl177_4; clear hi177_4 hl177_4; replace p177 := eq_true p177; replace q177 := eq_true q177; have hcz16_0 : w13.cell? ⟨gb175, 0, none⟩ = some (.int .i64 0) := (blk_cell BK175.out 0).trans rfl; have hcz16_1 : w13.cell? ⟨gb175, 1, none⟩ = some (.int .i64 0) := (blk_cell BK175.out 1).trans rfl; have hcz16_2 : w13.cell? ⟨gb175, 2, none⟩ = some (.string (⟨#[]⟩ : ByteArray)) := (blk_cell BK175.out 2).trans rfl; have hcz16_3 : w13.cell? ⟨gb175, 3, none⟩ = some (.slice none 0 0) := (blk_cell BK175.out 3).trans rfl; have hcz16_4 : w13.cell? ⟨gb175, 4, none⟩ = some (.slice none 0 0) := (blk_cell BK175.out 4).trans rfl; have hfz16_0 := blk_frozen BK175.out 0; have hfz16_1 := blk_frozen BK175.out 1; have hfz16_2 := blk_frozen BK175.out 2; have hfz16_3 := blk_frozen BK175.out 3; have hfz16_4 := blk_frozen BK175.out 4))
    refine bodyPost_ret (results_ct rfl _ _ gb175 29 #[.int .i64 ((rd_T29 l0_4 t176).f0), .int .i64 ((rd_T29 l0_4 t176).f1), .string ((rd_T29 l0_4 t176).f2), .slice A177_3 ((rd_T29 l0_4 t176).f3).length c177_3, .slice A177_4 ((rd_T29 l0_4 t176).f4).length c177_4] (0, 0) _ rfl (by (with_reducible repeat (first | refine blk_drewN ?_ _ | refine blk_drew ?_ | refine blk_alloc ?_ _)); refine blk_put (cs := #[.int .i64 ((rd_T29 l0_4 t176).f0), .int .i64 ((rd_T29 l0_4 t176).f1), .string ((rd_T29 l0_4 t176).f2), .slice A177_3 ((rd_T29 l0_4 t176).f3).length c177_3, .slice none 0 0]) ?_ 4 _ rfl; (with_reducible repeat (first | refine blk_drewN ?_ _ | refine blk_drew ?_ | refine blk_alloc ?_ _)); refine blk_put (cs := #[.int .i64 ((rd_T29 l0_4 t176).f0), .int .i64 ((rd_T29 l0_4 t176).f1), .string ((rd_T29 l0_4 t176).f2), .slice none 0 0, .slice none 0 0]) ?_ 3 _ rfl; (with_reducible repeat (first | refine blk_drewN ?_ _ | refine blk_drew ?_ | refine blk_alloc ?_ _)); refine blk_put (cs := #[.int .i64 ((rd_T29 l0_4 t176).f0), .int .i64 ((rd_T29 l0_4 t176).f1), .string (⟨#[]⟩ : ByteArray), .slice none 0 0, .slice none 0 0]) ?_ 2 _ rfl; (with_reducible repeat (first | refine blk_drewN ?_ _ | refine blk_drew ?_ | refine blk_alloc ?_ _)); refine blk_put (cs := #[.int .i64 ((rd_T29 l0_4 t176).f0), .int .i64 0, .string (⟨#[]⟩ : ByteArray), .slice none 0 0, .slice none 0 0]) ?_ 1 _ rfl; (with_reducible repeat (first | refine blk_drewN ?_ _ | refine blk_drew ?_ | refine blk_alloc ?_ _)); refine blk_put (cs := #[.int .i64 0, .int .i64 0, .string (⟨#[]⟩ : ByteArray), .slice none 0 0, .slice none 0 0]) ?_ 0 _ rfl; (with_reducible repeat (first | refine blk_drewN ?_ _ | refine blk_drew ?_ | refine blk_alloc ?_ _)); exact BK175.out) Try.underlying29 rfl (by kernel_rfl)) rfl ?_
    exact ⟨_, _, by first | rfl | (simp [errW_none, errW_some] <;> rfl) | (simp [*, errW_none, errW_some] <;> rfl), by (with_reducible repeat (first | apply Kd.V_alloc | apply Kd.V_drewN | apply Kd.V_drew)); exact Kd.V_mono (Kd.V_far (p := ⟨gb175, 4, none⟩) (Kd.V_far (p := ⟨gb175, 3, none⟩) (Kd.V_far (p := ⟨gb175, 2, none⟩) (Kd.V_far (p := ⟨gb175, 1, none⟩) (Kd.V_far (p := ⟨gb175, 0, none⟩) (Kd.V_mono HL177_3.out (fun k_ hk => (⟨hk, hk.2.2⟩ : _ ∧ k_ ≠ gb175))) (fun _ hk => hk.2) (.int .i64 ((rd_T29 l0_4 t176).f0))) (fun _ hk => hk.2) (.int .i64 ((rd_T29 l0_4 t176).f1))) (fun _ hk => hk.2) (.string ((rd_T29 l0_4 t176).f2))) (fun _ hk => hk.2) (.slice A177_3 ((rd_T29 l0_4 t176).f3).length c177_3)) (fun _ hk => hk.2) (.slice A177_4 ((rd_T29 l0_4 t176).f4).length c177_4)) (fun _ hk => hk.1.1), by (with_reducible repeat (first | apply Kd.V_alloc | apply Kd.V_drewN | apply Kd.V_drew)); exact Kd.V_mono (Kd.V_far (p := ⟨gb175, 4, none⟩) (Kd.V_far (p := ⟨gb175, 3, none⟩) (Kd.V_far (p := ⟨gb175, 2, none⟩) (Kd.V_far (p := ⟨gb175, 1, none⟩) (Kd.V_far (p := ⟨gb175, 0, none⟩) (Kd.V_mono HL177_4.out (fun k_ hk => (⟨hk, hk.2.2⟩ : _ ∧ k_ ≠ gb175))) (fun _ hk => hk.2) (.int .i64 ((rd_T29 l0_4 t176).f0))) (fun _ hk => hk.2) (.int .i64 ((rd_T29 l0_4 t176).f1))) (fun _ hk => hk.2) (.string ((rd_T29 l0_4 t176).f2))) (fun _ hk => hk.2) (.slice A177_3 ((rd_T29 l0_4 t176).f3).length c177_3)) (fun _ hk => hk.2) (.slice A177_4 ((rd_T29 l0_4 t176).f4).length c177_4)) (fun _ hk => hk.1.1), by repeat (first | (with_reducible first | exact HB.out | apply below_alloc | apply pw_below_drewN | apply below_drew1 | refine below_set ?_ GE174.out | refine below_set ?_ GE175.out) | exact HB.out)⟩
   ·
    rw [if_neg c11] at H
    exact absurd H (by simp)
  ·
   rw [if_neg c10] at H
   exact absurd H (by simp)

end Go.Proofs.Ytljpmdeobmmhlaa.QFnExactMember
