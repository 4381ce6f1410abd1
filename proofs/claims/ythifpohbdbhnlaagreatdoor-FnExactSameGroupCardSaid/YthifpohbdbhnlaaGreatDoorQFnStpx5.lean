/- A tool of this session wrote this text out of the translation: functions as plain Lean, and proofs that the machine's calls come to their answers. -/
import Derived.Test.YthifpohbdbhnlaaGreatDoorQShort
import Derived.Test.YthifpohbdbhnlaaGreatDoorQFnStpx0
import Derived.Test.YthifpohbdbhnlaaGreatDoorQFnStpx3
namespace Go.Proofs.YthifpohbdbhnlaaGreatDoor.QFnStp
open Go.RowKit Go.Proofs.YthifpohbdbhnlaaGreatDoorW.PrintWords Go.Proofs.YthifpohbdbhnlaaGreatDoorW.PrintLast Go.Proofs.YthifpohbdbhnlaaGreatDoorW.PrintMore
open Go.Proofs.YthifpohbdbhnlaaGreatDoor.Short
attribute [local go_sem] max2_int min2_int max_two min_two max_three min_three max_four min_four   -- for this text's walks alone
set_option linter.unusedVariables false
set_option linter.unusedSimpArgs false

/-! ### spec_l01Host: function 104 -/
def spec_l01Host.l0 : Nat → ByteArray → Bool → Int → Option (Bool)
  | 0, _, _, _ => none
  | k + 1, x0, x3, x4 => if x4 < (x0.size : Int) then (if 0 ≤ x4 then (if (bt x0 x4) ≥ 97 then (if (bt x0 x4) ≤ 122 then (spec_l01Host.l0 k x0 (!true) (wrap64 (x4 + 1))) else ((spec_l00Digit.f (bt x0 x4)).bind fun t127 => (if t127 = true then (spec_l01Host.l0 k x0 (!t127) (wrap64 (x4 + 1))) else (if x3 = true then (some false) else (if (bt x0 x4) = 45 then (spec_l01Host.l0 k x0 (!t127) (wrap64 (x4 + 1))) else (if (bt x0 x4) = 46 then (spec_l01Host.l0 k x0 (!t127) (wrap64 (x4 + 1))) else (some false))))))) else ((spec_l00Digit.f (bt x0 x4)).bind fun t128 => (if t128 = true then (spec_l01Host.l0 k x0 (!t128) (wrap64 (x4 + 1))) else (if x3 = true then (some false) else (if (bt x0 x4) = 45 then (spec_l01Host.l0 k x0 (!t128) (wrap64 (x4 + 1))) else (if (bt x0 x4) = 46 then (spec_l01Host.l0 k x0 (!t128) (wrap64 (x4 + 1))) else (some false))))))) else (none)) else (some (!x3))
def spec_l01Host.f (k : Nat) (a0 : ByteArray) : Option (Bool) := spec_l01Host.l0 k a0 true 0
theorem spec_l01Host.mono_l : ∀ k, (∀ y0 y1 y2, LeO (spec_l01Host.l0 k y0 y1 y2) (spec_l01Host.l0 (k + 1) y0 y1 y2))
  | 0 => fun _ _ _ r h => by simp [spec_l01Host.l0] at h
  | k + 1 => by
    have ih0 := spec_l01Host.mono_l k
    · intro y0 y1 y2
      unfold spec_l01Host.l0; repeat' first | (with_reducible exact ih0 _ _ _) | (with_reducible first | exact LeO.refl _ | exact LeO.none _ | refine LeO.ite ?_ ?_ | refine LeO.bind ?_ (fun _ => ?_)) | exact ih0 _ _ _ | exact LeO.none _ | refine LeO.ite ?_ ?_ | refine LeO.bind ?_ (fun _ => ?_)
theorem spec_l01Host.mono : ∀ a0 k, LeO (spec_l01Host.f k a0) (spec_l01Host.f (k + 1) a0) := by
  intro a0 k; have ih0 := spec_l01Host.mono_l k; unfold spec_l01Host.f; repeat' first | (with_reducible exact ih0 _ _ _) | (with_reducible first | exact LeO.refl _ | exact LeO.none _ | refine LeO.ite ?_ ?_ | refine LeO.bind ?_ (fun _ => ?_)) | exact ih0 _ _ _ | exact LeO.none _ | refine LeO.ite ?_ ?_ | refine LeO.bind ?_ (fun _ => ?_)
set_option maxHeartbeats 8000000 in
set_option maxRecDepth 100000 in
theorem spec_l01Host.calls (k : Nat) (a0 : ByteArray) (r : Bool) (w : World) (h : spec_l01Host.f k a0 = some r) :
    Calls Tryz.prog 104 #[.string a0] w fun e w' => e = .returned (.bool r) ∧ Drawn0 w w' := by
 have H : (spec_l01Host.l0 k a0 true 0) = some r := h; clear h; have H' := Aside0.mk H; clear H; go_enter Tryz.func104, Tryz.ntmps104; go_wp2; go_loopg [3, 4] k (fun kq v3 v4 w' => ∃ (x3_1 : Bool) (x4_1 : Int), v3 = .bool x3_1 ∧ v4 = .int .i64 x4_1 ∧ Aside0 (spec_l01Host.l0 kq a0 x3_1 x4_1 = some r) ∧ Aside0 (kq ≤ k) ∧ Drawn0 w w')
 case atStart => exact ⟨(true), (0), eqE_, eqE_, H', ⟨Nat.le_refl _⟩, drE_⟩
 case round =>
  clear H'; obtain ⟨x3_1, x4_1, rfl, rfl, HA, HK1, ⟨m1, rfl⟩⟩ := hrel; cases gk with
  | zero => exact absurd HA.out (by simp [spec_l01Host.l0])
  | succ k1 =>
   have H := HA.out; clear HA; simp only [spec_l01Host.l0] at H; by_cases c2 : x4_1 < (a0.size : Int)
   ·
    rw [if_pos c2] at H; have c2b0 : decide (x4_1 < (a0.size : Int)) = true := decide_eq_true c2; clear c2; by_cases c3 : 0 ≤ x4_1
    ·
     rw [if_pos c3] at H; have c3b0 : decide (0 ≤ x4_1) = true := decide_eq_true c3; clear c3; by_cases c5 : (bt a0 x4_1) ≥ 97
     ·
      rw [if_pos c5] at H; have c5b0 : decide (97 ≤ (bt a0 x4_1)) = true := decide_eq_true c5; clear c5; by_cases c7 : (bt a0 x4_1) ≤ 122
      ·
       rw [if_pos c7] at H; have c7b0 : decide ((bt a0 x4_1) ≤ 122) = true := decide_eq_true c7; clear c7; have H' := Aside0.mk H; clear H; have p4 : 0 ≤ (x4_1 : Int) := ofd_; have q4 : x4_1 < (a0.size : Int) := ofd_; have hx4 := bt_at a0 x4_1; replace p4 := eq_true p4; replace q4 := eq_true q4; have p6 : 0 ≤ (x4_1 : Int) := ofd_; have q6 : x4_1 < (a0.size : Int) := ofd_; have hx6 := bt_at a0 x4_1; replace p6 := eq_true p6; replace q6 := eq_true q6; go_wp2; go_roundg k1
       case measure => have := HK1.out; omega
       case rel => exact ⟨(!true), (wrap64 (x4_1 + 1)), eqE_, eqE_, H', ⟨by have := HK1.out; omega⟩, drE_⟩
      ·
       rw [if_neg c7] at H; have c7b0 : decide ((bt a0 x4_1) ≤ 122) = false := decide_eq_false c7; clear c7; obtain ⟨t127, A9, H⟩ := bindE_ H; by_cases c10 : t127 = true
       ·
        subst c10; replace H := ifT_ H; have H' := Aside0.mk H; clear H; have p4 : 0 ≤ (x4_1 : Int) := ofd_; have q4 : x4_1 < (a0.size : Int) := ofd_; have hx4 := bt_at a0 x4_1; replace p4 := eq_true p4; replace q4 := eq_true q4; have p6 : 0 ≤ (x4_1 : Int) := ofd_; have q6 : x4_1 < (a0.size : Int) := ofd_; have hx6 := bt_at a0 x4_1; replace p6 := eq_true p6; replace q6 := eq_true q6; have p8 : 0 ≤ (x4_1 : Int) := ofd_; have q8 : x4_1 < (a0.size : Int) := ofd_; have hx8 := bt_at a0 x4_1; replace p8 := eq_true p8; replace q8 := eq_true q8; go_wp2_with (first | (go_at_call 136; (with_reducible refine (spec_l00Digit.calls (bt a0 x4_1) true _ A9.out).mono ?_); rintro e w' ⟨rfl, ⟨nd, rfl⟩⟩)); go_roundg k1
        case measure => have := HK1.out; omega
        case rel => exact ⟨(!true), (wrap64 (x4_1 + 1)), eqE_, eqE_, H', ⟨by have := HK1.out; omega⟩, drE_⟩
       ·
        replace c10 := Bool.eq_false_iff.mpr c10; subst c10; replace H := ifF_ H; by_cases c11 : x3_1 = true
        · subst c11; replace H := ifT_ H; obtain rfl := Option.some.inj H; have p4 : 0 ≤ (x4_1 : Int) := ofd_; have q4 : x4_1 < (a0.size : Int) := ofd_; have hx4 := bt_at a0 x4_1; replace p4 := eq_true p4; replace q4 := eq_true q4; have p6 : 0 ≤ (x4_1 : Int) := ofd_; have q6 : x4_1 < (a0.size : Int) := ofd_; have hx6 := bt_at a0 x4_1; replace p6 := eq_true p6; replace q6 := eq_true q6; have p8 : 0 ≤ (x4_1 : Int) := ofd_; have q8 : x4_1 < (a0.size : Int) := ofd_; have hx8 := bt_at a0 x4_1; replace p8 := eq_true p8; replace q8 := eq_true q8; go_wp2_with (first | (go_at_call 136; (with_reducible refine (spec_l00Digit.calls (bt a0 x4_1) false _ A9.out).mono ?_); rintro e w' ⟨rfl, ⟨nd, rfl⟩⟩)); go_ret; exact ⟨eqE_, drE_⟩
        ·
         replace c11 := Bool.eq_false_iff.mpr c11; subst c11; replace H := ifF_ H; by_cases c13 : (bt a0 x4_1) = 45
         ·
          rw [if_pos c13] at H; have c13b0 : ((bt a0 x4_1) == 45) = true := beq_iff_eq.mpr c13; have c13b1 : ((bt a0 x4_1) != 45) = false := bne_eq_false_iff_eq.mpr c13; clear c13; have H' := Aside0.mk H; clear H; have p4 : 0 ≤ (x4_1 : Int) := ofd_; have q4 : x4_1 < (a0.size : Int) := ofd_; have hx4 := bt_at a0 x4_1; replace p4 := eq_true p4; replace q4 := eq_true q4; have p6 : 0 ≤ (x4_1 : Int) := ofd_; have q6 : x4_1 < (a0.size : Int) := ofd_; have hx6 := bt_at a0 x4_1; replace p6 := eq_true p6; replace q6 := eq_true q6; have p8 : 0 ≤ (x4_1 : Int) := ofd_; have q8 : x4_1 < (a0.size : Int) := ofd_; have hx8 := bt_at a0 x4_1; replace p8 := eq_true p8; replace q8 := eq_true q8; go_wp2_with (first | (go_at_call 136; (with_reducible refine (spec_l00Digit.calls (bt a0 x4_1) false _ A9.out).mono ?_); rintro e w' ⟨rfl, ⟨nd, rfl⟩⟩; have p12 : 0 ≤ (x4_1 : Int) := ofd_; have q12 : x4_1 < (a0.size : Int) := ofd_; have hx12 := bt_at a0 x4_1; replace p12 := eq_true p12; replace q12 := eq_true q12)); go_roundg k1
          case measure => have := HK1.out; omega
          case rel => exact ⟨(!false), (wrap64 (x4_1 + 1)), eqE_, eqE_, H', ⟨by have := HK1.out; omega⟩, drE_⟩
         ·
          rw [if_neg c13] at H; have c13b0 : ((bt a0 x4_1) == 45) = false := beq_eq_false_iff_ne.mpr c13; have c13b1 : ((bt a0 x4_1) != 45) = true := bne_iff_ne.mpr c13; by_cases c15 : (bt a0 x4_1) = 46
          ·
           rw [if_pos c15] at H; have c15b0 : ((bt a0 x4_1) == 46) = true := beq_iff_eq.mpr c15; have c15b1 : ((bt a0 x4_1) != 46) = false := bne_eq_false_iff_eq.mpr c15; clear c15; have H' := Aside0.mk H; clear H; have p4 : 0 ≤ (x4_1 : Int) := ofd_; have q4 : x4_1 < (a0.size : Int) := ofd_; have hx4 := bt_at a0 x4_1; replace p4 := eq_true p4; replace q4 := eq_true q4; have p6 : 0 ≤ (x4_1 : Int) := ofd_; have q6 : x4_1 < (a0.size : Int) := ofd_; have hx6 := bt_at a0 x4_1; replace p6 := eq_true p6; replace q6 := eq_true q6; have p8 : 0 ≤ (x4_1 : Int) := ofd_; have q8 : x4_1 < (a0.size : Int) := ofd_; have hx8 := bt_at a0 x4_1; replace p8 := eq_true p8; replace q8 := eq_true q8; go_wp2_with (first | (go_at_call 136; (with_reducible refine (spec_l00Digit.calls (bt a0 x4_1) false _ A9.out).mono ?_); rintro e w' ⟨rfl, ⟨nd, rfl⟩⟩; have p12 : 0 ≤ (x4_1 : Int) := ofd_; have q12 : x4_1 < (a0.size : Int) := ofd_; have hx12 := bt_at a0 x4_1; replace p12 := eq_true p12; replace q12 := eq_true q12; have p14 : 0 ≤ (x4_1 : Int) := ofd_; have q14 : x4_1 < (a0.size : Int) := ofd_; have hx14 := bt_at a0 x4_1; replace p14 := eq_true p14; replace q14 := eq_true q14)); go_roundg k1
           case measure => have := HK1.out; omega
           case rel => exact ⟨(!false), (wrap64 (x4_1 + 1)), eqE_, eqE_, H', ⟨by have := HK1.out; omega⟩, drE_⟩
          · rw [if_neg c15] at H; have c15b0 : ((bt a0 x4_1) == 46) = false := beq_eq_false_iff_ne.mpr c15; have c15b1 : ((bt a0 x4_1) != 46) = true := bne_iff_ne.mpr c15; obtain rfl := Option.some.inj H; have p4 : 0 ≤ (x4_1 : Int) := ofd_; have q4 : x4_1 < (a0.size : Int) := ofd_; have hx4 := bt_at a0 x4_1; replace p4 := eq_true p4; replace q4 := eq_true q4; have p6 : 0 ≤ (x4_1 : Int) := ofd_; have q6 : x4_1 < (a0.size : Int) := ofd_; have hx6 := bt_at a0 x4_1; replace p6 := eq_true p6; replace q6 := eq_true q6; have p8 : 0 ≤ (x4_1 : Int) := ofd_; have q8 : x4_1 < (a0.size : Int) := ofd_; have hx8 := bt_at a0 x4_1; replace p8 := eq_true p8; replace q8 := eq_true q8; go_wp2_with (first | (go_at_call 136; (with_reducible refine (spec_l00Digit.calls (bt a0 x4_1) false _ A9.out).mono ?_); rintro e w' ⟨rfl, ⟨nd, rfl⟩⟩; have p12 : 0 ≤ (x4_1 : Int) := ofd_; have q12 : x4_1 < (a0.size : Int) := ofd_; have hx12 := bt_at a0 x4_1; replace p12 := eq_true p12; replace q12 := eq_true q12; have p14 : 0 ≤ (x4_1 : Int) := ofd_; have q14 : x4_1 < (a0.size : Int) := ofd_; have hx14 := bt_at a0 x4_1; replace p14 := eq_true p14; replace q14 := eq_true q14)); go_ret; exact ⟨eqE_, drE_⟩
     ·
      rw [if_neg c5] at H; have c5b0 : decide (97 ≤ (bt a0 x4_1)) = false := decide_eq_false c5; clear c5; obtain ⟨t128, A17, H⟩ := bindE_ H; by_cases c18 : t128 = true
      ·
       subst c18; replace H := ifT_ H; have H' := Aside0.mk H; clear H; have p4 : 0 ≤ (x4_1 : Int) := ofd_; have q4 : x4_1 < (a0.size : Int) := ofd_; have hx4 := bt_at a0 x4_1; replace p4 := eq_true p4; replace q4 := eq_true q4; have p16 : 0 ≤ (x4_1 : Int) := ofd_; have q16 : x4_1 < (a0.size : Int) := ofd_; have hx16 := bt_at a0 x4_1; replace p16 := eq_true p16; replace q16 := eq_true q16; go_wp2_with (first | (go_at_call 136; (with_reducible refine (spec_l00Digit.calls (bt a0 x4_1) true _ A17.out).mono ?_); rintro e w' ⟨rfl, ⟨nd, rfl⟩⟩)); go_roundg k1
       case measure => have := HK1.out; omega
       case rel => exact ⟨(!true), (wrap64 (x4_1 + 1)), eqE_, eqE_, H', ⟨by have := HK1.out; omega⟩, drE_⟩
      ·
       replace c18 := Bool.eq_false_iff.mpr c18; subst c18; replace H := ifF_ H; by_cases c19 : x3_1 = true
       · subst c19; replace H := ifT_ H; obtain rfl := Option.some.inj H; have p4 : 0 ≤ (x4_1 : Int) := ofd_; have q4 : x4_1 < (a0.size : Int) := ofd_; have hx4 := bt_at a0 x4_1; replace p4 := eq_true p4; replace q4 := eq_true q4; have p16 : 0 ≤ (x4_1 : Int) := ofd_; have q16 : x4_1 < (a0.size : Int) := ofd_; have hx16 := bt_at a0 x4_1; replace p16 := eq_true p16; replace q16 := eq_true q16; go_wp2_with (first | (go_at_call 136; (with_reducible refine (spec_l00Digit.calls (bt a0 x4_1) false _ A17.out).mono ?_); rintro e w' ⟨rfl, ⟨nd, rfl⟩⟩)); go_ret; exact ⟨eqE_, drE_⟩
       ·
        replace c19 := Bool.eq_false_iff.mpr c19; subst c19; replace H := ifF_ H; by_cases c21 : (bt a0 x4_1) = 45
        ·
         rw [if_pos c21] at H; have c21b0 : ((bt a0 x4_1) == 45) = true := beq_iff_eq.mpr c21; have c21b1 : ((bt a0 x4_1) != 45) = false := bne_eq_false_iff_eq.mpr c21; clear c21; have H' := Aside0.mk H; clear H; have p4 : 0 ≤ (x4_1 : Int) := ofd_; have q4 : x4_1 < (a0.size : Int) := ofd_; have hx4 := bt_at a0 x4_1; replace p4 := eq_true p4; replace q4 := eq_true q4; have p16 : 0 ≤ (x4_1 : Int) := ofd_; have q16 : x4_1 < (a0.size : Int) := ofd_; have hx16 := bt_at a0 x4_1; replace p16 := eq_true p16; replace q16 := eq_true q16; go_wp2_with (first | (go_at_call 136; (with_reducible refine (spec_l00Digit.calls (bt a0 x4_1) false _ A17.out).mono ?_); rintro e w' ⟨rfl, ⟨nd, rfl⟩⟩; have p20 : 0 ≤ (x4_1 : Int) := ofd_; have q20 : x4_1 < (a0.size : Int) := ofd_; have hx20 := bt_at a0 x4_1; replace p20 := eq_true p20; replace q20 := eq_true q20)); go_roundg k1
         case measure => have := HK1.out; omega
         case rel => exact ⟨(!false), (wrap64 (x4_1 + 1)), eqE_, eqE_, H', ⟨by have := HK1.out; omega⟩, drE_⟩
        ·
         rw [if_neg c21] at H; have c21b0 : ((bt a0 x4_1) == 45) = false := beq_eq_false_iff_ne.mpr c21; have c21b1 : ((bt a0 x4_1) != 45) = true := bne_iff_ne.mpr c21; by_cases c23 : (bt a0 x4_1) = 46
         ·
          rw [if_pos c23] at H; have c23b0 : ((bt a0 x4_1) == 46) = true := beq_iff_eq.mpr c23; have c23b1 : ((bt a0 x4_1) != 46) = false := bne_eq_false_iff_eq.mpr c23; clear c23; have H' := Aside0.mk H; clear H; have p4 : 0 ≤ (x4_1 : Int) := ofd_; have q4 : x4_1 < (a0.size : Int) := ofd_; have hx4 := bt_at a0 x4_1; replace p4 := eq_true p4; replace q4 := eq_true q4; have p16 : 0 ≤ (x4_1 : Int) := ofd_; have q16 : x4_1 < (a0.size : Int) := ofd_; have hx16 := bt_at a0 x4_1; replace p16 := eq_true p16; replace q16 := eq_true q16; go_wp2_with (first | (go_at_call 136; (with_reducible refine (spec_l00Digit.calls (bt a0 x4_1) false _ A17.out).mono ?_); rintro e w' ⟨rfl, ⟨nd, rfl⟩⟩; have p20 : 0 ≤ (x4_1 : Int) := ofd_; have q20 : x4_1 < (a0.size : Int) := ofd_; have hx20 := bt_at a0 x4_1; replace p20 := eq_true p20; replace q20 := eq_true q20; have p22 : 0 ≤ (x4_1 : Int) := ofd_; have q22 : x4_1 < (a0.size : Int) := ofd_; have hx22 := bt_at a0 x4_1; replace p22 := eq_true p22; replace q22 := eq_true q22)); go_roundg k1
          case measure => have := HK1.out; omega
          case rel => exact ⟨(!false), (wrap64 (x4_1 + 1)), eqE_, eqE_, H', ⟨by have := HK1.out; omega⟩, drE_⟩
         · rw [if_neg c23] at H; have c23b0 : ((bt a0 x4_1) == 46) = false := beq_eq_false_iff_ne.mpr c23; have c23b1 : ((bt a0 x4_1) != 46) = true := bne_iff_ne.mpr c23; obtain rfl := Option.some.inj H; have p4 : 0 ≤ (x4_1 : Int) := ofd_; have q4 : x4_1 < (a0.size : Int) := ofd_; have hx4 := bt_at a0 x4_1; replace p4 := eq_true p4; replace q4 := eq_true q4; have p16 : 0 ≤ (x4_1 : Int) := ofd_; have q16 : x4_1 < (a0.size : Int) := ofd_; have hx16 := bt_at a0 x4_1; replace p16 := eq_true p16; replace q16 := eq_true q16; go_wp2_with (first | (go_at_call 136; (with_reducible refine (spec_l00Digit.calls (bt a0 x4_1) false _ A17.out).mono ?_); rintro e w' ⟨rfl, ⟨nd, rfl⟩⟩; have p20 : 0 ≤ (x4_1 : Int) := ofd_; have q20 : x4_1 < (a0.size : Int) := ofd_; have hx20 := bt_at a0 x4_1; replace p20 := eq_true p20; replace q20 := eq_true q20; have p22 : 0 ≤ (x4_1 : Int) := ofd_; have q22 : x4_1 < (a0.size : Int) := ofd_; have hx22 := bt_at a0 x4_1; replace p22 := eq_true p22; replace q22 := eq_true q22)); go_ret; exact ⟨eqE_, drE_⟩
    · rw [if_neg c3] at H; exact absurd H (by simp)
   · rw [if_neg c2] at H; have c2b0 : decide (x4_1 < (a0.size : Int)) = false := decide_eq_false c2; clear c2; obtain rfl := Option.some.inj H; go_wp2; go_ret; exact ⟨eqE_, drE_⟩

/-! ### spec_l01Usual: function 105 -/
def spec_l01Usual.f (a0 : ByteArray) : Option (Int) := if a0.toList = ([104, 116, 116, 112] : List UInt8) then (some 80) else (some 443)
set_option maxHeartbeats 8000000 in
set_option maxRecDepth 100000 in
theorem spec_l01Usual.calls (a0 : ByteArray) (r : Int) (w : World) (h : spec_l01Usual.f a0 = some r) :
    Calls Tryz.prog 105 #[.string a0] w fun e w' => e = .returned (.int .i64 r) ∧ Drawn0 w w' := by
 have H : (if a0.toList = ([104, 116, 116, 112] : List UInt8) then (some 80) else (some 443)) = some r := h; clear h; by_cases c2 : a0.toList = ([104, 116, 116, 112] : List UInt8)
 · rw [if_pos c2] at H; have c2b0 : (a0.toList == ([104, 116, 116, 112] : List UInt8)) = true := beq_iff_eq.mpr c2; have c2b1 : (a0.toList != ([104, 116, 116, 112] : List UInt8)) = false := bne_eq_false_iff_eq.mpr c2; clear c2; obtain rfl := Option.some.inj H; go_enter Tryz.func105, Tryz.ntmps105; go_wp2; go_ret; exact ⟨eqE_, drE_⟩
 · rw [if_neg c2] at H; have c2b0 : (a0.toList == ([104, 116, 116, 112] : List UInt8)) = false := beq_eq_false_iff_ne.mpr c2; have c2b1 : (a0.toList != ([104, 116, 116, 112] : List UInt8)) = true := bne_iff_ne.mpr c2; obtain rfl := Option.some.inj H; go_enter Tryz.func105, Tryz.ntmps105; go_wp2; go_ret; exact ⟨eqE_, drE_⟩

end Go.Proofs.YthifpohbdbhnlaaGreatDoor.QFnStp
