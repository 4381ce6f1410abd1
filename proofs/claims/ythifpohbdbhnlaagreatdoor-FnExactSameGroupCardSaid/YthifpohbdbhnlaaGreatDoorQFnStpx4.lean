/- A tool of this session wrote this text out of the translation: functions as plain Lean, and proofs that the machine's calls come to their answers. -/
import Derived.Test.YthifpohbdbhnlaaGreatDoorQShort
import Derived.Test.YthifpohbdbhnlaaGreatDoorQFnStpx0
import Derived.Test.YthifpohbdbhnlaaGreatDoorQFnStpx3
namespace Go.Proofs.YthifpohbdbhnlaaGreatDoor.QFnStp
open Go.RowKit Go.Proofs.YthifpohbdbhnlaaGreatDoorW.PrintWords Go.Proofs.YthifpohbdbhnlaaGreatDoorW.PrintLast Go.Proofs.YthifpohbdbhnlaaGreatDoorW.PrintMore
open Go.Proofs.YthifpohbdbhnlaaGreatDoor.Short
attribute [local go_sem] max2_int min2_int max_two min_two max_three min_three max_four min_four   -- for this text's walks alone
set_option linter.unusedVariables false
set_option linter.unusedSimpArgs false

/-! ### spec_l01Scheme: function 102 -/
def spec_l01Scheme.l0 : Nat → ByteArray → Int → Option (Bool)
  | 0, _, _ => none
  | k + 1, x0, x3 => if x3 < (x0.size : Int) then (if 0 ≤ x3 then (if (bt x0 x3) ≥ 97 then (if ((bt x0 x3) ≤ 122) then (spec_l01Scheme.l0 k x0 (wrap64 (x3 + 1))) else (if x3 = 0 then (some false) else ((spec_l00Digit.f (bt x0 x3)).bind fun t124 => (if t124 = true then (spec_l01Scheme.l0 k x0 (wrap64 (x3 + 1))) else (if (bt x0 x3) = 45 then (spec_l01Scheme.l0 k x0 (wrap64 (x3 + 1))) else (if (bt x0 x3) = 43 then (spec_l01Scheme.l0 k x0 (wrap64 (x3 + 1))) else (if (bt x0 x3) = 46 then (spec_l01Scheme.l0 k x0 (wrap64 (x3 + 1))) else (some false)))))))) else (if x3 = 0 then (some false) else ((spec_l00Digit.f (bt x0 x3)).bind fun t125 => (if t125 = true then (spec_l01Scheme.l0 k x0 (wrap64 (x3 + 1))) else (if (bt x0 x3) = 45 then (spec_l01Scheme.l0 k x0 (wrap64 (x3 + 1))) else (if (bt x0 x3) = 43 then (spec_l01Scheme.l0 k x0 (wrap64 (x3 + 1))) else (if (bt x0 x3) = 46 then (spec_l01Scheme.l0 k x0 (wrap64 (x3 + 1))) else (some false)))))))) else (none)) else (some true)
def spec_l01Scheme.f (k : Nat) (a0 : ByteArray) : Option (Bool) := (spec_l01In.f (a0.size : Int) 1 12).bind fun t123 => (if t123 = true then (spec_l01Scheme.l0 k a0 0) else (some false))
theorem spec_l01Scheme.mono_l : ∀ k, (∀ y0 y1, LeO (spec_l01Scheme.l0 k y0 y1) (spec_l01Scheme.l0 (k + 1) y0 y1))
  | 0 => fun _ _ r h => by simp [spec_l01Scheme.l0] at h
  | k + 1 => by
    have ih0 := spec_l01Scheme.mono_l k
    · intro y0 y1
      unfold spec_l01Scheme.l0; repeat' first | (with_reducible exact ih0 _ _) | (with_reducible first | exact LeO.refl _ | exact LeO.none _ | refine LeO.ite ?_ ?_ | refine LeO.bind ?_ (fun _ => ?_)) | exact ih0 _ _ | exact LeO.none _ | refine LeO.ite ?_ ?_ | refine LeO.bind ?_ (fun _ => ?_)
theorem spec_l01Scheme.mono : ∀ a0 k, LeO (spec_l01Scheme.f k a0) (spec_l01Scheme.f (k + 1) a0) := by
  intro a0 k; have ih0 := spec_l01Scheme.mono_l k; unfold spec_l01Scheme.f; repeat' first | (with_reducible exact ih0 _ _) | (with_reducible first | exact LeO.refl _ | exact LeO.none _ | refine LeO.ite ?_ ?_ | refine LeO.bind ?_ (fun _ => ?_)) | exact ih0 _ _ | exact LeO.none _ | refine LeO.ite ?_ ?_ | refine LeO.bind ?_ (fun _ => ?_)
set_option maxHeartbeats 8000000 in
set_option maxRecDepth 100000 in
theorem spec_l01Scheme.calls (k : Nat) (a0 : ByteArray) (r : Bool) (w : World) (h : spec_l01Scheme.f k a0 = some r) :
    Calls Tryz.prog 102 #[.string a0] w fun e w' => e = .returned (.bool r) ∧ Drawn0 w w' := by
 have H : ((spec_l01In.f (a0.size : Int) 1 12).bind fun t123 => (if t123 = true then (spec_l01Scheme.l0 k a0 0) else (some false))) = some r := h; clear h; obtain ⟨t123, A2, H⟩ := bindE_ H; by_cases c3 : t123 = true
 ·
  subst c3; replace H := ifT_ H; have H' := Aside0.mk H; clear H; go_enter Tryz.func102, Tryz.ntmps102; go_wp2_with (first | ((with_reducible refine gate_callee (f := 97) rfl ?_); refine cU_ (some 7) Tryz.func97 #[.int .i64 (a0.size : Int), .int .i64 1, .int .i64 12] ?_; (with_reducible refine (spec_l01In.calls (a0.size : Int) 1 12 true _ A2.out).mono ?_); rintro e w' ⟨rfl, ⟨nd, rfl⟩⟩; refine ⟨_, rfl, ?_⟩)); go_loopg [3] k (fun kq v3 w' => ∃ (x3_1 : Int), v3 = .int .i64 x3_1 ∧ Aside0 (spec_l01Scheme.l0 kq a0 x3_1 = some r) ∧ Aside0 (kq ≤ k) ∧ Drawn0 w w')
  case atStart => exact ⟨(0), eqE_, H', ⟨Nat.le_refl _⟩, drE_⟩
  case round =>
   clear H'; try clear c3
   obtain ⟨x3_1, rfl, HA, HK1, ⟨m1, rfl⟩⟩ := hrel; cases gk with
   | zero => exact absurd HA.out (by simp [spec_l01Scheme.l0])
   | succ k1 =>
    have H := HA.out; clear HA; simp only [spec_l01Scheme.l0] at H; by_cases c4 : x3_1 < (a0.size : Int)
    ·
     rw [if_pos c4] at H; have c4b0 : decide (x3_1 < (a0.size : Int)) = true := decide_eq_true c4; clear c4; by_cases c5 : 0 ≤ x3_1
     ·
      rw [if_pos c5] at H; have c5b0 : decide (0 ≤ x3_1) = true := decide_eq_true c5; clear c5; by_cases c7 : (bt a0 x3_1) ≥ 97
      ·
       rw [if_pos c7] at H; have c7b0 : decide (97 ≤ (bt a0 x3_1)) = true := decide_eq_true c7; clear c7; by_cases c9 : ((bt a0 x3_1) ≤ 122)
       ·
        rw [if_pos c9] at H; have c9b0 : decide ((bt a0 x3_1) ≤ 122) = true := decide_eq_true c9; clear c9; have H' := Aside0.mk H; clear H; have p6 : 0 ≤ (x3_1 : Int) := ofd_; have q6 : x3_1 < (a0.size : Int) := ofd_; have hx6 := bt_at a0 x3_1; replace p6 := eq_true p6; replace q6 := eq_true q6; have p8 : 0 ≤ (x3_1 : Int) := ofd_; have q8 : x3_1 < (a0.size : Int) := ofd_; have hx8 := bt_at a0 x3_1; replace p8 := eq_true p8; replace q8 := eq_true q8; go_wp2; go_roundg k1
        case measure => have := HK1.out; omega
        case rel => exact ⟨(wrap64 (x3_1 + 1)), eqE_, H', ⟨by have := HK1.out; omega⟩, drE_⟩
       ·
        rw [if_neg c9] at H; have c9b0 : decide ((bt a0 x3_1) ≤ 122) = false := decide_eq_false c9; clear c9; by_cases c10 : x3_1 = 0
        · rw [if_pos c10] at H; have c10b0 : (x3_1 == 0) = true := beq_iff_eq.mpr c10; have c10b1 : (x3_1 != 0) = false := bne_eq_false_iff_eq.mpr c10; clear c10; obtain rfl := Option.some.inj H; have p6 : 0 ≤ (x3_1 : Int) := ofd_; have q6 : x3_1 < (a0.size : Int) := ofd_; have hx6 := bt_at a0 x3_1; replace p6 := eq_true p6; replace q6 := eq_true q6; have p8 : 0 ≤ (x3_1 : Int) := ofd_; have q8 : x3_1 < (a0.size : Int) := ofd_; have hx8 := bt_at a0 x3_1; replace p8 := eq_true p8; replace q8 := eq_true q8; go_wp2; go_ret; exact ⟨eqE_, drE_⟩
        ·
         rw [if_neg c10] at H; have c10b0 : (x3_1 == 0) = false := beq_eq_false_iff_ne.mpr c10; have c10b1 : (x3_1 != 0) = true := bne_iff_ne.mpr c10; obtain ⟨t124, A12, H⟩ := bindE_ H; by_cases c13 : t124 = true
         ·
          subst c13; replace H := ifT_ H; have H' := Aside0.mk H; clear H; have p6 : 0 ≤ (x3_1 : Int) := ofd_; have q6 : x3_1 < (a0.size : Int) := ofd_; have hx6 := bt_at a0 x3_1; replace p6 := eq_true p6; replace q6 := eq_true q6; have p8 : 0 ≤ (x3_1 : Int) := ofd_; have q8 : x3_1 < (a0.size : Int) := ofd_; have hx8 := bt_at a0 x3_1; replace p8 := eq_true p8; replace q8 := eq_true q8; have p11 : 0 ≤ (x3_1 : Int) := ofd_; have q11 : x3_1 < (a0.size : Int) := ofd_; have hx11 := bt_at a0 x3_1; replace p11 := eq_true p11; replace q11 := eq_true q11; go_wp2_with (first | (go_at_call 136; (with_reducible refine (spec_l00Digit.calls (bt a0 x3_1) true _ A12.out).mono ?_); rintro e w' ⟨rfl, ⟨nd, rfl⟩⟩)); go_roundg k1
          case measure => have := HK1.out; omega
          case rel => exact ⟨(wrap64 (x3_1 + 1)), eqE_, H', ⟨by have := HK1.out; omega⟩, drE_⟩
         ·
          replace c13 := Bool.eq_false_iff.mpr c13; subst c13; replace H := ifF_ H; by_cases c15 : (bt a0 x3_1) = 45
          ·
           rw [if_pos c15] at H; have c15b0 : ((bt a0 x3_1) == 45) = true := beq_iff_eq.mpr c15; have c15b1 : ((bt a0 x3_1) != 45) = false := bne_eq_false_iff_eq.mpr c15; clear c15; have H' := Aside0.mk H; clear H; have p6 : 0 ≤ (x3_1 : Int) := ofd_; have q6 : x3_1 < (a0.size : Int) := ofd_; have hx6 := bt_at a0 x3_1; replace p6 := eq_true p6; replace q6 := eq_true q6; have p8 : 0 ≤ (x3_1 : Int) := ofd_; have q8 : x3_1 < (a0.size : Int) := ofd_; have hx8 := bt_at a0 x3_1; replace p8 := eq_true p8; replace q8 := eq_true q8; have p11 : 0 ≤ (x3_1 : Int) := ofd_; have q11 : x3_1 < (a0.size : Int) := ofd_; have hx11 := bt_at a0 x3_1; replace p11 := eq_true p11; replace q11 := eq_true q11; go_wp2_with (first | (go_at_call 136; (with_reducible refine (spec_l00Digit.calls (bt a0 x3_1) false _ A12.out).mono ?_); rintro e w' ⟨rfl, ⟨nd, rfl⟩⟩; have p14 : 0 ≤ (x3_1 : Int) := ofd_; have q14 : x3_1 < (a0.size : Int) := ofd_; have hx14 := bt_at a0 x3_1; replace p14 := eq_true p14; replace q14 := eq_true q14)); go_roundg k1
           case measure => have := HK1.out; omega
           case rel => exact ⟨(wrap64 (x3_1 + 1)), eqE_, H', ⟨by have := HK1.out; omega⟩, drE_⟩
          ·
           rw [if_neg c15] at H; have c15b0 : ((bt a0 x3_1) == 45) = false := beq_eq_false_iff_ne.mpr c15; have c15b1 : ((bt a0 x3_1) != 45) = true := bne_iff_ne.mpr c15; by_cases c17 : (bt a0 x3_1) = 43
           ·
            rw [if_pos c17] at H; have c17b0 : ((bt a0 x3_1) == 43) = true := beq_iff_eq.mpr c17; have c17b1 : ((bt a0 x3_1) != 43) = false := bne_eq_false_iff_eq.mpr c17; clear c17; have H' := Aside0.mk H; clear H; have p6 : 0 ≤ (x3_1 : Int) := ofd_; have q6 : x3_1 < (a0.size : Int) := ofd_; have hx6 := bt_at a0 x3_1; replace p6 := eq_true p6; replace q6 := eq_true q6; have p8 : 0 ≤ (x3_1 : Int) := ofd_; have q8 : x3_1 < (a0.size : Int) := ofd_; have hx8 := bt_at a0 x3_1; replace p8 := eq_true p8; replace q8 := eq_true q8; have p11 : 0 ≤ (x3_1 : Int) := ofd_; have q11 : x3_1 < (a0.size : Int) := ofd_; have hx11 := bt_at a0 x3_1; replace p11 := eq_true p11; replace q11 := eq_true q11; go_wp2_with (first | (go_at_call 136; (with_reducible refine (spec_l00Digit.calls (bt a0 x3_1) false _ A12.out).mono ?_); rintro e w' ⟨rfl, ⟨nd, rfl⟩⟩; have p14 : 0 ≤ (x3_1 : Int) := ofd_; have q14 : x3_1 < (a0.size : Int) := ofd_; have hx14 := bt_at a0 x3_1; replace p14 := eq_true p14; replace q14 := eq_true q14; have p16 : 0 ≤ (x3_1 : Int) := ofd_; have q16 : x3_1 < (a0.size : Int) := ofd_; have hx16 := bt_at a0 x3_1; replace p16 := eq_true p16; replace q16 := eq_true q16)); go_roundg k1
            case measure => have := HK1.out; omega
            case rel => exact ⟨(wrap64 (x3_1 + 1)), eqE_, H', ⟨by have := HK1.out; omega⟩, drE_⟩
           ·
            rw [if_neg c17] at H; have c17b0 : ((bt a0 x3_1) == 43) = false := beq_eq_false_iff_ne.mpr c17; have c17b1 : ((bt a0 x3_1) != 43) = true := bne_iff_ne.mpr c17; by_cases c19 : (bt a0 x3_1) = 46
            ·
             rw [if_pos c19] at H; have c19b0 : ((bt a0 x3_1) == 46) = true := beq_iff_eq.mpr c19; have c19b1 : ((bt a0 x3_1) != 46) = false := bne_eq_false_iff_eq.mpr c19; clear c19; have H' := Aside0.mk H; clear H; have p6 : 0 ≤ (x3_1 : Int) := ofd_; have q6 : x3_1 < (a0.size : Int) := ofd_; have hx6 := bt_at a0 x3_1; replace p6 := eq_true p6; replace q6 := eq_true q6; have p8 : 0 ≤ (x3_1 : Int) := ofd_; have q8 : x3_1 < (a0.size : Int) := ofd_; have hx8 := bt_at a0 x3_1; replace p8 := eq_true p8; replace q8 := eq_true q8; have p11 : 0 ≤ (x3_1 : Int) := ofd_; have q11 : x3_1 < (a0.size : Int) := ofd_; have hx11 := bt_at a0 x3_1; replace p11 := eq_true p11; replace q11 := eq_true q11; go_wp2_with (first | (go_at_call 136; (with_reducible refine (spec_l00Digit.calls (bt a0 x3_1) false _ A12.out).mono ?_); rintro e w' ⟨rfl, ⟨nd, rfl⟩⟩; have p14 : 0 ≤ (x3_1 : Int) := ofd_; have q14 : x3_1 < (a0.size : Int) := ofd_; have hx14 := bt_at a0 x3_1; replace p14 := eq_true p14; replace q14 := eq_true q14; have p16 : 0 ≤ (x3_1 : Int) := ofd_; have q16 : x3_1 < (a0.size : Int) := ofd_; have hx16 := bt_at a0 x3_1; replace p16 := eq_true p16; replace q16 := eq_true q16; have p18 : 0 ≤ (x3_1 : Int) := ofd_; have q18 : x3_1 < (a0.size : Int) := ofd_; have hx18 := bt_at a0 x3_1; replace p18 := eq_true p18; replace q18 := eq_true q18)); go_roundg k1
             case measure => have := HK1.out; omega
             case rel => exact ⟨(wrap64 (x3_1 + 1)), eqE_, H', ⟨by have := HK1.out; omega⟩, drE_⟩
            · rw [if_neg c19] at H; have c19b0 : ((bt a0 x3_1) == 46) = false := beq_eq_false_iff_ne.mpr c19; have c19b1 : ((bt a0 x3_1) != 46) = true := bne_iff_ne.mpr c19; obtain rfl := Option.some.inj H; have p6 : 0 ≤ (x3_1 : Int) := ofd_; have q6 : x3_1 < (a0.size : Int) := ofd_; have hx6 := bt_at a0 x3_1; replace p6 := eq_true p6; replace q6 := eq_true q6; have p8 : 0 ≤ (x3_1 : Int) := ofd_; have q8 : x3_1 < (a0.size : Int) := ofd_; have hx8 := bt_at a0 x3_1; replace p8 := eq_true p8; replace q8 := eq_true q8; have p11 : 0 ≤ (x3_1 : Int) := ofd_; have q11 : x3_1 < (a0.size : Int) := ofd_; have hx11 := bt_at a0 x3_1; replace p11 := eq_true p11; replace q11 := eq_true q11; go_wp2_with (first | (go_at_call 136; (with_reducible refine (spec_l00Digit.calls (bt a0 x3_1) false _ A12.out).mono ?_); rintro e w' ⟨rfl, ⟨nd, rfl⟩⟩; have p14 : 0 ≤ (x3_1 : Int) := ofd_; have q14 : x3_1 < (a0.size : Int) := ofd_; have hx14 := bt_at a0 x3_1; replace p14 := eq_true p14; replace q14 := eq_true q14; have p16 : 0 ≤ (x3_1 : Int) := ofd_; have q16 : x3_1 < (a0.size : Int) := ofd_; have hx16 := bt_at a0 x3_1; replace p16 := eq_true p16; replace q16 := eq_true q16; have p18 : 0 ≤ (x3_1 : Int) := ofd_; have q18 : x3_1 < (a0.size : Int) := ofd_; have hx18 := bt_at a0 x3_1; replace p18 := eq_true p18; replace q18 := eq_true q18)); go_ret; exact ⟨eqE_, drE_⟩
      ·
       rw [if_neg c7] at H; have c7b0 : decide (97 ≤ (bt a0 x3_1)) = false := decide_eq_false c7; clear c7; by_cases c20 : x3_1 = 0
       · rw [if_pos c20] at H; have c20b0 : (x3_1 == 0) = true := beq_iff_eq.mpr c20; have c20b1 : (x3_1 != 0) = false := bne_eq_false_iff_eq.mpr c20; clear c20; obtain rfl := Option.some.inj H; have p6 : 0 ≤ (x3_1 : Int) := ofd_; have q6 : x3_1 < (a0.size : Int) := ofd_; have hx6 := bt_at a0 x3_1; replace p6 := eq_true p6; replace q6 := eq_true q6; go_wp2; go_ret; exact ⟨eqE_, drE_⟩
       ·
        rw [if_neg c20] at H; have c20b0 : (x3_1 == 0) = false := beq_eq_false_iff_ne.mpr c20; have c20b1 : (x3_1 != 0) = true := bne_iff_ne.mpr c20; obtain ⟨t125, A22, H⟩ := bindE_ H; by_cases c23 : t125 = true
        ·
         subst c23; replace H := ifT_ H; have H' := Aside0.mk H; clear H; have p6 : 0 ≤ (x3_1 : Int) := ofd_; have q6 : x3_1 < (a0.size : Int) := ofd_; have hx6 := bt_at a0 x3_1; replace p6 := eq_true p6; replace q6 := eq_true q6; have p21 : 0 ≤ (x3_1 : Int) := ofd_; have q21 : x3_1 < (a0.size : Int) := ofd_; have hx21 := bt_at a0 x3_1; replace p21 := eq_true p21; replace q21 := eq_true q21; go_wp2_with (first | (go_at_call 136; (with_reducible refine (spec_l00Digit.calls (bt a0 x3_1) true _ A22.out).mono ?_); rintro e w' ⟨rfl, ⟨nd, rfl⟩⟩)); go_roundg k1
         case measure => have := HK1.out; omega
         case rel => exact ⟨(wrap64 (x3_1 + 1)), eqE_, H', ⟨by have := HK1.out; omega⟩, drE_⟩
        ·
         replace c23 := Bool.eq_false_iff.mpr c23; subst c23; replace H := ifF_ H; by_cases c25 : (bt a0 x3_1) = 45
         ·
          rw [if_pos c25] at H; have c25b0 : ((bt a0 x3_1) == 45) = true := beq_iff_eq.mpr c25; have c25b1 : ((bt a0 x3_1) != 45) = false := bne_eq_false_iff_eq.mpr c25; clear c25; have H' := Aside0.mk H; clear H; have p6 : 0 ≤ (x3_1 : Int) := ofd_; have q6 : x3_1 < (a0.size : Int) := ofd_; have hx6 := bt_at a0 x3_1; replace p6 := eq_true p6; replace q6 := eq_true q6; have p21 : 0 ≤ (x3_1 : Int) := ofd_; have q21 : x3_1 < (a0.size : Int) := ofd_; have hx21 := bt_at a0 x3_1; replace p21 := eq_true p21; replace q21 := eq_true q21; go_wp2_with (first | (go_at_call 136; (with_reducible refine (spec_l00Digit.calls (bt a0 x3_1) false _ A22.out).mono ?_); rintro e w' ⟨rfl, ⟨nd, rfl⟩⟩; have p24 : 0 ≤ (x3_1 : Int) := ofd_; have q24 : x3_1 < (a0.size : Int) := ofd_; have hx24 := bt_at a0 x3_1; replace p24 := eq_true p24; replace q24 := eq_true q24)); go_roundg k1
          case measure => have := HK1.out; omega
          case rel => exact ⟨(wrap64 (x3_1 + 1)), eqE_, H', ⟨by have := HK1.out; omega⟩, drE_⟩
         ·
          rw [if_neg c25] at H; have c25b0 : ((bt a0 x3_1) == 45) = false := beq_eq_false_iff_ne.mpr c25; have c25b1 : ((bt a0 x3_1) != 45) = true := bne_iff_ne.mpr c25; by_cases c27 : (bt a0 x3_1) = 43
          ·
           rw [if_pos c27] at H; have c27b0 : ((bt a0 x3_1) == 43) = true := beq_iff_eq.mpr c27; have c27b1 : ((bt a0 x3_1) != 43) = false := bne_eq_false_iff_eq.mpr c27; clear c27; have H' := Aside0.mk H; clear H; have p6 : 0 ≤ (x3_1 : Int) := ofd_; have q6 : x3_1 < (a0.size : Int) := ofd_; have hx6 := bt_at a0 x3_1; replace p6 := eq_true p6; replace q6 := eq_true q6; have p21 : 0 ≤ (x3_1 : Int) := ofd_; have q21 : x3_1 < (a0.size : Int) := ofd_; have hx21 := bt_at a0 x3_1; replace p21 := eq_true p21; replace q21 := eq_true q21; go_wp2_with (first | (go_at_call 136; (with_reducible refine (spec_l00Digit.calls (bt a0 x3_1) false _ A22.out).mono ?_); rintro e w' ⟨rfl, ⟨nd, rfl⟩⟩; have p24 : 0 ≤ (x3_1 : Int) := ofd_; have q24 : x3_1 < (a0.size : Int) := ofd_; have hx24 := bt_at a0 x3_1; replace p24 := eq_true p24; replace q24 := eq_true q24; have p26 : 0 ≤ (x3_1 : Int) := ofd_; have q26 : x3_1 < (a0.size : Int) := ofd_; have hx26 := bt_at a0 x3_1; replace p26 := eq_true p26; replace q26 := eq_true q26)); go_roundg k1
           case measure => have := HK1.out; omega
           case rel => exact ⟨(wrap64 (x3_1 + 1)), eqE_, H', ⟨by have := HK1.out; omega⟩, drE_⟩
          ·
           rw [if_neg c27] at H; have c27b0 : ((bt a0 x3_1) == 43) = false := beq_eq_false_iff_ne.mpr c27; have c27b1 : ((bt a0 x3_1) != 43) = true := bne_iff_ne.mpr c27; by_cases c29 : (bt a0 x3_1) = 46
           ·
            rw [if_pos c29] at H; have c29b0 : ((bt a0 x3_1) == 46) = true := beq_iff_eq.mpr c29; have c29b1 : ((bt a0 x3_1) != 46) = false := bne_eq_false_iff_eq.mpr c29; clear c29; have H' := Aside0.mk H; clear H; have p6 : 0 ≤ (x3_1 : Int) := ofd_; have q6 : x3_1 < (a0.size : Int) := ofd_; have hx6 := bt_at a0 x3_1; replace p6 := eq_true p6; replace q6 := eq_true q6; have p21 : 0 ≤ (x3_1 : Int) := ofd_; have q21 : x3_1 < (a0.size : Int) := ofd_; have hx21 := bt_at a0 x3_1; replace p21 := eq_true p21; replace q21 := eq_true q21; go_wp2_with (first | (go_at_call 136; (with_reducible refine (spec_l00Digit.calls (bt a0 x3_1) false _ A22.out).mono ?_); rintro e w' ⟨rfl, ⟨nd, rfl⟩⟩; have p24 : 0 ≤ (x3_1 : Int) := ofd_; have q24 : x3_1 < (a0.size : Int) := ofd_; have hx24 := bt_at a0 x3_1; replace p24 := eq_true p24; replace q24 := eq_true q24; have p26 : 0 ≤ (x3_1 : Int) := ofd_; have q26 : x3_1 < (a0.size : Int) := ofd_; have hx26 := bt_at a0 x3_1; replace p26 := eq_true p26; replace q26 := eq_true q26; have p28 : 0 ≤ (x3_1 : Int) := ofd_; have q28 : x3_1 < (a0.size : Int) := ofd_; have hx28 := bt_at a0 x3_1; replace p28 := eq_true p28; replace q28 := eq_true q28)); go_roundg k1
            case measure => have := HK1.out; omega
            case rel => exact ⟨(wrap64 (x3_1 + 1)), eqE_, H', ⟨by have := HK1.out; omega⟩, drE_⟩
           · rw [if_neg c29] at H; have c29b0 : ((bt a0 x3_1) == 46) = false := beq_eq_false_iff_ne.mpr c29; have c29b1 : ((bt a0 x3_1) != 46) = true := bne_iff_ne.mpr c29; obtain rfl := Option.some.inj H; have p6 : 0 ≤ (x3_1 : Int) := ofd_; have q6 : x3_1 < (a0.size : Int) := ofd_; have hx6 := bt_at a0 x3_1; replace p6 := eq_true p6; replace q6 := eq_true q6; have p21 : 0 ≤ (x3_1 : Int) := ofd_; have q21 : x3_1 < (a0.size : Int) := ofd_; have hx21 := bt_at a0 x3_1; replace p21 := eq_true p21; replace q21 := eq_true q21; go_wp2_with (first | (go_at_call 136; (with_reducible refine (spec_l00Digit.calls (bt a0 x3_1) false _ A22.out).mono ?_); rintro e w' ⟨rfl, ⟨nd, rfl⟩⟩; have p24 : 0 ≤ (x3_1 : Int) := ofd_; have q24 : x3_1 < (a0.size : Int) := ofd_; have hx24 := bt_at a0 x3_1; replace p24 := eq_true p24; replace q24 := eq_true q24; have p26 : 0 ≤ (x3_1 : Int) := ofd_; have q26 : x3_1 < (a0.size : Int) := ofd_; have hx26 := bt_at a0 x3_1; replace p26 := eq_true p26; replace q26 := eq_true q26; have p28 : 0 ≤ (x3_1 : Int) := ofd_; have q28 : x3_1 < (a0.size : Int) := ofd_; have hx28 := bt_at a0 x3_1; replace p28 := eq_true p28; replace q28 := eq_true q28)); go_ret; exact ⟨eqE_, drE_⟩
     · rw [if_neg c5] at H; exact absurd H (by simp)
    · rw [if_neg c4] at H; have c4b0 : decide (x3_1 < (a0.size : Int)) = false := decide_eq_false c4; clear c4; obtain rfl := Option.some.inj H; go_wp2; go_ret; exact ⟨eqE_, drE_⟩
 · replace c3 := Bool.eq_false_iff.mpr c3; subst c3; replace H := ifF_ H; obtain rfl := Option.some.inj H; go_enter Tryz.func102, Tryz.ntmps102; go_wp2_with (first | ((with_reducible refine gate_callee (f := 97) rfl ?_); refine cU_ (some 7) Tryz.func97 #[.int .i64 (a0.size : Int), .int .i64 1, .int .i64 12] ?_; (with_reducible refine (spec_l01In.calls (a0.size : Int) 1 12 false _ A2.out).mono ?_); rintro e w' ⟨rfl, ⟨nd, rfl⟩⟩; refine ⟨_, rfl, ?_⟩)); go_ret; exact ⟨eqE_, drE_⟩

/-! ### spec_l01Find: function 122 -/
def spec_l01Find.l0 : Nat → ByteArray → Int → Int → Option (Int)
  | 0, _, _, _ => none
  | k + 1, x0, x1, x5 => if x5 < (x0.size : Int) then (if 0 ≤ x5 then (if (bt x0 x5) = x1 then (some x5) else (spec_l01Find.l0 k x0 x1 (wrap64 (x5 + 1)))) else (none)) else (some (x0.size : Int))
def spec_l01Find.f (k : Nat) (a0 : ByteArray) (a1 : Int) : Option (Int) := spec_l01Find.l0 k a0 a1 0
theorem spec_l01Find.mono_l : ∀ k, (∀ y0 y1 y2, LeO (spec_l01Find.l0 k y0 y1 y2) (spec_l01Find.l0 (k + 1) y0 y1 y2))
  | 0 => fun _ _ _ r h => by simp [spec_l01Find.l0] at h
  | k + 1 => by
    have ih0 := spec_l01Find.mono_l k
    · intro y0 y1 y2
      unfold spec_l01Find.l0; repeat' first | (with_reducible exact ih0 _ _ _) | (with_reducible first | exact LeO.refl _ | exact LeO.none _ | refine LeO.ite ?_ ?_ | refine LeO.bind ?_ (fun _ => ?_)) | exact ih0 _ _ _ | exact LeO.none _ | refine LeO.ite ?_ ?_ | refine LeO.bind ?_ (fun _ => ?_)
theorem spec_l01Find.mono : ∀ a0 a1 k, LeO (spec_l01Find.f k a0 a1) (spec_l01Find.f (k + 1) a0 a1) := by
  intro a0 a1 k; have ih0 := spec_l01Find.mono_l k; unfold spec_l01Find.f; repeat' first | (with_reducible exact ih0 _ _ _) | (with_reducible first | exact LeO.refl _ | exact LeO.none _ | refine LeO.ite ?_ ?_ | refine LeO.bind ?_ (fun _ => ?_)) | exact ih0 _ _ _ | exact LeO.none _ | refine LeO.ite ?_ ?_ | refine LeO.bind ?_ (fun _ => ?_)
set_option maxHeartbeats 8000000 in
set_option maxRecDepth 100000 in
theorem spec_l01Find.calls (k : Nat) (a0 : ByteArray) (a1 : Int) (r : Int) (w : World) (h : spec_l01Find.f k a0 a1 = some r) :
    Calls Tryz.prog 122 #[.string a0, .int .u8 a1] w fun e w' => e = .returned (.int .i64 r) ∧ Drawn0 w w' := by
 have H : (spec_l01Find.l0 k a0 a1 0) = some r := h; clear h; have H' := Aside0.mk H; clear H; go_enter Tryz.func122, Tryz.ntmps122; go_wp2; go_loopg [5] k (fun kq v5 w' => ∃ (x5_1 : Int), v5 = .int .i64 x5_1 ∧ Aside0 (spec_l01Find.l0 kq a0 a1 x5_1 = some r) ∧ Aside0 (kq ≤ k) ∧ Drawn0 w w')
 case atStart => exact ⟨(0), eqE_, H', ⟨Nat.le_refl _⟩, drE_⟩
 case round =>
  clear H'; obtain ⟨x5_1, rfl, HA, HK1, ⟨m1, rfl⟩⟩ := hrel; cases gk with
  | zero => exact absurd HA.out (by simp [spec_l01Find.l0])
  | succ k1 =>
   have H := HA.out; clear HA; simp only [spec_l01Find.l0] at H; by_cases c3 : x5_1 < (a0.size : Int)
   ·
    rw [if_pos c3] at H; have c3b0 : decide (x5_1 < (a0.size : Int)) = true := decide_eq_true c3; clear c3; by_cases c4 : 0 ≤ x5_1
    ·
     rw [if_pos c4] at H; have c4b0 : decide (0 ≤ x5_1) = true := decide_eq_true c4; clear c4; by_cases c6 : (bt a0 x5_1) = a1
     · rw [if_pos c6] at H; have c6b0 : ((bt a0 x5_1) == a1) = true := beq_iff_eq.mpr c6; have c6b1 : ((bt a0 x5_1) != a1) = false := bne_eq_false_iff_eq.mpr c6; clear c6; obtain rfl := Option.some.inj H; have p5 : 0 ≤ (x5_1 : Int) := ofd_; have q5 : x5_1 < (a0.size : Int) := ofd_; have hx5 := bt_at a0 x5_1; replace p5 := eq_true p5; replace q5 := eq_true q5; go_wp2; go_ret; exact ⟨eqE_, drE_⟩
     ·
      rw [if_neg c6] at H; have c6b0 : ((bt a0 x5_1) == a1) = false := beq_eq_false_iff_ne.mpr c6; have c6b1 : ((bt a0 x5_1) != a1) = true := bne_iff_ne.mpr c6; have H' := Aside0.mk H; clear H; have p5 : 0 ≤ (x5_1 : Int) := ofd_; have q5 : x5_1 < (a0.size : Int) := ofd_; have hx5 := bt_at a0 x5_1; replace p5 := eq_true p5; replace q5 := eq_true q5; go_wp2; go_roundg k1
      case measure => have := HK1.out; omega
      case rel => exact ⟨(wrap64 (x5_1 + 1)), eqE_, H', ⟨by have := HK1.out; omega⟩, drE_⟩
    · rw [if_neg c4] at H; exact absurd H (by simp)
   · rw [if_neg c3] at H; have c3b0 : decide (x5_1 < (a0.size : Int)) = false := decide_eq_false c3; clear c3; obtain rfl := Option.some.inj H; go_wp2; go_ret; exact ⟨eqE_, drE_⟩

/-! ### spec_l01Only: function 103 -/
def spec_l01Only.l0 : Nat → ByteArray → ByteArray → Int → Option (Bool)
  | 0, _, _, _ => none
  | k + 1, x0, x1, x5 => if x5 < (x0.size : Int) then (if 0 ≤ x5 then (if (bt x0 x5) < 33 then (some false) else (if (bt x0 x5) > 126 then (some false) else ((spec_l01Find.f k x1 (bt x0 x5)).bind fun t126 => (if t126 < (x1.size : Int) then (some false) else (spec_l01Only.l0 k x0 x1 (wrap64 (x5 + 1))))))) else (none)) else (some true)
def spec_l01Only.f (k : Nat) (a0 : ByteArray) (a1 : ByteArray) : Option (Bool) := spec_l01Only.l0 k a0 a1 0
theorem spec_l01Only.mono_l : ∀ k, (∀ y0 y1 y2, LeO (spec_l01Only.l0 k y0 y1 y2) (spec_l01Only.l0 (k + 1) y0 y1 y2))
  | 0 => fun _ _ _ r h => by simp [spec_l01Only.l0] at h
  | k + 1 => by
    have ih0 := spec_l01Only.mono_l k
    · intro y0 y1 y2
      unfold spec_l01Only.l0; repeat' first | (with_reducible exact ih0 _ _ _) | (with_reducible exact spec_l01Find.mono _ _ _) | (with_reducible first | exact LeO.refl _ | exact LeO.none _ | refine LeO.ite ?_ ?_ | refine LeO.bind ?_ (fun _ => ?_)) | exact ih0 _ _ _ | exact spec_l01Find.mono _ _ _ | exact LeO.none _ | refine LeO.ite ?_ ?_ | refine LeO.bind ?_ (fun _ => ?_)
theorem spec_l01Only.mono : ∀ a0 a1 k, LeO (spec_l01Only.f k a0 a1) (spec_l01Only.f (k + 1) a0 a1) := by
  intro a0 a1 k; have ih0 := spec_l01Only.mono_l k; unfold spec_l01Only.f; repeat' first | (with_reducible exact ih0 _ _ _) | (with_reducible exact spec_l01Find.mono _ _ _) | (with_reducible first | exact LeO.refl _ | exact LeO.none _ | refine LeO.ite ?_ ?_ | refine LeO.bind ?_ (fun _ => ?_)) | exact ih0 _ _ _ | exact spec_l01Find.mono _ _ _ | exact LeO.none _ | refine LeO.ite ?_ ?_ | refine LeO.bind ?_ (fun _ => ?_)
set_option maxHeartbeats 8000000 in
set_option maxRecDepth 100000 in
theorem spec_l01Only.calls (k : Nat) (a0 : ByteArray) (a1 : ByteArray) (r : Bool) (w : World) (h : spec_l01Only.f k a0 a1 = some r) :
    Calls Tryz.prog 103 #[.string a0, .string a1] w fun e w' => e = .returned (.bool r) ∧ Drawn0 w w' := by
 have H : (spec_l01Only.l0 k a0 a1 0) = some r := h; clear h; have H' := Aside0.mk H; clear H; go_enter Tryz.func103, Tryz.ntmps103; go_wp2; go_loopg [5] k (fun kq v5 w' => ∃ (x5_1 : Int), v5 = .int .i64 x5_1 ∧ Aside0 (spec_l01Only.l0 kq a0 a1 x5_1 = some r) ∧ Aside0 (kq ≤ k) ∧ Drawn0 w w')
 case atStart => exact ⟨(0), eqE_, H', ⟨Nat.le_refl _⟩, drE_⟩
 case round =>
  clear H'; obtain ⟨x5_1, rfl, HA, HK1, ⟨m1, rfl⟩⟩ := hrel; cases gk with
  | zero => exact absurd HA.out (by simp [spec_l01Only.l0])
  | succ k1 =>
   have H := HA.out; clear HA; simp only [spec_l01Only.l0] at H; by_cases c3 : x5_1 < (a0.size : Int)
   ·
    rw [if_pos c3] at H; have c3b0 : decide (x5_1 < (a0.size : Int)) = true := decide_eq_true c3; clear c3; by_cases c4 : 0 ≤ x5_1
    ·
     rw [if_pos c4] at H; have c4b0 : decide (0 ≤ x5_1) = true := decide_eq_true c4; clear c4; by_cases c6 : (bt a0 x5_1) < 33
     · rw [if_pos c6] at H; have c6b0 : decide ((bt a0 x5_1) < 33) = true := decide_eq_true c6; clear c6; obtain rfl := Option.some.inj H; have p5 : 0 ≤ (x5_1 : Int) := ofd_; have q5 : x5_1 < (a0.size : Int) := ofd_; have hx5 := bt_at a0 x5_1; replace p5 := eq_true p5; replace q5 := eq_true q5; go_wp2; go_ret; exact ⟨eqE_, drE_⟩
     ·
      rw [if_neg c6] at H; have c6b0 : decide ((bt a0 x5_1) < 33) = false := decide_eq_false c6; clear c6; by_cases c8 : (bt a0 x5_1) > 126
      · rw [if_pos c8] at H; have c8b0 : decide (126 < (bt a0 x5_1)) = true := decide_eq_true c8; clear c8; obtain rfl := Option.some.inj H; have p5 : 0 ≤ (x5_1 : Int) := ofd_; have q5 : x5_1 < (a0.size : Int) := ofd_; have hx5 := bt_at a0 x5_1; replace p5 := eq_true p5; replace q5 := eq_true q5; have p7 : 0 ≤ (x5_1 : Int) := ofd_; have q7 : x5_1 < (a0.size : Int) := ofd_; have hx7 := bt_at a0 x5_1; replace p7 := eq_true p7; replace q7 := eq_true q7; go_wp2; go_ret; exact ⟨eqE_, drE_⟩
      ·
       rw [if_neg c8] at H; have c8b0 : decide (126 < (bt a0 x5_1)) = false := decide_eq_false c8; clear c8; obtain ⟨t126, A10, H⟩ := bindE_ H; by_cases c11 : t126 < (a1.size : Int)
       · rw [if_pos c11] at H; have c11b0 : decide (t126 < (a1.size : Int)) = true := decide_eq_true c11; clear c11; obtain rfl := Option.some.inj H; have p5 : 0 ≤ (x5_1 : Int) := ofd_; have q5 : x5_1 < (a0.size : Int) := ofd_; have hx5 := bt_at a0 x5_1; replace p5 := eq_true p5; replace q5 := eq_true q5; have p7 : 0 ≤ (x5_1 : Int) := ofd_; have q7 : x5_1 < (a0.size : Int) := ofd_; have hx7 := bt_at a0 x5_1; replace p7 := eq_true p7; replace q7 := eq_true q7; have p9 : 0 ≤ (x5_1 : Int) := ofd_; have q9 : x5_1 < (a0.size : Int) := ofd_; have hx9 := bt_at a0 x5_1; replace p9 := eq_true p9; replace q9 := eq_true q9; go_wp2_with (first | (go_at_call 122; (with_reducible refine (spec_l01Find.calls k1 a1 (bt a0 x5_1) t126 _ A10.out).mono ?_); rintro e w' ⟨rfl, ⟨nd, rfl⟩⟩)); go_ret; exact ⟨eqE_, drE_⟩
       ·
        rw [if_neg c11] at H; have c11b0 : decide (t126 < (a1.size : Int)) = false := decide_eq_false c11; clear c11; have H' := Aside0.mk H; clear H; have p5 : 0 ≤ (x5_1 : Int) := ofd_; have q5 : x5_1 < (a0.size : Int) := ofd_; have hx5 := bt_at a0 x5_1; replace p5 := eq_true p5; replace q5 := eq_true q5; have p7 : 0 ≤ (x5_1 : Int) := ofd_; have q7 : x5_1 < (a0.size : Int) := ofd_; have hx7 := bt_at a0 x5_1; replace p7 := eq_true p7; replace q7 := eq_true q7; have p9 : 0 ≤ (x5_1 : Int) := ofd_; have q9 : x5_1 < (a0.size : Int) := ofd_; have hx9 := bt_at a0 x5_1; replace p9 := eq_true p9; replace q9 := eq_true q9; go_wp2_with (first | (go_at_call 122; (with_reducible refine (spec_l01Find.calls k1 a1 (bt a0 x5_1) t126 _ A10.out).mono ?_); rintro e w' ⟨rfl, ⟨nd, rfl⟩⟩)); go_roundg k1
        case measure => have := HK1.out; omega
        case rel => exact ⟨(wrap64 (x5_1 + 1)), eqE_, H', ⟨by have := HK1.out; omega⟩, drE_⟩
    · rw [if_neg c4] at H; exact absurd H (by simp)
   · rw [if_neg c3] at H; have c3b0 : decide (x5_1 < (a0.size : Int)) = false := decide_eq_false c3; clear c3; obtain rfl := Option.some.inj H; go_wp2; go_ret; exact ⟨eqE_, drE_⟩

end Go.Proofs.YthifpohbdbhnlaaGreatDoor.QFnStp
