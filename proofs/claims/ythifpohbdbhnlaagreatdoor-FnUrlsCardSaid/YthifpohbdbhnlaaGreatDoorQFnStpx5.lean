/- A tool of this session wrote this text out of the translation: functions as plain Lean, and proofs that the machine's calls come to their answers. -/
import Derived.Test.YthifpohbdbhnlaaGreatDoorQShort
import Derived.Test.YthifpohbdbhnlaaGreatDoorQFnStpx0
import Derived.Test.YthifpohbdbhnlaaGreatDoorQFnStpx3
namespace Go.Proofs.YthifpohbdbhnlaaGreatDoor.QFnStp
open Go.RowKit Go.Proofs.YthifpohbdbhnlaaGreatDoorW.PrintWords Go.Proofs.YthifpohbdbhnlaaGreatDoorW.PrintLast Go.Proofs.YthifpohbdbhnlaaGreatDoorW.PrintMore
open Go.Proofs.YthifpohbdbhnlaaGreatDoor.Short
attribute [local go_sem] max2_int min2_int max_two min_two max_three min_three max_four min_four   -- for this text's walks alone
set_option linter.unusedVariables false
set_option linter.unusedSimpArgs false

/-! ### spec_l01Host: function 104 -/
def spec_l01Host.l0 : Nat → ByteArray → Bool → Int → Option (Bool)
  | 0, _, _, _ => none
  | k + 1, x0, x3, x4 => if x4 < (x0.size : Int) then (if 0 ≤ x4 then (if (bt x0 x4) ≥ 97 then (if (bt x0 x4) ≤ 122 then (spec_l01Host.l0 k x0 (!true) (wrap64 (x4 + 1))) else ((spec_l00Digit.f (bt x0 x4)).bind fun t127 => (if t127 = true then (spec_l01Host.l0 k x0 (!t127) (wrap64 (x4 + 1))) else (if x3 = true then (some false) else (if (bt x0 x4) = 45 then (spec_l01Host.l0 k x0 (!t127) (wrap64 (x4 + 1))) else (if (bt x0 x4) = 46 then (spec_l01Host.l0 k x0 (!t127) (wrap64 (x4 + 1))) else (some false))))))) else ((spec_l00Digit.f (bt x0 x4)).bind fun t128 => (if t128 = true then (spec_l01Host.l0 k x0 (!t128) (wrap64 (x4 + 1))) else (if x3 = true then (some false) else (if (bt x0 x4) = 45 then (spec_l01Host.l0 k x0 (!t128) (wrap64 (x4 + 1))) else (if (bt x0 x4) = 46 then (spec_l01Host.l0 k x0 (!t128) (wrap64 (x4 + 1))) else (some false))))))) else (none)) else (some (!x3))
def spec_l01Host.f (k : Nat) (a0 : ByteArray) : Option (Bool) := spec_l01Host.l0 k a0 true 0
theorem spec_l01Host.mono_l : ∀ k, (∀ y0 y1 y2, LeO (spec_l01Host.l0 k y0 y1 y2) (spec_l01Host.l0 (k + 1) y0 y1 y2))
  | 0 => fun _ _ _ r h => by simp [spec_l01Host.l0] at h
  | k + 1 => by
    have ih0 := spec_l01Host.mono_l k
    · intro y0 y1 y2
      unfold spec_l01Host.l0; repeat' first | (with_reducible exact ih0 _ _ _) | (with_reducible first | exact LeO.refl _ | exact LeO.none _ | refine LeO.ite ?_ ?_ | refine LeO.bind ?_ (fun _ => ?_)) | exact ih0 _ _ _ | exact LeO.none _ | refine LeO.ite ?_ ?_ | refine LeO.bind ?_ (fun _ => ?_)
theorem spec_l01Host.mono : ∀ a0 k, LeO (spec_l01Host.f k a0) (spec_l01Host.f (k + 1) a0) := by
  intro a0 k; have ih0 := spec_l01Host.mono_l k; unfold spec_l01Host.f; repeat' first | (with_reducible exact ih0 _ _ _) | (with_reducible first | exact LeO.refl _ | exact LeO.none _ | refine LeO.ite ?_ ?_ | refine LeO.bind ?_ (fun _ => ?_)) | exact ih0 _ _ _ | exact LeO.none _ | refine LeO.ite ?_ ?_ | refine LeO.bind ?_ (fun _ => ?_)
set_option maxHeartbeats 8000000 in
set_option maxRecDepth 100000 in
theorem spec_l01Host.calls (k : Nat) (a0 : ByteArray) (r : Bool) (w : World) (h : spec_l01Host.f k a0 = some r) :
    Calls Tryz.prog 104 #[.string a0] w fun e w' => e = .returned (.bool r) ∧ Drawn0 w w' := by
 have H : (spec_l01Host.l0 k a0 true 0) = some r := h; clear h; have H' := Aside0.mk H; clear H; go_enter Tryz.func104, Tryz.ntmps104; go_wp2; go_loopg [3, 4] k (fun kq v3 v4 w' => ∃ (s : Bool) (a : Int), v3 = .bool s ∧ v4 = .int .i64 a ∧ Aside0 (spec_l01Host.l0 kq a0 s a = some r) ∧ Aside0 (kq ≤ k) ∧ Drawn0 w w')
 case atStart => exact ⟨(true), (0), eqE_, eqE_, H', ⟨Nat.le_refl _⟩, drE_⟩
 case round =>
  clear H'; obtain ⟨s, a, rfl, rfl, HA, b, ⟨m1, rfl⟩⟩ := hrel; cases gk with
  | zero => exact absurd HA.out (by simp [spec_l01Host.l0])
  | succ k1 =>
   have H := HA.out; clear HA; simp only [spec_l01Host.l0] at H; by_cases c2 : a < (a0.size : Int)
   ·
    rw [if_pos c2] at H; have R : decide (a < (a0.size : Int)) = true := decide_eq_true c2; clear c2; by_cases c3 : 0 ≤ a
    ·
     rw [if_pos c3] at H; have Y : decide (0 ≤ a) = true := decide_eq_true c3; clear c3; by_cases c5 : (bt a0 a) ≥ 97
     ·
      rw [if_pos c5] at H; have S : decide (97 ≤ (bt a0 a)) = true := decide_eq_true c5; clear c5; by_cases c7 : (bt a0 a) ≤ 122
      ·
       rw [if_pos c7] at H; have T : decide ((bt a0 a) ≤ 122) = true := decide_eq_true c7; clear c7; have H' := Aside0.mk H; clear H; have p4 : 0 ≤ (a : Int) := ofd_; have q4 : a < (a0.size : Int) := ofd_; have g := bt_at a0 a; replace p4 := eq_true p4; replace q4 := eq_true q4; have p6 : 0 ≤ (a : Int) := ofd_; have q6 : a < (a0.size : Int) := ofd_; have t := bt_at a0 a; replace p6 := eq_true p6; replace q6 := eq_true q6; go_wp2; go_roundg k1
       case measure => have := b.out; omega
       case rel => exact ⟨(!true), (wrap64 (a + 1)), eqE_, eqE_, H', ⟨by have := b.out; omega⟩, drE_⟩
      ·
       rw [if_neg c7] at H; have T : decide ((bt a0 a) ≤ 122) = false := decide_eq_false c7; clear c7; obtain ⟨U, A9, H⟩ := bindE_ H; by_cases B : U = true
       ·
        subst B; replace H := ifT_ H; have H' := Aside0.mk H; clear H; have p4 : 0 ≤ (a : Int) := ofd_; have q4 : a < (a0.size : Int) := ofd_; have g := bt_at a0 a; replace p4 := eq_true p4; replace q4 := eq_true q4; have p6 : 0 ≤ (a : Int) := ofd_; have q6 : a < (a0.size : Int) := ofd_; have t := bt_at a0 a; replace p6 := eq_true p6; replace q6 := eq_true q6; have p8 : 0 ≤ (a : Int) := ofd_; have q8 : a < (a0.size : Int) := ofd_; have C := bt_at a0 a; replace p8 := eq_true p8; replace q8 := eq_true q8; go_wp2_with (first | (go_at_call 136; (with_reducible refine (spec_l00Digit.calls (bt a0 a) true _ A9.out).mono ?_); rintro e w' ⟨rfl, ⟨nd, rfl⟩⟩)); go_roundg k1
        case measure => have := b.out; omega
        case rel => exact ⟨(!true), (wrap64 (a + 1)), eqE_, eqE_, H', ⟨by have := b.out; omega⟩, drE_⟩
       ·
        replace B := Bool.eq_false_iff.mpr B; subst B; replace H := ifF_ H; by_cases D : s = true
        · subst D; replace H := ifT_ H; obtain rfl := Option.some.inj H; have p4 : 0 ≤ (a : Int) := ofd_; have q4 : a < (a0.size : Int) := ofd_; have g := bt_at a0 a; replace p4 := eq_true p4; replace q4 := eq_true q4; have p6 : 0 ≤ (a : Int) := ofd_; have q6 : a < (a0.size : Int) := ofd_; have t := bt_at a0 a; replace p6 := eq_true p6; replace q6 := eq_true q6; have p8 : 0 ≤ (a : Int) := ofd_; have q8 : a < (a0.size : Int) := ofd_; have C := bt_at a0 a; replace p8 := eq_true p8; replace q8 := eq_true q8; go_wp2_with (first | (go_at_call 136; (with_reducible refine (spec_l00Digit.calls (bt a0 a) false _ A9.out).mono ?_); rintro e w' ⟨rfl, ⟨nd, rfl⟩⟩)); go_ret; exact ⟨eqE_, drE_⟩
        ·
         replace D := Bool.eq_false_iff.mpr D; subst D; replace H := ifF_ H; by_cases n : (bt a0 a) = 45
         ·
          rw [if_pos n] at H; have J : ((bt a0 a) == 45) = true := beq_iff_eq.mpr n; have K : ((bt a0 a) != 45) = false := bne_eq_false_iff_eq.mpr n; clear n; have H' := Aside0.mk H; clear H; have p4 : 0 ≤ (a : Int) := ofd_; have q4 : a < (a0.size : Int) := ofd_; have g := bt_at a0 a; replace p4 := eq_true p4; replace q4 := eq_true q4; have p6 : 0 ≤ (a : Int) := ofd_; have q6 : a < (a0.size : Int) := ofd_; have t := bt_at a0 a; replace p6 := eq_true p6; replace q6 := eq_true q6; have p8 : 0 ≤ (a : Int) := ofd_; have q8 : a < (a0.size : Int) := ofd_; have C := bt_at a0 a; replace p8 := eq_true p8; replace q8 := eq_true q8; go_wp2_with (first | (go_at_call 136; (with_reducible refine (spec_l00Digit.calls (bt a0 a) false _ A9.out).mono ?_); rintro e w' ⟨rfl, ⟨nd, rfl⟩⟩; have i : 0 ≤ (a : Int) := ofd_; have j : a < (a0.size : Int) := ofd_; have G := bt_at a0 a; replace i := eq_true i; replace j := eq_true j)); go_roundg k1
          case measure => have := b.out; omega
          case rel => exact ⟨(!false), (wrap64 (a + 1)), eqE_, eqE_, H', ⟨by have := b.out; omega⟩, drE_⟩
         ·
          rw [if_neg n] at H; have J : ((bt a0 a) == 45) = false := beq_eq_false_iff_ne.mpr n; have K : ((bt a0 a) != 45) = true := bne_iff_ne.mpr n; by_cases o : (bt a0 a) = 46
          ·
           rw [if_pos o] at H; have L : ((bt a0 a) == 46) = true := beq_iff_eq.mpr o; have M : ((bt a0 a) != 46) = false := bne_eq_false_iff_eq.mpr o; clear o; have H' := Aside0.mk H; clear H; have p4 : 0 ≤ (a : Int) := ofd_; have q4 : a < (a0.size : Int) := ofd_; have g := bt_at a0 a; replace p4 := eq_true p4; replace q4 := eq_true q4; have p6 : 0 ≤ (a : Int) := ofd_; have q6 : a < (a0.size : Int) := ofd_; have t := bt_at a0 a; replace p6 := eq_true p6; replace q6 := eq_true q6; have p8 : 0 ≤ (a : Int) := ofd_; have q8 : a < (a0.size : Int) := ofd_; have C := bt_at a0 a; replace p8 := eq_true p8; replace q8 := eq_true q8; go_wp2_with (first | (go_at_call 136; (with_reducible refine (spec_l00Digit.calls (bt a0 a) false _ A9.out).mono ?_); rintro e w' ⟨rfl, ⟨nd, rfl⟩⟩; have i : 0 ≤ (a : Int) := ofd_; have j : a < (a0.size : Int) := ofd_; have G := bt_at a0 a; replace i := eq_true i; replace j := eq_true j; have u : 0 ≤ (a : Int) := ofd_; have v : a < (a0.size : Int) := ofd_; have V := bt_at a0 a; replace u := eq_true u; replace v := eq_true v)); go_roundg k1
           case measure => have := b.out; omega
           case rel => exact ⟨(!false), (wrap64 (a + 1)), eqE_, eqE_, H', ⟨by have := b.out; omega⟩, drE_⟩
          · rw [if_neg o] at H; have L : ((bt a0 a) == 46) = false := beq_eq_false_iff_ne.mpr o; have M : ((bt a0 a) != 46) = true := bne_iff_ne.mpr o; obtain rfl := Option.some.inj H; have p4 : 0 ≤ (a : Int) := ofd_; have q4 : a < (a0.size : Int) := ofd_; have g := bt_at a0 a; replace p4 := eq_true p4; replace q4 := eq_true q4; have p6 : 0 ≤ (a : Int) := ofd_; have q6 : a < (a0.size : Int) := ofd_; have t := bt_at a0 a; replace p6 := eq_true p6; replace q6 := eq_true q6; have p8 : 0 ≤ (a : Int) := ofd_; have q8 : a < (a0.size : Int) := ofd_; have C := bt_at a0 a; replace p8 := eq_true p8; replace q8 := eq_true q8; go_wp2_with (first | (go_at_call 136; (with_reducible refine (spec_l00Digit.calls (bt a0 a) false _ A9.out).mono ?_); rintro e w' ⟨rfl, ⟨nd, rfl⟩⟩; have i : 0 ≤ (a : Int) := ofd_; have j : a < (a0.size : Int) := ofd_; have G := bt_at a0 a; replace i := eq_true i; replace j := eq_true j; have u : 0 ≤ (a : Int) := ofd_; have v : a < (a0.size : Int) := ofd_; have V := bt_at a0 a; replace u := eq_true u; replace v := eq_true v)); go_ret; exact ⟨eqE_, drE_⟩
     ·
      rw [if_neg c5] at H; have S : decide (97 ≤ (bt a0 a)) = false := decide_eq_false c5; clear c5; obtain ⟨W, x, H⟩ := bindE_ H; by_cases E : W = true
      ·
       subst E; replace H := ifT_ H; have H' := Aside0.mk H; clear H; have p4 : 0 ≤ (a : Int) := ofd_; have q4 : a < (a0.size : Int) := ofd_; have g := bt_at a0 a; replace p4 := eq_true p4; replace q4 := eq_true q4; have c : 0 ≤ (a : Int) := ofd_; have d : a < (a0.size : Int) := ofd_; have A := bt_at a0 a; replace c := eq_true c; replace d := eq_true d; go_wp2_with (first | (go_at_call 136; (with_reducible refine (spec_l00Digit.calls (bt a0 a) true _ x.out).mono ?_); rintro e w' ⟨rfl, ⟨nd, rfl⟩⟩)); go_roundg k1
       case measure => have := b.out; omega
       case rel => exact ⟨(!true), (wrap64 (a + 1)), eqE_, eqE_, H', ⟨by have := b.out; omega⟩, drE_⟩
      ·
       replace E := Bool.eq_false_iff.mpr E; subst E; replace H := ifF_ H; by_cases F : s = true
       · subst F; replace H := ifT_ H; obtain rfl := Option.some.inj H; have p4 : 0 ≤ (a : Int) := ofd_; have q4 : a < (a0.size : Int) := ofd_; have g := bt_at a0 a; replace p4 := eq_true p4; replace q4 := eq_true q4; have c : 0 ≤ (a : Int) := ofd_; have d : a < (a0.size : Int) := ofd_; have A := bt_at a0 a; replace c := eq_true c; replace d := eq_true d; go_wp2_with (first | (go_at_call 136; (with_reducible refine (spec_l00Digit.calls (bt a0 a) false _ x.out).mono ?_); rintro e w' ⟨rfl, ⟨nd, rfl⟩⟩)); go_ret; exact ⟨eqE_, drE_⟩
       ·
        replace F := Bool.eq_false_iff.mpr F; subst F; replace H := ifF_ H; by_cases p : (bt a0 a) = 45
        ·
         rw [if_pos p] at H; have N : ((bt a0 a) == 45) = true := beq_iff_eq.mpr p; have O : ((bt a0 a) != 45) = false := bne_eq_false_iff_eq.mpr p; clear p; have H' := Aside0.mk H; clear H; have p4 : 0 ≤ (a : Int) := ofd_; have q4 : a < (a0.size : Int) := ofd_; have g := bt_at a0 a; replace p4 := eq_true p4; replace q4 := eq_true q4; have c : 0 ≤ (a : Int) := ofd_; have d : a < (a0.size : Int) := ofd_; have A := bt_at a0 a; replace c := eq_true c; replace d := eq_true d; go_wp2_with (first | (go_at_call 136; (with_reducible refine (spec_l00Digit.calls (bt a0 a) false _ x.out).mono ?_); rintro e w' ⟨rfl, ⟨nd, rfl⟩⟩; have l : 0 ≤ (a : Int) := ofd_; have m : a < (a0.size : Int) := ofd_; have I := bt_at a0 a; replace l := eq_true l; replace m := eq_true m)); go_roundg k1
         case measure => have := b.out; omega
         case rel => exact ⟨(!false), (wrap64 (a + 1)), eqE_, eqE_, H', ⟨by have := b.out; omega⟩, drE_⟩
        ·
         rw [if_neg p] at H; have N : ((bt a0 a) == 45) = false := beq_eq_false_iff_ne.mpr p; have O : ((bt a0 a) != 45) = true := bne_iff_ne.mpr p; by_cases q : (bt a0 a) = 46
         ·
          rw [if_pos q] at H; have P : ((bt a0 a) == 46) = true := beq_iff_eq.mpr q; have Q : ((bt a0 a) != 46) = false := bne_eq_false_iff_eq.mpr q; clear q; have H' := Aside0.mk H; clear H; have p4 : 0 ≤ (a : Int) := ofd_; have q4 : a < (a0.size : Int) := ofd_; have g := bt_at a0 a; replace p4 := eq_true p4; replace q4 := eq_true q4; have c : 0 ≤ (a : Int) := ofd_; have d : a < (a0.size : Int) := ofd_; have A := bt_at a0 a; replace c := eq_true c; replace d := eq_true d; go_wp2_with (first | (go_at_call 136; (with_reducible refine (spec_l00Digit.calls (bt a0 a) false _ x.out).mono ?_); rintro e w' ⟨rfl, ⟨nd, rfl⟩⟩; have l : 0 ≤ (a : Int) := ofd_; have m : a < (a0.size : Int) := ofd_; have I := bt_at a0 a; replace l := eq_true l; replace m := eq_true m; have y : 0 ≤ (a : Int) := ofd_; have z : a < (a0.size : Int) := ofd_; have X := bt_at a0 a; replace y := eq_true y; replace z := eq_true z)); go_roundg k1
          case measure => have := b.out; omega
          case rel => exact ⟨(!false), (wrap64 (a + 1)), eqE_, eqE_, H', ⟨by have := b.out; omega⟩, drE_⟩
         · rw [if_neg q] at H; have P : ((bt a0 a) == 46) = false := beq_eq_false_iff_ne.mpr q; have Q : ((bt a0 a) != 46) = true := bne_iff_ne.mpr q; obtain rfl := Option.some.inj H; have p4 : 0 ≤ (a : Int) := ofd_; have q4 : a < (a0.size : Int) := ofd_; have g := bt_at a0 a; replace p4 := eq_true p4; replace q4 := eq_true q4; have c : 0 ≤ (a : Int) := ofd_; have d : a < (a0.size : Int) := ofd_; have A := bt_at a0 a; replace c := eq_true c; replace d := eq_true d; go_wp2_with (first | (go_at_call 136; (with_reducible refine (spec_l00Digit.calls (bt a0 a) false _ x.out).mono ?_); rintro e w' ⟨rfl, ⟨nd, rfl⟩⟩; have l : 0 ≤ (a : Int) := ofd_; have m : a < (a0.size : Int) := ofd_; have I := bt_at a0 a; replace l := eq_true l; replace m := eq_true m; have y : 0 ≤ (a : Int) := ofd_; have z : a < (a0.size : Int) := ofd_; have X := bt_at a0 a; replace y := eq_true y; replace z := eq_true z)); go_ret; exact ⟨eqE_, drE_⟩
    · rw [if_neg c3] at H; exact absurd H (by simp)
   · rw [if_neg c2] at H; have R : decide (a < (a0.size : Int)) = false := decide_eq_false c2; clear c2; obtain rfl := Option.some.inj H; go_wp2; go_ret; exact ⟨eqE_, drE_⟩

/-! ### spec_l01Usual: function 105 -/
def spec_l01Usual.f (a0 : ByteArray) : Option (Int) := if a0.toList = ([104, 116, 116, 112] : List UInt8) then (some 80) else (some 443)
set_option maxHeartbeats 8000000 in
set_option maxRecDepth 100000 in
theorem spec_l01Usual.calls (a0 : ByteArray) (r : Int) (w : World) (h : spec_l01Usual.f a0 = some r) :
    Calls Tryz.prog 105 #[.string a0] w fun e w' => e = .returned (.int .i64 r) ∧ Drawn0 w w' := by
 have H : (if a0.toList = ([104, 116, 116, 112] : List UInt8) then (some 80) else (some 443)) = some r := h; clear h; by_cases c2 : a0.toList = ([104, 116, 116, 112] : List UInt8)
 · rw [if_pos c2] at H; have c2b0 : (a0.toList == ([104, 116, 116, 112] : List UInt8)) = true := beq_iff_eq.mpr c2; have c2b1 : (a0.toList != ([104, 116, 116, 112] : List UInt8)) = false := bne_eq_false_iff_eq.mpr c2; clear c2; obtain rfl := Option.some.inj H; go_enter Tryz.func105, Tryz.ntmps105; go_wp2; go_ret; exact ⟨eqE_, drE_⟩
 · rw [if_neg c2] at H; have c2b0 : (a0.toList == ([104, 116, 116, 112] : List UInt8)) = false := beq_eq_false_iff_ne.mpr c2; have c2b1 : (a0.toList != ([104, 116, 116, 112] : List UInt8)) = true := bne_iff_ne.mpr c2; obtain rfl := Option.some.inj H; go_enter Tryz.func105, Tryz.ntmps105; go_wp2; go_ret; exact ⟨eqE_, drE_⟩

end Go.Proofs.YthifpohbdbhnlaaGreatDoor.QFnStp
