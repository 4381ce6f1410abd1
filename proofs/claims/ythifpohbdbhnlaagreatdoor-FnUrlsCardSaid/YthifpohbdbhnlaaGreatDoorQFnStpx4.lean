/- A tool of this session wrote this text out of the translation: functions as plain Lean, and proofs that the machine's calls come to their answers. -/
import Derived.Test.YthifpohbdbhnlaaGreatDoorQShort
import Derived.Test.YthifpohbdbhnlaaGreatDoorQFnStpx0
import Derived.Test.YthifpohbdbhnlaaGreatDoorQFnStpx3
namespace Go.Proofs.YthifpohbdbhnlaaGreatDoor.QFnStp
open Go.RowKit Go.Proofs.YthifpohbdbhnlaaGreatDoorW.PrintWords Go.Proofs.YthifpohbdbhnlaaGreatDoorW.PrintLast Go.Proofs.YthifpohbdbhnlaaGreatDoorW.PrintMore
open Go.Proofs.YthifpohbdbhnlaaGreatDoor.Short
attribute [local go_sem] max2_int min2_int max_two min_two max_three min_three max_four min_four   -- for this text's walks alone
set_option linter.unusedVariables false
set_option linter.unusedSimpArgs false

/-! ### spec_l01Scheme: function 102 -/
def spec_l01Scheme.l0 : Nat → ByteArray → Int → Option (Bool)
  | 0, _, _ => none
  | k + 1, x0, x3 => if x3 < (x0.size : Int) then (if 0 ≤ x3 then (if (bt x0 x3) ≥ 97 then (if ((bt x0 x3) ≤ 122) then (spec_l01Scheme.l0 k x0 (wrap64 (x3 + 1))) else (if x3 = 0 then (some false) else ((spec_l00Digit.f (bt x0 x3)).bind fun t124 => (if t124 = true then (spec_l01Scheme.l0 k x0 (wrap64 (x3 + 1))) else (if (bt x0 x3) = 45 then (spec_l01Scheme.l0 k x0 (wrap64 (x3 + 1))) else (if (bt x0 x3) = 43 then (spec_l01Scheme.l0 k x0 (wrap64 (x3 + 1))) else (if (bt x0 x3) = 46 then (spec_l01Scheme.l0 k x0 (wrap64 (x3 + 1))) else (some false)))))))) else (if x3 = 0 then (some false) else ((spec_l00Digit.f (bt x0 x3)).bind fun t125 => (if t125 = true then (spec_l01Scheme.l0 k x0 (wrap64 (x3 + 1))) else (if (bt x0 x3) = 45 then (spec_l01Scheme.l0 k x0 (wrap64 (x3 + 1))) else (if (bt x0 x3) = 43 then (spec_l01Scheme.l0 k x0 (wrap64 (x3 + 1))) else (if (bt x0 x3) = 46 then (spec_l01Scheme.l0 k x0 (wrap64 (x3 + 1))) else (some false)))))))) else (none)) else (some true)
def spec_l01Scheme.f (k : Nat) (a0 : ByteArray) : Option (Bool) := (spec_l01In.f (a0.size : Int) 1 12).bind fun t123 => (if t123 = true then (spec_l01Scheme.l0 k a0 0) else (some false))
theorem spec_l01Scheme.mono_l : ∀ k, (∀ y0 y1, LeO (spec_l01Scheme.l0 k y0 y1) (spec_l01Scheme.l0 (k + 1) y0 y1))
  | 0 => fun _ _ r h => by simp [spec_l01Scheme.l0] at h
  | k + 1 => by
    have ih0 := spec_l01Scheme.mono_l k
    · intro y0 y1
      unfold spec_l01Scheme.l0; repeat' first | (with_reducible exact ih0 _ _) | (with_reducible first | exact LeO.refl _ | exact LeO.none _ | refine LeO.ite ?_ ?_ | refine LeO.bind ?_ (fun _ => ?_)) | exact ih0 _ _ | exact LeO.none _ | refine LeO.ite ?_ ?_ | refine LeO.bind ?_ (fun _ => ?_)
theorem spec_l01Scheme.mono : ∀ a0 k, LeO (spec_l01Scheme.f k a0) (spec_l01Scheme.f (k + 1) a0) := by
  intro a0 k; have ih0 := spec_l01Scheme.mono_l k; unfold spec_l01Scheme.f; repeat' first | (with_reducible exact ih0 _ _) | (with_reducible first | exact LeO.refl _ | exact LeO.none _ | refine LeO.ite ?_ ?_ | refine LeO.bind ?_ (fun _ => ?_)) | exact ih0 _ _ | exact LeO.none _ | refine LeO.ite ?_ ?_ | refine LeO.bind ?_ (fun _ => ?_)
set_option maxHeartbeats 8000000 in
set_option maxRecDepth 100000 in
theorem spec_l01Scheme.calls (k : Nat) (a0 : ByteArray) (r : Bool) (w : World) (h : spec_l01Scheme.f k a0 = some r) :
    Calls Tryz.prog 102 #[.string a0] w fun e w' => e = .returned (.bool r) ∧ Drawn0 w w' := by
 have H := h; clear h; unfold spec_l01Scheme.f at H; obtain ⟨aa, A2, H⟩ := bindE_ H; by_cases c3 : aa = true
 ·
  subst c3; replace H := ifT_ H; have H' := Aside0.mk H; clear H; go_enter Tryz.func102, Tryz.ntmps102; go_wp2_with (first | ((with_reducible refine gate_callee (f := 97) rfl ?_); refine cU_ (some 7) Tryz.func97 #[.int .i64 (a0.size : Int), .int .i64 1, .int .i64 12] ?_; (with_reducible refine (spec_l01In.calls (a0.size : Int) 1 12 true _ A2.out).mono ?_); rintro e w' ⟨rfl, ⟨nd, rfl⟩⟩; refine ⟨_, rfl, ?_⟩)); go_loopg [3] k (fun kq v3 w' => ∃ (a : Int), v3 = .int .i64 a ∧ Aside0 (spec_l01Scheme.l0 kq a0 a = some r) ∧ Aside0 (kq ≤ k) ∧ Drawn0 w w')
  case atStart => exact ⟨(0), eqE_, H', ⟨Nat.le_refl _⟩, drE_⟩
  case round =>
   clear H'; try clear c3
   obtain ⟨a, rfl, HA, b, ⟨m1, rfl⟩⟩ := hrel; cases gk with
   | zero => exact absurd HA.out (by simp [spec_l01Scheme.l0])
   | succ k1 =>
    have H := HA.out; clear HA; simp only [spec_l01Scheme.l0] at H; by_cases c4 : a < (a0.size : Int)
    ·
     rw [if_pos c4] at H; have ab : decide (a < (a0.size : Int)) = true := decide_eq_true c4; clear c4; by_cases c5 : 0 ≤ a
     ·
      rw [if_pos c5] at H; have ai : decide (0 ≤ a) = true := decide_eq_true c5; clear c5; by_cases c7 : (bt a0 a) ≥ 97
      ·
       rw [if_pos c7] at H; have ac : decide (97 ≤ (bt a0 a)) = true := decide_eq_true c7; clear c7; by_cases c9 : ((bt a0 a) ≤ 122)
       ·
        rw [if_pos c9] at H; have ad : decide ((bt a0 a) ≤ 122) = true := decide_eq_true c9; clear c9; have H' := Aside0.mk H; clear H; have p6 : 0 ≤ (a : Int) := ofd_; have q6 : a < (a0.size : Int) := ofd_; have j := bt_at a0 a; replace p6 := eq_true p6; replace q6 := eq_true q6; have p8 : 0 ≤ (a : Int) := ofd_; have q8 : a < (a0.size : Int) := ofd_; have D := bt_at a0 a; replace p8 := eq_true p8; replace q8 := eq_true q8; go_wp2; go_roundg k1
        case measure => have := b.out; omega
        case rel => exact ⟨(wrap64 (a + 1)), eqE_, H', ⟨by have := b.out; omega⟩, drE_⟩
       ·
        rw [if_neg c9] at H; have ad : decide ((bt a0 a) ≤ 122) = false := decide_eq_false c9; clear c9; by_cases u : a = 0
        · rw [if_pos u] at H; have T : (a == 0) = true := beq_iff_eq.mpr u; have U : (a != 0) = false := bne_eq_false_iff_eq.mpr u; clear u; obtain rfl := Option.some.inj H; have p6 : 0 ≤ (a : Int) := ofd_; have q6 : a < (a0.size : Int) := ofd_; have j := bt_at a0 a; replace p6 := eq_true p6; replace q6 := eq_true q6; have p8 : 0 ≤ (a : Int) := ofd_; have q8 : a < (a0.size : Int) := ofd_; have D := bt_at a0 a; replace p8 := eq_true p8; replace q8 := eq_true q8; go_wp2; go_ret; exact ⟨eqE_, drE_⟩
        ·
         rw [if_neg u] at H; have T : (a == 0) = false := beq_eq_false_iff_ne.mpr u; have U : (a != 0) = true := bne_iff_ne.mpr u; obtain ⟨ae, E, H⟩ := bindE_ H; by_cases N : ae = true
         ·
          subst N; replace H := ifT_ H; have H' := Aside0.mk H; clear H; have p6 : 0 ≤ (a : Int) := ofd_; have q6 : a < (a0.size : Int) := ofd_; have j := bt_at a0 a; replace p6 := eq_true p6; replace q6 := eq_true q6; have p8 : 0 ≤ (a : Int) := ofd_; have q8 : a < (a0.size : Int) := ofd_; have D := bt_at a0 a; replace p8 := eq_true p8; replace q8 := eq_true q8; have c : 0 ≤ (a : Int) := ofd_; have d : a < (a0.size : Int) := ofd_; have L := bt_at a0 a; replace c := eq_true c; replace d := eq_true d; go_wp2_with (first | (go_at_call 136; (with_reducible refine (spec_l00Digit.calls (bt a0 a) true _ E.out).mono ?_); rintro e w' ⟨rfl, ⟨nd, rfl⟩⟩)); go_roundg k1
          case measure => have := b.out; omega
          case rel => exact ⟨(wrap64 (a + 1)), eqE_, H', ⟨by have := b.out; omega⟩, drE_⟩
         ·
          replace N := Bool.eq_false_iff.mpr N; subst N; replace H := ifF_ H; by_cases v : (bt a0 a) = 45
          ·
           rw [if_pos v] at H; have V : ((bt a0 a) == 45) = true := beq_iff_eq.mpr v; have W : ((bt a0 a) != 45) = false := bne_eq_false_iff_eq.mpr v; clear v; have H' := Aside0.mk H; clear H; have p6 : 0 ≤ (a : Int) := ofd_; have q6 : a < (a0.size : Int) := ofd_; have j := bt_at a0 a; replace p6 := eq_true p6; replace q6 := eq_true q6; have p8 : 0 ≤ (a : Int) := ofd_; have q8 : a < (a0.size : Int) := ofd_; have D := bt_at a0 a; replace p8 := eq_true p8; replace q8 := eq_true q8; have c : 0 ≤ (a : Int) := ofd_; have d : a < (a0.size : Int) := ofd_; have L := bt_at a0 a; replace c := eq_true c; replace d := eq_true d; go_wp2_with (first | (go_at_call 136; (with_reducible refine (spec_l00Digit.calls (bt a0 a) false _ E.out).mono ?_); rintro e w' ⟨rfl, ⟨nd, rfl⟩⟩; have l : 0 ≤ (a : Int) := ofd_; have m : a < (a0.size : Int) := ofd_; have P := bt_at a0 a; replace l := eq_true l; replace m := eq_true m)); go_roundg k1
           case measure => have := b.out; omega
           case rel => exact ⟨(wrap64 (a + 1)), eqE_, H', ⟨by have := b.out; omega⟩, drE_⟩
          ·
           rw [if_neg v] at H; have V : ((bt a0 a) == 45) = false := beq_eq_false_iff_ne.mpr v; have W : ((bt a0 a) != 45) = true := bne_iff_ne.mpr v; by_cases x : (bt a0 a) = 43
           ·
            rw [if_pos x] at H; have X : ((bt a0 a) == 43) = true := beq_iff_eq.mpr x; have Y : ((bt a0 a) != 43) = false := bne_eq_false_iff_eq.mpr x; clear x; have H' := Aside0.mk H; clear H; have p6 : 0 ≤ (a : Int) := ofd_; have q6 : a < (a0.size : Int) := ofd_; have j := bt_at a0 a; replace p6 := eq_true p6; replace q6 := eq_true q6; have p8 : 0 ≤ (a : Int) := ofd_; have q8 : a < (a0.size : Int) := ofd_; have D := bt_at a0 a; replace p8 := eq_true p8; replace q8 := eq_true q8; have c : 0 ≤ (a : Int) := ofd_; have d : a < (a0.size : Int) := ofd_; have L := bt_at a0 a; replace c := eq_true c; replace d := eq_true d; go_wp2_with (first | (go_at_call 136; (with_reducible refine (spec_l00Digit.calls (bt a0 a) false _ E.out).mono ?_); rintro e w' ⟨rfl, ⟨nd, rfl⟩⟩; have l : 0 ≤ (a : Int) := ofd_; have m : a < (a0.size : Int) := ofd_; have P := bt_at a0 a; replace l := eq_true l; replace m := eq_true m; have p : 0 ≤ (a : Int) := ofd_; have q : a < (a0.size : Int) := ofd_; have R := bt_at a0 a; replace p := eq_true p; replace q := eq_true q)); go_roundg k1
            case measure => have := b.out; omega
            case rel => exact ⟨(wrap64 (a + 1)), eqE_, H', ⟨by have := b.out; omega⟩, drE_⟩
           ·
            rw [if_neg x] at H; have X : ((bt a0 a) == 43) = false := beq_eq_false_iff_ne.mpr x; have Y : ((bt a0 a) != 43) = true := bne_iff_ne.mpr x; by_cases y : (bt a0 a) = 46
            ·
             rw [if_pos y] at H; have Z : ((bt a0 a) == 46) = true := beq_iff_eq.mpr y; have a1 : ((bt a0 a) != 46) = false := bne_eq_false_iff_eq.mpr y; clear y; have H' := Aside0.mk H; clear H; have p6 : 0 ≤ (a : Int) := ofd_; have q6 : a < (a0.size : Int) := ofd_; have j := bt_at a0 a; replace p6 := eq_true p6; replace q6 := eq_true q6; have p8 : 0 ≤ (a : Int) := ofd_; have q8 : a < (a0.size : Int) := ofd_; have D := bt_at a0 a; replace p8 := eq_true p8; replace q8 := eq_true q8; have c : 0 ≤ (a : Int) := ofd_; have d : a < (a0.size : Int) := ofd_; have L := bt_at a0 a; replace c := eq_true c; replace d := eq_true d; go_wp2_with (first | (go_at_call 136; (with_reducible refine (spec_l00Digit.calls (bt a0 a) false _ E.out).mono ?_); rintro e w' ⟨rfl, ⟨nd, rfl⟩⟩; have l : 0 ≤ (a : Int) := ofd_; have m : a < (a0.size : Int) := ofd_; have P := bt_at a0 a; replace l := eq_true l; replace m := eq_true m; have p : 0 ≤ (a : Int) := ofd_; have q : a < (a0.size : Int) := ofd_; have R := bt_at a0 a; replace p := eq_true p; replace q := eq_true q; have F : 0 ≤ (a : Int) := ofd_; have G : a < (a0.size : Int) := ofd_; have af := bt_at a0 a; replace F := eq_true F; replace G := eq_true G)); go_roundg k1
             case measure => have := b.out; omega
             case rel => exact ⟨(wrap64 (a + 1)), eqE_, H', ⟨by have := b.out; omega⟩, drE_⟩
            · rw [if_neg y] at H; have Z : ((bt a0 a) == 46) = false := beq_eq_false_iff_ne.mpr y; have a1 : ((bt a0 a) != 46) = true := bne_iff_ne.mpr y; obtain rfl := Option.some.inj H; have p6 : 0 ≤ (a : Int) := ofd_; have q6 : a < (a0.size : Int) := ofd_; have j := bt_at a0 a; replace p6 := eq_true p6; replace q6 := eq_true q6; have p8 : 0 ≤ (a : Int) := ofd_; have q8 : a < (a0.size : Int) := ofd_; have D := bt_at a0 a; replace p8 := eq_true p8; replace q8 := eq_true q8; have c : 0 ≤ (a : Int) := ofd_; have d : a < (a0.size : Int) := ofd_; have L := bt_at a0 a; replace c := eq_true c; replace d := eq_true d; go_wp2_with (first | (go_at_call 136; (with_reducible refine (spec_l00Digit.calls (bt a0 a) false _ E.out).mono ?_); rintro e w' ⟨rfl, ⟨nd, rfl⟩⟩; have l : 0 ≤ (a : Int) := ofd_; have m : a < (a0.size : Int) := ofd_; have P := bt_at a0 a; replace l := eq_true l; replace m := eq_true m; have p : 0 ≤ (a : Int) := ofd_; have q : a < (a0.size : Int) := ofd_; have R := bt_at a0 a; replace p := eq_true p; replace q := eq_true q; have F : 0 ≤ (a : Int) := ofd_; have G : a < (a0.size : Int) := ofd_; have af := bt_at a0 a; replace F := eq_true F; replace G := eq_true G)); go_ret; exact ⟨eqE_, drE_⟩
      ·
       rw [if_neg c7] at H; have ac : decide (97 ≤ (bt a0 a)) = false := decide_eq_false c7; clear c7; by_cases z : a = 0
       · rw [if_pos z] at H; have a2 : (a == 0) = true := beq_iff_eq.mpr z; have a3 : (a != 0) = false := bne_eq_false_iff_eq.mpr z; clear z; obtain rfl := Option.some.inj H; have p6 : 0 ≤ (a : Int) := ofd_; have q6 : a < (a0.size : Int) := ofd_; have j := bt_at a0 a; replace p6 := eq_true p6; replace q6 := eq_true q6; go_wp2; go_ret; exact ⟨eqE_, drE_⟩
       ·
        rw [if_neg z] at H; have a2 : (a == 0) = false := beq_eq_false_iff_ne.mpr z; have a3 : (a != 0) = true := bne_iff_ne.mpr z; obtain ⟨ag, I, H⟩ := bindE_ H; by_cases O : ag = true
        ·
         subst O; replace H := ifT_ H; have H' := Aside0.mk H; clear H; have p6 : 0 ≤ (a : Int) := ofd_; have q6 : a < (a0.size : Int) := ofd_; have j := bt_at a0 a; replace p6 := eq_true p6; replace q6 := eq_true q6; have g : 0 ≤ (a : Int) := ofd_; have i : a < (a0.size : Int) := ofd_; have M := bt_at a0 a; replace g := eq_true g; replace i := eq_true i; go_wp2_with (first | (go_at_call 136; (with_reducible refine (spec_l00Digit.calls (bt a0 a) true _ I.out).mono ?_); rintro e w' ⟨rfl, ⟨nd, rfl⟩⟩)); go_roundg k1
         case measure => have := b.out; omega
         case rel => exact ⟨(wrap64 (a + 1)), eqE_, H', ⟨by have := b.out; omega⟩, drE_⟩
        ·
         replace O := Bool.eq_false_iff.mpr O; subst O; replace H := ifF_ H; by_cases A : (bt a0 a) = 45
         ·
          rw [if_pos A] at H; have a4 : ((bt a0 a) == 45) = true := beq_iff_eq.mpr A; have a5 : ((bt a0 a) != 45) = false := bne_eq_false_iff_eq.mpr A; clear A; have H' := Aside0.mk H; clear H; have p6 : 0 ≤ (a : Int) := ofd_; have q6 : a < (a0.size : Int) := ofd_; have j := bt_at a0 a; replace p6 := eq_true p6; replace q6 := eq_true q6; have g : 0 ≤ (a : Int) := ofd_; have i : a < (a0.size : Int) := ofd_; have M := bt_at a0 a; replace g := eq_true g; replace i := eq_true i; go_wp2_with (first | (go_at_call 136; (with_reducible refine (spec_l00Digit.calls (bt a0 a) false _ I.out).mono ?_); rintro e w' ⟨rfl, ⟨nd, rfl⟩⟩; have n : 0 ≤ (a : Int) := ofd_; have o : a < (a0.size : Int) := ofd_; have Q := bt_at a0 a; replace n := eq_true n; replace o := eq_true o)); go_roundg k1
          case measure => have := b.out; omega
          case rel => exact ⟨(wrap64 (a + 1)), eqE_, H', ⟨by have := b.out; omega⟩, drE_⟩
         ·
          rw [if_neg A] at H; have a4 : ((bt a0 a) == 45) = false := beq_eq_false_iff_ne.mpr A; have a5 : ((bt a0 a) != 45) = true := bne_iff_ne.mpr A; by_cases B : (bt a0 a) = 43
          ·
           rw [if_pos B] at H; have a6 : ((bt a0 a) == 43) = true := beq_iff_eq.mpr B; have a7 : ((bt a0 a) != 43) = false := bne_eq_false_iff_eq.mpr B; clear B; have H' := Aside0.mk H; clear H; have p6 : 0 ≤ (a : Int) := ofd_; have q6 : a < (a0.size : Int) := ofd_; have j := bt_at a0 a; replace p6 := eq_true p6; replace q6 := eq_true q6; have g : 0 ≤ (a : Int) := ofd_; have i : a < (a0.size : Int) := ofd_; have M := bt_at a0 a; replace g := eq_true g; replace i := eq_true i; go_wp2_with (first | (go_at_call 136; (with_reducible refine (spec_l00Digit.calls (bt a0 a) false _ I.out).mono ?_); rintro e w' ⟨rfl, ⟨nd, rfl⟩⟩; have n : 0 ≤ (a : Int) := ofd_; have o : a < (a0.size : Int) := ofd_; have Q := bt_at a0 a; replace n := eq_true n; replace o := eq_true o; have s : 0 ≤ (a : Int) := ofd_; have t : a < (a0.size : Int) := ofd_; have S := bt_at a0 a; replace s := eq_true s; replace t := eq_true t)); go_roundg k1
           case measure => have := b.out; omega
           case rel => exact ⟨(wrap64 (a + 1)), eqE_, H', ⟨by have := b.out; omega⟩, drE_⟩
          ·
           rw [if_neg B] at H; have a6 : ((bt a0 a) == 43) = false := beq_eq_false_iff_ne.mpr B; have a7 : ((bt a0 a) != 43) = true := bne_iff_ne.mpr B; by_cases C : (bt a0 a) = 46
           ·
            rw [if_pos C] at H; have a8 : ((bt a0 a) == 46) = true := beq_iff_eq.mpr C; have a9 : ((bt a0 a) != 46) = false := bne_eq_false_iff_eq.mpr C; clear C; have H' := Aside0.mk H; clear H; have p6 : 0 ≤ (a : Int) := ofd_; have q6 : a < (a0.size : Int) := ofd_; have j := bt_at a0 a; replace p6 := eq_true p6; replace q6 := eq_true q6; have g : 0 ≤ (a : Int) := ofd_; have i : a < (a0.size : Int) := ofd_; have M := bt_at a0 a; replace g := eq_true g; replace i := eq_true i; go_wp2_with (first | (go_at_call 136; (with_reducible refine (spec_l00Digit.calls (bt a0 a) false _ I.out).mono ?_); rintro e w' ⟨rfl, ⟨nd, rfl⟩⟩; have n : 0 ≤ (a : Int) := ofd_; have o : a < (a0.size : Int) := ofd_; have Q := bt_at a0 a; replace n := eq_true n; replace o := eq_true o; have s : 0 ≤ (a : Int) := ofd_; have t : a < (a0.size : Int) := ofd_; have S := bt_at a0 a; replace s := eq_true s; replace t := eq_true t; have J : 0 ≤ (a : Int) := ofd_; have K : a < (a0.size : Int) := ofd_; have ah := bt_at a0 a; replace J := eq_true J; replace K := eq_true K)); go_roundg k1
            case measure => have := b.out; omega
            case rel => exact ⟨(wrap64 (a + 1)), eqE_, H', ⟨by have := b.out; omega⟩, drE_⟩
           · rw [if_neg C] at H; have a8 : ((bt a0 a) == 46) = false := beq_eq_false_iff_ne.mpr C; have a9 : ((bt a0 a) != 46) = true := bne_iff_ne.mpr C; obtain rfl := Option.some.inj H; have p6 : 0 ≤ (a : Int) := ofd_; have q6 : a < (a0.size : Int) := ofd_; have j := bt_at a0 a; replace p6 := eq_true p6; replace q6 := eq_true q6; have g : 0 ≤ (a : Int) := ofd_; have i : a < (a0.size : Int) := ofd_; have M := bt_at a0 a; replace g := eq_true g; replace i := eq_true i; go_wp2_with (first | (go_at_call 136; (with_reducible refine (spec_l00Digit.calls (bt a0 a) false _ I.out).mono ?_); rintro e w' ⟨rfl, ⟨nd, rfl⟩⟩; have n : 0 ≤ (a : Int) := ofd_; have o : a < (a0.size : Int) := ofd_; have Q := bt_at a0 a; replace n := eq_true n; replace o := eq_true o; have s : 0 ≤ (a : Int) := ofd_; have t : a < (a0.size : Int) := ofd_; have S := bt_at a0 a; replace s := eq_true s; replace t := eq_true t; have J : 0 ≤ (a : Int) := ofd_; have K : a < (a0.size : Int) := ofd_; have ah := bt_at a0 a; replace J := eq_true J; replace K := eq_true K)); go_ret; exact ⟨eqE_, drE_⟩
     · rw [if_neg c5] at H; exact absurd H (by simp)
    · rw [if_neg c4] at H; have ab : decide (a < (a0.size : Int)) = false := decide_eq_false c4; clear c4; obtain rfl := Option.some.inj H; go_wp2; go_ret; exact ⟨eqE_, drE_⟩
 · replace c3 := Bool.eq_false_iff.mpr c3; subst c3; replace H := ifF_ H; obtain rfl := Option.some.inj H; go_enter Tryz.func102, Tryz.ntmps102; go_wp2_with (first | ((with_reducible refine gate_callee (f := 97) rfl ?_); refine cU_ (some 7) Tryz.func97 #[.int .i64 (a0.size : Int), .int .i64 1, .int .i64 12] ?_; (with_reducible refine (spec_l01In.calls (a0.size : Int) 1 12 false _ A2.out).mono ?_); rintro e w' ⟨rfl, ⟨nd, rfl⟩⟩; refine ⟨_, rfl, ?_⟩)); go_ret; exact ⟨eqE_, drE_⟩

/-! ### spec_l01Find: function 122 -/
def spec_l01Find.l0 : Nat → ByteArray → Int → Int → Option (Int)
  | 0, _, _, _ => none
  | k + 1, x0, x1, x5 => if x5 < (x0.size : Int) then (if 0 ≤ x5 then (if (bt x0 x5) = x1 then (some x5) else (spec_l01Find.l0 k x0 x1 (wrap64 (x5 + 1)))) else (none)) else (some (x0.size : Int))
def spec_l01Find.f (k : Nat) (a0 : ByteArray) (a1 : Int) : Option (Int) := spec_l01Find.l0 k a0 a1 0
theorem spec_l01Find.mono_l : ∀ k, (∀ y0 y1 y2, LeO (spec_l01Find.l0 k y0 y1 y2) (spec_l01Find.l0 (k + 1) y0 y1 y2))
  | 0 => fun _ _ _ r h => by simp [spec_l01Find.l0] at h
  | k + 1 => by
    have ih0 := spec_l01Find.mono_l k
    · intro y0 y1 y2
      unfold spec_l01Find.l0; repeat' first | (with_reducible exact ih0 _ _ _) | (with_reducible first | exact LeO.refl _ | exact LeO.none _ | refine LeO.ite ?_ ?_ | refine LeO.bind ?_ (fun _ => ?_)) | exact ih0 _ _ _ | exact LeO.none _ | refine LeO.ite ?_ ?_ | refine LeO.bind ?_ (fun _ => ?_)
theorem spec_l01Find.mono : ∀ a0 a1 k, LeO (spec_l01Find.f k a0 a1) (spec_l01Find.f (k + 1) a0 a1) := by
  intro a0 a1 k; have ih0 := spec_l01Find.mono_l k; unfold spec_l01Find.f; repeat' first | (with_reducible exact ih0 _ _ _) | (with_reducible first | exact LeO.refl _ | exact LeO.none _ | refine LeO.ite ?_ ?_ | refine LeO.bind ?_ (fun _ => ?_)) | exact ih0 _ _ _ | exact LeO.none _ | refine LeO.ite ?_ ?_ | refine LeO.bind ?_ (fun _ => ?_)
set_option maxHeartbeats 8000000 in
set_option maxRecDepth 100000 in
theorem spec_l01Find.calls (k : Nat) (a0 : ByteArray) (a1 : Int) (r : Int) (w : World) (h : spec_l01Find.f k a0 a1 = some r) :
    Calls Tryz.prog 122 #[.string a0, .int .u8 a1] w fun e w' => e = .returned (.int .i64 r) ∧ Drawn0 w w' := by
 have H : (spec_l01Find.l0 k a0 a1 0) = some r := h; clear h; have H' := Aside0.mk H; clear H; go_enter Tryz.func122, Tryz.ntmps122; go_wp2; go_loopg [5] k (fun kq v5 w' => ∃ (a : Int), v5 = .int .i64 a ∧ Aside0 (spec_l01Find.l0 kq a0 a1 a = some r) ∧ Aside0 (kq ≤ k) ∧ Drawn0 w w')
 case atStart => exact ⟨(0), eqE_, H', ⟨Nat.le_refl _⟩, drE_⟩
 case round =>
  clear H'; obtain ⟨a, rfl, HA, b, ⟨m1, rfl⟩⟩ := hrel; cases gk with
  | zero => exact absurd HA.out (by simp [spec_l01Find.l0])
  | succ k1 =>
   have H := HA.out; clear HA; simp only [spec_l01Find.l0] at H; by_cases c3 : a < (a0.size : Int)
   ·
    rw [if_pos c3] at H; have c : decide (a < (a0.size : Int)) = true := decide_eq_true c3; clear c3; by_cases c4 : 0 ≤ a
    ·
     rw [if_pos c4] at H; have j : decide (0 ≤ a) = true := decide_eq_true c4; clear c4; by_cases c6 : (bt a0 a) = a1
     · rw [if_pos c6] at H; have d : ((bt a0 a) == a1) = true := beq_iff_eq.mpr c6; have g : ((bt a0 a) != a1) = false := bne_eq_false_iff_eq.mpr c6; clear c6; obtain rfl := Option.some.inj H; have p5 : 0 ≤ (a : Int) := ofd_; have q5 : a < (a0.size : Int) := ofd_; have i := bt_at a0 a; replace p5 := eq_true p5; replace q5 := eq_true q5; go_wp2; go_ret; exact ⟨eqE_, drE_⟩
     ·
      rw [if_neg c6] at H; have d : ((bt a0 a) == a1) = false := beq_eq_false_iff_ne.mpr c6; have g : ((bt a0 a) != a1) = true := bne_iff_ne.mpr c6; have H' := Aside0.mk H; clear H; have p5 : 0 ≤ (a : Int) := ofd_; have q5 : a < (a0.size : Int) := ofd_; have i := bt_at a0 a; replace p5 := eq_true p5; replace q5 := eq_true q5; go_wp2; go_roundg k1
      case measure => have := b.out; omega
      case rel => exact ⟨(wrap64 (a + 1)), eqE_, H', ⟨by have := b.out; omega⟩, drE_⟩
    · rw [if_neg c4] at H; exact absurd H (by simp)
   · rw [if_neg c3] at H; have c : decide (a < (a0.size : Int)) = false := decide_eq_false c3; clear c3; obtain rfl := Option.some.inj H; go_wp2; go_ret; exact ⟨eqE_, drE_⟩

/-! ### spec_l01Only: function 103 -/
def spec_l01Only.l0 : Nat → ByteArray → ByteArray → Int → Option (Bool)
  | 0, _, _, _ => none
  | k + 1, x0, x1, x5 => if x5 < (x0.size : Int) then (if 0 ≤ x5 then (if (bt x0 x5) < 33 then (some false) else (if (bt x0 x5) > 126 then (some false) else ((spec_l01Find.f k x1 (bt x0 x5)).bind fun t126 => (if t126 < (x1.size : Int) then (some false) else (spec_l01Only.l0 k x0 x1 (wrap64 (x5 + 1))))))) else (none)) else (some true)
def spec_l01Only.f (k : Nat) (a0 : ByteArray) (a1 : ByteArray) : Option (Bool) := spec_l01Only.l0 k a0 a1 0
theorem spec_l01Only.mono_l : ∀ k, (∀ y0 y1 y2, LeO (spec_l01Only.l0 k y0 y1 y2) (spec_l01Only.l0 (k + 1) y0 y1 y2))
  | 0 => fun _ _ _ r h => by simp [spec_l01Only.l0] at h
  | k + 1 => by
    have ih0 := spec_l01Only.mono_l k
    · intro y0 y1 y2
      unfold spec_l01Only.l0; repeat' first | (with_reducible exact ih0 _ _ _) | (with_reducible exact spec_l01Find.mono _ _ _) | (with_reducible first | exact LeO.refl _ | exact LeO.none _ | refine LeO.ite ?_ ?_ | refine LeO.bind ?_ (fun _ => ?_)) | exact ih0 _ _ _ | exact spec_l01Find.mono _ _ _ | exact LeO.none _ | refine LeO.ite ?_ ?_ | refine LeO.bind ?_ (fun _ => ?_)
theorem spec_l01Only.mono : ∀ a0 a1 k, LeO (spec_l01Only.f k a0 a1) (spec_l01Only.f (k + 1) a0 a1) := by
  intro a0 a1 k; have ih0 := spec_l01Only.mono_l k; unfold spec_l01Only.f; repeat' first | (with_reducible exact ih0 _ _ _) | (with_reducible exact spec_l01Find.mono _ _ _) | (with_reducible first | exact LeO.refl _ | exact LeO.none _ | refine LeO.ite ?_ ?_ | refine LeO.bind ?_ (fun _ => ?_)) | exact ih0 _ _ _ | exact spec_l01Find.mono _ _ _ | exact LeO.none _ | refine LeO.ite ?_ ?_ | refine LeO.bind ?_ (fun _ => ?_)
set_option maxHeartbeats 8000000 in
set_option maxRecDepth 100000 in
theorem spec_l01Only.calls (k : Nat) (a0 : ByteArray) (a1 : ByteArray) (r : Bool) (w : World) (h : spec_l01Only.f k a0 a1 = some r) :
    Calls Tryz.prog 103 #[.string a0, .string a1] w fun e w' => e = .returned (.bool r) ∧ Drawn0 w w' := by
 have H : (spec_l01Only.l0 k a0 a1 0) = some r := h; clear h; have H' := Aside0.mk H; clear H; go_enter Tryz.func103, Tryz.ntmps103; go_wp2; go_loopg [5] k (fun kq v5 w' => ∃ (a : Int), v5 = .int .i64 a ∧ Aside0 (spec_l01Only.l0 kq a0 a1 a = some r) ∧ Aside0 (kq ≤ k) ∧ Drawn0 w w')
 case atStart => exact ⟨(0), eqE_, H', ⟨Nat.le_refl _⟩, drE_⟩
 case round =>
  clear H'; obtain ⟨a, rfl, HA, g, ⟨m1, rfl⟩⟩ := hrel; cases gk with
  | zero => exact absurd HA.out (by simp [spec_l01Only.l0])
  | succ k1 =>
   have H := HA.out; clear HA; simp only [spec_l01Only.l0] at H; by_cases c3 : a < (a0.size : Int)
   ·
    rw [if_pos c3] at H; have m : decide (a < (a0.size : Int)) = true := decide_eq_true c3; clear c3; by_cases c4 : 0 ≤ a
    ·
     rw [if_pos c4] at H; have q : decide (0 ≤ a) = true := decide_eq_true c4; clear c4; by_cases c6 : (bt a0 a) < 33
     · rw [if_pos c6] at H; have n : decide ((bt a0 a) < 33) = true := decide_eq_true c6; clear c6; obtain rfl := Option.some.inj H; have p5 : 0 ≤ (a : Int) := ofd_; have q5 : a < (a0.size : Int) := ofd_; have d := bt_at a0 a; replace p5 := eq_true p5; replace q5 := eq_true q5; go_wp2; go_ret; exact ⟨eqE_, drE_⟩
     ·
      rw [if_neg c6] at H; have n : decide ((bt a0 a) < 33) = false := decide_eq_false c6; clear c6; by_cases c8 : (bt a0 a) > 126
      · rw [if_pos c8] at H; have o : decide (126 < (bt a0 a)) = true := decide_eq_true c8; clear c8; obtain rfl := Option.some.inj H; have p5 : 0 ≤ (a : Int) := ofd_; have q5 : a < (a0.size : Int) := ofd_; have d := bt_at a0 a; replace p5 := eq_true p5; replace q5 := eq_true q5; have p7 : 0 ≤ (a : Int) := ofd_; have q7 : a < (a0.size : Int) := ofd_; have i := bt_at a0 a; replace p7 := eq_true p7; replace q7 := eq_true q7; go_wp2; go_ret; exact ⟨eqE_, drE_⟩
      ·
       rw [if_neg c8] at H; have o : decide (126 < (bt a0 a)) = false := decide_eq_false c8; clear c8; obtain ⟨c, j, H⟩ := bindE_ H; by_cases b : c < (a1.size : Int)
       · rw [if_pos b] at H; have l : decide (c < (a1.size : Int)) = true := decide_eq_true b; clear b; obtain rfl := Option.some.inj H; have p5 : 0 ≤ (a : Int) := ofd_; have q5 : a < (a0.size : Int) := ofd_; have d := bt_at a0 a; replace p5 := eq_true p5; replace q5 := eq_true q5; have p7 : 0 ≤ (a : Int) := ofd_; have q7 : a < (a0.size : Int) := ofd_; have i := bt_at a0 a; replace p7 := eq_true p7; replace q7 := eq_true q7; have p9 : 0 ≤ (a : Int) := ofd_; have q9 : a < (a0.size : Int) := ofd_; have p := bt_at a0 a; replace p9 := eq_true p9; replace q9 := eq_true q9; go_wp2_with (first | (go_at_call 122; (with_reducible refine (spec_l01Find.calls k1 a1 (bt a0 a) c _ j.out).mono ?_); rintro e w' ⟨rfl, ⟨nd, rfl⟩⟩)); go_ret; exact ⟨eqE_, drE_⟩
       ·
        rw [if_neg b] at H; have l : decide (c < (a1.size : Int)) = false := decide_eq_false b; clear b; have H' := Aside0.mk H; clear H; have p5 : 0 ≤ (a : Int) := ofd_; have q5 : a < (a0.size : Int) := ofd_; have d := bt_at a0 a; replace p5 := eq_true p5; replace q5 := eq_true q5; have p7 : 0 ≤ (a : Int) := ofd_; have q7 : a < (a0.size : Int) := ofd_; have i := bt_at a0 a; replace p7 := eq_true p7; replace q7 := eq_true q7; have p9 : 0 ≤ (a : Int) := ofd_; have q9 : a < (a0.size : Int) := ofd_; have p := bt_at a0 a; replace p9 := eq_true p9; replace q9 := eq_true q9; go_wp2_with (first | (go_at_call 122; (with_reducible refine (spec_l01Find.calls k1 a1 (bt a0 a) c _ j.out).mono ?_); rintro e w' ⟨rfl, ⟨nd, rfl⟩⟩)); go_roundg k1
        case measure => have := g.out; omega
        case rel => exact ⟨(wrap64 (a + 1)), eqE_, H', ⟨by have := g.out; omega⟩, drE_⟩
    · rw [if_neg c4] at H; exact absurd H (by simp)
   · rw [if_neg c3] at H; have m : decide (a < (a0.size : Int)) = false := decide_eq_false c3; clear c3; obtain rfl := Option.some.inj H; go_wp2; go_ret; exact ⟨eqE_, drE_⟩

end Go.Proofs.YthifpohbdbhnlaaGreatDoor.QFnStp
