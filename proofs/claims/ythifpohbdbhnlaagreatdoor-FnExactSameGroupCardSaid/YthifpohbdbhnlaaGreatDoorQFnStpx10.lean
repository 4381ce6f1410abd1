/- A tool of this session wrote this text out of the translation: functions as plain Lean, and proofs that the machine's calls come to their answers. -/
import Derived.Test.YthifpohbdbhnlaaGreatDoorQShort
import Derived.Test.YthifpohbdbhnlaaGreatDoorQFnStpx0
import Derived.Test.YthifpohbdbhnlaaGreatDoorQFnStpx9
namespace Go.Proofs.YthifpohbdbhnlaaGreatDoor.QFnStp
open Go.RowKit Go.Proofs.YthifpohbdbhnlaaGreatDoorW.PrintWords Go.Proofs.YthifpohbdbhnlaaGreatDoorW.PrintLast Go.Proofs.YthifpohbdbhnlaaGreatDoorW.PrintMore
open Go.Proofs.YthifpohbdbhnlaaGreatDoor.Short
attribute [local go_sem] max2_int min2_int max_two min_two max_three min_three max_four min_four   -- for this text's walks alone
set_option linter.unusedVariables false
set_option linter.unusedSimpArgs false

/-! ### impl_areShown: function 68 -/
def impl_areShown.l0 : Nat → ByteArray → Int → Int → Option (Bool)
  | 0, _, _, _ => none
  | k + 1, x0, x5, x6 => if x6 < x5 then (if 0 ≤ x6 then (if x6 < (x0.size : Int) then ((impl_within.f (wrap64 (bt x0 x6)) 33 126).bind fun t199 => (if t199 = true then (impl_areShown.l0 k x0 x5 (wrap64 (x6 + 1))) else (some false))) else (none)) else (none)) else (some true)
def impl_areShown.f (k : Nat) (a0 : ByteArray) : Option (Bool) := impl_areShown.l0 k a0 (a0.size : Int) 0
theorem impl_areShown.mono_l : ∀ k, (∀ y0 y1 y2, LeO (impl_areShown.l0 k y0 y1 y2) (impl_areShown.l0 (k + 1) y0 y1 y2))
  | 0 => fun _ _ _ r h => by simp [impl_areShown.l0] at h
  | k + 1 => by
    have ih0 := impl_areShown.mono_l k
    · intro y0 y1 y2
      unfold impl_areShown.l0; repeat' first | (with_reducible exact ih0 _ _ _) | (with_reducible first | exact LeO.refl _ | exact LeO.none _ | refine LeO.ite ?_ ?_ | refine LeO.bind ?_ (fun _ => ?_)) | exact ih0 _ _ _ | exact LeO.none _ | refine LeO.ite ?_ ?_ | refine LeO.bind ?_ (fun _ => ?_)
theorem impl_areShown.mono : ∀ a0 k, LeO (impl_areShown.f k a0) (impl_areShown.f (k + 1) a0) := by
  intro a0 k; have ih0 := impl_areShown.mono_l k; unfold impl_areShown.f; repeat' first | (with_reducible exact ih0 _ _ _) | (with_reducible first | exact LeO.refl _ | exact LeO.none _ | refine LeO.ite ?_ ?_ | refine LeO.bind ?_ (fun _ => ?_)) | exact ih0 _ _ _ | exact LeO.none _ | refine LeO.ite ?_ ?_ | refine LeO.bind ?_ (fun _ => ?_)
set_option maxHeartbeats 8000000 in
set_option maxRecDepth 100000 in
theorem impl_areShown.calls (k : Nat) (a0 : ByteArray) (r : Bool) (w : World) (h : impl_areShown.f k a0 = some r) :
    Calls Tryz.prog 68 #[.string a0] w fun e w' => e = .returned (.bool r) ∧ Drawn0 w w' := by
 have H : (impl_areShown.l0 k a0 (a0.size : Int) 0) = some r := h; clear h; have H' := Aside0.mk H; clear H; go_enter Tryz.func68, Tryz.ntmps68; go_wp2; go_loopg [6] k (fun kq v6 w' => ∃ (x6_1 : Int), v6 = .int .i64 x6_1 ∧ Aside0 (impl_areShown.l0 kq a0 (a0.size : Int) x6_1 = some r) ∧ Aside0 (kq ≤ k) ∧ Drawn0 w w')
 case atStart => exact ⟨(0), eqE_, H', ⟨Nat.le_refl _⟩, drE_⟩
 case round =>
  clear H'; obtain ⟨x6_1, rfl, HA, HK1, ⟨m1, rfl⟩⟩ := hrel; cases gk with
  | zero => exact absurd HA.out (by simp [impl_areShown.l0])
  | succ k1 =>
   have H := HA.out; clear HA; simp only [impl_areShown.l0] at H; by_cases c2 : x6_1 < (a0.size : Int)
   ·
    rw [if_pos c2] at H; have c2b0 : decide (x6_1 < (a0.size : Int)) = true := decide_eq_true c2; clear c2; by_cases c3 : 0 ≤ x6_1
    ·
     rw [if_pos c3] at H; have c3b0 : decide (0 ≤ x6_1) = true := decide_eq_true c3; clear c3; by_cases c4 : x6_1 < (a0.size : Int)
     ·
      rw [if_pos c4] at H; have c4b0 : decide (x6_1 < (a0.size : Int)) = true := decide_eq_true c4; clear c4; obtain ⟨t199, A6, H⟩ := bindE_ H; by_cases c7 : t199 = true
      ·
       subst c7; replace H := ifT_ H; have H' := Aside0.mk H; clear H; have p5 : 0 ≤ (x6_1 : Int) := ofd_; have q5 : x6_1 < (a0.size : Int) := ofd_; have hx5 := bt_at a0 x6_1; replace p5 := eq_true p5; replace q5 := eq_true q5; go_wp2_with (first | ((with_reducible refine gate_callee (f := 71) rfl ?_); refine cU_ (some 13) Tryz.func71 #[.int .i64 (wrap64 (bt a0 x6_1)), .int .i64 33, .int .i64 126] ?_; (with_reducible refine (impl_within.calls (wrap64 (bt a0 x6_1)) 33 126 true _ A6.out).mono ?_); rintro e w' ⟨rfl, ⟨nd, rfl⟩⟩; refine ⟨_, rfl, ?_⟩)); go_roundg k1
       case measure => have := HK1.out; omega
       case rel => exact ⟨(wrap64 (x6_1 + 1)), eqE_, H', ⟨by have := HK1.out; omega⟩, drE_⟩
      · replace c7 := Bool.eq_false_iff.mpr c7; subst c7; replace H := ifF_ H; obtain rfl := Option.some.inj H; have p5 : 0 ≤ (x6_1 : Int) := ofd_; have q5 : x6_1 < (a0.size : Int) := ofd_; have hx5 := bt_at a0 x6_1; replace p5 := eq_true p5; replace q5 := eq_true q5; go_wp2_with (first | ((with_reducible refine gate_callee (f := 71) rfl ?_); refine cU_ (some 13) Tryz.func71 #[.int .i64 (wrap64 (bt a0 x6_1)), .int .i64 33, .int .i64 126] ?_; (with_reducible refine (impl_within.calls (wrap64 (bt a0 x6_1)) 33 126 false _ A6.out).mono ?_); rintro e w' ⟨rfl, ⟨nd, rfl⟩⟩; refine ⟨_, rfl, ?_⟩)); go_ret; exact ⟨eqE_, drE_⟩
     · rw [if_neg c4] at H; exact absurd H (by simp)
    · rw [if_neg c3] at H; exact absurd H (by simp)
   · rw [if_neg c2] at H; have c2b0 : decide (x6_1 < (a0.size : Int)) = false := decide_eq_false c2; clear c2; obtain rfl := Option.some.inj H; go_wp2; go_ret; exact ⟨eqE_, drE_⟩

/-! ### strings_ContainsAny: function 69, by hand -/
/-- Bytes below 128 alone. -/
def strings_ContainsAny.ok (s : ByteArray) : Bool := s.data.toList.all fun b => decide (b.toNat < 128)
theorem strings_ContainsAny.at_ {s : ByteArray} (h : strings_ContainsAny.ok s = true) : ∀ (j : Nat) (b : UInt8), s.data.toList[j]? = some b → b.toNat < 128 := fun j b hb => of_decide_eq_true (List.all_eq_true.1 h b (List.mem_of_getElem? hb))
def strings_ContainsAny.f (a0 : ByteArray) (a1 : ByteArray) : Option (Bool) := if a0.size < 4294967281 ∧ a1.size < 4294967281 ∧ strings_ContainsAny.ok a0 = true ∧ strings_ContainsAny.ok a1 = true then some (Lib.containsAny a0.data.toList a1.data.toList) else none
theorem strings_ContainsAny.calls (a0 : ByteArray) (a1 : ByteArray) (r : Bool) (w : World) (h : strings_ContainsAny.f a0 a1 = some r) :
    Calls Tryz.prog 69 #[.string a0, .string a1] w fun e w' => e = .returned (.bool r) ∧ Below w.heap.size w w' := by
  unfold strings_ContainsAny.f at h; by_cases hb : a0.size < 4294967281 ∧ a1.size < 4294967281 ∧ strings_ContainsAny.ok a0 = true ∧ strings_ContainsAny.ok a1 = true
  · rw [if_pos hb] at h
    cases h; exact Tryz.strings_ContainsAny_laid a0 a1 w hb.1 hb.2.1 (strings_ContainsAny.at_ hb.2.2.1) (strings_ContainsAny.at_ hb.2.2.2)
  · rw [if_neg hb] at h
    cases h

/-! ### impl_isHost: function 70 -/
mutual
def impl_isHost.l0 : Nat → ByteArray → Int → Int → Option (Bool)
  | 0, _, _, _ => none
  | k + 1, x0, x6, x7 => if x7 < x6 then (if 0 ≤ x7 then (if x7 < (x0.size : Int) then ((impl_isLower.f (bt x0 x7)).bind fun t200 => (if t200 = true then (impl_isHost.j1 k x0 x7 (bt x0 x7) x6 x7 true) else ((impl_isDigit.f (bt x0 x7)).bind fun t201 => (impl_isHost.j1 k x0 x7 (bt x0 x7) x6 x7 t201)))) else (none)) else (none)) else (some (x0.toList != ([] : List UInt8)))
def impl_isHost.j1 : Nat → ByteArray → Int → Int → Int → Int → Bool → Option (Bool)
  | 0, _, _, _, _, _, _ => none
  | k + 1, x0, x3, x4, x6, x7, x18 => if x18 = true then (impl_isHost.l0 k x0 x6 (wrap64 (x7 + 1))) else (if x4 = 45 then (if x3 = 0 then (some false) else (if x3 = (wrap64 ((x0.size : Int) - 1)) then (some false) else (if 0 ≤ (wrap64 (x3 - 1)) then (if (wrap64 (x3 - 1)) < (x0.size : Int) then (if (bt x0 (wrap64 (x3 - 1))) = 45 then (some false) else (if (bt x0 (wrap64 (x3 - 1))) = 46 then (some false) else (impl_isHost.l0 k x0 x6 (wrap64 (x7 + 1))))) else (none)) else (none)))) else (if x4 = 46 then (if x3 = 0 then (some false) else (if x3 = (wrap64 ((x0.size : Int) - 1)) then (some false) else (if 0 ≤ (wrap64 (x3 - 1)) then (if (wrap64 (x3 - 1)) < (x0.size : Int) then (if (bt x0 (wrap64 (x3 - 1))) = 45 then (some false) else (if (bt x0 (wrap64 (x3 - 1))) = 46 then (some false) else (impl_isHost.l0 k x0 x6 (wrap64 (x7 + 1))))) else (none)) else (none)))) else (some false)))
end
def impl_isHost.f (k : Nat) (a0 : ByteArray) : Option (Bool) := impl_isHost.l0 k a0 (a0.size : Int) 0
theorem impl_isHost.mono_l : ∀ k, (∀ y0 y1 y2, LeO (impl_isHost.l0 k y0 y1 y2) (impl_isHost.l0 (k + 1) y0 y1 y2)) ∧ (∀ y0 y1 y2 y3 y4 y5, LeO (impl_isHost.j1 k y0 y1 y2 y3 y4 y5) (impl_isHost.j1 (k + 1) y0 y1 y2 y3 y4 y5))
  | 0 => ⟨fun _ _ _ r h => by simp [impl_isHost.l0] at h, fun _ _ _ _ _ _ r h => by simp [impl_isHost.j1] at h⟩
  | k + 1 => by
    obtain ⟨ih0, ih1⟩ := impl_isHost.mono_l k; refine ⟨?_, ?_⟩
    · intro y0 y1 y2
      unfold impl_isHost.l0; repeat' first | (with_reducible exact ih0 _ _ _) | (with_reducible exact ih1 _ _ _ _ _ _) | (with_reducible first | exact LeO.refl _ | exact LeO.none _ | refine LeO.ite ?_ ?_ | refine LeO.bind ?_ (fun _ => ?_)) | exact ih0 _ _ _ | exact ih1 _ _ _ _ _ _ | exact LeO.none _ | refine LeO.ite ?_ ?_ | refine LeO.bind ?_ (fun _ => ?_)
    · intro y0 y1 y2 y3 y4 y5
      unfold impl_isHost.j1; repeat' first | (with_reducible exact ih0 _ _ _) | (with_reducible exact ih1 _ _ _ _ _ _) | (with_reducible first | exact LeO.refl _ | exact LeO.none _ | refine LeO.ite ?_ ?_ | refine LeO.bind ?_ (fun _ => ?_)) | exact ih0 _ _ _ | exact ih1 _ _ _ _ _ _ | exact LeO.none _ | refine LeO.ite ?_ ?_ | refine LeO.bind ?_ (fun _ => ?_)
theorem impl_isHost.mono : ∀ a0 k, LeO (impl_isHost.f k a0) (impl_isHost.f (k + 1) a0) := by
  intro a0 k; obtain ⟨ih0, ih1⟩ := impl_isHost.mono_l k; unfold impl_isHost.f; repeat' first | (with_reducible exact ih0 _ _ _) | (with_reducible exact ih1 _ _ _ _ _ _) | (with_reducible first | exact LeO.refl _ | exact LeO.none _ | refine LeO.ite ?_ ?_ | refine LeO.bind ?_ (fun _ => ?_)) | exact ih0 _ _ _ | exact ih1 _ _ _ _ _ _ | exact LeO.none _ | refine LeO.ite ?_ ?_ | refine LeO.bind ?_ (fun _ => ?_)
set_option maxHeartbeats 8000000 in
set_option maxRecDepth 100000 in
theorem impl_isHost.calls (k : Nat) (a0 : ByteArray) (r : Bool) (w : World) (h : impl_isHost.f k a0 = some r) :
    Calls Tryz.prog 70 #[.string a0] w fun e w' => e = .returned (.bool r) ∧ Drawn0 w w' := by
 have H : (impl_isHost.l0 k a0 (a0.size : Int) 0) = some r := h; clear h; have H' := Aside0.mk H; clear H; go_enter Tryz.func70, Tryz.ntmps70; go_wp2; go_loopg [7] k (fun kq v7 w' => ∃ (x7_1 : Int), v7 = .int .i64 x7_1 ∧ Aside0 (impl_isHost.l0 kq a0 (a0.size : Int) x7_1 = some r) ∧ Aside0 (kq ≤ k) ∧ Drawn0 w w')
 case atStart => exact ⟨(0), eqE_, H', ⟨Nat.le_refl _⟩, drE_⟩
 case round =>
  clear H'; obtain ⟨x7_1, rfl, HA, HK1, ⟨m1, rfl⟩⟩ := hrel; cases gk with
  | zero => exact absurd HA.out (by simp [impl_isHost.l0])
  | succ k1 =>
   have H := HA.out; clear HA; simp only [impl_isHost.l0] at H; by_cases c2 : x7_1 < (a0.size : Int)
   ·
    rw [if_pos c2] at H; have c2b0 : decide (x7_1 < (a0.size : Int)) = true := decide_eq_true c2; clear c2; by_cases c3 : 0 ≤ x7_1
    ·
     rw [if_pos c3] at H; have c3b0 : decide (0 ≤ x7_1) = true := decide_eq_true c3; clear c3; by_cases c4 : x7_1 < (a0.size : Int)
     ·
      rw [if_pos c4] at H; have c4b0 : decide (x7_1 < (a0.size : Int)) = true := decide_eq_true c4; clear c4; have HC6 := Aside0.mk H; clear H; have p5 : 0 ≤ (x7_1 : Int) := ofd_; have q5 : x7_1 < (a0.size : Int) := ofd_; have hx5 := bt_at a0 x7_1; replace p5 := eq_true p5; replace q5 := eq_true q5; go_upto_region 5 with (fail)
      go_cut [18] (fun v18 wc => ∃ (kq : Nat) (x18_5 : Bool), v18 = .bool x18_5 ∧ Aside0 (impl_isHost.j1 kq a0 x7_1 (bt a0 x7_1) (a0.size : Int) x7_1 x18_5 = some r) ∧ Aside0 (kq ≤ k1) ∧ Drawn0 w wc)
      case first =>
       have H := HC6.out; clear HC6; obtain ⟨t200, A7, H⟩ := bindE_ H; by_cases c8 : t200 = true
       ·
        subst c8; replace H := ifT_ H; have H' := Aside0.mk H; clear H; go_wp2_with (first | ((with_reducible refine gate_callee (f := 116) rfl ?_); refine cU_ (some 14) Tryz.func116 #[.int .u8 (bt a0 x7_1)] ?_; (with_reducible refine (impl_isLower.calls (bt a0 x7_1) true _ A7.out).mono ?_); rintro e w' ⟨rfl, ⟨nd, rfl⟩⟩; refine ⟨_, rfl, ?_⟩)); go_meet
        case rel => exact ⟨_, (true), eqE_, H', ⟨by have := HK1.out; first | omega | exact Nat.le_refl _⟩, drE_⟩
       ·
        replace c8 := Bool.eq_false_iff.mpr c8; subst c8; replace H := ifF_ H; obtain ⟨t201, A9, H⟩ := bindE_ H; have H' := Aside0.mk H; clear H; go_wp2_with (first | ((with_reducible refine gate_callee (f := 116) rfl ?_); refine cU_ (some 14) Tryz.func116 #[.int .u8 (bt a0 x7_1)] ?_; (with_reducible refine (impl_isLower.calls (bt a0 x7_1) false _ A7.out).mono ?_); rintro e w' ⟨rfl, ⟨nd, rfl⟩⟩; refine ⟨_, rfl, ?_⟩) | (go_at_call 117; (with_reducible refine (impl_isDigit.calls (bt a0 x7_1) t201 _ A9.out).mono ?_); rintro e w' ⟨rfl, ⟨nd, rfl⟩⟩)); go_meet
        case rel => exact ⟨_, (t201), eqE_, H', ⟨by have := HK1.out; first | omega | exact Nat.le_refl _⟩, drE_⟩
      case rest =>
       clear HC6; try clear c2
       try clear c2b0
       try clear c3
       try clear c3b0
       try clear c4
       try clear c4b0
       try clear p5
       try clear q5
       try clear hx5
       try clear p5
       try clear q5
       obtain ⟨kq, x18_5, rfl, HA, HJ5, ⟨mc5, rfl⟩⟩ := hcut; cases kq with
       | zero => exact absurd HA.out (by simp [impl_isHost.j1])
       | succ kj5 =>
        have H := HA.out; clear HA; simp only [impl_isHost.j1] at H; by_cases c10 : x18_5 = true
        ·
         subst c10; replace H := ifT_ H; have H' := Aside0.mk H; clear H; go_wp2; go_roundg kj5
         case measure => have := HK1.out; have := HJ5.out; omega
         case rel => exact ⟨(wrap64 (x7_1 + 1)), eqE_, H', ⟨by have := HK1.out; have := HJ5.out; omega⟩, drE_⟩
        ·
         replace c10 := Bool.eq_false_iff.mpr c10; subst c10; replace H := ifF_ H; by_cases c11 : (bt a0 x7_1) = 45
         ·
          rw [if_pos c11] at H; have c11b0 : ((bt a0 x7_1) == 45) = true := beq_iff_eq.mpr c11; have c11b1 : ((bt a0 x7_1) != 45) = false := bne_eq_false_iff_eq.mpr c11; clear c11; by_cases c12 : x7_1 = 0
          · rw [if_pos c12] at H; have c12b0 : (x7_1 == 0) = true := beq_iff_eq.mpr c12; have c12b1 : (x7_1 != 0) = false := bne_eq_false_iff_eq.mpr c12; clear c12; obtain rfl := Option.some.inj H; go_wp2; go_ret; exact ⟨eqE_, drE_⟩
          ·
           rw [if_neg c12] at H; have c12b0 : (x7_1 == 0) = false := beq_eq_false_iff_ne.mpr c12; have c12b1 : (x7_1 != 0) = true := bne_iff_ne.mpr c12; by_cases c13 : x7_1 = (wrap64 ((a0.size : Int) - 1))
           · rw [if_pos c13] at H; have c13b0 : (x7_1 == (wrap64 ((a0.size : Int) - 1))) = true := beq_iff_eq.mpr c13; have c13b1 : (x7_1 != (wrap64 ((a0.size : Int) - 1))) = false := bne_eq_false_iff_eq.mpr c13; clear c13; obtain rfl := Option.some.inj H; go_wp2; go_ret; exact ⟨eqE_, drE_⟩
           ·
            rw [if_neg c13] at H; have c13b0 : (x7_1 == (wrap64 ((a0.size : Int) - 1))) = false := beq_eq_false_iff_ne.mpr c13; have c13b1 : (x7_1 != (wrap64 ((a0.size : Int) - 1))) = true := bne_iff_ne.mpr c13; obtain ⟨ji14, hji14⟩ : ∃ j_ : Int, (wrap64 (x7_1 - 1)) = j_ := ⟨_, rfl⟩
            replace H : (if 0 ≤ (ji14) then (if (ji14) < (a0.size : Int) then (if (bt a0 (ji14)) = 45 then (some false) else (if (bt a0 (ji14)) = 46 then (some false) else (impl_isHost.l0 kj5 a0 (a0.size : Int) (wrap64 (x7_1 + 1))))) else (none)) else (none)) = some r := by first | (rw [hji14] at H; exact H) | (simp only [hji14] at H ⊢; exact H)
            have hji14w : (IntKind.i64.wrap (x7_1 - 1)) = ji14 := (i64_w _).trans hji14; by_cases c15 : 0 ≤ (ji14)
            ·
             rw [if_pos c15] at H; have c15b0 : decide (0 ≤ (ji14)) = true := decide_eq_true c15; clear c15; by_cases c16 : (ji14) < (a0.size : Int)
             ·
              rw [if_pos c16] at H; have c16b0 : decide ((ji14) < (a0.size : Int)) = true := decide_eq_true c16; clear c16; by_cases c18 : (bt a0 (ji14)) = 45
              · rw [if_pos c18] at H; have c18b0 : ((bt a0 (ji14)) == 45) = true := beq_iff_eq.mpr c18; have c18b1 : ((bt a0 (ji14)) != 45) = false := bne_eq_false_iff_eq.mpr c18; clear c18; obtain rfl := Option.some.inj H; have p17 : 0 ≤ ((ji14) : Int) := ofd_; have q17 : (ji14) < (a0.size : Int) := ofd_; have hx17 := bt_at a0 (ji14); replace p17 := eq_true p17; replace q17 := eq_true q17; go_wp2; go_ret; exact ⟨by first | rfl | (simp; done) | (simp only [← hji14] <;> (first | rfl | simp)) | (simp [*]; done), drE_⟩
              ·
               rw [if_neg c18] at H; have c18b0 : ((bt a0 (ji14)) == 45) = false := beq_eq_false_iff_ne.mpr c18; have c18b1 : ((bt a0 (ji14)) != 45) = true := bne_iff_ne.mpr c18; by_cases c20 : (bt a0 (ji14)) = 46
               · rw [if_pos c20] at H; have c20b0 : ((bt a0 (ji14)) == 46) = true := beq_iff_eq.mpr c20; have c20b1 : ((bt a0 (ji14)) != 46) = false := bne_eq_false_iff_eq.mpr c20; clear c20; obtain rfl := Option.some.inj H; have p17 : 0 ≤ ((ji14) : Int) := ofd_; have q17 : (ji14) < (a0.size : Int) := ofd_; have hx17 := bt_at a0 (ji14); replace p17 := eq_true p17; replace q17 := eq_true q17; have p19 : 0 ≤ ((ji14) : Int) := ofd_; have q19 : (ji14) < (a0.size : Int) := ofd_; have hx19 := bt_at a0 (ji14); replace p19 := eq_true p19; replace q19 := eq_true q19; go_wp2; go_ret; exact ⟨by first | rfl | (simp; done) | (simp only [← hji14] <;> (first | rfl | simp)) | (simp [*]; done), drE_⟩
               ·
                rw [if_neg c20] at H; have c20b0 : ((bt a0 (ji14)) == 46) = false := beq_eq_false_iff_ne.mpr c20; have c20b1 : ((bt a0 (ji14)) != 46) = true := bne_iff_ne.mpr c20; have H' := Aside0.mk H; clear H; have p17 : 0 ≤ ((ji14) : Int) := ofd_; have q17 : (ji14) < (a0.size : Int) := ofd_; have hx17 := bt_at a0 (ji14); replace p17 := eq_true p17; replace q17 := eq_true q17; have p19 : 0 ≤ ((ji14) : Int) := ofd_; have q19 : (ji14) < (a0.size : Int) := ofd_; have hx19 := bt_at a0 (ji14); replace p19 := eq_true p19; replace q19 := eq_true q19; go_wp2; go_roundg kj5
                case measure => have := HK1.out; have := HJ5.out; omega
                case rel => exact ⟨(wrap64 (x7_1 + 1)), eqE_, H', ⟨by have := HK1.out; have := HJ5.out; omega⟩, drE_⟩
             · rw [if_neg c16] at H; exact absurd H (by simp)
            · rw [if_neg c15] at H; exact absurd H (by simp)
         ·
          rw [if_neg c11] at H; have c11b0 : ((bt a0 x7_1) == 45) = false := beq_eq_false_iff_ne.mpr c11; have c11b1 : ((bt a0 x7_1) != 45) = true := bne_iff_ne.mpr c11; by_cases c21 : (bt a0 x7_1) = 46
          ·
           rw [if_pos c21] at H; have c21b0 : ((bt a0 x7_1) == 46) = true := beq_iff_eq.mpr c21; have c21b1 : ((bt a0 x7_1) != 46) = false := bne_eq_false_iff_eq.mpr c21; clear c21; by_cases c22 : x7_1 = 0
           · rw [if_pos c22] at H; have c22b0 : (x7_1 == 0) = true := beq_iff_eq.mpr c22; have c22b1 : (x7_1 != 0) = false := bne_eq_false_iff_eq.mpr c22; clear c22; obtain rfl := Option.some.inj H; go_wp2; go_ret; exact ⟨eqE_, drE_⟩
           ·
            rw [if_neg c22] at H; have c22b0 : (x7_1 == 0) = false := beq_eq_false_iff_ne.mpr c22; have c22b1 : (x7_1 != 0) = true := bne_iff_ne.mpr c22; by_cases c23 : x7_1 = (wrap64 ((a0.size : Int) - 1))
            · rw [if_pos c23] at H; have c23b0 : (x7_1 == (wrap64 ((a0.size : Int) - 1))) = true := beq_iff_eq.mpr c23; have c23b1 : (x7_1 != (wrap64 ((a0.size : Int) - 1))) = false := bne_eq_false_iff_eq.mpr c23; clear c23; obtain rfl := Option.some.inj H; go_wp2; go_ret; exact ⟨eqE_, drE_⟩
            ·
             rw [if_neg c23] at H; have c23b0 : (x7_1 == (wrap64 ((a0.size : Int) - 1))) = false := beq_eq_false_iff_ne.mpr c23; have c23b1 : (x7_1 != (wrap64 ((a0.size : Int) - 1))) = true := bne_iff_ne.mpr c23; obtain ⟨ji24, hji24⟩ : ∃ j_ : Int, (wrap64 (x7_1 - 1)) = j_ := ⟨_, rfl⟩
             replace H : (if 0 ≤ (ji24) then (if (ji24) < (a0.size : Int) then (if (bt a0 (ji24)) = 45 then (some false) else (if (bt a0 (ji24)) = 46 then (some false) else (impl_isHost.l0 kj5 a0 (a0.size : Int) (wrap64 (x7_1 + 1))))) else (none)) else (none)) = some r := by first | (rw [hji24] at H; exact H) | (simp only [hji24] at H ⊢; exact H)
             have hji24w : (IntKind.i64.wrap (x7_1 - 1)) = ji24 := (i64_w _).trans hji24; by_cases c25 : 0 ≤ (ji24)
             ·
              rw [if_pos c25] at H; have c25b0 : decide (0 ≤ (ji24)) = true := decide_eq_true c25; clear c25; by_cases c26 : (ji24) < (a0.size : Int)
              ·
               rw [if_pos c26] at H; have c26b0 : decide ((ji24) < (a0.size : Int)) = true := decide_eq_true c26; clear c26; by_cases c28 : (bt a0 (ji24)) = 45
               · rw [if_pos c28] at H; have c28b0 : ((bt a0 (ji24)) == 45) = true := beq_iff_eq.mpr c28; have c28b1 : ((bt a0 (ji24)) != 45) = false := bne_eq_false_iff_eq.mpr c28; clear c28; obtain rfl := Option.some.inj H; have p27 : 0 ≤ ((ji24) : Int) := ofd_; have q27 : (ji24) < (a0.size : Int) := ofd_; have hx27 := bt_at a0 (ji24); replace p27 := eq_true p27; replace q27 := eq_true q27; go_wp2; go_ret; exact ⟨by first | rfl | (simp; done) | (simp only [← hji24] <;> (first | rfl | simp)) | (simp [*]; done), drE_⟩
               ·
                rw [if_neg c28] at H; have c28b0 : ((bt a0 (ji24)) == 45) = false := beq_eq_false_iff_ne.mpr c28; have c28b1 : ((bt a0 (ji24)) != 45) = true := bne_iff_ne.mpr c28; by_cases c30 : (bt a0 (ji24)) = 46
                · rw [if_pos c30] at H; have c30b0 : ((bt a0 (ji24)) == 46) = true := beq_iff_eq.mpr c30; have c30b1 : ((bt a0 (ji24)) != 46) = false := bne_eq_false_iff_eq.mpr c30; clear c30; obtain rfl := Option.some.inj H; have p27 : 0 ≤ ((ji24) : Int) := ofd_; have q27 : (ji24) < (a0.size : Int) := ofd_; have hx27 := bt_at a0 (ji24); replace p27 := eq_true p27; replace q27 := eq_true q27; have p29 : 0 ≤ ((ji24) : Int) := ofd_; have q29 : (ji24) < (a0.size : Int) := ofd_; have hx29 := bt_at a0 (ji24); replace p29 := eq_true p29; replace q29 := eq_true q29; go_wp2; go_ret; exact ⟨by first | rfl | (simp; done) | (simp only [← hji24] <;> (first | rfl | simp)) | (simp [*]; done), drE_⟩
                ·
                 rw [if_neg c30] at H; have c30b0 : ((bt a0 (ji24)) == 46) = false := beq_eq_false_iff_ne.mpr c30; have c30b1 : ((bt a0 (ji24)) != 46) = true := bne_iff_ne.mpr c30; have H' := Aside0.mk H; clear H; have p27 : 0 ≤ ((ji24) : Int) := ofd_; have q27 : (ji24) < (a0.size : Int) := ofd_; have hx27 := bt_at a0 (ji24); replace p27 := eq_true p27; replace q27 := eq_true q27; have p29 : 0 ≤ ((ji24) : Int) := ofd_; have q29 : (ji24) < (a0.size : Int) := ofd_; have hx29 := bt_at a0 (ji24); replace p29 := eq_true p29; replace q29 := eq_true q29; go_wp2; go_roundg kj5
                 case measure => have := HK1.out; have := HJ5.out; omega
                 case rel => exact ⟨(wrap64 (x7_1 + 1)), eqE_, H', ⟨by have := HK1.out; have := HJ5.out; omega⟩, drE_⟩
              · rw [if_neg c26] at H; exact absurd H (by simp)
             · rw [if_neg c25] at H; exact absurd H (by simp)
          · rw [if_neg c21] at H; have c21b0 : ((bt a0 x7_1) == 46) = false := beq_eq_false_iff_ne.mpr c21; have c21b1 : ((bt a0 x7_1) != 46) = true := bne_iff_ne.mpr c21; obtain rfl := Option.some.inj H; go_wp2; go_ret; exact ⟨eqE_, drE_⟩
     · rw [if_neg c4] at H; exact absurd H (by simp)
    · rw [if_neg c3] at H; exact absurd H (by simp)
   · rw [if_neg c2] at H; have c2b0 : decide (x7_1 < (a0.size : Int)) = false := decide_eq_false c2; clear c2; obtain rfl := Option.some.inj H; go_wp2; go_ret; exact ⟨eqE_, drE_⟩

/-! ### impl_usual: function 72 -/
def impl_usual.f (a0 : ByteArray) : Option (Int) := if a0.toList = ([104, 116, 116, 112] : List UInt8) then (some 80) else (some 443)
set_option maxHeartbeats 8000000 in
set_option maxRecDepth 100000 in
theorem impl_usual.calls (a0 : ByteArray) (r : Int) (w : World) (h : impl_usual.f a0 = some r) :
    Calls Tryz.prog 72 #[.string a0] w fun e w' => e = .returned (.int .i64 r) ∧ Drawn0 w w' := by
 have H : (if a0.toList = ([104, 116, 116, 112] : List UInt8) then (some 80) else (some 443)) = some r := h; clear h; by_cases c2 : a0.toList = ([104, 116, 116, 112] : List UInt8)
 · rw [if_pos c2] at H; have c2b0 : (a0.toList == ([104, 116, 116, 112] : List UInt8)) = true := beq_iff_eq.mpr c2; have c2b1 : (a0.toList != ([104, 116, 116, 112] : List UInt8)) = false := bne_eq_false_iff_eq.mpr c2; clear c2; obtain rfl := Option.some.inj H; go_enter Tryz.func72, Tryz.ntmps72; go_wp2; go_ret; exact ⟨eqE_, drE_⟩
 · rw [if_neg c2] at H; have c2b0 : (a0.toList == ([104, 116, 116, 112] : List UInt8)) = false := beq_eq_false_iff_ne.mpr c2; have c2b1 : (a0.toList != ([104, 116, 116, 112] : List UInt8)) = true := bne_iff_ne.mpr c2; obtain rfl := Option.some.inj H; go_enter Tryz.func72, Tryz.ntmps72; go_wp2; go_ret; exact ⟨eqE_, drE_⟩

/-! ### stringslite_HasPrefix: function 119 -/
def stringslite_HasPrefix.f (a0 : ByteArray) (a1 : ByteArray) : Option (Bool) := if (a0.size : Int) ≥ (a1.size : Int) then (if 0 ≤ (a1.size : Int) then (if (a1.size : Int) ≤ (a0.size : Int) then (some ((a0.extract 0 ((a1.size : Int) : Int).toNat).toList == a1.toList)) else (none)) else (none)) else (some false)
set_option maxHeartbeats 8000000 in
set_option maxRecDepth 100000 in
theorem stringslite_HasPrefix.calls (a0 : ByteArray) (a1 : ByteArray) (r : Bool) (w : World) (h : stringslite_HasPrefix.f a0 a1 = some r) :
    Calls Tryz.prog 119 #[.string a0, .string a1] w fun e w' => e = .returned (.bool r) ∧ Drawn0 w w' := by
 have H : (if (a0.size : Int) ≥ (a1.size : Int) then (if 0 ≤ (a1.size : Int) then (if (a1.size : Int) ≤ (a0.size : Int) then (some ((a0.extract 0 ((a1.size : Int) : Int).toNat).toList == a1.toList)) else (none)) else (none)) else (some false)) = some r := h; clear h; by_cases c3 : (a0.size : Int) ≥ (a1.size : Int)
 ·
  rw [if_pos c3] at H; have c3b0 : decide ((a1.size : Int) ≤ (a0.size : Int)) = true := decide_eq_true c3; have c3b1 : decide (a1.size ≤ a0.size) = true := decide_eq_true (Int.ofNat_le.mp c3); clear c3; by_cases c4 : 0 ≤ (a1.size : Int)
  ·
   rw [if_pos c4] at H; have c4b0 := eq_true c4; have c4b1 : decide (0 ≤ (a1.size : Int)) = true := decide_eq_true c4; clear c4; by_cases c5 : (a1.size : Int) ≤ (a0.size : Int)
   · rw [if_pos c5] at H; have c5b0 := eq_true c5; have c5b1 : decide ((a1.size : Int) ≤ (a0.size : Int)) = true := decide_eq_true c5; clear c5; obtain rfl := Option.some.inj H; go_enter Tryz.func119, Tryz.ntmps119; go_wp2; go_ret; exact ⟨eqE_, drE_⟩
   · rw [if_neg c5] at H; exact absurd H (by simp)
  · rw [if_neg c4] at H; exact absurd H (by simp)
 · rw [if_neg c3] at H; have c3b0 : decide ((a1.size : Int) ≤ (a0.size : Int)) = false := decide_eq_false c3; have c3b1 : decide (a1.size ≤ a0.size) = false := decide_eq_false (fun h => c3 (Int.ofNat_le.mpr h)); clear c3; obtain rfl := Option.some.inj H; go_enter Tryz.func119, Tryz.ntmps119; go_wp2; go_ret; exact ⟨eqE_, drE_⟩

/-! ### strings_HasPrefix: function 73 -/
def strings_HasPrefix.f (a0 : ByteArray) (a1 : ByteArray) : Option (Bool) := (stringslite_HasPrefix.f a0 a1).bind fun t202 => (some t202)
set_option maxHeartbeats 8000000 in
set_option maxRecDepth 100000 in
theorem strings_HasPrefix.calls (a0 : ByteArray) (a1 : ByteArray) (r : Bool) (w : World) (h : strings_HasPrefix.f a0 a1 = some r) :
    Calls Tryz.prog 73 #[.string a0, .string a1] w fun e w' => e = .returned (.bool r) ∧ Drawn0 w w' := by
 have H : ((stringslite_HasPrefix.f a0 a1).bind fun t202 => (some t202)) = some r := h; clear h; obtain ⟨t202, A3, H⟩ := bindE_ H; obtain rfl := Option.some.inj H; go_enter Tryz.func73, Tryz.ntmps73; go_wp2_with (first | ((with_reducible refine gate_callee (f := 119) rfl ?_); refine cU_ (some 7) Tryz.func119 #[.string a0, .string a1] ?_; (with_reducible refine (stringslite_HasPrefix.calls a0 a1 t202 _ A3.out).mono ?_); rintro e w' ⟨rfl, ⟨nd, rfl⟩⟩; refine ⟨_, rfl, ?_⟩)); go_ret; exact ⟨eqE_, drE_⟩

/-! ### strings_Contains: function 74, by hand -/
/-- At a text of one byte. -/
def strings_Contains.f (a0 : ByteArray) (a1 : ByteArray) : Option (Bool) := if a1.size = 1 then some (decide (0 ≤ Lib.indexByte a0.data.toList (a1.data.toList.getD 0 0))) else none
theorem strings_Contains.calls (a0 : ByteArray) (a1 : ByteArray) (r : Bool) (w : World) (h : strings_Contains.f a0 a1 = some r) :
    Calls Tryz.prog 74 #[.string a0, .string a1] w fun e w' => e = .returned (.bool r) ∧ Drawn0 w w' := by
  unfold strings_Contains.f at h; by_cases hb : a1.size = 1
  · rw [if_pos hb] at h
    cases h; obtain ⟨l⟩ := a1
    obtain ⟨c, rfl⟩ : ∃ c, l = #[c] := by
      obtain ⟨l⟩ := l; match l, hb with
      | [c], _ => exact ⟨c, rfl⟩
    refine (Tryz.strings_Contains_one a0 c w).mono ?_; rintro e w' ⟨rfl, rfl⟩; exact ⟨rfl, ⟨0, rfl⟩⟩
  · rw [if_neg hb] at h
    cases h

end Go.Proofs.YthifpohbdbhnlaaGreatDoor.QFnStp
