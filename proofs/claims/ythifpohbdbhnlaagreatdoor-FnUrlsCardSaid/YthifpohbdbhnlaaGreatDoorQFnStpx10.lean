/- A tool of this session wrote this text out of the translation: functions as plain Lean, and proofs that the machine's calls come to their answers. -/
import Derived.Test.YthifpohbdbhnlaaGreatDoorQShort
import Derived.Test.YthifpohbdbhnlaaGreatDoorQFnStpx0
import Derived.Test.YthifpohbdbhnlaaGreatDoorQFnStpx9
namespace Go.Proofs.YthifpohbdbhnlaaGreatDoor.QFnStp
open Go.RowKit Go.Proofs.YthifpohbdbhnlaaGreatDoorW.PrintWords Go.Proofs.YthifpohbdbhnlaaGreatDoorW.PrintLast Go.Proofs.YthifpohbdbhnlaaGreatDoorW.PrintMore
open Go.Proofs.YthifpohbdbhnlaaGreatDoor.Short
attribute [local go_sem] max2_int min2_int max_two min_two max_three min_three max_four min_four   -- for this text's walks alone
set_option linter.unusedVariables false
set_option linter.unusedSimpArgs false

/-! ### impl_areShown: function 68 -/
def impl_areShown.l0 : Nat → ByteArray → Int → Int → Option (Bool)
  | 0, _, _, _ => none
  | k + 1, x0, x5, x6 => if x6 < x5 then (if 0 ≤ x6 then (if x6 < (x0.size : Int) then ((impl_within.f (wrap64 (bt x0 x6)) 33 126).bind fun t199 => (if t199 = true then (impl_areShown.l0 k x0 x5 (wrap64 (x6 + 1))) else (some false))) else (none)) else (none)) else (some true)
def impl_areShown.f (k : Nat) (a0 : ByteArray) : Option (Bool) := impl_areShown.l0 k a0 (a0.size : Int) 0
theorem impl_areShown.mono_l : ∀ k, (∀ y0 y1 y2, LeO (impl_areShown.l0 k y0 y1 y2) (impl_areShown.l0 (k + 1) y0 y1 y2))
  | 0 => fun _ _ _ r h => by simp [impl_areShown.l0] at h
  | k + 1 => by
    have ih0 := impl_areShown.mono_l k
    · intro y0 y1 y2
      unfold impl_areShown.l0; repeat' first | (with_reducible exact ih0 _ _ _) | (with_reducible first | exact LeO.refl _ | exact LeO.none _ | refine LeO.ite ?_ ?_ | refine LeO.bind ?_ (fun _ => ?_)) | exact ih0 _ _ _ | exact LeO.none _ | refine LeO.ite ?_ ?_ | refine LeO.bind ?_ (fun _ => ?_)
theorem impl_areShown.mono : ∀ a0 k, LeO (impl_areShown.f k a0) (impl_areShown.f (k + 1) a0) := by
  intro a0 k; have ih0 := impl_areShown.mono_l k; unfold impl_areShown.f; repeat' first | (with_reducible exact ih0 _ _ _) | (with_reducible first | exact LeO.refl _ | exact LeO.none _ | refine LeO.ite ?_ ?_ | refine LeO.bind ?_ (fun _ => ?_)) | exact ih0 _ _ _ | exact LeO.none _ | refine LeO.ite ?_ ?_ | refine LeO.bind ?_ (fun _ => ?_)
set_option maxHeartbeats 8000000 in
set_option maxRecDepth 100000 in
theorem impl_areShown.calls (k : Nat) (a0 : ByteArray) (r : Bool) (w : World) (h : impl_areShown.f k a0 = some r) :
    Calls Tryz.prog 68 #[.string a0] w fun e w' => e = .returned (.bool r) ∧ Drawn0 w w' := by
 have H : (impl_areShown.l0 k a0 (a0.size : Int) 0) = some r := h; clear h; have H' := Aside0.mk H; clear H; go_enter Tryz.func68, Tryz.ntmps68; go_wp2; go_loopg [6] k (fun kq v6 w' => ∃ (a : Int), v6 = .int .i64 a ∧ Aside0 (impl_areShown.l0 kq a0 (a0.size : Int) a = some r) ∧ Aside0 (kq ≤ k) ∧ Drawn0 w w')
 case atStart => exact ⟨(0), eqE_, H', ⟨Nat.le_refl _⟩, drE_⟩
 case round =>
  clear H'; obtain ⟨a, rfl, HA, b, ⟨m1, rfl⟩⟩ := hrel; cases gk with
  | zero => exact absurd HA.out (by simp [impl_areShown.l0])
  | succ k1 =>
   have H := HA.out; clear HA; simp only [impl_areShown.l0] at H; by_cases c2 : a < (a0.size : Int)
   ·
    rw [if_pos c2] at H; have c : decide (a < (a0.size : Int)) = true := decide_eq_true c2; clear c2; by_cases c3 : 0 ≤ a
    ·
     rw [if_pos c3] at H; have i : decide (0 ≤ a) = true := decide_eq_true c3; clear c3; by_cases c4 : a < (a0.size : Int)
     ·
      rw [if_pos c4] at H; have j : decide (a < (a0.size : Int)) = true := decide_eq_true c4; clear c4; obtain ⟨d, A6, H⟩ := bindE_ H; by_cases c7 : d = true
      ·
       subst c7; replace H := ifT_ H; have H' := Aside0.mk H; clear H; have p5 : 0 ≤ (a : Int) := ofd_; have q5 : a < (a0.size : Int) := ofd_; have g := bt_at a0 a; replace p5 := eq_true p5; replace q5 := eq_true q5; go_wp2_with (first | ((with_reducible refine gate_callee (f := 71) rfl ?_); refine cU_ (some 13) Tryz.func71 #[.int .i64 (wrap64 (bt a0 a)), .int .i64 33, .int .i64 126] ?_; (with_reducible refine (impl_within.calls (wrap64 (bt a0 a)) 33 126 true _ A6.out).mono ?_); rintro e w' ⟨rfl, ⟨nd, rfl⟩⟩; refine ⟨_, rfl, ?_⟩)); go_roundg k1
       case measure => have := b.out; omega
       case rel => exact ⟨(wrap64 (a + 1)), eqE_, H', ⟨by have := b.out; omega⟩, drE_⟩
      · replace c7 := Bool.eq_false_iff.mpr c7; subst c7; replace H := ifF_ H; obtain rfl := Option.some.inj H; have p5 : 0 ≤ (a : Int) := ofd_; have q5 : a < (a0.size : Int) := ofd_; have g := bt_at a0 a; replace p5 := eq_true p5; replace q5 := eq_true q5; go_wp2_with (first | ((with_reducible refine gate_callee (f := 71) rfl ?_); refine cU_ (some 13) Tryz.func71 #[.int .i64 (wrap64 (bt a0 a)), .int .i64 33, .int .i64 126] ?_; (with_reducible refine (impl_within.calls (wrap64 (bt a0 a)) 33 126 false _ A6.out).mono ?_); rintro e w' ⟨rfl, ⟨nd, rfl⟩⟩; refine ⟨_, rfl, ?_⟩)); go_ret; exact ⟨eqE_, drE_⟩
     · rw [if_neg c4] at H; exact absurd H (by simp)
    · rw [if_neg c3] at H; exact absurd H (by simp)
   · rw [if_neg c2] at H; have c : decide (a < (a0.size : Int)) = false := decide_eq_false c2; clear c2; obtain rfl := Option.some.inj H; go_wp2; go_ret; exact ⟨eqE_, drE_⟩

/-! ### strings_ContainsAny: function 69, by hand -/
/-- Bytes below 128 alone. -/
def strings_ContainsAny.ok (s : ByteArray) : Bool := s.data.toList.all fun b => decide (b.toNat < 128)
theorem strings_ContainsAny.at_ {s : ByteArray} (h : strings_ContainsAny.ok s = true) : ∀ (j : Nat) (b : UInt8), s.data.toList[j]? = some b → b.toNat < 128 := fun j b hb => of_decide_eq_true (List.all_eq_true.1 h b (List.mem_of_getElem? hb))
def strings_ContainsAny.f (a0 : ByteArray) (a1 : ByteArray) : Option (Bool) := if a0.size < 4294967281 ∧ a1.size < 4294967281 ∧ strings_ContainsAny.ok a0 = true ∧ strings_ContainsAny.ok a1 = true then some (Lib.containsAny a0.data.toList a1.data.toList) else none
theorem strings_ContainsAny.calls (a0 : ByteArray) (a1 : ByteArray) (r : Bool) (w : World) (h : strings_ContainsAny.f a0 a1 = some r) :
    Calls Tryz.prog 69 #[.string a0, .string a1] w fun e w' => e = .returned (.bool r) ∧ Below w.heap.size w w' := by
  unfold strings_ContainsAny.f at h; by_cases hb : a0.size < 4294967281 ∧ a1.size < 4294967281 ∧ strings_ContainsAny.ok a0 = true ∧ strings_ContainsAny.ok a1 = true
  · rw [if_pos hb] at h
    cases h; exact Tryz.strings_ContainsAny_laid a0 a1 w hb.1 hb.2.1 (strings_ContainsAny.at_ hb.2.2.1) (strings_ContainsAny.at_ hb.2.2.2)
  · rw [if_neg hb] at h
    cases h

/-! ### impl_isHost: function 70 -/
mutual
def impl_isHost.l0 : Nat → ByteArray → Int → Int → Option (Bool)
  | 0, _, _, _ => none
  | k + 1, x0, x6, x7 => if x7 < x6 then (if 0 ≤ x7 then (if x7 < (x0.size : Int) then ((impl_isLower.f (bt x0 x7)).bind fun t200 => (if t200 = true then (impl_isHost.j1 k x0 x7 (bt x0 x7) x6 x7 true) else ((impl_isDigit.f (bt x0 x7)).bind fun t201 => (impl_isHost.j1 k x0 x7 (bt x0 x7) x6 x7 t201)))) else (none)) else (none)) else (some (x0.toList != ([] : List UInt8)))
def impl_isHost.j1 : Nat → ByteArray → Int → Int → Int → Int → Bool → Option (Bool)
  | 0, _, _, _, _, _, _ => none
  | k + 1, x0, x3, x4, x6, x7, x18 => if x18 = true then (impl_isHost.l0 k x0 x6 (wrap64 (x7 + 1))) else (if x4 = 45 then (if x3 = 0 then (some false) else (if x3 = (wrap64 ((x0.size : Int) - 1)) then (some false) else (if 0 ≤ (wrap64 (x3 - 1)) then (if (wrap64 (x3 - 1)) < (x0.size : Int) then (if (bt x0 (wrap64 (x3 - 1))) = 45 then (some false) else (if (bt x0 (wrap64 (x3 - 1))) = 46 then (some false) else (impl_isHost.l0 k x0 x6 (wrap64 (x7 + 1))))) else (none)) else (none)))) else (if x4 = 46 then (if x3 = 0 then (some false) else (if x3 = (wrap64 ((x0.size : Int) - 1)) then (some false) else (if 0 ≤ (wrap64 (x3 - 1)) then (if (wrap64 (x3 - 1)) < (x0.size : Int) then (if (bt x0 (wrap64 (x3 - 1))) = 45 then (some false) else (if (bt x0 (wrap64 (x3 - 1))) = 46 then (some false) else (impl_isHost.l0 k x0 x6 (wrap64 (x7 + 1))))) else (none)) else (none)))) else (some false)))
end
def impl_isHost.f (k : Nat) (a0 : ByteArray) : Option (Bool) := impl_isHost.l0 k a0 (a0.size : Int) 0
theorem impl_isHost.mono_l : ∀ k, (∀ y0 y1 y2, LeO (impl_isHost.l0 k y0 y1 y2) (impl_isHost.l0 (k + 1) y0 y1 y2)) ∧ (∀ y0 y1 y2 y3 y4 y5, LeO (impl_isHost.j1 k y0 y1 y2 y3 y4 y5) (impl_isHost.j1 (k + 1) y0 y1 y2 y3 y4 y5))
  | 0 => ⟨fun _ _ _ r h => by simp [impl_isHost.l0] at h, fun _ _ _ _ _ _ r h => by simp [impl_isHost.j1] at h⟩
  | k + 1 => by
    obtain ⟨ih0, ih1⟩ := impl_isHost.mono_l k; refine ⟨?_, ?_⟩
    · intro y0 y1 y2
      unfold impl_isHost.l0; repeat' first | (with_reducible exact ih0 _ _ _) | (with_reducible exact ih1 _ _ _ _ _ _) | (with_reducible first | exact LeO.refl _ | exact LeO.none _ | refine LeO.ite ?_ ?_ | refine LeO.bind ?_ (fun _ => ?_)) | exact ih0 _ _ _ | exact ih1 _ _ _ _ _ _ | exact LeO.none _ | refine LeO.ite ?_ ?_ | refine LeO.bind ?_ (fun _ => ?_)
    · intro y0 y1 y2 y3 y4 y5
      unfold impl_isHost.j1; repeat' first | (with_reducible exact ih0 _ _ _) | (with_reducible exact ih1 _ _ _ _ _ _) | (with_reducible first | exact LeO.refl _ | exact LeO.none _ | refine LeO.ite ?_ ?_ | refine LeO.bind ?_ (fun _ => ?_)) | exact ih0 _ _ _ | exact ih1 _ _ _ _ _ _ | exact LeO.none _ | refine LeO.ite ?_ ?_ | refine LeO.bind ?_ (fun _ => ?_)
theorem impl_isHost.mono : ∀ a0 k, LeO (impl_isHost.f k a0) (impl_isHost.f (k + 1) a0) := by
  intro a0 k; obtain ⟨ih0, ih1⟩ := impl_isHost.mono_l k; unfold impl_isHost.f; repeat' first | (with_reducible exact ih0 _ _ _) | (with_reducible exact ih1 _ _ _ _ _ _) | (with_reducible first | exact LeO.refl _ | exact LeO.none _ | refine LeO.ite ?_ ?_ | refine LeO.bind ?_ (fun _ => ?_)) | exact ih0 _ _ _ | exact ih1 _ _ _ _ _ _ | exact LeO.none _ | refine LeO.ite ?_ ?_ | refine LeO.bind ?_ (fun _ => ?_)
set_option maxHeartbeats 8000000 in
set_option maxRecDepth 100000 in
theorem impl_isHost.calls (k : Nat) (a0 : ByteArray) (r : Bool) (w : World) (h : impl_isHost.f k a0 = some r) :
    Calls Tryz.prog 70 #[.string a0] w fun e w' => e = .returned (.bool r) ∧ Drawn0 w w' := by
 have H : (impl_isHost.l0 k a0 (a0.size : Int) 0) = some r := h; clear h; have H' := Aside0.mk H; clear H; go_enter Tryz.func70, Tryz.ntmps70; go_wp2; go_loopg [7] k (fun kq v7 w' => ∃ (a : Int), v7 = .int .i64 a ∧ Aside0 (impl_isHost.l0 kq a0 (a0.size : Int) a = some r) ∧ Aside0 (kq ≤ k) ∧ Drawn0 w w')
 case atStart => exact ⟨(0), eqE_, H', ⟨Nat.le_refl _⟩, drE_⟩
 case round =>
  clear H'; obtain ⟨a, rfl, HA, b, ⟨m1, rfl⟩⟩ := hrel; cases gk with
  | zero => exact absurd HA.out (by simp [impl_isHost.l0])
  | succ k1 =>
   have H := HA.out; clear HA; simp only [impl_isHost.l0] at H; by_cases c2 : a < (a0.size : Int)
   ·
    rw [if_pos c2] at H; have K : decide (a < (a0.size : Int)) = true := decide_eq_true c2; clear c2; by_cases c3 : 0 ≤ a
    ·
     rw [if_pos c3] at H; have a9 : decide (0 ≤ a) = true := decide_eq_true c3; clear c3; by_cases c4 : a < (a0.size : Int)
     ·
      rw [if_pos c4] at H; have aa : decide (a < (a0.size : Int)) = true := decide_eq_true c4; clear c4; have J := Aside0.mk H; clear H; have p5 : 0 ≤ (a : Int) := ofd_; have q5 : a < (a0.size : Int) := ofd_; have ae := bt_at a0 a; replace p5 := eq_true p5; replace q5 := eq_true q5; go_upto_region 5 with (fail)
      go_cut [18] (fun af wc => ∃ (kq : Nat) (C : Bool), af = .bool C ∧ Aside0 (impl_isHost.j1 kq a0 a (bt a0 a) (a0.size : Int) a C = some r) ∧ Aside0 (kq ≤ k1) ∧ Drawn0 w wc)
      case first =>
       have H := J.out; clear J; obtain ⟨ab, A7, H⟩ := bindE_ H; by_cases c8 : ab = true
       ·
        subst c8; replace H := ifT_ H; have H' := Aside0.mk H; clear H; go_wp2_with (first | ((with_reducible refine gate_callee (f := 116) rfl ?_); refine cU_ (some 14) Tryz.func116 #[.int .u8 (bt a0 a)] ?_; (with_reducible refine (impl_isLower.calls (bt a0 a) true _ A7.out).mono ?_); rintro e w' ⟨rfl, ⟨nd, rfl⟩⟩; refine ⟨_, rfl, ?_⟩)); go_meet
        case rel => exact ⟨_, (true), eqE_, H', ⟨by have := b.out; first | omega | exact Nat.le_refl _⟩, drE_⟩
       ·
        replace c8 := Bool.eq_false_iff.mpr c8; subst c8; replace H := ifF_ H; obtain ⟨L, A9, H⟩ := bindE_ H; have H' := Aside0.mk H; clear H; go_wp2_with (first | ((with_reducible refine gate_callee (f := 116) rfl ?_); refine cU_ (some 14) Tryz.func116 #[.int .u8 (bt a0 a)] ?_; (with_reducible refine (impl_isLower.calls (bt a0 a) false _ A7.out).mono ?_); rintro e w' ⟨rfl, ⟨nd, rfl⟩⟩; refine ⟨_, rfl, ?_⟩) | (go_at_call 117; (with_reducible refine (impl_isDigit.calls (bt a0 a) L _ A9.out).mono ?_); rintro e w' ⟨rfl, ⟨nd, rfl⟩⟩)); go_meet
        case rel => exact ⟨_, (L), eqE_, H', ⟨by have := b.out; first | omega | exact Nat.le_refl _⟩, drE_⟩
      case rest =>
       clear J; try clear c2
       try clear K
       try clear c3
       try clear a9
       try clear c4
       try clear aa
       try clear p5
       try clear q5
       try clear ae
       try clear p5
       try clear q5
       obtain ⟨kq, C, rfl, HA, v, ⟨mc5, rfl⟩⟩ := hcut; cases kq with
       | zero => exact absurd HA.out (by simp [impl_isHost.j1])
       | succ x =>
        have H := HA.out; clear HA; simp only [impl_isHost.j1] at H; by_cases D : C = true
        ·
         subst D; replace H := ifT_ H; have H' := Aside0.mk H; clear H; go_wp2; go_roundg x
         case measure => have := b.out; have := v.out; omega
         case rel => exact ⟨(wrap64 (a + 1)), eqE_, H', ⟨by have := b.out; have := v.out; omega⟩, drE_⟩
        ·
         replace D := Bool.eq_false_iff.mpr D; subst D; replace H := ifF_ H; by_cases j : (bt a0 a) = 45
         ·
          rw [if_pos j] at H; have O : ((bt a0 a) == 45) = true := beq_iff_eq.mpr j; have P : ((bt a0 a) != 45) = false := bne_eq_false_iff_eq.mpr j; clear j; by_cases l : a = 0
          · rw [if_pos l] at H; have Q : (a == 0) = true := beq_iff_eq.mpr l; have R : (a != 0) = false := bne_eq_false_iff_eq.mpr l; clear l; obtain rfl := Option.some.inj H; go_wp2; go_ret; exact ⟨eqE_, drE_⟩
          ·
           rw [if_neg l] at H; have Q : (a == 0) = false := beq_eq_false_iff_ne.mpr l; have R : (a != 0) = true := bne_iff_ne.mpr l; by_cases m : a = (wrap64 ((a0.size : Int) - 1))
           · rw [if_pos m] at H; have S : (a == (wrap64 ((a0.size : Int) - 1))) = true := beq_iff_eq.mpr m; have T : (a != (wrap64 ((a0.size : Int) - 1))) = false := bne_eq_false_iff_eq.mpr m; clear m; obtain rfl := Option.some.inj H; go_wp2; go_ret; exact ⟨eqE_, drE_⟩
           ·
            rw [if_neg m] at H; have S : (a == (wrap64 ((a0.size : Int) - 1))) = false := beq_eq_false_iff_ne.mpr m; have T : (a != (wrap64 ((a0.size : Int) - 1))) = true := bne_iff_ne.mpr m; obtain ⟨ji14, hji14⟩ : ∃ j_ : Int, (wrap64 (a - 1)) = j_ := ⟨_, rfl⟩
            replace H : (if 0 ≤ (ji14) then (if (ji14) < (a0.size : Int) then (if (bt a0 (ji14)) = 45 then (some false) else (if (bt a0 (ji14)) = 46 then (some false) else (impl_isHost.l0 x a0 (a0.size : Int) (wrap64 (a + 1))))) else (none)) else (none)) = some r := by first | (rw [hji14] at H; exact H) | (simp only [hji14] at H ⊢; exact H)
            have hji14w : (IntKind.i64.wrap (a - 1)) = ji14 := (i64_w _).trans hji14; by_cases E : 0 ≤ (ji14)
            ·
             rw [if_pos E] at H; have ag : decide (0 ≤ (ji14)) = true := decide_eq_true E; clear E; by_cases F : (ji14) < (a0.size : Int)
             ·
              rw [if_pos F] at H; have ah : decide ((ji14) < (a0.size : Int)) = true := decide_eq_true F; clear F; by_cases n : (bt a0 (ji14)) = 45
              · rw [if_pos n] at H; have U : ((bt a0 (ji14)) == 45) = true := beq_iff_eq.mpr n; have V : ((bt a0 (ji14)) != 45) = false := bne_eq_false_iff_eq.mpr n; clear n; obtain rfl := Option.some.inj H; have c : 0 ≤ ((ji14) : Int) := ofd_; have d : (ji14) < (a0.size : Int) := ofd_; have M := bt_at a0 (ji14); replace c := eq_true c; replace d := eq_true d; go_wp2; go_ret; exact ⟨by first | rfl | (simp; done) | (simp only [← hji14] <;> (first | rfl | simp)) | (simp [*]; done), drE_⟩
              ·
               rw [if_neg n] at H; have U : ((bt a0 (ji14)) == 45) = false := beq_eq_false_iff_ne.mpr n; have V : ((bt a0 (ji14)) != 45) = true := bne_iff_ne.mpr n; by_cases o : (bt a0 (ji14)) = 46
               · rw [if_pos o] at H; have W : ((bt a0 (ji14)) == 46) = true := beq_iff_eq.mpr o; have X : ((bt a0 (ji14)) != 46) = false := bne_eq_false_iff_eq.mpr o; clear o; obtain rfl := Option.some.inj H; have c : 0 ≤ ((ji14) : Int) := ofd_; have d : (ji14) < (a0.size : Int) := ofd_; have M := bt_at a0 (ji14); replace c := eq_true c; replace d := eq_true d; have y : 0 ≤ ((ji14) : Int) := ofd_; have z : (ji14) < (a0.size : Int) := ofd_; have ac := bt_at a0 (ji14); replace y := eq_true y; replace z := eq_true z; go_wp2; go_ret; exact ⟨by first | rfl | (simp; done) | (simp only [← hji14] <;> (first | rfl | simp)) | (simp [*]; done), drE_⟩
               ·
                rw [if_neg o] at H; have W : ((bt a0 (ji14)) == 46) = false := beq_eq_false_iff_ne.mpr o; have X : ((bt a0 (ji14)) != 46) = true := bne_iff_ne.mpr o; have H' := Aside0.mk H; clear H; have c : 0 ≤ ((ji14) : Int) := ofd_; have d : (ji14) < (a0.size : Int) := ofd_; have M := bt_at a0 (ji14); replace c := eq_true c; replace d := eq_true d; have y : 0 ≤ ((ji14) : Int) := ofd_; have z : (ji14) < (a0.size : Int) := ofd_; have ac := bt_at a0 (ji14); replace y := eq_true y; replace z := eq_true z; go_wp2; go_roundg x
                case measure => have := b.out; have := v.out; omega
                case rel => exact ⟨(wrap64 (a + 1)), eqE_, H', ⟨by have := b.out; have := v.out; omega⟩, drE_⟩
             · rw [if_neg F] at H; exact absurd H (by simp)
            · rw [if_neg E] at H; exact absurd H (by simp)
         ·
          rw [if_neg j] at H; have O : ((bt a0 a) == 45) = false := beq_eq_false_iff_ne.mpr j; have P : ((bt a0 a) != 45) = true := bne_iff_ne.mpr j; by_cases p : (bt a0 a) = 46
          ·
           rw [if_pos p] at H; have Y : ((bt a0 a) == 46) = true := beq_iff_eq.mpr p; have Z : ((bt a0 a) != 46) = false := bne_eq_false_iff_eq.mpr p; clear p; by_cases q : a = 0
           · rw [if_pos q] at H; have a1 : (a == 0) = true := beq_iff_eq.mpr q; have a2 : (a != 0) = false := bne_eq_false_iff_eq.mpr q; clear q; obtain rfl := Option.some.inj H; go_wp2; go_ret; exact ⟨eqE_, drE_⟩
           ·
            rw [if_neg q] at H; have a1 : (a == 0) = false := beq_eq_false_iff_ne.mpr q; have a2 : (a != 0) = true := bne_iff_ne.mpr q; by_cases s : a = (wrap64 ((a0.size : Int) - 1))
            · rw [if_pos s] at H; have a3 : (a == (wrap64 ((a0.size : Int) - 1))) = true := beq_iff_eq.mpr s; have a4 : (a != (wrap64 ((a0.size : Int) - 1))) = false := bne_eq_false_iff_eq.mpr s; clear s; obtain rfl := Option.some.inj H; go_wp2; go_ret; exact ⟨eqE_, drE_⟩
            ·
             rw [if_neg s] at H; have a3 : (a == (wrap64 ((a0.size : Int) - 1))) = false := beq_eq_false_iff_ne.mpr s; have a4 : (a != (wrap64 ((a0.size : Int) - 1))) = true := bne_iff_ne.mpr s; obtain ⟨ji24, hji24⟩ : ∃ j_ : Int, (wrap64 (a - 1)) = j_ := ⟨_, rfl⟩
             replace H : (if 0 ≤ (ji24) then (if (ji24) < (a0.size : Int) then (if (bt a0 (ji24)) = 45 then (some false) else (if (bt a0 (ji24)) = 46 then (some false) else (impl_isHost.l0 x a0 (a0.size : Int) (wrap64 (a + 1))))) else (none)) else (none)) = some r := by first | (rw [hji24] at H; exact H) | (simp only [hji24] at H ⊢; exact H)
             have hji24w : (IntKind.i64.wrap (a - 1)) = ji24 := (i64_w _).trans hji24; by_cases G : 0 ≤ (ji24)
             ·
              rw [if_pos G] at H; have ai : decide (0 ≤ (ji24)) = true := decide_eq_true G; clear G; by_cases I : (ji24) < (a0.size : Int)
              ·
               rw [if_pos I] at H; have aj : decide ((ji24) < (a0.size : Int)) = true := decide_eq_true I; clear I; by_cases t : (bt a0 (ji24)) = 45
               · rw [if_pos t] at H; have a5 : ((bt a0 (ji24)) == 45) = true := beq_iff_eq.mpr t; have a6 : ((bt a0 (ji24)) != 45) = false := bne_eq_false_iff_eq.mpr t; clear t; obtain rfl := Option.some.inj H; have g : 0 ≤ ((ji24) : Int) := ofd_; have i : (ji24) < (a0.size : Int) := ofd_; have N := bt_at a0 (ji24); replace g := eq_true g; replace i := eq_true i; go_wp2; go_ret; exact ⟨by first | rfl | (simp; done) | (simp only [← hji24] <;> (first | rfl | simp)) | (simp [*]; done), drE_⟩
               ·
                rw [if_neg t] at H; have a5 : ((bt a0 (ji24)) == 45) = false := beq_eq_false_iff_ne.mpr t; have a6 : ((bt a0 (ji24)) != 45) = true := bne_iff_ne.mpr t; by_cases u : (bt a0 (ji24)) = 46
                · rw [if_pos u] at H; have a7 : ((bt a0 (ji24)) == 46) = true := beq_iff_eq.mpr u; have a8 : ((bt a0 (ji24)) != 46) = false := bne_eq_false_iff_eq.mpr u; clear u; obtain rfl := Option.some.inj H; have g : 0 ≤ ((ji24) : Int) := ofd_; have i : (ji24) < (a0.size : Int) := ofd_; have N := bt_at a0 (ji24); replace g := eq_true g; replace i := eq_true i; have A : 0 ≤ ((ji24) : Int) := ofd_; have B : (ji24) < (a0.size : Int) := ofd_; have ad := bt_at a0 (ji24); replace A := eq_true A; replace B := eq_true B; go_wp2; go_ret; exact ⟨by first | rfl | (simp; done) | (simp only [← hji24] <;> (first | rfl | simp)) | (simp [*]; done), drE_⟩
                ·
                 rw [if_neg u] at H; have a7 : ((bt a0 (ji24)) == 46) = false := beq_eq_false_iff_ne.mpr u; have a8 : ((bt a0 (ji24)) != 46) = true := bne_iff_ne.mpr u; have H' := Aside0.mk H; clear H; have g : 0 ≤ ((ji24) : Int) := ofd_; have i : (ji24) < (a0.size : Int) := ofd_; have N := bt_at a0 (ji24); replace g := eq_true g; replace i := eq_true i; have A : 0 ≤ ((ji24) : Int) := ofd_; have B : (ji24) < (a0.size : Int) := ofd_; have ad := bt_at a0 (ji24); replace A := eq_true A; replace B := eq_true B; go_wp2; go_roundg x
                 case measure => have := b.out; have := v.out; omega
                 case rel => exact ⟨(wrap64 (a + 1)), eqE_, H', ⟨by have := b.out; have := v.out; omega⟩, drE_⟩
              · rw [if_neg I] at H; exact absurd H (by simp)
             · rw [if_neg G] at H; exact absurd H (by simp)
          · rw [if_neg p] at H; have Y : ((bt a0 a) == 46) = false := beq_eq_false_iff_ne.mpr p; have Z : ((bt a0 a) != 46) = true := bne_iff_ne.mpr p; obtain rfl := Option.some.inj H; go_wp2; go_ret; exact ⟨eqE_, drE_⟩
     · rw [if_neg c4] at H; exact absurd H (by simp)
    · rw [if_neg c3] at H; exact absurd H (by simp)
   · rw [if_neg c2] at H; have K : decide (a < (a0.size : Int)) = false := decide_eq_false c2; clear c2; obtain rfl := Option.some.inj H; go_wp2; go_ret; exact ⟨eqE_, drE_⟩

/-! ### impl_usual: function 72 -/
def impl_usual.f (a0 : ByteArray) : Option (Int) := if a0.toList = ([104, 116, 116, 112] : List UInt8) then (some 80) else (some 443)
set_option maxHeartbeats 8000000 in
set_option maxRecDepth 100000 in
theorem impl_usual.calls (a0 : ByteArray) (r : Int) (w : World) (h : impl_usual.f a0 = some r) :
    Calls Tryz.prog 72 #[.string a0] w fun e w' => e = .returned (.int .i64 r) ∧ Drawn0 w w' := by
 have H : (if a0.toList = ([104, 116, 116, 112] : List UInt8) then (some 80) else (some 443)) = some r := h; clear h; by_cases c2 : a0.toList = ([104, 116, 116, 112] : List UInt8)
 · rw [if_pos c2] at H; have c2b0 : (a0.toList == ([104, 116, 116, 112] : List UInt8)) = true := beq_iff_eq.mpr c2; have c2b1 : (a0.toList != ([104, 116, 116, 112] : List UInt8)) = false := bne_eq_false_iff_eq.mpr c2; clear c2; obtain rfl := Option.some.inj H; go_enter Tryz.func72, Tryz.ntmps72; go_wp2; go_ret; exact ⟨eqE_, drE_⟩
 · rw [if_neg c2] at H; have c2b0 : (a0.toList == ([104, 116, 116, 112] : List UInt8)) = false := beq_eq_false_iff_ne.mpr c2; have c2b1 : (a0.toList != ([104, 116, 116, 112] : List UInt8)) = true := bne_iff_ne.mpr c2; obtain rfl := Option.some.inj H; go_enter Tryz.func72, Tryz.ntmps72; go_wp2; go_ret; exact ⟨eqE_, drE_⟩

/-! ### stringslite_HasPrefix: function 119 -/
def stringslite_HasPrefix.f (a0 : ByteArray) (a1 : ByteArray) : Option (Bool) := if (a0.size : Int) ≥ (a1.size : Int) then (if 0 ≤ (a1.size : Int) then (if (a1.size : Int) ≤ (a0.size : Int) then (some ((a0.extract 0 ((a1.size : Int) : Int).toNat).toList == a1.toList)) else (none)) else (none)) else (some false)
set_option maxHeartbeats 8000000 in
set_option maxRecDepth 100000 in
theorem stringslite_HasPrefix.calls (a0 : ByteArray) (a1 : ByteArray) (r : Bool) (w : World) (h : stringslite_HasPrefix.f a0 a1 = some r) :
    Calls Tryz.prog 119 #[.string a0, .string a1] w fun e w' => e = .returned (.bool r) ∧ Drawn0 w w' := by
 have H := h; clear h; unfold stringslite_HasPrefix.f at H; by_cases c3 : (a0.size : Int) ≥ (a1.size : Int)
 ·
  rw [if_pos c3] at H; have c3b0 : decide ((a1.size : Int) ≤ (a0.size : Int)) = true := decide_eq_true c3; have c3b1 : decide (a1.size ≤ a0.size) = true := decide_eq_true (Int.ofNat_le.mp c3); clear c3; by_cases c4 : 0 ≤ (a1.size : Int)
  ·
   rw [if_pos c4] at H; have c4b0 := eq_true c4; have c4b1 : decide (0 ≤ (a1.size : Int)) = true := decide_eq_true c4; clear c4; by_cases c5 : (a1.size : Int) ≤ (a0.size : Int)
   · rw [if_pos c5] at H; have c5b0 := eq_true c5; have c5b1 : decide ((a1.size : Int) ≤ (a0.size : Int)) = true := decide_eq_true c5; clear c5; obtain rfl := Option.some.inj H; go_enter Tryz.func119, Tryz.ntmps119; go_wp2; go_ret; exact ⟨eqE_, drE_⟩
   · rw [if_neg c5] at H; exact absurd H (by simp)
  · rw [if_neg c4] at H; exact absurd H (by simp)
 · rw [if_neg c3] at H; have c3b0 : decide ((a1.size : Int) ≤ (a0.size : Int)) = false := decide_eq_false c3; have c3b1 : decide (a1.size ≤ a0.size) = false := decide_eq_false (fun h => c3 (Int.ofNat_le.mpr h)); clear c3; obtain rfl := Option.some.inj H; go_enter Tryz.func119, Tryz.ntmps119; go_wp2; go_ret; exact ⟨eqE_, drE_⟩

/-! ### strings_HasPrefix: function 73 -/
def strings_HasPrefix.f (a0 : ByteArray) (a1 : ByteArray) : Option (Bool) := (stringslite_HasPrefix.f a0 a1).bind fun t202 => (some t202)
set_option maxHeartbeats 8000000 in
set_option maxRecDepth 100000 in
theorem strings_HasPrefix.calls (a0 : ByteArray) (a1 : ByteArray) (r : Bool) (w : World) (h : strings_HasPrefix.f a0 a1 = some r) :
    Calls Tryz.prog 73 #[.string a0, .string a1] w fun e w' => e = .returned (.bool r) ∧ Drawn0 w w' := by
 have H : ((stringslite_HasPrefix.f a0 a1).bind fun t202 => (some t202)) = some r := h; clear h; obtain ⟨t202, A3, H⟩ := bindE_ H; obtain rfl := Option.some.inj H; go_enter Tryz.func73, Tryz.ntmps73; go_wp2_with (first | ((with_reducible refine gate_callee (f := 119) rfl ?_); refine cU_ (some 7) Tryz.func119 #[.string a0, .string a1] ?_; (with_reducible refine (stringslite_HasPrefix.calls a0 a1 t202 _ A3.out).mono ?_); rintro e w' ⟨rfl, ⟨nd, rfl⟩⟩; refine ⟨_, rfl, ?_⟩)); go_ret; exact ⟨eqE_, drE_⟩

/-! ### strings_Contains: function 74, by hand -/
/-- At a text of one byte. -/
def strings_Contains.f (a0 : ByteArray) (a1 : ByteArray) : Option (Bool) := if a1.size = 1 then some (decide (0 ≤ Lib.indexByte a0.data.toList (a1.data.toList.getD 0 0))) else none
theorem strings_Contains.calls (a0 : ByteArray) (a1 : ByteArray) (r : Bool) (w : World) (h : strings_Contains.f a0 a1 = some r) :
    Calls Tryz.prog 74 #[.string a0, .string a1] w fun e w' => e = .returned (.bool r) ∧ Drawn0 w w' := by
  unfold strings_Contains.f at h; by_cases hb : a1.size = 1
  · rw [if_pos hb] at h
    cases h; obtain ⟨l⟩ := a1
    obtain ⟨c, rfl⟩ : ∃ c, l = #[c] := by
      obtain ⟨l⟩ := l; match l, hb with
      | [c], _ => exact ⟨c, rfl⟩
    refine (Tryz.strings_Contains_one a0 c w).mono ?_; rintro e w' ⟨rfl, rfl⟩; exact ⟨rfl, ⟨0, rfl⟩⟩
  · rw [if_neg hb] at h
    cases h

end Go.Proofs.YthifpohbdbhnlaaGreatDoor.QFnStp
