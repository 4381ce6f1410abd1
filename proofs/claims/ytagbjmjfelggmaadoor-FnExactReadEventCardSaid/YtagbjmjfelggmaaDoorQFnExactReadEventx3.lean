/- A tool of this session wrote this text out of the translation: functions as plain Lean, and proofs that the machine's calls come to their answers. -/
import Derived.Test.YtagbjmjfelggmaaDoorQShort
import Derived.Test.YtagbjmjfelggmaaDoorQFnExactReadEventx0
namespace Go.Proofs.YtagbjmjfelggmaaDoor.QFnExactReadEvent
open Go.RowKit Go.Proofs.YtagbjmjfelggmaaDoorW.PrintWords Go.Proofs.YtagbjmjfelggmaaDoorW.PrintLast Go.Proofs.YtagbjmjfelggmaaDoorW.PrintMore
open Go.Proofs.YtagbjmjfelggmaaDoor.Short
attribute [local go_sem] max2_int min2_int max_two min_two max_three min_three max_four min_four   -- for this text's walks alone
set_option linter.unusedVariables false
set_option linter.unusedSimpArgs false

/-! ### spec_l01In: function 22 -/
def spec_l01In.f (a0 : Int) (a1 : Int) (a2 : Int) : Option (Bool) := if a0 ≥ a1 then (some (decide (a0 ≤ a2))) else (some false)
set_option maxHeartbeats 8000000 in
set_option maxRecDepth 100000 in
theorem spec_l01In.calls (a0 : Int) (a1 : Int) (a2 : Int) (r : Bool) (w : World) (h : spec_l01In.f a0 a1 a2 = some r) :
    Calls Tryd.prog 22 #[.int .i64 a0, .int .i64 a1, .int .i64 a2] w fun e w' => e = .returned (.bool r) ∧ Drawn0 w w' := by
 have H : (if a0 ≥ a1 then (some (decide (a0 ≤ a2))) else (some false)) = some r := h; clear h; by_cases c4 : a0 ≥ a1
 · rw [if_pos c4] at H; have c4b0 : decide (a1 ≤ a0) = true := decide_eq_true c4; clear c4; obtain rfl := Option.some.inj H; go_enter Tryd.func22, Tryd.ntmps22; go_wp2; go_ret; exact ⟨eqE_, drE_⟩
 · rw [if_neg c4] at H; have c4b0 : decide (a1 ≤ a0) = false := decide_eq_false c4; clear c4; obtain rfl := Option.some.inj H; go_enter Tryd.func22, Tryd.ntmps22; go_wp2; go_ret; exact ⟨eqE_, drE_⟩

/-! ### spec_l04Name: function 45 -/
def spec_l04Name.l0 : Nat → ByteArray → Int → Option (Bool)
  | 0, _, _ => none
  | k + 1, x0, x3 => if x3 < (x0.size : Int) then (if 0 ≤ x3 then (if (bt x0 x3) < 97 then (if (bt x0 x3) = 45 then (if x3 = 0 then (some false) else (spec_l04Name.l0 k x0 (wrap64 (x3 + 1)))) else (some false)) else (if (bt x0 x3) > 122 then (if (bt x0 x3) = 45 then (if x3 = 0 then (some false) else (spec_l04Name.l0 k x0 (wrap64 (x3 + 1)))) else (some false)) else (spec_l04Name.l0 k x0 (wrap64 (x3 + 1))))) else (none)) else (some true)
def spec_l04Name.f (k : Nat) (a0 : ByteArray) : Option (Bool) := (spec_l01In.f (a0.size : Int) 1 24).bind fun t101 => (if t101 = true then (spec_l04Name.l0 k a0 0) else (some false))
theorem spec_l04Name.mono_l : ∀ k, (∀ y0 y1, LeO (spec_l04Name.l0 k y0 y1) (spec_l04Name.l0 (k + 1) y0 y1))
  | 0 => fun _ _ r h => by simp [spec_l04Name.l0] at h
  | k + 1 => by
    have ih0 := spec_l04Name.mono_l k
    · intro y0 y1
      unfold spec_l04Name.l0; repeat' first | (with_reducible exact ih0 _ _) | (with_reducible first | exact LeO.refl _ | exact LeO.none _ | refine LeO.ite ?_ ?_ | refine LeO.bind ?_ (fun _ => ?_)) | exact ih0 _ _ | exact LeO.none _ | refine LeO.ite ?_ ?_ | refine LeO.bind ?_ (fun _ => ?_)
theorem spec_l04Name.mono : ∀ a0 k, LeO (spec_l04Name.f k a0) (spec_l04Name.f (k + 1) a0) := by
  intro a0 k; have ih0 := spec_l04Name.mono_l k; unfold spec_l04Name.f; repeat' first | (with_reducible exact ih0 _ _) | (with_reducible first | exact LeO.refl _ | exact LeO.none _ | refine LeO.ite ?_ ?_ | refine LeO.bind ?_ (fun _ => ?_)) | exact ih0 _ _ | exact LeO.none _ | refine LeO.ite ?_ ?_ | refine LeO.bind ?_ (fun _ => ?_)
set_option maxHeartbeats 8000000 in
set_option maxRecDepth 100000 in
theorem spec_l04Name.calls (k : Nat) (a0 : ByteArray) (r : Bool) (w : World) (h : spec_l04Name.f k a0 = some r) :
    Calls Tryd.prog 45 #[.string a0] w fun e w' => e = .returned (.bool r) ∧ Drawn0 w w' := by
 have H : ((spec_l01In.f (a0.size : Int) 1 24).bind fun t101 => (if t101 = true then (spec_l04Name.l0 k a0 0) else (some false))) = some r := h; clear h; obtain ⟨t101, A2, H⟩ := bindE_ H; by_cases c3 : t101 = true
 ·
  subst c3; replace H := ifT_ H; have H' := Aside0.mk H; clear H; go_enter Tryd.func45, Tryd.ntmps45; go_wp2_with (first | ((with_reducible refine gate_callee (f := 22) rfl ?_); refine cU_ (some 6) Tryd.func22 #[.int .i64 (a0.size : Int), .int .i64 1, .int .i64 24] ?_; (with_reducible refine (spec_l01In.calls (a0.size : Int) 1 24 true _ A2.out).mono ?_); rintro e w' ⟨rfl, ⟨nd, rfl⟩⟩; refine ⟨_, rfl, ?_⟩)); go_loopg [3] k (fun kq v3 w' => ∃ (x3_1 : Int), v3 = .int .i64 x3_1 ∧ Aside0 (spec_l04Name.l0 kq a0 x3_1 = some r) ∧ Aside0 (kq ≤ k) ∧ Drawn0 w w')
  case atStart => exact ⟨(0), eqE_, H', ⟨Nat.le_refl _⟩, drE_⟩
  case round =>
   clear H'; try clear c3
   obtain ⟨x3_1, rfl, HA, HK1, ⟨m1, rfl⟩⟩ := hrel; cases gk with
   | zero => exact absurd HA.out (by simp [spec_l04Name.l0])
   | succ k1 =>
    have H := HA.out; clear HA; simp only [spec_l04Name.l0] at H; by_cases c4 : x3_1 < (a0.size : Int)
    ·
     rw [if_pos c4] at H; have c4b0 : decide (x3_1 < (a0.size : Int)) = true := decide_eq_true c4; clear c4; by_cases c5 : 0 ≤ x3_1
     ·
      rw [if_pos c5] at H; have c5b0 : decide (0 ≤ x3_1) = true := decide_eq_true c5; clear c5; by_cases c7 : (bt a0 x3_1) < 97
      ·
       rw [if_pos c7] at H; have c7b0 : decide ((bt a0 x3_1) < 97) = true := decide_eq_true c7; clear c7; by_cases c9 : (bt a0 x3_1) = 45
       ·
        rw [if_pos c9] at H; have c9b0 : ((bt a0 x3_1) == 45) = true := beq_iff_eq.mpr c9; have c9b1 : ((bt a0 x3_1) != 45) = false := bne_eq_false_iff_eq.mpr c9; clear c9; by_cases c10 : x3_1 = 0
        · rw [if_pos c10] at H; have c10b0 : (x3_1 == 0) = true := beq_iff_eq.mpr c10; have c10b1 : (x3_1 != 0) = false := bne_eq_false_iff_eq.mpr c10; clear c10; obtain rfl := Option.some.inj H; have p6 : 0 ≤ (x3_1 : Int) := ofd_; have q6 : x3_1 < (a0.size : Int) := ofd_; have hx6 := bt_at a0 x3_1; replace p6 := eq_true p6; replace q6 := eq_true q6; have p8 : 0 ≤ (x3_1 : Int) := ofd_; have q8 : x3_1 < (a0.size : Int) := ofd_; have hx8 := bt_at a0 x3_1; replace p8 := eq_true p8; replace q8 := eq_true q8; go_wp2; go_ret; exact ⟨eqE_, drE_⟩
        ·
         rw [if_neg c10] at H; have c10b0 : (x3_1 == 0) = false := beq_eq_false_iff_ne.mpr c10; have c10b1 : (x3_1 != 0) = true := bne_iff_ne.mpr c10; have H' := Aside0.mk H; clear H; have p6 : 0 ≤ (x3_1 : Int) := ofd_; have q6 : x3_1 < (a0.size : Int) := ofd_; have hx6 := bt_at a0 x3_1; replace p6 := eq_true p6; replace q6 := eq_true q6; have p8 : 0 ≤ (x3_1 : Int) := ofd_; have q8 : x3_1 < (a0.size : Int) := ofd_; have hx8 := bt_at a0 x3_1; replace p8 := eq_true p8; replace q8 := eq_true q8; go_wp2; go_roundg k1
         case measure => have := HK1.out; omega
         case rel => exact ⟨(wrap64 (x3_1 + 1)), eqE_, H', ⟨by have := HK1.out; omega⟩, drE_⟩
       · rw [if_neg c9] at H; have c9b0 : ((bt a0 x3_1) == 45) = false := beq_eq_false_iff_ne.mpr c9; have c9b1 : ((bt a0 x3_1) != 45) = true := bne_iff_ne.mpr c9; obtain rfl := Option.some.inj H; have p6 : 0 ≤ (x3_1 : Int) := ofd_; have q6 : x3_1 < (a0.size : Int) := ofd_; have hx6 := bt_at a0 x3_1; replace p6 := eq_true p6; replace q6 := eq_true q6; have p8 : 0 ≤ (x3_1 : Int) := ofd_; have q8 : x3_1 < (a0.size : Int) := ofd_; have hx8 := bt_at a0 x3_1; replace p8 := eq_true p8; replace q8 := eq_true q8; go_wp2; go_ret; exact ⟨eqE_, drE_⟩
      ·
       rw [if_neg c7] at H; have c7b0 : decide ((bt a0 x3_1) < 97) = false := decide_eq_false c7; clear c7; by_cases c12 : (bt a0 x3_1) > 122
       ·
        rw [if_pos c12] at H; have c12b0 : decide (122 < (bt a0 x3_1)) = true := decide_eq_true c12; clear c12; by_cases c14 : (bt a0 x3_1) = 45
        ·
         rw [if_pos c14] at H; have c14b0 : ((bt a0 x3_1) == 45) = true := beq_iff_eq.mpr c14; have c14b1 : ((bt a0 x3_1) != 45) = false := bne_eq_false_iff_eq.mpr c14; clear c14; by_cases c15 : x3_1 = 0
         · rw [if_pos c15] at H; have c15b0 : (x3_1 == 0) = true := beq_iff_eq.mpr c15; have c15b1 : (x3_1 != 0) = false := bne_eq_false_iff_eq.mpr c15; clear c15; obtain rfl := Option.some.inj H; have p6 : 0 ≤ (x3_1 : Int) := ofd_; have q6 : x3_1 < (a0.size : Int) := ofd_; have hx6 := bt_at a0 x3_1; replace p6 := eq_true p6; replace q6 := eq_true q6; have p11 : 0 ≤ (x3_1 : Int) := ofd_; have q11 : x3_1 < (a0.size : Int) := ofd_; have hx11 := bt_at a0 x3_1; replace p11 := eq_true p11; replace q11 := eq_true q11; have p13 : 0 ≤ (x3_1 : Int) := ofd_; have q13 : x3_1 < (a0.size : Int) := ofd_; have hx13 := bt_at a0 x3_1; replace p13 := eq_true p13; replace q13 := eq_true q13; go_wp2; go_ret; exact ⟨eqE_, drE_⟩
         ·
          rw [if_neg c15] at H; have c15b0 : (x3_1 == 0) = false := beq_eq_false_iff_ne.mpr c15; have c15b1 : (x3_1 != 0) = true := bne_iff_ne.mpr c15; have H' := Aside0.mk H; clear H; have p6 : 0 ≤ (x3_1 : Int) := ofd_; have q6 : x3_1 < (a0.size : Int) := ofd_; have hx6 := bt_at a0 x3_1; replace p6 := eq_true p6; replace q6 := eq_true q6; have p11 : 0 ≤ (x3_1 : Int) := ofd_; have q11 : x3_1 < (a0.size : Int) := ofd_; have hx11 := bt_at a0 x3_1; replace p11 := eq_true p11; replace q11 := eq_true q11; have p13 : 0 ≤ (x3_1 : Int) := ofd_; have q13 : x3_1 < (a0.size : Int) := ofd_; have hx13 := bt_at a0 x3_1; replace p13 := eq_true p13; replace q13 := eq_true q13; go_wp2; go_roundg k1
          case measure => have := HK1.out; omega
          case rel => exact ⟨(wrap64 (x3_1 + 1)), eqE_, H', ⟨by have := HK1.out; omega⟩, drE_⟩
        · rw [if_neg c14] at H; have c14b0 : ((bt a0 x3_1) == 45) = false := beq_eq_false_iff_ne.mpr c14; have c14b1 : ((bt a0 x3_1) != 45) = true := bne_iff_ne.mpr c14; obtain rfl := Option.some.inj H; have p6 : 0 ≤ (x3_1 : Int) := ofd_; have q6 : x3_1 < (a0.size : Int) := ofd_; have hx6 := bt_at a0 x3_1; replace p6 := eq_true p6; replace q6 := eq_true q6; have p11 : 0 ≤ (x3_1 : Int) := ofd_; have q11 : x3_1 < (a0.size : Int) := ofd_; have hx11 := bt_at a0 x3_1; replace p11 := eq_true p11; replace q11 := eq_true q11; have p13 : 0 ≤ (x3_1 : Int) := ofd_; have q13 : x3_1 < (a0.size : Int) := ofd_; have hx13 := bt_at a0 x3_1; replace p13 := eq_true p13; replace q13 := eq_true q13; go_wp2; go_ret; exact ⟨eqE_, drE_⟩
       ·
        rw [if_neg c12] at H; have c12b0 : decide (122 < (bt a0 x3_1)) = false := decide_eq_false c12; clear c12; have H' := Aside0.mk H; clear H; have p6 : 0 ≤ (x3_1 : Int) := ofd_; have q6 : x3_1 < (a0.size : Int) := ofd_; have hx6 := bt_at a0 x3_1; replace p6 := eq_true p6; replace q6 := eq_true q6; have p11 : 0 ≤ (x3_1 : Int) := ofd_; have q11 : x3_1 < (a0.size : Int) := ofd_; have hx11 := bt_at a0 x3_1; replace p11 := eq_true p11; replace q11 := eq_true q11; go_wp2; go_roundg k1
        case measure => have := HK1.out; omega
        case rel => exact ⟨(wrap64 (x3_1 + 1)), eqE_, H', ⟨by have := HK1.out; omega⟩, drE_⟩
     · rw [if_neg c5] at H; exact absurd H (by simp)
    · rw [if_neg c4] at H; have c4b0 : decide (x3_1 < (a0.size : Int)) = false := decide_eq_false c4; clear c4; obtain rfl := Option.some.inj H; go_wp2; go_ret; exact ⟨eqE_, drE_⟩
 · replace c3 := Bool.eq_false_iff.mpr c3; subst c3; replace H := ifF_ H; obtain rfl := Option.some.inj H; go_enter Tryd.func45, Tryd.ntmps45; go_wp2_with (first | ((with_reducible refine gate_callee (f := 22) rfl ?_); refine cU_ (some 6) Tryd.func22 #[.int .i64 (a0.size : Int), .int .i64 1, .int .i64 24] ?_; (with_reducible refine (spec_l01In.calls (a0.size : Int) 1 24 false _ A2.out).mono ?_); rintro e w' ⟨rfl, ⟨nd, rfl⟩⟩; refine ⟨_, rfl, ?_⟩)); go_ret; exact ⟨eqE_, drE_⟩

/-! ### spec_l05OK: function 23 -/
def spec_l05OK.l0 : Nat → List ByteArray → Int → ByteArray → ByteArray → ByteArray → ByteArray → ByteArray → ByteArray → Int → Int → Bool → Option (Bool)
  | 0, _, _, _, _, _, _, _, _, _, _, _ => none
  | k + 1, x3, x4, x103000, x103001, x103002, x103003, x103004, x103005, x103006, x103007, x103008 => if x4 < (x3.length : Int) then (if 0 ≤ x4 then (if ((rdOf ByteArray.empty x3 x4).size : Int) > 100 then (some false) else (spec_l05OK.l0 k x3 (wrap64 (x4 + 1)) x103000 x103001 x103002 x103003 x103004 x103005 x103006 x103007 x103008)) else (none)) else ((spec_l04Name.f k x103004).bind fun t107 => (if t107 = true then (if (x103005.size : Int) ≤ 200 then ((spec_l01In.f x103006 0 9999).bind fun t108 => (if t108 = true then ((spec_l01In.f x103007 0 9999).bind fun t109 => (some t109)) else (some false))) else (some false)) else (some false)))
def spec_l05OK.f (k : Nat) (a0_0 : ByteArray) (a0_1 : ByteArray) (a0_2 : ByteArray) (a0_3 : ByteArray) (a0_4 : ByteArray) (a0_5 : ByteArray) (a0_6 : Int) (a0_7 : Int) (a0_8 : Bool) : Option (Bool) := spec_l05OK.l0 k (([a0_0, a0_1, a0_2, a0_3] : List ByteArray)) 0 a0_0 a0_1 a0_2 a0_3 a0_4 a0_5 a0_6 a0_7 a0_8
theorem spec_l05OK.mono_l : ∀ k, (∀ y0 y1 y2 y3 y4 y5 y6 y7 y8 y9 y10, LeO (spec_l05OK.l0 k y0 y1 y2 y3 y4 y5 y6 y7 y8 y9 y10) (spec_l05OK.l0 (k + 1) y0 y1 y2 y3 y4 y5 y6 y7 y8 y9 y10))
  | 0 => fun _ _ _ _ _ _ _ _ _ _ _ r h => by simp [spec_l05OK.l0] at h
  | k + 1 => by
    have ih0 := spec_l05OK.mono_l k
    · intro y0 y1 y2 y3 y4 y5 y6 y7 y8 y9 y10
      unfold spec_l05OK.l0; repeat' first | (with_reducible exact ih0 _ _ _ _ _ _ _ _ _ _ _) | (with_reducible exact spec_l04Name.mono _ _) | (with_reducible first | exact LeO.refl _ | exact LeO.none _ | refine LeO.ite ?_ ?_ | refine LeO.bind ?_ (fun _ => ?_)) | exact ih0 _ _ _ _ _ _ _ _ _ _ _ | exact spec_l04Name.mono _ _ | exact LeO.none _ | refine LeO.ite ?_ ?_ | refine LeO.bind ?_ (fun _ => ?_)
theorem spec_l05OK.mono : ∀ a0 a1 a2 a3 a4 a5 a6 a7 a8 k, LeO (spec_l05OK.f k a0 a1 a2 a3 a4 a5 a6 a7 a8) (spec_l05OK.f (k + 1) a0 a1 a2 a3 a4 a5 a6 a7 a8) := by
  intro a0 a1 a2 a3 a4 a5 a6 a7 a8 k; have ih0 := spec_l05OK.mono_l k; unfold spec_l05OK.f; repeat' first | (with_reducible exact ih0 _ _ _ _ _ _ _ _ _ _ _) | (with_reducible exact spec_l04Name.mono _ _) | (with_reducible first | exact LeO.refl _ | exact LeO.none _ | refine LeO.ite ?_ ?_ | refine LeO.bind ?_ (fun _ => ?_)) | exact ih0 _ _ _ _ _ _ _ _ _ _ _ | exact spec_l04Name.mono _ _ | exact LeO.none _ | refine LeO.ite ?_ ?_ | refine LeO.bind ?_ (fun _ => ?_)
set_option maxHeartbeats 8000000 in
set_option maxRecDepth 100000 in
theorem spec_l05OK.calls (k : Nat) (a0_0 : ByteArray) (a0_1 : ByteArray) (a0_2 : ByteArray) (a0_3 : ByteArray) (a0_4 : ByteArray) (a0_5 : ByteArray) (a0_6 : Int) (a0_7 : Int) (a0_8 : Bool) (r : Bool) (w : World) (h : spec_l05OK.f k a0_0 a0_1 a0_2 a0_3 a0_4 a0_5 a0_6 a0_7 a0_8 = some r) :
    Calls Tryd.prog 23 #[.agg #[.string a0_0, .string a0_1, .string a0_2, .string a0_3, .string a0_4, .string a0_5, .int .i64 a0_6, .int .i64 a0_7, .bool a0_8]] w fun e w' => e = .returned (.bool r) ∧ Below w.heap.size w w' := by
 have hu29 := Tryd.underlying29; have HB := Aside0.mk (Below.refl w.heap.size w); have H : (spec_l05OK.l0 k (([a0_0, a0_1, a0_2, a0_3] : List ByteArray)) 0 a0_0 a0_1 a0_2 a0_3 a0_4 a0_5 a0_6 a0_7 a0_8) = some r := h; clear h; obtain ⟨y103, hy103⟩ : ∃ y_ : List ByteArray, y_ = (([a0_0, a0_1, a0_2, a0_3] : List ByteArray)) := ⟨_, rfl⟩
 replace H : (spec_l05OK.l0 k y103 0 a0_0 a0_1 a0_2 a0_3 a0_4 a0_5 a0_6 a0_7 a0_8) = some r := by first | (rw [hy103]; with_reducible exact H) | (have H2_ := (Option.bind_some _ _).symm.trans H; rw [hy103]; with_reducible exact H2_) | (have H2_ := (Option.bind_some _ _).symm.trans H; with_reducible exact H2_) | with_reducible exact H | (rw [hy103]; exact H) | exact H
 have Ny103 := Aside0.mk hy103; clear hy103; have H' := Aside0.mk H; clear H; go_enter Tryd.func23, Tryd.ntmps23; go_wp2_with (first | ((with_reducible refine gate_dst (N := 1) rfl ?_); (try (refine gate_guard (by rfl) ?_; dsimp only)); refine box_event ?hg (N := 1) ?hd (cs := #[.string a0_0, .string a0_1, .string a0_2, .string a0_3, .string a0_4, .string a0_5, .int .i64 a0_6, .int .i64 a0_7, .bool a0_8]) (t := 29) ?hr ?_; (case hd => rfl); (case hg => rfl); (case hr => first | (go_simp; done) | (go_simp; rfl)); intro gb102 hg w2 hbox hb; have n0_ := belB_ hb; have n1_ := Aside0.mk (hbox); have n2_ := geE_ (w := w) hg; have n3_ := geE_ (w := w) hg; clear HB; have HB := n0_; have BK102 := n1_; have GW102 := n2_; have GE102 := n3_; clear n0_ n1_ n2_ n3_; clear hb hbox hg; obtain ⟨u3_0, u3_1, u3_2, u3_3, u3_4, u3_5, u3_6, u3_7, u3_8, v3_0, v3_1, v3_2, v3_3, v3_4, v3_5, v3_6, v3_7, v3_8⟩ := cz9_ BK102) | ((with_reducible refine gate_dst (N := 13) rfl ?_); (try (refine gate_guard (by rfl) ?_; dsimp only)); refine Kd.R_lit Kd.string _ 9 ?hg (N := 13) ?hd (xs := ([a0_0, a0_1, a0_2, a0_3] : List ByteArray)) (inner := [.string a0_0, .string a0_1, .string a0_2, .string a0_3]) (ok := fun _ => True) (okp := fun _ => True) ?hr ?hp (fun _ hk => hk) trivial (Below.refl _ _) (Nat.le_refl _) (by simp) ?_; (case hd => rfl); (case hg => rfl); (case hr => first | (go_simp; done) | (go_simp; rfl)); (case hp => exact (Reps.one (show Kd.M Kd.string _ _ _ a0_0 [.string a0_0] from rfl) (Reps.one (show Kd.M Kd.string _ _ _ a0_1 [.string a0_1] from rfl) (Reps.one (show Kd.M Kd.string _ _ _ a0_2 [.string a0_2] from rfl) (Reps.one (show Kd.M Kd.string _ _ _ a0_3 [.string a0_3] from rfl) (Reps.none _ _)))))); intro v104 w4 ho5 hb hg_ hnew_; clear hg_ hnew_; (first | rw [← Ny103.out] at ho5 | (simp only [Int.reduceToNat] at ho5; rw [← Ny103.out] at ho5)); have n0_ := Aside0.mk (Kd.R_lower ho5 (below_size belE_)); have n1_ := blkX_ BK102 hb; have n2_ := belB_ hb; clear BK102; clear HB; have HO105 := n0_; have BK102 := n1_; have HB := n2_; clear n0_ n1_ n2_; clear hb ho5)); go_loopg [4] k (fun kq v4 w' => ∃ (x4_1 : Int), v4 = .int .i64 x4_1 ∧ Aside0 (spec_l05OK.l0 kq y103 x4_1 a0_0 a0_1 a0_2 a0_3 a0_4 a0_5 a0_6 a0_7 a0_8 = some r) ∧ Aside0 (kq ≤ k) ∧ Aside0 (Kd.R Kd.string 9 w' w.heap.size (fun _ => True) v104 y103) ∧ Aside0 (w'.heap[gb102]? = some (.cells #[.string a0_0, .string a0_1, .string a0_2, .string a0_3, .string a0_4, .string a0_5, .int .i64 a0_6, .int .i64 a0_7, .bool a0_8] 29 (0, 0))) ∧ Aside0 (Below w.heap.size w w'))
 case atStart => exact ⟨(0), eqE_, H', ⟨Nat.le_refl _⟩, ⟨by (with_reducible repeat (first | apply Kd.R_alloc | apply Kd.R_drewN | apply Kd.R_drew)); exact HO105.out⟩, ⟨blkE_⟩, ⟨belE_⟩⟩
 case round =>
  clear H'; try clear u3_0 u3_1 u3_2 u3_3 u3_4 u3_5 u3_6 u3_7 u3_8
  try clear v3_0 v3_1 v3_2 v3_3 v3_4 v3_5 v3_6 v3_7 v3_8
  obtain ⟨x4_1, rfl, HA, HK1, HO_3, BK102, HB⟩ := hrel; cases gk with
  | zero => exact absurd HA.out (by simp [spec_l05OK.l0])
  | succ k1 =>
   have H := HA.out; clear HA; simp only [spec_l05OK.l0] at H; by_cases c6 : x4_1 < (y103.length : Int)
   ·
    rw [if_pos c6] at H; have c6b0 : decide (x4_1 < (y103.length : Int)) = true := decide_eq_true c6; clear c6; by_cases c7 : 0 ≤ x4_1
    ·
     rw [if_pos c7] at H; have c7b0 : decide (0 ≤ x4_1) = true := decide_eq_true c7; clear c7; by_cases c8 : ((rdOf ByteArray.empty y103 x4_1).size : Int) > 100
     · rw [if_pos c8] at H; have c8b0 : decide (100 < ((rdOf ByteArray.empty y103 x4_1).size : Int)) = true := decide_eq_true c8; have c8b1 : decide (100 < (rdOf ByteArray.empty y103 x4_1).size) = true := decide_eq_true (by omega); clear c8; obtain rfl := Option.some.inj H; obtain ⟨Ao9, co9, eo9⟩ := Kd.R_slice HO_3.out; subst eo9; have p106 : 0 ≤ (x4_1 : Int) := ofd_; have q106 : x4_1 < (y103.length : Int) := ofd_; obtain ⟨ad106, e106, hx106_0⟩ := Kd.at_string (Kd.R_reads' HO_3.out).2.2 x4_1 p106 q106; cases e106; replace p106 := eq_true p106; replace q106 := eq_true q106; go_wp2; go_ret; exact ⟨retE_, belE_⟩
     ·
      rw [if_neg c8] at H; have c8b0 : decide (100 < ((rdOf ByteArray.empty y103 x4_1).size : Int)) = false := decide_eq_false c8; have c8b1 : decide (100 < (rdOf ByteArray.empty y103 x4_1).size) = false := decide_eq_false (by omega); clear c8; have H' := Aside0.mk H; clear H; obtain ⟨Ao10, co10, eo10⟩ := Kd.R_slice HO_3.out; subst eo10; have p106 : 0 ≤ (x4_1 : Int) := ofd_; have q106 : x4_1 < (y103.length : Int) := ofd_; obtain ⟨ad106, e106, hx106_0⟩ := Kd.at_string (Kd.R_reads' HO_3.out).2.2 x4_1 p106 q106; cases e106; replace p106 := eq_true p106; replace q106 := eq_true q106; go_wp2; go_roundg k1
      case measure => have := HK1.out; omega
      case rel => exact ⟨(wrap64 (x4_1 + 1)), eqE_, H', ⟨by have := HK1.out; omega⟩, ⟨by (with_reducible repeat (first | apply Kd.R_alloc | apply Kd.R_drewN | apply Kd.R_drew)); exact HO_3.out⟩, ⟨blkE_⟩, ⟨belE_⟩⟩
    · rw [if_neg c7] at H; exact absurd H (by simp)
   ·
    rw [if_neg c6] at H; have c6b0 : decide (x4_1 < (y103.length : Int)) = false := decide_eq_false c6; clear c6; obtain ⟨t107, A11, H⟩ := bindE_ H; by_cases c12 : t107 = true
    ·
     subst c12; replace H := ifT_ H; by_cases c13 : (a0_5.size : Int) ≤ 200
     ·
      rw [if_pos c13] at H; have c13b0 : decide ((a0_5.size : Int) ≤ 200) = true := decide_eq_true c13; have c13b1 : decide (a0_5.size ≤ 200) = true := decide_eq_true (by omega); clear c13; obtain ⟨t108, A14, H⟩ := bindE_ H; by_cases c15 : t108 = true
      · subst c15; replace H := ifT_ H; obtain ⟨t109, A16, H⟩ := bindE_ H; obtain rfl := Option.some.inj H; obtain ⟨Ao17, co17, eo17⟩ := Kd.R_slice HO_3.out; subst eo17; obtain ⟨u18_0, u18_1, u18_2, u18_3, u18_4, u18_5, u18_6, u18_7, u18_8, v18_0, v18_1, v18_2, v18_3, v18_4, v18_5, v18_6, v18_7, v18_8⟩ := cz9_ BK102; go_wp2_with (first | ((with_reducible refine gate_callee (f := 45) rfl ?_); refine cU_ (some 28) Tryd.func45 #[.string a0_4] ?_; (with_reducible refine (spec_l04Name.calls k1 a0_4 true _ A11.out).mono ?_); rintro e w' ⟨rfl, ⟨nd, rfl⟩⟩; refine ⟨_, rfl, ?_⟩) | (go_at_call 22; (with_reducible refine (spec_l01In.calls a0_6 0 9999 true _ A14.out).mono ?_); rintro e w' ⟨rfl, ⟨nd, rfl⟩⟩) | (go_at_call 22; (with_reducible refine (spec_l01In.calls a0_7 0 9999 t109 _ A16.out).mono ?_); rintro e w' ⟨rfl, ⟨nd, rfl⟩⟩)); go_ret; exact ⟨retE_, belE_⟩
      · replace c15 := Bool.eq_false_iff.mpr c15; subst c15; replace H := ifF_ H; obtain rfl := Option.some.inj H; obtain ⟨Ao19, co19, eo19⟩ := Kd.R_slice HO_3.out; subst eo19; obtain ⟨u20_0, u20_1, u20_2, u20_3, u20_4, u20_5, u20_6, u20_7, u20_8, v20_0, v20_1, v20_2, v20_3, v20_4, v20_5, v20_6, v20_7, v20_8⟩ := cz9_ BK102; go_wp2_with (first | ((with_reducible refine gate_callee (f := 45) rfl ?_); refine cU_ (some 28) Tryd.func45 #[.string a0_4] ?_; (with_reducible refine (spec_l04Name.calls k1 a0_4 true _ A11.out).mono ?_); rintro e w' ⟨rfl, ⟨nd, rfl⟩⟩; refine ⟨_, rfl, ?_⟩) | (go_at_call 22; (with_reducible refine (spec_l01In.calls a0_6 0 9999 false _ A14.out).mono ?_); rintro e w' ⟨rfl, ⟨nd, rfl⟩⟩)); go_ret; exact ⟨retE_, belE_⟩
     · rw [if_neg c13] at H; have c13b0 : decide ((a0_5.size : Int) ≤ 200) = false := decide_eq_false c13; have c13b1 : decide (a0_5.size ≤ 200) = false := decide_eq_false (by omega); clear c13; obtain rfl := Option.some.inj H; obtain ⟨Ao21, co21, eo21⟩ := Kd.R_slice HO_3.out; subst eo21; obtain ⟨u22_0, u22_1, u22_2, u22_3, u22_4, u22_5, u22_6, u22_7, u22_8, v22_0, v22_1, v22_2, v22_3, v22_4, v22_5, v22_6, v22_7, v22_8⟩ := cz9_ BK102; go_wp2_with (first | ((with_reducible refine gate_callee (f := 45) rfl ?_); refine cU_ (some 28) Tryd.func45 #[.string a0_4] ?_; (with_reducible refine (spec_l04Name.calls k1 a0_4 true _ A11.out).mono ?_); rintro e w' ⟨rfl, ⟨nd, rfl⟩⟩; refine ⟨_, rfl, ?_⟩)); go_ret; exact ⟨retE_, belE_⟩
    · replace c12 := Bool.eq_false_iff.mpr c12; subst c12; replace H := ifF_ H; obtain rfl := Option.some.inj H; obtain ⟨Ao23, co23, eo23⟩ := Kd.R_slice HO_3.out; subst eo23; obtain ⟨u24_0, u24_1, u24_2, u24_3, u24_4, u24_5, u24_6, u24_7, u24_8, v24_0, v24_1, v24_2, v24_3, v24_4, v24_5, v24_6, v24_7, v24_8⟩ := cz9_ BK102; go_wp2_with (first | ((with_reducible refine gate_callee (f := 45) rfl ?_); refine cU_ (some 28) Tryd.func45 #[.string a0_4] ?_; (with_reducible refine (spec_l04Name.calls k1 a0_4 false _ A11.out).mono ?_); rintro e w' ⟨rfl, ⟨nd, rfl⟩⟩; refine ⟨_, rfl, ?_⟩)); go_ret; exact ⟨retE_, belE_⟩

/-! ### spec_l00Letter: function 46 -/
def spec_l00Letter.f (a0 : Int) : Option (Bool) := if a0 ≥ 97 then (if a0 ≤ 122 then (some true) else (if a0 ≥ 65 then (if a0 ≤ 90 then (some true) else (some (a0 == 95))) else (some (a0 == 95)))) else (if a0 ≥ 65 then (if a0 ≤ 90 then (some true) else (some (a0 == 95))) else (some (a0 == 95)))
set_option maxHeartbeats 8000000 in
set_option maxRecDepth 100000 in
theorem spec_l00Letter.calls (a0 : Int) (r : Bool) (w : World) (h : spec_l00Letter.f a0 = some r) :
    Calls Tryd.prog 46 #[.int .u8 a0] w fun e w' => e = .returned (.bool r) ∧ Drawn0 w w' := by
 have H : (if a0 ≥ 97 then (if a0 ≤ 122 then (some true) else (if a0 ≥ 65 then (if a0 ≤ 90 then (some true) else (some (a0 == 95))) else (some (a0 == 95)))) else (if a0 ≥ 65 then (if a0 ≤ 90 then (some true) else (some (a0 == 95))) else (some (a0 == 95)))) = some r := h; clear h; by_cases c2 : a0 ≥ 97
 ·
  rw [if_pos c2] at H; have c2b0 : decide (97 ≤ a0) = true := decide_eq_true c2; clear c2; by_cases c3 : a0 ≤ 122
  · rw [if_pos c3] at H; have c3b0 : decide (a0 ≤ 122) = true := decide_eq_true c3; clear c3; obtain rfl := Option.some.inj H; go_enter Tryd.func46, Tryd.ntmps46; go_wp2; go_ret; exact ⟨eqE_, drE_⟩
  ·
   rw [if_neg c3] at H; have c3b0 : decide (a0 ≤ 122) = false := decide_eq_false c3; clear c3; by_cases c4 : a0 ≥ 65
   ·
    rw [if_pos c4] at H; have c4b0 : decide (65 ≤ a0) = true := decide_eq_true c4; clear c4; by_cases c5 : a0 ≤ 90
    · rw [if_pos c5] at H; have c5b0 : decide (a0 ≤ 90) = true := decide_eq_true c5; clear c5; obtain rfl := Option.some.inj H; go_enter Tryd.func46, Tryd.ntmps46; go_wp2; go_ret; exact ⟨eqE_, drE_⟩
    · rw [if_neg c5] at H; have c5b0 : decide (a0 ≤ 90) = false := decide_eq_false c5; clear c5; obtain rfl := Option.some.inj H; go_enter Tryd.func46, Tryd.ntmps46; go_wp2; go_ret; exact ⟨eqE_, drE_⟩
   · rw [if_neg c4] at H; have c4b0 : decide (65 ≤ a0) = false := decide_eq_false c4; clear c4; obtain rfl := Option.some.inj H; go_enter Tryd.func46, Tryd.ntmps46; go_wp2; go_ret; exact ⟨eqE_, drE_⟩
 ·
  rw [if_neg c2] at H; have c2b0 : decide (97 ≤ a0) = false := decide_eq_false c2; clear c2; by_cases c6 : a0 ≥ 65
  ·
   rw [if_pos c6] at H; have c6b0 : decide (65 ≤ a0) = true := decide_eq_true c6; clear c6; by_cases c7 : a0 ≤ 90
   · rw [if_pos c7] at H; have c7b0 : decide (a0 ≤ 90) = true := decide_eq_true c7; clear c7; obtain rfl := Option.some.inj H; go_enter Tryd.func46, Tryd.ntmps46; go_wp2; go_ret; exact ⟨eqE_, drE_⟩
   · rw [if_neg c7] at H; have c7b0 : decide (a0 ≤ 90) = false := decide_eq_false c7; clear c7; obtain rfl := Option.some.inj H; go_enter Tryd.func46, Tryd.ntmps46; go_wp2; go_ret; exact ⟨eqE_, drE_⟩
  · rw [if_neg c6] at H; have c6b0 : decide (65 ≤ a0) = false := decide_eq_false c6; clear c6; obtain rfl := Option.some.inj H; go_enter Tryd.func46, Tryd.ntmps46; go_wp2; go_ret; exact ⟨eqE_, drE_⟩

/-! ### spec_l00Digit: function 47 -/
def spec_l00Digit.f (a0 : Int) : Option (Bool) := if a0 ≥ 48 then (some (decide (a0 ≤ 57))) else (some false)
set_option maxHeartbeats 8000000 in
set_option maxRecDepth 100000 in
theorem spec_l00Digit.calls (a0 : Int) (r : Bool) (w : World) (h : spec_l00Digit.f a0 = some r) :
    Calls Tryd.prog 47 #[.int .u8 a0] w fun e w' => e = .returned (.bool r) ∧ Drawn0 w w' := by
 have H : (if a0 ≥ 48 then (some (decide (a0 ≤ 57))) else (some false)) = some r := h; clear h; by_cases c2 : a0 ≥ 48
 · rw [if_pos c2] at H; have c2b0 : decide (48 ≤ a0) = true := decide_eq_true c2; clear c2; obtain rfl := Option.some.inj H; go_enter Tryd.func47, Tryd.ntmps47; go_wp2; go_ret; exact ⟨eqE_, drE_⟩
 · rw [if_neg c2] at H; have c2b0 : decide (48 ≤ a0) = false := decide_eq_false c2; clear c2; obtain rfl := Option.some.inj H; go_enter Tryd.func47, Tryd.ntmps47; go_wp2; go_ret; exact ⟨eqE_, drE_⟩

/-! ### spec_l00Word: function 24 -/
mutual
def spec_l00Word.j0 : Nat → ByteArray → Bool → Option (Bool)
  | 0, _, _ => none
  | k + 1, x0, x17 => if x17 = true then (some false) else (spec_l00Word.l0 k x0 1)
def spec_l00Word.l0 : Nat → ByteArray → Int → Option (Bool)
  | 0, _, _ => none
  | k + 1, x0, x3 => if x3 < (x0.size : Int) then (if 0 ≤ x3 then ((spec_l00Letter.f (bt x0 x3)).bind fun t111 => (if t111 = true then (spec_l00Word.l0 k x0 (wrap64 (x3 + 1))) else ((spec_l00Digit.f (bt x0 x3)).bind fun t112 => (if t112 = true then (spec_l00Word.l0 k x0 (wrap64 (x3 + 1))) else (some false))))) else (none)) else (some true)
end
def spec_l00Word.f (k : Nat) (a0 : ByteArray) : Option (Bool) := if (a0.size : Int) < 1 then (spec_l00Word.j0 k a0 true) else (if (a0.size : Int) > 12 then (spec_l00Word.j0 k a0 true) else (if 0 < (a0.size : Int) then ((spec_l00Letter.f (bt a0 0)).bind fun t110 => (spec_l00Word.j0 k a0 (!t110))) else (none)))
theorem spec_l00Word.mono_l : ∀ k, (∀ y0 y1, LeO (spec_l00Word.j0 k y0 y1) (spec_l00Word.j0 (k + 1) y0 y1)) ∧ (∀ y0 y1, LeO (spec_l00Word.l0 k y0 y1) (spec_l00Word.l0 (k + 1) y0 y1))
  | 0 => ⟨fun _ _ r h => by simp [spec_l00Word.j0] at h, fun _ _ r h => by simp [spec_l00Word.l0] at h⟩
  | k + 1 => by
    obtain ⟨ih0, ih1⟩ := spec_l00Word.mono_l k; refine ⟨?_, ?_⟩
    · intro y0 y1
      unfold spec_l00Word.j0; repeat' first | (with_reducible exact ih0 _ _) | (with_reducible exact ih1 _ _) | (with_reducible first | exact LeO.refl _ | exact LeO.none _ | refine LeO.ite ?_ ?_ | refine LeO.bind ?_ (fun _ => ?_)) | exact ih0 _ _ | exact ih1 _ _ | exact LeO.none _ | refine LeO.ite ?_ ?_ | refine LeO.bind ?_ (fun _ => ?_)
    · intro y0 y1
      unfold spec_l00Word.l0; repeat' first | (with_reducible exact ih0 _ _) | (with_reducible exact ih1 _ _) | (with_reducible first | exact LeO.refl _ | exact LeO.none _ | refine LeO.ite ?_ ?_ | refine LeO.bind ?_ (fun _ => ?_)) | exact ih0 _ _ | exact ih1 _ _ | exact LeO.none _ | refine LeO.ite ?_ ?_ | refine LeO.bind ?_ (fun _ => ?_)
theorem spec_l00Word.mono : ∀ a0 k, LeO (spec_l00Word.f k a0) (spec_l00Word.f (k + 1) a0) := by
  intro a0 k; obtain ⟨ih0, ih1⟩ := spec_l00Word.mono_l k; unfold spec_l00Word.f; repeat' first | (with_reducible exact ih0 _ _) | (with_reducible exact ih1 _ _) | (with_reducible first | exact LeO.refl _ | exact LeO.none _ | refine LeO.ite ?_ ?_ | refine LeO.bind ?_ (fun _ => ?_)) | exact ih0 _ _ | exact ih1 _ _ | exact LeO.none _ | refine LeO.ite ?_ ?_ | refine LeO.bind ?_ (fun _ => ?_)
set_option maxHeartbeats 8000000 in
set_option maxRecDepth 100000 in
theorem spec_l00Word.calls (k : Nat) (a0 : ByteArray) (r : Bool) (w : World) (h : spec_l00Word.f k a0 = some r) :
    Calls Tryd.prog 24 #[.string a0] w fun e w' => e = .returned (.bool r) ∧ Drawn0 w w' := by
 have H : (if (a0.size : Int) < 1 then (spec_l00Word.j0 k a0 true) else (if (a0.size : Int) > 12 then (spec_l00Word.j0 k a0 true) else (if 0 < (a0.size : Int) then ((spec_l00Letter.f (bt a0 0)).bind fun t110 => (spec_l00Word.j0 k a0 (!t110))) else (none)))) = some r := h; clear h; have HC2 := Aside0.mk H; clear H; go_enter Tryd.func24, Tryd.ntmps24; go_upto_region 1 with (fail)
 go_cut [17] (fun v17 wc => ∃ (kq : Nat) (x17_1 : Bool), v17 = .bool x17_1 ∧ Aside0 (spec_l00Word.j0 kq a0 x17_1 = some r) ∧ Aside0 (kq ≤ k) ∧ Drawn0 w wc)
 case first =>
  have H := HC2.out; clear HC2; by_cases c3 : (a0.size : Int) < 1
  ·
   rw [if_pos c3] at H; have c3b0 : decide ((a0.size : Int) < 1) = true := decide_eq_true c3; have c3b1 : decide (a0.size < 1) = true := decide_eq_true (by omega); clear c3; (first | rw [c3b0] | (simp only [i64_w, i32_w]; rw [c3b0]) | skip); have H' := Aside0.mk H; clear H; go_wp2; go_meet
   case rel => exact ⟨_, (true), eqE_, H', ⟨leE_⟩, drE_⟩
  ·
   rw [if_neg c3] at H; have c3b0 : decide ((a0.size : Int) < 1) = false := decide_eq_false c3; have c3b1 : decide (a0.size < 1) = false := decide_eq_false (by omega); clear c3; (first | rw [c3b0] | (simp only [i64_w, i32_w]; rw [c3b0]) | skip); by_cases c4 : (a0.size : Int) > 12
   ·
    rw [if_pos c4] at H; have c4b0 : decide (12 < (a0.size : Int)) = true := decide_eq_true c4; have c4b1 : decide (12 < a0.size) = true := decide_eq_true (by omega); clear c4; have H' := Aside0.mk H; clear H; go_wp2; go_meet
    case rel => exact ⟨_, (true), eqE_, H', ⟨leE_⟩, drE_⟩
   ·
    rw [if_neg c4] at H; have c4b0 : decide (12 < (a0.size : Int)) = false := decide_eq_false c4; have c4b1 : decide (12 < a0.size) = false := decide_eq_false (by omega); clear c4; by_cases c5 : 0 < (a0.size : Int)
    ·
     rw [if_pos c5] at H; have c5b0 : decide (0 < (a0.size : Int)) = true := decide_eq_true c5; have c5b1 : decide (0 < a0.size) = true := decide_eq_true (by omega); clear c5; obtain ⟨t110, A7, H⟩ := bindE_ H; have H' := Aside0.mk H; clear H; have p6 : 0 ≤ (0 : Int) := (by omega)
     have q6 : 0 < a0.size := (by have : (0 : Int) < (a0.size : Int) := ofd_; omega)
     have hx6 : ∀ h : 0 < a0.size, ((a0[0]'h).toNat : Int) = bt a0 0 := bt_at a0 0; clear p6; have qi6 : (0 < (a0.size : Int)) = True := eq_true (ofd_); replace q6 := eq_true q6; go_wp2_with (first | (go_at_call 46; (with_reducible refine (spec_l00Letter.calls (bt a0 0) t110 _ A7.out).mono ?_); rintro e w' ⟨rfl, ⟨nd, rfl⟩⟩)); go_meet
     case rel => exact ⟨_, (!t110), eqE_, H', ⟨leE_⟩, drE_⟩
    · rw [if_neg c5] at H; exact absurd H (by simp)
 case rest =>
  clear HC2; obtain ⟨kq, x17_1, rfl, HA, HJ1, ⟨mc1, rfl⟩⟩ := hcut; cases kq with
  | zero => exact absurd HA.out (by simp [spec_l00Word.j0])
  | succ kj1 =>
   have H := HA.out; clear HA; simp only [spec_l00Word.j0] at H; by_cases c8 : x17_1 = true
   · subst c8; replace H := ifT_ H; obtain rfl := Option.some.inj H; go_wp2; go_ret; exact ⟨eqE_, drE_⟩
   ·
    replace c8 := Bool.eq_false_iff.mpr c8; subst c8; replace H := ifF_ H; have H' := Aside0.mk H; clear H; go_wp2; go_loopg [3] kj1 (fun kq v3 w' => ∃ (x3_2 : Int), v3 = .int .i64 x3_2 ∧ Aside0 (spec_l00Word.l0 kq a0 x3_2 = some r) ∧ Aside0 (kq ≤ kj1) ∧ Drawn0 w w')
    case atStart => exact ⟨(1), eqE_, H', ⟨Nat.le_refl _⟩, drE_⟩
    case round =>
     clear H'; try clear c8
     obtain ⟨x3_2, rfl, HA, HK2, ⟨m2, rfl⟩⟩ := hrel; cases gk with
     | zero => exact absurd HA.out (by simp [spec_l00Word.l0])
     | succ k2 =>
      have H := HA.out; clear HA; simp only [spec_l00Word.l0] at H; by_cases c9 : x3_2 < (a0.size : Int)
      ·
       rw [if_pos c9] at H; have c9b0 : decide (x3_2 < (a0.size : Int)) = true := decide_eq_true c9; clear c9; by_cases c10 : 0 ≤ x3_2
       ·
        rw [if_pos c10] at H; have c10b0 : decide (0 ≤ x3_2) = true := decide_eq_true c10; clear c10; obtain ⟨t111, A12, H⟩ := bindE_ H; by_cases c13 : t111 = true
        ·
         subst c13; replace H := ifT_ H; have H' := Aside0.mk H; clear H; have p11 : 0 ≤ (x3_2 : Int) := ofd_; have q11 : x3_2 < (a0.size : Int) := ofd_; have hx11 := bt_at a0 x3_2; replace p11 := eq_true p11; replace q11 := eq_true q11; go_wp2_with (first | ((with_reducible refine gate_callee (f := 46) rfl ?_); refine cU_ (some 27) Tryd.func46 #[.int .u8 (bt a0 x3_2)] ?_; (with_reducible refine (spec_l00Letter.calls (bt a0 x3_2) true _ A12.out).mono ?_); rintro e w' ⟨rfl, ⟨nd, rfl⟩⟩; refine ⟨_, rfl, ?_⟩)); go_roundg k2
         case measure => have := HJ1.out; have := HK2.out; omega
         case rel => exact ⟨(wrap64 (x3_2 + 1)), eqE_, H', ⟨by have := HJ1.out; have := HK2.out; omega⟩, drE_⟩
        ·
         replace c13 := Bool.eq_false_iff.mpr c13; subst c13; replace H := ifF_ H; obtain ⟨t112, A15, H⟩ := bindE_ H; by_cases c16 : t112 = true
         ·
          subst c16; replace H := ifT_ H; have H' := Aside0.mk H; clear H; have p11 : 0 ≤ (x3_2 : Int) := ofd_; have q11 : x3_2 < (a0.size : Int) := ofd_; have hx11 := bt_at a0 x3_2; replace p11 := eq_true p11; replace q11 := eq_true q11; go_wp2_with (first | ((with_reducible refine gate_callee (f := 46) rfl ?_); refine cU_ (some 27) Tryd.func46 #[.int .u8 (bt a0 x3_2)] ?_; (with_reducible refine (spec_l00Letter.calls (bt a0 x3_2) false _ A12.out).mono ?_); rintro e w' ⟨rfl, ⟨nd, rfl⟩⟩; refine ⟨_, rfl, ?_⟩; have p14 : 0 ≤ (x3_2 : Int) := ofd_; have q14 : x3_2 < (a0.size : Int) := ofd_; have hx14 := bt_at a0 x3_2; replace p14 := eq_true p14; replace q14 := eq_true q14) | (go_at_call 47; (with_reducible refine (spec_l00Digit.calls (bt a0 x3_2) true _ A15.out).mono ?_); rintro e w' ⟨rfl, ⟨nd, rfl⟩⟩)); go_roundg k2
          case measure => have := HJ1.out; have := HK2.out; omega
          case rel => exact ⟨(wrap64 (x3_2 + 1)), eqE_, H', ⟨by have := HJ1.out; have := HK2.out; omega⟩, drE_⟩
         · replace c16 := Bool.eq_false_iff.mpr c16; subst c16; replace H := ifF_ H; obtain rfl := Option.some.inj H; have p11 : 0 ≤ (x3_2 : Int) := ofd_; have q11 : x3_2 < (a0.size : Int) := ofd_; have hx11 := bt_at a0 x3_2; replace p11 := eq_true p11; replace q11 := eq_true q11; go_wp2_with (first | ((with_reducible refine gate_callee (f := 46) rfl ?_); refine cU_ (some 27) Tryd.func46 #[.int .u8 (bt a0 x3_2)] ?_; (with_reducible refine (spec_l00Letter.calls (bt a0 x3_2) false _ A12.out).mono ?_); rintro e w' ⟨rfl, ⟨nd, rfl⟩⟩; refine ⟨_, rfl, ?_⟩; have p14 : 0 ≤ (x3_2 : Int) := ofd_; have q14 : x3_2 < (a0.size : Int) := ofd_; have hx14 := bt_at a0 x3_2; replace p14 := eq_true p14; replace q14 := eq_true q14) | (go_at_call 47; (with_reducible refine (spec_l00Digit.calls (bt a0 x3_2) false _ A15.out).mono ?_); rintro e w' ⟨rfl, ⟨nd, rfl⟩⟩)); go_ret; exact ⟨eqE_, drE_⟩
       · rw [if_neg c10] at H; exact absurd H (by simp)
      · rw [if_neg c9] at H; have c9b0 : decide (x3_2 < (a0.size : Int)) = false := decide_eq_false c9; clear c9; obtain rfl := Option.some.inj H; go_wp2; go_ret; exact ⟨eqE_, drE_⟩

end Go.Proofs.YtagbjmjfelggmaaDoor.QFnExactReadEvent
