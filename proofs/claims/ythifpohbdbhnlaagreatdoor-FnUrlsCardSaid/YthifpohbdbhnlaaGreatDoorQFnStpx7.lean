/- A tool of this session wrote this text out of the translation: functions as plain Lean, and proofs that the machine's calls come to their answers. -/
import Derived.Test.YthifpohbdbhnlaaGreatDoorQShort
import Derived.Test.YthifpohbdbhnlaaGreatDoorQFnStpx0
namespace Go.Proofs.YthifpohbdbhnlaaGreatDoor.QFnStp
open Go.RowKit Go.Proofs.YthifpohbdbhnlaaGreatDoorW.PrintWords Go.Proofs.YthifpohbdbhnlaaGreatDoorW.PrintLast Go.Proofs.YthifpohbdbhnlaaGreatDoorW.PrintMore
open Go.Proofs.YthifpohbdbhnlaaGreatDoor.Short
attribute [local go_sem] max2_int min2_int max_two min_two max_three min_three max_four min_four   -- for this text's walks alone
set_option linter.unusedVariables false
set_option linter.unusedSimpArgs false

/-! ### spec_l01Lower: function 123 -/
def spec_l01Lower.l0 : Nat → ByteArray → List Int → Int → Option (ByteArray)
  | 0, _, _, _ => none
  | k + 1, x0, x3, x4 => if x4 < (x0.size : Int) then (if 0 ≤ x4 then (if (bt x0 x4) ≥ 65 then (if (bt x0 x4) ≤ 90 then (if x3.length < 140737488355328 then (spec_l01Lower.l0 k x0 (x3 ++ [((bt x0 x4) + 32) % 256]) (wrap64 (x4 + 1))) else (none)) else (if x3.length < 140737488355328 then (spec_l01Lower.l0 k x0 (x3 ++ [bt x0 x4]) (wrap64 (x4 + 1))) else (none))) else (if x3.length < 140737488355328 then (spec_l01Lower.l0 k x0 (x3 ++ [bt x0 x4]) (wrap64 (x4 + 1))) else (none))) else (none)) else (some (strOfNums x3))
def spec_l01Lower.f (k : Nat) (a0 : ByteArray) : Option (ByteArray) := spec_l01Lower.l0 k a0 (([] : List Int)) 0
theorem spec_l01Lower.mono_l : ∀ k, (∀ y0 y1 y2, LeO (spec_l01Lower.l0 k y0 y1 y2) (spec_l01Lower.l0 (k + 1) y0 y1 y2))
  | 0 => fun _ _ _ r h => by simp [spec_l01Lower.l0] at h
  | k + 1 => by
    have ih0 := spec_l01Lower.mono_l k
    · intro y0 y1 y2
      unfold spec_l01Lower.l0; repeat' first | (with_reducible exact ih0 _ _ _) | (with_reducible first | exact LeO.refl _ | exact LeO.none _ | refine LeO.ite ?_ ?_ | refine LeO.bind ?_ (fun _ => ?_)) | exact ih0 _ _ _ | exact LeO.none _ | refine LeO.ite ?_ ?_ | refine LeO.bind ?_ (fun _ => ?_)
theorem spec_l01Lower.mono : ∀ a0 k, LeO (spec_l01Lower.f k a0) (spec_l01Lower.f (k + 1) a0) := by
  intro a0 k; have ih0 := spec_l01Lower.mono_l k; unfold spec_l01Lower.f; repeat' first | (with_reducible exact ih0 _ _ _) | (with_reducible first | exact LeO.refl _ | exact LeO.none _ | refine LeO.ite ?_ ?_ | refine LeO.bind ?_ (fun _ => ?_)) | exact ih0 _ _ _ | exact LeO.none _ | refine LeO.ite ?_ ?_ | refine LeO.bind ?_ (fun _ => ?_)
set_option maxHeartbeats 8000000 in
set_option maxRecDepth 100000 in
theorem spec_l01Lower.calls (k : Nat) (a0 : ByteArray) (r : ByteArray) (w : World) (h : spec_l01Lower.f k a0 = some r) :
    Calls Tryz.prog 123 #[.string a0] w fun e w' => e = .returned (.string r) ∧ Below w.heap.size w w' := by
 have HB := Aside0.mk (Below.refl w.heap.size w); have H : (spec_l01Lower.l0 k a0 (([] : List Int)) 0) = some r := h; clear h; obtain ⟨n, hy152⟩ : ∃ y_ : List Int, y_ = (([] : List Int)) := ⟨_, rfl⟩
 replace H : (spec_l01Lower.l0 k a0 n 0) = some r := by first | (rw [hy152]; with_reducible exact H) | (have H2_ := (Option.bind_some _ _).symm.trans H; rw [hy152]; with_reducible exact H2_) | (have H2_ := (Option.bind_some _ _).symm.trans H; with_reducible exact H2_) | with_reducible exact H | (rw [hy152]; exact H) | exact H
 have Ny152 := Aside0.mk hy152; clear hy152; have H' := Aside0.mk H; clear H; go_enter Tryz.func123, Tryz.ntmps123; go_wp2_with (first | ((with_reducible refine gate_dst (N := 6) rfl ?_); refine Kd.R_lit (Kd.int .u8) _ 5 ?hg (N := 6) ?hd (xs := ([] : List Int)) (inner := []) (ok := fun _ => True) (okp := fun _ => True) ?hr ?hp (fun _ hk => hk) trivial (Below.refl _ _) (Nat.le_refl _) (by simp) ?_; (case hd => rfl); (case hg => rfl); (case hr => first | (go_simp; done) | (go_simp; rfl)); (case hp => exact (Reps.none _ _)); intro B w2 j hb hg_ hnew_; clear hg_ hnew_; (first | rw [← Ny152.out] at j | (simp only [Int.reduceToNat] at j; rw [← Ny152.out] at j)); have d := Aside0.mk (Kd.R_lower j (below_size belE_)); have g := belB_ hb; clear HB; have t := d; have HB := g; clear d g; clear hb j)); go_loopg [3, 4] k (fun kq v3 v4 w' => ∃ (c : List Int) (a : Int), v4 = .int .i64 a ∧ Aside0 (spec_l01Lower.l0 kq a0 c a = some r) ∧ Aside0 (kq ≤ k) ∧ Aside0 (Kd.R (Kd.int .u8) 5 w' w.heap.size (fun _ => True) v3 c) ∧ Aside0 (Below w.heap.size w w'))
 case atStart => exact ⟨(n), (0), eqE_, H', ⟨Nat.le_refl _⟩, ⟨by (with_reducible repeat (first | apply Kd.R_alloc | apply Kd.R_drewN | apply Kd.R_drew)); exact t.out⟩, ⟨belE_⟩⟩
 case round =>
  clear H'; obtain ⟨c, a, rfl, HA, i, HO_3, HB⟩ := hrel; cases gk with
  | zero => exact absurd HA.out (by simp [spec_l01Lower.l0])
  | succ k1 =>
   have H := HA.out; clear HA; simp only [spec_l01Lower.l0] at H; by_cases c4 : a < (a0.size : Int)
   ·
    rw [if_pos c4] at H; have y : decide (a < (a0.size : Int)) = true := decide_eq_true c4; clear c4; by_cases c5 : 0 ≤ a
    ·
     rw [if_pos c5] at H; have C : decide (0 ≤ a) = true := decide_eq_true c5; clear c5; by_cases c7 : (bt a0 a) ≥ 65
     ·
      rw [if_pos c7] at H; have z : decide (65 ≤ (bt a0 a)) = true := decide_eq_true c7; clear c7; by_cases c8 : (bt a0 a) ≤ 90
      ·
       rw [if_pos c8] at H; have A : decide ((bt a0 a) ≤ 90) = true := decide_eq_true c8; clear c8; by_cases c9 : c.length < 140737488355328
       ·
        rw [if_pos c9] at H; have LMc9 := Aside0.mk c9; clear c9; obtain ⟨o, hy155⟩ : ∃ y_ : List Int, y_ = (c ++ [((bt a0 a) + 32) % 256]) := ⟨_, rfl⟩
        replace H : (spec_l01Lower.l0 k1 a0 o (wrap64 (a + 1))) = some r := by first | (rw [hy155]; with_reducible exact H) | (have H2_ := (Option.bind_some _ _).symm.trans H; rw [hy155]; with_reducible exact H2_) | (have H2_ := (Option.bind_some _ _).symm.trans H; with_reducible exact H2_) | with_reducible exact H | (rw [hy155]; exact H) | exact H
        have Ny155 := Aside0.mk hy155; clear hy155; have H' := Aside0.mk H; clear H; have p6 : 0 ≤ (a : Int) := ofd_; have q6 : a < (a0.size : Int) := ofd_; have s := bt_at a0 a; replace p6 := eq_true p6; replace q6 := eq_true q6; go_wp2_with (first | ((with_reducible refine gate_builtin (b := .append) (xs := #[.tmp 24, .tmp 26]) rfl ?_); at_builtin; refine Kd.R_append (Kd.int .u8) (w0 := w) w.heap.size rfl (.tmp 24) (.tmp 26) 30 5 (.int .u8 0) 1 rfl Tryz.underlying30 info5 rfl (by decide) (by omega) u3 c (((bt a0 a) + 32) % 256) [.int .u8 (((bt a0 a) + 32) % 256)] (fun _ => True) (fun _ => False) rfl rfl ?aP (fun _ hk => hk.elim) ?aF ?aO ?aB ?aS ?aL ?_; (case aP => exact rfl); (case aB => exact belE_); (case aF => exact (fun _ _ => trivial)); (case aO => exact (rE_ HO_3.out)); (case aS => exact (below_size belE_)); (case aL => have := LMc9.out; omega); intro D G ho hb hg hat; rw [← Ny155.out] at ho; have d := Aside0.mk (hb); have g := Aside0.mk (ho); clear HB; clear HO_3; have HB := d; have u := g; clear d g; clear ho hb hg hat)); go_roundg k1
        case measure => have := i.out; omega
        case rel => exact ⟨(o), (wrap64 (a + 1)), eqE_, H', ⟨by have := i.out; omega⟩, ⟨by (with_reducible repeat (first | apply Kd.R_alloc | apply Kd.R_drewN | apply Kd.R_drew)); exact u.out⟩, ⟨belE_⟩⟩
       · rw [if_neg c9] at H; exact absurd H (by simp)
      ·
       rw [if_neg c8] at H; have A : decide ((bt a0 a) ≤ 90) = false := decide_eq_false c8; clear c8; by_cases l : c.length < 140737488355328
       ·
        rw [if_pos l] at H; have LMc11 := Aside0.mk l; clear l; obtain ⟨p, hy158⟩ : ∃ y_ : List Int, y_ = (c ++ [bt a0 a]) := ⟨_, rfl⟩
        replace H : (spec_l01Lower.l0 k1 a0 p (wrap64 (a + 1))) = some r := by first | (rw [hy158]; with_reducible exact H) | (have H2_ := (Option.bind_some _ _).symm.trans H; rw [hy158]; with_reducible exact H2_) | (have H2_ := (Option.bind_some _ _).symm.trans H; with_reducible exact H2_) | with_reducible exact H | (rw [hy158]; exact H) | exact H
        have Ny158 := Aside0.mk hy158; clear hy158; have H' := Aside0.mk H; clear H; have p6 : 0 ≤ (a : Int) := ofd_; have q6 : a < (a0.size : Int) := ofd_; have s := bt_at a0 a; replace p6 := eq_true p6; replace q6 := eq_true q6; go_wp2_with (first | ((with_reducible refine gate_builtin (b := .append) (xs := #[.tmp 24, .tmp 26]) rfl ?_); at_builtin; refine Kd.R_append (Kd.int .u8) (w0 := w) w.heap.size rfl (.tmp 24) (.tmp 26) 30 5 (.int .u8 0) 1 rfl Tryz.underlying30 info5 rfl (by decide) (by omega) u3 c (bt a0 a) [.int .u8 (bt a0 a)] (fun _ => True) (fun _ => False) rfl rfl ?aP (fun _ hk => hk.elim) ?aF ?aO ?aB ?aS ?aL ?_; (case aP => exact rfl); (case aB => exact belE_); (case aF => exact (fun _ _ => trivial)); (case aO => exact (rE_ HO_3.out)); (case aS => exact (below_size belE_)); (case aL => have := LMc11.out; omega); intro E I ho hb hg hat; rw [← Ny158.out] at ho; have d := Aside0.mk (hb); have g := Aside0.mk (ho); clear HB; clear HO_3; have HB := d; have v := g; clear d g; clear ho hb hg hat)); go_roundg k1
        case measure => have := i.out; omega
        case rel => exact ⟨(p), (wrap64 (a + 1)), eqE_, H', ⟨by have := i.out; omega⟩, ⟨by (with_reducible repeat (first | apply Kd.R_alloc | apply Kd.R_drewN | apply Kd.R_drew)); exact v.out⟩, ⟨belE_⟩⟩
       · rw [if_neg l] at H; exact absurd H (by simp)
     ·
      rw [if_neg c7] at H; have z : decide (65 ≤ (bt a0 a)) = false := decide_eq_false c7; clear c7; by_cases m : c.length < 140737488355328
      ·
       rw [if_pos m] at H; have LMc13 := Aside0.mk m; clear m; obtain ⟨q, hy161⟩ : ∃ y_ : List Int, y_ = (c ++ [bt a0 a]) := ⟨_, rfl⟩
       replace H : (spec_l01Lower.l0 k1 a0 q (wrap64 (a + 1))) = some r := by first | (rw [hy161]; with_reducible exact H) | (have H2_ := (Option.bind_some _ _).symm.trans H; rw [hy161]; with_reducible exact H2_) | (have H2_ := (Option.bind_some _ _).symm.trans H; with_reducible exact H2_) | with_reducible exact H | (rw [hy161]; exact H) | exact H
       have Ny161 := Aside0.mk hy161; clear hy161; have H' := Aside0.mk H; clear H; have p6 : 0 ≤ (a : Int) := ofd_; have q6 : a < (a0.size : Int) := ofd_; have s := bt_at a0 a; replace p6 := eq_true p6; replace q6 := eq_true q6; go_wp2_with (first | ((with_reducible refine gate_builtin (b := .append) (xs := #[.tmp 24, .tmp 26]) rfl ?_); at_builtin; refine Kd.R_append (Kd.int .u8) (w0 := w) w.heap.size rfl (.tmp 24) (.tmp 26) 30 5 (.int .u8 0) 1 rfl Tryz.underlying30 info5 rfl (by decide) (by omega) u3 c (bt a0 a) [.int .u8 (bt a0 a)] (fun _ => True) (fun _ => False) rfl rfl ?aP (fun _ hk => hk.elim) ?aF ?aO ?aB ?aS ?aL ?_; (case aP => exact rfl); (case aB => exact belE_); (case aF => exact (fun _ _ => trivial)); (case aO => exact (rE_ HO_3.out)); (case aS => exact (below_size belE_)); (case aL => have := LMc13.out; omega); intro F J ho hb hg hat; rw [← Ny161.out] at ho; have d := Aside0.mk (hb); have g := Aside0.mk (ho); clear HB; clear HO_3; have HB := d; have x := g; clear d g; clear ho hb hg hat)); go_roundg k1
       case measure => have := i.out; omega
       case rel => exact ⟨(q), (wrap64 (a + 1)), eqE_, H', ⟨by have := i.out; omega⟩, ⟨by (with_reducible repeat (first | apply Kd.R_alloc | apply Kd.R_drewN | apply Kd.R_drew)); exact x.out⟩, ⟨belE_⟩⟩
      · rw [if_neg m] at H; exact absurd H (by simp)
    · rw [if_neg c5] at H; exact absurd H (by simp)
   · rw [if_neg c4] at H; have y : decide (a < (a0.size : Int)) = false := decide_eq_false c4; clear c4; obtain rfl := Option.some.inj H; have hcv15 := own_string (P := Tryz.prog) Tryz.underlying30 Tryz.underlying5 Tryz.underlying9 (Kd.own_of_R HO_3.out); go_wp2; go_ret; exact ⟨retE_, belE_⟩

/-! ### spec_l00Number: function 124 -/
mutual
def spec_l00Number.j0 : Nat → ByteArray → Int → Bool → Option (Int × Bool)
  | 0, _, _, _ => none
  | k + 1, x0, x4, x14 => if x14 = true then (if 1 ≤ (x0.size : Int) then (spec_l00Number.j1 k (x0.extract 1 x0.size) (-1)) else (none)) else (spec_l00Number.j1 k x0 x4)
def spec_l00Number.j1 : Nat → ByteArray → Int → Option (Int × Bool)
  | 0, _, _ => none
  | k + 1, x0, x4 => if (x0.size : Int) = 0 then (spec_l00Number.j2 k x0 x4 true) else (if (x0.size : Int) > 18 then (spec_l00Number.j2 k x0 x4 true) else (if 0 < (x0.size : Int) then (if (bt x0 0) = 48 then (if (x0.size : Int) > 1 then (spec_l00Number.j2 k x0 x4 true) else (spec_l00Number.j2 k x0 x4 (decide (x4 < 0)))) else (spec_l00Number.j2 k x0 x4 false)) else (none)))
def spec_l00Number.j2 : Nat → ByteArray → Int → Bool → Option (Int × Bool)
  | 0, _, _, _ => none
  | k + 1, x0, x4, x38 => if x38 = true then (some (0, false)) else (spec_l00Number.l0 k x0 x4 0 0)
def spec_l00Number.l0 : Nat → ByteArray → Int → Int → Int → Option (Int × Bool)
  | 0, _, _, _, _ => none
  | k + 1, x0, x4, x5, x6 => if x6 < (x0.size : Int) then (if 0 ≤ x6 then (if (bt x0 x6) < 48 then (some (0, false)) else (if (bt x0 x6) > 57 then (some (0, false)) else (spec_l00Number.l0 k x0 x4 (wrap64 ((wrap64 ((wrap64 (x5 * 10)) + (wrap64 (bt x0 x6)))) - 48)) (wrap64 (x6 + 1))))) else (none)) else (some (wrap64 (x4 * x5), true))
end
def spec_l00Number.f (k : Nat) (a0 : ByteArray) : Option (Int × Bool) := if (a0.size : Int) > 0 then (if 0 < (a0.size : Int) then (spec_l00Number.j0 k a0 1 ((bt a0 0) == 45)) else (none)) else (spec_l00Number.j0 k a0 1 false)
theorem spec_l00Number.mono_l : ∀ k, (∀ y0 y1 y2, LeO (spec_l00Number.j0 k y0 y1 y2) (spec_l00Number.j0 (k + 1) y0 y1 y2)) ∧ (∀ y0 y1, LeO (spec_l00Number.j1 k y0 y1) (spec_l00Number.j1 (k + 1) y0 y1)) ∧ (∀ y0 y1 y2, LeO (spec_l00Number.j2 k y0 y1 y2) (spec_l00Number.j2 (k + 1) y0 y1 y2)) ∧ (∀ y0 y1 y2 y3, LeO (spec_l00Number.l0 k y0 y1 y2 y3) (spec_l00Number.l0 (k + 1) y0 y1 y2 y3))
  | 0 => ⟨fun _ _ _ r h => by simp [spec_l00Number.j0] at h, fun _ _ r h => by simp [spec_l00Number.j1] at h, fun _ _ _ r h => by simp [spec_l00Number.j2] at h, fun _ _ _ _ r h => by simp [spec_l00Number.l0] at h⟩
  | k + 1 => by
    obtain ⟨ih0, ih1, ih2, ih3⟩ := spec_l00Number.mono_l k; refine ⟨?_, ?_, ?_, ?_⟩
    · intro y0 y1 y2
      unfold spec_l00Number.j0; repeat' first | (with_reducible exact ih0 _ _ _) | (with_reducible exact ih1 _ _) | (with_reducible exact ih2 _ _ _) | (with_reducible exact ih3 _ _ _ _) | (with_reducible first | exact LeO.refl _ | exact LeO.none _ | refine LeO.ite ?_ ?_ | refine LeO.bind ?_ (fun _ => ?_)) | exact ih0 _ _ _ | exact ih1 _ _ | exact ih2 _ _ _ | exact ih3 _ _ _ _ | exact LeO.none _ | refine LeO.ite ?_ ?_ | refine LeO.bind ?_ (fun _ => ?_)
    · intro y0 y1
      unfold spec_l00Number.j1; repeat' first | (with_reducible exact ih0 _ _ _) | (with_reducible exact ih1 _ _) | (with_reducible exact ih2 _ _ _) | (with_reducible exact ih3 _ _ _ _) | (with_reducible first | exact LeO.refl _ | exact LeO.none _ | refine LeO.ite ?_ ?_ | refine LeO.bind ?_ (fun _ => ?_)) | exact ih0 _ _ _ | exact ih1 _ _ | exact ih2 _ _ _ | exact ih3 _ _ _ _ | exact LeO.none _ | refine LeO.ite ?_ ?_ | refine LeO.bind ?_ (fun _ => ?_)
    · intro y0 y1 y2
      unfold spec_l00Number.j2; repeat' first | (with_reducible exact ih0 _ _ _) | (with_reducible exact ih1 _ _) | (with_reducible exact ih2 _ _ _) | (with_reducible exact ih3 _ _ _ _) | (with_reducible first | exact LeO.refl _ | exact LeO.none _ | refine LeO.ite ?_ ?_ | refine LeO.bind ?_ (fun _ => ?_)) | exact ih0 _ _ _ | exact ih1 _ _ | exact ih2 _ _ _ | exact ih3 _ _ _ _ | exact LeO.none _ | refine LeO.ite ?_ ?_ | refine LeO.bind ?_ (fun _ => ?_)
    · intro y0 y1 y2 y3
      unfold spec_l00Number.l0; repeat' first | (with_reducible exact ih0 _ _ _) | (with_reducible exact ih1 _ _) | (with_reducible exact ih2 _ _ _) | (with_reducible exact ih3 _ _ _ _) | (with_reducible first | exact LeO.refl _ | exact LeO.none _ | refine LeO.ite ?_ ?_ | refine LeO.bind ?_ (fun _ => ?_)) | exact ih0 _ _ _ | exact ih1 _ _ | exact ih2 _ _ _ | exact ih3 _ _ _ _ | exact LeO.none _ | refine LeO.ite ?_ ?_ | refine LeO.bind ?_ (fun _ => ?_)
theorem spec_l00Number.mono : ∀ a0 k, LeO (spec_l00Number.f k a0) (spec_l00Number.f (k + 1) a0) := by
  intro a0 k; obtain ⟨ih0, ih1, ih2, ih3⟩ := spec_l00Number.mono_l k; unfold spec_l00Number.f; repeat' first | (with_reducible exact ih0 _ _ _) | (with_reducible exact ih1 _ _) | (with_reducible exact ih2 _ _ _) | (with_reducible exact ih3 _ _ _ _) | (with_reducible first | exact LeO.refl _ | exact LeO.none _ | refine LeO.ite ?_ ?_ | refine LeO.bind ?_ (fun _ => ?_)) | exact ih0 _ _ _ | exact ih1 _ _ | exact ih2 _ _ _ | exact ih3 _ _ _ _ | exact LeO.none _ | refine LeO.ite ?_ ?_ | refine LeO.bind ?_ (fun _ => ?_)
set_option maxHeartbeats 8000000 in
set_option maxRecDepth 100000 in
theorem spec_l00Number.calls (k : Nat) (a0 : ByteArray) (r1 : Int) (r2 : Bool) (w : World) (h : spec_l00Number.f k a0 = some (r1, r2)) :
    Calls Tryz.prog 124 #[.string a0] w fun e w' => e = .returned (.tuple #[.int .i64 r1, .bool r2]) ∧ Drawn0 w w' := by
 have H := h; clear h; unfold spec_l00Number.f at H; have F := Aside0.mk H; clear H; go_enter Tryz.func124, Tryz.ntmps124; go_upto_region 2 with (fail)
 go_cut [14] (fun a4 wc => ∃ (kq : Nat) (A : Bool), a4 = .bool A ∧ Aside0 (spec_l00Number.j0 kq a0 1 A = some (r1, r2)) ∧ Aside0 (kq ≤ k) ∧ Drawn0 w wc)
 case first =>
  have H := F.out; clear F; by_cases c3 : (a0.size : Int) > 0
  ·
   rw [if_pos c3] at H; have u : decide (0 < (a0.size : Int)) = true := decide_eq_true c3; have a2 : decide (0 < a0.size) = true := decide_eq_true (by omega); clear c3; (first | rw [u] | (simp only [i64_w, i32_w]; rw [u]) | skip); by_cases c4 : 0 < (a0.size : Int)
   ·
    rw [if_pos c4] at H; have ab : decide (0 < (a0.size : Int)) = true := decide_eq_true c4; have ac : decide (0 < a0.size) = true := decide_eq_true (by omega); clear c4; have H' := Aside0.mk H; clear H; have p5 : 0 ≤ (0 : Int) := (by omega)
    have q5 : 0 < a0.size := (by have : (0 : Int) < (a0.size : Int) := ofd_; omega)
    have ag : ∀ h : 0 < a0.size, ((a0[0]'h).toNat : Int) = bt a0 0 := bt_at a0 0; clear p5; have ah : (0 < (a0.size : Int)) = True := eq_true (ofd_); replace q5 := eq_true q5; go_wp2; go_meet
    case rel => exact ⟨_, (((bt a0 0) == 45)), eqE_, H', ⟨leE_⟩, drE_⟩
   · rw [if_neg c4] at H; exact absurd H (by simp)
  ·
   rw [if_neg c3] at H; have u : decide (0 < (a0.size : Int)) = false := decide_eq_false c3; have a2 : decide (0 < a0.size) = false := decide_eq_false (by omega); clear c3; (first | rw [u] | (simp only [i64_w, i32_w]; rw [u]) | skip); have H' := Aside0.mk H; clear H; go_wp2; go_meet
   case rel => exact ⟨_, (false), eqE_, H', ⟨leE_⟩, drE_⟩
 case rest =>
  clear F; obtain ⟨kq, A, rfl, HA, c, ⟨mc1, rfl⟩⟩ := hcut; cases kq with
  | zero => exact absurd HA.out (by simp [spec_l00Number.j0])
  | succ a5 =>
   have H := HA.out; clear HA; simp only [spec_l00Number.j0] at H; have G := Aside0.mk H; clear H; go_upto_if 14 with (fail)
   go_cut [0, 4] (fun v0 v4 wc => ∃ (kq : Nat) (a : ByteArray) (n : Int), v0 = .string a ∧ v4 = .int .i64 n ∧ Aside0 (spec_l00Number.j1 kq a n = some (r1, r2)) ∧ Aside0 (kq ≤ a5) ∧ Drawn0 w wc)
   case first =>
    have H := G.out; clear G; by_cases c7 : A = true
    ·
     subst c7; replace H := ifT_ H; by_cases c8 : 1 ≤ (a0.size : Int)
     ·
      rw [if_pos c8] at H; have ad := eq_true c8; have ae : decide (1 ≤ (a0.size : Int)) = true := decide_eq_true c8; clear c8; have H' := Aside0.mk H; clear H; go_wp2; go_meet
      case rel => exact ⟨_, (a0.extract 1 a0.size), ((-1)), eqE_, eqE_, H', ⟨by have := c.out; first | omega | exact Nat.le_refl _⟩, drE_⟩
     · rw [if_neg c8] at H; exact absurd H (by simp)
    ·
     replace c7 := Bool.eq_false_iff.mpr c7; subst c7; replace H := ifF_ H; have H' := Aside0.mk H; clear H; go_wp2; go_meet
     case rel => exact ⟨_, (a0), (1), eqE_, eqE_, H', ⟨by have := c.out; first | omega | exact Nat.le_refl _⟩, drE_⟩
   case rest =>
    clear G; obtain ⟨kq, a, n, rfl, rfl, HA, j, ⟨mc5, rfl⟩⟩ := hcut; cases kq with
    | zero => exact absurd HA.out (by simp [spec_l00Number.j1])
    | succ a6 =>
     have H := HA.out; clear HA; simp only [spec_l00Number.j1] at H; have I := Aside0.mk H; clear H; go_upto_region 5 with (fail)
     go_cut [38] (fun a7 wc => ∃ (kq : Nat) (B : Bool), a7 = .bool B ∧ Aside0 (spec_l00Number.j2 kq a n B = some (r1, r2)) ∧ Aside0 (kq ≤ a6) ∧ Drawn0 w wc)
     case first =>
      have H := I.out; clear I; by_cases l : (a.size : Int) = 0
      ·
       rw [if_pos l] at H; have t : ((a.size : Int) == 0) = true := beq_iff_eq.mpr l; have R : ((a.size : Int) != 0) = false := bne_eq_false_iff_eq.mpr l; clear l; (first | rw [t] | (simp only [i64_w, i32_w]; rw [t]) | skip); have H' := Aside0.mk H; clear H; go_wp2; go_meet
       case rel => exact ⟨_, (true), eqE_, H', ⟨by have := c.out; have := j.out; first | omega | exact Nat.le_refl _⟩, drE_⟩
      ·
       rw [if_neg l] at H; have t : ((a.size : Int) == 0) = false := beq_eq_false_iff_ne.mpr l; have R : ((a.size : Int) != 0) = true := bne_iff_ne.mpr l; (first | rw [t] | (simp only [i64_w, i32_w]; rw [t]) | skip); by_cases o : (a.size : Int) > 18
       ·
        rw [if_pos o] at H; have S : decide (18 < (a.size : Int)) = true := decide_eq_true o; have T : decide (18 < a.size) = true := decide_eq_true (by omega); clear o; have H' := Aside0.mk H; clear H; go_wp2; go_meet
        case rel => exact ⟨_, (true), eqE_, H', ⟨by have := c.out; have := j.out; first | omega | exact Nat.le_refl _⟩, drE_⟩
       ·
        rw [if_neg o] at H; have S : decide (18 < (a.size : Int)) = false := decide_eq_false o; have T : decide (18 < a.size) = false := decide_eq_false (by omega); clear o; by_cases D : 0 < (a.size : Int)
        ·
         rw [if_pos D] at H; have a8 : decide (0 < (a.size : Int)) = true := decide_eq_true D; have a9 : decide (0 < a.size) = true := decide_eq_true (by omega); clear D; by_cases m : (bt a 0) = 48
         ·
          rw [if_pos m] at H; have U : ((bt a 0) == 48) = true := beq_iff_eq.mpr m; have V : ((bt a 0) != 48) = false := bne_eq_false_iff_eq.mpr m; clear m; by_cases p : (a.size : Int) > 1
          ·
           rw [if_pos p] at H; have W : decide (1 < (a.size : Int)) = true := decide_eq_true p; have X : decide (1 < a.size) = true := decide_eq_true (by omega); clear p; have H' := Aside0.mk H; clear H; have v : 0 ≤ (0 : Int) := (by omega)
           have d : 0 < a.size := (by have : (0 : Int) < (a.size : Int) := ofd_; omega)
           have J : ∀ h : 0 < a.size, ((a[0]'h).toNat : Int) = bt a 0 := bt_at a 0; clear v; have K : (0 < (a.size : Int)) = True := eq_true (ofd_); replace d := eq_true d; go_wp2; go_meet
           case rel => exact ⟨_, (true), eqE_, H', ⟨by have := c.out; have := j.out; first | omega | exact Nat.le_refl _⟩, drE_⟩
          ·
           rw [if_neg p] at H; have W : decide (1 < (a.size : Int)) = false := decide_eq_false p; have X : decide (1 < a.size) = false := decide_eq_false (by omega); clear p; have H' := Aside0.mk H; clear H; have v : 0 ≤ (0 : Int) := (by omega)
           have d : 0 < a.size := (by have : (0 : Int) < (a.size : Int) := ofd_; omega)
           have J : ∀ h : 0 < a.size, ((a[0]'h).toNat : Int) = bt a 0 := bt_at a 0; clear v; have K : (0 < (a.size : Int)) = True := eq_true (ofd_); replace d := eq_true d; go_wp2; go_meet
           case rel => exact ⟨_, (decide (n < 0)), eqE_, H', ⟨by have := c.out; have := j.out; first | omega | exact Nat.le_refl _⟩, drE_⟩
         ·
          rw [if_neg m] at H; have U : ((bt a 0) == 48) = false := beq_eq_false_iff_ne.mpr m; have V : ((bt a 0) != 48) = true := bne_iff_ne.mpr m; have H' := Aside0.mk H; clear H; have v : 0 ≤ (0 : Int) := (by omega)
          have d : 0 < a.size := (by have : (0 : Int) < (a.size : Int) := ofd_; omega)
          have J : ∀ h : 0 < a.size, ((a[0]'h).toNat : Int) = bt a 0 := bt_at a 0; clear v; have K : (0 < (a.size : Int)) = True := eq_true (ofd_); replace d := eq_true d; go_wp2; go_meet
          case rel => exact ⟨_, (false), eqE_, H', ⟨by have := c.out; have := j.out; first | omega | exact Nat.le_refl _⟩, drE_⟩
        · rw [if_neg D] at H; exact absurd H (by simp)
     case rest =>
      clear I; obtain ⟨kq, B, rfl, HA, M, ⟨mc8, rfl⟩⟩ := hcut; cases kq with
      | zero => exact absurd HA.out (by simp [spec_l00Number.j2])
      | succ N =>
       have H := HA.out; clear HA; simp only [spec_l00Number.j2] at H; by_cases x : B = true
       · subst x; replace H := ifT_ H; simp only [Option.some.injEq, Prod.mk.injEq] at H; obtain ⟨rfl, rfl⟩ := H; go_wp2; go_ret2; exact ⟨eqE_, drE_⟩
       ·
        replace x := Bool.eq_false_iff.mpr x; subst x; replace H := ifF_ H; have H' := Aside0.mk H; clear H; go_wp2; go_loopg [5, 6] N (fun kq v5 v6 w' => ∃ (C : Int) (b : Int), v5 = .int .i64 C ∧ v6 = .int .i64 b ∧ Aside0 (spec_l00Number.l0 kq a n C b = some (r1, r2)) ∧ Aside0 (kq ≤ N) ∧ Drawn0 w w')
        case atStart => exact ⟨(0), (0), eqE_, eqE_, H', ⟨Nat.le_refl _⟩, drE_⟩
        case round =>
         clear H'; try clear x
         obtain ⟨C, b, rfl, rfl, HA, O, ⟨m4, rfl⟩⟩ := hrel; cases gk with
         | zero => exact absurd HA.out (by simp [spec_l00Number.l0])
         | succ k4 =>
          have H := HA.out; clear HA; simp only [spec_l00Number.l0] at H; by_cases q : b < (a.size : Int)
          ·
           rw [if_pos q] at H; have Y : decide (b < (a.size : Int)) = true := decide_eq_true q; clear q; by_cases E : 0 ≤ b
           ·
            rw [if_pos E] at H; have aa : decide (0 ≤ b) = true := decide_eq_true E; clear E; by_cases r : (bt a b) < 48
            · rw [if_pos r] at H; have Z : decide ((bt a b) < 48) = true := decide_eq_true r; clear r; simp only [Option.some.injEq, Prod.mk.injEq] at H; obtain ⟨rfl, rfl⟩ := H; have g : 0 ≤ (b : Int) := ofd_; have i : b < (a.size : Int) := ofd_; have L := bt_at a b; replace g := eq_true g; replace i := eq_true i; go_wp2; go_ret2; exact ⟨eqE_, drE_⟩
            ·
             rw [if_neg r] at H; have Z : decide ((bt a b) < 48) = false := decide_eq_false r; clear r; by_cases s : (bt a b) > 57
             · rw [if_pos s] at H; have a1 : decide (57 < (bt a b)) = true := decide_eq_true s; clear s; simp only [Option.some.injEq, Prod.mk.injEq] at H; obtain ⟨rfl, rfl⟩ := H; have g : 0 ≤ (b : Int) := ofd_; have i : b < (a.size : Int) := ofd_; have L := bt_at a b; replace g := eq_true g; replace i := eq_true i; have y : 0 ≤ (b : Int) := ofd_; have z : b < (a.size : Int) := ofd_; have a3 := bt_at a b; replace y := eq_true y; replace z := eq_true z; go_wp2; go_ret2; exact ⟨eqE_, drE_⟩
             ·
              rw [if_neg s] at H; have a1 : decide (57 < (bt a b)) = false := decide_eq_false s; clear s; have H' := Aside0.mk H; clear H; have g : 0 ≤ (b : Int) := ofd_; have i : b < (a.size : Int) := ofd_; have L := bt_at a b; replace g := eq_true g; replace i := eq_true i; have y : 0 ≤ (b : Int) := ofd_; have z : b < (a.size : Int) := ofd_; have a3 := bt_at a b; replace y := eq_true y; replace z := eq_true z; have P : 0 ≤ (b : Int) := ofd_; have Q : b < (a.size : Int) := ofd_; have af := bt_at a b; replace P := eq_true P; replace Q := eq_true Q; go_wp2; go_roundg k4
              case measure => have := c.out; have := j.out; have := M.out; have := O.out; omega
              case rel => exact ⟨(wrap64 ((wrap64 ((wrap64 (C * 10)) + (wrap64 (bt a b)))) - 48)), (wrap64 (b + 1)), eqE_, eqE_, H', ⟨by have := c.out; have := j.out; have := M.out; have := O.out; omega⟩, drE_⟩
           · rw [if_neg E] at H; exact absurd H (by simp)
          · rw [if_neg q] at H; have Y : decide (b < (a.size : Int)) = false := decide_eq_false q; clear q; simp only [Option.some.injEq, Prod.mk.injEq] at H; obtain ⟨rfl, rfl⟩ := H; go_wp2; go_ret2; exact ⟨eqE_, drE_⟩

end Go.Proofs.YthifpohbdbhnlaaGreatDoor.QFnStp
