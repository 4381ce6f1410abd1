/- A tool of this session wrote this text out of the translation: functions as plain Lean, and proofs that the machine's calls come to their answers. -/
import Derived.Test.YtmfnaaeglfhnmaaQShort
import Derived.Test.YtmfnaaeglfhnmaaQFnExactMissedx0
import Derived.Test.YtmfnaaeglfhnmaaQFnExactMissedx4
import Derived.Test.YtmfnaaeglfhnmaaQFnExactMissedx5
namespace Go.Proofs.Ytmfnaaeglfhnmaa.QFnExactMissed
open Go.RowKit Go.Proofs.YtmfnaaeglfhnmaaW.PrintWords Go.Proofs.YtmfnaaeglfhnmaaW.PrintLast Go.Proofs.YtmfnaaeglfhnmaaW.PrintMore
open Go.Proofs.Ytmfnaaeglfhnmaa.Short
attribute [local go_sem] max2_int min2_int max_two min_two max_three min_three max_four min_four   -- for this text's walks alone
set_option linter.unusedVariables false
set_option linter.unusedSimpArgs false

/-! ### spec_l06OK: function 84 -/
mutual
def spec_l06OK.j0 : Nat → Bool → List (S64) → List ByteArray → Option (Bool)
  | 0, _, _, _ => none
  | k + 1, x14, x195000, x195001 => if x14 = true then (some false) else (spec_l06OK.l0 k 0 x195000 x195001)
def spec_l06OK.l0 : Nat → Int → List (S64) → List ByteArray → Option (Bool)
  | 0, _, _, _ => none
  | k + 1, x3, x195000, x195001 => if x3 < (x195000.length : Int) then (if 0 ≤ x3 then ((spec_l06Report.f ((rd_T64 x195000 x3).f0) ((rd_T64 x195000 x3).f1) ((rd_T64 x195000 x3).f2) ((rd_T64 x195000 x3).f3)).bind fun t196 => (if t196 = true then (if x3 > 0 then (if 0 ≤ (wrap64 (x3 - 1)) then (if (wrap64 (x3 - 1)) < (x195000.length : Int) then (if ((rd_T64 x195000 x3).f0) ≤ ((rd_T64 x195000 (wrap64 (x3 - 1))).f0) then (some false) else (if ((rd_T64 x195000 x3).f1) < ((rd_T64 x195000 (wrap64 (x3 - 1))).f1) then (some false) else (spec_l06OK.l0 k (wrap64 (x3 + 1)) x195000 x195001))) else (none)) else (none)) else (spec_l06OK.l0 k (wrap64 (x3 + 1)) x195000 x195001)) else (some false))) else (none)) else (spec_l06OK.l1 k 0 x195000 x195001)
def spec_l06OK.l1 : Nat → Int → List (S64) → List ByteArray → Option (Bool)
  | 0, _, _, _ => none
  | k + 1, x4, x195000, x195001 => if x4 < (x195001.length : Int) then (if 0 ≤ x4 then ((spec_l01In.f ((rdOf ByteArray.empty x195001 x4).size : Int) 1 8000).bind fun t202 => (if t202 = true then (if x4 ≤ (x195001.length : Int) then ((spec_l01Has.f k (x195001.take (x4 : Int).toNat) (rdOf ByteArray.empty x195001 x4)).bind fun t205 => (if t205 = true then (some false) else (spec_l06OK.l1 k (wrap64 (x4 + 1)) x195000 x195001))) else (none)) else (some false))) else (none)) else (some true)
end
def spec_l06OK.f (k : Nat) (l0_0 : List (S64)) (l0_1 : List ByteArray) : Option (Bool) := if (l0_0.length : Int) > 5 then (spec_l06OK.j0 k true l0_0 l0_1) else (spec_l06OK.j0 k (decide ((l0_1.length : Int) > 6)) l0_0 l0_1)
theorem spec_l06OK.mono_l : ∀ k, (∀ y0 y1 y2, LeO (spec_l06OK.j0 k y0 y1 y2) (spec_l06OK.j0 (k + 1) y0 y1 y2)) ∧ (∀ y0 y1 y2, LeO (spec_l06OK.l0 k y0 y1 y2) (spec_l06OK.l0 (k + 1) y0 y1 y2)) ∧ (∀ y0 y1 y2, LeO (spec_l06OK.l1 k y0 y1 y2) (spec_l06OK.l1 (k + 1) y0 y1 y2))
  | 0 => ⟨fun _ _ _ r h => by simp [spec_l06OK.j0] at h, fun _ _ _ r h => by simp [spec_l06OK.l0] at h, fun _ _ _ r h => by simp [spec_l06OK.l1] at h⟩
  | k + 1 => by
    obtain ⟨ih0, ih1, ih2⟩ := spec_l06OK.mono_l k
    refine ⟨?_, ?_, ?_⟩
    · intro y0 y1 y2
      unfold spec_l06OK.j0
      repeat' first
      | (with_reducible exact ih0 _ _ _)
      | (with_reducible exact ih1 _ _ _)
      | (with_reducible exact ih2 _ _ _)
      | (with_reducible exact spec_l01Has.mono _ _ _)
      | (with_reducible exact LeO.refl _)
      | (with_reducible exact LeO.none _)
      | (with_reducible refine LeO.ite ?_ ?_)
      | (with_reducible refine LeO.bind ?_ (fun _ => ?_))
      | exact ih0 _ _ _
      | exact ih1 _ _ _
      | exact ih2 _ _ _
      | exact spec_l01Has.mono _ _ _
      | exact LeO.none _
      | refine LeO.ite ?_ ?_
      | refine LeO.bind ?_ (fun _ => ?_)
    · intro y0 y1 y2
      unfold spec_l06OK.l0
      repeat' first
      | (with_reducible exact ih0 _ _ _)
      | (with_reducible exact ih1 _ _ _)
      | (with_reducible exact ih2 _ _ _)
      | (with_reducible exact spec_l01Has.mono _ _ _)
      | (with_reducible exact LeO.refl _)
      | (with_reducible exact LeO.none _)
      | (with_reducible refine LeO.ite ?_ ?_)
      | (with_reducible refine LeO.bind ?_ (fun _ => ?_))
      | exact ih0 _ _ _
      | exact ih1 _ _ _
      | exact ih2 _ _ _
      | exact spec_l01Has.mono _ _ _
      | exact LeO.none _
      | refine LeO.ite ?_ ?_
      | refine LeO.bind ?_ (fun _ => ?_)
    · intro y0 y1 y2
      unfold spec_l06OK.l1
      repeat' first
      | (with_reducible exact ih0 _ _ _)
      | (with_reducible exact ih1 _ _ _)
      | (with_reducible exact ih2 _ _ _)
      | (with_reducible exact spec_l01Has.mono _ _ _)
      | (with_reducible exact LeO.refl _)
      | (with_reducible exact LeO.none _)
      | (with_reducible refine LeO.ite ?_ ?_)
      | (with_reducible refine LeO.bind ?_ (fun _ => ?_))
      | exact ih0 _ _ _
      | exact ih1 _ _ _
      | exact ih2 _ _ _
      | exact spec_l01Has.mono _ _ _
      | exact LeO.none _
      | refine LeO.ite ?_ ?_
      | refine LeO.bind ?_ (fun _ => ?_)
theorem spec_l06OK.mono : ∀ a0 a1 k, LeO (spec_l06OK.f k a0 a1) (spec_l06OK.f (k + 1) a0 a1) := by
  intro a0 a1 k
  obtain ⟨ih0, ih1, ih2⟩ := spec_l06OK.mono_l k
  unfold spec_l06OK.f
  repeat' first
      | (with_reducible exact ih0 _ _ _)
      | (with_reducible exact ih1 _ _ _)
      | (with_reducible exact ih2 _ _ _)
      | (with_reducible exact spec_l01Has.mono _ _ _)
      | (with_reducible exact LeO.refl _)
      | (with_reducible exact LeO.none _)
      | (with_reducible refine LeO.ite ?_ ?_)
      | (with_reducible refine LeO.bind ?_ (fun _ => ?_))
      | exact ih0 _ _ _
      | exact ih1 _ _ _
      | exact ih2 _ _ _
      | exact spec_l01Has.mono _ _ _
      | exact LeO.none _
      | refine LeO.ite ?_ ?_
      | refine LeO.bind ?_ (fun _ => ?_)
def spec_l06OK.T6 : Bool × List (List Nat × List Nat) := (true, [([], []), ([0], [0]), ([], []), ([1, 2], [1, 2]), ([3], [3]), ([4], [4]), ([5], [5]), ([6, 5], [6]), ([7], [7]), ([8, 7], [7, 8]), ([9, 7, 7], [7, 9]), ([10], [10]), ([11, 10], [10, 11]), ([10], [10]), ([12, 13, 10], [10, 12, 13]), ([14, 10], [10, 14]), ([15, 10], [10, 15]), ([10], [10]), ([17, 10], [10, 17]), ([10], [10]), ([19, 10], [10, 19]), ([18, 20, 10], [10, 18, 20]), ([21, 10], [10, 21]), ([22, 10], [10, 22]), ([16, 23, 10], [10, 16, 23]), ([24, 10, 10], [10, 24]), ([25], [25]), ([26, 25], [25, 26]), ([25], [25]), ([27, 28, 25], [25, 27, 28]), ([29, 25], [25, 29]), ([30, 25], [25, 30]), ([25], [25]), ([32, 25], [25, 32]), ([25], [25]), ([34, 25], [25, 34]), ([33, 35, 25], [25, 33, 35]), ([36, 25], [25, 36]), ([37, 25], [25, 37]), ([31, 38, 25], [25, 31, 38]), ([25, 39, 10], [10, 25, 39]), ([10, 40, 7], [7, 10, 40]), ([7, 41], [7, 41])])
def spec_l06OK.B6 : List Nat := [0, 1, 0, 7, 15, 31, 63, 127, 255, 511, 1023, 2047, 4095, 2047, 16383, 32767, 65535, 2047, 133119, 2047, 526335, 1968127, 4065279, 8259583, 16777215, 33554431, 67108863, 134217727, 67108863, 536870911, 1073741823, 2147483647, 67108863, 4362076159, 67108863, 17246978047, 64491618303, 133211095039, 270650048511, 549755813887, 1099511627775, 2199023255551, 4398046511103]
theorem spec_l06OK.tab6 : rtab .any (opsOf Try.f84 6) = spec_l06OK.T6 := by kernel_rfl
theorem spec_l06OK.bits6 : waitsOk spec_l06OK.T6.2 spec_l06OK.B6 = true := by kernel_rfl
def spec_l06OK.T11 : Bool × List (List Nat × List Nat) := (true, [([], []), ([0], [0]), ([], []), ([1, 2], [1, 2]), ([3], [3]), ([4], [4]), ([5], [5]), ([6], [6]), ([7, 6], [7]), ([8], [8]), ([9, 8], [8, 9]), ([8], [8]), ([10, 11, 8], [8, 10, 11]), ([8], [8]), ([13, 8], [8, 13]), ([8], [8]), ([14, 15, 8], [8, 14, 15]), ([16, 8], [8, 16]), ([12, 17, 8, 8], [8, 12, 17]), ([8, 18], [8, 18])])
def spec_l06OK.B11 : List Nat := [0, 1, 0, 7, 15, 31, 63, 127, 255, 511, 1023, 511, 4095, 511, 8703, 511, 57855, 123391, 262143, 524287]
theorem spec_l06OK.tab11 : rtab .any (opsOf Try.f84 11) = spec_l06OK.T11 := by kernel_rfl
theorem spec_l06OK.bits11 : waitsOk spec_l06OK.T11.2 spec_l06OK.B11 = true := by kernel_rfl
set_option maxHeartbeats 8000000 in
set_option maxRecDepth 100000 in
theorem spec_l06OK.calls (k : Nat) (A0_0 : Option Addr) (c0_0 : Nat) (l0_0 : List (S64)) (A0_1 : Option Addr) (c0_1 : Nat) (l0_1 : List ByteArray) (r : Bool) (w : World) (hr0_0 : Kd.C k64 w A0_0 l0_0.length l0_0) (hc0_0 : l0_0.length ≤ c0_0) (hr0_1 : Kd.C Kd.string w A0_1 l0_1.length l0_1) (hc0_1 : l0_1.length ≤ c0_1) (h : spec_l06OK.f k l0_0 l0_1 = some r) :
    Calls Try.prog 84 #[.agg #[.slice A0_0 l0_0.length c0_0, .slice A0_1 l0_1.length c0_1]] w fun e w' => e = .returned (.bool r) ∧ Below w.heap.size w w' := by
 have hu49 := Try.underlying49
 have hu64 := Try.underlying64
 have HR0_0 := Aside0.mk hr0_0
 have HC0_0 := Aside0.mk hc0_0
 clear hr0_0 hc0_0
 have HR0_1 := Aside0.mk hr0_1
 have HC0_1 := Aside0.mk hc0_1
 clear hr0_1 hc0_1
 have HB := Aside0.mk (Below.refl w.heap.size w)
 have H : (if (l0_0.length : Int) > 5 then (spec_l06OK.j0 k true l0_0 l0_1) else (spec_l06OK.j0 k (decide ((l0_1.length : Int) > 6)) l0_0 l0_1)) = some r := h
 clear h
 have HC2 := Aside0.mk H
 clear H
 go_enter Try.func84, Try.ntmps84
 go_upto_region 1 with (first | ((with_reducible refine gate_dst (N := 1) rfl ?_); (try (refine gate_guard (by rfl) ?_; dsimp only)); refine box_event ?hg (N := 1) ?hd (cs := #[.slice A0_0 l0_0.length c0_0, .slice A0_1 l0_1.length c0_1]) (t := 49) ?hr ?_; (case hd => rfl); (case hg => rfl); (case hr => first | (go_simp; done) | (go_simp; rfl)); intro gb194 hg w3 hbox hb; have n0_ := belB_ hb; have n1_ := Aside0.mk (hbox); have n2_ := Aside0.mk ((by rw [hg]; exact (below_size (by repeat (first | (with_reducible first | exact HB.out | apply below_alloc | apply pw_below_drewN | apply below_drew1) | exact HB.out))) : w.heap.size ≤ gb194)); have n3_ := Aside0.mk ((by rw [hg]; exact (below_size (by repeat (first | (with_reducible first | exact HB.out | apply below_alloc | apply pw_below_drewN | apply below_drew1) | exact HB.out))) : w.heap.size ≤ gb194)); clear HB; have HB := n0_; have BK194 := n1_; have GW194 := n2_; have GE194 := n3_; clear n0_ n1_ n2_ n3_; clear hb hbox hg))
 (try simp only [Act.put, List.setIfInBounds_toArray, List.set_cons_zero, List.set_cons_succ])
 go_cut [14] (fun v14 wc => ∃ (kq : Nat) (x14_1 : Bool), v14 = .bool x14_1 ∧ Aside0 (spec_l06OK.j0 kq x14_1 l0_0 l0_1 = some r) ∧ Aside0 (kq ≤ k) ∧ Aside0 (wc.heap[gb194]? = some (.cells #[(.slice A0_0 l0_0.length c0_0), (.slice A0_1 l0_1.length c0_1)] 49 (0, 0))) ∧ Aside0 (Below w.heap.size w wc))
 case first =>
  have H := HC2.out
  clear HC2
  by_cases c4 : (l0_0.length : Int) > 5
  ·
   rw [if_pos c4] at H
   have c4b0 : decide (5 < (l0_0.length : Int)) = true := decide_eq_true c4
   have c4b1 : decide (5 < l0_0.length) = true := decide_eq_true (by omega)
   clear c4
   (first | rw [c4b0] | (simp only [i64_w, i32_w]; rw [c4b0]) | skip)
   have H' := Aside0.mk H
   clear H
   obtain ⟨hcz5_0, hcz5_1, hfz5_0, hfz5_1⟩ := cz2_ BK194
   go_wp2
   go_meet
   case rel => exact ⟨_, (true), eqE_, H', ⟨leE_⟩, ⟨blkE_⟩, ⟨belE_⟩⟩
  ·
   rw [if_neg c4] at H
   have c4b0 : decide (5 < (l0_0.length : Int)) = false := decide_eq_false c4
   have c4b1 : decide (5 < l0_0.length) = false := decide_eq_false (by omega)
   clear c4
   (first | rw [c4b0] | (simp only [i64_w, i32_w]; rw [c4b0]) | skip)
   have H' := Aside0.mk H
   clear H
   obtain ⟨hcz6_0, hcz6_1, hfz6_0, hfz6_1⟩ := cz2_ BK194
   go_wp2
   go_meet
   case rel => exact ⟨_, (decide ((l0_1.length : Int) > 6)), eqE_, H', ⟨leE_⟩, ⟨blkE_⟩, ⟨belE_⟩⟩
 case rest =>
  clear HC2
  obtain ⟨kq, x14_1, rfl, HA, HJ1, BK194, HB⟩ := hcut
  cases kq with
  | zero => exact absurd HA.out (by simp [spec_l06OK.j0])
  | succ kj1 =>
   have H := HA.out
   clear HA
   simp only [spec_l06OK.j0] at H
   by_cases c7 : x14_1 = true
   ·
    subst c7
    replace H := ifT_ H
    obtain rfl := Option.some.inj H
    go_wp2
    go_ret
    exact ⟨retE_, belE_⟩
   ·
    replace c7 := Bool.eq_false_iff.mpr c7
    subst c7
    replace H := ifF_ H
    have H' := Aside0.mk H
    clear H
    go_wp2
    go_loopg [3] kj1 (fun kq v3 w' => ∃ (x3_2 : Int), v3 = .int .i64 x3_2 ∧ Aside0 (spec_l06OK.l0 kq x3_2 l0_0 l0_1 = some r) ∧ Aside0 (kq ≤ kj1) ∧ Aside0 (w'.heap[gb194]? = some (.cells #[(.slice A0_0 l0_0.length c0_0), (.slice A0_1 l0_1.length c0_1)] 49 (0, 0))) ∧ Aside0 (Below w.heap.size w w'))
    case atStart => exact ⟨(0), eqE_, H', ⟨Nat.le_refl _⟩, ⟨blkE_⟩, ⟨belE_⟩⟩
    case round =>
     clear H'
     try clear c7
     obtain ⟨x3_2, rfl, HA, HK2, BK194, HB⟩ := hrel
     cases gk with
     | zero => exact absurd HA.out (by simp [spec_l06OK.l0])
     | succ k2 =>
      have H := HA.out
      clear HA
      simp only [spec_l06OK.l0] at H
      by_cases c8 : x3_2 < (l0_0.length : Int)
      ·
       rw [if_pos c8] at H
       have c8b0 : decide (x3_2 < (l0_0.length : Int)) = true := decide_eq_true c8
       clear c8
       by_cases c9 : 0 ≤ x3_2
       ·
        rw [if_pos c9] at H
        have c9b0 : decide (0 ≤ x3_2) = true := decide_eq_true c9
        clear c9
        obtain ⟨t196, A10, H⟩ := bindE_ H
        by_cases c11 : t196 = true
        ·
         subst c11
         replace H := ifT_ H
         by_cases c12 : x3_2 > 0
         ·
          rw [if_pos c12] at H
          have c12b0 : decide (0 < x3_2) = true := decide_eq_true c12
          clear c12
          obtain ⟨ji13, hji13⟩ : ∃ j_ : Int, (wrap64 (x3_2 - 1)) = j_ := ⟨_, rfl⟩
          replace H : (if 0 ≤ (ji13) then (if (ji13) < (l0_0.length : Int) then (if ((rd_T64 l0_0 x3_2).f0) ≤ ((rd_T64 l0_0 (ji13)).f0) then (some false) else (if ((rd_T64 l0_0 x3_2).f1) < ((rd_T64 l0_0 (ji13)).f1) then (some false) else (spec_l06OK.l0 k2 (wrap64 (x3_2 + 1)) l0_0 l0_1))) else (none)) else (none)) = some r := by first | (rw [hji13] at H; exact H) | (simp only [hji13] at H ⊢; exact H)
          (try rw [hji13] at A10)
          have hji13w : (IntKind.i64.wrap (x3_2 - 1)) = ji13 := (i64_w _).trans hji13
          by_cases c14 : 0 ≤ (ji13)
          ·
           rw [if_pos c14] at H
           have c14b0 : decide (0 ≤ (ji13)) = true := decide_eq_true c14
           clear c14
           by_cases c15 : (ji13) < (l0_0.length : Int)
           ·
            rw [if_pos c15] at H
            have c15b0 : decide ((ji13) < (l0_0.length : Int)) = true := decide_eq_true c15
            clear c15
            by_cases c16 : ((rd_T64 l0_0 x3_2).f0) ≤ ((rd_T64 l0_0 (ji13)).f0)
            ·
             rw [if_pos c16] at H
             have c16b0 : decide (((rd_T64 l0_0 x3_2).f0) ≤ ((rd_T64 l0_0 (ji13)).f0)) = true := decide_eq_true c16
             clear c16
             obtain rfl := Option.some.inj H
             obtain ⟨hcz17_0, hcz17_1, hfz17_0, hfz17_1⟩ := cz2_ BK194
             try go_wp2
             replace BK194 := Aside0.mk (blk_drew BK194.out)
             replace HB := Aside0.mk (below_drew1 HB.out)
             have p195 : 0 ≤ (x3_2 : Int) := of_decide_eq_true (by first | (with_reducible assumption) | assumption)
             have q195 : x3_2 < (l0_0.length : Int) := of_decide_eq_true (by first | (with_reducible assumption) | assumption)
             obtain ⟨ad195, e195, hx195_0, hx195_1, hx195_2, hx195_3⟩ := at_T64 HR0_0.out x3_2 p195 q195
             have hw195_3 := hx195_3
             have hw195_2 := hx195_2
             have hw195_1 := hx195_1
             have hw195_0 := hx195_0
             cases e195
             replace hx195_0 := (HB.out.cell (World.block_lt_of_cell? w _ hx195_0)).trans hx195_0
             replace hx195_1 := (HB.out.cell (World.block_lt_of_cell? w _ hx195_1)).trans hx195_1
             replace hx195_2 := (HB.out.cell (World.block_lt_of_cell? w _ hx195_2)).trans hx195_2
             replace hx195_3 := (HB.out.cell (World.block_lt_of_cell? w _ hx195_3)).trans hx195_3
             replace p195 := eq_true p195
             replace q195 := eq_true q195
             have p197 : 0 ≤ (x3_2 : Int) := of_decide_eq_true (by first | (with_reducible assumption) | assumption)
             have q197 : x3_2 < (l0_0.length : Int) := of_decide_eq_true (by first | (with_reducible assumption) | assumption)
             obtain ⟨ad197, e197, hx197_0, hx197_1, hx197_2, hx197_3⟩ := at_T64 HR0_0.out x3_2 p197 q197
             have hw197_3 := hx197_3
             have hw197_2 := hx197_2
             have hw197_1 := hx197_1
             have hw197_0 := hx197_0
             obtain rfl : ad195 = ad197 := (by injection e197)
             replace hx197_0 := (HB.out.cell (World.block_lt_of_cell? w _ hx197_0)).trans hx197_0
             replace hx197_1 := (HB.out.cell (World.block_lt_of_cell? w _ hx197_1)).trans hx197_1
             replace hx197_2 := (HB.out.cell (World.block_lt_of_cell? w _ hx197_2)).trans hx197_2
             replace hx197_3 := (HB.out.cell (World.block_lt_of_cell? w _ hx197_3)).trans hx197_3
             replace p197 := eq_true p197
             replace q197 := eq_true q197
             have p198 : 0 ≤ ((ji13) : Int) := of_decide_eq_true (by first | (with_reducible assumption) | assumption)
             have q198 : (ji13) < (l0_0.length : Int) := of_decide_eq_true (by first | (with_reducible assumption) | assumption)
             obtain ⟨ad198, e198, hx198_0, hx198_1, hx198_2, hx198_3⟩ := at_T64 HR0_0.out (ji13) p198 q198
             have hw198_3 := hx198_3
             have hw198_2 := hx198_2
             have hw198_1 := hx198_1
             have hw198_0 := hx198_0
             obtain rfl : ad195 = ad198 := (by injection e198)
             replace hx198_0 := (HB.out.cell (World.block_lt_of_cell? w _ hx198_0)).trans hx198_0
             replace hx198_1 := (HB.out.cell (World.block_lt_of_cell? w _ hx198_1)).trans hx198_1
             replace hx198_2 := (HB.out.cell (World.block_lt_of_cell? w _ hx198_2)).trans hx198_2
             replace hx198_3 := (HB.out.cell (World.block_lt_of_cell? w _ hx198_3)).trans hx198_3
             replace p198 := eq_true p198
             replace q198 := eq_true q198
             refine startU_ (n := 43) (S := fun w' => w'.cell? ⟨gb194, 0, none⟩ = some (.slice (some ad195) l0_0.length c0_0) ∧ w'.cell? ⟨gb194, 1, none⟩ = some (.slice A0_1 l0_1.length c0_1) ∧ w'.cell? (ad195.add ((x3_2).toNat * 4)) = some (.int .i64 ((rd_T64 l0_0 x3_2).f0)) ∧ w'.cell? ⟨(ad195.add ((x3_2).toNat * 4)).block, (ad195.add ((x3_2).toNat * 4)).off + 1, none⟩ = some (.int .i64 ((rd_T64 l0_0 x3_2).f1)) ∧ w'.cell? ⟨(ad195.add ((x3_2).toNat * 4)).block, (ad195.add ((x3_2).toNat * 4)).off + 2, none⟩ = some (.int .i64 ((rd_T64 l0_0 x3_2).f2)) ∧ w'.cell? ⟨(ad195.add ((x3_2).toNat * 4)).block, (ad195.add ((x3_2).toNat * 4)).off + 3, none⟩ = some (.string ((rd_T64 l0_0 x3_2).f3)) ∧ w'.cell? (ad195.add ((x3_2).toNat * 4)) = some (.int .i64 ((rd_T64 l0_0 x3_2).f0)) ∧ w'.cell? ⟨(ad195.add ((x3_2).toNat * 4)).block, (ad195.add ((x3_2).toNat * 4)).off + 1, none⟩ = some (.int .i64 ((rd_T64 l0_0 x3_2).f1)) ∧ w'.cell? ⟨(ad195.add ((x3_2).toNat * 4)).block, (ad195.add ((x3_2).toNat * 4)).off + 2, none⟩ = some (.int .i64 ((rd_T64 l0_0 x3_2).f2)) ∧ w'.cell? ⟨(ad195.add ((x3_2).toNat * 4)).block, (ad195.add ((x3_2).toNat * 4)).off + 3, none⟩ = some (.string ((rd_T64 l0_0 x3_2).f3)) ∧ w'.cell? (ad195.add (((ji13)).toNat * 4)) = some (.int .i64 ((rd_T64 l0_0 (ji13)).f0)) ∧ w'.cell? ⟨(ad195.add (((ji13)).toNat * 4)).block, (ad195.add (((ji13)).toNat * 4)).off + 1, none⟩ = some (.int .i64 ((rd_T64 l0_0 (ji13)).f1)) ∧ w'.cell? ⟨(ad195.add (((ji13)).toNat * 4)).block, (ad195.add (((ji13)).toNat * 4)).off + 2, none⟩ = some (.int .i64 ((rd_T64 l0_0 (ji13)).f2)) ∧ w'.cell? ⟨(ad195.add (((ji13)).toNat * 4)).block, (ad195.add (((ji13)).toNat * 4)).off + 3, none⟩ = some (.string ((rd_T64 l0_0 (ji13)).f3))) (ds := []) ⟨(blk_cell BK194.out 0).trans rfl, (blk_cell BK194.out 1).trans rfl, ((HB.out.cell (World.block_lt_of_cell? w _ hw195_0)).trans hw195_0), ((HB.out.cell (World.block_lt_of_cell? w _ hw195_1)).trans hw195_1), ((HB.out.cell (World.block_lt_of_cell? w _ hw195_2)).trans hw195_2), ((HB.out.cell (World.block_lt_of_cell? w _ hw195_3)).trans hw195_3), ((HB.out.cell (World.block_lt_of_cell? w _ hw197_0)).trans hw197_0), ((HB.out.cell (World.block_lt_of_cell? w _ hw197_1)).trans hw197_1), ((HB.out.cell (World.block_lt_of_cell? w _ hw197_2)).trans hw197_2), ((HB.out.cell (World.block_lt_of_cell? w _ hw197_3)).trans hw197_3), ((HB.out.cell (World.block_lt_of_cell? w _ hw198_0)).trans hw198_0), ((HB.out.cell (World.block_lt_of_cell? w _ hw198_1)).trans hw198_1), ((HB.out.cell (World.block_lt_of_cell? w _ hw198_2)).trans hw198_2), ((HB.out.cell (World.block_lt_of_cell? w _ hw198_3)).trans hw198_3)⟩ (fun hHeld => ?_); refine with_tabW spec_l06OK.tab6 spec_l06OK.bits6 (fun HT_ HW_ => ?_)
             generalize wr.drew = w18 at BK194 HB hx195_0 hx195_1 hx195_2 hx195_3 hx197_0 hx197_1 hx197_2 hx197_3 hx198_0 hx198_1 hx198_2 hx198_3 hHeld ⊢
             refine pU_ ?_
             refine pUX_ 2 ?_
             refine tU_ ?_
             refine aU_ ?_
             refine pU_ ?_
             refine tU_ ?_
             refine oU_ (fun K hK => ?_)
             refine gU_ Try.func95 #[.agg #[.int .i64 ((rd_T64 l0_0 x3_2).f0), .int .i64 ((rd_T64 l0_0 x3_2).f1), .int .i64 ((rd_T64 l0_0 x3_2).f2), .string ((rd_T64 l0_0 x3_2).f3)]] ?_
             with_reducible refine (spec_l06Report.calls ((rd_T64 l0_0 x3_2).f0) ((rd_T64 l0_0 x3_2).f1) ((rd_T64 l0_0 x3_2).f2) ((rd_T64 l0_0 x3_2).f3) true _ A10.out).mono ?_
             rintro e w19 ⟨rfl, hb⟩
             refine ⟨_, rfl, ?_⟩
             replace BK194 := blkK_ BK194 hb
             replace HB := belB_ hb
             (try clear hb)
             refine hK.out _ _ ⟨(blk_cell BK194.out 0).trans rfl, (blk_cell BK194.out 1).trans rfl, ((HB.out.cell (World.block_lt_of_cell? w _ hw195_0)).trans hw195_0), ((HB.out.cell (World.block_lt_of_cell? w _ hw195_1)).trans hw195_1), ((HB.out.cell (World.block_lt_of_cell? w _ hw195_2)).trans hw195_2), ((HB.out.cell (World.block_lt_of_cell? w _ hw195_3)).trans hw195_3), ((HB.out.cell (World.block_lt_of_cell? w _ hw197_0)).trans hw197_0), ((HB.out.cell (World.block_lt_of_cell? w _ hw197_1)).trans hw197_1), ((HB.out.cell (World.block_lt_of_cell? w _ hw197_2)).trans hw197_2), ((HB.out.cell (World.block_lt_of_cell? w _ hw197_3)).trans hw197_3), ((HB.out.cell (World.block_lt_of_cell? w _ hw198_0)).trans hw198_0), ((HB.out.cell (World.block_lt_of_cell? w _ hw198_1)).trans hw198_1), ((HB.out.cell (World.block_lt_of_cell? w _ hw198_2)).trans hw198_2), ((HB.out.cell (World.block_lt_of_cell? w _ hw198_3)).trans hw198_3)⟩ (fun hHeld => ?_)
             clear hK K
             refine nU_ ?_
             iterate 6 refine pU_ ?_
             refine pUX_ 13 ?_
             refine pUX_ 17 ?_
             refine pUX_ 19 ?_
             refine pUX_ 20 ?_
             refine tU_ ?_
             refine aU_ ?_
             iterate 2 refine pU_ ?_
             refine tU_ ?_
             refine aU_ ?_
             refine tU_ ?_
             iterate 2 refine aU_ ?_
             iterate 2 refine pU_ ?_
             refine tU_ ?_
             iterate 2 refine pU_ ?_
             iterate 14 refine sU_ ?_
             iterate 3 refine pU_ ?_
             refine doneU_ ?_
             try go_wp2
             go_ret
             exact ⟨by first | rfl | (simp [errW_none, errW_some] <;> rfl) | (simp only [← hji13]; first | rfl | (simp [errW_none, errW_some] <;> rfl)) | (simp [*, errW_none, errW_some] <;> rfl), belE_⟩
            ·
             rw [if_neg c16] at H
             have c16b0 : decide (((rd_T64 l0_0 x3_2).f0) ≤ ((rd_T64 l0_0 (ji13)).f0)) = false := decide_eq_false c16
             clear c16
             by_cases c20 : ((rd_T64 l0_0 x3_2).f1) < ((rd_T64 l0_0 (ji13)).f1)
             ·
              rw [if_pos c20] at H
              have c20b0 : decide (((rd_T64 l0_0 x3_2).f1) < ((rd_T64 l0_0 (ji13)).f1)) = true := decide_eq_true c20
              clear c20
              obtain rfl := Option.some.inj H
              obtain ⟨hcz21_0, hcz21_1, hfz21_0, hfz21_1⟩ := cz2_ BK194
              try go_wp2
              replace BK194 := Aside0.mk (blk_drew BK194.out)
              replace HB := Aside0.mk (below_drew1 HB.out)
              have p195 : 0 ≤ (x3_2 : Int) := of_decide_eq_true (by first | (with_reducible assumption) | assumption)
              have q195 : x3_2 < (l0_0.length : Int) := of_decide_eq_true (by first | (with_reducible assumption) | assumption)
              obtain ⟨ad195, e195, hx195_0, hx195_1, hx195_2, hx195_3⟩ := at_T64 HR0_0.out x3_2 p195 q195
              have hw195_3 := hx195_3
              have hw195_2 := hx195_2
              have hw195_1 := hx195_1
              have hw195_0 := hx195_0
              cases e195
              replace hx195_0 := (HB.out.cell (World.block_lt_of_cell? w _ hx195_0)).trans hx195_0
              replace hx195_1 := (HB.out.cell (World.block_lt_of_cell? w _ hx195_1)).trans hx195_1
              replace hx195_2 := (HB.out.cell (World.block_lt_of_cell? w _ hx195_2)).trans hx195_2
              replace hx195_3 := (HB.out.cell (World.block_lt_of_cell? w _ hx195_3)).trans hx195_3
              replace p195 := eq_true p195
              replace q195 := eq_true q195
              have p197 : 0 ≤ (x3_2 : Int) := of_decide_eq_true (by first | (with_reducible assumption) | assumption)
              have q197 : x3_2 < (l0_0.length : Int) := of_decide_eq_true (by first | (with_reducible assumption) | assumption)
              obtain ⟨ad197, e197, hx197_0, hx197_1, hx197_2, hx197_3⟩ := at_T64 HR0_0.out x3_2 p197 q197
              have hw197_3 := hx197_3
              have hw197_2 := hx197_2
              have hw197_1 := hx197_1
              have hw197_0 := hx197_0
              obtain rfl : ad195 = ad197 := (by injection e197)
              replace hx197_0 := (HB.out.cell (World.block_lt_of_cell? w _ hx197_0)).trans hx197_0
              replace hx197_1 := (HB.out.cell (World.block_lt_of_cell? w _ hx197_1)).trans hx197_1
              replace hx197_2 := (HB.out.cell (World.block_lt_of_cell? w _ hx197_2)).trans hx197_2
              replace hx197_3 := (HB.out.cell (World.block_lt_of_cell? w _ hx197_3)).trans hx197_3
              replace p197 := eq_true p197
              replace q197 := eq_true q197
              have p198 : 0 ≤ ((ji13) : Int) := of_decide_eq_true (by first | (with_reducible assumption) | assumption)
              have q198 : (ji13) < (l0_0.length : Int) := of_decide_eq_true (by first | (with_reducible assumption) | assumption)
              obtain ⟨ad198, e198, hx198_0, hx198_1, hx198_2, hx198_3⟩ := at_T64 HR0_0.out (ji13) p198 q198
              have hw198_3 := hx198_3
              have hw198_2 := hx198_2
              have hw198_1 := hx198_1
              have hw198_0 := hx198_0
              obtain rfl : ad195 = ad198 := (by injection e198)
              replace hx198_0 := (HB.out.cell (World.block_lt_of_cell? w _ hx198_0)).trans hx198_0
              replace hx198_1 := (HB.out.cell (World.block_lt_of_cell? w _ hx198_1)).trans hx198_1
              replace hx198_2 := (HB.out.cell (World.block_lt_of_cell? w _ hx198_2)).trans hx198_2
              replace hx198_3 := (HB.out.cell (World.block_lt_of_cell? w _ hx198_3)).trans hx198_3
              replace p198 := eq_true p198
              replace q198 := eq_true q198
              have p199 : 0 ≤ (x3_2 : Int) := of_decide_eq_true (by first | (with_reducible assumption) | assumption)
              have q199 : x3_2 < (l0_0.length : Int) := of_decide_eq_true (by first | (with_reducible assumption) | assumption)
              obtain ⟨ad199, e199, hx199_0, hx199_1, hx199_2, hx199_3⟩ := at_T64 HR0_0.out x3_2 p199 q199
              have hw199_3 := hx199_3
              have hw199_2 := hx199_2
              have hw199_1 := hx199_1
              have hw199_0 := hx199_0
              obtain rfl : ad195 = ad199 := (by injection e199)
              replace hx199_0 := (HB.out.cell (World.block_lt_of_cell? w _ hx199_0)).trans hx199_0
              replace hx199_1 := (HB.out.cell (World.block_lt_of_cell? w _ hx199_1)).trans hx199_1
              replace hx199_2 := (HB.out.cell (World.block_lt_of_cell? w _ hx199_2)).trans hx199_2
              replace hx199_3 := (HB.out.cell (World.block_lt_of_cell? w _ hx199_3)).trans hx199_3
              replace p199 := eq_true p199
              replace q199 := eq_true q199
              have p200 : 0 ≤ ((ji13) : Int) := of_decide_eq_true (by first | (with_reducible assumption) | assumption)
              have q200 : (ji13) < (l0_0.length : Int) := of_decide_eq_true (by first | (with_reducible assumption) | assumption)
              obtain ⟨ad200, e200, hx200_0, hx200_1, hx200_2, hx200_3⟩ := at_T64 HR0_0.out (ji13) p200 q200
              have hw200_3 := hx200_3
              have hw200_2 := hx200_2
              have hw200_1 := hx200_1
              have hw200_0 := hx200_0
              obtain rfl : ad195 = ad200 := (by injection e200)
              replace hx200_0 := (HB.out.cell (World.block_lt_of_cell? w _ hx200_0)).trans hx200_0
              replace hx200_1 := (HB.out.cell (World.block_lt_of_cell? w _ hx200_1)).trans hx200_1
              replace hx200_2 := (HB.out.cell (World.block_lt_of_cell? w _ hx200_2)).trans hx200_2
              replace hx200_3 := (HB.out.cell (World.block_lt_of_cell? w _ hx200_3)).trans hx200_3
              replace p200 := eq_true p200
              replace q200 := eq_true q200
              refine startU_ (n := 43) (S := fun w' => w'.cell? ⟨gb194, 0, none⟩ = some (.slice (some ad195) l0_0.length c0_0) ∧ w'.cell? ⟨gb194, 1, none⟩ = some (.slice A0_1 l0_1.length c0_1) ∧ w'.cell? (ad195.add ((x3_2).toNat * 4)) = some (.int .i64 ((rd_T64 l0_0 x3_2).f0)) ∧ w'.cell? ⟨(ad195.add ((x3_2).toNat * 4)).block, (ad195.add ((x3_2).toNat * 4)).off + 1, none⟩ = some (.int .i64 ((rd_T64 l0_0 x3_2).f1)) ∧ w'.cell? ⟨(ad195.add ((x3_2).toNat * 4)).block, (ad195.add ((x3_2).toNat * 4)).off + 2, none⟩ = some (.int .i64 ((rd_T64 l0_0 x3_2).f2)) ∧ w'.cell? ⟨(ad195.add ((x3_2).toNat * 4)).block, (ad195.add ((x3_2).toNat * 4)).off + 3, none⟩ = some (.string ((rd_T64 l0_0 x3_2).f3)) ∧ w'.cell? (ad195.add ((x3_2).toNat * 4)) = some (.int .i64 ((rd_T64 l0_0 x3_2).f0)) ∧ w'.cell? ⟨(ad195.add ((x3_2).toNat * 4)).block, (ad195.add ((x3_2).toNat * 4)).off + 1, none⟩ = some (.int .i64 ((rd_T64 l0_0 x3_2).f1)) ∧ w'.cell? ⟨(ad195.add ((x3_2).toNat * 4)).block, (ad195.add ((x3_2).toNat * 4)).off + 2, none⟩ = some (.int .i64 ((rd_T64 l0_0 x3_2).f2)) ∧ w'.cell? ⟨(ad195.add ((x3_2).toNat * 4)).block, (ad195.add ((x3_2).toNat * 4)).off + 3, none⟩ = some (.string ((rd_T64 l0_0 x3_2).f3)) ∧ w'.cell? (ad195.add (((ji13)).toNat * 4)) = some (.int .i64 ((rd_T64 l0_0 (ji13)).f0)) ∧ w'.cell? ⟨(ad195.add (((ji13)).toNat * 4)).block, (ad195.add (((ji13)).toNat * 4)).off + 1, none⟩ = some (.int .i64 ((rd_T64 l0_0 (ji13)).f1)) ∧ w'.cell? ⟨(ad195.add (((ji13)).toNat * 4)).block, (ad195.add (((ji13)).toNat * 4)).off + 2, none⟩ = some (.int .i64 ((rd_T64 l0_0 (ji13)).f2)) ∧ w'.cell? ⟨(ad195.add (((ji13)).toNat * 4)).block, (ad195.add (((ji13)).toNat * 4)).off + 3, none⟩ = some (.string ((rd_T64 l0_0 (ji13)).f3)) ∧ w'.cell? (ad195.add ((x3_2).toNat * 4)) = some (.int .i64 ((rd_T64 l0_0 x3_2).f0)) ∧ w'.cell? ⟨(ad195.add ((x3_2).toNat * 4)).block, (ad195.add ((x3_2).toNat * 4)).off + 1, none⟩ = some (.int .i64 ((rd_T64 l0_0 x3_2).f1)) ∧ w'.cell? ⟨(ad195.add ((x3_2).toNat * 4)).block, (ad195.add ((x3_2).toNat * 4)).off + 2, none⟩ = some (.int .i64 ((rd_T64 l0_0 x3_2).f2)) ∧ w'.cell? ⟨(ad195.add ((x3_2).toNat * 4)).block, (ad195.add ((x3_2).toNat * 4)).off + 3, none⟩ = some (.string ((rd_T64 l0_0 x3_2).f3)) ∧ w'.cell? (ad195.add (((ji13)).toNat * 4)) = some (.int .i64 ((rd_T64 l0_0 (ji13)).f0)) ∧ w'.cell? ⟨(ad195.add (((ji13)).toNat * 4)).block, (ad195.add (((ji13)).toNat * 4)).off + 1, none⟩ = some (.int .i64 ((rd_T64 l0_0 (ji13)).f1)) ∧ w'.cell? ⟨(ad195.add (((ji13)).toNat * 4)).block, (ad195.add (((ji13)).toNat * 4)).off + 2, none⟩ = some (.int .i64 ((rd_T64 l0_0 (ji13)).f2)) ∧ w'.cell? ⟨(ad195.add (((ji13)).toNat * 4)).block, (ad195.add (((ji13)).toNat * 4)).off + 3, none⟩ = some (.string ((rd_T64 l0_0 (ji13)).f3))) (ds := []) ⟨(blk_cell BK194.out 0).trans rfl, (blk_cell BK194.out 1).trans rfl, ((HB.out.cell (World.block_lt_of_cell? w _ hw195_0)).trans hw195_0), ((HB.out.cell (World.block_lt_of_cell? w _ hw195_1)).trans hw195_1), ((HB.out.cell (World.block_lt_of_cell? w _ hw195_2)).trans hw195_2), ((HB.out.cell (World.block_lt_of_cell? w _ hw195_3)).trans hw195_3), ((HB.out.cell (World.block_lt_of_cell? w _ hw197_0)).trans hw197_0), ((HB.out.cell (World.block_lt_of_cell? w _ hw197_1)).trans hw197_1), ((HB.out.cell (World.block_lt_of_cell? w _ hw197_2)).trans hw197_2), ((HB.out.cell (World.block_lt_of_cell? w _ hw197_3)).trans hw197_3), ((HB.out.cell (World.block_lt_of_cell? w _ hw198_0)).trans hw198_0), ((HB.out.cell (World.block_lt_of_cell? w _ hw198_1)).trans hw198_1), ((HB.out.cell (World.block_lt_of_cell? w _ hw198_2)).trans hw198_2), ((HB.out.cell (World.block_lt_of_cell? w _ hw198_3)).trans hw198_3), ((HB.out.cell (World.block_lt_of_cell? w _ hw199_0)).trans hw199_0), ((HB.out.cell (World.block_lt_of_cell? w _ hw199_1)).trans hw199_1), ((HB.out.cell (World.block_lt_of_cell? w _ hw199_2)).trans hw199_2), ((HB.out.cell (World.block_lt_of_cell? w _ hw199_3)).trans hw199_3), ((HB.out.cell (World.block_lt_of_cell? w _ hw200_0)).trans hw200_0), ((HB.out.cell (World.block_lt_of_cell? w _ hw200_1)).trans hw200_1), ((HB.out.cell (World.block_lt_of_cell? w _ hw200_2)).trans hw200_2), ((HB.out.cell (World.block_lt_of_cell? w _ hw200_3)).trans hw200_3)⟩ (fun hHeld => ?_); refine with_tabW spec_l06OK.tab6 spec_l06OK.bits6 (fun HT_ HW_ => ?_)
              generalize wr.drew = w22 at BK194 HB hx195_0 hx195_1 hx195_2 hx195_3 hx197_0 hx197_1 hx197_2 hx197_3 hx198_0 hx198_1 hx198_2 hx198_3 hx199_0 hx199_1 hx199_2 hx199_3 hx200_0 hx200_1 hx200_2 hx200_3 hHeld ⊢
              refine pU_ ?_
              refine pUX_ 2 ?_
              refine tU_ ?_
              refine aU_ ?_
              refine pU_ ?_
              refine tU_ ?_
              refine oU_ (fun K hK => ?_)
              refine gU_ Try.func95 #[.agg #[.int .i64 ((rd_T64 l0_0 x3_2).f0), .int .i64 ((rd_T64 l0_0 x3_2).f1), .int .i64 ((rd_T64 l0_0 x3_2).f2), .string ((rd_T64 l0_0 x3_2).f3)]] ?_
              with_reducible refine (spec_l06Report.calls ((rd_T64 l0_0 x3_2).f0) ((rd_T64 l0_0 x3_2).f1) ((rd_T64 l0_0 x3_2).f2) ((rd_T64 l0_0 x3_2).f3) true _ A10.out).mono ?_
              rintro e w23 ⟨rfl, hb⟩
              refine ⟨_, rfl, ?_⟩
              replace BK194 := blkK_ BK194 hb
              replace HB := belB_ hb
              (try clear hb)
              refine hK.out _ _ ⟨(blk_cell BK194.out 0).trans rfl, (blk_cell BK194.out 1).trans rfl, ((HB.out.cell (World.block_lt_of_cell? w _ hw195_0)).trans hw195_0), ((HB.out.cell (World.block_lt_of_cell? w _ hw195_1)).trans hw195_1), ((HB.out.cell (World.block_lt_of_cell? w _ hw195_2)).trans hw195_2), ((HB.out.cell (World.block_lt_of_cell? w _ hw195_3)).trans hw195_3), ((HB.out.cell (World.block_lt_of_cell? w _ hw197_0)).trans hw197_0), ((HB.out.cell (World.block_lt_of_cell? w _ hw197_1)).trans hw197_1), ((HB.out.cell (World.block_lt_of_cell? w _ hw197_2)).trans hw197_2), ((HB.out.cell (World.block_lt_of_cell? w _ hw197_3)).trans hw197_3), ((HB.out.cell (World.block_lt_of_cell? w _ hw198_0)).trans hw198_0), ((HB.out.cell (World.block_lt_of_cell? w _ hw198_1)).trans hw198_1), ((HB.out.cell (World.block_lt_of_cell? w _ hw198_2)).trans hw198_2), ((HB.out.cell (World.block_lt_of_cell? w _ hw198_3)).trans hw198_3), ((HB.out.cell (World.block_lt_of_cell? w _ hw199_0)).trans hw199_0), ((HB.out.cell (World.block_lt_of_cell? w _ hw199_1)).trans hw199_1), ((HB.out.cell (World.block_lt_of_cell? w _ hw199_2)).trans hw199_2), ((HB.out.cell (World.block_lt_of_cell? w _ hw199_3)).trans hw199_3), ((HB.out.cell (World.block_lt_of_cell? w _ hw200_0)).trans hw200_0), ((HB.out.cell (World.block_lt_of_cell? w _ hw200_1)).trans hw200_1), ((HB.out.cell (World.block_lt_of_cell? w _ hw200_2)).trans hw200_2), ((HB.out.cell (World.block_lt_of_cell? w _ hw200_3)).trans hw200_3)⟩ (fun hHeld => ?_)
              clear hK K
              refine nU_ ?_
              iterate 6 refine pU_ ?_
              refine pUX_ 13 ?_
              refine pUX_ 17 ?_
              refine pUX_ 19 ?_
              refine pUX_ 20 ?_
              refine tU_ ?_
              refine aU_ ?_
              iterate 2 refine pU_ ?_
              refine tU_ ?_
              refine aU_ ?_
              refine tU_ ?_
              iterate 2 refine aU_ ?_
              iterate 2 refine pU_ ?_
              refine tU_ ?_
              iterate 3 refine pU_ ?_
              refine pUX_ 28 ?_
              refine pUX_ 32 ?_
              refine pUX_ 34 ?_
              refine pUX_ 35 ?_
              refine tU_ ?_
              refine aU_ ?_
              iterate 2 refine pU_ ?_
              refine tU_ ?_
              refine aU_ ?_
              refine tU_ ?_
              iterate 2 refine aU_ ?_
              iterate 2 refine pU_ ?_
              refine tU_ ?_
              iterate 4 refine pU_ ?_
              refine doneU_ ?_
              try go_wp2
              go_ret
              exact ⟨by first | rfl | (simp [errW_none, errW_some] <;> rfl) | (simp only [← hji13]; first | rfl | (simp [errW_none, errW_some] <;> rfl)) | (simp [*, errW_none, errW_some] <;> rfl), belE_⟩
             ·
              rw [if_neg c20] at H
              have c20b0 : decide (((rd_T64 l0_0 x3_2).f1) < ((rd_T64 l0_0 (ji13)).f1)) = false := decide_eq_false c20
              clear c20
              have H' := Aside0.mk H
              clear H
              obtain ⟨hcz24_0, hcz24_1, hfz24_0, hfz24_1⟩ := cz2_ BK194
              try go_wp2
              replace BK194 := Aside0.mk (blk_drew BK194.out)
              replace HB := Aside0.mk (below_drew1 HB.out)
              have p195 : 0 ≤ (x3_2 : Int) := of_decide_eq_true (by first | (with_reducible assumption) | assumption)
              have q195 : x3_2 < (l0_0.length : Int) := of_decide_eq_true (by first | (with_reducible assumption) | assumption)
              obtain ⟨ad195, e195, hx195_0, hx195_1, hx195_2, hx195_3⟩ := at_T64 HR0_0.out x3_2 p195 q195
              have hw195_3 := hx195_3
              have hw195_2 := hx195_2
              have hw195_1 := hx195_1
              have hw195_0 := hx195_0
              cases e195
              replace hx195_0 := (HB.out.cell (World.block_lt_of_cell? w _ hx195_0)).trans hx195_0
              replace hx195_1 := (HB.out.cell (World.block_lt_of_cell? w _ hx195_1)).trans hx195_1
              replace hx195_2 := (HB.out.cell (World.block_lt_of_cell? w _ hx195_2)).trans hx195_2
              replace hx195_3 := (HB.out.cell (World.block_lt_of_cell? w _ hx195_3)).trans hx195_3
              replace p195 := eq_true p195
              replace q195 := eq_true q195
              have p197 : 0 ≤ (x3_2 : Int) := of_decide_eq_true (by first | (with_reducible assumption) | assumption)
              have q197 : x3_2 < (l0_0.length : Int) := of_decide_eq_true (by first | (with_reducible assumption) | assumption)
              obtain ⟨ad197, e197, hx197_0, hx197_1, hx197_2, hx197_3⟩ := at_T64 HR0_0.out x3_2 p197 q197
              have hw197_3 := hx197_3
              have hw197_2 := hx197_2
              have hw197_1 := hx197_1
              have hw197_0 := hx197_0
              obtain rfl : ad195 = ad197 := (by injection e197)
              replace hx197_0 := (HB.out.cell (World.block_lt_of_cell? w _ hx197_0)).trans hx197_0
              replace hx197_1 := (HB.out.cell (World.block_lt_of_cell? w _ hx197_1)).trans hx197_1
              replace hx197_2 := (HB.out.cell (World.block_lt_of_cell? w _ hx197_2)).trans hx197_2
              replace hx197_3 := (HB.out.cell (World.block_lt_of_cell? w _ hx197_3)).trans hx197_3
              replace p197 := eq_true p197
              replace q197 := eq_true q197
              have p198 : 0 ≤ ((ji13) : Int) := of_decide_eq_true (by first | (with_reducible assumption) | assumption)
              have q198 : (ji13) < (l0_0.length : Int) := of_decide_eq_true (by first | (with_reducible assumption) | assumption)
              obtain ⟨ad198, e198, hx198_0, hx198_1, hx198_2, hx198_3⟩ := at_T64 HR0_0.out (ji13) p198 q198
              have hw198_3 := hx198_3
              have hw198_2 := hx198_2
              have hw198_1 := hx198_1
              have hw198_0 := hx198_0
              obtain rfl : ad195 = ad198 := (by injection e198)
              replace hx198_0 := (HB.out.cell (World.block_lt_of_cell? w _ hx198_0)).trans hx198_0
              replace hx198_1 := (HB.out.cell (World.block_lt_of_cell? w _ hx198_1)).trans hx198_1
              replace hx198_2 := (HB.out.cell (World.block_lt_of_cell? w _ hx198_2)).trans hx198_2
              replace hx198_3 := (HB.out.cell (World.block_lt_of_cell? w _ hx198_3)).trans hx198_3
              replace p198 := eq_true p198
              replace q198 := eq_true q198
              have p199 : 0 ≤ (x3_2 : Int) := of_decide_eq_true (by first | (with_reducible assumption) | assumption)
              have q199 : x3_2 < (l0_0.length : Int) := of_decide_eq_true (by first | (with_reducible assumption) | assumption)
              obtain ⟨ad199, e199, hx199_0, hx199_1, hx199_2, hx199_3⟩ := at_T64 HR0_0.out x3_2 p199 q199
              have hw199_3 := hx199_3
              have hw199_2 := hx199_2
              have hw199_1 := hx199_1
              have hw199_0 := hx199_0
              obtain rfl : ad195 = ad199 := (by injection e199)
              replace hx199_0 := (HB.out.cell (World.block_lt_of_cell? w _ hx199_0)).trans hx199_0
              replace hx199_1 := (HB.out.cell (World.block_lt_of_cell? w _ hx199_1)).trans hx199_1
              replace hx199_2 := (HB.out.cell (World.block_lt_of_cell? w _ hx199_2)).trans hx199_2
              replace hx199_3 := (HB.out.cell (World.block_lt_of_cell? w _ hx199_3)).trans hx199_3
              replace p199 := eq_true p199
              replace q199 := eq_true q199
              have p200 : 0 ≤ ((ji13) : Int) := of_decide_eq_true (by first | (with_reducible assumption) | assumption)
              have q200 : (ji13) < (l0_0.length : Int) := of_decide_eq_true (by first | (with_reducible assumption) | assumption)
              obtain ⟨ad200, e200, hx200_0, hx200_1, hx200_2, hx200_3⟩ := at_T64 HR0_0.out (ji13) p200 q200
              have hw200_3 := hx200_3
              have hw200_2 := hx200_2
              have hw200_1 := hx200_1
              have hw200_0 := hx200_0
              obtain rfl : ad195 = ad200 := (by injection e200)
              replace hx200_0 := (HB.out.cell (World.block_lt_of_cell? w _ hx200_0)).trans hx200_0
              replace hx200_1 := (HB.out.cell (World.block_lt_of_cell? w _ hx200_1)).trans hx200_1
              replace hx200_2 := (HB.out.cell (World.block_lt_of_cell? w _ hx200_2)).trans hx200_2
              replace hx200_3 := (HB.out.cell (World.block_lt_of_cell? w _ hx200_3)).trans hx200_3
              replace p200 := eq_true p200
              replace q200 := eq_true q200
              refine startU_ (n := 43) (S := fun w' => w'.cell? ⟨gb194, 0, none⟩ = some (.slice (some ad195) l0_0.length c0_0) ∧ w'.cell? ⟨gb194, 1, none⟩ = some (.slice A0_1 l0_1.length c0_1) ∧ w'.cell? (ad195.add ((x3_2).toNat * 4)) = some (.int .i64 ((rd_T64 l0_0 x3_2).f0)) ∧ w'.cell? ⟨(ad195.add ((x3_2).toNat * 4)).block, (ad195.add ((x3_2).toNat * 4)).off + 1, none⟩ = some (.int .i64 ((rd_T64 l0_0 x3_2).f1)) ∧ w'.cell? ⟨(ad195.add ((x3_2).toNat * 4)).block, (ad195.add ((x3_2).toNat * 4)).off + 2, none⟩ = some (.int .i64 ((rd_T64 l0_0 x3_2).f2)) ∧ w'.cell? ⟨(ad195.add ((x3_2).toNat * 4)).block, (ad195.add ((x3_2).toNat * 4)).off + 3, none⟩ = some (.string ((rd_T64 l0_0 x3_2).f3)) ∧ w'.cell? (ad195.add ((x3_2).toNat * 4)) = some (.int .i64 ((rd_T64 l0_0 x3_2).f0)) ∧ w'.cell? ⟨(ad195.add ((x3_2).toNat * 4)).block, (ad195.add ((x3_2).toNat * 4)).off + 1, none⟩ = some (.int .i64 ((rd_T64 l0_0 x3_2).f1)) ∧ w'.cell? ⟨(ad195.add ((x3_2).toNat * 4)).block, (ad195.add ((x3_2).toNat * 4)).off + 2, none⟩ = some (.int .i64 ((rd_T64 l0_0 x3_2).f2)) ∧ w'.cell? ⟨(ad195.add ((x3_2).toNat * 4)).block, (ad195.add ((x3_2).toNat * 4)).off + 3, none⟩ = some (.string ((rd_T64 l0_0 x3_2).f3)) ∧ w'.cell? (ad195.add (((ji13)).toNat * 4)) = some (.int .i64 ((rd_T64 l0_0 (ji13)).f0)) ∧ w'.cell? ⟨(ad195.add (((ji13)).toNat * 4)).block, (ad195.add (((ji13)).toNat * 4)).off + 1, none⟩ = some (.int .i64 ((rd_T64 l0_0 (ji13)).f1)) ∧ w'.cell? ⟨(ad195.add (((ji13)).toNat * 4)).block, (ad195.add (((ji13)).toNat * 4)).off + 2, none⟩ = some (.int .i64 ((rd_T64 l0_0 (ji13)).f2)) ∧ w'.cell? ⟨(ad195.add (((ji13)).toNat * 4)).block, (ad195.add (((ji13)).toNat * 4)).off + 3, none⟩ = some (.string ((rd_T64 l0_0 (ji13)).f3)) ∧ w'.cell? (ad195.add ((x3_2).toNat * 4)) = some (.int .i64 ((rd_T64 l0_0 x3_2).f0)) ∧ w'.cell? ⟨(ad195.add ((x3_2).toNat * 4)).block, (ad195.add ((x3_2).toNat * 4)).off + 1, none⟩ = some (.int .i64 ((rd_T64 l0_0 x3_2).f1)) ∧ w'.cell? ⟨(ad195.add ((x3_2).toNat * 4)).block, (ad195.add ((x3_2).toNat * 4)).off + 2, none⟩ = some (.int .i64 ((rd_T64 l0_0 x3_2).f2)) ∧ w'.cell? ⟨(ad195.add ((x3_2).toNat * 4)).block, (ad195.add ((x3_2).toNat * 4)).off + 3, none⟩ = some (.string ((rd_T64 l0_0 x3_2).f3)) ∧ w'.cell? (ad195.add (((ji13)).toNat * 4)) = some (.int .i64 ((rd_T64 l0_0 (ji13)).f0)) ∧ w'.cell? ⟨(ad195.add (((ji13)).toNat * 4)).block, (ad195.add (((ji13)).toNat * 4)).off + 1, none⟩ = some (.int .i64 ((rd_T64 l0_0 (ji13)).f1)) ∧ w'.cell? ⟨(ad195.add (((ji13)).toNat * 4)).block, (ad195.add (((ji13)).toNat * 4)).off + 2, none⟩ = some (.int .i64 ((rd_T64 l0_0 (ji13)).f2)) ∧ w'.cell? ⟨(ad195.add (((ji13)).toNat * 4)).block, (ad195.add (((ji13)).toNat * 4)).off + 3, none⟩ = some (.string ((rd_T64 l0_0 (ji13)).f3))) (ds := []) ⟨(blk_cell BK194.out 0).trans rfl, (blk_cell BK194.out 1).trans rfl, ((HB.out.cell (World.block_lt_of_cell? w _ hw195_0)).trans hw195_0), ((HB.out.cell (World.block_lt_of_cell? w _ hw195_1)).trans hw195_1), ((HB.out.cell (World.block_lt_of_cell? w _ hw195_2)).trans hw195_2), ((HB.out.cell (World.block_lt_of_cell? w _ hw195_3)).trans hw195_3), ((HB.out.cell (World.block_lt_of_cell? w _ hw197_0)).trans hw197_0), ((HB.out.cell (World.block_lt_of_cell? w _ hw197_1)).trans hw197_1), ((HB.out.cell (World.block_lt_of_cell? w _ hw197_2)).trans hw197_2), ((HB.out.cell (World.block_lt_of_cell? w _ hw197_3)).trans hw197_3), ((HB.out.cell (World.block_lt_of_cell? w _ hw198_0)).trans hw198_0), ((HB.out.cell (World.block_lt_of_cell? w _ hw198_1)).trans hw198_1), ((HB.out.cell (World.block_lt_of_cell? w _ hw198_2)).trans hw198_2), ((HB.out.cell (World.block_lt_of_cell? w _ hw198_3)).trans hw198_3), ((HB.out.cell (World.block_lt_of_cell? w _ hw199_0)).trans hw199_0), ((HB.out.cell (World.block_lt_of_cell? w _ hw199_1)).trans hw199_1), ((HB.out.cell (World.block_lt_of_cell? w _ hw199_2)).trans hw199_2), ((HB.out.cell (World.block_lt_of_cell? w _ hw199_3)).trans hw199_3), ((HB.out.cell (World.block_lt_of_cell? w _ hw200_0)).trans hw200_0), ((HB.out.cell (World.block_lt_of_cell? w _ hw200_1)).trans hw200_1), ((HB.out.cell (World.block_lt_of_cell? w _ hw200_2)).trans hw200_2), ((HB.out.cell (World.block_lt_of_cell? w _ hw200_3)).trans hw200_3)⟩ (fun hHeld => ?_); refine with_tabW spec_l06OK.tab6 spec_l06OK.bits6 (fun HT_ HW_ => ?_)
              generalize wr.drew = w25 at BK194 HB hx195_0 hx195_1 hx195_2 hx195_3 hx197_0 hx197_1 hx197_2 hx197_3 hx198_0 hx198_1 hx198_2 hx198_3 hx199_0 hx199_1 hx199_2 hx199_3 hx200_0 hx200_1 hx200_2 hx200_3 hHeld ⊢
              refine pU_ ?_
              refine pUX_ 2 ?_
              refine tU_ ?_
              refine aU_ ?_
              refine pU_ ?_
              refine tU_ ?_
              refine oU_ (fun K hK => ?_)
              refine gU_ Try.func95 #[.agg #[.int .i64 ((rd_T64 l0_0 x3_2).f0), .int .i64 ((rd_T64 l0_0 x3_2).f1), .int .i64 ((rd_T64 l0_0 x3_2).f2), .string ((rd_T64 l0_0 x3_2).f3)]] ?_
              with_reducible refine (spec_l06Report.calls ((rd_T64 l0_0 x3_2).f0) ((rd_T64 l0_0 x3_2).f1) ((rd_T64 l0_0 x3_2).f2) ((rd_T64 l0_0 x3_2).f3) true _ A10.out).mono ?_
              rintro e w26 ⟨rfl, hb⟩
              refine ⟨_, rfl, ?_⟩
              replace BK194 := blkK_ BK194 hb
              replace HB := belB_ hb
              (try clear hb)
              refine hK.out _ _ ⟨(blk_cell BK194.out 0).trans rfl, (blk_cell BK194.out 1).trans rfl, ((HB.out.cell (World.block_lt_of_cell? w _ hw195_0)).trans hw195_0), ((HB.out.cell (World.block_lt_of_cell? w _ hw195_1)).trans hw195_1), ((HB.out.cell (World.block_lt_of_cell? w _ hw195_2)).trans hw195_2), ((HB.out.cell (World.block_lt_of_cell? w _ hw195_3)).trans hw195_3), ((HB.out.cell (World.block_lt_of_cell? w _ hw197_0)).trans hw197_0), ((HB.out.cell (World.block_lt_of_cell? w _ hw197_1)).trans hw197_1), ((HB.out.cell (World.block_lt_of_cell? w _ hw197_2)).trans hw197_2), ((HB.out.cell (World.block_lt_of_cell? w _ hw197_3)).trans hw197_3), ((HB.out.cell (World.block_lt_of_cell? w _ hw198_0)).trans hw198_0), ((HB.out.cell (World.block_lt_of_cell? w _ hw198_1)).trans hw198_1), ((HB.out.cell (World.block_lt_of_cell? w _ hw198_2)).trans hw198_2), ((HB.out.cell (World.block_lt_of_cell? w _ hw198_3)).trans hw198_3), ((HB.out.cell (World.block_lt_of_cell? w _ hw199_0)).trans hw199_0), ((HB.out.cell (World.block_lt_of_cell? w _ hw199_1)).trans hw199_1), ((HB.out.cell (World.block_lt_of_cell? w _ hw199_2)).trans hw199_2), ((HB.out.cell (World.block_lt_of_cell? w _ hw199_3)).trans hw199_3), ((HB.out.cell (World.block_lt_of_cell? w _ hw200_0)).trans hw200_0), ((HB.out.cell (World.block_lt_of_cell? w _ hw200_1)).trans hw200_1), ((HB.out.cell (World.block_lt_of_cell? w _ hw200_2)).trans hw200_2), ((HB.out.cell (World.block_lt_of_cell? w _ hw200_3)).trans hw200_3)⟩ (fun hHeld => ?_)
              clear hK K
              refine nU_ ?_
              iterate 6 refine pU_ ?_
              refine pUX_ 13 ?_
              refine pUX_ 17 ?_
              refine pUX_ 19 ?_
              refine pUX_ 20 ?_
              refine tU_ ?_
              refine aU_ ?_
              iterate 2 refine pU_ ?_
              refine tU_ ?_
              refine aU_ ?_
              refine tU_ ?_
              iterate 2 refine aU_ ?_
              iterate 2 refine pU_ ?_
              refine tU_ ?_
              iterate 3 refine pU_ ?_
              refine pUX_ 28 ?_
              refine pUX_ 32 ?_
              refine pUX_ 34 ?_
              refine pUX_ 35 ?_
              refine tU_ ?_
              refine aU_ ?_
              iterate 2 refine pU_ ?_
              refine tU_ ?_
              refine aU_ ?_
              refine tU_ ?_
              iterate 2 refine aU_ ?_
              iterate 2 refine pU_ ?_
              refine tU_ ?_
              iterate 4 refine pU_ ?_
              refine doneU_ ?_
              try go_wp2
              go_roundg k2
              case measure => have := HJ1.out; have := HK2.out; omega
              case rel => exact ⟨(wrap64 (x3_2 + 1)), eqE_, H', ⟨by have := HJ1.out; have := HK2.out; omega⟩, ⟨blkE_⟩, ⟨belE_⟩⟩
           ·
            rw [if_neg c15] at H
            exact absurd H (by simp)
          ·
           rw [if_neg c14] at H
           exact absurd H (by simp)
         ·
          rw [if_neg c12] at H
          have c12b0 : decide (0 < x3_2) = false := decide_eq_false c12
          clear c12
          have H' := Aside0.mk H
          clear H
          obtain ⟨hcz27_0, hcz27_1, hfz27_0, hfz27_1⟩ := cz2_ BK194
          try go_wp2
          replace BK194 := Aside0.mk (blk_drew BK194.out)
          replace HB := Aside0.mk (below_drew1 HB.out)
          have p195 : 0 ≤ (x3_2 : Int) := of_decide_eq_true (by first | (with_reducible assumption) | assumption)
          have q195 : x3_2 < (l0_0.length : Int) := of_decide_eq_true (by first | (with_reducible assumption) | assumption)
          obtain ⟨ad195, e195, hx195_0, hx195_1, hx195_2, hx195_3⟩ := at_T64 HR0_0.out x3_2 p195 q195
          have hw195_3 := hx195_3
          have hw195_2 := hx195_2
          have hw195_1 := hx195_1
          have hw195_0 := hx195_0
          cases e195
          replace hx195_0 := (HB.out.cell (World.block_lt_of_cell? w _ hx195_0)).trans hx195_0
          replace hx195_1 := (HB.out.cell (World.block_lt_of_cell? w _ hx195_1)).trans hx195_1
          replace hx195_2 := (HB.out.cell (World.block_lt_of_cell? w _ hx195_2)).trans hx195_2
          replace hx195_3 := (HB.out.cell (World.block_lt_of_cell? w _ hx195_3)).trans hx195_3
          replace p195 := eq_true p195
          replace q195 := eq_true q195
          refine startU_ (n := 43) (S := fun w' => w'.cell? ⟨gb194, 0, none⟩ = some (.slice (some ad195) l0_0.length c0_0) ∧ w'.cell? ⟨gb194, 1, none⟩ = some (.slice A0_1 l0_1.length c0_1) ∧ w'.cell? (ad195.add ((x3_2).toNat * 4)) = some (.int .i64 ((rd_T64 l0_0 x3_2).f0)) ∧ w'.cell? ⟨(ad195.add ((x3_2).toNat * 4)).block, (ad195.add ((x3_2).toNat * 4)).off + 1, none⟩ = some (.int .i64 ((rd_T64 l0_0 x3_2).f1)) ∧ w'.cell? ⟨(ad195.add ((x3_2).toNat * 4)).block, (ad195.add ((x3_2).toNat * 4)).off + 2, none⟩ = some (.int .i64 ((rd_T64 l0_0 x3_2).f2)) ∧ w'.cell? ⟨(ad195.add ((x3_2).toNat * 4)).block, (ad195.add ((x3_2).toNat * 4)).off + 3, none⟩ = some (.string ((rd_T64 l0_0 x3_2).f3))) (ds := []) ⟨(blk_cell BK194.out 0).trans rfl, (blk_cell BK194.out 1).trans rfl, ((HB.out.cell (World.block_lt_of_cell? w _ hw195_0)).trans hw195_0), ((HB.out.cell (World.block_lt_of_cell? w _ hw195_1)).trans hw195_1), ((HB.out.cell (World.block_lt_of_cell? w _ hw195_2)).trans hw195_2), ((HB.out.cell (World.block_lt_of_cell? w _ hw195_3)).trans hw195_3)⟩ (fun hHeld => ?_); refine with_tabW spec_l06OK.tab6 spec_l06OK.bits6 (fun HT_ HW_ => ?_)
          generalize wr.drew = w28 at BK194 HB hx195_0 hx195_1 hx195_2 hx195_3 hHeld ⊢
          refine pU_ ?_
          refine pUX_ 2 ?_
          refine tU_ ?_
          refine aU_ ?_
          refine pU_ ?_
          refine tU_ ?_
          refine oU_ (fun K hK => ?_)
          refine gU_ Try.func95 #[.agg #[.int .i64 ((rd_T64 l0_0 x3_2).f0), .int .i64 ((rd_T64 l0_0 x3_2).f1), .int .i64 ((rd_T64 l0_0 x3_2).f2), .string ((rd_T64 l0_0 x3_2).f3)]] ?_
          with_reducible refine (spec_l06Report.calls ((rd_T64 l0_0 x3_2).f0) ((rd_T64 l0_0 x3_2).f1) ((rd_T64 l0_0 x3_2).f2) ((rd_T64 l0_0 x3_2).f3) true _ A10.out).mono ?_
          rintro e w29 ⟨rfl, hb⟩
          refine ⟨_, rfl, ?_⟩
          replace BK194 := blkK_ BK194 hb
          replace HB := belB_ hb
          (try clear hb)
          refine hK.out _ _ ⟨(blk_cell BK194.out 0).trans rfl, (blk_cell BK194.out 1).trans rfl, ((HB.out.cell (World.block_lt_of_cell? w _ hw195_0)).trans hw195_0), ((HB.out.cell (World.block_lt_of_cell? w _ hw195_1)).trans hw195_1), ((HB.out.cell (World.block_lt_of_cell? w _ hw195_2)).trans hw195_2), ((HB.out.cell (World.block_lt_of_cell? w _ hw195_3)).trans hw195_3)⟩ (fun hHeld => ?_)
          clear hK K
          refine nU_ ?_
          iterate 5 refine pU_ ?_
          iterate 30 refine sU_ ?_
          iterate 2 refine pU_ ?_
          refine doneU_ ?_
          try go_wp2
          go_roundg k2
          case measure => have := HJ1.out; have := HK2.out; omega
          case rel => exact ⟨(wrap64 (x3_2 + 1)), eqE_, H', ⟨by have := HJ1.out; have := HK2.out; omega⟩, ⟨blkE_⟩, ⟨belE_⟩⟩
        ·
         replace c11 := Bool.eq_false_iff.mpr c11
         subst c11
         replace H := ifF_ H
         obtain rfl := Option.some.inj H
         obtain ⟨hcz30_0, hcz30_1, hfz30_0, hfz30_1⟩ := cz2_ BK194
         try go_wp2
         replace BK194 := Aside0.mk (blk_drew BK194.out)
         replace HB := Aside0.mk (below_drew1 HB.out)
         have p195 : 0 ≤ (x3_2 : Int) := of_decide_eq_true (by first | (with_reducible assumption) | assumption)
         have q195 : x3_2 < (l0_0.length : Int) := of_decide_eq_true (by first | (with_reducible assumption) | assumption)
         obtain ⟨ad195, e195, hx195_0, hx195_1, hx195_2, hx195_3⟩ := at_T64 HR0_0.out x3_2 p195 q195
         have hw195_3 := hx195_3
         have hw195_2 := hx195_2
         have hw195_1 := hx195_1
         have hw195_0 := hx195_0
         cases e195
         replace hx195_0 := (HB.out.cell (World.block_lt_of_cell? w _ hx195_0)).trans hx195_0
         replace hx195_1 := (HB.out.cell (World.block_lt_of_cell? w _ hx195_1)).trans hx195_1
         replace hx195_2 := (HB.out.cell (World.block_lt_of_cell? w _ hx195_2)).trans hx195_2
         replace hx195_3 := (HB.out.cell (World.block_lt_of_cell? w _ hx195_3)).trans hx195_3
         replace p195 := eq_true p195
         replace q195 := eq_true q195
         refine startU_ (n := 43) (S := fun w' => w'.cell? ⟨gb194, 0, none⟩ = some (.slice (some ad195) l0_0.length c0_0) ∧ w'.cell? ⟨gb194, 1, none⟩ = some (.slice A0_1 l0_1.length c0_1) ∧ w'.cell? (ad195.add ((x3_2).toNat * 4)) = some (.int .i64 ((rd_T64 l0_0 x3_2).f0)) ∧ w'.cell? ⟨(ad195.add ((x3_2).toNat * 4)).block, (ad195.add ((x3_2).toNat * 4)).off + 1, none⟩ = some (.int .i64 ((rd_T64 l0_0 x3_2).f1)) ∧ w'.cell? ⟨(ad195.add ((x3_2).toNat * 4)).block, (ad195.add ((x3_2).toNat * 4)).off + 2, none⟩ = some (.int .i64 ((rd_T64 l0_0 x3_2).f2)) ∧ w'.cell? ⟨(ad195.add ((x3_2).toNat * 4)).block, (ad195.add ((x3_2).toNat * 4)).off + 3, none⟩ = some (.string ((rd_T64 l0_0 x3_2).f3))) (ds := []) ⟨(blk_cell BK194.out 0).trans rfl, (blk_cell BK194.out 1).trans rfl, ((HB.out.cell (World.block_lt_of_cell? w _ hw195_0)).trans hw195_0), ((HB.out.cell (World.block_lt_of_cell? w _ hw195_1)).trans hw195_1), ((HB.out.cell (World.block_lt_of_cell? w _ hw195_2)).trans hw195_2), ((HB.out.cell (World.block_lt_of_cell? w _ hw195_3)).trans hw195_3)⟩ (fun hHeld => ?_); refine with_tabW spec_l06OK.tab6 spec_l06OK.bits6 (fun HT_ HW_ => ?_)
         generalize wr.drew = w31 at BK194 HB hx195_0 hx195_1 hx195_2 hx195_3 hHeld ⊢
         refine pU_ ?_
         refine pUX_ 2 ?_
         refine tU_ ?_
         refine aU_ ?_
         refine pU_ ?_
         refine tU_ ?_
         refine oU_ (fun K hK => ?_)
         refine gU_ Try.func95 #[.agg #[.int .i64 ((rd_T64 l0_0 x3_2).f0), .int .i64 ((rd_T64 l0_0 x3_2).f1), .int .i64 ((rd_T64 l0_0 x3_2).f2), .string ((rd_T64 l0_0 x3_2).f3)]] ?_
         with_reducible refine (spec_l06Report.calls ((rd_T64 l0_0 x3_2).f0) ((rd_T64 l0_0 x3_2).f1) ((rd_T64 l0_0 x3_2).f2) ((rd_T64 l0_0 x3_2).f3) false _ A10.out).mono ?_
         rintro e w32 ⟨rfl, hb⟩
         refine ⟨_, rfl, ?_⟩
         replace BK194 := blkK_ BK194 hb
         replace HB := belB_ hb
         (try clear hb)
         refine hK.out _ _ ⟨(blk_cell BK194.out 0).trans rfl, (blk_cell BK194.out 1).trans rfl, ((HB.out.cell (World.block_lt_of_cell? w _ hw195_0)).trans hw195_0), ((HB.out.cell (World.block_lt_of_cell? w _ hw195_1)).trans hw195_1), ((HB.out.cell (World.block_lt_of_cell? w _ hw195_2)).trans hw195_2), ((HB.out.cell (World.block_lt_of_cell? w _ hw195_3)).trans hw195_3)⟩ (fun hHeld => ?_)
         clear hK K
         refine nU_ ?_
         iterate 2 refine pU_ ?_
         iterate 34 refine sU_ ?_
         refine pU_ ?_
         refine doneU_ ?_
         try go_wp2
         go_ret
         exact ⟨retE_, belE_⟩
       ·
        rw [if_neg c9] at H
        exact absurd H (by simp)
      ·
       rw [if_neg c8] at H
       have c8b0 : decide (x3_2 < (l0_0.length : Int)) = false := decide_eq_false c8
       clear c8
       have H' := Aside0.mk H
       clear H
       obtain ⟨hcz33_0, hcz33_1, hfz33_0, hfz33_1⟩ := cz2_ BK194
       go_wp2
       go_loopg [4] k2 (fun kq v4 w' => ∃ (x4_3 : Int), v4 = .int .i64 x4_3 ∧ Aside0 (spec_l06OK.l1 kq x4_3 l0_0 l0_1 = some r) ∧ Aside0 (kq ≤ k2) ∧ Aside0 (w'.heap[gb194]? = some (.cells #[(.slice A0_0 l0_0.length c0_0), (.slice A0_1 l0_1.length c0_1)] 49 (0, 0))) ∧ Aside0 (Below w.heap.size w w'))
       case atStart => exact ⟨(0), eqE_, H', ⟨Nat.le_refl _⟩, ⟨blkE_⟩, ⟨belE_⟩⟩
       case round =>
        clear H'
        try clear c8
        try clear c8b0
        try clear c9
        try clear c11
        try clear c12
        try clear c12b0
        try clear c14
        try clear c15
        try clear hcz27_0 hcz27_1
        try clear hcz30_0 hcz30_1
        try clear hcz33_0 hcz33_1
        try clear hfz27_0 hfz27_1
        try clear hfz30_0 hfz30_1
        try clear hfz33_0 hfz33_1
        try clear hx195_0
        try clear hx195_1
        try clear hx195_2
        try clear hx195_3
        try clear p195
        try clear q195
        obtain ⟨x4_3, rfl, HA, HK3, BK194, HB⟩ := hrel
        cases gk with
        | zero => exact absurd HA.out (by simp [spec_l06OK.l1])
        | succ k3 =>
         have H := HA.out
         clear HA
         simp only [spec_l06OK.l1] at H
         by_cases c34 : x4_3 < (l0_1.length : Int)
         ·
          rw [if_pos c34] at H
          have c34b0 : decide (x4_3 < (l0_1.length : Int)) = true := decide_eq_true c34
          clear c34
          by_cases c35 : 0 ≤ x4_3
          ·
           rw [if_pos c35] at H
           have c35b0 : decide (0 ≤ x4_3) = true := decide_eq_true c35
           clear c35
           obtain ⟨t202, A36, H⟩ := bindE_ H
           by_cases c37 : t202 = true
           ·
            subst c37
            replace H := ifT_ H
            have c38b0 := eq_true (of_decide_eq_true (by first | (with_reducible assumption) | assumption) : 0 ≤ x4_3)
            by_cases c39 : x4_3 ≤ (l0_1.length : Int)
            ·
             rw [if_pos c39] at H
             have c39b0 := eq_true c39
             have c39b1 : decide (x4_3 ≤ (l0_1.length : Int)) = true := decide_eq_true c39
             clear c39
             obtain ⟨t205, A40, H⟩ := bindE_ H
             by_cases c41 : t205 = true
             ·
              subst c41
              replace H := ifT_ H
              obtain rfl := Option.some.inj H
              obtain ⟨hcz42_0, hcz42_1, hfz42_0, hfz42_1⟩ := cz2_ BK194
              try go_wp2
              replace BK194 := Aside0.mk (blk_drew BK194.out)
              replace HB := Aside0.mk (below_drew1 HB.out)
              have p201 : 0 ≤ (x4_3 : Int) := of_decide_eq_true (by first | (with_reducible assumption) | assumption)
              have q201 : x4_3 < (l0_1.length : Int) := of_decide_eq_true (by first | (with_reducible assumption) | assumption)
              obtain ⟨ad201, e201, hx201_0⟩ := Kd.at_string HR0_1.out x4_3 p201 q201
              have hw201_0 := hx201_0
              cases e201
              replace hx201_0 := (HB.out.cell (World.block_lt_of_cell? w _ hx201_0)).trans hx201_0
              replace p201 := eq_true p201
              replace q201 := eq_true q201
              have p204 : 0 ≤ (x4_3 : Int) := of_decide_eq_true (by first | (with_reducible assumption) | assumption)
              have q204 : x4_3 < (l0_1.length : Int) := of_decide_eq_true (by first | (with_reducible assumption) | assumption)
              obtain ⟨ad204, e204, hx204_0⟩ := Kd.at_string HR0_1.out x4_3 p204 q204
              have hw204_0 := hx204_0
              obtain rfl : ad201 = ad204 := (by injection e204)
              replace hx204_0 := (HB.out.cell (World.block_lt_of_cell? w _ hx204_0)).trans hx204_0
              replace p204 := eq_true p204
              replace q204 := eq_true q204
              refine startU_ (n := 20) (S := fun w' => w'.cell? ⟨gb194, 0, none⟩ = some (.slice A0_0 l0_0.length c0_0) ∧ w'.cell? ⟨gb194, 1, none⟩ = some (.slice (some ad201) l0_1.length c0_1) ∧ w'.cell? (ad201.add (x4_3).toNat) = some (.string (rdOf ByteArray.empty l0_1 x4_3)) ∧ w'.cell? (ad201.add (x4_3).toNat) = some (.string (rdOf ByteArray.empty l0_1 x4_3))) (ds := []) ⟨(blk_cell BK194.out 0).trans rfl, (blk_cell BK194.out 1).trans rfl, ((HB.out.cell (World.block_lt_of_cell? w _ hw201_0)).trans hw201_0), ((HB.out.cell (World.block_lt_of_cell? w _ hw204_0)).trans hw204_0)⟩ (fun hHeld => ?_); refine with_tabW spec_l06OK.tab11 spec_l06OK.bits11 (fun HT_ HW_ => ?_)
              generalize wr.drew = w43 at BK194 HB hx201_0 hx204_0 hHeld ⊢
              refine pU_ ?_
              refine pUX_ 2 ?_
              refine tU_ ?_
              refine aU_ ?_
              refine pU_ ?_
              refine tU_ ?_
              refine pU_ ?_
              refine oU_ (fun K hK => ?_)
              refine gU_ Try.func101 #[.int .i64 ((rdOf ByteArray.empty l0_1 x4_3).size : Int), .int .i64 1, .int .i64 8000] ?_
              with_reducible refine (spec_l01In.calls ((rdOf ByteArray.empty l0_1 x4_3).size : Int) 1 8000 true _ A36.out).mono ?_
              rintro e w' ⟨rfl, ⟨nd, rfl⟩⟩
              refine ⟨_, rfl, ?_⟩
              obtain ⟨i044, hi044, _, hsz44, _⟩ := info_parts info9
              obtain ⟨hcut44, hA44, hC44⟩ := print_take_of (P := Try.prog) Value.string (⟨#[]⟩ : ByteArray) 34 9 .i64 Try.underlying34 hi044 hsz44 (some ad201) c0_1 l0_1 x4_3 (of_decide_eq_true (by first | (with_reducible assumption) | assumption)) (of_decide_eq_true (by first | (with_reducible assumption) | assumption)) HC0_1.out
              have HR203 := Aside0.mk (Kd.C_of_reads (h1 := fun _ => rfl) (hA44 _ (Kd.reads_of_C HR0_1.out)))
              have HC203 := Aside0.mk hC44
              clear hA44 hC44 hi044 hsz44
              refine hK.out _ _ ⟨(blk_cell BK194.out 0).trans rfl, (blk_cell BK194.out 1).trans rfl, ((HB.out.cell (World.block_lt_of_cell? w _ hw201_0)).trans hw201_0), ((HB.out.cell (World.block_lt_of_cell? w _ hw204_0)).trans hw204_0)⟩ (fun hHeld => ?_)
              clear hK K
              refine nU_ ?_
              iterate 3 refine pU_ ?_
              refine pUX_ 11 ?_
              refine pUX_ 13 ?_
              refine pUX_ 15 ?_
              refine tU_ ?_
              refine aU_ ?_
              refine pU_ ?_
              refine aU_ ?_
              refine tU_ ?_
              refine aU_ ?_
              refine pU_ ?_
              refine tU_ ?_
              refine oU_ (fun K hK => ?_)
              refine goes_ Try.func128 (by kernel_rfl) rfl #[.slice (some ad201) (l0_1.take (x4_3 : Int).toNat).length c0_1, .string (rdOf ByteArray.empty l0_1 x4_3)] (by rfl) rfl rfl (by (try simp only [List.map_toArray, List.map_cons, List.map_nil]); first | done | (rw [show (l0_1.take (x4_3 : Int).toNat).length = x4_3.toNat from (by rw [List.length_take]; have h_ : (x4_3 : Int) ≤ (l0_1.length : Int) := of_decide_eq_true (by first | (with_reducible assumption) | assumption); omega)] <;> rfl) | rfl | (simp only [List.length_drop, List.length_take]; rfl)) ?_
              with_reducible refine (spec_l01Has.calls k3 _ _ (l0_1.take (x4_3 : Int).toNat) (rdOf ByteArray.empty l0_1 x4_3) true _ ?side1 ?side2 A40.out).mono ?_
              (case side1 => repeat (first | exact (Kd.C_below HR203.out (by repeat (first | (with_reducible first | exact HB.out | apply below_alloc | apply pw_below_drewN | apply below_drew1 | refine below_set ?_ GE194.out) | exact HB.out))) | (with_reducible refine Kd.C_alloc ?_ _) | (with_reducible refine Kd.C_drewN ?_ _) | (with_reducible refine Kd.C_drew ?_)))
              (case side2 => exact HC203.out)
              rintro e w' ⟨rfl, ⟨nd, rfl⟩⟩
              refine ⟨_, rfl, ?_⟩
              refine hK.out _ _ ⟨(blk_cell BK194.out 0).trans rfl, (blk_cell BK194.out 1).trans rfl, ((HB.out.cell (World.block_lt_of_cell? w _ hw201_0)).trans hw201_0), ((HB.out.cell (World.block_lt_of_cell? w _ hw204_0)).trans hw204_0)⟩ (fun hHeld => ?_)
              clear hK K
              refine nU_ ?_
              refine pU_ ?_
              refine doneU_ ?_
              try go_wp2
              go_ret
              exact ⟨retE_, belE_⟩
             ·
              replace c41 := Bool.eq_false_iff.mpr c41
              subst c41
              replace H := ifF_ H
              have H' := Aside0.mk H
              clear H
              obtain ⟨hcz45_0, hcz45_1, hfz45_0, hfz45_1⟩ := cz2_ BK194
              try go_wp2
              replace BK194 := Aside0.mk (blk_drew BK194.out)
              replace HB := Aside0.mk (below_drew1 HB.out)
              have p201 : 0 ≤ (x4_3 : Int) := of_decide_eq_true (by first | (with_reducible assumption) | assumption)
              have q201 : x4_3 < (l0_1.length : Int) := of_decide_eq_true (by first | (with_reducible assumption) | assumption)
              obtain ⟨ad201, e201, hx201_0⟩ := Kd.at_string HR0_1.out x4_3 p201 q201
              have hw201_0 := hx201_0
              cases e201
              replace hx201_0 := (HB.out.cell (World.block_lt_of_cell? w _ hx201_0)).trans hx201_0
              replace p201 := eq_true p201
              replace q201 := eq_true q201
              have p204 : 0 ≤ (x4_3 : Int) := of_decide_eq_true (by first | (with_reducible assumption) | assumption)
              have q204 : x4_3 < (l0_1.length : Int) := of_decide_eq_true (by first | (with_reducible assumption) | assumption)
              obtain ⟨ad204, e204, hx204_0⟩ := Kd.at_string HR0_1.out x4_3 p204 q204
              have hw204_0 := hx204_0
              obtain rfl : ad201 = ad204 := (by injection e204)
              replace hx204_0 := (HB.out.cell (World.block_lt_of_cell? w _ hx204_0)).trans hx204_0
              replace p204 := eq_true p204
              replace q204 := eq_true q204
              refine startU_ (n := 20) (S := fun w' => w'.cell? ⟨gb194, 0, none⟩ = some (.slice A0_0 l0_0.length c0_0) ∧ w'.cell? ⟨gb194, 1, none⟩ = some (.slice (some ad201) l0_1.length c0_1) ∧ w'.cell? (ad201.add (x4_3).toNat) = some (.string (rdOf ByteArray.empty l0_1 x4_3)) ∧ w'.cell? (ad201.add (x4_3).toNat) = some (.string (rdOf ByteArray.empty l0_1 x4_3))) (ds := []) ⟨(blk_cell BK194.out 0).trans rfl, (blk_cell BK194.out 1).trans rfl, ((HB.out.cell (World.block_lt_of_cell? w _ hw201_0)).trans hw201_0), ((HB.out.cell (World.block_lt_of_cell? w _ hw204_0)).trans hw204_0)⟩ (fun hHeld => ?_); refine with_tabW spec_l06OK.tab11 spec_l06OK.bits11 (fun HT_ HW_ => ?_)
              generalize wr.drew = w46 at BK194 HB hx201_0 hx204_0 hHeld ⊢
              refine pU_ ?_
              refine pUX_ 2 ?_
              refine tU_ ?_
              refine aU_ ?_
              refine pU_ ?_
              refine tU_ ?_
              refine pU_ ?_
              refine oU_ (fun K hK => ?_)
              refine gU_ Try.func101 #[.int .i64 ((rdOf ByteArray.empty l0_1 x4_3).size : Int), .int .i64 1, .int .i64 8000] ?_
              with_reducible refine (spec_l01In.calls ((rdOf ByteArray.empty l0_1 x4_3).size : Int) 1 8000 true _ A36.out).mono ?_
              rintro e w' ⟨rfl, ⟨nd, rfl⟩⟩
              refine ⟨_, rfl, ?_⟩
              obtain ⟨i047, hi047, _, hsz47, _⟩ := info_parts info9
              obtain ⟨hcut47, hA47, hC47⟩ := print_take_of (P := Try.prog) Value.string (⟨#[]⟩ : ByteArray) 34 9 .i64 Try.underlying34 hi047 hsz47 (some ad201) c0_1 l0_1 x4_3 (of_decide_eq_true (by first | (with_reducible assumption) | assumption)) (of_decide_eq_true (by first | (with_reducible assumption) | assumption)) HC0_1.out
              have HR203 := Aside0.mk (Kd.C_of_reads (h1 := fun _ => rfl) (hA47 _ (Kd.reads_of_C HR0_1.out)))
              have HC203 := Aside0.mk hC47
              clear hA47 hC47 hi047 hsz47
              refine hK.out _ _ ⟨(blk_cell BK194.out 0).trans rfl, (blk_cell BK194.out 1).trans rfl, ((HB.out.cell (World.block_lt_of_cell? w _ hw201_0)).trans hw201_0), ((HB.out.cell (World.block_lt_of_cell? w _ hw204_0)).trans hw204_0)⟩ (fun hHeld => ?_)
              clear hK K
              refine nU_ ?_
              iterate 3 refine pU_ ?_
              refine pUX_ 11 ?_
              refine pUX_ 13 ?_
              refine pUX_ 15 ?_
              refine tU_ ?_
              refine aU_ ?_
              refine pU_ ?_
              refine aU_ ?_
              refine tU_ ?_
              refine aU_ ?_
              refine pU_ ?_
              refine tU_ ?_
              refine oU_ (fun K hK => ?_)
              refine goes_ Try.func128 (by kernel_rfl) rfl #[.slice (some ad201) (l0_1.take (x4_3 : Int).toNat).length c0_1, .string (rdOf ByteArray.empty l0_1 x4_3)] (by rfl) rfl rfl (by (try simp only [List.map_toArray, List.map_cons, List.map_nil]); first | done | (rw [show (l0_1.take (x4_3 : Int).toNat).length = x4_3.toNat from (by rw [List.length_take]; have h_ : (x4_3 : Int) ≤ (l0_1.length : Int) := of_decide_eq_true (by first | (with_reducible assumption) | assumption); omega)] <;> rfl) | rfl | (simp only [List.length_drop, List.length_take]; rfl)) ?_
              with_reducible refine (spec_l01Has.calls k3 _ _ (l0_1.take (x4_3 : Int).toNat) (rdOf ByteArray.empty l0_1 x4_3) false _ ?side1 ?side2 A40.out).mono ?_
              (case side1 => repeat (first | exact (Kd.C_below HR203.out (by repeat (first | (with_reducible first | exact HB.out | apply below_alloc | apply pw_below_drewN | apply below_drew1 | refine below_set ?_ GE194.out) | exact HB.out))) | (with_reducible refine Kd.C_alloc ?_ _) | (with_reducible refine Kd.C_drewN ?_ _) | (with_reducible refine Kd.C_drew ?_)))
              (case side2 => exact HC203.out)
              rintro e w' ⟨rfl, ⟨nd, rfl⟩⟩
              refine ⟨_, rfl, ?_⟩
              refine hK.out _ _ ⟨(blk_cell BK194.out 0).trans rfl, (blk_cell BK194.out 1).trans rfl, ((HB.out.cell (World.block_lt_of_cell? w _ hw201_0)).trans hw201_0), ((HB.out.cell (World.block_lt_of_cell? w _ hw204_0)).trans hw204_0)⟩ (fun hHeld => ?_)
              clear hK K
              refine nU_ ?_
              refine pU_ ?_
              refine doneU_ ?_
              try go_wp2
              go_roundg k3
              case measure => have := HJ1.out; have := HK2.out; have := HK3.out; omega
              case rel => exact ⟨(wrap64 (x4_3 + 1)), eqE_, H', ⟨by have := HJ1.out; have := HK2.out; have := HK3.out; omega⟩, ⟨blkE_⟩, ⟨belE_⟩⟩
            ·
             rw [if_neg c39] at H
             exact absurd H (by simp)
           ·
            replace c37 := Bool.eq_false_iff.mpr c37
            subst c37
            replace H := ifF_ H
            obtain rfl := Option.some.inj H
            obtain ⟨hcz48_0, hcz48_1, hfz48_0, hfz48_1⟩ := cz2_ BK194
            try go_wp2
            replace BK194 := Aside0.mk (blk_drew BK194.out)
            replace HB := Aside0.mk (below_drew1 HB.out)
            have p201 : 0 ≤ (x4_3 : Int) := of_decide_eq_true (by first | (with_reducible assumption) | assumption)
            have q201 : x4_3 < (l0_1.length : Int) := of_decide_eq_true (by first | (with_reducible assumption) | assumption)
            obtain ⟨ad201, e201, hx201_0⟩ := Kd.at_string HR0_1.out x4_3 p201 q201
            have hw201_0 := hx201_0
            cases e201
            replace hx201_0 := (HB.out.cell (World.block_lt_of_cell? w _ hx201_0)).trans hx201_0
            replace p201 := eq_true p201
            replace q201 := eq_true q201
            refine startU_ (n := 20) (S := fun w' => w'.cell? ⟨gb194, 0, none⟩ = some (.slice A0_0 l0_0.length c0_0) ∧ w'.cell? ⟨gb194, 1, none⟩ = some (.slice (some ad201) l0_1.length c0_1) ∧ w'.cell? (ad201.add (x4_3).toNat) = some (.string (rdOf ByteArray.empty l0_1 x4_3))) (ds := []) ⟨(blk_cell BK194.out 0).trans rfl, (blk_cell BK194.out 1).trans rfl, ((HB.out.cell (World.block_lt_of_cell? w _ hw201_0)).trans hw201_0)⟩ (fun hHeld => ?_); refine with_tabW spec_l06OK.tab11 spec_l06OK.bits11 (fun HT_ HW_ => ?_)
            generalize wr.drew = w49 at BK194 HB hx201_0 hHeld ⊢
            refine pU_ ?_
            refine pUX_ 2 ?_
            refine tU_ ?_
            refine aU_ ?_
            refine pU_ ?_
            refine tU_ ?_
            refine pU_ ?_
            refine oU_ (fun K hK => ?_)
            refine gU_ Try.func101 #[.int .i64 ((rdOf ByteArray.empty l0_1 x4_3).size : Int), .int .i64 1, .int .i64 8000] ?_
            with_reducible refine (spec_l01In.calls ((rdOf ByteArray.empty l0_1 x4_3).size : Int) 1 8000 false _ A36.out).mono ?_
            rintro e w' ⟨rfl, ⟨nd, rfl⟩⟩
            refine ⟨_, rfl, ?_⟩
            refine hK.out _ _ ⟨(blk_cell BK194.out 0).trans rfl, (blk_cell BK194.out 1).trans rfl, ((HB.out.cell (World.block_lt_of_cell? w _ hw201_0)).trans hw201_0)⟩ (fun hHeld => ?_)
            clear hK K
            refine nU_ ?_
            iterate 2 refine pU_ ?_
            iterate 10 refine sU_ ?_
            refine pU_ ?_
            refine doneU_ ?_
            try go_wp2
            go_ret
            exact ⟨retE_, belE_⟩
          ·
           rw [if_neg c35] at H
           exact absurd H (by simp)
         ·
          rw [if_neg c34] at H
          have c34b0 : decide (x4_3 < (l0_1.length : Int)) = false := decide_eq_false c34
          clear c34
          obtain rfl := Option.some.inj H
          obtain ⟨hcz50_0, hcz50_1, hfz50_0, hfz50_1⟩ := cz2_ BK194
          go_wp2
          go_ret
          exact ⟨retE_, belE_⟩

end Go.Proofs.Ytmfnaaeglfhnmaa.QFnExactMissed
