/- A tool of this session wrote this text out of the translation: functions as plain Lean, and proofs that the machine's calls come to their answers. -/
import Derived.Test.YtmfnaaeglfhnmaaQShort
import Derived.Test.YtmfnaaeglfhnmaaQFnExactExpirex0
import Derived.Test.YtmfnaaeglfhnmaaQFnExactExpirex3
import Derived.Test.YtmfnaaeglfhnmaaQFnExactExpirex4
namespace Go.Proofs.Ytmfnaaeglfhnmaa.QFnExactExpire
open Go.RowKit Go.Proofs.YtmfnaaeglfhnmaaW.PrintWords Go.Proofs.YtmfnaaeglfhnmaaW.PrintLast Go.Proofs.YtmfnaaeglfhnmaaW.PrintMore
open Go.Proofs.Ytmfnaaeglfhnmaa.Short
attribute [local go_sem] max2_int min2_int max_two min_two max_three min_three max_four min_four   -- for this text's walks alone
set_option linter.unusedVariables false
set_option linter.unusedSimpArgs false

/-! ### spec_l06OK: function 84 -/
mutual
def spec_l06OK.j0 : Nat → Bool → List (S64) → List ByteArray → Option (Bool)
  | 0, _, _, _ => none
  | k + 1, x14, x177000, x177001 => if x14 = true then (some false) else (spec_l06OK.l0 k 0 x177000 x177001)
def spec_l06OK.l0 : Nat → Int → List (S64) → List ByteArray → Option (Bool)
  | 0, _, _, _ => none
  | k + 1, x3, x177000, x177001 => if x3 < (x177000.length : Int) then (if 0 ≤ x3 then ((spec_l06Report.f ((rd_T64 x177000 x3).f0) ((rd_T64 x177000 x3).f1) ((rd_T64 x177000 x3).f2) ((rd_T64 x177000 x3).f3)).bind fun t178 => (if t178 = true then (if x3 > 0 then (if 0 ≤ (wrap64 (x3 - 1)) then (if (wrap64 (x3 - 1)) < (x177000.length : Int) then (if ((rd_T64 x177000 x3).f0) ≤ ((rd_T64 x177000 (wrap64 (x3 - 1))).f0) then (some false) else (if ((rd_T64 x177000 x3).f1) < ((rd_T64 x177000 (wrap64 (x3 - 1))).f1) then (some false) else (spec_l06OK.l0 k (wrap64 (x3 + 1)) x177000 x177001))) else (none)) else (none)) else (spec_l06OK.l0 k (wrap64 (x3 + 1)) x177000 x177001)) else (some false))) else (none)) else (spec_l06OK.l1 k 0 x177000 x177001)
def spec_l06OK.l1 : Nat → Int → List (S64) → List ByteArray → Option (Bool)
  | 0, _, _, _ => none
  | k + 1, x4, x177000, x177001 => if x4 < (x177001.length : Int) then (if 0 ≤ x4 then ((spec_l01In.f ((rdOf ByteArray.empty x177001 x4).size : Int) 1 8000).bind fun t184 => (if t184 = true then (if x4 ≤ (x177001.length : Int) then ((spec_l01Has.f k (x177001.take (x4 : Int).toNat) (rdOf ByteArray.empty x177001 x4)).bind fun t187 => (if t187 = true then (some false) else (spec_l06OK.l1 k (wrap64 (x4 + 1)) x177000 x177001))) else (none)) else (some false))) else (none)) else (some true)
end
def spec_l06OK.f (k : Nat) (l0_0 : List (S64)) (l0_1 : List ByteArray) : Option (Bool) := if (l0_0.length : Int) > 5 then (spec_l06OK.j0 k true l0_0 l0_1) else (spec_l06OK.j0 k (decide ((l0_1.length : Int) > 6)) l0_0 l0_1)
theorem spec_l06OK.mono_l : ∀ k, (∀ y0 y1 y2, LeO (spec_l06OK.j0 k y0 y1 y2) (spec_l06OK.j0 (k + 1) y0 y1 y2)) ∧ (∀ y0 y1 y2, LeO (spec_l06OK.l0 k y0 y1 y2) (spec_l06OK.l0 (k + 1) y0 y1 y2)) ∧ (∀ y0 y1 y2, LeO (spec_l06OK.l1 k y0 y1 y2) (spec_l06OK.l1 (k + 1) y0 y1 y2))
  | 0 => ⟨fun _ _ _ r h => by simp [spec_l06OK.j0] at h, fun _ _ _ r h => by simp [spec_l06OK.l0] at h, fun _ _ _ r h => by simp [spec_l06OK.l1] at h⟩
  | k + 1 => by
    obtain ⟨ih0, ih1, ih2⟩ := spec_l06OK.mono_l k
    refine ⟨?_, ?_, ?_⟩
    · intro y0 y1 y2
      unfold spec_l06OK.j0
      repeat' first
      | (with_reducible exact ih0 _ _ _)
      | (with_reducible exact ih1 _ _ _)
      | (with_reducible exact ih2 _ _ _)
      | (with_reducible exact spec_l01Has.mono _ _ _)
      | (with_reducible exact LeO.refl _)
      | (with_reducible exact LeO.none _)
      | (with_reducible refine LeO.ite ?_ ?_)
      | (with_reducible refine LeO.bind ?_ (fun _ => ?_))
      | exact ih0 _ _ _
      | exact ih1 _ _ _
      | exact ih2 _ _ _
      | exact spec_l01Has.mono _ _ _
      | exact LeO.none _
      | refine LeO.ite ?_ ?_
      | refine LeO.bind ?_ (fun _ => ?_)
    · intro y0 y1 y2
      unfold spec_l06OK.l0
      repeat' first
      | (with_reducible exact ih0 _ _ _)
      | (with_reducible exact ih1 _ _ _)
      | (with_reducible exact ih2 _ _ _)
      | (with_reducible exact spec_l01Has.mono _ _ _)
      | (with_reducible exact LeO.refl _)
      | (with_reducible exact LeO.none _)
      | (with_reducible refine LeO.ite ?_ ?_)
      | (with_reducible refine LeO.bind ?_ (fun _ => ?_))
      | exact ih0 _ _ _
      | exact ih1 _ _ _
      | exact ih2 _ _ _
      | exact spec_l01Has.mono _ _ _
      | exact LeO.none _
      | refine LeO.ite ?_ ?_
      | refine LeO.bind ?_ (fun _ => ?_)
    · intro y0 y1 y2
      unfold spec_l06OK.l1
      repeat' first
      | (with_reducible exact ih0 _ _ _)
      | (with_reducible exact ih1 _ _ _)
      | (with_reducible exact ih2 _ _ _)
      | (with_reducible exact spec_l01Has.mono _ _ _)
      | (with_reducible exact LeO.refl _)
      | (with_reducible exact LeO.none _)
      | (with_reducible refine LeO.ite ?_ ?_)
      | (with_reducible refine LeO.bind ?_ (fun _ => ?_))
      | exact ih0 _ _ _
      | exact ih1 _ _ _
      | exact ih2 _ _ _
      | exact spec_l01Has.mono _ _ _
      | exact LeO.none _
      | refine LeO.ite ?_ ?_
      | refine LeO.bind ?_ (fun _ => ?_)
theorem spec_l06OK.mono : ∀ a0 a1 k, LeO (spec_l06OK.f k a0 a1) (spec_l06OK.f (k + 1) a0 a1) := by
  intro a0 a1 k
  obtain ⟨ih0, ih1, ih2⟩ := spec_l06OK.mono_l k
  unfold spec_l06OK.f
  repeat' first
      | (with_reducible exact ih0 _ _ _)
      | (with_reducible exact ih1 _ _ _)
      | (with_reducible exact ih2 _ _ _)
      | (with_reducible exact spec_l01Has.mono _ _ _)
      | (with_reducible exact LeO.refl _)
      | (with_reducible exact LeO.none _)
      | (with_reducible refine LeO.ite ?_ ?_)
      | (with_reducible refine LeO.bind ?_ (fun _ => ?_))
      | exact ih0 _ _ _
      | exact ih1 _ _ _
      | exact ih2 _ _ _
      | exact spec_l01Has.mono _ _ _
      | exact LeO.none _
      | refine LeO.ite ?_ ?_
      | refine LeO.bind ?_ (fun _ => ?_)
def spec_l06OK.T6 : Bool × List (List Nat × List Nat) := (true, [([], []), ([0], [0]), ([], []), ([1, 2], [1, 2]), ([3], [3]), ([4], [4]), ([5], [5]), ([6, 5], [6]), ([7], [7]), ([8, 7], [7, 8]), ([9, 7, 7], [7, 9]), ([10], [10]), ([11, 10], [10, 11]), ([10], [10]), ([12, 13, 10], [10, 12, 13]), ([14, 10], [10, 14]), ([15, 10], [10, 15]), ([10], [10]), ([17, 10], [10, 17]), ([10], [10]), ([19, 10], [10, 19]), ([18, 20, 10], [10, 18, 20]), ([21, 10], [10, 21]), ([22, 10], [10, 22]), ([16, 23, 10], [10, 16, 23]), ([24, 10, 10], [10, 24]), ([25], [25]), ([26, 25], [25, 26]), ([25], [25]), ([27, 28, 25], [25, 27, 28]), ([29, 25], [25, 29]), ([30, 25], [25, 30]), ([25], [25]), ([32, 25], [25, 32]), ([25], [25]), ([34, 25], [25, 34]), ([33, 35, 25], [25, 33, 35]), ([36, 25], [25, 36]), ([37, 25], [25, 37]), ([31, 38, 25], [25, 31, 38]), ([25, 39, 10], [10, 25, 39]), ([10, 40, 7], [7, 10, 40]), ([7, 41], [7, 41])])
def spec_l06OK.B6 : List Nat := [0, 1, 0, 7, 15, 31, 63, 127, 255, 511, 1023, 2047, 4095, 2047, 16383, 32767, 65535, 2047, 133119, 2047, 526335, 1968127, 4065279, 8259583, 16777215, 33554431, 67108863, 134217727, 67108863, 536870911, 1073741823, 2147483647, 67108863, 4362076159, 67108863, 17246978047, 64491618303, 133211095039, 270650048511, 549755813887, 1099511627775, 2199023255551, 4398046511103]
theorem spec_l06OK.tab6 : rtab .any (opsOf Try.f84 6) = spec_l06OK.T6 := by kernel_rfl
theorem spec_l06OK.bits6 : waitsOk spec_l06OK.T6.2 spec_l06OK.B6 = true := by kernel_rfl
def spec_l06OK.T11 : Bool × List (List Nat × List Nat) := (true, [([], []), ([0], [0]), ([], []), ([1, 2], [1, 2]), ([3], [3]), ([4], [4]), ([5], [5]), ([6], [6]), ([7, 6], [7]), ([8], [8]), ([9, 8], [8, 9]), ([8], [8]), ([10, 11, 8], [8, 10, 11]), ([8], [8]), ([13, 8], [8, 13]), ([8], [8]), ([14, 15, 8], [8, 14, 15]), ([16, 8], [8, 16]), ([12, 17, 8, 8], [8, 12, 17]), ([8, 18], [8, 18])])
def spec_l06OK.B11 : List Nat := [0, 1, 0, 7, 15, 31, 63, 127, 255, 511, 1023, 511, 4095, 511, 8703, 511, 57855, 123391, 262143, 524287]
theorem spec_l06OK.tab11 : rtab .any (opsOf Try.f84 11) = spec_l06OK.T11 := by kernel_rfl
theorem spec_l06OK.bits11 : waitsOk spec_l06OK.T11.2 spec_l06OK.B11 = true := by kernel_rfl
set_option maxHeartbeats 8000000 in
set_option maxRecDepth 100000 in
theorem spec_l06OK.calls (k : Nat) (A0_0 : Option Addr) (c0_0 : Nat) (l0_0 : List (S64)) (A0_1 : Option Addr) (c0_1 : Nat) (l0_1 : List ByteArray) (r : Bool) (w : World) (hr0_0 : Kd.C k64 w A0_0 l0_0.length l0_0) (hc0_0 : l0_0.length ≤ c0_0) (hr0_1 : Kd.C Kd.string w A0_1 l0_1.length l0_1) (hc0_1 : l0_1.length ≤ c0_1) (h : spec_l06OK.f k l0_0 l0_1 = some r) :
    Calls Try.prog 84 #[.agg #[.slice A0_0 l0_0.length c0_0, .slice A0_1 l0_1.length c0_1]] w fun e w' => e = .returned (.bool r) ∧ Below w.heap.size w w' := by
 have hu49 := Try.underlying49
 have hu64 := Try.underlying64
 have HR0_0 := Aside0.mk hr0_0
 have HC0_0 := Aside0.mk hc0_0
 clear hr0_0 hc0_0
 have HR0_1 := Aside0.mk hr0_1
 have HC0_1 := Aside0.mk hc0_1
 clear hr0_1 hc0_1
 have HB := Aside0.mk (Below.refl w.heap.size w)
 have H : (if (l0_0.length : Int) > 5 then (spec_l06OK.j0 k true l0_0 l0_1) else (spec_l06OK.j0 k (decide ((l0_1.length : Int) > 6)) l0_0 l0_1)) = some r := h
 clear h
 have HC2 := Aside0.mk H
 clear H
 go_enter Try.func84, Try.ntmps84
 go_upto_region 1 with (first | ((with_reducible refine gate_dst (N := 1) rfl ?_); (try (refine gate_guard (by rfl) ?_; dsimp only)); refine box_event ?hg (N := 1) ?hd (cs := #[.slice A0_0 l0_0.length c0_0, .slice A0_1 l0_1.length c0_1]) (t := 49) ?hr ?_; (case hd => rfl); (case hg => rfl); (case hr => first | (go_simp; done) | (go_simp; rfl)); intro gb176 hg w3 hbox hb; have n0_ := belB_ hb; have n1_ := Aside0.mk (hbox); have n2_ := Aside0.mk ((by rw [hg]; exact (below_size (by repeat (first | (with_reducible first | exact HB.out | apply below_alloc | apply pw_below_drewN | apply below_drew1) | exact HB.out))) : w.heap.size ≤ gb176)); have n3_ := Aside0.mk ((by rw [hg]; exact (below_size (by repeat (first | (with_reducible first | exact HB.out | apply below_alloc | apply pw_below_drewN | apply below_drew1) | exact HB.out))) : w.heap.size ≤ gb176)); clear HB; have HB := n0_; have BK176 := n1_; have GW176 := n2_; have GE176 := n3_; clear n0_ n1_ n2_ n3_; clear hb hbox hg))
 (try simp only [Act.put, List.setIfInBounds_toArray, List.set_cons_zero, List.set_cons_succ])
 go_cut [14] (fun v14 wc => ∃ (kq : Nat) (x14_1 : Bool), v14 = .bool x14_1 ∧ Aside0 (spec_l06OK.j0 kq x14_1 l0_0 l0_1 = some r) ∧ Aside0 (kq ≤ k) ∧ Aside0 (wc.heap[gb176]? = some (.cells #[(.slice A0_0 l0_0.length c0_0), (.slice A0_1 l0_1.length c0_1)] 49 (0, 0))) ∧ Aside0 (Below w.heap.size w wc))
 case first =>
  have H := HC2.out
  clear HC2
  by_cases c4 : (l0_0.length : Int) > 5
  ·
   rw [if_pos c4] at H
   have c4b0 : decide (5 < (l0_0.length : Int)) = true := decide_eq_true c4
   have c4b1 : decide (5 < l0_0.length) = true := decide_eq_true (by omega)
   clear c4
   (first | rw [c4b0] | (simp only [i64_w, i32_w]; rw [c4b0]) | skip)
   have H' := Aside0.mk H
   clear H
   obtain ⟨hcz5_0, hcz5_1, hfz5_0, hfz5_1⟩ := cz2_ BK176
   go_wp2
   go_meet
   case rel => exact ⟨_, (true), eqE_, H', ⟨leE_⟩, ⟨blkE_⟩, ⟨belE_⟩⟩
  ·
   rw [if_neg c4] at H
   have c4b0 : decide (5 < (l0_0.length : Int)) = false := decide_eq_false c4
   have c4b1 : decide (5 < l0_0.length) = false := decide_eq_false (by omega)
   clear c4
   (first | rw [c4b0] | (simp only [i64_w, i32_w]; rw [c4b0]) | skip)
   have H' := Aside0.mk H
   clear H
   obtain ⟨hcz6_0, hcz6_1, hfz6_0, hfz6_1⟩ := cz2_ BK176
   go_wp2
   go_meet
   case rel => exact ⟨_, (decide ((l0_1.length : Int) > 6)), eqE_, H', ⟨leE_⟩, ⟨blkE_⟩, ⟨belE_⟩⟩
 case rest =>
  clear HC2
  obtain ⟨kq, x14_1, rfl, HA, HJ1, BK176, HB⟩ := hcut
  cases kq with
  | zero => exact absurd HA.out (by simp [spec_l06OK.j0])
  | succ kj1 =>
   have H := HA.out
   clear HA
   simp only [spec_l06OK.j0] at H
   by_cases c7 : x14_1 = true
   ·
    subst c7
    replace H := ifT_ H
    obtain rfl := Option.some.inj H
    go_wp2
    go_ret
    exact ⟨retE_, belE_⟩
   ·
    replace c7 := Bool.eq_false_iff.mpr c7
    subst c7
    replace H := ifF_ H
    have H' := Aside0.mk H
    clear H
    go_wp2
    go_loopg [3] kj1 (fun kq v3 w' => ∃ (x3_2 : Int), v3 = .int .i64 x3_2 ∧ Aside0 (spec_l06OK.l0 kq x3_2 l0_0 l0_1 = some r) ∧ Aside0 (kq ≤ kj1) ∧ Aside0 (w'.heap[gb176]? = some (.cells #[(.slice A0_0 l0_0.length c0_0), (.slice A0_1 l0_1.length c0_1)] 49 (0, 0))) ∧ Aside0 (Below w.heap.size w w'))
    case atStart => exact ⟨(0), eqE_, H', ⟨Nat.le_refl _⟩, ⟨blkE_⟩, ⟨belE_⟩⟩
    case round =>
     clear H'
     try clear c7
     obtain ⟨x3_2, rfl, HA, HK2, BK176, HB⟩ := hrel
     cases gk with
     | zero => exact absurd HA.out (by simp [spec_l06OK.l0])
     | succ k2 =>
      have H := HA.out
      clear HA
      simp only [spec_l06OK.l0] at H
      by_cases c8 : x3_2 < (l0_0.length : Int)
      ·
       rw [if_pos c8] at H
       have c8b0 : decide (x3_2 < (l0_0.length : Int)) = true := decide_eq_true c8
       clear c8
       by_cases c9 : 0 ≤ x3_2
       ·
        rw [if_pos c9] at H
        have c9b0 : decide (0 ≤ x3_2) = true := decide_eq_true c9
        clear c9
        obtain ⟨t178, A10, H⟩ := bindE_ H
        by_cases c11 : t178 = true
        ·
         subst c11
         replace H := ifT_ H
         by_cases c12 : x3_2 > 0
         ·
          rw [if_pos c12] at H
          have c12b0 : decide (0 < x3_2) = true := decide_eq_true c12
          clear c12
          obtain ⟨ji13, hji13⟩ : ∃ j_ : Int, (wrap64 (x3_2 - 1)) = j_ := ⟨_, rfl⟩
          replace H : (if 0 ≤ (ji13) then (if (ji13) < (l0_0.length : Int) then (if ((rd_T64 l0_0 x3_2).f0) ≤ ((rd_T64 l0_0 (ji13)).f0) then (some false) else (if ((rd_T64 l0_0 x3_2).f1) < ((rd_T64 l0_0 (ji13)).f1) then (some false) else (spec_l06OK.l0 k2 (wrap64 (x3_2 + 1)) l0_0 l0_1))) else (none)) else (none)) = some r := by first | (rw [hji13] at H; exact H) | (simp only [hji13] at H ⊢; exact H)
          (try rw [hji13] at A10)
          have hji13w : (IntKind.i64.wrap (x3_2 - 1)) = ji13 := (i64_w _).trans hji13
          by_cases c14 : 0 ≤ (ji13)
          ·
           rw [if_pos c14] at H
           have c14b0 : decide (0 ≤ (ji13)) = true := decide_eq_true c14
           clear c14
           by_cases c15 : (ji13) < (l0_0.length : Int)
           ·
            rw [if_pos c15] at H
            have c15b0 : decide ((ji13) < (l0_0.length : Int)) = true := decide_eq_true c15
            clear c15
            by_cases c16 : ((rd_T64 l0_0 x3_2).f0) ≤ ((rd_T64 l0_0 (ji13)).f0)
            ·
             rw [if_pos c16] at H
             have c16b0 : decide (((rd_T64 l0_0 x3_2).f0) ≤ ((rd_T64 l0_0 (ji13)).f0)) = true := decide_eq_true c16
             clear c16
             obtain rfl := Option.some.inj H
             obtain ⟨hcz17_0, hcz17_1, hfz17_0, hfz17_1⟩ := cz2_ BK176
             try go_wp2
             replace BK176 := Aside0.mk (blk_drew BK176.out)
             replace HB := Aside0.mk (below_drew1 HB.out)
             have p177 : 0 ≤ (x3_2 : Int) := of_decide_eq_true (by first | (with_reducible assumption) | assumption)
             have q177 : x3_2 < (l0_0.length : Int) := of_decide_eq_true (by first | (with_reducible assumption) | assumption)
             obtain ⟨ad177, e177, hx177_0, hx177_1, hx177_2, hx177_3⟩ := at_T64 HR0_0.out x3_2 p177 q177
             have hw177_3 := hx177_3
             have hw177_2 := hx177_2
             have hw177_1 := hx177_1
             have hw177_0 := hx177_0
             cases e177
             replace hx177_0 := (HB.out.cell (World.block_lt_of_cell? w _ hx177_0)).trans hx177_0
             replace hx177_1 := (HB.out.cell (World.block_lt_of_cell? w _ hx177_1)).trans hx177_1
             replace hx177_2 := (HB.out.cell (World.block_lt_of_cell? w _ hx177_2)).trans hx177_2
             replace hx177_3 := (HB.out.cell (World.block_lt_of_cell? w _ hx177_3)).trans hx177_3
             replace p177 := eq_true p177
             replace q177 := eq_true q177
             have p179 : 0 ≤ (x3_2 : Int) := of_decide_eq_true (by first | (with_reducible assumption) | assumption)
             have q179 : x3_2 < (l0_0.length : Int) := of_decide_eq_true (by first | (with_reducible assumption) | assumption)
             obtain ⟨ad179, e179, hx179_0, hx179_1, hx179_2, hx179_3⟩ := at_T64 HR0_0.out x3_2 p179 q179
             have hw179_3 := hx179_3
             have hw179_2 := hx179_2
             have hw179_1 := hx179_1
             have hw179_0 := hx179_0
             obtain rfl : ad177 = ad179 := (by injection e179)
             replace hx179_0 := (HB.out.cell (World.block_lt_of_cell? w _ hx179_0)).trans hx179_0
             replace hx179_1 := (HB.out.cell (World.block_lt_of_cell? w _ hx179_1)).trans hx179_1
             replace hx179_2 := (HB.out.cell (World.block_lt_of_cell? w _ hx179_2)).trans hx179_2
             replace hx179_3 := (HB.out.cell (World.block_lt_of_cell? w _ hx179_3)).trans hx179_3
             replace p179 := eq_true p179
             replace q179 := eq_true q179
             have p180 : 0 ≤ ((ji13) : Int) := of_decide_eq_true (by first | (with_reducible assumption) | assumption)
             have q180 : (ji13) < (l0_0.length : Int) := of_decide_eq_true (by first | (with_reducible assumption) | assumption)
             obtain ⟨ad180, e180, hx180_0, hx180_1, hx180_2, hx180_3⟩ := at_T64 HR0_0.out (ji13) p180 q180
             have hw180_3 := hx180_3
             have hw180_2 := hx180_2
             have hw180_1 := hx180_1
             have hw180_0 := hx180_0
             obtain rfl : ad177 = ad180 := (by injection e180)
             replace hx180_0 := (HB.out.cell (World.block_lt_of_cell? w _ hx180_0)).trans hx180_0
             replace hx180_1 := (HB.out.cell (World.block_lt_of_cell? w _ hx180_1)).trans hx180_1
             replace hx180_2 := (HB.out.cell (World.block_lt_of_cell? w _ hx180_2)).trans hx180_2
             replace hx180_3 := (HB.out.cell (World.block_lt_of_cell? w _ hx180_3)).trans hx180_3
             replace p180 := eq_true p180
             replace q180 := eq_true q180
             refine startU_ (n := 43) (S := fun w' => w'.cell? ⟨gb176, 0, none⟩ = some (.slice (some ad177) l0_0.length c0_0) ∧ w'.cell? ⟨gb176, 1, none⟩ = some (.slice A0_1 l0_1.length c0_1) ∧ w'.cell? (ad177.add ((x3_2).toNat * 4)) = some (.int .i64 ((rd_T64 l0_0 x3_2).f0)) ∧ w'.cell? ⟨(ad177.add ((x3_2).toNat * 4)).block, (ad177.add ((x3_2).toNat * 4)).off + 1, none⟩ = some (.int .i64 ((rd_T64 l0_0 x3_2).f1)) ∧ w'.cell? ⟨(ad177.add ((x3_2).toNat * 4)).block, (ad177.add ((x3_2).toNat * 4)).off + 2, none⟩ = some (.int .i64 ((rd_T64 l0_0 x3_2).f2)) ∧ w'.cell? ⟨(ad177.add ((x3_2).toNat * 4)).block, (ad177.add ((x3_2).toNat * 4)).off + 3, none⟩ = some (.string ((rd_T64 l0_0 x3_2).f3)) ∧ w'.cell? (ad177.add ((x3_2).toNat * 4)) = some (.int .i64 ((rd_T64 l0_0 x3_2).f0)) ∧ w'.cell? ⟨(ad177.add ((x3_2).toNat * 4)).block, (ad177.add ((x3_2).toNat * 4)).off + 1, none⟩ = some (.int .i64 ((rd_T64 l0_0 x3_2).f1)) ∧ w'.cell? ⟨(ad177.add ((x3_2).toNat * 4)).block, (ad177.add ((x3_2).toNat * 4)).off + 2, none⟩ = some (.int .i64 ((rd_T64 l0_0 x3_2).f2)) ∧ w'.cell? ⟨(ad177.add ((x3_2).toNat * 4)).block, (ad177.add ((x3_2).toNat * 4)).off + 3, none⟩ = some (.string ((rd_T64 l0_0 x3_2).f3)) ∧ w'.cell? (ad177.add (((ji13)).toNat * 4)) = some (.int .i64 ((rd_T64 l0_0 (ji13)).f0)) ∧ w'.cell? ⟨(ad177.add (((ji13)).toNat * 4)).block, (ad177.add (((ji13)).toNat * 4)).off + 1, none⟩ = some (.int .i64 ((rd_T64 l0_0 (ji13)).f1)) ∧ w'.cell? ⟨(ad177.add (((ji13)).toNat * 4)).block, (ad177.add (((ji13)).toNat * 4)).off + 2, none⟩ = some (.int .i64 ((rd_T64 l0_0 (ji13)).f2)) ∧ w'.cell? ⟨(ad177.add (((ji13)).toNat * 4)).block, (ad177.add (((ji13)).toNat * 4)).off + 3, none⟩ = some (.string ((rd_T64 l0_0 (ji13)).f3))) (ds := []) ⟨(blk_cell BK176.out 0).trans rfl, (blk_cell BK176.out 1).trans rfl, ((HB.out.cell (World.block_lt_of_cell? w _ hw177_0)).trans hw177_0), ((HB.out.cell (World.block_lt_of_cell? w _ hw177_1)).trans hw177_1), ((HB.out.cell (World.block_lt_of_cell? w _ hw177_2)).trans hw177_2), ((HB.out.cell (World.block_lt_of_cell? w _ hw177_3)).trans hw177_3), ((HB.out.cell (World.block_lt_of_cell? w _ hw179_0)).trans hw179_0), ((HB.out.cell (World.block_lt_of_cell? w _ hw179_1)).trans hw179_1), ((HB.out.cell (World.block_lt_of_cell? w _ hw179_2)).trans hw179_2), ((HB.out.cell (World.block_lt_of_cell? w _ hw179_3)).trans hw179_3), ((HB.out.cell (World.block_lt_of_cell? w _ hw180_0)).trans hw180_0), ((HB.out.cell (World.block_lt_of_cell? w _ hw180_1)).trans hw180_1), ((HB.out.cell (World.block_lt_of_cell? w _ hw180_2)).trans hw180_2), ((HB.out.cell (World.block_lt_of_cell? w _ hw180_3)).trans hw180_3)⟩ (fun hHeld => ?_); refine with_tabW spec_l06OK.tab6 spec_l06OK.bits6 (fun HT_ HW_ => ?_)
             generalize wr.drew = w18 at BK176 HB hx177_0 hx177_1 hx177_2 hx177_3 hx179_0 hx179_1 hx179_2 hx179_3 hx180_0 hx180_1 hx180_2 hx180_3 hHeld ⊢
             refine pU_ ?_
             refine pUX_ 2 ?_
             refine tU_ ?_
             refine aU_ ?_
             refine pU_ ?_
             refine tU_ ?_
             refine oU_ (fun K hK => ?_)
             refine gU_ Try.func95 #[.agg #[.int .i64 ((rd_T64 l0_0 x3_2).f0), .int .i64 ((rd_T64 l0_0 x3_2).f1), .int .i64 ((rd_T64 l0_0 x3_2).f2), .string ((rd_T64 l0_0 x3_2).f3)]] ?_
             with_reducible refine (spec_l06Report.calls ((rd_T64 l0_0 x3_2).f0) ((rd_T64 l0_0 x3_2).f1) ((rd_T64 l0_0 x3_2).f2) ((rd_T64 l0_0 x3_2).f3) true _ A10.out).mono ?_
             rintro e w19 ⟨rfl, hb⟩
             refine ⟨_, rfl, ?_⟩
             replace BK176 := blkK_ BK176 hb
             replace HB := belB_ hb
             (try clear hb)
             refine hK.out _ _ ⟨(blk_cell BK176.out 0).trans rfl, (blk_cell BK176.out 1).trans rfl, ((HB.out.cell (World.block_lt_of_cell? w _ hw177_0)).trans hw177_0), ((HB.out.cell (World.block_lt_of_cell? w _ hw177_1)).trans hw177_1), ((HB.out.cell (World.block_lt_of_cell? w _ hw177_2)).trans hw177_2), ((HB.out.cell (World.block_lt_of_cell? w _ hw177_3)).trans hw177_3), ((HB.out.cell (World.block_lt_of_cell? w _ hw179_0)).trans hw179_0), ((HB.out.cell (World.block_lt_of_cell? w _ hw179_1)).trans hw179_1), ((HB.out.cell (World.block_lt_of_cell? w _ hw179_2)).trans hw179_2), ((HB.out.cell (World.block_lt_of_cell? w _ hw179_3)).trans hw179_3), ((HB.out.cell (World.block_lt_of_cell? w _ hw180_0)).trans hw180_0), ((HB.out.cell (World.block_lt_of_cell? w _ hw180_1)).trans hw180_1), ((HB.out.cell (World.block_lt_of_cell? w _ hw180_2)).trans hw180_2), ((HB.out.cell (World.block_lt_of_cell? w _ hw180_3)).trans hw180_3)⟩ (fun hHeld => ?_)
             clear hK K
             refine nU_ ?_
             iterate 6 refine pU_ ?_
             refine pUX_ 13 ?_
             refine pUX_ 17 ?_
             refine pUX_ 19 ?_
             refine pUX_ 20 ?_
             refine tU_ ?_
             refine aU_ ?_
             iterate 2 refine pU_ ?_
             refine tU_ ?_
             refine aU_ ?_
             refine tU_ ?_
             iterate 2 refine aU_ ?_
             iterate 2 refine pU_ ?_
             refine tU_ ?_
             iterate 2 refine pU_ ?_
             iterate 14 refine sU_ ?_
             iterate 3 refine pU_ ?_
             refine doneU_ ?_
             try go_wp2
             go_ret
             exact ⟨by first | rfl | (simp [errW_none, errW_some] <;> rfl) | (simp only [← hji13]; first | rfl | (simp [errW_none, errW_some] <;> rfl)) | (simp [*, errW_none, errW_some] <;> rfl), belE_⟩
            ·
             rw [if_neg c16] at H
             have c16b0 : decide (((rd_T64 l0_0 x3_2).f0) ≤ ((rd_T64 l0_0 (ji13)).f0)) = false := decide_eq_false c16
             clear c16
             by_cases c20 : ((rd_T64 l0_0 x3_2).f1) < ((rd_T64 l0_0 (ji13)).f1)
             ·
              rw [if_pos c20] at H
              have c20b0 : decide (((rd_T64 l0_0 x3_2).f1) < ((rd_T64 l0_0 (ji13)).f1)) = true := decide_eq_true c20
              clear c20
              obtain rfl := Option.some.inj H
              obtain ⟨hcz21_0, hcz21_1, hfz21_0, hfz21_1⟩ := cz2_ BK176
              try go_wp2
              replace BK176 := Aside0.mk (blk_drew BK176.out)
              replace HB := Aside0.mk (below_drew1 HB.out)
              have p177 : 0 ≤ (x3_2 : Int) := of_decide_eq_true (by first | (with_reducible assumption) | assumption)
              have q177 : x3_2 < (l0_0.length : Int) := of_decide_eq_true (by first | (with_reducible assumption) | assumption)
              obtain ⟨ad177, e177, hx177_0, hx177_1, hx177_2, hx177_3⟩ := at_T64 HR0_0.out x3_2 p177 q177
              have hw177_3 := hx177_3
              have hw177_2 := hx177_2
              have hw177_1 := hx177_1
              have hw177_0 := hx177_0
              cases e177
              replace hx177_0 := (HB.out.cell (World.block_lt_of_cell? w _ hx177_0)).trans hx177_0
              replace hx177_1 := (HB.out.cell (World.block_lt_of_cell? w _ hx177_1)).trans hx177_1
              replace hx177_2 := (HB.out.cell (World.block_lt_of_cell? w _ hx177_2)).trans hx177_2
              replace hx177_3 := (HB.out.cell (World.block_lt_of_cell? w _ hx177_3)).trans hx177_3
              replace p177 := eq_true p177
              replace q177 := eq_true q177
              have p179 : 0 ≤ (x3_2 : Int) := of_decide_eq_true (by first | (with_reducible assumption) | assumption)
              have q179 : x3_2 < (l0_0.length : Int) := of_decide_eq_true (by first | (with_reducible assumption) | assumption)
              obtain ⟨ad179, e179, hx179_0, hx179_1, hx179_2, hx179_3⟩ := at_T64 HR0_0.out x3_2 p179 q179
              have hw179_3 := hx179_3
              have hw179_2 := hx179_2
              have hw179_1 := hx179_1
              have hw179_0 := hx179_0
              obtain rfl : ad177 = ad179 := (by injection e179)
              replace hx179_0 := (HB.out.cell (World.block_lt_of_cell? w _ hx179_0)).trans hx179_0
              replace hx179_1 := (HB.out.cell (World.block_lt_of_cell? w _ hx179_1)).trans hx179_1
              replace hx179_2 := (HB.out.cell (World.block_lt_of_cell? w _ hx179_2)).trans hx179_2
              replace hx179_3 := (HB.out.cell (World.block_lt_of_cell? w _ hx179_3)).trans hx179_3
              replace p179 := eq_true p179
              replace q179 := eq_true q179
              have p180 : 0 ≤ ((ji13) : Int) := of_decide_eq_true (by first | (with_reducible assumption) | assumption)
              have q180 : (ji13) < (l0_0.length : Int) := of_decide_eq_true (by first | (with_reducible assumption) | assumption)
              obtain ⟨ad180, e180, hx180_0, hx180_1, hx180_2, hx180_3⟩ := at_T64 HR0_0.out (ji13) p180 q180
              have hw180_3 := hx180_3
              have hw180_2 := hx180_2
              have hw180_1 := hx180_1
              have hw180_0 := hx180_0
              obtain rfl : ad177 = ad180 := (by injection e180)
              replace hx180_0 := (HB.out.cell (World.block_lt_of_cell? w _ hx180_0)).trans hx180_0
              replace hx180_1 := (HB.out.cell (World.block_lt_of_cell? w _ hx180_1)).trans hx180_1
              replace hx180_2 := (HB.out.cell (World.block_lt_of_cell? w _ hx180_2)).trans hx180_2
              replace hx180_3 := (HB.out.cell (World.block_lt_of_cell? w _ hx180_3)).trans hx180_3
              replace p180 := eq_true p180
              replace q180 := eq_true q180
              have p181 : 0 ≤ (x3_2 : Int) := of_decide_eq_true (by first | (with_reducible assumption) | assumption)
              have q181 : x3_2 < (l0_0.length : Int) := of_decide_eq_true (by first | (with_reducible assumption) | assumption)
              obtain ⟨ad181, e181, hx181_0, hx181_1, hx181_2, hx181_3⟩ := at_T64 HR0_0.out x3_2 p181 q181
              have hw181_3 := hx181_3
              have hw181_2 := hx181_2
              have hw181_1 := hx181_1
              have hw181_0 := hx181_0
              obtain rfl : ad177 = ad181 := (by injection e181)
              replace hx181_0 := (HB.out.cell (World.block_lt_of_cell? w _ hx181_0)).trans hx181_0
              replace hx181_1 := (HB.out.cell (World.block_lt_of_cell? w _ hx181_1)).trans hx181_1
              replace hx181_2 := (HB.out.cell (World.block_lt_of_cell? w _ hx181_2)).trans hx181_2
              replace hx181_3 := (HB.out.cell (World.block_lt_of_cell? w _ hx181_3)).trans hx181_3
              replace p181 := eq_true p181
              replace q181 := eq_true q181
              have p182 : 0 ≤ ((ji13) : Int) := of_decide_eq_true (by first | (with_reducible assumption) | assumption)
              have q182 : (ji13) < (l0_0.length : Int) := of_decide_eq_true (by first | (with_reducible assumption) | assumption)
              obtain ⟨ad182, e182, hx182_0, hx182_1, hx182_2, hx182_3⟩ := at_T64 HR0_0.out (ji13) p182 q182
              have hw182_3 := hx182_3
              have hw182_2 := hx182_2
              have hw182_1 := hx182_1
              have hw182_0 := hx182_0
              obtain rfl : ad177 = ad182 := (by injection e182)
              replace hx182_0 := (HB.out.cell (World.block_lt_of_cell? w _ hx182_0)).trans hx182_0
              replace hx182_1 := (HB.out.cell (World.block_lt_of_cell? w _ hx182_1)).trans hx182_1
              replace hx182_2 := (HB.out.cell (World.block_lt_of_cell? w _ hx182_2)).trans hx182_2
              replace hx182_3 := (HB.out.cell (World.block_lt_of_cell? w _ hx182_3)).trans hx182_3
              replace p182 := eq_true p182
              replace q182 := eq_true q182
              refine startU_ (n := 43) (S := fun w' => w'.cell? ⟨gb176, 0, none⟩ = some (.slice (some ad177) l0_0.length c0_0) ∧ w'.cell? ⟨gb176, 1, none⟩ = some (.slice A0_1 l0_1.length c0_1) ∧ w'.cell? (ad177.add ((x3_2).toNat * 4)) = some (.int .i64 ((rd_T64 l0_0 x3_2).f0)) ∧ w'.cell? ⟨(ad177.add ((x3_2).toNat * 4)).block, (ad177.add ((x3_2).toNat * 4)).off + 1, none⟩ = some (.int .i64 ((rd_T64 l0_0 x3_2).f1)) ∧ w'.cell? ⟨(ad177.add ((x3_2).toNat * 4)).block, (ad177.add ((x3_2).toNat * 4)).off + 2, none⟩ = some (.int .i64 ((rd_T64 l0_0 x3_2).f2)) ∧ w'.cell? ⟨(ad177.add ((x3_2).toNat * 4)).block, (ad177.add ((x3_2).toNat * 4)).off + 3, none⟩ = some (.string ((rd_T64 l0_0 x3_2).f3)) ∧ w'.cell? (ad177.add ((x3_2).toNat * 4)) = some (.int .i64 ((rd_T64 l0_0 x3_2).f0)) ∧ w'.cell? ⟨(ad177.add ((x3_2).toNat * 4)).block, (ad177.add ((x3_2).toNat * 4)).off + 1, none⟩ = some (.int .i64 ((rd_T64 l0_0 x3_2).f1)) ∧ w'.cell? ⟨(ad177.add ((x3_2).toNat * 4)).block, (ad177.add ((x3_2).toNat * 4)).off + 2, none⟩ = some (.int .i64 ((rd_T64 l0_0 x3_2).f2)) ∧ w'.cell? ⟨(ad177.add ((x3_2).toNat * 4)).block, (ad177.add ((x3_2).toNat * 4)).off + 3, none⟩ = some (.string ((rd_T64 l0_0 x3_2).f3)) ∧ w'.cell? (ad177.add (((ji13)).toNat * 4)) = some (.int .i64 ((rd_T64 l0_0 (ji13)).f0)) ∧ w'.cell? ⟨(ad177.add (((ji13)).toNat * 4)).block, (ad177.add (((ji13)).toNat * 4)).off + 1, none⟩ = some (.int .i64 ((rd_T64 l0_0 (ji13)).f1)) ∧ w'.cell? ⟨(ad177.add (((ji13)).toNat * 4)).block, (ad177.add (((ji13)).toNat * 4)).off + 2, none⟩ = some (.int .i64 ((rd_T64 l0_0 (ji13)).f2)) ∧ w'.cell? ⟨(ad177.add (((ji13)).toNat * 4)).block, (ad177.add (((ji13)).toNat * 4)).off + 3, none⟩ = some (.string ((rd_T64 l0_0 (ji13)).f3)) ∧ w'.cell? (ad177.add ((x3_2).toNat * 4)) = some (.int .i64 ((rd_T64 l0_0 x3_2).f0)) ∧ w'.cell? ⟨(ad177.add ((x3_2).toNat * 4)).block, (ad177.add ((x3_2).toNat * 4)).off + 1, none⟩ = some (.int .i64 ((rd_T64 l0_0 x3_2).f1)) ∧ w'.cell? ⟨(ad177.add ((x3_2).toNat * 4)).block, (ad177.add ((x3_2).toNat * 4)).off + 2, none⟩ = some (.int .i64 ((rd_T64 l0_0 x3_2).f2)) ∧ w'.cell? ⟨(ad177.add ((x3_2).toNat * 4)).block, (ad177.add ((x3_2).toNat * 4)).off + 3, none⟩ = some (.string ((rd_T64 l0_0 x3_2).f3)) ∧ w'.cell? (ad177.add (((ji13)).toNat * 4)) = some (.int .i64 ((rd_T64 l0_0 (ji13)).f0)) ∧ w'.cell? ⟨(ad177.add (((ji13)).toNat * 4)).block, (ad177.add (((ji13)).toNat * 4)).off + 1, none⟩ = some (.int .i64 ((rd_T64 l0_0 (ji13)).f1)) ∧ w'.cell? ⟨(ad177.add (((ji13)).toNat * 4)).block, (ad177.add (((ji13)).toNat * 4)).off + 2, none⟩ = some (.int .i64 ((rd_T64 l0_0 (ji13)).f2)) ∧ w'.cell? ⟨(ad177.add (((ji13)).toNat * 4)).block, (ad177.add (((ji13)).toNat * 4)).off + 3, none⟩ = some (.string ((rd_T64 l0_0 (ji13)).f3))) (ds := []) ⟨(blk_cell BK176.out 0).trans rfl, (blk_cell BK176.out 1).trans rfl, ((HB.out.cell (World.block_lt_of_cell? w _ hw177_0)).trans hw177_0), ((HB.out.cell (World.block_lt_of_cell? w _ hw177_1)).trans hw177_1), ((HB.out.cell (World.block_lt_of_cell? w _ hw177_2)).trans hw177_2), ((HB.out.cell (World.block_lt_of_cell? w _ hw177_3)).trans hw177_3), ((HB.out.cell (World.block_lt_of_cell? w _ hw179_0)).trans hw179_0), ((HB.out.cell (World.block_lt_of_cell? w _ hw179_1)).trans hw179_1), ((HB.out.cell (World.block_lt_of_cell? w _ hw179_2)).trans hw179_2), ((HB.out.cell (World.block_lt_of_cell? w _ hw179_3)).trans hw179_3), ((HB.out.cell (World.block_lt_of_cell? w _ hw180_0)).trans hw180_0), ((HB.out.cell (World.block_lt_of_cell? w _ hw180_1)).trans hw180_1), ((HB.out.cell (World.block_lt_of_cell? w _ hw180_2)).trans hw180_2), ((HB.out.cell (World.block_lt_of_cell? w _ hw180_3)).trans hw180_3), ((HB.out.cell (World.block_lt_of_cell? w _ hw181_0)).trans hw181_0), ((HB.out.cell (World.block_lt_of_cell? w _ hw181_1)).trans hw181_1), ((HB.out.cell (World.block_lt_of_cell? w _ hw181_2)).trans hw181_2), ((HB.out.cell (World.block_lt_of_cell? w _ hw181_3)).trans hw181_3), ((HB.out.cell (World.block_lt_of_cell? w _ hw182_0)).trans hw182_0), ((HB.out.cell (World.block_lt_of_cell? w _ hw182_1)).trans hw182_1), ((HB.out.cell (World.block_lt_of_cell? w _ hw182_2)).trans hw182_2), ((HB.out.cell (World.block_lt_of_cell? w _ hw182_3)).trans hw182_3)⟩ (fun hHeld => ?_); refine with_tabW spec_l06OK.tab6 spec_l06OK.bits6 (fun HT_ HW_ => ?_)
              generalize wr.drew = w22 at BK176 HB hx177_0 hx177_1 hx177_2 hx177_3 hx179_0 hx179_1 hx179_2 hx179_3 hx180_0 hx180_1 hx180_2 hx180_3 hx181_0 hx181_1 hx181_2 hx181_3 hx182_0 hx182_1 hx182_2 hx182_3 hHeld ⊢
              refine pU_ ?_
              refine pUX_ 2 ?_
              refine tU_ ?_
              refine aU_ ?_
              refine pU_ ?_
              refine tU_ ?_
              refine oU_ (fun K hK => ?_)
              refine gU_ Try.func95 #[.agg #[.int .i64 ((rd_T64 l0_0 x3_2).f0), .int .i64 ((rd_T64 l0_0 x3_2).f1), .int .i64 ((rd_T64 l0_0 x3_2).f2), .string ((rd_T64 l0_0 x3_2).f3)]] ?_
              with_reducible refine (spec_l06Report.calls ((rd_T64 l0_0 x3_2).f0) ((rd_T64 l0_0 x3_2).f1) ((rd_T64 l0_0 x3_2).f2) ((rd_T64 l0_0 x3_2).f3) true _ A10.out).mono ?_
              rintro e w23 ⟨rfl, hb⟩
              refine ⟨_, rfl, ?_⟩
              replace BK176 := blkK_ BK176 hb
              replace HB := belB_ hb
              (try clear hb)
              refine hK.out _ _ ⟨(blk_cell BK176.out 0).trans rfl, (blk_cell BK176.out 1).trans rfl, ((HB.out.cell (World.block_lt_of_cell? w _ hw177_0)).trans hw177_0), ((HB.out.cell (World.block_lt_of_cell? w _ hw177_1)).trans hw177_1), ((HB.out.cell (World.block_lt_of_cell? w _ hw177_2)).trans hw177_2), ((HB.out.cell (World.block_lt_of_cell? w _ hw177_3)).trans hw177_3), ((HB.out.cell (World.block_lt_of_cell? w _ hw179_0)).trans hw179_0), ((HB.out.cell (World.block_lt_of_cell? w _ hw179_1)).trans hw179_1), ((HB.out.cell (World.block_lt_of_cell? w _ hw179_2)).trans hw179_2), ((HB.out.cell (World.block_lt_of_cell? w _ hw179_3)).trans hw179_3), ((HB.out.cell (World.block_lt_of_cell? w _ hw180_0)).trans hw180_0), ((HB.out.cell (World.block_lt_of_cell? w _ hw180_1)).trans hw180_1), ((HB.out.cell (World.block_lt_of_cell? w _ hw180_2)).trans hw180_2), ((HB.out.cell (World.block_lt_of_cell? w _ hw180_3)).trans hw180_3), ((HB.out.cell (World.block_lt_of_cell? w _ hw181_0)).trans hw181_0), ((HB.out.cell (World.block_lt_of_cell? w _ hw181_1)).trans hw181_1), ((HB.out.cell (World.block_lt_of_cell? w _ hw181_2)).trans hw181_2), ((HB.out.cell (World.block_lt_of_cell? w _ hw181_3)).trans hw181_3), ((HB.out.cell (World.block_lt_of_cell? w _ hw182_0)).trans hw182_0), ((HB.out.cell (World.block_lt_of_cell? w _ hw182_1)).trans hw182_1), ((HB.out.cell (World.block_lt_of_cell? w _ hw182_2)).trans hw182_2), ((HB.out.cell (World.block_lt_of_cell? w _ hw182_3)).trans hw182_3)⟩ (fun hHeld => ?_)
              clear hK K
              refine nU_ ?_
              iterate 6 refine pU_ ?_
              refine pUX_ 13 ?_
              refine pUX_ 17 ?_
              refine pUX_ 19 ?_
              refine pUX_ 20 ?_
              refine tU_ ?_
              refine aU_ ?_
              iterate 2 refine pU_ ?_
              refine tU_ ?_
              refine aU_ ?_
              refine tU_ ?_
              iterate 2 refine aU_ ?_
              iterate 2 refine pU_ ?_
              refine tU_ ?_
              iterate 3 refine pU_ ?_
              refine pUX_ 28 ?_
              refine pUX_ 32 ?_
              refine pUX_ 34 ?_
              refine pUX_ 35 ?_
              refine tU_ ?_
              refine aU_ ?_
              iterate 2 refine pU_ ?_
              refine tU_ ?_
              refine aU_ ?_
              refine tU_ ?_
              iterate 2 refine aU_ ?_
              iterate 2 refine pU_ ?_
              refine tU_ ?_
              iterate 4 refine pU_ ?_
              refine doneU_ ?_
              try go_wp2
              go_ret
              exact ⟨by first | rfl | (simp [errW_none, errW_some] <;> rfl) | (simp only [← hji13]; first | rfl | (simp [errW_none, errW_some] <;> rfl)) | (simp [*, errW_none, errW_some] <;> rfl), belE_⟩
             ·
              rw [if_neg c20] at H
              have c20b0 : decide (((rd_T64 l0_0 x3_2).f1) < ((rd_T64 l0_0 (ji13)).f1)) = false := decide_eq_false c20
              clear c20
              have H' := Aside0.mk H
              clear H
              obtain ⟨hcz24_0, hcz24_1, hfz24_0, hfz24_1⟩ := cz2_ BK176
              try go_wp2
              replace BK176 := Aside0.mk (blk_drew BK176.out)
              replace HB := Aside0.mk (below_drew1 HB.out)
              have p177 : 0 ≤ (x3_2 : Int) := of_decide_eq_true (by first | (with_reducible assumption) | assumption)
              have q177 : x3_2 < (l0_0.length : Int) := of_decide_eq_true (by first | (with_reducible assumption) | assumption)
              obtain ⟨ad177, e177, hx177_0, hx177_1, hx177_2, hx177_3⟩ := at_T64 HR0_0.out x3_2 p177 q177
              have hw177_3 := hx177_3
              have hw177_2 := hx177_2
              have hw177_1 := hx177_1
              have hw177_0 := hx177_0
              cases e177
              replace hx177_0 := (HB.out.cell (World.block_lt_of_cell? w _ hx177_0)).trans hx177_0
              replace hx177_1 := (HB.out.cell (World.block_lt_of_cell? w _ hx177_1)).trans hx177_1
              replace hx177_2 := (HB.out.cell (World.block_lt_of_cell? w _ hx177_2)).trans hx177_2
              replace hx177_3 := (HB.out.cell (World.block_lt_of_cell? w _ hx177_3)).trans hx177_3
              replace p177 := eq_true p177
              replace q177 := eq_true q177
              have p179 : 0 ≤ (x3_2 : Int) := of_decide_eq_true (by first | (with_reducible assumption) | assumption)
              have q179 : x3_2 < (l0_0.length : Int) := of_decide_eq_true (by first | (with_reducible assumption) | assumption)
              obtain ⟨ad179, e179, hx179_0, hx179_1, hx179_2, hx179_3⟩ := at_T64 HR0_0.out x3_2 p179 q179
              have hw179_3 := hx179_3
              have hw179_2 := hx179_2
              have hw179_1 := hx179_1
              have hw179_0 := hx179_0
              obtain rfl : ad177 = ad179 := (by injection e179)
              replace hx179_0 := (HB.out.cell (World.block_lt_of_cell? w _ hx179_0)).trans hx179_0
              replace hx179_1 := (HB.out.cell (World.block_lt_of_cell? w _ hx179_1)).trans hx179_1
              replace hx179_2 := (HB.out.cell (World.block_lt_of_cell? w _ hx179_2)).trans hx179_2
              replace hx179_3 := (HB.out.cell (World.block_lt_of_cell? w _ hx179_3)).trans hx179_3
              replace p179 := eq_true p179
              replace q179 := eq_true q179
              have p180 : 0 ≤ ((ji13) : Int) := of_decide_eq_true (by first | (with_reducible assumption) | assumption)
              have q180 : (ji13) < (l0_0.length : Int) := of_decide_eq_true (by first | (with_reducible assumption) | assumption)
              obtain ⟨ad180, e180, hx180_0, hx180_1, hx180_2, hx180_3⟩ := at_T64 HR0_0.out (ji13) p180 q180
              have hw180_3 := hx180_3
              have hw180_2 := hx180_2
              have hw180_1 := hx180_1
              have hw180_0 := hx180_0
              obtain rfl : ad177 = ad180 := (by injection e180)
              replace hx180_0 := (HB.out.cell (World.block_lt_of_cell? w _ hx180_0)).trans hx180_0
              replace hx180_1 := (HB.out.cell (World.block_lt_of_cell? w _ hx180_1)).trans hx180_1
              replace hx180_2 := (HB.out.cell (World.block_lt_of_cell? w _ hx180_2)).trans hx180_2
              replace hx180_3 := (HB.out.cell (World.block_lt_of_cell? w _ hx180_3)).trans hx180_3
              replace p180 := eq_true p180
              replace q180 := eq_true q180
              have p181 : 0 ≤ (x3_2 : Int) := of_decide_eq_true (by first | (with_reducible assumption) | assumption)
              have q181 : x3_2 < (l0_0.length : Int) := of_decide_eq_true (by first | (with_reducible assumption) | assumption)
              obtain ⟨ad181, e181, hx181_0, hx181_1, hx181_2, hx181_3⟩ := at_T64 HR0_0.out x3_2 p181 q181
              have hw181_3 := hx181_3
              have hw181_2 := hx181_2
              have hw181_1 := hx181_1
              have hw181_0 := hx181_0
              obtain rfl : ad177 = ad181 := (by injection e181)
              replace hx181_0 := (HB.out.cell (World.block_lt_of_cell? w _ hx181_0)).trans hx181_0
              replace hx181_1 := (HB.out.cell (World.block_lt_of_cell? w _ hx181_1)).trans hx181_1
              replace hx181_2 := (HB.out.cell (World.block_lt_of_cell? w _ hx181_2)).trans hx181_2
              replace hx181_3 := (HB.out.cell (World.block_lt_of_cell? w _ hx181_3)).trans hx181_3
              replace p181 := eq_true p181
              replace q181 := eq_true q181
              have p182 : 0 ≤ ((ji13) : Int) := of_decide_eq_true (by first | (with_reducible assumption) | assumption)
              have q182 : (ji13) < (l0_0.length : Int) := of_decide_eq_true (by first | (with_reducible assumption) | assumption)
              obtain ⟨ad182, e182, hx182_0, hx182_1, hx182_2, hx182_3⟩ := at_T64 HR0_0.out (ji13) p182 q182
              have hw182_3 := hx182_3
              have hw182_2 := hx182_2
              have hw182_1 := hx182_1
              have hw182_0 := hx182_0
              obtain rfl : ad177 = ad182 := (by injection e182)
              replace hx182_0 := (HB.out.cell (World.block_lt_of_cell? w _ hx182_0)).trans hx182_0
              replace hx182_1 := (HB.out.cell (World.block_lt_of_cell? w _ hx182_1)).trans hx182_1
              replace hx182_2 := (HB.out.cell (World.block_lt_of_cell? w _ hx182_2)).trans hx182_2
              replace hx182_3 := (HB.out.cell (World.block_lt_of_cell? w _ hx182_3)).trans hx182_3
              replace p182 := eq_true p182
              replace q182 := eq_true q182
              refine startU_ (n := 43) (S := fun w' => w'.cell? ⟨gb176, 0, none⟩ = some (.slice (some ad177) l0_0.length c0_0) ∧ w'.cell? ⟨gb176, 1, none⟩ = some (.slice A0_1 l0_1.length c0_1) ∧ w'.cell? (ad177.add ((x3_2).toNat * 4)) = some (.int .i64 ((rd_T64 l0_0 x3_2).f0)) ∧ w'.cell? ⟨(ad177.add ((x3_2).toNat * 4)).block, (ad177.add ((x3_2).toNat * 4)).off + 1, none⟩ = some (.int .i64 ((rd_T64 l0_0 x3_2).f1)) ∧ w'.cell? ⟨(ad177.add ((x3_2).toNat * 4)).block, (ad177.add ((x3_2).toNat * 4)).off + 2, none⟩ = some (.int .i64 ((rd_T64 l0_0 x3_2).f2)) ∧ w'.cell? ⟨(ad177.add ((x3_2).toNat * 4)).block, (ad177.add ((x3_2).toNat * 4)).off + 3, none⟩ = some (.string ((rd_T64 l0_0 x3_2).f3)) ∧ w'.cell? (ad177.add ((x3_2).toNat * 4)) = some (.int .i64 ((rd_T64 l0_0 x3_2).f0)) ∧ w'.cell? ⟨(ad177.add ((x3_2).toNat * 4)).block, (ad177.add ((x3_2).toNat * 4)).off + 1, none⟩ = some (.int .i64 ((rd_T64 l0_0 x3_2).f1)) ∧ w'.cell? ⟨(ad177.add ((x3_2).toNat * 4)).block, (ad177.add ((x3_2).toNat * 4)).off + 2, none⟩ = some (.int .i64 ((rd_T64 l0_0 x3_2).f2)) ∧ w'.cell? ⟨(ad177.add ((x3_2).toNat * 4)).block, (ad177.add ((x3_2).toNat * 4)).off + 3, none⟩ = some (.string ((rd_T64 l0_0 x3_2).f3)) ∧ w'.cell? (ad177.add (((ji13)).toNat * 4)) = some (.int .i64 ((rd_T64 l0_0 (ji13)).f0)) ∧ w'.cell? ⟨(ad177.add (((ji13)).toNat * 4)).block, (ad177.add (((ji13)).toNat * 4)).off + 1, none⟩ = some (.int .i64 ((rd_T64 l0_0 (ji13)).f1)) ∧ w'.cell? ⟨(ad177.add (((ji13)).toNat * 4)).block, (ad177.add (((ji13)).toNat * 4)).off + 2, none⟩ = some (.int .i64 ((rd_T64 l0_0 (ji13)).f2)) ∧ w'.cell? ⟨(ad177.add (((ji13)).toNat * 4)).block, (ad177.add (((ji13)).toNat * 4)).off + 3, none⟩ = some (.string ((rd_T64 l0_0 (ji13)).f3)) ∧ w'.cell? (ad177.add ((x3_2).toNat * 4)) = some (.int .i64 ((rd_T64 l0_0 x3_2).f0)) ∧ w'.cell? ⟨(ad177.add ((x3_2).toNat * 4)).block, (ad177.add ((x3_2).toNat * 4)).off + 1, none⟩ = some (.int .i64 ((rd_T64 l0_0 x3_2).f1)) ∧ w'.cell? ⟨(ad177.add ((x3_2).toNat * 4)).block, (ad177.add ((x3_2).toNat * 4)).off + 2, none⟩ = some (.int .i64 ((rd_T64 l0_0 x3_2).f2)) ∧ w'.cell? ⟨(ad177.add ((x3_2).toNat * 4)).block, (ad177.add ((x3_2).toNat * 4)).off + 3, none⟩ = some (.string ((rd_T64 l0_0 x3_2).f3)) ∧ w'.cell? (ad177.add (((ji13)).toNat * 4)) = some (.int .i64 ((rd_T64 l0_0 (ji13)).f0)) ∧ w'.cell? ⟨(ad177.add (((ji13)).toNat * 4)).block, (ad177.add (((ji13)).toNat * 4)).off + 1, none⟩ = some (.int .i64 ((rd_T64 l0_0 (ji13)).f1)) ∧ w'.cell? ⟨(ad177.add (((ji13)).toNat * 4)).block, (ad177.add (((ji13)).toNat * 4)).off + 2, none⟩ = some (.int .i64 ((rd_T64 l0_0 (ji13)).f2)) ∧ w'.cell? ⟨(ad177.add (((ji13)).toNat * 4)).block, (ad177.add (((ji13)).toNat * 4)).off + 3, none⟩ = some (.string ((rd_T64 l0_0 (ji13)).f3))) (ds := []) ⟨(blk_cell BK176.out 0).trans rfl, (blk_cell BK176.out 1).trans rfl, ((HB.out.cell (World.block_lt_of_cell? w _ hw177_0)).trans hw177_0), ((HB.out.cell (World.block_lt_of_cell? w _ hw177_1)).trans hw177_1), ((HB.out.cell (World.block_lt_of_cell? w _ hw177_2)).trans hw177_2), ((HB.out.cell (World.block_lt_of_cell? w _ hw177_3)).trans hw177_3), ((HB.out.cell (World.block_lt_of_cell? w _ hw179_0)).trans hw179_0), ((HB.out.cell (World.block_lt_of_cell? w _ hw179_1)).trans hw179_1), ((HB.out.cell (World.block_lt_of_cell? w _ hw179_2)).trans hw179_2), ((HB.out.cell (World.block_lt_of_cell? w _ hw179_3)).trans hw179_3), ((HB.out.cell (World.block_lt_of_cell? w _ hw180_0)).trans hw180_0), ((HB.out.cell (World.block_lt_of_cell? w _ hw180_1)).trans hw180_1), ((HB.out.cell (World.block_lt_of_cell? w _ hw180_2)).trans hw180_2), ((HB.out.cell (World.block_lt_of_cell? w _ hw180_3)).trans hw180_3), ((HB.out.cell (World.block_lt_of_cell? w _ hw181_0)).trans hw181_0), ((HB.out.cell (World.block_lt_of_cell? w _ hw181_1)).trans hw181_1), ((HB.out.cell (World.block_lt_of_cell? w _ hw181_2)).trans hw181_2), ((HB.out.cell (World.block_lt_of_cell? w _ hw181_3)).trans hw181_3), ((HB.out.cell (World.block_lt_of_cell? w _ hw182_0)).trans hw182_0), ((HB.out.cell (World.block_lt_of_cell? w _ hw182_1)).trans hw182_1), ((HB.out.cell (World.block_lt_of_cell? w _ hw182_2)).trans hw182_2), ((HB.out.cell (World.block_lt_of_cell? w _ hw182_3)).trans hw182_3)⟩ (fun hHeld => ?_); refine with_tabW spec_l06OK.tab6 spec_l06OK.bits6 (fun HT_ HW_ => ?_)
              generalize wr.drew = w25 at BK176 HB hx177_0 hx177_1 hx177_2 hx177_3 hx179_0 hx179_1 hx179_2 hx179_3 hx180_0 hx180_1 hx180_2 hx180_3 hx181_0 hx181_1 hx181_2 hx181_3 hx182_0 hx182_1 hx182_2 hx182_3 hHeld ⊢
              refine pU_ ?_
              refine pUX_ 2 ?_
              refine tU_ ?_
              refine aU_ ?_
              refine pU_ ?_
              refine tU_ ?_
              refine oU_ (fun K hK => ?_)
              refine gU_ Try.func95 #[.agg #[.int .i64 ((rd_T64 l0_0 x3_2).f0), .int .i64 ((rd_T64 l0_0 x3_2).f1), .int .i64 ((rd_T64 l0_0 x3_2).f2), .string ((rd_T64 l0_0 x3_2).f3)]] ?_
              with_reducible refine (spec_l06Report.calls ((rd_T64 l0_0 x3_2).f0) ((rd_T64 l0_0 x3_2).f1) ((rd_T64 l0_0 x3_2).f2) ((rd_T64 l0_0 x3_2).f3) true _ A10.out).mono ?_
              rintro e w26 ⟨rfl, hb⟩
              refine ⟨_, rfl, ?_⟩
              replace BK176 := blkK_ BK176 hb
              replace HB := belB_ hb
              (try clear hb)
              refine hK.out _ _ ⟨(blk_cell BK176.out 0).trans rfl, (blk_cell BK176.out 1).trans rfl, ((HB.out.cell (World.block_lt_of_cell? w _ hw177_0)).trans hw177_0), ((HB.out.cell (World.block_lt_of_cell? w _ hw177_1)).trans hw177_1), ((HB.out.cell (World.block_lt_of_cell? w _ hw177_2)).trans hw177_2), ((HB.out.cell (World.block_lt_of_cell? w _ hw177_3)).trans hw177_3), ((HB.out.cell (World.block_lt_of_cell? w _ hw179_0)).trans hw179_0), ((HB.out.cell (World.block_lt_of_cell? w _ hw179_1)).trans hw179_1), ((HB.out.cell (World.block_lt_of_cell? w _ hw179_2)).trans hw179_2), ((HB.out.cell (World.block_lt_of_cell? w _ hw179_3)).trans hw179_3), ((HB.out.cell (World.block_lt_of_cell? w _ hw180_0)).trans hw180_0), ((HB.out.cell (World.block_lt_of_cell? w _ hw180_1)).trans hw180_1), ((HB.out.cell (World.block_lt_of_cell? w _ hw180_2)).trans hw180_2), ((HB.out.cell (World.block_lt_of_cell? w _ hw180_3)).trans hw180_3), ((HB.out.cell (World.block_lt_of_cell? w _ hw181_0)).trans hw181_0), ((HB.out.cell (World.block_lt_of_cell? w _ hw181_1)).trans hw181_1), ((HB.out.cell (World.block_lt_of_cell? w _ hw181_2)).trans hw181_2), ((HB.out.cell (World.block_lt_of_cell? w _ hw181_3)).trans hw181_3), ((HB.out.cell (World.block_lt_of_cell? w _ hw182_0)).trans hw182_0), ((HB.out.cell (World.block_lt_of_cell? w _ hw182_1)).trans hw182_1), ((HB.out.cell (World.block_lt_of_cell? w _ hw182_2)).trans hw182_2), ((HB.out.cell (World.block_lt_of_cell? w _ hw182_3)).trans hw182_3)⟩ (fun hHeld => ?_)
              clear hK K
              refine nU_ ?_
              iterate 6 refine pU_ ?_
              refine pUX_ 13 ?_
              refine pUX_ 17 ?_
              refine pUX_ 19 ?_
              refine pUX_ 20 ?_
              refine tU_ ?_
              refine aU_ ?_
              iterate 2 refine pU_ ?_
              refine tU_ ?_
              refine aU_ ?_
              refine tU_ ?_
              iterate 2 refine aU_ ?_
              iterate 2 refine pU_ ?_
              refine tU_ ?_
              iterate 3 refine pU_ ?_
              refine pUX_ 28 ?_
              refine pUX_ 32 ?_
              refine pUX_ 34 ?_
              refine pUX_ 35 ?_
              refine tU_ ?_
              refine aU_ ?_
              iterate 2 refine pU_ ?_
              refine tU_ ?_
              refine aU_ ?_
              refine tU_ ?_
              iterate 2 refine aU_ ?_
              iterate 2 refine pU_ ?_
              refine tU_ ?_
              iterate 4 refine pU_ ?_
              refine doneU_ ?_
              try go_wp2
              go_roundg k2
              case measure => have := HJ1.out; have := HK2.out; omega
              case rel => exact ⟨(wrap64 (x3_2 + 1)), eqE_, H', ⟨by have := HJ1.out; have := HK2.out; omega⟩, ⟨blkE_⟩, ⟨belE_⟩⟩
           ·
            rw [if_neg c15] at H
            exact absurd H (by simp)
          ·
           rw [if_neg c14] at H
           exact absurd H (by simp)
         ·
          rw [if_neg c12] at H
          have c12b0 : decide (0 < x3_2) = false := decide_eq_false c12
          clear c12
          have H' := Aside0.mk H
          clear H
          obtain ⟨hcz27_0, hcz27_1, hfz27_0, hfz27_1⟩ := cz2_ BK176
          try go_wp2
          replace BK176 := Aside0.mk (blk_drew BK176.out)
          replace HB := Aside0.mk (below_drew1 HB.out)
          have p177 : 0 ≤ (x3_2 : Int) := of_decide_eq_true (by first | (with_reducible assumption) | assumption)
          have q177 : x3_2 < (l0_0.length : Int) := of_decide_eq_true (by first | (with_reducible assumption) | assumption)
          obtain ⟨ad177, e177, hx177_0, hx177_1, hx177_2, hx177_3⟩ := at_T64 HR0_0.out x3_2 p177 q177
          have hw177_3 := hx177_3
          have hw177_2 := hx177_2
          have hw177_1 := hx177_1
          have hw177_0 := hx177_0
          cases e177
          replace hx177_0 := (HB.out.cell (World.block_lt_of_cell? w _ hx177_0)).trans hx177_0
          replace hx177_1 := (HB.out.cell (World.block_lt_of_cell? w _ hx177_1)).trans hx177_1
          replace hx177_2 := (HB.out.cell (World.block_lt_of_cell? w _ hx177_2)).trans hx177_2
          replace hx177_3 := (HB.out.cell (World.block_lt_of_cell? w _ hx177_3)).trans hx177_3
          replace p177 := eq_true p177
          replace q177 := eq_true q177
          refine startU_ (n := 43) (S := fun w' => w'.cell? ⟨gb176, 0, none⟩ = some (.slice (some ad177) l0_0.length c0_0) ∧ w'.cell? ⟨gb176, 1, none⟩ = some (.slice A0_1 l0_1.length c0_1) ∧ w'.cell? (ad177.add ((x3_2).toNat * 4)) = some (.int .i64 ((rd_T64 l0_0 x3_2).f0)) ∧ w'.cell? ⟨(ad177.add ((x3_2).toNat * 4)).block, (ad177.add ((x3_2).toNat * 4)).off + 1, none⟩ = some (.int .i64 ((rd_T64 l0_0 x3_2).f1)) ∧ w'.cell? ⟨(ad177.add ((x3_2).toNat * 4)).block, (ad177.add ((x3_2).toNat * 4)).off + 2, none⟩ = some (.int .i64 ((rd_T64 l0_0 x3_2).f2)) ∧ w'.cell? ⟨(ad177.add ((x3_2).toNat * 4)).block, (ad177.add ((x3_2).toNat * 4)).off + 3, none⟩ = some (.string ((rd_T64 l0_0 x3_2).f3))) (ds := []) ⟨(blk_cell BK176.out 0).trans rfl, (blk_cell BK176.out 1).trans rfl, ((HB.out.cell (World.block_lt_of_cell? w _ hw177_0)).trans hw177_0), ((HB.out.cell (World.block_lt_of_cell? w _ hw177_1)).trans hw177_1), ((HB.out.cell (World.block_lt_of_cell? w _ hw177_2)).trans hw177_2), ((HB.out.cell (World.block_lt_of_cell? w _ hw177_3)).trans hw177_3)⟩ (fun hHeld => ?_); refine with_tabW spec_l06OK.tab6 spec_l06OK.bits6 (fun HT_ HW_ => ?_)
          generalize wr.drew = w28 at BK176 HB hx177_0 hx177_1 hx177_2 hx177_3 hHeld ⊢
          refine pU_ ?_
          refine pUX_ 2 ?_
          refine tU_ ?_
          refine aU_ ?_
          refine pU_ ?_
          refine tU_ ?_
          refine oU_ (fun K hK => ?_)
          refine gU_ Try.func95 #[.agg #[.int .i64 ((rd_T64 l0_0 x3_2).f0), .int .i64 ((rd_T64 l0_0 x3_2).f1), .int .i64 ((rd_T64 l0_0 x3_2).f2), .string ((rd_T64 l0_0 x3_2).f3)]] ?_
          with_reducible refine (spec_l06Report.calls ((rd_T64 l0_0 x3_2).f0) ((rd_T64 l0_0 x3_2).f1) ((rd_T64 l0_0 x3_2).f2) ((rd_T64 l0_0 x3_2).f3) true _ A10.out).mono ?_
          rintro e w29 ⟨rfl, hb⟩
          refine ⟨_, rfl, ?_⟩
          replace BK176 := blkK_ BK176 hb
          replace HB := belB_ hb
          (try clear hb)
          refine hK.out _ _ ⟨(blk_cell BK176.out 0).trans rfl, (blk_cell BK176.out 1).trans rfl, ((HB.out.cell (World.block_lt_of_cell? w _ hw177_0)).trans hw177_0), ((HB.out.cell (World.block_lt_of_cell? w _ hw177_1)).trans hw177_1), ((HB.out.cell (World.block_lt_of_cell? w _ hw177_2)).trans hw177_2), ((HB.out.cell (World.block_lt_of_cell? w _ hw177_3)).trans hw177_3)⟩ (fun hHeld => ?_)
          clear hK K
          refine nU_ ?_
          iterate 5 refine pU_ ?_
          iterate 30 refine sU_ ?_
          iterate 2 refine pU_ ?_
          refine doneU_ ?_
          try go_wp2
          go_roundg k2
          case measure => have := HJ1.out; have := HK2.out; omega
          case rel => exact ⟨(wrap64 (x3_2 + 1)), eqE_, H', ⟨by have := HJ1.out; have := HK2.out; omega⟩, ⟨blkE_⟩, ⟨belE_⟩⟩
        ·
         replace c11 := Bool.eq_false_iff.mpr c11
         subst c11
         replace H := ifF_ H
         obtain rfl := Option.some.inj H
         obtain ⟨hcz30_0, hcz30_1, hfz30_0, hfz30_1⟩ := cz2_ BK176
         try go_wp2
         replace BK176 := Aside0.mk (blk_drew BK176.out)
         replace HB := Aside0.mk (below_drew1 HB.out)
         have p177 : 0 ≤ (x3_2 : Int) := of_decide_eq_true (by first | (with_reducible assumption) | assumption)
         have q177 : x3_2 < (l0_0.length : Int) := of_decide_eq_true (by first | (with_reducible assumption) | assumption)
         obtain ⟨ad177, e177, hx177_0, hx177_1, hx177_2, hx177_3⟩ := at_T64 HR0_0.out x3_2 p177 q177
         have hw177_3 := hx177_3
         have hw177_2 := hx177_2
         have hw177_1 := hx177_1
         have hw177_0 := hx177_0
         cases e177
         replace hx177_0 := (HB.out.cell (World.block_lt_of_cell? w _ hx177_0)).trans hx177_0
         replace hx177_1 := (HB.out.cell (World.block_lt_of_cell? w _ hx177_1)).trans hx177_1
         replace hx177_2 := (HB.out.cell (World.block_lt_of_cell? w _ hx177_2)).trans hx177_2
         replace hx177_3 := (HB.out.cell (World.block_lt_of_cell? w _ hx177_3)).trans hx177_3
         replace p177 := eq_true p177
         replace q177 := eq_true q177
         refine startU_ (n := 43) (S := fun w' => w'.cell? ⟨gb176, 0, none⟩ = some (.slice (some ad177) l0_0.length c0_0) ∧ w'.cell? ⟨gb176, 1, none⟩ = some (.slice A0_1 l0_1.length c0_1) ∧ w'.cell? (ad177.add ((x3_2).toNat * 4)) = some (.int .i64 ((rd_T64 l0_0 x3_2).f0)) ∧ w'.cell? ⟨(ad177.add ((x3_2).toNat * 4)).block, (ad177.add ((x3_2).toNat * 4)).off + 1, none⟩ = some (.int .i64 ((rd_T64 l0_0 x3_2).f1)) ∧ w'.cell? ⟨(ad177.add ((x3_2).toNat * 4)).block, (ad177.add ((x3_2).toNat * 4)).off + 2, none⟩ = some (.int .i64 ((rd_T64 l0_0 x3_2).f2)) ∧ w'.cell? ⟨(ad177.add ((x3_2).toNat * 4)).block, (ad177.add ((x3_2).toNat * 4)).off + 3, none⟩ = some (.string ((rd_T64 l0_0 x3_2).f3))) (ds := []) ⟨(blk_cell BK176.out 0).trans rfl, (blk_cell BK176.out 1).trans rfl, ((HB.out.cell (World.block_lt_of_cell? w _ hw177_0)).trans hw177_0), ((HB.out.cell (World.block_lt_of_cell? w _ hw177_1)).trans hw177_1), ((HB.out.cell (World.block_lt_of_cell? w _ hw177_2)).trans hw177_2), ((HB.out.cell (World.block_lt_of_cell? w _ hw177_3)).trans hw177_3)⟩ (fun hHeld => ?_); refine with_tabW spec_l06OK.tab6 spec_l06OK.bits6 (fun HT_ HW_ => ?_)
         generalize wr.drew = w31 at BK176 HB hx177_0 hx177_1 hx177_2 hx177_3 hHeld ⊢
         refine pU_ ?_
         refine pUX_ 2 ?_
         refine tU_ ?_
         refine aU_ ?_
         refine pU_ ?_
         refine tU_ ?_
         refine oU_ (fun K hK => ?_)
         refine gU_ Try.func95 #[.agg #[.int .i64 ((rd_T64 l0_0 x3_2).f0), .int .i64 ((rd_T64 l0_0 x3_2).f1), .int .i64 ((rd_T64 l0_0 x3_2).f2), .string ((rd_T64 l0_0 x3_2).f3)]] ?_
         with_reducible refine (spec_l06Report.calls ((rd_T64 l0_0 x3_2).f0) ((rd_T64 l0_0 x3_2).f1) ((rd_T64 l0_0 x3_2).f2) ((rd_T64 l0_0 x3_2).f3) false _ A10.out).mono ?_
         rintro e w32 ⟨rfl, hb⟩
         refine ⟨_, rfl, ?_⟩
         replace BK176 := blkK_ BK176 hb
         replace HB := belB_ hb
         (try clear hb)
         refine hK.out _ _ ⟨(blk_cell BK176.out 0).trans rfl, (blk_cell BK176.out 1).trans rfl, ((HB.out.cell (World.block_lt_of_cell? w _ hw177_0)).trans hw177_0), ((HB.out.cell (World.block_lt_of_cell? w _ hw177_1)).trans hw177_1), ((HB.out.cell (World.block_lt_of_cell? w _ hw177_2)).trans hw177_2), ((HB.out.cell (World.block_lt_of_cell? w _ hw177_3)).trans hw177_3)⟩ (fun hHeld => ?_)
         clear hK K
         refine nU_ ?_
         iterate 2 refine pU_ ?_
         iterate 34 refine sU_ ?_
         refine pU_ ?_
         refine doneU_ ?_
         try go_wp2
         go_ret
         exact ⟨retE_, belE_⟩
       ·
        rw [if_neg c9] at H
        exact absurd H (by simp)
      ·
       rw [if_neg c8] at H
       have c8b0 : decide (x3_2 < (l0_0.length : Int)) = false := decide_eq_false c8
       clear c8
       have H' := Aside0.mk H
       clear H
       obtain ⟨hcz33_0, hcz33_1, hfz33_0, hfz33_1⟩ := cz2_ BK176
       go_wp2
       go_loopg [4] k2 (fun kq v4 w' => ∃ (x4_3 : Int), v4 = .int .i64 x4_3 ∧ Aside0 (spec_l06OK.l1 kq x4_3 l0_0 l0_1 = some r) ∧ Aside0 (kq ≤ k2) ∧ Aside0 (w'.heap[gb176]? = some (.cells #[(.slice A0_0 l0_0.length c0_0), (.slice A0_1 l0_1.length c0_1)] 49 (0, 0))) ∧ Aside0 (Below w.heap.size w w'))
       case atStart => exact ⟨(0), eqE_, H', ⟨Nat.le_refl _⟩, ⟨blkE_⟩, ⟨belE_⟩⟩
       case round =>
        clear H'
        try clear c8
        try clear c8b0
        try clear c9
        try clear c11
        try clear c12
        try clear c12b0
        try clear c14
        try clear c15
        try clear hcz27_0 hcz27_1
        try clear hcz30_0 hcz30_1
        try clear hcz33_0 hcz33_1
        try clear hfz27_0 hfz27_1
        try clear hfz30_0 hfz30_1
        try clear hfz33_0 hfz33_1
        try clear hx177_0
        try clear hx177_1
        try clear hx177_2
        try clear hx177_3
        try clear p177
        try clear q177
        obtain ⟨x4_3, rfl, HA, HK3, BK176, HB⟩ := hrel
        cases gk with
        | zero => exact absurd HA.out (by simp [spec_l06OK.l1])
        | succ k3 =>
         have H := HA.out
         clear HA
         simp only [spec_l06OK.l1] at H
         by_cases c34 : x4_3 < (l0_1.length : Int)
         ·
          rw [if_pos c34] at H
          have c34b0 : decide (x4_3 < (l0_1.length : Int)) = true := decide_eq_true c34
          clear c34
          by_cases c35 : 0 ≤ x4_3
          ·
           rw [if_pos c35] at H
           have c35b0 : decide (0 ≤ x4_3) = true := decide_eq_true c35
           clear c35
           obtain ⟨t184, A36, H⟩ := bindE_ H
           by_cases c37 : t184 = true
           ·
            subst c37
            replace H := ifT_ H
            have c38b0 := eq_true (of_decide_eq_true (by first | (with_reducible assumption) | assumption) : 0 ≤ x4_3)
            by_cases c39 : x4_3 ≤ (l0_1.length : Int)
            ·
             rw [if_pos c39] at H
             have c39b0 := eq_true c39
             have c39b1 : decide (x4_3 ≤ (l0_1.length : Int)) = true := decide_eq_true c39
             clear c39
             obtain ⟨t187, A40, H⟩ := bindE_ H
             by_cases c41 : t187 = true
             ·
              subst c41
              replace H := ifT_ H
              obtain rfl := Option.some.inj H
              obtain ⟨hcz42_0, hcz42_1, hfz42_0, hfz42_1⟩ := cz2_ BK176
              try go_wp2
              replace BK176 := Aside0.mk (blk_drew BK176.out)
              replace HB := Aside0.mk (below_drew1 HB.out)
              have p183 : 0 ≤ (x4_3 : Int) := of_decide_eq_true (by first | (with_reducible assumption) | assumption)
              have q183 : x4_3 < (l0_1.length : Int) := of_decide_eq_true (by first | (with_reducible assumption) | assumption)
              obtain ⟨ad183, e183, hx183_0⟩ := Kd.at_string HR0_1.out x4_3 p183 q183
              have hw183_0 := hx183_0
              cases e183
              replace hx183_0 := (HB.out.cell (World.block_lt_of_cell? w _ hx183_0)).trans hx183_0
              replace p183 := eq_true p183
              replace q183 := eq_true q183
              have p186 : 0 ≤ (x4_3 : Int) := of_decide_eq_true (by first | (with_reducible assumption) | assumption)
              have q186 : x4_3 < (l0_1.length : Int) := of_decide_eq_true (by first | (with_reducible assumption) | assumption)
              obtain ⟨ad186, e186, hx186_0⟩ := Kd.at_string HR0_1.out x4_3 p186 q186
              have hw186_0 := hx186_0
              obtain rfl : ad183 = ad186 := (by injection e186)
              replace hx186_0 := (HB.out.cell (World.block_lt_of_cell? w _ hx186_0)).trans hx186_0
              replace p186 := eq_true p186
              replace q186 := eq_true q186
              refine startU_ (n := 20) (S := fun w' => w'.cell? ⟨gb176, 0, none⟩ = some (.slice A0_0 l0_0.length c0_0) ∧ w'.cell? ⟨gb176, 1, none⟩ = some (.slice (some ad183) l0_1.length c0_1) ∧ w'.cell? (ad183.add (x4_3).toNat) = some (.string (rdOf ByteArray.empty l0_1 x4_3)) ∧ w'.cell? (ad183.add (x4_3).toNat) = some (.string (rdOf ByteArray.empty l0_1 x4_3))) (ds := []) ⟨(blk_cell BK176.out 0).trans rfl, (blk_cell BK176.out 1).trans rfl, ((HB.out.cell (World.block_lt_of_cell? w _ hw183_0)).trans hw183_0), ((HB.out.cell (World.block_lt_of_cell? w _ hw186_0)).trans hw186_0)⟩ (fun hHeld => ?_); refine with_tabW spec_l06OK.tab11 spec_l06OK.bits11 (fun HT_ HW_ => ?_)
              generalize wr.drew = w43 at BK176 HB hx183_0 hx186_0 hHeld ⊢
              refine pU_ ?_
              refine pUX_ 2 ?_
              refine tU_ ?_
              refine aU_ ?_
              refine pU_ ?_
              refine tU_ ?_
              refine pU_ ?_
              refine oU_ (fun K hK => ?_)
              refine gU_ Try.func101 #[.int .i64 ((rdOf ByteArray.empty l0_1 x4_3).size : Int), .int .i64 1, .int .i64 8000] ?_
              with_reducible refine (spec_l01In.calls ((rdOf ByteArray.empty l0_1 x4_3).size : Int) 1 8000 true _ A36.out).mono ?_
              rintro e w' ⟨rfl, ⟨nd, rfl⟩⟩
              refine ⟨_, rfl, ?_⟩
              obtain ⟨i044, hi044, _, hsz44, _⟩ := info_parts info9
              obtain ⟨hcut44, hA44, hC44⟩ := print_take_of (P := Try.prog) Value.string (⟨#[]⟩ : ByteArray) 34 9 .i64 Try.underlying34 hi044 hsz44 (some ad183) c0_1 l0_1 x4_3 (of_decide_eq_true (by first | (with_reducible assumption) | assumption)) (of_decide_eq_true (by first | (with_reducible assumption) | assumption)) HC0_1.out
              have HR185 := Aside0.mk (Kd.C_of_reads (h1 := fun _ => rfl) (hA44 _ (Kd.reads_of_C HR0_1.out)))
              have HC185 := Aside0.mk hC44
              clear hA44 hC44 hi044 hsz44
              refine hK.out _ _ ⟨(blk_cell BK176.out 0).trans rfl, (blk_cell BK176.out 1).trans rfl, ((HB.out.cell (World.block_lt_of_cell? w _ hw183_0)).trans hw183_0), ((HB.out.cell (World.block_lt_of_cell? w _ hw186_0)).trans hw186_0)⟩ (fun hHeld => ?_)
              clear hK K
              refine nU_ ?_
              iterate 3 refine pU_ ?_
              refine pUX_ 11 ?_
              refine pUX_ 13 ?_
              refine pUX_ 15 ?_
              refine tU_ ?_
              refine aU_ ?_
              refine pU_ ?_
              refine aU_ ?_
              refine tU_ ?_
              refine aU_ ?_
              refine pU_ ?_
              refine tU_ ?_
              refine oU_ (fun K hK => ?_)
              refine goes_ Try.func128 (by kernel_rfl) rfl #[.slice (some ad183) (l0_1.take (x4_3 : Int).toNat).length c0_1, .string (rdOf ByteArray.empty l0_1 x4_3)] (by rfl) rfl rfl (by (try simp only [List.map_toArray, List.map_cons, List.map_nil]); first | done | (rw [show (l0_1.take (x4_3 : Int).toNat).length = x4_3.toNat from (by rw [List.length_take]; have h_ : (x4_3 : Int) ≤ (l0_1.length : Int) := of_decide_eq_true (by first | (with_reducible assumption) | assumption); omega)] <;> rfl) | rfl | (simp only [List.length_drop, List.length_take]; rfl)) ?_
              with_reducible refine (spec_l01Has.calls k3 _ _ (l0_1.take (x4_3 : Int).toNat) (rdOf ByteArray.empty l0_1 x4_3) true _ ?side1 ?side2 A40.out).mono ?_
              (case side1 => repeat (first | exact (Kd.C_below HR185.out (by repeat (first | (with_reducible first | exact HB.out | apply below_alloc | apply pw_below_drewN | apply below_drew1 | refine below_set ?_ GE176.out) | exact HB.out))) | (with_reducible refine Kd.C_alloc ?_ _) | (with_reducible refine Kd.C_drewN ?_ _) | (with_reducible refine Kd.C_drew ?_)))
              (case side2 => exact HC185.out)
              rintro e w' ⟨rfl, ⟨nd, rfl⟩⟩
              refine ⟨_, rfl, ?_⟩
              refine hK.out _ _ ⟨(blk_cell BK176.out 0).trans rfl, (blk_cell BK176.out 1).trans rfl, ((HB.out.cell (World.block_lt_of_cell? w _ hw183_0)).trans hw183_0), ((HB.out.cell (World.block_lt_of_cell? w _ hw186_0)).trans hw186_0)⟩ (fun hHeld => ?_)
              clear hK K
              refine nU_ ?_
              refine pU_ ?_
              refine doneU_ ?_
              try go_wp2
              go_ret
              exact ⟨retE_, belE_⟩
             ·
              replace c41 := Bool.eq_false_iff.mpr c41
              subst c41
              replace H := ifF_ H
              have H' := Aside0.mk H
              clear H
              obtain ⟨hcz45_0, hcz45_1, hfz45_0, hfz45_1⟩ := cz2_ BK176
              try go_wp2
              replace BK176 := Aside0.mk (blk_drew BK176.out)
              replace HB := Aside0.mk (below_drew1 HB.out)
              have p183 : 0 ≤ (x4_3 : Int) := of_decide_eq_true (by first | (with_reducible assumption) | assumption)
              have q183 : x4_3 < (l0_1.length : Int) := of_decide_eq_true (by first | (with_reducible assumption) | assumption)
              obtain ⟨ad183, e183, hx183_0⟩ := Kd.at_string HR0_1.out x4_3 p183 q183
              have hw183_0 := hx183_0
              cases e183
              replace hx183_0 := (HB.out.cell (World.block_lt_of_cell? w _ hx183_0)).trans hx183_0
              replace p183 := eq_true p183
              replace q183 := eq_true q183
              have p186 : 0 ≤ (x4_3 : Int) := of_decide_eq_true (by first | (with_reducible assumption) | assumption)
              have q186 : x4_3 < (l0_1.length : Int) := of_decide_eq_true (by first | (with_reducible assumption) | assumption)
              obtain ⟨ad186, e186, hx186_0⟩ := Kd.at_string HR0_1.out x4_3 p186 q186
              have hw186_0 := hx186_0
              obtain rfl : ad183 = ad186 := (by injection e186)
              replace hx186_0 := (HB.out.cell (World.block_lt_of_cell? w _ hx186_0)).trans hx186_0
              replace p186 := eq_true p186
              replace q186 := eq_true q186
              refine startU_ (n := 20) (S := fun w' => w'.cell? ⟨gb176, 0, none⟩ = some (.slice A0_0 l0_0.length c0_0) ∧ w'.cell? ⟨gb176, 1, none⟩ = some (.slice (some ad183) l0_1.length c0_1) ∧ w'.cell? (ad183.add (x4_3).toNat) = some (.string (rdOf ByteArray.empty l0_1 x4_3)) ∧ w'.cell? (ad183.add (x4_3).toNat) = some (.string (rdOf ByteArray.empty l0_1 x4_3))) (ds := []) ⟨(blk_cell BK176.out 0).trans rfl, (blk_cell BK176.out 1).trans rfl, ((HB.out.cell (World.block_lt_of_cell? w _ hw183_0)).trans hw183_0), ((HB.out.cell (World.block_lt_of_cell? w _ hw186_0)).trans hw186_0)⟩ (fun hHeld => ?_); refine with_tabW spec_l06OK.tab11 spec_l06OK.bits11 (fun HT_ HW_ => ?_)
              generalize wr.drew = w46 at BK176 HB hx183_0 hx186_0 hHeld ⊢
              refine pU_ ?_
              refine pUX_ 2 ?_
              refine tU_ ?_
              refine aU_ ?_
              refine pU_ ?_
              refine tU_ ?_
              refine pU_ ?_
              refine oU_ (fun K hK => ?_)
              refine gU_ Try.func101 #[.int .i64 ((rdOf ByteArray.empty l0_1 x4_3).size : Int), .int .i64 1, .int .i64 8000] ?_
              with_reducible refine (spec_l01In.calls ((rdOf ByteArray.empty l0_1 x4_3).size : Int) 1 8000 true _ A36.out).mono ?_
              rintro e w' ⟨rfl, ⟨nd, rfl⟩⟩
              refine ⟨_, rfl, ?_⟩
              obtain ⟨i047, hi047, _, hsz47, _⟩ := info_parts info9
              obtain ⟨hcut47, hA47, hC47⟩ := print_take_of (P := Try.prog) Value.string (⟨#[]⟩ : ByteArray) 34 9 .i64 Try.underlying34 hi047 hsz47 (some ad183) c0_1 l0_1 x4_3 (of_decide_eq_true (by first | (with_reducible assumption) | assumption)) (of_decide_eq_true (by first | (with_reducible assumption) | assumption)) HC0_1.out
              have HR185 := Aside0.mk (Kd.C_of_reads (h1 := fun _ => rfl) (hA47 _ (Kd.reads_of_C HR0_1.out)))
              have HC185 := Aside0.mk hC47
              clear hA47 hC47 hi047 hsz47
              refine hK.out _ _ ⟨(blk_cell BK176.out 0).trans rfl, (blk_cell BK176.out 1).trans rfl, ((HB.out.cell (World.block_lt_of_cell? w _ hw183_0)).trans hw183_0), ((HB.out.cell (World.block_lt_of_cell? w _ hw186_0)).trans hw186_0)⟩ (fun hHeld => ?_)
              clear hK K
              refine nU_ ?_
              iterate 3 refine pU_ ?_
              refine pUX_ 11 ?_
              refine pUX_ 13 ?_
              refine pUX_ 15 ?_
              refine tU_ ?_
              refine aU_ ?_
              refine pU_ ?_
              refine aU_ ?_
              refine tU_ ?_
              refine aU_ ?_
              refine pU_ ?_
              refine tU_ ?_
              refine oU_ (fun K hK => ?_)
              refine goes_ Try.func128 (by kernel_rfl) rfl #[.slice (some ad183) (l0_1.take (x4_3 : Int).toNat).length c0_1, .string (rdOf ByteArray.empty l0_1 x4_3)] (by rfl) rfl rfl (by (try simp only [List.map_toArray, List.map_cons, List.map_nil]); first | done | (rw [show (l0_1.take (x4_3 : Int).toNat).length = x4_3.toNat from (by rw [List.length_take]; have h_ : (x4_3 : Int) ≤ (l0_1.length : Int) := of_decide_eq_true (by first | (with_reducible assumption) | assumption); omega)] <;> rfl) | rfl | (simp only [List.length_drop, List.length_take]; rfl)) ?_
              with_reducible refine (spec_l01Has.calls k3 _ _ (l0_1.take (x4_3 : Int).toNat) (rdOf ByteArray.empty l0_1 x4_3) false _ ?side1 ?side2 A40.out).mono ?_
              (case side1 => repeat (first | exact (Kd.C_below HR185.out (by repeat (first | (with_reducible first | exact HB.out | apply below_alloc | apply pw_below_drewN | apply below_drew1 | refine below_set ?_ GE176.out) | exact HB.out))) | (with_reducible refine Kd.C_alloc ?_ _) | (with_reducible refine Kd.C_drewN ?_ _) | (with_reducible refine Kd.C_drew ?_)))
              (case side2 => exact HC185.out)
              rintro e w' ⟨rfl, ⟨nd, rfl⟩⟩
              refine ⟨_, rfl, ?_⟩
              refine hK.out _ _ ⟨(blk_cell BK176.out 0).trans rfl, (blk_cell BK176.out 1).trans rfl, ((HB.out.cell (World.block_lt_of_cell? w _ hw183_0)).trans hw183_0), ((HB.out.cell (World.block_lt_of_cell? w _ hw186_0)).trans hw186_0)⟩ (fun hHeld => ?_)
              clear hK K
              refine nU_ ?_
              refine pU_ ?_
              refine doneU_ ?_
              try go_wp2
              go_roundg k3
              case measure => have := HJ1.out; have := HK2.out; have := HK3.out; omega
              case rel => exact ⟨(wrap64 (x4_3 + 1)), eqE_, H', ⟨by have := HJ1.out; have := HK2.out; have := HK3.out; omega⟩, ⟨blkE_⟩, ⟨belE_⟩⟩
            ·
             rw [if_neg c39] at H
             exact absurd H (by simp)
           ·
            replace c37 := Bool.eq_false_iff.mpr c37
            subst c37
            replace H := ifF_ H
            obtain rfl := Option.some.inj H
            obtain ⟨hcz48_0, hcz48_1, hfz48_0, hfz48_1⟩ := cz2_ BK176
            try go_wp2
            replace BK176 := Aside0.mk (blk_drew BK176.out)
            replace HB := Aside0.mk (below_drew1 HB.out)
            have p183 : 0 ≤ (x4_3 : Int) := of_decide_eq_true (by first | (with_reducible assumption) | assumption)
            have q183 : x4_3 < (l0_1.length : Int) := of_decide_eq_true (by first | (with_reducible assumption) | assumption)
            obtain ⟨ad183, e183, hx183_0⟩ := Kd.at_string HR0_1.out x4_3 p183 q183
            have hw183_0 := hx183_0
            cases e183
            replace hx183_0 := (HB.out.cell (World.block_lt_of_cell? w _ hx183_0)).trans hx183_0
            replace p183 := eq_true p183
            replace q183 := eq_true q183
            refine startU_ (n := 20) (S := fun w' => w'.cell? ⟨gb176, 0, none⟩ = some (.slice A0_0 l0_0.length c0_0) ∧ w'.cell? ⟨gb176, 1, none⟩ = some (.slice (some ad183) l0_1.length c0_1) ∧ w'.cell? (ad183.add (x4_3).toNat) = some (.string (rdOf ByteArray.empty l0_1 x4_3))) (ds := []) ⟨(blk_cell BK176.out 0).trans rfl, (blk_cell BK176.out 1).trans rfl, ((HB.out.cell (World.block_lt_of_cell? w _ hw183_0)).trans hw183_0)⟩ (fun hHeld => ?_); refine with_tabW spec_l06OK.tab11 spec_l06OK.bits11 (fun HT_ HW_ => ?_)
            generalize wr.drew = w49 at BK176 HB hx183_0 hHeld ⊢
            refine pU_ ?_
            refine pUX_ 2 ?_
            refine tU_ ?_
            refine aU_ ?_
            refine pU_ ?_
            refine tU_ ?_
            refine pU_ ?_
            refine oU_ (fun K hK => ?_)
            refine gU_ Try.func101 #[.int .i64 ((rdOf ByteArray.empty l0_1 x4_3).size : Int), .int .i64 1, .int .i64 8000] ?_
            with_reducible refine (spec_l01In.calls ((rdOf ByteArray.empty l0_1 x4_3).size : Int) 1 8000 false _ A36.out).mono ?_
            rintro e w' ⟨rfl, ⟨nd, rfl⟩⟩
            refine ⟨_, rfl, ?_⟩
            refine hK.out _ _ ⟨(blk_cell BK176.out 0).trans rfl, (blk_cell BK176.out 1).trans rfl, ((HB.out.cell (World.block_lt_of_cell? w _ hw183_0)).trans hw183_0)⟩ (fun hHeld => ?_)
            clear hK K
            refine nU_ ?_
            iterate 2 refine pU_ ?_
            iterate 10 refine sU_ ?_
            refine pU_ ?_
            refine doneU_ ?_
            try go_wp2
            go_ret
            exact ⟨retE_, belE_⟩
          ·
           rw [if_neg c35] at H
           exact absurd H (by simp)
         ·
          rw [if_neg c34] at H
          have c34b0 : decide (x4_3 < (l0_1.length : Int)) = false := decide_eq_false c34
          clear c34
          obtain rfl := Option.some.inj H
          obtain ⟨hcz50_0, hcz50_1, hfz50_0, hfz50_1⟩ := cz2_ BK176
          go_wp2
          go_ret
          exact ⟨retE_, belE_⟩

end Go.Proofs.Ytmfnaaeglfhnmaa.QFnExactExpire
