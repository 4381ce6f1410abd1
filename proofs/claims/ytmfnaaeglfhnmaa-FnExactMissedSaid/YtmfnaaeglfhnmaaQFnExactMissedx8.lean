/- A tool of this session wrote this text out of the translation: functions as plain Lean, and proofs that the machine's calls come to their answers. -/
import Derived.Test.YtmfnaaeglfhnmaaQShort
import Derived.Test.YtmfnaaeglfhnmaaQFnExactMissedx0
import Derived.Test.YtmfnaaeglfhnmaaQFnExactMissedx7
namespace Go.Proofs.Ytmfnaaeglfhnmaa.QFnExactMissed
open Go.RowKit Go.Proofs.YtmfnaaeglfhnmaaW.PrintWords Go.Proofs.YtmfnaaeglfhnmaaW.PrintLast Go.Proofs.YtmfnaaeglfhnmaaW.PrintMore
open Go.Proofs.Ytmfnaaeglfhnmaa.Short
attribute [local go_sem] max2_int min2_int max_two min_two max_three min_three max_four min_four   -- for this text's walks alone
set_option linter.unusedVariables false
set_option linter.unusedSimpArgs false

/-! ### impl_QueueOK: function 27 -/
mutual
def impl_QueueOK.j0 : Nat → Bool → List (S64) → List ByteArray → Option (Bool)
  | 0, _, _, _ => none
  | k + 1, x16, x259000, x259001 => if x16 = true then (some false) else (impl_QueueOK.l0 k x259000 (x259000.length : Int) 0 x259000 x259001)
def impl_QueueOK.l0 : Nat → List (S64) → Int → Int → List (S64) → List ByteArray → Option (Bool)
  | 0, _, _, _, _, _ => none
  | k + 1, x18, x19, x20, x259000, x259001 => if x20 < x19 then (if 0 ≤ x20 then (if x20 < (x18.length : Int) then ((impl_ReportOK.f ((rd_T64 x18 x20).f0) ((rd_T64 x18 x20).f1) ((rd_T64 x18 x20).f2) ((rd_T64 x18 x20).f3)).bind fun t261 => (if t261 = true then (if x20 > 0 then (if 0 ≤ (wrap64 (x20 - 1)) then (if (wrap64 (x20 - 1)) < (x259000.length : Int) then (if ((rd_T64 x18 x20).f0) ≤ ((rd_T64 x259000 (wrap64 (x20 - 1))).f0) then (some false) else (if ((rd_T64 x18 x20).f1) < ((rd_T64 x259000 (wrap64 (x20 - 1))).f1) then (some false) else (impl_QueueOK.l0 k x18 x19 (wrap64 (x20 + 1)) x259000 x259001))) else (none)) else (none)) else (impl_QueueOK.l0 k x18 x19 (wrap64 (x20 + 1)) x259000 x259001)) else (some false))) else (none)) else (none)) else (impl_QueueOK.l1 k x259001 (x259001.length : Int) 0 x259000 x259001)
def impl_QueueOK.l1 : Nat → List ByteArray → Int → Int → List (S64) → List ByteArray → Option (Bool)
  | 0, _, _, _, _, _ => none
  | k + 1, x58, x59, x60, x259000, x259001 => if x60 < x59 then (if 0 ≤ x60 then (if x60 < (x58.length : Int) then ((impl_isBody.f (rdOf ByteArray.empty x58 x60)).bind fun t265 => (if t265 = true then (if x60 ≤ (x259001.length : Int) then ((slices_Contains_string_string.f k (x259001.take (x60 : Int).toNat) (rdOf ByteArray.empty x58 x60)).bind fun t267 => (if t267 = true then (some false) else (impl_QueueOK.l1 k x58 x59 (wrap64 (x60 + 1)) x259000 x259001))) else (none)) else (some false))) else (none)) else (none)) else (some true)
end
def impl_QueueOK.f (k : Nat) (l0_0 : List (S64)) (l0_1 : List ByteArray) : Option (Bool) := if (l0_0.length : Int) > 5 then (impl_QueueOK.j0 k true l0_0 l0_1) else (impl_QueueOK.j0 k (decide ((l0_1.length : Int) > 6)) l0_0 l0_1)
theorem impl_QueueOK.mono_l : ∀ k, (∀ y0 y1 y2, LeO (impl_QueueOK.j0 k y0 y1 y2) (impl_QueueOK.j0 (k + 1) y0 y1 y2)) ∧ (∀ y0 y1 y2 y3 y4, LeO (impl_QueueOK.l0 k y0 y1 y2 y3 y4) (impl_QueueOK.l0 (k + 1) y0 y1 y2 y3 y4)) ∧ (∀ y0 y1 y2 y3 y4, LeO (impl_QueueOK.l1 k y0 y1 y2 y3 y4) (impl_QueueOK.l1 (k + 1) y0 y1 y2 y3 y4))
  | 0 => ⟨fun _ _ _ r h => by simp [impl_QueueOK.j0] at h, fun _ _ _ _ _ r h => by simp [impl_QueueOK.l0] at h, fun _ _ _ _ _ r h => by simp [impl_QueueOK.l1] at h⟩
  | k + 1 => by
    obtain ⟨ih0, ih1, ih2⟩ := impl_QueueOK.mono_l k
    refine ⟨?_, ?_, ?_⟩
    · intro y0 y1 y2
      unfold impl_QueueOK.j0
      repeat' first
      | (with_reducible exact ih0 _ _ _)
      | (with_reducible exact ih1 _ _ _ _ _)
      | (with_reducible exact ih2 _ _ _ _ _)
      | (with_reducible exact slices_Contains_string_string.mono _ _ _)
      | (with_reducible exact LeO.refl _)
      | (with_reducible exact LeO.none _)
      | (with_reducible refine LeO.ite ?_ ?_)
      | (with_reducible refine LeO.bind ?_ (fun _ => ?_))
      | exact ih0 _ _ _
      | exact ih1 _ _ _ _ _
      | exact ih2 _ _ _ _ _
      | exact slices_Contains_string_string.mono _ _ _
      | exact LeO.none _
      | refine LeO.ite ?_ ?_
      | refine LeO.bind ?_ (fun _ => ?_)
    · intro y0 y1 y2 y3 y4
      unfold impl_QueueOK.l0
      repeat' first
      | (with_reducible exact ih0 _ _ _)
      | (with_reducible exact ih1 _ _ _ _ _)
      | (with_reducible exact ih2 _ _ _ _ _)
      | (with_reducible exact slices_Contains_string_string.mono _ _ _)
      | (with_reducible exact LeO.refl _)
      | (with_reducible exact LeO.none _)
      | (with_reducible refine LeO.ite ?_ ?_)
      | (with_reducible refine LeO.bind ?_ (fun _ => ?_))
      | exact ih0 _ _ _
      | exact ih1 _ _ _ _ _
      | exact ih2 _ _ _ _ _
      | exact slices_Contains_string_string.mono _ _ _
      | exact LeO.none _
      | refine LeO.ite ?_ ?_
      | refine LeO.bind ?_ (fun _ => ?_)
    · intro y0 y1 y2 y3 y4
      unfold impl_QueueOK.l1
      repeat' first
      | (with_reducible exact ih0 _ _ _)
      | (with_reducible exact ih1 _ _ _ _ _)
      | (with_reducible exact ih2 _ _ _ _ _)
      | (with_reducible exact slices_Contains_string_string.mono _ _ _)
      | (with_reducible exact LeO.refl _)
      | (with_reducible exact LeO.none _)
      | (with_reducible refine LeO.ite ?_ ?_)
      | (with_reducible refine LeO.bind ?_ (fun _ => ?_))
      | exact ih0 _ _ _
      | exact ih1 _ _ _ _ _
      | exact ih2 _ _ _ _ _
      | exact slices_Contains_string_string.mono _ _ _
      | exact LeO.none _
      | refine LeO.ite ?_ ?_
      | refine LeO.bind ?_ (fun _ => ?_)
theorem impl_QueueOK.mono : ∀ a0 a1 k, LeO (impl_QueueOK.f k a0 a1) (impl_QueueOK.f (k + 1) a0 a1) := by
  intro a0 a1 k
  obtain ⟨ih0, ih1, ih2⟩ := impl_QueueOK.mono_l k
  unfold impl_QueueOK.f
  repeat' first
      | (with_reducible exact ih0 _ _ _)
      | (with_reducible exact ih1 _ _ _ _ _)
      | (with_reducible exact ih2 _ _ _ _ _)
      | (with_reducible exact slices_Contains_string_string.mono _ _ _)
      | (with_reducible exact LeO.refl _)
      | (with_reducible exact LeO.none _)
      | (with_reducible refine LeO.ite ?_ ?_)
      | (with_reducible refine LeO.bind ?_ (fun _ => ?_))
      | exact ih0 _ _ _
      | exact ih1 _ _ _ _ _
      | exact ih2 _ _ _ _ _
      | exact slices_Contains_string_string.mono _ _ _
      | exact LeO.none _
      | refine LeO.ite ?_ ?_
      | refine LeO.bind ?_ (fun _ => ?_)
def impl_QueueOK.T6 : Bool × List (List Nat × List Nat) := (true, [([], []), ([0], [0]), ([1], [1]), ([2, 1], [2]), ([3], [3]), ([4, 3], [3, 4]), ([5, 3, 3], [3, 5]), ([6], [6]), ([7, 6], [6, 7]), ([6], [6]), ([9, 6], [6, 9]), ([6], [6]), ([11, 6], [6, 11]), ([10, 12, 6], [6, 10, 12]), ([13, 6], [6, 13]), ([14, 6], [6, 14]), ([8, 15, 6], [6, 8, 15]), ([16, 6, 6], [6, 16]), ([17], [17]), ([18, 17], [17, 18]), ([17], [17]), ([20, 17], [17, 20]), ([17], [17]), ([22, 17], [17, 22]), ([21, 23, 17], [17, 21, 23]), ([24, 17], [17, 24]), ([25, 17], [17, 25]), ([19, 26, 17], [17, 19, 26]), ([17, 27, 6], [6, 17, 27]), ([6, 28, 3], [3, 6, 28]), ([3, 29], [3, 29])])
def impl_QueueOK.B6 : List Nat := [0, 1, 3, 7, 15, 31, 63, 127, 255, 127, 639, 127, 2175, 7807, 15999, 32383, 65535, 131071, 262143, 524287, 262143, 1310719, 262143, 4456447, 15990783, 32767999, 66322431, 134217727, 268435455, 536870911, 1073741823]
theorem impl_QueueOK.tab6 : rtab .any (opsOf Try.f27 6) = impl_QueueOK.T6 := by kernel_rfl
theorem impl_QueueOK.bits6 : waitsOk impl_QueueOK.T6.2 impl_QueueOK.B6 = true := by kernel_rfl
set_option maxHeartbeats 8000000 in
set_option maxRecDepth 100000 in
theorem impl_QueueOK.calls (k : Nat) (A0_0 : Option Addr) (c0_0 : Nat) (l0_0 : List (S64)) (A0_1 : Option Addr) (c0_1 : Nat) (l0_1 : List ByteArray) (r : Bool) (w : World) (hr0_0 : Kd.C k64 w A0_0 l0_0.length l0_0) (hc0_0 : l0_0.length ≤ c0_0) (hr0_1 : Kd.C Kd.string w A0_1 l0_1.length l0_1) (hc0_1 : l0_1.length ≤ c0_1) (h : impl_QueueOK.f k l0_0 l0_1 = some r) :
    Calls Try.prog 27 #[.agg #[.slice A0_0 l0_0.length c0_0, .slice A0_1 l0_1.length c0_1]] w fun e w' => e = .returned (.bool r) ∧ Below w.heap.size w w' := by
 have hu49 := Try.underlying49
 have hu64 := Try.underlying64
 have HR0_0 := Aside0.mk hr0_0
 have HC0_0 := Aside0.mk hc0_0
 clear hr0_0 hc0_0
 have HR0_1 := Aside0.mk hr0_1
 have HC0_1 := Aside0.mk hc0_1
 clear hr0_1 hc0_1
 have HB := Aside0.mk (Below.refl w.heap.size w)
 have H : (if (l0_0.length : Int) > 5 then (impl_QueueOK.j0 k true l0_0 l0_1) else (impl_QueueOK.j0 k (decide ((l0_1.length : Int) > 6)) l0_0 l0_1)) = some r := h
 clear h
 have HC2 := Aside0.mk H
 clear H
 go_enter Try.func27, Try.ntmps27
 go_upto_region 1 with (first | ((with_reducible refine gate_dst (N := 1) rfl ?_); (try (refine gate_guard (by rfl) ?_; dsimp only)); refine box_event ?hg (N := 1) ?hd (cs := #[.slice A0_0 l0_0.length c0_0, .slice A0_1 l0_1.length c0_1]) (t := 49) ?hr ?_; (case hd => rfl); (case hg => rfl); (case hr => first | (go_simp; done) | (go_simp; rfl)); intro gb258 hg w3 hbox hb; have n0_ := belB_ hb; have n1_ := Aside0.mk (hbox); have n2_ := Aside0.mk ((by rw [hg]; exact (below_size (by repeat (first | (with_reducible first | exact HB.out | apply below_alloc | apply pw_below_drewN | apply below_drew1) | exact HB.out))) : w.heap.size ≤ gb258)); have n3_ := Aside0.mk ((by rw [hg]; exact (below_size (by repeat (first | (with_reducible first | exact HB.out | apply below_alloc | apply pw_below_drewN | apply below_drew1) | exact HB.out))) : w.heap.size ≤ gb258)); clear HB; have HB := n0_; have BK258 := n1_; have GW258 := n2_; have GE258 := n3_; clear n0_ n1_ n2_ n3_; clear hb hbox hg))
 (try simp only [Act.put, List.setIfInBounds_toArray, List.set_cons_zero, List.set_cons_succ])
 go_cut [16] (fun v16 wc => ∃ (kq : Nat) (x16_1 : Bool), v16 = .bool x16_1 ∧ Aside0 (impl_QueueOK.j0 kq x16_1 l0_0 l0_1 = some r) ∧ Aside0 (kq ≤ k) ∧ Aside0 (wc.heap[gb258]? = some (.cells #[(.slice A0_0 l0_0.length c0_0), (.slice A0_1 l0_1.length c0_1)] 49 (0, 0))) ∧ Aside0 (Below w.heap.size w wc))
 case first =>
  have H := HC2.out
  clear HC2
  by_cases c4 : (l0_0.length : Int) > 5
  ·
   rw [if_pos c4] at H
   have c4b0 : decide (5 < (l0_0.length : Int)) = true := decide_eq_true c4
   have c4b1 : decide (5 < l0_0.length) = true := decide_eq_true (by omega)
   clear c4
   (first | rw [c4b0] | (simp only [i64_w, i32_w]; rw [c4b0]) | skip)
   have H' := Aside0.mk H
   clear H
   obtain ⟨hcz5_0, hcz5_1, hfz5_0, hfz5_1⟩ := cz2_ BK258
   go_wp2
   go_meet
   case rel => exact ⟨_, (true), eqE_, H', ⟨leE_⟩, ⟨blkE_⟩, ⟨belE_⟩⟩
  ·
   rw [if_neg c4] at H
   have c4b0 : decide (5 < (l0_0.length : Int)) = false := decide_eq_false c4
   have c4b1 : decide (5 < l0_0.length) = false := decide_eq_false (by omega)
   clear c4
   (first | rw [c4b0] | (simp only [i64_w, i32_w]; rw [c4b0]) | skip)
   have H' := Aside0.mk H
   clear H
   obtain ⟨hcz6_0, hcz6_1, hfz6_0, hfz6_1⟩ := cz2_ BK258
   go_wp2
   go_meet
   case rel => exact ⟨_, (decide ((l0_1.length : Int) > 6)), eqE_, H', ⟨leE_⟩, ⟨blkE_⟩, ⟨belE_⟩⟩
 case rest =>
  clear HC2
  obtain ⟨kq, x16_1, rfl, HA, HJ1, BK258, HB⟩ := hcut
  cases kq with
  | zero => exact absurd HA.out (by simp [impl_QueueOK.j0])
  | succ kj1 =>
   have H := HA.out
   clear HA
   simp only [impl_QueueOK.j0] at H
   by_cases c7 : x16_1 = true
   ·
    subst c7
    replace H := ifT_ H
    obtain rfl := Option.some.inj H
    go_wp2
    go_ret
    exact ⟨retE_, belE_⟩
   ·
    replace c7 := Bool.eq_false_iff.mpr c7
    subst c7
    replace H := ifF_ H
    have H' := Aside0.mk H
    clear H
    obtain ⟨hcz8_0, hcz8_1, hfz8_0, hfz8_1⟩ := cz2_ BK258
    go_wp2
    go_loopg [20] kj1 (fun kq v20 w' => ∃ (x20_2 : Int), v20 = .int .i64 x20_2 ∧ Aside0 (impl_QueueOK.l0 kq l0_0 (l0_0.length : Int) x20_2 l0_0 l0_1 = some r) ∧ Aside0 (kq ≤ kj1) ∧ Aside0 (w'.heap[gb258]? = some (.cells #[(.slice A0_0 l0_0.length c0_0), (.slice A0_1 l0_1.length c0_1)] 49 (0, 0))) ∧ Aside0 (Below w.heap.size w w'))
    case atStart => exact ⟨(0), eqE_, H', ⟨Nat.le_refl _⟩, ⟨blkE_⟩, ⟨belE_⟩⟩
    case round =>
     clear H'
     try clear c7
     try clear hcz8_0 hcz8_1
     try clear hfz8_0 hfz8_1
     obtain ⟨x20_2, rfl, HA, HK2, BK258, HB⟩ := hrel
     cases gk with
     | zero => exact absurd HA.out (by simp [impl_QueueOK.l0])
     | succ k2 =>
      have H := HA.out
      clear HA
      simp only [impl_QueueOK.l0] at H
      by_cases c9 : x20_2 < (l0_0.length : Int)
      ·
       rw [if_pos c9] at H
       have c9b0 : decide (x20_2 < (l0_0.length : Int)) = true := decide_eq_true c9
       clear c9
       by_cases c10 : 0 ≤ x20_2
       ·
        rw [if_pos c10] at H
        have c10b0 : decide (0 ≤ x20_2) = true := decide_eq_true c10
        clear c10
        by_cases c11 : x20_2 < (l0_0.length : Int)
        ·
         rw [if_pos c11] at H
         have c11b0 : decide (x20_2 < (l0_0.length : Int)) = true := decide_eq_true c11
         clear c11
         obtain ⟨t261, A12, H⟩ := bindE_ H
         by_cases c13 : t261 = true
         ·
          subst c13
          replace H := ifT_ H
          by_cases c14 : x20_2 > 0
          ·
           rw [if_pos c14] at H
           have c14b0 : decide (0 < x20_2) = true := decide_eq_true c14
           clear c14
           obtain ⟨ji15, hji15⟩ : ∃ j_ : Int, (wrap64 (x20_2 - 1)) = j_ := ⟨_, rfl⟩
           replace H : (if 0 ≤ (ji15) then (if (ji15) < (l0_0.length : Int) then (if ((rd_T64 l0_0 x20_2).f0) ≤ ((rd_T64 l0_0 (ji15)).f0) then (some false) else (if ((rd_T64 l0_0 x20_2).f1) < ((rd_T64 l0_0 (ji15)).f1) then (some false) else (impl_QueueOK.l0 k2 l0_0 (l0_0.length : Int) (wrap64 (x20_2 + 1)) l0_0 l0_1))) else (none)) else (none)) = some r := by first | (rw [hji15] at H; exact H) | (simp only [hji15] at H ⊢; exact H)
           (try rw [hji15] at A12)
           have hji15w : (IntKind.i64.wrap (x20_2 - 1)) = ji15 := (i64_w _).trans hji15
           by_cases c16 : 0 ≤ (ji15)
           ·
            rw [if_pos c16] at H
            have c16b0 : decide (0 ≤ (ji15)) = true := decide_eq_true c16
            clear c16
            by_cases c17 : (ji15) < (l0_0.length : Int)
            ·
             rw [if_pos c17] at H
             have c17b0 : decide ((ji15) < (l0_0.length : Int)) = true := decide_eq_true c17
             clear c17
             by_cases c18 : ((rd_T64 l0_0 x20_2).f0) ≤ ((rd_T64 l0_0 (ji15)).f0)
             ·
              rw [if_pos c18] at H
              have c18b0 : decide (((rd_T64 l0_0 x20_2).f0) ≤ ((rd_T64 l0_0 (ji15)).f0)) = true := decide_eq_true c18
              clear c18
              obtain rfl := Option.some.inj H
              have p259 : 0 ≤ (x20_2 : Int) := of_decide_eq_true (by first | (with_reducible assumption) | assumption)
              have q259 : x20_2 < (l0_0.length : Int) := of_decide_eq_true (by first | (with_reducible assumption) | assumption)
              obtain ⟨ad259, e259, hx259_0, hx259_1, hx259_2, hx259_3⟩ := at_T64 HR0_0.out x20_2 p259 q259
              cases e259
              replace hx259_0 := (HB.out.cell (World.block_lt_of_cell? w _ hx259_0)).trans hx259_0
              replace hx259_1 := (HB.out.cell (World.block_lt_of_cell? w _ hx259_1)).trans hx259_1
              replace hx259_2 := (HB.out.cell (World.block_lt_of_cell? w _ hx259_2)).trans hx259_2
              replace hx259_3 := (HB.out.cell (World.block_lt_of_cell? w _ hx259_3)).trans hx259_3
              replace p259 := eq_true p259
              replace q259 := eq_true q259
              try go_wp2_with (first | ((with_reducible refine gate_dst (N := 4) rfl ?_); (try (refine gate_guard (by rfl) ?_; dsimp only)); refine box_event ?hg (N := 4) ?hd (cs := #[.int .i64 0, .int .i64 0, .int .i64 0, .string (⟨#[]⟩ : ByteArray)]) (t := 64) ?hr ?_; (case hd => rfl); (case hg => rfl); (case hr => first | (go_simp; done) | (go_simp; rfl)); intro gb260 hg w19 hbox hb; have n0_ := blkB_ (g := gb258) (o := .cells #[.slice (some ad259) l0_0.length c0_0, .slice A0_1 l0_1.length c0_1] 49 (0, 0)) hb; have n1_ := belB_ hb; have n2_ := Aside0.mk (hbox); have n3_ := Aside0.mk ((by rw [hg]; exact (below_size (by repeat (first | (with_reducible first | exact HB.out | apply below_alloc | apply pw_below_drewN | apply below_drew1 | refine below_set ?_ GE258.out) | exact HB.out))) : w.heap.size ≤ gb260)); have n4_ := Aside0.mk ((by rw [hg]; exact (below_size (by repeat (first | (with_reducible first | exact HB.out | apply below_alloc | apply pw_below_drewN | apply below_drew1 | refine below_set ?_ GE258.out) | exact HB.out))) : w.heap.size ≤ gb260)); have n5_ := Aside0.mk ((by rw [hg]; exact Nat.ne_of_lt (blk_lt (g := gb258) (o := .cells #[.slice (some ad259) l0_0.length c0_0, .slice A0_1 l0_1.length c0_1] 49 (0, 0)) (by (with_reducible repeat (first | refine blk_drewN ?_ _ | refine blk_drew ?_ | refine blk_alloc ?_ _)); exact BK258.out)) : gb258 ≠ gb260)); have n6_ := Aside0.mk ((by rw [hg]; exact Nat.ne_of_gt (blk_lt (g := gb258) (o := .cells #[.slice (some ad259) l0_0.length c0_0, .slice A0_1 l0_1.length c0_1] 49 (0, 0)) (by (with_reducible repeat (first | refine blk_drewN ?_ _ | refine blk_drew ?_ | refine blk_alloc ?_ _)); exact BK258.out)) : gb260 ≠ gb258)); clear BK258; clear HB; have BK258 := n0_; have HB := n1_; have BK260 := n2_; have GW260 := n3_; have GE260 := n4_; have NB258_260 := n5_; have NB260_258 := n6_; clear n0_ n1_ n2_ n3_ n4_ n5_ n6_; clear hb hbox hg; have hnb20 := NB260_258.out; have hnc20 := NB258_260.out; obtain ⟨hcz21_0, hcz21_1, hcz21_2, hcz21_3, hfz21_0, hfz21_1, hfz21_2, hfz21_3⟩ := cz4_ BK260))
              have n0_ : Aside0 (((((w19.setCell ⟨gb260, 0, none⟩ (.int .i64 ((rd_T64 l0_0 x20_2).f0))).setCell ⟨gb260, 1, none⟩ (.int .i64 ((rd_T64 l0_0 x20_2).f1))).setCell ⟨gb260, 2, none⟩ (.int .i64 ((rd_T64 l0_0 x20_2).f2))).setCell ⟨gb260, 3, none⟩ (.string ((rd_T64 l0_0 x20_2).f3))).heap[gb258]? = some (.cells #[.slice (some ad259) l0_0.length c0_0, .slice A0_1 l0_1.length c0_1] 49 (0, 0))) := ⟨farE_⟩
              have n1_ : Aside0 (((((w19.setCell ⟨gb260, 0, none⟩ (.int .i64 ((rd_T64 l0_0 x20_2).f0))).setCell ⟨gb260, 1, none⟩ (.int .i64 ((rd_T64 l0_0 x20_2).f1))).setCell ⟨gb260, 2, none⟩ (.int .i64 ((rd_T64 l0_0 x20_2).f2))).setCell ⟨gb260, 3, none⟩ (.string ((rd_T64 l0_0 x20_2).f3))).heap[gb260]? = some (.cells #[.int .i64 ((rd_T64 l0_0 x20_2).f0), .int .i64 ((rd_T64 l0_0 x20_2).f1), .int .i64 ((rd_T64 l0_0 x20_2).f2), .string ((rd_T64 l0_0 x20_2).f3)] 64 (0, 0))) := ⟨by (with_reducible repeat (first | refine blk_drewN ?_ _ | refine blk_drew ?_ | refine blk_alloc ?_ _)); refine blk_put (cs := #[.int .i64 ((rd_T64 l0_0 x20_2).f0), .int .i64 ((rd_T64 l0_0 x20_2).f1), .int .i64 ((rd_T64 l0_0 x20_2).f2), .string (⟨#[]⟩ : ByteArray)]) ?_ 3 _ rfl; (with_reducible repeat (first | refine blk_drewN ?_ _ | refine blk_drew ?_ | refine blk_alloc ?_ _)); refine blk_put (cs := #[.int .i64 ((rd_T64 l0_0 x20_2).f0), .int .i64 ((rd_T64 l0_0 x20_2).f1), .int .i64 0, .string (⟨#[]⟩ : ByteArray)]) ?_ 2 _ rfl; (with_reducible repeat (first | refine blk_drewN ?_ _ | refine blk_drew ?_ | refine blk_alloc ?_ _)); refine blk_put (cs := #[.int .i64 ((rd_T64 l0_0 x20_2).f0), .int .i64 0, .int .i64 0, .string (⟨#[]⟩ : ByteArray)]) ?_ 1 _ rfl; (with_reducible repeat (first | refine blk_drewN ?_ _ | refine blk_drew ?_ | refine blk_alloc ?_ _)); refine blk_put (cs := #[.int .i64 0, .int .i64 0, .int .i64 0, .string (⟨#[]⟩ : ByteArray)]) ?_ 0 _ rfl; (with_reducible repeat (first | refine blk_drewN ?_ _ | refine blk_drew ?_ | refine blk_alloc ?_ _)); exact BK260.out⟩
              have n2_ : Aside0 (Below w.heap.size w ((((w19.setCell ⟨gb260, 0, none⟩ (.int .i64 ((rd_T64 l0_0 x20_2).f0))).setCell ⟨gb260, 1, none⟩ (.int .i64 ((rd_T64 l0_0 x20_2).f1))).setCell ⟨gb260, 2, none⟩ (.int .i64 ((rd_T64 l0_0 x20_2).f2))).setCell ⟨gb260, 3, none⟩ (.string ((rd_T64 l0_0 x20_2).f3)))) := ⟨by repeat (first | (with_reducible first | exact HB.out | apply below_alloc | apply pw_below_drewN | apply below_drew1 | refine below_set ?_ GE258.out | refine below_set ?_ GE260.out) | exact HB.out)⟩
              (try clear BK258)
              (try clear BK260)
              (try clear HB)
              generalize ((((w19.setCell ⟨gb260, 0, none⟩ (.int .i64 ((rd_T64 l0_0 x20_2).f0))).setCell ⟨gb260, 1, none⟩ (.int .i64 ((rd_T64 l0_0 x20_2).f1))).setCell ⟨gb260, 2, none⟩ (.int .i64 ((rd_T64 l0_0 x20_2).f2))).setCell ⟨gb260, 3, none⟩ (.string ((rd_T64 l0_0 x20_2).f3))) = w22 at n0_ n1_ n2_ ⊢
              have BK258 := n0_
              have BK260 := n1_
              have HB := n2_
              clear n0_ n1_ n2_
              replace BK258 := Aside0.mk (blk_drew BK258.out)
              replace BK260 := Aside0.mk (blk_drew BK260.out)
              replace HB := Aside0.mk (below_drew1 HB.out)
              have p262 : 0 ≤ ((ji15) : Int) := of_decide_eq_true (by first | (with_reducible assumption) | assumption)
              have q262 : (ji15) < (l0_0.length : Int) := of_decide_eq_true (by first | (with_reducible assumption) | assumption)
              obtain ⟨ad262, e262, hx262_0, hx262_1, hx262_2, hx262_3⟩ := at_T64 HR0_0.out (ji15) p262 q262
              have hw262_3 := hx262_3
              have hw262_2 := hx262_2
              have hw262_1 := hx262_1
              have hw262_0 := hx262_0
              obtain rfl : ad259 = ad262 := (by injection e262)
              replace hx262_0 := (HB.out.cell (World.block_lt_of_cell? w _ hx262_0)).trans hx262_0
              replace hx262_1 := (HB.out.cell (World.block_lt_of_cell? w _ hx262_1)).trans hx262_1
              replace hx262_2 := (HB.out.cell (World.block_lt_of_cell? w _ hx262_2)).trans hx262_2
              replace hx262_3 := (HB.out.cell (World.block_lt_of_cell? w _ hx262_3)).trans hx262_3
              replace p262 := eq_true p262
              replace q262 := eq_true q262
              refine startU_ (n := 31) (S := fun w' => w'.cell? ⟨gb260, 0, none⟩ = some (.int .i64 ((rd_T64 l0_0 x20_2).f0)) ∧ w'.cell? ⟨gb260, 1, none⟩ = some (.int .i64 ((rd_T64 l0_0 x20_2).f1)) ∧ w'.cell? ⟨gb260, 2, none⟩ = some (.int .i64 ((rd_T64 l0_0 x20_2).f2)) ∧ w'.cell? ⟨gb260, 3, none⟩ = some (.string ((rd_T64 l0_0 x20_2).f3)) ∧ w'.cell? ⟨gb258, 0, none⟩ = some (.slice (some ad259) l0_0.length c0_0) ∧ w'.cell? ⟨gb258, 1, none⟩ = some (.slice A0_1 l0_1.length c0_1) ∧ w'.cell? (ad259.add (((ji15)).toNat * 4)) = some (.int .i64 ((rd_T64 l0_0 (ji15)).f0)) ∧ w'.cell? ⟨(ad259.add (((ji15)).toNat * 4)).block, (ad259.add (((ji15)).toNat * 4)).off + 1, none⟩ = some (.int .i64 ((rd_T64 l0_0 (ji15)).f1)) ∧ w'.cell? ⟨(ad259.add (((ji15)).toNat * 4)).block, (ad259.add (((ji15)).toNat * 4)).off + 2, none⟩ = some (.int .i64 ((rd_T64 l0_0 (ji15)).f2)) ∧ w'.cell? ⟨(ad259.add (((ji15)).toNat * 4)).block, (ad259.add (((ji15)).toNat * 4)).off + 3, none⟩ = some (.string ((rd_T64 l0_0 (ji15)).f3))) (ds := []) ⟨(blk_cell BK260.out 0).trans rfl, (blk_cell BK260.out 1).trans rfl, (blk_cell BK260.out 2).trans rfl, (blk_cell BK260.out 3).trans rfl, (blk_cell BK258.out 0).trans rfl, (blk_cell BK258.out 1).trans rfl, ((HB.out.cell (World.block_lt_of_cell? w _ hw262_0)).trans hw262_0), ((HB.out.cell (World.block_lt_of_cell? w _ hw262_1)).trans hw262_1), ((HB.out.cell (World.block_lt_of_cell? w _ hw262_2)).trans hw262_2), ((HB.out.cell (World.block_lt_of_cell? w _ hw262_3)).trans hw262_3)⟩ (fun hHeld => ?_); refine with_tabW impl_QueueOK.tab6 impl_QueueOK.bits6 (fun HT_ HW_ => ?_)
              generalize w22.drew = w23 at BK258 BK260 HB hx262_0 hx262_1 hx262_2 hx262_3 hHeld ⊢
              refine tU_ ?_
              refine oU_ (fun K hK => ?_)
              refine gU_ Try.func56 #[.agg #[.int .i64 ((rd_T64 l0_0 x20_2).f0), .int .i64 ((rd_T64 l0_0 x20_2).f1), .int .i64 ((rd_T64 l0_0 x20_2).f2), .string ((rd_T64 l0_0 x20_2).f3)]] ?_
              with_reducible refine (impl_ReportOK.calls ((rd_T64 l0_0 x20_2).f0) ((rd_T64 l0_0 x20_2).f1) ((rd_T64 l0_0 x20_2).f2) ((rd_T64 l0_0 x20_2).f3) true _ A12.out).mono ?_
              rintro e w24 ⟨rfl, hb⟩
              refine ⟨_, rfl, ?_⟩
              replace BK258 := blkB_ (g := gb258) (o := .cells #[.slice (some ad259) l0_0.length c0_0, .slice A0_1 l0_1.length c0_1] 49 (0, 0)) hb
              replace BK260 := blkB_ (g := gb260) (o := .cells #[.int .i64 ((rd_T64 l0_0 x20_2).f0), .int .i64 ((rd_T64 l0_0 x20_2).f1), .int .i64 ((rd_T64 l0_0 x20_2).f2), .string ((rd_T64 l0_0 x20_2).f3)] 64 (0, 0)) hb
              replace HB := Aside0.mk (below_step (by repeat (first | (with_reducible first | exact HB.out | apply below_alloc | apply pw_below_drewN | apply below_drew1 | refine below_set ?_ GE258.out | refine below_set ?_ GE260.out) | exact HB.out)) hb)
              (try clear hb)
              (try clear hb2)
              (try clear hk)
              (try clear hi)
              refine hK.out _ _ ⟨(blk_cell BK260.out 0).trans rfl, (blk_cell BK260.out 1).trans rfl, (blk_cell BK260.out 2).trans rfl, (blk_cell BK260.out 3).trans rfl, (blk_cell BK258.out 0).trans rfl, (blk_cell BK258.out 1).trans rfl, ((HB.out.cell (World.block_lt_of_cell? w _ hw262_0)).trans hw262_0), ((HB.out.cell (World.block_lt_of_cell? w _ hw262_1)).trans hw262_1), ((HB.out.cell (World.block_lt_of_cell? w _ hw262_2)).trans hw262_2), ((HB.out.cell (World.block_lt_of_cell? w _ hw262_3)).trans hw262_3)⟩ (fun hHeld => ?_)
              clear hK K
              refine nU_ ?_
              iterate 6 refine pU_ ?_
              refine pUX_ 9 ?_
              refine pUX_ 11 ?_
              refine pUX_ 12 ?_
              refine tU_ ?_
              refine aU_ ?_
              refine tU_ ?_
              iterate 2 refine aU_ ?_
              iterate 2 refine pU_ ?_
              refine tU_ ?_
              iterate 2 refine pU_ ?_
              iterate 10 refine sU_ ?_
              iterate 3 refine pU_ ?_
              refine doneU_ ?_
              try go_wp2
              go_ret
              exact ⟨by first | rfl | (simp [errW_none, errW_some] <;> rfl) | (simp only [← hji15]; first | rfl | (simp [errW_none, errW_some] <;> rfl)) | (simp [*, errW_none, errW_some] <;> rfl), by repeat (first | (with_reducible first | exact HB.out | apply below_alloc | apply pw_below_drewN | apply below_drew1 | refine below_set ?_ GE258.out | refine below_set ?_ GE260.out) | exact HB.out)⟩
             ·
              rw [if_neg c18] at H
              have c18b0 : decide (((rd_T64 l0_0 x20_2).f0) ≤ ((rd_T64 l0_0 (ji15)).f0)) = false := decide_eq_false c18
              clear c18
              by_cases c25 : ((rd_T64 l0_0 x20_2).f1) < ((rd_T64 l0_0 (ji15)).f1)
              ·
               rw [if_pos c25] at H
               have c25b0 : decide (((rd_T64 l0_0 x20_2).f1) < ((rd_T64 l0_0 (ji15)).f1)) = true := decide_eq_true c25
               clear c25
               obtain rfl := Option.some.inj H
               have p259 : 0 ≤ (x20_2 : Int) := of_decide_eq_true (by first | (with_reducible assumption) | assumption)
               have q259 : x20_2 < (l0_0.length : Int) := of_decide_eq_true (by first | (with_reducible assumption) | assumption)
               obtain ⟨ad259, e259, hx259_0, hx259_1, hx259_2, hx259_3⟩ := at_T64 HR0_0.out x20_2 p259 q259
               cases e259
               replace hx259_0 := (HB.out.cell (World.block_lt_of_cell? w _ hx259_0)).trans hx259_0
               replace hx259_1 := (HB.out.cell (World.block_lt_of_cell? w _ hx259_1)).trans hx259_1
               replace hx259_2 := (HB.out.cell (World.block_lt_of_cell? w _ hx259_2)).trans hx259_2
               replace hx259_3 := (HB.out.cell (World.block_lt_of_cell? w _ hx259_3)).trans hx259_3
               replace p259 := eq_true p259
               replace q259 := eq_true q259
               try go_wp2_with (first | ((with_reducible refine gate_dst (N := 4) rfl ?_); (try (refine gate_guard (by rfl) ?_; dsimp only)); refine box_event ?hg (N := 4) ?hd (cs := #[.int .i64 0, .int .i64 0, .int .i64 0, .string (⟨#[]⟩ : ByteArray)]) (t := 64) ?hr ?_; (case hd => rfl); (case hg => rfl); (case hr => first | (go_simp; done) | (go_simp; rfl)); intro gb260 hg w26 hbox hb; have n0_ := blkB_ (g := gb258) (o := .cells #[.slice (some ad259) l0_0.length c0_0, .slice A0_1 l0_1.length c0_1] 49 (0, 0)) hb; have n1_ := belB_ hb; have n2_ := Aside0.mk (hbox); have n3_ := Aside0.mk ((by rw [hg]; exact (below_size (by repeat (first | (with_reducible first | exact HB.out | apply below_alloc | apply pw_below_drewN | apply below_drew1 | refine below_set ?_ GE258.out) | exact HB.out))) : w.heap.size ≤ gb260)); have n4_ := Aside0.mk ((by rw [hg]; exact (below_size (by repeat (first | (with_reducible first | exact HB.out | apply below_alloc | apply pw_below_drewN | apply below_drew1 | refine below_set ?_ GE258.out) | exact HB.out))) : w.heap.size ≤ gb260)); have n5_ := Aside0.mk ((by rw [hg]; exact Nat.ne_of_lt (blk_lt (g := gb258) (o := .cells #[.slice (some ad259) l0_0.length c0_0, .slice A0_1 l0_1.length c0_1] 49 (0, 0)) (by (with_reducible repeat (first | refine blk_drewN ?_ _ | refine blk_drew ?_ | refine blk_alloc ?_ _)); exact BK258.out)) : gb258 ≠ gb260)); have n6_ := Aside0.mk ((by rw [hg]; exact Nat.ne_of_gt (blk_lt (g := gb258) (o := .cells #[.slice (some ad259) l0_0.length c0_0, .slice A0_1 l0_1.length c0_1] 49 (0, 0)) (by (with_reducible repeat (first | refine blk_drewN ?_ _ | refine blk_drew ?_ | refine blk_alloc ?_ _)); exact BK258.out)) : gb260 ≠ gb258)); clear BK258; clear HB; have BK258 := n0_; have HB := n1_; have BK260 := n2_; have GW260 := n3_; have GE260 := n4_; have NB258_260 := n5_; have NB260_258 := n6_; clear n0_ n1_ n2_ n3_ n4_ n5_ n6_; clear hb hbox hg; have hnb27 := NB260_258.out; have hnc27 := NB258_260.out; obtain ⟨hcz28_0, hcz28_1, hcz28_2, hcz28_3, hfz28_0, hfz28_1, hfz28_2, hfz28_3⟩ := cz4_ BK260))
               have n0_ : Aside0 (((((w26.setCell ⟨gb260, 0, none⟩ (.int .i64 ((rd_T64 l0_0 x20_2).f0))).setCell ⟨gb260, 1, none⟩ (.int .i64 ((rd_T64 l0_0 x20_2).f1))).setCell ⟨gb260, 2, none⟩ (.int .i64 ((rd_T64 l0_0 x20_2).f2))).setCell ⟨gb260, 3, none⟩ (.string ((rd_T64 l0_0 x20_2).f3))).heap[gb258]? = some (.cells #[.slice (some ad259) l0_0.length c0_0, .slice A0_1 l0_1.length c0_1] 49 (0, 0))) := ⟨farE_⟩
               have n1_ : Aside0 (((((w26.setCell ⟨gb260, 0, none⟩ (.int .i64 ((rd_T64 l0_0 x20_2).f0))).setCell ⟨gb260, 1, none⟩ (.int .i64 ((rd_T64 l0_0 x20_2).f1))).setCell ⟨gb260, 2, none⟩ (.int .i64 ((rd_T64 l0_0 x20_2).f2))).setCell ⟨gb260, 3, none⟩ (.string ((rd_T64 l0_0 x20_2).f3))).heap[gb260]? = some (.cells #[.int .i64 ((rd_T64 l0_0 x20_2).f0), .int .i64 ((rd_T64 l0_0 x20_2).f1), .int .i64 ((rd_T64 l0_0 x20_2).f2), .string ((rd_T64 l0_0 x20_2).f3)] 64 (0, 0))) := ⟨by (with_reducible repeat (first | refine blk_drewN ?_ _ | refine blk_drew ?_ | refine blk_alloc ?_ _)); refine blk_put (cs := #[.int .i64 ((rd_T64 l0_0 x20_2).f0), .int .i64 ((rd_T64 l0_0 x20_2).f1), .int .i64 ((rd_T64 l0_0 x20_2).f2), .string (⟨#[]⟩ : ByteArray)]) ?_ 3 _ rfl; (with_reducible repeat (first | refine blk_drewN ?_ _ | refine blk_drew ?_ | refine blk_alloc ?_ _)); refine blk_put (cs := #[.int .i64 ((rd_T64 l0_0 x20_2).f0), .int .i64 ((rd_T64 l0_0 x20_2).f1), .int .i64 0, .string (⟨#[]⟩ : ByteArray)]) ?_ 2 _ rfl; (with_reducible repeat (first | refine blk_drewN ?_ _ | refine blk_drew ?_ | refine blk_alloc ?_ _)); refine blk_put (cs := #[.int .i64 ((rd_T64 l0_0 x20_2).f0), .int .i64 0, .int .i64 0, .string (⟨#[]⟩ : ByteArray)]) ?_ 1 _ rfl; (with_reducible repeat (first | refine blk_drewN ?_ _ | refine blk_drew ?_ | refine blk_alloc ?_ _)); refine blk_put (cs := #[.int .i64 0, .int .i64 0, .int .i64 0, .string (⟨#[]⟩ : ByteArray)]) ?_ 0 _ rfl; (with_reducible repeat (first | refine blk_drewN ?_ _ | refine blk_drew ?_ | refine blk_alloc ?_ _)); exact BK260.out⟩
               have n2_ : Aside0 (Below w.heap.size w ((((w26.setCell ⟨gb260, 0, none⟩ (.int .i64 ((rd_T64 l0_0 x20_2).f0))).setCell ⟨gb260, 1, none⟩ (.int .i64 ((rd_T64 l0_0 x20_2).f1))).setCell ⟨gb260, 2, none⟩ (.int .i64 ((rd_T64 l0_0 x20_2).f2))).setCell ⟨gb260, 3, none⟩ (.string ((rd_T64 l0_0 x20_2).f3)))) := ⟨by repeat (first | (with_reducible first | exact HB.out | apply below_alloc | apply pw_below_drewN | apply below_drew1 | refine below_set ?_ GE258.out | refine below_set ?_ GE260.out) | exact HB.out)⟩
               (try clear BK258)
               (try clear BK260)
               (try clear HB)
               generalize ((((w26.setCell ⟨gb260, 0, none⟩ (.int .i64 ((rd_T64 l0_0 x20_2).f0))).setCell ⟨gb260, 1, none⟩ (.int .i64 ((rd_T64 l0_0 x20_2).f1))).setCell ⟨gb260, 2, none⟩ (.int .i64 ((rd_T64 l0_0 x20_2).f2))).setCell ⟨gb260, 3, none⟩ (.string ((rd_T64 l0_0 x20_2).f3))) = w29 at n0_ n1_ n2_ ⊢
               have BK258 := n0_
               have BK260 := n1_
               have HB := n2_
               clear n0_ n1_ n2_
               replace BK258 := Aside0.mk (blk_drew BK258.out)
               replace BK260 := Aside0.mk (blk_drew BK260.out)
               replace HB := Aside0.mk (below_drew1 HB.out)
               have p262 : 0 ≤ ((ji15) : Int) := of_decide_eq_true (by first | (with_reducible assumption) | assumption)
               have q262 : (ji15) < (l0_0.length : Int) := of_decide_eq_true (by first | (with_reducible assumption) | assumption)
               obtain ⟨ad262, e262, hx262_0, hx262_1, hx262_2, hx262_3⟩ := at_T64 HR0_0.out (ji15) p262 q262
               have hw262_3 := hx262_3
               have hw262_2 := hx262_2
               have hw262_1 := hx262_1
               have hw262_0 := hx262_0
               obtain rfl : ad259 = ad262 := (by injection e262)
               replace hx262_0 := (HB.out.cell (World.block_lt_of_cell? w _ hx262_0)).trans hx262_0
               replace hx262_1 := (HB.out.cell (World.block_lt_of_cell? w _ hx262_1)).trans hx262_1
               replace hx262_2 := (HB.out.cell (World.block_lt_of_cell? w _ hx262_2)).trans hx262_2
               replace hx262_3 := (HB.out.cell (World.block_lt_of_cell? w _ hx262_3)).trans hx262_3
               replace p262 := eq_true p262
               replace q262 := eq_true q262
               have p263 : 0 ≤ ((ji15) : Int) := of_decide_eq_true (by first | (with_reducible assumption) | assumption)
               have q263 : (ji15) < (l0_0.length : Int) := of_decide_eq_true (by first | (with_reducible assumption) | assumption)
               obtain ⟨ad263, e263, hx263_0, hx263_1, hx263_2, hx263_3⟩ := at_T64 HR0_0.out (ji15) p263 q263
               have hw263_3 := hx263_3
               have hw263_2 := hx263_2
               have hw263_1 := hx263_1
               have hw263_0 := hx263_0
               obtain rfl : ad259 = ad263 := (by injection e263)
               replace hx263_0 := (HB.out.cell (World.block_lt_of_cell? w _ hx263_0)).trans hx263_0
               replace hx263_1 := (HB.out.cell (World.block_lt_of_cell? w _ hx263_1)).trans hx263_1
               replace hx263_2 := (HB.out.cell (World.block_lt_of_cell? w _ hx263_2)).trans hx263_2
               replace hx263_3 := (HB.out.cell (World.block_lt_of_cell? w _ hx263_3)).trans hx263_3
               replace p263 := eq_true p263
               replace q263 := eq_true q263
               refine startU_ (n := 31) (S := fun w' => w'.cell? ⟨gb260, 0, none⟩ = some (.int .i64 ((rd_T64 l0_0 x20_2).f0)) ∧ w'.cell? ⟨gb260, 1, none⟩ = some (.int .i64 ((rd_T64 l0_0 x20_2).f1)) ∧ w'.cell? ⟨gb260, 2, none⟩ = some (.int .i64 ((rd_T64 l0_0 x20_2).f2)) ∧ w'.cell? ⟨gb260, 3, none⟩ = some (.string ((rd_T64 l0_0 x20_2).f3)) ∧ w'.cell? ⟨gb258, 0, none⟩ = some (.slice (some ad259) l0_0.length c0_0) ∧ w'.cell? ⟨gb258, 1, none⟩ = some (.slice A0_1 l0_1.length c0_1) ∧ w'.cell? (ad259.add (((ji15)).toNat * 4)) = some (.int .i64 ((rd_T64 l0_0 (ji15)).f0)) ∧ w'.cell? ⟨(ad259.add (((ji15)).toNat * 4)).block, (ad259.add (((ji15)).toNat * 4)).off + 1, none⟩ = some (.int .i64 ((rd_T64 l0_0 (ji15)).f1)) ∧ w'.cell? ⟨(ad259.add (((ji15)).toNat * 4)).block, (ad259.add (((ji15)).toNat * 4)).off + 2, none⟩ = some (.int .i64 ((rd_T64 l0_0 (ji15)).f2)) ∧ w'.cell? ⟨(ad259.add (((ji15)).toNat * 4)).block, (ad259.add (((ji15)).toNat * 4)).off + 3, none⟩ = some (.string ((rd_T64 l0_0 (ji15)).f3)) ∧ w'.cell? (ad259.add (((ji15)).toNat * 4)) = some (.int .i64 ((rd_T64 l0_0 (ji15)).f0)) ∧ w'.cell? ⟨(ad259.add (((ji15)).toNat * 4)).block, (ad259.add (((ji15)).toNat * 4)).off + 1, none⟩ = some (.int .i64 ((rd_T64 l0_0 (ji15)).f1)) ∧ w'.cell? ⟨(ad259.add (((ji15)).toNat * 4)).block, (ad259.add (((ji15)).toNat * 4)).off + 2, none⟩ = some (.int .i64 ((rd_T64 l0_0 (ji15)).f2)) ∧ w'.cell? ⟨(ad259.add (((ji15)).toNat * 4)).block, (ad259.add (((ji15)).toNat * 4)).off + 3, none⟩ = some (.string ((rd_T64 l0_0 (ji15)).f3))) (ds := []) ⟨(blk_cell BK260.out 0).trans rfl, (blk_cell BK260.out 1).trans rfl, (blk_cell BK260.out 2).trans rfl, (blk_cell BK260.out 3).trans rfl, (blk_cell BK258.out 0).trans rfl, (blk_cell BK258.out 1).trans rfl, ((HB.out.cell (World.block_lt_of_cell? w _ hw262_0)).trans hw262_0), ((HB.out.cell (World.block_lt_of_cell? w _ hw262_1)).trans hw262_1), ((HB.out.cell (World.block_lt_of_cell? w _ hw262_2)).trans hw262_2), ((HB.out.cell (World.block_lt_of_cell? w _ hw262_3)).trans hw262_3), ((HB.out.cell (World.block_lt_of_cell? w _ hw263_0)).trans hw263_0), ((HB.out.cell (World.block_lt_of_cell? w _ hw263_1)).trans hw263_1), ((HB.out.cell (World.block_lt_of_cell? w _ hw263_2)).trans hw263_2), ((HB.out.cell (World.block_lt_of_cell? w _ hw263_3)).trans hw263_3)⟩ (fun hHeld => ?_); refine with_tabW impl_QueueOK.tab6 impl_QueueOK.bits6 (fun HT_ HW_ => ?_)
               generalize w29.drew = w30 at BK258 BK260 HB hx262_0 hx262_1 hx262_2 hx262_3 hx263_0 hx263_1 hx263_2 hx263_3 hHeld ⊢
               refine tU_ ?_
               refine oU_ (fun K hK => ?_)
               refine gU_ Try.func56 #[.agg #[.int .i64 ((rd_T64 l0_0 x20_2).f0), .int .i64 ((rd_T64 l0_0 x20_2).f1), .int .i64 ((rd_T64 l0_0 x20_2).f2), .string ((rd_T64 l0_0 x20_2).f3)]] ?_
               with_reducible refine (impl_ReportOK.calls ((rd_T64 l0_0 x20_2).f0) ((rd_T64 l0_0 x20_2).f1) ((rd_T64 l0_0 x20_2).f2) ((rd_T64 l0_0 x20_2).f3) true _ A12.out).mono ?_
               rintro e w31 ⟨rfl, hb⟩
               refine ⟨_, rfl, ?_⟩
               replace BK258 := blkB_ (g := gb258) (o := .cells #[.slice (some ad259) l0_0.length c0_0, .slice A0_1 l0_1.length c0_1] 49 (0, 0)) hb
               replace BK260 := blkB_ (g := gb260) (o := .cells #[.int .i64 ((rd_T64 l0_0 x20_2).f0), .int .i64 ((rd_T64 l0_0 x20_2).f1), .int .i64 ((rd_T64 l0_0 x20_2).f2), .string ((rd_T64 l0_0 x20_2).f3)] 64 (0, 0)) hb
               replace HB := Aside0.mk (below_step (by repeat (first | (with_reducible first | exact HB.out | apply below_alloc | apply pw_below_drewN | apply below_drew1 | refine below_set ?_ GE258.out | refine below_set ?_ GE260.out) | exact HB.out)) hb)
               (try clear hb)
               (try clear hb2)
               (try clear hk)
               (try clear hi)
               refine hK.out _ _ ⟨(blk_cell BK260.out 0).trans rfl, (blk_cell BK260.out 1).trans rfl, (blk_cell BK260.out 2).trans rfl, (blk_cell BK260.out 3).trans rfl, (blk_cell BK258.out 0).trans rfl, (blk_cell BK258.out 1).trans rfl, ((HB.out.cell (World.block_lt_of_cell? w _ hw262_0)).trans hw262_0), ((HB.out.cell (World.block_lt_of_cell? w _ hw262_1)).trans hw262_1), ((HB.out.cell (World.block_lt_of_cell? w _ hw262_2)).trans hw262_2), ((HB.out.cell (World.block_lt_of_cell? w _ hw262_3)).trans hw262_3), ((HB.out.cell (World.block_lt_of_cell? w _ hw263_0)).trans hw263_0), ((HB.out.cell (World.block_lt_of_cell? w _ hw263_1)).trans hw263_1), ((HB.out.cell (World.block_lt_of_cell? w _ hw263_2)).trans hw263_2), ((HB.out.cell (World.block_lt_of_cell? w _ hw263_3)).trans hw263_3)⟩ (fun hHeld => ?_)
               clear hK K
               refine nU_ ?_
               iterate 6 refine pU_ ?_
               refine pUX_ 9 ?_
               refine pUX_ 11 ?_
               refine pUX_ 12 ?_
               refine tU_ ?_
               refine aU_ ?_
               refine tU_ ?_
               iterate 2 refine aU_ ?_
               iterate 2 refine pU_ ?_
               refine tU_ ?_
               iterate 3 refine pU_ ?_
               refine pUX_ 20 ?_
               refine pUX_ 22 ?_
               refine pUX_ 23 ?_
               refine tU_ ?_
               refine aU_ ?_
               refine tU_ ?_
               iterate 2 refine aU_ ?_
               iterate 2 refine pU_ ?_
               refine tU_ ?_
               iterate 4 refine pU_ ?_
               refine doneU_ ?_
               try go_wp2
               go_ret
               exact ⟨by first | rfl | (simp [errW_none, errW_some] <;> rfl) | (simp only [← hji15]; first | rfl | (simp [errW_none, errW_some] <;> rfl)) | (simp [*, errW_none, errW_some] <;> rfl), by repeat (first | (with_reducible first | exact HB.out | apply below_alloc | apply pw_below_drewN | apply below_drew1 | refine below_set ?_ GE258.out | refine below_set ?_ GE260.out) | exact HB.out)⟩
              ·
               rw [if_neg c25] at H
               have c25b0 : decide (((rd_T64 l0_0 x20_2).f1) < ((rd_T64 l0_0 (ji15)).f1)) = false := decide_eq_false c25
               clear c25
               have H' := Aside0.mk H
               clear H
               have p259 : 0 ≤ (x20_2 : Int) := of_decide_eq_true (by first | (with_reducible assumption) | assumption)
               have q259 : x20_2 < (l0_0.length : Int) := of_decide_eq_true (by first | (with_reducible assumption) | assumption)
               obtain ⟨ad259, e259, hx259_0, hx259_1, hx259_2, hx259_3⟩ := at_T64 HR0_0.out x20_2 p259 q259
               cases e259
               replace hx259_0 := (HB.out.cell (World.block_lt_of_cell? w _ hx259_0)).trans hx259_0
               replace hx259_1 := (HB.out.cell (World.block_lt_of_cell? w _ hx259_1)).trans hx259_1
               replace hx259_2 := (HB.out.cell (World.block_lt_of_cell? w _ hx259_2)).trans hx259_2
               replace hx259_3 := (HB.out.cell (World.block_lt_of_cell? w _ hx259_3)).trans hx259_3
               replace p259 := eq_true p259
               replace q259 := eq_true q259
               try go_wp2_with (first | ((with_reducible refine gate_dst (N := 4) rfl ?_); (try (refine gate_guard (by rfl) ?_; dsimp only)); refine box_event ?hg (N := 4) ?hd (cs := #[.int .i64 0, .int .i64 0, .int .i64 0, .string (⟨#[]⟩ : ByteArray)]) (t := 64) ?hr ?_; (case hd => rfl); (case hg => rfl); (case hr => first | (go_simp; done) | (go_simp; rfl)); intro gb260 hg w32 hbox hb; have n0_ := blkB_ (g := gb258) (o := .cells #[.slice (some ad259) l0_0.length c0_0, .slice A0_1 l0_1.length c0_1] 49 (0, 0)) hb; have n1_ := belB_ hb; have n2_ := Aside0.mk (hbox); have n3_ := Aside0.mk ((by rw [hg]; exact (below_size (by repeat (first | (with_reducible first | exact HB.out | apply below_alloc | apply pw_below_drewN | apply below_drew1 | refine below_set ?_ GE258.out) | exact HB.out))) : w.heap.size ≤ gb260)); have n4_ := Aside0.mk ((by rw [hg]; exact (below_size (by repeat (first | (with_reducible first | exact HB.out | apply below_alloc | apply pw_below_drewN | apply below_drew1 | refine below_set ?_ GE258.out) | exact HB.out))) : w.heap.size ≤ gb260)); have n5_ := Aside0.mk ((by rw [hg]; exact Nat.ne_of_lt (blk_lt (g := gb258) (o := .cells #[.slice (some ad259) l0_0.length c0_0, .slice A0_1 l0_1.length c0_1] 49 (0, 0)) (by (with_reducible repeat (first | refine blk_drewN ?_ _ | refine blk_drew ?_ | refine blk_alloc ?_ _)); exact BK258.out)) : gb258 ≠ gb260)); have n6_ := Aside0.mk ((by rw [hg]; exact Nat.ne_of_gt (blk_lt (g := gb258) (o := .cells #[.slice (some ad259) l0_0.length c0_0, .slice A0_1 l0_1.length c0_1] 49 (0, 0)) (by (with_reducible repeat (first | refine blk_drewN ?_ _ | refine blk_drew ?_ | refine blk_alloc ?_ _)); exact BK258.out)) : gb260 ≠ gb258)); clear BK258; clear HB; have BK258 := n0_; have HB := n1_; have BK260 := n2_; have GW260 := n3_; have GE260 := n4_; have NB258_260 := n5_; have NB260_258 := n6_; clear n0_ n1_ n2_ n3_ n4_ n5_ n6_; clear hb hbox hg; have hnb33 := NB260_258.out; have hnc33 := NB258_260.out; obtain ⟨hcz34_0, hcz34_1, hcz34_2, hcz34_3, hfz34_0, hfz34_1, hfz34_2, hfz34_3⟩ := cz4_ BK260))
               have n0_ : Aside0 (((((w32.setCell ⟨gb260, 0, none⟩ (.int .i64 ((rd_T64 l0_0 x20_2).f0))).setCell ⟨gb260, 1, none⟩ (.int .i64 ((rd_T64 l0_0 x20_2).f1))).setCell ⟨gb260, 2, none⟩ (.int .i64 ((rd_T64 l0_0 x20_2).f2))).setCell ⟨gb260, 3, none⟩ (.string ((rd_T64 l0_0 x20_2).f3))).heap[gb258]? = some (.cells #[.slice (some ad259) l0_0.length c0_0, .slice A0_1 l0_1.length c0_1] 49 (0, 0))) := ⟨farE_⟩
               have n1_ : Aside0 (((((w32.setCell ⟨gb260, 0, none⟩ (.int .i64 ((rd_T64 l0_0 x20_2).f0))).setCell ⟨gb260, 1, none⟩ (.int .i64 ((rd_T64 l0_0 x20_2).f1))).setCell ⟨gb260, 2, none⟩ (.int .i64 ((rd_T64 l0_0 x20_2).f2))).setCell ⟨gb260, 3, none⟩ (.string ((rd_T64 l0_0 x20_2).f3))).heap[gb260]? = some (.cells #[.int .i64 ((rd_T64 l0_0 x20_2).f0), .int .i64 ((rd_T64 l0_0 x20_2).f1), .int .i64 ((rd_T64 l0_0 x20_2).f2), .string ((rd_T64 l0_0 x20_2).f3)] 64 (0, 0))) := ⟨by (with_reducible repeat (first | refine blk_drewN ?_ _ | refine blk_drew ?_ | refine blk_alloc ?_ _)); refine blk_put (cs := #[.int .i64 ((rd_T64 l0_0 x20_2).f0), .int .i64 ((rd_T64 l0_0 x20_2).f1), .int .i64 ((rd_T64 l0_0 x20_2).f2), .string (⟨#[]⟩ : ByteArray)]) ?_ 3 _ rfl; (with_reducible repeat (first | refine blk_drewN ?_ _ | refine blk_drew ?_ | refine blk_alloc ?_ _)); refine blk_put (cs := #[.int .i64 ((rd_T64 l0_0 x20_2).f0), .int .i64 ((rd_T64 l0_0 x20_2).f1), .int .i64 0, .string (⟨#[]⟩ : ByteArray)]) ?_ 2 _ rfl; (with_reducible repeat (first | refine blk_drewN ?_ _ | refine blk_drew ?_ | refine blk_alloc ?_ _)); refine blk_put (cs := #[.int .i64 ((rd_T64 l0_0 x20_2).f0), .int .i64 0, .int .i64 0, .string (⟨#[]⟩ : ByteArray)]) ?_ 1 _ rfl; (with_reducible repeat (first | refine blk_drewN ?_ _ | refine blk_drew ?_ | refine blk_alloc ?_ _)); refine blk_put (cs := #[.int .i64 0, .int .i64 0, .int .i64 0, .string (⟨#[]⟩ : ByteArray)]) ?_ 0 _ rfl; (with_reducible repeat (first | refine blk_drewN ?_ _ | refine blk_drew ?_ | refine blk_alloc ?_ _)); exact BK260.out⟩
               have n2_ : Aside0 (Below w.heap.size w ((((w32.setCell ⟨gb260, 0, none⟩ (.int .i64 ((rd_T64 l0_0 x20_2).f0))).setCell ⟨gb260, 1, none⟩ (.int .i64 ((rd_T64 l0_0 x20_2).f1))).setCell ⟨gb260, 2, none⟩ (.int .i64 ((rd_T64 l0_0 x20_2).f2))).setCell ⟨gb260, 3, none⟩ (.string ((rd_T64 l0_0 x20_2).f3)))) := ⟨by repeat (first | (with_reducible first | exact HB.out | apply below_alloc | apply pw_below_drewN | apply below_drew1 | refine below_set ?_ GE258.out | refine below_set ?_ GE260.out) | exact HB.out)⟩
               (try clear BK258)
               (try clear BK260)
               (try clear HB)
               generalize ((((w32.setCell ⟨gb260, 0, none⟩ (.int .i64 ((rd_T64 l0_0 x20_2).f0))).setCell ⟨gb260, 1, none⟩ (.int .i64 ((rd_T64 l0_0 x20_2).f1))).setCell ⟨gb260, 2, none⟩ (.int .i64 ((rd_T64 l0_0 x20_2).f2))).setCell ⟨gb260, 3, none⟩ (.string ((rd_T64 l0_0 x20_2).f3))) = w35 at n0_ n1_ n2_ ⊢
               have BK258 := n0_
               have BK260 := n1_
               have HB := n2_
               clear n0_ n1_ n2_
               replace BK258 := Aside0.mk (blk_drew BK258.out)
               replace BK260 := Aside0.mk (blk_drew BK260.out)
               replace HB := Aside0.mk (below_drew1 HB.out)
               have p262 : 0 ≤ ((ji15) : Int) := of_decide_eq_true (by first | (with_reducible assumption) | assumption)
               have q262 : (ji15) < (l0_0.length : Int) := of_decide_eq_true (by first | (with_reducible assumption) | assumption)
               obtain ⟨ad262, e262, hx262_0, hx262_1, hx262_2, hx262_3⟩ := at_T64 HR0_0.out (ji15) p262 q262
               have hw262_3 := hx262_3
               have hw262_2 := hx262_2
               have hw262_1 := hx262_1
               have hw262_0 := hx262_0
               obtain rfl : ad259 = ad262 := (by injection e262)
               replace hx262_0 := (HB.out.cell (World.block_lt_of_cell? w _ hx262_0)).trans hx262_0
               replace hx262_1 := (HB.out.cell (World.block_lt_of_cell? w _ hx262_1)).trans hx262_1
               replace hx262_2 := (HB.out.cell (World.block_lt_of_cell? w _ hx262_2)).trans hx262_2
               replace hx262_3 := (HB.out.cell (World.block_lt_of_cell? w _ hx262_3)).trans hx262_3
               replace p262 := eq_true p262
               replace q262 := eq_true q262
               have p263 : 0 ≤ ((ji15) : Int) := of_decide_eq_true (by first | (with_reducible assumption) | assumption)
               have q263 : (ji15) < (l0_0.length : Int) := of_decide_eq_true (by first | (with_reducible assumption) | assumption)
               obtain ⟨ad263, e263, hx263_0, hx263_1, hx263_2, hx263_3⟩ := at_T64 HR0_0.out (ji15) p263 q263
               have hw263_3 := hx263_3
               have hw263_2 := hx263_2
               have hw263_1 := hx263_1
               have hw263_0 := hx263_0
               obtain rfl : ad259 = ad263 := (by injection e263)
               replace hx263_0 := (HB.out.cell (World.block_lt_of_cell? w _ hx263_0)).trans hx263_0
               replace hx263_1 := (HB.out.cell (World.block_lt_of_cell? w _ hx263_1)).trans hx263_1
               replace hx263_2 := (HB.out.cell (World.block_lt_of_cell? w _ hx263_2)).trans hx263_2
               replace hx263_3 := (HB.out.cell (World.block_lt_of_cell? w _ hx263_3)).trans hx263_3
               replace p263 := eq_true p263
               replace q263 := eq_true q263
               refine startU_ (n := 31) (S := fun w' => w'.cell? ⟨gb260, 0, none⟩ = some (.int .i64 ((rd_T64 l0_0 x20_2).f0)) ∧ w'.cell? ⟨gb260, 1, none⟩ = some (.int .i64 ((rd_T64 l0_0 x20_2).f1)) ∧ w'.cell? ⟨gb260, 2, none⟩ = some (.int .i64 ((rd_T64 l0_0 x20_2).f2)) ∧ w'.cell? ⟨gb260, 3, none⟩ = some (.string ((rd_T64 l0_0 x20_2).f3)) ∧ w'.cell? ⟨gb258, 0, none⟩ = some (.slice (some ad259) l0_0.length c0_0) ∧ w'.cell? ⟨gb258, 1, none⟩ = some (.slice A0_1 l0_1.length c0_1) ∧ w'.cell? (ad259.add (((ji15)).toNat * 4)) = some (.int .i64 ((rd_T64 l0_0 (ji15)).f0)) ∧ w'.cell? ⟨(ad259.add (((ji15)).toNat * 4)).block, (ad259.add (((ji15)).toNat * 4)).off + 1, none⟩ = some (.int .i64 ((rd_T64 l0_0 (ji15)).f1)) ∧ w'.cell? ⟨(ad259.add (((ji15)).toNat * 4)).block, (ad259.add (((ji15)).toNat * 4)).off + 2, none⟩ = some (.int .i64 ((rd_T64 l0_0 (ji15)).f2)) ∧ w'.cell? ⟨(ad259.add (((ji15)).toNat * 4)).block, (ad259.add (((ji15)).toNat * 4)).off + 3, none⟩ = some (.string ((rd_T64 l0_0 (ji15)).f3)) ∧ w'.cell? (ad259.add (((ji15)).toNat * 4)) = some (.int .i64 ((rd_T64 l0_0 (ji15)).f0)) ∧ w'.cell? ⟨(ad259.add (((ji15)).toNat * 4)).block, (ad259.add (((ji15)).toNat * 4)).off + 1, none⟩ = some (.int .i64 ((rd_T64 l0_0 (ji15)).f1)) ∧ w'.cell? ⟨(ad259.add (((ji15)).toNat * 4)).block, (ad259.add (((ji15)).toNat * 4)).off + 2, none⟩ = some (.int .i64 ((rd_T64 l0_0 (ji15)).f2)) ∧ w'.cell? ⟨(ad259.add (((ji15)).toNat * 4)).block, (ad259.add (((ji15)).toNat * 4)).off + 3, none⟩ = some (.string ((rd_T64 l0_0 (ji15)).f3))) (ds := []) ⟨(blk_cell BK260.out 0).trans rfl, (blk_cell BK260.out 1).trans rfl, (blk_cell BK260.out 2).trans rfl, (blk_cell BK260.out 3).trans rfl, (blk_cell BK258.out 0).trans rfl, (blk_cell BK258.out 1).trans rfl, ((HB.out.cell (World.block_lt_of_cell? w _ hw262_0)).trans hw262_0), ((HB.out.cell (World.block_lt_of_cell? w _ hw262_1)).trans hw262_1), ((HB.out.cell (World.block_lt_of_cell? w _ hw262_2)).trans hw262_2), ((HB.out.cell (World.block_lt_of_cell? w _ hw262_3)).trans hw262_3), ((HB.out.cell (World.block_lt_of_cell? w _ hw263_0)).trans hw263_0), ((HB.out.cell (World.block_lt_of_cell? w _ hw263_1)).trans hw263_1), ((HB.out.cell (World.block_lt_of_cell? w _ hw263_2)).trans hw263_2), ((HB.out.cell (World.block_lt_of_cell? w _ hw263_3)).trans hw263_3)⟩ (fun hHeld => ?_); refine with_tabW impl_QueueOK.tab6 impl_QueueOK.bits6 (fun HT_ HW_ => ?_)
               generalize w35.drew = w36 at BK258 BK260 HB hx262_0 hx262_1 hx262_2 hx262_3 hx263_0 hx263_1 hx263_2 hx263_3 hHeld ⊢
               refine tU_ ?_
               refine oU_ (fun K hK => ?_)
               refine gU_ Try.func56 #[.agg #[.int .i64 ((rd_T64 l0_0 x20_2).f0), .int .i64 ((rd_T64 l0_0 x20_2).f1), .int .i64 ((rd_T64 l0_0 x20_2).f2), .string ((rd_T64 l0_0 x20_2).f3)]] ?_
               with_reducible refine (impl_ReportOK.calls ((rd_T64 l0_0 x20_2).f0) ((rd_T64 l0_0 x20_2).f1) ((rd_T64 l0_0 x20_2).f2) ((rd_T64 l0_0 x20_2).f3) true _ A12.out).mono ?_
               rintro e w37 ⟨rfl, hb⟩
               refine ⟨_, rfl, ?_⟩
               replace BK258 := blkB_ (g := gb258) (o := .cells #[.slice (some ad259) l0_0.length c0_0, .slice A0_1 l0_1.length c0_1] 49 (0, 0)) hb
               replace BK260 := blkB_ (g := gb260) (o := .cells #[.int .i64 ((rd_T64 l0_0 x20_2).f0), .int .i64 ((rd_T64 l0_0 x20_2).f1), .int .i64 ((rd_T64 l0_0 x20_2).f2), .string ((rd_T64 l0_0 x20_2).f3)] 64 (0, 0)) hb
               replace HB := Aside0.mk (below_step (by repeat (first | (with_reducible first | exact HB.out | apply below_alloc | apply pw_below_drewN | apply below_drew1 | refine below_set ?_ GE258.out | refine below_set ?_ GE260.out) | exact HB.out)) hb)
               (try clear hb)
               (try clear hb2)
               (try clear hk)
               (try clear hi)
               refine hK.out _ _ ⟨(blk_cell BK260.out 0).trans rfl, (blk_cell BK260.out 1).trans rfl, (blk_cell BK260.out 2).trans rfl, (blk_cell BK260.out 3).trans rfl, (blk_cell BK258.out 0).trans rfl, (blk_cell BK258.out 1).trans rfl, ((HB.out.cell (World.block_lt_of_cell? w _ hw262_0)).trans hw262_0), ((HB.out.cell (World.block_lt_of_cell? w _ hw262_1)).trans hw262_1), ((HB.out.cell (World.block_lt_of_cell? w _ hw262_2)).trans hw262_2), ((HB.out.cell (World.block_lt_of_cell? w _ hw262_3)).trans hw262_3), ((HB.out.cell (World.block_lt_of_cell? w _ hw263_0)).trans hw263_0), ((HB.out.cell (World.block_lt_of_cell? w _ hw263_1)).trans hw263_1), ((HB.out.cell (World.block_lt_of_cell? w _ hw263_2)).trans hw263_2), ((HB.out.cell (World.block_lt_of_cell? w _ hw263_3)).trans hw263_3)⟩ (fun hHeld => ?_)
               clear hK K
               refine nU_ ?_
               iterate 6 refine pU_ ?_
               refine pUX_ 9 ?_
               refine pUX_ 11 ?_
               refine pUX_ 12 ?_
               refine tU_ ?_
               refine aU_ ?_
               refine tU_ ?_
               iterate 2 refine aU_ ?_
               iterate 2 refine pU_ ?_
               refine tU_ ?_
               iterate 3 refine pU_ ?_
               refine pUX_ 20 ?_
               refine pUX_ 22 ?_
               refine pUX_ 23 ?_
               refine tU_ ?_
               refine aU_ ?_
               refine tU_ ?_
               iterate 2 refine aU_ ?_
               iterate 2 refine pU_ ?_
               refine tU_ ?_
               iterate 4 refine pU_ ?_
               refine doneU_ ?_
               try go_wp2
               go_roundg k2
               case measure => have := HJ1.out; have := HK2.out; omega
               case rel => exact ⟨(wrap64 (x20_2 + 1)), eqE_, H', ⟨by have := HJ1.out; have := HK2.out; omega⟩, ⟨blkE_⟩, ⟨by repeat (first | (with_reducible first | exact HB.out | apply below_alloc | apply pw_below_drewN | apply below_drew1 | refine below_set ?_ GE258.out | refine below_set ?_ GE260.out) | exact HB.out)⟩⟩
            ·
             rw [if_neg c17] at H
             exact absurd H (by simp)
           ·
            rw [if_neg c16] at H
            exact absurd H (by simp)
          ·
           rw [if_neg c14] at H
           have c14b0 : decide (0 < x20_2) = false := decide_eq_false c14
           clear c14
           have H' := Aside0.mk H
           clear H
           have p259 : 0 ≤ (x20_2 : Int) := of_decide_eq_true (by first | (with_reducible assumption) | assumption)
           have q259 : x20_2 < (l0_0.length : Int) := of_decide_eq_true (by first | (with_reducible assumption) | assumption)
           obtain ⟨ad259, e259, hx259_0, hx259_1, hx259_2, hx259_3⟩ := at_T64 HR0_0.out x20_2 p259 q259
           cases e259
           replace hx259_0 := (HB.out.cell (World.block_lt_of_cell? w _ hx259_0)).trans hx259_0
           replace hx259_1 := (HB.out.cell (World.block_lt_of_cell? w _ hx259_1)).trans hx259_1
           replace hx259_2 := (HB.out.cell (World.block_lt_of_cell? w _ hx259_2)).trans hx259_2
           replace hx259_3 := (HB.out.cell (World.block_lt_of_cell? w _ hx259_3)).trans hx259_3
           replace p259 := eq_true p259
           replace q259 := eq_true q259
           try go_wp2_with (first | ((with_reducible refine gate_dst (N := 4) rfl ?_); (try (refine gate_guard (by rfl) ?_; dsimp only)); refine box_event ?hg (N := 4) ?hd (cs := #[.int .i64 0, .int .i64 0, .int .i64 0, .string (⟨#[]⟩ : ByteArray)]) (t := 64) ?hr ?_; (case hd => rfl); (case hg => rfl); (case hr => first | (go_simp; done) | (go_simp; rfl)); intro gb260 hg w38 hbox hb; have n0_ := blkB_ (g := gb258) (o := .cells #[.slice (some ad259) l0_0.length c0_0, .slice A0_1 l0_1.length c0_1] 49 (0, 0)) hb; have n1_ := belB_ hb; have n2_ := Aside0.mk (hbox); have n3_ := Aside0.mk ((by rw [hg]; exact (below_size (by repeat (first | (with_reducible first | exact HB.out | apply below_alloc | apply pw_below_drewN | apply below_drew1 | refine below_set ?_ GE258.out) | exact HB.out))) : w.heap.size ≤ gb260)); have n4_ := Aside0.mk ((by rw [hg]; exact (below_size (by repeat (first | (with_reducible first | exact HB.out | apply below_alloc | apply pw_below_drewN | apply below_drew1 | refine below_set ?_ GE258.out) | exact HB.out))) : w.heap.size ≤ gb260)); have n5_ := Aside0.mk ((by rw [hg]; exact Nat.ne_of_lt (blk_lt (g := gb258) (o := .cells #[.slice (some ad259) l0_0.length c0_0, .slice A0_1 l0_1.length c0_1] 49 (0, 0)) (by (with_reducible repeat (first | refine blk_drewN ?_ _ | refine blk_drew ?_ | refine blk_alloc ?_ _)); exact BK258.out)) : gb258 ≠ gb260)); have n6_ := Aside0.mk ((by rw [hg]; exact Nat.ne_of_gt (blk_lt (g := gb258) (o := .cells #[.slice (some ad259) l0_0.length c0_0, .slice A0_1 l0_1.length c0_1] 49 (0, 0)) (by (with_reducible repeat (first | refine blk_drewN ?_ _ | refine blk_drew ?_ | refine blk_alloc ?_ _)); exact BK258.out)) : gb260 ≠ gb258)); clear BK258; clear HB; have BK258 := n0_; have HB := n1_; have BK260 := n2_; have GW260 := n3_; have GE260 := n4_; have NB258_260 := n5_; have NB260_258 := n6_; clear n0_ n1_ n2_ n3_ n4_ n5_ n6_; clear hb hbox hg; have hnb39 := NB260_258.out; have hnc39 := NB258_260.out; obtain ⟨hcz40_0, hcz40_1, hcz40_2, hcz40_3, hfz40_0, hfz40_1, hfz40_2, hfz40_3⟩ := cz4_ BK260))
           have n0_ : Aside0 (((((w38.setCell ⟨gb260, 0, none⟩ (.int .i64 ((rd_T64 l0_0 x20_2).f0))).setCell ⟨gb260, 1, none⟩ (.int .i64 ((rd_T64 l0_0 x20_2).f1))).setCell ⟨gb260, 2, none⟩ (.int .i64 ((rd_T64 l0_0 x20_2).f2))).setCell ⟨gb260, 3, none⟩ (.string ((rd_T64 l0_0 x20_2).f3))).heap[gb258]? = some (.cells #[.slice (some ad259) l0_0.length c0_0, .slice A0_1 l0_1.length c0_1] 49 (0, 0))) := ⟨farE_⟩
           have n1_ : Aside0 (((((w38.setCell ⟨gb260, 0, none⟩ (.int .i64 ((rd_T64 l0_0 x20_2).f0))).setCell ⟨gb260, 1, none⟩ (.int .i64 ((rd_T64 l0_0 x20_2).f1))).setCell ⟨gb260, 2, none⟩ (.int .i64 ((rd_T64 l0_0 x20_2).f2))).setCell ⟨gb260, 3, none⟩ (.string ((rd_T64 l0_0 x20_2).f3))).heap[gb260]? = some (.cells #[.int .i64 ((rd_T64 l0_0 x20_2).f0), .int .i64 ((rd_T64 l0_0 x20_2).f1), .int .i64 ((rd_T64 l0_0 x20_2).f2), .string ((rd_T64 l0_0 x20_2).f3)] 64 (0, 0))) := ⟨by (with_reducible repeat (first | refine blk_drewN ?_ _ | refine blk_drew ?_ | refine blk_alloc ?_ _)); refine blk_put (cs := #[.int .i64 ((rd_T64 l0_0 x20_2).f0), .int .i64 ((rd_T64 l0_0 x20_2).f1), .int .i64 ((rd_T64 l0_0 x20_2).f2), .string (⟨#[]⟩ : ByteArray)]) ?_ 3 _ rfl; (with_reducible repeat (first | refine blk_drewN ?_ _ | refine blk_drew ?_ | refine blk_alloc ?_ _)); refine blk_put (cs := #[.int .i64 ((rd_T64 l0_0 x20_2).f0), .int .i64 ((rd_T64 l0_0 x20_2).f1), .int .i64 0, .string (⟨#[]⟩ : ByteArray)]) ?_ 2 _ rfl; (with_reducible repeat (first | refine blk_drewN ?_ _ | refine blk_drew ?_ | refine blk_alloc ?_ _)); refine blk_put (cs := #[.int .i64 ((rd_T64 l0_0 x20_2).f0), .int .i64 0, .int .i64 0, .string (⟨#[]⟩ : ByteArray)]) ?_ 1 _ rfl; (with_reducible repeat (first | refine blk_drewN ?_ _ | refine blk_drew ?_ | refine blk_alloc ?_ _)); refine blk_put (cs := #[.int .i64 0, .int .i64 0, .int .i64 0, .string (⟨#[]⟩ : ByteArray)]) ?_ 0 _ rfl; (with_reducible repeat (first | refine blk_drewN ?_ _ | refine blk_drew ?_ | refine blk_alloc ?_ _)); exact BK260.out⟩
           have n2_ : Aside0 (Below w.heap.size w ((((w38.setCell ⟨gb260, 0, none⟩ (.int .i64 ((rd_T64 l0_0 x20_2).f0))).setCell ⟨gb260, 1, none⟩ (.int .i64 ((rd_T64 l0_0 x20_2).f1))).setCell ⟨gb260, 2, none⟩ (.int .i64 ((rd_T64 l0_0 x20_2).f2))).setCell ⟨gb260, 3, none⟩ (.string ((rd_T64 l0_0 x20_2).f3)))) := ⟨by repeat (first | (with_reducible first | exact HB.out | apply below_alloc | apply pw_below_drewN | apply below_drew1 | refine below_set ?_ GE258.out | refine below_set ?_ GE260.out) | exact HB.out)⟩
           (try clear BK258)
           (try clear BK260)
           (try clear HB)
           generalize ((((w38.setCell ⟨gb260, 0, none⟩ (.int .i64 ((rd_T64 l0_0 x20_2).f0))).setCell ⟨gb260, 1, none⟩ (.int .i64 ((rd_T64 l0_0 x20_2).f1))).setCell ⟨gb260, 2, none⟩ (.int .i64 ((rd_T64 l0_0 x20_2).f2))).setCell ⟨gb260, 3, none⟩ (.string ((rd_T64 l0_0 x20_2).f3))) = w41 at n0_ n1_ n2_ ⊢
           have BK258 := n0_
           have BK260 := n1_
           have HB := n2_
           clear n0_ n1_ n2_
           replace BK258 := Aside0.mk (blk_drew BK258.out)
           replace BK260 := Aside0.mk (blk_drew BK260.out)
           replace HB := Aside0.mk (below_drew1 HB.out)
           refine startU_ (n := 31) (S := fun w' => w'.cell? ⟨gb260, 0, none⟩ = some (.int .i64 ((rd_T64 l0_0 x20_2).f0)) ∧ w'.cell? ⟨gb260, 1, none⟩ = some (.int .i64 ((rd_T64 l0_0 x20_2).f1)) ∧ w'.cell? ⟨gb260, 2, none⟩ = some (.int .i64 ((rd_T64 l0_0 x20_2).f2)) ∧ w'.cell? ⟨gb260, 3, none⟩ = some (.string ((rd_T64 l0_0 x20_2).f3))) (ds := []) (held4_ BK260.out) (fun hHeld => ?_); refine with_tabW impl_QueueOK.tab6 impl_QueueOK.bits6 (fun HT_ HW_ => ?_)
           generalize w41.drew = w42 at BK258 BK260 HB hHeld ⊢
           refine tU_ ?_
           refine oU_ (fun K hK => ?_)
           refine gU_ Try.func56 #[.agg #[.int .i64 ((rd_T64 l0_0 x20_2).f0), .int .i64 ((rd_T64 l0_0 x20_2).f1), .int .i64 ((rd_T64 l0_0 x20_2).f2), .string ((rd_T64 l0_0 x20_2).f3)]] ?_
           with_reducible refine (impl_ReportOK.calls ((rd_T64 l0_0 x20_2).f0) ((rd_T64 l0_0 x20_2).f1) ((rd_T64 l0_0 x20_2).f2) ((rd_T64 l0_0 x20_2).f3) true _ A12.out).mono ?_
           rintro e w43 ⟨rfl, hb⟩
           refine ⟨_, rfl, ?_⟩
           replace BK258 := blkB_ (g := gb258) (o := .cells #[.slice (some ad259) l0_0.length c0_0, .slice A0_1 l0_1.length c0_1] 49 (0, 0)) hb
           replace BK260 := blkB_ (g := gb260) (o := .cells #[.int .i64 ((rd_T64 l0_0 x20_2).f0), .int .i64 ((rd_T64 l0_0 x20_2).f1), .int .i64 ((rd_T64 l0_0 x20_2).f2), .string ((rd_T64 l0_0 x20_2).f3)] 64 (0, 0)) hb
           replace HB := Aside0.mk (below_step (by repeat (first | (with_reducible first | exact HB.out | apply below_alloc | apply pw_below_drewN | apply below_drew1 | refine below_set ?_ GE258.out | refine below_set ?_ GE260.out) | exact HB.out)) hb)
           (try clear hb)
           (try clear hb2)
           (try clear hk)
           (try clear hi)
           refine hK.out _ _ (held4_ BK260.out) (fun hHeld => ?_)
           clear hK K
           refine nU_ ?_
           iterate 5 refine pU_ ?_
           iterate 22 refine sU_ ?_
           iterate 2 refine pU_ ?_
           refine doneU_ ?_
           try go_wp2
           go_roundg k2
           case measure => have := HJ1.out; have := HK2.out; omega
           case rel => exact ⟨(wrap64 (x20_2 + 1)), eqE_, H', ⟨by have := HJ1.out; have := HK2.out; omega⟩, ⟨blkE_⟩, ⟨by repeat (first | (with_reducible first | exact HB.out | apply below_alloc | apply pw_below_drewN | apply below_drew1 | refine below_set ?_ GE258.out | refine below_set ?_ GE260.out) | exact HB.out)⟩⟩
         ·
          replace c13 := Bool.eq_false_iff.mpr c13
          subst c13
          replace H := ifF_ H
          obtain rfl := Option.some.inj H
          have p259 : 0 ≤ (x20_2 : Int) := of_decide_eq_true (by first | (with_reducible assumption) | assumption)
          have q259 : x20_2 < (l0_0.length : Int) := of_decide_eq_true (by first | (with_reducible assumption) | assumption)
          obtain ⟨ad259, e259, hx259_0, hx259_1, hx259_2, hx259_3⟩ := at_T64 HR0_0.out x20_2 p259 q259
          cases e259
          replace hx259_0 := (HB.out.cell (World.block_lt_of_cell? w _ hx259_0)).trans hx259_0
          replace hx259_1 := (HB.out.cell (World.block_lt_of_cell? w _ hx259_1)).trans hx259_1
          replace hx259_2 := (HB.out.cell (World.block_lt_of_cell? w _ hx259_2)).trans hx259_2
          replace hx259_3 := (HB.out.cell (World.block_lt_of_cell? w _ hx259_3)).trans hx259_3
          replace p259 := eq_true p259
          replace q259 := eq_true q259
          try go_wp2_with (first | ((with_reducible refine gate_dst (N := 4) rfl ?_); (try (refine gate_guard (by rfl) ?_; dsimp only)); refine box_event ?hg (N := 4) ?hd (cs := #[.int .i64 0, .int .i64 0, .int .i64 0, .string (⟨#[]⟩ : ByteArray)]) (t := 64) ?hr ?_; (case hd => rfl); (case hg => rfl); (case hr => first | (go_simp; done) | (go_simp; rfl)); intro gb260 hg w44 hbox hb; have n0_ := blkB_ (g := gb258) (o := .cells #[.slice (some ad259) l0_0.length c0_0, .slice A0_1 l0_1.length c0_1] 49 (0, 0)) hb; have n1_ := belB_ hb; have n2_ := Aside0.mk (hbox); have n3_ := Aside0.mk ((by rw [hg]; exact (below_size (by repeat (first | (with_reducible first | exact HB.out | apply below_alloc | apply pw_below_drewN | apply below_drew1 | refine below_set ?_ GE258.out) | exact HB.out))) : w.heap.size ≤ gb260)); have n4_ := Aside0.mk ((by rw [hg]; exact (below_size (by repeat (first | (with_reducible first | exact HB.out | apply below_alloc | apply pw_below_drewN | apply below_drew1 | refine below_set ?_ GE258.out) | exact HB.out))) : w.heap.size ≤ gb260)); have n5_ := Aside0.mk ((by rw [hg]; exact Nat.ne_of_lt (blk_lt (g := gb258) (o := .cells #[.slice (some ad259) l0_0.length c0_0, .slice A0_1 l0_1.length c0_1] 49 (0, 0)) (by (with_reducible repeat (first | refine blk_drewN ?_ _ | refine blk_drew ?_ | refine blk_alloc ?_ _)); exact BK258.out)) : gb258 ≠ gb260)); have n6_ := Aside0.mk ((by rw [hg]; exact Nat.ne_of_gt (blk_lt (g := gb258) (o := .cells #[.slice (some ad259) l0_0.length c0_0, .slice A0_1 l0_1.length c0_1] 49 (0, 0)) (by (with_reducible repeat (first | refine blk_drewN ?_ _ | refine blk_drew ?_ | refine blk_alloc ?_ _)); exact BK258.out)) : gb260 ≠ gb258)); clear BK258; clear HB; have BK258 := n0_; have HB := n1_; have BK260 := n2_; have GW260 := n3_; have GE260 := n4_; have NB258_260 := n5_; have NB260_258 := n6_; clear n0_ n1_ n2_ n3_ n4_ n5_ n6_; clear hb hbox hg; have hnb45 := NB260_258.out; have hnc45 := NB258_260.out; obtain ⟨hcz46_0, hcz46_1, hcz46_2, hcz46_3, hfz46_0, hfz46_1, hfz46_2, hfz46_3⟩ := cz4_ BK260))
          have n0_ : Aside0 (((((w44.setCell ⟨gb260, 0, none⟩ (.int .i64 ((rd_T64 l0_0 x20_2).f0))).setCell ⟨gb260, 1, none⟩ (.int .i64 ((rd_T64 l0_0 x20_2).f1))).setCell ⟨gb260, 2, none⟩ (.int .i64 ((rd_T64 l0_0 x20_2).f2))).setCell ⟨gb260, 3, none⟩ (.string ((rd_T64 l0_0 x20_2).f3))).heap[gb258]? = some (.cells #[.slice (some ad259) l0_0.length c0_0, .slice A0_1 l0_1.length c0_1] 49 (0, 0))) := ⟨farE_⟩
          have n1_ : Aside0 (((((w44.setCell ⟨gb260, 0, none⟩ (.int .i64 ((rd_T64 l0_0 x20_2).f0))).setCell ⟨gb260, 1, none⟩ (.int .i64 ((rd_T64 l0_0 x20_2).f1))).setCell ⟨gb260, 2, none⟩ (.int .i64 ((rd_T64 l0_0 x20_2).f2))).setCell ⟨gb260, 3, none⟩ (.string ((rd_T64 l0_0 x20_2).f3))).heap[gb260]? = some (.cells #[.int .i64 ((rd_T64 l0_0 x20_2).f0), .int .i64 ((rd_T64 l0_0 x20_2).f1), .int .i64 ((rd_T64 l0_0 x20_2).f2), .string ((rd_T64 l0_0 x20_2).f3)] 64 (0, 0))) := ⟨by (with_reducible repeat (first | refine blk_drewN ?_ _ | refine blk_drew ?_ | refine blk_alloc ?_ _)); refine blk_put (cs := #[.int .i64 ((rd_T64 l0_0 x20_2).f0), .int .i64 ((rd_T64 l0_0 x20_2).f1), .int .i64 ((rd_T64 l0_0 x20_2).f2), .string (⟨#[]⟩ : ByteArray)]) ?_ 3 _ rfl; (with_reducible repeat (first | refine blk_drewN ?_ _ | refine blk_drew ?_ | refine blk_alloc ?_ _)); refine blk_put (cs := #[.int .i64 ((rd_T64 l0_0 x20_2).f0), .int .i64 ((rd_T64 l0_0 x20_2).f1), .int .i64 0, .string (⟨#[]⟩ : ByteArray)]) ?_ 2 _ rfl; (with_reducible repeat (first | refine blk_drewN ?_ _ | refine blk_drew ?_ | refine blk_alloc ?_ _)); refine blk_put (cs := #[.int .i64 ((rd_T64 l0_0 x20_2).f0), .int .i64 0, .int .i64 0, .string (⟨#[]⟩ : ByteArray)]) ?_ 1 _ rfl; (with_reducible repeat (first | refine blk_drewN ?_ _ | refine blk_drew ?_ | refine blk_alloc ?_ _)); refine blk_put (cs := #[.int .i64 0, .int .i64 0, .int .i64 0, .string (⟨#[]⟩ : ByteArray)]) ?_ 0 _ rfl; (with_reducible repeat (first | refine blk_drewN ?_ _ | refine blk_drew ?_ | refine blk_alloc ?_ _)); exact BK260.out⟩
          have n2_ : Aside0 (Below w.heap.size w ((((w44.setCell ⟨gb260, 0, none⟩ (.int .i64 ((rd_T64 l0_0 x20_2).f0))).setCell ⟨gb260, 1, none⟩ (.int .i64 ((rd_T64 l0_0 x20_2).f1))).setCell ⟨gb260, 2, none⟩ (.int .i64 ((rd_T64 l0_0 x20_2).f2))).setCell ⟨gb260, 3, none⟩ (.string ((rd_T64 l0_0 x20_2).f3)))) := ⟨by repeat (first | (with_reducible first | exact HB.out | apply below_alloc | apply pw_below_drewN | apply below_drew1 | refine below_set ?_ GE258.out | refine below_set ?_ GE260.out) | exact HB.out)⟩
          (try clear BK258)
          (try clear BK260)
          (try clear HB)
          generalize ((((w44.setCell ⟨gb260, 0, none⟩ (.int .i64 ((rd_T64 l0_0 x20_2).f0))).setCell ⟨gb260, 1, none⟩ (.int .i64 ((rd_T64 l0_0 x20_2).f1))).setCell ⟨gb260, 2, none⟩ (.int .i64 ((rd_T64 l0_0 x20_2).f2))).setCell ⟨gb260, 3, none⟩ (.string ((rd_T64 l0_0 x20_2).f3))) = w47 at n0_ n1_ n2_ ⊢
          have BK258 := n0_
          have BK260 := n1_
          have HB := n2_
          clear n0_ n1_ n2_
          replace BK258 := Aside0.mk (blk_drew BK258.out)
          replace BK260 := Aside0.mk (blk_drew BK260.out)
          replace HB := Aside0.mk (below_drew1 HB.out)
          refine startU_ (n := 31) (S := fun w' => w'.cell? ⟨gb260, 0, none⟩ = some (.int .i64 ((rd_T64 l0_0 x20_2).f0)) ∧ w'.cell? ⟨gb260, 1, none⟩ = some (.int .i64 ((rd_T64 l0_0 x20_2).f1)) ∧ w'.cell? ⟨gb260, 2, none⟩ = some (.int .i64 ((rd_T64 l0_0 x20_2).f2)) ∧ w'.cell? ⟨gb260, 3, none⟩ = some (.string ((rd_T64 l0_0 x20_2).f3))) (ds := []) (held4_ BK260.out) (fun hHeld => ?_); refine with_tabW impl_QueueOK.tab6 impl_QueueOK.bits6 (fun HT_ HW_ => ?_)
          generalize w47.drew = w48 at BK258 BK260 HB hHeld ⊢
          refine tU_ ?_
          refine oU_ (fun K hK => ?_)
          refine gU_ Try.func56 #[.agg #[.int .i64 ((rd_T64 l0_0 x20_2).f0), .int .i64 ((rd_T64 l0_0 x20_2).f1), .int .i64 ((rd_T64 l0_0 x20_2).f2), .string ((rd_T64 l0_0 x20_2).f3)]] ?_
          with_reducible refine (impl_ReportOK.calls ((rd_T64 l0_0 x20_2).f0) ((rd_T64 l0_0 x20_2).f1) ((rd_T64 l0_0 x20_2).f2) ((rd_T64 l0_0 x20_2).f3) false _ A12.out).mono ?_
          rintro e w49 ⟨rfl, hb⟩
          refine ⟨_, rfl, ?_⟩
          replace BK258 := blkB_ (g := gb258) (o := .cells #[.slice (some ad259) l0_0.length c0_0, .slice A0_1 l0_1.length c0_1] 49 (0, 0)) hb
          replace BK260 := blkB_ (g := gb260) (o := .cells #[.int .i64 ((rd_T64 l0_0 x20_2).f0), .int .i64 ((rd_T64 l0_0 x20_2).f1), .int .i64 ((rd_T64 l0_0 x20_2).f2), .string ((rd_T64 l0_0 x20_2).f3)] 64 (0, 0)) hb
          replace HB := Aside0.mk (below_step (by repeat (first | (with_reducible first | exact HB.out | apply below_alloc | apply pw_below_drewN | apply below_drew1 | refine below_set ?_ GE258.out | refine below_set ?_ GE260.out) | exact HB.out)) hb)
          (try clear hb)
          (try clear hb2)
          (try clear hk)
          (try clear hi)
          refine hK.out _ _ (held4_ BK260.out) (fun hHeld => ?_)
          clear hK K
          refine nU_ ?_
          iterate 2 refine pU_ ?_
          iterate 26 refine sU_ ?_
          refine pU_ ?_
          refine doneU_ ?_
          try go_wp2
          go_ret
          exact ⟨retE_, by repeat (first | (with_reducible first | exact HB.out | apply below_alloc | apply pw_below_drewN | apply below_drew1 | refine below_set ?_ GE258.out | refine below_set ?_ GE260.out) | exact HB.out)⟩
        ·
         rw [if_neg c11] at H
         exact absurd H (by simp)
       ·
        rw [if_neg c10] at H
        exact absurd H (by simp)
      ·
       rw [if_neg c9] at H
       have c9b0 : decide (x20_2 < (l0_0.length : Int)) = false := decide_eq_false c9
       clear c9
       have H' := Aside0.mk H
       clear H
       obtain ⟨hcz50_0, hcz50_1, hfz50_0, hfz50_1⟩ := cz2_ BK258
       go_wp2
       go_loopg [60] k2 (fun kq v60 w' => ∃ (x60_3 : Int), v60 = .int .i64 x60_3 ∧ Aside0 (impl_QueueOK.l1 kq l0_1 (l0_1.length : Int) x60_3 l0_0 l0_1 = some r) ∧ Aside0 (kq ≤ k2) ∧ Aside0 (w'.heap[gb258]? = some (.cells #[(.slice A0_0 l0_0.length c0_0), (.slice A0_1 l0_1.length c0_1)] 49 (0, 0))) ∧ Aside0 (Below w.heap.size w w'))
       case atStart => exact ⟨(0), eqE_, H', ⟨Nat.le_refl _⟩, ⟨blkE_⟩, ⟨belE_⟩⟩
       case round =>
        clear H'
        try clear c9
        try clear c9b0
        try clear c10
        try clear c11
        try clear c13
        try clear c14
        try clear c14b0
        try clear c16
        try clear c17
        try clear hcz40_0 hcz40_1 hcz40_2 hcz40_3
        try clear hcz46_0 hcz46_1 hcz46_2 hcz46_3
        try clear hcz50_0 hcz50_1
        try clear hfz40_0 hfz40_1 hfz40_2 hfz40_3
        try clear hfz46_0 hfz46_1 hfz46_2 hfz46_3
        try clear hfz50_0 hfz50_1
        try clear hx259_0
        try clear hx259_1
        try clear hx259_2
        try clear hx259_3
        try clear p259
        try clear q259
        obtain ⟨x60_3, rfl, HA, HK3, BK258, HB⟩ := hrel
        cases gk with
        | zero => exact absurd HA.out (by simp [impl_QueueOK.l1])
        | succ k3 =>
         have H := HA.out
         clear HA
         simp only [impl_QueueOK.l1] at H
         by_cases c51 : x60_3 < (l0_1.length : Int)
         ·
          rw [if_pos c51] at H
          have c51b0 : decide (x60_3 < (l0_1.length : Int)) = true := decide_eq_true c51
          clear c51
          by_cases c52 : 0 ≤ x60_3
          ·
           rw [if_pos c52] at H
           have c52b0 : decide (0 ≤ x60_3) = true := decide_eq_true c52
           clear c52
           by_cases c53 : x60_3 < (l0_1.length : Int)
           ·
            rw [if_pos c53] at H
            have c53b0 : decide (x60_3 < (l0_1.length : Int)) = true := decide_eq_true c53
            clear c53
            obtain ⟨t265, A54, H⟩ := bindE_ H
            by_cases c55 : t265 = true
            ·
             subst c55
             replace H := ifT_ H
             have c56b0 := eq_true (of_decide_eq_true (by first | (with_reducible assumption) | assumption) : 0 ≤ x60_3)
             by_cases c57 : x60_3 ≤ (l0_1.length : Int)
             ·
              rw [if_pos c57] at H
              have c57b0 := eq_true c57
              have c57b1 : decide (x60_3 ≤ (l0_1.length : Int)) = true := decide_eq_true c57
              clear c57
              obtain ⟨t267, A58, H⟩ := bindE_ H
              by_cases c59 : t267 = true
              ·
               subst c59
               replace H := ifT_ H
               obtain rfl := Option.some.inj H
               have p264 : 0 ≤ (x60_3 : Int) := of_decide_eq_true (by first | (with_reducible assumption) | assumption)
               have q264 : x60_3 < (l0_1.length : Int) := of_decide_eq_true (by first | (with_reducible assumption) | assumption)
               obtain ⟨ad264, e264, hx264_0⟩ := Kd.at_string HR0_1.out x60_3 p264 q264
               cases e264
               replace hx264_0 := (HB.out.cell (World.block_lt_of_cell? w _ hx264_0)).trans hx264_0
               replace p264 := eq_true p264
               replace q264 := eq_true q264
               go_wp2_with (first | ((with_reducible refine gate_callee (f := 86) rfl ?_); refine cU_ (some 66) Try.func86 #[.string (rdOf ByteArray.empty l0_1 x60_3)] ?_; (with_reducible refine (impl_isBody.calls (rdOf ByteArray.empty l0_1 x60_3) true _ A54.out).mono ?_); rintro e w' ⟨rfl, ⟨nd, rfl⟩⟩; refine ⟨_, rfl, ?_⟩; obtain ⟨hcz60_0, hcz60_1, hfz60_0, hfz60_1⟩ := cz2_ BK258; obtain ⟨i061, hi061, _, hsz61, _⟩ := info_parts info9; obtain ⟨hcut61, hA61, hC61⟩ := print_take_of (P := Try.prog) Value.string (⟨#[]⟩ : ByteArray) 34 9 .i64 Try.underlying34 hi061 hsz61 (some ad264) c0_1 l0_1 x60_3 (of_decide_eq_true (by first | (with_reducible assumption) | assumption)) (of_decide_eq_true (by first | (with_reducible assumption) | assumption)) HC0_1.out; have HR266 := Aside0.mk (Kd.C_of_reads (h1 := fun _ => rfl) (hA61 _ (Kd.reads_of_C HR0_1.out))); have HC266 := Aside0.mk hC61; clear hA61 hC61 hi061 hsz61) | (go_at_call 87; refine calls_of_args (args' := #[.slice (some ad264) (l0_1.take (x60_3 : Int).toNat).length c0_1, .string (rdOf ByteArray.empty l0_1 x60_3)]) (by first | (rw [show (l0_1.take (x60_3 : Int).toNat).length = x60_3.toNat from (by rw [List.length_take]; have h_ : (x60_3 : Int) ≤ (l0_1.length : Int) := of_decide_eq_true (by first | (with_reducible assumption) | assumption); omega)] <;> rfl) | rfl) ?_; (with_reducible refine (slices_Contains_string_string.calls k3 _ _ (l0_1.take (x60_3 : Int).toNat) (rdOf ByteArray.empty l0_1 x60_3) true _ ?side1 ?side2 A58.out).mono ?_); (case side1 => repeat (first | exact (Kd.C_below HR266.out (by repeat (first | (with_reducible first | exact HB.out | apply below_alloc | apply pw_below_drewN | apply below_drew1 | refine below_set ?_ GE258.out) | exact HB.out))) | (with_reducible refine Kd.C_alloc ?_ _) | (with_reducible refine Kd.C_drewN ?_ _) | (with_reducible refine Kd.C_drew ?_))); (case side2 => exact HC266.out); rintro e w' ⟨rfl, ⟨nd, rfl⟩⟩))
               go_ret
               exact ⟨retE_, belE_⟩
              ·
               replace c59 := Bool.eq_false_iff.mpr c59
               subst c59
               replace H := ifF_ H
               have H' := Aside0.mk H
               clear H
               have p264 : 0 ≤ (x60_3 : Int) := of_decide_eq_true (by first | (with_reducible assumption) | assumption)
               have q264 : x60_3 < (l0_1.length : Int) := of_decide_eq_true (by first | (with_reducible assumption) | assumption)
               obtain ⟨ad264, e264, hx264_0⟩ := Kd.at_string HR0_1.out x60_3 p264 q264
               cases e264
               replace hx264_0 := (HB.out.cell (World.block_lt_of_cell? w _ hx264_0)).trans hx264_0
               replace p264 := eq_true p264
               replace q264 := eq_true q264
               go_wp2_with (first | ((with_reducible refine gate_callee (f := 86) rfl ?_); refine cU_ (some 66) Try.func86 #[.string (rdOf ByteArray.empty l0_1 x60_3)] ?_; (with_reducible refine (impl_isBody.calls (rdOf ByteArray.empty l0_1 x60_3) true _ A54.out).mono ?_); rintro e w' ⟨rfl, ⟨nd, rfl⟩⟩; refine ⟨_, rfl, ?_⟩; obtain ⟨hcz62_0, hcz62_1, hfz62_0, hfz62_1⟩ := cz2_ BK258; obtain ⟨i063, hi063, _, hsz63, _⟩ := info_parts info9; obtain ⟨hcut63, hA63, hC63⟩ := print_take_of (P := Try.prog) Value.string (⟨#[]⟩ : ByteArray) 34 9 .i64 Try.underlying34 hi063 hsz63 (some ad264) c0_1 l0_1 x60_3 (of_decide_eq_true (by first | (with_reducible assumption) | assumption)) (of_decide_eq_true (by first | (with_reducible assumption) | assumption)) HC0_1.out; have HR266 := Aside0.mk (Kd.C_of_reads (h1 := fun _ => rfl) (hA63 _ (Kd.reads_of_C HR0_1.out))); have HC266 := Aside0.mk hC63; clear hA63 hC63 hi063 hsz63) | (go_at_call 87; refine calls_of_args (args' := #[.slice (some ad264) (l0_1.take (x60_3 : Int).toNat).length c0_1, .string (rdOf ByteArray.empty l0_1 x60_3)]) (by first | (rw [show (l0_1.take (x60_3 : Int).toNat).length = x60_3.toNat from (by rw [List.length_take]; have h_ : (x60_3 : Int) ≤ (l0_1.length : Int) := of_decide_eq_true (by first | (with_reducible assumption) | assumption); omega)] <;> rfl) | rfl) ?_; (with_reducible refine (slices_Contains_string_string.calls k3 _ _ (l0_1.take (x60_3 : Int).toNat) (rdOf ByteArray.empty l0_1 x60_3) false _ ?side1 ?side2 A58.out).mono ?_); (case side1 => repeat (first | exact (Kd.C_below HR266.out (by repeat (first | (with_reducible first | exact HB.out | apply below_alloc | apply pw_below_drewN | apply below_drew1 | refine below_set ?_ GE258.out) | exact HB.out))) | (with_reducible refine Kd.C_alloc ?_ _) | (with_reducible refine Kd.C_drewN ?_ _) | (with_reducible refine Kd.C_drew ?_))); (case side2 => exact HC266.out); rintro e w' ⟨rfl, ⟨nd, rfl⟩⟩))
               go_roundg k3
               case measure => have := HJ1.out; have := HK2.out; have := HK3.out; omega
               case rel => exact ⟨(wrap64 (x60_3 + 1)), eqE_, H', ⟨by have := HJ1.out; have := HK2.out; have := HK3.out; omega⟩, ⟨blkE_⟩, ⟨belE_⟩⟩
             ·
              rw [if_neg c57] at H
              exact absurd H (by simp)
            ·
             replace c55 := Bool.eq_false_iff.mpr c55
             subst c55
             replace H := ifF_ H
             obtain rfl := Option.some.inj H
             have p264 : 0 ≤ (x60_3 : Int) := of_decide_eq_true (by first | (with_reducible assumption) | assumption)
             have q264 : x60_3 < (l0_1.length : Int) := of_decide_eq_true (by first | (with_reducible assumption) | assumption)
             obtain ⟨ad264, e264, hx264_0⟩ := Kd.at_string HR0_1.out x60_3 p264 q264
             cases e264
             replace hx264_0 := (HB.out.cell (World.block_lt_of_cell? w _ hx264_0)).trans hx264_0
             replace p264 := eq_true p264
             replace q264 := eq_true q264
             go_wp2_with (first | ((with_reducible refine gate_callee (f := 86) rfl ?_); refine cU_ (some 66) Try.func86 #[.string (rdOf ByteArray.empty l0_1 x60_3)] ?_; (with_reducible refine (impl_isBody.calls (rdOf ByteArray.empty l0_1 x60_3) false _ A54.out).mono ?_); rintro e w' ⟨rfl, ⟨nd, rfl⟩⟩; refine ⟨_, rfl, ?_⟩))
             go_ret
             exact ⟨retE_, belE_⟩
           ·
            rw [if_neg c53] at H
            exact absurd H (by simp)
          ·
           rw [if_neg c52] at H
           exact absurd H (by simp)
         ·
          rw [if_neg c51] at H
          have c51b0 : decide (x60_3 < (l0_1.length : Int)) = false := decide_eq_false c51
          clear c51
          obtain rfl := Option.some.inj H
          go_wp2
          go_ret
          exact ⟨retE_, belE_⟩

/-! ### impl_first: function 103 -/
def impl_first.l0 : Nat → List Int → Int → Int → Option (Int)
  | 0, _, _, _ => none
  | k + 1, x5, x6, x7 => if x7 < x6 then (if 0 ≤ x7 then (if x7 < (x5.length : Int) then (if (rd x5 x7) = 0 then (impl_first.l0 k x5 x6 (wrap64 (x7 + 1))) else (some (rd x5 x7))) else (none)) else (none)) else (some 0)
def impl_first.f (k : Nat) (l0 : List Int) : Option (Int) := impl_first.l0 k l0 (l0.length : Int) 0
theorem impl_first.mono_l : ∀ k, (∀ y0 y1 y2, LeO (impl_first.l0 k y0 y1 y2) (impl_first.l0 (k + 1) y0 y1 y2))
  | 0 => fun _ _ _ r h => by simp [impl_first.l0] at h
  | k + 1 => by
    have ih0 := impl_first.mono_l k
    · intro y0 y1 y2
      unfold impl_first.l0
      repeat' first
      | (with_reducible exact ih0 _ _ _)
      | (with_reducible exact LeO.refl _)
      | (with_reducible exact LeO.none _)
      | (with_reducible refine LeO.ite ?_ ?_)
      | (with_reducible refine LeO.bind ?_ (fun _ => ?_))
      | exact ih0 _ _ _
      | exact LeO.none _
      | refine LeO.ite ?_ ?_
      | refine LeO.bind ?_ (fun _ => ?_)
theorem impl_first.mono : ∀ a0 k, LeO (impl_first.f k a0) (impl_first.f (k + 1) a0) := by
  intro a0 k
  have ih0 := impl_first.mono_l k
  unfold impl_first.f
  repeat' first
      | (with_reducible exact ih0 _ _ _)
      | (with_reducible exact LeO.refl _)
      | (with_reducible exact LeO.none _)
      | (with_reducible refine LeO.ite ?_ ?_)
      | (with_reducible refine LeO.bind ?_ (fun _ => ?_))
      | exact ih0 _ _ _
      | exact LeO.none _
      | refine LeO.ite ?_ ?_
      | refine LeO.bind ?_ (fun _ => ?_)
set_option maxHeartbeats 8000000 in
set_option maxRecDepth 100000 in
theorem impl_first.calls (k : Nat) (A0 : Option Addr) (c0 : Nat) (l0 : List Int) (r : Int) (w : World) (hr0 : Kd.C (Kd.int .i64) w A0 l0.length l0) (hc0 : l0.length ≤ c0) (h : impl_first.f k l0 = some r) :
    Calls Try.prog 103 #[.slice A0 l0.length c0] w fun e w' => e = .returned (.int .i64 r) ∧ Drawn0 w w' := by
 have HR0 := Aside0.mk hr0
 have HC0 := Aside0.mk hc0
 clear hr0 hc0
 have H : (impl_first.l0 k l0 (l0.length : Int) 0) = some r := h
 clear h
 have H' := Aside0.mk H
 clear H
 go_enter Try.func103, Try.ntmps103
 go_wp2
 go_loopg [7] k (fun kq v7 w' => ∃ (x7_1 : Int), v7 = .int .i64 x7_1 ∧ Aside0 (impl_first.l0 kq l0 (l0.length : Int) x7_1 = some r) ∧ Aside0 (kq ≤ k) ∧ Drawn0 w w')
 case atStart => exact ⟨(0), eqE_, H', ⟨Nat.le_refl _⟩, by repeat (first | exact Drawn0.refl _ | apply Drawn0.step)⟩
 case round =>
  clear H'
  obtain ⟨x7_1, rfl, HA, HK1, ⟨m1, rfl⟩⟩ := hrel
  cases gk with
  | zero => exact absurd HA.out (by simp [impl_first.l0])
  | succ k1 =>
   have H := HA.out
   clear HA
   simp only [impl_first.l0] at H
   by_cases c2 : x7_1 < (l0.length : Int)
   ·
    rw [if_pos c2] at H
    have c2b0 : decide (x7_1 < (l0.length : Int)) = true := decide_eq_true c2
    clear c2
    by_cases c3 : 0 ≤ x7_1
    ·
     rw [if_pos c3] at H
     have c3b0 : decide (0 ≤ x7_1) = true := decide_eq_true c3
     clear c3
     by_cases c4 : x7_1 < (l0.length : Int)
     ·
      rw [if_pos c4] at H
      have c4b0 : decide (x7_1 < (l0.length : Int)) = true := decide_eq_true c4
      clear c4
      by_cases c5 : (rd l0 x7_1) = 0
      ·
       rw [if_pos c5] at H
       have c5b0 : ((rd l0 x7_1) == 0) = true := beq_iff_eq.mpr c5
       have c5b1 : ((rd l0 x7_1) != 0) = false := bne_eq_false_iff_eq.mpr c5
       clear c5
       have H' := Aside0.mk H
       clear H
       have p268 : 0 ≤ (x7_1 : Int) := of_decide_eq_true (by first | (with_reducible assumption) | assumption)
       have q268 : x7_1 < (l0.length : Int) := of_decide_eq_true (by first | (with_reducible assumption) | assumption)
       obtain ⟨ad268, e268, hx268_0⟩ := Kd.at_int HR0.out x7_1 p268 q268
       cases e268
       replace p268 := eq_true p268
       replace q268 := eq_true q268
       go_wp2
       go_roundg k1
       case measure => have := HK1.out; omega
       case rel => exact ⟨(wrap64 (x7_1 + 1)), eqE_, H', ⟨by have := HK1.out; omega⟩, by repeat (first | exact Drawn0.refl _ | apply Drawn0.step)⟩
      ·
       rw [if_neg c5] at H
       have c5b0 : ((rd l0 x7_1) == 0) = false := beq_eq_false_iff_ne.mpr c5
       have c5b1 : ((rd l0 x7_1) != 0) = true := bne_iff_ne.mpr c5
       obtain rfl := Option.some.inj H
       have p268 : 0 ≤ (x7_1 : Int) := of_decide_eq_true (by first | (with_reducible assumption) | assumption)
       have q268 : x7_1 < (l0.length : Int) := of_decide_eq_true (by first | (with_reducible assumption) | assumption)
       obtain ⟨ad268, e268, hx268_0⟩ := Kd.at_int HR0.out x7_1 p268 q268
       cases e268
       replace p268 := eq_true p268
       replace q268 := eq_true q268
       go_wp2
       go_ret
       exact ⟨by first | rfl | (simp; done) | (simp [*]; done) | (simp only [bne_empty_]; rfl), by repeat (first | exact Drawn0.refl _ | apply Drawn0.step)⟩
     ·
      rw [if_neg c4] at H
      exact absurd H (by simp)
    ·
     rw [if_neg c3] at H
     exact absurd H (by simp)
   ·
    rw [if_neg c2] at H
    have c2b0 : decide (x7_1 < (l0.length : Int)) = false := decide_eq_false c2
    clear c2
    obtain rfl := Option.some.inj H
    go_wp2
    go_ret
    exact ⟨by first | rfl | (simp; done) | (simp [*]; done) | (simp only [bne_empty_]; rfl), by repeat (first | exact Drawn0.refl _ | apply Drawn0.step)⟩

end Go.Proofs.Ytmfnaaeglfhnmaa.QFnExactMissed
