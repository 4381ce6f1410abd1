/- A tool of this session wrote this text out of the translation: functions as plain Lean, and proofs that the machine's calls come to their answers. -/
import Derived.Test.YtljpmdeobmmhlaaQShort
import Derived.Test.YtljpmdeobmmhlaaQFnExactMemberx0
import Derived.Test.YtljpmdeobmmhlaaQFnExactMemberx1
namespace Go.Proofs.Ytljpmdeobmmhlaa.QFnExactMember
open Go.RowKit Go.Proofs.YtljpmdeobmmhlaaW.PrintWords Go.Proofs.YtljpmdeobmmhlaaW.PrintLast Go.Proofs.YtljpmdeobmmhlaaW.PrintMore
open Go.Proofs.Ytljpmdeobmmhlaa.Short
attribute [local go_sem] max2_int min2_int max_two min_two max_three min_three max_four min_four   -- for this text's walks alone
set_option linter.unusedVariables false
set_option linter.unusedSimpArgs false

/-! ### spec_l02OK: function 13 -/
mutual
def spec_l02OK.j0 : Nat → Int → Bool → Int → Int → ByteArray → List ByteArray → List (S29) → Option (Bool)
  | 0, _, _, _, _, _, _, _ => none
  | k + 1, x1, x5, x104000, x104001, x104002, x104003, x104004 => if x104000 = 1 then (if x104001 = 0 then (if x104002.toList = ([] : List UInt8) then (some x5) else (some false)) else (some false)) else (if x104000 = 2 then ((spec_l01In.f x104001 0 1).bind fun t104 => (if t104 = true then (if x104002.toList = ([] : List UInt8) then (some x5) else (some false)) else (some false))) else (if x104000 = 3 then ((spec_l01In.f x104001 (-999999999) 999999999).bind fun t105 => (if t105 = true then (if x104002.toList = ([] : List UInt8) then (some x5) else (some false)) else (some false))) else (if x104000 = 4 then (if x104001 = 0 then (if (x104002.size : Int) ≤ 120 then (some x5) else (some false)) else (some false)) else (if x104000 = 5 then (if x104001 = 0 then (if x104002.toList = ([] : List UInt8) then (if x1 = 1 then (spec_l02OK.j1 k x1 true x104000 x104001 x104002 x104003 x104004) else (if (x104004.length : Int) > 12 then (spec_l02OK.j1 k x1 true x104000 x104001 x104002 x104003 x104004) else (if (x104003.length : Int) > 0 then (spec_l02OK.j1 k x1 true x104000 x104001 x104002 x104003 x104004) else (if x104000 = 6 then (spec_l02OK.j1 k x1 ((x104003.length : Int) != (x104004.length : Int)) x104000 x104001 x104002 x104003 x104004) else (spec_l02OK.j1 k x1 false x104000 x104001 x104002 x104003 x104004))))) else (spec_l02OK.j1 k x1 true x104000 x104001 x104002 x104003 x104004)) else (spec_l02OK.j1 k x1 true x104000 x104001 x104002 x104003 x104004)) else (if x104000 = 6 then (if x104001 = 0 then (if x104002.toList = ([] : List UInt8) then (if x1 = 1 then (spec_l02OK.j1 k x1 true x104000 x104001 x104002 x104003 x104004) else (if (x104004.length : Int) > 12 then (spec_l02OK.j1 k x1 true x104000 x104001 x104002 x104003 x104004) else (spec_l02OK.j1 k x1 ((x104003.length : Int) != (x104004.length : Int)) x104000 x104001 x104002 x104003 x104004))) else (spec_l02OK.j1 k x1 true x104000 x104001 x104002 x104003 x104004)) else (spec_l02OK.j1 k x1 true x104000 x104001 x104002 x104003 x104004)) else (spec_l02OK.j1 k x1 true x104000 x104001 x104002 x104003 x104004))))))
def spec_l02OK.j1 : Nat → Int → Bool → Int → Int → ByteArray → List ByteArray → List (S29) → Option (Bool)
  | 0, _, _, _, _, _, _, _ => none
  | k + 1, x1, x124, x104000, x104001, x104002, x104003, x104004 => if x124 = true then (some false) else (spec_l02OK.l0 k x1 0 x104000 x104001 x104002 x104003 x104004)
def spec_l02OK.l0 : Nat → Int → Int → Int → Int → ByteArray → List ByteArray → List (S29) → Option (Bool)
  | 0, _, _, _, _, _, _, _ => none
  | k + 1, x1, x6, x104000, x104001, x104002, x104003, x104004 => if x6 < (x104004.length : Int) then (if 0 ≤ x6 then ((spec_l02OK.f k ((rd_T29 x104004 x6).f0) ((rd_T29 x104004 x6).f1) ((rd_T29 x104004 x6).f2) ((rd_T29 x104004 x6).f3) ((rd_T29 x104004 x6).f4) (wrap64 (x1 - 1))).bind fun t107 => (if t107 = true then (if x104000 = 6 then (if x6 < (x104003.length : Int) then (if ((rdOf ByteArray.empty x104003 x6).size : Int) > 120 then (some false) else (if x6 ≤ (x104003.length : Int) then ((spec_l01Has.f k (x104003.take (x6 : Int).toNat) (rdOf ByteArray.empty x104003 x6)).bind fun t111 => (if t111 = true then (some false) else (spec_l02OK.l0 k x1 (wrap64 (x6 + 1)) x104000 x104001 x104002 x104003 x104004))) else (none))) else (none)) else (spec_l02OK.l0 k x1 (wrap64 (x6 + 1)) x104000 x104001 x104002 x104003 x104004)) else (some false))) else (none)) else (some true)
def spec_l02OK.f : Nat → Int → Int → ByteArray → List ByteArray → List (S29) → Int → Option (Bool)
  | 0, _, _, _, _, _, _ => none
  | k + 1, a0_0, a0_1, a0_2, l0_3, l0_4, a1 => if (l0_3.length : Int) = 0 then (spec_l02OK.j0 k a1 ((l0_4.length : Int) == 0) a0_0 a0_1 a0_2 l0_3 l0_4) else (spec_l02OK.j0 k a1 false a0_0 a0_1 a0_2 l0_3 l0_4)
end
theorem spec_l02OK.mono_l : ∀ k, (∀ y0 y1 y2 y3 y4 y5, LeO (spec_l02OK.f k y0 y1 y2 y3 y4 y5) (spec_l02OK.f (k + 1) y0 y1 y2 y3 y4 y5)) ∧ (∀ y0 y1 y2 y3 y4 y5 y6, LeO (spec_l02OK.j0 k y0 y1 y2 y3 y4 y5 y6) (spec_l02OK.j0 (k + 1) y0 y1 y2 y3 y4 y5 y6)) ∧ (∀ y0 y1 y2 y3 y4 y5 y6, LeO (spec_l02OK.j1 k y0 y1 y2 y3 y4 y5 y6) (spec_l02OK.j1 (k + 1) y0 y1 y2 y3 y4 y5 y6)) ∧ (∀ y0 y1 y2 y3 y4 y5 y6, LeO (spec_l02OK.l0 k y0 y1 y2 y3 y4 y5 y6) (spec_l02OK.l0 (k + 1) y0 y1 y2 y3 y4 y5 y6))
  | 0 => ⟨fun _ _ _ _ _ _ r h => by simp [spec_l02OK.f] at h, fun _ _ _ _ _ _ _ r h => by simp [spec_l02OK.j0] at h, fun _ _ _ _ _ _ _ r h => by simp [spec_l02OK.j1] at h, fun _ _ _ _ _ _ _ r h => by simp [spec_l02OK.l0] at h⟩
  | k + 1 => by
    obtain ⟨ih0, ih1, ih2, ih3⟩ := spec_l02OK.mono_l k
    refine ⟨?_, ?_, ?_, ?_⟩
    · intro y0 y1 y2 y3 y4 y5
      unfold spec_l02OK.f
      repeat' first
      | (with_reducible exact ih0 _ _ _ _ _ _)
      | (with_reducible exact ih1 _ _ _ _ _ _ _)
      | (with_reducible exact ih2 _ _ _ _ _ _ _)
      | (with_reducible exact ih3 _ _ _ _ _ _ _)
      | (with_reducible exact spec_l01Has.mono _ _ _)
      | (with_reducible exact LeO.refl _)
      | (with_reducible exact LeO.none _)
      | (with_reducible refine LeO.ite ?_ ?_)
      | (with_reducible refine LeO.bind ?_ (fun _ => ?_))
      | exact ih0 _ _ _ _ _ _
      | exact ih1 _ _ _ _ _ _ _
      | exact ih2 _ _ _ _ _ _ _
      | exact ih3 _ _ _ _ _ _ _
      | exact spec_l01Has.mono _ _ _
      | exact LeO.none _
      | refine LeO.ite ?_ ?_
      | refine LeO.bind ?_ (fun _ => ?_)
    · intro y0 y1 y2 y3 y4 y5 y6
      unfold spec_l02OK.j0
      repeat' first
      | (with_reducible exact ih0 _ _ _ _ _ _)
      | (with_reducible exact ih1 _ _ _ _ _ _ _)
      | (with_reducible exact ih2 _ _ _ _ _ _ _)
      | (with_reducible exact ih3 _ _ _ _ _ _ _)
      | (with_reducible exact spec_l01Has.mono _ _ _)
      | (with_reducible exact LeO.refl _)
      | (with_reducible exact LeO.none _)
      | (with_reducible refine LeO.ite ?_ ?_)
      | (with_reducible refine LeO.bind ?_ (fun _ => ?_))
      | exact ih0 _ _ _ _ _ _
      | exact ih1 _ _ _ _ _ _ _
      | exact ih2 _ _ _ _ _ _ _
      | exact ih3 _ _ _ _ _ _ _
      | exact spec_l01Has.mono _ _ _
      | exact LeO.none _
      | refine LeO.ite ?_ ?_
      | refine LeO.bind ?_ (fun _ => ?_)
    · intro y0 y1 y2 y3 y4 y5 y6
      unfold spec_l02OK.j1
      repeat' first
      | (with_reducible exact ih0 _ _ _ _ _ _)
      | (with_reducible exact ih1 _ _ _ _ _ _ _)
      | (with_reducible exact ih2 _ _ _ _ _ _ _)
      | (with_reducible exact ih3 _ _ _ _ _ _ _)
      | (with_reducible exact spec_l01Has.mono _ _ _)
      | (with_reducible exact LeO.refl _)
      | (with_reducible exact LeO.none _)
      | (with_reducible refine LeO.ite ?_ ?_)
      | (with_reducible refine LeO.bind ?_ (fun _ => ?_))
      | exact ih0 _ _ _ _ _ _
      | exact ih1 _ _ _ _ _ _ _
      | exact ih2 _ _ _ _ _ _ _
      | exact ih3 _ _ _ _ _ _ _
      | exact spec_l01Has.mono _ _ _
      | exact LeO.none _
      | refine LeO.ite ?_ ?_
      | refine LeO.bind ?_ (fun _ => ?_)
    · intro y0 y1 y2 y3 y4 y5 y6
      unfold spec_l02OK.l0
      repeat' first
      | (with_reducible exact ih0 _ _ _ _ _ _)
      | (with_reducible exact ih1 _ _ _ _ _ _ _)
      | (with_reducible exact ih2 _ _ _ _ _ _ _)
      | (with_reducible exact ih3 _ _ _ _ _ _ _)
      | (with_reducible exact spec_l01Has.mono _ _ _)
      | (with_reducible exact LeO.refl _)
      | (with_reducible exact LeO.none _)
      | (with_reducible refine LeO.ite ?_ ?_)
      | (with_reducible refine LeO.bind ?_ (fun _ => ?_))
      | exact ih0 _ _ _ _ _ _
      | exact ih1 _ _ _ _ _ _ _
      | exact ih2 _ _ _ _ _ _ _
      | exact ih3 _ _ _ _ _ _ _
      | exact spec_l01Has.mono _ _ _
      | exact LeO.none _
      | refine LeO.ite ?_ ?_
      | refine LeO.bind ?_ (fun _ => ?_)
theorem spec_l02OK.mono : ∀ a0 a1 a2 a3 a4 a5 k, LeO (spec_l02OK.f k a0 a1 a2 a3 a4 a5) (spec_l02OK.f (k + 1) a0 a1 a2 a3 a4 a5) := by
  intro a0 a1 a2 a3 a4 a5 k
  obtain ⟨ih0, ih1, ih2, ih3⟩ := spec_l02OK.mono_l k
  exact ih0 a0 a1 a2 a3 a4 a5
def spec_l02OK.T16 : Bool × List (List Nat × List Nat) := (true, [([], []), ([0], [0]), ([], []), ([1, 2], [1, 2]), ([3], [3]), ([], []), ([5], [5]), ([4, 6], [4, 6]), ([7], [7]), ([8, 7], [8]), ([9], [9]), ([10, 9], [9, 10]), ([11, 9], [9, 11]), ([12, 9, 9], [9, 12]), ([13], [13]), ([14, 13], [13, 14]), ([13], [13]), ([15, 16, 13], [13, 15, 16]), ([17, 13], [13, 17]), ([18, 13], [13, 18]), ([19, 13], [13, 19]), ([20, 13, 13], [13, 20]), ([21], [21]), ([22, 21], [21, 22]), ([21], [21]), ([23, 24, 21], [21, 23, 24]), ([21], [21]), ([26, 21], [21, 26]), ([21], [21]), ([27, 28, 21], [21, 27, 28]), ([29, 21], [21, 29]), ([25, 30, 21, 21], [21, 25, 30]), ([21, 31, 13], [13, 21, 31]), ([13, 32, 9], [9, 13, 32]), ([9, 33], [9, 33])])
def spec_l02OK.B16 : List Nat := [0, 1, 0, 7, 15, 0, 32, 127, 255, 511, 1023, 2047, 4095, 8191, 16383, 32767, 16383, 131071, 262143, 524287, 1048575, 2097151, 4194303, 8388607, 4194303, 33554431, 4194303, 71303167, 4194303, 473956351, 1010827263, 2147483647, 4294967295, 8589934591, 17179869183]
theorem spec_l02OK.tab16 : rtab .any (opsOf Try.f13 16) = spec_l02OK.T16 := by kernel_rfl
theorem spec_l02OK.bits16 : waitsOk spec_l02OK.T16.2 spec_l02OK.B16 = true := by kernel_rfl
set_option maxHeartbeats 400000000 in
set_option maxRecDepth 100000 in
theorem spec_l02OK.calls (k : Nat) : ∀ (a0_0 : Int) (a0_1 : Int) (a0_2 : ByteArray) (A0_3 : Option Addr) (c0_3 : Nat) (l0_3 : List ByteArray) (A0_4 : Option Addr) (c0_4 : Nat) (l0_4 : List (S29)) (a1 : Int) (r : Bool) (w : World) (hr0_3 : Kd.C Kd.string w A0_3 l0_3.length l0_3) (hc0_3 : l0_3.length ≤ c0_3) (hr0_4 : Kd.C k29 w A0_4 l0_4.length l0_4) (hc0_4 : l0_4.length ≤ c0_4) (h : spec_l02OK.f k a0_0 a0_1 a0_2 l0_3 l0_4 a1 = some r),
    Calls Try.prog 13 #[.agg #[.int .i64 a0_0, .int .i64 a0_1, .string a0_2, .slice A0_3 l0_3.length c0_3, .slice A0_4 l0_4.length c0_4], .int .i64 a1] w fun e w' => e = .returned (.bool r) ∧ Below w.heap.size w w' := by
  induction k using Nat.strongRecOn with
  | _ k ih =>
  intro a0_0 a0_1 a0_2 A0_3 c0_3 l0_3 A0_4 c0_4 l0_4 a1 r w hr0_3 hc0_3 hr0_4 hc0_4 h
  cases k with
  | zero => exact absurd h (by simp [spec_l02OK.f])
  | succ k =>
  simp only [spec_l02OK.f] at h
  have hu29 := Try.underlying29
  have HR0_3 := Aside0.mk hr0_3
  have HC0_3 := Aside0.mk hc0_3
  clear hr0_3 hc0_3
  have HR0_4 := Aside0.mk hr0_4
  have HC0_4 := Aside0.mk hc0_4
  clear hr0_4 hc0_4
  have HB := Aside0.mk (Below.refl w.heap.size w)
  have H : (if (l0_3.length : Int) = 0 then (spec_l02OK.j0 k a1 ((l0_4.length : Int) == 0) a0_0 a0_1 a0_2 l0_3 l0_4) else (spec_l02OK.j0 k a1 false a0_0 a0_1 a0_2 l0_3 l0_4)) = some r := h
  clear h
  have HC3 := Aside0.mk H
  clear H
  go_enter Try.func13, Try.ntmps13
  go_upto_region 1 with (first | ((with_reducible refine gate_dst (N := 2) rfl ?_); (try (refine gate_guard (by rfl) ?_; dsimp only)); refine box_event ?hg (N := 2) ?hd (cs := #[.int .i64 a0_0, .int .i64 a0_1, .string a0_2, .slice A0_3 l0_3.length c0_3, .slice A0_4 l0_4.length c0_4]) (t := 29) ?hr ?_; (case hd => rfl); (case hg => rfl); (case hr => first | (go_simp; done) | (go_simp; rfl)); intro gb103 hg w4 hbox hb; have n0_ := belB_ hb; have n1_ := Aside0.mk (hbox); have n2_ := Aside0.mk ((by rw [hg]; exact (below_size (by repeat (first | (with_reducible first | exact HB.out | apply below_alloc | apply pw_below_drewN | apply below_drew1) | exact HB.out))) : w.heap.size ≤ gb103)); have n3_ := Aside0.mk ((by rw [hg]; exact (below_size (by repeat (first | (with_reducible first | exact HB.out | apply below_alloc | apply pw_below_drewN | apply below_drew1) | exact HB.out))) : w.heap.size ≤ gb103)); clear HB; have HB := n0_; have BK103 := n1_; have GW103 := n2_; have GE103 := n3_; clear n0_ n1_ n2_ n3_; clear hb hbox hg))
  (try simp only [Act.put, List.setIfInBounds_toArray, List.set_cons_zero, List.set_cons_succ])
  go_cut [5] (fun v5 wc => ∃ (kq : Nat) (x5_2 : Bool), v5 = .bool x5_2 ∧ Aside0 (spec_l02OK.j0 kq a1 x5_2 a0_0 a0_1 a0_2 l0_3 l0_4 = some r) ∧ Aside0 (kq ≤ k) ∧ Aside0 (wc.heap[gb103]? = some (.cells #[.int .i64 a0_0, .int .i64 a0_1, .string a0_2, (.slice A0_3 l0_3.length c0_3), (.slice A0_4 l0_4.length c0_4)] 29 (0, 0))) ∧ Aside0 (Below w.heap.size w wc))
  case first =>
   have H := HC3.out
   clear HC3
   by_cases c5 : (l0_3.length : Int) = 0
   ·
    as_aux_lemma =>
     rw [if_pos c5] at H
     have c5b0 : ((l0_3.length : Int) == 0) = true := beq_iff_eq.mpr c5
     have c5b1 : ((l0_3.length : Int) != 0) = false := bne_eq_false_iff_eq.mpr c5
     clear c5
     (first | rw [c5b0] | (simp only [i64_w, i32_w]; rw [c5b0]) | skip)
     have H' := Aside0.mk H
     clear H
     have hcz6_0 : w4.cell? ⟨gb103, 0, none⟩ = some (.int .i64 a0_0) := (blk_cell BK103.out 0).trans rfl
     have hcz6_1 : w4.cell? ⟨gb103, 1, none⟩ = some (.int .i64 a0_1) := (blk_cell BK103.out 1).trans rfl
     have hcz6_2 : w4.cell? ⟨gb103, 2, none⟩ = some (.string a0_2) := (blk_cell BK103.out 2).trans rfl
     have hcz6_3 : w4.cell? ⟨gb103, 3, none⟩ = some (.slice A0_3 l0_3.length c0_3) := (blk_cell BK103.out 3).trans rfl
     have hcz6_4 : w4.cell? ⟨gb103, 4, none⟩ = some (.slice A0_4 l0_4.length c0_4) := (blk_cell BK103.out 4).trans rfl
     have hfz6_0 := blk_frozen BK103.out 0
     have hfz6_1 := blk_frozen BK103.out 1
     have hfz6_2 := blk_frozen BK103.out 2
     have hfz6_3 := blk_frozen BK103.out 3
     have hfz6_4 := blk_frozen BK103.out 4
     go_wp2
     go_meet
     case rel => exact ⟨_, (((l0_4.length : Int) == 0)), eqE_, H', ⟨leE_⟩, ⟨blkE_⟩, ⟨belE_⟩⟩
   ·
    as_aux_lemma =>
     rw [if_neg c5] at H
     have c5b0 : ((l0_3.length : Int) == 0) = false := beq_eq_false_iff_ne.mpr c5
     have c5b1 : ((l0_3.length : Int) != 0) = true := bne_iff_ne.mpr c5
     have c5b2 : ¬ (l0_3 = []) := fun h_ => c5 (by rw [h_]; rfl)
     (first | rw [c5b0] | (simp only [i64_w, i32_w]; rw [c5b0]) | skip)
     have H' := Aside0.mk H
     clear H
     have hcz7_0 : w4.cell? ⟨gb103, 0, none⟩ = some (.int .i64 a0_0) := (blk_cell BK103.out 0).trans rfl
     have hcz7_1 : w4.cell? ⟨gb103, 1, none⟩ = some (.int .i64 a0_1) := (blk_cell BK103.out 1).trans rfl
     have hcz7_2 : w4.cell? ⟨gb103, 2, none⟩ = some (.string a0_2) := (blk_cell BK103.out 2).trans rfl
     have hcz7_3 : w4.cell? ⟨gb103, 3, none⟩ = some (.slice A0_3 l0_3.length c0_3) := (blk_cell BK103.out 3).trans rfl
     have hcz7_4 : w4.cell? ⟨gb103, 4, none⟩ = some (.slice A0_4 l0_4.length c0_4) := (blk_cell BK103.out 4).trans rfl
     have hfz7_0 := blk_frozen BK103.out 0
     have hfz7_1 := blk_frozen BK103.out 1
     have hfz7_2 := blk_frozen BK103.out 2
     have hfz7_3 := blk_frozen BK103.out 3
     have hfz7_4 := blk_frozen BK103.out 4
     go_wp2
     go_meet
     case rel => exact ⟨_, (false), eqE_, H', ⟨leE_⟩, ⟨blkE_⟩, ⟨belE_⟩⟩
  case rest =>
   clear HC3
   obtain ⟨kq, x5_2, rfl, HA, HJ2, BK103, HB⟩ := hcut
   cases kq with
   | zero => exact absurd HA.out (by simp [spec_l02OK.j0])
   | succ kj2 =>
    have H := HA.out
    clear HA
    simp only [spec_l02OK.j0] at H
    by_cases c8 : a0_0 = 1
    ·
     rw [if_pos c8] at H
     have c8b0 : (a0_0 == 1) = true := beq_iff_eq.mpr c8
     have c8b1 : (a0_0 != 1) = false := bne_eq_false_iff_eq.mpr c8
     clear c8
     by_cases c9 : a0_1 = 0
     ·
      rw [if_pos c9] at H
      have c9b0 : (a0_1 == 0) = true := beq_iff_eq.mpr c9
      have c9b1 : (a0_1 != 0) = false := bne_eq_false_iff_eq.mpr c9
      clear c9
      by_cases c10 : a0_2.toList = ([] : List UInt8)
      ·
       as_aux_lemma =>
        rw [if_pos c10] at H
        have c10b0 : (a0_2.toList == ([] : List UInt8)) = true := beq_iff_eq.mpr c10
        have c10b1 : (a0_2.toList != ([] : List UInt8)) = false := bne_eq_false_iff_eq.mpr c10
        (try (have c10b2 : a0_2.toList.isEmpty = true := by simpa using c10))
        clear c10
        obtain rfl := Option.some.inj H
        have hcz11_0 : wc.cell? ⟨gb103, 0, none⟩ = some (.int .i64 a0_0) := (blk_cell BK103.out 0).trans rfl
        have hcz11_1 : wc.cell? ⟨gb103, 1, none⟩ = some (.int .i64 a0_1) := (blk_cell BK103.out 1).trans rfl
        have hcz11_2 : wc.cell? ⟨gb103, 2, none⟩ = some (.string a0_2) := (blk_cell BK103.out 2).trans rfl
        have hcz11_3 : wc.cell? ⟨gb103, 3, none⟩ = some (.slice A0_3 l0_3.length c0_3) := (blk_cell BK103.out 3).trans rfl
        have hcz11_4 : wc.cell? ⟨gb103, 4, none⟩ = some (.slice A0_4 l0_4.length c0_4) := (blk_cell BK103.out 4).trans rfl
        have hfz11_0 := blk_frozen BK103.out 0
        have hfz11_1 := blk_frozen BK103.out 1
        have hfz11_2 := blk_frozen BK103.out 2
        have hfz11_3 := blk_frozen BK103.out 3
        have hfz11_4 := blk_frozen BK103.out 4
        go_wp2
        go_ret
        exact ⟨retE_, belE_⟩
      ·
       as_aux_lemma =>
        rw [if_neg c10] at H
        have c10b0 : (a0_2.toList == ([] : List UInt8)) = false := beq_eq_false_iff_ne.mpr c10
        have c10b1 : (a0_2.toList != ([] : List UInt8)) = true := bne_iff_ne.mpr c10
        (try (have c10b2 : a0_2.toList.isEmpty = false := by simpa using c10))
        obtain rfl := Option.some.inj H
        have hcz12_0 : wc.cell? ⟨gb103, 0, none⟩ = some (.int .i64 a0_0) := (blk_cell BK103.out 0).trans rfl
        have hcz12_1 : wc.cell? ⟨gb103, 1, none⟩ = some (.int .i64 a0_1) := (blk_cell BK103.out 1).trans rfl
        have hcz12_2 : wc.cell? ⟨gb103, 2, none⟩ = some (.string a0_2) := (blk_cell BK103.out 2).trans rfl
        have hcz12_3 : wc.cell? ⟨gb103, 3, none⟩ = some (.slice A0_3 l0_3.length c0_3) := (blk_cell BK103.out 3).trans rfl
        have hcz12_4 : wc.cell? ⟨gb103, 4, none⟩ = some (.slice A0_4 l0_4.length c0_4) := (blk_cell BK103.out 4).trans rfl
        have hfz12_0 := blk_frozen BK103.out 0
        have hfz12_1 := blk_frozen BK103.out 1
        have hfz12_2 := blk_frozen BK103.out 2
        have hfz12_3 := blk_frozen BK103.out 3
        have hfz12_4 := blk_frozen BK103.out 4
        go_wp2
        go_ret
        exact ⟨retE_, belE_⟩
     ·
      as_aux_lemma =>
       rw [if_neg c9] at H
       have c9b0 : (a0_1 == 0) = false := beq_eq_false_iff_ne.mpr c9
       have c9b1 : (a0_1 != 0) = true := bne_iff_ne.mpr c9
       obtain rfl := Option.some.inj H
       have hcz13_0 : wc.cell? ⟨gb103, 0, none⟩ = some (.int .i64 a0_0) := (blk_cell BK103.out 0).trans rfl
       have hcz13_1 : wc.cell? ⟨gb103, 1, none⟩ = some (.int .i64 a0_1) := (blk_cell BK103.out 1).trans rfl
       have hcz13_2 : wc.cell? ⟨gb103, 2, none⟩ = some (.string a0_2) := (blk_cell BK103.out 2).trans rfl
       have hcz13_3 : wc.cell? ⟨gb103, 3, none⟩ = some (.slice A0_3 l0_3.length c0_3) := (blk_cell BK103.out 3).trans rfl
       have hcz13_4 : wc.cell? ⟨gb103, 4, none⟩ = some (.slice A0_4 l0_4.length c0_4) := (blk_cell BK103.out 4).trans rfl
       have hfz13_0 := blk_frozen BK103.out 0
       have hfz13_1 := blk_frozen BK103.out 1
       have hfz13_2 := blk_frozen BK103.out 2
       have hfz13_3 := blk_frozen BK103.out 3
       have hfz13_4 := blk_frozen BK103.out 4
       go_wp2
       go_ret
       exact ⟨retE_, belE_⟩
    ·
     rw [if_neg c8] at H
     have c8b0 : (a0_0 == 1) = false := beq_eq_false_iff_ne.mpr c8
     have c8b1 : (a0_0 != 1) = true := bne_iff_ne.mpr c8
     by_cases c14 : a0_0 = 2
     ·
      rw [if_pos c14] at H
      have c14b0 : (a0_0 == 2) = true := beq_iff_eq.mpr c14
      have c14b1 : (a0_0 != 2) = false := bne_eq_false_iff_eq.mpr c14
      clear c14
      obtain ⟨t104, A15, H⟩ := bindE_ H
      by_cases c16 : t104 = true
      ·
       subst c16
       replace H := ifT_ H
       by_cases c17 : a0_2.toList = ([] : List UInt8)
       ·
        as_aux_lemma =>
         rw [if_pos c17] at H
         have c17b0 : (a0_2.toList == ([] : List UInt8)) = true := beq_iff_eq.mpr c17
         have c17b1 : (a0_2.toList != ([] : List UInt8)) = false := bne_eq_false_iff_eq.mpr c17
         (try (have c17b2 : a0_2.toList.isEmpty = true := by simpa using c17))
         clear c17
         obtain rfl := Option.some.inj H
         have hcz18_0 : wc.cell? ⟨gb103, 0, none⟩ = some (.int .i64 a0_0) := (blk_cell BK103.out 0).trans rfl
         have hcz18_1 : wc.cell? ⟨gb103, 1, none⟩ = some (.int .i64 a0_1) := (blk_cell BK103.out 1).trans rfl
         have hcz18_2 : wc.cell? ⟨gb103, 2, none⟩ = some (.string a0_2) := (blk_cell BK103.out 2).trans rfl
         have hcz18_3 : wc.cell? ⟨gb103, 3, none⟩ = some (.slice A0_3 l0_3.length c0_3) := (blk_cell BK103.out 3).trans rfl
         have hcz18_4 : wc.cell? ⟨gb103, 4, none⟩ = some (.slice A0_4 l0_4.length c0_4) := (blk_cell BK103.out 4).trans rfl
         have hfz18_0 := blk_frozen BK103.out 0
         have hfz18_1 := blk_frozen BK103.out 1
         have hfz18_2 := blk_frozen BK103.out 2
         have hfz18_3 := blk_frozen BK103.out 3
         have hfz18_4 := blk_frozen BK103.out 4
         go_wp2_with (first | ((with_reducible refine gate_callee (f := 30) rfl ?_); refine cU_ (some 36) Try.func30 #[.int .i64 a0_1, .int .i64 0, .int .i64 1] ?_; (with_reducible refine (spec_l01In.calls a0_1 0 1 true _ A15.out).mono ?_); rintro e w' ⟨rfl, ⟨nd, rfl⟩⟩; refine ⟨_, rfl, ?_⟩))
         go_ret
         exact ⟨retE_, belE_⟩
       ·
        as_aux_lemma =>
         rw [if_neg c17] at H
         have c17b0 : (a0_2.toList == ([] : List UInt8)) = false := beq_eq_false_iff_ne.mpr c17
         have c17b1 : (a0_2.toList != ([] : List UInt8)) = true := bne_iff_ne.mpr c17
         (try (have c17b2 : a0_2.toList.isEmpty = false := by simpa using c17))
         obtain rfl := Option.some.inj H
         have hcz19_0 : wc.cell? ⟨gb103, 0, none⟩ = some (.int .i64 a0_0) := (blk_cell BK103.out 0).trans rfl
         have hcz19_1 : wc.cell? ⟨gb103, 1, none⟩ = some (.int .i64 a0_1) := (blk_cell BK103.out 1).trans rfl
         have hcz19_2 : wc.cell? ⟨gb103, 2, none⟩ = some (.string a0_2) := (blk_cell BK103.out 2).trans rfl
         have hcz19_3 : wc.cell? ⟨gb103, 3, none⟩ = some (.slice A0_3 l0_3.length c0_3) := (blk_cell BK103.out 3).trans rfl
         have hcz19_4 : wc.cell? ⟨gb103, 4, none⟩ = some (.slice A0_4 l0_4.length c0_4) := (blk_cell BK103.out 4).trans rfl
         have hfz19_0 := blk_frozen BK103.out 0
         have hfz19_1 := blk_frozen BK103.out 1
         have hfz19_2 := blk_frozen BK103.out 2
         have hfz19_3 := blk_frozen BK103.out 3
         have hfz19_4 := blk_frozen BK103.out 4
         go_wp2_with (first | ((with_reducible refine gate_callee (f := 30) rfl ?_); refine cU_ (some 36) Try.func30 #[.int .i64 a0_1, .int .i64 0, .int .i64 1] ?_; (with_reducible refine (spec_l01In.calls a0_1 0 1 true _ A15.out).mono ?_); rintro e w' ⟨rfl, ⟨nd, rfl⟩⟩; refine ⟨_, rfl, ?_⟩))
         go_ret
         exact ⟨retE_, belE_⟩
      ·
       as_aux_lemma =>
        replace c16 := Bool.eq_false_iff.mpr c16
        subst c16
        replace H := ifF_ H
        obtain rfl := Option.some.inj H
        have hcz20_0 : wc.cell? ⟨gb103, 0, none⟩ = some (.int .i64 a0_0) := (blk_cell BK103.out 0).trans rfl
        have hcz20_1 : wc.cell? ⟨gb103, 1, none⟩ = some (.int .i64 a0_1) := (blk_cell BK103.out 1).trans rfl
        have hcz20_2 : wc.cell? ⟨gb103, 2, none⟩ = some (.string a0_2) := (blk_cell BK103.out 2).trans rfl
        have hcz20_3 : wc.cell? ⟨gb103, 3, none⟩ = some (.slice A0_3 l0_3.length c0_3) := (blk_cell BK103.out 3).trans rfl
        have hcz20_4 : wc.cell? ⟨gb103, 4, none⟩ = some (.slice A0_4 l0_4.length c0_4) := (blk_cell BK103.out 4).trans rfl
        have hfz20_0 := blk_frozen BK103.out 0
        have hfz20_1 := blk_frozen BK103.out 1
        have hfz20_2 := blk_frozen BK103.out 2
        have hfz20_3 := blk_frozen BK103.out 3
        have hfz20_4 := blk_frozen BK103.out 4
        go_wp2_with (first | ((with_reducible refine gate_callee (f := 30) rfl ?_); refine cU_ (some 36) Try.func30 #[.int .i64 a0_1, .int .i64 0, .int .i64 1] ?_; (with_reducible refine (spec_l01In.calls a0_1 0 1 false _ A15.out).mono ?_); rintro e w' ⟨rfl, ⟨nd, rfl⟩⟩; refine ⟨_, rfl, ?_⟩))
        go_ret
        exact ⟨retE_, belE_⟩
     ·
      rw [if_neg c14] at H
      have c14b0 : (a0_0 == 2) = false := beq_eq_false_iff_ne.mpr c14
      have c14b1 : (a0_0 != 2) = true := bne_iff_ne.mpr c14
      by_cases c21 : a0_0 = 3
      ·
       rw [if_pos c21] at H
       have c21b0 : (a0_0 == 3) = true := beq_iff_eq.mpr c21
       have c21b1 : (a0_0 != 3) = false := bne_eq_false_iff_eq.mpr c21
       clear c21
       obtain ⟨t105, A22, H⟩ := bindE_ H
       by_cases c23 : t105 = true
       ·
        subst c23
        replace H := ifT_ H
        by_cases c24 : a0_2.toList = ([] : List UInt8)
        ·
         as_aux_lemma =>
          rw [if_pos c24] at H
          have c24b0 : (a0_2.toList == ([] : List UInt8)) = true := beq_iff_eq.mpr c24
          have c24b1 : (a0_2.toList != ([] : List UInt8)) = false := bne_eq_false_iff_eq.mpr c24
          (try (have c24b2 : a0_2.toList.isEmpty = true := by simpa using c24))
          clear c24
          obtain rfl := Option.some.inj H
          have hcz25_0 : wc.cell? ⟨gb103, 0, none⟩ = some (.int .i64 a0_0) := (blk_cell BK103.out 0).trans rfl
          have hcz25_1 : wc.cell? ⟨gb103, 1, none⟩ = some (.int .i64 a0_1) := (blk_cell BK103.out 1).trans rfl
          have hcz25_2 : wc.cell? ⟨gb103, 2, none⟩ = some (.string a0_2) := (blk_cell BK103.out 2).trans rfl
          have hcz25_3 : wc.cell? ⟨gb103, 3, none⟩ = some (.slice A0_3 l0_3.length c0_3) := (blk_cell BK103.out 3).trans rfl
          have hcz25_4 : wc.cell? ⟨gb103, 4, none⟩ = some (.slice A0_4 l0_4.length c0_4) := (blk_cell BK103.out 4).trans rfl
          have hfz25_0 := blk_frozen BK103.out 0
          have hfz25_1 := blk_frozen BK103.out 1
          have hfz25_2 := blk_frozen BK103.out 2
          have hfz25_3 := blk_frozen BK103.out 3
          have hfz25_4 := blk_frozen BK103.out 4
          go_wp2_with (first | ((with_reducible refine gate_callee (f := 30) rfl ?_); refine cU_ (some 49) Try.func30 #[.int .i64 a0_1, .int .i64 (-999999999), .int .i64 999999999] ?_; (with_reducible refine (spec_l01In.calls a0_1 (-999999999) 999999999 true _ A22.out).mono ?_); rintro e w' ⟨rfl, ⟨nd, rfl⟩⟩; refine ⟨_, rfl, ?_⟩))
          go_ret
          exact ⟨retE_, belE_⟩
        ·
         as_aux_lemma =>
          rw [if_neg c24] at H
          have c24b0 : (a0_2.toList == ([] : List UInt8)) = false := beq_eq_false_iff_ne.mpr c24
          have c24b1 : (a0_2.toList != ([] : List UInt8)) = true := bne_iff_ne.mpr c24
          (try (have c24b2 : a0_2.toList.isEmpty = false := by simpa using c24))
          obtain rfl := Option.some.inj H
          have hcz26_0 : wc.cell? ⟨gb103, 0, none⟩ = some (.int .i64 a0_0) := (blk_cell BK103.out 0).trans rfl
          have hcz26_1 : wc.cell? ⟨gb103, 1, none⟩ = some (.int .i64 a0_1) := (blk_cell BK103.out 1).trans rfl
          have hcz26_2 : wc.cell? ⟨gb103, 2, none⟩ = some (.string a0_2) := (blk_cell BK103.out 2).trans rfl
          have hcz26_3 : wc.cell? ⟨gb103, 3, none⟩ = some (.slice A0_3 l0_3.length c0_3) := (blk_cell BK103.out 3).trans rfl
          have hcz26_4 : wc.cell? ⟨gb103, 4, none⟩ = some (.slice A0_4 l0_4.length c0_4) := (blk_cell BK103.out 4).trans rfl
          have hfz26_0 := blk_frozen BK103.out 0
          have hfz26_1 := blk_frozen BK103.out 1
          have hfz26_2 := blk_frozen BK103.out 2
          have hfz26_3 := blk_frozen BK103.out 3
          have hfz26_4 := blk_frozen BK103.out 4
          go_wp2_with (first | ((with_reducible refine gate_callee (f := 30) rfl ?_); refine cU_ (some 49) Try.func30 #[.int .i64 a0_1, .int .i64 (-999999999), .int .i64 999999999] ?_; (with_reducible refine (spec_l01In.calls a0_1 (-999999999) 999999999 true _ A22.out).mono ?_); rintro e w' ⟨rfl, ⟨nd, rfl⟩⟩; refine ⟨_, rfl, ?_⟩))
          go_ret
          exact ⟨retE_, belE_⟩
       ·
        as_aux_lemma =>
         replace c23 := Bool.eq_false_iff.mpr c23
         subst c23
         replace H := ifF_ H
         obtain rfl := Option.some.inj H
         have hcz27_0 : wc.cell? ⟨gb103, 0, none⟩ = some (.int .i64 a0_0) := (blk_cell BK103.out 0).trans rfl
         have hcz27_1 : wc.cell? ⟨gb103, 1, none⟩ = some (.int .i64 a0_1) := (blk_cell BK103.out 1).trans rfl
         have hcz27_2 : wc.cell? ⟨gb103, 2, none⟩ = some (.string a0_2) := (blk_cell BK103.out 2).trans rfl
         have hcz27_3 : wc.cell? ⟨gb103, 3, none⟩ = some (.slice A0_3 l0_3.length c0_3) := (blk_cell BK103.out 3).trans rfl
         have hcz27_4 : wc.cell? ⟨gb103, 4, none⟩ = some (.slice A0_4 l0_4.length c0_4) := (blk_cell BK103.out 4).trans rfl
         have hfz27_0 := blk_frozen BK103.out 0
         have hfz27_1 := blk_frozen BK103.out 1
         have hfz27_2 := blk_frozen BK103.out 2
         have hfz27_3 := blk_frozen BK103.out 3
         have hfz27_4 := blk_frozen BK103.out 4
         go_wp2_with (first | ((with_reducible refine gate_callee (f := 30) rfl ?_); refine cU_ (some 49) Try.func30 #[.int .i64 a0_1, .int .i64 (-999999999), .int .i64 999999999] ?_; (with_reducible refine (spec_l01In.calls a0_1 (-999999999) 999999999 false _ A22.out).mono ?_); rintro e w' ⟨rfl, ⟨nd, rfl⟩⟩; refine ⟨_, rfl, ?_⟩))
         go_ret
         exact ⟨retE_, belE_⟩
      ·
       rw [if_neg c21] at H
       have c21b0 : (a0_0 == 3) = false := beq_eq_false_iff_ne.mpr c21
       have c21b1 : (a0_0 != 3) = true := bne_iff_ne.mpr c21
       by_cases c28 : a0_0 = 4
       ·
        rw [if_pos c28] at H
        have c28b0 : (a0_0 == 4) = true := beq_iff_eq.mpr c28
        have c28b1 : (a0_0 != 4) = false := bne_eq_false_iff_eq.mpr c28
        clear c28
        by_cases c29 : a0_1 = 0
        ·
         rw [if_pos c29] at H
         have c29b0 : (a0_1 == 0) = true := beq_iff_eq.mpr c29
         have c29b1 : (a0_1 != 0) = false := bne_eq_false_iff_eq.mpr c29
         clear c29
         by_cases c30 : (a0_2.size : Int) ≤ 120
         ·
          as_aux_lemma =>
           rw [if_pos c30] at H
           have c30b0 : decide ((a0_2.size : Int) ≤ 120) = true := decide_eq_true c30
           have c30b1 : decide (a0_2.size ≤ 120) = true := decide_eq_true (by omega)
           clear c30
           obtain rfl := Option.some.inj H
           have hcz31_0 : wc.cell? ⟨gb103, 0, none⟩ = some (.int .i64 a0_0) := (blk_cell BK103.out 0).trans rfl
           have hcz31_1 : wc.cell? ⟨gb103, 1, none⟩ = some (.int .i64 a0_1) := (blk_cell BK103.out 1).trans rfl
           have hcz31_2 : wc.cell? ⟨gb103, 2, none⟩ = some (.string a0_2) := (blk_cell BK103.out 2).trans rfl
           have hcz31_3 : wc.cell? ⟨gb103, 3, none⟩ = some (.slice A0_3 l0_3.length c0_3) := (blk_cell BK103.out 3).trans rfl
           have hcz31_4 : wc.cell? ⟨gb103, 4, none⟩ = some (.slice A0_4 l0_4.length c0_4) := (blk_cell BK103.out 4).trans rfl
           have hfz31_0 := blk_frozen BK103.out 0
           have hfz31_1 := blk_frozen BK103.out 1
           have hfz31_2 := blk_frozen BK103.out 2
           have hfz31_3 := blk_frozen BK103.out 3
           have hfz31_4 := blk_frozen BK103.out 4
           go_wp2
           go_ret
           exact ⟨retE_, belE_⟩
         ·
          as_aux_lemma =>
           rw [if_neg c30] at H
           have c30b0 : decide ((a0_2.size : Int) ≤ 120) = false := decide_eq_false c30
           have c30b1 : decide (a0_2.size ≤ 120) = false := decide_eq_false (by omega)
           clear c30
           obtain rfl := Option.some.inj H
           have hcz32_0 : wc.cell? ⟨gb103, 0, none⟩ = some (.int .i64 a0_0) := (blk_cell BK103.out 0).trans rfl
           have hcz32_1 : wc.cell? ⟨gb103, 1, none⟩ = some (.int .i64 a0_1) := (blk_cell BK103.out 1).trans rfl
           have hcz32_2 : wc.cell? ⟨gb103, 2, none⟩ = some (.string a0_2) := (blk_cell BK103.out 2).trans rfl
           have hcz32_3 : wc.cell? ⟨gb103, 3, none⟩ = some (.slice A0_3 l0_3.length c0_3) := (blk_cell BK103.out 3).trans rfl
           have hcz32_4 : wc.cell? ⟨gb103, 4, none⟩ = some (.slice A0_4 l0_4.length c0_4) := (blk_cell BK103.out 4).trans rfl
           have hfz32_0 := blk_frozen BK103.out 0
           have hfz32_1 := blk_frozen BK103.out 1
           have hfz32_2 := blk_frozen BK103.out 2
           have hfz32_3 := blk_frozen BK103.out 3
           have hfz32_4 := blk_frozen BK103.out 4
           go_wp2
           go_ret
           exact ⟨retE_, belE_⟩
        ·
         as_aux_lemma =>
          rw [if_neg c29] at H
          have c29b0 : (a0_1 == 0) = false := beq_eq_false_iff_ne.mpr c29
          have c29b1 : (a0_1 != 0) = true := bne_iff_ne.mpr c29
          obtain rfl := Option.some.inj H
          have hcz33_0 : wc.cell? ⟨gb103, 0, none⟩ = some (.int .i64 a0_0) := (blk_cell BK103.out 0).trans rfl
          have hcz33_1 : wc.cell? ⟨gb103, 1, none⟩ = some (.int .i64 a0_1) := (blk_cell BK103.out 1).trans rfl
          have hcz33_2 : wc.cell? ⟨gb103, 2, none⟩ = some (.string a0_2) := (blk_cell BK103.out 2).trans rfl
          have hcz33_3 : wc.cell? ⟨gb103, 3, none⟩ = some (.slice A0_3 l0_3.length c0_3) := (blk_cell BK103.out 3).trans rfl
          have hcz33_4 : wc.cell? ⟨gb103, 4, none⟩ = some (.slice A0_4 l0_4.length c0_4) := (blk_cell BK103.out 4).trans rfl
          have hfz33_0 := blk_frozen BK103.out 0
          have hfz33_1 := blk_frozen BK103.out 1
          have hfz33_2 := blk_frozen BK103.out 2
          have hfz33_3 := blk_frozen BK103.out 3
          have hfz33_4 := blk_frozen BK103.out 4
          go_wp2
          go_ret
          exact ⟨retE_, belE_⟩
       ·
        rw [if_neg c28] at H
        have c28b0 : (a0_0 == 4) = false := beq_eq_false_iff_ne.mpr c28
        have c28b1 : (a0_0 != 4) = true := bne_iff_ne.mpr c28
        have HC34 := Aside0.mk H
        clear H
        have hcz35_0 : wc.cell? ⟨gb103, 0, none⟩ = some (.int .i64 a0_0) := (blk_cell BK103.out 0).trans rfl
        have hcz35_1 : wc.cell? ⟨gb103, 1, none⟩ = some (.int .i64 a0_1) := (blk_cell BK103.out 1).trans rfl
        have hcz35_2 : wc.cell? ⟨gb103, 2, none⟩ = some (.string a0_2) := (blk_cell BK103.out 2).trans rfl
        have hcz35_3 : wc.cell? ⟨gb103, 3, none⟩ = some (.slice A0_3 l0_3.length c0_3) := (blk_cell BK103.out 3).trans rfl
        have hcz35_4 : wc.cell? ⟨gb103, 4, none⟩ = some (.slice A0_4 l0_4.length c0_4) := (blk_cell BK103.out 4).trans rfl
        have hfz35_0 := blk_frozen BK103.out 0
        have hfz35_1 := blk_frozen BK103.out 1
        have hfz35_2 := blk_frozen BK103.out 2
        have hfz35_3 := blk_frozen BK103.out 3
        have hfz35_4 := blk_frozen BK103.out 4
        go_upto_region 11 with (fail)
        go_cut [124] (fun v124 wc => ∃ (kq : Nat) (x124_33 : Bool), v124 = .bool x124_33 ∧ Aside0 (spec_l02OK.j1 kq a1 x124_33 a0_0 a0_1 a0_2 l0_3 l0_4 = some r) ∧ Aside0 (kq ≤ kj2) ∧ Aside0 (wc.heap[gb103]? = some (.cells #[.int .i64 a0_0, .int .i64 a0_1, .string a0_2, (.slice A0_3 l0_3.length c0_3), (.slice A0_4 l0_4.length c0_4)] 29 (0, 0))) ∧ Aside0 (Below w.heap.size w wc))
        case first =>
         have H := HC34.out
         clear HC34
         by_cases c36 : a0_0 = 5
         ·
          rw [if_pos c36] at H
          have c36b0 : (a0_0 == 5) = true := beq_iff_eq.mpr c36
          have c36b1 : (a0_0 != 5) = false := bne_eq_false_iff_eq.mpr c36
          clear c36
          (first | rw [c36b0] | (simp only [i64_w, i32_w]; rw [c36b0]) | skip)
          by_cases c37 : a0_1 = 0
          ·
           rw [if_pos c37] at H
           have c37b0 : (a0_1 == 0) = true := beq_iff_eq.mpr c37
           have c37b1 : (a0_1 != 0) = false := bne_eq_false_iff_eq.mpr c37
           clear c37
           by_cases c38 : a0_2.toList = ([] : List UInt8)
           ·
            rw [if_pos c38] at H
            have c38b0 : (a0_2.toList == ([] : List UInt8)) = true := beq_iff_eq.mpr c38
            have c38b1 : (a0_2.toList != ([] : List UInt8)) = false := bne_eq_false_iff_eq.mpr c38
            (try (have c38b2 : a0_2.toList.isEmpty = true := by simpa using c38))
            clear c38
            by_cases c39 : a1 = 1
            ·
             as_aux_lemma =>
              rw [if_pos c39] at H
              have c39b0 : (a1 == 1) = true := beq_iff_eq.mpr c39
              have c39b1 : (a1 != 1) = false := bne_eq_false_iff_eq.mpr c39
              clear c39
              have H' := Aside0.mk H
              clear H
              have hcz40_0 : wc.cell? ⟨gb103, 0, none⟩ = some (.int .i64 a0_0) := (blk_cell BK103.out 0).trans rfl
              have hcz40_1 : wc.cell? ⟨gb103, 1, none⟩ = some (.int .i64 a0_1) := (blk_cell BK103.out 1).trans rfl
              have hcz40_2 : wc.cell? ⟨gb103, 2, none⟩ = some (.string a0_2) := (blk_cell BK103.out 2).trans rfl
              have hcz40_3 : wc.cell? ⟨gb103, 3, none⟩ = some (.slice A0_3 l0_3.length c0_3) := (blk_cell BK103.out 3).trans rfl
              have hcz40_4 : wc.cell? ⟨gb103, 4, none⟩ = some (.slice A0_4 l0_4.length c0_4) := (blk_cell BK103.out 4).trans rfl
              have hfz40_0 := blk_frozen BK103.out 0
              have hfz40_1 := blk_frozen BK103.out 1
              have hfz40_2 := blk_frozen BK103.out 2
              have hfz40_3 := blk_frozen BK103.out 3
              have hfz40_4 := blk_frozen BK103.out 4
              go_wp2
              go_meet
              case rel => exact ⟨_, (true), eqE_, H', ⟨by have := HJ2.out; first | omega | exact Nat.le_refl _⟩, ⟨blkE_⟩, ⟨belE_⟩⟩
            ·
             rw [if_neg c39] at H
             have c39b0 : (a1 == 1) = false := beq_eq_false_iff_ne.mpr c39
             have c39b1 : (a1 != 1) = true := bne_iff_ne.mpr c39
             by_cases c41 : (l0_4.length : Int) > 12
             ·
              as_aux_lemma =>
               rw [if_pos c41] at H
               have c41b0 : decide (12 < (l0_4.length : Int)) = true := decide_eq_true c41
               have c41b1 : decide (12 < l0_4.length) = true := decide_eq_true (by omega)
               clear c41
               have H' := Aside0.mk H
               clear H
               have hcz42_0 : wc.cell? ⟨gb103, 0, none⟩ = some (.int .i64 a0_0) := (blk_cell BK103.out 0).trans rfl
               have hcz42_1 : wc.cell? ⟨gb103, 1, none⟩ = some (.int .i64 a0_1) := (blk_cell BK103.out 1).trans rfl
               have hcz42_2 : wc.cell? ⟨gb103, 2, none⟩ = some (.string a0_2) := (blk_cell BK103.out 2).trans rfl
               have hcz42_3 : wc.cell? ⟨gb103, 3, none⟩ = some (.slice A0_3 l0_3.length c0_3) := (blk_cell BK103.out 3).trans rfl
               have hcz42_4 : wc.cell? ⟨gb103, 4, none⟩ = some (.slice A0_4 l0_4.length c0_4) := (blk_cell BK103.out 4).trans rfl
               have hfz42_0 := blk_frozen BK103.out 0
               have hfz42_1 := blk_frozen BK103.out 1
               have hfz42_2 := blk_frozen BK103.out 2
               have hfz42_3 := blk_frozen BK103.out 3
               have hfz42_4 := blk_frozen BK103.out 4
               go_wp2
               go_meet
               case rel => exact ⟨_, (true), eqE_, H', ⟨by have := HJ2.out; first | omega | exact Nat.le_refl _⟩, ⟨blkE_⟩, ⟨belE_⟩⟩
             ·
              rw [if_neg c41] at H
              have c41b0 : decide (12 < (l0_4.length : Int)) = false := decide_eq_false c41
              have c41b1 : decide (12 < l0_4.length) = false := decide_eq_false (by omega)
              clear c41
              by_cases c43 : (l0_3.length : Int) > 0
              ·
               as_aux_lemma =>
                rw [if_pos c43] at H
                have c43b0 : decide (0 < (l0_3.length : Int)) = true := decide_eq_true c43
                have c43b1 : decide (0 < l0_3.length) = true := decide_eq_true (by omega)
                clear c43
                have H' := Aside0.mk H
                clear H
                have hcz44_0 : wc.cell? ⟨gb103, 0, none⟩ = some (.int .i64 a0_0) := (blk_cell BK103.out 0).trans rfl
                have hcz44_1 : wc.cell? ⟨gb103, 1, none⟩ = some (.int .i64 a0_1) := (blk_cell BK103.out 1).trans rfl
                have hcz44_2 : wc.cell? ⟨gb103, 2, none⟩ = some (.string a0_2) := (blk_cell BK103.out 2).trans rfl
                have hcz44_3 : wc.cell? ⟨gb103, 3, none⟩ = some (.slice A0_3 l0_3.length c0_3) := (blk_cell BK103.out 3).trans rfl
                have hcz44_4 : wc.cell? ⟨gb103, 4, none⟩ = some (.slice A0_4 l0_4.length c0_4) := (blk_cell BK103.out 4).trans rfl
                have hfz44_0 := blk_frozen BK103.out 0
                have hfz44_1 := blk_frozen BK103.out 1
                have hfz44_2 := blk_frozen BK103.out 2
                have hfz44_3 := blk_frozen BK103.out 3
                have hfz44_4 := blk_frozen BK103.out 4
                go_wp2
                go_meet
                case rel => exact ⟨_, (true), eqE_, H', ⟨by have := HJ2.out; first | omega | exact Nat.le_refl _⟩, ⟨blkE_⟩, ⟨belE_⟩⟩
              ·
               rw [if_neg c43] at H
               have c43b0 : decide (0 < (l0_3.length : Int)) = false := decide_eq_false c43
               have c43b1 : decide (0 < l0_3.length) = false := decide_eq_false (by omega)
               clear c43
               by_cases c45 : a0_0 = 6
               ·
                as_aux_lemma =>
                 rw [if_pos c45] at H
                 have c45b0 : (a0_0 == 6) = true := beq_iff_eq.mpr c45
                 have c45b1 : (a0_0 != 6) = false := bne_eq_false_iff_eq.mpr c45
                 clear c45
                 have H' := Aside0.mk H
                 clear H
                 have hcz46_0 : wc.cell? ⟨gb103, 0, none⟩ = some (.int .i64 a0_0) := (blk_cell BK103.out 0).trans rfl
                 have hcz46_1 : wc.cell? ⟨gb103, 1, none⟩ = some (.int .i64 a0_1) := (blk_cell BK103.out 1).trans rfl
                 have hcz46_2 : wc.cell? ⟨gb103, 2, none⟩ = some (.string a0_2) := (blk_cell BK103.out 2).trans rfl
                 have hcz46_3 : wc.cell? ⟨gb103, 3, none⟩ = some (.slice A0_3 l0_3.length c0_3) := (blk_cell BK103.out 3).trans rfl
                 have hcz46_4 : wc.cell? ⟨gb103, 4, none⟩ = some (.slice A0_4 l0_4.length c0_4) := (blk_cell BK103.out 4).trans rfl
                 have hfz46_0 := blk_frozen BK103.out 0
                 have hfz46_1 := blk_frozen BK103.out 1
                 have hfz46_2 := blk_frozen BK103.out 2
                 have hfz46_3 := blk_frozen BK103.out 3
                 have hfz46_4 := blk_frozen BK103.out 4
                 go_wp2
                 go_meet
                 case rel => exact ⟨_, (((l0_3.length : Int) != (l0_4.length : Int))), eqE_, H', ⟨by have := HJ2.out; first | omega | exact Nat.le_refl _⟩, ⟨blkE_⟩, ⟨belE_⟩⟩
               ·
                as_aux_lemma =>
                 rw [if_neg c45] at H
                 have c45b0 : (a0_0 == 6) = false := beq_eq_false_iff_ne.mpr c45
                 have c45b1 : (a0_0 != 6) = true := bne_iff_ne.mpr c45
                 have H' := Aside0.mk H
                 clear H
                 have hcz47_0 : wc.cell? ⟨gb103, 0, none⟩ = some (.int .i64 a0_0) := (blk_cell BK103.out 0).trans rfl
                 have hcz47_1 : wc.cell? ⟨gb103, 1, none⟩ = some (.int .i64 a0_1) := (blk_cell BK103.out 1).trans rfl
                 have hcz47_2 : wc.cell? ⟨gb103, 2, none⟩ = some (.string a0_2) := (blk_cell BK103.out 2).trans rfl
                 have hcz47_3 : wc.cell? ⟨gb103, 3, none⟩ = some (.slice A0_3 l0_3.length c0_3) := (blk_cell BK103.out 3).trans rfl
                 have hcz47_4 : wc.cell? ⟨gb103, 4, none⟩ = some (.slice A0_4 l0_4.length c0_4) := (blk_cell BK103.out 4).trans rfl
                 have hfz47_0 := blk_frozen BK103.out 0
                 have hfz47_1 := blk_frozen BK103.out 1
                 have hfz47_2 := blk_frozen BK103.out 2
                 have hfz47_3 := blk_frozen BK103.out 3
                 have hfz47_4 := blk_frozen BK103.out 4
                 go_wp2
                 go_meet
                 case rel => exact ⟨_, (false), eqE_, H', ⟨by have := HJ2.out; first | omega | exact Nat.le_refl _⟩, ⟨blkE_⟩, ⟨belE_⟩⟩
           ·
            as_aux_lemma =>
             rw [if_neg c38] at H
             have c38b0 : (a0_2.toList == ([] : List UInt8)) = false := beq_eq_false_iff_ne.mpr c38
             have c38b1 : (a0_2.toList != ([] : List UInt8)) = true := bne_iff_ne.mpr c38
             (try (have c38b2 : a0_2.toList.isEmpty = false := by simpa using c38))
             have H' := Aside0.mk H
             clear H
             have hcz48_0 : wc.cell? ⟨gb103, 0, none⟩ = some (.int .i64 a0_0) := (blk_cell BK103.out 0).trans rfl
             have hcz48_1 : wc.cell? ⟨gb103, 1, none⟩ = some (.int .i64 a0_1) := (blk_cell BK103.out 1).trans rfl
             have hcz48_2 : wc.cell? ⟨gb103, 2, none⟩ = some (.string a0_2) := (blk_cell BK103.out 2).trans rfl
             have hcz48_3 : wc.cell? ⟨gb103, 3, none⟩ = some (.slice A0_3 l0_3.length c0_3) := (blk_cell BK103.out 3).trans rfl
             have hcz48_4 : wc.cell? ⟨gb103, 4, none⟩ = some (.slice A0_4 l0_4.length c0_4) := (blk_cell BK103.out 4).trans rfl
             have hfz48_0 := blk_frozen BK103.out 0
             have hfz48_1 := blk_frozen BK103.out 1
             have hfz48_2 := blk_frozen BK103.out 2
             have hfz48_3 := blk_frozen BK103.out 3
             have hfz48_4 := blk_frozen BK103.out 4
             go_wp2
             go_meet
             case rel => exact ⟨_, (true), eqE_, H', ⟨by have := HJ2.out; first | omega | exact Nat.le_refl _⟩, ⟨blkE_⟩, ⟨belE_⟩⟩
          ·
           as_aux_lemma =>
            rw [if_neg c37] at H
            have c37b0 : (a0_1 == 0) = false := beq_eq_false_iff_ne.mpr c37
            have c37b1 : (a0_1 != 0) = true := bne_iff_ne.mpr c37
            have H' := Aside0.mk H
            clear H
            have hcz49_0 : wc.cell? ⟨gb103, 0, none⟩ = some (.int .i64 a0_0) := (blk_cell BK103.out 0).trans rfl
            have hcz49_1 : wc.cell? ⟨gb103, 1, none⟩ = some (.int .i64 a0_1) := (blk_cell BK103.out 1).trans rfl
            have hcz49_2 : wc.cell? ⟨gb103, 2, none⟩ = some (.string a0_2) := (blk_cell BK103.out 2).trans rfl
            have hcz49_3 : wc.cell? ⟨gb103, 3, none⟩ = some (.slice A0_3 l0_3.length c0_3) := (blk_cell BK103.out 3).trans rfl
            have hcz49_4 : wc.cell? ⟨gb103, 4, none⟩ = some (.slice A0_4 l0_4.length c0_4) := (blk_cell BK103.out 4).trans rfl
            have hfz49_0 := blk_frozen BK103.out 0
            have hfz49_1 := blk_frozen BK103.out 1
            have hfz49_2 := blk_frozen BK103.out 2
            have hfz49_3 := blk_frozen BK103.out 3
            have hfz49_4 := blk_frozen BK103.out 4
            go_wp2
            go_meet
            case rel => exact ⟨_, (true), eqE_, H', ⟨by have := HJ2.out; first | omega | exact Nat.le_refl _⟩, ⟨blkE_⟩, ⟨belE_⟩⟩
         ·
          rw [if_neg c36] at H
          have c36b0 : (a0_0 == 5) = false := beq_eq_false_iff_ne.mpr c36
          have c36b1 : (a0_0 != 5) = true := bne_iff_ne.mpr c36
          (first | rw [c36b0] | (simp only [i64_w, i32_w]; rw [c36b0]) | skip)
          by_cases c50 : a0_0 = 6
          ·
           rw [if_pos c50] at H
           have c50b0 : (a0_0 == 6) = true := beq_iff_eq.mpr c50
           have c50b1 : (a0_0 != 6) = false := bne_eq_false_iff_eq.mpr c50
           clear c50
           by_cases c51 : a0_1 = 0
           ·
            rw [if_pos c51] at H
            have c51b0 : (a0_1 == 0) = true := beq_iff_eq.mpr c51
            have c51b1 : (a0_1 != 0) = false := bne_eq_false_iff_eq.mpr c51
            clear c51
            by_cases c52 : a0_2.toList = ([] : List UInt8)
            ·
             rw [if_pos c52] at H
             have c52b0 : (a0_2.toList == ([] : List UInt8)) = true := beq_iff_eq.mpr c52
             have c52b1 : (a0_2.toList != ([] : List UInt8)) = false := bne_eq_false_iff_eq.mpr c52
             (try (have c52b2 : a0_2.toList.isEmpty = true := by simpa using c52))
             clear c52
             by_cases c53 : a1 = 1
             ·
              as_aux_lemma =>
               rw [if_pos c53] at H
               have c53b0 : (a1 == 1) = true := beq_iff_eq.mpr c53
               have c53b1 : (a1 != 1) = false := bne_eq_false_iff_eq.mpr c53
               clear c53
               have H' := Aside0.mk H
               clear H
               have hcz54_0 : wc.cell? ⟨gb103, 0, none⟩ = some (.int .i64 a0_0) := (blk_cell BK103.out 0).trans rfl
               have hcz54_1 : wc.cell? ⟨gb103, 1, none⟩ = some (.int .i64 a0_1) := (blk_cell BK103.out 1).trans rfl
               have hcz54_2 : wc.cell? ⟨gb103, 2, none⟩ = some (.string a0_2) := (blk_cell BK103.out 2).trans rfl
               have hcz54_3 : wc.cell? ⟨gb103, 3, none⟩ = some (.slice A0_3 l0_3.length c0_3) := (blk_cell BK103.out 3).trans rfl
               have hcz54_4 : wc.cell? ⟨gb103, 4, none⟩ = some (.slice A0_4 l0_4.length c0_4) := (blk_cell BK103.out 4).trans rfl
               have hfz54_0 := blk_frozen BK103.out 0
               have hfz54_1 := blk_frozen BK103.out 1
               have hfz54_2 := blk_frozen BK103.out 2
               have hfz54_3 := blk_frozen BK103.out 3
               have hfz54_4 := blk_frozen BK103.out 4
               go_wp2
               go_meet
               case rel => exact ⟨_, (true), eqE_, H', ⟨by have := HJ2.out; first | omega | exact Nat.le_refl _⟩, ⟨blkE_⟩, ⟨belE_⟩⟩
             ·
              rw [if_neg c53] at H
              have c53b0 : (a1 == 1) = false := beq_eq_false_iff_ne.mpr c53
              have c53b1 : (a1 != 1) = true := bne_iff_ne.mpr c53
              by_cases c55 : (l0_4.length : Int) > 12
              ·
               as_aux_lemma =>
                rw [if_pos c55] at H
                have c55b0 : decide (12 < (l0_4.length : Int)) = true := decide_eq_true c55
                have c55b1 : decide (12 < l0_4.length) = true := decide_eq_true (by omega)
                clear c55
                have H' := Aside0.mk H
                clear H
                have hcz56_0 : wc.cell? ⟨gb103, 0, none⟩ = some (.int .i64 a0_0) := (blk_cell BK103.out 0).trans rfl
                have hcz56_1 : wc.cell? ⟨gb103, 1, none⟩ = some (.int .i64 a0_1) := (blk_cell BK103.out 1).trans rfl
                have hcz56_2 : wc.cell? ⟨gb103, 2, none⟩ = some (.string a0_2) := (blk_cell BK103.out 2).trans rfl
                have hcz56_3 : wc.cell? ⟨gb103, 3, none⟩ = some (.slice A0_3 l0_3.length c0_3) := (blk_cell BK103.out 3).trans rfl
                have hcz56_4 : wc.cell? ⟨gb103, 4, none⟩ = some (.slice A0_4 l0_4.length c0_4) := (blk_cell BK103.out 4).trans rfl
                have hfz56_0 := blk_frozen BK103.out 0
                have hfz56_1 := blk_frozen BK103.out 1
                have hfz56_2 := blk_frozen BK103.out 2
                have hfz56_3 := blk_frozen BK103.out 3
                have hfz56_4 := blk_frozen BK103.out 4
                go_wp2
                go_meet
                case rel => exact ⟨_, (true), eqE_, H', ⟨by have := HJ2.out; first | omega | exact Nat.le_refl _⟩, ⟨blkE_⟩, ⟨belE_⟩⟩
              ·
               as_aux_lemma =>
                rw [if_neg c55] at H
                have c55b0 : decide (12 < (l0_4.length : Int)) = false := decide_eq_false c55
                have c55b1 : decide (12 < l0_4.length) = false := decide_eq_false (by omega)
                clear c55
                have H' := Aside0.mk H
                clear H
                have hcz57_0 : wc.cell? ⟨gb103, 0, none⟩ = some (.int .i64 a0_0) := (blk_cell BK103.out 0).trans rfl
                have hcz57_1 : wc.cell? ⟨gb103, 1, none⟩ = some (.int .i64 a0_1) := (blk_cell BK103.out 1).trans rfl
                have hcz57_2 : wc.cell? ⟨gb103, 2, none⟩ = some (.string a0_2) := (blk_cell BK103.out 2).trans rfl
                have hcz57_3 : wc.cell? ⟨gb103, 3, none⟩ = some (.slice A0_3 l0_3.length c0_3) := (blk_cell BK103.out 3).trans rfl
                have hcz57_4 : wc.cell? ⟨gb103, 4, none⟩ = some (.slice A0_4 l0_4.length c0_4) := (blk_cell BK103.out 4).trans rfl
                have hfz57_0 := blk_frozen BK103.out 0
                have hfz57_1 := blk_frozen BK103.out 1
                have hfz57_2 := blk_frozen BK103.out 2
                have hfz57_3 := blk_frozen BK103.out 3
                have hfz57_4 := blk_frozen BK103.out 4
                go_wp2
                go_meet
                case rel => exact ⟨_, (((l0_3.length : Int) != (l0_4.length : Int))), eqE_, H', ⟨by have := HJ2.out; first | omega | exact Nat.le_refl _⟩, ⟨blkE_⟩, ⟨belE_⟩⟩
            ·
             as_aux_lemma =>
              rw [if_neg c52] at H
              have c52b0 : (a0_2.toList == ([] : List UInt8)) = false := beq_eq_false_iff_ne.mpr c52
              have c52b1 : (a0_2.toList != ([] : List UInt8)) = true := bne_iff_ne.mpr c52
              (try (have c52b2 : a0_2.toList.isEmpty = false := by simpa using c52))
              have H' := Aside0.mk H
              clear H
              have hcz58_0 : wc.cell? ⟨gb103, 0, none⟩ = some (.int .i64 a0_0) := (blk_cell BK103.out 0).trans rfl
              have hcz58_1 : wc.cell? ⟨gb103, 1, none⟩ = some (.int .i64 a0_1) := (blk_cell BK103.out 1).trans rfl
              have hcz58_2 : wc.cell? ⟨gb103, 2, none⟩ = some (.string a0_2) := (blk_cell BK103.out 2).trans rfl
              have hcz58_3 : wc.cell? ⟨gb103, 3, none⟩ = some (.slice A0_3 l0_3.length c0_3) := (blk_cell BK103.out 3).trans rfl
              have hcz58_4 : wc.cell? ⟨gb103, 4, none⟩ = some (.slice A0_4 l0_4.length c0_4) := (blk_cell BK103.out 4).trans rfl
              have hfz58_0 := blk_frozen BK103.out 0
              have hfz58_1 := blk_frozen BK103.out 1
              have hfz58_2 := blk_frozen BK103.out 2
              have hfz58_3 := blk_frozen BK103.out 3
              have hfz58_4 := blk_frozen BK103.out 4
              go_wp2
              go_meet
              case rel => exact ⟨_, (true), eqE_, H', ⟨by have := HJ2.out; first | omega | exact Nat.le_refl _⟩, ⟨blkE_⟩, ⟨belE_⟩⟩
           ·
            as_aux_lemma =>
             rw [if_neg c51] at H
             have c51b0 : (a0_1 == 0) = false := beq_eq_false_iff_ne.mpr c51
             have c51b1 : (a0_1 != 0) = true := bne_iff_ne.mpr c51
             have H' := Aside0.mk H
             clear H
             have hcz59_0 : wc.cell? ⟨gb103, 0, none⟩ = some (.int .i64 a0_0) := (blk_cell BK103.out 0).trans rfl
             have hcz59_1 : wc.cell? ⟨gb103, 1, none⟩ = some (.int .i64 a0_1) := (blk_cell BK103.out 1).trans rfl
             have hcz59_2 : wc.cell? ⟨gb103, 2, none⟩ = some (.string a0_2) := (blk_cell BK103.out 2).trans rfl
             have hcz59_3 : wc.cell? ⟨gb103, 3, none⟩ = some (.slice A0_3 l0_3.length c0_3) := (blk_cell BK103.out 3).trans rfl
             have hcz59_4 : wc.cell? ⟨gb103, 4, none⟩ = some (.slice A0_4 l0_4.length c0_4) := (blk_cell BK103.out 4).trans rfl
             have hfz59_0 := blk_frozen BK103.out 0
             have hfz59_1 := blk_frozen BK103.out 1
             have hfz59_2 := blk_frozen BK103.out 2
             have hfz59_3 := blk_frozen BK103.out 3
             have hfz59_4 := blk_frozen BK103.out 4
             go_wp2
             go_meet
             case rel => exact ⟨_, (true), eqE_, H', ⟨by have := HJ2.out; first | omega | exact Nat.le_refl _⟩, ⟨blkE_⟩, ⟨belE_⟩⟩
          ·
           as_aux_lemma =>
            rw [if_neg c50] at H
            have c50b0 : (a0_0 == 6) = false := beq_eq_false_iff_ne.mpr c50
            have c50b1 : (a0_0 != 6) = true := bne_iff_ne.mpr c50
            have H' := Aside0.mk H
            clear H
            have hcz60_0 : wc.cell? ⟨gb103, 0, none⟩ = some (.int .i64 a0_0) := (blk_cell BK103.out 0).trans rfl
            have hcz60_1 : wc.cell? ⟨gb103, 1, none⟩ = some (.int .i64 a0_1) := (blk_cell BK103.out 1).trans rfl
            have hcz60_2 : wc.cell? ⟨gb103, 2, none⟩ = some (.string a0_2) := (blk_cell BK103.out 2).trans rfl
            have hcz60_3 : wc.cell? ⟨gb103, 3, none⟩ = some (.slice A0_3 l0_3.length c0_3) := (blk_cell BK103.out 3).trans rfl
            have hcz60_4 : wc.cell? ⟨gb103, 4, none⟩ = some (.slice A0_4 l0_4.length c0_4) := (blk_cell BK103.out 4).trans rfl
            have hfz60_0 := blk_frozen BK103.out 0
            have hfz60_1 := blk_frozen BK103.out 1
            have hfz60_2 := blk_frozen BK103.out 2
            have hfz60_3 := blk_frozen BK103.out 3
            have hfz60_4 := blk_frozen BK103.out 4
            go_wp2
            go_meet
            case rel => exact ⟨_, (true), eqE_, H', ⟨by have := HJ2.out; first | omega | exact Nat.le_refl _⟩, ⟨blkE_⟩, ⟨belE_⟩⟩
        case rest =>
         clear HC34
         try clear c8
         try clear c8b0
         try clear c8b1
         try clear c9
         try clear c9b0
         try clear c9b1
         try clear c10
         try clear c10b0
         try clear c10b1
         try clear c10b2
         try clear c14
         try clear c14b0
         try clear c14b1
         try clear c16
         try clear c17
         try clear c17b0
         try clear c17b1
         try clear c17b2
         try clear c21
         try clear c21b0
         try clear c21b1
         try clear c23
         try clear c24
         try clear c24b0
         try clear c24b1
         try clear c24b2
         try clear c28
         try clear c28b0
         try clear c28b1
         try clear c29
         try clear c29b0
         try clear c29b1
         try clear c30
         try clear c30b0
         try clear c30b1
         try clear hcz11_0 hcz11_1 hcz11_2 hcz11_3 hcz11_4
         try clear hcz12_0 hcz12_1 hcz12_2 hcz12_3 hcz12_4
         try clear hcz13_0 hcz13_1 hcz13_2 hcz13_3 hcz13_4
         try clear hcz18_0 hcz18_1 hcz18_2 hcz18_3 hcz18_4
         try clear hcz19_0 hcz19_1 hcz19_2 hcz19_3 hcz19_4
         try clear hcz20_0 hcz20_1 hcz20_2 hcz20_3 hcz20_4
         try clear hcz25_0 hcz25_1 hcz25_2 hcz25_3 hcz25_4
         try clear hcz26_0 hcz26_1 hcz26_2 hcz26_3 hcz26_4
         try clear hcz27_0 hcz27_1 hcz27_2 hcz27_3 hcz27_4
         try clear hcz31_0 hcz31_1 hcz31_2 hcz31_3 hcz31_4
         try clear hcz32_0 hcz32_1 hcz32_2 hcz32_3 hcz32_4
         try clear hcz33_0 hcz33_1 hcz33_2 hcz33_3 hcz33_4
         try clear hcz35_0 hcz35_1 hcz35_2 hcz35_3 hcz35_4
         try clear hfz11_0 hfz11_1 hfz11_2 hfz11_3 hfz11_4
         try clear hfz12_0 hfz12_1 hfz12_2 hfz12_3 hfz12_4
         try clear hfz13_0 hfz13_1 hfz13_2 hfz13_3 hfz13_4
         try clear hfz18_0 hfz18_1 hfz18_2 hfz18_3 hfz18_4
         try clear hfz19_0 hfz19_1 hfz19_2 hfz19_3 hfz19_4
         try clear hfz20_0 hfz20_1 hfz20_2 hfz20_3 hfz20_4
         try clear hfz25_0 hfz25_1 hfz25_2 hfz25_3 hfz25_4
         try clear hfz26_0 hfz26_1 hfz26_2 hfz26_3 hfz26_4
         try clear hfz27_0 hfz27_1 hfz27_2 hfz27_3 hfz27_4
         try clear hfz31_0 hfz31_1 hfz31_2 hfz31_3 hfz31_4
         try clear hfz32_0 hfz32_1 hfz32_2 hfz32_3 hfz32_4
         try clear hfz33_0 hfz33_1 hfz33_2 hfz33_3 hfz33_4
         try clear hfz35_0 hfz35_1 hfz35_2 hfz35_3 hfz35_4
         obtain ⟨kq, x124_33, rfl, HA, HJ33, BK103, HB⟩ := hcut
         cases kq with
         | zero => exact absurd HA.out (by simp [spec_l02OK.j1])
         | succ kj33 =>
          have H := HA.out
          clear HA
          simp only [spec_l02OK.j1] at H
          by_cases c61 : x124_33 = true
          ·
           as_aux_lemma =>
            subst c61
            replace H := ifT_ H
            obtain rfl := Option.some.inj H
            go_wp2
            go_ret
            exact ⟨retE_, belE_⟩
          ·
           replace c61 := Bool.eq_false_iff.mpr c61
           subst c61
           replace H := ifF_ H
           have H' := Aside0.mk H
           clear H
           go_wp2
           go_loopg [6] kj33 (fun kq v6 w' => ∃ (x6_3 : Int), v6 = .int .i64 x6_3 ∧ Aside0 (spec_l02OK.l0 kq a1 x6_3 a0_0 a0_1 a0_2 l0_3 l0_4 = some r) ∧ Aside0 (kq ≤ kj33) ∧ Aside0 (w'.heap[gb103]? = some (.cells #[.int .i64 a0_0, .int .i64 a0_1, .string a0_2, (.slice A0_3 l0_3.length c0_3), (.slice A0_4 l0_4.length c0_4)] 29 (0, 0))) ∧ Aside0 (Below w.heap.size w w'))
           case atStart => exact ⟨(0), eqE_, H', ⟨Nat.le_refl _⟩, ⟨blkE_⟩, ⟨belE_⟩⟩
           case round =>
            clear H'
            try clear c8
            try clear c8b0
            try clear c8b1
            try clear c9
            try clear c9b0
            try clear c9b1
            try clear c10
            try clear c10b0
            try clear c10b1
            try clear c10b2
            try clear c14
            try clear c14b0
            try clear c14b1
            try clear c16
            try clear c17
            try clear c17b0
            try clear c17b1
            try clear c17b2
            try clear c21
            try clear c21b0
            try clear c21b1
            try clear c23
            try clear c24
            try clear c24b0
            try clear c24b1
            try clear c24b2
            try clear c28
            try clear c28b0
            try clear c28b1
            try clear c29
            try clear c29b0
            try clear c29b1
            try clear c30
            try clear c30b0
            try clear c30b1
            try clear c61
            try clear hcz11_0 hcz11_1 hcz11_2 hcz11_3 hcz11_4
            try clear hcz12_0 hcz12_1 hcz12_2 hcz12_3 hcz12_4
            try clear hcz13_0 hcz13_1 hcz13_2 hcz13_3 hcz13_4
            try clear hcz18_0 hcz18_1 hcz18_2 hcz18_3 hcz18_4
            try clear hcz19_0 hcz19_1 hcz19_2 hcz19_3 hcz19_4
            try clear hcz20_0 hcz20_1 hcz20_2 hcz20_3 hcz20_4
            try clear hcz25_0 hcz25_1 hcz25_2 hcz25_3 hcz25_4
            try clear hcz26_0 hcz26_1 hcz26_2 hcz26_3 hcz26_4
            try clear hcz27_0 hcz27_1 hcz27_2 hcz27_3 hcz27_4
            try clear hcz31_0 hcz31_1 hcz31_2 hcz31_3 hcz31_4
            try clear hcz32_0 hcz32_1 hcz32_2 hcz32_3 hcz32_4
            try clear hcz33_0 hcz33_1 hcz33_2 hcz33_3 hcz33_4
            try clear hcz35_0 hcz35_1 hcz35_2 hcz35_3 hcz35_4
            try clear hfz11_0 hfz11_1 hfz11_2 hfz11_3 hfz11_4
            try clear hfz12_0 hfz12_1 hfz12_2 hfz12_3 hfz12_4
            try clear hfz13_0 hfz13_1 hfz13_2 hfz13_3 hfz13_4
            try clear hfz18_0 hfz18_1 hfz18_2 hfz18_3 hfz18_4
            try clear hfz19_0 hfz19_1 hfz19_2 hfz19_3 hfz19_4
            try clear hfz20_0 hfz20_1 hfz20_2 hfz20_3 hfz20_4
            try clear hfz25_0 hfz25_1 hfz25_2 hfz25_3 hfz25_4
            try clear hfz26_0 hfz26_1 hfz26_2 hfz26_3 hfz26_4
            try clear hfz27_0 hfz27_1 hfz27_2 hfz27_3 hfz27_4
            try clear hfz31_0 hfz31_1 hfz31_2 hfz31_3 hfz31_4
            try clear hfz32_0 hfz32_1 hfz32_2 hfz32_3 hfz32_4
            try clear hfz33_0 hfz33_1 hfz33_2 hfz33_3 hfz33_4
            try clear hfz35_0 hfz35_1 hfz35_2 hfz35_3 hfz35_4
            obtain ⟨x6_3, rfl, HA, HK3, BK103, HB⟩ := hrel
            cases gk with
            | zero => exact absurd HA.out (by simp [spec_l02OK.l0])
            | succ k3 =>
             have H := HA.out
             clear HA
             simp only [spec_l02OK.l0] at H
             by_cases c62 : x6_3 < (l0_4.length : Int)
             ·
              rw [if_pos c62] at H
              have c62b0 : decide (x6_3 < (l0_4.length : Int)) = true := decide_eq_true c62
              clear c62
              by_cases c63 : 0 ≤ x6_3
              ·
               rw [if_pos c63] at H
               have c63b0 : decide (0 ≤ x6_3) = true := decide_eq_true c63
               clear c63
               obtain ⟨t107, A64, H⟩ := bindE_ H
               by_cases c65 : t107 = true
               ·
                subst c65
                replace H := ifT_ H
                by_cases c66 : a0_0 = 6
                ·
                 rw [if_pos c66] at H
                 have c66b0 : (a0_0 == 6) = true := beq_iff_eq.mpr c66
                 have c66b1 : (a0_0 != 6) = false := bne_eq_false_iff_eq.mpr c66
                 clear c66
                 by_cases c67 : x6_3 < (l0_3.length : Int)
                 ·
                  rw [if_pos c67] at H
                  have c67b0 : decide (x6_3 < (l0_3.length : Int)) = true := decide_eq_true c67
                  clear c67
                  by_cases c68 : ((rdOf ByteArray.empty l0_3 x6_3).size : Int) > 120
                  ·
                   as_aux_lemma =>
                    rw [if_pos c68] at H
                    have c68b0 : decide (120 < ((rdOf ByteArray.empty l0_3 x6_3).size : Int)) = true := decide_eq_true c68
                    have c68b1 : decide (120 < (rdOf ByteArray.empty l0_3 x6_3).size) = true := decide_eq_true (by omega)
                    clear c68
                    obtain rfl := Option.some.inj H
                    have hcz69_0 : wr.cell? ⟨gb103, 0, none⟩ = some (.int .i64 a0_0) := (blk_cell BK103.out 0).trans rfl
                    have hcz69_1 : wr.cell? ⟨gb103, 1, none⟩ = some (.int .i64 a0_1) := (blk_cell BK103.out 1).trans rfl
                    have hcz69_2 : wr.cell? ⟨gb103, 2, none⟩ = some (.string a0_2) := (blk_cell BK103.out 2).trans rfl
                    have hcz69_3 : wr.cell? ⟨gb103, 3, none⟩ = some (.slice A0_3 l0_3.length c0_3) := (blk_cell BK103.out 3).trans rfl
                    have hcz69_4 : wr.cell? ⟨gb103, 4, none⟩ = some (.slice A0_4 l0_4.length c0_4) := (blk_cell BK103.out 4).trans rfl
                    have hfz69_0 := blk_frozen BK103.out 0
                    have hfz69_1 := blk_frozen BK103.out 1
                    have hfz69_2 := blk_frozen BK103.out 2
                    have hfz69_3 := blk_frozen BK103.out 3
                    have hfz69_4 := blk_frozen BK103.out 4
                    try go_wp2
                    replace BK103 := Aside0.mk (blk_drew BK103.out)
                    replace HB := Aside0.mk (below_drew1 HB.out)
                    have p106 : 0 ≤ (x6_3 : Int) := of_decide_eq_true (by first | (with_reducible assumption) | assumption)
                    have q106 : x6_3 < (l0_4.length : Int) := of_decide_eq_true (by first | (with_reducible assumption) | assumption)
                    obtain ⟨ad106, A106_3, c106_3, A106_4, c106_4, e106, hx106_0, hx106_1, hx106_2, hx106_3, hx106_4, hl106_3, hi106_3, hl106_4, hi106_4⟩ := at_T29 HR0_4.out x6_3 p106 q106
                    have hw106_4 := hx106_4
                    have hw106_3 := hx106_3
                    have hw106_2 := hx106_2
                    have hw106_1 := hx106_1
                    have hw106_0 := hx106_0
                    cases e106
                    replace hx106_0 := (HB.out.cell (World.block_lt_of_cell? w _ hx106_0)).trans hx106_0
                    replace hx106_1 := (HB.out.cell (World.block_lt_of_cell? w _ hx106_1)).trans hx106_1
                    replace hx106_2 := (HB.out.cell (World.block_lt_of_cell? w _ hx106_2)).trans hx106_2
                    replace hx106_3 := (HB.out.cell (World.block_lt_of_cell? w _ hx106_3)).trans hx106_3
                    replace hx106_4 := (HB.out.cell (World.block_lt_of_cell? w _ hx106_4)).trans hx106_4
                    have HR106_3 := Aside0.mk hi106_3
                    have HC106_3 := Aside0.mk hl106_3
                    clear hi106_3 hl106_3
                    have HR106_4 := Aside0.mk hi106_4
                    have HC106_4 := Aside0.mk hl106_4
                    clear hi106_4 hl106_4
                    replace p106 := eq_true p106
                    replace q106 := eq_true q106
                    have p108 : 0 ≤ (x6_3 : Int) := of_decide_eq_true (by first | (with_reducible assumption) | assumption)
                    have q108 : x6_3 < (l0_3.length : Int) := of_decide_eq_true (by first | (with_reducible assumption) | assumption)
                    obtain ⟨ad108, e108, hx108_0⟩ := Kd.at_string HR0_3.out x6_3 p108 q108
                    have hw108_0 := hx108_0
                    cases e108
                    replace hx108_0 := (HB.out.cell (World.block_lt_of_cell? w _ hx108_0)).trans hx108_0
                    replace p108 := eq_true p108
                    replace q108 := eq_true q108
                    refine startU_ (n := 35) (S := fun w' => w'.cell? ⟨gb103, 0, none⟩ = some (.int .i64 a0_0) ∧ w'.cell? ⟨gb103, 1, none⟩ = some (.int .i64 a0_1) ∧ w'.cell? ⟨gb103, 2, none⟩ = some (.string a0_2) ∧ w'.cell? ⟨gb103, 3, none⟩ = some (.slice (some ad108) l0_3.length c0_3) ∧ w'.cell? ⟨gb103, 4, none⟩ = some (.slice (some ad106) l0_4.length c0_4) ∧ w'.cell? (ad106.add ((x6_3).toNat * 5)) = some (.int .i64 ((rd_T29 l0_4 x6_3).f0)) ∧ w'.cell? ⟨(ad106.add ((x6_3).toNat * 5)).block, (ad106.add ((x6_3).toNat * 5)).off + 1, none⟩ = some (.int .i64 ((rd_T29 l0_4 x6_3).f1)) ∧ w'.cell? ⟨(ad106.add ((x6_3).toNat * 5)).block, (ad106.add ((x6_3).toNat * 5)).off + 2, none⟩ = some (.string ((rd_T29 l0_4 x6_3).f2)) ∧ w'.cell? ⟨(ad106.add ((x6_3).toNat * 5)).block, (ad106.add ((x6_3).toNat * 5)).off + 3, none⟩ = some (.slice A106_3 ((rd_T29 l0_4 x6_3).f3).length c106_3) ∧ w'.cell? ⟨(ad106.add ((x6_3).toNat * 5)).block, (ad106.add ((x6_3).toNat * 5)).off + 4, none⟩ = some (.slice A106_4 ((rd_T29 l0_4 x6_3).f4).length c106_4) ∧ w'.cell? (ad108.add (x6_3).toNat) = some (.string (rdOf ByteArray.empty l0_3 x6_3))) (ds := []) ⟨(blk_cell BK103.out 0).trans rfl, (blk_cell BK103.out 1).trans rfl, (blk_cell BK103.out 2).trans rfl, (blk_cell BK103.out 3).trans rfl, (blk_cell BK103.out 4).trans rfl, ((HB.out.cell (World.block_lt_of_cell? w _ hw106_0)).trans hw106_0), ((HB.out.cell (World.block_lt_of_cell? w _ hw106_1)).trans hw106_1), ((HB.out.cell (World.block_lt_of_cell? w _ hw106_2)).trans hw106_2), ((HB.out.cell (World.block_lt_of_cell? w _ hw106_3)).trans hw106_3), ((HB.out.cell (World.block_lt_of_cell? w _ hw106_4)).trans hw106_4), ((HB.out.cell (World.block_lt_of_cell? w _ hw108_0)).trans hw108_0)⟩ (fun hHeld => ?_); refine with_tabW spec_l02OK.tab16 spec_l02OK.bits16 (fun HT_ HW_ => ?_)
                    generalize wr.drew = w70 at BK103 HB HR106_3 HR106_4 hx106_0 hx106_1 hx106_2 hx106_3 hx106_4 hx108_0 hHeld ⊢
                    refine pU_ ?_
                    refine pUX_ 2 ?_
                    refine pUX_ 5 ?_
                    refine pUX_ 6 ?_
                    refine tU_ ?_
                    refine aU_ ?_
                    refine pU_ ?_
                    refine tU_ ?_
                    iterate 2 refine aU_ ?_
                    refine oU_ (fun K hK => ?_)
                    refine gU_ Try.func13 #[.agg #[.int .i64 ((rd_T29 l0_4 x6_3).f0), .int .i64 ((rd_T29 l0_4 x6_3).f1), .string ((rd_T29 l0_4 x6_3).f2), .slice A106_3 ((rd_T29 l0_4 x6_3).f3).length c106_3, .slice A106_4 ((rd_T29 l0_4 x6_3).f4).length c106_4], .int .i64 (wrap64 (a1 - 1))] ?_
                    with_reducible refine (ih k3 (by have := HJ2.out; have := HJ33.out; have := HK3.out; omega) ((rd_T29 l0_4 x6_3).f0) ((rd_T29 l0_4 x6_3).f1) ((rd_T29 l0_4 x6_3).f2) _ _ ((rd_T29 l0_4 x6_3).f3) _ _ ((rd_T29 l0_4 x6_3).f4) (wrap64 (a1 - 1)) true _ ?side1 ?side2 ?side3 ?side4 A64.out).mono ?_
                    (case side1 => repeat (first | exact (Kd.C_below HR106_3.out HB.out) | (with_reducible refine Kd.C_alloc ?_ _) | (with_reducible refine Kd.C_drewN ?_ _) | (with_reducible refine Kd.C_drew ?_)))
                    (case side2 => exact HC106_3.out)
                    (case side3 => repeat (first | exact (Kd.C_below HR106_4.out HB.out) | (with_reducible refine Kd.C_alloc ?_ _) | (with_reducible refine Kd.C_drewN ?_ _) | (with_reducible refine Kd.C_drew ?_)))
                    (case side4 => exact HC106_4.out)
                    rintro e w71 ⟨rfl, hb⟩
                    refine ⟨_, rfl, ?_⟩
                    replace BK103 := blkK_ BK103 hb
                    replace HB := belB_ hb
                    (try clear hb)
                    refine hK.out _ _ ⟨(blk_cell BK103.out 0).trans rfl, (blk_cell BK103.out 1).trans rfl, (blk_cell BK103.out 2).trans rfl, (blk_cell BK103.out 3).trans rfl, (blk_cell BK103.out 4).trans rfl, ((HB.out.cell (World.block_lt_of_cell? w _ hw106_0)).trans hw106_0), ((HB.out.cell (World.block_lt_of_cell? w _ hw106_1)).trans hw106_1), ((HB.out.cell (World.block_lt_of_cell? w _ hw106_2)).trans hw106_2), ((HB.out.cell (World.block_lt_of_cell? w _ hw106_3)).trans hw106_3), ((HB.out.cell (World.block_lt_of_cell? w _ hw106_4)).trans hw106_4), ((HB.out.cell (World.block_lt_of_cell? w _ hw108_0)).trans hw108_0)⟩ (fun hHeld => ?_)
                    clear hK K
                    refine nU_ ?_
                    iterate 3 refine pU_ ?_
                    refine tU_ ?_
                    iterate 3 refine pU_ ?_
                    refine pUX_ 16 ?_
                    refine tU_ ?_
                    refine aU_ ?_
                    refine pU_ ?_
                    refine tU_ ?_
                    iterate 3 refine pU_ ?_
                    iterate 10 refine sU_ ?_
                    iterate 3 refine pU_ ?_
                    refine doneU_ ?_
                    try go_wp2
                    go_ret
                    exact ⟨retE_, belE_⟩
                  ·
                   rw [if_neg c68] at H
                   have c68b0 : decide (120 < ((rdOf ByteArray.empty l0_3 x6_3).size : Int)) = false := decide_eq_false c68
                   have c68b1 : decide (120 < (rdOf ByteArray.empty l0_3 x6_3).size) = false := decide_eq_false (by omega)
                   clear c68
                   have c72b0 := eq_true (of_decide_eq_true (by first | (with_reducible assumption) | assumption) : 0 ≤ x6_3)
                   by_cases c73 : x6_3 ≤ (l0_3.length : Int)
                   ·
                    rw [if_pos c73] at H
                    have c73b0 := eq_true c73
                    have c73b1 : decide (x6_3 ≤ (l0_3.length : Int)) = true := decide_eq_true c73
                    clear c73
                    obtain ⟨t111, A74, H⟩ := bindE_ H
                    by_cases c75 : t111 = true
                    ·
                     as_aux_lemma =>
                      subst c75
                      replace H := ifT_ H
                      obtain rfl := Option.some.inj H
                      have hcz76_0 : wr.cell? ⟨gb103, 0, none⟩ = some (.int .i64 a0_0) := (blk_cell BK103.out 0).trans rfl
                      have hcz76_1 : wr.cell? ⟨gb103, 1, none⟩ = some (.int .i64 a0_1) := (blk_cell BK103.out 1).trans rfl
                      have hcz76_2 : wr.cell? ⟨gb103, 2, none⟩ = some (.string a0_2) := (blk_cell BK103.out 2).trans rfl
                      have hcz76_3 : wr.cell? ⟨gb103, 3, none⟩ = some (.slice A0_3 l0_3.length c0_3) := (blk_cell BK103.out 3).trans rfl
                      have hcz76_4 : wr.cell? ⟨gb103, 4, none⟩ = some (.slice A0_4 l0_4.length c0_4) := (blk_cell BK103.out 4).trans rfl
                      have hfz76_0 := blk_frozen BK103.out 0
                      have hfz76_1 := blk_frozen BK103.out 1
                      have hfz76_2 := blk_frozen BK103.out 2
                      have hfz76_3 := blk_frozen BK103.out 3
                      have hfz76_4 := blk_frozen BK103.out 4
                      try go_wp2
                      replace BK103 := Aside0.mk (blk_drew BK103.out)
                      replace HB := Aside0.mk (below_drew1 HB.out)
                      have p106 : 0 ≤ (x6_3 : Int) := of_decide_eq_true (by first | (with_reducible assumption) | assumption)
                      have q106 : x6_3 < (l0_4.length : Int) := of_decide_eq_true (by first | (with_reducible assumption) | assumption)
                      obtain ⟨ad106, A106_3, c106_3, A106_4, c106_4, e106, hx106_0, hx106_1, hx106_2, hx106_3, hx106_4, hl106_3, hi106_3, hl106_4, hi106_4⟩ := at_T29 HR0_4.out x6_3 p106 q106
                      have hw106_4 := hx106_4
                      have hw106_3 := hx106_3
                      have hw106_2 := hx106_2
                      have hw106_1 := hx106_1
                      have hw106_0 := hx106_0
                      cases e106
                      replace hx106_0 := (HB.out.cell (World.block_lt_of_cell? w _ hx106_0)).trans hx106_0
                      replace hx106_1 := (HB.out.cell (World.block_lt_of_cell? w _ hx106_1)).trans hx106_1
                      replace hx106_2 := (HB.out.cell (World.block_lt_of_cell? w _ hx106_2)).trans hx106_2
                      replace hx106_3 := (HB.out.cell (World.block_lt_of_cell? w _ hx106_3)).trans hx106_3
                      replace hx106_4 := (HB.out.cell (World.block_lt_of_cell? w _ hx106_4)).trans hx106_4
                      have HR106_3 := Aside0.mk hi106_3
                      have HC106_3 := Aside0.mk hl106_3
                      clear hi106_3 hl106_3
                      have HR106_4 := Aside0.mk hi106_4
                      have HC106_4 := Aside0.mk hl106_4
                      clear hi106_4 hl106_4
                      replace p106 := eq_true p106
                      replace q106 := eq_true q106
                      have p108 : 0 ≤ (x6_3 : Int) := of_decide_eq_true (by first | (with_reducible assumption) | assumption)
                      have q108 : x6_3 < (l0_3.length : Int) := of_decide_eq_true (by first | (with_reducible assumption) | assumption)
                      obtain ⟨ad108, e108, hx108_0⟩ := Kd.at_string HR0_3.out x6_3 p108 q108
                      have hw108_0 := hx108_0
                      cases e108
                      replace hx108_0 := (HB.out.cell (World.block_lt_of_cell? w _ hx108_0)).trans hx108_0
                      replace p108 := eq_true p108
                      replace q108 := eq_true q108
                      have p110 : 0 ≤ (x6_3 : Int) := of_decide_eq_true (by first | (with_reducible assumption) | assumption)
                      have q110 : x6_3 < (l0_3.length : Int) := of_decide_eq_true (by first | (with_reducible assumption) | assumption)
                      obtain ⟨ad110, e110, hx110_0⟩ := Kd.at_string HR0_3.out x6_3 p110 q110
                      have hw110_0 := hx110_0
                      obtain rfl : ad108 = ad110 := (by injection e110)
                      replace hx110_0 := (HB.out.cell (World.block_lt_of_cell? w _ hx110_0)).trans hx110_0
                      replace p110 := eq_true p110
                      replace q110 := eq_true q110
                      refine startU_ (n := 35) (S := fun w' => w'.cell? ⟨gb103, 0, none⟩ = some (.int .i64 a0_0) ∧ w'.cell? ⟨gb103, 1, none⟩ = some (.int .i64 a0_1) ∧ w'.cell? ⟨gb103, 2, none⟩ = some (.string a0_2) ∧ w'.cell? ⟨gb103, 3, none⟩ = some (.slice (some ad108) l0_3.length c0_3) ∧ w'.cell? ⟨gb103, 4, none⟩ = some (.slice (some ad106) l0_4.length c0_4) ∧ w'.cell? (ad106.add ((x6_3).toNat * 5)) = some (.int .i64 ((rd_T29 l0_4 x6_3).f0)) ∧ w'.cell? ⟨(ad106.add ((x6_3).toNat * 5)).block, (ad106.add ((x6_3).toNat * 5)).off + 1, none⟩ = some (.int .i64 ((rd_T29 l0_4 x6_3).f1)) ∧ w'.cell? ⟨(ad106.add ((x6_3).toNat * 5)).block, (ad106.add ((x6_3).toNat * 5)).off + 2, none⟩ = some (.string ((rd_T29 l0_4 x6_3).f2)) ∧ w'.cell? ⟨(ad106.add ((x6_3).toNat * 5)).block, (ad106.add ((x6_3).toNat * 5)).off + 3, none⟩ = some (.slice A106_3 ((rd_T29 l0_4 x6_3).f3).length c106_3) ∧ w'.cell? ⟨(ad106.add ((x6_3).toNat * 5)).block, (ad106.add ((x6_3).toNat * 5)).off + 4, none⟩ = some (.slice A106_4 ((rd_T29 l0_4 x6_3).f4).length c106_4) ∧ w'.cell? (ad108.add (x6_3).toNat) = some (.string (rdOf ByteArray.empty l0_3 x6_3)) ∧ w'.cell? (ad108.add (x6_3).toNat) = some (.string (rdOf ByteArray.empty l0_3 x6_3))) (ds := []) ⟨(blk_cell BK103.out 0).trans rfl, (blk_cell BK103.out 1).trans rfl, (blk_cell BK103.out 2).trans rfl, (blk_cell BK103.out 3).trans rfl, (blk_cell BK103.out 4).trans rfl, ((HB.out.cell (World.block_lt_of_cell? w _ hw106_0)).trans hw106_0), ((HB.out.cell (World.block_lt_of_cell? w _ hw106_1)).trans hw106_1), ((HB.out.cell (World.block_lt_of_cell? w _ hw106_2)).trans hw106_2), ((HB.out.cell (World.block_lt_of_cell? w _ hw106_3)).trans hw106_3), ((HB.out.cell (World.block_lt_of_cell? w _ hw106_4)).trans hw106_4), ((HB.out.cell (World.block_lt_of_cell? w _ hw108_0)).trans hw108_0), ((HB.out.cell (World.block_lt_of_cell? w _ hw110_0)).trans hw110_0)⟩ (fun hHeld => ?_); refine with_tabW spec_l02OK.tab16 spec_l02OK.bits16 (fun HT_ HW_ => ?_)
                      generalize wr.drew = w77 at BK103 HB HR106_3 HR106_4 hx106_0 hx106_1 hx106_2 hx106_3 hx106_4 hx108_0 hx110_0 hHeld ⊢
                      refine pU_ ?_
                      refine pUX_ 2 ?_
                      refine pUX_ 5 ?_
                      refine pUX_ 6 ?_
                      refine tU_ ?_
                      refine aU_ ?_
                      refine pU_ ?_
                      refine tU_ ?_
                      iterate 2 refine aU_ ?_
                      refine oU_ (fun K hK => ?_)
                      refine gU_ Try.func13 #[.agg #[.int .i64 ((rd_T29 l0_4 x6_3).f0), .int .i64 ((rd_T29 l0_4 x6_3).f1), .string ((rd_T29 l0_4 x6_3).f2), .slice A106_3 ((rd_T29 l0_4 x6_3).f3).length c106_3, .slice A106_4 ((rd_T29 l0_4 x6_3).f4).length c106_4], .int .i64 (wrap64 (a1 - 1))] ?_
                      with_reducible refine (ih k3 (by have := HJ2.out; have := HJ33.out; have := HK3.out; omega) ((rd_T29 l0_4 x6_3).f0) ((rd_T29 l0_4 x6_3).f1) ((rd_T29 l0_4 x6_3).f2) _ _ ((rd_T29 l0_4 x6_3).f3) _ _ ((rd_T29 l0_4 x6_3).f4) (wrap64 (a1 - 1)) true _ ?side1 ?side2 ?side3 ?side4 A64.out).mono ?_
                      (case side1 => repeat (first | exact (Kd.C_below HR106_3.out HB.out) | (with_reducible refine Kd.C_alloc ?_ _) | (with_reducible refine Kd.C_drewN ?_ _) | (with_reducible refine Kd.C_drew ?_)))
                      (case side2 => exact HC106_3.out)
                      (case side3 => repeat (first | exact (Kd.C_below HR106_4.out HB.out) | (with_reducible refine Kd.C_alloc ?_ _) | (with_reducible refine Kd.C_drewN ?_ _) | (with_reducible refine Kd.C_drew ?_)))
                      (case side4 => exact HC106_4.out)
                      rintro e w78 ⟨rfl, hb⟩
                      refine ⟨_, rfl, ?_⟩
                      replace BK103 := blkK_ BK103 hb
                      replace HB := belB_ hb
                      (try clear hb)
                      obtain ⟨i079, hi079, _, hsz79, _⟩ := info_parts info9
                      obtain ⟨hcut79, hA79, hC79⟩ := print_take_of (P := Try.prog) Value.string (⟨#[]⟩ : ByteArray) 22 9 .i64 Try.underlying22 hi079 hsz79 (some ad108) c0_3 l0_3 x6_3 (of_decide_eq_true (by first | (with_reducible assumption) | assumption)) (of_decide_eq_true (by first | (with_reducible assumption) | assumption)) HC0_3.out
                      have HR109 := Aside0.mk (Kd.C_of_reads (h1 := fun _ => rfl) (hA79 _ (Kd.reads_of_C HR0_3.out)))
                      have HC109 := Aside0.mk hC79
                      clear hA79 hC79 hi079 hsz79
                      refine hK.out _ _ ⟨(blk_cell BK103.out 0).trans rfl, (blk_cell BK103.out 1).trans rfl, (blk_cell BK103.out 2).trans rfl, (blk_cell BK103.out 3).trans rfl, (blk_cell BK103.out 4).trans rfl, ((HB.out.cell (World.block_lt_of_cell? w _ hw106_0)).trans hw106_0), ((HB.out.cell (World.block_lt_of_cell? w _ hw106_1)).trans hw106_1), ((HB.out.cell (World.block_lt_of_cell? w _ hw106_2)).trans hw106_2), ((HB.out.cell (World.block_lt_of_cell? w _ hw106_3)).trans hw106_3), ((HB.out.cell (World.block_lt_of_cell? w _ hw106_4)).trans hw106_4), ((HB.out.cell (World.block_lt_of_cell? w _ hw108_0)).trans hw108_0), ((HB.out.cell (World.block_lt_of_cell? w _ hw110_0)).trans hw110_0)⟩ (fun hHeld => ?_)
                      clear hK K
                      refine nU_ ?_
                      iterate 3 refine pU_ ?_
                      refine tU_ ?_
                      iterate 3 refine pU_ ?_
                      refine pUX_ 16 ?_
                      refine tU_ ?_
                      refine aU_ ?_
                      refine pU_ ?_
                      refine tU_ ?_
                      iterate 4 refine pU_ ?_
                      refine pUX_ 24 ?_
                      refine pUX_ 26 ?_
                      refine pUX_ 28 ?_
                      refine tU_ ?_
                      refine aU_ ?_
                      refine pU_ ?_
                      refine aU_ ?_
                      refine tU_ ?_
                      refine aU_ ?_
                      refine pU_ ?_
                      refine tU_ ?_
                      refine oU_ (fun K hK => ?_)
                      refine goes_ Try.func31 (by kernel_rfl) rfl #[.slice (some ad108) (l0_3.take (x6_3 : Int).toNat).length c0_3, .string (rdOf ByteArray.empty l0_3 x6_3)] (by rfl) rfl rfl (by (try simp only [List.map_toArray, List.map_cons, List.map_nil]); first | done | (rw [show (l0_3.take (x6_3 : Int).toNat).length = x6_3.toNat from (by rw [List.length_take]; have h_ : (x6_3 : Int) ≤ (l0_3.length : Int) := of_decide_eq_true (by first | (with_reducible assumption) | assumption); omega)] <;> rfl) | rfl | (simp only [List.length_drop, List.length_take]; rfl)) ?_
                      with_reducible refine (spec_l01Has.calls k3 _ _ (l0_3.take (x6_3 : Int).toNat) (rdOf ByteArray.empty l0_3 x6_3) true _ ?side1 ?side2 A74.out).mono ?_
                      (case side1 => repeat (first | exact (Kd.C_below HR109.out HB.out) | (with_reducible refine Kd.C_alloc ?_ _) | (with_reducible refine Kd.C_drewN ?_ _) | (with_reducible refine Kd.C_drew ?_)))
                      (case side2 => exact HC109.out)
                      rintro e w' ⟨rfl, ⟨nd, rfl⟩⟩
                      refine ⟨_, rfl, ?_⟩
                      refine hK.out _ _ ⟨(blk_cell BK103.out 0).trans rfl, (blk_cell BK103.out 1).trans rfl, (blk_cell BK103.out 2).trans rfl, (blk_cell BK103.out 3).trans rfl, (blk_cell BK103.out 4).trans rfl, ((HB.out.cell (World.block_lt_of_cell? w _ hw106_0)).trans hw106_0), ((HB.out.cell (World.block_lt_of_cell? w _ hw106_1)).trans hw106_1), ((HB.out.cell (World.block_lt_of_cell? w _ hw106_2)).trans hw106_2), ((HB.out.cell (World.block_lt_of_cell? w _ hw106_3)).trans hw106_3), ((HB.out.cell (World.block_lt_of_cell? w _ hw106_4)).trans hw106_4), ((HB.out.cell (World.block_lt_of_cell? w _ hw108_0)).trans hw108_0), ((HB.out.cell (World.block_lt_of_cell? w _ hw110_0)).trans hw110_0)⟩ (fun hHeld => ?_)
                      clear hK K
                      refine nU_ ?_
                      iterate 3 refine pU_ ?_
                      refine doneU_ ?_
                      try go_wp2
                      go_ret
                      exact ⟨retE_, belE_⟩
                    ·
                     as_aux_lemma =>
                      replace c75 := Bool.eq_false_iff.mpr c75
                      subst c75
                      replace H := ifF_ H
                      have H' := Aside0.mk H
                      clear H
                      have hcz80_0 : wr.cell? ⟨gb103, 0, none⟩ = some (.int .i64 a0_0) := (blk_cell BK103.out 0).trans rfl
                      have hcz80_1 : wr.cell? ⟨gb103, 1, none⟩ = some (.int .i64 a0_1) := (blk_cell BK103.out 1).trans rfl
                      have hcz80_2 : wr.cell? ⟨gb103, 2, none⟩ = some (.string a0_2) := (blk_cell BK103.out 2).trans rfl
                      have hcz80_3 : wr.cell? ⟨gb103, 3, none⟩ = some (.slice A0_3 l0_3.length c0_3) := (blk_cell BK103.out 3).trans rfl
                      have hcz80_4 : wr.cell? ⟨gb103, 4, none⟩ = some (.slice A0_4 l0_4.length c0_4) := (blk_cell BK103.out 4).trans rfl
                      have hfz80_0 := blk_frozen BK103.out 0
                      have hfz80_1 := blk_frozen BK103.out 1
                      have hfz80_2 := blk_frozen BK103.out 2
                      have hfz80_3 := blk_frozen BK103.out 3
                      have hfz80_4 := blk_frozen BK103.out 4
                      try go_wp2
                      replace BK103 := Aside0.mk (blk_drew BK103.out)
                      replace HB := Aside0.mk (below_drew1 HB.out)
                      have p106 : 0 ≤ (x6_3 : Int) := of_decide_eq_true (by first | (with_reducible assumption) | assumption)
                      have q106 : x6_3 < (l0_4.length : Int) := of_decide_eq_true (by first | (with_reducible assumption) | assumption)
                      obtain ⟨ad106, A106_3, c106_3, A106_4, c106_4, e106, hx106_0, hx106_1, hx106_2, hx106_3, hx106_4, hl106_3, hi106_3, hl106_4, hi106_4⟩ := at_T29 HR0_4.out x6_3 p106 q106
                      have hw106_4 := hx106_4
                      have hw106_3 := hx106_3
                      have hw106_2 := hx106_2
                      have hw106_1 := hx106_1
                      have hw106_0 := hx106_0
                      cases e106
                      replace hx106_0 := (HB.out.cell (World.block_lt_of_cell? w _ hx106_0)).trans hx106_0
                      replace hx106_1 := (HB.out.cell (World.block_lt_of_cell? w _ hx106_1)).trans hx106_1
                      replace hx106_2 := (HB.out.cell (World.block_lt_of_cell? w _ hx106_2)).trans hx106_2
                      replace hx106_3 := (HB.out.cell (World.block_lt_of_cell? w _ hx106_3)).trans hx106_3
                      replace hx106_4 := (HB.out.cell (World.block_lt_of_cell? w _ hx106_4)).trans hx106_4
                      have HR106_3 := Aside0.mk hi106_3
                      have HC106_3 := Aside0.mk hl106_3
                      clear hi106_3 hl106_3
                      have HR106_4 := Aside0.mk hi106_4
                      have HC106_4 := Aside0.mk hl106_4
                      clear hi106_4 hl106_4
                      replace p106 := eq_true p106
                      replace q106 := eq_true q106
                      have p108 : 0 ≤ (x6_3 : Int) := of_decide_eq_true (by first | (with_reducible assumption) | assumption)
                      have q108 : x6_3 < (l0_3.length : Int) := of_decide_eq_true (by first | (with_reducible assumption) | assumption)
                      obtain ⟨ad108, e108, hx108_0⟩ := Kd.at_string HR0_3.out x6_3 p108 q108
                      have hw108_0 := hx108_0
                      cases e108
                      replace hx108_0 := (HB.out.cell (World.block_lt_of_cell? w _ hx108_0)).trans hx108_0
                      replace p108 := eq_true p108
                      replace q108 := eq_true q108
                      have p110 : 0 ≤ (x6_3 : Int) := of_decide_eq_true (by first | (with_reducible assumption) | assumption)
                      have q110 : x6_3 < (l0_3.length : Int) := of_decide_eq_true (by first | (with_reducible assumption) | assumption)
                      obtain ⟨ad110, e110, hx110_0⟩ := Kd.at_string HR0_3.out x6_3 p110 q110
                      have hw110_0 := hx110_0
                      obtain rfl : ad108 = ad110 := (by injection e110)
                      replace hx110_0 := (HB.out.cell (World.block_lt_of_cell? w _ hx110_0)).trans hx110_0
                      replace p110 := eq_true p110
                      replace q110 := eq_true q110
                      refine startU_ (n := 35) (S := fun w' => w'.cell? ⟨gb103, 0, none⟩ = some (.int .i64 a0_0) ∧ w'.cell? ⟨gb103, 1, none⟩ = some (.int .i64 a0_1) ∧ w'.cell? ⟨gb103, 2, none⟩ = some (.string a0_2) ∧ w'.cell? ⟨gb103, 3, none⟩ = some (.slice (some ad108) l0_3.length c0_3) ∧ w'.cell? ⟨gb103, 4, none⟩ = some (.slice (some ad106) l0_4.length c0_4) ∧ w'.cell? (ad106.add ((x6_3).toNat * 5)) = some (.int .i64 ((rd_T29 l0_4 x6_3).f0)) ∧ w'.cell? ⟨(ad106.add ((x6_3).toNat * 5)).block, (ad106.add ((x6_3).toNat * 5)).off + 1, none⟩ = some (.int .i64 ((rd_T29 l0_4 x6_3).f1)) ∧ w'.cell? ⟨(ad106.add ((x6_3).toNat * 5)).block, (ad106.add ((x6_3).toNat * 5)).off + 2, none⟩ = some (.string ((rd_T29 l0_4 x6_3).f2)) ∧ w'.cell? ⟨(ad106.add ((x6_3).toNat * 5)).block, (ad106.add ((x6_3).toNat * 5)).off + 3, none⟩ = some (.slice A106_3 ((rd_T29 l0_4 x6_3).f3).length c106_3) ∧ w'.cell? ⟨(ad106.add ((x6_3).toNat * 5)).block, (ad106.add ((x6_3).toNat * 5)).off + 4, none⟩ = some (.slice A106_4 ((rd_T29 l0_4 x6_3).f4).length c106_4) ∧ w'.cell? (ad108.add (x6_3).toNat) = some (.string (rdOf ByteArray.empty l0_3 x6_3)) ∧ w'.cell? (ad108.add (x6_3).toNat) = some (.string (rdOf ByteArray.empty l0_3 x6_3))) (ds := []) ⟨(blk_cell BK103.out 0).trans rfl, (blk_cell BK103.out 1).trans rfl, (blk_cell BK103.out 2).trans rfl, (blk_cell BK103.out 3).trans rfl, (blk_cell BK103.out 4).trans rfl, ((HB.out.cell (World.block_lt_of_cell? w _ hw106_0)).trans hw106_0), ((HB.out.cell (World.block_lt_of_cell? w _ hw106_1)).trans hw106_1), ((HB.out.cell (World.block_lt_of_cell? w _ hw106_2)).trans hw106_2), ((HB.out.cell (World.block_lt_of_cell? w _ hw106_3)).trans hw106_3), ((HB.out.cell (World.block_lt_of_cell? w _ hw106_4)).trans hw106_4), ((HB.out.cell (World.block_lt_of_cell? w _ hw108_0)).trans hw108_0), ((HB.out.cell (World.block_lt_of_cell? w _ hw110_0)).trans hw110_0)⟩ (fun hHeld => ?_); refine with_tabW spec_l02OK.tab16 spec_l02OK.bits16 (fun HT_ HW_ => ?_)
                      generalize wr.drew = w81 at BK103 HB HR106_3 HR106_4 hx106_0 hx106_1 hx106_2 hx106_3 hx106_4 hx108_0 hx110_0 hHeld ⊢
                      refine pU_ ?_
                      refine pUX_ 2 ?_
                      refine pUX_ 5 ?_
                      refine pUX_ 6 ?_
                      refine tU_ ?_
                      refine aU_ ?_
                      refine pU_ ?_
                      refine tU_ ?_
                      iterate 2 refine aU_ ?_
                      refine oU_ (fun K hK => ?_)
                      refine gU_ Try.func13 #[.agg #[.int .i64 ((rd_T29 l0_4 x6_3).f0), .int .i64 ((rd_T29 l0_4 x6_3).f1), .string ((rd_T29 l0_4 x6_3).f2), .slice A106_3 ((rd_T29 l0_4 x6_3).f3).length c106_3, .slice A106_4 ((rd_T29 l0_4 x6_3).f4).length c106_4], .int .i64 (wrap64 (a1 - 1))] ?_
                      with_reducible refine (ih k3 (by have := HJ2.out; have := HJ33.out; have := HK3.out; omega) ((rd_T29 l0_4 x6_3).f0) ((rd_T29 l0_4 x6_3).f1) ((rd_T29 l0_4 x6_3).f2) _ _ ((rd_T29 l0_4 x6_3).f3) _ _ ((rd_T29 l0_4 x6_3).f4) (wrap64 (a1 - 1)) true _ ?side1 ?side2 ?side3 ?side4 A64.out).mono ?_
                      (case side1 => repeat (first | exact (Kd.C_below HR106_3.out HB.out) | (with_reducible refine Kd.C_alloc ?_ _) | (with_reducible refine Kd.C_drewN ?_ _) | (with_reducible refine Kd.C_drew ?_)))
                      (case side2 => exact HC106_3.out)
                      (case side3 => repeat (first | exact (Kd.C_below HR106_4.out HB.out) | (with_reducible refine Kd.C_alloc ?_ _) | (with_reducible refine Kd.C_drewN ?_ _) | (with_reducible refine Kd.C_drew ?_)))
                      (case side4 => exact HC106_4.out)
                      rintro e w82 ⟨rfl, hb⟩
                      refine ⟨_, rfl, ?_⟩
                      replace BK103 := blkK_ BK103 hb
                      replace HB := belB_ hb
                      (try clear hb)
                      obtain ⟨i083, hi083, _, hsz83, _⟩ := info_parts info9
                      obtain ⟨hcut83, hA83, hC83⟩ := print_take_of (P := Try.prog) Value.string (⟨#[]⟩ : ByteArray) 22 9 .i64 Try.underlying22 hi083 hsz83 (some ad108) c0_3 l0_3 x6_3 (of_decide_eq_true (by first | (with_reducible assumption) | assumption)) (of_decide_eq_true (by first | (with_reducible assumption) | assumption)) HC0_3.out
                      have HR109 := Aside0.mk (Kd.C_of_reads (h1 := fun _ => rfl) (hA83 _ (Kd.reads_of_C HR0_3.out)))
                      have HC109 := Aside0.mk hC83
                      clear hA83 hC83 hi083 hsz83
                      refine hK.out _ _ ⟨(blk_cell BK103.out 0).trans rfl, (blk_cell BK103.out 1).trans rfl, (blk_cell BK103.out 2).trans rfl, (blk_cell BK103.out 3).trans rfl, (blk_cell BK103.out 4).trans rfl, ((HB.out.cell (World.block_lt_of_cell? w _ hw106_0)).trans hw106_0), ((HB.out.cell (World.block_lt_of_cell? w _ hw106_1)).trans hw106_1), ((HB.out.cell (World.block_lt_of_cell? w _ hw106_2)).trans hw106_2), ((HB.out.cell (World.block_lt_of_cell? w _ hw106_3)).trans hw106_3), ((HB.out.cell (World.block_lt_of_cell? w _ hw106_4)).trans hw106_4), ((HB.out.cell (World.block_lt_of_cell? w _ hw108_0)).trans hw108_0), ((HB.out.cell (World.block_lt_of_cell? w _ hw110_0)).trans hw110_0)⟩ (fun hHeld => ?_)
                      clear hK K
                      refine nU_ ?_
                      iterate 3 refine pU_ ?_
                      refine tU_ ?_
                      iterate 3 refine pU_ ?_
                      refine pUX_ 16 ?_
                      refine tU_ ?_
                      refine aU_ ?_
                      refine pU_ ?_
                      refine tU_ ?_
                      iterate 4 refine pU_ ?_
                      refine pUX_ 24 ?_
                      refine pUX_ 26 ?_
                      refine pUX_ 28 ?_
                      refine tU_ ?_
                      refine aU_ ?_
                      refine pU_ ?_
                      refine aU_ ?_
                      refine tU_ ?_
                      refine aU_ ?_
                      refine pU_ ?_
                      refine tU_ ?_
                      refine oU_ (fun K hK => ?_)
                      refine goes_ Try.func31 (by kernel_rfl) rfl #[.slice (some ad108) (l0_3.take (x6_3 : Int).toNat).length c0_3, .string (rdOf ByteArray.empty l0_3 x6_3)] (by rfl) rfl rfl (by (try simp only [List.map_toArray, List.map_cons, List.map_nil]); first | done | (rw [show (l0_3.take (x6_3 : Int).toNat).length = x6_3.toNat from (by rw [List.length_take]; have h_ : (x6_3 : Int) ≤ (l0_3.length : Int) := of_decide_eq_true (by first | (with_reducible assumption) | assumption); omega)] <;> rfl) | rfl | (simp only [List.length_drop, List.length_take]; rfl)) ?_
                      with_reducible refine (spec_l01Has.calls k3 _ _ (l0_3.take (x6_3 : Int).toNat) (rdOf ByteArray.empty l0_3 x6_3) false _ ?side1 ?side2 A74.out).mono ?_
                      (case side1 => repeat (first | exact (Kd.C_below HR109.out HB.out) | (with_reducible refine Kd.C_alloc ?_ _) | (with_reducible refine Kd.C_drewN ?_ _) | (with_reducible refine Kd.C_drew ?_)))
                      (case side2 => exact HC109.out)
                      rintro e w' ⟨rfl, ⟨nd, rfl⟩⟩
                      refine ⟨_, rfl, ?_⟩
                      refine hK.out _ _ ⟨(blk_cell BK103.out 0).trans rfl, (blk_cell BK103.out 1).trans rfl, (blk_cell BK103.out 2).trans rfl, (blk_cell BK103.out 3).trans rfl, (blk_cell BK103.out 4).trans rfl, ((HB.out.cell (World.block_lt_of_cell? w _ hw106_0)).trans hw106_0), ((HB.out.cell (World.block_lt_of_cell? w _ hw106_1)).trans hw106_1), ((HB.out.cell (World.block_lt_of_cell? w _ hw106_2)).trans hw106_2), ((HB.out.cell (World.block_lt_of_cell? w _ hw106_3)).trans hw106_3), ((HB.out.cell (World.block_lt_of_cell? w _ hw106_4)).trans hw106_4), ((HB.out.cell (World.block_lt_of_cell? w _ hw108_0)).trans hw108_0), ((HB.out.cell (World.block_lt_of_cell? w _ hw110_0)).trans hw110_0)⟩ (fun hHeld => ?_)
                      clear hK K
                      refine nU_ ?_
                      iterate 3 refine pU_ ?_
                      refine doneU_ ?_
                      try go_wp2
                      go_roundg k3
                      case measure => have := HJ2.out; have := HJ33.out; have := HK3.out; omega
                      case rel => exact ⟨(wrap64 (x6_3 + 1)), eqE_, H', ⟨by have := HJ2.out; have := HJ33.out; have := HK3.out; omega⟩, ⟨blkE_⟩, ⟨belE_⟩⟩
                   ·
                    rw [if_neg c73] at H
                    exact absurd H (by simp)
                 ·
                  rw [if_neg c67] at H
                  exact absurd H (by simp)
                ·
                 as_aux_lemma =>
                  rw [if_neg c66] at H
                  have c66b0 : (a0_0 == 6) = false := beq_eq_false_iff_ne.mpr c66
                  have c66b1 : (a0_0 != 6) = true := bne_iff_ne.mpr c66
                  have H' := Aside0.mk H
                  clear H
                  have hcz84_0 : wr.cell? ⟨gb103, 0, none⟩ = some (.int .i64 a0_0) := (blk_cell BK103.out 0).trans rfl
                  have hcz84_1 : wr.cell? ⟨gb103, 1, none⟩ = some (.int .i64 a0_1) := (blk_cell BK103.out 1).trans rfl
                  have hcz84_2 : wr.cell? ⟨gb103, 2, none⟩ = some (.string a0_2) := (blk_cell BK103.out 2).trans rfl
                  have hcz84_3 : wr.cell? ⟨gb103, 3, none⟩ = some (.slice A0_3 l0_3.length c0_3) := (blk_cell BK103.out 3).trans rfl
                  have hcz84_4 : wr.cell? ⟨gb103, 4, none⟩ = some (.slice A0_4 l0_4.length c0_4) := (blk_cell BK103.out 4).trans rfl
                  have hfz84_0 := blk_frozen BK103.out 0
                  have hfz84_1 := blk_frozen BK103.out 1
                  have hfz84_2 := blk_frozen BK103.out 2
                  have hfz84_3 := blk_frozen BK103.out 3
                  have hfz84_4 := blk_frozen BK103.out 4
                  try go_wp2
                  replace BK103 := Aside0.mk (blk_drew BK103.out)
                  replace HB := Aside0.mk (below_drew1 HB.out)
                  have p106 : 0 ≤ (x6_3 : Int) := of_decide_eq_true (by first | (with_reducible assumption) | assumption)
                  have q106 : x6_3 < (l0_4.length : Int) := of_decide_eq_true (by first | (with_reducible assumption) | assumption)
                  obtain ⟨ad106, A106_3, c106_3, A106_4, c106_4, e106, hx106_0, hx106_1, hx106_2, hx106_3, hx106_4, hl106_3, hi106_3, hl106_4, hi106_4⟩ := at_T29 HR0_4.out x6_3 p106 q106
                  have hw106_4 := hx106_4
                  have hw106_3 := hx106_3
                  have hw106_2 := hx106_2
                  have hw106_1 := hx106_1
                  have hw106_0 := hx106_0
                  cases e106
                  replace hx106_0 := (HB.out.cell (World.block_lt_of_cell? w _ hx106_0)).trans hx106_0
                  replace hx106_1 := (HB.out.cell (World.block_lt_of_cell? w _ hx106_1)).trans hx106_1
                  replace hx106_2 := (HB.out.cell (World.block_lt_of_cell? w _ hx106_2)).trans hx106_2
                  replace hx106_3 := (HB.out.cell (World.block_lt_of_cell? w _ hx106_3)).trans hx106_3
                  replace hx106_4 := (HB.out.cell (World.block_lt_of_cell? w _ hx106_4)).trans hx106_4
                  have HR106_3 := Aside0.mk hi106_3
                  have HC106_3 := Aside0.mk hl106_3
                  clear hi106_3 hl106_3
                  have HR106_4 := Aside0.mk hi106_4
                  have HC106_4 := Aside0.mk hl106_4
                  clear hi106_4 hl106_4
                  replace p106 := eq_true p106
                  replace q106 := eq_true q106
                  refine startU_ (n := 35) (S := fun w' => w'.cell? ⟨gb103, 0, none⟩ = some (.int .i64 a0_0) ∧ w'.cell? ⟨gb103, 1, none⟩ = some (.int .i64 a0_1) ∧ w'.cell? ⟨gb103, 2, none⟩ = some (.string a0_2) ∧ w'.cell? ⟨gb103, 3, none⟩ = some (.slice A0_3 l0_3.length c0_3) ∧ w'.cell? ⟨gb103, 4, none⟩ = some (.slice (some ad106) l0_4.length c0_4) ∧ w'.cell? (ad106.add ((x6_3).toNat * 5)) = some (.int .i64 ((rd_T29 l0_4 x6_3).f0)) ∧ w'.cell? ⟨(ad106.add ((x6_3).toNat * 5)).block, (ad106.add ((x6_3).toNat * 5)).off + 1, none⟩ = some (.int .i64 ((rd_T29 l0_4 x6_3).f1)) ∧ w'.cell? ⟨(ad106.add ((x6_3).toNat * 5)).block, (ad106.add ((x6_3).toNat * 5)).off + 2, none⟩ = some (.string ((rd_T29 l0_4 x6_3).f2)) ∧ w'.cell? ⟨(ad106.add ((x6_3).toNat * 5)).block, (ad106.add ((x6_3).toNat * 5)).off + 3, none⟩ = some (.slice A106_3 ((rd_T29 l0_4 x6_3).f3).length c106_3) ∧ w'.cell? ⟨(ad106.add ((x6_3).toNat * 5)).block, (ad106.add ((x6_3).toNat * 5)).off + 4, none⟩ = some (.slice A106_4 ((rd_T29 l0_4 x6_3).f4).length c106_4)) (ds := []) ⟨(blk_cell BK103.out 0).trans rfl, (blk_cell BK103.out 1).trans rfl, (blk_cell BK103.out 2).trans rfl, (blk_cell BK103.out 3).trans rfl, (blk_cell BK103.out 4).trans rfl, ((HB.out.cell (World.block_lt_of_cell? w _ hw106_0)).trans hw106_0), ((HB.out.cell (World.block_lt_of_cell? w _ hw106_1)).trans hw106_1), ((HB.out.cell (World.block_lt_of_cell? w _ hw106_2)).trans hw106_2), ((HB.out.cell (World.block_lt_of_cell? w _ hw106_3)).trans hw106_3), ((HB.out.cell (World.block_lt_of_cell? w _ hw106_4)).trans hw106_4)⟩ (fun hHeld => ?_); refine with_tabW spec_l02OK.tab16 spec_l02OK.bits16 (fun HT_ HW_ => ?_)
                  generalize wr.drew = w85 at BK103 HB HR106_3 HR106_4 hx106_0 hx106_1 hx106_2 hx106_3 hx106_4 hHeld ⊢
                  refine pU_ ?_
                  refine pUX_ 2 ?_
                  refine pUX_ 5 ?_
                  refine pUX_ 6 ?_
                  refine tU_ ?_
                  refine aU_ ?_
                  refine pU_ ?_
                  refine tU_ ?_
                  iterate 2 refine aU_ ?_
                  refine oU_ (fun K hK => ?_)
                  refine gU_ Try.func13 #[.agg #[.int .i64 ((rd_T29 l0_4 x6_3).f0), .int .i64 ((rd_T29 l0_4 x6_3).f1), .string ((rd_T29 l0_4 x6_3).f2), .slice A106_3 ((rd_T29 l0_4 x6_3).f3).length c106_3, .slice A106_4 ((rd_T29 l0_4 x6_3).f4).length c106_4], .int .i64 (wrap64 (a1 - 1))] ?_
                  with_reducible refine (ih k3 (by have := HJ2.out; have := HJ33.out; have := HK3.out; omega) ((rd_T29 l0_4 x6_3).f0) ((rd_T29 l0_4 x6_3).f1) ((rd_T29 l0_4 x6_3).f2) _ _ ((rd_T29 l0_4 x6_3).f3) _ _ ((rd_T29 l0_4 x6_3).f4) (wrap64 (a1 - 1)) true _ ?side1 ?side2 ?side3 ?side4 A64.out).mono ?_
                  (case side1 => repeat (first | exact (Kd.C_below HR106_3.out HB.out) | (with_reducible refine Kd.C_alloc ?_ _) | (with_reducible refine Kd.C_drewN ?_ _) | (with_reducible refine Kd.C_drew ?_)))
                  (case side2 => exact HC106_3.out)
                  (case side3 => repeat (first | exact (Kd.C_below HR106_4.out HB.out) | (with_reducible refine Kd.C_alloc ?_ _) | (with_reducible refine Kd.C_drewN ?_ _) | (with_reducible refine Kd.C_drew ?_)))
                  (case side4 => exact HC106_4.out)
                  rintro e w86 ⟨rfl, hb⟩
                  refine ⟨_, rfl, ?_⟩
                  replace BK103 := blkK_ BK103 hb
                  replace HB := belB_ hb
                  (try clear hb)
                  refine hK.out _ _ ⟨(blk_cell BK103.out 0).trans rfl, (blk_cell BK103.out 1).trans rfl, (blk_cell BK103.out 2).trans rfl, (blk_cell BK103.out 3).trans rfl, (blk_cell BK103.out 4).trans rfl, ((HB.out.cell (World.block_lt_of_cell? w _ hw106_0)).trans hw106_0), ((HB.out.cell (World.block_lt_of_cell? w _ hw106_1)).trans hw106_1), ((HB.out.cell (World.block_lt_of_cell? w _ hw106_2)).trans hw106_2), ((HB.out.cell (World.block_lt_of_cell? w _ hw106_3)).trans hw106_3), ((HB.out.cell (World.block_lt_of_cell? w _ hw106_4)).trans hw106_4)⟩ (fun hHeld => ?_)
                  clear hK K
                  refine nU_ ?_
                  iterate 3 refine pU_ ?_
                  refine tU_ ?_
                  iterate 2 refine pU_ ?_
                  iterate 19 refine sU_ ?_
                  iterate 2 refine pU_ ?_
                  refine doneU_ ?_
                  try go_wp2
                  go_roundg k3
                  case measure => have := HJ2.out; have := HJ33.out; have := HK3.out; omega
                  case rel => exact ⟨(wrap64 (x6_3 + 1)), eqE_, H', ⟨by have := HJ2.out; have := HJ33.out; have := HK3.out; omega⟩, ⟨blkE_⟩, ⟨belE_⟩⟩
               ·
                as_aux_lemma =>
                 replace c65 := Bool.eq_false_iff.mpr c65
                 subst c65
                 replace H := ifF_ H
                 obtain rfl := Option.some.inj H
                 have hcz87_0 : wr.cell? ⟨gb103, 0, none⟩ = some (.int .i64 a0_0) := (blk_cell BK103.out 0).trans rfl
                 have hcz87_1 : wr.cell? ⟨gb103, 1, none⟩ = some (.int .i64 a0_1) := (blk_cell BK103.out 1).trans rfl
                 have hcz87_2 : wr.cell? ⟨gb103, 2, none⟩ = some (.string a0_2) := (blk_cell BK103.out 2).trans rfl
                 have hcz87_3 : wr.cell? ⟨gb103, 3, none⟩ = some (.slice A0_3 l0_3.length c0_3) := (blk_cell BK103.out 3).trans rfl
                 have hcz87_4 : wr.cell? ⟨gb103, 4, none⟩ = some (.slice A0_4 l0_4.length c0_4) := (blk_cell BK103.out 4).trans rfl
                 have hfz87_0 := blk_frozen BK103.out 0
                 have hfz87_1 := blk_frozen BK103.out 1
                 have hfz87_2 := blk_frozen BK103.out 2
                 have hfz87_3 := blk_frozen BK103.out 3
                 have hfz87_4 := blk_frozen BK103.out 4
                 try go_wp2
                 replace BK103 := Aside0.mk (blk_drew BK103.out)
                 replace HB := Aside0.mk (below_drew1 HB.out)
                 have p106 : 0 ≤ (x6_3 : Int) := of_decide_eq_true (by first | (with_reducible assumption) | assumption)
                 have q106 : x6_3 < (l0_4.length : Int) := of_decide_eq_true (by first | (with_reducible assumption) | assumption)
                 obtain ⟨ad106, A106_3, c106_3, A106_4, c106_4, e106, hx106_0, hx106_1, hx106_2, hx106_3, hx106_4, hl106_3, hi106_3, hl106_4, hi106_4⟩ := at_T29 HR0_4.out x6_3 p106 q106
                 have hw106_4 := hx106_4
                 have hw106_3 := hx106_3
                 have hw106_2 := hx106_2
                 have hw106_1 := hx106_1
                 have hw106_0 := hx106_0
                 cases e106
                 replace hx106_0 := (HB.out.cell (World.block_lt_of_cell? w _ hx106_0)).trans hx106_0
                 replace hx106_1 := (HB.out.cell (World.block_lt_of_cell? w _ hx106_1)).trans hx106_1
                 replace hx106_2 := (HB.out.cell (World.block_lt_of_cell? w _ hx106_2)).trans hx106_2
                 replace hx106_3 := (HB.out.cell (World.block_lt_of_cell? w _ hx106_3)).trans hx106_3
                 replace hx106_4 := (HB.out.cell (World.block_lt_of_cell? w _ hx106_4)).trans hx106_4
                 have HR106_3 := Aside0.mk hi106_3
                 have HC106_3 := Aside0.mk hl106_3
                 clear hi106_3 hl106_3
                 have HR106_4 := Aside0.mk hi106_4
                 have HC106_4 := Aside0.mk hl106_4
                 clear hi106_4 hl106_4
                 replace p106 := eq_true p106
                 replace q106 := eq_true q106
                 refine startU_ (n := 35) (S := fun w' => w'.cell? ⟨gb103, 0, none⟩ = some (.int .i64 a0_0) ∧ w'.cell? ⟨gb103, 1, none⟩ = some (.int .i64 a0_1) ∧ w'.cell? ⟨gb103, 2, none⟩ = some (.string a0_2) ∧ w'.cell? ⟨gb103, 3, none⟩ = some (.slice A0_3 l0_3.length c0_3) ∧ w'.cell? ⟨gb103, 4, none⟩ = some (.slice (some ad106) l0_4.length c0_4) ∧ w'.cell? (ad106.add ((x6_3).toNat * 5)) = some (.int .i64 ((rd_T29 l0_4 x6_3).f0)) ∧ w'.cell? ⟨(ad106.add ((x6_3).toNat * 5)).block, (ad106.add ((x6_3).toNat * 5)).off + 1, none⟩ = some (.int .i64 ((rd_T29 l0_4 x6_3).f1)) ∧ w'.cell? ⟨(ad106.add ((x6_3).toNat * 5)).block, (ad106.add ((x6_3).toNat * 5)).off + 2, none⟩ = some (.string ((rd_T29 l0_4 x6_3).f2)) ∧ w'.cell? ⟨(ad106.add ((x6_3).toNat * 5)).block, (ad106.add ((x6_3).toNat * 5)).off + 3, none⟩ = some (.slice A106_3 ((rd_T29 l0_4 x6_3).f3).length c106_3) ∧ w'.cell? ⟨(ad106.add ((x6_3).toNat * 5)).block, (ad106.add ((x6_3).toNat * 5)).off + 4, none⟩ = some (.slice A106_4 ((rd_T29 l0_4 x6_3).f4).length c106_4)) (ds := []) ⟨(blk_cell BK103.out 0).trans rfl, (blk_cell BK103.out 1).trans rfl, (blk_cell BK103.out 2).trans rfl, (blk_cell BK103.out 3).trans rfl, (blk_cell BK103.out 4).trans rfl, ((HB.out.cell (World.block_lt_of_cell? w _ hw106_0)).trans hw106_0), ((HB.out.cell (World.block_lt_of_cell? w _ hw106_1)).trans hw106_1), ((HB.out.cell (World.block_lt_of_cell? w _ hw106_2)).trans hw106_2), ((HB.out.cell (World.block_lt_of_cell? w _ hw106_3)).trans hw106_3), ((HB.out.cell (World.block_lt_of_cell? w _ hw106_4)).trans hw106_4)⟩ (fun hHeld => ?_); refine with_tabW spec_l02OK.tab16 spec_l02OK.bits16 (fun HT_ HW_ => ?_)
                 generalize wr.drew = w88 at BK103 HB HR106_3 HR106_4 hx106_0 hx106_1 hx106_2 hx106_3 hx106_4 hHeld ⊢
                 refine pU_ ?_
                 refine pUX_ 2 ?_
                 refine pUX_ 5 ?_
                 refine pUX_ 6 ?_
                 refine tU_ ?_
                 refine aU_ ?_
                 refine pU_ ?_
                 refine tU_ ?_
                 iterate 2 refine aU_ ?_
                 refine oU_ (fun K hK => ?_)
                 refine gU_ Try.func13 #[.agg #[.int .i64 ((rd_T29 l0_4 x6_3).f0), .int .i64 ((rd_T29 l0_4 x6_3).f1), .string ((rd_T29 l0_4 x6_3).f2), .slice A106_3 ((rd_T29 l0_4 x6_3).f3).length c106_3, .slice A106_4 ((rd_T29 l0_4 x6_3).f4).length c106_4], .int .i64 (wrap64 (a1 - 1))] ?_
                 with_reducible refine (ih k3 (by have := HJ2.out; have := HJ33.out; have := HK3.out; omega) ((rd_T29 l0_4 x6_3).f0) ((rd_T29 l0_4 x6_3).f1) ((rd_T29 l0_4 x6_3).f2) _ _ ((rd_T29 l0_4 x6_3).f3) _ _ ((rd_T29 l0_4 x6_3).f4) (wrap64 (a1 - 1)) false _ ?side1 ?side2 ?side3 ?side4 A64.out).mono ?_
                 (case side1 => repeat (first | exact (Kd.C_below HR106_3.out HB.out) | (with_reducible refine Kd.C_alloc ?_ _) | (with_reducible refine Kd.C_drewN ?_ _) | (with_reducible refine Kd.C_drew ?_)))
                 (case side2 => exact HC106_3.out)
                 (case side3 => repeat (first | exact (Kd.C_below HR106_4.out HB.out) | (with_reducible refine Kd.C_alloc ?_ _) | (with_reducible refine Kd.C_drewN ?_ _) | (with_reducible refine Kd.C_drew ?_)))
                 (case side4 => exact HC106_4.out)
                 rintro e w89 ⟨rfl, hb⟩
                 refine ⟨_, rfl, ?_⟩
                 replace BK103 := blkK_ BK103 hb
                 replace HB := belB_ hb
                 (try clear hb)
                 refine hK.out _ _ ⟨(blk_cell BK103.out 0).trans rfl, (blk_cell BK103.out 1).trans rfl, (blk_cell BK103.out 2).trans rfl, (blk_cell BK103.out 3).trans rfl, (blk_cell BK103.out 4).trans rfl, ((HB.out.cell (World.block_lt_of_cell? w _ hw106_0)).trans hw106_0), ((HB.out.cell (World.block_lt_of_cell? w _ hw106_1)).trans hw106_1), ((HB.out.cell (World.block_lt_of_cell? w _ hw106_2)).trans hw106_2), ((HB.out.cell (World.block_lt_of_cell? w _ hw106_3)).trans hw106_3), ((HB.out.cell (World.block_lt_of_cell? w _ hw106_4)).trans hw106_4)⟩ (fun hHeld => ?_)
                 clear hK K
                 refine nU_ ?_
                 iterate 2 refine pU_ ?_
                 iterate 24 refine sU_ ?_
                 refine pU_ ?_
                 refine doneU_ ?_
                 try go_wp2
                 go_ret
                 exact ⟨retE_, belE_⟩
              ·
               rw [if_neg c63] at H
               exact absurd H (by simp)
             ·
              as_aux_lemma =>
               rw [if_neg c62] at H
               have c62b0 : decide (x6_3 < (l0_4.length : Int)) = false := decide_eq_false c62
               clear c62
               obtain rfl := Option.some.inj H
               have hcz90_0 : wr.cell? ⟨gb103, 0, none⟩ = some (.int .i64 a0_0) := (blk_cell BK103.out 0).trans rfl
               have hcz90_1 : wr.cell? ⟨gb103, 1, none⟩ = some (.int .i64 a0_1) := (blk_cell BK103.out 1).trans rfl
               have hcz90_2 : wr.cell? ⟨gb103, 2, none⟩ = some (.string a0_2) := (blk_cell BK103.out 2).trans rfl
               have hcz90_3 : wr.cell? ⟨gb103, 3, none⟩ = some (.slice A0_3 l0_3.length c0_3) := (blk_cell BK103.out 3).trans rfl
               have hcz90_4 : wr.cell? ⟨gb103, 4, none⟩ = some (.slice A0_4 l0_4.length c0_4) := (blk_cell BK103.out 4).trans rfl
               have hfz90_0 := blk_frozen BK103.out 0
               have hfz90_1 := blk_frozen BK103.out 1
               have hfz90_2 := blk_frozen BK103.out 2
               have hfz90_3 := blk_frozen BK103.out 3
               have hfz90_4 := blk_frozen BK103.out 4
               go_wp2
               go_ret
               exact ⟨retE_, belE_⟩

end Go.Proofs.Ytljpmdeobmmhlaa.QFnExactMember
