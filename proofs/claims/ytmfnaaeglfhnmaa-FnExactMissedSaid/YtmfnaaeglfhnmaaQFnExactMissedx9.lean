/- A tool of this session wrote this text out of the translation: functions as plain Lean, and proofs that the machine's calls come to their answers. -/
import Derived.Test.YtmfnaaeglfhnmaaQShort
import Derived.Test.YtmfnaaeglfhnmaaQFnExactMissedx0
import Derived.Test.YtmfnaaeglfhnmaaQFnExactMissedx7
import Derived.Test.YtmfnaaeglfhnmaaQFnExactMissedx8
namespace Go.Proofs.Ytmfnaaeglfhnmaa.QFnExactMissed
open Go.RowKit Go.Proofs.YtmfnaaeglfhnmaaW.PrintWords Go.Proofs.YtmfnaaeglfhnmaaW.PrintLast Go.Proofs.YtmfnaaeglfhnmaaW.PrintMore
open Go.Proofs.Ytmfnaaeglfhnmaa.Short
attribute [local go_sem] max2_int min2_int max_two min_two max_three min_three max_four min_four   -- for this text's walks alone
set_option linter.unusedVariables false
set_option linter.unusedSimpArgs false

/-! ### impl_unless: function 104 -/
def impl_unless.f (a0 : Bool) (a1 : Int) : Option (Int) := if a0 = true then (some 0) else (some a1)
set_option maxHeartbeats 8000000 in
set_option maxRecDepth 100000 in
theorem impl_unless.calls (a0 : Bool) (a1 : Int) (r : Int) (w : World) (h : impl_unless.f a0 a1 = some r) :
    Calls Try.prog 104 #[.bool a0, .int .i64 a1] w fun e w' => e = .returned (.int .i64 r) ∧ Drawn0 w w' := by
 have H : (if a0 = true then (some 0) else (some a1)) = some r := h
 clear h
 by_cases c3 : a0 = true
 ·
  subst c3
  replace H := ifT_ H
  obtain rfl := Option.some.inj H
  go_enter Try.func104, Try.ntmps104
  go_wp2
  go_ret
  exact ⟨by first | rfl | (simp; done) | (simp [*]; done) | (simp only [bne_empty_]; rfl), by repeat (first | exact Drawn0.refl _ | apply Drawn0.step)⟩
 ·
  replace c3 := Bool.eq_false_iff.mpr c3
  subst c3
  replace H := ifF_ H
  obtain rfl := Option.some.inj H
  go_enter Try.func104, Try.ntmps104
  go_wp2
  go_ret
  exact ⟨by first | rfl | (simp; done) | (simp [*]; done) | (simp only [bne_empty_]; rfl), by repeat (first | exact Drawn0.refl _ | apply Drawn0.step)⟩

/-! ### impl_countCode: function 108 -/
def impl_countCode.f (k : Nat) (l0_0 : List (S64)) (l0_1 : List ByteArray) (a1 : Int) : Option (Int) := (impl_QueueOK.f k l0_0 l0_1).bind fun t270 => ((impl_unless.f t270 1).bind fun t271 => ((impl_within.f a1 0 (mn (l0_0.length : Int) 3)).bind fun t272 => ((impl_unless.f t272 4).bind fun t273 => ((impl_first.f k (([t271, t273] : List Int))).bind fun t277 => (some t277)))))
theorem impl_countCode.mono : ∀ a0 a1 a2 k, LeO (impl_countCode.f k a0 a1 a2) (impl_countCode.f (k + 1) a0 a1 a2) := by
  intro a0 a1 a2 k
  unfold impl_countCode.f
  repeat' first
      | (with_reducible exact impl_QueueOK.mono _ _ _)
      | (with_reducible exact impl_first.mono _ _)
      | (with_reducible exact LeO.refl _)
      | (with_reducible exact LeO.none _)
      | (with_reducible refine LeO.ite ?_ ?_)
      | (with_reducible refine LeO.bind ?_ (fun _ => ?_))
      | exact impl_QueueOK.mono _ _ _
      | exact impl_first.mono _ _
      | exact LeO.none _
      | refine LeO.ite ?_ ?_
      | refine LeO.bind ?_ (fun _ => ?_)
def impl_countCode.T1 : Bool × List (List Nat × List Nat) := (true, [([], []), ([0], [0]), ([1, 1], [1]), ([], []), ([], []), ([4], [4]), ([5], [5]), ([6], [6]), ([3, 7, 2], [3, 7]), ([8, 8], [8]), ([2, 9], [2, 9]), ([10, 9], [10]), ([11, 11, 0, 1, 2, 3, 4, 5, 6, 7, 8, 9, 10, 11], [11])])
def impl_countCode.B1 : List Nat := [0, 1, 3, 0, 0, 16, 48, 112, 255, 511, 1023, 2047, 4095]
theorem impl_countCode.tab1 : rtab .any (opsOf Try.f108 1) = impl_countCode.T1 := by kernel_rfl
theorem impl_countCode.bits1 : waitsOk impl_countCode.T1.2 impl_countCode.B1 = true := by kernel_rfl
set_option maxHeartbeats 8000000 in
set_option maxRecDepth 100000 in
theorem impl_countCode.calls (k : Nat) (A0_0 : Option Addr) (c0_0 : Nat) (l0_0 : List (S64)) (A0_1 : Option Addr) (c0_1 : Nat) (l0_1 : List ByteArray) (a1 : Int) (r : Int) (w : World) (hr0_0 : Kd.C k64 w A0_0 l0_0.length l0_0) (hc0_0 : l0_0.length ≤ c0_0) (hr0_1 : Kd.C Kd.string w A0_1 l0_1.length l0_1) (hc0_1 : l0_1.length ≤ c0_1) (h : impl_countCode.f k l0_0 l0_1 a1 = some r) :
    Calls Try.prog 108 #[.agg #[.slice A0_0 l0_0.length c0_0, .slice A0_1 l0_1.length c0_1], .int .i64 a1] w fun e w' => e = .returned (.int .i64 r) ∧ Below w.heap.size w w' := by
 have hu49 := Try.underlying49
 have HR0_0 := Aside0.mk hr0_0
 have HC0_0 := Aside0.mk hc0_0
 clear hr0_0 hc0_0
 have HR0_1 := Aside0.mk hr0_1
 have HC0_1 := Aside0.mk hc0_1
 clear hr0_1 hc0_1
 have HB := Aside0.mk (Below.refl w.heap.size w)
 have H : ((impl_QueueOK.f k l0_0 l0_1).bind fun t270 => ((impl_unless.f t270 1).bind fun t271 => ((impl_within.f a1 0 (mn (l0_0.length : Int) 3)).bind fun t272 => ((impl_unless.f t272 4).bind fun t273 => ((impl_first.f k (([t271, t273] : List Int))).bind fun t277 => (some t277)))))) = some r := h
 clear h
 obtain ⟨t270, A3, H⟩ := bindE_ H
 obtain ⟨t271, A4, H⟩ := bindE_ H
 obtain ⟨ji5, hji5⟩ : ∃ j_ : Int, (mn (l0_0.length : Int) 3) = j_ := ⟨_, rfl⟩
 replace H : ((impl_within.f a1 0 (ji5)).bind fun t272 => ((impl_unless.f t272 4).bind fun t273 => ((impl_first.f k (([t271, t273] : List Int))).bind fun t277 => (some t277)))) = some r := by first | (rw [hji5] at H; exact H) | (simp only [hji5] at H ⊢; exact H)
 (try rw [hji5] at A3)
 (try rw [hji5] at A4)
 (try (have hji5h : ji5 ≤ 3 := by (rw [← hji5]; unfold mn; (repeat' split) <;> omega)))
 (try (have hji5g : ji5 ≤ 64 := by omega))
 (try (have hji5l : 0 ≤ ji5 := by (rw [← hji5]; unfold mn; (repeat' split) <;> omega)))
 (try (have hji5m : 0 ≤ ji5 := by omega))
 have hji5_ : (if 3 < (l0_0.length : Int) then 3 else (l0_0.length : Int)) = ji5 := hji5
 (try (have hji5n_ := hji5_; simp only [Int.ofNat_lt] at hji5n_))
 obtain ⟨t272, A6, H⟩ := bindE_ H
 obtain ⟨t273, A7, H⟩ := bindE_ H
 obtain ⟨y274, hy274⟩ : ∃ y_ : List Int, y_ = (([t271, t273] : List Int)) := ⟨_, rfl⟩
 replace H : ((impl_first.f k y274).bind fun t277 => (some t277)) = some r := by first | (rw [hy274]; with_reducible exact H) | (have H2_ := (Option.bind_some _ _).symm.trans H; rw [hy274]; with_reducible exact H2_) | (have H2_ := (Option.bind_some _ _).symm.trans H; with_reducible exact H2_) | with_reducible exact H | (rw [hy274]; exact H) | exact H
 have Ny274 := Aside0.mk hy274
 clear hy274
 obtain ⟨t277, A8, H⟩ := bindE_ H
 obtain rfl := Option.some.inj H
 go_enter Try.func108, Try.ntmps108
 try go_wp2_with (first | ((with_reducible refine gate_dst (N := 2) rfl ?_); refine box_event ?hg (N := 2) ?hd (cs := #[.slice A0_0 l0_0.length c0_0, .slice A0_1 l0_1.length c0_1]) (t := 49) ?hr ?_; (case hd => rfl); (case hg => rfl); (case hr => first | (go_simp; done) | (go_simp; rfl)); intro gb269 hg w9 hbox hb; have n0_ := belB_ hb; have n1_ := Aside0.mk (hbox); have n2_ := Aside0.mk ((by rw [hg]; exact (below_size (by repeat (first | (with_reducible first | exact HB.out | apply below_alloc | apply pw_below_drewN | apply below_drew1) | exact HB.out))) : w.heap.size ≤ gb269)); have n3_ := Aside0.mk ((by rw [hg]; exact (below_size (by repeat (first | (with_reducible first | exact HB.out | apply below_alloc | apply pw_below_drewN | apply below_drew1) | exact HB.out))) : w.heap.size ≤ gb269)); clear HB; have HB := n0_; have BK269 := n1_; have GW269 := n2_; have GE269 := n3_; clear n0_ n1_ n2_ n3_; clear hb hbox hg))
 replace BK269 := Aside0.mk (blk_drew BK269.out)
 replace HB := Aside0.mk (below_drew1 HB.out)
 refine startU_ (n := 13) (S := fun w' => w'.cell? ⟨gb269, 0, none⟩ = some (.slice A0_0 l0_0.length c0_0) ∧ w'.cell? ⟨gb269, 1, none⟩ = some (.slice A0_1 l0_1.length c0_1)) (ds := []) (held2_ BK269.out) (fun hHeld => ?_); refine with_tabW impl_countCode.tab1 impl_countCode.bits1 (fun HT_ HW_ => ?_)
 generalize w9.drew = w10 at BK269 HB hHeld ⊢
 refine pUX_ 3 ?_
 refine pUX_ 4 ?_
 refine tU_ ?_
 refine tUX_ 5 ?_
 refine pUX_ 6 ?_
 refine pUX_ 7 ?_
 refine oU_ (fun K hK => ?_)
 refine gU_ Try.func27 #[.agg #[.slice A0_0 l0_0.length c0_0, .slice A0_1 l0_1.length c0_1]] ?_
 with_reducible refine (impl_QueueOK.calls k _ _ l0_0 _ _ l0_1 t270 _ ?side1 ?side2 ?side3 ?side4 A3.out).mono ?_
 (case side1 => repeat (first | exact (Kd.C_below HR0_0.out HB.out) | (with_reducible refine Kd.C_alloc ?_ _) | (with_reducible refine Kd.C_drewN ?_ _) | (with_reducible refine Kd.C_drew ?_)))
 (case side2 => exact HC0_0.out)
 (case side3 => repeat (first | exact (Kd.C_below HR0_1.out HB.out) | (with_reducible refine Kd.C_alloc ?_ _) | (with_reducible refine Kd.C_drewN ?_ _) | (with_reducible refine Kd.C_drew ?_)))
 (case side4 => exact HC0_1.out)
 rintro e w11 ⟨rfl, hb⟩
 refine ⟨_, rfl, ?_⟩
 replace BK269 := blkK_ BK269 hb
 replace HB := belB_ hb
 (try clear hb)
 refine hK.out _ _ (held2_ BK269.out) (fun hHeld => ?_)
 clear hK K
 refine nU_ ?_
 refine oU_ (fun K hK => ?_)
 refine gU_ Try.func104 #[.bool t270, .int .i64 1] ?_
 with_reducible refine (impl_unless.calls t270 1 t271 _ A4.out).mono ?_
 rintro e w' ⟨rfl, ⟨nd, rfl⟩⟩
 refine ⟨_, rfl, ?_⟩
 refine hK.out _ _ (held2_ BK269.out) (fun hHeld => ?_)
 clear hK K
 refine nU_ ?_
 iterate 5 refine aU_ ?_
 refine oU_ (fun K hK => ?_)
 refine goes_ Try.func69 (by kernel_rfl) rfl #[.int .i64 a1, .int .i64 0, .int .i64 ji5] (by rfl) rfl rfl (by (try simp only [List.map_toArray, List.map_cons, List.map_nil]); first | done | (simp only [hji5]; rfl) | rfl | (simp only [List.length_drop, List.length_take]; rfl)) ?_
 with_reducible refine (impl_within.calls a1 0 ji5 t272 _ A6.out).mono ?_
 rintro e w' ⟨rfl, ⟨nd, rfl⟩⟩
 refine ⟨_, rfl, ?_⟩
 refine hK.out _ _ (held2_ BK269.out) (fun hHeld => ?_)
 clear hK K
 refine nU_ ?_
 refine oU_ (fun K hK => ?_)
 refine gU_ Try.func104 #[.bool t272, .int .i64 4] ?_
 with_reducible refine (impl_unless.calls t272 4 t273 _ A7.out).mono ?_
 rintro e w' ⟨rfl, ⟨nd, rfl⟩⟩
 refine ⟨_, rfl, ?_⟩
 refine hK.out _ _ (held2_ BK269.out) (fun hHeld => ?_)
 clear hK K
 refine nU_ ?_
 refine oU_ (fun K hK => ?_)
 refine Kd.R_lit_step (Kd.int .i64) _ 3 ?hg (N := 15) ?hd (xs := ([t271, t273] : List Int)) (inner := [.int .i64 t271, .int .i64 t273]) (ok := fun _ => True) (okp := fun _ => True) ?hr ?hp (fun _ hk => hk) trivial (Below.refl _ _) (Nat.le_refl _) (by simp) ?_; (case hd => rfl); (case hg => rfl); (case hr => first | (go_simp; done) | (go_simp; rfl)); (case hp => exact (Reps.one (show Kd.M (Kd.int .i64) _ _ _ t271 [.int .i64 t271] from rfl) (Reps.one (show Kd.M (Kd.int .i64) _ _ _ t273 [.int .i64 t273] from rfl) (Reps.none _ _))))
 intro v275 w12 ho13 hb hg_ hnew_
 clear hg_ hnew_
 (first | rw [← Ny274.out] at ho13 | (simp only [Int.reduceToNat] at ho13; rw [← Ny274.out] at ho13))
 have n0_ := Aside0.mk (Kd.R_lower ho13 (below_size (by repeat (first | (with_reducible first | exact HB.out | apply below_alloc | apply pw_below_drewN | apply below_drew1 | refine below_set ?_ GE269.out) | exact HB.out))))
 have n1_ := blkB_ (g := gb269) (o := .cells #[.slice A0_0 l0_0.length c0_0, .slice A0_1 l0_1.length c0_1] 49 (0, 0)) hb
 have n2_ := belB_ hb
 clear BK269
 clear HB
 have HO276 := n0_
 have BK269 := n1_
 have HB := n2_
 clear n0_ n1_ n2_
 clear hb ho13
 obtain ⟨Ao14, co14, eo14⟩ := Kd.R_slice HO276.out
 (first | subst eo14 | (injection eo14 with f1_ f2_ f3_; have f4_ := f1_.symm; have f5_ := f3_.symm; clear f1_ f2_ f3_; subst f4_; subst f5_))
 refine hK.out _ _ (held2_ BK269.out) (fun hHeld => ?_)
 clear hK K
 refine nU_ ?_
 refine oU_ (fun K hK => ?_)
 refine gU_ Try.func103 #[.slice Ao14 y274.length co14] ?_
 with_reducible refine (impl_first.calls k _ _ y274 t277 _ ?side1 ?side2 A8.out).mono ?_
 (case side1 => repeat (first | exact (Kd.R_reads' HO276.out).2.2 | (with_reducible refine Kd.C_alloc ?_ _) | (with_reducible refine Kd.C_drewN ?_ _) | (with_reducible refine Kd.C_drew ?_)))
 (case side2 => exact (Kd.R_reads' HO276.out).2.1)
 rintro e w' ⟨rfl, ⟨nd, rfl⟩⟩
 refine ⟨_, rfl, ?_⟩
 refine hK.out _ _ (held2_ BK269.out) (fun hHeld => ?_)
 clear hK K
 refine nU_ ?_
 refine pU_ ?_
 refine doneU_ ?_
 try go_wp2
 go_ret
 exact ⟨by first | rfl | (simp [errW_none, errW_some] <;> rfl) | (simp only [← hji5]; first | rfl | (simp [errW_none, errW_some] <;> rfl)) | (simp [*, errW_none, errW_some] <;> rfl), belE_⟩

/-! ### slices_Clone_string_string: function 132, by hand -/
/-- A copy of a list of texts. -/
def slices_Clone_string_string.f (l0 : List ByteArray) : Option (List ByteArray) := if l0.length < 8796093022208 then some l0 else none
set_option maxHeartbeats 8000000 in
set_option maxRecDepth 100000 in
theorem slices_Clone_string_string.calls (A0 : Option Addr) (c0 : Nat) (l0 : List ByteArray) (r : List ByteArray) (w : World) (hr0 : Kd.C Kd.string w A0 l0.length l0) (hc0 : l0.length ≤ c0) (h : slices_Clone_string_string.f l0 = some r) :
    Calls Try.prog 132 #[.slice A0 l0.length c0] w fun e w' => ∃ v0_ : Value, e = .returned (v0_) ∧ Kd.R Kd.string 9 w' w.heap.size (fun _ => True) v0_ r ∧ Below w.heap.size w w' := by
  unfold slices_Clone_string_string.f at h
  by_cases hs : l0.length < 8796093022208
  rotate_left
  · rw [if_neg hs] at h; cases h
  rw [if_pos hs] at h
  obtain rfl := Option.some.inj h
  clear h
  cases A0 with
  | none =>
    have hz : l0 = [] := by
      cases l0 with
      | nil => rfl
      | cons x xs => obtain ⟨ad, e, _⟩ := hr0.2.2 (by simp); cases e
    subst hz
    have hnil := fun W : World => Lib.run_eql_slice_nil (P := Try.prog) W 34 9 none 0 c0 0 0 Try.underlying34
    go_enter Try.func132, Try.ntmps132
    go_wp2
    go_ret
    exact ⟨_, rfl, Kd.R_nil _ _ _ _ _, Below.refl _ _⟩
  | some ad =>
    have HR := Aside0.mk hr0
    have LN := Aside0.mk hs
    clear hr0 hs
    have hnil := fun W : World => Lib.run_eql_slice_nil (P := Try.prog) W 34 9 (some ad) l0.length c0 0 0 Try.underlying34
    go_enter Try.func132, Try.ntmps132
    go_wp2_with (first | ((with_reducible refine gate_dst (N := 5) rfl ?_); refine Kd.R_lit Kd.string _ 9 ?hg (N := 5) ?hd (xs := ([] : List ByteArray)) (inner := []) (ok := fun _ => True) (okp := fun _ => True) ?hr ?hp (fun _ hk => hk) trivial (Below.refl _ _) (Nat.le_refl _) (by simp) ?_; (case hd => rfl); (case hg => rfl); (case hr => first | (go_simp; done) | (go_simp; rfl)); (case hp => exact (Reps.none _ _)); intro v1 w1 ho1 hb1 hg1 hn1; have HO1 := Aside0.mk ho1; have HB1 := Aside0.mk hb1; clear ho1 hb1 hg1 hn1) | ((with_reducible refine gate_dst (N := 7) rfl ?_); refine Kd.R_append_rows Kd.string (w0 := w) w.heap.size (by rfl) (.tmp 5) (.tmp 6) 34 9 (.string ⟨#[]⟩) 16 rfl Try.underlying34 info9 rfl (by decide) (by omega) v1 ([] : List ByteArray) l0 _ _ _ (fun _ => True) (fun _ => False) rfl rfl HO1.out (Kd.C_below HR.out HB1.out) (fun _ _ h => h) (fun _ h => h.elim) (fun _ _ => trivial) HB1.out (below_size HB1.out) (by have := LN.out; simp only [List.length_nil]; omega) ?_; intro v2 w2 ho2 hb2 hg2 hat2; have HO2 := Aside0.mk ho2; have HB2 := Aside0.mk hb2; clear ho2 hb2 hg2 hat2))
    go_ret
    exact ⟨_, rfl, HO2.out, HB2.out⟩

/-! ### impl_Queue_missed: function 111, by hand -/
/-- What a queue's reports come to, one behind the other. -/
def impl_Queue_missed.keepL (g : Nat → S64 → S64 × Bool) (l : List S64) : Nat → Nat → List Int → List S64 → List S64 × List Int
  | 0, _, ids, its => (its, ids)
  | d + 1, i, ids, its => if (g i (rd_T64 l (i : Int))).2 = true then impl_Queue_missed.keepL g l d (i + 1) ids (its ++ [(g i (rd_T64 l (i : Int))).1]) else impl_Queue_missed.keepL g l d (i + 1) (ids ++ [(rd_T64 l (i : Int)).f0]) its
/-- What the loop knows of memory. -/
structure impl_Queue_missed.KF (w : World) (g2 g4 g6 : Nat) (q0 q1 v0 v1 v7 : Value) (its : List S64) (rec : List ByteArray) (ids : List Int) (W : World) : Prop where
  b2 : W.heap[g2]? = some (.cells #[q0, q1] 49 (0, 0))
  b4 : W.heap[g4]? = some (.cells #[.slice none 0 0, .slice none 0 0] 49 (0, 0))
  b6 : W.heap[g6]? = some (.cells #[v0, v1] 49 (0, 0))
  r0 : Kd.R k64 64 W w.heap.size (fun _ => True) v0 its
  r1 : Kd.R Kd.string 9 W w.heap.size (fun _ => True) v1 rec
  r7 : Kd.R (Kd.int .i64) 3 W w.heap.size (fun _ => True) v7 ids
  bl : Below w.heap.size w W
section
variable {w W W1 : World} {g2 g4 g6 : Nat} {q0 q1 v0 v1 v7 : Value} {its : List S64} {rec : List ByteArray} {ids : List Int}
theorem impl_Queue_missed.KF.below (h : impl_Queue_missed.KF w g2 g4 g6 q0 q1 v0 v1 v7 its rec ids W) (hb : Below W.heap.size W W1) : impl_Queue_missed.KF w g2 g4 g6 q0 q1 v0 v1 v7 its rec ids W1 :=
  ⟨blk_below h.b2 hb, blk_below h.b4 hb, blk_below h.b6 hb, Kd.R_below h.r0 hb, Kd.R_below h.r1 hb, Kd.R_below h.r7 hb, below_step h.bl hb⟩
theorem impl_Queue_missed.KF.alloc (h : impl_Queue_missed.KF w g2 g4 g6 q0 q1 v0 v1 v7 its rec ids W) (o : Obj) : impl_Queue_missed.KF w g2 g4 g6 q0 q1 v0 v1 v7 its rec ids (W.alloc o) := h.below (below_alloc (Below.refl _ _) o)
theorem impl_Queue_missed.KF.app0 (h : impl_Queue_missed.KF w g2 g4 g6 q0 q1 v0 v1 v7 its rec ids W) (h26 : g2 ≠ g6) (h46 : g4 ≠ g6) (h6 : w.heap.size ≤ g6) {v0' : Value} {p : S64} (ho : Kd.R k64 64 W1 w.heap.size (fun _ => True) v0' (its ++ [p])) (hb : Below w.heap.size w W1) (hg : W.grownBy W1 v0.ownBlock) :
    impl_Queue_missed.KF w g2 g4 g6 q0 q1 v0' v1 v7 (its ++ [p]) rec ids (W1.setCell ⟨g6, 0, none⟩ v0') := by
  have b6 := blk_grown h.b6 hg (Kd.R_ne h.r0 h.b6 (by decide))
  exact ⟨blk_far (blk_grown h.b2 hg (Kd.R_ne h.r0 h.b2 (by decide))) h26 _, blk_far (blk_grown h.b4 hg (Kd.R_ne h.r0 h.b4 (by decide))) h46 _, blk_put b6 0 _ rfl,
    Kd.R_set ho b6 (by decide) 0 _, Kd.R_set (Kd.R_over' h.r1 (Kd.R_typed h.r0) (by decide) hg) b6 (by decide) 0 _, Kd.R_set (Kd.R_over' h.r7 (Kd.R_typed h.r0) (by decide) hg) b6 (by decide) 0 _, below_set hb h6⟩
theorem impl_Queue_missed.KF.app7 (h : impl_Queue_missed.KF w g2 g4 g6 q0 q1 v0 v1 v7 its rec ids W) {v7' : Value} {p : Int} (ho : Kd.R (Kd.int .i64) 3 W1 w.heap.size (fun _ => True) v7' (ids ++ [p])) (hb : Below w.heap.size w W1) (hg : W.grownBy W1 v7.ownBlock) :
    impl_Queue_missed.KF w g2 g4 g6 q0 q1 v0 v1 v7' its rec (ids ++ [p]) W1 :=
  ⟨blk_grown h.b2 hg (Kd.R_ne h.r7 h.b2 (by decide)), blk_grown h.b4 hg (Kd.R_ne h.r7 h.b4 (by decide)), blk_grown h.b6 hg (Kd.R_ne h.r7 h.b6 (by decide)),
    Kd.R_over' h.r0 (Kd.R_typed h.r7) (by decide) hg, Kd.R_over' h.r1 (Kd.R_typed h.r7) (by decide) hg, ho, hb⟩
end
/-- A report, as the machine hands it on. -/
abbrev impl_Queue_missed.agg (x : S64) : Value := .agg #[.int .i64 x.f0, .int .i64 x.f1, .int .i64 x.f2, .string x.f3]
set_option maxHeartbeats 8000000 in
set_option maxRecDepth 100000 in
theorem impl_Queue_missed.keep (caps : Array Value) (g : Nat → S64 → S64 × Bool) (A : Option Addr) (c : Nat) (l : List S64) (A1 : Option Addr) (c1 : Nat) (m : List ByteArray) (w : World)
    (hr : Kd.C k64 w A l.length l) (hc : l.length ≤ c) (hr1 : Kd.C Kd.string w A1 m.length m) (hc1 : m.length ≤ c1) (hl : l.length ≤ 1000) (hm : m.length ≤ 1000)
    (hg : ∀ (i : Nat) (x : S64) (W : World), i < l.length → Below w.heap.size w W → Calls Try.prog 136 (#[.int .i64 i, impl_Queue_missed.agg x] ++ caps) W fun e w' => e = .returned (.tuple #[impl_Queue_missed.agg (g i x).1, .bool (g i x).2]) ∧ Below W.heap.size W w') :
    Calls Try.prog 133 #[.agg #[.slice A l.length c, .slice A1 m.length c1], .func (.func 136) #[] caps] w fun e w' => ∃ v0 v1 v2 : Value, e = .returned (.tuple #[.agg #[v0, v1], v2]) ∧ Kd.R k64 64 w' w.heap.size (fun _ => True) v0 (impl_Queue_missed.keepL g l l.length 0 [] []).1 ∧ Kd.R Kd.string 9 w' w.heap.size (fun _ => True) v1 m ∧ Kd.R (Kd.int .i64) 3 w' w.heap.size (fun _ => True) v2 (impl_Queue_missed.keepL g l l.length 0 [] []).2 ∧ Below w.heap.size w w' := by
  have huQ := Try.underlying49
  have huR := Try.underlying64
  have HR := Aside0.mk hr
  have HR1 := Aside0.mk hr1
  have HG := Aside0.mk hg
  clear hr hr1 hg
  go_enter Try.func133, Try.ntmps133
  go_wp2_with (first | ((with_reducible refine gate_dst (N := 2) rfl ?_); refine box_event ?hg (N := 2) ?hd (cs := #[.slice A l.length c, .slice A1 m.length c1]) (t := 49) ?hr ?_; (case hd => rfl); (case hg => rfl); (case hr => first | (go_simp; done) | (go_simp; rfl)); intro g2 e2 w2 hx hb; have B2 := Aside0.mk hx; have G2 := Aside0.mk (show w.heap.size ≤ g2 by rw [e2]; exact Nat.le_refl _); have HB := Aside0.mk (below_step (Below.refl w.heap.size w) hb); clear hx hb e2) | ((with_reducible refine gate_dst (N := 4) rfl ?_); refine box_event ?hg (N := 4) ?hd (cs := #[.slice none 0 0, .slice none 0 0]) (t := 49) ?hr ?_; (case hd => rfl); (case hg => rfl); (case hr => first | (go_simp; done) | (go_simp; rfl)); intro g4 e4 w4 hx hb; have H24 := Aside0.mk (show g2 ≠ g4 by rw [e4]; exact Nat.ne_of_lt (blk_lt B2.out)); have G4 := Aside0.mk (show w.heap.size ≤ g4 by rw [e4]; exact below_size HB.out); have B4 := Aside0.mk hx; have n0_ := Aside0.mk (blk_below B2.out hb); have n1_ := Aside0.mk (below_step HB.out hb); clear B2 HB; have B2 := n0_; have HB := n1_; clear n0_ n1_; clear hx hb e4; have c21 : w4.cell? ⟨g2, 1, none⟩ = some (.slice A1 m.length c1) := (blk_cell B2.out 1).trans rfl) | (go_at_call 132; refine (slices_Clone_string_string.calls A1 c1 m m _ (Kd.C_below HR1.out HB.out) hc1 (by unfold slices_Clone_string_string.f; rw [if_pos (by omega)])).mono ?_; rintro e w5 ⟨v1, rfl, ho, hb⟩; obtain ⟨Ao, co, eo⟩ := Kd.R_slice ho; subst eo; have HO1 := Aside0.mk (Kd.R_lower ho (below_size HB.out)); have n0_ := Aside0.mk (blk_below B2.out hb); have n1_ := Aside0.mk (blk_below B4.out hb); have n2_ := Aside0.mk (below_step HB.out hb); clear B2 B4 HB; have B2 := n0_; have B4 := n1_; have HB := n2_; clear n0_ n1_ n2_; clear ho hb c21) | ((with_reducible refine gate_dst (N := 16) rfl ?_); refine Kd.R_lit (Kd.int .i64) _ 3 ?hg (N := 16) ?hd (xs := []) (inner := []) (ok := fun _ => True) (okp := fun _ => True) ?hr ?hp (fun _ hk => hk) trivial (Below.refl _ _) (Nat.le_refl _) (by simp) ?_; (case hd => rfl); (case hg => rfl); (case hr => first | (go_simp; done) | (go_simp; rfl)); (case hp => exact (Reps.none _ _)); intro v7 w6 ho hb hg_ hn_; clear hg_ hn_; have HO7 := Aside0.mk (Kd.R_lower ho (below_size HB.out)); have n0_ := Aside0.mk (Kd.R_below HO1.out hb); have n1_ := Aside0.mk (blk_below B2.out hb); have n2_ := Aside0.mk (blk_below B4.out hb); have n3_ := Aside0.mk (below_step HB.out hb); clear HO1 B2 B4 HB; have HO1 := n0_; have B2 := n1_; have B4 := n2_; have HB := n3_; clear n0_ n1_ n2_ n3_; clear ho hb) | ((with_reducible refine gate_dst (N := 6) rfl ?_); refine box_event ?hg (N := 6) ?hd (cs := #[.slice none 0 0, .slice none 0 0]) (t := 49) ?hr ?_; (case hd => rfl); (case hg => rfl); (case hr => first | (go_simp; done) | (go_simp; rfl)); intro g6 e6 w7 hx hb; have H26 := Aside0.mk (show g2 ≠ g6 by rw [e6]; exact Nat.ne_of_lt (blk_lt B2.out)); have H46 := Aside0.mk (show g4 ≠ g6 by rw [e6]; exact Nat.ne_of_lt (blk_lt B4.out)); have G6 := Aside0.mk (show w.heap.size ≤ g6 by rw [e6]; exact below_size HB.out); have B6 := Aside0.mk hx; have n0_ := Aside0.mk (Kd.R_below HO1.out hb); have n1_ := Aside0.mk (Kd.R_below HO7.out hb); have n2_ := Aside0.mk (blk_below B2.out hb); have n3_ := Aside0.mk (blk_below B4.out hb); have n4_ := Aside0.mk (below_step HB.out hb); clear HO1 HO7 B2 B4 HB; have HO1 := n0_; have HO7 := n1_; have B2 := n2_; have B4 := n3_; have HB := n4_; clear n0_ n1_ n2_ n3_ n4_; clear hx hb e6; have c60 : w7.cell? ⟨g6, 0, none⟩ = some (.slice none 0 0) := (blk_cell B6.out 0).trans rfl; have c61 : w7.cell? ⟨g6, 1, none⟩ = some (.slice none 0 0) := (blk_cell B6.out 1).trans rfl; have f60 := blk_frozen B6.out 0; have f61 := blk_frozen B6.out 1; have h26 := H26.out; have h26' := H26.out.symm; have c20 : w7.cell? ⟨g2, 0, none⟩ = some (.slice A l.length c) := (blk_cell B2.out 0).trans rfl))
  clear c60 c61 f60 f61 h26 h26' c20
  go_loopw [7, 20] (fun v7 i W => ∃ (n d : Nat) (ids : List Int) (its : List S64) (v0 : Value), n + d = l.length ∧ i = .int .i64 (n : Int) ∧ impl_Queue_missed.keepL g l d n ids its = impl_Queue_missed.keepL g l l.length 0 [] [] ∧ its.length ≤ n ∧ ids.length ≤ n ∧ impl_Queue_missed.KF w g2 g4 g6 (.slice A l.length c) (.slice A1 m.length c1) v0 (.slice Ao m.length co) v7 its m ids W) (fun _ i _ => l.length - (intOf i).toNat)
  case atStart =>
    have b6 := blk_put (cs' := #[.slice none 0 0, .slice none 0 0]) B6.out 0 (.slice none 0 0) rfl
    exact ⟨0, l.length, [], [], .slice none 0 0, by omega, rfl, rfl, Nat.le_refl _, Nat.le_refl _, ⟨blk_far (blk_far B2.out H26.out _) H26.out _, blk_far (blk_far B4.out H46.out _) H46.out _, blk_put b6 1 _ rfl, Kd.R_nil _ _ _ _ _, Kd.R_set (Kd.R_set HO1.out B6.out (by decide) 0 _) b6 (by decide) 1 _, Kd.R_set (Kd.R_set HO7.out B6.out (by decide) 0 _) b6 (by decide) 1 _, below_set (below_set HB.out G6.out) G6.out⟩⟩
  case round =>
    obtain ⟨n, d, ids, its, v0, hd, rfl, hk, l1, l2, KK⟩ := hrel
    have HK := Aside0.mk hk
    clear hk
    obtain ⟨A0, c0, e0⟩ := Kd.R_slice KK.r0
    subst e0
    have h26 := H26.out
    have h46 := H46.out
    have h64 := H46.out.symm
    have h62 := H26.out.symm
    have h24 := H24.out
    have h42 := H24.out.symm
    cases d with
    | zero =>
      have hn : l.length ≤ n := by omega
      have hdec : decide ((n : Int) < (l.length : Int)) = false := decide_eq_false (by omega)
      have c60 := (blk_cell KK.b6 0).trans rfl
      have c61 := (blk_cell KK.b6 1).trans rfl
      have c40 := (blk_cell KK.b4 0).trans rfl
      have c41 := (blk_cell KK.b4 1).trans rfl
      have f40 := blk_frozen KK.b4 0
      have f41 := blk_frozen KK.b4 1
      go_wp2
      refine bodyPost_ret (results_ct rfl _ _ g4 49 #[.slice A0 its.length c0, .slice Ao m.length co] (0, 0) _ rfl (blk_put (blk_put (cs' := #[.slice A0 its.length c0, .slice none 0 0]) KK.b4 0 _ rfl) 1 _ rfl) Try.underlying49 rfl (by kernel_rfl)) rfl ?_
      have e : (its, ids) = impl_Queue_missed.keepL g l l.length 0 [] [] := HK.out
      rw [← e]
      have b4 := blk_put (cs' := #[.slice A0 its.length c0, .slice none 0 0]) KK.b4 0 (.slice A0 its.length c0) rfl
      exact ⟨_, _, _, rfl, Kd.R_set (Kd.R_set KK.r0 KK.b4 (by decide) 0 _) b4 (by decide) 1 _, Kd.R_set (Kd.R_set KK.r1 KK.b4 (by decide) 0 _) b4 (by decide) 1 _, Kd.R_set (Kd.R_set KK.r7 KK.b4 (by decide) 0 _) b4 (by decide) 1 _, below_set (below_set KK.bl G4.out) G4.out⟩
    | succ d =>
      have p : 0 ≤ (n : Int) := by omega
      have q : (n : Int) < (l.length : Int) := by omega
      have hdec : decide ((n : Int) < (l.length : Int)) = true := decide_eq_true q
      obtain ⟨ad, ea, hx0, hx1, hx2, hx3⟩ := at_T64 (Kd.C_below HR.out KK.bl) (n : Int) p q
      cases ea
      simp only [Int.toNat_natCast] at hx0 hx1 hx2 hx3
      go_wp2_with fail
      clear hx0 hx1 hx2 hx3
      refine (HG.out n (rd_T64 l (n : Int)) _ (by omega) (below_alloc KK.bl _)).mono ?_
      rintro e w2 ⟨rfl, hb⟩
      have B9 := Aside0.mk (blk_below (blk_new wr (.cells #[.int .i64 (rd_T64 l (n : Int)).f0, .int .i64 (rd_T64 l (n : Int)).f1, .int .i64 (rd_T64 l (n : Int)).f2, .string (rd_T64 l (n : Int)).f3] 64)) hb)
      have K2 := (KK.alloc _).below hb
      clear hb KK
      generalize wr.heap.size = g9 at B9 ⊢
      have c90 : w2.cell? ⟨g9, 0, none⟩ = some (.int .i64 (rd_T64 l (n : Int)).f0) := (blk_cell B9.out 0).trans rfl
      have z9 := blk_lt B9.out
      have z6 := blk_lt K2.b6
      have c60 : w2.cell? ⟨g6, 0, none⟩ = some (.slice A0 its.length c0) := (blk_cell K2.b6 0).trans rfl
      have hk := HK.out
      rw [impl_Queue_missed.keepL] at hk
      rcases hgx : g n (rd_T64 l (n : Int)) with ⟨y, b⟩
      rw [hgx] at hk
      have HK' := Aside0.mk hk
      clear hk HK hgx
      cases b with
      | true =>
        go_wp2_with (at_builtin; refine Kd.R_append k64 (w0 := w) w.heap.size rfl (.tmp 34) (.tmp 36) 47 64 (.agg #[(.int .i64 0), (.int .i64 0), (.int .i64 0), (.string ⟨#[]⟩)]) 40 rfl Try.underlying47 info64 rfl (by decide) (by omega) (.slice A0 its.length c0) its y [.int .i64 y.f0, .int .i64 y.f1, .int .i64 y.f2, .string y.f3] (fun _ => True) (fun _ => False) rfl (by first | rfl | (go_simp; done) | (go_simp; rfl)) (k64_mkM _ _ _ y) (fun _ hk => hk.elim) (fun _ _ => trivial) (Kd.R_alloc K2.r0 _) (below_alloc K2.bl _) (below_size (below_alloc K2.bl _)) (by omega) ?_; intro v' w3 ho hb hg hat; obtain ⟨A', c', e'⟩ := Kd.R_slice ho; subst e'; have b6 := blk_grown (K2.alloc _).b6 hg (Kd.R_ne K2.r0 K2.b6 (by decide)); have d60 : w3.cell? ⟨g6, 0, none⟩ = some (.slice A0 its.length c0) := (blk_cell b6 0).trans rfl; have f60 := blk_frozen b6 0; have K3 := Aside0.mk ((K2.alloc _).app0 H26.out H46.out G6.out ho hb hg); clear ho hb hg hat b6 c60 c90)
        go_roundw
        case rel => exact ⟨n + 1, d, ids, its ++ [y], _, by omega, by go_num, by simpa using HK'.out, by rw [List.length_append, List.length_singleton]; omega, by omega, by simpa only [List.length_append, List.length_singleton] using K3.out⟩
        case measure => simp [intOf]; omega
      | false =>
        go_wp2_with (at_builtin; refine Kd.R_append (Kd.int .i64) (w0 := w) w.heap.size rfl (.tmp 39) (.tmp 42) 33 3 (.int .i64 0) 8 rfl Try.underlying33 info3 rfl (by decide) (by omega) u7 ids (rd_T64 l (n : Int)).f0 [.int .i64 (rd_T64 l (n : Int)).f0] (fun _ => True) (fun _ => False) rfl (by first | rfl | (go_simp; done) | (go_simp; rfl)) rfl (fun _ hk => hk.elim) (fun _ _ => trivial) (Kd.R_alloc K2.r7 _) (below_alloc K2.bl _) (below_size (below_alloc K2.bl _)) (by omega) ?_; intro v' w3 ho hb hg hat; have K3 := Aside0.mk ((K2.alloc _).app7 ho hb hg); clear ho hb hg hat)
        go_roundw
        case rel => exact ⟨n + 1, d, ids ++ [(rd_T64 l (n : Int)).f0], its, _, by omega, by go_num, by simpa using HK'.out, by omega, by rw [List.length_append, List.length_singleton]; omega, K3.out⟩
        case measure => simp [intOf]; omega
def impl_Queue_missed.g0 (a1 : Int) (i : Int) (x : S64) : S64 × Bool := if i < a1 then ((⟨x.f0, x.f1, wrap64 (x.f2 + 1), x.f3⟩ : S64), decide (wrap64 (x.f2 + 1) < 4)) else (x, decide (x.f2 < 4))
set_option maxHeartbeats 2000000 in
theorem impl_Queue_missed.closure (i : Int) (a0 : Int) (g0 : Nat) (x : S64) (W : World) (h0 : W.heap[g0]? = some (.cells #[.int .i64 a0] 3 (0, 0))) :
    Calls Try.prog 136 (#[.int .i64 i, impl_Queue_missed.agg x] ++ #[.pointer (some ⟨g0, 0, none⟩)]) W fun e w' => e = .returned (.tuple #[impl_Queue_missed.agg (impl_Queue_missed.g0 a0 i x).1, .bool (impl_Queue_missed.g0 a0 i x).2]) ∧ Below W.heap.size W w' := by
  have huR := Try.underlying64
  have c0 : W.cell? ⟨g0, 0, none⟩ = some (.int .i64 a0) := (blk_cell h0 0).trans rfl
  have z0 := blk_lt h0
  clear h0
  show Calls Try.prog 136 #[.int .i64 i, impl_Queue_missed.agg x, .pointer (some ⟨g0, 0, none⟩)] W _
  unfold impl_Queue_missed.g0
  by_cases hlt : i < a0
  · rw [if_pos hlt]
    have hdec : decide (i < a0) = true := decide_eq_true hlt
    go_enter Try.func136, Try.ntmps136
    go_wp2
    go_region
    go_wp2
    refine bodyPost_ret (v := .tuple #[impl_Queue_missed.agg (⟨x.f0, x.f1, wrap64 (x.f2 + 1), x.f3⟩ : S64), .bool (decide (wrap64 (x.f2 + 1) < 4))]) (by simp [results, Try.results136, go_sem]) rfl ⟨rfl, ?_⟩
    exact below_drew (below_alloc (below_alloc (Below.refl _ _) _) _)
  · rw [if_neg hlt]
    have hdec : decide (i < a0) = false := decide_eq_false hlt
    go_enter Try.func136, Try.ntmps136
    go_wp2
    go_region
    go_wp2
    refine bodyPost_ret (v := .tuple #[impl_Queue_missed.agg x, .bool (decide (x.f2 < 4))]) (by simp [results, Try.results136, go_sem]) rfl ⟨rfl, ?_⟩
    exact below_drew (below_alloc (below_alloc (Below.refl _ _) _) _)
/-- What each report comes to. -/
def impl_Queue_missed.g (a1 : Int) (i : Nat) (x : S64) : S64 × Bool := if (i : Int) < a1 then ((⟨x.f0, x.f1, wrap64 (x.f2 + 1), x.f3⟩ : S64), decide (wrap64 (x.f2 + 1) < 4)) else (x, decide (x.f2 < 4))
def impl_Queue_missed.f (l0_0 : List S64) (l0_1 : List ByteArray) (a1 : Int) : Option (List S64 × List ByteArray × List Int) := if l0_0.length ≤ 1000 ∧ l0_1.length ≤ 1000 then some ((impl_Queue_missed.keepL (impl_Queue_missed.g a1) l0_0 l0_0.length 0 [] []).1, l0_1, (impl_Queue_missed.keepL (impl_Queue_missed.g a1) l0_0 l0_0.length 0 [] []).2) else none
set_option maxHeartbeats 8000000 in
set_option maxRecDepth 100000 in
theorem impl_Queue_missed.calls (A0_0 : Option Addr) (c0_0 : Nat) (l0_0 : List S64) (A0_1 : Option Addr) (c0_1 : Nat) (l0_1 : List ByteArray) (a1 : Int) (r1 : List S64) (r2 : List ByteArray) (r3 : List Int) (w : World) (hr0_0 : Kd.C k64 w A0_0 l0_0.length l0_0) (hc0_0 : l0_0.length ≤ c0_0) (hr0_1 : Kd.C Kd.string w A0_1 l0_1.length l0_1) (hc0_1 : l0_1.length ≤ c0_1) (h : impl_Queue_missed.f l0_0 l0_1 a1 = some (r1, r2, r3)) :
    Calls Try.prog 111 #[.agg #[.slice A0_0 l0_0.length c0_0, .slice A0_1 l0_1.length c0_1], .int .i64 a1] w fun e w' => ∃ v0_ v1_ v2_ : Value, e = .returned (.tuple #[.agg #[v0_, v1_], v2_]) ∧ Kd.R k64 64 w' w.heap.size (fun _ => True) v0_ r1 ∧ Kd.R Kd.string 9 w' w.heap.size (fun _ => True) v1_ r2 ∧ Kd.R (Kd.int .i64) 3 w' w.heap.size (fun _ => True) v2_ r3 ∧ Below w.heap.size w w' := by
  unfold impl_Queue_missed.f at h
  by_cases hs : l0_0.length ≤ 1000 ∧ l0_1.length ≤ 1000
  rotate_left
  · rw [if_neg hs] at h; cases h
  rw [if_pos hs] at h
  simp only [Option.some.injEq, Prod.mk.injEq] at h
  obtain ⟨rfl, rfl, rfl⟩ := h
  have huQ := Try.underlying49
  have hmf : ∀ (fn : Fn) (first cap : Array Value) (w : World), (Instr.makeFunc fn first cap).run Try.prog w = .ok (.func fn first cap) w := fun _ _ _ _ => rfl
  have HR := Aside0.mk hr0_0
  have HR1 := Aside0.mk hr0_1
  clear hr0_0 hr0_1
  go_enter Try.func111, Try.ntmps111
  go_wp2_with (first | ((with_reducible refine gate_dst (N := 2) rfl ?_); refine box_event ?hg (N := 2) ?hd (cs := #[.slice A0_0 l0_0.length c0_0, .slice A0_1 l0_1.length c0_1]) (t := 49) ?hr ?_; (case hd => rfl); (case hg => rfl); (case hr => first | (go_simp; done) | (go_simp; rfl)); intro gq eq w2 hx hb; have BQ := Aside0.mk hx; have HB := Aside0.mk (below_step (Below.refl w.heap.size w) hb); clear hx hb eq) | ((with_reducible refine gate_dst (N := 3) rfl ?_); refine box_event ?hg (N := 3) ?hd (cs := #[.int .i64 a1]) (t := 3) ?hr ?_; (case hd => rfl); (case hg => rfl); (case hr => first | (go_simp; done) | (go_simp; rfl)); intro gc0 ec wc0 hx hb; have BC0 := Aside0.mk hx; have n0_ := Aside0.mk (blk_below BQ.out hb); have n1_ := Aside0.mk (below_step HB.out hb); clear BQ HB; have BQ := n0_; have HB := n1_; clear n0_ n1_; clear hx hb ec) | ((with_reducible refine gate_dst (N := 4) rfl ?_); refine box_event ?hg (N := 4) ?hd (cs := #[.slice none 0 0, .slice none 0 0]) (t := 49) ?hr ?_; (case hd => rfl); (case hg => rfl); (case hr => first | (go_simp; done) | (go_simp; rfl)); intro go eo wo hx hb; have NQ := Aside0.mk (show gq ≠ go by rw [eo]; exact Nat.ne_of_lt (blk_lt BQ.out)); have GO := Aside0.mk (show w.heap.size ≤ go by rw [eo]; exact below_size HB.out); have BO := Aside0.mk hx; have n0_ := Aside0.mk (blk_below BQ.out hb); have n1_ := Aside0.mk (blk_below BC0.out hb); have n2_ := Aside0.mk (below_step HB.out hb); clear BQ BC0 HB; have BQ := n0_; have BC0 := n1_; have HB := n2_; clear n0_ n1_ n2_; clear hx hb eo; have cq0 : wo.cell? ⟨gq, 0, none⟩ = some (.slice A0_0 l0_0.length c0_0) := (blk_cell BQ.out 0).trans rfl; have cq1 : wo.cell? ⟨gq, 1, none⟩ = some (.slice A0_1 l0_1.length c0_1) := (blk_cell BQ.out 1).trans rfl))
  refine (impl_Queue_missed.keep #[.pointer (some ⟨gc0, 0, none⟩)] (impl_Queue_missed.g a1) A0_0 c0_0 l0_0 A0_1 c0_1 l0_1 _ (Kd.C_below HR.out HB.out) hc0_0 (Kd.C_below HR1.out HB.out) hc0_1 hs.1 hs.2 (fun i x W hi hb => impl_Queue_missed.closure (i : Int) a1 _ x W (blk_below BC0.out hb))).mono ?_
  rintro e w5 ⟨v0, v1, v2, rfl, ho0, ho1, ho2, hb⟩
  obtain ⟨Ao0, co0, eo0⟩ := Kd.R_slice ho0
  subst eo0
  obtain ⟨Ao1, co1, eo1⟩ := Kd.R_slice ho1
  subst eo1
  have H0 := Aside0.mk (Kd.R_lower ho0 (below_size HB.out))
  have H1 := Aside0.mk (Kd.R_lower ho1 (below_size HB.out))
  have H2 := Aside0.mk (Kd.R_lower ho2 (below_size HB.out))
  have B5 := Aside0.mk (blk_below BO.out hb)
  have HB5 := Aside0.mk (below_step HB.out hb)
  clear ho0 ho1 ho2 hb cq0 cq1
  have co0_ : w5.cell? ⟨go, 0, none⟩ = some (.slice none 0 0) := (blk_cell B5.out 0).trans rfl
  have co1_ : w5.cell? ⟨go, 1, none⟩ = some (.slice none 0 0) := (blk_cell B5.out 1).trans rfl
  have fo0_ := blk_frozen B5.out 0
  have fo1_ := blk_frozen B5.out 1
  go_wp2
  have b6 := blk_put (cs' := #[.slice Ao0 (impl_Queue_missed.keepL (impl_Queue_missed.g a1) l0_0 l0_0.length 0 [] []).1.length co0, .slice none 0 0]) B5.out 0 (.slice Ao0 (impl_Queue_missed.keepL (impl_Queue_missed.g a1) l0_0 l0_0.length 0 [] []).1.length co0) rfl
  refine bodyPost_ret (results_ct rfl _ _ go 49 #[.slice Ao0 (impl_Queue_missed.keepL (impl_Queue_missed.g a1) l0_0 l0_0.length 0 [] []).1.length co0, .slice Ao1 l0_1.length co1] (0, 0) _ rfl (blk_put b6 1 _ rfl) Try.underlying49 rfl (by kernel_rfl)) rfl ?_
  exact ⟨_, _, _, rfl, Kd.R_set (Kd.R_set H0.out B5.out (by decide) 0 _) b6 (by decide) 1 _, Kd.R_set (Kd.R_set H1.out B5.out (by decide) 0 _) b6 (by decide) 1 _, Kd.R_set (Kd.R_set H2.out B5.out (by decide) 0 _) b6 (by decide) 1 _, below_set (below_set HB5.out GO.out) GO.out⟩

/-! ### impl_Missed: function 50 -/
def impl_Missed.f (k : Nat) (l0_0 : List (S64)) (l0_1 : List ByteArray) (a1 : Int) : Option ((List (S64)) × List ByteArray × List Int × Int) := (impl_countCode.f k l0_0 l0_1 a1).bind fun t280 => (if t280 = 0 then ((impl_Queue_missed.f l0_0 l0_1 a1).bind fun bt281 => (some (bt281.1, bt281.2.1, bt281.2.2, 0))) else (some (([] : List (S64)), ([] : List ByteArray), ([] : List Int), t280)))
theorem impl_Missed.mono : ∀ a0 a1 a2 k, LeO (impl_Missed.f k a0 a1 a2) (impl_Missed.f (k + 1) a0 a1 a2) := by
  intro a0 a1 a2 k
  unfold impl_Missed.f
  repeat' first
      | (with_reducible exact impl_countCode.mono _ _ _ _)
      | (with_reducible exact LeO.refl _)
      | (with_reducible exact LeO.none _)
      | (with_reducible refine LeO.ite ?_ ?_)
      | (with_reducible refine LeO.bind ?_ (fun _ => ?_))
      | exact impl_countCode.mono _ _ _ _
      | exact LeO.none _
      | refine LeO.ite ?_ ?_
      | refine LeO.bind ?_ (fun _ => ?_)
set_option maxHeartbeats 8000000 in
set_option maxRecDepth 100000 in
theorem impl_Missed.calls (k : Nat) (A0_0 : Option Addr) (c0_0 : Nat) (l0_0 : List (S64)) (A0_1 : Option Addr) (c0_1 : Nat) (l0_1 : List ByteArray) (a1 : Int) (r1 : List (S64)) (r2 : List ByteArray) (r3 : List Int) (r4 : Int) (w : World) (hr0_0 : Kd.C k64 w A0_0 l0_0.length l0_0) (hc0_0 : l0_0.length ≤ c0_0) (hr0_1 : Kd.C Kd.string w A0_1 l0_1.length l0_1) (hc0_1 : l0_1.length ≤ c0_1) (h : impl_Missed.f k l0_0 l0_1 a1 = some (r1, r2, r3, r4)) :
    Calls Try.prog 50 #[.agg #[.slice A0_0 l0_0.length c0_0, .slice A0_1 l0_1.length c0_1], .int .i64 a1] w fun e w' => ∃ v0_ v1_ v2_ : Value, e = .returned (.tuple #[.agg #[v0_, v1_], v2_, .int .i64 r4]) ∧ Kd.R k64 64 w' w.heap.size (fun _ => True) v0_ r1 ∧ Kd.R Kd.string 9 w' w.heap.size (fun _ => True) v1_ r2 ∧ Kd.R (Kd.int .i64) 3 w' w.heap.size (fun _ => True) v2_ r3 ∧ Below w.heap.size w w' := by
 have hu49 := Try.underlying49
 have HR0_0 := Aside0.mk hr0_0
 have HC0_0 := Aside0.mk hc0_0
 clear hr0_0 hc0_0
 have HR0_1 := Aside0.mk hr0_1
 have HC0_1 := Aside0.mk hc0_1
 clear hr0_1 hc0_1
 have HB := Aside0.mk (Below.refl w.heap.size w)
 have H : ((impl_countCode.f k l0_0 l0_1 a1).bind fun t280 => (if t280 = 0 then ((impl_Queue_missed.f l0_0 l0_1 a1).bind fun bt281 => (some (bt281.1, bt281.2.1, bt281.2.2, 0))) else (some (([] : List (S64)), ([] : List ByteArray), ([] : List Int), t280)))) = some (r1, r2, r3, r4) := h
 clear h
 obtain ⟨t280, A3, H⟩ := bindE_ H
 by_cases c4 : t280 = 0
 ·
  rw [if_pos c4] at H
  have c4b0 : (t280 == 0) = true := beq_iff_eq.mpr c4
  have c4b1 : (t280 != 0) = false := bne_eq_false_iff_eq.mpr c4
  clear c4
  replace H := Option.bind_eq_some_iff.mp H
  obtain ⟨⟨t281, t284, t287⟩, A50, H⟩ := H
  replace H : (some (t281, t284, t287, 0)) = some (r1, r2, r3, r4) := H
  have A5 := Aside0.mk A50
  clear A50
  simp only [Option.some.injEq, Prod.mk.injEq] at H
  obtain ⟨rfl, rfl, rfl, rfl⟩ := H
  go_enter Try.func50, Try.ntmps50
  go_wp2_with (first | ((with_reducible refine gate_dst (N := 2) rfl ?_); refine box_event ?hg (N := 2) ?hd (cs := #[.slice A0_0 l0_0.length c0_0, .slice A0_1 l0_1.length c0_1]) (t := 49) ?hr ?_; (case hd => rfl); (case hg => rfl); (case hr => first | (go_simp; done) | (go_simp; rfl)); intro gb278 hg w6 hbox hb; have n0_ := belB_ hb; have n1_ := Aside0.mk (hbox); have n2_ := Aside0.mk ((by rw [hg]; exact (below_size (by repeat (first | (with_reducible first | exact HB.out | apply below_alloc | apply pw_below_drewN | apply below_drew1) | exact HB.out))) : w.heap.size ≤ gb278)); have n3_ := Aside0.mk ((by rw [hg]; exact (below_size (by repeat (first | (with_reducible first | exact HB.out | apply below_alloc | apply pw_below_drewN | apply below_drew1) | exact HB.out))) : w.heap.size ≤ gb278)); clear HB; have HB := n0_; have BK278 := n1_; have GW278 := n2_; have GE278 := n3_; clear n0_ n1_ n2_ n3_; clear hb hbox hg) | ((with_reducible refine gate_dst (N := 4) rfl ?_); refine box_event ?hg (N := 4) ?hd (cs := #[.slice none 0 0, .slice none 0 0]) (t := 49) ?hr ?_; (case hd => rfl); (case hg => rfl); (case hr => first | (go_simp; done) | (go_simp; rfl)); intro gb279 hg w7 hbox hb; have n0_ := blkB_ (g := gb278) (o := .cells #[.slice A0_0 l0_0.length c0_0, .slice A0_1 l0_1.length c0_1] 49 (0, 0)) hb; have n1_ := belB_ hb; have n2_ := Aside0.mk (hbox); have n3_ := Aside0.mk ((by rw [hg]; exact (below_size (by repeat (first | (with_reducible first | exact HB.out | apply below_alloc | apply pw_below_drewN | apply below_drew1 | refine below_set ?_ GE278.out) | exact HB.out))) : w.heap.size ≤ gb279)); have n4_ := Aside0.mk ((by rw [hg]; exact (below_size (by repeat (first | (with_reducible first | exact HB.out | apply below_alloc | apply pw_below_drewN | apply below_drew1 | refine below_set ?_ GE278.out) | exact HB.out))) : w.heap.size ≤ gb279)); have n5_ := Aside0.mk ((by rw [hg]; exact Nat.ne_of_lt (blk_lt (g := gb278) (o := .cells #[.slice A0_0 l0_0.length c0_0, .slice A0_1 l0_1.length c0_1] 49 (0, 0)) (by (with_reducible repeat (first | refine blk_drewN ?_ _ | refine blk_drew ?_ | refine blk_alloc ?_ _)); exact BK278.out)) : gb278 ≠ gb279)); have n6_ := Aside0.mk ((by rw [hg]; exact Nat.ne_of_gt (blk_lt (g := gb278) (o := .cells #[.slice A0_0 l0_0.length c0_0, .slice A0_1 l0_1.length c0_1] 49 (0, 0)) (by (with_reducible repeat (first | refine blk_drewN ?_ _ | refine blk_drew ?_ | refine blk_alloc ?_ _)); exact BK278.out)) : gb279 ≠ gb278)); clear BK278; clear HB; have BK278 := n0_; have HB := n1_; have BK279 := n2_; have GW279 := n3_; have GE279 := n4_; have NB278_279 := n5_; have NB279_278 := n6_; clear n0_ n1_ n2_ n3_ n4_ n5_ n6_; clear hb hbox hg; have hnb8 := NB278_279.out; have hnc8 := NB279_278.out; obtain ⟨hcz9_0, hcz9_1, hfz9_0, hfz9_1⟩ := cz2_ BK278) | ((with_reducible refine gate_callee (f := 108) rfl ?_); refine cU_ (some 12) Try.func108 #[.agg #[.slice A0_0 l0_0.length c0_0, .slice A0_1 l0_1.length c0_1], .int .i64 a1] ?_; (with_reducible refine (impl_countCode.calls k _ _ l0_0 _ _ l0_1 a1 t280 _ ?side1 ?side2 ?side3 ?side4 A3.out).mono ?_); (case side1 => repeat (first | exact (Kd.C_below HR0_0.out HB.out) | (with_reducible refine Kd.C_alloc ?_ _) | (with_reducible refine Kd.C_drewN ?_ _) | (with_reducible refine Kd.C_drew ?_))); (case side2 => exact HC0_0.out); (case side3 => repeat (first | exact (Kd.C_below HR0_1.out HB.out) | (with_reducible refine Kd.C_alloc ?_ _) | (with_reducible refine Kd.C_drewN ?_ _) | (with_reducible refine Kd.C_drew ?_))); (case side4 => exact HC0_1.out); rintro e w10 ⟨rfl, hb⟩; refine ⟨_, rfl, ?_⟩; have n0_ := blkB_ (g := gb278) (o := .cells #[.slice A0_0 l0_0.length c0_0, .slice A0_1 l0_1.length c0_1] 49 (0, 0)) hb; have n1_ := blkB_ (g := gb279) (o := .cells #[.slice none 0 0, .slice none 0 0] 49 (0, 0)) hb; have n2_ := Aside0.mk (below_step (by repeat (first | (with_reducible first | exact HB.out | apply below_alloc | apply pw_below_drewN | apply below_drew1 | refine below_set ?_ GE278.out | refine below_set ?_ GE279.out) | exact HB.out)) hb); clear BK278; clear BK279; clear HB; have BK278 := n0_; have BK279 := n1_; have HB := n2_; clear n0_ n1_ n2_; (try clear hb); (try clear hb2); (try clear hk); (try clear hi); obtain ⟨hcz11_0, hcz11_1, hfz11_0, hfz11_1⟩ := cz2_ BK278) | ((with_reducible refine gate_callee (f := 111) rfl ?_); refine cU_ (some 20) Try.func111 #[.agg #[.slice A0_0 l0_0.length c0_0, .slice A0_1 l0_1.length c0_1], .int .i64 a1] ?_; (with_reducible refine (impl_Queue_missed.calls _ _ l0_0 _ _ l0_1 a1 t281 t284 t287 _ ?side1 ?side2 ?side3 ?side4 A5.out).mono ?_); (case side1 => repeat (first | exact (Kd.C_below HR0_0.out HB.out) | (with_reducible refine Kd.C_alloc ?_ _) | (with_reducible refine Kd.C_drewN ?_ _) | (with_reducible refine Kd.C_drew ?_))); (case side2 => exact HC0_0.out); (case side3 => repeat (first | exact (Kd.C_below HR0_1.out HB.out) | (with_reducible refine Kd.C_alloc ?_ _) | (with_reducible refine Kd.C_drewN ?_ _) | (with_reducible refine Kd.C_drew ?_))); (case side4 => exact HC0_1.out); rintro e w12 ⟨v282, v285, v288, rfl, ho0, ho1, ho2, hb⟩; refine ⟨_, rfl, ?_⟩; have n0_ := Aside0.mk (Kd.R_lower ho0 (below_size (by repeat (first | (with_reducible first | exact HB.out | apply below_alloc | apply pw_below_drewN | apply below_drew1 | refine below_set ?_ GE278.out | refine below_set ?_ GE279.out) | exact HB.out)))); have n1_ := Aside0.mk (Kd.R_lower ho1 (below_size (by repeat (first | (with_reducible first | exact HB.out | apply below_alloc | apply pw_below_drewN | apply below_drew1 | refine below_set ?_ GE278.out | refine below_set ?_ GE279.out) | exact HB.out)))); have n2_ := Aside0.mk (Kd.R_lower ho2 (below_size (by repeat (first | (with_reducible first | exact HB.out | apply below_alloc | apply pw_below_drewN | apply below_drew1 | refine below_set ?_ GE278.out | refine below_set ?_ GE279.out) | exact HB.out)))); have n3_ := blkB_ (g := gb278) (o := .cells #[.slice A0_0 l0_0.length c0_0, .slice A0_1 l0_1.length c0_1] 49 (0, 0)) hb; have n4_ := blkB_ (g := gb279) (o := .cells #[.slice none 0 0, .slice none 0 0] 49 (0, 0)) hb; have n5_ := Aside0.mk (below_step (by repeat (first | (with_reducible first | exact HB.out | apply below_alloc | apply pw_below_drewN | apply below_drew1 | refine below_set ?_ GE278.out | refine below_set ?_ GE279.out) | exact HB.out)) hb); clear BK278; clear BK279; clear HB; have HO283 := n0_; have HO286 := n1_; have HO289 := n2_; have BK278 := n3_; have BK279 := n4_; have HB := n5_; clear n0_ n1_ n2_ n3_ n4_ n5_; (try clear hb); (try clear hb2); (try clear hk); (try clear hi); (try clear ho0); (try clear ho1); (try clear ho2)) | ((with_reducible refine gate_dst (N := 8) rfl ?_); refine box_event ?hg (N := 8) ?hd (cs := #[.slice none 0 0, .slice none 0 0]) (t := 49) ?hr ?_; (case hd => rfl); (case hg => rfl); (case hr => first | (go_simp; done) | (go_simp; rfl)); intro gb290 hg w13 hbox hb; have n0_ := Aside0.mk (Kd.R_below (by (with_reducible repeat (first | apply Kd.R_alloc | apply Kd.R_drewN | apply Kd.R_drew)); exact HO283.out) hb); have n1_ := Aside0.mk (Kd.R_below (by (with_reducible repeat (first | apply Kd.R_alloc | apply Kd.R_drewN | apply Kd.R_drew)); exact HO286.out) hb); have n2_ := Aside0.mk (Kd.R_below (by (with_reducible repeat (first | apply Kd.R_alloc | apply Kd.R_drewN | apply Kd.R_drew)); exact HO289.out) hb); have n3_ := blkB_ (g := gb278) (o := .cells #[.slice A0_0 l0_0.length c0_0, .slice A0_1 l0_1.length c0_1] 49 (0, 0)) hb; have n4_ := blkB_ (g := gb279) (o := .cells #[.slice none 0 0, .slice none 0 0] 49 (0, 0)) hb; have n5_ := Aside0.mk (below_step (by repeat (first | (with_reducible first | exact HB.out | apply below_alloc | apply pw_below_drewN | apply below_drew1 | refine below_set ?_ GE278.out | refine below_set ?_ GE279.out) | exact HB.out)) hb); have n6_ := Aside0.mk (hbox); have n7_ := Aside0.mk ((by rw [hg]; exact (below_size (by repeat (first | (with_reducible first | exact HB.out | apply below_alloc | apply pw_below_drewN | apply below_drew1 | refine below_set ?_ GE278.out | refine below_set ?_ GE279.out) | exact HB.out))) : w.heap.size ≤ gb290)); have n8_ := Aside0.mk ((by rw [hg]; exact (below_size (by repeat (first | (with_reducible first | exact HB.out | apply below_alloc | apply pw_below_drewN | apply below_drew1 | refine below_set ?_ GE278.out | refine below_set ?_ GE279.out) | exact HB.out))) : w.heap.size ≤ gb290)); have n9_ := Aside0.mk ((by rw [hg]; exact Nat.ne_of_lt (blk_lt (g := gb278) (o := .cells #[.slice A0_0 l0_0.length c0_0, .slice A0_1 l0_1.length c0_1] 49 (0, 0)) (by (with_reducible repeat (first | refine blk_drewN ?_ _ | refine blk_drew ?_ | refine blk_alloc ?_ _)); exact BK278.out)) : gb278 ≠ gb290)); have n10_ := Aside0.mk ((by rw [hg]; exact Nat.ne_of_gt (blk_lt (g := gb278) (o := .cells #[.slice A0_0 l0_0.length c0_0, .slice A0_1 l0_1.length c0_1] 49 (0, 0)) (by (with_reducible repeat (first | refine blk_drewN ?_ _ | refine blk_drew ?_ | refine blk_alloc ?_ _)); exact BK278.out)) : gb290 ≠ gb278)); have n11_ := Aside0.mk ((by rw [hg]; exact Nat.ne_of_lt (blk_lt (g := gb279) (o := .cells #[.slice none 0 0, .slice none 0 0] 49 (0, 0)) (by (with_reducible repeat (first | refine blk_drewN ?_ _ | refine blk_drew ?_ | refine blk_alloc ?_ _)); exact BK279.out)) : gb279 ≠ gb290)); have n12_ := Aside0.mk ((by rw [hg]; exact Nat.ne_of_gt (blk_lt (g := gb279) (o := .cells #[.slice none 0 0, .slice none 0 0] 49 (0, 0)) (by (with_reducible repeat (first | refine blk_drewN ?_ _ | refine blk_drew ?_ | refine blk_alloc ?_ _)); exact BK279.out)) : gb290 ≠ gb279)); clear HO283; clear HO286; clear HO289; clear BK278; clear BK279; clear HB; have HO283 := n0_; have HO286 := n1_; have HO289 := n2_; have BK278 := n3_; have BK279 := n4_; have HB := n5_; have BK290 := n6_; have GW290 := n7_; have GE290 := n8_; have NB278_290 := n9_; have NB290_278 := n10_; have NB279_290 := n11_; have NB290_279 := n12_; clear n0_ n1_ n2_ n3_ n4_ n5_ n6_ n7_ n8_ n9_ n10_ n11_ n12_; clear hb hbox hg; obtain ⟨Ao14, co14, eo14⟩ := Kd.R_slice HO283.out; subst eo14; have hnb15 := NB290_278.out; have hnc15 := NB278_290.out; have hnb16 := NB290_279.out; have hnc16 := NB279_290.out; obtain ⟨hcz17_0, hcz17_1, hfz17_0, hfz17_1⟩ := cz2_ BK290; obtain ⟨Ao18, co18, eo18⟩ := Kd.R_slice HO286.out; subst eo18; obtain ⟨hcz19_0, hcz19_1, hfz19_0, hfz19_1⟩ := cz2_ BK279))
  refine bodyPost_ret (results_ctt rfl _ _ gb279 49 #[.slice Ao14 t281.length co14, .slice Ao18 t284.length co18] (0, 0) _ rfl (by (with_reducible repeat (first | refine blk_drewN ?_ _ | refine blk_drew ?_ | refine blk_alloc ?_ _)); refine blk_put (cs := #[.slice Ao14 t281.length co14, .slice none 0 0]) ?_ 1 _ rfl; (with_reducible repeat (first | refine blk_drewN ?_ _ | refine blk_drew ?_ | refine blk_alloc ?_ _)); refine blk_put (cs := #[.slice none 0 0, .slice none 0 0]) ?_ 0 _ rfl; (with_reducible repeat (first | refine blk_drewN ?_ _ | refine blk_drew ?_ | refine blk_alloc ?_ _)); refine blk_far ?_ NB279_290.out _; (with_reducible repeat (first | refine blk_drewN ?_ _ | refine blk_drew ?_ | refine blk_alloc ?_ _)); refine blk_far ?_ NB279_290.out _; (with_reducible repeat (first | refine blk_drewN ?_ _ | refine blk_drew ?_ | refine blk_alloc ?_ _)); exact BK279.out) Try.underlying49 rfl (by kernel_rfl)) rfl ?_
  exact ⟨_, _, _, by first | rfl | (simp [errW_none, errW_some] <;> rfl) | (simp [*, errW_none, errW_some] <;> rfl), by (with_reducible repeat (first | apply Kd.R_alloc | apply Kd.R_drewN | apply Kd.R_drew)); exact Kd.R_mono (Kd.R_far (p := ⟨gb279, 1, none⟩) (Kd.R_far (p := ⟨gb279, 0, none⟩) (Kd.R_far (p := ⟨gb290, 1, none⟩) (Kd.R_far (p := ⟨gb290, 0, none⟩) (Kd.R_types (Kd.R_types HO283.out BK290.out (by decide)) BK279.out (by decide)) (fun _ hk => hk.1.2) (.slice Ao14 t281.length co14)) (fun _ hk => hk.1.2) (.slice Ao18 t284.length co18)) (fun _ hk => hk.2) (.slice Ao14 t281.length co14)) (fun _ hk => hk.2) (.slice Ao18 t284.length co18)) (fun _ hk => trivial), by (with_reducible repeat (first | apply Kd.R_alloc | apply Kd.R_drewN | apply Kd.R_drew)); exact Kd.R_mono (Kd.R_far (p := ⟨gb279, 1, none⟩) (Kd.R_far (p := ⟨gb279, 0, none⟩) (Kd.R_far (p := ⟨gb290, 1, none⟩) (Kd.R_far (p := ⟨gb290, 0, none⟩) (Kd.R_types (Kd.R_types HO286.out BK290.out (by decide)) BK279.out (by decide)) (fun _ hk => hk.1.2) (.slice Ao14 t281.length co14)) (fun _ hk => hk.1.2) (.slice Ao18 t284.length co18)) (fun _ hk => hk.2) (.slice Ao14 t281.length co14)) (fun _ hk => hk.2) (.slice Ao18 t284.length co18)) (fun _ hk => trivial), by (with_reducible repeat (first | apply Kd.R_alloc | apply Kd.R_drewN | apply Kd.R_drew)); exact Kd.R_mono (Kd.R_far (p := ⟨gb279, 1, none⟩) (Kd.R_far (p := ⟨gb279, 0, none⟩) (Kd.R_far (p := ⟨gb290, 1, none⟩) (Kd.R_far (p := ⟨gb290, 0, none⟩) (Kd.R_types (Kd.R_types HO289.out BK290.out (by decide)) BK279.out (by decide)) (fun _ hk => hk.1.2) (.slice Ao14 t281.length co14)) (fun _ hk => hk.1.2) (.slice Ao18 t284.length co18)) (fun _ hk => hk.2) (.slice Ao14 t281.length co14)) (fun _ hk => hk.2) (.slice Ao18 t284.length co18)) (fun _ hk => trivial), by repeat (first | (with_reducible first | exact HB.out | apply below_alloc | apply pw_below_drewN | apply below_drew1 | refine below_set ?_ GE278.out | refine below_set ?_ GE279.out | refine below_set ?_ GE290.out) | exact HB.out)⟩
 ·
  rw [if_neg c4] at H
  have c4b0 : (t280 == 0) = false := beq_eq_false_iff_ne.mpr c4
  have c4b1 : (t280 != 0) = true := bne_iff_ne.mpr c4
  simp only [Option.some.injEq, Prod.mk.injEq] at H
  obtain ⟨rfl, rfl, rfl, rfl⟩ := H
  go_enter Try.func50, Try.ntmps50
  go_wp2_with (first | ((with_reducible refine gate_dst (N := 2) rfl ?_); refine box_event ?hg (N := 2) ?hd (cs := #[.slice A0_0 l0_0.length c0_0, .slice A0_1 l0_1.length c0_1]) (t := 49) ?hr ?_; (case hd => rfl); (case hg => rfl); (case hr => first | (go_simp; done) | (go_simp; rfl)); intro gb278 hg w20 hbox hb; have n0_ := belB_ hb; have n1_ := Aside0.mk (hbox); have n2_ := Aside0.mk ((by rw [hg]; exact (below_size (by repeat (first | (with_reducible first | exact HB.out | apply below_alloc | apply pw_below_drewN | apply below_drew1) | exact HB.out))) : w.heap.size ≤ gb278)); have n3_ := Aside0.mk ((by rw [hg]; exact (below_size (by repeat (first | (with_reducible first | exact HB.out | apply below_alloc | apply pw_below_drewN | apply below_drew1) | exact HB.out))) : w.heap.size ≤ gb278)); clear HB; have HB := n0_; have BK278 := n1_; have GW278 := n2_; have GE278 := n3_; clear n0_ n1_ n2_ n3_; clear hb hbox hg) | ((with_reducible refine gate_dst (N := 4) rfl ?_); refine box_event ?hg (N := 4) ?hd (cs := #[.slice none 0 0, .slice none 0 0]) (t := 49) ?hr ?_; (case hd => rfl); (case hg => rfl); (case hr => first | (go_simp; done) | (go_simp; rfl)); intro gb279 hg w21 hbox hb; have n0_ := blkB_ (g := gb278) (o := .cells #[.slice A0_0 l0_0.length c0_0, .slice A0_1 l0_1.length c0_1] 49 (0, 0)) hb; have n1_ := belB_ hb; have n2_ := Aside0.mk (hbox); have n3_ := Aside0.mk ((by rw [hg]; exact (below_size (by repeat (first | (with_reducible first | exact HB.out | apply below_alloc | apply pw_below_drewN | apply below_drew1 | refine below_set ?_ GE278.out) | exact HB.out))) : w.heap.size ≤ gb279)); have n4_ := Aside0.mk ((by rw [hg]; exact (below_size (by repeat (first | (with_reducible first | exact HB.out | apply below_alloc | apply pw_below_drewN | apply below_drew1 | refine below_set ?_ GE278.out) | exact HB.out))) : w.heap.size ≤ gb279)); have n5_ := Aside0.mk ((by rw [hg]; exact Nat.ne_of_lt (blk_lt (g := gb278) (o := .cells #[.slice A0_0 l0_0.length c0_0, .slice A0_1 l0_1.length c0_1] 49 (0, 0)) (by (with_reducible repeat (first | refine blk_drewN ?_ _ | refine blk_drew ?_ | refine blk_alloc ?_ _)); exact BK278.out)) : gb278 ≠ gb279)); have n6_ := Aside0.mk ((by rw [hg]; exact Nat.ne_of_gt (blk_lt (g := gb278) (o := .cells #[.slice A0_0 l0_0.length c0_0, .slice A0_1 l0_1.length c0_1] 49 (0, 0)) (by (with_reducible repeat (first | refine blk_drewN ?_ _ | refine blk_drew ?_ | refine blk_alloc ?_ _)); exact BK278.out)) : gb279 ≠ gb278)); clear BK278; clear HB; have BK278 := n0_; have HB := n1_; have BK279 := n2_; have GW279 := n3_; have GE279 := n4_; have NB278_279 := n5_; have NB279_278 := n6_; clear n0_ n1_ n2_ n3_ n4_ n5_ n6_; clear hb hbox hg; have hnb22 := NB278_279.out; have hnc22 := NB279_278.out; obtain ⟨hcz23_0, hcz23_1, hfz23_0, hfz23_1⟩ := cz2_ BK278) | ((with_reducible refine gate_callee (f := 108) rfl ?_); refine cU_ (some 12) Try.func108 #[.agg #[.slice A0_0 l0_0.length c0_0, .slice A0_1 l0_1.length c0_1], .int .i64 a1] ?_; (with_reducible refine (impl_countCode.calls k _ _ l0_0 _ _ l0_1 a1 t280 _ ?side1 ?side2 ?side3 ?side4 A3.out).mono ?_); (case side1 => repeat (first | exact (Kd.C_below HR0_0.out HB.out) | (with_reducible refine Kd.C_alloc ?_ _) | (with_reducible refine Kd.C_drewN ?_ _) | (with_reducible refine Kd.C_drew ?_))); (case side2 => exact HC0_0.out); (case side3 => repeat (first | exact (Kd.C_below HR0_1.out HB.out) | (with_reducible refine Kd.C_alloc ?_ _) | (with_reducible refine Kd.C_drewN ?_ _) | (with_reducible refine Kd.C_drew ?_))); (case side4 => exact HC0_1.out); rintro e w24 ⟨rfl, hb⟩; refine ⟨_, rfl, ?_⟩; have n0_ := blkB_ (g := gb278) (o := .cells #[.slice A0_0 l0_0.length c0_0, .slice A0_1 l0_1.length c0_1] 49 (0, 0)) hb; have n1_ := blkB_ (g := gb279) (o := .cells #[.slice none 0 0, .slice none 0 0] 49 (0, 0)) hb; have n2_ := Aside0.mk (below_step (by repeat (first | (with_reducible first | exact HB.out | apply below_alloc | apply pw_below_drewN | apply below_drew1 | refine below_set ?_ GE278.out | refine below_set ?_ GE279.out) | exact HB.out)) hb); clear BK278; clear BK279; clear HB; have BK278 := n0_; have BK279 := n1_; have HB := n2_; clear n0_ n1_ n2_; (try clear hb); (try clear hb2); (try clear hk); (try clear hi); obtain ⟨hcz25_0, hcz25_1, hfz25_0, hfz25_1⟩ := cz2_ BK279))
  refine bodyPost_ret (results_ctt rfl _ _ gb279 49 #[.slice none 0 0, .slice none 0 0] (0, 0) _ rfl (by (with_reducible repeat (first | refine blk_drewN ?_ _ | refine blk_drew ?_ | refine blk_alloc ?_ _)); refine blk_put (cs := #[.slice none 0 0, .slice none 0 0]) ?_ 1 _ rfl; (with_reducible repeat (first | refine blk_drewN ?_ _ | refine blk_drew ?_ | refine blk_alloc ?_ _)); refine blk_put (cs := #[.slice none 0 0, .slice none 0 0]) ?_ 0 _ rfl; (with_reducible repeat (first | refine blk_drewN ?_ _ | refine blk_drew ?_ | refine blk_alloc ?_ _)); exact BK279.out) Try.underlying49 rfl (by kernel_rfl)) rfl ?_
  exact ⟨_, _, _, by first | rfl | (simp [errW_none, errW_some] <;> rfl) | (simp [*, errW_none, errW_some] <;> rfl), by first | exact Kd.R_nil _ _ _ _ _ | exact Kd.N_nil _ _ _ _ _ | exact Kd.V_nil _ _ _ _ _ | exact Kd.Q_nil _ _ _ _ _ | exact Kd.S_nil _ _ _ _ _, by first | exact Kd.R_nil _ _ _ _ _ | exact Kd.N_nil _ _ _ _ _ | exact Kd.V_nil _ _ _ _ _ | exact Kd.Q_nil _ _ _ _ _ | exact Kd.S_nil _ _ _ _ _, by first | exact Kd.R_nil _ _ _ _ _ | exact Kd.N_nil _ _ _ _ _ | exact Kd.V_nil _ _ _ _ _ | exact Kd.Q_nil _ _ _ _ _ | exact Kd.S_nil _ _ _ _ _, by repeat (first | (with_reducible first | exact HB.out | apply below_alloc | apply pw_below_drewN | apply below_drew1 | refine below_set ?_ GE278.out | refine below_set ?_ GE279.out) | exact HB.out)⟩

end Go.Proofs.Ytmfnaaeglfhnmaa.QFnExactMissed
