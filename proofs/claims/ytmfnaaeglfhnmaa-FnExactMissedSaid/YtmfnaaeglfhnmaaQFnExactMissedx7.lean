/- A tool of this session wrote this text out of the translation: functions as plain Lean, and proofs that the machine's calls come to their answers. -/
import Derived.Test.YtmfnaaeglfhnmaaQShort
import Derived.Test.YtmfnaaeglfhnmaaQFnExactMissedx0
import Derived.Test.YtmfnaaeglfhnmaaQFnExactMissedx4
import Derived.Test.YtmfnaaeglfhnmaaQFnExactMissedx6
namespace Go.Proofs.Ytmfnaaeglfhnmaa.QFnExactMissed
open Go.RowKit Go.Proofs.YtmfnaaeglfhnmaaW.PrintWords Go.Proofs.YtmfnaaeglfhnmaaW.PrintLast Go.Proofs.YtmfnaaeglfhnmaaW.PrintMore
open Go.Proofs.Ytmfnaaeglfhnmaa.Short
attribute [local go_sem] max2_int min2_int max_two min_two max_three min_three max_four min_four   -- for this text's walks alone
set_option linter.unusedVariables false
set_option linter.unusedSimpArgs false

/-! ### spec_l06Ask: function 106, by hand -/
/-- The oldest reports, as many as go at once: a cut of what came in. -/
theorem spec_l06Ask.batch (A : Option Addr) (n c : Nat) (hn : n ≤ 1048576) (hc : n ≤ c) (A1 : Option Addr) (n1 c1 : Nat) (w : World) :
    Calls Try.prog 90 #[.agg #[.slice A n c, .slice A1 n1 c1]] w fun e w' => e = .returned (.slice A (if n ≤ 3 then n else 3) c) ∧ Below w.heap.size w w' := by
  have huQ := Try.underlying49
  by_cases h : n ≤ 3
  · rw [if_pos h]
    have h1 : (n : Int) ≤ 3 := by omega
    have h2 : decide ((3 : Int) < (n : Int)) = false := decide_eq_false (by omega)
    have hmin : (if (n : Int) < 3 then (n : Int) else 3) = (n : Int) := by split <;> omega
    go_enter Try.func90, Try.ntmps90
    go_wp2
    go_ret
    exact ⟨rfl, below_alloc (Below.refl _ _) _⟩
  · rw [if_neg h]
    have h1 : (3 : Int) < (n : Int) := by omega
    have h2 : decide ((3 : Int) < (n : Int)) = true := decide_eq_true h1
    have h3 : 3 ≤ c := by omega
    have hmin : (if (n : Int) < 3 then (n : Int) else 3) = 3 := by split <;> omega
    go_enter Try.func90, Try.ntmps90
    go_wp2
    go_ret
    exact ⟨rfl, below_alloc (Below.refl _ _) _⟩
def spec_l06Ask.f (k : Nat) (l0_0 : List S64) (l0_1 : List ByteArray) (a1 : Int) : Option Int := if l0_0.length ≤ 1048576 then ((spec_l06OK.f k l0_0 l0_1).bind fun t => if t = true then ((spec_l01In.f a1 0 ((if l0_0.length ≤ 3 then l0_0.length else 3 : Nat) : Int)).bind fun t2 => if t2 = true then some 0 else some 4) else some 1) else none
theorem spec_l06Ask.mono : ∀ a0 a1 a2 k, LeO (spec_l06Ask.f k a0 a1 a2) (spec_l06Ask.f (k + 1) a0 a1 a2) := by
  intro a0 a1 a2 k
  unfold spec_l06Ask.f
  exact LeO.ite (LeO.bind (spec_l06OK.mono _ _ _) (fun _ => LeO.refl _)) (LeO.refl _)
set_option maxHeartbeats 4000000 in
set_option maxRecDepth 100000 in
theorem spec_l06Ask.calls (k : Nat) (A0_0 : Option Addr) (c0_0 : Nat) (l0_0 : List S64) (A0_1 : Option Addr) (c0_1 : Nat) (l0_1 : List ByteArray) (a1 : Int) (r : Int) (w : World) (hr0_0 : Kd.C k64 w A0_0 l0_0.length l0_0) (hc0_0 : l0_0.length ≤ c0_0) (hr0_1 : Kd.C Kd.string w A0_1 l0_1.length l0_1) (hc0_1 : l0_1.length ≤ c0_1) (h : spec_l06Ask.f k l0_0 l0_1 a1 = some r) :
    Calls Try.prog 106 #[.agg #[.slice A0_0 l0_0.length c0_0, .slice A0_1 l0_1.length c0_1], .int .i64 a1] w fun e w' => e = .returned (.int .i64 r) ∧ Below w.heap.size w w' := by
  unfold spec_l06Ask.f at h
  by_cases hs : l0_0.length ≤ 1048576
  rotate_left
  · rw [if_neg hs] at h; cases h
  rw [if_pos hs] at h
  obtain ⟨t, e1, h⟩ := Option.bind_eq_some_iff.1 h
  have huQ := Try.underlying49
  have HR := Aside0.mk hr0_0
  have HR1 := Aside0.mk hr0_1
  have E1 := Aside0.mk e1
  have HH := Aside0.mk h
  clear hr0_0 hr0_1 e1 h
  go_enter Try.func106, Try.ntmps106
  go_wp2_with fail
  refine (spec_l06OK.calls k A0_0 c0_0 l0_0 A0_1 c0_1 l0_1 t _ (Kd.C_below HR.out (below_alloc (Below.refl _ _) _)) hc0_0 (Kd.C_below HR1.out (below_alloc (Below.refl _ _) _)) hc0_1 E1.out).mono ?_
  rintro e w1 ⟨rfl, hb⟩
  have B2 := Aside0.mk (blk_below (blk_new w (.cells #[.slice A0_0 l0_0.length c0_0, .slice A0_1 l0_1.length c0_1] 49)) hb)
  have HB := Aside0.mk (below_step (below_alloc (Below.refl w.heap.size w) _) hb)
  clear hb
  generalize w.heap.size = g2 at B2 ⊢
  have c20 : w1.cell? ⟨g2, 0, none⟩ = some (.slice A0_0 l0_0.length c0_0) := (blk_cell B2.out 0).trans rfl
  have c21 : w1.cell? ⟨g2, 1, none⟩ = some (.slice A0_1 l0_1.length c0_1) := (blk_cell B2.out 1).trans rfl
  have h := HH.out
  clear HH E1 B2
  cases t with
  | false =>
    simp only [Bool.false_eq_true, if_false, Option.some.injEq] at h
    subst h
    go_wp2
    go_ret
    exact ⟨rfl, HB.out⟩
  | true =>
    simp only [if_true] at h
    obtain ⟨t2, e2, h⟩ := Option.bind_eq_some_iff.1 h
    have E2 := Aside0.mk e2
    have HH := Aside0.mk h
    clear e2 h
    go_wp2_with fail
    refine (spec_l06Ask.batch A0_0 l0_0.length c0_0 hs hc0_0 A0_1 l0_1.length c0_1 w1).mono ?_
    rintro e w2 ⟨rfl, hb2⟩
    have HB2 := Aside0.mk (below_step HB.out hb2)
    clear hb2 HB c20 c21
    generalize (if l0_0.length ≤ 3 then l0_0.length else 3) = q at E2 ⊢
    go_wp2_with fail
    refine (spec_l01In.calls a1 0 (q : Int) t2 w2 E2.out).mono ?_
    rintro e w3 ⟨rfl, ⟨nd, rfl⟩⟩
    have h := HH.out
    clear HH E2
    cases t2 with
    | true =>
      simp only [if_true, Option.some.injEq] at h
      subst h
      go_wp2
      go_ret
      exact ⟨rfl, pw_below_drewN HB2.out _⟩
    | false =>
      simp only [Bool.false_eq_true, if_false, Option.some.injEq] at h
      subst h
      go_wp2
      go_ret
      exact ⟨rfl, pw_below_drewN HB2.out _⟩

/-! ### spec_l06Missed: function 110 -/
def spec_l06Missed.l0 : Nat → Int → List Int → List (S64) → Int → List (S64) → List ByteArray → Option ((List (S64)) × List ByteArray × List Int)
  | 0, _, _, _, _, _, _ => none
  | k + 1, x1, x6, x7, x8, x207000, x207001 => if x8 < (x207000.length : Int) then (if 0 ≤ x8 then (if x8 < x1 then (if (wrap64 (((rd_T64 x207000 x8).f2) + 1)) = 4 then (if x6.length < 17592186044416 then (spec_l06Missed.l0 k x1 (x6 ++ [(rd_T64 x207000 x8).f0]) x7 (wrap64 (x8 + 1)) x207000 x207001) else (none)) else (if x7.length < 3518437208883 then (spec_l06Missed.l0 k x1 x6 (x7 ++ [(⟨(rd_T64 x207000 x8).f0, (rd_T64 x207000 x8).f1, wrap64 (((rd_T64 x207000 x8).f2) + 1), (rd_T64 x207000 x8).f3⟩ : S64)]) (wrap64 (x8 + 1)) x207000 x207001) else (none))) else (if ((rd_T64 x207000 x8).f2) = 4 then (if x6.length < 17592186044416 then (spec_l06Missed.l0 k x1 (x6 ++ [(rd_T64 x207000 x8).f0]) x7 (wrap64 (x8 + 1)) x207000 x207001) else (none)) else (if x7.length < 3518437208883 then (spec_l06Missed.l0 k x1 x6 (x7 ++ [(⟨(rd_T64 x207000 x8).f0, (rd_T64 x207000 x8).f1, (rd_T64 x207000 x8).f2, (rd_T64 x207000 x8).f3⟩ : S64)]) (wrap64 (x8 + 1)) x207000 x207001) else (none)))) else (none)) else (some (x7, x207001, x6))
def spec_l06Missed.f (k : Nat) (l0_0 : List (S64)) (l0_1 : List ByteArray) (a1 : Int) : Option ((List (S64)) × List ByteArray × List Int) := spec_l06Missed.l0 k a1 (([] : List Int)) (([] : List (S64))) 0 l0_0 l0_1
theorem spec_l06Missed.mono_l : ∀ k, (∀ y0 y1 y2 y3 y4 y5, LeO (spec_l06Missed.l0 k y0 y1 y2 y3 y4 y5) (spec_l06Missed.l0 (k + 1) y0 y1 y2 y3 y4 y5))
  | 0 => fun _ _ _ _ _ _ r h => by simp [spec_l06Missed.l0] at h
  | k + 1 => by
    have ih0 := spec_l06Missed.mono_l k
    · intro y0 y1 y2 y3 y4 y5
      unfold spec_l06Missed.l0
      repeat' first
      | (with_reducible exact ih0 _ _ _ _ _ _)
      | (with_reducible exact LeO.refl _)
      | (with_reducible exact LeO.none _)
      | (with_reducible refine LeO.ite ?_ ?_)
      | (with_reducible refine LeO.bind ?_ (fun _ => ?_))
      | exact ih0 _ _ _ _ _ _
      | exact LeO.none _
      | refine LeO.ite ?_ ?_
      | refine LeO.bind ?_ (fun _ => ?_)
theorem spec_l06Missed.mono : ∀ a0 a1 a2 k, LeO (spec_l06Missed.f k a0 a1 a2) (spec_l06Missed.f (k + 1) a0 a1 a2) := by
  intro a0 a1 a2 k
  have ih0 := spec_l06Missed.mono_l k
  unfold spec_l06Missed.f
  repeat' first
      | (with_reducible exact ih0 _ _ _ _ _ _)
      | (with_reducible exact LeO.refl _)
      | (with_reducible exact LeO.none _)
      | (with_reducible refine LeO.ite ?_ ?_)
      | (with_reducible refine LeO.bind ?_ (fun _ => ?_))
      | exact ih0 _ _ _ _ _ _
      | exact LeO.none _
      | refine LeO.ite ?_ ?_
      | refine LeO.bind ?_ (fun _ => ?_)
/-- What the loop knows of memory. -/
structure spec_l06Missed.M0 (w0 w : World) (P : Nat → Prop) (g2 g4 : Nat) (q0 q1 v6 v7 : Value) (rec : List ByteArray) (ids : List Int) (its : List S64) (W : World) : Prop where
  b2 : W.heap[g2]? = some (.cells #[q0, q1] 49 (0, 0))
  b4 : W.heap[g4]? = some (.cells #[.slice none 0 0, .slice none 0 0] 49 (0, 0))
  r6 : Kd.R (Kd.int .i64) 3 W w0.heap.size (fun k => P k ∨ w.heap.size ≤ k) v6 ids
  r7 : Kd.R k64 64 W w0.heap.size (fun k => P k ∨ w.heap.size ≤ k) v7 its
  r1 : Kd.R Kd.string 9 W w0.heap.size (fun k => P k ∨ w.heap.size ≤ k) q1 rec
  hk : Kept w W P
  bl : Below w0.heap.size w0 W
/-- .. and of a report's own block. -/
structure spec_l06Missed.M1 (w0 w : World) (P : Nat → Prop) (g2 g4 g8 : Nat) (q0 q1 v6 v7 : Value) (rec : List ByteArray) (ids : List Int) (its : List S64) (cs : Array Value) (W : World) : Prop where
  b2 : W.heap[g2]? = some (.cells #[q0, q1] 49 (0, 0))
  b4 : W.heap[g4]? = some (.cells #[.slice none 0 0, .slice none 0 0] 49 (0, 0))
  r6 : Kd.R (Kd.int .i64) 3 W w0.heap.size (fun k => P k ∨ w.heap.size ≤ k) v6 ids
  r7 : Kd.R k64 64 W w0.heap.size (fun k => (P k ∨ w.heap.size ≤ k) ∧ k ≠ g8) v7 its
  r1 : Kd.R Kd.string 9 W w0.heap.size (fun k => P k ∨ w.heap.size ≤ k) q1 rec
  hk : Kept w W P
  bl : Below w0.heap.size w0 W
  bx : W.heap[g8]? = some (.cells cs 64 (0, 0))
  n2 : g2 ≠ g8
  n4 : g4 ≠ g8
  gw : w.heap.size ≤ g8
  ge : w0.heap.size ≤ g8
theorem spec_l06Missed.worldR {P : Program} {c : Code} {Q : Exit → Act → World → Prop} {a : Act} {w : World} (R : World → Prop) (h : R w) (k : ∀ w', R w' → c.wp P Q a w') : c.wp P Q a w := k w h
section
variable {w0 w W W1 : World} {P : Nat → Prop} {g2 g4 g8 : Nat} {q0 q1 v6 v7 : Value} {rec : List ByteArray} {ids : List Int} {its : List S64} {cs cs' : Array Value}
theorem spec_l06Missed.M0.below (h : spec_l06Missed.M0 w0 w P g2 g4 q0 q1 v6 v7 rec ids its W) (hb : Below W.heap.size W W1) : spec_l06Missed.M0 w0 w P g2 g4 q0 q1 v6 v7 rec ids its W1 :=
  ⟨blk_below h.b2 hb, blk_below h.b4 hb, Kd.R_below h.r6 hb, Kd.R_below h.r7 hb, Kd.R_below h.r1 hb, h.hk.below hb, below_step h.bl hb⟩
theorem spec_l06Missed.M0.box (h : spec_l06Missed.M0 w0 w P g2 g4 q0 q1 v6 v7 rec ids its W) (hb : Below W.heap.size W W1) (e : g8 = W.heap.size) (bx : W1.heap[g8]? = some (.cells cs 64 (0, 0))) : spec_l06Missed.M1 w0 w P g2 g4 g8 q0 q1 v6 v7 rec ids its cs W1 :=
  ⟨blk_below h.b2 hb, blk_below h.b4 hb, Kd.R_below h.r6 hb, Kd.R_below (Kd.R_elderB h.r7 g8 (Nat.le_of_eq e.symm)) hb, Kd.R_below h.r1 hb, h.hk.below hb, below_step h.bl hb, bx, by rw [e]; exact Nat.ne_of_lt (blk_lt h.b2), by rw [e]; exact Nat.ne_of_lt (blk_lt h.b4), by rw [e]; exact h.hk.1, by rw [e]; exact below_size h.bl⟩
theorem spec_l06Missed.M1.set (h : spec_l06Missed.M1 w0 w P g2 g4 g8 q0 q1 v6 v7 rec ids its cs W) (i : Nat) (v : Value) (cs' : Array Value) (e : cs.setIfInBounds i v = cs') : spec_l06Missed.M1 w0 w P g2 g4 g8 q0 q1 v6 v7 rec ids its cs' (W.setCell ⟨g8, i, none⟩ v) :=
  ⟨blk_far h.b2 h.n2 _, blk_far h.b4 h.n4 _, Kd.R_set h.r6 h.bx (by decide) i _, Kd.R_far (p := ⟨g8, i, none⟩) h.r7 (fun _ hk => hk.2) _, Kd.R_set h.r1 h.bx (by decide) i _, h.hk.setCell (.inr h.gw) _, below_set h.bl h.ge, blk_put h.bx i _ e, h.n2, h.n4, h.gw, h.ge⟩
theorem spec_l06Missed.M1.fresh (h : spec_l06Missed.M1 w0 w P g2 g4 g8 q0 q1 v6 v7 rec ids its cs W) (k : Nat) (hk : W.heap.size ≤ k) : (P k ∨ w.heap.size ≤ k) ∧ k ≠ g8 := ⟨.inr (Nat.le_trans h.hk.1 hk), by have := blk_lt h.bx; omega⟩
theorem spec_l06Missed.M1.app6 (h : spec_l06Missed.M1 w0 w P g2 g4 g8 q0 q1 v6 v7 rec ids its cs W) {v6' : Value} {p : Int} (ho : Kd.R (Kd.int .i64) 3 W1 w0.heap.size (fun k => P k ∨ w.heap.size ≤ k) v6' (ids ++ [p])) (hb : Below w0.heap.size w0 W1) (hg : W.grownBy W1 v6.ownBlock) :
    spec_l06Missed.M0 w0 w P g2 g4 q0 q1 v6' v7 rec (ids ++ [p]) its W1 :=
  ⟨blk_grown h.b2 hg (Kd.R_ne h.r6 h.b2 (by decide)), blk_grown h.b4 hg (Kd.R_ne h.r6 h.b4 (by decide)), ho, Kd.R_mono (Kd.R_over' h.r7 (Kd.R_typed h.r6) (by decide) hg) (fun _ hk => hk.1), Kd.R_over' h.r1 (Kd.R_typed h.r6) (by decide) hg, Kept.of_grown hg h.hk (fun k e => h.r6.1 k e), hb⟩
theorem spec_l06Missed.M1.app7 (h : spec_l06Missed.M1 w0 w P g2 g4 g8 q0 q1 v6 v7 rec ids its cs W) {v7' : Value} {p : S64} (ho : Kd.R k64 64 W1 w0.heap.size (fun k => (P k ∨ w.heap.size ≤ k) ∧ k ≠ g8) v7' (its ++ [p])) (hb : Below w0.heap.size w0 W1) (hg : W.grownBy W1 v7.ownBlock) :
    spec_l06Missed.M0 w0 w P g2 g4 q0 q1 v6 v7' rec ids (its ++ [p]) W1 :=
  ⟨blk_grown h.b2 hg (Kd.R_ne h.r7 h.b2 (by decide)), blk_grown h.b4 hg (Kd.R_ne h.r7 h.b4 (by decide)), Kd.R_over' h.r6 (Kd.R_typed h.r7) (by decide) hg, Kd.R_mono ho (fun _ hk => hk.1), Kd.R_over' h.r1 (Kd.R_typed h.r7) (by decide) hg, Kept.of_grown hg h.hk (fun k e => (h.r7.1 k e).1), hb⟩
end
set_option maxHeartbeats 40000000 in
set_option maxRecDepth 100000 in
theorem spec_l06Missed.calls (k : Nat) (A0_0 : Option Addr) (c0_0 : Nat) (l0_0 : List (S64)) (P0_1_ : Nat → Prop) (u9000_ : Value) (l0_1 : List ByteArray) (a1 : Int) (r1 : List (S64)) (r2 : List ByteArray) (r3 : List Int) (w0 w : World) (hB : Below w0.heap.size w0 w) (hr0_0 : ∀ W_, Kept w W_ (fun k_ => P0_1_ k_) → Kd.C k64 W_ A0_0 l0_0.length l0_0) (hc0_0 : l0_0.length ≤ c0_0) (ho0_1 : Kd.R Kd.string 9 w w0.heap.size P0_1_ u9000_ l0_1) (h : spec_l06Missed.f k l0_0 l0_1 a1 = some (r1, r2, r3)) :
    Calls Try.prog 110 #[.agg #[.slice A0_0 l0_0.length c0_0, u9000_], .int .i64 a1] w fun e w' => ∃ v0_ v1_ v2_ : Value, e = .returned (.tuple #[.agg #[v0_, v1_], v2_]) ∧ Kd.R k64 64 w' w0.heap.size (fun k_ => (P0_1_ k_ ∨ w.heap.size ≤ k_)) v0_ r1 ∧ Kd.R Kd.string 9 w' w0.heap.size (fun k_ => (P0_1_ k_ ∨ w.heap.size ≤ k_)) v1_ r2 ∧ Kd.R (Kd.int .i64) 3 w' w0.heap.size (fun k_ => (P0_1_ k_ ∨ w.heap.size ≤ k_)) v2_ r3 ∧ Below w0.heap.size w0 w' ∧ Kept w w' (fun k_ => P0_1_ k_) := by
 have hu49 := Try.underlying49
 have hu64 := Try.underlying64
 have HR0 := Aside0.mk hr0_0
 clear hr0_0
 have HO1 := Aside0.mk (show Kd.R Kd.string 9 w w0.heap.size (fun k_ => (P0_1_ k_ ∨ w.heap.size ≤ k_)) u9000_ l0_1 from Kd.R_mono ho0_1 (fun k_ hk => (.inl hk)))
 have HK := Aside0.mk (Kept.refl w P0_1_)
 have HB := Aside0.mk hB
 clear hB ho0_1
 have H' := Aside0.mk (show spec_l06Missed.l0 k a1 [] [] 0 l0_0 l0_1 = some (r1, r2, r3) from h)
 clear h
 obtain ⟨Ao3, co3, eo3⟩ := Kd.R_slice HO1.out
 subst eo3
 go_enter Try.func110, Try.ntmps110
 go_wp2_with (first | ((with_reducible refine gate_dst (N := 2) rfl ?_); refine box_event ?hg (N := 2) ?hd (cs := #[.slice A0_0 l0_0.length c0_0, .slice Ao3 l0_1.length co3]) (t := 49) ?hr ?_; (case hd => rfl); (case hg => rfl); (case hr => first | (go_simp; done) | (go_simp; rfl)); intro g2 hg w4 hx hb; have G2 := Aside0.mk (by rw [hg]; exact HK.out.1 : w.heap.size ≤ g2); have E2 := Aside0.mk (by rw [hg]; exact below_size HB.out : w0.heap.size ≤ g2); have B2 := Aside0.mk hx; have n0_ := Aside0.mk (Kd.R_below HO1.out hb); have n1_ := Aside0.mk (Kept.below HK.out hb); have n2_ := Aside0.mk (below_step HB.out hb); clear HO1 HK HB; have HO1 := n0_; have HK := n1_; have HB := n2_; clear n0_ n1_ n2_; clear hx hb hg) | ((with_reducible refine gate_dst (N := 4) rfl ?_); refine box_event ?hg (N := 4) ?hd (cs := #[.slice none 0 0, .slice none 0 0]) (t := 49) ?hr ?_; (case hd => rfl); (case hg => rfl); (case hr => first | (go_simp; done) | (go_simp; rfl)); intro g4 hg w5 hx hb; have N24 := Aside0.mk (by rw [hg]; exact Nat.ne_of_lt (blk_lt B2.out) : g2 ≠ g4); have G4 := Aside0.mk (by rw [hg]; exact HK.out.1 : w.heap.size ≤ g4); have E4 := Aside0.mk (by rw [hg]; exact below_size HB.out : w0.heap.size ≤ g4); have B4 := Aside0.mk hx; have n0_ := Aside0.mk (Kd.R_below HO1.out hb); have n1_ := Aside0.mk (blk_below B2.out hb); have n2_ := Aside0.mk (Kept.below HK.out hb); have n3_ := Aside0.mk (below_step HB.out hb); clear HO1 B2 HK HB; have HO1 := n0_; have B2 := n1_; have HK := n2_; have HB := n3_; clear n0_ n1_ n2_ n3_; clear hx hb hg) | ((with_reducible refine gate_dst (N := 10) rfl ?_); refine Kd.R_lit (Kd.int .i64) _ 3 ?hg (N := 10) ?hd (xs := []) (inner := []) (ok := fun _ => True) (okp := fun _ => True) ?hr ?hp (fun _ hk => hk) trivial (Below.refl _ _) (Nat.le_refl _) (by simp) ?_; (case hd => rfl); (case hg => rfl); (case hr => first | (go_simp; done) | (go_simp; rfl)); (case hp => exact (Reps.none _ _)); intro v6 w6 ho hb hg_ hn_; clear hg_ hn_; have HO6 := Aside0.mk (Kd.R_mono (Kd.R_lower (Kd.R_newM (M := fun k => P0_1_ k ∨ w.heap.size ≤ k) ho HK.out.1 (fun _ h => .inr h)) (below_size HB.out)) (fun _ hk => hk.1)); have n0_ := Aside0.mk (Kd.R_below HO1.out hb); have n1_ := Aside0.mk (blk_below B2.out hb); have n2_ := Aside0.mk (blk_below B4.out hb); have n3_ := Aside0.mk (Kept.below HK.out hb); have n4_ := Aside0.mk (below_step HB.out hb); clear HO1 B2 B4 HK HB; have HO1 := n0_; have B2 := n1_; have B4 := n2_; have HK := n3_; have HB := n4_; clear n0_ n1_ n2_ n3_ n4_; clear ho hb) | ((with_reducible refine gate_dst (N := 11) rfl ?_); refine Kd.R_lit k64 _ 64 ?hg (N := 11) ?hd (xs := []) (inner := []) (ok := fun _ => True) (okp := fun _ => True) ?hr ?hp (fun _ hk => hk) trivial (Below.refl _ _) (Nat.le_refl _) (by simp) ?_; (case hd => rfl); (case hg => rfl); (case hr => first | (go_simp; done) | (go_simp; rfl)); (case hp => exact (Reps.none _ _)); intro v7 w7 ho hb hg_ hn_; clear hg_ hn_; have HO7 := Aside0.mk (Kd.R_mono (Kd.R_lower (Kd.R_newM (M := fun k => P0_1_ k ∨ w.heap.size ≤ k) ho HK.out.1 (fun _ h => .inr h)) (below_size HB.out)) (fun _ hk => hk.1)); have n0_ := Aside0.mk (Kd.R_below HO1.out hb); have n1_ := Aside0.mk (Kd.R_below HO6.out hb); have n2_ := Aside0.mk (blk_below B2.out hb); have n3_ := Aside0.mk (blk_below B4.out hb); have n4_ := Aside0.mk (Kept.below HK.out hb); have n5_ := Aside0.mk (below_step HB.out hb); clear HO1 HO6 B2 B4 HK HB; have HO1 := n0_; have HO6 := n1_; have B2 := n2_; have B4 := n3_; have HK := n4_; have HB := n5_; clear n0_ n1_ n2_ n3_ n4_ n5_; clear ho hb))
 have KS := Aside0.mk (show spec_l06Missed.M0 w0 w P0_1_ g2 g4 (.slice A0_0 l0_0.length c0_0) (.slice Ao3 l0_1.length co3) v6 v7 l0_1 [] [] w7 from ⟨B2.out, B4.out, HO6.out, HO7.out, HO1.out, HK.out, HB.out⟩)
 clear HO1 HO6 HO7 HK HB B2 B4
 go_loopg [6, 7, 8] k (fun kq u6 u7 u8 w' => ∃ (ids : List Int) (its : List S64) (x8 : Int), u8 = .int .i64 x8 ∧ Aside0 (spec_l06Missed.l0 kq a1 ids its x8 l0_0 l0_1 = some (r1, r2, r3)) ∧ Aside0 (kq ≤ k) ∧ Aside0 (spec_l06Missed.M0 w0 w P0_1_ g2 g4 (.slice A0_0 l0_0.length c0_0) (.slice Ao3 l0_1.length co3) u6 u7 l0_1 ids its w'))
 case atStart => exact ⟨[], [], 0, eqE_, H', ⟨Nat.le_refl _⟩, ⟨KS.out.below (by first | exact Below.refl _ _ | exact below_drew (Below.refl _ _) | exact pw_below_drewN (Below.refl _ _) _)⟩⟩
 case round =>
  clear H' KS
  obtain ⟨ids, its, x8, rfl, HA, HK1, KK⟩ := hrel
  cases gk with
  | zero => exact absurd HA.out (by simp [spec_l06Missed.l0])
  | succ k1 =>
   have H := HA.out
   clear HA
   simp only [spec_l06Missed.l0] at H
   have n24 := N24.out
   have n42 := N24.out.symm
   obtain ⟨hcz0, hcz1, hfz0, hfz1⟩ := cz2_ (Aside0.mk KK.out.b2)
   by_cases c10 : x8 < (l0_0.length : Int)
   ·
    rw [if_pos c10] at H
    have c10b0 : decide (x8 < (l0_0.length : Int)) = true := decide_eq_true c10
    by_cases c11 : 0 ≤ x8
    ·
     rw [if_pos c11] at H
     have c11b0 : decide (0 ≤ x8) = true := decide_eq_true c11
     obtain ⟨ad, ea, hx0, hx1, hx2, hx3⟩ := at_T64 (Kd.C_kept_now HR0.out KK.out.hk) x8 c11 c10
     cases ea
     have p214 := eq_true c11
     have q214 := eq_true c10
     by_cases c12 : x8 < a1
     ·
      rw [if_pos c12] at H
      have c12b0 : decide (x8 < a1) = true := decide_eq_true c12
      clear c12
      by_cases c13 : (wrap64 ((rd_T64 l0_0 x8).f2 + 1)) = 4
      ·
       rw [if_pos c13] at H
       have c13b0 : ((wrap64 ((rd_T64 l0_0 x8).f2 + 1)) == 4) = true := beq_iff_eq.mpr c13
       have c13b1 : ((wrap64 ((rd_T64 l0_0 x8).f2 + 1)) != 4) = false := bne_eq_false_iff_eq.mpr c13
       clear c13
       by_cases c14 : ids.length < 17592186044416
       ·
        rw [if_pos c14] at H
        have LL := Aside0.mk c14
        clear c14
        have H' := Aside0.mk H
        clear H
        go_upto_if 26 with (first | ((with_reducible refine gate_dst (N := 9) rfl ?_); refine box_event ?hg (N := 9) ?hd (cs := #[.int .i64 0, .int .i64 0, .int .i64 0, .string ⟨#[]⟩]) (t := 64) ?hr ?_; (case hd => rfl); (case hg => rfl); (case hr => first | (go_simp; done) | (go_simp; rfl)); intro g8 hg w8 hx hb; have hy0 := pw_cell_below hb hx0; have hy1 := pw_cell_below hb hx1; have hy2 := pw_cell_below hb hx2; have hy3 := pw_cell_below hb hx3; clear hx0 hx1 hx2 hx3; have K1 := Aside0.mk (KK.out.box hb hg hx); clear hx hb hg hcz0 hcz1 hfz0 hfz1; obtain ⟨hc0, hc1, hcf0, hcf1⟩ := cz2_ (Aside0.mk K1.out.b2); have n82 := K1.out.n2.symm; have n28 := K1.out.n2; have n84 := K1.out.n4.symm; have n48 := K1.out.n4; obtain ⟨hz0, hz1, hz2, hz3, hf0, hf1, hf2, hf3⟩ := cz4_ (Aside0.mk K1.out.bx)))
        refine spec_l06Missed.worldR (fun W => spec_l06Missed.M1 w0 w P0_1_ g2 g4 g8 (.slice (some ad) l0_0.length c0_0) (.slice Ao3 l0_1.length co3) u6 u7 l0_1 ids its #[.int .i64 (rd_T64 l0_0 x8).f0, .int .i64 (rd_T64 l0_0 x8).f1, .int .i64 (rd_T64 l0_0 x8).f2, .string (rd_T64 l0_0 x8).f3] W) ((((K1.out.set 0 _ #[.int .i64 (rd_T64 l0_0 x8).f0, .int .i64 0, .int .i64 0, .string ⟨#[]⟩] rfl).set 1 _ #[.int .i64 (rd_T64 l0_0 x8).f0, .int .i64 (rd_T64 l0_0 x8).f1, .int .i64 0, .string ⟨#[]⟩] rfl).set 2 _ #[.int .i64 (rd_T64 l0_0 x8).f0, .int .i64 (rd_T64 l0_0 x8).f1, .int .i64 (rd_T64 l0_0 x8).f2, .string ⟨#[]⟩] rfl).set 3 _ #[.int .i64 (rd_T64 l0_0 x8).f0, .int .i64 (rd_T64 l0_0 x8).f1, .int .i64 (rd_T64 l0_0 x8).f2, .string (rd_T64 l0_0 x8).f3] rfl) ?_
        clear hz0 hz1 hz2 hz3 hf0 hf1 hf2 hf3 hy0 hy1 hy2 hy3 hc0 hc1 hcf0 hcf1 K1
        intro w9 K9
        have K2 := Aside0.mk K9
        clear K9
        obtain ⟨hc0, hc1, hcf0, hcf1⟩ := cz2_ (Aside0.mk K2.out.b2)
        obtain ⟨hz0, hz1, hz2, hz3, hf0, hf1, hf2, hf3⟩ := cz4_ (Aside0.mk K2.out.bx)
        go_wp2_with (first | ((with_reducible refine gate_builtin (b := .append) (xs := #[.tmp 34, .tmp 37]) rfl ?_); at_builtin; refine Kd.R_append (Kd.int .i64) (w0 := w0) w0.heap.size rfl (.tmp 34) (.tmp 37) 33 3 (.int .i64 0) 8 rfl Try.underlying33 info3 rfl (by decide) (by omega) u6 ids ((rd_T64 l0_0 x8).f0) [.int .i64 ((rd_T64 l0_0 x8).f0)] (fun k_ => P0_1_ k_ ∨ w.heap.size ≤ k_) (fun _ => False) rfl (by first | (go_simp; done) | (go_simp; rfl)) rfl (fun _ hk => hk.elim) (fun k hk => ((K2.out.set 2 _ #[.int .i64 (rd_T64 l0_0 x8).f0, .int .i64 (rd_T64 l0_0 x8).f1, .int .i64 (wrap64 ((rd_T64 l0_0 x8).f2 + 1)), .string (rd_T64 l0_0 x8).f3] rfl).fresh k hk).1) (K2.out.set 2 _ #[.int .i64 (rd_T64 l0_0 x8).f0, .int .i64 (rd_T64 l0_0 x8).f1, .int .i64 (wrap64 ((rd_T64 l0_0 x8).f2 + 1)), .string (rd_T64 l0_0 x8).f3] rfl).r6 (K2.out.set 2 _ #[.int .i64 (rd_T64 l0_0 x8).f0, .int .i64 (rd_T64 l0_0 x8).f1, .int .i64 (wrap64 ((rd_T64 l0_0 x8).f2 + 1)), .string (rd_T64 l0_0 x8).f3] rfl).bl (below_size (K2.out.set 2 _ #[.int .i64 (rd_T64 l0_0 x8).f0, .int .i64 (rd_T64 l0_0 x8).f1, .int .i64 (wrap64 ((rd_T64 l0_0 x8).f2 + 1)), .string (rd_T64 l0_0 x8).f3] rfl).bl) (by have := LL.out; omega) ?_; intro v' w9 ho hb hg hat; have K9 := Aside0.mk ((K2.out.set 2 _ #[.int .i64 (rd_T64 l0_0 x8).f0, .int .i64 (rd_T64 l0_0 x8).f1, .int .i64 (wrap64 ((rd_T64 l0_0 x8).f2 + 1)), .string (rd_T64 l0_0 x8).f3] rfl).app6 ho hb hg); clear ho hb hg hat))
        go_roundg k1
        case measure => have := HK1.out; omega
        case rel => exact ⟨ids ++ [(rd_T64 l0_0 x8).f0], its, wrap64 (x8 + 1), eqE_, H', ⟨by have := HK1.out; omega⟩, ⟨K9.out⟩⟩
       ·
        rw [if_neg c14] at H
        exact absurd H (by simp)
      ·
       rw [if_neg c13] at H
       have c13b0 : ((wrap64 ((rd_T64 l0_0 x8).f2 + 1)) == 4) = false := beq_eq_false_iff_ne.mpr c13
       have c13b1 : ((wrap64 ((rd_T64 l0_0 x8).f2 + 1)) != 4) = true := bne_iff_ne.mpr c13
       clear c13
       by_cases c14 : its.length < 3518437208883
       ·
        rw [if_pos c14] at H
        have LL := Aside0.mk c14
        clear c14
        have H' := Aside0.mk H
        clear H
        go_upto_if 26 with (first | ((with_reducible refine gate_dst (N := 9) rfl ?_); refine box_event ?hg (N := 9) ?hd (cs := #[.int .i64 0, .int .i64 0, .int .i64 0, .string ⟨#[]⟩]) (t := 64) ?hr ?_; (case hd => rfl); (case hg => rfl); (case hr => first | (go_simp; done) | (go_simp; rfl)); intro g8 hg w8 hx hb; have hy0 := pw_cell_below hb hx0; have hy1 := pw_cell_below hb hx1; have hy2 := pw_cell_below hb hx2; have hy3 := pw_cell_below hb hx3; clear hx0 hx1 hx2 hx3; have K1 := Aside0.mk (KK.out.box hb hg hx); clear hx hb hg hcz0 hcz1 hfz0 hfz1; obtain ⟨hc0, hc1, hcf0, hcf1⟩ := cz2_ (Aside0.mk K1.out.b2); have n82 := K1.out.n2.symm; have n28 := K1.out.n2; have n84 := K1.out.n4.symm; have n48 := K1.out.n4; obtain ⟨hz0, hz1, hz2, hz3, hf0, hf1, hf2, hf3⟩ := cz4_ (Aside0.mk K1.out.bx)))
        refine spec_l06Missed.worldR (fun W => spec_l06Missed.M1 w0 w P0_1_ g2 g4 g8 (.slice (some ad) l0_0.length c0_0) (.slice Ao3 l0_1.length co3) u6 u7 l0_1 ids its #[.int .i64 (rd_T64 l0_0 x8).f0, .int .i64 (rd_T64 l0_0 x8).f1, .int .i64 (rd_T64 l0_0 x8).f2, .string (rd_T64 l0_0 x8).f3] W) ((((K1.out.set 0 _ #[.int .i64 (rd_T64 l0_0 x8).f0, .int .i64 0, .int .i64 0, .string ⟨#[]⟩] rfl).set 1 _ #[.int .i64 (rd_T64 l0_0 x8).f0, .int .i64 (rd_T64 l0_0 x8).f1, .int .i64 0, .string ⟨#[]⟩] rfl).set 2 _ #[.int .i64 (rd_T64 l0_0 x8).f0, .int .i64 (rd_T64 l0_0 x8).f1, .int .i64 (rd_T64 l0_0 x8).f2, .string ⟨#[]⟩] rfl).set 3 _ #[.int .i64 (rd_T64 l0_0 x8).f0, .int .i64 (rd_T64 l0_0 x8).f1, .int .i64 (rd_T64 l0_0 x8).f2, .string (rd_T64 l0_0 x8).f3] rfl) ?_
        clear hz0 hz1 hz2 hz3 hf0 hf1 hf2 hf3 hy0 hy1 hy2 hy3 hc0 hc1 hcf0 hcf1 K1
        intro w9 K9
        have K2 := Aside0.mk K9
        clear K9
        obtain ⟨hc0, hc1, hcf0, hcf1⟩ := cz2_ (Aside0.mk K2.out.b2)
        obtain ⟨hz0, hz1, hz2, hz3, hf0, hf1, hf2, hf3⟩ := cz4_ (Aside0.mk K2.out.bx)
        go_wp2_with (first | ((with_reducible refine gate_builtin (b := .append) (xs := #[.tmp 39, .tmp 41]) rfl ?_); at_builtin; refine Kd.R_append k64 (w0 := w0) w0.heap.size rfl (.tmp 39) (.tmp 41) 47 64 (.agg #[(.int .i64 0), (.int .i64 0), (.int .i64 0), (.string ⟨#[]⟩)]) 40 rfl Try.underlying47 info64 rfl (by decide) (by omega) u7 its (⟨(rd_T64 l0_0 x8).f0, (rd_T64 l0_0 x8).f1, wrap64 ((rd_T64 l0_0 x8).f2 + 1), (rd_T64 l0_0 x8).f3⟩ : S64) [.int .i64 (rd_T64 l0_0 x8).f0, .int .i64 (rd_T64 l0_0 x8).f1, .int .i64 (wrap64 ((rd_T64 l0_0 x8).f2 + 1)), .string (rd_T64 l0_0 x8).f3] (fun k_ => (P0_1_ k_ ∨ w.heap.size ≤ k_) ∧ k_ ≠ g8) (fun _ => False) rfl (by first | (go_simp; done) | (go_simp; rfl)) (k64_mkM _ _ _ (⟨(rd_T64 l0_0 x8).f0, (rd_T64 l0_0 x8).f1, wrap64 ((rd_T64 l0_0 x8).f2 + 1), (rd_T64 l0_0 x8).f3⟩ : S64)) (fun _ hk => hk.elim) (fun k hk => (K2.out.set 2 _ #[.int .i64 (rd_T64 l0_0 x8).f0, .int .i64 (rd_T64 l0_0 x8).f1, .int .i64 (wrap64 ((rd_T64 l0_0 x8).f2 + 1)), .string (rd_T64 l0_0 x8).f3] rfl).fresh k hk) (K2.out.set 2 _ #[.int .i64 (rd_T64 l0_0 x8).f0, .int .i64 (rd_T64 l0_0 x8).f1, .int .i64 (wrap64 ((rd_T64 l0_0 x8).f2 + 1)), .string (rd_T64 l0_0 x8).f3] rfl).r7 (K2.out.set 2 _ #[.int .i64 (rd_T64 l0_0 x8).f0, .int .i64 (rd_T64 l0_0 x8).f1, .int .i64 (wrap64 ((rd_T64 l0_0 x8).f2 + 1)), .string (rd_T64 l0_0 x8).f3] rfl).bl (below_size (K2.out.set 2 _ #[.int .i64 (rd_T64 l0_0 x8).f0, .int .i64 (rd_T64 l0_0 x8).f1, .int .i64 (wrap64 ((rd_T64 l0_0 x8).f2 + 1)), .string (rd_T64 l0_0 x8).f3] rfl).bl) (by have := LL.out; omega) ?_; intro v' w9 ho hb hg hat; have K9 := Aside0.mk ((K2.out.set 2 _ #[.int .i64 (rd_T64 l0_0 x8).f0, .int .i64 (rd_T64 l0_0 x8).f1, .int .i64 (wrap64 ((rd_T64 l0_0 x8).f2 + 1)), .string (rd_T64 l0_0 x8).f3] rfl).app7 ho hb hg); clear ho hb hg hat))
        go_roundg k1
        case measure => have := HK1.out; omega
        case rel => exact ⟨ids, its ++ [(⟨(rd_T64 l0_0 x8).f0, (rd_T64 l0_0 x8).f1, wrap64 ((rd_T64 l0_0 x8).f2 + 1), (rd_T64 l0_0 x8).f3⟩ : S64)], wrap64 (x8 + 1), eqE_, H', ⟨by have := HK1.out; omega⟩, ⟨K9.out⟩⟩
       ·
        rw [if_neg c14] at H
        exact absurd H (by simp)
     ·
      rw [if_neg c12] at H
      have c12b0 : decide (x8 < a1) = false := decide_eq_false c12
      clear c12
      by_cases c13 : (rd_T64 l0_0 x8).f2 = 4
      ·
       rw [if_pos c13] at H
       have c13b0 : ((rd_T64 l0_0 x8).f2 == 4) = true := beq_iff_eq.mpr c13
       have c13b1 : ((rd_T64 l0_0 x8).f2 != 4) = false := bne_eq_false_iff_eq.mpr c13
       clear c13
       by_cases c14 : ids.length < 17592186044416
       ·
        rw [if_pos c14] at H
        have LL := Aside0.mk c14
        clear c14
        have H' := Aside0.mk H
        clear H
        go_upto_if 26 with (first | ((with_reducible refine gate_dst (N := 9) rfl ?_); refine box_event ?hg (N := 9) ?hd (cs := #[.int .i64 0, .int .i64 0, .int .i64 0, .string ⟨#[]⟩]) (t := 64) ?hr ?_; (case hd => rfl); (case hg => rfl); (case hr => first | (go_simp; done) | (go_simp; rfl)); intro g8 hg w8 hx hb; have hy0 := pw_cell_below hb hx0; have hy1 := pw_cell_below hb hx1; have hy2 := pw_cell_below hb hx2; have hy3 := pw_cell_below hb hx3; clear hx0 hx1 hx2 hx3; have K1 := Aside0.mk (KK.out.box hb hg hx); clear hx hb hg hcz0 hcz1 hfz0 hfz1; obtain ⟨hc0, hc1, hcf0, hcf1⟩ := cz2_ (Aside0.mk K1.out.b2); have n82 := K1.out.n2.symm; have n28 := K1.out.n2; have n84 := K1.out.n4.symm; have n48 := K1.out.n4; obtain ⟨hz0, hz1, hz2, hz3, hf0, hf1, hf2, hf3⟩ := cz4_ (Aside0.mk K1.out.bx)))
        refine spec_l06Missed.worldR (fun W => spec_l06Missed.M1 w0 w P0_1_ g2 g4 g8 (.slice (some ad) l0_0.length c0_0) (.slice Ao3 l0_1.length co3) u6 u7 l0_1 ids its #[.int .i64 (rd_T64 l0_0 x8).f0, .int .i64 (rd_T64 l0_0 x8).f1, .int .i64 (rd_T64 l0_0 x8).f2, .string (rd_T64 l0_0 x8).f3] W) ((((K1.out.set 0 _ #[.int .i64 (rd_T64 l0_0 x8).f0, .int .i64 0, .int .i64 0, .string ⟨#[]⟩] rfl).set 1 _ #[.int .i64 (rd_T64 l0_0 x8).f0, .int .i64 (rd_T64 l0_0 x8).f1, .int .i64 0, .string ⟨#[]⟩] rfl).set 2 _ #[.int .i64 (rd_T64 l0_0 x8).f0, .int .i64 (rd_T64 l0_0 x8).f1, .int .i64 (rd_T64 l0_0 x8).f2, .string ⟨#[]⟩] rfl).set 3 _ #[.int .i64 (rd_T64 l0_0 x8).f0, .int .i64 (rd_T64 l0_0 x8).f1, .int .i64 (rd_T64 l0_0 x8).f2, .string (rd_T64 l0_0 x8).f3] rfl) ?_
        clear hz0 hz1 hz2 hz3 hf0 hf1 hf2 hf3 hy0 hy1 hy2 hy3 hc0 hc1 hcf0 hcf1 K1
        intro w9 K9
        have K2 := Aside0.mk K9
        clear K9
        obtain ⟨hc0, hc1, hcf0, hcf1⟩ := cz2_ (Aside0.mk K2.out.b2)
        obtain ⟨hz0, hz1, hz2, hz3, hf0, hf1, hf2, hf3⟩ := cz4_ (Aside0.mk K2.out.bx)
        go_wp2_with (first | ((with_reducible refine gate_builtin (b := .append) (xs := #[.tmp 34, .tmp 37]) rfl ?_); at_builtin; refine Kd.R_append (Kd.int .i64) (w0 := w0) w0.heap.size rfl (.tmp 34) (.tmp 37) 33 3 (.int .i64 0) 8 rfl Try.underlying33 info3 rfl (by decide) (by omega) u6 ids ((rd_T64 l0_0 x8).f0) [.int .i64 ((rd_T64 l0_0 x8).f0)] (fun k_ => P0_1_ k_ ∨ w.heap.size ≤ k_) (fun _ => False) rfl (by first | (go_simp; done) | (go_simp; rfl)) rfl (fun _ hk => hk.elim) (fun k hk => (K2.out.fresh k hk).1) K2.out.r6 K2.out.bl (below_size K2.out.bl) (by have := LL.out; omega) ?_; intro v' w9 ho hb hg hat; have K9 := Aside0.mk (K2.out.app6 ho hb hg); clear ho hb hg hat))
        go_roundg k1
        case measure => have := HK1.out; omega
        case rel => exact ⟨ids ++ [(rd_T64 l0_0 x8).f0], its, wrap64 (x8 + 1), eqE_, H', ⟨by have := HK1.out; omega⟩, ⟨K9.out⟩⟩
       ·
        rw [if_neg c14] at H
        exact absurd H (by simp)
      ·
       rw [if_neg c13] at H
       have c13b0 : ((rd_T64 l0_0 x8).f2 == 4) = false := beq_eq_false_iff_ne.mpr c13
       have c13b1 : ((rd_T64 l0_0 x8).f2 != 4) = true := bne_iff_ne.mpr c13
       clear c13
       by_cases c14 : its.length < 3518437208883
       ·
        rw [if_pos c14] at H
        have LL := Aside0.mk c14
        clear c14
        have H' := Aside0.mk H
        clear H
        go_upto_if 26 with (first | ((with_reducible refine gate_dst (N := 9) rfl ?_); refine box_event ?hg (N := 9) ?hd (cs := #[.int .i64 0, .int .i64 0, .int .i64 0, .string ⟨#[]⟩]) (t := 64) ?hr ?_; (case hd => rfl); (case hg => rfl); (case hr => first | (go_simp; done) | (go_simp; rfl)); intro g8 hg w8 hx hb; have hy0 := pw_cell_below hb hx0; have hy1 := pw_cell_below hb hx1; have hy2 := pw_cell_below hb hx2; have hy3 := pw_cell_below hb hx3; clear hx0 hx1 hx2 hx3; have K1 := Aside0.mk (KK.out.box hb hg hx); clear hx hb hg hcz0 hcz1 hfz0 hfz1; obtain ⟨hc0, hc1, hcf0, hcf1⟩ := cz2_ (Aside0.mk K1.out.b2); have n82 := K1.out.n2.symm; have n28 := K1.out.n2; have n84 := K1.out.n4.symm; have n48 := K1.out.n4; obtain ⟨hz0, hz1, hz2, hz3, hf0, hf1, hf2, hf3⟩ := cz4_ (Aside0.mk K1.out.bx)))
        refine spec_l06Missed.worldR (fun W => spec_l06Missed.M1 w0 w P0_1_ g2 g4 g8 (.slice (some ad) l0_0.length c0_0) (.slice Ao3 l0_1.length co3) u6 u7 l0_1 ids its #[.int .i64 (rd_T64 l0_0 x8).f0, .int .i64 (rd_T64 l0_0 x8).f1, .int .i64 (rd_T64 l0_0 x8).f2, .string (rd_T64 l0_0 x8).f3] W) ((((K1.out.set 0 _ #[.int .i64 (rd_T64 l0_0 x8).f0, .int .i64 0, .int .i64 0, .string ⟨#[]⟩] rfl).set 1 _ #[.int .i64 (rd_T64 l0_0 x8).f0, .int .i64 (rd_T64 l0_0 x8).f1, .int .i64 0, .string ⟨#[]⟩] rfl).set 2 _ #[.int .i64 (rd_T64 l0_0 x8).f0, .int .i64 (rd_T64 l0_0 x8).f1, .int .i64 (rd_T64 l0_0 x8).f2, .string ⟨#[]⟩] rfl).set 3 _ #[.int .i64 (rd_T64 l0_0 x8).f0, .int .i64 (rd_T64 l0_0 x8).f1, .int .i64 (rd_T64 l0_0 x8).f2, .string (rd_T64 l0_0 x8).f3] rfl) ?_
        clear hz0 hz1 hz2 hz3 hf0 hf1 hf2 hf3 hy0 hy1 hy2 hy3 hc0 hc1 hcf0 hcf1 K1
        intro w9 K9
        have K2 := Aside0.mk K9
        clear K9
        obtain ⟨hc0, hc1, hcf0, hcf1⟩ := cz2_ (Aside0.mk K2.out.b2)
        obtain ⟨hz0, hz1, hz2, hz3, hf0, hf1, hf2, hf3⟩ := cz4_ (Aside0.mk K2.out.bx)
        go_wp2_with (first | ((with_reducible refine gate_builtin (b := .append) (xs := #[.tmp 39, .tmp 41]) rfl ?_); at_builtin; refine Kd.R_append k64 (w0 := w0) w0.heap.size rfl (.tmp 39) (.tmp 41) 47 64 (.agg #[(.int .i64 0), (.int .i64 0), (.int .i64 0), (.string ⟨#[]⟩)]) 40 rfl Try.underlying47 info64 rfl (by decide) (by omega) u7 its (⟨(rd_T64 l0_0 x8).f0, (rd_T64 l0_0 x8).f1, (rd_T64 l0_0 x8).f2, (rd_T64 l0_0 x8).f3⟩ : S64) [.int .i64 (rd_T64 l0_0 x8).f0, .int .i64 (rd_T64 l0_0 x8).f1, .int .i64 (rd_T64 l0_0 x8).f2, .string (rd_T64 l0_0 x8).f3] (fun k_ => (P0_1_ k_ ∨ w.heap.size ≤ k_) ∧ k_ ≠ g8) (fun _ => False) rfl (by first | (go_simp; done) | (go_simp; rfl)) (k64_mkM _ _ _ (⟨(rd_T64 l0_0 x8).f0, (rd_T64 l0_0 x8).f1, (rd_T64 l0_0 x8).f2, (rd_T64 l0_0 x8).f3⟩ : S64)) (fun _ hk => hk.elim) (fun k hk => K2.out.fresh k hk) K2.out.r7 K2.out.bl (below_size K2.out.bl) (by have := LL.out; omega) ?_; intro v' w9 ho hb hg hat; have K9 := Aside0.mk (K2.out.app7 ho hb hg); clear ho hb hg hat))
        go_roundg k1
        case measure => have := HK1.out; omega
        case rel => exact ⟨ids, its ++ [(⟨(rd_T64 l0_0 x8).f0, (rd_T64 l0_0 x8).f1, (rd_T64 l0_0 x8).f2, (rd_T64 l0_0 x8).f3⟩ : S64)], wrap64 (x8 + 1), eqE_, H', ⟨by have := HK1.out; omega⟩, ⟨K9.out⟩⟩
       ·
        rw [if_neg c14] at H
        exact absurd H (by simp)
    ·
     rw [if_neg c11] at H
     exact absurd H (by simp)
   ·
    rw [if_neg c10] at H
    have c10b0 : decide (x8 < (l0_0.length : Int)) = false := decide_eq_false c10
    clear c10
    simp only [Option.some.injEq, Prod.mk.injEq] at H
    obtain ⟨rfl, rfl, rfl⟩ := H
    obtain ⟨Ao49, co49, eo49⟩ := Kd.R_slice KK.out.r7
    subst eo49
    obtain ⟨hdz0, hdz1, hgz0, hgz1⟩ := cz2_ (Aside0.mk KK.out.b4)
    go_wp2
    have b4 := blk_put (cs' := #[.slice Ao49 its.length co49, .slice none 0 0]) KK.out.b4 0 (.slice Ao49 its.length co49) rfl
    refine bodyPost_ret (results_ct rfl _ _ g4 49 #[.slice Ao49 its.length co49, .slice Ao3 l0_1.length co3] (0, 0) _ rfl (blk_put b4 1 _ rfl) Try.underlying49 rfl (by kernel_rfl)) rfl ?_
    exact ⟨_, _, _, rfl, Kd.R_set (Kd.R_set KK.out.r7 KK.out.b4 (by decide) 0 _) b4 (by decide) 1 _, Kd.R_set (Kd.R_set KK.out.r1 KK.out.b4 (by decide) 0 _) b4 (by decide) 1 _, Kd.R_set (Kd.R_set KK.out.r6 KK.out.b4 (by decide) 0 _) b4 (by decide) 1 _, below_set (below_set KK.out.bl E4.out) E4.out, Kept.setCell (Kept.setCell KK.out.hk (.inr G4.out) _) (.inr G4.out) _⟩

/-! ### spec_Missed: function 49 -/
def spec_Missed.f (k : Nat) (l0_0 : List (S64)) (l0_1 : List ByteArray) (a1 : Int) : Option ((List (S64)) × List ByteArray × List Int × Int) := (spec_l06Ask.f k l0_0 l0_1 a1).bind fun t230 => (if t230 = 0 then ((spec_l06Missed.f k l0_0 l0_1 a1).bind fun bt231 => ((spec_l06Own.f bt231.1 bt231.2.1).bind fun bt241 => (some (bt241.1, bt241.2, bt231.2.2, 0)))) else (some (([] : List (S64)), ([] : List ByteArray), (([] : List Int)), t230)))
theorem spec_Missed.mono : ∀ a0 a1 a2 k, LeO (spec_Missed.f k a0 a1 a2) (spec_Missed.f (k + 1) a0 a1 a2) := by
  intro a0 a1 a2 k
  unfold spec_Missed.f
  repeat' first
      | (with_reducible exact spec_l06Ask.mono _ _ _ _)
      | (with_reducible exact spec_l06Missed.mono _ _ _ _)
      | (with_reducible exact LeO.refl _)
      | (with_reducible exact LeO.none _)
      | (with_reducible refine LeO.ite ?_ ?_)
      | (with_reducible refine LeO.bind ?_ (fun _ => ?_))
      | exact spec_l06Ask.mono _ _ _ _
      | exact spec_l06Missed.mono _ _ _ _
      | exact LeO.none _
      | refine LeO.ite ?_ ?_
      | refine LeO.bind ?_ (fun _ => ?_)
set_option maxHeartbeats 40000000 in
set_option maxRecDepth 100000 in
theorem spec_Missed.calls (k : Nat) (A0_0 : Option Addr) (c0_0 : Nat) (l0_0 : List (S64)) (P0_1_ : Nat → Prop) (u9000_ : Value) (l0_1 : List ByteArray) (a1 : Int) (r1 : List (S64)) (r2 : List ByteArray) (r3 : List Int) (r4 : Int) (w0 w : World) (hB : Below w0.heap.size w0 w) (hr0_0 : ∀ W_, Kept w W_ (fun k_ => P0_1_ k_) → Kd.C k64 W_ A0_0 l0_0.length l0_0) (hc0_0 : l0_0.length ≤ c0_0) (ho0_1 : Kd.R Kd.string 9 w w0.heap.size P0_1_ u9000_ l0_1) (h : spec_Missed.f k l0_0 l0_1 a1 = some (r1, r2, r3, r4)) :
    Calls Try.prog 49 #[.agg #[.slice A0_0 l0_0.length c0_0, u9000_], .int .i64 a1] w fun e w' => ∃ v0_ v1_ v2_ : Value, e = .returned (.tuple #[.agg #[v0_, v1_], v2_, .int .i64 r4]) ∧ Kd.R k64 64 w' w0.heap.size (fun k_ => (P0_1_ k_ ∨ w.heap.size ≤ k_)) v0_ r1 ∧ Kd.R Kd.string 9 w' w0.heap.size (fun k_ => (P0_1_ k_ ∨ w.heap.size ≤ k_)) v1_ r2 ∧ Kd.R (Kd.int .i64) 3 w' w0.heap.size (fun k_ => (P0_1_ k_ ∨ w.heap.size ≤ k_)) v2_ r3 ∧ Below w0.heap.size w0 w' ∧ Kept w w' (fun k_ => P0_1_ k_) := by
 have hu49 := Try.underlying49
 have HR0_0 := Aside0.mk hr0_0
 have HC0_0 := Aside0.mk hc0_0
 clear hr0_0 hc0_0
 have HO0_1 := Aside0.mk (show Kd.R Kd.string 9 w w0.heap.size (fun k_ => (P0_1_ k_ ∨ w.heap.size ≤ k_)) u9000_ l0_1 from Kd.R_mono ho0_1 (fun k_ hk => (.inl hk)))
 have HK := Aside0.mk (Kept.refl w (fun k_ => P0_1_ k_))
 have HW0 := Aside0.mk hB.size
 have HB := Aside0.mk hB
 clear hB
 have H : ((spec_l06Ask.f k l0_0 l0_1 a1).bind fun t230 => (if t230 = 0 then ((spec_l06Missed.f k l0_0 l0_1 a1).bind fun bt231 => ((spec_l06Own.f bt231.1 bt231.2.1).bind fun bt241 => (some (bt241.1, bt241.2, bt231.2.2, 0)))) else (some (([] : List (S64)), ([] : List ByteArray), (([] : List Int)), t230)))) = some (r1, r2, r3, r4) := h
 clear h
 obtain ⟨t230, A3, H⟩ := bindE_ H
 by_cases c4 : t230 = 0
 ·
  rw [if_pos c4] at H
  have c4b0 : (t230 == 0) = true := beq_iff_eq.mpr c4
  have c4b1 : (t230 != 0) = false := bne_eq_false_iff_eq.mpr c4
  clear c4
  replace H := Option.bind_eq_some_iff.mp H
  obtain ⟨⟨t231, t234, t237⟩, A50, H⟩ := H
  replace H : ((spec_l06Own.f t231 t234).bind fun bt241 => (some (bt241.1, bt241.2, t237, 0))) = some (r1, r2, r3, r4) := H
  have A5 := Aside0.mk A50
  clear A50
  replace H := Option.bind_eq_some_iff.mp H
  obtain ⟨⟨t241, t244⟩, A60, H⟩ := H
  replace H : (some (t241, t244, t237, 0)) = some (r1, r2, r3, r4) := H
  have A6 := Aside0.mk A60
  clear A60
  simp only [Option.some.injEq, Prod.mk.injEq] at H
  obtain ⟨rfl, rfl, rfl, rfl⟩ := H
  obtain ⟨Ao7, co7, eo7⟩ := Kd.R_slice HO0_1.out
  subst eo7
  go_enter Try.func49, Try.ntmps49
  go_wp2_with (first | ((with_reducible refine gate_dst (N := 2) rfl ?_); refine box_event ?hg (N := 2) ?hd (cs := #[.slice A0_0 l0_0.length c0_0, .slice Ao7 l0_1.length co7]) (t := 49) ?hr ?_; (case hd => rfl); (case hg => rfl); (case hr => first | (go_simp; done) | (go_simp; rfl)); intro gb228 hg w8 hbox hb; have n0_ := Aside0.mk (Kd.R_below (by (with_reducible repeat (first | apply Kd.R_alloc | apply Kd.R_drewN | apply Kd.R_drew)); exact HO0_1.out) hb); have n1_ := Aside0.mk (Kept.below (S := (fun k_ => P0_1_ k_)) (by repeat (first | (with_reducible first | exact HK.out | apply Kept.alloc | apply Kept.drewN | apply Kept.drew) | exact HK.out)) hb); have n2_ := belB_ hb; have n3_ := Aside0.mk (hbox); have n4_ := Aside0.mk ((by rw [hg]; exact (by first | exact HK.out.1 | exact (show Kept w _ (fun k_ => P0_1_ k_) from by repeat (first | (with_reducible first | exact HK.out | apply Kept.alloc | apply Kept.drewN | apply Kept.drew) | exact HK.out)).1) : w.heap.size ≤ gb228)); have n5_ := Aside0.mk ((by rw [hg]; exact (below_size (by repeat (first | (with_reducible first | exact HB.out | apply below_alloc | apply pw_below_drewN | apply below_drew1) | exact HB.out))) : w0.heap.size ≤ gb228)); clear HO0_1; clear HK; clear HB; have HO0_1 := n0_; have HK := n1_; have HB := n2_; have BK228 := n3_; have GW228 := n4_; have GE228 := n5_; clear n0_ n1_ n2_ n3_ n4_ n5_; clear hb hbox hg) | ((with_reducible refine gate_dst (N := 4) rfl ?_); refine box_event ?hg (N := 4) ?hd (cs := #[.slice none 0 0, .slice none 0 0]) (t := 49) ?hr ?_; (case hd => rfl); (case hg => rfl); (case hr => first | (go_simp; done) | (go_simp; rfl)); intro gb229 hg w9 hbox hb; have n0_ := Aside0.mk (Kd.R_below (by (with_reducible repeat (first | apply Kd.R_alloc | apply Kd.R_drewN | apply Kd.R_drew)); exact HO0_1.out) hb); have n1_ := blkB_ (g := gb228) (o := .cells #[.slice A0_0 l0_0.length c0_0, .slice Ao7 l0_1.length co7] 49 (0, 0)) hb; have n2_ := Aside0.mk (Kept.below (S := (fun k_ => P0_1_ k_)) (by repeat (first | (with_reducible first | exact HK.out | apply Kept.alloc | apply Kept.drewN | apply Kept.drew | refine Kept.setCell ?_ (.inr GW228.out) _) | exact HK.out)) hb); have n3_ := belB_ hb; have n4_ := Aside0.mk (hbox); have n5_ := Aside0.mk ((by rw [hg]; exact (by first | exact HK.out.1 | exact (show Kept w _ (fun k_ => P0_1_ k_) from by repeat (first | (with_reducible first | exact HK.out | apply Kept.alloc | apply Kept.drewN | apply Kept.drew | refine Kept.setCell ?_ (.inr GW228.out) _) | exact HK.out)).1) : w.heap.size ≤ gb229)); have n6_ := Aside0.mk ((by rw [hg]; exact (below_size (by repeat (first | (with_reducible first | exact HB.out | apply below_alloc | apply pw_below_drewN | apply below_drew1 | refine below_set ?_ GE228.out) | exact HB.out))) : w0.heap.size ≤ gb229)); have n7_ := Aside0.mk ((by rw [hg]; exact Nat.ne_of_lt (blk_lt (g := gb228) (o := .cells #[.slice A0_0 l0_0.length c0_0, .slice Ao7 l0_1.length co7] 49 (0, 0)) (by (with_reducible repeat (first | refine blk_drewN ?_ _ | refine blk_drew ?_ | refine blk_alloc ?_ _)); exact BK228.out)) : gb228 ≠ gb229)); have n8_ := Aside0.mk ((by rw [hg]; exact Nat.ne_of_gt (blk_lt (g := gb228) (o := .cells #[.slice A0_0 l0_0.length c0_0, .slice Ao7 l0_1.length co7] 49 (0, 0)) (by (with_reducible repeat (first | refine blk_drewN ?_ _ | refine blk_drew ?_ | refine blk_alloc ?_ _)); exact BK228.out)) : gb229 ≠ gb228)); clear HO0_1; clear BK228; clear HK; clear HB; have HO0_1 := n0_; have BK228 := n1_; have HK := n2_; have HB := n3_; have BK229 := n4_; have GW229 := n5_; have GE229 := n6_; have NB228_229 := n7_; have NB229_228 := n8_; clear n0_ n1_ n2_ n3_ n4_ n5_ n6_ n7_ n8_; clear hb hbox hg; have hnb10 := NB228_229.out; have hnc10 := NB229_228.out; obtain ⟨hcz11_0, hcz11_1, hfz11_0, hfz11_1⟩ := cz2_ BK228) | ((with_reducible refine gate_callee (f := 106) rfl ?_); refine cU_ (some 12) Try.func106 #[.agg #[.slice A0_0 l0_0.length c0_0, .slice Ao7 l0_1.length co7], .int .i64 a1] ?_; (with_reducible refine (spec_l06Ask.calls k _ _ l0_0 _ _ l0_1 a1 t230 _ ?side1 ?side2 ?side3 ?side4 A3.out).mono ?_); (case side1 => exact Kd.C_kept_now HR0_0.out (by repeat (first | (with_reducible first | exact HK.out | apply Kept.alloc | apply Kept.drewN | apply Kept.drew | refine Kept.setCell ?_ (.inr GW228.out) _ | refine Kept.setCell ?_ (.inr GW229.out) _) | exact HK.out))); (case side2 => exact HC0_0.out); (case side3 => repeat (first | exact (Kd.R_reads' HO0_1.out).2.2 | (with_reducible refine Kd.C_alloc ?_ _) | (with_reducible refine Kd.C_drewN ?_ _) | (with_reducible refine Kd.C_drew ?_))); (case side4 => exact (Kd.R_reads' HO0_1.out).2.1); rintro e w12 ⟨rfl, hb⟩; refine ⟨_, rfl, ?_⟩; have n0_ := Aside0.mk (Kd.R_below (by (with_reducible repeat (first | apply Kd.R_alloc | apply Kd.R_drewN | apply Kd.R_drew)); exact HO0_1.out) hb); have n1_ := blkB_ (g := gb228) (o := .cells #[.slice A0_0 l0_0.length c0_0, .slice Ao7 l0_1.length co7] 49 (0, 0)) hb; have n2_ := blkB_ (g := gb229) (o := .cells #[.slice none 0 0, .slice none 0 0] 49 (0, 0)) hb; have n3_ := Aside0.mk (Kept.below (S := (fun k_ => P0_1_ k_)) (by repeat (first | (with_reducible first | exact HK.out | apply Kept.alloc | apply Kept.drewN | apply Kept.drew | refine Kept.setCell ?_ (.inr GW228.out) _ | refine Kept.setCell ?_ (.inr GW229.out) _) | exact HK.out)) hb); have n4_ := Aside0.mk (below_step (by repeat (first | (with_reducible first | exact HB.out | apply below_alloc | apply pw_below_drewN | apply below_drew1 | refine below_set ?_ GE228.out | refine below_set ?_ GE229.out) | exact HB.out)) hb); clear HO0_1; clear BK228; clear BK229; clear HK; clear HB; have HO0_1 := n0_; have BK228 := n1_; have BK229 := n2_; have HK := n3_; have HB := n4_; clear n0_ n1_ n2_ n3_ n4_; (try clear hb); (try clear hb2); (try clear hk); (try clear hi); obtain ⟨hcz13_0, hcz13_1, hfz13_0, hfz13_1⟩ := cz2_ BK228) | ((with_reducible refine gate_callee (f := 110) rfl ?_); refine cU_ (some 21) Try.func110 #[.agg #[.slice A0_0 l0_0.length c0_0, .slice Ao7 l0_1.length co7], .int .i64 a1] ?_; (with_reducible refine (spec_l06Missed.calls k _ _ l0_0 (fun k_ => some k_ = (.slice Ao7 l0_1.length co7 : Value).ownBlock) (.slice Ao7 l0_1.length co7) l0_1 a1 t231 t234 t237 w0 _ ?side1 ?side2 ?side3 ?side4 A5.out).mono ?_); (case side1 => repeat (first | (with_reducible first | exact HB.out | apply below_alloc | apply pw_below_drewN | apply below_drew1 | refine below_set ?_ GE228.out | refine below_set ?_ GE229.out) | exact HB.out)); (case side2 => exact Kd.C_kept_call HR0_0.out (by repeat (first | (with_reducible first | exact HK.out | apply Kept.alloc | apply Kept.drewN | apply Kept.drew | refine Kept.setCell ?_ (.inr GW228.out) _ | refine Kept.setCell ?_ (.inr GW229.out) _) | exact HK.out)) (fun k_ hs_ => (fun e_ => (HO0_1.out.1 k_ e_.symm)) hs_)); (case side3 => exact HC0_0.out); (case side4 => exact Kd.R_tight rfl HO0_1.out); rintro e w14 ⟨v232, v235, v238, rfl, ho0, ho1, ho2, hb, hkp⟩; refine ⟨_, rfl, ?_⟩; have n0_ := Aside0.mk (blk_kept (by (with_reducible repeat (first | refine blk_drewN ?_ _ | refine blk_drew ?_ | refine blk_alloc ?_ _)); exact BK228.out) hkp (fun hs_ => (fun e_ => (Kd.R_ne HO0_1.out BK228.out (by decide)) e_) hs_)); have n1_ := Aside0.mk (blk_kept (by (with_reducible repeat (first | refine blk_drewN ?_ _ | refine blk_drew ?_ | refine blk_alloc ?_ _)); exact BK229.out) hkp (fun hs_ => (fun e_ => (Kd.R_ne HO0_1.out BK229.out (by decide)) e_) hs_)); have n2_ := Aside0.mk (Kd.R_mono (ok' := fun k_ => (P0_1_ k_ ∨ w.heap.size ≤ k_)) ho0 (fun k_ hk_ => Or.elim hk_ (fun hs_ => (HO0_1.out.1 k_ (hs_).symm)) (fun hn_ => (.inr (Nat.le_trans (by first | exact HK.out.1 | exact (show Kept w _ (fun k_ => P0_1_ k_) from by repeat (first | (with_reducible first | exact HK.out | apply Kept.alloc | apply Kept.drewN | apply Kept.drew | refine Kept.setCell ?_ (.inr GW228.out) _ | refine Kept.setCell ?_ (.inr GW229.out) _) | exact HK.out)).1) hn_))))); have n3_ := Aside0.mk (Kd.R_mono (ok' := fun k_ => (P0_1_ k_ ∨ w.heap.size ≤ k_)) ho1 (fun k_ hk_ => Or.elim hk_ (fun hs_ => (HO0_1.out.1 k_ (hs_).symm)) (fun hn_ => (.inr (Nat.le_trans (by first | exact HK.out.1 | exact (show Kept w _ (fun k_ => P0_1_ k_) from by repeat (first | (with_reducible first | exact HK.out | apply Kept.alloc | apply Kept.drewN | apply Kept.drew | refine Kept.setCell ?_ (.inr GW228.out) _ | refine Kept.setCell ?_ (.inr GW229.out) _) | exact HK.out)).1) hn_))))); have n4_ := Aside0.mk (Kd.R_mono (ok' := fun k_ => (P0_1_ k_ ∨ w.heap.size ≤ k_)) ho2 (fun k_ hk_ => Or.elim hk_ (fun hs_ => (HO0_1.out.1 k_ (hs_).symm)) (fun hn_ => (.inr (Nat.le_trans (by first | exact HK.out.1 | exact (show Kept w _ (fun k_ => P0_1_ k_) from by repeat (first | (with_reducible first | exact HK.out | apply Kept.alloc | apply Kept.drewN | apply Kept.drew | refine Kept.setCell ?_ (.inr GW228.out) _ | refine Kept.setCell ?_ (.inr GW229.out) _) | exact HK.out)).1) hn_))))); have n5_ := Aside0.mk (Kept.then_ (S := (fun k_ => P0_1_ k_)) (by repeat (first | (with_reducible first | exact HK.out | apply Kept.alloc | apply Kept.drewN | apply Kept.drew | refine Kept.setCell ?_ (.inr GW228.out) _ | refine Kept.setCell ?_ (.inr GW229.out) _) | exact HK.out)) hkp (fun k_ hs_ => (fun e_ => (HO0_1.out.1 k_ e_.symm)) hs_)); have n6_ := Aside0.mk (hb); clear BK228; clear BK229; clear HK; clear HB; clear HO0_1; have BK228 := n0_; have BK229 := n1_; have HO233 := n2_; have HO236 := n3_; have HO239 := n4_; have HK := n5_; have HB := n6_; clear n0_ n1_ n2_ n3_ n4_ n5_ n6_; (try clear hb); (try clear hkp); (try clear ho0); (try clear ho1); (try clear ho2)) | ((with_reducible refine gate_dst (N := 8) rfl ?_); refine box_event ?hg (N := 8) ?hd (cs := #[.slice none 0 0, .slice none 0 0]) (t := 49) ?hr ?_; (case hd => rfl); (case hg => rfl); (case hr => first | (go_simp; done) | (go_simp; rfl)); intro gb240 hg w15 hbox hb; have n0_ := Aside0.mk (Kd.R_below (by (with_reducible repeat (first | apply Kd.R_alloc | apply Kd.R_drewN | apply Kd.R_drew)); exact HO233.out) hb); have n1_ := Aside0.mk (Kd.R_below (by (with_reducible repeat (first | apply Kd.R_alloc | apply Kd.R_drewN | apply Kd.R_drew)); exact HO236.out) hb); have n2_ := Aside0.mk (Kd.R_below (by (with_reducible repeat (first | apply Kd.R_alloc | apply Kd.R_drewN | apply Kd.R_drew)); exact HO239.out) hb); have n3_ := blkB_ (g := gb228) (o := .cells #[.slice A0_0 l0_0.length c0_0, .slice Ao7 l0_1.length co7] 49 (0, 0)) hb; have n4_ := blkB_ (g := gb229) (o := .cells #[.slice none 0 0, .slice none 0 0] 49 (0, 0)) hb; have n5_ := Aside0.mk (Kept.below (S := (fun k_ => P0_1_ k_)) (by repeat (first | (with_reducible first | exact HK.out | apply Kept.alloc | apply Kept.drewN | apply Kept.drew | refine Kept.setCell ?_ (.inr GW228.out) _ | refine Kept.setCell ?_ (.inr GW229.out) _) | exact HK.out)) hb); have n6_ := Aside0.mk (below_step (by repeat (first | (with_reducible first | exact HB.out | apply below_alloc | apply pw_below_drewN | apply below_drew1 | refine below_set ?_ GE228.out | refine below_set ?_ GE229.out) | exact HB.out)) hb); have n7_ := Aside0.mk (hbox); have n8_ := Aside0.mk ((by rw [hg]; exact (by first | exact HK.out.1 | exact (show Kept w _ (fun k_ => P0_1_ k_) from by repeat (first | (with_reducible first | exact HK.out | apply Kept.alloc | apply Kept.drewN | apply Kept.drew | refine Kept.setCell ?_ (.inr GW228.out) _ | refine Kept.setCell ?_ (.inr GW229.out) _) | exact HK.out)).1) : w.heap.size ≤ gb240)); have n9_ := Aside0.mk ((by rw [hg]; exact (below_size (by repeat (first | (with_reducible first | exact HB.out | apply below_alloc | apply pw_below_drewN | apply below_drew1 | refine below_set ?_ GE228.out | refine below_set ?_ GE229.out) | exact HB.out))) : w0.heap.size ≤ gb240)); have n10_ := Aside0.mk ((by rw [hg]; exact Nat.ne_of_lt (blk_lt (g := gb228) (o := .cells #[.slice A0_0 l0_0.length c0_0, .slice Ao7 l0_1.length co7] 49 (0, 0)) (by (with_reducible repeat (first | refine blk_drewN ?_ _ | refine blk_drew ?_ | refine blk_alloc ?_ _)); exact BK228.out)) : gb228 ≠ gb240)); have n11_ := Aside0.mk ((by rw [hg]; exact Nat.ne_of_gt (blk_lt (g := gb228) (o := .cells #[.slice A0_0 l0_0.length c0_0, .slice Ao7 l0_1.length co7] 49 (0, 0)) (by (with_reducible repeat (first | refine blk_drewN ?_ _ | refine blk_drew ?_ | refine blk_alloc ?_ _)); exact BK228.out)) : gb240 ≠ gb228)); have n12_ := Aside0.mk ((by rw [hg]; exact Nat.ne_of_lt (blk_lt (g := gb229) (o := .cells #[.slice none 0 0, .slice none 0 0] 49 (0, 0)) (by (with_reducible repeat (first | refine blk_drewN ?_ _ | refine blk_drew ?_ | refine blk_alloc ?_ _)); exact BK229.out)) : gb229 ≠ gb240)); have n13_ := Aside0.mk ((by rw [hg]; exact Nat.ne_of_gt (blk_lt (g := gb229) (o := .cells #[.slice none 0 0, .slice none 0 0] 49 (0, 0)) (by (with_reducible repeat (first | refine blk_drewN ?_ _ | refine blk_drew ?_ | refine blk_alloc ?_ _)); exact BK229.out)) : gb240 ≠ gb229)); clear HO233; clear HO236; clear HO239; clear BK228; clear BK229; clear HK; clear HB; have HO233 := n0_; have HO236 := n1_; have HO239 := n2_; have BK228 := n3_; have BK229 := n4_; have HK := n5_; have HB := n6_; have BK240 := n7_; have GW240 := n8_; have GE240 := n9_; have NB228_240 := n10_; have NB240_228 := n11_; have NB229_240 := n12_; have NB240_229 := n13_; clear n0_ n1_ n2_ n3_ n4_ n5_ n6_ n7_ n8_ n9_ n10_ n11_ n12_ n13_; clear hb hbox hg; obtain ⟨Ao16, co16, eo16⟩ := Kd.R_slice HO233.out; subst eo16; have hnb17 := NB240_228.out; have hnc17 := NB228_240.out; have hnb18 := NB240_229.out; have hnc18 := NB229_240.out; obtain ⟨hcz19_0, hcz19_1, hfz19_0, hfz19_1⟩ := cz2_ BK240; obtain ⟨Ao20, co20, eo20⟩ := Kd.R_slice HO236.out; subst eo20) | ((with_reducible refine gate_callee (f := 96) rfl ?_); refine cU_ (some 25) Try.func96 #[.agg #[.slice Ao16 t231.length co16, .slice Ao20 t234.length co20]] ?_; (with_reducible refine (spec_l06Own.calls _ _ t231 _ _ t234 t241 t244 _ ?side1 ?side2 ?side3 ?side4 A6.out).mono ?_); (case side1 => refine (Kd.R_reads' (e := 64) (base := w0.heap.size) (ok := fun k_ => (P0_1_ k_ ∨ w.heap.size ≤ k_)) (n := t231.length) (c := co16) ?_).2.2; exact (by (with_reducible repeat (first | apply Kd.R_alloc | apply Kd.R_drewN | apply Kd.R_drew)); exact (Kd.R_mono (Kd.R_far (p := ⟨gb240, 1, none⟩) (Kd.R_far (p := ⟨gb240, 0, none⟩) (Kd.R_types HO233.out BK240.out (by decide)) (fun _ hk => hk.2) (.slice Ao16 t231.length co16)) (fun _ hk => hk.2) (.slice Ao20 t234.length co20)) (fun _ h_ => h_.1)))); (case side2 => exact (Kd.R_reads' HO233.out).2.1); (case side3 => refine (Kd.R_reads' (e := 9) (base := w0.heap.size) (ok := fun k_ => (P0_1_ k_ ∨ w.heap.size ≤ k_)) (n := t234.length) (c := co20) ?_).2.2; exact (by (with_reducible repeat (first | apply Kd.R_alloc | apply Kd.R_drewN | apply Kd.R_drew)); exact (Kd.R_mono (Kd.R_far (p := ⟨gb240, 1, none⟩) (Kd.R_far (p := ⟨gb240, 0, none⟩) (Kd.R_types HO236.out BK240.out (by decide)) (fun _ hk => hk.2) (.slice Ao16 t231.length co16)) (fun _ hk => hk.2) (.slice Ao20 t234.length co20)) (fun _ h_ => h_.1)))); (case side4 => exact (Kd.R_reads' HO236.out).2.1); rintro e w21 ⟨v242, v245, rfl, ho0, ho1, hb⟩; refine ⟨_, rfl, ?_⟩; have n0_ := Aside0.mk (Kd.R_elder' (by (with_reducible repeat (first | apply Kd.R_alloc | apply Kd.R_drewN | apply Kd.R_drew)); exact (Kd.R_mono (Kd.R_far (p := ⟨gb240, 1, none⟩) (Kd.R_far (p := ⟨gb240, 0, none⟩) (Kd.R_types HO233.out BK240.out (by decide)) (fun _ hk => hk.2) (.slice Ao16 t231.length co16)) (fun _ hk => hk.2) (.slice Ao20 t234.length co20)) (fun _ h_ => h_.1))) (Kd.R_base ho0) hb); have n1_ := Aside0.mk (Kd.R_elder' (by (with_reducible repeat (first | apply Kd.R_alloc | apply Kd.R_drewN | apply Kd.R_drew)); exact (Kd.R_mono (Kd.R_far (p := ⟨gb240, 1, none⟩) (Kd.R_far (p := ⟨gb240, 0, none⟩) (Kd.R_types HO236.out BK240.out (by decide)) (fun _ hk => hk.2) (.slice Ao16 t231.length co16)) (fun _ hk => hk.2) (.slice Ao20 t234.length co20)) (fun _ h_ => h_.1))) (Kd.R_base ho1) hb); have n2_ := Aside0.mk (Kd.R_below (by (with_reducible repeat (first | apply Kd.R_alloc | apply Kd.R_drewN | apply Kd.R_drew)); exact (Kd.R_mono (Kd.R_far (p := ⟨gb240, 1, none⟩) (Kd.R_far (p := ⟨gb240, 0, none⟩) (Kd.R_types HO239.out BK240.out (by decide)) (fun _ hk => hk.2) (.slice Ao16 t231.length co16)) (fun _ hk => hk.2) (.slice Ao20 t234.length co20)) (fun _ h_ => h_.1))) hb); have n3_ := Aside0.mk (Kd.R_lower (Kd.R_new' (Kd.R_newM (M := fun k_ => (P0_1_ k_ ∨ w.heap.size ≤ k_)) ho0 (show Kept w _ (fun k_ => P0_1_ k_) from by repeat (first | (with_reducible first | exact HK.out | apply Kept.alloc | apply Kept.drewN | apply Kept.drew | refine Kept.setCell ?_ (.inr GW228.out) _ | refine Kept.setCell ?_ (.inr GW229.out) _ | refine Kept.setCell ?_ (.inr GW240.out) _) | exact HK.out)).1 (fun k_ h_ => .inr h_)) (Kd.R_lt (by (with_reducible repeat (first | apply Kd.R_alloc | apply Kd.R_drewN | apply Kd.R_drew)); exact (Kd.R_mono (Kd.R_far (p := ⟨gb240, 1, none⟩) (Kd.R_far (p := ⟨gb240, 0, none⟩) (Kd.R_types HO233.out BK240.out (by decide)) (fun _ hk => hk.2) (.slice Ao16 t231.length co16)) (fun _ hk => hk.2) (.slice Ao20 t234.length co20)) (fun _ h_ => h_.1))))) (below_size (by repeat (first | (with_reducible first | exact HB.out | apply below_alloc | apply pw_below_drewN | apply below_drew1 | refine below_set ?_ GE228.out | refine below_set ?_ GE229.out | refine below_set ?_ GE240.out) | exact HB.out)))); have n4_ := Aside0.mk (Kd.R_lower (Kd.R_new' (Kd.R_newM (M := fun k_ => (P0_1_ k_ ∨ w.heap.size ≤ k_)) ho1 (show Kept w _ (fun k_ => P0_1_ k_) from by repeat (first | (with_reducible first | exact HK.out | apply Kept.alloc | apply Kept.drewN | apply Kept.drew | refine Kept.setCell ?_ (.inr GW228.out) _ | refine Kept.setCell ?_ (.inr GW229.out) _ | refine Kept.setCell ?_ (.inr GW240.out) _) | exact HK.out)).1 (fun k_ h_ => .inr h_)) (Kd.R_lt (by (with_reducible repeat (first | apply Kd.R_alloc | apply Kd.R_drewN | apply Kd.R_drew)); exact (Kd.R_mono (Kd.R_far (p := ⟨gb240, 1, none⟩) (Kd.R_far (p := ⟨gb240, 0, none⟩) (Kd.R_types HO236.out BK240.out (by decide)) (fun _ hk => hk.2) (.slice Ao16 t231.length co16)) (fun _ hk => hk.2) (.slice Ao20 t234.length co20)) (fun _ h_ => h_.1))))) (below_size (by repeat (first | (with_reducible first | exact HB.out | apply below_alloc | apply pw_below_drewN | apply below_drew1 | refine below_set ?_ GE228.out | refine below_set ?_ GE229.out | refine below_set ?_ GE240.out) | exact HB.out)))); have n5_ := Aside0.mk (blk_below (g := gb228) (o := .cells #[.slice A0_0 l0_0.length c0_0, .slice Ao7 l0_1.length co7] 49 (0, 0)) farE_ hb); have n6_ := Aside0.mk (blk_below (g := gb229) (o := .cells #[.slice none 0 0, .slice none 0 0] 49 (0, 0)) farE_ hb); have n7_ := Aside0.mk (blk_below (g := gb240) (o := .cells #[.slice Ao16 t231.length co16, .slice Ao20 t234.length co20] 49 (0, 0)) (by (with_reducible repeat (first | refine blk_drewN ?_ _ | refine blk_drew ?_ | refine blk_alloc ?_ _)); refine blk_put (cs := #[.slice Ao16 t231.length co16, .slice none 0 0]) ?_ 1 _ rfl; (with_reducible repeat (first | refine blk_drewN ?_ _ | refine blk_drew ?_ | refine blk_alloc ?_ _)); refine blk_put (cs := #[.slice none 0 0, .slice none 0 0]) ?_ 0 _ rfl; (with_reducible repeat (first | refine blk_drewN ?_ _ | refine blk_drew ?_ | refine blk_alloc ?_ _)); exact BK240.out) hb); have n8_ := Aside0.mk (Kept.below (S := (fun k_ => P0_1_ k_)) (by repeat (first | (with_reducible first | exact HK.out | apply Kept.alloc | apply Kept.drewN | apply Kept.drew | refine Kept.setCell ?_ (.inr GW228.out) _ | refine Kept.setCell ?_ (.inr GW229.out) _ | refine Kept.setCell ?_ (.inr GW240.out) _) | exact HK.out)) hb); have n9_ := Aside0.mk (below_step (by repeat (first | (with_reducible first | exact HB.out | apply below_alloc | apply pw_below_drewN | apply below_drew1 | refine below_set ?_ GE228.out | refine below_set ?_ GE229.out | refine below_set ?_ GE240.out) | exact HB.out)) hb); clear HO233; clear HO236; clear HO239; clear BK228; clear BK229; clear BK240; clear HK; clear HB; have HO233 := n0_; have HO236 := n1_; have HO239 := n2_; have HO243 := n3_; have HO246 := n4_; have BK228 := n5_; have BK229 := n6_; have BK240 := n7_; have HK := n8_; have HB := n9_; clear n0_ n1_ n2_ n3_ n4_ n5_ n6_ n7_ n8_ n9_; (try clear hb); (try clear hb2); (try clear hk); (try clear hi); (try clear ho0); (try clear ho1); obtain ⟨Ao22, co22, eo22⟩ := Kd.R_slice HO243.out; subst eo22; obtain ⟨hcz23_0, hcz23_1, hfz23_0, hfz23_1⟩ := cz2_ BK229; obtain ⟨Ao24, co24, eo24⟩ := Kd.R_slice HO246.out; subst eo24))
  refine bodyPost_ret (results_ctt rfl _ _ gb229 49 #[.slice Ao22 t241.length co22, .slice Ao24 t244.length co24] (0, 0) _ rfl (by (with_reducible repeat (first | refine blk_drewN ?_ _ | refine blk_drew ?_ | refine blk_alloc ?_ _)); refine blk_put (cs := #[.slice Ao22 t241.length co22, .slice none 0 0]) ?_ 1 _ rfl; (with_reducible repeat (first | refine blk_drewN ?_ _ | refine blk_drew ?_ | refine blk_alloc ?_ _)); refine blk_put (cs := #[.slice none 0 0, .slice none 0 0]) ?_ 0 _ rfl; (with_reducible repeat (first | refine blk_drewN ?_ _ | refine blk_drew ?_ | refine blk_alloc ?_ _)); exact BK229.out) Try.underlying49 rfl (by kernel_rfl)) rfl ?_
  exact ⟨_, _, _, by first | rfl | (simp [errW_none, errW_some] <;> rfl) | (simp [*, errW_none, errW_some] <;> rfl), by (with_reducible repeat (first | apply Kd.R_alloc | apply Kd.R_drewN | apply Kd.R_drew)); exact Kd.R_mono (Kd.R_far (p := ⟨gb229, 1, none⟩) (Kd.R_far (p := ⟨gb229, 0, none⟩) (Kd.R_types HO243.out BK229.out (by decide)) (fun _ hk => hk.2) (.slice Ao22 t241.length co22)) (fun _ hk => hk.2) (.slice Ao24 t244.length co24)) (fun _ hk => hk.1.1.1), by (with_reducible repeat (first | apply Kd.R_alloc | apply Kd.R_drewN | apply Kd.R_drew)); exact Kd.R_mono (Kd.R_far (p := ⟨gb229, 1, none⟩) (Kd.R_far (p := ⟨gb229, 0, none⟩) (Kd.R_types HO246.out BK229.out (by decide)) (fun _ hk => hk.2) (.slice Ao22 t241.length co22)) (fun _ hk => hk.2) (.slice Ao24 t244.length co24)) (fun _ hk => hk.1.1.1), by (with_reducible repeat (first | apply Kd.R_alloc | apply Kd.R_drewN | apply Kd.R_drew)); exact Kd.R_mono (Kd.R_far (p := ⟨gb229, 1, none⟩) (Kd.R_far (p := ⟨gb229, 0, none⟩) (Kd.R_types HO239.out BK229.out (by decide)) (fun _ hk => hk.2) (.slice Ao22 t241.length co22)) (fun _ hk => hk.2) (.slice Ao24 t244.length co24)) (fun _ hk => hk.1), by repeat (first | (with_reducible first | exact HB.out | apply below_alloc | apply pw_below_drewN | apply below_drew1 | refine below_set ?_ GE228.out | refine below_set ?_ GE229.out | refine below_set ?_ GE240.out) | exact HB.out), by repeat (first | (with_reducible first | exact HK.out | apply Kept.alloc | apply Kept.drewN | apply Kept.drew | refine Kept.setCell ?_ (.inr GW228.out) _ | refine Kept.setCell ?_ (.inr GW229.out) _ | refine Kept.setCell ?_ (.inr GW240.out) _) | exact HK.out)⟩
 ·
  rw [if_neg c4] at H
  have c4b0 : (t230 == 0) = false := beq_eq_false_iff_ne.mpr c4
  have c4b1 : (t230 != 0) = true := bne_iff_ne.mpr c4
  obtain ⟨y247, hy247⟩ : ∃ y_ : List Int, y_ = (([] : List Int)) := ⟨_, rfl⟩
  replace H : (some (([] : List (S64)), ([] : List ByteArray), y247, t230)) = some (r1, r2, r3, r4) := by first | (rw [hy247]; with_reducible exact H) | (have H2_ := (Option.bind_some _ _).symm.trans H; rw [hy247]; with_reducible exact H2_) | (have H2_ := (Option.bind_some _ _).symm.trans H; with_reducible exact H2_) | with_reducible exact H | (rw [hy247]; exact H) | exact H
  have Ny247 := Aside0.mk hy247
  clear hy247
  simp only [Option.some.injEq, Prod.mk.injEq] at H
  obtain ⟨rfl, rfl, rfl, rfl⟩ := H
  obtain ⟨Ao25, co25, eo25⟩ := Kd.R_slice HO0_1.out
  subst eo25
  go_enter Try.func49, Try.ntmps49
  go_wp2_with (first | ((with_reducible refine gate_dst (N := 2) rfl ?_); refine box_event ?hg (N := 2) ?hd (cs := #[.slice A0_0 l0_0.length c0_0, .slice Ao25 l0_1.length co25]) (t := 49) ?hr ?_; (case hd => rfl); (case hg => rfl); (case hr => first | (go_simp; done) | (go_simp; rfl)); intro gb228 hg w26 hbox hb; have n0_ := Aside0.mk (Kd.R_below (by (with_reducible repeat (first | apply Kd.R_alloc | apply Kd.R_drewN | apply Kd.R_drew)); exact HO0_1.out) hb); have n1_ := Aside0.mk (Kept.below (S := (fun k_ => P0_1_ k_)) (by repeat (first | (with_reducible first | exact HK.out | apply Kept.alloc | apply Kept.drewN | apply Kept.drew) | exact HK.out)) hb); have n2_ := belB_ hb; have n3_ := Aside0.mk (hbox); have n4_ := Aside0.mk ((by rw [hg]; exact (by first | exact HK.out.1 | exact (show Kept w _ (fun k_ => P0_1_ k_) from by repeat (first | (with_reducible first | exact HK.out | apply Kept.alloc | apply Kept.drewN | apply Kept.drew) | exact HK.out)).1) : w.heap.size ≤ gb228)); have n5_ := Aside0.mk ((by rw [hg]; exact (below_size (by repeat (first | (with_reducible first | exact HB.out | apply below_alloc | apply pw_below_drewN | apply below_drew1) | exact HB.out))) : w0.heap.size ≤ gb228)); clear HO0_1; clear HK; clear HB; have HO0_1 := n0_; have HK := n1_; have HB := n2_; have BK228 := n3_; have GW228 := n4_; have GE228 := n5_; clear n0_ n1_ n2_ n3_ n4_ n5_; clear hb hbox hg) | ((with_reducible refine gate_dst (N := 4) rfl ?_); refine box_event ?hg (N := 4) ?hd (cs := #[.slice none 0 0, .slice none 0 0]) (t := 49) ?hr ?_; (case hd => rfl); (case hg => rfl); (case hr => first | (go_simp; done) | (go_simp; rfl)); intro gb229 hg w27 hbox hb; have n0_ := Aside0.mk (Kd.R_below (by (with_reducible repeat (first | apply Kd.R_alloc | apply Kd.R_drewN | apply Kd.R_drew)); exact HO0_1.out) hb); have n1_ := blkB_ (g := gb228) (o := .cells #[.slice A0_0 l0_0.length c0_0, .slice Ao25 l0_1.length co25] 49 (0, 0)) hb; have n2_ := Aside0.mk (Kept.below (S := (fun k_ => P0_1_ k_)) (by repeat (first | (with_reducible first | exact HK.out | apply Kept.alloc | apply Kept.drewN | apply Kept.drew | refine Kept.setCell ?_ (.inr GW228.out) _) | exact HK.out)) hb); have n3_ := belB_ hb; have n4_ := Aside0.mk (hbox); have n5_ := Aside0.mk ((by rw [hg]; exact (by first | exact HK.out.1 | exact (show Kept w _ (fun k_ => P0_1_ k_) from by repeat (first | (with_reducible first | exact HK.out | apply Kept.alloc | apply Kept.drewN | apply Kept.drew | refine Kept.setCell ?_ (.inr GW228.out) _) | exact HK.out)).1) : w.heap.size ≤ gb229)); have n6_ := Aside0.mk ((by rw [hg]; exact (below_size (by repeat (first | (with_reducible first | exact HB.out | apply below_alloc | apply pw_below_drewN | apply below_drew1 | refine below_set ?_ GE228.out) | exact HB.out))) : w0.heap.size ≤ gb229)); have n7_ := Aside0.mk ((by rw [hg]; exact Nat.ne_of_lt (blk_lt (g := gb228) (o := .cells #[.slice A0_0 l0_0.length c0_0, .slice Ao25 l0_1.length co25] 49 (0, 0)) (by (with_reducible repeat (first | refine blk_drewN ?_ _ | refine blk_drew ?_ | refine blk_alloc ?_ _)); exact BK228.out)) : gb228 ≠ gb229)); have n8_ := Aside0.mk ((by rw [hg]; exact Nat.ne_of_gt (blk_lt (g := gb228) (o := .cells #[.slice A0_0 l0_0.length c0_0, .slice Ao25 l0_1.length co25] 49 (0, 0)) (by (with_reducible repeat (first | refine blk_drewN ?_ _ | refine blk_drew ?_ | refine blk_alloc ?_ _)); exact BK228.out)) : gb229 ≠ gb228)); clear HO0_1; clear BK228; clear HK; clear HB; have HO0_1 := n0_; have BK228 := n1_; have HK := n2_; have HB := n3_; have BK229 := n4_; have GW229 := n5_; have GE229 := n6_; have NB228_229 := n7_; have NB229_228 := n8_; clear n0_ n1_ n2_ n3_ n4_ n5_ n6_ n7_ n8_; clear hb hbox hg; have hnb28 := NB228_229.out; have hnc28 := NB229_228.out; obtain ⟨hcz29_0, hcz29_1, hfz29_0, hfz29_1⟩ := cz2_ BK228) | ((with_reducible refine gate_callee (f := 106) rfl ?_); refine cU_ (some 12) Try.func106 #[.agg #[.slice A0_0 l0_0.length c0_0, .slice Ao25 l0_1.length co25], .int .i64 a1] ?_; (with_reducible refine (spec_l06Ask.calls k _ _ l0_0 _ _ l0_1 a1 t230 _ ?side1 ?side2 ?side3 ?side4 A3.out).mono ?_); (case side1 => exact Kd.C_kept_now HR0_0.out (by repeat (first | (with_reducible first | exact HK.out | apply Kept.alloc | apply Kept.drewN | apply Kept.drew | refine Kept.setCell ?_ (.inr GW228.out) _ | refine Kept.setCell ?_ (.inr GW229.out) _) | exact HK.out))); (case side2 => exact HC0_0.out); (case side3 => repeat (first | exact (Kd.R_reads' HO0_1.out).2.2 | (with_reducible refine Kd.C_alloc ?_ _) | (with_reducible refine Kd.C_drewN ?_ _) | (with_reducible refine Kd.C_drew ?_))); (case side4 => exact (Kd.R_reads' HO0_1.out).2.1); rintro e w30 ⟨rfl, hb⟩; refine ⟨_, rfl, ?_⟩; have n0_ := Aside0.mk (Kd.R_below (by (with_reducible repeat (first | apply Kd.R_alloc | apply Kd.R_drewN | apply Kd.R_drew)); exact HO0_1.out) hb); have n1_ := blkB_ (g := gb228) (o := .cells #[.slice A0_0 l0_0.length c0_0, .slice Ao25 l0_1.length co25] 49 (0, 0)) hb; have n2_ := blkB_ (g := gb229) (o := .cells #[.slice none 0 0, .slice none 0 0] 49 (0, 0)) hb; have n3_ := Aside0.mk (Kept.below (S := (fun k_ => P0_1_ k_)) (by repeat (first | (with_reducible first | exact HK.out | apply Kept.alloc | apply Kept.drewN | apply Kept.drew | refine Kept.setCell ?_ (.inr GW228.out) _ | refine Kept.setCell ?_ (.inr GW229.out) _) | exact HK.out)) hb); have n4_ := Aside0.mk (below_step (by repeat (first | (with_reducible first | exact HB.out | apply below_alloc | apply pw_below_drewN | apply below_drew1 | refine below_set ?_ GE228.out | refine below_set ?_ GE229.out) | exact HB.out)) hb); clear HO0_1; clear BK228; clear BK229; clear HK; clear HB; have HO0_1 := n0_; have BK228 := n1_; have BK229 := n2_; have HK := n3_; have HB := n4_; clear n0_ n1_ n2_ n3_ n4_; (try clear hb); (try clear hb2); (try clear hk); (try clear hi)) | ((with_reducible refine gate_dst (N := 16) rfl ?_); refine Kd.R_lit (Kd.int .i64) _ 3 ?hg (N := 16) ?hd (xs := ([] : List Int)) (inner := []) (ok := fun _ => True) (okp := fun _ => True) ?hr ?hp (fun _ hk => hk) trivial (Below.refl _ _) (Nat.le_refl _) (by simp) ?_; (case hd => rfl); (case hg => rfl); (case hr => first | (go_simp; done) | (go_simp; rfl)); (case hp => exact (Reps.none _ _)); intro v248 w31 ho32 hb hg_ hnew_; clear hg_ hnew_; (first | rw [← Ny247.out] at ho32 | (simp only [Int.reduceToNat] at ho32; rw [← Ny247.out] at ho32)); have n0_ := Aside0.mk (Kd.R_below (by (with_reducible repeat (first | apply Kd.R_alloc | apply Kd.R_drewN | apply Kd.R_drew)); exact HO0_1.out) hb); have n1_ := Aside0.mk (Kd.R_lower (Kd.R_newM (M := fun k_ => (P0_1_ k_ ∨ w.heap.size ≤ k_)) ho32 (by first | exact HK.out.1 | exact (show Kept w _ (fun k_ => P0_1_ k_) from by repeat (first | (with_reducible first | exact HK.out | apply Kept.alloc | apply Kept.drewN | apply Kept.drew | refine Kept.setCell ?_ (.inr GW228.out) _ | refine Kept.setCell ?_ (.inr GW229.out) _) | exact HK.out)).1) (fun k_ h_ => .inr h_)) (below_size (by repeat (first | (with_reducible first | exact HB.out | apply below_alloc | apply pw_below_drewN | apply below_drew1 | refine below_set ?_ GE228.out | refine below_set ?_ GE229.out) | exact HB.out)))); have n2_ := blkB_ (g := gb228) (o := .cells #[.slice A0_0 l0_0.length c0_0, .slice Ao25 l0_1.length co25] 49 (0, 0)) hb; have n3_ := blkB_ (g := gb229) (o := .cells #[.slice none 0 0, .slice none 0 0] 49 (0, 0)) hb; have n4_ := Aside0.mk (Kept.below (S := (fun k_ => P0_1_ k_)) (by repeat (first | (with_reducible first | exact HK.out | apply Kept.alloc | apply Kept.drewN | apply Kept.drew | refine Kept.setCell ?_ (.inr GW228.out) _ | refine Kept.setCell ?_ (.inr GW229.out) _) | exact HK.out)) hb); have n5_ := Aside0.mk (below_step (by repeat (first | (with_reducible first | exact HB.out | apply below_alloc | apply pw_below_drewN | apply below_drew1 | refine below_set ?_ GE228.out | refine below_set ?_ GE229.out) | exact HB.out)) hb); clear HO0_1; clear BK228; clear BK229; clear HK; clear HB; have HO0_1 := n0_; have HO249 := n1_; have BK228 := n2_; have BK229 := n3_; have HK := n4_; have HB := n5_; clear n0_ n1_ n2_ n3_ n4_ n5_; clear hb ho32; obtain ⟨hcz33_0, hcz33_1, hfz33_0, hfz33_1⟩ := cz2_ BK229))
  refine bodyPost_ret (results_ctt rfl _ _ gb229 49 #[.slice none 0 0, .slice none 0 0] (0, 0) _ rfl (by (with_reducible repeat (first | refine blk_drewN ?_ _ | refine blk_drew ?_ | refine blk_alloc ?_ _)); refine blk_put (cs := #[.slice none 0 0, .slice none 0 0]) ?_ 1 _ rfl; (with_reducible repeat (first | refine blk_drewN ?_ _ | refine blk_drew ?_ | refine blk_alloc ?_ _)); refine blk_put (cs := #[.slice none 0 0, .slice none 0 0]) ?_ 0 _ rfl; (with_reducible repeat (first | refine blk_drewN ?_ _ | refine blk_drew ?_ | refine blk_alloc ?_ _)); exact BK229.out) Try.underlying49 rfl (by kernel_rfl)) rfl ?_
  exact ⟨_, _, _, by first | rfl | (simp [errW_none, errW_some] <;> rfl) | (simp [*, errW_none, errW_some] <;> rfl), by first | exact Kd.R_nil _ _ _ _ _ | exact Kd.N_nil _ _ _ _ _ | exact Kd.V_nil _ _ _ _ _ | exact Kd.Q_nil _ _ _ _ _ | exact Kd.S_nil _ _ _ _ _, by first | exact Kd.R_nil _ _ _ _ _ | exact Kd.N_nil _ _ _ _ _ | exact Kd.V_nil _ _ _ _ _ | exact Kd.Q_nil _ _ _ _ _ | exact Kd.S_nil _ _ _ _ _, by (with_reducible repeat (first | apply Kd.R_alloc | apply Kd.R_drewN | apply Kd.R_drew)); exact Kd.R_mono (Kd.R_far (p := ⟨gb229, 1, none⟩) (Kd.R_far (p := ⟨gb229, 0, none⟩) (Kd.R_types HO249.out BK229.out (by decide)) (fun _ hk => hk.2) (.slice none 0 0)) (fun _ hk => hk.2) (.slice none 0 0)) (fun _ hk => hk.1.1), by repeat (first | (with_reducible first | exact HB.out | apply below_alloc | apply pw_below_drewN | apply below_drew1 | refine below_set ?_ GE228.out | refine below_set ?_ GE229.out) | exact HB.out), by repeat (first | (with_reducible first | exact HK.out | apply Kept.alloc | apply Kept.drewN | apply Kept.drew | refine Kept.setCell ?_ (.inr GW228.out) _ | refine Kept.setCell ?_ (.inr GW229.out) _) | exact HK.out)⟩

/-! ### impl_within: function 69 -/
def impl_within.f (a0 : Int) (a1 : Int) (a2 : Int) : Option (Bool) := if a1 ≤ a0 then (some (decide (a0 ≤ a2))) else (some false)
set_option maxHeartbeats 40000000 in
set_option maxRecDepth 100000 in
theorem impl_within.calls (a0 : Int) (a1 : Int) (a2 : Int) (r : Bool) (w : World) (h : impl_within.f a0 a1 a2 = some r) :
    Calls Try.prog 69 #[.int .i64 a0, .int .i64 a1, .int .i64 a2] w fun e w' => e = .returned (.bool r) ∧ Drawn0 w w' := by
 have H : (if a1 ≤ a0 then (some (decide (a0 ≤ a2))) else (some false)) = some r := h
 clear h
 by_cases c4 : a1 ≤ a0
 ·
  rw [if_pos c4] at H
  have c4b0 : decide (a1 ≤ a0) = true := decide_eq_true c4
  clear c4
  obtain rfl := Option.some.inj H
  go_enter Try.func69, Try.ntmps69
  go_wp2
  go_ret
  exact ⟨by first | rfl | (simp; done) | (simp [*]; done) | (simp only [bne_empty_]; rfl), by repeat (first | exact Drawn0.refl _ | apply Drawn0.step)⟩
 ·
  rw [if_neg c4] at H
  have c4b0 : decide (a1 ≤ a0) = false := decide_eq_false c4
  clear c4
  obtain rfl := Option.some.inj H
  go_enter Try.func69, Try.ntmps69
  go_wp2
  go_ret
  exact ⟨by first | rfl | (simp; done) | (simp [*]; done) | (simp only [bne_empty_]; rfl), by repeat (first | exact Drawn0.refl _ | apply Drawn0.step)⟩

/-! ### impl_isBody: function 86 -/
def impl_isBody.f (a0 : ByteArray) : Option (Bool) := (impl_within.f (a0.size : Int) 1 8000).bind fun t250 => (some t250)
set_option maxHeartbeats 40000000 in
set_option maxRecDepth 100000 in
theorem impl_isBody.calls (a0 : ByteArray) (r : Bool) (w : World) (h : impl_isBody.f a0 = some r) :
    Calls Try.prog 86 #[.string a0] w fun e w' => e = .returned (.bool r) ∧ Drawn0 w w' := by
 have H : ((impl_within.f (a0.size : Int) 1 8000).bind fun t250 => (some t250)) = some r := h
 clear h
 obtain ⟨t250, A2, H⟩ := bindE_ H
 obtain rfl := Option.some.inj H
 go_enter Try.func86, Try.ntmps86
 go_wp2_with (first | ((with_reducible refine gate_callee (f := 69) rfl ?_); refine cU_ (some 5) Try.func69 #[.int .i64 (a0.size : Int), .int .i64 1, .int .i64 8000] ?_; (with_reducible refine (impl_within.calls (a0.size : Int) 1 8000 t250 _ A2.out).mono ?_); rintro e w' ⟨rfl, ⟨nd, rfl⟩⟩; refine ⟨_, rfl, ?_⟩))
 go_ret
 exact ⟨by first | rfl | (simp; done) | (simp [*]; done) | (simp only [bne_empty_]; rfl), by repeat (first | exact Drawn0.refl _ | apply Drawn0.step)⟩

/-! ### impl_ReportOK: function 56 -/
def impl_ReportOK.f (a0_0 : Int) (a0_1 : Int) (a0_2 : Int) (a0_3 : ByteArray) : Option (Bool) := (impl_within.f a0_0 1 1000000).bind fun t252 => (if t252 = true then ((impl_within.f a0_1 0 1000000).bind fun t253 => (if t253 = true then ((impl_within.f a0_2 0 3).bind fun t254 => (if t254 = true then ((impl_isBody.f a0_3).bind fun t255 => (some t255)) else (some false))) else (some false))) else (some false))
set_option maxHeartbeats 40000000 in
set_option maxRecDepth 100000 in
theorem impl_ReportOK.calls (a0_0 : Int) (a0_1 : Int) (a0_2 : Int) (a0_3 : ByteArray) (r : Bool) (w : World) (h : impl_ReportOK.f a0_0 a0_1 a0_2 a0_3 = some r) :
    Calls Try.prog 56 #[.agg #[.int .i64 a0_0, .int .i64 a0_1, .int .i64 a0_2, .string a0_3]] w fun e w' => e = .returned (.bool r) ∧ Below w.heap.size w w' := by
 have hu64 := Try.underlying64
 have HB := Aside0.mk (Below.refl w.heap.size w)
 have H : ((impl_within.f a0_0 1 1000000).bind fun t252 => (if t252 = true then ((impl_within.f a0_1 0 1000000).bind fun t253 => (if t253 = true then ((impl_within.f a0_2 0 3).bind fun t254 => (if t254 = true then ((impl_isBody.f a0_3).bind fun t255 => (some t255)) else (some false))) else (some false))) else (some false))) = some r := h
 clear h
 obtain ⟨t252, A2, H⟩ := bindE_ H
 by_cases c3 : t252 = true
 ·
  subst c3
  replace H := ifT_ H
  obtain ⟨t253, A4, H⟩ := bindE_ H
  by_cases c5 : t253 = true
  ·
   subst c5
   replace H := ifT_ H
   obtain ⟨t254, A6, H⟩ := bindE_ H
   by_cases c7 : t254 = true
   ·
    subst c7
    replace H := ifT_ H
    obtain ⟨t255, A8, H⟩ := bindE_ H
    obtain rfl := Option.some.inj H
    go_enter Try.func56, Try.ntmps56
    go_wp2_with (first | ((with_reducible refine gate_dst (N := 1) rfl ?_); refine box_event ?hg (N := 1) ?hd (cs := #[.int .i64 a0_0, .int .i64 a0_1, .int .i64 a0_2, .string a0_3]) (t := 64) ?hr ?_; (case hd => rfl); (case hg => rfl); (case hr => first | (go_simp; done) | (go_simp; rfl)); intro gb251 hg w9 hbox hb; have n0_ := belB_ hb; have n1_ := Aside0.mk (hbox); have n2_ := Aside0.mk ((by rw [hg]; exact (below_size (by repeat (first | (with_reducible first | exact HB.out | apply below_alloc | apply pw_below_drewN | apply below_drew1) | exact HB.out))) : w.heap.size ≤ gb251)); have n3_ := Aside0.mk ((by rw [hg]; exact (below_size (by repeat (first | (with_reducible first | exact HB.out | apply below_alloc | apply pw_below_drewN | apply below_drew1) | exact HB.out))) : w.heap.size ≤ gb251)); clear HB; have HB := n0_; have BK251 := n1_; have GW251 := n2_; have GE251 := n3_; clear n0_ n1_ n2_ n3_; clear hb hbox hg; obtain ⟨hcz10_0, hcz10_1, hcz10_2, hcz10_3, hfz10_0, hfz10_1, hfz10_2, hfz10_3⟩ := cz4_ BK251) | ((with_reducible refine gate_callee (f := 69) rfl ?_); refine cU_ (some 5) Try.func69 #[.int .i64 a0_0, .int .i64 1, .int .i64 1000000] ?_; (with_reducible refine (impl_within.calls a0_0 1 1000000 true _ A2.out).mono ?_); rintro e w' ⟨rfl, ⟨nd, rfl⟩⟩; refine ⟨_, rfl, ?_⟩) | (go_at_call 69; (with_reducible refine (impl_within.calls a0_1 0 1000000 true _ A4.out).mono ?_); rintro e w' ⟨rfl, ⟨nd, rfl⟩⟩) | (go_at_call 69; (with_reducible refine (impl_within.calls a0_2 0 3 true _ A6.out).mono ?_); rintro e w' ⟨rfl, ⟨nd, rfl⟩⟩) | (go_at_call 86; (with_reducible refine (impl_isBody.calls a0_3 t255 _ A8.out).mono ?_); rintro e w' ⟨rfl, ⟨nd, rfl⟩⟩))
    go_ret
    exact ⟨retE_, belE_⟩
   ·
    replace c7 := Bool.eq_false_iff.mpr c7
    subst c7
    replace H := ifF_ H
    obtain rfl := Option.some.inj H
    go_enter Try.func56, Try.ntmps56
    go_wp2_with (first | ((with_reducible refine gate_dst (N := 1) rfl ?_); refine box_event ?hg (N := 1) ?hd (cs := #[.int .i64 a0_0, .int .i64 a0_1, .int .i64 a0_2, .string a0_3]) (t := 64) ?hr ?_; (case hd => rfl); (case hg => rfl); (case hr => first | (go_simp; done) | (go_simp; rfl)); intro gb251 hg w11 hbox hb; have n0_ := belB_ hb; have n1_ := Aside0.mk (hbox); have n2_ := Aside0.mk ((by rw [hg]; exact (below_size (by repeat (first | (with_reducible first | exact HB.out | apply below_alloc | apply pw_below_drewN | apply below_drew1) | exact HB.out))) : w.heap.size ≤ gb251)); have n3_ := Aside0.mk ((by rw [hg]; exact (below_size (by repeat (first | (with_reducible first | exact HB.out | apply below_alloc | apply pw_below_drewN | apply below_drew1) | exact HB.out))) : w.heap.size ≤ gb251)); clear HB; have HB := n0_; have BK251 := n1_; have GW251 := n2_; have GE251 := n3_; clear n0_ n1_ n2_ n3_; clear hb hbox hg; obtain ⟨hcz12_0, hcz12_1, hcz12_2, hcz12_3, hfz12_0, hfz12_1, hfz12_2, hfz12_3⟩ := cz4_ BK251) | ((with_reducible refine gate_callee (f := 69) rfl ?_); refine cU_ (some 5) Try.func69 #[.int .i64 a0_0, .int .i64 1, .int .i64 1000000] ?_; (with_reducible refine (impl_within.calls a0_0 1 1000000 true _ A2.out).mono ?_); rintro e w' ⟨rfl, ⟨nd, rfl⟩⟩; refine ⟨_, rfl, ?_⟩) | (go_at_call 69; (with_reducible refine (impl_within.calls a0_1 0 1000000 true _ A4.out).mono ?_); rintro e w' ⟨rfl, ⟨nd, rfl⟩⟩) | (go_at_call 69; (with_reducible refine (impl_within.calls a0_2 0 3 false _ A6.out).mono ?_); rintro e w' ⟨rfl, ⟨nd, rfl⟩⟩))
    go_ret
    exact ⟨retE_, belE_⟩
  ·
   replace c5 := Bool.eq_false_iff.mpr c5
   subst c5
   replace H := ifF_ H
   obtain rfl := Option.some.inj H
   go_enter Try.func56, Try.ntmps56
   go_wp2_with (first | ((with_reducible refine gate_dst (N := 1) rfl ?_); refine box_event ?hg (N := 1) ?hd (cs := #[.int .i64 a0_0, .int .i64 a0_1, .int .i64 a0_2, .string a0_3]) (t := 64) ?hr ?_; (case hd => rfl); (case hg => rfl); (case hr => first | (go_simp; done) | (go_simp; rfl)); intro gb251 hg w13 hbox hb; have n0_ := belB_ hb; have n1_ := Aside0.mk (hbox); have n2_ := Aside0.mk ((by rw [hg]; exact (below_size (by repeat (first | (with_reducible first | exact HB.out | apply below_alloc | apply pw_below_drewN | apply below_drew1) | exact HB.out))) : w.heap.size ≤ gb251)); have n3_ := Aside0.mk ((by rw [hg]; exact (below_size (by repeat (first | (with_reducible first | exact HB.out | apply below_alloc | apply pw_below_drewN | apply below_drew1) | exact HB.out))) : w.heap.size ≤ gb251)); clear HB; have HB := n0_; have BK251 := n1_; have GW251 := n2_; have GE251 := n3_; clear n0_ n1_ n2_ n3_; clear hb hbox hg; obtain ⟨hcz14_0, hcz14_1, hcz14_2, hcz14_3, hfz14_0, hfz14_1, hfz14_2, hfz14_3⟩ := cz4_ BK251) | ((with_reducible refine gate_callee (f := 69) rfl ?_); refine cU_ (some 5) Try.func69 #[.int .i64 a0_0, .int .i64 1, .int .i64 1000000] ?_; (with_reducible refine (impl_within.calls a0_0 1 1000000 true _ A2.out).mono ?_); rintro e w' ⟨rfl, ⟨nd, rfl⟩⟩; refine ⟨_, rfl, ?_⟩) | (go_at_call 69; (with_reducible refine (impl_within.calls a0_1 0 1000000 false _ A4.out).mono ?_); rintro e w' ⟨rfl, ⟨nd, rfl⟩⟩))
   go_ret
   exact ⟨retE_, belE_⟩
 ·
  replace c3 := Bool.eq_false_iff.mpr c3
  subst c3
  replace H := ifF_ H
  obtain rfl := Option.some.inj H
  go_enter Try.func56, Try.ntmps56
  go_wp2_with (first | ((with_reducible refine gate_dst (N := 1) rfl ?_); refine box_event ?hg (N := 1) ?hd (cs := #[.int .i64 a0_0, .int .i64 a0_1, .int .i64 a0_2, .string a0_3]) (t := 64) ?hr ?_; (case hd => rfl); (case hg => rfl); (case hr => first | (go_simp; done) | (go_simp; rfl)); intro gb251 hg w15 hbox hb; have n0_ := belB_ hb; have n1_ := Aside0.mk (hbox); have n2_ := Aside0.mk ((by rw [hg]; exact (below_size (by repeat (first | (with_reducible first | exact HB.out | apply below_alloc | apply pw_below_drewN | apply below_drew1) | exact HB.out))) : w.heap.size ≤ gb251)); have n3_ := Aside0.mk ((by rw [hg]; exact (below_size (by repeat (first | (with_reducible first | exact HB.out | apply below_alloc | apply pw_below_drewN | apply below_drew1) | exact HB.out))) : w.heap.size ≤ gb251)); clear HB; have HB := n0_; have BK251 := n1_; have GW251 := n2_; have GE251 := n3_; clear n0_ n1_ n2_ n3_; clear hb hbox hg; obtain ⟨hcz16_0, hcz16_1, hcz16_2, hcz16_3, hfz16_0, hfz16_1, hfz16_2, hfz16_3⟩ := cz4_ BK251) | ((with_reducible refine gate_callee (f := 69) rfl ?_); refine cU_ (some 5) Try.func69 #[.int .i64 a0_0, .int .i64 1, .int .i64 1000000] ?_; (with_reducible refine (impl_within.calls a0_0 1 1000000 false _ A2.out).mono ?_); rintro e w' ⟨rfl, ⟨nd, rfl⟩⟩; refine ⟨_, rfl, ?_⟩))
  go_ret
  exact ⟨retE_, belE_⟩

/-! ### slices_Index_string_string: function 129 -/
def slices_Index_string_string.l0 : Nat → List ByteArray → ByteArray → Int → Int → Option (Int)
  | 0, _, _, _, _ => none
  | k + 1, x0, x1, x7, x8 => if x8 < x7 then (if 0 ≤ x8 then (if x8 < (x0.length : Int) then (if x1.toList = (rdOf ByteArray.empty x0 x8).toList then (some x8) else (slices_Index_string_string.l0 k x0 x1 x7 (wrap64 (x8 + 1)))) else (none)) else (none)) else (some (-1))
def slices_Index_string_string.f (k : Nat) (l0 : List ByteArray) (a1 : ByteArray) : Option (Int) := slices_Index_string_string.l0 k l0 a1 (l0.length : Int) 0
theorem slices_Index_string_string.mono_l : ∀ k, (∀ y0 y1 y2 y3, LeO (slices_Index_string_string.l0 k y0 y1 y2 y3) (slices_Index_string_string.l0 (k + 1) y0 y1 y2 y3))
  | 0 => fun _ _ _ _ r h => by simp [slices_Index_string_string.l0] at h
  | k + 1 => by
    have ih0 := slices_Index_string_string.mono_l k
    · intro y0 y1 y2 y3
      unfold slices_Index_string_string.l0
      repeat' first
      | (with_reducible exact ih0 _ _ _ _)
      | (with_reducible exact LeO.refl _)
      | (with_reducible exact LeO.none _)
      | (with_reducible refine LeO.ite ?_ ?_)
      | (with_reducible refine LeO.bind ?_ (fun _ => ?_))
      | exact ih0 _ _ _ _
      | exact LeO.none _
      | refine LeO.ite ?_ ?_
      | refine LeO.bind ?_ (fun _ => ?_)
theorem slices_Index_string_string.mono : ∀ a0 a1 k, LeO (slices_Index_string_string.f k a0 a1) (slices_Index_string_string.f (k + 1) a0 a1) := by
  intro a0 a1 k
  have ih0 := slices_Index_string_string.mono_l k
  unfold slices_Index_string_string.f
  repeat' first
      | (with_reducible exact ih0 _ _ _ _)
      | (with_reducible exact LeO.refl _)
      | (with_reducible exact LeO.none _)
      | (with_reducible refine LeO.ite ?_ ?_)
      | (with_reducible refine LeO.bind ?_ (fun _ => ?_))
      | exact ih0 _ _ _ _
      | exact LeO.none _
      | refine LeO.ite ?_ ?_
      | refine LeO.bind ?_ (fun _ => ?_)
set_option maxHeartbeats 40000000 in
set_option maxRecDepth 100000 in
theorem slices_Index_string_string.calls (k : Nat) (A0 : Option Addr) (c0 : Nat) (l0 : List ByteArray) (a1 : ByteArray) (r : Int) (w : World) (hr0 : Kd.C Kd.string w A0 l0.length l0) (hc0 : l0.length ≤ c0) (h : slices_Index_string_string.f k l0 a1 = some r) :
    Calls Try.prog 129 #[.slice A0 l0.length c0, .string a1] w fun e w' => e = .returned (.int .i64 r) ∧ Drawn0 w w' := by
 have HR0 := Aside0.mk hr0
 have HC0 := Aside0.mk hc0
 clear hr0 hc0
 have H : (slices_Index_string_string.l0 k l0 a1 (l0.length : Int) 0) = some r := h
 clear h
 have H' := Aside0.mk H
 clear H
 go_enter Try.func129, Try.ntmps129
 go_wp2
 go_loopg [8] k (fun kq v8 w' => ∃ (x8_1 : Int), v8 = .int .i64 x8_1 ∧ Aside0 (slices_Index_string_string.l0 kq l0 a1 (l0.length : Int) x8_1 = some r) ∧ Aside0 (kq ≤ k) ∧ Drawn0 w w')
 case atStart => exact ⟨(0), eqE_, H', ⟨Nat.le_refl _⟩, by repeat (first | exact Drawn0.refl _ | apply Drawn0.step)⟩
 case round =>
  clear H'
  obtain ⟨x8_1, rfl, HA, HK1, ⟨m1, rfl⟩⟩ := hrel
  cases gk with
  | zero => exact absurd HA.out (by simp [slices_Index_string_string.l0])
  | succ k1 =>
   have H := HA.out
   clear HA
   simp only [slices_Index_string_string.l0] at H
   by_cases c3 : x8_1 < (l0.length : Int)
   ·
    rw [if_pos c3] at H
    have c3b0 : decide (x8_1 < (l0.length : Int)) = true := decide_eq_true c3
    clear c3
    by_cases c4 : 0 ≤ x8_1
    ·
     rw [if_pos c4] at H
     have c4b0 : decide (0 ≤ x8_1) = true := decide_eq_true c4
     clear c4
     by_cases c5 : x8_1 < (l0.length : Int)
     ·
      rw [if_pos c5] at H
      have c5b0 : decide (x8_1 < (l0.length : Int)) = true := decide_eq_true c5
      clear c5
      by_cases c6 : a1.toList = (rdOf ByteArray.empty l0 x8_1).toList
      ·
       rw [if_pos c6] at H
       have c6b0 : (a1.toList == (rdOf ByteArray.empty l0 x8_1).toList) = true := beq_iff_eq.mpr c6
       have c6b1 : (a1.toList != (rdOf ByteArray.empty l0 x8_1).toList) = false := bne_eq_false_iff_eq.mpr c6
       clear c6
       obtain rfl := Option.some.inj H
       have p256 : 0 ≤ (x8_1 : Int) := of_decide_eq_true (by first | (with_reducible assumption) | assumption)
       have q256 : x8_1 < (l0.length : Int) := of_decide_eq_true (by first | (with_reducible assumption) | assumption)
       obtain ⟨ad256, e256, hx256_0⟩ := Kd.at_string HR0.out x8_1 p256 q256
       cases e256
       replace p256 := eq_true p256
       replace q256 := eq_true q256
       go_wp2
       go_ret
       exact ⟨by first | rfl | (simp; done) | (simp [*]; done) | (simp only [bne_empty_]; rfl), by repeat (first | exact Drawn0.refl _ | apply Drawn0.step)⟩
      ·
       rw [if_neg c6] at H
       have c6b0 : (a1.toList == (rdOf ByteArray.empty l0 x8_1).toList) = false := beq_eq_false_iff_ne.mpr c6
       have c6b1 : (a1.toList != (rdOf ByteArray.empty l0 x8_1).toList) = true := bne_iff_ne.mpr c6
       have H' := Aside0.mk H
       clear H
       have p256 : 0 ≤ (x8_1 : Int) := of_decide_eq_true (by first | (with_reducible assumption) | assumption)
       have q256 : x8_1 < (l0.length : Int) := of_decide_eq_true (by first | (with_reducible assumption) | assumption)
       obtain ⟨ad256, e256, hx256_0⟩ := Kd.at_string HR0.out x8_1 p256 q256
       cases e256
       replace p256 := eq_true p256
       replace q256 := eq_true q256
       go_wp2
       go_roundg k1
       case measure => have := HK1.out; omega
       case rel => exact ⟨(wrap64 (x8_1 + 1)), eqE_, H', ⟨by have := HK1.out; omega⟩, by repeat (first | exact Drawn0.refl _ | apply Drawn0.step)⟩
     ·
      rw [if_neg c5] at H
      exact absurd H (by simp)
    ·
     rw [if_neg c4] at H
     exact absurd H (by simp)
   ·
    rw [if_neg c3] at H
    have c3b0 : decide (x8_1 < (l0.length : Int)) = false := decide_eq_false c3
    clear c3
    obtain rfl := Option.some.inj H
    go_wp2
    go_ret
    exact ⟨by first | rfl | (simp; done) | (simp [*]; done) | (simp only [bne_empty_]; rfl), by repeat (first | exact Drawn0.refl _ | apply Drawn0.step)⟩

/-! ### slices_Contains_string_string: function 87 -/
def slices_Contains_string_string.f (k : Nat) (l0 : List ByteArray) (a1 : ByteArray) : Option (Bool) := (slices_Index_string_string.f k l0 a1).bind fun t257 => (some (decide (t257 ≥ 0)))
theorem slices_Contains_string_string.mono : ∀ a0 a1 k, LeO (slices_Contains_string_string.f k a0 a1) (slices_Contains_string_string.f (k + 1) a0 a1) := by
  intro a0 a1 k
  unfold slices_Contains_string_string.f
  repeat' first
      | (with_reducible exact slices_Index_string_string.mono _ _ _)
      | (with_reducible exact LeO.refl _)
      | (with_reducible exact LeO.none _)
      | (with_reducible refine LeO.ite ?_ ?_)
      | (with_reducible refine LeO.bind ?_ (fun _ => ?_))
      | exact slices_Index_string_string.mono _ _ _
      | exact LeO.none _
      | refine LeO.ite ?_ ?_
      | refine LeO.bind ?_ (fun _ => ?_)
set_option maxHeartbeats 40000000 in
set_option maxRecDepth 100000 in
theorem slices_Contains_string_string.calls (k : Nat) (A0 : Option Addr) (c0 : Nat) (l0 : List ByteArray) (a1 : ByteArray) (r : Bool) (w : World) (hr0 : Kd.C Kd.string w A0 l0.length l0) (hc0 : l0.length ≤ c0) (h : slices_Contains_string_string.f k l0 a1 = some r) :
    Calls Try.prog 87 #[.slice A0 l0.length c0, .string a1] w fun e w' => e = .returned (.bool r) ∧ Drawn0 w w' := by
 have HR0 := Aside0.mk hr0
 have HC0 := Aside0.mk hc0
 clear hr0 hc0
 have H : ((slices_Index_string_string.f k l0 a1).bind fun t257 => (some (decide (t257 ≥ 0)))) = some r := h
 clear h
 obtain ⟨t257, A3, H⟩ := bindE_ H
 obtain rfl := Option.some.inj H
 go_enter Try.func87, Try.ntmps87
 go_wp2_with (first | ((with_reducible refine gate_callee (f := 129) rfl ?_); refine cU_ (some 7) Try.func129 #[.slice A0 l0.length c0, .string a1] ?_; (with_reducible refine (slices_Index_string_string.calls k _ _ l0 a1 t257 _ ?side1 ?side2 A3.out).mono ?_); (case side1 => repeat (first | exact HR0.out | (with_reducible refine Kd.C_alloc ?_ _) | (with_reducible refine Kd.C_drewN ?_ _) | (with_reducible refine Kd.C_drew ?_))); (case side2 => exact HC0.out); rintro e w' ⟨rfl, ⟨nd, rfl⟩⟩; refine ⟨_, rfl, ?_⟩))
 go_ret
 exact ⟨by first | rfl | (simp; done) | (simp [*]; done) | (simp only [bne_empty_]; rfl), by repeat (first | exact Drawn0.refl _ | apply Drawn0.step)⟩

end Go.Proofs.Ytmfnaaeglfhnmaa.QFnExactMissed
