/- A tool of this session wrote this text out of the translation: functions as plain Lean, and proofs that the machine's calls come to their answers. -/
import Derived.Test.YtljpmdeobmmhlaaQShort
import Derived.Test.YtljpmdeobmmhlaaQFnExactMemberx0
namespace Go.Proofs.Ytljpmdeobmmhlaa.QFnExactMember
open Go.RowKit Go.Proofs.YtljpmdeobmmhlaaW.PrintWords Go.Proofs.YtljpmdeobmmhlaaW.PrintLast Go.Proofs.YtljpmdeobmmhlaaW.PrintMore
open Go.Proofs.Ytljpmdeobmmhlaa.Short
attribute [local go_sem] max2_int min2_int max_two min_two max_three min_three max_four min_four   -- for this text's walks alone
set_option linter.unusedVariables false
set_option linter.unusedSimpArgs false

/-! ### laws_szStringS: function 11 -/
def laws_szStringS.l0 : Nat → List ByteArray → Int → Int → Option (Int)
  | 0, _, _, _ => none
  | k + 1, x0, x1, x5 => if x5 < (x0.length : Int) then (if 0 ≤ x5 then (if (wrap64 (x1 - ((rdOf ByteArray.empty x0 x5).size : Int))) < 0 then (some (-1)) else (laws_szStringS.l0 k x0 (wrap64 (x1 - ((rdOf ByteArray.empty x0 x5).size : Int))) (wrap64 (x5 + 1)))) else (none)) else (some x1)
def laws_szStringS.f (k : Nat) (l0 : List ByteArray) (a1 : Int) : Option (Int) := if (wrap64 (a1 - (l0.length : Int))) < 0 then (some (-1)) else (laws_szStringS.l0 k l0 (wrap64 (a1 - (l0.length : Int))) 0)
theorem laws_szStringS.mono_l : ∀ k, (∀ y0 y1 y2, LeO (laws_szStringS.l0 k y0 y1 y2) (laws_szStringS.l0 (k + 1) y0 y1 y2))
  | 0 => fun _ _ _ r h => by simp [laws_szStringS.l0] at h
  | k + 1 => by
    have ih0 := laws_szStringS.mono_l k
    · intro y0 y1 y2
      unfold laws_szStringS.l0
      repeat' first
      | (with_reducible exact ih0 _ _ _)
      | (with_reducible exact LeO.refl _)
      | (with_reducible exact LeO.none _)
      | (with_reducible refine LeO.ite ?_ ?_)
      | (with_reducible refine LeO.bind ?_ (fun _ => ?_))
      | exact ih0 _ _ _
      | exact LeO.none _
      | refine LeO.ite ?_ ?_
      | refine LeO.bind ?_ (fun _ => ?_)
theorem laws_szStringS.mono : ∀ a0 a1 k, LeO (laws_szStringS.f k a0 a1) (laws_szStringS.f (k + 1) a0 a1) := by
  intro a0 a1 k
  have ih0 := laws_szStringS.mono_l k
  unfold laws_szStringS.f
  repeat' first
      | (with_reducible exact ih0 _ _ _)
      | (with_reducible exact LeO.refl _)
      | (with_reducible exact LeO.none _)
      | (with_reducible refine LeO.ite ?_ ?_)
      | (with_reducible refine LeO.bind ?_ (fun _ => ?_))
      | exact ih0 _ _ _
      | exact LeO.none _
      | refine LeO.ite ?_ ?_
      | refine LeO.bind ?_ (fun _ => ?_)
set_option maxHeartbeats 8000000 in
set_option maxRecDepth 100000 in
theorem laws_szStringS.calls (k : Nat) (A0 : Option Addr) (c0 : Nat) (l0 : List ByteArray) (a1 : Int) (r : Int) (w : World) (hr0 : Kd.C Kd.string w A0 l0.length l0) (hc0 : l0.length ≤ c0) (h : laws_szStringS.f k l0 a1 = some r) :
    Calls Try.prog 11 #[.slice A0 l0.length c0, .int .i64 a1] w fun e w' => e = .returned (.int .i64 r) ∧ Drawn0 w w' := by
 have HR0 := Aside0.mk hr0
 have HC0 := Aside0.mk hc0
 clear hr0 hc0
 have H : (if (wrap64 (a1 - (l0.length : Int))) < 0 then (some (-1)) else (laws_szStringS.l0 k l0 (wrap64 (a1 - (l0.length : Int))) 0)) = some r := h
 clear h
 by_cases c3 : (wrap64 (a1 - (l0.length : Int))) < 0
 ·
  rw [if_pos c3] at H
  have c3b0 : decide ((wrap64 (a1 - (l0.length : Int))) < 0) = true := decide_eq_true c3
  clear c3
  obtain rfl := Option.some.inj H
  go_enter Try.func11, Try.ntmps11
  go_wp2
  go_ret
  exact ⟨by first | rfl | (simp; done) | (simp [*]; done) | (simp only [bne_empty_]; rfl), by repeat (first | exact Drawn0.refl _ | apply Drawn0.step)⟩
 ·
  rw [if_neg c3] at H
  have c3b0 : decide ((wrap64 (a1 - (l0.length : Int))) < 0) = false := decide_eq_false c3
  clear c3
  have H' := Aside0.mk H
  clear H
  go_enter Try.func11, Try.ntmps11
  go_wp2
  go_loopg [1, 5] k (fun kq v1 v5 w' => ∃ (x1_1 : Int) (x5_1 : Int), v1 = .int .i64 x1_1 ∧ v5 = .int .i64 x5_1 ∧ Aside0 (laws_szStringS.l0 kq l0 x1_1 x5_1 = some r) ∧ Aside0 (kq ≤ k) ∧ Drawn0 w w')
  case atStart => exact ⟨(wrap64 (a1 - (l0.length : Int))), (0), eqE_, eqE_, H', ⟨Nat.le_refl _⟩, by repeat (first | exact Drawn0.refl _ | apply Drawn0.step)⟩
  case round =>
   clear H'
   try clear c3
   try clear c3b0
   obtain ⟨x1_1, x5_1, rfl, rfl, HA, HK1, ⟨m1, rfl⟩⟩ := hrel
   cases gk with
   | zero => exact absurd HA.out (by simp [laws_szStringS.l0])
   | succ k1 =>
    have H := HA.out
    clear HA
    simp only [laws_szStringS.l0] at H
    by_cases c4 : x5_1 < (l0.length : Int)
    ·
     rw [if_pos c4] at H
     have c4b0 : decide (x5_1 < (l0.length : Int)) = true := decide_eq_true c4
     clear c4
     by_cases c5 : 0 ≤ x5_1
     ·
      rw [if_pos c5] at H
      have c5b0 : decide (0 ≤ x5_1) = true := decide_eq_true c5
      clear c5
      by_cases c6 : (wrap64 (x1_1 - ((rdOf ByteArray.empty l0 x5_1).size : Int))) < 0
      ·
       rw [if_pos c6] at H
       have c6b0 : decide ((wrap64 (x1_1 - ((rdOf ByteArray.empty l0 x5_1).size : Int))) < 0) = true := decide_eq_true c6
       clear c6
       obtain rfl := Option.some.inj H
       have p101 : 0 ≤ (x5_1 : Int) := of_decide_eq_true (by first | (with_reducible assumption) | assumption)
       have q101 : x5_1 < (l0.length : Int) := of_decide_eq_true (by first | (with_reducible assumption) | assumption)
       obtain ⟨ad101, e101, hx101_0⟩ := Kd.at_string HR0.out x5_1 p101 q101
       cases e101
       replace p101 := eq_true p101
       replace q101 := eq_true q101
       go_wp2
       go_ret
       exact ⟨by first | rfl | (simp; done) | (simp [*]; done) | (simp only [bne_empty_]; rfl), by repeat (first | exact Drawn0.refl _ | apply Drawn0.step)⟩
      ·
       rw [if_neg c6] at H
       have c6b0 : decide ((wrap64 (x1_1 - ((rdOf ByteArray.empty l0 x5_1).size : Int))) < 0) = false := decide_eq_false c6
       clear c6
       have H' := Aside0.mk H
       clear H
       have p101 : 0 ≤ (x5_1 : Int) := of_decide_eq_true (by first | (with_reducible assumption) | assumption)
       have q101 : x5_1 < (l0.length : Int) := of_decide_eq_true (by first | (with_reducible assumption) | assumption)
       obtain ⟨ad101, e101, hx101_0⟩ := Kd.at_string HR0.out x5_1 p101 q101
       cases e101
       replace p101 := eq_true p101
       replace q101 := eq_true q101
       go_wp2
       go_roundg k1
       case measure => have := HK1.out; omega
       case rel => exact ⟨(wrap64 (x1_1 - ((rdOf ByteArray.empty l0 x5_1).size : Int))), (wrap64 (x5_1 + 1)), eqE_, eqE_, H', ⟨by have := HK1.out; omega⟩, by repeat (first | exact Drawn0.refl _ | apply Drawn0.step)⟩
     ·
      rw [if_neg c5] at H
      exact absurd H (by simp)
    ·
     rw [if_neg c4] at H
     have c4b0 : decide (x5_1 < (l0.length : Int)) = false := decide_eq_false c4
     clear c4
     obtain rfl := Option.some.inj H
     go_wp2
     go_ret
     exact ⟨by first | rfl | (simp; done) | (simp [*]; done) | (simp only [bne_empty_]; rfl), by repeat (first | exact Drawn0.refl _ | apply Drawn0.step)⟩

/-! ### laws_szJson: function 4, by hand -/
/-- What is left behind the texts of a list. -/
def laws_szJson.szL : List ByteArray → Int → Int
  | [], a => a
  | t :: ts, a => if wrap64 (a - (t.size : Int)) < 0 then -1 else laws_szJson.szL ts (wrap64 (a - (t.size : Int)))
def laws_szJson.szS (l : List ByteArray) (a : Int) : Int := if wrap64 (a - (l.length : Int)) < 0 then -1 else laws_szJson.szL l (wrap64 (a - (l.length : Int)))
mutual
/-- What is left behind a value. -/
def laws_szJson.szJ : S25 → Int → Int
  | ⟨_, _, t, ns, xs⟩, a => if wrap64 (a - (t.size : Int)) < 0 then -1 else if laws_szJson.szS ns (wrap64 (a - (t.size : Int))) < 0 then -1 else
      if (if wrap64 (laws_szJson.szS ns (wrap64 (a - (t.size : Int))) - (xs.length : Int)) < 0 then -1 else laws_szJson.szJL xs (wrap64 (laws_szJson.szS ns (wrap64 (a - (t.size : Int))) - (xs.length : Int)))) < 0 then -1 else
      (if wrap64 (laws_szJson.szS ns (wrap64 (a - (t.size : Int))) - (xs.length : Int)) < 0 then -1 else laws_szJson.szJL xs (wrap64 (laws_szJson.szS ns (wrap64 (a - (t.size : Int))) - (xs.length : Int))))
/-- What is left behind the values of a list. -/
def laws_szJson.szJL : List S25 → Int → Int
  | [], a => a
  | x :: xs, a => if laws_szJson.szJ x a < 0 then -1 else laws_szJson.szJL xs (laws_szJson.szJ x a)
end
def laws_szJson.szJS (l : List S25) (a : Int) : Int := if wrap64 (a - (l.length : Int)) < 0 then -1 else laws_szJson.szJL l (wrap64 (a - (l.length : Int)))
theorem laws_szJson.szJ_eq (x : S25) (a : Int) : laws_szJson.szJ x a = if wrap64 (a - (x.f2.size : Int)) < 0 then -1 else if laws_szJson.szS x.f3 (wrap64 (a - (x.f2.size : Int))) < 0 then -1 else if laws_szJson.szJS x.f4 (laws_szJson.szS x.f3 (wrap64 (a - (x.f2.size : Int)))) < 0 then -1 else laws_szJson.szJS x.f4 (laws_szJson.szS x.f3 (wrap64 (a - (x.f2.size : Int)))) := by
  cases x; rw [laws_szJson.szJ]; rfl
theorem laws_szJson.wr_ (n : Int) (h : -9223372036854775808 ≤ n ∧ n ≤ 9223372036854775807) : wrap64 n = n := by unfold wrap64; omega
theorem laws_szJson.szL_l0 (l : List ByteArray) (hl : l.length ≤ 9223372036854775807) : ∀ (d n : Nat) (a : Int), n + d = l.length → laws_szStringS.l0 (d + 1) l a (n : Int) = some (laws_szJson.szL (l.drop n) a) := by
  intro d
  induction d with
  | zero => intro n a h; rw [laws_szStringS.l0, if_neg (by omega), List.drop_eq_nil_of_le (by omega)]; rfl
  | succ d ih =>
    intro n a h
    have hn : n < l.length := by omega
    rw [laws_szStringS.l0, if_pos (by omega), if_pos (by omega), show wrap64 ((n : Int) + 1) = ((n + 1 : Nat) : Int) from by rw [laws_szJson.wr_ _ (by omega)]; rfl, ih (n + 1) _ (by omega), List.drop_eq_getElem_cons hn, laws_szJson.szL]
    have hr : rdOf ByteArray.empty l (n : Int) = l[n] := by simp [rdOf, List.getD, hn]
    rw [hr]; split <;> rfl
theorem laws_szJson.szS_f (l : List ByteArray) (hl : l.length ≤ 9223372036854775807) (a : Int) : laws_szStringS.f (l.length + 1) l a = some (laws_szJson.szS l a) := by
  rw [laws_szStringS.f, laws_szJson.szS]
  have := laws_szJson.szL_l0 l hl l.length 0 (wrap64 (a - (l.length : Int))) (by omega)
  rw [List.drop_zero] at this
  split
  · rfl
  · exact this
abbrev laws_szJson.P (x : S25) : Prop := ∀ (A3 : Option Addr) (c3 : Nat) (A4 : Option Addr) (c4 : Nat) (a : Int) (w : World), Kd.C Kd.string w A3 x.f3.length x.f3 → x.f3.length ≤ c3 → Kd.C k25 w A4 x.f4.length x.f4 → x.f4.length ≤ c4 →
  Calls Try.prog 4 #[.agg #[.int .i64 x.f0, .int .i64 x.f1, .string x.f2, .slice A3 x.f3.length c3, .slice A4 x.f4.length c4], .int .i64 a] w fun e w' => e = .returned (.int .i64 (laws_szJson.szJ x a)) ∧ Below w.heap.size w w'
set_option maxHeartbeats 8000000 in
set_option maxRecDepth 100000 in
theorem laws_szJson.ownS (l : List S25) (hp : ∀ i : Nat, i < l.length → laws_szJson.P (rd_T25 l (i : Int))) (A : Option Addr) (c : Nat) (a : Int) (w : World) (hr : Kd.C k25 w A l.length l) (hc : l.length ≤ c) :
    Calls Try.prog 12 #[.slice A l.length c, .int .i64 a] w fun e w' => e = .returned (.int .i64 (laws_szJson.szJS l a)) ∧ Below w.heap.size w w' := by
  have HR := Aside0.mk hr
  have HP := Aside0.mk hp
  have hlen := hr.2.1
  have HJ := Aside0.mk (show laws_szJson.szJS l a = _ from rfl)
  clear hr hp
  by_cases hz : wrap64 (a - (l.length : Int)) < 0
  · have hd0 : decide (wrap64 (a - (l.length : Int)) < 0) = true := decide_eq_true hz
    go_enter Try.func12, Try.ntmps12
    go_wp2
    go_ret
    exact ⟨by rw [laws_szJson.szJS, if_pos hz]; rfl, Below.refl _ _⟩
  · have hd0 : decide (wrap64 (a - (l.length : Int)) < 0) = false := decide_eq_false hz
    have hJ : laws_szJson.szJS l a = laws_szJson.szJL l (wrap64 (a - (l.length : Int))) := by rw [laws_szJson.szJS, if_neg hz]
    rw [hJ]
    clear HJ hJ hz
    go_enter Try.func12, Try.ntmps12
    go_wp2
    go_loopw [1, 5] (fun v i W => ∃ (n d : Nat) (b : Int), n + d = l.length ∧ v = .int .i64 b ∧ i = .int .i64 (n : Int) ∧ Aside0 (laws_szJson.szJL (l.drop n) b = laws_szJson.szJL l (wrap64 (a - (l.length : Int)))) ∧ Below w.heap.size w W) (fun _ i _ => l.length - (intOf i).toNat)
    case atStart => exact ⟨0, l.length, _, by omega, rfl, rfl, ⟨rfl⟩, Below.refl _ _⟩
    case round =>
      obtain ⟨n, d, b, hd, rfl, rfl, HK, hb⟩ := hrel
      have HB := Aside0.mk hb
      clear hb
      cases d with
      | zero =>
        have hdec : decide ((n : Int) < (l.length : Int)) = false := decide_eq_false (by omega)
        go_wp2
        go_ret
        exact ⟨by rw [← HK.out, List.drop_eq_nil_of_le (by omega)]; rfl, HB.out⟩
      | succ d =>
        have p : 0 ≤ (n : Int) := by omega
        have q : (n : Int) < (l.length : Int) := by omega
        have hdec : decide ((n : Int) < (l.length : Int)) = true := decide_eq_true q
        obtain ⟨ad, A3, c3, A4, c4, ea, hx0, hx1, hx2, hx3, hx4, l3, g3, l4, g4⟩ := at_T25 (Kd.C_below HR.out HB.out) (n : Int) p q
        cases ea
        simp only [Int.toNat_natCast] at hx0 hx1 hx2 hx3 hx4
        have HC := Aside0.mk (HP.out n (by omega) A3 c3 A4 c4 b wr g3 l3 g4 l4)
        have hk := HK.out
        rw [List.drop_eq_getElem_cons (by omega : n < l.length), laws_szJson.szJL] at hk
        have hrd : rd_T25 l (n : Int) = l[n] := by simp [rd_T25, List.getD, (by omega : n < l.length)]
        rw [← hrd] at hk
        clear hrd HK g3 g4
        revert hk HC
        generalize laws_szJson.szJ (rd_T25 l (n : Int)) b = t
        intro HC hk
        by_cases ht : t < 0
        · rw [if_pos ht] at hk
          have HK' := Aside0.mk hk
          have hdt : decide (t < 0) = true := decide_eq_true ht
          clear hk ht
          go_wp2_with (go_at_call 4; refine HC.out.mono ?_; rintro e w' ⟨rfl, hb'⟩; have HB' := Aside0.mk (below_step HB.out hb'); clear hb')
          go_ret
          exact ⟨by rw [← HK'.out]; rfl, HB'.out⟩
        · rw [if_neg ht] at hk
          have HK' := Aside0.mk hk
          have hdt : decide (t < 0) = false := decide_eq_false ht
          clear hk ht
          go_wp2_with (go_at_call 4; refine HC.out.mono ?_; rintro e w' ⟨rfl, hb'⟩; have HB' := Aside0.mk (below_step HB.out hb'); clear hb')
          go_roundw
          case rel => exact ⟨n + 1, d, t, by omega, rfl, by go_num, HK', HB'.out⟩
          case measure => simp [intOf]; omega
set_option maxHeartbeats 8000000 in
set_option maxRecDepth 100000 in
theorem laws_szJson.own1 (x : S25) (hp : ∀ i : Nat, i < x.f4.length → laws_szJson.P (rd_T25 x.f4 (i : Int))) : laws_szJson.P x := by
  intro A3 c3 A4 c4 a w h3 l3 h4 l4
  have H3 := Aside0.mk h3
  have H4 := Aside0.mk h4
  have HP := Aside0.mk hp
  have n3 := h3.2.1
  have HJ := Aside0.mk (laws_szJson.szJ_eq x a)
  have HS := fun (b : Int) (W : World) (hw : Below w.heap.size w W) => laws_szStringS.calls (x.f3.length + 1) A3 c3 x.f3 b _ W (Kd.C_below h3 hw) l3 (laws_szJson.szS_f x.f3 n3 b)
  have HT := fun (b : Int) (W : World) (hw : Below w.heap.size w W) => laws_szJson.ownS x.f4 hp A4 c4 b W (Kd.C_below h4 hw) l4
  clear h3 h4 hp
  replace HS := Aside0.mk HS
  replace HT := Aside0.mk HT
  revert HJ HS HT
  generalize laws_szJson.szJ x a = r
  generalize hs : laws_szJson.szS x.f3 = fs
  generalize hj : laws_szJson.szJS x.f4 = fj
  clear hs hj
  intro HJ HS HT
  have hu25 := Try.underlying25
  by_cases c1 : wrap64 (a - (x.f2.size : Int)) < 0
  · have d1 : decide (wrap64 (a - (x.f2.size : Int)) < 0) = true := decide_eq_true c1
    have hj := HJ.out
    rw [if_pos c1] at hj
    have HJ' := Aside0.mk hj
    clear hj HJ c1
    go_enter Try.func4, Try.ntmps4
    go_wp2_with (first | ((with_reducible refine gate_dst (N := 2) rfl ?_); refine box_event ?hg (N := 2) ?hd (cs := #[.int .i64 x.f0, .int .i64 x.f1, .string x.f2, .slice A3 x.f3.length c3, .slice A4 x.f4.length c4]) (t := 25) ?hr ?_; (case hd => rfl); (case hg => rfl); (case hr => first | (go_simp; done) | (go_simp; rfl)); intro g2 hg w2 hx hb; have B2 := Aside0.mk hx; have HB := Aside0.mk (below_step (Below.refl w.heap.size w) hb); have q0 : w2.cell? ⟨g2, 0, none⟩ = some (.int .i64 x.f0) := (blk_cell hx 0).trans rfl; have q1 : w2.cell? ⟨g2, 1, none⟩ = some (.int .i64 x.f1) := (blk_cell hx 1).trans rfl; have q2 : w2.cell? ⟨g2, 2, none⟩ = some (.string x.f2) := (blk_cell hx 2).trans rfl; have q3 : w2.cell? ⟨g2, 3, none⟩ = some (.slice A3 x.f3.length c3) := (blk_cell hx 3).trans rfl; have q4 : w2.cell? ⟨g2, 4, none⟩ = some (.slice A4 x.f4.length c4) := (blk_cell hx 4).trans rfl; clear hx hb hg) | (go_at_call 11; refine (HS.out _ _ HB.out).mono ?_; rintro e w' ⟨rfl, ⟨m, rfl⟩⟩; have n0 := Aside0.mk (show Below w.heap.size w (w2.drewN m) from by apply pw_below_drewN; exact HB.out); clear HB; have HB := n0; clear n0) | (go_at_call 12; refine (HT.out _ _ HB.out).mono ?_; rintro e w' ⟨rfl, hb'⟩; have n0 := Aside0.mk (below_step HB.out hb'); clear hb' HB; have HB := n0; clear n0))
    go_ret
    exact ⟨by rw [HJ'.out]; rfl, HB.out⟩
  · have d1 : decide (wrap64 (a - (x.f2.size : Int)) < 0) = false := decide_eq_false c1
    have hj := HJ.out
    rw [if_neg c1] at hj
    by_cases c2 : fs (wrap64 (a - (x.f2.size : Int))) < 0
    · have d2 : decide (fs (wrap64 (a - (x.f2.size : Int))) < 0) = true := decide_eq_true c2
      rw [if_pos c2] at hj
      have HJ' := Aside0.mk hj
      clear hj HJ c1 c2
      go_enter Try.func4, Try.ntmps4
      go_wp2_with (first | ((with_reducible refine gate_dst (N := 2) rfl ?_); refine box_event ?hg (N := 2) ?hd (cs := #[.int .i64 x.f0, .int .i64 x.f1, .string x.f2, .slice A3 x.f3.length c3, .slice A4 x.f4.length c4]) (t := 25) ?hr ?_; (case hd => rfl); (case hg => rfl); (case hr => first | (go_simp; done) | (go_simp; rfl)); intro g2 hg w2 hx hb; have B2 := Aside0.mk hx; have HB := Aside0.mk (below_step (Below.refl w.heap.size w) hb); have q0 : w2.cell? ⟨g2, 0, none⟩ = some (.int .i64 x.f0) := (blk_cell hx 0).trans rfl; have q1 : w2.cell? ⟨g2, 1, none⟩ = some (.int .i64 x.f1) := (blk_cell hx 1).trans rfl; have q2 : w2.cell? ⟨g2, 2, none⟩ = some (.string x.f2) := (blk_cell hx 2).trans rfl; have q3 : w2.cell? ⟨g2, 3, none⟩ = some (.slice A3 x.f3.length c3) := (blk_cell hx 3).trans rfl; have q4 : w2.cell? ⟨g2, 4, none⟩ = some (.slice A4 x.f4.length c4) := (blk_cell hx 4).trans rfl; clear hx hb hg) | (go_at_call 11; refine (HS.out _ _ HB.out).mono ?_; rintro e w' ⟨rfl, ⟨m, rfl⟩⟩; have n0 := Aside0.mk (show Below w.heap.size w (w2.drewN m) from by apply pw_below_drewN; exact HB.out); clear HB; have HB := n0; clear n0) | (go_at_call 12; refine (HT.out _ _ HB.out).mono ?_; rintro e w' ⟨rfl, hb'⟩; have n0 := Aside0.mk (below_step HB.out hb'); clear hb' HB; have HB := n0; clear n0))
      go_ret
      exact ⟨by rw [HJ'.out]; rfl, HB.out⟩
    · have d2 : decide (fs (wrap64 (a - (x.f2.size : Int))) < 0) = false := decide_eq_false c2
      rw [if_neg c2] at hj
      by_cases c3' : fj (fs (wrap64 (a - (x.f2.size : Int)))) < 0
      · have d3 : decide (fj (fs (wrap64 (a - (x.f2.size : Int)))) < 0) = true := decide_eq_true c3'
        rw [if_pos c3'] at hj
        have HJ' := Aside0.mk hj
        clear hj HJ c1 c2 c3'
        go_enter Try.func4, Try.ntmps4
        go_wp2_with (first | ((with_reducible refine gate_dst (N := 2) rfl ?_); refine box_event ?hg (N := 2) ?hd (cs := #[.int .i64 x.f0, .int .i64 x.f1, .string x.f2, .slice A3 x.f3.length c3, .slice A4 x.f4.length c4]) (t := 25) ?hr ?_; (case hd => rfl); (case hg => rfl); (case hr => first | (go_simp; done) | (go_simp; rfl)); intro g2 hg w2 hx hb; have B2 := Aside0.mk hx; have HB := Aside0.mk (below_step (Below.refl w.heap.size w) hb); have q0 : w2.cell? ⟨g2, 0, none⟩ = some (.int .i64 x.f0) := (blk_cell hx 0).trans rfl; have q1 : w2.cell? ⟨g2, 1, none⟩ = some (.int .i64 x.f1) := (blk_cell hx 1).trans rfl; have q2 : w2.cell? ⟨g2, 2, none⟩ = some (.string x.f2) := (blk_cell hx 2).trans rfl; have q3 : w2.cell? ⟨g2, 3, none⟩ = some (.slice A3 x.f3.length c3) := (blk_cell hx 3).trans rfl; have q4 : w2.cell? ⟨g2, 4, none⟩ = some (.slice A4 x.f4.length c4) := (blk_cell hx 4).trans rfl; clear hx hb hg) | (go_at_call 11; refine (HS.out _ _ HB.out).mono ?_; rintro e w' ⟨rfl, ⟨m, rfl⟩⟩; have n0 := Aside0.mk (show Below w.heap.size w (w2.drewN m) from by apply pw_below_drewN; exact HB.out); clear HB; have HB := n0; clear n0) | (go_at_call 12; refine (HT.out _ _ HB.out).mono ?_; rintro e w' ⟨rfl, hb'⟩; have n0 := Aside0.mk (below_step HB.out hb'); clear hb' HB; have HB := n0; clear n0))
        go_ret
        exact ⟨by rw [HJ'.out]; rfl, HB.out⟩
      · have d3 : decide (fj (fs (wrap64 (a - (x.f2.size : Int)))) < 0) = false := decide_eq_false c3'
        rw [if_neg c3'] at hj
        have HJ' := Aside0.mk hj
        clear hj HJ c1 c2 c3'
        go_enter Try.func4, Try.ntmps4
        go_wp2_with (first | ((with_reducible refine gate_dst (N := 2) rfl ?_); refine box_event ?hg (N := 2) ?hd (cs := #[.int .i64 x.f0, .int .i64 x.f1, .string x.f2, .slice A3 x.f3.length c3, .slice A4 x.f4.length c4]) (t := 25) ?hr ?_; (case hd => rfl); (case hg => rfl); (case hr => first | (go_simp; done) | (go_simp; rfl)); intro g2 hg w2 hx hb; have B2 := Aside0.mk hx; have HB := Aside0.mk (below_step (Below.refl w.heap.size w) hb); have q0 : w2.cell? ⟨g2, 0, none⟩ = some (.int .i64 x.f0) := (blk_cell hx 0).trans rfl; have q1 : w2.cell? ⟨g2, 1, none⟩ = some (.int .i64 x.f1) := (blk_cell hx 1).trans rfl; have q2 : w2.cell? ⟨g2, 2, none⟩ = some (.string x.f2) := (blk_cell hx 2).trans rfl; have q3 : w2.cell? ⟨g2, 3, none⟩ = some (.slice A3 x.f3.length c3) := (blk_cell hx 3).trans rfl; have q4 : w2.cell? ⟨g2, 4, none⟩ = some (.slice A4 x.f4.length c4) := (blk_cell hx 4).trans rfl; clear hx hb hg) | (go_at_call 11; refine (HS.out _ _ HB.out).mono ?_; rintro e w' ⟨rfl, ⟨m, rfl⟩⟩; have n0 := Aside0.mk (show Below w.heap.size w (w2.drewN m) from by apply pw_below_drewN; exact HB.out); clear HB; have HB := n0; clear n0) | (go_at_call 12; refine (HT.out _ _ HB.out).mono ?_; rintro e w' ⟨rfl, hb'⟩; have n0 := Aside0.mk (below_step HB.out hb'); clear hb' HB; have HB := n0; clear n0))
        go_ret
        exact ⟨by rw [HJ'.out]; rfl, HB.out⟩
theorem laws_szJson.all (x : S25) : laws_szJson.P x := by
  have : ∀ n : Nat, ∀ x : S25, SizeOf.sizeOf x < n → laws_szJson.P x := by
    intro n
    induction n with
    | zero => intro x h; omega
    | succ n ih =>
      intro x h
      refine laws_szJson.own1 x fun i hi => ih _ ?_
      have hm : rd_T25 x.f4 (i : Int) ∈ x.f4 := by simp [rd_T25, List.getD, hi]
      have h1 := List.sizeOf_lt_of_mem hm
      have h2 : SizeOf.sizeOf x = 1 + SizeOf.sizeOf x.f0 + SizeOf.sizeOf x.f1 + SizeOf.sizeOf x.f2 + SizeOf.sizeOf x.f3 + SizeOf.sizeOf x.f4 := by cases x; simp
      omega
  exact this _ x (Nat.lt_succ_self _)
def laws_szJson.f (a0_0 : Int) (a0_1 : Int) (a0_2 : ByteArray) (l0_3 : List ByteArray) (l0_4 : List (S25)) (a1 : Int) : Option Int := some (laws_szJson.szJ ⟨a0_0, a0_1, a0_2, l0_3, l0_4⟩ a1)
theorem laws_szJson.calls (a0_0 : Int) (a0_1 : Int) (a0_2 : ByteArray) (A0_3 : Option Addr) (c0_3 : Nat) (l0_3 : List ByteArray) (A0_4 : Option Addr) (c0_4 : Nat) (l0_4 : List (S25)) (a1 : Int) (r : Int) (w : World) (hr0_3 : Kd.C Kd.string w A0_3 l0_3.length l0_3) (hc0_3 : l0_3.length ≤ c0_3) (hr0_4 : Kd.C k25 w A0_4 l0_4.length l0_4) (hc0_4 : l0_4.length ≤ c0_4) (h : laws_szJson.f a0_0 a0_1 a0_2 l0_3 l0_4 a1 = some r) :
    Calls Try.prog 4 #[.agg #[.int .i64 a0_0, .int .i64 a0_1, .string a0_2, .slice A0_3 l0_3.length c0_3, .slice A0_4 l0_4.length c0_4], .int .i64 a1] w fun e w' => e = .returned (.int .i64 r) ∧ Below w.heap.size w w' := by
  obtain rfl := Option.some.inj h
  exact laws_szJson.all ⟨a0_0, a0_1, a0_2, l0_3, l0_4⟩ A0_3 c0_3 A0_4 c0_4 a1 w hr0_3 hc0_3 hr0_4 hc0_4

/-! ### spec_l01In: function 30 -/
def spec_l01In.f (a0 : Int) (a1 : Int) (a2 : Int) : Option (Bool) := if a0 ≥ a1 then (some (decide (a0 ≤ a2))) else (some false)
set_option maxHeartbeats 8000000 in
set_option maxRecDepth 100000 in
theorem spec_l01In.calls (a0 : Int) (a1 : Int) (a2 : Int) (r : Bool) (w : World) (h : spec_l01In.f a0 a1 a2 = some r) :
    Calls Try.prog 30 #[.int .i64 a0, .int .i64 a1, .int .i64 a2] w fun e w' => e = .returned (.bool r) ∧ Drawn0 w w' := by
 have H : (if a0 ≥ a1 then (some (decide (a0 ≤ a2))) else (some false)) = some r := h
 clear h
 by_cases c4 : a0 ≥ a1
 ·
  rw [if_pos c4] at H
  have c4b0 : decide (a1 ≤ a0) = true := decide_eq_true c4
  clear c4
  obtain rfl := Option.some.inj H
  go_enter Try.func30, Try.ntmps30
  go_wp2
  go_ret
  exact ⟨by first | rfl | (simp; done) | (simp [*]; done) | (simp only [bne_empty_]; rfl), by repeat (first | exact Drawn0.refl _ | apply Drawn0.step)⟩
 ·
  rw [if_neg c4] at H
  have c4b0 : decide (a1 ≤ a0) = false := decide_eq_false c4
  clear c4
  obtain rfl := Option.some.inj H
  go_enter Try.func30, Try.ntmps30
  go_wp2
  go_ret
  exact ⟨by first | rfl | (simp; done) | (simp [*]; done) | (simp only [bne_empty_]; rfl), by repeat (first | exact Drawn0.refl _ | apply Drawn0.step)⟩

/-! ### spec_l01Has: function 31 -/
def spec_l01Has.l0 : Nat → List ByteArray → ByteArray → Int → Option (Bool)
  | 0, _, _, _ => none
  | k + 1, x0, x1, x5 => if x5 < (x0.length : Int) then (if 0 ≤ x5 then (if (rdOf ByteArray.empty x0 x5).toList = x1.toList then (some true) else (spec_l01Has.l0 k x0 x1 (wrap64 (x5 + 1)))) else (none)) else (some false)
def spec_l01Has.f (k : Nat) (l0 : List ByteArray) (a1 : ByteArray) : Option (Bool) := spec_l01Has.l0 k l0 a1 0
theorem spec_l01Has.mono_l : ∀ k, (∀ y0 y1 y2, LeO (spec_l01Has.l0 k y0 y1 y2) (spec_l01Has.l0 (k + 1) y0 y1 y2))
  | 0 => fun _ _ _ r h => by simp [spec_l01Has.l0] at h
  | k + 1 => by
    have ih0 := spec_l01Has.mono_l k
    · intro y0 y1 y2
      unfold spec_l01Has.l0
      repeat' first
      | (with_reducible exact ih0 _ _ _)
      | (with_reducible exact LeO.refl _)
      | (with_reducible exact LeO.none _)
      | (with_reducible refine LeO.ite ?_ ?_)
      | (with_reducible refine LeO.bind ?_ (fun _ => ?_))
      | exact ih0 _ _ _
      | exact LeO.none _
      | refine LeO.ite ?_ ?_
      | refine LeO.bind ?_ (fun _ => ?_)
theorem spec_l01Has.mono : ∀ a0 a1 k, LeO (spec_l01Has.f k a0 a1) (spec_l01Has.f (k + 1) a0 a1) := by
  intro a0 a1 k
  have ih0 := spec_l01Has.mono_l k
  unfold spec_l01Has.f
  repeat' first
      | (with_reducible exact ih0 _ _ _)
      | (with_reducible exact LeO.refl _)
      | (with_reducible exact LeO.none _)
      | (with_reducible refine LeO.ite ?_ ?_)
      | (with_reducible refine LeO.bind ?_ (fun _ => ?_))
      | exact ih0 _ _ _
      | exact LeO.none _
      | refine LeO.ite ?_ ?_
      | refine LeO.bind ?_ (fun _ => ?_)
set_option maxHeartbeats 8000000 in
set_option maxRecDepth 100000 in
theorem spec_l01Has.calls (k : Nat) (A0 : Option Addr) (c0 : Nat) (l0 : List ByteArray) (a1 : ByteArray) (r : Bool) (w : World) (hr0 : Kd.C Kd.string w A0 l0.length l0) (hc0 : l0.length ≤ c0) (h : spec_l01Has.f k l0 a1 = some r) :
    Calls Try.prog 31 #[.slice A0 l0.length c0, .string a1] w fun e w' => e = .returned (.bool r) ∧ Drawn0 w w' := by
 have HR0 := Aside0.mk hr0
 have HC0 := Aside0.mk hc0
 clear hr0 hc0
 have H : (spec_l01Has.l0 k l0 a1 0) = some r := h
 clear h
 have H' := Aside0.mk H
 clear H
 go_enter Try.func31, Try.ntmps31
 go_wp2
 go_loopg [5] k (fun kq v5 w' => ∃ (x5_1 : Int), v5 = .int .i64 x5_1 ∧ Aside0 (spec_l01Has.l0 kq l0 a1 x5_1 = some r) ∧ Aside0 (kq ≤ k) ∧ Drawn0 w w')
 case atStart => exact ⟨(0), eqE_, H', ⟨Nat.le_refl _⟩, by repeat (first | exact Drawn0.refl _ | apply Drawn0.step)⟩
 case round =>
  clear H'
  obtain ⟨x5_1, rfl, HA, HK1, ⟨m1, rfl⟩⟩ := hrel
  cases gk with
  | zero => exact absurd HA.out (by simp [spec_l01Has.l0])
  | succ k1 =>
   have H := HA.out
   clear HA
   simp only [spec_l01Has.l0] at H
   by_cases c3 : x5_1 < (l0.length : Int)
   ·
    rw [if_pos c3] at H
    have c3b0 : decide (x5_1 < (l0.length : Int)) = true := decide_eq_true c3
    clear c3
    by_cases c4 : 0 ≤ x5_1
    ·
     rw [if_pos c4] at H
     have c4b0 : decide (0 ≤ x5_1) = true := decide_eq_true c4
     clear c4
     by_cases c5 : (rdOf ByteArray.empty l0 x5_1).toList = a1.toList
     ·
      rw [if_pos c5] at H
      have c5b0 : ((rdOf ByteArray.empty l0 x5_1).toList == a1.toList) = true := beq_iff_eq.mpr c5
      have c5b1 : ((rdOf ByteArray.empty l0 x5_1).toList != a1.toList) = false := bne_eq_false_iff_eq.mpr c5
      clear c5
      obtain rfl := Option.some.inj H
      have p102 : 0 ≤ (x5_1 : Int) := of_decide_eq_true (by first | (with_reducible assumption) | assumption)
      have q102 : x5_1 < (l0.length : Int) := of_decide_eq_true (by first | (with_reducible assumption) | assumption)
      obtain ⟨ad102, e102, hx102_0⟩ := Kd.at_string HR0.out x5_1 p102 q102
      cases e102
      replace p102 := eq_true p102
      replace q102 := eq_true q102
      go_wp2
      go_ret
      exact ⟨by first | rfl | (simp; done) | (simp [*]; done) | (simp only [bne_empty_]; rfl), by repeat (first | exact Drawn0.refl _ | apply Drawn0.step)⟩
     ·
      rw [if_neg c5] at H
      have c5b0 : ((rdOf ByteArray.empty l0 x5_1).toList == a1.toList) = false := beq_eq_false_iff_ne.mpr c5
      have c5b1 : ((rdOf ByteArray.empty l0 x5_1).toList != a1.toList) = true := bne_iff_ne.mpr c5
      have H' := Aside0.mk H
      clear H
      have p102 : 0 ≤ (x5_1 : Int) := of_decide_eq_true (by first | (with_reducible assumption) | assumption)
      have q102 : x5_1 < (l0.length : Int) := of_decide_eq_true (by first | (with_reducible assumption) | assumption)
      obtain ⟨ad102, e102, hx102_0⟩ := Kd.at_string HR0.out x5_1 p102 q102
      cases e102
      replace p102 := eq_true p102
      replace q102 := eq_true q102
      go_wp2
      go_roundg k1
      case measure => have := HK1.out; omega
      case rel => exact ⟨(wrap64 (x5_1 + 1)), eqE_, H', ⟨by have := HK1.out; omega⟩, by repeat (first | exact Drawn0.refl _ | apply Drawn0.step)⟩
    ·
     rw [if_neg c4] at H
     exact absurd H (by simp)
   ·
    rw [if_neg c3] at H
    have c3b0 : decide (x5_1 < (l0.length : Int)) = false := decide_eq_false c3
    clear c3
    obtain rfl := Option.some.inj H
    go_wp2
    go_ret
    exact ⟨by first | rfl | (simp; done) | (simp [*]; done) | (simp only [bne_empty_]; rfl), by repeat (first | exact Drawn0.refl _ | apply Drawn0.step)⟩

end Go.Proofs.Ytljpmdeobmmhlaa.QFnExactMember
