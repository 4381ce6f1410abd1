/- A tool of this session wrote this text out of the translation: functions as plain Lean, and proofs that the machine's calls come to their answers. -/
import Derived.Test.YtmfnaaeglfhnmaaQShort
import Derived.Test.YtmfnaaeglfhnmaaQFnExactSameJsonx0
namespace Go.Proofs.Ytmfnaaeglfhnmaa.QFnExactSameJson
open Go.RowKit Go.Proofs.YtmfnaaeglfhnmaaW.PrintWords Go.Proofs.YtmfnaaeglfhnmaaW.PrintLast Go.Proofs.YtmfnaaeglfhnmaaW.PrintMore
open Go.Proofs.Ytmfnaaeglfhnmaa.Short
attribute [local go_sem] max2_int min2_int max_two min_two max_three min_three max_four min_four   -- for this text's walks alone
set_option linter.unusedVariables false
set_option linter.unusedSimpArgs false

/-! ### laws_szStringS: function 74 -/
def laws_szStringS.l0 : Nat → List ByteArray → Int → Int → Option (Int)
  | 0, _, _, _ => none
  | k + 1, x0, x1, x5 => if x5 < (x0.length : Int) then (if 0 ≤ x5 then (if (wrap64 (x1 - ((rdOf ByteArray.empty x0 x5).size : Int))) < 0 then (some (-1)) else (laws_szStringS.l0 k x0 (wrap64 (x1 - ((rdOf ByteArray.empty x0 x5).size : Int))) (wrap64 (x5 + 1)))) else (none)) else (some x1)
def laws_szStringS.f (k : Nat) (l0 : List ByteArray) (a1 : Int) : Option (Int) := if (wrap64 (a1 - (l0.length : Int))) < 0 then (some (-1)) else (laws_szStringS.l0 k l0 (wrap64 (a1 - (l0.length : Int))) 0)
theorem laws_szStringS.mono_l : ∀ k, (∀ y0 y1 y2, LeO (laws_szStringS.l0 k y0 y1 y2) (laws_szStringS.l0 (k + 1) y0 y1 y2))
  | 0 => fun _ _ _ r h => by simp [laws_szStringS.l0] at h
  | k + 1 => by
    have ih0 := laws_szStringS.mono_l k
    · intro y0 y1 y2
      unfold laws_szStringS.l0
      repeat' first
      | (with_reducible exact ih0 _ _ _)
      | (with_reducible exact LeO.refl _)
      | (with_reducible exact LeO.none _)
      | (with_reducible refine LeO.ite ?_ ?_)
      | (with_reducible refine LeO.bind ?_ (fun _ => ?_))
      | exact ih0 _ _ _
      | exact LeO.none _
      | refine LeO.ite ?_ ?_
      | refine LeO.bind ?_ (fun _ => ?_)
theorem laws_szStringS.mono : ∀ a0 a1 k, LeO (laws_szStringS.f k a0 a1) (laws_szStringS.f (k + 1) a0 a1) := by
  intro a0 a1 k
  have ih0 := laws_szStringS.mono_l k
  unfold laws_szStringS.f
  repeat' first
      | (with_reducible exact ih0 _ _ _)
      | (with_reducible exact LeO.refl _)
      | (with_reducible exact LeO.none _)
      | (with_reducible refine LeO.ite ?_ ?_)
      | (with_reducible refine LeO.bind ?_ (fun _ => ?_))
      | exact ih0 _ _ _
      | exact LeO.none _
      | refine LeO.ite ?_ ?_
      | refine LeO.bind ?_ (fun _ => ?_)
set_option maxHeartbeats 8000000 in
set_option maxRecDepth 100000 in
theorem laws_szStringS.calls (k : Nat) (A0 : Option Addr) (c0 : Nat) (l0 : List ByteArray) (a1 : Int) (r : Int) (w : World) (hr0 : Kd.C Kd.string w A0 l0.length l0) (hc0 : l0.length ≤ c0) (h : laws_szStringS.f k l0 a1 = some r) :
    Calls Try.prog 74 #[.slice A0 l0.length c0, .int .i64 a1] w fun e w' => e = .returned (.int .i64 r) ∧ Drawn0 w w' := by
 have HR0 := Aside0.mk hr0
 have HC0 := Aside0.mk hc0
 clear hr0 hc0
 have H : (if (wrap64 (a1 - (l0.length : Int))) < 0 then (some (-1)) else (laws_szStringS.l0 k l0 (wrap64 (a1 - (l0.length : Int))) 0)) = some r := h
 clear h
 by_cases c3 : (wrap64 (a1 - (l0.length : Int))) < 0
 ·
  rw [if_pos c3] at H
  have c3b0 : decide ((wrap64 (a1 - (l0.length : Int))) < 0) = true := decide_eq_true c3
  clear c3
  obtain rfl := Option.some.inj H
  go_enter Try.func74, Try.ntmps74
  go_wp2
  go_ret
  exact ⟨by first | rfl | (simp; done) | (simp [*]; done) | (simp only [bne_empty_]; rfl), by repeat (first | exact Drawn0.refl _ | apply Drawn0.step)⟩
 ·
  rw [if_neg c3] at H
  have c3b0 : decide ((wrap64 (a1 - (l0.length : Int))) < 0) = false := decide_eq_false c3
  clear c3
  have H' := Aside0.mk H
  clear H
  go_enter Try.func74, Try.ntmps74
  go_wp2
  go_loopg [1, 5] k (fun kq v1 v5 w' => ∃ (x1_1 : Int) (x5_1 : Int), v1 = .int .i64 x1_1 ∧ v5 = .int .i64 x5_1 ∧ Aside0 (laws_szStringS.l0 kq l0 x1_1 x5_1 = some r) ∧ Aside0 (kq ≤ k) ∧ Drawn0 w w')
  case atStart => exact ⟨(wrap64 (a1 - (l0.length : Int))), (0), eqE_, eqE_, H', ⟨Nat.le_refl _⟩, by repeat (first | exact Drawn0.refl _ | apply Drawn0.step)⟩
  case round =>
   clear H'
   try clear c3
   try clear c3b0
   obtain ⟨x1_1, x5_1, rfl, rfl, HA, HK1, ⟨m1, rfl⟩⟩ := hrel
   cases gk with
   | zero => exact absurd HA.out (by simp [laws_szStringS.l0])
   | succ k1 =>
    have H := HA.out
    clear HA
    simp only [laws_szStringS.l0] at H
    by_cases c4 : x5_1 < (l0.length : Int)
    ·
     rw [if_pos c4] at H
     have c4b0 : decide (x5_1 < (l0.length : Int)) = true := decide_eq_true c4
     clear c4
     by_cases c5 : 0 ≤ x5_1
     ·
      rw [if_pos c5] at H
      have c5b0 : decide (0 ≤ x5_1) = true := decide_eq_true c5
      clear c5
      by_cases c6 : (wrap64 (x1_1 - ((rdOf ByteArray.empty l0 x5_1).size : Int))) < 0
      ·
       rw [if_pos c6] at H
       have c6b0 : decide ((wrap64 (x1_1 - ((rdOf ByteArray.empty l0 x5_1).size : Int))) < 0) = true := decide_eq_true c6
       clear c6
       obtain rfl := Option.some.inj H
       have p101 : 0 ≤ (x5_1 : Int) := of_decide_eq_true (by first | (with_reducible assumption) | assumption)
       have q101 : x5_1 < (l0.length : Int) := of_decide_eq_true (by first | (with_reducible assumption) | assumption)
       obtain ⟨ad101, e101, hx101_0⟩ := Kd.at_string HR0.out x5_1 p101 q101
       cases e101
       replace p101 := eq_true p101
       replace q101 := eq_true q101
       go_wp2
       go_ret
       exact ⟨by first | rfl | (simp; done) | (simp [*]; done) | (simp only [bne_empty_]; rfl), by repeat (first | exact Drawn0.refl _ | apply Drawn0.step)⟩
      ·
       rw [if_neg c6] at H
       have c6b0 : decide ((wrap64 (x1_1 - ((rdOf ByteArray.empty l0 x5_1).size : Int))) < 0) = false := decide_eq_false c6
       clear c6
       have H' := Aside0.mk H
       clear H
       have p101 : 0 ≤ (x5_1 : Int) := of_decide_eq_true (by first | (with_reducible assumption) | assumption)
       have q101 : x5_1 < (l0.length : Int) := of_decide_eq_true (by first | (with_reducible assumption) | assumption)
       obtain ⟨ad101, e101, hx101_0⟩ := Kd.at_string HR0.out x5_1 p101 q101
       cases e101
       replace p101 := eq_true p101
       replace q101 := eq_true q101
       go_wp2
       go_roundg k1
       case measure => have := HK1.out; omega
       case rel => exact ⟨(wrap64 (x1_1 - ((rdOf ByteArray.empty l0 x5_1).size : Int))), (wrap64 (x5_1 + 1)), eqE_, eqE_, H', ⟨by have := HK1.out; omega⟩, by repeat (first | exact Drawn0.refl _ | apply Drawn0.step)⟩
     ·
      rw [if_neg c5] at H
      exact absurd H (by simp)
    ·
     rw [if_neg c4] at H
     have c4b0 : decide (x5_1 < (l0.length : Int)) = false := decide_eq_false c4
     clear c4
     obtain rfl := Option.some.inj H
     go_wp2
     go_ret
     exact ⟨by first | rfl | (simp; done) | (simp [*]; done) | (simp only [bne_empty_]; rfl), by repeat (first | exact Drawn0.refl _ | apply Drawn0.step)⟩

/-! ### laws_szJson: function 58, by hand -/
/-- What is left behind the texts of a list. -/
def laws_szJson.szL : List ByteArray → Int → Int
  | [], a => a
  | t :: ts, a => if wrap64 (a - (t.size : Int)) < 0 then -1 else laws_szJson.szL ts (wrap64 (a - (t.size : Int)))
def laws_szJson.szS (l : List ByteArray) (a : Int) : Int := if wrap64 (a - (l.length : Int)) < 0 then -1 else laws_szJson.szL l (wrap64 (a - (l.length : Int)))
mutual
/-- What is left behind a value. -/
def laws_szJson.szJ : S83 → Int → Int
  | ⟨_, _, t, ns, xs⟩, a => if wrap64 (a - (t.size : Int)) < 0 then -1 else if laws_szJson.szS ns (wrap64 (a - (t.size : Int))) < 0 then -1 else
      if (if wrap64 (laws_szJson.szS ns (wrap64 (a - (t.size : Int))) - (xs.length : Int)) < 0 then -1 else laws_szJson.szJL xs (wrap64 (laws_szJson.szS ns (wrap64 (a - (t.size : Int))) - (xs.length : Int)))) < 0 then -1 else
      (if wrap64 (laws_szJson.szS ns (wrap64 (a - (t.size : Int))) - (xs.length : Int)) < 0 then -1 else laws_szJson.szJL xs (wrap64 (laws_szJson.szS ns (wrap64 (a - (t.size : Int))) - (xs.length : Int))))
/-- What is left behind the values of a list. -/
def laws_szJson.szJL : List S83 → Int → Int
  | [], a => a
  | x :: xs, a => if laws_szJson.szJ x a < 0 then -1 else laws_szJson.szJL xs (laws_szJson.szJ x a)
end
def laws_szJson.szJS (l : List S83) (a : Int) : Int := if wrap64 (a - (l.length : Int)) < 0 then -1 else laws_szJson.szJL l (wrap64 (a - (l.length : Int)))
theorem laws_szJson.szJ_eq (x : S83) (a : Int) : laws_szJson.szJ x a = if wrap64 (a - (x.f2.size : Int)) < 0 then -1 else if laws_szJson.szS x.f3 (wrap64 (a - (x.f2.size : Int))) < 0 then -1 else if laws_szJson.szJS x.f4 (laws_szJson.szS x.f3 (wrap64 (a - (x.f2.size : Int)))) < 0 then -1 else laws_szJson.szJS x.f4 (laws_szJson.szS x.f3 (wrap64 (a - (x.f2.size : Int)))) := by
  cases x; rw [laws_szJson.szJ]; rfl
theorem laws_szJson.wr_ (n : Int) (h : -9223372036854775808 ≤ n ∧ n ≤ 9223372036854775807) : wrap64 n = n := by unfold wrap64; omega
theorem laws_szJson.szL_l0 (l : List ByteArray) (hl : l.length ≤ 9223372036854775807) : ∀ (d n : Nat) (a : Int), n + d = l.length → laws_szStringS.l0 (d + 1) l a (n : Int) = some (laws_szJson.szL (l.drop n) a) := by
  intro d
  induction d with
  | zero => intro n a h; rw [laws_szStringS.l0, if_neg (by omega), List.drop_eq_nil_of_le (by omega)]; rfl
  | succ d ih =>
    intro n a h
    have hn : n < l.length := by omega
    rw [laws_szStringS.l0, if_pos (by omega), if_pos (by omega), show wrap64 ((n : Int) + 1) = ((n + 1 : Nat) : Int) from by rw [laws_szJson.wr_ _ (by omega)]; rfl, ih (n + 1) _ (by omega), List.drop_eq_getElem_cons hn, laws_szJson.szL]
    have hr : rdOf ByteArray.empty l (n : Int) = l[n] := by simp [rdOf, List.getD, hn]
    rw [hr]; split <;> rfl
theorem laws_szJson.szS_f (l : List ByteArray) (hl : l.length ≤ 9223372036854775807) (a : Int) : laws_szStringS.f (l.length + 1) l a = some (laws_szJson.szS l a) := by
  rw [laws_szStringS.f, laws_szJson.szS]
  have := laws_szJson.szL_l0 l hl l.length 0 (wrap64 (a - (l.length : Int))) (by omega)
  rw [List.drop_zero] at this
  split
  · rfl
  · exact this
abbrev laws_szJson.P (x : S83) : Prop := ∀ (A3 : Option Addr) (c3 : Nat) (A4 : Option Addr) (c4 : Nat) (a : Int) (w : World), Kd.C Kd.string w A3 x.f3.length x.f3 → x.f3.length ≤ c3 → Kd.C k83 w A4 x.f4.length x.f4 → x.f4.length ≤ c4 →
  Calls Try.prog 58 #[.agg #[.int .i64 x.f0, .int .i64 x.f1, .string x.f2, .slice A3 x.f3.length c3, .slice A4 x.f4.length c4], .int .i64 a] w fun e w' => e = .returned (.int .i64 (laws_szJson.szJ x a)) ∧ Below w.heap.size w w'
set_option maxHeartbeats 8000000 in
set_option maxRecDepth 100000 in
theorem laws_szJson.ownS (l : List S83) (hp : ∀ i : Nat, i < l.length → laws_szJson.P (rd_T83 l (i : Int))) (A : Option Addr) (c : Nat) (a : Int) (w : World) (hr : Kd.C k83 w A l.length l) (hc : l.length ≤ c) :
    Calls Try.prog 115 #[.slice A l.length c, .int .i64 a] w fun e w' => e = .returned (.int .i64 (laws_szJson.szJS l a)) ∧ Below w.heap.size w w' := by
  have HR := Aside0.mk hr
  have HP := Aside0.mk hp
  have hlen := hr.2.1
  have HJ := Aside0.mk (show laws_szJson.szJS l a = _ from rfl)
  clear hr hp
  by_cases hz : wrap64 (a - (l.length : Int)) < 0
  · have hd0 : decide (wrap64 (a - (l.length : Int)) < 0) = true := decide_eq_true hz
    go_enter Try.func115, Try.ntmps115
    go_wp2
    go_ret
    exact ⟨by rw [laws_szJson.szJS, if_pos hz]; rfl, Below.refl _ _⟩
  · have hd0 : decide (wrap64 (a - (l.length : Int)) < 0) = false := decide_eq_false hz
    have hJ : laws_szJson.szJS l a = laws_szJson.szJL l (wrap64 (a - (l.length : Int))) := by rw [laws_szJson.szJS, if_neg hz]
    rw [hJ]
    clear HJ hJ hz
    go_enter Try.func115, Try.ntmps115
    go_wp2
    go_loopw [1, 5] (fun v i W => ∃ (n d : Nat) (b : Int), n + d = l.length ∧ v = .int .i64 b ∧ i = .int .i64 (n : Int) ∧ Aside0 (laws_szJson.szJL (l.drop n) b = laws_szJson.szJL l (wrap64 (a - (l.length : Int)))) ∧ Below w.heap.size w W) (fun _ i _ => l.length - (intOf i).toNat)
    case atStart => exact ⟨0, l.length, _, by omega, rfl, rfl, ⟨rfl⟩, Below.refl _ _⟩
    case round =>
      obtain ⟨n, d, b, hd, rfl, rfl, HK, hb⟩ := hrel
      have HB := Aside0.mk hb
      clear hb
      cases d with
      | zero =>
        have hdec : decide ((n : Int) < (l.length : Int)) = false := decide_eq_false (by omega)
        go_wp2
        go_ret
        exact ⟨by rw [← HK.out, List.drop_eq_nil_of_le (by omega)]; rfl, HB.out⟩
      | succ d =>
        have p : 0 ≤ (n : Int) := by omega
        have q : (n : Int) < (l.length : Int) := by omega
        have hdec : decide ((n : Int) < (l.length : Int)) = true := decide_eq_true q
        obtain ⟨ad, A3, c3, A4, c4, ea, hx0, hx1, hx2, hx3, hx4, l3, g3, l4, g4⟩ := at_T83 (Kd.C_below HR.out HB.out) (n : Int) p q
        cases ea
        simp only [Int.toNat_natCast] at hx0 hx1 hx2 hx3 hx4
        have HC := Aside0.mk (HP.out n (by omega) A3 c3 A4 c4 b wr g3 l3 g4 l4)
        have hk := HK.out
        rw [List.drop_eq_getElem_cons (by omega : n < l.length), laws_szJson.szJL] at hk
        have hrd : rd_T83 l (n : Int) = l[n] := by simp [rd_T83, List.getD, (by omega : n < l.length)]
        rw [← hrd] at hk
        clear hrd HK g3 g4
        revert hk HC
        generalize laws_szJson.szJ (rd_T83 l (n : Int)) b = t
        intro HC hk
        by_cases ht : t < 0
        · rw [if_pos ht] at hk
          have HK' := Aside0.mk hk
          have hdt : decide (t < 0) = true := decide_eq_true ht
          clear hk ht
          go_wp2_with (go_at_call 58; refine HC.out.mono ?_; rintro e w' ⟨rfl, hb'⟩; have HB' := Aside0.mk (below_step HB.out hb'); clear hb')
          go_ret
          exact ⟨by rw [← HK'.out]; rfl, HB'.out⟩
        · rw [if_neg ht] at hk
          have HK' := Aside0.mk hk
          have hdt : decide (t < 0) = false := decide_eq_false ht
          clear hk ht
          go_wp2_with (go_at_call 58; refine HC.out.mono ?_; rintro e w' ⟨rfl, hb'⟩; have HB' := Aside0.mk (below_step HB.out hb'); clear hb')
          go_roundw
          case rel => exact ⟨n + 1, d, t, by omega, rfl, by go_num, HK', HB'.out⟩
          case measure => simp [intOf]; omega
set_option maxHeartbeats 8000000 in
set_option maxRecDepth 100000 in
theorem laws_szJson.own1 (x : S83) (hp : ∀ i : Nat, i < x.f4.length → laws_szJson.P (rd_T83 x.f4 (i : Int))) : laws_szJson.P x := by
  intro A3 c3 A4 c4 a w h3 l3 h4 l4
  have H3 := Aside0.mk h3
  have H4 := Aside0.mk h4
  have HP := Aside0.mk hp
  have n3 := h3.2.1
  have HJ := Aside0.mk (laws_szJson.szJ_eq x a)
  have HS := fun (b : Int) (W : World) (hw : Below w.heap.size w W) => laws_szStringS.calls (x.f3.length + 1) A3 c3 x.f3 b _ W (Kd.C_below h3 hw) l3 (laws_szJson.szS_f x.f3 n3 b)
  have HT := fun (b : Int) (W : World) (hw : Below w.heap.size w W) => laws_szJson.ownS x.f4 hp A4 c4 b W (Kd.C_below h4 hw) l4
  clear h3 h4 hp
  replace HS := Aside0.mk HS
  replace HT := Aside0.mk HT
  revert HJ HS HT
  generalize laws_szJson.szJ x a = r
  generalize hs : laws_szJson.szS x.f3 = fs
  generalize hj : laws_szJson.szJS x.f4 = fj
  clear hs hj
  intro HJ HS HT
  have hu83 := Try.underlying83
  by_cases c1 : wrap64 (a - (x.f2.size : Int)) < 0
  · have d1 : decide (wrap64 (a - (x.f2.size : Int)) < 0) = true := decide_eq_true c1
    have hj := HJ.out
    rw [if_pos c1] at hj
    have HJ' := Aside0.mk hj
    clear hj HJ c1
    go_enter Try.func58, Try.ntmps58
    go_wp2_with (first | ((with_reducible refine gate_dst (N := 2) rfl ?_); refine box_event ?hg (N := 2) ?hd (cs := #[.int .i64 x.f0, .int .i64 x.f1, .string x.f2, .slice A3 x.f3.length c3, .slice A4 x.f4.length c4]) (t := 83) ?hr ?_; (case hd => rfl); (case hg => rfl); (case hr => first | (go_simp; done) | (go_simp; rfl)); intro g2 hg w2 hx hb; have B2 := Aside0.mk hx; have HB := Aside0.mk (below_step (Below.refl w.heap.size w) hb); have q0 : w2.cell? ⟨g2, 0, none⟩ = some (.int .i64 x.f0) := (blk_cell hx 0).trans rfl; have q1 : w2.cell? ⟨g2, 1, none⟩ = some (.int .i64 x.f1) := (blk_cell hx 1).trans rfl; have q2 : w2.cell? ⟨g2, 2, none⟩ = some (.string x.f2) := (blk_cell hx 2).trans rfl; have q3 : w2.cell? ⟨g2, 3, none⟩ = some (.slice A3 x.f3.length c3) := (blk_cell hx 3).trans rfl; have q4 : w2.cell? ⟨g2, 4, none⟩ = some (.slice A4 x.f4.length c4) := (blk_cell hx 4).trans rfl; clear hx hb hg) | (go_at_call 74; refine (HS.out _ _ HB.out).mono ?_; rintro e w' ⟨rfl, ⟨m, rfl⟩⟩; have n0 := Aside0.mk (show Below w.heap.size w (w2.drewN m) from by apply pw_below_drewN; exact HB.out); clear HB; have HB := n0; clear n0) | (go_at_call 115; refine (HT.out _ _ HB.out).mono ?_; rintro e w' ⟨rfl, hb'⟩; have n0 := Aside0.mk (below_step HB.out hb'); clear hb' HB; have HB := n0; clear n0))
    go_ret
    exact ⟨by rw [HJ'.out]; rfl, HB.out⟩
  · have d1 : decide (wrap64 (a - (x.f2.size : Int)) < 0) = false := decide_eq_false c1
    have hj := HJ.out
    rw [if_neg c1] at hj
    by_cases c2 : fs (wrap64 (a - (x.f2.size : Int))) < 0
    · have d2 : decide (fs (wrap64 (a - (x.f2.size : Int))) < 0) = true := decide_eq_true c2
      rw [if_pos c2] at hj
      have HJ' := Aside0.mk hj
      clear hj HJ c1 c2
      go_enter Try.func58, Try.ntmps58
      go_wp2_with (first | ((with_reducible refine gate_dst (N := 2) rfl ?_); refine box_event ?hg (N := 2) ?hd (cs := #[.int .i64 x.f0, .int .i64 x.f1, .string x.f2, .slice A3 x.f3.length c3, .slice A4 x.f4.length c4]) (t := 83) ?hr ?_; (case hd => rfl); (case hg => rfl); (case hr => first | (go_simp; done) | (go_simp; rfl)); intro g2 hg w2 hx hb; have B2 := Aside0.mk hx; have HB := Aside0.mk (below_step (Below.refl w.heap.size w) hb); have q0 : w2.cell? ⟨g2, 0, none⟩ = some (.int .i64 x.f0) := (blk_cell hx 0).trans rfl; have q1 : w2.cell? ⟨g2, 1, none⟩ = some (.int .i64 x.f1) := (blk_cell hx 1).trans rfl; have q2 : w2.cell? ⟨g2, 2, none⟩ = some (.string x.f2) := (blk_cell hx 2).trans rfl; have q3 : w2.cell? ⟨g2, 3, none⟩ = some (.slice A3 x.f3.length c3) := (blk_cell hx 3).trans rfl; have q4 : w2.cell? ⟨g2, 4, none⟩ = some (.slice A4 x.f4.length c4) := (blk_cell hx 4).trans rfl; clear hx hb hg) | (go_at_call 74; refine (HS.out _ _ HB.out).mono ?_; rintro e w' ⟨rfl, ⟨m, rfl⟩⟩; have n0 := Aside0.mk (show Below w.heap.size w (w2.drewN m) from by apply pw_below_drewN; exact HB.out); clear HB; have HB := n0; clear n0) | (go_at_call 115; refine (HT.out _ _ HB.out).mono ?_; rintro e w' ⟨rfl, hb'⟩; have n0 := Aside0.mk (below_step HB.out hb'); clear hb' HB; have HB := n0; clear n0))
      go_ret
      exact ⟨by rw [HJ'.out]; rfl, HB.out⟩
    · have d2 : decide (fs (wrap64 (a - (x.f2.size : Int))) < 0) = false := decide_eq_false c2
      rw [if_neg c2] at hj
      by_cases c3' : fj (fs (wrap64 (a - (x.f2.size : Int)))) < 0
      · have d3 : decide (fj (fs (wrap64 (a - (x.f2.size : Int)))) < 0) = true := decide_eq_true c3'
        rw [if_pos c3'] at hj
        have HJ' := Aside0.mk hj
        clear hj HJ c1 c2 c3'
        go_enter Try.func58, Try.ntmps58
        go_wp2_with (first | ((with_reducible refine gate_dst (N := 2) rfl ?_); refine box_event ?hg (N := 2) ?hd (cs := #[.int .i64 x.f0, .int .i64 x.f1, .string x.f2, .slice A3 x.f3.length c3, .slice A4 x.f4.length c4]) (t := 83) ?hr ?_; (case hd => rfl); (case hg => rfl); (case hr => first | (go_simp; done) | (go_simp; rfl)); intro g2 hg w2 hx hb; have B2 := Aside0.mk hx; have HB := Aside0.mk (below_step (Below.refl w.heap.size w) hb); have q0 : w2.cell? ⟨g2, 0, none⟩ = some (.int .i64 x.f0) := (blk_cell hx 0).trans rfl; have q1 : w2.cell? ⟨g2, 1, none⟩ = some (.int .i64 x.f1) := (blk_cell hx 1).trans rfl; have q2 : w2.cell? ⟨g2, 2, none⟩ = some (.string x.f2) := (blk_cell hx 2).trans rfl; have q3 : w2.cell? ⟨g2, 3, none⟩ = some (.slice A3 x.f3.length c3) := (blk_cell hx 3).trans rfl; have q4 : w2.cell? ⟨g2, 4, none⟩ = some (.slice A4 x.f4.length c4) := (blk_cell hx 4).trans rfl; clear hx hb hg) | (go_at_call 74; refine (HS.out _ _ HB.out).mono ?_; rintro e w' ⟨rfl, ⟨m, rfl⟩⟩; have n0 := Aside0.mk (show Below w.heap.size w (w2.drewN m) from by apply pw_below_drewN; exact HB.out); clear HB; have HB := n0; clear n0) | (go_at_call 115; refine (HT.out _ _ HB.out).mono ?_; rintro e w' ⟨rfl, hb'⟩; have n0 := Aside0.mk (below_step HB.out hb'); clear hb' HB; have HB := n0; clear n0))
        go_ret
        exact ⟨by rw [HJ'.out]; rfl, HB.out⟩
      · have d3 : decide (fj (fs (wrap64 (a - (x.f2.size : Int)))) < 0) = false := decide_eq_false c3'
        rw [if_neg c3'] at hj
        have HJ' := Aside0.mk hj
        clear hj HJ c1 c2 c3'
        go_enter Try.func58, Try.ntmps58
        go_wp2_with (first | ((with_reducible refine gate_dst (N := 2) rfl ?_); refine box_event ?hg (N := 2) ?hd (cs := #[.int .i64 x.f0, .int .i64 x.f1, .string x.f2, .slice A3 x.f3.length c3, .slice A4 x.f4.length c4]) (t := 83) ?hr ?_; (case hd => rfl); (case hg => rfl); (case hr => first | (go_simp; done) | (go_simp; rfl)); intro g2 hg w2 hx hb; have B2 := Aside0.mk hx; have HB := Aside0.mk (below_step (Below.refl w.heap.size w) hb); have q0 : w2.cell? ⟨g2, 0, none⟩ = some (.int .i64 x.f0) := (blk_cell hx 0).trans rfl; have q1 : w2.cell? ⟨g2, 1, none⟩ = some (.int .i64 x.f1) := (blk_cell hx 1).trans rfl; have q2 : w2.cell? ⟨g2, 2, none⟩ = some (.string x.f2) := (blk_cell hx 2).trans rfl; have q3 : w2.cell? ⟨g2, 3, none⟩ = some (.slice A3 x.f3.length c3) := (blk_cell hx 3).trans rfl; have q4 : w2.cell? ⟨g2, 4, none⟩ = some (.slice A4 x.f4.length c4) := (blk_cell hx 4).trans rfl; clear hx hb hg) | (go_at_call 74; refine (HS.out _ _ HB.out).mono ?_; rintro e w' ⟨rfl, ⟨m, rfl⟩⟩; have n0 := Aside0.mk (show Below w.heap.size w (w2.drewN m) from by apply pw_below_drewN; exact HB.out); clear HB; have HB := n0; clear n0) | (go_at_call 115; refine (HT.out _ _ HB.out).mono ?_; rintro e w' ⟨rfl, hb'⟩; have n0 := Aside0.mk (below_step HB.out hb'); clear hb' HB; have HB := n0; clear n0))
        go_ret
        exact ⟨by rw [HJ'.out]; rfl, HB.out⟩
theorem laws_szJson.all (x : S83) : laws_szJson.P x := by
  have : ∀ n : Nat, ∀ x : S83, SizeOf.sizeOf x < n → laws_szJson.P x := by
    intro n
    induction n with
    | zero => intro x h; omega
    | succ n ih =>
      intro x h
      refine laws_szJson.own1 x fun i hi => ih _ ?_
      have hm : rd_T83 x.f4 (i : Int) ∈ x.f4 := by simp [rd_T83, List.getD, hi]
      have h1 := List.sizeOf_lt_of_mem hm
      have h2 : SizeOf.sizeOf x = 1 + SizeOf.sizeOf x.f0 + SizeOf.sizeOf x.f1 + SizeOf.sizeOf x.f2 + SizeOf.sizeOf x.f3 + SizeOf.sizeOf x.f4 := by cases x; simp
      omega
  exact this _ x (Nat.lt_succ_self _)
def laws_szJson.f (a0_0 : Int) (a0_1 : Int) (a0_2 : ByteArray) (l0_3 : List ByteArray) (l0_4 : List (S83)) (a1 : Int) : Option Int := some (laws_szJson.szJ ⟨a0_0, a0_1, a0_2, l0_3, l0_4⟩ a1)
theorem laws_szJson.calls (a0_0 : Int) (a0_1 : Int) (a0_2 : ByteArray) (A0_3 : Option Addr) (c0_3 : Nat) (l0_3 : List ByteArray) (A0_4 : Option Addr) (c0_4 : Nat) (l0_4 : List (S83)) (a1 : Int) (r : Int) (w : World) (hr0_3 : Kd.C Kd.string w A0_3 l0_3.length l0_3) (hc0_3 : l0_3.length ≤ c0_3) (hr0_4 : Kd.C k83 w A0_4 l0_4.length l0_4) (hc0_4 : l0_4.length ≤ c0_4) (h : laws_szJson.f a0_0 a0_1 a0_2 l0_3 l0_4 a1 = some r) :
    Calls Try.prog 58 #[.agg #[.int .i64 a0_0, .int .i64 a0_1, .string a0_2, .slice A0_3 l0_3.length c0_3, .slice A0_4 l0_4.length c0_4], .int .i64 a1] w fun e w' => e = .returned (.int .i64 r) ∧ Below w.heap.size w w' := by
  obtain rfl := Option.some.inj h
  exact laws_szJson.all ⟨a0_0, a0_1, a0_2, l0_3, l0_4⟩ A0_3 c0_3 A0_4 c0_4 a1 w hr0_3 hc0_3 hr0_4 hc0_4

/-! ### laws_toStringS: function 78 -/
def laws_toStringS.l0 : Nat → List ByteArray → List ByteArray → Int → Option (List ByteArray)
  | 0, _, _, _ => none
  | k + 1, x0, x3, x4 => if x4 < (x0.length : Int) then (if 0 ≤ x4 then (if x4 < (x3.length : Int) then (laws_toStringS.l0 k x0 (x3.set (x4 : Int).toNat (rdOf ByteArray.empty x0 x4)) (wrap64 (x4 + 1))) else (none)) else (none)) else (some x3)
def laws_toStringS.f (k : Nat) (l0 : List ByteArray) : Option (List ByteArray) := if 0 ≤ (l0.length : Int) then (if ((l0.length : Int) : Int).toNat ≤ 17592186044416 then (laws_toStringS.l0 k l0 (List.replicate ((l0.length : Int) : Int).toNat (⟨#[]⟩ : ByteArray)) 0) else (none)) else (none)
theorem laws_toStringS.mono_l : ∀ k, (∀ y0 y1 y2, LeO (laws_toStringS.l0 k y0 y1 y2) (laws_toStringS.l0 (k + 1) y0 y1 y2))
  | 0 => fun _ _ _ r h => by simp [laws_toStringS.l0] at h
  | k + 1 => by
    have ih0 := laws_toStringS.mono_l k
    · intro y0 y1 y2
      unfold laws_toStringS.l0
      repeat' first
      | (with_reducible exact ih0 _ _ _)
      | (with_reducible exact LeO.refl _)
      | (with_reducible exact LeO.none _)
      | (with_reducible refine LeO.ite ?_ ?_)
      | (with_reducible refine LeO.bind ?_ (fun _ => ?_))
      | exact ih0 _ _ _
      | exact LeO.none _
      | refine LeO.ite ?_ ?_
      | refine LeO.bind ?_ (fun _ => ?_)
theorem laws_toStringS.mono : ∀ a0 k, LeO (laws_toStringS.f k a0) (laws_toStringS.f (k + 1) a0) := by
  intro a0 k
  have ih0 := laws_toStringS.mono_l k
  unfold laws_toStringS.f
  repeat' first
      | (with_reducible exact ih0 _ _ _)
      | (with_reducible exact LeO.refl _)
      | (with_reducible exact LeO.none _)
      | (with_reducible refine LeO.ite ?_ ?_)
      | (with_reducible refine LeO.bind ?_ (fun _ => ?_))
      | exact ih0 _ _ _
      | exact LeO.none _
      | refine LeO.ite ?_ ?_
      | refine LeO.bind ?_ (fun _ => ?_)
set_option maxHeartbeats 8000000 in
set_option maxRecDepth 100000 in
theorem laws_toStringS.calls (k : Nat) (A0 : Option Addr) (c0 : Nat) (l0 : List ByteArray) (r : List ByteArray) (w : World) (hr0 : Kd.C Kd.string w A0 l0.length l0) (hc0 : l0.length ≤ c0) (h : laws_toStringS.f k l0 = some r) :
    Calls Try.prog 78 #[.slice A0 l0.length c0] w fun e w' => ∃ v0_ : Value, e = .returned (v0_) ∧ Kd.R Kd.string 9 w' w.heap.size (fun _ => True) v0_ r ∧ Below w.heap.size w w' := by
 have HR0 := Aside0.mk hr0
 have HC0 := Aside0.mk hc0
 clear hr0 hc0
 have HB := Aside0.mk (Below.refl w.heap.size w)
 have H : (if 0 ≤ (l0.length : Int) then (if ((l0.length : Int) : Int).toNat ≤ 17592186044416 then (laws_toStringS.l0 k l0 (List.replicate ((l0.length : Int) : Int).toNat (⟨#[]⟩ : ByteArray)) 0) else (none)) else (none)) = some r := h
 clear h
 by_cases c2 : 0 ≤ (l0.length : Int)
 ·
  rw [if_pos c2] at H
  have c2b0 := eq_true c2
  have c2b1 : decide (0 ≤ (l0.length : Int)) = true := decide_eq_true c2
  clear c2
  by_cases c3 : ((l0.length : Int) : Int).toNat ≤ 17592186044416
  ·
   rw [if_pos c3] at H
   have c3b0 := eq_true c3
   have c3b1 : decide (((l0.length : Int) : Int).toNat ≤ 17592186044416) = true := decide_eq_true c3
   clear c3
   obtain ⟨y102, hy102⟩ : ∃ y_ : List ByteArray, y_ = (List.replicate ((l0.length : Int) : Int).toNat (⟨#[]⟩ : ByteArray)) := ⟨_, rfl⟩
   replace H : (laws_toStringS.l0 k l0 y102 0) = some r := by first | (rw [hy102]; with_reducible exact H) | (have H2_ := (Option.bind_some _ _).symm.trans H; rw [hy102]; with_reducible exact H2_) | (have H2_ := (Option.bind_some _ _).symm.trans H; with_reducible exact H2_) | with_reducible exact H | (rw [hy102]; exact H) | exact H
   have Ny102 := Aside0.mk hy102
   clear hy102
   have H' := Aside0.mk H
   clear H
   go_enter Try.func78, Try.ntmps78
   go_wp2_with (first | ((with_reducible refine gate_dst (N := 7) rfl ?_); refine Kd.R_make Kd.string _ 9 rfl (N := 7) rfl 34 _ _ rfl (l0.length : Int) rfl rfl Try.underlying34 (.string ⟨#[]⟩) 16 info9 rfl (by decide) (by omega) (⟨#[]⟩ : ByteArray) (ok := fun _ => True) (okp := fun _ => True) rfl (fun _ hk => hk) trivial (of_decide_eq_true (by first | (with_reducible assumption) | assumption)) (Nat.le_trans (Nat.mul_le_mul_right _ (of_decide_eq_true (by first | (with_reducible assumption) | assumption) : (l0.length : Int).toNat ≤ 17592186044416)) (by omega)) (Below.refl _ _) (Nat.le_refl _) ?_; intro v103 w4 ho5 hb hg_ hnew_; clear hg_ hnew_; (first | rw [← Ny102.out] at ho5 | (simp only [Int.reduceToNat] at ho5; rw [← Ny102.out] at ho5)); have n0_ := Aside0.mk (Kd.R_lower ho5 (below_size (by repeat (first | (with_reducible first | exact HB.out | apply below_alloc | apply pw_below_drewN | apply below_drew1) | exact HB.out)))); have n1_ := belB_ hb; clear HB; have HO104 := n0_; have HB := n1_; clear n0_ n1_; clear hb ho5))
   go_loopg [4] k (fun kq v4 w' => ∃ (x3_1 : List ByteArray) (x4_1 : Int), v4 = .int .i64 x4_1 ∧ Aside0 (laws_toStringS.l0 kq l0 x3_1 x4_1 = some r) ∧ Aside0 (kq ≤ k) ∧ Aside0 (Kd.R Kd.string 9 w' w.heap.size (fun _ => True) v103 x3_1) ∧ Aside0 (Below w.heap.size w w'))
   case atStart => exact ⟨(y102), (0), eqE_, H', ⟨Nat.le_refl _⟩, ⟨by (with_reducible repeat (first | apply Kd.R_alloc | apply Kd.R_drewN | apply Kd.R_drew)); exact HO104.out⟩, ⟨belE_⟩⟩
   case round =>
    clear H'
    try clear c2
    try clear c2b0
    try clear c2b1
    try clear c3
    try clear c3b0
    try clear c3b1
    obtain ⟨x3_1, x4_1, rfl, HA, HK1, HO_3, HB⟩ := hrel
    cases gk with
    | zero => exact absurd HA.out (by simp [laws_toStringS.l0])
    | succ k1 =>
     have H := HA.out
     clear HA
     simp only [laws_toStringS.l0] at H
     by_cases c6 : x4_1 < (l0.length : Int)
     ·
      rw [if_pos c6] at H
      have c6b0 : decide (x4_1 < (l0.length : Int)) = true := decide_eq_true c6
      clear c6
      by_cases c7 : 0 ≤ x4_1
      ·
       rw [if_pos c7] at H
       have c7b0 : decide (0 ≤ x4_1) = true := decide_eq_true c7
       clear c7
       by_cases c8 : x4_1 < (x3_1.length : Int)
       ·
        rw [if_pos c8] at H
        have c8b0 : decide (x4_1 < (x3_1.length : Int)) = true := decide_eq_true c8
        clear c8
        obtain ⟨y106, hy106⟩ : ∃ y_ : List ByteArray, y_ = (x3_1.set (x4_1 : Int).toNat (rdOf ByteArray.empty l0 x4_1)) := ⟨_, rfl⟩
        replace H : (laws_toStringS.l0 k1 l0 y106 (wrap64 (x4_1 + 1))) = some r := by first | (rw [hy106]; with_reducible exact H) | (have H2_ := (Option.bind_some _ _).symm.trans H; rw [hy106]; with_reducible exact H2_) | (have H2_ := (Option.bind_some _ _).symm.trans H; with_reducible exact H2_) | with_reducible exact H | (rw [hy106]; exact H) | exact H
        have Ny106 := Aside0.mk hy106
        clear hy106
        have H' := Aside0.mk H
        clear H
        have p105 : 0 ≤ (x4_1 : Int) := of_decide_eq_true (by first | (with_reducible assumption) | assumption)
        have q105 : x4_1 < (l0.length : Int) := of_decide_eq_true (by first | (with_reducible assumption) | assumption)
        obtain ⟨ad105, e105, hx105_0⟩ := Kd.at_string HR0.out x4_1 p105 q105
        cases e105
        replace hx105_0 := (HB.out.cell (World.block_lt_of_cell? w _ hx105_0)).trans hx105_0
        replace p105 := eq_true p105
        replace q105 := eq_true q105
        have p9 : 0 ≤ (x4_1 : Int) := of_decide_eq_true (by first | (with_reducible assumption) | assumption)
        have q9 : (x4_1 : Int) < ((x3_1.length : Int) : Int) := of_decide_eq_true (by first | (with_reducible assumption) | assumption)
        obtain ⟨go9, co9, eo9, gb9, gl9, cl9, HG9⟩ := Kd.R_form HO_3.out (by omega)
        (first | cases eo9 | (injection eo9 with ea_ en_ ec_; (first | subst ea_ | (injection ea_ with ea_; subst ea_)); subst ec_; clear en_))
        have GB9 := Aside0.mk gb9
        have GG9 := Aside0.mk HG9
        clear gb9 gl9 HG9
        obtain ⟨hx9_0, hf9_0⟩ := Kd.R_celln (⟨#[]⟩ : ByteArray) HO_3.out (x4_1 : Int) p9 q9
        replace p9 := eq_true p9
        replace q9 := eq_true q9
        have HP10 := Kd.R_putg HO_3.out (x4_1 : Int) (rdOf ByteArray.empty l0 x4_1)
        go_wp2_with (first | ((with_reducible refine gate_store (t := 9) (p := 20) rfl ?_); refine store_event (t := 9) (p := 20) (v := ?vo_w11) (w1 := (wr.setCell ⟨go9, (x4_1 : Int).toNat, none⟩ (.string (rdOf ByteArray.empty l0 x4_1)))) ?hg ?ho ?hn ?hr ?_; (case ho => rfl); (case hg => rfl); (case hn => rfl); (case hr => first | (go_simp; done) | (go_simp; rfl)); intro w11 hw; have hg : wr.grownBy w11 (some go9) := (by rw [hw]; exact HP10.2); have hp_ : Kd.R Kd.string 9 w11 w.heap.size (fun _ => True) (.slice (some ⟨go9, 0, none⟩) x3_1.length co9) y106 := (by rw [hw, Ny106.out]; exact HP10.1); clear HP10; have n0_ := Aside0.mk (hp_); have n1_ := Aside0.mk ((by rw [hw]; exact below_set (HB.out) GB9.out : Below w.heap.size w w11)); clear HO_3; clear HB; have HO_3 := n0_; have HB := n1_; clear n0_ n1_; clear hg hw hp_))
        go_roundg k1
        case measure => have := HK1.out; omega
        case rel => exact ⟨(y106), (wrap64 (x4_1 + 1)), eqE_, H', ⟨by have := HK1.out; omega⟩, ⟨by (with_reducible repeat (first | apply Kd.R_alloc | apply Kd.R_drewN | apply Kd.R_drew)); exact HO_3.out⟩, ⟨belE_⟩⟩
       ·
        rw [if_neg c8] at H
        exact absurd H (by simp)
      ·
       rw [if_neg c7] at H
       exact absurd H (by simp)
     ·
      rw [if_neg c6] at H
      have c6b0 : decide (x4_1 < (l0.length : Int)) = false := decide_eq_false c6
      clear c6
      obtain rfl := Option.some.inj H
      go_wp2
      go_ret
      exact ⟨_, by first | rfl | (simp [errW_none, errW_some] <;> rfl) | (simp [*, errW_none, errW_some] <;> rfl), by (with_reducible repeat (first | apply Kd.R_alloc | apply Kd.R_drewN | apply Kd.R_drew)); exact HO_3.out, belE_⟩
  ·
   rw [if_neg c3] at H
   exact absurd H (by simp)
 ·
  rw [if_neg c2] at H
  exact absurd H (by simp)

/-! ### laws_toJson: function 60, by hand -/
mutual
/-- The program's form of a value. -/
def laws_toJson.toJ : S83 → S88
  | ⟨a, b, c, d, e⟩ => ⟨a, b, c, d, laws_toJson.toJL e⟩
def laws_toJson.toJL : List S83 → List S88
  | [] => []
  | x :: xs => laws_toJson.toJ x :: laws_toJson.toJL xs
end
mutual
/-- No list is longer than 2 ^ 20. -/
def laws_toJson.okJ : S83 → Bool
  | ⟨_, _, _, d, e⟩ => decide (d.length ≤ 1048576) && decide (e.length ≤ 1048576) && laws_toJson.okJL e
def laws_toJson.okJL : List S83 → Bool
  | [] => true
  | x :: xs => laws_toJson.okJ x && laws_toJson.okJL xs
end
theorem laws_toJson.toJL_map : ∀ l : List S83, laws_toJson.toJL l = l.map laws_toJson.toJ
  | [] => by rw [laws_toJson.toJL]; rfl
  | x :: xs => by rw [laws_toJson.toJL, laws_toJson.toJL_map xs]; rfl
theorem laws_toJson.toJL_len (l : List S83) : (laws_toJson.toJL l).length = l.length := by rw [laws_toJson.toJL_map, List.length_map]
theorem laws_toJson.okJL_all : ∀ l : List S83, laws_toJson.okJL l = true → ∀ x ∈ l, laws_toJson.okJ x = true
  | [], _, x, hx => by cases hx
  | y :: ys, h, x, hx => by
    simp only [laws_toJson.okJL, Bool.and_eq_true] at h
    rcases List.mem_cons.1 hx with rfl | hx
    · exact h.1
    · exact laws_toJson.okJL_all ys h.2 x hx
theorem laws_toJson.set_ {α : Type} (l : List α) (z : α) (n d : Nat) (h : n + (d + 1) = l.length) (y : α) (hy : l[n]? = some y) : (l.take n ++ List.replicate (d + 1) z).set n y = l.take (n + 1) ++ List.replicate d z := by
  have hn : n < l.length := by omega
  have e : l[n] = y := by rw [List.getElem?_eq_getElem hn] at hy; exact Option.some.inj hy
  rw [List.set_append_right _ _ (by rw [List.length_take]; omega), List.length_take, Nat.min_eq_left (by omega), Nat.sub_self, List.replicate_succ, List.set_cons_zero, List.take_add_one, hy]
  simp
theorem laws_toJson.str_l0 (l : List ByteArray) (hl : l.length ≤ 1048576) : ∀ (d n : Nat), n + d = l.length → laws_toStringS.l0 (d + 1) l (l.take n ++ List.replicate d (⟨#[]⟩ : ByteArray)) (n : Int) = some l := by
  intro d
  induction d with
  | zero => intro n h; rw [laws_toStringS.l0, if_neg (by omega), List.replicate_zero, List.append_nil, List.take_of_length_le (by omega)]
  | succ d ih =>
    intro n h
    have hn : n < l.length := by omega
    rw [laws_toStringS.l0, if_pos (by omega), if_pos (by omega), if_pos (by simp; omega), Int.toNat_natCast, laws_toJson.set_ l _ n d h _ (by simp [rdOf, List.getD, hn]), show wrap64 ((n : Int) + 1) = ((n + 1 : Nat) : Int) from by unfold wrap64; omega]
    exact ih (n + 1) (by omega)
theorem laws_toJson.str (l : List ByteArray) (hl : l.length ≤ 1048576) : laws_toStringS.f (l.length + 1) l = some l := by
  rw [laws_toStringS.f, if_pos (by omega), if_pos (by omega)]
  exact laws_toJson.str_l0 l hl l.length 0 (by omega)
theorem laws_toJson.ltR {W w' : World} (hb : Below W.heap.size W w') {α : Type} {d : Kd α} {e base : Nat} {ok : Nat → Prop} {v : Value} {xs : List α} (h : d.R e W base ok v xs) : ∀ k, v.ownBlock = some k → k < W.heap.size := Kd.R_lt h
theorem laws_toJson.lt_ {W w' : World} (hb : Below W.heap.size W w') {g : Nat} {o : Obj} (h : W.heap[g]? = some o) : g < W.heap.size := blk_lt h
abbrev laws_toJson.P (x : S83) : Prop := ∀ (A3 : Option Addr) (c3 : Nat) (A4 : Option Addr) (c4 : Nat) (w : World), Kd.C Kd.string w A3 x.f3.length x.f3 → x.f3.length ≤ c3 → Kd.C k83 w A4 x.f4.length x.f4 → x.f4.length ≤ c4 → laws_toJson.okJ x = true →
  Calls Try.prog 60 #[.agg #[(.int .i64 x.f0), (.int .i64 x.f1), (.string x.f2), (.slice A3 x.f3.length c3), (.slice A4 x.f4.length c4)]] w fun e w' => ∃ v3_ v4_ : Value, e = .returned (.agg #[.int .i64 x.f0, .int .i64 x.f1, .string x.f2, v3_, v4_]) ∧ Kd.R Kd.string 9 w' w.heap.size (fun _ => True) v3_ x.f3 ∧ Kd.R k88 88 w' w.heap.size (fun k_ => some k_ ≠ v3_.ownBlock) v4_ (laws_toJson.toJL x.f4) ∧ Below w.heap.size w w'
set_option maxHeartbeats 8000000 in
set_option maxRecDepth 100000 in
theorem laws_toJson.own1 (x : S83) (hp : laws_toJson.okJL x.f4 = true → ∀ (A : Option Addr) (c : Nat) (w : World), Kd.C k83 w A x.f4.length x.f4 → x.f4.length ≤ c → x.f4.length ≤ 1048576 →
    Calls Try.prog 117 #[.slice A x.f4.length c] w fun e w' => ∃ v0_ : Value, e = .returned v0_ ∧ Kd.R k88 88 w' w.heap.size (fun _ => True) v0_ (laws_toJson.toJL x.f4) ∧ Below w.heap.size w w') : laws_toJson.P x := by
  intro A3 c3 A4 c4 w h3 l3 h4 l4 hok
  have hk : x.f3.length ≤ 1048576 ∧ x.f4.length ≤ 1048576 ∧ laws_toJson.okJL x.f4 = true := by
    cases x; simp only [laws_toJson.okJ, Bool.and_eq_true, decide_eq_true_eq] at hok; exact ⟨hok.1.1, hok.1.2, hok.2⟩
  have HS := Aside0.mk (fun (W : World) (hw : Below w.heap.size w W) => laws_toStringS.calls (x.f3.length + 1) A3 c3 x.f3 x.f3 W (Kd.C_below h3 hw) l3 (laws_toJson.str x.f3 hk.1))
  have HT := Aside0.mk (fun (W : World) (hw : Below w.heap.size w W) => hp hk.2.2 A4 c4 W (Kd.C_below h4 hw) l4 hk.2.1)
  have HB := Aside0.mk (Below.refl w.heap.size w)
  clear h3 h4 hp hok hk
  have hu83 := Try.underlying83
  have hu88 := Try.underlying88
  go_enter Try.func60, Try.ntmps60
  go_wp2_with (first | ((with_reducible refine gate_dst (N := 1) rfl ?_); refine box_event ?hg (N := 1) ?hd (cs := #[(.int .i64 x.f0), (.int .i64 x.f1), (.string x.f2), (.slice A3 x.f3.length c3), (.slice A4 x.f4.length c4)]) (t := 83) ?hr ?_; (case hd => rfl); (case hg => rfl); (case hr => first | (go_simp; done) | (go_simp; rfl)); intro g1 hg w2 hx hb; have B1 := Aside0.mk hx; have n0 := Aside0.mk (below_step HB.out hb); clear HB; have HB := n0; clear n0 hx hb hg) | ((with_reducible refine gate_dst (N := 2) rfl ?_); refine box_event ?hg (N := 2) ?hd (cs := #[(.int .i64 0), (.int .i64 0), (.string (⟨#[]⟩ : ByteArray)), (.slice none 0 0), (.slice none 0 0)]) (t := 88) ?hr ?_; (case hd => rfl); (case hg => rfl); (case hr => first | (go_simp; done) | (go_simp; rfl)); intro g2 hg w3 hx hb; have N12 := Aside0.mk (by rw [hg]; exact Nat.ne_of_lt (blk_lt B1.out) : g1 ≠ g2); have GE2 := Aside0.mk (by rw [hg]; exact below_size HB.out : w.heap.size ≤ g2); have n1 := Aside0.mk (blk_below B1.out hb); clear B1; have B1 := n1; have B2 := Aside0.mk hx; have n0 := Aside0.mk (below_step HB.out hb); clear HB; have HB := n0; clear n0 n1 hx hb hg) | ((with_reducible refine gate_dst (N := 3) rfl ?_); refine box_event ?hg (N := 3) ?hd (cs := #[(.int .i64 0), (.int .i64 0), (.string (⟨#[]⟩ : ByteArray)), (.slice none 0 0), (.slice none 0 0)]) (t := 88) ?hr ?_; (case hd => rfl); (case hg => rfl); (case hr => first | (go_simp; done) | (go_simp; rfl)); intro g3 hg w4 hx hb; have N13 := Aside0.mk (by rw [hg]; exact Nat.ne_of_lt (blk_lt B1.out) : g1 ≠ g3); have N23 := Aside0.mk (by rw [hg]; exact Nat.ne_of_lt (blk_lt B2.out) : g2 ≠ g3); have GE3 := Aside0.mk (by rw [hg]; exact below_size HB.out : w.heap.size ≤ g3); have n1 := Aside0.mk (blk_below B1.out hb); have n2 := Aside0.mk (blk_below B2.out hb); clear B1 B2; have B1 := n1; have B2 := n2; have B3 := Aside0.mk hx; have n0 := Aside0.mk (below_step HB.out hb); clear HB; have HB := n0; clear n0 n1 n2 hx hb hg; have e13 := N13.out; have e31 := N13.out.symm; have e23 := N23.out; have e32 := N23.out.symm; have p0 : w4.cell? ⟨g1, 0, none⟩ = some (.int .i64 x.f0) := (blk_cell B1.out 0).trans rfl; have pf0 := blk_frozen B1.out 0; have p1 : w4.cell? ⟨g1, 1, none⟩ = some (.int .i64 x.f1) := (blk_cell B1.out 1).trans rfl; have pf1 := blk_frozen B1.out 1; have p2 : w4.cell? ⟨g1, 2, none⟩ = some (.string x.f2) := (blk_cell B1.out 2).trans rfl; have pf2 := blk_frozen B1.out 2; have p3 : w4.cell? ⟨g1, 3, none⟩ = some (.slice A3 x.f3.length c3) := (blk_cell B1.out 3).trans rfl; have pf3 := blk_frozen B1.out 3; have p4 : w4.cell? ⟨g1, 4, none⟩ = some (.slice A4 x.f4.length c4) := (blk_cell B1.out 4).trans rfl; have pf4 := blk_frozen B1.out 4; have z0 : w4.cell? ⟨g3, 0, none⟩ = some (.int .i64 0) := (blk_cell B3.out 0).trans rfl; have zf0 := blk_frozen B3.out 0; have z1 : w4.cell? ⟨g3, 1, none⟩ = some (.int .i64 0) := (blk_cell B3.out 1).trans rfl; have zf1 := blk_frozen B3.out 1; have z2 : w4.cell? ⟨g3, 2, none⟩ = some (.string (⟨#[]⟩ : ByteArray)) := (blk_cell B3.out 2).trans rfl; have zf2 := blk_frozen B3.out 2; have z3 : w4.cell? ⟨g3, 3, none⟩ = some (.slice none 0 0) := (blk_cell B3.out 3).trans rfl; have zf3 := blk_frozen B3.out 3; have z4 : w4.cell? ⟨g3, 4, none⟩ = some (.slice none 0 0) := (blk_cell B3.out 4).trans rfl; have zf4 := blk_frozen B3.out 4; ) | (go_at_call 78; refine (HS.out _ ((by repeat (first | (with_reducible first | exact HB.out | apply below_alloc | apply pw_below_drewN | apply below_drew1 | refine below_set ?_ GE3.out | refine below_set ?_ GE2.out) | exact HB.out)))).mono ?_; rintro e w7 ⟨v3, rfl, ho, hb⟩; have n1 := Aside0.mk (blk_below (g := g1) (o := .cells #[(.int .i64 x.f0), (.int .i64 x.f1), (.string x.f2), (.slice A3 x.f3.length c3), (.slice A4 x.f4.length c4)] 83 (0, 0)) (by (with_reducible repeat (first | refine blk_drewN ?_ _ | refine blk_drew ?_ | refine blk_alloc ?_ _)); refine blk_far ?_ N13.out _; (with_reducible repeat (first | refine blk_drewN ?_ _ | refine blk_drew ?_ | refine blk_alloc ?_ _)); refine blk_far ?_ N13.out _; (with_reducible repeat (first | refine blk_drewN ?_ _ | refine blk_drew ?_ | refine blk_alloc ?_ _)); refine blk_far ?_ N13.out _; (with_reducible repeat (first | refine blk_drewN ?_ _ | refine blk_drew ?_ | refine blk_alloc ?_ _)); exact B1.out) hb); have n2 := Aside0.mk (blk_below (g := g2) (o := .cells #[(.int .i64 0), (.int .i64 0), (.string (⟨#[]⟩ : ByteArray)), (.slice none 0 0), (.slice none 0 0)] 88 (0, 0)) (by (with_reducible repeat (first | refine blk_drewN ?_ _ | refine blk_drew ?_ | refine blk_alloc ?_ _)); refine blk_far ?_ N23.out _; (with_reducible repeat (first | refine blk_drewN ?_ _ | refine blk_drew ?_ | refine blk_alloc ?_ _)); refine blk_far ?_ N23.out _; (with_reducible repeat (first | refine blk_drewN ?_ _ | refine blk_drew ?_ | refine blk_alloc ?_ _)); refine blk_far ?_ N23.out _; (with_reducible repeat (first | refine blk_drewN ?_ _ | refine blk_drew ?_ | refine blk_alloc ?_ _)); exact B2.out) hb); have n3 := Aside0.mk (blk_below (g := g3) (o := .cells #[(.int .i64 x.f0), (.int .i64 x.f1), (.string x.f2), (.slice none 0 0), (.slice none 0 0)] 88 (0, 0)) (by (with_reducible repeat (first | refine blk_drewN ?_ _ | refine blk_drew ?_ | refine blk_alloc ?_ _)); refine blk_put (cs := #[(.int .i64 x.f0), (.int .i64 x.f1), (.string (⟨#[]⟩ : ByteArray)), (.slice none 0 0), (.slice none 0 0)]) ?_ 2 _ rfl; (with_reducible repeat (first | refine blk_drewN ?_ _ | refine blk_drew ?_ | refine blk_alloc ?_ _)); refine blk_put (cs := #[(.int .i64 x.f0), (.int .i64 0), (.string (⟨#[]⟩ : ByteArray)), (.slice none 0 0), (.slice none 0 0)]) ?_ 1 _ rfl; (with_reducible repeat (first | refine blk_drewN ?_ _ | refine blk_drew ?_ | refine blk_alloc ?_ _)); refine blk_put (cs := #[(.int .i64 0), (.int .i64 0), (.string (⟨#[]⟩ : ByteArray)), (.slice none 0 0), (.slice none 0 0)]) ?_ 0 _ rfl; (with_reducible repeat (first | refine blk_drewN ?_ _ | refine blk_drew ?_ | refine blk_alloc ?_ _)); exact B3.out) hb); have n4 := Aside0.mk (Kd.R_lower ho (below_size (by repeat (first | (with_reducible first | exact HB.out | apply below_alloc | apply pw_below_drewN | apply below_drew1 | refine below_set ?_ GE3.out | refine below_set ?_ GE2.out) | exact HB.out)))); have n0 := Aside0.mk (below_step (by repeat (first | (with_reducible first | exact HB.out | apply below_alloc | apply pw_below_drewN | apply below_drew1 | refine below_set ?_ GE3.out | refine below_set ?_ GE2.out) | exact HB.out)) hb); clear B1 B2 B3 HB; have B1 := n1; have B2 := n2; have B3 := n3; have HB := n0; have HO3 := n4; clear n0 n1 n2 n3 n4 hb ho; obtain ⟨Ao, co, eo⟩ := Kd.R_slice HO3.out; subst eo; have q0 : w7.cell? ⟨g1, 0, none⟩ = some (.int .i64 x.f0) := (blk_cell B1.out 0).trans rfl; have qf0 := blk_frozen B1.out 0; have q1 : w7.cell? ⟨g1, 1, none⟩ = some (.int .i64 x.f1) := (blk_cell B1.out 1).trans rfl; have qf1 := blk_frozen B1.out 1; have q2 : w7.cell? ⟨g1, 2, none⟩ = some (.string x.f2) := (blk_cell B1.out 2).trans rfl; have qf2 := blk_frozen B1.out 2; have q3 : w7.cell? ⟨g1, 3, none⟩ = some (.slice A3 x.f3.length c3) := (blk_cell B1.out 3).trans rfl; have qf3 := blk_frozen B1.out 3; have q4 : w7.cell? ⟨g1, 4, none⟩ = some (.slice A4 x.f4.length c4) := (blk_cell B1.out 4).trans rfl; have qf4 := blk_frozen B1.out 4; have r0 : w7.cell? ⟨g3, 0, none⟩ = some (.int .i64 x.f0) := (blk_cell B3.out 0).trans rfl; have rf0 := blk_frozen B3.out 0; have r1 : w7.cell? ⟨g3, 1, none⟩ = some (.int .i64 x.f1) := (blk_cell B3.out 1).trans rfl; have rf1 := blk_frozen B3.out 1; have r2 : w7.cell? ⟨g3, 2, none⟩ = some (.string x.f2) := (blk_cell B3.out 2).trans rfl; have rf2 := blk_frozen B3.out 2; have r3 : w7.cell? ⟨g3, 3, none⟩ = some (.slice none 0 0) := (blk_cell B3.out 3).trans rfl; have rf3 := blk_frozen B3.out 3; have r4 : w7.cell? ⟨g3, 4, none⟩ = some (.slice none 0 0) := (blk_cell B3.out 4).trans rfl; have rf4 := blk_frozen B3.out 4; ) | (go_at_call 117; refine (HT.out _ ((by repeat (first | (with_reducible first | exact HB.out | apply below_alloc | apply pw_below_drewN | apply below_drew1 | refine below_set ?_ GE3.out | refine below_set ?_ GE2.out) | exact HB.out)))).mono ?_; rintro e w9 ⟨v4, rfl, ho, hb⟩; have m2 := laws_toJson.lt_ hb (g := g2) (o := .cells #[(.int .i64 0), (.int .i64 0), (.string (⟨#[]⟩ : ByteArray)), (.slice none 0 0), (.slice none 0 0)] 88 (0, 0)) (by (with_reducible repeat (first | refine blk_drewN ?_ _ | refine blk_drew ?_ | refine blk_alloc ?_ _)); refine blk_far ?_ N23.out _; (with_reducible repeat (first | refine blk_drewN ?_ _ | refine blk_drew ?_ | refine blk_alloc ?_ _)); exact B2.out); have m3 := laws_toJson.lt_ hb (g := g3) (o := .cells #[(.int .i64 x.f0), (.int .i64 x.f1), (.string x.f2), (.slice Ao x.f3.length co), (.slice none 0 0)] 88 (0, 0)) (by (with_reducible repeat (first | refine blk_drewN ?_ _ | refine blk_drew ?_ | refine blk_alloc ?_ _)); refine blk_put (cs := #[(.int .i64 x.f0), (.int .i64 x.f1), (.string x.f2), (.slice none 0 0), (.slice none 0 0)]) ?_ 3 _ rfl; (with_reducible repeat (first | refine blk_drewN ?_ _ | refine blk_drew ?_ | refine blk_alloc ?_ _)); exact B3.out); have m4 := laws_toJson.ltR hb (by (with_reducible repeat (first | apply Kd.R_alloc | apply Kd.R_drewN | apply Kd.R_drew)); exact (Kd.R_mono (Kd.R_far (p := ⟨g3, 3, none⟩) (Kd.R_types HO3.out B3.out (by decide)) (fun _ hk => hk.2) (.slice Ao x.f3.length co)) (fun _ h_ => h_.1))); have n2 := Aside0.mk (blk_below (g := g2) (o := .cells #[(.int .i64 0), (.int .i64 0), (.string (⟨#[]⟩ : ByteArray)), (.slice none 0 0), (.slice none 0 0)] 88 (0, 0)) (by (with_reducible repeat (first | refine blk_drewN ?_ _ | refine blk_drew ?_ | refine blk_alloc ?_ _)); refine blk_far ?_ N23.out _; (with_reducible repeat (first | refine blk_drewN ?_ _ | refine blk_drew ?_ | refine blk_alloc ?_ _)); exact B2.out) hb); have n3 := Aside0.mk (blk_below (g := g3) (o := .cells #[(.int .i64 x.f0), (.int .i64 x.f1), (.string x.f2), (.slice Ao x.f3.length co), (.slice none 0 0)] 88 (0, 0)) (by (with_reducible repeat (first | refine blk_drewN ?_ _ | refine blk_drew ?_ | refine blk_alloc ?_ _)); refine blk_put (cs := #[(.int .i64 x.f0), (.int .i64 x.f1), (.string x.f2), (.slice none 0 0), (.slice none 0 0)]) ?_ 3 _ rfl; (with_reducible repeat (first | refine blk_drewN ?_ _ | refine blk_drew ?_ | refine blk_alloc ?_ _)); exact B3.out) hb); have n4 := Aside0.mk (Kd.R_mono (ok' := fun k => k ≠ g2 ∧ k ≠ g3 ∧ some k ≠ (.slice Ao x.f3.length co : Value).ownBlock) (Kd.R_lower (Kd.R_bound ho) (below_size (by repeat (first | (with_reducible first | exact HB.out | apply below_alloc | apply pw_below_drewN | apply below_drew1 | refine below_set ?_ GE3.out | refine below_set ?_ GE2.out) | exact HB.out)))) (fun k hk => ⟨fun h_ => absurd hk.2.1 (by rw [h_]; exact Nat.not_le_of_lt m2), fun h_ => absurd hk.2.1 (by rw [h_]; exact Nat.not_le_of_lt m3), fun h_ => absurd hk.2.1 (Nat.not_le_of_lt (m4 k h_.symm))⟩)); have n5 := Aside0.mk (Kd.R_below (by (with_reducible repeat (first | apply Kd.R_alloc | apply Kd.R_drewN | apply Kd.R_drew)); exact (Kd.R_mono (Kd.R_far (p := ⟨g3, 3, none⟩) (Kd.R_types HO3.out B3.out (by decide)) (fun _ hk => hk.2) _) (fun _ h_ => h_.1))) hb); have n0 := Aside0.mk (below_step (by repeat (first | (with_reducible first | exact HB.out | apply below_alloc | apply pw_below_drewN | apply below_drew1 | refine below_set ?_ GE3.out | refine below_set ?_ GE2.out) | exact HB.out)) hb); clear B1 B2 B3 HB HO3; have B2 := n2; have B3 := n3; have HB := n0; have HO3 := n5; have HO4 := n4; clear n0 n2 n3 n4 n5 m2 m3 m4 hb ho; obtain ⟨Bo, do_, eo⟩ := Kd.R_slice HO4.out; subst eo; have s0 : w9.cell? ⟨g2, 0, none⟩ = some (.int .i64 0) := (blk_cell B2.out 0).trans rfl; have sf0 := blk_frozen B2.out 0; have s1 : w9.cell? ⟨g2, 1, none⟩ = some (.int .i64 0) := (blk_cell B2.out 1).trans rfl; have sf1 := blk_frozen B2.out 1; have s2 : w9.cell? ⟨g2, 2, none⟩ = some (.string (⟨#[]⟩ : ByteArray)) := (blk_cell B2.out 2).trans rfl; have sf2 := blk_frozen B2.out 2; have s3 : w9.cell? ⟨g2, 3, none⟩ = some (.slice none 0 0) := (blk_cell B2.out 3).trans rfl; have sf3 := blk_frozen B2.out 3; have s4 : w9.cell? ⟨g2, 4, none⟩ = some (.slice none 0 0) := (blk_cell B2.out 4).trans rfl; have sf4 := blk_frozen B2.out 4; have t0 : w9.cell? ⟨g3, 0, none⟩ = some (.int .i64 x.f0) := (blk_cell B3.out 0).trans rfl; have tf0 := blk_frozen B3.out 0; have t1 : w9.cell? ⟨g3, 1, none⟩ = some (.int .i64 x.f1) := (blk_cell B3.out 1).trans rfl; have tf1 := blk_frozen B3.out 1; have t2 : w9.cell? ⟨g3, 2, none⟩ = some (.string x.f2) := (blk_cell B3.out 2).trans rfl; have tf2 := blk_frozen B3.out 2; have t3 : w9.cell? ⟨g3, 3, none⟩ = some (.slice Ao x.f3.length co) := (blk_cell B3.out 3).trans rfl; have tf3 := blk_frozen B3.out 3; have t4 : w9.cell? ⟨g3, 4, none⟩ = some (.slice none 0 0) := (blk_cell B3.out 4).trans rfl; have tf4 := blk_frozen B3.out 4; ))
  refine bodyPost_ret (results_cell_row rfl _ _ g2 88 #[(.int .i64 x.f0), (.int .i64 x.f1), (.string x.f2), (.slice Ao x.f3.length co), (.slice Bo (laws_toJson.toJL x.f4).length do_)] (0, 0) _ rfl (by (with_reducible repeat (first | refine blk_drewN ?_ _ | refine blk_drew ?_ | refine blk_alloc ?_ _)); refine blk_put (cs := #[(.int .i64 x.f0), (.int .i64 x.f1), (.string x.f2), (.slice Ao x.f3.length co), (.slice none 0 0)]) ?_ 4 _ rfl; (with_reducible repeat (first | refine blk_drewN ?_ _ | refine blk_drew ?_ | refine blk_alloc ?_ _)); refine blk_put (cs := #[(.int .i64 x.f0), (.int .i64 x.f1), (.string x.f2), (.slice none 0 0), (.slice none 0 0)]) ?_ 3 _ rfl; (with_reducible repeat (first | refine blk_drewN ?_ _ | refine blk_drew ?_ | refine blk_alloc ?_ _)); refine blk_put (cs := #[(.int .i64 x.f0), (.int .i64 x.f1), (.string (⟨#[]⟩ : ByteArray)), (.slice none 0 0), (.slice none 0 0)]) ?_ 2 _ rfl; (with_reducible repeat (first | refine blk_drewN ?_ _ | refine blk_drew ?_ | refine blk_alloc ?_ _)); refine blk_put (cs := #[(.int .i64 x.f0), (.int .i64 0), (.string (⟨#[]⟩ : ByteArray)), (.slice none 0 0), (.slice none 0 0)]) ?_ 1 _ rfl; (with_reducible repeat (first | refine blk_drewN ?_ _ | refine blk_drew ?_ | refine blk_alloc ?_ _)); refine blk_put (cs := #[(.int .i64 0), (.int .i64 0), (.string (⟨#[]⟩ : ByteArray)), (.slice none 0 0), (.slice none 0 0)]) ?_ 0 _ rfl; (with_reducible repeat (first | refine blk_drewN ?_ _ | refine blk_drew ?_ | refine blk_alloc ?_ _)); refine blk_far ?_ N23.out _; (with_reducible repeat (first | refine blk_drewN ?_ _ | refine blk_drew ?_ | refine blk_alloc ?_ _)); exact B2.out) Try.underlying88 rfl (by kernel_rfl)) rfl ?_
  exact ⟨_, _, rfl, by (with_reducible repeat (first | apply Kd.R_alloc | apply Kd.R_drewN | apply Kd.R_drew)); exact Kd.R_mono (Kd.R_far (p := ⟨g2, 4, none⟩) (Kd.R_far (p := ⟨g2, 3, none⟩) (Kd.R_far (p := ⟨g2, 2, none⟩) (Kd.R_far (p := ⟨g2, 1, none⟩) (Kd.R_far (p := ⟨g2, 0, none⟩) (Kd.R_far (p := ⟨g3, 4, none⟩) (Kd.R_types (Kd.R_types HO3.out B3.out (by decide)) B2.out (by decide)) (fun _ hk => hk.1.2) _) (fun _ hk => hk.2) _) (fun _ hk => hk.2) _) (fun _ hk => hk.2) _) (fun _ hk => hk.2) _) (fun _ hk => hk.2) _) (fun _ _ => trivial), by (with_reducible repeat (first | apply Kd.R_alloc | apply Kd.R_drewN | apply Kd.R_drew)); exact Kd.R_mono (Kd.R_far (p := ⟨g2, 4, none⟩) (Kd.R_far (p := ⟨g2, 3, none⟩) (Kd.R_far (p := ⟨g2, 2, none⟩) (Kd.R_far (p := ⟨g2, 1, none⟩) (Kd.R_far (p := ⟨g2, 0, none⟩) (Kd.R_far (p := ⟨g3, 4, none⟩) HO4.out (fun _ hk => hk.2.1) _) (fun _ hk => hk.1) _) (fun _ hk => hk.1) _) (fun _ hk => hk.1) _) (fun _ hk => hk.1) _) (fun _ hk => hk.1) _) (fun _ h_ => h_.2.2), (by repeat (first | (with_reducible first | exact HB.out | apply below_alloc | apply pw_below_drewN | apply below_drew1 | refine below_set ?_ GE3.out | refine below_set ?_ GE2.out) | exact HB.out))⟩
theorem laws_toJson.info : (Try.prog.info? 88).map (fun i => (i.zero, i.size, i.bytes)) = some (some (.agg #[.int .i64 0, .int .i64 0, .string ⟨#[]⟩, .slice none 0 0, .slice none 0 0]), 5, 80) := by kernel_rfl
theorem laws_toJson.toJL_get (l : List S83) (n : Nat) (h : n < l.length) : (laws_toJson.toJL l)[n]? = some (⟨(rd_T83 l (n : Int)).f0, (rd_T83 l (n : Int)).f1, (rd_T83 l (n : Int)).f2, (rd_T83 l (n : Int)).f3, laws_toJson.toJL (rd_T83 l (n : Int)).f4⟩ : S88) := by
  rw [laws_toJson.toJL_map, List.getElem?_map, List.getElem?_eq_getElem h]
  have e : rd_T83 l (n : Int) = l[n] := by simp [rd_T83, List.getD, h]
  rw [e, Option.map_some]
  cases l[n]; rw [laws_toJson.toJ]
set_option maxHeartbeats 8000000 in
set_option maxRecDepth 100000 in
theorem laws_toJson.ownS (l : List S83) (hp : ∀ i : Nat, i < l.length → laws_toJson.P (rd_T83 l (i : Int))) (hok : laws_toJson.okJL l = true) (A : Option Addr) (c : Nat) (w : World) (hr : Kd.C k83 w A l.length l) (hc : l.length ≤ c) (hl : l.length ≤ 1048576) :
    Calls Try.prog 117 #[.slice A l.length c] w fun e w' => ∃ v0_ : Value, e = .returned v0_ ∧ Kd.R k88 88 w' w.heap.size (fun _ => True) v0_ (laws_toJson.toJL l) ∧ Below w.heap.size w w' := by
  have HR := Aside0.mk hr
  have HP := Aside0.mk hp
  have HK := Aside0.mk (laws_toJson.okJL_all l hok)
  have HB := Aside0.mk (Below.refl w.heap.size w)
  clear hr hp hok
  go_enter Try.func117, Try.ntmps117
  go_wp2_with (first | ((with_reducible refine gate_dst (N := 7) rfl ?_); refine Kd.R_make k88 _ 88 rfl (N := 7) rfl 86 _ _ rfl (l.length : Int) rfl rfl Try.underlying86 (.agg #[.int .i64 0, .int .i64 0, .string ⟨#[]⟩, .slice none 0 0, .slice none 0 0]) 80 laws_toJson.info rfl (by decide) (by omega) z88 (ok := fun _ => True) (okp := fun _ => True) (k88_mkM _ _ _ z88 (v3 := .slice none 0 0) (Kd.R_nil _ _ _ _ _) (v4 := .slice none 0 0) (Kd.R_nil _ _ _ _ _)) (fun _ hk => hk) trivial (by omega) (by omega) (Below.refl _ _) (Nat.le_refl _) ?_; intro v5 w4 ho hb hg_ hnew_; clear hg_ hnew_; have n0 := Aside0.mk (Kd.R_lower ho (below_size HB.out)); have n1 := Aside0.mk (below_step HB.out hb); clear HB ho hb; have HO := n0; have HB := n1; clear n0 n1))
  simp only [Int.toNat_natCast] at HO
  go_loopw [4] (fun i W => ∃ (n d : Nat) (y : List S88), n + d = l.length ∧ i = .int .i64 (n : Int) ∧ Aside0 (y = (laws_toJson.toJL l).take n ++ List.replicate d z88) ∧ Aside0 (Kd.R k88 88 W w.heap.size (fun _ => True) v5 y) ∧ Below w.heap.size w W) (fun i _ => l.length - (intOf i).toNat)
  case atStart => exact ⟨0, l.length, _, by omega, rfl, ⟨rfl⟩, by simpa using HO, HB.out⟩
  case round =>
    clear HB HO
    obtain ⟨n, d, y, hd, rfl, HY, HO, hb⟩ := hrel
    have HB := Aside0.mk hb
    clear hb
    cases d with
    | zero =>
      have hdec : decide ((n : Int) < (l.length : Int)) = false := decide_eq_false (by omega)
      go_wp2
      go_ret
      exact ⟨_, rfl, by have h1 := HO.out; rw [HY.out, List.replicate_zero, List.append_nil, List.take_of_length_le (by rw [laws_toJson.toJL_len]; omega)] at h1; exact h1, HB.out⟩
    | succ d =>
      have p : 0 ≤ (n : Int) := by omega
      have q : (n : Int) < (l.length : Int) := by omega
      have hdec : decide ((n : Int) < (l.length : Int)) = true := decide_eq_true q
      have hylen : y.length = l.length := by rw [HY.out, List.length_append, List.length_take, List.length_replicate, laws_toJson.toJL_len]; omega
      obtain ⟨go, co0, ev, gb, gl, _⟩ := Kd.R_form HO.out (by rw [hylen]; omega)
      rw [hylen] at ev
      subst ev
      obtain ⟨ad, A3, c3, A4, c4, ea, hx0, hx1, hx2, hx3, hx4, l3, g3, l4, g4⟩ := at_T83 (Kd.C_below HR.out HB.out) (n : Int) p q
      cases ea
      simp only [Int.toNat_natCast] at hx0 hx1 hx2 hx3 hx4
      have hm : rd_T83 l (n : Int) ∈ l := by simp [rd_T83, List.getD, (by omega : n < l.length)]
      have HC := Aside0.mk (HP.out n (by omega) A3 c3 A4 c4 wr g3 l3 g4 l4 (HK.out _ hm))
      clear hm g3 g4
      go_wp2_with (first | (go_at_call 60; refine HC.out.mono ?_; rintro e w11 ⟨v3, v4, rfl, h3, h4, hb⟩; obtain ⟨Ao, co, eo⟩ := Kd.R_slice h3; subst eo; obtain ⟨Bo, do_, eo⟩ := Kd.R_slice h4; subst eo; have HX := Aside0.mk (Kd.R_below HO.out hb); have g3 := Kd.R_lower (Kd.R_mono (ok' := fun k => True ∧ k ≠ go) (Kd.R_bound h3) (fun k hk => ⟨trivial, fun h_ => absurd hk.2.1 (by rw [h_]; exact Nat.not_le_of_lt gl)⟩)) (below_size HB.out); have g4 := Kd.R_lower (Kd.R_mono (ok' := fun k => True ∧ k ≠ go) (Kd.R_bound h4) (fun k hk => ⟨trivial, fun h_ => absurd hk.2.1 (by rw [h_]; exact Nat.not_le_of_lt gl)⟩)) (below_size HB.out); obtain ⟨ce, hcl, hM, hcc, hfr⟩ := Kd.R_elem HX.out z88 (n : Int) p q; obtain ⟨u3, u4, rfl, _, _⟩ := k88_openM hM; simp only [Int.toNat_natCast] at hcc hfr; have HP12 := Aside0.mk (Kd.R_seg HX.out (n : Int) p q (seg := [(.int .i64 (rd_T83 l (n : Int)).f0), (.int .i64 (rd_T83 l (n : Int)).f1), (.string (rd_T83 l (n : Int)).f2), (.slice Ao (rd_T83 l (n : Int)).f3.length co), (.slice Bo (laws_toJson.toJL (rd_T83 l (n : Int)).f4).length do_)]) (j := 0) hcl (by simpa only [Int.toNat_natCast] using hcc) (show 5 ≤ 5 from by decide) (x' := (⟨(rd_T83 l (n : Int)).f0, (rd_T83 l (n : Int)).f1, (rd_T83 l (n : Int)).f2, (rd_T83 l (n : Int)).f3, laws_toJson.toJL (rd_T83 l (n : Int)).f4⟩ : S88)) (k88_mkM _ _ _ (⟨(rd_T83 l (n : Int)).f0, (rd_T83 l (n : Int)).f1, (rd_T83 l (n : Int)).f2, (rd_T83 l (n : Int)).f3, laws_toJson.toJL (rd_T83 l (n : Int)).f4⟩ : S88) g3 g4) (fun _ hk => hk)); have y0 : w11.cell? ⟨go, n * 5, none⟩ = some _ := hcc 0 _ rfl; have yf0 : w11.frozen? ⟨go, n * 5, none⟩ = false := hfr 0; have y1 : w11.cell? ⟨go, n * 5 + 1, none⟩ = some _ := hcc 1 _ rfl; have yf1 : w11.frozen? ⟨go, n * 5 + 1, none⟩ = false := hfr 1; have y2 : w11.cell? ⟨go, n * 5 + 2, none⟩ = some _ := hcc 2 _ rfl; have yf2 : w11.frozen? ⟨go, n * 5 + 2, none⟩ = false := hfr 2; have y3 : w11.cell? ⟨go, n * 5 + 3, none⟩ = some _ := hcc 3 _ rfl; have yf3 : w11.frozen? ⟨go, n * 5 + 3, none⟩ = false := hfr 3; have y4 : w11.cell? ⟨go, n * 5 + 4, none⟩ = some _ := hcc 4 _ rfl; have yf4 : w11.frozen? ⟨go, n * 5 + 4, none⟩ = false := hfr 4; have n0 := Aside0.mk (below_step HB.out hb); clear HB HX hcl hcc hfr hM g3 g4 h3 h4 hb; have HB := n0; clear n0) | ((with_reducible refine gate_store (t := 88) (p := 21) rfl ?_); refine store_event (t := 88) (p := 21) (v := ?vo_) (w1 := (((((w11.setCell ⟨go, n * 5, none⟩ (.int .i64 (rd_T83 l (n : Int)).f0)).setCell ⟨go, n * 5 + 1, none⟩ (.int .i64 (rd_T83 l (n : Int)).f1)).setCell ⟨go, n * 5 + 2, none⟩ (.string (rd_T83 l (n : Int)).f2)).setCell ⟨go, n * 5 + 3, none⟩ (.slice Ao (rd_T83 l (n : Int)).f3.length co)).setCell ⟨go, n * 5 + 4, none⟩ (.slice Bo (laws_toJson.toJL (rd_T83 l (n : Int)).f4).length do_))) ?hg ?ho ?hn ?hr ?_; (case ho => rfl); (case hg => rfl); (case hn => rfl); (case hr => first | (go_simp; done) | (go_simp; rfl)); intro w13 hw; have n0 := Aside0.mk (by rw [hw]; exact HP12.out.1 : Kd.R k88 88 w13 w.heap.size (fun _ => True) (.slice (some ⟨go, 0, none⟩) l.length co0) (y.set (n : Int).toNat (⟨(rd_T83 l (n : Int)).f0, (rd_T83 l (n : Int)).f1, (rd_T83 l (n : Int)).f2, (rd_T83 l (n : Int)).f3, laws_toJson.toJL (rd_T83 l (n : Int)).f4⟩ : S88))); have n1 := Aside0.mk ((by rw [hw]; exact below_set (below_set (below_set (below_set (below_set (HB.out) gb) gb) gb) gb) gb : Below w.heap.size w w13)); clear HB HP12 hw HO; have HO := n0; have HB := n1; clear n0 n1))
      go_roundw
      case rel => exact ⟨n + 1, d, _, by omega, by go_num, ⟨by rw [HY.out, Int.toNat_natCast]; exact laws_toJson.set_ _ z88 n d (by rw [laws_toJson.toJL_len]; omega) _ (laws_toJson.toJL_get l n (by omega))⟩, HO, HB.out⟩
      case measure => simp [intOf]; omega
theorem laws_toJson.all (x : S83) : laws_toJson.P x := by
  have : ∀ n : Nat, ∀ x : S83, SizeOf.sizeOf x < n → laws_toJson.P x := by
    intro n
    induction n with
    | zero => intro x h; omega
    | succ n ih =>
      intro x h
      refine laws_toJson.own1 x fun hok A c w hr hc hl => laws_toJson.ownS x.f4 (fun i hi => ih _ ?_) hok A c w hr hc hl
      have hm : rd_T83 x.f4 (i : Int) ∈ x.f4 := by simp [rd_T83, List.getD, hi]
      have h1 := List.sizeOf_lt_of_mem hm
      have h2 : SizeOf.sizeOf x = 1 + SizeOf.sizeOf x.f0 + SizeOf.sizeOf x.f1 + SizeOf.sizeOf x.f2 + SizeOf.sizeOf x.f3 + SizeOf.sizeOf x.f4 := by cases x; simp
      omega
  exact this _ x (Nat.lt_succ_self _)
def laws_toJson.f (a0_0 : Int) (a0_1 : Int) (a0_2 : ByteArray) (l0_3 : List ByteArray) (l0_4 : List (S83)) : Option (Int × Int × ByteArray × List ByteArray × List (S88)) := if laws_toJson.okJ ⟨a0_0, a0_1, a0_2, l0_3, l0_4⟩ = true then some (a0_0, a0_1, a0_2, l0_3, laws_toJson.toJL l0_4) else none
theorem laws_toJson.calls (a0_0 : Int) (a0_1 : Int) (a0_2 : ByteArray) (A0_3 : Option Addr) (c0_3 : Nat) (l0_3 : List ByteArray) (A0_4 : Option Addr) (c0_4 : Nat) (l0_4 : List (S83)) (r1 : Int) (r2 : Int) (r3 : ByteArray) (r4 : List ByteArray) (r5 : List (S88)) (w : World) (hr0_3 : Kd.C Kd.string w A0_3 l0_3.length l0_3) (hc0_3 : l0_3.length ≤ c0_3) (hr0_4 : Kd.C k83 w A0_4 l0_4.length l0_4) (hc0_4 : l0_4.length ≤ c0_4) (h : laws_toJson.f a0_0 a0_1 a0_2 l0_3 l0_4 = some (r1, r2, r3, r4, r5)) :
    Calls Try.prog 60 #[.agg #[.int .i64 a0_0, .int .i64 a0_1, .string a0_2, .slice A0_3 l0_3.length c0_3, .slice A0_4 l0_4.length c0_4]] w fun e w' => ∃ v3_ v4_ : Value, e = .returned (.agg #[.int .i64 r1, .int .i64 r2, .string r3, v3_, v4_]) ∧ Kd.R Kd.string 9 w' w.heap.size (fun _ => True) v3_ r4 ∧ Kd.R k88 88 w' w.heap.size (fun k_ => some k_ ≠ v3_.ownBlock) v4_ r5 ∧ Below w.heap.size w w' := by
  unfold laws_toJson.f at h
  split at h
  · rename_i he
    simp only [Option.some.injEq, Prod.mk.injEq] at h
    obtain ⟨rfl, rfl, rfl, rfl, rfl⟩ := h
    exact laws_toJson.all ⟨a0_0, a0_1, a0_2, l0_3, l0_4⟩ A0_3 c0_3 A0_4 c0_4 w hr0_3 hc0_3 hr0_4 hc0_4 he
  · cases h

/-! ### laws_eqStringS: function 82 -/
def laws_eqStringS.l0 : Nat → List ByteArray → List ByteArray → Int → Option (Bool)
  | 0, _, _, _ => none
  | k + 1, x0, x1, x5 => if x5 < (x0.length : Int) then (if 0 ≤ x5 then (if x5 < (x1.length : Int) then (if (rdOf ByteArray.empty x0 x5).toList = (rdOf ByteArray.empty x1 x5).toList then (laws_eqStringS.l0 k x0 x1 (wrap64 (x5 + 1))) else (some false)) else (none)) else (none)) else (some true)
def laws_eqStringS.f (k : Nat) (l0 : List ByteArray) (l1 : List ByteArray) : Option (Bool) := if (l0.length : Int) = (l1.length : Int) then (laws_eqStringS.l0 k l0 l1 0) else (some false)
theorem laws_eqStringS.mono_l : ∀ k, (∀ y0 y1 y2, LeO (laws_eqStringS.l0 k y0 y1 y2) (laws_eqStringS.l0 (k + 1) y0 y1 y2))
  | 0 => fun _ _ _ r h => by simp [laws_eqStringS.l0] at h
  | k + 1 => by
    have ih0 := laws_eqStringS.mono_l k
    · intro y0 y1 y2
      unfold laws_eqStringS.l0
      repeat' first
      | (with_reducible exact ih0 _ _ _)
      | (with_reducible exact LeO.refl _)
      | (with_reducible exact LeO.none _)
      | (with_reducible refine LeO.ite ?_ ?_)
      | (with_reducible refine LeO.bind ?_ (fun _ => ?_))
      | exact ih0 _ _ _
      | exact LeO.none _
      | refine LeO.ite ?_ ?_
      | refine LeO.bind ?_ (fun _ => ?_)
theorem laws_eqStringS.mono : ∀ a0 a1 k, LeO (laws_eqStringS.f k a0 a1) (laws_eqStringS.f (k + 1) a0 a1) := by
  intro a0 a1 k
  have ih0 := laws_eqStringS.mono_l k
  unfold laws_eqStringS.f
  repeat' first
      | (with_reducible exact ih0 _ _ _)
      | (with_reducible exact LeO.refl _)
      | (with_reducible exact LeO.none _)
      | (with_reducible refine LeO.ite ?_ ?_)
      | (with_reducible refine LeO.bind ?_ (fun _ => ?_))
      | exact ih0 _ _ _
      | exact LeO.none _
      | refine LeO.ite ?_ ?_
      | refine LeO.bind ?_ (fun _ => ?_)
set_option maxHeartbeats 8000000 in
set_option maxRecDepth 100000 in
theorem laws_eqStringS.calls (k : Nat) (A0 : Option Addr) (c0 : Nat) (l0 : List ByteArray) (A1 : Option Addr) (c1 : Nat) (l1 : List ByteArray) (r : Bool) (w : World) (hr0 : Kd.C Kd.string w A0 l0.length l0) (hc0 : l0.length ≤ c0) (hr1 : Kd.C Kd.string w A1 l1.length l1) (hc1 : l1.length ≤ c1) (h : laws_eqStringS.f k l0 l1 = some r) :
    Calls Try.prog 82 #[.slice A0 l0.length c0, .slice A1 l1.length c1] w fun e w' => e = .returned (.bool r) ∧ Drawn0 w w' := by
 have HR0 := Aside0.mk hr0
 have HC0 := Aside0.mk hc0
 clear hr0 hc0
 have HR1 := Aside0.mk hr1
 have HC1 := Aside0.mk hc1
 clear hr1 hc1
 have H : (if (l0.length : Int) = (l1.length : Int) then (laws_eqStringS.l0 k l0 l1 0) else (some false)) = some r := h
 clear h
 by_cases c3 : (l0.length : Int) = (l1.length : Int)
 ·
  rw [if_pos c3] at H
  have c3b0 : ((l0.length : Int) == (l1.length : Int)) = true := beq_iff_eq.mpr c3
  have c3b1 : ((l0.length : Int) != (l1.length : Int)) = false := bne_eq_false_iff_eq.mpr c3
  have c3b2 : (l0.length == l1.length) = true := by first | simpa using c3 | (simp at c3 ⊢; omega)
  clear c3
  have H' := Aside0.mk H
  clear H
  go_enter Try.func82, Try.ntmps82
  go_wp2
  repeat (go_quiet (fail); try go_wp2)
  go_loopg [5] k (fun kq v5 w' => ∃ (x5_1 : Int), v5 = .int .i64 x5_1 ∧ Aside0 (laws_eqStringS.l0 kq l0 l1 x5_1 = some r) ∧ Aside0 (kq ≤ k) ∧ Drawn0 w w')
  case atStart => exact ⟨(0), eqE_, H', ⟨Nat.le_refl _⟩, by repeat (first | exact Drawn0.refl _ | apply Drawn0.step)⟩
  case round =>
   clear H'
   try clear c3
   try clear c3b0
   try clear c3b1
   try clear c3b2
   obtain ⟨x5_1, rfl, HA, HK1, ⟨m1, rfl⟩⟩ := hrel
   cases gk with
   | zero => exact absurd HA.out (by simp [laws_eqStringS.l0])
   | succ k1 =>
    have H := HA.out
    clear HA
    simp only [laws_eqStringS.l0] at H
    by_cases c4 : x5_1 < (l0.length : Int)
    ·
     rw [if_pos c4] at H
     have c4b0 : decide (x5_1 < (l0.length : Int)) = true := decide_eq_true c4
     clear c4
     by_cases c5 : 0 ≤ x5_1
     ·
      rw [if_pos c5] at H
      have c5b0 : decide (0 ≤ x5_1) = true := decide_eq_true c5
      clear c5
      by_cases c6 : x5_1 < (l1.length : Int)
      ·
       rw [if_pos c6] at H
       have c6b0 : decide (x5_1 < (l1.length : Int)) = true := decide_eq_true c6
       clear c6
       by_cases c7 : (rdOf ByteArray.empty l0 x5_1).toList = (rdOf ByteArray.empty l1 x5_1).toList
       ·
        rw [if_pos c7] at H
        have c7b0 : ((rdOf ByteArray.empty l0 x5_1).toList == (rdOf ByteArray.empty l1 x5_1).toList) = true := beq_iff_eq.mpr c7
        have c7b1 : ((rdOf ByteArray.empty l0 x5_1).toList != (rdOf ByteArray.empty l1 x5_1).toList) = false := bne_eq_false_iff_eq.mpr c7
        clear c7
        have H' := Aside0.mk H
        clear H
        have p107 : 0 ≤ (x5_1 : Int) := of_decide_eq_true (by first | (with_reducible assumption) | assumption)
        have q107 : x5_1 < (l0.length : Int) := of_decide_eq_true (by first | (with_reducible assumption) | assumption)
        obtain ⟨ad107, e107, hx107_0⟩ := Kd.at_string HR0.out x5_1 p107 q107
        cases e107
        replace p107 := eq_true p107
        replace q107 := eq_true q107
        have p108 : 0 ≤ (x5_1 : Int) := of_decide_eq_true (by first | (with_reducible assumption) | assumption)
        have q108 : x5_1 < (l1.length : Int) := of_decide_eq_true (by first | (with_reducible assumption) | assumption)
        obtain ⟨ad108, e108, hx108_0⟩ := Kd.at_string HR1.out x5_1 p108 q108
        cases e108
        replace p108 := eq_true p108
        replace q108 := eq_true q108
        go_wp2
        repeat (go_quiet (fail); try go_wp2)
        go_roundg k1
        case measure => have := HK1.out; omega
        case rel => exact ⟨(wrap64 (x5_1 + 1)), eqE_, H', ⟨by have := HK1.out; omega⟩, by repeat (first | exact Drawn0.refl _ | apply Drawn0.step)⟩
       ·
        rw [if_neg c7] at H
        have c7b0 : ((rdOf ByteArray.empty l0 x5_1).toList == (rdOf ByteArray.empty l1 x5_1).toList) = false := beq_eq_false_iff_ne.mpr c7
        have c7b1 : ((rdOf ByteArray.empty l0 x5_1).toList != (rdOf ByteArray.empty l1 x5_1).toList) = true := bne_iff_ne.mpr c7
        obtain rfl := Option.some.inj H
        have p107 : 0 ≤ (x5_1 : Int) := of_decide_eq_true (by first | (with_reducible assumption) | assumption)
        have q107 : x5_1 < (l0.length : Int) := of_decide_eq_true (by first | (with_reducible assumption) | assumption)
        obtain ⟨ad107, e107, hx107_0⟩ := Kd.at_string HR0.out x5_1 p107 q107
        cases e107
        replace p107 := eq_true p107
        replace q107 := eq_true q107
        have p108 : 0 ≤ (x5_1 : Int) := of_decide_eq_true (by first | (with_reducible assumption) | assumption)
        have q108 : x5_1 < (l1.length : Int) := of_decide_eq_true (by first | (with_reducible assumption) | assumption)
        obtain ⟨ad108, e108, hx108_0⟩ := Kd.at_string HR1.out x5_1 p108 q108
        cases e108
        replace p108 := eq_true p108
        replace q108 := eq_true q108
        go_wp2
        repeat (go_quiet (fail); try go_wp2)
        go_ret
        exact ⟨by first | rfl | (simp; done) | (simp [*]; done) | (simp only [bne_empty_]; rfl), by repeat (first | exact Drawn0.refl _ | apply Drawn0.step)⟩
      ·
       rw [if_neg c6] at H
       exact absurd H (by simp)
     ·
      rw [if_neg c5] at H
      exact absurd H (by simp)
    ·
     rw [if_neg c4] at H
     have c4b0 : decide (x5_1 < (l0.length : Int)) = false := decide_eq_false c4
     clear c4
     obtain rfl := Option.some.inj H
     go_wp2
     repeat (go_quiet (fail); try go_wp2)
     go_ret
     exact ⟨by first | rfl | (simp; done) | (simp [*]; done) | (simp only [bne_empty_]; rfl), by repeat (first | exact Drawn0.refl _ | apply Drawn0.step)⟩
 ·
  rw [if_neg c3] at H
  have c3b0 : ((l0.length : Int) == (l1.length : Int)) = false := beq_eq_false_iff_ne.mpr c3
  have c3b1 : ((l0.length : Int) != (l1.length : Int)) = true := bne_iff_ne.mpr c3
  have c3b2 : (l0.length == l1.length) = false := by first | simpa using c3 | (simp at c3 ⊢; omega)
  obtain rfl := Option.some.inj H
  go_enter Try.func82, Try.ntmps82
  go_wp2
  repeat (go_quiet (fail); try go_wp2)
  go_ret
  exact ⟨by first | rfl | (simp; done) | (simp [*]; done) | (simp only [bne_empty_]; rfl), by repeat (first | exact Drawn0.refl _ | apply Drawn0.step)⟩

/-! ### laws_eqJson: function 62, by hand -/
mutual
def laws_eqJson.eqJ : S88 → S88 → Bool
  | ⟨a0, a1, a2, a3, a4⟩, ⟨b0, b1, b2, b3, b4⟩ => decide (a0 = b0) && decide (a1 = b1) && decide (a2 = b2) && decide (a3 = b3) && laws_eqJson.eqJL a4 b4
def laws_eqJson.eqJL : List S88 → List S88 → Bool
  | [], [] => true
  | x :: xs, y :: ys => laws_eqJson.eqJ x y && laws_eqJson.eqJL xs ys
  | [], _ :: _ => false
  | _ :: _, [] => false
end
mutual
theorem laws_eqJson.eqJ_is : ∀ x y : S88, laws_eqJson.eqJ x y = true → x = y
  | ⟨a0, a1, a2, a3, a4⟩, ⟨b0, b1, b2, b3, b4⟩, h => by
    simp only [laws_eqJson.eqJ, Bool.and_eq_true, decide_eq_true_eq] at h
    obtain ⟨⟨⟨⟨rfl, rfl⟩, rfl⟩, rfl⟩, h4⟩ := h
    rw [laws_eqJson.eqJL_is a4 b4 h4]
theorem laws_eqJson.eqJL_is : ∀ x y : List S88, laws_eqJson.eqJL x y = true → x = y
  | [], [], _ => rfl
  | x :: xs, y :: ys, h => by
    simp only [laws_eqJson.eqJL, Bool.and_eq_true] at h
    rw [laws_eqJson.eqJ_is x y h.1, laws_eqJson.eqJL_is xs ys h.2]
  | [], _ :: _, h => by simp [laws_eqJson.eqJL] at h
  | _ :: _, [], h => by simp [laws_eqJson.eqJL] at h
end
theorem laws_eqJson.str_l0 (l : List ByteArray) (hl : l.length ≤ 9223372036854775807) : ∀ (d n : Nat), n + d = l.length → laws_eqStringS.l0 (d + 1) l l (n : Int) = some true := by
  intro d
  induction d with
  | zero => intro n h; rw [laws_eqStringS.l0, if_neg (by omega)]
  | succ d ih =>
    intro n h
    rw [laws_eqStringS.l0, if_pos (by omega), if_pos (by omega), if_pos (by omega), if_pos rfl, show wrap64 ((n : Int) + 1) = ((n + 1 : Nat) : Int) from by unfold wrap64; omega]
    exact ih (n + 1) (by omega)
theorem laws_eqJson.str (l : List ByteArray) (hl : l.length ≤ 9223372036854775807) : laws_eqStringS.f (l.length + 1) l l = some true := by
  rw [laws_eqStringS.f, if_pos rfl]; exact laws_eqJson.str_l0 l hl l.length 0 (by omega)
abbrev laws_eqJson.P (x : S88) : Prop := ∀ (A3 : Option Addr) (c3 : Nat) (A4 : Option Addr) (c4 : Nat) (B3 : Option Addr) (d3 : Nat) (B4 : Option Addr) (d4 : Nat) (w : World), Kd.C Kd.string w A3 x.f3.length x.f3 → x.f3.length ≤ c3 → Kd.C k88 w A4 x.f4.length x.f4 → x.f4.length ≤ c4 → Kd.C Kd.string w B3 x.f3.length x.f3 → x.f3.length ≤ d3 → Kd.C k88 w B4 x.f4.length x.f4 → x.f4.length ≤ d4 →
  Calls Try.prog 62 #[.agg #[.int .i64 x.f0, .int .i64 x.f1, .string x.f2, .slice A3 x.f3.length c3, .slice A4 x.f4.length c4], .agg #[.int .i64 x.f0, .int .i64 x.f1, .string x.f2, .slice B3 x.f3.length d3, .slice B4 x.f4.length d4]] w fun e w' => e = .returned (.bool true) ∧ Below w.heap.size w w'
set_option maxHeartbeats 8000000 in
set_option maxRecDepth 100000 in
theorem laws_eqJson.ownS (l : List S88) (hp : ∀ i : Nat, i < l.length → laws_eqJson.P (rd_T88 l (i : Int))) (A : Option Addr) (c : Nat) (B : Option Addr) (d : Nat) (w : World) (hr : Kd.C k88 w A l.length l) (hc : l.length ≤ c) (hs : Kd.C k88 w B l.length l) (hd : l.length ≤ d) :
    Calls Try.prog 119 #[.slice A l.length c, .slice B l.length d] w fun e w' => e = .returned (.bool true) ∧ Below w.heap.size w w' := by
  have HR := Aside0.mk hr
  have HS := Aside0.mk hs
  have HP := Aside0.mk hp
  have hlen := hr.2.1
  clear hr hp hs
  have hu88 := Try.underlying88
  go_enter Try.func119, Try.ntmps119
  go_wp2
  go_loopw [5] (fun i W => ∃ (n d : Nat), n + d = l.length ∧ i = .int .i64 (n : Int) ∧ Below w.heap.size w W) (fun i _ => l.length - (intOf i).toNat)
  case atStart => exact ⟨0, l.length, by omega, rfl, Below.refl _ _⟩
  case round =>
    obtain ⟨n, d, hd, rfl, hb⟩ := hrel
    have HB := Aside0.mk hb
    clear hb
    cases d with
    | zero =>
      have hdec : decide ((n : Int) < (l.length : Int)) = false := decide_eq_false (by omega)
      go_wp2
      go_ret
      exact ⟨rfl, HB.out⟩
    | succ d =>
      have p : 0 ≤ (n : Int) := by omega
      have q : (n : Int) < (l.length : Int) := by omega
      have hdec : decide ((n : Int) < (l.length : Int)) = true := decide_eq_true q
      obtain ⟨ad, A3, c3, A4, c4, ea, hx0, hx1, hx2, hx3, hx4, l3, g3, l4, g4⟩ := at_T88 HR.out (n : Int) p q
      cases ea
      obtain ⟨bd, B3, d3, B4, d4, eb, hy0, hy1, hy2, hy3, hy4, m3, b3, m4, b4⟩ := at_T88 HS.out (n : Int) p q
      cases eb
      replace hx0 := (HB.out.cell (World.block_lt_of_cell? w _ hx0)).trans hx0
      replace hx1 := (HB.out.cell (World.block_lt_of_cell? w _ hx1)).trans hx1
      replace hx2 := (HB.out.cell (World.block_lt_of_cell? w _ hx2)).trans hx2
      replace hx3 := (HB.out.cell (World.block_lt_of_cell? w _ hx3)).trans hx3
      replace hx4 := (HB.out.cell (World.block_lt_of_cell? w _ hx4)).trans hx4
      replace hy0 := (HB.out.cell (World.block_lt_of_cell? w _ hy0)).trans hy0
      replace hy1 := (HB.out.cell (World.block_lt_of_cell? w _ hy1)).trans hy1
      replace hy2 := (HB.out.cell (World.block_lt_of_cell? w _ hy2)).trans hy2
      replace hy3 := (HB.out.cell (World.block_lt_of_cell? w _ hy3)).trans hy3
      replace hy4 := (HB.out.cell (World.block_lt_of_cell? w _ hy4)).trans hy4
      simp only [Int.toNat_natCast] at hx0 hx1 hx2 hx3 hx4 hy0 hy1 hy2 hy3 hy4
      have HC := Aside0.mk (fun (W : World) (hw : Below w.heap.size w W) => HP.out n (by omega) A3 c3 A4 c4 B3 d3 B4 d4 W (Kd.C_below g3 hw) l3 (Kd.C_below g4 hw) l4 (Kd.C_below b3 hw) m3 (Kd.C_below b4 hw) m4)
      clear g3 g4 b3 b4
      go_wp2
      go_still_tail 8, (by kernel_rfl)
      change wpList _ _ _ _ _ wr.drew
      have HD := Aside0.mk (below_drew1 HB.out)
      replace HC := Aside0.mk (HC.out _ HD.out)
      clear HB
      generalize wr.drew = w2 at HD HC ⊢
      go_wp2_with (go_at_call 62; refine HC.out.mono ?_; rintro e w' ⟨rfl, hb'⟩; have HB' := Aside0.mk (below_step HD.out hb'); clear hb')
      go_roundw
      case rel => exact ⟨n + 1, d, by omega, by go_num, HB'.out⟩
      case measure => simp [intOf]; omega
set_option maxHeartbeats 8000000 in
set_option maxRecDepth 100000 in
theorem laws_eqJson.own1 (x : S88) (hp : ∀ i : Nat, i < x.f4.length → laws_eqJson.P (rd_T88 x.f4 (i : Int))) : laws_eqJson.P x := by
  intro A3 c3 A4 c4 B3 d3 B4 d4 w h3 l3 h4 l4 k3 m3 k4 m4
  have HS := Aside0.mk (fun (W : World) (hw : Below w.heap.size w W) => laws_eqStringS.calls (x.f3.length + 1) A3 c3 x.f3 B3 d3 x.f3 _ W (Kd.C_below h3 hw) l3 (Kd.C_below k3 hw) m3 (laws_eqJson.str x.f3 h3.2.1))
  have HT := Aside0.mk (fun (W : World) (hw : Below w.heap.size w W) => laws_eqJson.ownS x.f4 hp A4 c4 B4 d4 W (Kd.C_below h4 hw) l4 (Kd.C_below k4 hw) m4)
  clear h3 h4 hp k3 k4
  have hu88 := Try.underlying88
  have e0 : (x.f0 == x.f0) = true := beq_self_eq_true _
  have e0' : (x.f0 != x.f0) = false := by simp
  have e1 : (x.f1 == x.f1) = true := beq_self_eq_true _
  have e1' : (x.f1 != x.f1) = false := by simp
  have e2 : (x.f2.toList == x.f2.toList) = true := beq_self_eq_true _
  have e2' : (x.f2.toList != x.f2.toList) = false := by simp
  go_enter Try.func62, Try.ntmps62
  go_wp2_with (first | ((with_reducible refine gate_dst (N := 2) rfl ?_); refine box_event ?hg (N := 2) ?hd (cs := #[.int .i64 x.f0, .int .i64 x.f1, .string x.f2, .slice A3 x.f3.length c3, .slice A4 x.f4.length c4]) (t := 88) ?hr ?_; (case hd => rfl); (case hg => rfl); (case hr => first | (go_simp; done) | (go_simp; rfl)); intro g2 hg wg2 hx hb; have n0 := Aside0.mk (below_step (Below.refl w.heap.size w) hb); have HB := n0; clear n0; have B2 := Aside0.mk hx; clear hx hb hg) | ((with_reducible refine gate_dst (N := 3) rfl ?_); refine box_event ?hg (N := 3) ?hd (cs := #[.int .i64 x.f0, .int .i64 x.f1, .string x.f2, .slice B3 x.f3.length d3, .slice B4 x.f4.length d4]) (t := 88) ?hr ?_; (case hd => rfl); (case hg => rfl); (case hr => first | (go_simp; done) | (go_simp; rfl)); intro g3 hg wg3 hx hb; have n0 := Aside0.mk (below_step HB.out hb); clear HB; have HB := n0; clear n0; have n0 := blk_below B2.out hb; have q0 : wg3.cell? ⟨g2, 0, none⟩ = some (.int .i64 x.f0) := (blk_cell n0 0).trans rfl; have r0 : wg3.cell? ⟨g3, 0, none⟩ = some (.int .i64 x.f0) := (blk_cell hx 0).trans rfl; have q1 : wg3.cell? ⟨g2, 1, none⟩ = some (.int .i64 x.f1) := (blk_cell n0 1).trans rfl; have r1 : wg3.cell? ⟨g3, 1, none⟩ = some (.int .i64 x.f1) := (blk_cell hx 1).trans rfl; have q2 : wg3.cell? ⟨g2, 2, none⟩ = some (.string x.f2) := (blk_cell n0 2).trans rfl; have r2 : wg3.cell? ⟨g3, 2, none⟩ = some (.string x.f2) := (blk_cell hx 2).trans rfl; have q3 : wg3.cell? ⟨g2, 3, none⟩ = some (.slice A3 x.f3.length c3) := (blk_cell n0 3).trans rfl; have r3 : wg3.cell? ⟨g3, 3, none⟩ = some (.slice B3 x.f3.length d3) := (blk_cell hx 3).trans rfl; have q4 : wg3.cell? ⟨g2, 4, none⟩ = some (.slice A4 x.f4.length c4) := (blk_cell n0 4).trans rfl; have r4 : wg3.cell? ⟨g3, 4, none⟩ = some (.slice B4 x.f4.length d4) := (blk_cell hx 4).trans rfl; clear n0 hx hb hg B2) | (go_at_call 82; refine (HS.out _ HB.out).mono ?_; rintro e w' ⟨rfl, ⟨m, rfl⟩⟩; have n0 := Aside0.mk (show Below w.heap.size w (World.drewN _ m) from by apply pw_below_drewN; exact HB.out); clear HB; have HB := n0; clear n0) | (go_at_call 119; refine (HT.out _ HB.out).mono ?_; rintro e w' ⟨rfl, hb'⟩; have n0 := Aside0.mk (below_step HB.out hb'); clear hb' HB; have HB := n0; clear n0))
  go_ret
  exact ⟨rfl, HB.out⟩
theorem laws_eqJson.all (x : S88) : laws_eqJson.P x := by
  have : ∀ n : Nat, ∀ x : S88, SizeOf.sizeOf x < n → laws_eqJson.P x := by
    intro n
    induction n with
    | zero => intro x h; omega
    | succ n ih =>
      intro x h
      refine laws_eqJson.own1 x fun i hi => ih _ ?_
      have hm : rd_T88 x.f4 (i : Int) ∈ x.f4 := by simp [rd_T88, List.getD, hi]
      have h1 := List.sizeOf_lt_of_mem hm
      have h2 : SizeOf.sizeOf x = 1 + SizeOf.sizeOf x.f0 + SizeOf.sizeOf x.f1 + SizeOf.sizeOf x.f2 + SizeOf.sizeOf x.f3 + SizeOf.sizeOf x.f4 := by cases x; simp
      omega
  exact this _ x (Nat.lt_succ_self _)
def laws_eqJson.f (a0_0 : Int) (a0_1 : Int) (a0_2 : ByteArray) (l0_3 : List ByteArray) (l0_4 : List (S88)) (a1_0 : Int) (a1_1 : Int) (a1_2 : ByteArray) (l1_3 : List ByteArray) (l1_4 : List (S88)) : Option Bool := if laws_eqJson.eqJ ⟨a0_0, a0_1, a0_2, l0_3, l0_4⟩ ⟨a1_0, a1_1, a1_2, l1_3, l1_4⟩ = true then some true else none
theorem laws_eqJson.calls (a0_0 : Int) (a0_1 : Int) (a0_2 : ByteArray) (A0_3 : Option Addr) (c0_3 : Nat) (l0_3 : List ByteArray) (A0_4 : Option Addr) (c0_4 : Nat) (l0_4 : List (S88)) (a1_0 : Int) (a1_1 : Int) (a1_2 : ByteArray) (A1_3 : Option Addr) (c1_3 : Nat) (l1_3 : List ByteArray) (A1_4 : Option Addr) (c1_4 : Nat) (l1_4 : List (S88)) (r : Bool) (w : World) (hr0_3 : Kd.C Kd.string w A0_3 l0_3.length l0_3) (hc0_3 : l0_3.length ≤ c0_3) (hr0_4 : Kd.C k88 w A0_4 l0_4.length l0_4) (hc0_4 : l0_4.length ≤ c0_4) (hr1_3 : Kd.C Kd.string w A1_3 l1_3.length l1_3) (hc1_3 : l1_3.length ≤ c1_3) (hr1_4 : Kd.C k88 w A1_4 l1_4.length l1_4) (hc1_4 : l1_4.length ≤ c1_4) (h : laws_eqJson.f a0_0 a0_1 a0_2 l0_3 l0_4 a1_0 a1_1 a1_2 l1_3 l1_4 = some r) :
    Calls Try.prog 62 #[.agg #[.int .i64 a0_0, .int .i64 a0_1, .string a0_2, .slice A0_3 l0_3.length c0_3, .slice A0_4 l0_4.length c0_4], .agg #[.int .i64 a1_0, .int .i64 a1_1, .string a1_2, .slice A1_3 l1_3.length c1_3, .slice A1_4 l1_4.length c1_4]] w fun e w' => e = .returned (.bool r) ∧ Below w.heap.size w w' := by
  unfold laws_eqJson.f at h
  split at h
  · rename_i he
    obtain rfl := Option.some.inj h
    have hx := laws_eqJson.eqJ_is _ _ he
    injection hx with h0 h1 h2 h3 h4
    subst h0; subst h1; subst h2; subst h3; subst h4
    exact laws_eqJson.all ⟨a0_0, a0_1, a0_2, l0_3, l0_4⟩ A0_3 c0_3 A0_4 c0_4 A1_3 c1_3 A1_4 c1_4 w hr0_3 hc0_3 hr0_4 hc0_4 hr1_3 hc1_3 hr1_4 hc1_4
  · cases h

end Go.Proofs.Ytmfnaaeglfhnmaa.QFnExactSameJson
