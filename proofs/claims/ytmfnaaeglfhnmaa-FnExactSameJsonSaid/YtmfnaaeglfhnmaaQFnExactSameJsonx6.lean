/- A tool of this session wrote this text out of the translation: functions as plain Lean, and proofs that the machine's calls come to their answers. -/
import Derived.Test.YtmfnaaeglfhnmaaQShort
import Derived.Test.YtmfnaaeglfhnmaaQFnExactSameJsonx0
import Derived.Test.YtmfnaaeglfhnmaaQFnExactSameJsonx5
namespace Go.Proofs.Ytmfnaaeglfhnmaa.QFnExactSameJson
open Go.RowKit Go.Proofs.YtmfnaaeglfhnmaaW.PrintWords Go.Proofs.YtmfnaaeglfhnmaaW.PrintLast Go.Proofs.YtmfnaaeglfhnmaaW.PrintMore
open Go.Proofs.Ytmfnaaeglfhnmaa.Short
attribute [local go_sem] max2_int min2_int max_two min_two max_three min_three max_four min_four   -- for this text's walks alone
set_option linter.unusedVariables false
set_option linter.unusedSimpArgs false

/-! ### impl_Json_same: function 121, by hand -/
theorem impl_Json_same.worldR (R : World → Prop) {W : World} (h : R W) {G : World → Prop} (k : ∀ W', R W' → G W') : G W := k W h
/-- The d answers from i on are all true. -/
def impl_Json_same.allB (b : Nat → Bool) : Nat → Nat → Bool
  | 0, _ => true
  | d + 1, i => if b i = true then impl_Json_same.allB b d (i + 1) else false
abbrev impl_Json_same.Ans (g : Nat) (W : World) (x y : S88) (r : Bool) : Prop := ∀ (A3 : Option Addr) (c3 : Nat) (A4 : Option Addr) (c4 : Nat) (B3 : Option Addr) (d3 : Nat) (B4 : Option Addr) (d4 : Nat), Kd.C Kd.string W A3 x.f3.length x.f3 → x.f3.length ≤ c3 → Kd.C k88 W A4 x.f4.length x.f4 → x.f4.length ≤ c4 → Kd.C Kd.string W B3 y.f3.length y.f3 → y.f3.length ≤ d3 → Kd.C k88 W B4 y.f4.length y.f4 → y.f4.length ≤ d4 →
  Calls Try.prog g #[.agg #[(.int .i64 x.f0), (.int .i64 x.f1), (.string x.f2), (.slice A3 x.f3.length c3), (.slice A4 x.f4.length c4)], .agg #[(.int .i64 y.f0), (.int .i64 y.f1), (.string y.f2), (.slice B3 y.f3.length d3), (.slice B4 y.f4.length d4)]] W fun e w' => e = .returned (.bool r) ∧ Below W.heap.size W w'
set_option maxHeartbeats 8000000 in
set_option maxRecDepth 100000 in
theorem impl_Json_same.eqF (g : Nat) (eg : ∀ args w, (callFunc g args).run Try.prog w = .ok (.enter g args) w) (b : Nat → Bool) (A : Option Addr) (c : Nat) (l : List S88) (B : Option Addr) (c' : Nat) (m : List S88) (w : World) (hr : Kd.C k88 w A l.length l) (hs : Kd.C k88 w B m.length m)
    (hp : ∀ (W : World) (i : Nat), i < l.length → Below w.heap.size w W → impl_Json_same.Ans g W (rd_T88 l (i : Int)) (rd_T88 m (i : Int)) (b i)) :
    Calls Try.prog 142 #[.slice A l.length c, .slice B m.length c', .func (.func g) #[] #[]] w fun e w' => e = .returned (.bool (if l.length = m.length then impl_Json_same.allB b l.length 0 else false)) ∧ Below w.heap.size w w' := by
  have HR := Aside0.mk hr
  have HS := Aside0.mk hs
  have HP := Aside0.mk hp
  have hlen := hr.2.1
  clear hr hs hp
  have hu88 := Try.underlying88
  by_cases hl : l.length = m.length
  rotate_left
  · have k1 : ((l.length : Int) != (m.length : Int)) = true := by simp; omega
    have k2 : ((l.length : Int) == (m.length : Int)) = false := by simp; omega
    rw [if_neg hl]
    clear hl
    go_enter Try.func142, Try.ntmps142
    go_wp2
    go_ret
    exact ⟨rfl, Below.refl _ _⟩
  have k1 : ((l.length : Int) != (m.length : Int)) = false := by simp; omega
  have k2 : ((l.length : Int) == (m.length : Int)) = true := by simp; omega
  rw [if_pos hl]
  have HL := Aside0.mk hl
  clear hl
  go_enter Try.func142, Try.ntmps142
  go_wp2
  go_loopw [17] (fun i W => ∃ n d : Nat, n + d = l.length ∧ i = .int .i64 (n : Int) ∧ Aside0 (impl_Json_same.allB b d n = impl_Json_same.allB b l.length 0) ∧ Below w.heap.size w W) (fun i _ => l.length - (intOf i).toNat)
  case atStart => exact ⟨0, l.length, by omega, rfl, ⟨rfl⟩, Below.refl _ _⟩
  case round =>
    obtain ⟨n, d, hd, rfl, HK, hb⟩ := hrel
    have HB := Aside0.mk hb
    clear hb
    cases d with
    | zero =>
      have hdec : decide ((n : Int) < (l.length : Int)) = false := decide_eq_false (by omega)
      go_wp2
      go_ret
      exact ⟨by rw [← HK.out]; rfl, HB.out⟩
    | succ d =>
      have hlm := HL.out
      have p : 0 ≤ (n : Int) := by omega
      have q : (n : Int) < (l.length : Int) := by omega
      have q2 : (n : Int) < (m.length : Int) := by omega
      have hdec : decide ((n : Int) < (l.length : Int)) = true := decide_eq_true q
      have hdec2 : decide ((n : Int) < (m.length : Int)) = true := decide_eq_true q2
      clear hlm
      obtain ⟨ad, A3, c3, A4, c4, ea, hx0, hx1, hx2, hx3, hx4, l3, g3, l4, g4⟩ := at_T88 (Kd.C_below HR.out HB.out) (n : Int) p q
      cases ea
      simp only [Int.toNat_natCast] at hx0 hx1 hx2 hx3 hx4
      have G3 := Aside0.mk g3
      have G4 := Aside0.mk g4
      clear g3 g4
      go_upto_region 6 with (first | ((with_reducible refine gate_dst (N := 8) rfl ?_); refine box_event ?hg (N := 8) ?hd (cs := #[(.int .i64 0), (.int .i64 0), (.string (⟨#[]⟩ : ByteArray)), (.slice none 0 0), (.slice none 0 0)]) (t := 88) ?hr ?_; (case hd => rfl); (case hg => rfl); (case hr => first | (go_simp; done) | (go_simp; rfl)); intro g8 hg w8 hx hb; have hb0 := hb; have hg0 : wr.heap.size ≤ g8 := (by rw [hg]; exact Nat.le_refl _); have GE8 := Aside0.mk (by rw [hg]; exact below_size HB.out : w.heap.size ≤ g8); have B8 := Aside0.mk hx; have n0 := Aside0.mk (below_step HB.out hb); clear HB; have HB := n0; clear n0 hx hb hg; have z0 : w8.cell? ⟨g8, 0, none⟩ = some (.int .i64 0) := (blk_cell B8.out 0).trans rfl; have zf0 := blk_frozen B8.out 0; have z1 : w8.cell? ⟨g8, 1, none⟩ = some (.int .i64 0) := (blk_cell B8.out 1).trans rfl; have zf1 := blk_frozen B8.out 1; have z2 : w8.cell? ⟨g8, 2, none⟩ = some (.string (⟨#[]⟩ : ByteArray)) := (blk_cell B8.out 2).trans rfl; have zf2 := blk_frozen B8.out 2; have z3 : w8.cell? ⟨g8, 3, none⟩ = some (.slice none 0 0) := (blk_cell B8.out 3).trans rfl; have zf3 := blk_frozen B8.out 3; have z4 : w8.cell? ⟨g8, 4, none⟩ = some (.slice none 0 0) := (blk_cell B8.out 4).trans rfl; have zf4 := blk_frozen B8.out 4; have B0 := Aside0.mk (below_step (Below.refl wr.heap.size wr) hb0); clear hb0; have GW8 := Aside0.mk (hg0 : wr.heap.size ≤ g8); clear hg0))
      refine impl_Json_same.worldR (fun W => W.heap[g8]? = some (.cells #[(.int .i64 (rd_T88 l (n : Int)).f0), (.int .i64 (rd_T88 l (n : Int)).f1), (.string (rd_T88 l (n : Int)).f2), (.slice A3 (rd_T88 l (n : Int)).f3.length c3), (.slice A4 (rd_T88 l (n : Int)).f4.length c4)] 88 (0, 0)) ∧ Below w.heap.size w W ∧ Kd.C Kd.string W A3 (rd_T88 l (n : Int)).f3.length (rd_T88 l (n : Int)).f3 ∧ Kd.C k88 W A4 (rd_T88 l (n : Int)).f4.length (rd_T88 l (n : Int)).f4) ?_ ?_
      · exact ⟨by (with_reducible repeat (first | refine blk_drewN ?_ _ | refine blk_drew ?_ | refine blk_alloc ?_ _)); refine blk_put (cs := #[(.int .i64 (rd_T88 l (n : Int)).f0), (.int .i64 (rd_T88 l (n : Int)).f1), (.string (rd_T88 l (n : Int)).f2), (.slice A3 (rd_T88 l (n : Int)).f3.length c3), (.slice none 0 0)]) ?_ 4 _ rfl; (with_reducible repeat (first | refine blk_drewN ?_ _ | refine blk_drew ?_ | refine blk_alloc ?_ _)); refine blk_put (cs := #[(.int .i64 (rd_T88 l (n : Int)).f0), (.int .i64 (rd_T88 l (n : Int)).f1), (.string (rd_T88 l (n : Int)).f2), (.slice none 0 0), (.slice none 0 0)]) ?_ 3 _ rfl; (with_reducible repeat (first | refine blk_drewN ?_ _ | refine blk_drew ?_ | refine blk_alloc ?_ _)); refine blk_put (cs := #[(.int .i64 (rd_T88 l (n : Int)).f0), (.int .i64 (rd_T88 l (n : Int)).f1), (.string (⟨#[]⟩ : ByteArray)), (.slice none 0 0), (.slice none 0 0)]) ?_ 2 _ rfl; (with_reducible repeat (first | refine blk_drewN ?_ _ | refine blk_drew ?_ | refine blk_alloc ?_ _)); refine blk_put (cs := #[(.int .i64 (rd_T88 l (n : Int)).f0), (.int .i64 0), (.string (⟨#[]⟩ : ByteArray)), (.slice none 0 0), (.slice none 0 0)]) ?_ 1 _ rfl; (with_reducible repeat (first | refine blk_drewN ?_ _ | refine blk_drew ?_ | refine blk_alloc ?_ _)); refine blk_put (cs := #[(.int .i64 0), (.int .i64 0), (.string (⟨#[]⟩ : ByteArray)), (.slice none 0 0), (.slice none 0 0)]) ?_ 0 _ rfl; exact B8.out, (by repeat (first | (with_reducible first | exact HB.out | apply below_alloc | apply pw_below_drewN | apply below_drew1 | refine below_set ?_ GE8.out | refine below_set ?_ GE9.out) | exact HB.out)), Kd.C_below G3.out (by repeat (first | (with_reducible first | exact B0.out | refine below_set ?_ GW8.out) | exact B0.out)), Kd.C_below G4.out (by repeat (first | (with_reducible first | exact B0.out | refine below_set ?_ GW8.out) | exact B0.out))⟩
      clear z0 zf0 z1 zf1 z2 zf2 z3 zf3 z4 zf4 hx0 hx1 hx2 hx3 hx4 B8 HB G3 G4 B0
      intro w9 h9
      have B8 := Aside0.mk h9.1
      have HB := Aside0.mk h9.2.1
      have G3 := Aside0.mk h9.2.2.1
      have G4 := Aside0.mk h9.2.2.2
      clear h9
      obtain ⟨bd, B3, d3, B4, d4, eb, hy0, hy1, hy2, hy3, hy4, m3, s3, m4, s4⟩ := at_T88 (Kd.C_below HS.out HB.out) (n : Int) p q2
      cases eb
      simp only [Int.toNat_natCast] at hy0 hy1 hy2 hy3 hy4
      have S3 := Aside0.mk s3
      have S4 := Aside0.mk s4
      clear s3 s4
      have B0 := Aside0.mk (Below.refl w9.heap.size w9)
      go_upto_region 7 with (first | ((with_reducible refine gate_dst (N := 9) rfl ?_); refine box_event ?hg (N := 9) ?hd (cs := #[(.int .i64 0), (.int .i64 0), (.string (⟨#[]⟩ : ByteArray)), (.slice none 0 0), (.slice none 0 0)]) (t := 88) ?hr ?_; (case hd => rfl); (case hg => rfl); (case hr => first | (go_simp; done) | (go_simp; rfl)); intro g9 hg w10 hx hb; have hb0 := hb; have hg0 : w9.heap.size ≤ g9 := (by rw [hg]; exact Nat.le_refl _); have GE9 := Aside0.mk (by rw [hg]; exact below_size HB.out : w.heap.size ≤ g9); have N89 := Aside0.mk (by rw [hg]; exact Nat.ne_of_lt (blk_lt B8.out) : g8 ≠ g9); have n1 := Aside0.mk (blk_below B8.out hb); clear B8; have B8 := n1; have B9 := Aside0.mk hx; have n0 := Aside0.mk (below_step HB.out hb); clear HB; have HB := n0; clear n0 n1 hx hb hg; have z0 : w10.cell? ⟨g9, 0, none⟩ = some (.int .i64 0) := (blk_cell B9.out 0).trans rfl; have zf0 := blk_frozen B9.out 0; have z1 : w10.cell? ⟨g9, 1, none⟩ = some (.int .i64 0) := (blk_cell B9.out 1).trans rfl; have zf1 := blk_frozen B9.out 1; have z2 : w10.cell? ⟨g9, 2, none⟩ = some (.string (⟨#[]⟩ : ByteArray)) := (blk_cell B9.out 2).trans rfl; have zf2 := blk_frozen B9.out 2; have z3 : w10.cell? ⟨g9, 3, none⟩ = some (.slice none 0 0) := (blk_cell B9.out 3).trans rfl; have zf3 := blk_frozen B9.out 3; have z4 : w10.cell? ⟨g9, 4, none⟩ = some (.slice none 0 0) := (blk_cell B9.out 4).trans rfl; have zf4 := blk_frozen B9.out 4; have n5 := Aside0.mk (below_step B0.out hb0); clear hb0 B0; have B0 := n5; clear n5; have GW9 := Aside0.mk hg0; clear hg0))
      refine impl_Json_same.worldR (fun W => (W.heap[g8]? = some (.cells #[(.int .i64 (rd_T88 l (n : Int)).f0), (.int .i64 (rd_T88 l (n : Int)).f1), (.string (rd_T88 l (n : Int)).f2), (.slice A3 (rd_T88 l (n : Int)).f3.length c3), (.slice A4 (rd_T88 l (n : Int)).f4.length c4)] 88 (0, 0)) ∧ W.heap[g9]? = some (.cells #[(.int .i64 (rd_T88 m (n : Int)).f0), (.int .i64 (rd_T88 m (n : Int)).f1), (.string (rd_T88 m (n : Int)).f2), (.slice B3 (rd_T88 m (n : Int)).f3.length d3), (.slice B4 (rd_T88 m (n : Int)).f4.length d4)] 88 (0, 0))) ∧ Below w.heap.size w W ∧ Below w9.heap.size w9 W) ?_ ?_
      · exact ⟨⟨by (with_reducible repeat (first | refine blk_drewN ?_ _ | refine blk_drew ?_ | refine blk_alloc ?_ _)); refine blk_far ?_ N89.out _; (with_reducible repeat (first | refine blk_drewN ?_ _ | refine blk_drew ?_ | refine blk_alloc ?_ _)); refine blk_far ?_ N89.out _; (with_reducible repeat (first | refine blk_drewN ?_ _ | refine blk_drew ?_ | refine blk_alloc ?_ _)); refine blk_far ?_ N89.out _; (with_reducible repeat (first | refine blk_drewN ?_ _ | refine blk_drew ?_ | refine blk_alloc ?_ _)); refine blk_far ?_ N89.out _; (with_reducible repeat (first | refine blk_drewN ?_ _ | refine blk_drew ?_ | refine blk_alloc ?_ _)); refine blk_far ?_ N89.out _; (with_reducible repeat (first | refine blk_drewN ?_ _ | refine blk_drew ?_ | refine blk_alloc ?_ _)); exact B8.out, by (with_reducible repeat (first | refine blk_drewN ?_ _ | refine blk_drew ?_ | refine blk_alloc ?_ _)); refine blk_put (cs := #[(.int .i64 (rd_T88 m (n : Int)).f0), (.int .i64 (rd_T88 m (n : Int)).f1), (.string (rd_T88 m (n : Int)).f2), (.slice B3 (rd_T88 m (n : Int)).f3.length d3), (.slice none 0 0)]) ?_ 4 _ rfl; (with_reducible repeat (first | refine blk_drewN ?_ _ | refine blk_drew ?_ | refine blk_alloc ?_ _)); refine blk_put (cs := #[(.int .i64 (rd_T88 m (n : Int)).f0), (.int .i64 (rd_T88 m (n : Int)).f1), (.string (rd_T88 m (n : Int)).f2), (.slice none 0 0), (.slice none 0 0)]) ?_ 3 _ rfl; (with_reducible repeat (first | refine blk_drewN ?_ _ | refine blk_drew ?_ | refine blk_alloc ?_ _)); refine blk_put (cs := #[(.int .i64 (rd_T88 m (n : Int)).f0), (.int .i64 (rd_T88 m (n : Int)).f1), (.string (⟨#[]⟩ : ByteArray)), (.slice none 0 0), (.slice none 0 0)]) ?_ 2 _ rfl; (with_reducible repeat (first | refine blk_drewN ?_ _ | refine blk_drew ?_ | refine blk_alloc ?_ _)); refine blk_put (cs := #[(.int .i64 (rd_T88 m (n : Int)).f0), (.int .i64 0), (.string (⟨#[]⟩ : ByteArray)), (.slice none 0 0), (.slice none 0 0)]) ?_ 1 _ rfl; (with_reducible repeat (first | refine blk_drewN ?_ _ | refine blk_drew ?_ | refine blk_alloc ?_ _)); refine blk_put (cs := #[(.int .i64 0), (.int .i64 0), (.string (⟨#[]⟩ : ByteArray)), (.slice none 0 0), (.slice none 0 0)]) ?_ 0 _ rfl; exact B9.out⟩, (by repeat (first | (with_reducible first | exact HB.out | apply below_alloc | apply pw_below_drewN | apply below_drew1 | refine below_set ?_ GE8.out | refine below_set ?_ GE9.out) | exact HB.out)), (by repeat (first | (with_reducible first | exact B0.out | refine below_set ?_ GW9.out) | exact B0.out))⟩
      clear z0 zf0 z1 zf1 z2 zf2 z3 zf3 z4 zf4 hy0 hy1 hy2 hy3 hy4 B8 B9 HB B0
      intro w11 h11
      have B8 := Aside0.mk h11.1.1
      have B9 := Aside0.mk h11.1.2
      have HB := Aside0.mk h11.2.1
      have hcall := HP.out w11 n (by omega) HB.out A3 c3 A4 c4 B3 d3 B4 d4 (Kd.C_below G3.out h11.2.2) l3 (Kd.C_below G4.out h11.2.2) l4 (Kd.C_below S3.out h11.2.2) m3 (Kd.C_below S4.out h11.2.2) m4
      clear h11 G3 G4 S3 S4
      have q0 : w11.cell? ⟨g8, 0, none⟩ = some (.int .i64 (rd_T88 l (n : Int)).f0) := (blk_cell B8.out 0).trans rfl
      have qf0 := blk_frozen B8.out 0
      have q1 : w11.cell? ⟨g8, 1, none⟩ = some (.int .i64 (rd_T88 l (n : Int)).f1) := (blk_cell B8.out 1).trans rfl
      have qf1 := blk_frozen B8.out 1
      have q2 : w11.cell? ⟨g8, 2, none⟩ = some (.string (rd_T88 l (n : Int)).f2) := (blk_cell B8.out 2).trans rfl
      have qf2 := blk_frozen B8.out 2
      have q3 : w11.cell? ⟨g8, 3, none⟩ = some (.slice A3 (rd_T88 l (n : Int)).f3.length c3) := (blk_cell B8.out 3).trans rfl
      have qf3 := blk_frozen B8.out 3
      have q4 : w11.cell? ⟨g8, 4, none⟩ = some (.slice A4 (rd_T88 l (n : Int)).f4.length c4) := (blk_cell B8.out 4).trans rfl
      have qf4 := blk_frozen B8.out 4
      have r0 : w11.cell? ⟨g9, 0, none⟩ = some (.int .i64 (rd_T88 m (n : Int)).f0) := (blk_cell B9.out 0).trans rfl
      have rf0 := blk_frozen B9.out 0
      have r1 : w11.cell? ⟨g9, 1, none⟩ = some (.int .i64 (rd_T88 m (n : Int)).f1) := (blk_cell B9.out 1).trans rfl
      have rf1 := blk_frozen B9.out 1
      have r2 : w11.cell? ⟨g9, 2, none⟩ = some (.string (rd_T88 m (n : Int)).f2) := (blk_cell B9.out 2).trans rfl
      have rf2 := blk_frozen B9.out 2
      have r3 : w11.cell? ⟨g9, 3, none⟩ = some (.slice B3 (rd_T88 m (n : Int)).f3.length d3) := (blk_cell B9.out 3).trans rfl
      have rf3 := blk_frozen B9.out 3
      have r4 : w11.cell? ⟨g9, 4, none⟩ = some (.slice B4 (rd_T88 m (n : Int)).f4.length d4) := (blk_cell B9.out 4).trans rfl
      have rf4 := blk_frozen B9.out 4
      have hk := HK.out
      rw [impl_Json_same.allB] at hk
      cases hbn : b n with
      | true =>
        rw [hbn] at hcall hk
        rw [if_pos rfl] at hk
        have HK' := Aside0.mk hk
        clear hk HK hbn
        go_wp2
        refine hcall.mono ?_
        rintro e w' ⟨rfl, hb'⟩
        go_wp2
        go_roundw
        case rel => exact ⟨n + 1, d, by omega, by go_num, HK', below_step HB.out hb'⟩
        case measure => simp [intOf]; omega
      | false =>
        rw [hbn] at hcall hk
        rw [if_neg Bool.false_ne_true] at hk
        have HK' := Aside0.mk hk
        clear hk HK hbn
        go_wp2
        refine hcall.mono ?_
        rintro e w' ⟨rfl, hb'⟩
        go_wp2
        go_ret
        exact ⟨by rw [← HK'.out]; rfl, below_step HB.out hb'⟩
/-- Two lists of texts are the same. -/
def impl_Json_same.eN : List ByteArray → List ByteArray → Bool
  | [], [] => true
  | x :: xs, y :: ys => (x.toList == y.toList) && impl_Json_same.eN xs ys
  | [], _ :: _ => false
  | _ :: _, [] => false
mutual
/-- Two values are the same. -/
def impl_Json_same.sJ : S88 → S88 → Bool
  | ⟨a0, a1, a2, a3, a4⟩, ⟨b0, b1, b2, b3, b4⟩ => (a0 == b0) && (a1 == b1) && (a2.toList == b2.toList) && impl_Json_same.eN a3 b3 && impl_Json_same.sL a4 b4
def impl_Json_same.sL : List S88 → List S88 → Bool
  | [], [] => true
  | x :: xs, y :: ys => impl_Json_same.sJ x y && impl_Json_same.sL xs ys
  | [], _ :: _ => false
  | _ :: _, [] => false
end
theorem impl_Json_same.sJ_eq (x y : S88) : impl_Json_same.sJ x y = ((x.f0 == y.f0) && (x.f1 == y.f1) && (x.f2.toList == y.f2.toList) && impl_Json_same.eN x.f3 y.f3 && impl_Json_same.sL x.f4 y.f4) := by
  cases x; cases y; rw [impl_Json_same.sJ]
theorem impl_Json_same.sL_ne : ∀ l m : List S88, l.length ≠ m.length → impl_Json_same.sL l m = false
  | [], [], h => absurd rfl h
  | [], _ :: _, _ => by rw [impl_Json_same.sL]
  | _ :: _, [], _ => by rw [impl_Json_same.sL]
  | x :: xs, y :: ys, h => by rw [impl_Json_same.sL, impl_Json_same.sL_ne xs ys (fun e => h (by simp [e]))]; simp
theorem impl_Json_same.all_sL (l m : List S88) (hl : l.length = m.length) : ∀ (d n : Nat), n + d = l.length → impl_Json_same.allB (fun i => impl_Json_same.sJ (rd_T88 l (i : Int)) (rd_T88 m (i : Int))) d n = impl_Json_same.sL (l.drop n) (m.drop n) := by
  intro d
  induction d with
  | zero => intro n h; rw [List.drop_eq_nil_of_le (by omega), List.drop_eq_nil_of_le (by omega), impl_Json_same.allB, impl_Json_same.sL]
  | succ d ih =>
    intro n h
    have hn : n < l.length := by omega
    have hm : n < m.length := by omega
    have e : rd_T88 l (n : Int) = l[n] := by simp [rd_T88, List.getD, hn]
    have e' : rd_T88 m (n : Int) = m[n] := by simp [rd_T88, List.getD, hm]
    rw [List.drop_eq_getElem_cons hn, List.drop_eq_getElem_cons hm, impl_Json_same.sL, ← ih (n + 1) (by omega), impl_Json_same.allB, e, e']
    cases impl_Json_same.sJ l[n] m[n] <;> simp
theorem impl_Json_same.all_is (l m : List S88) : (if l.length = m.length then impl_Json_same.allB (fun i => impl_Json_same.sJ (rd_T88 l (i : Int)) (rd_T88 m (i : Int))) l.length 0 else false) = impl_Json_same.sL l m := by
  by_cases h : l.length = m.length
  · rw [if_pos h, impl_Json_same.all_sL l m h l.length 0 (by omega)]; rfl
  · rw [if_neg h, impl_Json_same.sL_ne l m h]
theorem impl_Json_same.eN_ne : ∀ l m : List ByteArray, l.length ≠ m.length → impl_Json_same.eN l m = false
  | [], [], h => absurd rfl h
  | [], _ :: _, _ => by rw [impl_Json_same.eN]
  | _ :: _, [], _ => by rw [impl_Json_same.eN]
  | x :: xs, y :: ys, h => by rw [impl_Json_same.eN, impl_Json_same.eN_ne xs ys (fun e => h (by simp [e]))]; simp
theorem impl_Json_same.str_l0 (l m : List ByteArray) (hl : l.length = m.length) (hb : l.length ≤ 9223372036854775807) : ∀ (d n : Nat), n + d = l.length → slices_Equal_string_string.l0 (d + 1) l m (l.length : Int) (n : Int) = some (impl_Json_same.eN (l.drop n) (m.drop n)) := by
  intro d
  induction d with
  | zero => intro n h; rw [slices_Equal_string_string.l0, if_neg (by omega), List.drop_eq_nil_of_le (by omega), List.drop_eq_nil_of_le (by omega), impl_Json_same.eN]
  | succ d ih =>
    intro n h
    have hn : n < l.length := by omega
    have hm : n < m.length := by omega
    have e : rdOf ByteArray.empty l (n : Int) = l[n] := by simp [rdOf, List.getD, hn]
    have e' : rdOf ByteArray.empty m (n : Int) = m[n] := by simp [rdOf, List.getD, hm]
    rw [slices_Equal_string_string.l0, if_pos (by omega), if_pos (by omega), if_pos (by omega), if_pos (by omega), List.drop_eq_getElem_cons hn, List.drop_eq_getElem_cons hm, impl_Json_same.eN, e, e', show wrap64 ((n : Int) + 1) = ((n + 1 : Nat) : Int) from by unfold wrap64; omega]
    by_cases hq : l[n].toList = m[n].toList
    · rw [if_pos hq, ih (n + 1) (by omega), beq_iff_eq.mpr hq, Bool.true_and]
    · rw [if_neg hq, beq_eq_false_iff_ne.mpr hq, Bool.false_and]
theorem impl_Json_same.str (l m : List ByteArray) (hb : l.length ≤ 9223372036854775807) : slices_Equal_string_string.f (l.length + 1) l m = some (impl_Json_same.eN l m) := by
  rw [slices_Equal_string_string.f]
  by_cases h : l.length = m.length
  · rw [if_pos (by omega)]; exact impl_Json_same.str_l0 l m h hb l.length 0 (by omega)
  · rw [if_neg (by omega), impl_Json_same.eN_ne l m h]
abbrev impl_Json_same.P (x : S88) : Prop := ∀ (y : S88) (w : World), impl_Json_same.Ans 121 w x y (impl_Json_same.sJ x y)
set_option maxHeartbeats 8000000 in
set_option maxRecDepth 100000 in
theorem impl_Json_same.own1 (x : S88) (hp : ∀ i : Nat, i < x.f4.length → impl_Json_same.P (rd_T88 x.f4 (i : Int))) : impl_Json_same.P x := by
  intro y w A3 c3 A4 c4 B3 d3 B4 d4 h3 l3 h4 l4 k3 m3 k4 m4
  have HV := impl_Json_same.sJ_eq x y
  have n3 := h3.2.1
  have HS := Aside0.mk (fun (W : World) (hw : Below w.heap.size w W) => slices_Equal_string_string.calls (x.f3.length + 1) A3 c3 x.f3 B3 d3 y.f3 _ W (Kd.C_below h3 hw) l3 (Kd.C_below k3 hw) m3 (impl_Json_same.str x.f3 y.f3 n3))
  have eg : ∀ args w, (callFunc 121 args).run Try.prog w = .ok (.enter 121 args) w := enters_of Try.func121 (by kernel_rfl) rfl
  have HT := Aside0.mk (fun (W : World) (hw : Below w.heap.size w W) => impl_Json_same.eqF 121 eg (fun i => impl_Json_same.sJ (rd_T88 x.f4 (i : Int)) (rd_T88 y.f4 (i : Int))) A4 c4 x.f4 B4 d4 y.f4 W (Kd.C_below h4 hw) (Kd.C_below k4 hw) (fun W' i hi _ => hp i hi (rd_T88 y.f4 (i : Int)) W'))
  rw [impl_Json_same.all_is] at HT
  have HB := Aside0.mk (Below.refl w.heap.size w)
  clear h3 h4 hp k3 k4 eg n3
  have hu88 := Try.underlying88
  revert HV HS HT
  generalize impl_Json_same.sJ x y = r
  generalize impl_Json_same.eN x.f3 y.f3 = b3
  generalize impl_Json_same.sL x.f4 y.f4 = b4
  intro HV HS HT
  cases e0 : (x.f0 == y.f0) with
  | false =>
      rw [e0, Bool.false_and, Bool.false_and, Bool.false_and, Bool.false_and] at HV
      subst HV
      go_enter Try.func121, Try.ntmps121
      go_wp2_with (first | ((with_reducible refine gate_dst (N := 2) rfl ?_); refine box_event ?hg (N := 2) ?hd (cs := #[(.int .i64 x.f0), (.int .i64 x.f1), (.string x.f2), (.slice A3 x.f3.length c3), (.slice A4 x.f4.length c4)]) (t := 88) ?hr ?_; (case hd => rfl); (case hg => rfl); (case hr => first | (go_simp; done) | (go_simp; rfl)); intro g2 hg w2 hx hb; have B2 := Aside0.mk hx; have n0 := Aside0.mk (below_step HB.out hb); clear HB; have HB := n0; clear n0 hx hb hg) | ((with_reducible refine gate_dst (N := 3) rfl ?_); refine box_event ?hg (N := 3) ?hd (cs := #[(.int .i64 y.f0), (.int .i64 y.f1), (.string y.f2), (.slice B3 y.f3.length d3), (.slice B4 y.f4.length d4)]) (t := 88) ?hr ?_; (case hd => rfl); (case hg => rfl); (case hr => first | (go_simp; done) | (go_simp; rfl)); intro g3 hg w3 hx hb; have n1 := blk_below B2.out hb; have q0 : w3.cell? ⟨g2, 0, none⟩ = some (.int .i64 x.f0) := (blk_cell n1 0).trans rfl; have q1 : w3.cell? ⟨g2, 1, none⟩ = some (.int .i64 x.f1) := (blk_cell n1 1).trans rfl; have q2 : w3.cell? ⟨g2, 2, none⟩ = some (.string x.f2) := (blk_cell n1 2).trans rfl; have q3 : w3.cell? ⟨g2, 3, none⟩ = some (.slice A3 x.f3.length c3) := (blk_cell n1 3).trans rfl; have q4 : w3.cell? ⟨g2, 4, none⟩ = some (.slice A4 x.f4.length c4) := (blk_cell n1 4).trans rfl; have r0 : w3.cell? ⟨g3, 0, none⟩ = some (.int .i64 y.f0) := (blk_cell hx 0).trans rfl; have r1 : w3.cell? ⟨g3, 1, none⟩ = some (.int .i64 y.f1) := (blk_cell hx 1).trans rfl; have r2 : w3.cell? ⟨g3, 2, none⟩ = some (.string y.f2) := (blk_cell hx 2).trans rfl; have r3 : w3.cell? ⟨g3, 3, none⟩ = some (.slice B3 y.f3.length d3) := (blk_cell hx 3).trans rfl; have r4 : w3.cell? ⟨g3, 4, none⟩ = some (.slice B4 y.f4.length d4) := (blk_cell hx 4).trans rfl; have n0 := Aside0.mk (below_step HB.out hb); clear B2 HB; have HB := n0; clear n0 n1 hx hb hg) | (go_at_call 81; refine (HS.out _ HB.out).mono ?_; rintro e w' ⟨rfl, ⟨m, rfl⟩⟩; have n0 := Aside0.mk (show Below w.heap.size w (World.drewN _ m) from by apply pw_below_drewN; exact HB.out); clear HB; have HB := n0; clear n0) | (go_at_call 142; refine (HT.out _ HB.out).mono ?_; rintro e w' ⟨rfl, hb'⟩; have n0 := Aside0.mk (below_step HB.out hb'); clear hb' HB; have HB := n0; clear n0))
      go_ret
      exact ⟨rfl, HB.out⟩
  | true =>
    rw [e0, Bool.true_and] at HV
    cases e1 : (x.f1 == y.f1) with
    | false =>
      rw [e1, Bool.false_and, Bool.false_and, Bool.false_and] at HV
      subst HV
      go_enter Try.func121, Try.ntmps121
      go_wp2_with (first | ((with_reducible refine gate_dst (N := 2) rfl ?_); refine box_event ?hg (N := 2) ?hd (cs := #[(.int .i64 x.f0), (.int .i64 x.f1), (.string x.f2), (.slice A3 x.f3.length c3), (.slice A4 x.f4.length c4)]) (t := 88) ?hr ?_; (case hd => rfl); (case hg => rfl); (case hr => first | (go_simp; done) | (go_simp; rfl)); intro g2 hg w2 hx hb; have B2 := Aside0.mk hx; have n0 := Aside0.mk (below_step HB.out hb); clear HB; have HB := n0; clear n0 hx hb hg) | ((with_reducible refine gate_dst (N := 3) rfl ?_); refine box_event ?hg (N := 3) ?hd (cs := #[(.int .i64 y.f0), (.int .i64 y.f1), (.string y.f2), (.slice B3 y.f3.length d3), (.slice B4 y.f4.length d4)]) (t := 88) ?hr ?_; (case hd => rfl); (case hg => rfl); (case hr => first | (go_simp; done) | (go_simp; rfl)); intro g3 hg w3 hx hb; have n1 := blk_below B2.out hb; have q0 : w3.cell? ⟨g2, 0, none⟩ = some (.int .i64 x.f0) := (blk_cell n1 0).trans rfl; have q1 : w3.cell? ⟨g2, 1, none⟩ = some (.int .i64 x.f1) := (blk_cell n1 1).trans rfl; have q2 : w3.cell? ⟨g2, 2, none⟩ = some (.string x.f2) := (blk_cell n1 2).trans rfl; have q3 : w3.cell? ⟨g2, 3, none⟩ = some (.slice A3 x.f3.length c3) := (blk_cell n1 3).trans rfl; have q4 : w3.cell? ⟨g2, 4, none⟩ = some (.slice A4 x.f4.length c4) := (blk_cell n1 4).trans rfl; have r0 : w3.cell? ⟨g3, 0, none⟩ = some (.int .i64 y.f0) := (blk_cell hx 0).trans rfl; have r1 : w3.cell? ⟨g3, 1, none⟩ = some (.int .i64 y.f1) := (blk_cell hx 1).trans rfl; have r2 : w3.cell? ⟨g3, 2, none⟩ = some (.string y.f2) := (blk_cell hx 2).trans rfl; have r3 : w3.cell? ⟨g3, 3, none⟩ = some (.slice B3 y.f3.length d3) := (blk_cell hx 3).trans rfl; have r4 : w3.cell? ⟨g3, 4, none⟩ = some (.slice B4 y.f4.length d4) := (blk_cell hx 4).trans rfl; have n0 := Aside0.mk (below_step HB.out hb); clear B2 HB; have HB := n0; clear n0 n1 hx hb hg) | (go_at_call 81; refine (HS.out _ HB.out).mono ?_; rintro e w' ⟨rfl, ⟨m, rfl⟩⟩; have n0 := Aside0.mk (show Below w.heap.size w (World.drewN _ m) from by apply pw_below_drewN; exact HB.out); clear HB; have HB := n0; clear n0) | (go_at_call 142; refine (HT.out _ HB.out).mono ?_; rintro e w' ⟨rfl, hb'⟩; have n0 := Aside0.mk (below_step HB.out hb'); clear hb' HB; have HB := n0; clear n0))
      go_ret
      exact ⟨rfl, HB.out⟩
    | true =>
      rw [e1, Bool.true_and] at HV
      cases e2 : (x.f2.toList == y.f2.toList) with
      | false =>
       rw [e2, Bool.false_and, Bool.false_and] at HV
       subst HV
       go_enter Try.func121, Try.ntmps121
       go_wp2_with (first | ((with_reducible refine gate_dst (N := 2) rfl ?_); refine box_event ?hg (N := 2) ?hd (cs := #[(.int .i64 x.f0), (.int .i64 x.f1), (.string x.f2), (.slice A3 x.f3.length c3), (.slice A4 x.f4.length c4)]) (t := 88) ?hr ?_; (case hd => rfl); (case hg => rfl); (case hr => first | (go_simp; done) | (go_simp; rfl)); intro g2 hg w2 hx hb; have B2 := Aside0.mk hx; have n0 := Aside0.mk (below_step HB.out hb); clear HB; have HB := n0; clear n0 hx hb hg) | ((with_reducible refine gate_dst (N := 3) rfl ?_); refine box_event ?hg (N := 3) ?hd (cs := #[(.int .i64 y.f0), (.int .i64 y.f1), (.string y.f2), (.slice B3 y.f3.length d3), (.slice B4 y.f4.length d4)]) (t := 88) ?hr ?_; (case hd => rfl); (case hg => rfl); (case hr => first | (go_simp; done) | (go_simp; rfl)); intro g3 hg w3 hx hb; have n1 := blk_below B2.out hb; have q0 : w3.cell? ⟨g2, 0, none⟩ = some (.int .i64 x.f0) := (blk_cell n1 0).trans rfl; have q1 : w3.cell? ⟨g2, 1, none⟩ = some (.int .i64 x.f1) := (blk_cell n1 1).trans rfl; have q2 : w3.cell? ⟨g2, 2, none⟩ = some (.string x.f2) := (blk_cell n1 2).trans rfl; have q3 : w3.cell? ⟨g2, 3, none⟩ = some (.slice A3 x.f3.length c3) := (blk_cell n1 3).trans rfl; have q4 : w3.cell? ⟨g2, 4, none⟩ = some (.slice A4 x.f4.length c4) := (blk_cell n1 4).trans rfl; have r0 : w3.cell? ⟨g3, 0, none⟩ = some (.int .i64 y.f0) := (blk_cell hx 0).trans rfl; have r1 : w3.cell? ⟨g3, 1, none⟩ = some (.int .i64 y.f1) := (blk_cell hx 1).trans rfl; have r2 : w3.cell? ⟨g3, 2, none⟩ = some (.string y.f2) := (blk_cell hx 2).trans rfl; have r3 : w3.cell? ⟨g3, 3, none⟩ = some (.slice B3 y.f3.length d3) := (blk_cell hx 3).trans rfl; have r4 : w3.cell? ⟨g3, 4, none⟩ = some (.slice B4 y.f4.length d4) := (blk_cell hx 4).trans rfl; have n0 := Aside0.mk (below_step HB.out hb); clear B2 HB; have HB := n0; clear n0 n1 hx hb hg) | (go_at_call 81; refine (HS.out _ HB.out).mono ?_; rintro e w' ⟨rfl, ⟨m, rfl⟩⟩; have n0 := Aside0.mk (show Below w.heap.size w (World.drewN _ m) from by apply pw_below_drewN; exact HB.out); clear HB; have HB := n0; clear n0) | (go_at_call 142; refine (HT.out _ HB.out).mono ?_; rintro e w' ⟨rfl, hb'⟩; have n0 := Aside0.mk (below_step HB.out hb'); clear hb' HB; have HB := n0; clear n0))
       go_ret
       exact ⟨rfl, HB.out⟩
      | true =>
       rw [e2, Bool.true_and] at HV
       cases b3 with
       | false =>
        rw [Bool.false_and] at HV
        subst HV
        go_enter Try.func121, Try.ntmps121
        go_wp2_with (first | ((with_reducible refine gate_dst (N := 2) rfl ?_); refine box_event ?hg (N := 2) ?hd (cs := #[(.int .i64 x.f0), (.int .i64 x.f1), (.string x.f2), (.slice A3 x.f3.length c3), (.slice A4 x.f4.length c4)]) (t := 88) ?hr ?_; (case hd => rfl); (case hg => rfl); (case hr => first | (go_simp; done) | (go_simp; rfl)); intro g2 hg w2 hx hb; have B2 := Aside0.mk hx; have n0 := Aside0.mk (below_step HB.out hb); clear HB; have HB := n0; clear n0 hx hb hg) | ((with_reducible refine gate_dst (N := 3) rfl ?_); refine box_event ?hg (N := 3) ?hd (cs := #[(.int .i64 y.f0), (.int .i64 y.f1), (.string y.f2), (.slice B3 y.f3.length d3), (.slice B4 y.f4.length d4)]) (t := 88) ?hr ?_; (case hd => rfl); (case hg => rfl); (case hr => first | (go_simp; done) | (go_simp; rfl)); intro g3 hg w3 hx hb; have n1 := blk_below B2.out hb; have q0 : w3.cell? ⟨g2, 0, none⟩ = some (.int .i64 x.f0) := (blk_cell n1 0).trans rfl; have q1 : w3.cell? ⟨g2, 1, none⟩ = some (.int .i64 x.f1) := (blk_cell n1 1).trans rfl; have q2 : w3.cell? ⟨g2, 2, none⟩ = some (.string x.f2) := (blk_cell n1 2).trans rfl; have q3 : w3.cell? ⟨g2, 3, none⟩ = some (.slice A3 x.f3.length c3) := (blk_cell n1 3).trans rfl; have q4 : w3.cell? ⟨g2, 4, none⟩ = some (.slice A4 x.f4.length c4) := (blk_cell n1 4).trans rfl; have r0 : w3.cell? ⟨g3, 0, none⟩ = some (.int .i64 y.f0) := (blk_cell hx 0).trans rfl; have r1 : w3.cell? ⟨g3, 1, none⟩ = some (.int .i64 y.f1) := (blk_cell hx 1).trans rfl; have r2 : w3.cell? ⟨g3, 2, none⟩ = some (.string y.f2) := (blk_cell hx 2).trans rfl; have r3 : w3.cell? ⟨g3, 3, none⟩ = some (.slice B3 y.f3.length d3) := (blk_cell hx 3).trans rfl; have r4 : w3.cell? ⟨g3, 4, none⟩ = some (.slice B4 y.f4.length d4) := (blk_cell hx 4).trans rfl; have n0 := Aside0.mk (below_step HB.out hb); clear B2 HB; have HB := n0; clear n0 n1 hx hb hg) | (go_at_call 81; refine (HS.out _ HB.out).mono ?_; rintro e w' ⟨rfl, ⟨m, rfl⟩⟩; have n0 := Aside0.mk (show Below w.heap.size w (World.drewN _ m) from by apply pw_below_drewN; exact HB.out); clear HB; have HB := n0; clear n0) | (go_at_call 142; refine (HT.out _ HB.out).mono ?_; rintro e w' ⟨rfl, hb'⟩; have n0 := Aside0.mk (below_step HB.out hb'); clear hb' HB; have HB := n0; clear n0))
        go_ret
        exact ⟨rfl, HB.out⟩
       | true =>
        rw [Bool.true_and] at HV
        subst HV
        go_enter Try.func121, Try.ntmps121
        go_wp2_with (first | ((with_reducible refine gate_dst (N := 2) rfl ?_); refine box_event ?hg (N := 2) ?hd (cs := #[(.int .i64 x.f0), (.int .i64 x.f1), (.string x.f2), (.slice A3 x.f3.length c3), (.slice A4 x.f4.length c4)]) (t := 88) ?hr ?_; (case hd => rfl); (case hg => rfl); (case hr => first | (go_simp; done) | (go_simp; rfl)); intro g2 hg w2 hx hb; have B2 := Aside0.mk hx; have n0 := Aside0.mk (below_step HB.out hb); clear HB; have HB := n0; clear n0 hx hb hg) | ((with_reducible refine gate_dst (N := 3) rfl ?_); refine box_event ?hg (N := 3) ?hd (cs := #[(.int .i64 y.f0), (.int .i64 y.f1), (.string y.f2), (.slice B3 y.f3.length d3), (.slice B4 y.f4.length d4)]) (t := 88) ?hr ?_; (case hd => rfl); (case hg => rfl); (case hr => first | (go_simp; done) | (go_simp; rfl)); intro g3 hg w3 hx hb; have n1 := blk_below B2.out hb; have q0 : w3.cell? ⟨g2, 0, none⟩ = some (.int .i64 x.f0) := (blk_cell n1 0).trans rfl; have q1 : w3.cell? ⟨g2, 1, none⟩ = some (.int .i64 x.f1) := (blk_cell n1 1).trans rfl; have q2 : w3.cell? ⟨g2, 2, none⟩ = some (.string x.f2) := (blk_cell n1 2).trans rfl; have q3 : w3.cell? ⟨g2, 3, none⟩ = some (.slice A3 x.f3.length c3) := (blk_cell n1 3).trans rfl; have q4 : w3.cell? ⟨g2, 4, none⟩ = some (.slice A4 x.f4.length c4) := (blk_cell n1 4).trans rfl; have r0 : w3.cell? ⟨g3, 0, none⟩ = some (.int .i64 y.f0) := (blk_cell hx 0).trans rfl; have r1 : w3.cell? ⟨g3, 1, none⟩ = some (.int .i64 y.f1) := (blk_cell hx 1).trans rfl; have r2 : w3.cell? ⟨g3, 2, none⟩ = some (.string y.f2) := (blk_cell hx 2).trans rfl; have r3 : w3.cell? ⟨g3, 3, none⟩ = some (.slice B3 y.f3.length d3) := (blk_cell hx 3).trans rfl; have r4 : w3.cell? ⟨g3, 4, none⟩ = some (.slice B4 y.f4.length d4) := (blk_cell hx 4).trans rfl; have n0 := Aside0.mk (below_step HB.out hb); clear B2 HB; have HB := n0; clear n0 n1 hx hb hg) | (go_at_call 81; refine (HS.out _ HB.out).mono ?_; rintro e w' ⟨rfl, ⟨m, rfl⟩⟩; have n0 := Aside0.mk (show Below w.heap.size w (World.drewN _ m) from by apply pw_below_drewN; exact HB.out); clear HB; have HB := n0; clear n0) | (go_at_call 142; refine (HT.out _ HB.out).mono ?_; rintro e w' ⟨rfl, hb'⟩; have n0 := Aside0.mk (below_step HB.out hb'); clear hb' HB; have HB := n0; clear n0))
        go_ret
        exact ⟨rfl, HB.out⟩
theorem impl_Json_same.all (x : S88) : impl_Json_same.P x := by
  have : ∀ n : Nat, ∀ x : S88, SizeOf.sizeOf x < n → impl_Json_same.P x := by
    intro n
    induction n with
    | zero => intro x h; omega
    | succ n ih =>
      intro x h
      refine impl_Json_same.own1 x fun i hi => ih _ ?_
      have hm : rd_T88 x.f4 (i : Int) ∈ x.f4 := by simp [rd_T88, List.getD, hi]
      have h1 := List.sizeOf_lt_of_mem hm
      have h2 : SizeOf.sizeOf x = 1 + SizeOf.sizeOf x.f0 + SizeOf.sizeOf x.f1 + SizeOf.sizeOf x.f2 + SizeOf.sizeOf x.f3 + SizeOf.sizeOf x.f4 := by cases x; simp
      omega
  exact this _ x (Nat.lt_succ_self _)
def impl_Json_same.f (a0_0 : Int) (a0_1 : Int) (a0_2 : ByteArray) (l0_3 : List ByteArray) (l0_4 : List (S88)) (a1_0 : Int) (a1_1 : Int) (a1_2 : ByteArray) (l1_3 : List ByteArray) (l1_4 : List (S88)) : Option Bool := some (impl_Json_same.sJ ⟨a0_0, a0_1, a0_2, l0_3, l0_4⟩ ⟨a1_0, a1_1, a1_2, l1_3, l1_4⟩)
theorem impl_Json_same.calls (a0_0 : Int) (a0_1 : Int) (a0_2 : ByteArray) (A0_3 : Option Addr) (c0_3 : Nat) (l0_3 : List ByteArray) (A0_4 : Option Addr) (c0_4 : Nat) (l0_4 : List (S88)) (a1_0 : Int) (a1_1 : Int) (a1_2 : ByteArray) (A1_3 : Option Addr) (c1_3 : Nat) (l1_3 : List ByteArray) (A1_4 : Option Addr) (c1_4 : Nat) (l1_4 : List (S88)) (r : Bool) (w : World) (hr0_3 : Kd.C Kd.string w A0_3 l0_3.length l0_3) (hc0_3 : l0_3.length ≤ c0_3) (hr0_4 : Kd.C k88 w A0_4 l0_4.length l0_4) (hc0_4 : l0_4.length ≤ c0_4) (hr1_3 : Kd.C Kd.string w A1_3 l1_3.length l1_3) (hc1_3 : l1_3.length ≤ c1_3) (hr1_4 : Kd.C k88 w A1_4 l1_4.length l1_4) (hc1_4 : l1_4.length ≤ c1_4) (h : impl_Json_same.f a0_0 a0_1 a0_2 l0_3 l0_4 a1_0 a1_1 a1_2 l1_3 l1_4 = some r) :
    Calls Try.prog 121 #[.agg #[.int .i64 a0_0, .int .i64 a0_1, .string a0_2, .slice A0_3 l0_3.length c0_3, .slice A0_4 l0_4.length c0_4], .agg #[.int .i64 a1_0, .int .i64 a1_1, .string a1_2, .slice A1_3 l1_3.length c1_3, .slice A1_4 l1_4.length c1_4]] w fun e w' => e = .returned (.bool r) ∧ Below w.heap.size w w' := by
  obtain rfl := Option.some.inj h
  exact impl_Json_same.all ⟨a0_0, a0_1, a0_2, l0_3, l0_4⟩ ⟨a1_0, a1_1, a1_2, l1_3, l1_4⟩ w A0_3 c0_3 A0_4 c0_4 A1_3 c1_3 A1_4 c1_4 hr0_3 hc0_3 hr0_4 hc0_4 hr1_3 hc1_3 hr1_4 hc1_4

/-! ### impl_SameJson: function 64 -/
def impl_SameJson.f (a0_0 : Int) (a0_1 : Int) (a0_2 : ByteArray) (l0_3 : List ByteArray) (l0_4 : List (S88)) (a1_0 : Int) (a1_1 : Int) (a1_2 : ByteArray) (l1_3 : List ByteArray) (l1_4 : List (S88)) : Option (Bool) := (impl_JsonOK.f a0_0 a0_1 a0_2 l0_3 l0_4).bind fun t140 => (if t140 = true then ((impl_JsonOK.f a1_0 a1_1 a1_2 l1_3 l1_4).bind fun t141 => (if t141 = true then ((impl_Json_same.f a0_0 a0_1 a0_2 l0_3 l0_4 a1_0 a1_1 a1_2 l1_3 l1_4).bind fun t142 => (some t142)) else (some false))) else (some false))
set_option maxHeartbeats 8000000 in
set_option maxRecDepth 100000 in
theorem impl_SameJson.calls (a0_0 : Int) (a0_1 : Int) (a0_2 : ByteArray) (A0_3 : Option Addr) (c0_3 : Nat) (l0_3 : List ByteArray) (A0_4 : Option Addr) (c0_4 : Nat) (l0_4 : List (S88)) (a1_0 : Int) (a1_1 : Int) (a1_2 : ByteArray) (A1_3 : Option Addr) (c1_3 : Nat) (l1_3 : List ByteArray) (A1_4 : Option Addr) (c1_4 : Nat) (l1_4 : List (S88)) (r : Bool) (w : World) (hr0_3 : Kd.C Kd.string w A0_3 l0_3.length l0_3) (hc0_3 : l0_3.length ≤ c0_3) (hr0_4 : Kd.C k88 w A0_4 l0_4.length l0_4) (hc0_4 : l0_4.length ≤ c0_4) (hr1_3 : Kd.C Kd.string w A1_3 l1_3.length l1_3) (hc1_3 : l1_3.length ≤ c1_3) (hr1_4 : Kd.C k88 w A1_4 l1_4.length l1_4) (hc1_4 : l1_4.length ≤ c1_4) (h : impl_SameJson.f a0_0 a0_1 a0_2 l0_3 l0_4 a1_0 a1_1 a1_2 l1_3 l1_4 = some r) :
    Calls Try.prog 64 #[.agg #[.int .i64 a0_0, .int .i64 a0_1, .string a0_2, .slice A0_3 l0_3.length c0_3, .slice A0_4 l0_4.length c0_4], .agg #[.int .i64 a1_0, .int .i64 a1_1, .string a1_2, .slice A1_3 l1_3.length c1_3, .slice A1_4 l1_4.length c1_4]] w fun e w' => e = .returned (.bool r) ∧ Below w.heap.size w w' := by
 have hu88 := Try.underlying88
 have HR0_3 := Aside0.mk hr0_3
 have HC0_3 := Aside0.mk hc0_3
 clear hr0_3 hc0_3
 have HR0_4 := Aside0.mk hr0_4
 have HC0_4 := Aside0.mk hc0_4
 clear hr0_4 hc0_4
 have HR1_3 := Aside0.mk hr1_3
 have HC1_3 := Aside0.mk hc1_3
 clear hr1_3 hc1_3
 have HR1_4 := Aside0.mk hr1_4
 have HC1_4 := Aside0.mk hc1_4
 clear hr1_4 hc1_4
 have HB := Aside0.mk (Below.refl w.heap.size w)
 have H : ((impl_JsonOK.f a0_0 a0_1 a0_2 l0_3 l0_4).bind fun t140 => (if t140 = true then ((impl_JsonOK.f a1_0 a1_1 a1_2 l1_3 l1_4).bind fun t141 => (if t141 = true then ((impl_Json_same.f a0_0 a0_1 a0_2 l0_3 l0_4 a1_0 a1_1 a1_2 l1_3 l1_4).bind fun t142 => (some t142)) else (some false))) else (some false))) = some r := h
 clear h
 obtain ⟨t140, A3, H⟩ := bindE_ H
 by_cases c4 : t140 = true
 ·
  subst c4
  replace H := ifT_ H
  obtain ⟨t141, A5, H⟩ := bindE_ H
  by_cases c6 : t141 = true
  ·
   subst c6
   replace H := ifT_ H
   obtain ⟨t142, A7, H⟩ := bindE_ H
   obtain rfl := Option.some.inj H
   go_enter Try.func64, Try.ntmps64
   go_wp2_with (first | ((with_reducible refine gate_dst (N := 2) rfl ?_); refine box_event ?hg (N := 2) ?hd (cs := #[.int .i64 a0_0, .int .i64 a0_1, .string a0_2, .slice A0_3 l0_3.length c0_3, .slice A0_4 l0_4.length c0_4]) (t := 88) ?hr ?_; (case hd => rfl); (case hg => rfl); (case hr => first | (go_simp; done) | (go_simp; rfl)); intro gb138 hg w8 hbox hb; have n0_ := belB_ hb; have n1_ := Aside0.mk (hbox); have n2_ := Aside0.mk ((by rw [hg]; exact (below_size (by repeat (first | (with_reducible first | exact HB.out | apply below_alloc | apply pw_below_drewN | apply below_drew1) | exact HB.out))) : w.heap.size ≤ gb138)); have n3_ := Aside0.mk ((by rw [hg]; exact (below_size (by repeat (first | (with_reducible first | exact HB.out | apply below_alloc | apply pw_below_drewN | apply below_drew1) | exact HB.out))) : w.heap.size ≤ gb138)); clear HB; have HB := n0_; have BK138 := n1_; have GW138 := n2_; have GE138 := n3_; clear n0_ n1_ n2_ n3_; clear hb hbox hg) | ((with_reducible refine gate_dst (N := 3) rfl ?_); refine box_event ?hg (N := 3) ?hd (cs := #[.int .i64 a1_0, .int .i64 a1_1, .string a1_2, .slice A1_3 l1_3.length c1_3, .slice A1_4 l1_4.length c1_4]) (t := 88) ?hr ?_; (case hd => rfl); (case hg => rfl); (case hr => first | (go_simp; done) | (go_simp; rfl)); intro gb139 hg w9 hbox hb; have n0_ := blkB_ (g := gb138) (o := .cells #[.int .i64 a0_0, .int .i64 a0_1, .string a0_2, .slice A0_3 l0_3.length c0_3, .slice A0_4 l0_4.length c0_4] 88 (0, 0)) hb; have n1_ := belB_ hb; have n2_ := Aside0.mk (hbox); have n3_ := Aside0.mk ((by rw [hg]; exact (below_size (by repeat (first | (with_reducible first | exact HB.out | apply below_alloc | apply pw_below_drewN | apply below_drew1 | refine below_set ?_ GE138.out) | exact HB.out))) : w.heap.size ≤ gb139)); have n4_ := Aside0.mk ((by rw [hg]; exact (below_size (by repeat (first | (with_reducible first | exact HB.out | apply below_alloc | apply pw_below_drewN | apply below_drew1 | refine below_set ?_ GE138.out) | exact HB.out))) : w.heap.size ≤ gb139)); have n5_ := Aside0.mk ((by rw [hg]; exact Nat.ne_of_lt (blk_lt (g := gb138) (o := .cells #[.int .i64 a0_0, .int .i64 a0_1, .string a0_2, .slice A0_3 l0_3.length c0_3, .slice A0_4 l0_4.length c0_4] 88 (0, 0)) (by (with_reducible repeat (first | refine blk_drewN ?_ _ | refine blk_drew ?_ | refine blk_alloc ?_ _)); exact BK138.out)) : gb138 ≠ gb139)); have n6_ := Aside0.mk ((by rw [hg]; exact Nat.ne_of_gt (blk_lt (g := gb138) (o := .cells #[.int .i64 a0_0, .int .i64 a0_1, .string a0_2, .slice A0_3 l0_3.length c0_3, .slice A0_4 l0_4.length c0_4] 88 (0, 0)) (by (with_reducible repeat (first | refine blk_drewN ?_ _ | refine blk_drew ?_ | refine blk_alloc ?_ _)); exact BK138.out)) : gb139 ≠ gb138)); clear BK138; clear HB; have BK138 := n0_; have HB := n1_; have BK139 := n2_; have GW139 := n3_; have GE139 := n4_; have NB138_139 := n5_; have NB139_138 := n6_; clear n0_ n1_ n2_ n3_ n4_ n5_ n6_; clear hb hbox hg; have hnb10 := NB138_139.out; have hnc10 := NB139_138.out; have hcz11_0 : w9.cell? ⟨gb138, 0, none⟩ = some (.int .i64 a0_0) := (blk_cell BK138.out 0).trans rfl; have hcz11_1 : w9.cell? ⟨gb138, 1, none⟩ = some (.int .i64 a0_1) := (blk_cell BK138.out 1).trans rfl; have hcz11_2 : w9.cell? ⟨gb138, 2, none⟩ = some (.string a0_2) := (blk_cell BK138.out 2).trans rfl; have hcz11_3 : w9.cell? ⟨gb138, 3, none⟩ = some (.slice A0_3 l0_3.length c0_3) := (blk_cell BK138.out 3).trans rfl; have hcz11_4 : w9.cell? ⟨gb138, 4, none⟩ = some (.slice A0_4 l0_4.length c0_4) := (blk_cell BK138.out 4).trans rfl; have hfz11_0 := blk_frozen BK138.out 0; have hfz11_1 := blk_frozen BK138.out 1; have hfz11_2 := blk_frozen BK138.out 2; have hfz11_3 := blk_frozen BK138.out 3; have hfz11_4 := blk_frozen BK138.out 4) | ((with_reducible refine gate_callee (f := 61) rfl ?_); refine cU_ (some 6) Try.func61 #[.agg #[.int .i64 a0_0, .int .i64 a0_1, .string a0_2, .slice A0_3 l0_3.length c0_3, .slice A0_4 l0_4.length c0_4]] ?_; (with_reducible refine (impl_JsonOK.calls a0_0 a0_1 a0_2 _ _ l0_3 _ _ l0_4 true _ ?side1 ?side2 ?side3 ?side4 A3.out).mono ?_); (case side1 => repeat (first | exact (Kd.C_below HR0_3.out HB.out) | (with_reducible refine Kd.C_alloc ?_ _) | (with_reducible refine Kd.C_drewN ?_ _) | (with_reducible refine Kd.C_drew ?_))); (case side2 => exact HC0_3.out); (case side3 => repeat (first | exact (Kd.C_below HR0_4.out HB.out) | (with_reducible refine Kd.C_alloc ?_ _) | (with_reducible refine Kd.C_drewN ?_ _) | (with_reducible refine Kd.C_drew ?_))); (case side4 => exact HC0_4.out); rintro e w12 ⟨rfl, hb⟩; refine ⟨_, rfl, ?_⟩; have n0_ := blkB_ (g := gb138) (o := .cells #[.int .i64 a0_0, .int .i64 a0_1, .string a0_2, .slice A0_3 l0_3.length c0_3, .slice A0_4 l0_4.length c0_4] 88 (0, 0)) hb; have n1_ := blkB_ (g := gb139) (o := .cells #[.int .i64 a1_0, .int .i64 a1_1, .string a1_2, .slice A1_3 l1_3.length c1_3, .slice A1_4 l1_4.length c1_4] 88 (0, 0)) hb; have n2_ := Aside0.mk (below_step (by repeat (first | (with_reducible first | exact HB.out | apply below_alloc | apply pw_below_drewN | apply below_drew1 | refine below_set ?_ GE138.out | refine below_set ?_ GE139.out) | exact HB.out)) hb); clear BK138; clear BK139; clear HB; have BK138 := n0_; have BK139 := n1_; have HB := n2_; clear n0_ n1_ n2_; (try clear hb); (try clear hb2); (try clear hk); (try clear hi); have hcz13_0 : w12.cell? ⟨gb139, 0, none⟩ = some (.int .i64 a1_0) := (blk_cell BK139.out 0).trans rfl; have hcz13_1 : w12.cell? ⟨gb139, 1, none⟩ = some (.int .i64 a1_1) := (blk_cell BK139.out 1).trans rfl; have hcz13_2 : w12.cell? ⟨gb139, 2, none⟩ = some (.string a1_2) := (blk_cell BK139.out 2).trans rfl; have hcz13_3 : w12.cell? ⟨gb139, 3, none⟩ = some (.slice A1_3 l1_3.length c1_3) := (blk_cell BK139.out 3).trans rfl; have hcz13_4 : w12.cell? ⟨gb139, 4, none⟩ = some (.slice A1_4 l1_4.length c1_4) := (blk_cell BK139.out 4).trans rfl; have hfz13_0 := blk_frozen BK139.out 0; have hfz13_1 := blk_frozen BK139.out 1; have hfz13_2 := blk_frozen BK139.out 2; have hfz13_3 := blk_frozen BK139.out 3; have hfz13_4 := blk_frozen BK139.out 4) | (go_at_call 61; (with_reducible refine (impl_JsonOK.calls a1_0 a1_1 a1_2 _ _ l1_3 _ _ l1_4 true _ ?side1 ?side2 ?side3 ?side4 A5.out).mono ?_); (case side1 => repeat (first | exact (Kd.C_below HR1_3.out HB.out) | (with_reducible refine Kd.C_alloc ?_ _) | (with_reducible refine Kd.C_drewN ?_ _) | (with_reducible refine Kd.C_drew ?_))); (case side2 => exact HC1_3.out); (case side3 => repeat (first | exact (Kd.C_below HR1_4.out HB.out) | (with_reducible refine Kd.C_alloc ?_ _) | (with_reducible refine Kd.C_drewN ?_ _) | (with_reducible refine Kd.C_drew ?_))); (case side4 => exact HC1_4.out); rintro e w14 ⟨rfl, hb⟩; have n0_ := blkB_ (g := gb138) (o := .cells #[.int .i64 a0_0, .int .i64 a0_1, .string a0_2, .slice A0_3 l0_3.length c0_3, .slice A0_4 l0_4.length c0_4] 88 (0, 0)) hb; have n1_ := blkB_ (g := gb139) (o := .cells #[.int .i64 a1_0, .int .i64 a1_1, .string a1_2, .slice A1_3 l1_3.length c1_3, .slice A1_4 l1_4.length c1_4] 88 (0, 0)) hb; have n2_ := Aside0.mk (below_step (by repeat (first | (with_reducible first | exact HB.out | apply below_alloc | apply pw_below_drewN | apply below_drew1 | refine below_set ?_ GE138.out | refine below_set ?_ GE139.out) | exact HB.out)) hb); clear BK138; clear BK139; clear HB; have BK138 := n0_; have BK139 := n1_; have HB := n2_; clear n0_ n1_ n2_; (try clear hb); (try clear hb2); (try clear hk); (try clear hi); have hcz15_0 : w14.cell? ⟨gb138, 0, none⟩ = some (.int .i64 a0_0) := (blk_cell BK138.out 0).trans rfl; have hcz15_1 : w14.cell? ⟨gb138, 1, none⟩ = some (.int .i64 a0_1) := (blk_cell BK138.out 1).trans rfl; have hcz15_2 : w14.cell? ⟨gb138, 2, none⟩ = some (.string a0_2) := (blk_cell BK138.out 2).trans rfl; have hcz15_3 : w14.cell? ⟨gb138, 3, none⟩ = some (.slice A0_3 l0_3.length c0_3) := (blk_cell BK138.out 3).trans rfl; have hcz15_4 : w14.cell? ⟨gb138, 4, none⟩ = some (.slice A0_4 l0_4.length c0_4) := (blk_cell BK138.out 4).trans rfl; have hfz15_0 := blk_frozen BK138.out 0; have hfz15_1 := blk_frozen BK138.out 1; have hfz15_2 := blk_frozen BK138.out 2; have hfz15_3 := blk_frozen BK138.out 3; have hfz15_4 := blk_frozen BK138.out 4; have hcz16_0 : w14.cell? ⟨gb139, 0, none⟩ = some (.int .i64 a1_0) := (blk_cell BK139.out 0).trans rfl; have hcz16_1 : w14.cell? ⟨gb139, 1, none⟩ = some (.int .i64 a1_1) := (blk_cell BK139.out 1).trans rfl; have hcz16_2 : w14.cell? ⟨gb139, 2, none⟩ = some (.string a1_2) := (blk_cell BK139.out 2).trans rfl; have hcz16_3 : w14.cell? ⟨gb139, 3, none⟩ = some (.slice A1_3 l1_3.length c1_3) := (blk_cell BK139.out 3).trans rfl; have hcz16_4 : w14.cell? ⟨gb139, 4, none⟩ = some (.slice A1_4 l1_4.length c1_4) := (blk_cell BK139.out 4).trans rfl; have hfz16_0 := blk_frozen BK139.out 0; have hfz16_1 := blk_frozen BK139.out 1; have hfz16_2 := blk_frozen BK139.out 2; have hfz16_3 := blk_frozen BK139.out 3; have hfz16_4 := blk_frozen BK139.out 4) | (go_at_call 121; (with_reducible refine (impl_Json_same.calls a0_0 a0_1 a0_2 _ _ l0_3 _ _ l0_4 a1_0 a1_1 a1_2 _ _ l1_3 _ _ l1_4 t142 _ ?side1 ?side2 ?side3 ?side4 ?side5 ?side6 ?side7 ?side8 A7.out).mono ?_); (case side1 => repeat (first | exact (Kd.C_below HR0_3.out HB.out) | (with_reducible refine Kd.C_alloc ?_ _) | (with_reducible refine Kd.C_drewN ?_ _) | (with_reducible refine Kd.C_drew ?_))); (case side2 => exact HC0_3.out); (case side3 => repeat (first | exact (Kd.C_below HR0_4.out HB.out) | (with_reducible refine Kd.C_alloc ?_ _) | (with_reducible refine Kd.C_drewN ?_ _) | (with_reducible refine Kd.C_drew ?_))); (case side4 => exact HC0_4.out); (case side5 => repeat (first | exact (Kd.C_below HR1_3.out HB.out) | (with_reducible refine Kd.C_alloc ?_ _) | (with_reducible refine Kd.C_drewN ?_ _) | (with_reducible refine Kd.C_drew ?_))); (case side6 => exact HC1_3.out); (case side7 => repeat (first | exact (Kd.C_below HR1_4.out HB.out) | (with_reducible refine Kd.C_alloc ?_ _) | (with_reducible refine Kd.C_drewN ?_ _) | (with_reducible refine Kd.C_drew ?_))); (case side8 => exact HC1_4.out); rintro e w17 ⟨rfl, hb⟩; have n0_ := blkB_ (g := gb138) (o := .cells #[.int .i64 a0_0, .int .i64 a0_1, .string a0_2, .slice A0_3 l0_3.length c0_3, .slice A0_4 l0_4.length c0_4] 88 (0, 0)) hb; have n1_ := blkB_ (g := gb139) (o := .cells #[.int .i64 a1_0, .int .i64 a1_1, .string a1_2, .slice A1_3 l1_3.length c1_3, .slice A1_4 l1_4.length c1_4] 88 (0, 0)) hb; have n2_ := Aside0.mk (below_step (by repeat (first | (with_reducible first | exact HB.out | apply below_alloc | apply pw_below_drewN | apply below_drew1 | refine below_set ?_ GE138.out | refine below_set ?_ GE139.out) | exact HB.out)) hb); clear BK138; clear BK139; clear HB; have BK138 := n0_; have BK139 := n1_; have HB := n2_; clear n0_ n1_ n2_; (try clear hb); (try clear hb2); (try clear hk); (try clear hi)))
   go_ret
   exact ⟨retE_, by repeat (first | (with_reducible first | exact HB.out | apply below_alloc | apply pw_below_drewN | apply below_drew1 | refine below_set ?_ GE138.out | refine below_set ?_ GE139.out) | exact HB.out)⟩
  ·
   replace c6 := Bool.eq_false_iff.mpr c6
   subst c6
   replace H := ifF_ H
   obtain rfl := Option.some.inj H
   go_enter Try.func64, Try.ntmps64
   go_wp2_with (first | ((with_reducible refine gate_dst (N := 2) rfl ?_); refine box_event ?hg (N := 2) ?hd (cs := #[.int .i64 a0_0, .int .i64 a0_1, .string a0_2, .slice A0_3 l0_3.length c0_3, .slice A0_4 l0_4.length c0_4]) (t := 88) ?hr ?_; (case hd => rfl); (case hg => rfl); (case hr => first | (go_simp; done) | (go_simp; rfl)); intro gb138 hg w18 hbox hb; have n0_ := belB_ hb; have n1_ := Aside0.mk (hbox); have n2_ := Aside0.mk ((by rw [hg]; exact (below_size (by repeat (first | (with_reducible first | exact HB.out | apply below_alloc | apply pw_below_drewN | apply below_drew1) | exact HB.out))) : w.heap.size ≤ gb138)); have n3_ := Aside0.mk ((by rw [hg]; exact (below_size (by repeat (first | (with_reducible first | exact HB.out | apply below_alloc | apply pw_below_drewN | apply below_drew1) | exact HB.out))) : w.heap.size ≤ gb138)); clear HB; have HB := n0_; have BK138 := n1_; have GW138 := n2_; have GE138 := n3_; clear n0_ n1_ n2_ n3_; clear hb hbox hg) | ((with_reducible refine gate_dst (N := 3) rfl ?_); refine box_event ?hg (N := 3) ?hd (cs := #[.int .i64 a1_0, .int .i64 a1_1, .string a1_2, .slice A1_3 l1_3.length c1_3, .slice A1_4 l1_4.length c1_4]) (t := 88) ?hr ?_; (case hd => rfl); (case hg => rfl); (case hr => first | (go_simp; done) | (go_simp; rfl)); intro gb139 hg w19 hbox hb; have n0_ := blkB_ (g := gb138) (o := .cells #[.int .i64 a0_0, .int .i64 a0_1, .string a0_2, .slice A0_3 l0_3.length c0_3, .slice A0_4 l0_4.length c0_4] 88 (0, 0)) hb; have n1_ := belB_ hb; have n2_ := Aside0.mk (hbox); have n3_ := Aside0.mk ((by rw [hg]; exact (below_size (by repeat (first | (with_reducible first | exact HB.out | apply below_alloc | apply pw_below_drewN | apply below_drew1 | refine below_set ?_ GE138.out) | exact HB.out))) : w.heap.size ≤ gb139)); have n4_ := Aside0.mk ((by rw [hg]; exact (below_size (by repeat (first | (with_reducible first | exact HB.out | apply below_alloc | apply pw_below_drewN | apply below_drew1 | refine below_set ?_ GE138.out) | exact HB.out))) : w.heap.size ≤ gb139)); have n5_ := Aside0.mk ((by rw [hg]; exact Nat.ne_of_lt (blk_lt (g := gb138) (o := .cells #[.int .i64 a0_0, .int .i64 a0_1, .string a0_2, .slice A0_3 l0_3.length c0_3, .slice A0_4 l0_4.length c0_4] 88 (0, 0)) (by (with_reducible repeat (first | refine blk_drewN ?_ _ | refine blk_drew ?_ | refine blk_alloc ?_ _)); exact BK138.out)) : gb138 ≠ gb139)); have n6_ := Aside0.mk ((by rw [hg]; exact Nat.ne_of_gt (blk_lt (g := gb138) (o := .cells #[.int .i64 a0_0, .int .i64 a0_1, .string a0_2, .slice A0_3 l0_3.length c0_3, .slice A0_4 l0_4.length c0_4] 88 (0, 0)) (by (with_reducible repeat (first | refine blk_drewN ?_ _ | refine blk_drew ?_ | refine blk_alloc ?_ _)); exact BK138.out)) : gb139 ≠ gb138)); clear BK138; clear HB; have BK138 := n0_; have HB := n1_; have BK139 := n2_; have GW139 := n3_; have GE139 := n4_; have NB138_139 := n5_; have NB139_138 := n6_; clear n0_ n1_ n2_ n3_ n4_ n5_ n6_; clear hb hbox hg; have hnb20 := NB138_139.out; have hnc20 := NB139_138.out; have hcz21_0 : w19.cell? ⟨gb138, 0, none⟩ = some (.int .i64 a0_0) := (blk_cell BK138.out 0).trans rfl; have hcz21_1 : w19.cell? ⟨gb138, 1, none⟩ = some (.int .i64 a0_1) := (blk_cell BK138.out 1).trans rfl; have hcz21_2 : w19.cell? ⟨gb138, 2, none⟩ = some (.string a0_2) := (blk_cell BK138.out 2).trans rfl; have hcz21_3 : w19.cell? ⟨gb138, 3, none⟩ = some (.slice A0_3 l0_3.length c0_3) := (blk_cell BK138.out 3).trans rfl; have hcz21_4 : w19.cell? ⟨gb138, 4, none⟩ = some (.slice A0_4 l0_4.length c0_4) := (blk_cell BK138.out 4).trans rfl; have hfz21_0 := blk_frozen BK138.out 0; have hfz21_1 := blk_frozen BK138.out 1; have hfz21_2 := blk_frozen BK138.out 2; have hfz21_3 := blk_frozen BK138.out 3; have hfz21_4 := blk_frozen BK138.out 4) | ((with_reducible refine gate_callee (f := 61) rfl ?_); refine cU_ (some 6) Try.func61 #[.agg #[.int .i64 a0_0, .int .i64 a0_1, .string a0_2, .slice A0_3 l0_3.length c0_3, .slice A0_4 l0_4.length c0_4]] ?_; (with_reducible refine (impl_JsonOK.calls a0_0 a0_1 a0_2 _ _ l0_3 _ _ l0_4 true _ ?side1 ?side2 ?side3 ?side4 A3.out).mono ?_); (case side1 => repeat (first | exact (Kd.C_below HR0_3.out HB.out) | (with_reducible refine Kd.C_alloc ?_ _) | (with_reducible refine Kd.C_drewN ?_ _) | (with_reducible refine Kd.C_drew ?_))); (case side2 => exact HC0_3.out); (case side3 => repeat (first | exact (Kd.C_below HR0_4.out HB.out) | (with_reducible refine Kd.C_alloc ?_ _) | (with_reducible refine Kd.C_drewN ?_ _) | (with_reducible refine Kd.C_drew ?_))); (case side4 => exact HC0_4.out); rintro e w22 ⟨rfl, hb⟩; refine ⟨_, rfl, ?_⟩; have n0_ := blkB_ (g := gb138) (o := .cells #[.int .i64 a0_0, .int .i64 a0_1, .string a0_2, .slice A0_3 l0_3.length c0_3, .slice A0_4 l0_4.length c0_4] 88 (0, 0)) hb; have n1_ := blkB_ (g := gb139) (o := .cells #[.int .i64 a1_0, .int .i64 a1_1, .string a1_2, .slice A1_3 l1_3.length c1_3, .slice A1_4 l1_4.length c1_4] 88 (0, 0)) hb; have n2_ := Aside0.mk (below_step (by repeat (first | (with_reducible first | exact HB.out | apply below_alloc | apply pw_below_drewN | apply below_drew1 | refine below_set ?_ GE138.out | refine below_set ?_ GE139.out) | exact HB.out)) hb); clear BK138; clear BK139; clear HB; have BK138 := n0_; have BK139 := n1_; have HB := n2_; clear n0_ n1_ n2_; (try clear hb); (try clear hb2); (try clear hk); (try clear hi); have hcz23_0 : w22.cell? ⟨gb139, 0, none⟩ = some (.int .i64 a1_0) := (blk_cell BK139.out 0).trans rfl; have hcz23_1 : w22.cell? ⟨gb139, 1, none⟩ = some (.int .i64 a1_1) := (blk_cell BK139.out 1).trans rfl; have hcz23_2 : w22.cell? ⟨gb139, 2, none⟩ = some (.string a1_2) := (blk_cell BK139.out 2).trans rfl; have hcz23_3 : w22.cell? ⟨gb139, 3, none⟩ = some (.slice A1_3 l1_3.length c1_3) := (blk_cell BK139.out 3).trans rfl; have hcz23_4 : w22.cell? ⟨gb139, 4, none⟩ = some (.slice A1_4 l1_4.length c1_4) := (blk_cell BK139.out 4).trans rfl; have hfz23_0 := blk_frozen BK139.out 0; have hfz23_1 := blk_frozen BK139.out 1; have hfz23_2 := blk_frozen BK139.out 2; have hfz23_3 := blk_frozen BK139.out 3; have hfz23_4 := blk_frozen BK139.out 4) | (go_at_call 61; (with_reducible refine (impl_JsonOK.calls a1_0 a1_1 a1_2 _ _ l1_3 _ _ l1_4 false _ ?side1 ?side2 ?side3 ?side4 A5.out).mono ?_); (case side1 => repeat (first | exact (Kd.C_below HR1_3.out HB.out) | (with_reducible refine Kd.C_alloc ?_ _) | (with_reducible refine Kd.C_drewN ?_ _) | (with_reducible refine Kd.C_drew ?_))); (case side2 => exact HC1_3.out); (case side3 => repeat (first | exact (Kd.C_below HR1_4.out HB.out) | (with_reducible refine Kd.C_alloc ?_ _) | (with_reducible refine Kd.C_drewN ?_ _) | (with_reducible refine Kd.C_drew ?_))); (case side4 => exact HC1_4.out); rintro e w24 ⟨rfl, hb⟩; have n0_ := blkB_ (g := gb138) (o := .cells #[.int .i64 a0_0, .int .i64 a0_1, .string a0_2, .slice A0_3 l0_3.length c0_3, .slice A0_4 l0_4.length c0_4] 88 (0, 0)) hb; have n1_ := blkB_ (g := gb139) (o := .cells #[.int .i64 a1_0, .int .i64 a1_1, .string a1_2, .slice A1_3 l1_3.length c1_3, .slice A1_4 l1_4.length c1_4] 88 (0, 0)) hb; have n2_ := Aside0.mk (below_step (by repeat (first | (with_reducible first | exact HB.out | apply below_alloc | apply pw_below_drewN | apply below_drew1 | refine below_set ?_ GE138.out | refine below_set ?_ GE139.out) | exact HB.out)) hb); clear BK138; clear BK139; clear HB; have BK138 := n0_; have BK139 := n1_; have HB := n2_; clear n0_ n1_ n2_; (try clear hb); (try clear hb2); (try clear hk); (try clear hi)))
   go_ret
   exact ⟨retE_, by repeat (first | (with_reducible first | exact HB.out | apply below_alloc | apply pw_below_drewN | apply below_drew1 | refine below_set ?_ GE138.out | refine below_set ?_ GE139.out) | exact HB.out)⟩
 ·
  replace c4 := Bool.eq_false_iff.mpr c4
  subst c4
  replace H := ifF_ H
  obtain rfl := Option.some.inj H
  go_enter Try.func64, Try.ntmps64
  go_wp2_with (first | ((with_reducible refine gate_dst (N := 2) rfl ?_); refine box_event ?hg (N := 2) ?hd (cs := #[.int .i64 a0_0, .int .i64 a0_1, .string a0_2, .slice A0_3 l0_3.length c0_3, .slice A0_4 l0_4.length c0_4]) (t := 88) ?hr ?_; (case hd => rfl); (case hg => rfl); (case hr => first | (go_simp; done) | (go_simp; rfl)); intro gb138 hg w25 hbox hb; have n0_ := belB_ hb; have n1_ := Aside0.mk (hbox); have n2_ := Aside0.mk ((by rw [hg]; exact (below_size (by repeat (first | (with_reducible first | exact HB.out | apply below_alloc | apply pw_below_drewN | apply below_drew1) | exact HB.out))) : w.heap.size ≤ gb138)); have n3_ := Aside0.mk ((by rw [hg]; exact (below_size (by repeat (first | (with_reducible first | exact HB.out | apply below_alloc | apply pw_below_drewN | apply below_drew1) | exact HB.out))) : w.heap.size ≤ gb138)); clear HB; have HB := n0_; have BK138 := n1_; have GW138 := n2_; have GE138 := n3_; clear n0_ n1_ n2_ n3_; clear hb hbox hg) | ((with_reducible refine gate_dst (N := 3) rfl ?_); refine box_event ?hg (N := 3) ?hd (cs := #[.int .i64 a1_0, .int .i64 a1_1, .string a1_2, .slice A1_3 l1_3.length c1_3, .slice A1_4 l1_4.length c1_4]) (t := 88) ?hr ?_; (case hd => rfl); (case hg => rfl); (case hr => first | (go_simp; done) | (go_simp; rfl)); intro gb139 hg w26 hbox hb; have n0_ := blkB_ (g := gb138) (o := .cells #[.int .i64 a0_0, .int .i64 a0_1, .string a0_2, .slice A0_3 l0_3.length c0_3, .slice A0_4 l0_4.length c0_4] 88 (0, 0)) hb; have n1_ := belB_ hb; have n2_ := Aside0.mk (hbox); have n3_ := Aside0.mk ((by rw [hg]; exact (below_size (by repeat (first | (with_reducible first | exact HB.out | apply below_alloc | apply pw_below_drewN | apply below_drew1 | refine below_set ?_ GE138.out) | exact HB.out))) : w.heap.size ≤ gb139)); have n4_ := Aside0.mk ((by rw [hg]; exact (below_size (by repeat (first | (with_reducible first | exact HB.out | apply below_alloc | apply pw_below_drewN | apply below_drew1 | refine below_set ?_ GE138.out) | exact HB.out))) : w.heap.size ≤ gb139)); have n5_ := Aside0.mk ((by rw [hg]; exact Nat.ne_of_lt (blk_lt (g := gb138) (o := .cells #[.int .i64 a0_0, .int .i64 a0_1, .string a0_2, .slice A0_3 l0_3.length c0_3, .slice A0_4 l0_4.length c0_4] 88 (0, 0)) (by (with_reducible repeat (first | refine blk_drewN ?_ _ | refine blk_drew ?_ | refine blk_alloc ?_ _)); exact BK138.out)) : gb138 ≠ gb139)); have n6_ := Aside0.mk ((by rw [hg]; exact Nat.ne_of_gt (blk_lt (g := gb138) (o := .cells #[.int .i64 a0_0, .int .i64 a0_1, .string a0_2, .slice A0_3 l0_3.length c0_3, .slice A0_4 l0_4.length c0_4] 88 (0, 0)) (by (with_reducible repeat (first | refine blk_drewN ?_ _ | refine blk_drew ?_ | refine blk_alloc ?_ _)); exact BK138.out)) : gb139 ≠ gb138)); clear BK138; clear HB; have BK138 := n0_; have HB := n1_; have BK139 := n2_; have GW139 := n3_; have GE139 := n4_; have NB138_139 := n5_; have NB139_138 := n6_; clear n0_ n1_ n2_ n3_ n4_ n5_ n6_; clear hb hbox hg; have hnb27 := NB138_139.out; have hnc27 := NB139_138.out; have hcz28_0 : w26.cell? ⟨gb138, 0, none⟩ = some (.int .i64 a0_0) := (blk_cell BK138.out 0).trans rfl; have hcz28_1 : w26.cell? ⟨gb138, 1, none⟩ = some (.int .i64 a0_1) := (blk_cell BK138.out 1).trans rfl; have hcz28_2 : w26.cell? ⟨gb138, 2, none⟩ = some (.string a0_2) := (blk_cell BK138.out 2).trans rfl; have hcz28_3 : w26.cell? ⟨gb138, 3, none⟩ = some (.slice A0_3 l0_3.length c0_3) := (blk_cell BK138.out 3).trans rfl; have hcz28_4 : w26.cell? ⟨gb138, 4, none⟩ = some (.slice A0_4 l0_4.length c0_4) := (blk_cell BK138.out 4).trans rfl; have hfz28_0 := blk_frozen BK138.out 0; have hfz28_1 := blk_frozen BK138.out 1; have hfz28_2 := blk_frozen BK138.out 2; have hfz28_3 := blk_frozen BK138.out 3; have hfz28_4 := blk_frozen BK138.out 4) | ((with_reducible refine gate_callee (f := 61) rfl ?_); refine cU_ (some 6) Try.func61 #[.agg #[.int .i64 a0_0, .int .i64 a0_1, .string a0_2, .slice A0_3 l0_3.length c0_3, .slice A0_4 l0_4.length c0_4]] ?_; (with_reducible refine (impl_JsonOK.calls a0_0 a0_1 a0_2 _ _ l0_3 _ _ l0_4 false _ ?side1 ?side2 ?side3 ?side4 A3.out).mono ?_); (case side1 => repeat (first | exact (Kd.C_below HR0_3.out HB.out) | (with_reducible refine Kd.C_alloc ?_ _) | (with_reducible refine Kd.C_drewN ?_ _) | (with_reducible refine Kd.C_drew ?_))); (case side2 => exact HC0_3.out); (case side3 => repeat (first | exact (Kd.C_below HR0_4.out HB.out) | (with_reducible refine Kd.C_alloc ?_ _) | (with_reducible refine Kd.C_drewN ?_ _) | (with_reducible refine Kd.C_drew ?_))); (case side4 => exact HC0_4.out); rintro e w29 ⟨rfl, hb⟩; refine ⟨_, rfl, ?_⟩; have n0_ := blkB_ (g := gb138) (o := .cells #[.int .i64 a0_0, .int .i64 a0_1, .string a0_2, .slice A0_3 l0_3.length c0_3, .slice A0_4 l0_4.length c0_4] 88 (0, 0)) hb; have n1_ := blkB_ (g := gb139) (o := .cells #[.int .i64 a1_0, .int .i64 a1_1, .string a1_2, .slice A1_3 l1_3.length c1_3, .slice A1_4 l1_4.length c1_4] 88 (0, 0)) hb; have n2_ := Aside0.mk (below_step (by repeat (first | (with_reducible first | exact HB.out | apply below_alloc | apply pw_below_drewN | apply below_drew1 | refine below_set ?_ GE138.out | refine below_set ?_ GE139.out) | exact HB.out)) hb); clear BK138; clear BK139; clear HB; have BK138 := n0_; have BK139 := n1_; have HB := n2_; clear n0_ n1_ n2_; (try clear hb); (try clear hb2); (try clear hk); (try clear hi)))
  go_ret
  exact ⟨retE_, by repeat (first | (with_reducible first | exact HB.out | apply below_alloc | apply pw_below_drewN | apply below_drew1 | refine below_set ?_ GE138.out | refine below_set ?_ GE139.out) | exact HB.out)⟩

end Go.Proofs.Ytmfnaaeglfhnmaa.QFnExactSameJson
