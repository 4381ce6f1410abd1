/- A tool of this session wrote this text out of the translation: functions as plain Lean, and proofs that the machine's calls come to their answers. -/
import Derived.Test.YtljpmdeobmmhlaaDoorQShort
import Derived.Test.YtljpmdeobmmhlaaDoorQFnExactJsonTextx0
import Derived.Test.YtljpmdeobmmhlaaDoorQFnExactJsonTextx5
namespace Go.Proofs.YtljpmdeobmmhlaaDoor.QFnExactJsonText
open Go.RowKit Go.Proofs.YtljpmdeobmmhlaaDoorW.PrintWords Go.Proofs.YtljpmdeobmmhlaaDoorW.PrintLast Go.Proofs.YtljpmdeobmmhlaaDoorW.PrintMore
open Go.Proofs.YtljpmdeobmmhlaaDoor.Short
attribute [local go_sem] max2_int min2_int max_two min_two max_three min_three max_four min_four   -- for this text's walks alone
set_option linter.unusedVariables false
set_option linter.unusedSimpArgs false

/-! ### laws_toJson: function 6, by hand -/
mutual
/-- The program's form of a value. -/
def laws_toJson.toJ : S25 → S31
  | ⟨a, b, c, d, e⟩ => ⟨a, b, c, d, laws_toJson.toJL e⟩
def laws_toJson.toJL : List S25 → List S31
  | [] => []
  | x :: xs => laws_toJson.toJ x :: laws_toJson.toJL xs
end
mutual
/-- No list is longer than 2 ^ 20. -/
def laws_toJson.okJ : S25 → Bool
  | ⟨_, _, _, d, e⟩ => decide (d.length ≤ 1048576) && decide (e.length ≤ 1048576) && laws_toJson.okJL e
def laws_toJson.okJL : List S25 → Bool
  | [] => true
  | x :: xs => laws_toJson.okJ x && laws_toJson.okJL xs
end
theorem laws_toJson.toJL_map : ∀ l : List S25, laws_toJson.toJL l = l.map laws_toJson.toJ
  | [] => by rw [laws_toJson.toJL]; rfl
  | x :: xs => by rw [laws_toJson.toJL, laws_toJson.toJL_map xs]; rfl
theorem laws_toJson.toJL_len (l : List S25) : (laws_toJson.toJL l).length = l.length := by rw [laws_toJson.toJL_map, List.length_map]
theorem laws_toJson.okJL_all : ∀ l : List S25, laws_toJson.okJL l = true → ∀ x ∈ l, laws_toJson.okJ x = true
  | [], _, x, hx => by cases hx
  | y :: ys, h, x, hx => by
    simp only [laws_toJson.okJL, Bool.and_eq_true] at h
    rcases List.mem_cons.1 hx with rfl | hx
    · exact h.1
    · exact laws_toJson.okJL_all ys h.2 x hx
theorem laws_toJson.set_ {α : Type} (l : List α) (z : α) (n d : Nat) (h : n + (d + 1) = l.length) (y : α) (hy : l[n]? = some y) : (l.take n ++ List.replicate (d + 1) z).set n y = l.take (n + 1) ++ List.replicate d z := by
  have hn : n < l.length := by omega
  have e : l[n] = y := by rw [List.getElem?_eq_getElem hn] at hy; exact Option.some.inj hy
  rw [List.set_append_right _ _ (by rw [List.length_take]; omega), List.length_take, Nat.min_eq_left (by omega), Nat.sub_self, List.replicate_succ, List.set_cons_zero, List.take_add_one, hy]
  simp
theorem laws_toJson.str_l0 (l : List ByteArray) (hl : l.length ≤ 1048576) : ∀ (d n : Nat), n + d = l.length → laws_toStringS.l0 (d + 1) l (l.take n ++ List.replicate d (⟨#[]⟩ : ByteArray)) (n : Int) = some l := by
  intro d
  induction d with
  | zero => intro n h; rw [laws_toStringS.l0, if_neg (by omega), List.replicate_zero, List.append_nil, List.take_of_length_le (by omega)]
  | succ d ih =>
    intro n h
    have hn : n < l.length := by omega
    rw [laws_toStringS.l0, if_pos (by omega), if_pos (by omega), if_pos (by simp; omega), Int.toNat_natCast, laws_toJson.set_ l _ n d h _ (by simp [rdOf, List.getD, hn]), show wrap64 ((n : Int) + 1) = ((n + 1 : Nat) : Int) from by unfold wrap64; omega]
    exact ih (n + 1) (by omega)
theorem laws_toJson.str (l : List ByteArray) (hl : l.length ≤ 1048576) : laws_toStringS.f (l.length + 1) l = some l := by
  rw [laws_toStringS.f, if_pos (by omega), if_pos (by omega)]
  exact laws_toJson.str_l0 l hl l.length 0 (by omega)
theorem laws_toJson.ltR {W w' : World} (hb : Below W.heap.size W w') {α : Type} {d : Kd α} {e base : Nat} {ok : Nat → Prop} {v : Value} {xs : List α} (h : d.R e W base ok v xs) : ∀ k, v.ownBlock = some k → k < W.heap.size := Kd.R_lt h
theorem laws_toJson.lt_ {W w' : World} (hb : Below W.heap.size W w') {g : Nat} {o : Obj} (h : W.heap[g]? = some o) : g < W.heap.size := blk_lt h
abbrev laws_toJson.P (x : S25) : Prop := ∀ (A3 : Option Addr) (c3 : Nat) (A4 : Option Addr) (c4 : Nat) (w : World), Kd.C Kd.string w A3 x.f3.length x.f3 → x.f3.length ≤ c3 → Kd.C k25 w A4 x.f4.length x.f4 → x.f4.length ≤ c4 → laws_toJson.okJ x = true →
  Calls Tryd.prog 6 #[.agg #[(.int .i64 x.f0), (.int .i64 x.f1), (.string x.f2), (.slice A3 x.f3.length c3), (.slice A4 x.f4.length c4)]] w fun e w' => ∃ v3_ v4_ : Value, e = .returned (.agg #[.int .i64 x.f0, .int .i64 x.f1, .string x.f2, v3_, v4_]) ∧ Kd.R Kd.string 9 w' w.heap.size (fun _ => True) v3_ x.f3 ∧ Kd.R k31 31 w' w.heap.size (fun k_ => some k_ ≠ v3_.ownBlock) v4_ (laws_toJson.toJL x.f4) ∧ Below w.heap.size w w'
set_option maxHeartbeats 8000000 in
set_option maxRecDepth 100000 in
theorem laws_toJson.own1 (x : S25) (hp : laws_toJson.okJL x.f4 = true → ∀ (A : Option Addr) (c : Nat) (w : World), Kd.C k25 w A x.f4.length x.f4 → x.f4.length ≤ c → x.f4.length ≤ 1048576 →
    Calls Tryd.prog 14 #[.slice A x.f4.length c] w fun e w' => ∃ v0_ : Value, e = .returned v0_ ∧ Kd.R k31 31 w' w.heap.size (fun _ => True) v0_ (laws_toJson.toJL x.f4) ∧ Below w.heap.size w w') : laws_toJson.P x := by
  intro A3 c3 A4 c4 w h3 l3 h4 l4 hok
  have hk : x.f3.length ≤ 1048576 ∧ x.f4.length ≤ 1048576 ∧ laws_toJson.okJL x.f4 = true := by
    cases x; simp only [laws_toJson.okJ, Bool.and_eq_true, decide_eq_true_eq] at hok; exact ⟨hok.1.1, hok.1.2, hok.2⟩
  have HS := Aside0.mk (fun (W : World) (hw : Below w.heap.size w W) => laws_toStringS.calls (x.f3.length + 1) A3 c3 x.f3 x.f3 W (Kd.C_below h3 hw) l3 (laws_toJson.str x.f3 hk.1))
  have HT := Aside0.mk (fun (W : World) (hw : Below w.heap.size w W) => hp hk.2.2 A4 c4 W (Kd.C_below h4 hw) l4 hk.2.1)
  have HB := Aside0.mk (Below.refl w.heap.size w)
  clear h3 h4 hp hok hk
  have hu25 := Tryd.underlying25
  have hu31 := Tryd.underlying31
  go_enter Tryd.func6, Tryd.ntmps6
  go_wp2_with (first | ((with_reducible refine gate_dst (N := 1) rfl ?_); refine box_event ?hg (N := 1) ?hd (cs := #[(.int .i64 x.f0), (.int .i64 x.f1), (.string x.f2), (.slice A3 x.f3.length c3), (.slice A4 x.f4.length c4)]) (t := 25) ?hr ?_; (case hd => rfl); (case hg => rfl); (case hr => first | (go_simp; done) | (go_simp; rfl)); intro g1 hg w2 hx hb; have B1 := Aside0.mk hx; have n0 := Aside0.mk (below_step HB.out hb); clear HB; have HB := n0; clear n0 hx hb hg) | ((with_reducible refine gate_dst (N := 2) rfl ?_); refine box_event ?hg (N := 2) ?hd (cs := #[(.int .i64 0), (.int .i64 0), (.string (⟨#[]⟩ : ByteArray)), (.slice none 0 0), (.slice none 0 0)]) (t := 31) ?hr ?_; (case hd => rfl); (case hg => rfl); (case hr => first | (go_simp; done) | (go_simp; rfl)); intro g2 hg w3 hx hb; have N12 := Aside0.mk (by rw [hg]; exact Nat.ne_of_lt (blk_lt B1.out) : g1 ≠ g2); have GE2 := Aside0.mk (by rw [hg]; exact below_size HB.out : w.heap.size ≤ g2); have n1 := Aside0.mk (blk_below B1.out hb); clear B1; have B1 := n1; have B2 := Aside0.mk hx; have n0 := Aside0.mk (below_step HB.out hb); clear HB; have HB := n0; clear n0 n1 hx hb hg) | ((with_reducible refine gate_dst (N := 3) rfl ?_); refine box_event ?hg (N := 3) ?hd (cs := #[(.int .i64 0), (.int .i64 0), (.string (⟨#[]⟩ : ByteArray)), (.slice none 0 0), (.slice none 0 0)]) (t := 31) ?hr ?_; (case hd => rfl); (case hg => rfl); (case hr => first | (go_simp; done) | (go_simp; rfl)); intro g3 hg w4 hx hb; have N13 := Aside0.mk (by rw [hg]; exact Nat.ne_of_lt (blk_lt B1.out) : g1 ≠ g3); have N23 := Aside0.mk (by rw [hg]; exact Nat.ne_of_lt (blk_lt B2.out) : g2 ≠ g3); have GE3 := Aside0.mk (by rw [hg]; exact below_size HB.out : w.heap.size ≤ g3); have n1 := Aside0.mk (blk_below B1.out hb); have n2 := Aside0.mk (blk_below B2.out hb); clear B1 B2; have B1 := n1; have B2 := n2; have B3 := Aside0.mk hx; have n0 := Aside0.mk (below_step HB.out hb); clear HB; have HB := n0; clear n0 n1 n2 hx hb hg; have e13 := N13.out; have e31 := N13.out.symm; have e23 := N23.out; have e32 := N23.out.symm; have p0 : w4.cell? ⟨g1, 0, none⟩ = some (.int .i64 x.f0) := (blk_cell B1.out 0).trans rfl; have pf0 := blk_frozen B1.out 0; have p1 : w4.cell? ⟨g1, 1, none⟩ = some (.int .i64 x.f1) := (blk_cell B1.out 1).trans rfl; have pf1 := blk_frozen B1.out 1; have p2 : w4.cell? ⟨g1, 2, none⟩ = some (.string x.f2) := (blk_cell B1.out 2).trans rfl; have pf2 := blk_frozen B1.out 2; have p3 : w4.cell? ⟨g1, 3, none⟩ = some (.slice A3 x.f3.length c3) := (blk_cell B1.out 3).trans rfl; have pf3 := blk_frozen B1.out 3; have p4 : w4.cell? ⟨g1, 4, none⟩ = some (.slice A4 x.f4.length c4) := (blk_cell B1.out 4).trans rfl; have pf4 := blk_frozen B1.out 4; have z0 : w4.cell? ⟨g3, 0, none⟩ = some (.int .i64 0) := (blk_cell B3.out 0).trans rfl; have zf0 := blk_frozen B3.out 0; have z1 : w4.cell? ⟨g3, 1, none⟩ = some (.int .i64 0) := (blk_cell B3.out 1).trans rfl; have zf1 := blk_frozen B3.out 1; have z2 : w4.cell? ⟨g3, 2, none⟩ = some (.string (⟨#[]⟩ : ByteArray)) := (blk_cell B3.out 2).trans rfl; have zf2 := blk_frozen B3.out 2; have z3 : w4.cell? ⟨g3, 3, none⟩ = some (.slice none 0 0) := (blk_cell B3.out 3).trans rfl; have zf3 := blk_frozen B3.out 3; have z4 : w4.cell? ⟨g3, 4, none⟩ = some (.slice none 0 0) := (blk_cell B3.out 4).trans rfl; have zf4 := blk_frozen B3.out 4; ) | (go_at_call 13; refine (HS.out _ ((by repeat (first | (with_reducible first | exact HB.out | apply below_alloc | apply pw_below_drewN | apply below_drew1 | refine below_set ?_ GE3.out | refine below_set ?_ GE2.out) | exact HB.out)))).mono ?_; rintro e w7 ⟨v3, rfl, ho, hb⟩; have n1 := Aside0.mk (blk_below (g := g1) (o := .cells #[(.int .i64 x.f0), (.int .i64 x.f1), (.string x.f2), (.slice A3 x.f3.length c3), (.slice A4 x.f4.length c4)] 25 (0, 0)) (by (with_reducible repeat (first | refine blk_drewN ?_ _ | refine blk_drew ?_ | refine blk_alloc ?_ _)); refine blk_far ?_ N13.out _; (with_reducible repeat (first | refine blk_drewN ?_ _ | refine blk_drew ?_ | refine blk_alloc ?_ _)); refine blk_far ?_ N13.out _; (with_reducible repeat (first | refine blk_drewN ?_ _ | refine blk_drew ?_ | refine blk_alloc ?_ _)); refine blk_far ?_ N13.out _; (with_reducible repeat (first | refine blk_drewN ?_ _ | refine blk_drew ?_ | refine blk_alloc ?_ _)); exact B1.out) hb); have n2 := Aside0.mk (blk_below (g := g2) (o := .cells #[(.int .i64 0), (.int .i64 0), (.string (⟨#[]⟩ : ByteArray)), (.slice none 0 0), (.slice none 0 0)] 31 (0, 0)) (by (with_reducible repeat (first | refine blk_drewN ?_ _ | refine blk_drew ?_ | refine blk_alloc ?_ _)); refine blk_far ?_ N23.out _; (with_reducible repeat (first | refine blk_drewN ?_ _ | refine blk_drew ?_ | refine blk_alloc ?_ _)); refine blk_far ?_ N23.out _; (with_reducible repeat (first | refine blk_drewN ?_ _ | refine blk_drew ?_ | refine blk_alloc ?_ _)); refine blk_far ?_ N23.out _; (with_reducible repeat (first | refine blk_drewN ?_ _ | refine blk_drew ?_ | refine blk_alloc ?_ _)); exact B2.out) hb); have n3 := Aside0.mk (blk_below (g := g3) (o := .cells #[(.int .i64 x.f0), (.int .i64 x.f1), (.string x.f2), (.slice none 0 0), (.slice none 0 0)] 31 (0, 0)) (by (with_reducible repeat (first | refine blk_drewN ?_ _ | refine blk_drew ?_ | refine blk_alloc ?_ _)); refine blk_put (cs := #[(.int .i64 x.f0), (.int .i64 x.f1), (.string (⟨#[]⟩ : ByteArray)), (.slice none 0 0), (.slice none 0 0)]) ?_ 2 _ rfl; (with_reducible repeat (first | refine blk_drewN ?_ _ | refine blk_drew ?_ | refine blk_alloc ?_ _)); refine blk_put (cs := #[(.int .i64 x.f0), (.int .i64 0), (.string (⟨#[]⟩ : ByteArray)), (.slice none 0 0), (.slice none 0 0)]) ?_ 1 _ rfl; (with_reducible repeat (first | refine blk_drewN ?_ _ | refine blk_drew ?_ | refine blk_alloc ?_ _)); refine blk_put (cs := #[(.int .i64 0), (.int .i64 0), (.string (⟨#[]⟩ : ByteArray)), (.slice none 0 0), (.slice none 0 0)]) ?_ 0 _ rfl; (with_reducible repeat (first | refine blk_drewN ?_ _ | refine blk_drew ?_ | refine blk_alloc ?_ _)); exact B3.out) hb); have n4 := Aside0.mk (Kd.R_lower ho (below_size (by repeat (first | (with_reducible first | exact HB.out | apply below_alloc | apply pw_below_drewN | apply below_drew1 | refine below_set ?_ GE3.out | refine below_set ?_ GE2.out) | exact HB.out)))); have n0 := Aside0.mk (below_step (by repeat (first | (with_reducible first | exact HB.out | apply below_alloc | apply pw_below_drewN | apply below_drew1 | refine below_set ?_ GE3.out | refine below_set ?_ GE2.out) | exact HB.out)) hb); clear B1 B2 B3 HB; have B1 := n1; have B2 := n2; have B3 := n3; have HB := n0; have HO3 := n4; clear n0 n1 n2 n3 n4 hb ho; obtain ⟨Ao, co, eo⟩ := Kd.R_slice HO3.out; subst eo; have q0 : w7.cell? ⟨g1, 0, none⟩ = some (.int .i64 x.f0) := (blk_cell B1.out 0).trans rfl; have qf0 := blk_frozen B1.out 0; have q1 : w7.cell? ⟨g1, 1, none⟩ = some (.int .i64 x.f1) := (blk_cell B1.out 1).trans rfl; have qf1 := blk_frozen B1.out 1; have q2 : w7.cell? ⟨g1, 2, none⟩ = some (.string x.f2) := (blk_cell B1.out 2).trans rfl; have qf2 := blk_frozen B1.out 2; have q3 : w7.cell? ⟨g1, 3, none⟩ = some (.slice A3 x.f3.length c3) := (blk_cell B1.out 3).trans rfl; have qf3 := blk_frozen B1.out 3; have q4 : w7.cell? ⟨g1, 4, none⟩ = some (.slice A4 x.f4.length c4) := (blk_cell B1.out 4).trans rfl; have qf4 := blk_frozen B1.out 4; have r0 : w7.cell? ⟨g3, 0, none⟩ = some (.int .i64 x.f0) := (blk_cell B3.out 0).trans rfl; have rf0 := blk_frozen B3.out 0; have r1 : w7.cell? ⟨g3, 1, none⟩ = some (.int .i64 x.f1) := (blk_cell B3.out 1).trans rfl; have rf1 := blk_frozen B3.out 1; have r2 : w7.cell? ⟨g3, 2, none⟩ = some (.string x.f2) := (blk_cell B3.out 2).trans rfl; have rf2 := blk_frozen B3.out 2; have r3 : w7.cell? ⟨g3, 3, none⟩ = some (.slice none 0 0) := (blk_cell B3.out 3).trans rfl; have rf3 := blk_frozen B3.out 3; have r4 : w7.cell? ⟨g3, 4, none⟩ = some (.slice none 0 0) := (blk_cell B3.out 4).trans rfl; have rf4 := blk_frozen B3.out 4; ) | (go_at_call 14; refine (HT.out _ ((by repeat (first | (with_reducible first | exact HB.out | apply below_alloc | apply pw_below_drewN | apply below_drew1 | refine below_set ?_ GE3.out | refine below_set ?_ GE2.out) | exact HB.out)))).mono ?_; rintro e w9 ⟨v4, rfl, ho, hb⟩; have m2 := laws_toJson.lt_ hb (g := g2) (o := .cells #[(.int .i64 0), (.int .i64 0), (.string (⟨#[]⟩ : ByteArray)), (.slice none 0 0), (.slice none 0 0)] 31 (0, 0)) (by (with_reducible repeat (first | refine blk_drewN ?_ _ | refine blk_drew ?_ | refine blk_alloc ?_ _)); refine blk_far ?_ N23.out _; (with_reducible repeat (first | refine blk_drewN ?_ _ | refine blk_drew ?_ | refine blk_alloc ?_ _)); exact B2.out); have m3 := laws_toJson.lt_ hb (g := g3) (o := .cells #[(.int .i64 x.f0), (.int .i64 x.f1), (.string x.f2), (.slice Ao x.f3.length co), (.slice none 0 0)] 31 (0, 0)) (by (with_reducible repeat (first | refine blk_drewN ?_ _ | refine blk_drew ?_ | refine blk_alloc ?_ _)); refine blk_put (cs := #[(.int .i64 x.f0), (.int .i64 x.f1), (.string x.f2), (.slice none 0 0), (.slice none 0 0)]) ?_ 3 _ rfl; (with_reducible repeat (first | refine blk_drewN ?_ _ | refine blk_drew ?_ | refine blk_alloc ?_ _)); exact B3.out); have m4 := laws_toJson.ltR hb (by (with_reducible repeat (first | apply Kd.R_alloc | apply Kd.R_drewN | apply Kd.R_drew)); exact (Kd.R_mono (Kd.R_far (p := ⟨g3, 3, none⟩) (Kd.R_types HO3.out B3.out (by decide)) (fun _ hk => hk.2) (.slice Ao x.f3.length co)) (fun _ h_ => h_.1))); have n2 := Aside0.mk (blk_below (g := g2) (o := .cells #[(.int .i64 0), (.int .i64 0), (.string (⟨#[]⟩ : ByteArray)), (.slice none 0 0), (.slice none 0 0)] 31 (0, 0)) (by (with_reducible repeat (first | refine blk_drewN ?_ _ | refine blk_drew ?_ | refine blk_alloc ?_ _)); refine blk_far ?_ N23.out _; (with_reducible repeat (first | refine blk_drewN ?_ _ | refine blk_drew ?_ | refine blk_alloc ?_ _)); exact B2.out) hb); have n3 := Aside0.mk (blk_below (g := g3) (o := .cells #[(.int .i64 x.f0), (.int .i64 x.f1), (.string x.f2), (.slice Ao x.f3.length co), (.slice none 0 0)] 31 (0, 0)) (by (with_reducible repeat (first | refine blk_drewN ?_ _ | refine blk_drew ?_ | refine blk_alloc ?_ _)); refine blk_put (cs := #[(.int .i64 x.f0), (.int .i64 x.f1), (.string x.f2), (.slice none 0 0), (.slice none 0 0)]) ?_ 3 _ rfl; (with_reducible repeat (first | refine blk_drewN ?_ _ | refine blk_drew ?_ | refine blk_alloc ?_ _)); exact B3.out) hb); have n4 := Aside0.mk (Kd.R_mono (ok' := fun k => k ≠ g2 ∧ k ≠ g3 ∧ some k ≠ (.slice Ao x.f3.length co : Value).ownBlock) (Kd.R_lower (Kd.R_bound ho) (below_size (by repeat (first | (with_reducible first | exact HB.out | apply below_alloc | apply pw_below_drewN | apply below_drew1 | refine below_set ?_ GE3.out | refine below_set ?_ GE2.out) | exact HB.out)))) (fun k hk => ⟨fun h_ => absurd hk.2.1 (by rw [h_]; exact Nat.not_le_of_lt m2), fun h_ => absurd hk.2.1 (by rw [h_]; exact Nat.not_le_of_lt m3), fun h_ => absurd hk.2.1 (Nat.not_le_of_lt (m4 k h_.symm))⟩)); have n5 := Aside0.mk (Kd.R_below (by (with_reducible repeat (first | apply Kd.R_alloc | apply Kd.R_drewN | apply Kd.R_drew)); exact (Kd.R_mono (Kd.R_far (p := ⟨g3, 3, none⟩) (Kd.R_types HO3.out B3.out (by decide)) (fun _ hk => hk.2) _) (fun _ h_ => h_.1))) hb); have n0 := Aside0.mk (below_step (by repeat (first | (with_reducible first | exact HB.out | apply below_alloc | apply pw_below_drewN | apply below_drew1 | refine below_set ?_ GE3.out | refine below_set ?_ GE2.out) | exact HB.out)) hb); clear B1 B2 B3 HB HO3; have B2 := n2; have B3 := n3; have HB := n0; have HO3 := n5; have HO4 := n4; clear n0 n2 n3 n4 n5 m2 m3 m4 hb ho; obtain ⟨Bo, do_, eo⟩ := Kd.R_slice HO4.out; subst eo; have s0 : w9.cell? ⟨g2, 0, none⟩ = some (.int .i64 0) := (blk_cell B2.out 0).trans rfl; have sf0 := blk_frozen B2.out 0; have s1 : w9.cell? ⟨g2, 1, none⟩ = some (.int .i64 0) := (blk_cell B2.out 1).trans rfl; have sf1 := blk_frozen B2.out 1; have s2 : w9.cell? ⟨g2, 2, none⟩ = some (.string (⟨#[]⟩ : ByteArray)) := (blk_cell B2.out 2).trans rfl; have sf2 := blk_frozen B2.out 2; have s3 : w9.cell? ⟨g2, 3, none⟩ = some (.slice none 0 0) := (blk_cell B2.out 3).trans rfl; have sf3 := blk_frozen B2.out 3; have s4 : w9.cell? ⟨g2, 4, none⟩ = some (.slice none 0 0) := (blk_cell B2.out 4).trans rfl; have sf4 := blk_frozen B2.out 4; have t0 : w9.cell? ⟨g3, 0, none⟩ = some (.int .i64 x.f0) := (blk_cell B3.out 0).trans rfl; have tf0 := blk_frozen B3.out 0; have t1 : w9.cell? ⟨g3, 1, none⟩ = some (.int .i64 x.f1) := (blk_cell B3.out 1).trans rfl; have tf1 := blk_frozen B3.out 1; have t2 : w9.cell? ⟨g3, 2, none⟩ = some (.string x.f2) := (blk_cell B3.out 2).trans rfl; have tf2 := blk_frozen B3.out 2; have t3 : w9.cell? ⟨g3, 3, none⟩ = some (.slice Ao x.f3.length co) := (blk_cell B3.out 3).trans rfl; have tf3 := blk_frozen B3.out 3; have t4 : w9.cell? ⟨g3, 4, none⟩ = some (.slice none 0 0) := (blk_cell B3.out 4).trans rfl; have tf4 := blk_frozen B3.out 4; ))
  refine bodyPost_ret (results_cell_row rfl _ _ g2 31 #[(.int .i64 x.f0), (.int .i64 x.f1), (.string x.f2), (.slice Ao x.f3.length co), (.slice Bo (laws_toJson.toJL x.f4).length do_)] (0, 0) _ rfl (by (with_reducible repeat (first | refine blk_drewN ?_ _ | refine blk_drew ?_ | refine blk_alloc ?_ _)); refine blk_put (cs := #[(.int .i64 x.f0), (.int .i64 x.f1), (.string x.f2), (.slice Ao x.f3.length co), (.slice none 0 0)]) ?_ 4 _ rfl; (with_reducible repeat (first | refine blk_drewN ?_ _ | refine blk_drew ?_ | refine blk_alloc ?_ _)); refine blk_put (cs := #[(.int .i64 x.f0), (.int .i64 x.f1), (.string x.f2), (.slice none 0 0), (.slice none 0 0)]) ?_ 3 _ rfl; (with_reducible repeat (first | refine blk_drewN ?_ _ | refine blk_drew ?_ | refine blk_alloc ?_ _)); refine blk_put (cs := #[(.int .i64 x.f0), (.int .i64 x.f1), (.string (⟨#[]⟩ : ByteArray)), (.slice none 0 0), (.slice none 0 0)]) ?_ 2 _ rfl; (with_reducible repeat (first | refine blk_drewN ?_ _ | refine blk_drew ?_ | refine blk_alloc ?_ _)); refine blk_put (cs := #[(.int .i64 x.f0), (.int .i64 0), (.string (⟨#[]⟩ : ByteArray)), (.slice none 0 0), (.slice none 0 0)]) ?_ 1 _ rfl; (with_reducible repeat (first | refine blk_drewN ?_ _ | refine blk_drew ?_ | refine blk_alloc ?_ _)); refine blk_put (cs := #[(.int .i64 0), (.int .i64 0), (.string (⟨#[]⟩ : ByteArray)), (.slice none 0 0), (.slice none 0 0)]) ?_ 0 _ rfl; (with_reducible repeat (first | refine blk_drewN ?_ _ | refine blk_drew ?_ | refine blk_alloc ?_ _)); refine blk_far ?_ N23.out _; (with_reducible repeat (first | refine blk_drewN ?_ _ | refine blk_drew ?_ | refine blk_alloc ?_ _)); exact B2.out) Tryd.underlying31 rfl (by kernel_rfl)) rfl ?_
  exact ⟨_, _, rfl, by (with_reducible repeat (first | apply Kd.R_alloc | apply Kd.R_drewN | apply Kd.R_drew)); exact Kd.R_mono (Kd.R_far (p := ⟨g2, 4, none⟩) (Kd.R_far (p := ⟨g2, 3, none⟩) (Kd.R_far (p := ⟨g2, 2, none⟩) (Kd.R_far (p := ⟨g2, 1, none⟩) (Kd.R_far (p := ⟨g2, 0, none⟩) (Kd.R_far (p := ⟨g3, 4, none⟩) (Kd.R_types (Kd.R_types HO3.out B3.out (by decide)) B2.out (by decide)) (fun _ hk => hk.1.2) _) (fun _ hk => hk.2) _) (fun _ hk => hk.2) _) (fun _ hk => hk.2) _) (fun _ hk => hk.2) _) (fun _ hk => hk.2) _) (fun _ _ => trivial), by (with_reducible repeat (first | apply Kd.R_alloc | apply Kd.R_drewN | apply Kd.R_drew)); exact Kd.R_mono (Kd.R_far (p := ⟨g2, 4, none⟩) (Kd.R_far (p := ⟨g2, 3, none⟩) (Kd.R_far (p := ⟨g2, 2, none⟩) (Kd.R_far (p := ⟨g2, 1, none⟩) (Kd.R_far (p := ⟨g2, 0, none⟩) (Kd.R_far (p := ⟨g3, 4, none⟩) HO4.out (fun _ hk => hk.2.1) _) (fun _ hk => hk.1) _) (fun _ hk => hk.1) _) (fun _ hk => hk.1) _) (fun _ hk => hk.1) _) (fun _ hk => hk.1) _) (fun _ h_ => h_.2.2), (by repeat (first | (with_reducible first | exact HB.out | apply below_alloc | apply pw_below_drewN | apply below_drew1 | refine below_set ?_ GE3.out | refine below_set ?_ GE2.out) | exact HB.out))⟩
theorem laws_toJson.info : (Tryd.prog.info? 31).map (fun i => (i.zero, i.size, i.bytes)) = some (some (.agg #[.int .i64 0, .int .i64 0, .string ⟨#[]⟩, .slice none 0 0, .slice none 0 0]), 5, 80) := by kernel_rfl
theorem laws_toJson.toJL_get (l : List S25) (n : Nat) (h : n < l.length) : (laws_toJson.toJL l)[n]? = some (⟨(rd_T25 l (n : Int)).f0, (rd_T25 l (n : Int)).f1, (rd_T25 l (n : Int)).f2, (rd_T25 l (n : Int)).f3, laws_toJson.toJL (rd_T25 l (n : Int)).f4⟩ : S31) := by
  rw [laws_toJson.toJL_map, List.getElem?_map, List.getElem?_eq_getElem h]
  have e : rd_T25 l (n : Int) = l[n] := by simp [rd_T25, List.getD, h]
  rw [e, Option.map_some]
  cases l[n]; rw [laws_toJson.toJ]
set_option maxHeartbeats 8000000 in
set_option maxRecDepth 100000 in
theorem laws_toJson.ownS (l : List S25) (hp : ∀ i : Nat, i < l.length → laws_toJson.P (rd_T25 l (i : Int))) (hok : laws_toJson.okJL l = true) (A : Option Addr) (c : Nat) (w : World) (hr : Kd.C k25 w A l.length l) (hc : l.length ≤ c) (hl : l.length ≤ 1048576) :
    Calls Tryd.prog 14 #[.slice A l.length c] w fun e w' => ∃ v0_ : Value, e = .returned v0_ ∧ Kd.R k31 31 w' w.heap.size (fun _ => True) v0_ (laws_toJson.toJL l) ∧ Below w.heap.size w w' := by
  have HR := Aside0.mk hr
  have HP := Aside0.mk hp
  have HK := Aside0.mk (laws_toJson.okJL_all l hok)
  have HB := Aside0.mk (Below.refl w.heap.size w)
  clear hr hp hok
  go_enter Tryd.func14, Tryd.ntmps14
  go_wp2_with (first | ((with_reducible refine gate_dst (N := 7) rfl ?_); refine Kd.R_make k31 _ 31 rfl (N := 7) rfl 29 _ _ rfl (l.length : Int) rfl rfl Tryd.underlying29 (.agg #[.int .i64 0, .int .i64 0, .string ⟨#[]⟩, .slice none 0 0, .slice none 0 0]) 80 laws_toJson.info rfl (by decide) (by omega) z31 (ok := fun _ => True) (okp := fun _ => True) (k31_mkM _ _ _ z31 (v3 := .slice none 0 0) (Kd.R_nil _ _ _ _ _) (v4 := .slice none 0 0) (Kd.R_nil _ _ _ _ _)) (fun _ hk => hk) trivial (by omega) (by omega) (Below.refl _ _) (Nat.le_refl _) ?_; intro v5 w4 ho hb hg_ hnew_; clear hg_ hnew_; have n0 := Aside0.mk (Kd.R_lower ho (below_size HB.out)); have n1 := Aside0.mk (below_step HB.out hb); clear HB ho hb; have HO := n0; have HB := n1; clear n0 n1))
  simp only [Int.toNat_natCast] at HO
  go_loopw [4] (fun i W => ∃ (n d : Nat) (y : List S31), n + d = l.length ∧ i = .int .i64 (n : Int) ∧ Aside0 (y = (laws_toJson.toJL l).take n ++ List.replicate d z31) ∧ Aside0 (Kd.R k31 31 W w.heap.size (fun _ => True) v5 y) ∧ Below w.heap.size w W) (fun i _ => l.length - (intOf i).toNat)
  case atStart => exact ⟨0, l.length, _, by omega, rfl, ⟨rfl⟩, by simpa using HO, HB.out⟩
  case round =>
    clear HB HO
    obtain ⟨n, d, y, hd, rfl, HY, HO, hb⟩ := hrel
    have HB := Aside0.mk hb
    clear hb
    cases d with
    | zero =>
      have hdec : decide ((n : Int) < (l.length : Int)) = false := decide_eq_false (by omega)
      go_wp2
      go_ret
      exact ⟨_, rfl, by have h1 := HO.out; rw [HY.out, List.replicate_zero, List.append_nil, List.take_of_length_le (by rw [laws_toJson.toJL_len]; omega)] at h1; exact h1, HB.out⟩
    | succ d =>
      have p : 0 ≤ (n : Int) := by omega
      have q : (n : Int) < (l.length : Int) := by omega
      have hdec : decide ((n : Int) < (l.length : Int)) = true := decide_eq_true q
      have hylen : y.length = l.length := by rw [HY.out, List.length_append, List.length_take, List.length_replicate, laws_toJson.toJL_len]; omega
      obtain ⟨go, co0, ev, gb, gl, _⟩ := Kd.R_form HO.out (by rw [hylen]; omega)
      rw [hylen] at ev
      subst ev
      obtain ⟨ad, A3, c3, A4, c4, ea, hx0, hx1, hx2, hx3, hx4, l3, g3, l4, g4⟩ := at_T25 (Kd.C_below HR.out HB.out) (n : Int) p q
      cases ea
      simp only [Int.toNat_natCast] at hx0 hx1 hx2 hx3 hx4
      have hm : rd_T25 l (n : Int) ∈ l := by simp [rd_T25, List.getD, (by omega : n < l.length)]
      have HC := Aside0.mk (HP.out n (by omega) A3 c3 A4 c4 wr g3 l3 g4 l4 (HK.out _ hm))
      clear hm g3 g4
      go_wp2_with (first | (go_at_call 6; refine HC.out.mono ?_; rintro e w11 ⟨v3, v4, rfl, h3, h4, hb⟩; obtain ⟨Ao, co, eo⟩ := Kd.R_slice h3; subst eo; obtain ⟨Bo, do_, eo⟩ := Kd.R_slice h4; subst eo; have HX := Aside0.mk (Kd.R_below HO.out hb); have g3 := Kd.R_lower (Kd.R_mono (ok' := fun k => True ∧ k ≠ go) (Kd.R_bound h3) (fun k hk => ⟨trivial, fun h_ => absurd hk.2.1 (by rw [h_]; exact Nat.not_le_of_lt gl)⟩)) (below_size HB.out); have g4 := Kd.R_lower (Kd.R_mono (ok' := fun k => True ∧ k ≠ go) (Kd.R_bound h4) (fun k hk => ⟨trivial, fun h_ => absurd hk.2.1 (by rw [h_]; exact Nat.not_le_of_lt gl)⟩)) (below_size HB.out); obtain ⟨ce, hcl, hM, hcc, hfr⟩ := Kd.R_elem HX.out z31 (n : Int) p q; obtain ⟨u3, u4, rfl, _, _⟩ := k31_openM hM; simp only [Int.toNat_natCast] at hcc hfr; have HP12 := Aside0.mk (Kd.R_seg HX.out (n : Int) p q (seg := [(.int .i64 (rd_T25 l (n : Int)).f0), (.int .i64 (rd_T25 l (n : Int)).f1), (.string (rd_T25 l (n : Int)).f2), (.slice Ao (rd_T25 l (n : Int)).f3.length co), (.slice Bo (laws_toJson.toJL (rd_T25 l (n : Int)).f4).length do_)]) (j := 0) hcl (by simpa only [Int.toNat_natCast] using hcc) (show 5 ≤ 5 from by decide) (x' := (⟨(rd_T25 l (n : Int)).f0, (rd_T25 l (n : Int)).f1, (rd_T25 l (n : Int)).f2, (rd_T25 l (n : Int)).f3, laws_toJson.toJL (rd_T25 l (n : Int)).f4⟩ : S31)) (k31_mkM _ _ _ (⟨(rd_T25 l (n : Int)).f0, (rd_T25 l (n : Int)).f1, (rd_T25 l (n : Int)).f2, (rd_T25 l (n : Int)).f3, laws_toJson.toJL (rd_T25 l (n : Int)).f4⟩ : S31) g3 g4) (fun _ hk => hk)); have y0 : w11.cell? ⟨go, n * 5, none⟩ = some _ := hcc 0 _ rfl; have yf0 : w11.frozen? ⟨go, n * 5, none⟩ = false := hfr 0; have y1 : w11.cell? ⟨go, n * 5 + 1, none⟩ = some _ := hcc 1 _ rfl; have yf1 : w11.frozen? ⟨go, n * 5 + 1, none⟩ = false := hfr 1; have y2 : w11.cell? ⟨go, n * 5 + 2, none⟩ = some _ := hcc 2 _ rfl; have yf2 : w11.frozen? ⟨go, n * 5 + 2, none⟩ = false := hfr 2; have y3 : w11.cell? ⟨go, n * 5 + 3, none⟩ = some _ := hcc 3 _ rfl; have yf3 : w11.frozen? ⟨go, n * 5 + 3, none⟩ = false := hfr 3; have y4 : w11.cell? ⟨go, n * 5 + 4, none⟩ = some _ := hcc 4 _ rfl; have yf4 : w11.frozen? ⟨go, n * 5 + 4, none⟩ = false := hfr 4; have n0 := Aside0.mk (below_step HB.out hb); clear HB HX hcl hcc hfr hM g3 g4 h3 h4 hb; have HB := n0; clear n0) | ((with_reducible refine gate_store (t := 31) (p := 21) rfl ?_); refine store_event (t := 31) (p := 21) (v := ?vo_) (w1 := (((((w11.setCell ⟨go, n * 5, none⟩ (.int .i64 (rd_T25 l (n : Int)).f0)).setCell ⟨go, n * 5 + 1, none⟩ (.int .i64 (rd_T25 l (n : Int)).f1)).setCell ⟨go, n * 5 + 2, none⟩ (.string (rd_T25 l (n : Int)).f2)).setCell ⟨go, n * 5 + 3, none⟩ (.slice Ao (rd_T25 l (n : Int)).f3.length co)).setCell ⟨go, n * 5 + 4, none⟩ (.slice Bo (laws_toJson.toJL (rd_T25 l (n : Int)).f4).length do_))) ?hg ?ho ?hn ?hr ?_; (case ho => rfl); (case hg => rfl); (case hn => rfl); (case hr => first | (go_simp; done) | (go_simp; rfl)); intro w13 hw; have n0 := Aside0.mk (by rw [hw]; exact HP12.out.1 : Kd.R k31 31 w13 w.heap.size (fun _ => True) (.slice (some ⟨go, 0, none⟩) l.length co0) (y.set (n : Int).toNat (⟨(rd_T25 l (n : Int)).f0, (rd_T25 l (n : Int)).f1, (rd_T25 l (n : Int)).f2, (rd_T25 l (n : Int)).f3, laws_toJson.toJL (rd_T25 l (n : Int)).f4⟩ : S31))); have n1 := Aside0.mk ((by rw [hw]; exact below_set (below_set (below_set (below_set (below_set (HB.out) gb) gb) gb) gb) gb : Below w.heap.size w w13)); clear HB HP12 hw HO; have HO := n0; have HB := n1; clear n0 n1))
      go_roundw
      case rel => exact ⟨n + 1, d, _, by omega, by go_num, ⟨by rw [HY.out, Int.toNat_natCast]; exact laws_toJson.set_ _ z31 n d (by rw [laws_toJson.toJL_len]; omega) _ (laws_toJson.toJL_get l n (by omega))⟩, HO, HB.out⟩
      case measure => simp [intOf]; omega
theorem laws_toJson.all (x : S25) : laws_toJson.P x := by
  have : ∀ n : Nat, ∀ x : S25, SizeOf.sizeOf x < n → laws_toJson.P x := by
    intro n
    induction n with
    | zero => intro x h; omega
    | succ n ih =>
      intro x h
      refine laws_toJson.own1 x fun hok A c w hr hc hl => laws_toJson.ownS x.f4 (fun i hi => ih _ ?_) hok A c w hr hc hl
      have hm : rd_T25 x.f4 (i : Int) ∈ x.f4 := by simp [rd_T25, List.getD, hi]
      have h1 := List.sizeOf_lt_of_mem hm
      have h2 : SizeOf.sizeOf x = 1 + SizeOf.sizeOf x.f0 + SizeOf.sizeOf x.f1 + SizeOf.sizeOf x.f2 + SizeOf.sizeOf x.f3 + SizeOf.sizeOf x.f4 := by cases x; simp
      omega
  exact this _ x (Nat.lt_succ_self _)
def laws_toJson.f (a0_0 : Int) (a0_1 : Int) (a0_2 : ByteArray) (l0_3 : List ByteArray) (l0_4 : List (S25)) : Option (Int × Int × ByteArray × List ByteArray × List (S31)) := if laws_toJson.okJ ⟨a0_0, a0_1, a0_2, l0_3, l0_4⟩ = true then some (a0_0, a0_1, a0_2, l0_3, laws_toJson.toJL l0_4) else none
theorem laws_toJson.calls (a0_0 : Int) (a0_1 : Int) (a0_2 : ByteArray) (A0_3 : Option Addr) (c0_3 : Nat) (l0_3 : List ByteArray) (A0_4 : Option Addr) (c0_4 : Nat) (l0_4 : List (S25)) (r1 : Int) (r2 : Int) (r3 : ByteArray) (r4 : List ByteArray) (r5 : List (S31)) (w : World) (hr0_3 : Kd.C Kd.string w A0_3 l0_3.length l0_3) (hc0_3 : l0_3.length ≤ c0_3) (hr0_4 : Kd.C k25 w A0_4 l0_4.length l0_4) (hc0_4 : l0_4.length ≤ c0_4) (h : laws_toJson.f a0_0 a0_1 a0_2 l0_3 l0_4 = some (r1, r2, r3, r4, r5)) :
    Calls Tryd.prog 6 #[.agg #[.int .i64 a0_0, .int .i64 a0_1, .string a0_2, .slice A0_3 l0_3.length c0_3, .slice A0_4 l0_4.length c0_4]] w fun e w' => ∃ v3_ v4_ : Value, e = .returned (.agg #[.int .i64 r1, .int .i64 r2, .string r3, v3_, v4_]) ∧ Kd.R Kd.string 9 w' w.heap.size (fun _ => True) v3_ r4 ∧ Kd.R k31 31 w' w.heap.size (fun k_ => some k_ ≠ v3_.ownBlock) v4_ r5 ∧ Below w.heap.size w w' := by
  unfold laws_toJson.f at h
  split at h
  · rename_i he
    simp only [Option.some.injEq, Prod.mk.injEq] at h
    obtain ⟨rfl, rfl, rfl, rfl, rfl⟩ := h
    exact laws_toJson.all ⟨a0_0, a0_1, a0_2, l0_3, l0_4⟩ A0_3 c0_3 A0_4 c0_4 w hr0_3 hc0_3 hr0_4 hc0_4 he
  · cases h

/-! ### impl_within: function 27 -/
def impl_within.f (a0 : Int) (a1 : Int) (a2 : Int) : Option (Bool) := if a1 ≤ a0 then (some (decide (a0 ≤ a2))) else (some false)
set_option maxHeartbeats 8000000 in
set_option maxRecDepth 100000 in
theorem impl_within.calls (a0 : Int) (a1 : Int) (a2 : Int) (r : Bool) (w : World) (h : impl_within.f a0 a1 a2 = some r) :
    Calls Tryd.prog 27 #[.int .i64 a0, .int .i64 a1, .int .i64 a2] w fun e w' => e = .returned (.bool r) ∧ Drawn0 w w' := by
 have H : (if a1 ≤ a0 then (some (decide (a0 ≤ a2))) else (some false)) = some r := h
 clear h
 by_cases c4 : a1 ≤ a0
 ·
  rw [if_pos c4] at H
  have c4b0 : decide (a1 ≤ a0) = true := decide_eq_true c4
  clear c4
  obtain rfl := Option.some.inj H
  go_enter Tryd.func27, Tryd.ntmps27
  go_wp2
  go_ret
  exact ⟨by first | rfl | (simp; done) | (simp [*]; done) | (simp only [bne_empty_]; rfl), by repeat (first | exact Drawn0.refl _ | apply Drawn0.step)⟩
 ·
  rw [if_neg c4] at H
  have c4b0 : decide (a1 ≤ a0) = false := decide_eq_false c4
  clear c4
  obtain rfl := Option.some.inj H
  go_enter Tryd.func27, Tryd.ntmps27
  go_wp2
  go_ret
  exact ⟨by first | rfl | (simp; done) | (simp [*]; done) | (simp only [bne_empty_]; rfl), by repeat (first | exact Drawn0.refl _ | apply Drawn0.step)⟩

/-! ### slices_Index_string_string: function 35 -/
def slices_Index_string_string.l0 : Nat → List ByteArray → ByteArray → Int → Int → Option (Int)
  | 0, _, _, _, _ => none
  | k + 1, x0, x1, x7, x8 => if x8 < x7 then (if 0 ≤ x8 then (if x8 < (x0.length : Int) then (if x1.toList = (rdOf ByteArray.empty x0 x8).toList then (some x8) else (slices_Index_string_string.l0 k x0 x1 x7 (wrap64 (x8 + 1)))) else (none)) else (none)) else (some (-1))
def slices_Index_string_string.f (k : Nat) (l0 : List ByteArray) (a1 : ByteArray) : Option (Int) := slices_Index_string_string.l0 k l0 a1 (l0.length : Int) 0
theorem slices_Index_string_string.mono_l : ∀ k, (∀ y0 y1 y2 y3, LeO (slices_Index_string_string.l0 k y0 y1 y2 y3) (slices_Index_string_string.l0 (k + 1) y0 y1 y2 y3))
  | 0 => fun _ _ _ _ r h => by simp [slices_Index_string_string.l0] at h
  | k + 1 => by
    have ih0 := slices_Index_string_string.mono_l k
    · intro y0 y1 y2 y3
      unfold slices_Index_string_string.l0
      repeat' first
      | (with_reducible exact ih0 _ _ _ _)
      | (with_reducible exact LeO.refl _)
      | (with_reducible exact LeO.none _)
      | (with_reducible refine LeO.ite ?_ ?_)
      | (with_reducible refine LeO.bind ?_ (fun _ => ?_))
      | exact ih0 _ _ _ _
      | exact LeO.none _
      | refine LeO.ite ?_ ?_
      | refine LeO.bind ?_ (fun _ => ?_)
theorem slices_Index_string_string.mono : ∀ a0 a1 k, LeO (slices_Index_string_string.f k a0 a1) (slices_Index_string_string.f (k + 1) a0 a1) := by
  intro a0 a1 k
  have ih0 := slices_Index_string_string.mono_l k
  unfold slices_Index_string_string.f
  repeat' first
      | (with_reducible exact ih0 _ _ _ _)
      | (with_reducible exact LeO.refl _)
      | (with_reducible exact LeO.none _)
      | (with_reducible refine LeO.ite ?_ ?_)
      | (with_reducible refine LeO.bind ?_ (fun _ => ?_))
      | exact ih0 _ _ _ _
      | exact LeO.none _
      | refine LeO.ite ?_ ?_
      | refine LeO.bind ?_ (fun _ => ?_)
set_option maxHeartbeats 8000000 in
set_option maxRecDepth 100000 in
theorem slices_Index_string_string.calls (k : Nat) (A0 : Option Addr) (c0 : Nat) (l0 : List ByteArray) (a1 : ByteArray) (r : Int) (w : World) (hr0 : Kd.C Kd.string w A0 l0.length l0) (hc0 : l0.length ≤ c0) (h : slices_Index_string_string.f k l0 a1 = some r) :
    Calls Tryd.prog 35 #[.slice A0 l0.length c0, .string a1] w fun e w' => e = .returned (.int .i64 r) ∧ Drawn0 w w' := by
 have HR0 := Aside0.mk hr0
 have HC0 := Aside0.mk hc0
 clear hr0 hc0
 have H : (slices_Index_string_string.l0 k l0 a1 (l0.length : Int) 0) = some r := h
 clear h
 have H' := Aside0.mk H
 clear H
 go_enter Tryd.func35, Tryd.ntmps35
 go_wp2
 go_loopg [8] k (fun kq v8 w' => ∃ (x8_1 : Int), v8 = .int .i64 x8_1 ∧ Aside0 (slices_Index_string_string.l0 kq l0 a1 (l0.length : Int) x8_1 = some r) ∧ Aside0 (kq ≤ k) ∧ Drawn0 w w')
 case atStart => exact ⟨(0), eqE_, H', ⟨Nat.le_refl _⟩, by repeat (first | exact Drawn0.refl _ | apply Drawn0.step)⟩
 case round =>
  clear H'
  obtain ⟨x8_1, rfl, HA, HK1, ⟨m1, rfl⟩⟩ := hrel
  cases gk with
  | zero => exact absurd HA.out (by simp [slices_Index_string_string.l0])
  | succ k1 =>
   have H := HA.out
   clear HA
   simp only [slices_Index_string_string.l0] at H
   by_cases c3 : x8_1 < (l0.length : Int)
   ·
    rw [if_pos c3] at H
    have c3b0 : decide (x8_1 < (l0.length : Int)) = true := decide_eq_true c3
    clear c3
    by_cases c4 : 0 ≤ x8_1
    ·
     rw [if_pos c4] at H
     have c4b0 : decide (0 ≤ x8_1) = true := decide_eq_true c4
     clear c4
     by_cases c5 : x8_1 < (l0.length : Int)
     ·
      rw [if_pos c5] at H
      have c5b0 : decide (x8_1 < (l0.length : Int)) = true := decide_eq_true c5
      clear c5
      by_cases c6 : a1.toList = (rdOf ByteArray.empty l0 x8_1).toList
      ·
       rw [if_pos c6] at H
       have c6b0 : (a1.toList == (rdOf ByteArray.empty l0 x8_1).toList) = true := beq_iff_eq.mpr c6
       have c6b1 : (a1.toList != (rdOf ByteArray.empty l0 x8_1).toList) = false := bne_eq_false_iff_eq.mpr c6
       clear c6
       obtain rfl := Option.some.inj H
       have p147 : 0 ≤ (x8_1 : Int) := of_decide_eq_true (by first | (with_reducible assumption) | assumption)
       have q147 : x8_1 < (l0.length : Int) := of_decide_eq_true (by first | (with_reducible assumption) | assumption)
       obtain ⟨ad147, e147, hx147_0⟩ := Kd.at_string HR0.out x8_1 p147 q147
       cases e147
       replace p147 := eq_true p147
       replace q147 := eq_true q147
       go_wp2
       go_ret
       exact ⟨by first | rfl | (simp; done) | (simp [*]; done) | (simp only [bne_empty_]; rfl), by repeat (first | exact Drawn0.refl _ | apply Drawn0.step)⟩
      ·
       rw [if_neg c6] at H
       have c6b0 : (a1.toList == (rdOf ByteArray.empty l0 x8_1).toList) = false := beq_eq_false_iff_ne.mpr c6
       have c6b1 : (a1.toList != (rdOf ByteArray.empty l0 x8_1).toList) = true := bne_iff_ne.mpr c6
       have H' := Aside0.mk H
       clear H
       have p147 : 0 ≤ (x8_1 : Int) := of_decide_eq_true (by first | (with_reducible assumption) | assumption)
       have q147 : x8_1 < (l0.length : Int) := of_decide_eq_true (by first | (with_reducible assumption) | assumption)
       obtain ⟨ad147, e147, hx147_0⟩ := Kd.at_string HR0.out x8_1 p147 q147
       cases e147
       replace p147 := eq_true p147
       replace q147 := eq_true q147
       go_wp2
       go_roundg k1
       case measure => have := HK1.out; omega
       case rel => exact ⟨(wrap64 (x8_1 + 1)), eqE_, H', ⟨by have := HK1.out; omega⟩, by repeat (first | exact Drawn0.refl _ | apply Drawn0.step)⟩
     ·
      rw [if_neg c5] at H
      exact absurd H (by simp)
    ·
     rw [if_neg c4] at H
     exact absurd H (by simp)
   ·
    rw [if_neg c3] at H
    have c3b0 : decide (x8_1 < (l0.length : Int)) = false := decide_eq_false c3
    clear c3
    obtain rfl := Option.some.inj H
    go_wp2
    go_ret
    exact ⟨by first | rfl | (simp; done) | (simp [*]; done) | (simp only [bne_empty_]; rfl), by repeat (first | exact Drawn0.refl _ | apply Drawn0.step)⟩

/-! ### slices_Contains_string_string: function 28 -/
def slices_Contains_string_string.f (k : Nat) (l0 : List ByteArray) (a1 : ByteArray) : Option (Bool) := (slices_Index_string_string.f k l0 a1).bind fun t148 => (some (decide (t148 ≥ 0)))
theorem slices_Contains_string_string.mono : ∀ a0 a1 k, LeO (slices_Contains_string_string.f k a0 a1) (slices_Contains_string_string.f (k + 1) a0 a1) := by
  intro a0 a1 k
  unfold slices_Contains_string_string.f
  repeat' first
      | (with_reducible exact slices_Index_string_string.mono _ _ _)
      | (with_reducible exact LeO.refl _)
      | (with_reducible exact LeO.none _)
      | (with_reducible refine LeO.ite ?_ ?_)
      | (with_reducible refine LeO.bind ?_ (fun _ => ?_))
      | exact slices_Index_string_string.mono _ _ _
      | exact LeO.none _
      | refine LeO.ite ?_ ?_
      | refine LeO.bind ?_ (fun _ => ?_)
set_option maxHeartbeats 8000000 in
set_option maxRecDepth 100000 in
theorem slices_Contains_string_string.calls (k : Nat) (A0 : Option Addr) (c0 : Nat) (l0 : List ByteArray) (a1 : ByteArray) (r : Bool) (w : World) (hr0 : Kd.C Kd.string w A0 l0.length l0) (hc0 : l0.length ≤ c0) (h : slices_Contains_string_string.f k l0 a1 = some r) :
    Calls Tryd.prog 28 #[.slice A0 l0.length c0, .string a1] w fun e w' => e = .returned (.bool r) ∧ Drawn0 w w' := by
 have HR0 := Aside0.mk hr0
 have HC0 := Aside0.mk hc0
 clear hr0 hc0
 have H : ((slices_Index_string_string.f k l0 a1).bind fun t148 => (some (decide (t148 ≥ 0)))) = some r := h
 clear h
 obtain ⟨t148, A3, H⟩ := bindE_ H
 obtain rfl := Option.some.inj H
 go_enter Tryd.func28, Tryd.ntmps28
 go_wp2_with (first | ((with_reducible refine gate_callee (f := 35) rfl ?_); refine cU_ (some 7) Tryd.func35 #[.slice A0 l0.length c0, .string a1] ?_; (with_reducible refine (slices_Index_string_string.calls k _ _ l0 a1 t148 _ ?side1 ?side2 A3.out).mono ?_); (case side1 => repeat (first | exact HR0.out | (with_reducible refine Kd.C_alloc ?_ _) | (with_reducible refine Kd.C_drewN ?_ _) | (with_reducible refine Kd.C_drew ?_))); (case side2 => exact HC0.out); rintro e w' ⟨rfl, ⟨nd, rfl⟩⟩; refine ⟨_, rfl, ?_⟩))
 go_ret
 exact ⟨by first | rfl | (simp; done) | (simp [*]; done) | (simp only [bne_empty_]; rfl), by repeat (first | exact Drawn0.refl _ | apply Drawn0.step)⟩

/-! ### impl_Json_valid: function 23, by hand -/
/-- The first place, of d from i on, that b tells. -/
def impl_Json_valid.idxB (b : Nat → Bool) : Nat → Nat → Int
  | 0, _ => -1
  | d + 1, i => if b i = true then (i : Int) else impl_Json_valid.idxB b d (i + 1)
/-- What a function value answers at an element in memory. -/
abbrev impl_Json_valid.Ans (g : Nat) (lb : Array Value) (W : World) (x : S31) (r : Bool) : Prop := ∀ (A3 : Option Addr) (c3 : Nat) (A4 : Option Addr) (c4 : Nat), Kd.C Kd.string W A3 x.f3.length x.f3 → x.f3.length ≤ c3 → Kd.C k31 W A4 x.f4.length x.f4 → x.f4.length ≤ c4 →
  Calls Tryd.prog g (#[.agg #[(.int .i64 x.f0), (.int .i64 x.f1), (.string x.f2), (.slice A3 x.f3.length c3), (.slice A4 x.f4.length c4)]] ++ lb) W fun e w' => e = .returned (.bool r) ∧ Below W.heap.size W w'
set_option maxHeartbeats 4000000 in
theorem impl_Json_valid.idxF (g : Nat) (lb : Array Value) (eg : ∀ args w, (callFunc g args).run Tryd.prog w = .ok (.enter g args) w) (b : Nat → Bool) (A : Option Addr) (c : Nat) (l : List S31) (w : World) (hr : Kd.C k31 w A l.length l)
    (hp : ∀ (W : World) (i : Nat), i < l.length → Below w.heap.size w W → impl_Json_valid.Ans g lb W (rd_T31 l (i : Int)) (b i)) :
    Calls Tryd.prog 36 #[.slice A l.length c, .func (.func g) #[] lb] w fun e w' => e = .returned (.int .i64 (impl_Json_valid.idxB b l.length 0)) ∧ Below w.heap.size w w' := by
  have HR := Aside0.mk hr
  have HP := Aside0.mk hp
  have hlen := hr.2.1
  clear hr hp
  go_enter Tryd.func36, Tryd.ntmps36
  go_wp2
  go_loopw [5, 8] (fun _ i W => ∃ n d : Nat, n + d = l.length ∧ i = .int .i64 (n : Int) ∧ impl_Json_valid.idxB b d n = impl_Json_valid.idxB b l.length 0 ∧ Below w.heap.size w W) (fun _ i _ => l.length - (intOf i).toNat)
  case atStart => exact ⟨0, l.length, by omega, rfl, rfl, Below.refl _ _⟩
  case round =>
    obtain ⟨n, d, hd, rfl, hk, hb⟩ := hrel
    have HK := Aside0.mk hk
    have HB := Aside0.mk hb
    clear hk hb
    cases d with
    | zero =>
      have hdec : decide ((n : Int) < (l.length : Int)) = false := decide_eq_false (by omega)
      go_wp2
      go_ret
      exact ⟨by rw [← HK.out]; rfl, HB.out⟩
    | succ d =>
      have p : 0 ≤ (n : Int) := by omega
      have q : (n : Int) < (l.length : Int) := by omega
      have hdec : decide ((n : Int) < (l.length : Int)) = true := decide_eq_true q
      obtain ⟨ad, A3, c3, A4, c4, ea, hx0, hx1, hx2, hx3, hx4, l3, g3, l4, g4⟩ := at_T31 (Kd.C_below HR.out HB.out) (n : Int) p q
      cases ea
      simp only [Int.toNat_natCast] at hx0 hx1 hx2 hx3 hx4
      have hcall := HP.out wr n (by omega) HB.out A3 c3 A4 c4 g3 l3 g4 l4
      clear g3 g4
      have hk := HK.out
      rw [impl_Json_valid.idxB] at hk
      cases hbn : b n with
      | true =>
        rw [hbn] at hcall hk
        rw [if_pos rfl] at hk
        have HK' := Aside0.mk hk
        clear hk HK hbn
        go_wp2
        refine hcall.mono ?_
        rintro e w' ⟨rfl, hb'⟩
        go_wp2
        go_ret
        exact ⟨by rw [← HK'.out]; rfl, below_step HB.out hb'⟩
      | false =>
        rw [hbn] at hcall hk
        rw [if_neg Bool.false_ne_true] at hk
        have HK' := Aside0.mk hk
        clear hk HK hbn
        go_wp2
        refine hcall.mono ?_
        rintro e w' ⟨rfl, hb'⟩
        go_wp2
        go_roundw
        case rel => exact ⟨n + 1, d, by omega, by go_num, HK'.out, below_step HB.out hb'⟩
        case measure => simp [intOf]; omega
theorem impl_Json_valid.conF (g : Nat) (lb : Array Value) (eg : ∀ args w, (callFunc g args).run Tryd.prog w = .ok (.enter g args) w) (b : Nat → Bool) (A : Option Addr) (c : Nat) (l : List S31) (w : World) (hr : Kd.C k31 w A l.length l)
    (hp : ∀ (W : World) (i : Nat), i < l.length → Below w.heap.size w W → impl_Json_valid.Ans g lb W (rd_T31 l (i : Int)) (b i)) :
    Calls Tryd.prog 29 #[.slice A l.length c, .func (.func g) #[] lb] w fun e w' => e = .returned (.bool (decide (0 ≤ impl_Json_valid.idxB b l.length 0))) ∧ Below w.heap.size w w' := by
  have H := impl_Json_valid.idxF g lb eg b A c l w hr hp
  clear hr hp
  generalize impl_Json_valid.idxB b l.length 0 = t at H ⊢
  go_enter Tryd.func29, Tryd.ntmps29
  go_wp2_with (go_at_call 36; refine H.mono ?_; rintro e w' ⟨rfl, hb'⟩)
  go_ret
  exact ⟨by simp, hb'⟩
set_option maxHeartbeats 4000000 in
theorem impl_Json_valid.clo (x : S31) (dp : Int) (r : Bool) (g : Nat) (W : World) (h : W.heap[g]? = some (.cells #[.int .i64 dp] 3 (0, 0))) (hr : ∀ W', Below W.heap.size W W' → ∀ (A3 : Option Addr) (c3 : Nat) (A4 : Option Addr) (c4 : Nat), Kd.C Kd.string W' A3 x.f3.length x.f3 → x.f3.length ≤ c3 → Kd.C k31 W' A4 x.f4.length x.f4 → x.f4.length ≤ c4 →
      Calls Tryd.prog 23 #[.agg #[(.int .i64 x.f0), (.int .i64 x.f1), (.string x.f2), (.slice A3 x.f3.length c3), (.slice A4 x.f4.length c4)], .int .i64 (wrap64 (dp - 1))] W' fun e w' => e = .returned (.bool r) ∧ Below W'.heap.size W' w') : impl_Json_valid.Ans 30 #[.pointer (some ⟨g, 0, none⟩)] W x (!r) := by
  intro A3 c3 A4 c4 h3 l3 h4 l4
  have HC := Aside0.mk (fun W' hw => hr W' hw A3 c3 A4 c4 (Kd.C_below h3 hw) l3 (Kd.C_below h4 hw) l4)
  have BG := Aside0.mk h
  have HB := Aside0.mk (Below.refl W.heap.size W)
  clear hr h h3 h4
  have hu31 := Tryd.underlying31
  show Calls Tryd.prog 30 #[.agg #[(.int .i64 x.f0), (.int .i64 x.f1), (.string x.f2), (.slice A3 x.f3.length c3), (.slice A4 x.f4.length c4)], .pointer (some ⟨g, 0, none⟩)] W _
  go_enter Tryd.func30, Tryd.ntmps30
  go_wp2_with (first | ((with_reducible refine gate_dst (N := 2) rfl ?_); refine box_event ?hg (N := 2) ?hd (cs := #[(.int .i64 x.f0), (.int .i64 x.f1), (.string x.f2), (.slice A3 x.f3.length c3), (.slice A4 x.f4.length c4)]) (t := 31) ?hr ?_; (case hd => rfl); (case hg => rfl); (case hr => first | (go_simp; done) | (go_simp; rfl)); intro g2 hg w2 hx hb; have n0 := Aside0.mk (below_step HB.out hb); have n1 := blk_below BG.out hb; clear HB; have HB := n0; clear n0; have q0 : w2.cell? ⟨g2, 0, none⟩ = some (.int .i64 x.f0) := (blk_cell hx 0).trans rfl; have q1 : w2.cell? ⟨g2, 1, none⟩ = some (.int .i64 x.f1) := (blk_cell hx 1).trans rfl; have q2 : w2.cell? ⟨g2, 2, none⟩ = some (.string x.f2) := (blk_cell hx 2).trans rfl; have q3 : w2.cell? ⟨g2, 3, none⟩ = some (.slice A3 x.f3.length c3) := (blk_cell hx 3).trans rfl; have q4 : w2.cell? ⟨g2, 4, none⟩ = some (.slice A4 x.f4.length c4) := (blk_cell hx 4).trans rfl;  have cg : w2.cell? ⟨g, 0, none⟩ = some (.int .i64 dp) := (blk_cell n1 0).trans rfl; clear n1 hx hb hg) | (go_at_call 23; refine (HC.out _ HB.out).mono ?_; rintro e w' ⟨rfl, hb'⟩; have n0 := Aside0.mk (below_step HB.out hb'); clear HB hb'; have HB := n0; clear n0))
  go_ret
  exact ⟨by first | rfl | simp, HB.out⟩
/-- What a value's kind asks of its number, text, names and items; none: no kind. -/
def impl_Json_valid.hd (k n : Int) (t : ByteArray) (nl xl dp : Int) : Option (Bool × Bool × Bool × Bool) :=
  if k = 1 then some (n == 0, t.toList.isEmpty, nl == 0, xl == 0)
  else if k = 2 then some (decide (0 ≤ n) && decide (n ≤ 1), t.toList.isEmpty, nl == 0, xl == 0)
  else if k = 3 then some (decide (-999999999 ≤ n) && decide (n ≤ 999999999), t.toList.isEmpty, nl == 0, xl == 0)
  else if k = 4 then some (n == 0, decide ((t.size : Int) ≤ 120), nl == 0, xl == 0)
  else if k = 5 then some (n == 0, t.toList.isEmpty, nl == 0, decide (xl ≤ 12) && decide (1 < dp))
  else if k = 6 then some (n == 0, t.toList.isEmpty, (decide (xl ≤ 12) && decide (1 < dp)) && nl == xl, decide (xl ≤ 12) && decide (1 < dp))
  else none
/-- The names from i on (d of them): none too long, none twice. -/
def impl_Json_valid.nmF (ns : List ByteArray) : Nat → Nat → Bool
  | 0, _ => true
  | d + 1, i => if 120 < ((rdOf ByteArray.empty ns (i : Int)).size : Int) then false else if (ns.take i).any (fun s => decide ((rdOf ByteArray.empty ns (i : Int)).toList = s.toList)) = true then false else impl_Json_valid.nmF ns d (i + 1)
def impl_Json_valid.top (k n : Int) (t : ByteArray) (ns : List ByteArray) (xl dp : Int) : Bool :=
  match impl_Json_valid.hd k n t ns.length xl dp with
  | none => false
  | some (a, b, c, d) => if (a && b && c && d) = true then impl_Json_valid.nmF ns ns.length 0 else false
mutual
/-- A value is good. -/
def impl_Json_valid.vJ : S31 → Int → Bool
  | ⟨k, n, t, ns, xs⟩, dp => if dp = 0 then false else if impl_Json_valid.top k n t ns xs.length dp = true then impl_Json_valid.vL xs (wrap64 (dp - 1)) else false
def impl_Json_valid.vL : List S31 → Int → Bool
  | [], _ => true
  | x :: xs, dp => impl_Json_valid.vJ x dp && impl_Json_valid.vL xs dp
end
theorem impl_Json_valid.vJ_eq (x : S31) (dp : Int) : impl_Json_valid.vJ x dp = if dp = 0 then false else if impl_Json_valid.top x.f0 x.f1 x.f2 x.f3 x.f4.length dp = true then impl_Json_valid.vL x.f4 (wrap64 (dp - 1)) else false := by
  cases x; rw [impl_Json_valid.vJ]
theorem impl_Json_valid.idx_vL (l : List S31) (dp : Int) : ∀ (d n : Nat), n + d = l.length → (!decide (0 ≤ impl_Json_valid.idxB (fun i => !impl_Json_valid.vJ (rd_T31 l (i : Int)) dp) d n)) = impl_Json_valid.vL (l.drop n) dp := by
  intro d
  induction d with
  | zero => intro n h; rw [List.drop_eq_nil_of_le (by omega), impl_Json_valid.idxB, impl_Json_valid.vL]; rfl
  | succ d ih =>
    intro n h
    have hn : n < l.length := by omega
    rw [List.drop_eq_getElem_cons hn, impl_Json_valid.vL, ← ih (n + 1) (by omega), impl_Json_valid.idxB]
    have e : rd_T31 l (n : Int) = l[n] := by simp [rd_T31, List.getD, hn]
    rw [e]
    cases impl_Json_valid.vJ l[n] dp <;> simp
theorem impl_Json_valid.idx_l0 (l : List ByteArray) (v : ByteArray) (hl : l.length ≤ 9223372036854775807) : ∀ (d n : Nat), n + d = l.length → ∃ r, slices_Index_string_string.l0 (d + 1) l v (l.length : Int) (n : Int) = some r ∧ decide (r ≥ 0) = (l.drop n).any (fun s => decide (v.toList = s.toList)) := by
  intro d
  induction d with
  | zero => intro n h; rw [slices_Index_string_string.l0, if_neg (by omega), List.drop_eq_nil_of_le (by omega)]; exact ⟨_, rfl, rfl⟩
  | succ d ih =>
    intro n h
    have hn : n < l.length := by omega
    have e : rdOf ByteArray.empty l (n : Int) = l[n] := by simp [rdOf, List.getD, hn]
    rw [slices_Index_string_string.l0, if_pos (by omega), if_pos (by omega), if_pos (by omega), List.drop_eq_getElem_cons hn, e, List.any_cons]
    by_cases hq : v.toList = l[n].toList
    · rw [if_pos hq]; exact ⟨_, rfl, by simp [hq]⟩
    · rw [if_neg hq, show wrap64 ((n : Int) + 1) = ((n + 1 : Nat) : Int) from by unfold wrap64; omega]
      obtain ⟨r, h1, h2⟩ := ih (n + 1) (by omega)
      exact ⟨r, h1, by rw [h2]; simp [hq]⟩
theorem impl_Json_valid.con (l : List ByteArray) (v : ByteArray) (hl : l.length ≤ 9223372036854775807) : slices_Contains_string_string.f (l.length + 1) l v = some (l.any (fun s => decide (v.toList = s.toList))) := by
  obtain ⟨r, h1, h2⟩ := impl_Json_valid.idx_l0 l v hl l.length 0 (by omega)
  rw [slices_Contains_string_string.f, slices_Index_string_string.f]
  rw [show ((0 : Nat) : Int) = 0 from rfl] at h1
  rw [h1, Option.bind_some, h2, List.drop_zero]
theorem impl_Json_valid.wi (a lo hi : Int) : impl_within.f a lo hi = some (decide (lo ≤ a) && decide (a ≤ hi)) := by
  rw [impl_within.f]; by_cases h : lo ≤ a
  · rw [if_pos h, decide_eq_true h]; rfl
  · rw [if_neg h, decide_eq_false h]; rfl
theorem impl_Json_valid.topF {k n : Int} {t : ByteArray} {ns : List ByteArray} {xl dp : Int} {a b c d : Bool} (h : impl_Json_valid.hd k n t ns.length xl dp = some (a, b, c, d)) (hf : (a && b && c && d) = false) : impl_Json_valid.top k n t ns xl dp = false := by
  simp only [impl_Json_valid.top, h]; rw [hf]; rfl
theorem impl_Json_valid.topT {k n : Int} {t : ByteArray} {ns : List ByteArray} {xl dp : Int} {a b c d : Bool} (h : impl_Json_valid.hd k n t ns.length xl dp = some (a, b, c, d)) (hf : (a && b && c && d) = true) : impl_Json_valid.top k n t ns xl dp = impl_Json_valid.nmF ns ns.length 0 := by
  simp only [impl_Json_valid.top, h]; rw [hf]; rfl
theorem impl_Json_valid.idx_vL0 (l : List S31) (dp : Int) : (!decide (0 ≤ impl_Json_valid.idxB (fun i => !impl_Json_valid.vJ (rd_T31 l (i : Int)) dp) l.length 0)) = impl_Json_valid.vL l dp := by
  rw [impl_Json_valid.idx_vL l dp l.length 0 (by omega), List.drop_zero]
abbrev impl_Json_valid.P (x : S31) : Prop := ∀ (dp : Int) (A3 : Option Addr) (c3 : Nat) (A4 : Option Addr) (c4 : Nat) (w : World), Kd.C Kd.string w A3 x.f3.length x.f3 → x.f3.length ≤ c3 → Kd.C k31 w A4 x.f4.length x.f4 → x.f4.length ≤ c4 →
  Calls Tryd.prog 23 #[.agg #[(.int .i64 x.f0), (.int .i64 x.f1), (.string x.f2), (.slice A3 x.f3.length c3), (.slice A4 x.f4.length c4)], .int .i64 dp] w fun e w' => e = .returned (.bool (impl_Json_valid.vJ x dp)) ∧ Below w.heap.size w w'
set_option maxHeartbeats 8000000 in
set_option maxRecDepth 100000 in
theorem impl_Json_valid.own1 (x : S31) (hp : ∀ i : Nat, i < x.f4.length → impl_Json_valid.P (rd_T31 x.f4 (i : Int))) : impl_Json_valid.P x := by
  intro dp A3 c3 A4 c4 w h3 l3 h4 l4
  have H3 := Aside0.mk h3
  have H4 := Aside0.mk h4
  have HP := Aside0.mk hp
  have HV := Aside0.mk (impl_Json_valid.vJ_eq x dp)
  have n3 := h3.2.1
  have HB := Aside0.mk (Below.refl w.heap.size w)
  clear h3 h4 hp
  revert HV
  generalize impl_Json_valid.vJ x dp = r
  intro HV
  have hu31 := Tryd.underlying31
  by_cases c0 : dp = 0
  · have d0 : (dp == 0) = true := by rw [c0]; rfl
    have hv := HV.out
    rw [if_pos c0] at hv
    subst hv
    clear c0 HV
    go_enter Tryd.func23, Tryd.ntmps23
    go_wp2_with (first | ((with_reducible refine gate_dst (N := 2) rfl ?_); refine box_event ?hg (N := 2) ?hd (cs := #[(.int .i64 x.f0), (.int .i64 x.f1), (.string x.f2), (.slice A3 x.f3.length c3), (.slice A4 x.f4.length c4)]) (t := 31) ?hr ?_; (case hd => rfl); (case hg => rfl); (case hr => first | (go_simp; done) | (go_simp; rfl)); intro g2 hg w2 hx hb; have B2 := Aside0.mk hx; have n0 := Aside0.mk (below_step HB.out hb); clear HB; have HB := n0; clear n0 hx hb hg) | ((with_reducible refine gate_dst (N := 3) rfl ?_); refine box_event ?hg (N := 3) ?hd (cs := #[.int .i64 dp]) (t := 3) ?hr ?_; (case hd => rfl); (case hg => rfl); (case hr => first | (go_simp; done) | (go_simp; rfl)); intro g3 hg w3 hx hb; have N23 := Aside0.mk (by rw [hg]; exact Nat.ne_of_lt (blk_lt B2.out) : g2 ≠ g3); have n1 := blk_below B2.out hb; clear B2; have B2 := Aside0.mk n1; have B3 := Aside0.mk hx; have n0 := Aside0.mk (below_step HB.out hb); clear HB; have HB := n0; clear n0; have q0 : w3.cell? ⟨g2, 0, none⟩ = some (.int .i64 x.f0) := (blk_cell n1 0).trans rfl; have q1 : w3.cell? ⟨g2, 1, none⟩ = some (.int .i64 x.f1) := (blk_cell n1 1).trans rfl; have q2 : w3.cell? ⟨g2, 2, none⟩ = some (.string x.f2) := (blk_cell n1 2).trans rfl; have q3 : w3.cell? ⟨g2, 3, none⟩ = some (.slice A3 x.f3.length c3) := (blk_cell n1 3).trans rfl; have q4 : w3.cell? ⟨g2, 4, none⟩ = some (.slice A4 x.f4.length c4) := (blk_cell n1 4).trans rfl; have qd : w3.cell? ⟨g3, 0, none⟩ = some (.int .i64 dp) := (blk_cell hx 0).trans rfl; clear n1 hx hb hg))
    go_ret
    exact ⟨rfl, HB.out⟩
  have d0 : (dp == 0) = false := by simp [c0]
  have hv := HV.out
  rw [if_neg c0] at hv
  have HV' := Aside0.mk hv
  clear hv HV c0
  go_enter Tryd.func23, Tryd.ntmps23
  go_wp2_with (first | ((with_reducible refine gate_dst (N := 2) rfl ?_); refine box_event ?hg (N := 2) ?hd (cs := #[(.int .i64 x.f0), (.int .i64 x.f1), (.string x.f2), (.slice A3 x.f3.length c3), (.slice A4 x.f4.length c4)]) (t := 31) ?hr ?_; (case hd => rfl); (case hg => rfl); (case hr => first | (go_simp; done) | (go_simp; rfl)); intro g2 hg w2 hx hb; have B2 := Aside0.mk hx; have n0 := Aside0.mk (below_step HB.out hb); clear HB; have HB := n0; clear n0 hx hb hg) | ((with_reducible refine gate_dst (N := 3) rfl ?_); refine box_event ?hg (N := 3) ?hd (cs := #[.int .i64 dp]) (t := 3) ?hr ?_; (case hd => rfl); (case hg => rfl); (case hr => first | (go_simp; done) | (go_simp; rfl)); intro g3 hg w3 hx hb; have N23 := Aside0.mk (by rw [hg]; exact Nat.ne_of_lt (blk_lt B2.out) : g2 ≠ g3); have n1 := blk_below B2.out hb; clear B2; have B2 := Aside0.mk n1; have B3 := Aside0.mk hx; have n0 := Aside0.mk (below_step HB.out hb); clear HB; have HB := n0; clear n0; have q0 : w3.cell? ⟨g2, 0, none⟩ = some (.int .i64 x.f0) := (blk_cell n1 0).trans rfl; have q1 : w3.cell? ⟨g2, 1, none⟩ = some (.int .i64 x.f1) := (blk_cell n1 1).trans rfl; have q2 : w3.cell? ⟨g2, 2, none⟩ = some (.string x.f2) := (blk_cell n1 2).trans rfl; have q3 : w3.cell? ⟨g2, 3, none⟩ = some (.slice A3 x.f3.length c3) := (blk_cell n1 3).trans rfl; have q4 : w3.cell? ⟨g2, 4, none⟩ = some (.slice A4 x.f4.length c4) := (blk_cell n1 4).trans rfl; have qd : w3.cell? ⟨g3, 0, none⟩ = some (.int .i64 dp) := (blk_cell hx 0).trans rfl; clear n1 hx hb hg))
  go_quiet (fail)
  have B4 := Aside0.mk (blk_drewN B2.out nq)
  have B5 := Aside0.mk (blk_drewN B3.out nq)
  have HB4 := Aside0.mk (show Below w.heap.size w (w3.drewN nq) from by apply pw_below_drewN; exact HB.out)
  clear q0 q1 q2 q3 q4 qd B2 B3 HB
  generalize w3.drewN nq = w4 at B4 B5 HB4 ⊢
  have q0 : w4.cell? ⟨g2, 0, none⟩ = some (.int .i64 x.f0) := (blk_cell B4.out 0).trans rfl
  have q1 : w4.cell? ⟨g2, 1, none⟩ = some (.int .i64 x.f1) := (blk_cell B4.out 1).trans rfl
  have q2 : w4.cell? ⟨g2, 2, none⟩ = some (.string x.f2) := (blk_cell B4.out 2).trans rfl
  have q3 : w4.cell? ⟨g2, 3, none⟩ = some (.slice A3 x.f3.length c3) := (blk_cell B4.out 3).trans rfl
  have q4 : w4.cell? ⟨g2, 4, none⟩ = some (.slice A4 x.f4.length c4) := (blk_cell B4.out 4).trans rfl
  have qd0 : w4.cell? ⟨g3, 0, none⟩ = some (.int .i64 dp) := (blk_cell B5.out 0).trans rfl
  go_upto_block 0 with (fail)
  go_cut [5, 6, 7, 8] (fun v5 v6 v7 v8 W => ∃ a b c d : Bool, v5 = .bool a ∧ v6 = .bool b ∧ v7 = .bool c ∧ v8 = .bool d ∧ Aside0 (impl_Json_valid.hd x.f0 x.f1 x.f2 x.f3.length x.f4.length dp = some (a, b, c, d)) ∧ Aside0 (W.heap[g2]? = some (.cells #[(.int .i64 x.f0), (.int .i64 x.f1), (.string x.f2), (.slice A3 x.f3.length c3), (.slice A4 x.f4.length c4)] 31 (0, 0))) ∧ Aside0 (W.heap[g3]? = some (.cells #[.int .i64 dp] 3 (0, 0))) ∧ Aside0 (Below w.heap.size w W))
  case first =>
    by_cases h1 : x.f0 = 1
    · have k1 : (x.f0 == 1) = true := by simp [h1]
      have HD := Aside0.mk (show impl_Json_valid.hd x.f0 x.f1 x.f2 x.f3.length x.f4.length dp = _ from by rw [impl_Json_valid.hd, if_pos h1])
      clear h1
      go_wp2
      go_meet
      case rel => exact ⟨_, _, _, _, rfl, rfl, rfl, rfl, HD, ⟨by (with_reducible repeat (first | refine blk_drewN ?_ _ | refine blk_drew ?_ | refine blk_alloc ?_ _)); exact B4.out⟩, ⟨by (with_reducible repeat (first | refine blk_drewN ?_ _ | refine blk_drew ?_ | refine blk_alloc ?_ _)); exact B5.out⟩, ⟨by repeat (first | (with_reducible first | exact HB4.out | apply below_alloc | apply pw_below_drewN | apply below_drew1) | exact HB4.out)⟩⟩
    by_cases h2 : x.f0 = 2
    · have k1 : (x.f0 == 1) = false := by simp [h1]
      have k2 : (x.f0 == 2) = true := by simp [h2]
      have HD := Aside0.mk (show impl_Json_valid.hd x.f0 x.f1 x.f2 x.f3.length x.f4.length dp = _ from by rw [impl_Json_valid.hd, if_neg h1, if_pos h2])
      clear h1 h2
      go_wp2_with (go_at_call 27; refine (impl_within.calls x.f1 (0) (1) _ _ (impl_Json_valid.wi x.f1 (0) (1))).mono ?_; rintro e w' ⟨rfl, ⟨m, rfl⟩⟩)
      go_meet
      case rel => exact ⟨_, _, _, _, rfl, rfl, rfl, rfl, HD, ⟨by (with_reducible repeat (first | refine blk_drewN ?_ _ | refine blk_drew ?_ | refine blk_alloc ?_ _)); exact B4.out⟩, ⟨by (with_reducible repeat (first | refine blk_drewN ?_ _ | refine blk_drew ?_ | refine blk_alloc ?_ _)); exact B5.out⟩, ⟨by repeat (first | (with_reducible first | exact HB4.out | apply below_alloc | apply pw_below_drewN | apply below_drew1) | exact HB4.out)⟩⟩
    by_cases h3 : x.f0 = 3
    · have k1 : (x.f0 == 1) = false := by simp [h1]
      have k2 : (x.f0 == 2) = false := by simp [h2]
      have k3 : (x.f0 == 3) = true := by simp [h3]
      have HD := Aside0.mk (show impl_Json_valid.hd x.f0 x.f1 x.f2 x.f3.length x.f4.length dp = _ from by rw [impl_Json_valid.hd, if_neg h1, if_neg h2, if_pos h3])
      clear h1 h2 h3
      go_wp2_with (go_at_call 27; refine (impl_within.calls x.f1 (-999999999) (999999999) _ _ (impl_Json_valid.wi x.f1 (-999999999) (999999999))).mono ?_; rintro e w' ⟨rfl, ⟨m, rfl⟩⟩)
      go_meet
      case rel => exact ⟨_, _, _, _, rfl, rfl, rfl, rfl, HD, ⟨by (with_reducible repeat (first | refine blk_drewN ?_ _ | refine blk_drew ?_ | refine blk_alloc ?_ _)); exact B4.out⟩, ⟨by (with_reducible repeat (first | refine blk_drewN ?_ _ | refine blk_drew ?_ | refine blk_alloc ?_ _)); exact B5.out⟩, ⟨by repeat (first | (with_reducible first | exact HB4.out | apply below_alloc | apply pw_below_drewN | apply below_drew1) | exact HB4.out)⟩⟩
    by_cases h4 : x.f0 = 4
    · have k1 : (x.f0 == 1) = false := by simp [h1]
      have k2 : (x.f0 == 2) = false := by simp [h2]
      have k3 : (x.f0 == 3) = false := by simp [h3]
      have k4 : (x.f0 == 4) = true := by simp [h4]
      have HD := Aside0.mk (show impl_Json_valid.hd x.f0 x.f1 x.f2 x.f3.length x.f4.length dp = _ from by rw [impl_Json_valid.hd, if_neg h1, if_neg h2, if_neg h3, if_pos h4])
      clear h1 h2 h3 h4
      go_wp2
      go_meet
      case rel => exact ⟨_, _, _, _, rfl, rfl, rfl, rfl, HD, ⟨by (with_reducible repeat (first | refine blk_drewN ?_ _ | refine blk_drew ?_ | refine blk_alloc ?_ _)); exact B4.out⟩, ⟨by (with_reducible repeat (first | refine blk_drewN ?_ _ | refine blk_drew ?_ | refine blk_alloc ?_ _)); exact B5.out⟩, ⟨by repeat (first | (with_reducible first | exact HB4.out | apply below_alloc | apply pw_below_drewN | apply below_drew1) | exact HB4.out)⟩⟩
    by_cases h5 : x.f0 = 5
    · have k1 : (x.f0 == 1) = false := by simp [h1]
      have k2 : (x.f0 == 2) = false := by simp [h2]
      have k3 : (x.f0 == 3) = false := by simp [h3]
      have k4 : (x.f0 == 4) = false := by simp [h4]
      have k5 : (x.f0 == 5) = true := by simp [h5]
      cases e12 : decide ((x.f4.length : Int) ≤ 12) with
      | false =>
        have HD := Aside0.mk (show impl_Json_valid.hd x.f0 x.f1 x.f2 x.f3.length x.f4.length dp = _ from by rw [impl_Json_valid.hd, if_neg h1, if_neg h2, if_neg h3, if_neg h4, if_pos h5, e12, Bool.false_and])
        clear h1 h2 h3 h4 h5
        go_wp2
        go_meet
        case rel => exact ⟨_, _, _, _, rfl, rfl, rfl, rfl, HD, ⟨by (with_reducible repeat (first | refine blk_drewN ?_ _ | refine blk_drew ?_ | refine blk_alloc ?_ _)); exact B4.out⟩, ⟨by (with_reducible repeat (first | refine blk_drewN ?_ _ | refine blk_drew ?_ | refine blk_alloc ?_ _)); exact B5.out⟩, ⟨by repeat (first | (with_reducible first | exact HB4.out | apply below_alloc | apply pw_below_drewN | apply below_drew1) | exact HB4.out)⟩⟩
      | true =>
        cases e1 : decide (1 < dp) with
        | false =>
          have HD := Aside0.mk (show impl_Json_valid.hd x.f0 x.f1 x.f2 x.f3.length x.f4.length dp = _ from by rw [impl_Json_valid.hd, if_neg h1, if_neg h2, if_neg h3, if_neg h4, if_pos h5, e12, e1, Bool.true_and])
          clear h1 h2 h3 h4 h5
          go_wp2
          go_meet
          case rel => exact ⟨_, _, _, _, rfl, rfl, rfl, rfl, HD, ⟨by (with_reducible repeat (first | refine blk_drewN ?_ _ | refine blk_drew ?_ | refine blk_alloc ?_ _)); exact B4.out⟩, ⟨by (with_reducible repeat (first | refine blk_drewN ?_ _ | refine blk_drew ?_ | refine blk_alloc ?_ _)); exact B5.out⟩, ⟨by repeat (first | (with_reducible first | exact HB4.out | apply below_alloc | apply pw_below_drewN | apply below_drew1) | exact HB4.out)⟩⟩
        | true =>
          have HD := Aside0.mk (show impl_Json_valid.hd x.f0 x.f1 x.f2 x.f3.length x.f4.length dp = _ from by rw [impl_Json_valid.hd, if_neg h1, if_neg h2, if_neg h3, if_neg h4, if_pos h5, e12, e1, Bool.true_and])
          clear h1 h2 h3 h4 h5
          go_wp2
          go_meet
          case rel => exact ⟨_, _, _, _, rfl, rfl, rfl, rfl, HD, ⟨by (with_reducible repeat (first | refine blk_drewN ?_ _ | refine blk_drew ?_ | refine blk_alloc ?_ _)); exact B4.out⟩, ⟨by (with_reducible repeat (first | refine blk_drewN ?_ _ | refine blk_drew ?_ | refine blk_alloc ?_ _)); exact B5.out⟩, ⟨by repeat (first | (with_reducible first | exact HB4.out | apply below_alloc | apply pw_below_drewN | apply below_drew1) | exact HB4.out)⟩⟩
    by_cases h6 : x.f0 = 6
    · have k1 : (x.f0 == 1) = false := by simp [h1]
      have k2 : (x.f0 == 2) = false := by simp [h2]
      have k3 : (x.f0 == 3) = false := by simp [h3]
      have k4 : (x.f0 == 4) = false := by simp [h4]
      have k5 : (x.f0 == 5) = false := by simp [h5]
      have k6 : (x.f0 == 6) = true := by simp [h6]
      cases e12 : decide ((x.f4.length : Int) ≤ 12) with
      | false =>
        have HD := Aside0.mk (show impl_Json_valid.hd x.f0 x.f1 x.f2 x.f3.length x.f4.length dp = _ from by rw [impl_Json_valid.hd, if_neg h1, if_neg h2, if_neg h3, if_neg h4, if_neg h5, if_pos h6, e12, Bool.false_and])
        clear h1 h2 h3 h4 h5 h6
        go_wp2
        go_meet
        case rel => exact ⟨_, _, _, _, rfl, rfl, rfl, rfl, HD, ⟨by (with_reducible repeat (first | refine blk_drewN ?_ _ | refine blk_drew ?_ | refine blk_alloc ?_ _)); exact B4.out⟩, ⟨by (with_reducible repeat (first | refine blk_drewN ?_ _ | refine blk_drew ?_ | refine blk_alloc ?_ _)); exact B5.out⟩, ⟨by repeat (first | (with_reducible first | exact HB4.out | apply below_alloc | apply pw_below_drewN | apply below_drew1) | exact HB4.out)⟩⟩
      | true =>
        cases e1 : decide (1 < dp) with
        | false =>
          have HD := Aside0.mk (show impl_Json_valid.hd x.f0 x.f1 x.f2 x.f3.length x.f4.length dp = _ from by rw [impl_Json_valid.hd, if_neg h1, if_neg h2, if_neg h3, if_neg h4, if_neg h5, if_pos h6, e12, e1, Bool.true_and, Bool.false_and])
          clear h1 h2 h3 h4 h5 h6
          go_wp2
          go_meet
          case rel => exact ⟨_, _, _, _, rfl, rfl, rfl, rfl, HD, ⟨by (with_reducible repeat (first | refine blk_drewN ?_ _ | refine blk_drew ?_ | refine blk_alloc ?_ _)); exact B4.out⟩, ⟨by (with_reducible repeat (first | refine blk_drewN ?_ _ | refine blk_drew ?_ | refine blk_alloc ?_ _)); exact B5.out⟩, ⟨by repeat (first | (with_reducible first | exact HB4.out | apply below_alloc | apply pw_below_drewN | apply below_drew1) | exact HB4.out)⟩⟩
        | true =>
          have HD := Aside0.mk (show impl_Json_valid.hd x.f0 x.f1 x.f2 x.f3.length x.f4.length dp = _ from by rw [impl_Json_valid.hd, if_neg h1, if_neg h2, if_neg h3, if_neg h4, if_neg h5, if_pos h6, e12, e1, Bool.true_and, Bool.true_and])
          clear h1 h2 h3 h4 h5 h6
          go_wp2
          go_meet
          case rel => exact ⟨_, _, _, _, rfl, rfl, rfl, rfl, HD, ⟨by (with_reducible repeat (first | refine blk_drewN ?_ _ | refine blk_drew ?_ | refine blk_alloc ?_ _)); exact B4.out⟩, ⟨by (with_reducible repeat (first | refine blk_drewN ?_ _ | refine blk_drew ?_ | refine blk_alloc ?_ _)); exact B5.out⟩, ⟨by repeat (first | (with_reducible first | exact HB4.out | apply below_alloc | apply pw_below_drewN | apply below_drew1) | exact HB4.out)⟩⟩
    · have k1 : (x.f0 == 1) = false := by simp [h1]
      have k2 : (x.f0 == 2) = false := by simp [h2]
      have k3 : (x.f0 == 3) = false := by simp [h3]
      have k4 : (x.f0 == 4) = false := by simp [h4]
      have k5 : (x.f0 == 5) = false := by simp [h5]
      have k6 : (x.f0 == 6) = false := by simp [h6]
      have hN : impl_Json_valid.hd x.f0 x.f1 x.f2 x.f3.length x.f4.length dp = none := by rw [impl_Json_valid.hd, if_neg h1, if_neg h2, if_neg h3, if_neg h4, if_neg h5, if_neg h6]
      have hr : r = false := by rw [HV'.out, impl_Json_valid.top, hN]; rfl
      subst hr
      clear hN HV' h1 h2 h3 h4 h5 h6
      go_wp2
      go_ret
      exact ⟨rfl, HB4.out⟩
  case rest =>
    clear q0 q1 q2 q3 q4 qd0 B4 B5 HB4
    obtain ⟨a, b, c, d, rfl, rfl, rfl, rfl, HD, B6, B7, HB⟩ := hcut
    cases a
    · have hr : r = false := by rw [HV'.out, impl_Json_valid.topF HD.out (by simp)]; rfl
      subst hr
      clear HV' HD HP H3 H4
      go_wp2
      go_ret
      exact ⟨rfl, HB.out⟩
    cases b
    · have hr : r = false := by rw [HV'.out, impl_Json_valid.topF HD.out (by simp)]; rfl
      subst hr
      clear HV' HD HP H3 H4
      go_wp2
      go_ret
      exact ⟨rfl, HB.out⟩
    cases c
    · have hr : r = false := by rw [HV'.out, impl_Json_valid.topF HD.out (by simp)]; rfl
      subst hr
      clear HV' HD HP H3 H4
      go_wp2
      go_ret
      exact ⟨rfl, HB.out⟩
    cases d
    · have hr : r = false := by rw [HV'.out, impl_Json_valid.topF HD.out (by simp)]; rfl
      subst hr
      clear HV' HD HP H3 H4
      go_wp2
      go_ret
      exact ⟨rfl, HB.out⟩
    have hv := HV'.out
    rw [impl_Json_valid.topT HD.out (by rfl)] at hv
    clear HV' HD
    have HN := Aside0.mk hv
    clear hv
    have q0 : wc.cell? ⟨g2, 0, none⟩ = some (.int .i64 x.f0) := (blk_cell B6.out 0).trans rfl
    have q1 : wc.cell? ⟨g2, 1, none⟩ = some (.int .i64 x.f1) := (blk_cell B6.out 1).trans rfl
    have q2 : wc.cell? ⟨g2, 2, none⟩ = some (.string x.f2) := (blk_cell B6.out 2).trans rfl
    have q3 : wc.cell? ⟨g2, 3, none⟩ = some (.slice A3 x.f3.length c3) := (blk_cell B6.out 3).trans rfl
    have q4 : wc.cell? ⟨g2, 4, none⟩ = some (.slice A4 x.f4.length c4) := (blk_cell B6.out 4).trans rfl
    have qd0 : wc.cell? ⟨g3, 0, none⟩ = some (.int .i64 dp) := (blk_cell B7.out 0).trans rfl
    go_wp2
    go_loopw [88] (fun i W => ∃ n d : Nat, n + d = x.f3.length ∧ i = .int .i64 (n : Int) ∧ Aside0 (impl_Json_valid.nmF x.f3 d n = impl_Json_valid.nmF x.f3 x.f3.length 0) ∧ Aside0 (W.heap[g2]? = some (.cells #[(.int .i64 x.f0), (.int .i64 x.f1), (.string x.f2), (.slice A3 x.f3.length c3), (.slice A4 x.f4.length c4)] 31 (0, 0))) ∧ Aside0 (W.heap[g3]? = some (.cells #[.int .i64 dp] 3 (0, 0))) ∧ Below w.heap.size w W) (fun i _ => x.f3.length - (intOf i).toNat)
    case atStart => exact ⟨0, x.f3.length, by omega, rfl, ⟨rfl⟩, B6, B7, HB.out⟩
    case round =>
      clear q0 q1 q2 q3 q4 qd0 B6 B7 HB
      obtain ⟨n, d, hd, rfl, HK, B6, B7, hb⟩ := hrel
      have HB := Aside0.mk hb
      clear hb
      have q0 : wr.cell? ⟨g2, 0, none⟩ = some (.int .i64 x.f0) := (blk_cell B6.out 0).trans rfl
      have q1 : wr.cell? ⟨g2, 1, none⟩ = some (.int .i64 x.f1) := (blk_cell B6.out 1).trans rfl
      have q2 : wr.cell? ⟨g2, 2, none⟩ = some (.string x.f2) := (blk_cell B6.out 2).trans rfl
      have q3 : wr.cell? ⟨g2, 3, none⟩ = some (.slice A3 x.f3.length c3) := (blk_cell B6.out 3).trans rfl
      have q4 : wr.cell? ⟨g2, 4, none⟩ = some (.slice A4 x.f4.length c4) := (blk_cell B6.out 4).trans rfl
      have qd0 : wr.cell? ⟨g3, 0, none⟩ = some (.int .i64 dp) := (blk_cell B7.out 0).trans rfl
      cases d with
      | zero =>
        have hdec : decide ((n : Int) < (x.f3.length : Int)) = false := decide_eq_false (by omega)
        have hn : impl_Json_valid.nmF x.f3 x.f3.length 0 = true := by rw [← HK.out]; rfl
        have hv := HN.out
        rw [hn, if_pos rfl, ← impl_Json_valid.idx_vL0] at hv
        have HV := Aside0.mk hv
        have eg : ∀ args w, (callFunc 30 args).run Tryd.prog w = .ok (.enter 30 args) w := enters_of Tryd.func30 (by kernel_rfl) rfl
        have hmf : ∀ (fn : Fn) (first cap : Array Value) (w : World), (Instr.makeFunc fn first cap).run Tryd.prog w = .ok (.func fn first cap) w := fun _ _ _ _ => rfl
        have HC := Aside0.mk (impl_Json_valid.conF 30 #[.pointer (some ⟨g3, 0, none⟩)] eg (fun i => !impl_Json_valid.vJ (rd_T31 x.f4 (i : Int)) (wrap64 (dp - 1))) A4 c4 x.f4 wr (Kd.C_below H4.out HB.out) (fun W i hi hw => impl_Json_valid.clo (rd_T31 x.f4 (i : Int)) dp _ g3 W (blk_below B7.out hw) (fun W' hw' a3 k3 a4 k4 m3 s3 m4 s4 => HP.out i hi (wrap64 (dp - 1)) a3 k3 a4 k4 W' m3 s3 m4 s4)))
        clear hv hn HN HK HP eg
        revert HC HV
        generalize impl_Json_valid.idxB _ _ _ = t
        intro HV HC
        go_wp2_with (go_at_call 29; refine HC.out.mono ?_; rintro e w' ⟨rfl, hb'⟩; have n0 := Aside0.mk (below_step HB.out hb'); clear HB hb'; have HB := n0; clear n0)
        go_ret
        exact ⟨by first | rfl | (rw [HV.out]; done) | (rw [HV.out]; rfl), HB.out⟩
      | succ d =>
        have p : 0 ≤ (n : Int) := by omega
        have q : (n : Int) < (x.f3.length : Int) := by omega
        have hdec : decide ((n : Int) < (x.f3.length : Int)) = true := decide_eq_true q
        obtain ⟨ad, ea, hx⟩ := Kd.at_string (Kd.C_below H3.out HB.out) (n : Int) p q
        subst ea
        simp only [Int.toNat_natCast] at hx
        have hk := HK.out
        rw [impl_Json_valid.nmF] at hk
        by_cases hs : 120 < ((rdOf ByteArray.empty x.f3 (n : Int)).size : Int)
        · have hs' : decide (120 < ((rdOf ByteArray.empty x.f3 (n : Int)).size : Int)) = true := decide_eq_true hs
          rw [if_pos hs] at hk
          have hr : r = false := by rw [HN.out, ← hk]; rfl
          subst hr
          clear hk HK HN HP hs
          go_wp2
          go_ret
          exact ⟨rfl, HB.out⟩
        · have hs' : decide (120 < ((rdOf ByteArray.empty x.f3 (n : Int)).size : Int)) = false := decide_eq_false hs
          rw [if_neg hs] at hk
          have hle : n ≤ x.f3.length := by omega
          have hle' : n ≤ c3 := by omega
          have hlt : (x.f3.take n).length = n := by rw [List.length_take]; omega
          have HQ := slices_Contains_string_string.calls ((x.f3.take n).length + 1) (some ad) c3 (x.f3.take n) (rdOf ByteArray.empty x.f3 (n : Int)) _ wr (Kd.C_take (Kd.C_below H3.out HB.out) hle) (by rw [hlt]; exact hle') (impl_Json_valid.con _ _ (by rw [hlt]; omega))
          rw [hlt] at HQ
          revert HQ hk
          generalize (x.f3.take n).any _ = t
          intro hk HQ
          replace HQ := Aside0.mk HQ
          clear hs
          cases t with
          | true =>
            rw [if_pos rfl] at hk
            have hr : r = false := by rw [HN.out, ← hk]; rfl
            subst hr
            clear hk HK HN HP
            go_wp2_with (go_at_call 28; refine HQ.out.mono ?_; rintro e w' ⟨rfl, ⟨m, rfl⟩⟩)
            go_ret
            exact ⟨rfl, by repeat (first | (with_reducible first | exact HB.out | apply below_alloc | apply pw_below_drewN | apply below_drew1) | exact HB.out)⟩
          | false =>
            rw [if_neg Bool.false_ne_true] at hk
            have HK' := Aside0.mk hk
            clear hk HK
            go_wp2_with (go_at_call 28; refine HQ.out.mono ?_; rintro e w' ⟨rfl, ⟨m, rfl⟩⟩)
            go_roundw
            case rel => exact ⟨n + 1, d, by omega, by go_num, HK', ⟨by (with_reducible repeat (first | refine blk_drewN ?_ _ | refine blk_drew ?_ | refine blk_alloc ?_ _)); exact B6.out⟩, ⟨by (with_reducible repeat (first | refine blk_drewN ?_ _ | refine blk_drew ?_ | refine blk_alloc ?_ _)); exact B7.out⟩, by repeat (first | (with_reducible first | exact HB.out | apply below_alloc | apply pw_below_drewN | apply below_drew1) | exact HB.out)⟩
            case measure => simp [intOf]; omega
theorem impl_Json_valid.all (x : S31) : impl_Json_valid.P x := by
  have : ∀ n : Nat, ∀ x : S31, SizeOf.sizeOf x < n → impl_Json_valid.P x := by
    intro n
    induction n with
    | zero => intro x h; omega
    | succ n ih =>
      intro x h
      refine impl_Json_valid.own1 x fun i hi => ih _ ?_
      have hm : rd_T31 x.f4 (i : Int) ∈ x.f4 := by simp [rd_T31, List.getD, hi]
      have h1 := List.sizeOf_lt_of_mem hm
      have h2 : SizeOf.sizeOf x = 1 + SizeOf.sizeOf x.f0 + SizeOf.sizeOf x.f1 + SizeOf.sizeOf x.f2 + SizeOf.sizeOf x.f3 + SizeOf.sizeOf x.f4 := by cases x; simp
      omega
  exact this _ x (Nat.lt_succ_self _)
def impl_Json_valid.f (a0_0 : Int) (a0_1 : Int) (a0_2 : ByteArray) (l0_3 : List ByteArray) (l0_4 : List (S31)) (a1 : Int) : Option Bool := some (impl_Json_valid.vJ ⟨a0_0, a0_1, a0_2, l0_3, l0_4⟩ a1)
theorem impl_Json_valid.calls (a0_0 : Int) (a0_1 : Int) (a0_2 : ByteArray) (A0_3 : Option Addr) (c0_3 : Nat) (l0_3 : List ByteArray) (A0_4 : Option Addr) (c0_4 : Nat) (l0_4 : List (S31)) (a1 : Int) (r : Bool) (w : World) (hr0_3 : Kd.C Kd.string w A0_3 l0_3.length l0_3) (hc0_3 : l0_3.length ≤ c0_3) (hr0_4 : Kd.C k31 w A0_4 l0_4.length l0_4) (hc0_4 : l0_4.length ≤ c0_4) (h : impl_Json_valid.f a0_0 a0_1 a0_2 l0_3 l0_4 a1 = some r) :
    Calls Tryd.prog 23 #[.agg #[.int .i64 a0_0, .int .i64 a0_1, .string a0_2, .slice A0_3 l0_3.length c0_3, .slice A0_4 l0_4.length c0_4], .int .i64 a1] w fun e w' => e = .returned (.bool r) ∧ Below w.heap.size w w' := by
  obtain rfl := Option.some.inj h
  exact impl_Json_valid.all ⟨a0_0, a0_1, a0_2, l0_3, l0_4⟩ a1 A0_3 c0_3 A0_4 c0_4 w hr0_3 hc0_3 hr0_4 hc0_4

/-! ### impl_JsonOK: function 15 -/
def impl_JsonOK.f (a0_0 : Int) (a0_1 : Int) (a0_2 : ByteArray) (l0_3 : List ByteArray) (l0_4 : List (S31)) : Option (Bool) := (impl_Json_valid.f a0_0 a0_1 a0_2 l0_3 l0_4 5).bind fun t150 => (some t150)
set_option maxHeartbeats 8000000 in
set_option maxRecDepth 100000 in
theorem impl_JsonOK.calls (a0_0 : Int) (a0_1 : Int) (a0_2 : ByteArray) (A0_3 : Option Addr) (c0_3 : Nat) (l0_3 : List ByteArray) (A0_4 : Option Addr) (c0_4 : Nat) (l0_4 : List (S31)) (r : Bool) (w : World) (hr0_3 : Kd.C Kd.string w A0_3 l0_3.length l0_3) (hc0_3 : l0_3.length ≤ c0_3) (hr0_4 : Kd.C k31 w A0_4 l0_4.length l0_4) (hc0_4 : l0_4.length ≤ c0_4) (h : impl_JsonOK.f a0_0 a0_1 a0_2 l0_3 l0_4 = some r) :
    Calls Tryd.prog 15 #[.agg #[.int .i64 a0_0, .int .i64 a0_1, .string a0_2, .slice A0_3 l0_3.length c0_3, .slice A0_4 l0_4.length c0_4]] w fun e w' => e = .returned (.bool r) ∧ Below w.heap.size w w' := by
 have hu31 := Tryd.underlying31
 have HR0_3 := Aside0.mk hr0_3
 have HC0_3 := Aside0.mk hc0_3
 clear hr0_3 hc0_3
 have HR0_4 := Aside0.mk hr0_4
 have HC0_4 := Aside0.mk hc0_4
 clear hr0_4 hc0_4
 have HB := Aside0.mk (Below.refl w.heap.size w)
 have H : ((impl_Json_valid.f a0_0 a0_1 a0_2 l0_3 l0_4 5).bind fun t150 => (some t150)) = some r := h
 clear h
 obtain ⟨t150, A2, H⟩ := bindE_ H
 obtain rfl := Option.some.inj H
 go_enter Tryd.func15, Tryd.ntmps15
 go_wp2_with (first | ((with_reducible refine gate_dst (N := 1) rfl ?_); refine box_event ?hg (N := 1) ?hd (cs := #[.int .i64 a0_0, .int .i64 a0_1, .string a0_2, .slice A0_3 l0_3.length c0_3, .slice A0_4 l0_4.length c0_4]) (t := 31) ?hr ?_; (case hd => rfl); (case hg => rfl); (case hr => first | (go_simp; done) | (go_simp; rfl)); intro gb149 hg w3 hbox hb; have n0_ := belB_ hb; have n1_ := Aside0.mk (hbox); have n2_ := Aside0.mk ((by rw [hg]; exact (below_size (by repeat (first | (with_reducible first | exact HB.out | apply below_alloc | apply pw_below_drewN | apply below_drew1) | exact HB.out))) : w.heap.size ≤ gb149)); have n3_ := Aside0.mk ((by rw [hg]; exact (below_size (by repeat (first | (with_reducible first | exact HB.out | apply below_alloc | apply pw_below_drewN | apply below_drew1) | exact HB.out))) : w.heap.size ≤ gb149)); clear HB; have HB := n0_; have BK149 := n1_; have GW149 := n2_; have GE149 := n3_; clear n0_ n1_ n2_ n3_; clear hb hbox hg; have hcz4_0 : w3.cell? ⟨gb149, 0, none⟩ = some (.int .i64 a0_0) := (blk_cell BK149.out 0).trans rfl; have hcz4_1 : w3.cell? ⟨gb149, 1, none⟩ = some (.int .i64 a0_1) := (blk_cell BK149.out 1).trans rfl; have hcz4_2 : w3.cell? ⟨gb149, 2, none⟩ = some (.string a0_2) := (blk_cell BK149.out 2).trans rfl; have hcz4_3 : w3.cell? ⟨gb149, 3, none⟩ = some (.slice A0_3 l0_3.length c0_3) := (blk_cell BK149.out 3).trans rfl; have hcz4_4 : w3.cell? ⟨gb149, 4, none⟩ = some (.slice A0_4 l0_4.length c0_4) := (blk_cell BK149.out 4).trans rfl; have hfz4_0 := blk_frozen BK149.out 0; have hfz4_1 := blk_frozen BK149.out 1; have hfz4_2 := blk_frozen BK149.out 2; have hfz4_3 := blk_frozen BK149.out 3; have hfz4_4 := blk_frozen BK149.out 4) | ((with_reducible refine gate_callee (f := 23) rfl ?_); refine cU_ (some 4) Tryd.func23 #[.agg #[.int .i64 a0_0, .int .i64 a0_1, .string a0_2, .slice A0_3 l0_3.length c0_3, .slice A0_4 l0_4.length c0_4], .int .i64 5] ?_; (with_reducible refine (impl_Json_valid.calls a0_0 a0_1 a0_2 _ _ l0_3 _ _ l0_4 5 t150 _ ?side1 ?side2 ?side3 ?side4 A2.out).mono ?_); (case side1 => repeat (first | exact (Kd.C_below HR0_3.out HB.out) | (with_reducible refine Kd.C_alloc ?_ _) | (with_reducible refine Kd.C_drewN ?_ _) | (with_reducible refine Kd.C_drew ?_))); (case side2 => exact HC0_3.out); (case side3 => repeat (first | exact (Kd.C_below HR0_4.out HB.out) | (with_reducible refine Kd.C_alloc ?_ _) | (with_reducible refine Kd.C_drewN ?_ _) | (with_reducible refine Kd.C_drew ?_))); (case side4 => exact HC0_4.out); rintro e w5 ⟨rfl, hb⟩; refine ⟨_, rfl, ?_⟩; replace BK149 := blkK_ BK149 hb; replace HB := belB_ hb; (try clear hb)))
 go_ret
 exact ⟨retE_, belE_⟩

/-! ### strconv_Itoa: function 31, by hand -/
/-- The library's table, as its initialiser lays it. -/
def Amb (w : World) : Prop := Lib.TabIs Tryd.prog w "internal/strconv.uint64pow10" .u64 Lib.pow10Tab
theorem Amb.on {w w' : World} (h : Amb w) (hb : Below w.heap.size w w') : Amb w' := Lib.tabBelow_of_tabIs h w' hb
def strconv_Itoa.f (a0 : Int) : Option (ByteArray) := if -9223372036854775808 ≤ a0 ∧ a0 ≤ 9223372036854775807 then some ⟨(Lib.itoa a0).toArray⟩ else none
theorem strconv_Itoa.calls (a0 : Int) (r : ByteArray) (w : World) (hM : Amb w) (h : strconv_Itoa.f a0 = some r) :
    Calls Tryd.prog 31 #[.int .i64 a0] w fun e w' => e = .returned (.string r) ∧ Below w.heap.size w w' := by
  unfold strconv_Itoa.f at h
  by_cases hb : -9223372036854775808 ≤ a0 ∧ a0 ≤ 9223372036854775807
  · rw [if_pos hb] at h
    cases h
    refine (Tryd.strconv_Itoa a0 hb.1 hb.2 w hM).mono ?_
    rintro e w' ⟨rfl, k, os, rfl⟩
    exact ⟨rfl, Lib.below_grow _ _ (Nat.le_refl _) _ _⟩
  · rw [if_neg hb] at h
    cases h

/-! ### impl_decimal: function 24 -/
def impl_decimal.f (a0 : Int) : Option (ByteArray) := (strconv_Itoa.f a0).bind fun t151 => (some t151)
set_option maxHeartbeats 8000000 in
set_option maxRecDepth 100000 in
theorem impl_decimal.calls (a0 : Int) (r : ByteArray) (w : World) (hM : Amb w) (h : impl_decimal.f a0 = some r) :
    Calls Tryd.prog 24 #[.int .i64 a0] w fun e w' => e = .returned (.string r) ∧ Below w.heap.size w w' := by
 have HB := Aside0.mk (Below.refl w.heap.size w)
 have HM := Aside0.mk hM
 clear hM
 have H : ((strconv_Itoa.f a0).bind fun t151 => (some t151)) = some r := h
 clear h
 obtain ⟨t151, A2, H⟩ := bindE_ H
 obtain rfl := Option.some.inj H
 go_enter Tryd.func24, Tryd.ntmps24
 go_wp2_with (first | ((with_reducible refine gate_callee (f := 31) rfl ?_); refine cU_ (some 4) Tryd.func31 #[.int .i64 a0] ?_; (with_reducible refine (strconv_Itoa.calls a0 t151 _ ?side1 A2.out).mono ?_); (case side1 => exact Amb.on HM.out (by repeat (first | (with_reducible first | exact HB.out | apply below_alloc | apply pw_below_drewN | apply below_drew1) | exact HB.out))); rintro e w3 ⟨rfl, hb⟩; refine ⟨_, rfl, ?_⟩; have n0_ := belB_ hb; clear HB; have HB := n0_; clear n0_; (try clear hb); (try clear hb2); (try clear hk); (try clear hi)))
 go_ret
 exact ⟨retE_, belE_⟩

end Go.Proofs.YtljpmdeobmmhlaaDoor.QFnExactJsonText
