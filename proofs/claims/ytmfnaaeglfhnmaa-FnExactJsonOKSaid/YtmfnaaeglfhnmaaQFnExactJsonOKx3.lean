/- A tool of this session wrote this text out of the translation: functions as plain Lean, and proofs that the machine's calls come to their answers. -/
import Derived.Test.YtmfnaaeglfhnmaaQShort
import Derived.Test.YtmfnaaeglfhnmaaQFnExactJsonOKx0
import Derived.Test.YtmfnaaeglfhnmaaQFnExactJsonOKx2
namespace Go.Proofs.Ytmfnaaeglfhnmaa.QFnExactJsonOK
open Go.RowKit Go.Proofs.YtmfnaaeglfhnmaaW.PrintWords Go.Proofs.YtmfnaaeglfhnmaaW.PrintLast Go.Proofs.YtmfnaaeglfhnmaaW.PrintMore
open Go.Proofs.Ytmfnaaeglfhnmaa.Short
attribute [local go_sem] max2_int min2_int max_two min_two max_three min_three max_four min_four   -- for this text's walks alone
set_option linter.unusedVariables false
set_option linter.unusedSimpArgs false

/-! ### spec_JsonOK: function 59 -/
def spec_JsonOK.f (k : Nat) (a0_0 : Int) (a0_1 : Int) (a0_2 : ByteArray) (l0_3 : List ByteArray) (l0_4 : List (S88)) : Option (Bool) := (spec_l02OK.f k a0_0 a0_1 a0_2 l0_3 l0_4 5).bind fun t113 => (some t113)
theorem spec_JsonOK.mono : ∀ a0 a1 a2 a3 a4 k, LeO (spec_JsonOK.f k a0 a1 a2 a3 a4) (spec_JsonOK.f (k + 1) a0 a1 a2 a3 a4) := by
  intro a0 a1 a2 a3 a4 k
  unfold spec_JsonOK.f
  repeat' first
      | (with_reducible exact spec_l02OK.mono _ _ _ _ _ _ _)
      | (with_reducible exact LeO.refl _)
      | (with_reducible exact LeO.none _)
      | (with_reducible refine LeO.ite ?_ ?_)
      | (with_reducible refine LeO.bind ?_ (fun _ => ?_))
      | exact spec_l02OK.mono _ _ _ _ _ _ _
      | exact LeO.none _
      | refine LeO.ite ?_ ?_
      | refine LeO.bind ?_ (fun _ => ?_)
set_option maxHeartbeats 8000000 in
set_option maxRecDepth 100000 in
theorem spec_JsonOK.calls (k : Nat) (a0_0 : Int) (a0_1 : Int) (a0_2 : ByteArray) (A0_3 : Option Addr) (c0_3 : Nat) (l0_3 : List ByteArray) (A0_4 : Option Addr) (c0_4 : Nat) (l0_4 : List (S88)) (r : Bool) (w : World) (hr0_3 : Kd.C Kd.string w A0_3 l0_3.length l0_3) (hc0_3 : l0_3.length ≤ c0_3) (hr0_4 : Kd.C k88 w A0_4 l0_4.length l0_4) (hc0_4 : l0_4.length ≤ c0_4) (h : spec_JsonOK.f k a0_0 a0_1 a0_2 l0_3 l0_4 = some r) :
    Calls Try.prog 59 #[.agg #[.int .i64 a0_0, .int .i64 a0_1, .string a0_2, .slice A0_3 l0_3.length c0_3, .slice A0_4 l0_4.length c0_4]] w fun e w' => e = .returned (.bool r) ∧ Below w.heap.size w w' := by
 have hu88 := Try.underlying88
 have HR0_3 := Aside0.mk hr0_3
 have HC0_3 := Aside0.mk hc0_3
 clear hr0_3 hc0_3
 have HR0_4 := Aside0.mk hr0_4
 have HC0_4 := Aside0.mk hc0_4
 clear hr0_4 hc0_4
 have HB := Aside0.mk (Below.refl w.heap.size w)
 have H : ((spec_l02OK.f k a0_0 a0_1 a0_2 l0_3 l0_4 5).bind fun t113 => (some t113)) = some r := h
 clear h
 obtain ⟨t113, A2, H⟩ := bindE_ H
 obtain rfl := Option.some.inj H
 go_enter Try.func59, Try.ntmps59
 go_wp2_with (first | ((with_reducible refine gate_dst (N := 1) rfl ?_); refine box_event ?hg (N := 1) ?hd (cs := #[.int .i64 a0_0, .int .i64 a0_1, .string a0_2, .slice A0_3 l0_3.length c0_3, .slice A0_4 l0_4.length c0_4]) (t := 88) ?hr ?_; (case hd => rfl); (case hg => rfl); (case hr => first | (go_simp; done) | (go_simp; rfl)); intro gb112 hg w3 hbox hb; have n0_ := belB_ hb; have n1_ := Aside0.mk (hbox); have n2_ := Aside0.mk ((by rw [hg]; exact (below_size (by repeat (first | (with_reducible first | exact HB.out | apply below_alloc | apply pw_below_drewN | apply below_drew1) | exact HB.out))) : w.heap.size ≤ gb112)); have n3_ := Aside0.mk ((by rw [hg]; exact (below_size (by repeat (first | (with_reducible first | exact HB.out | apply below_alloc | apply pw_below_drewN | apply below_drew1) | exact HB.out))) : w.heap.size ≤ gb112)); clear HB; have HB := n0_; have BK112 := n1_; have GW112 := n2_; have GE112 := n3_; clear n0_ n1_ n2_ n3_; clear hb hbox hg; have hcz4_0 : w3.cell? ⟨gb112, 0, none⟩ = some (.int .i64 a0_0) := (blk_cell BK112.out 0).trans rfl; have hcz4_1 : w3.cell? ⟨gb112, 1, none⟩ = some (.int .i64 a0_1) := (blk_cell BK112.out 1).trans rfl; have hcz4_2 : w3.cell? ⟨gb112, 2, none⟩ = some (.string a0_2) := (blk_cell BK112.out 2).trans rfl; have hcz4_3 : w3.cell? ⟨gb112, 3, none⟩ = some (.slice A0_3 l0_3.length c0_3) := (blk_cell BK112.out 3).trans rfl; have hcz4_4 : w3.cell? ⟨gb112, 4, none⟩ = some (.slice A0_4 l0_4.length c0_4) := (blk_cell BK112.out 4).trans rfl; have hfz4_0 := blk_frozen BK112.out 0; have hfz4_1 := blk_frozen BK112.out 1; have hfz4_2 := blk_frozen BK112.out 2; have hfz4_3 := blk_frozen BK112.out 3; have hfz4_4 := blk_frozen BK112.out 4) | ((with_reducible refine gate_callee (f := 116) rfl ?_); refine cU_ (some 4) Try.func116 #[.agg #[.int .i64 a0_0, .int .i64 a0_1, .string a0_2, .slice A0_3 l0_3.length c0_3, .slice A0_4 l0_4.length c0_4], .int .i64 5] ?_; (with_reducible refine (spec_l02OK.calls k a0_0 a0_1 a0_2 _ _ l0_3 _ _ l0_4 5 t113 _ ?side1 ?side2 ?side3 ?side4 A2.out).mono ?_); (case side1 => repeat (first | exact (Kd.C_below HR0_3.out HB.out) | (with_reducible refine Kd.C_alloc ?_ _) | (with_reducible refine Kd.C_drewN ?_ _) | (with_reducible refine Kd.C_drew ?_))); (case side2 => exact HC0_3.out); (case side3 => repeat (first | exact (Kd.C_below HR0_4.out HB.out) | (with_reducible refine Kd.C_alloc ?_ _) | (with_reducible refine Kd.C_drewN ?_ _) | (with_reducible refine Kd.C_drew ?_))); (case side4 => exact HC0_4.out); rintro e w5 ⟨rfl, hb⟩; refine ⟨_, rfl, ?_⟩; replace BK112 := blkK_ BK112 hb; replace HB := belB_ hb; (try clear hb)))
 go_ret
 exact ⟨retE_, belE_⟩

/-! ### laws_toStringS: function 78 -/
def laws_toStringS.l0 : Nat → List ByteArray → List ByteArray → Int → Option (List ByteArray)
  | 0, _, _, _ => none
  | k + 1, x0, x3, x4 => if x4 < (x0.length : Int) then (if 0 ≤ x4 then (if x4 < (x3.length : Int) then (laws_toStringS.l0 k x0 (x3.set (x4 : Int).toNat (rdOf ByteArray.empty x0 x4)) (wrap64 (x4 + 1))) else (none)) else (none)) else (some x3)
def laws_toStringS.f (k : Nat) (l0 : List ByteArray) : Option (List ByteArray) := if 0 ≤ (l0.length : Int) then (if ((l0.length : Int) : Int).toNat ≤ 17592186044416 then (laws_toStringS.l0 k l0 (List.replicate ((l0.length : Int) : Int).toNat (⟨#[]⟩ : ByteArray)) 0) else (none)) else (none)
theorem laws_toStringS.mono_l : ∀ k, (∀ y0 y1 y2, LeO (laws_toStringS.l0 k y0 y1 y2) (laws_toStringS.l0 (k + 1) y0 y1 y2))
  | 0 => fun _ _ _ r h => by simp [laws_toStringS.l0] at h
  | k + 1 => by
    have ih0 := laws_toStringS.mono_l k
    · intro y0 y1 y2
      unfold laws_toStringS.l0
      repeat' first
      | (with_reducible exact ih0 _ _ _)
      | (with_reducible exact LeO.refl _)
      | (with_reducible exact LeO.none _)
      | (with_reducible refine LeO.ite ?_ ?_)
      | (with_reducible refine LeO.bind ?_ (fun _ => ?_))
      | exact ih0 _ _ _
      | exact LeO.none _
      | refine LeO.ite ?_ ?_
      | refine LeO.bind ?_ (fun _ => ?_)
theorem laws_toStringS.mono : ∀ a0 k, LeO (laws_toStringS.f k a0) (laws_toStringS.f (k + 1) a0) := by
  intro a0 k
  have ih0 := laws_toStringS.mono_l k
  unfold laws_toStringS.f
  repeat' first
      | (with_reducible exact ih0 _ _ _)
      | (with_reducible exact LeO.refl _)
      | (with_reducible exact LeO.none _)
      | (with_reducible refine LeO.ite ?_ ?_)
      | (with_reducible refine LeO.bind ?_ (fun _ => ?_))
      | exact ih0 _ _ _
      | exact LeO.none _
      | refine LeO.ite ?_ ?_
      | refine LeO.bind ?_ (fun _ => ?_)
set_option maxHeartbeats 8000000 in
set_option maxRecDepth 100000 in
theorem laws_toStringS.calls (k : Nat) (A0 : Option Addr) (c0 : Nat) (l0 : List ByteArray) (r : List ByteArray) (w : World) (hr0 : Kd.C Kd.string w A0 l0.length l0) (hc0 : l0.length ≤ c0) (h : laws_toStringS.f k l0 = some r) :
    Calls Try.prog 78 #[.slice A0 l0.length c0] w fun e w' => ∃ v0_ : Value, e = .returned (v0_) ∧ Kd.R Kd.string 9 w' w.heap.size (fun _ => True) v0_ r ∧ Below w.heap.size w w' := by
 have HR0 := Aside0.mk hr0
 have HC0 := Aside0.mk hc0
 clear hr0 hc0
 have HB := Aside0.mk (Below.refl w.heap.size w)
 have H : (if 0 ≤ (l0.length : Int) then (if ((l0.length : Int) : Int).toNat ≤ 17592186044416 then (laws_toStringS.l0 k l0 (List.replicate ((l0.length : Int) : Int).toNat (⟨#[]⟩ : ByteArray)) 0) else (none)) else (none)) = some r := h
 clear h
 by_cases c2 : 0 ≤ (l0.length : Int)
 ·
  rw [if_pos c2] at H
  have c2b0 := eq_true c2
  have c2b1 : decide (0 ≤ (l0.length : Int)) = true := decide_eq_true c2
  clear c2
  by_cases c3 : ((l0.length : Int) : Int).toNat ≤ 17592186044416
  ·
   rw [if_pos c3] at H
   have c3b0 := eq_true c3
   have c3b1 : decide (((l0.length : Int) : Int).toNat ≤ 17592186044416) = true := decide_eq_true c3
   clear c3
   obtain ⟨y114, hy114⟩ : ∃ y_ : List ByteArray, y_ = (List.replicate ((l0.length : Int) : Int).toNat (⟨#[]⟩ : ByteArray)) := ⟨_, rfl⟩
   replace H : (laws_toStringS.l0 k l0 y114 0) = some r := by first | (rw [hy114]; with_reducible exact H) | (have H2_ := (Option.bind_some _ _).symm.trans H; rw [hy114]; with_reducible exact H2_) | (have H2_ := (Option.bind_some _ _).symm.trans H; with_reducible exact H2_) | with_reducible exact H | (rw [hy114]; exact H) | exact H
   have Ny114 := Aside0.mk hy114
   clear hy114
   have H' := Aside0.mk H
   clear H
   go_enter Try.func78, Try.ntmps78
   go_wp2_with (first | ((with_reducible refine gate_dst (N := 7) rfl ?_); refine Kd.R_make Kd.string _ 9 rfl (N := 7) rfl 34 _ _ rfl (l0.length : Int) rfl rfl Try.underlying34 (.string ⟨#[]⟩) 16 info9 rfl (by decide) (by omega) (⟨#[]⟩ : ByteArray) (ok := fun _ => True) (okp := fun _ => True) rfl (fun _ hk => hk) trivial (of_decide_eq_true (by first | (with_reducible assumption) | assumption)) (Nat.le_trans (Nat.mul_le_mul_right _ (of_decide_eq_true (by first | (with_reducible assumption) | assumption) : (l0.length : Int).toNat ≤ 17592186044416)) (by omega)) (Below.refl _ _) (Nat.le_refl _) ?_; intro v115 w4 ho5 hb hg_ hnew_; clear hg_ hnew_; (first | rw [← Ny114.out] at ho5 | (simp only [Int.reduceToNat] at ho5; rw [← Ny114.out] at ho5)); have n0_ := Aside0.mk (Kd.R_lower ho5 (below_size (by repeat (first | (with_reducible first | exact HB.out | apply below_alloc | apply pw_below_drewN | apply below_drew1) | exact HB.out)))); have n1_ := belB_ hb; clear HB; have HO116 := n0_; have HB := n1_; clear n0_ n1_; clear hb ho5))
   go_loopg [4] k (fun kq v4 w' => ∃ (x3_1 : List ByteArray) (x4_1 : Int), v4 = .int .i64 x4_1 ∧ Aside0 (laws_toStringS.l0 kq l0 x3_1 x4_1 = some r) ∧ Aside0 (kq ≤ k) ∧ Aside0 (Kd.R Kd.string 9 w' w.heap.size (fun _ => True) v115 x3_1) ∧ Aside0 (Below w.heap.size w w'))
   case atStart => exact ⟨(y114), (0), eqE_, H', ⟨Nat.le_refl _⟩, ⟨by (with_reducible repeat (first | apply Kd.R_alloc | apply Kd.R_drewN | apply Kd.R_drew)); exact HO116.out⟩, ⟨belE_⟩⟩
   case round =>
    clear H'
    try clear c2
    try clear c2b0
    try clear c2b1
    try clear c3
    try clear c3b0
    try clear c3b1
    obtain ⟨x3_1, x4_1, rfl, HA, HK1, HO_3, HB⟩ := hrel
    cases gk with
    | zero => exact absurd HA.out (by simp [laws_toStringS.l0])
    | succ k1 =>
     have H := HA.out
     clear HA
     simp only [laws_toStringS.l0] at H
     by_cases c6 : x4_1 < (l0.length : Int)
     ·
      rw [if_pos c6] at H
      have c6b0 : decide (x4_1 < (l0.length : Int)) = true := decide_eq_true c6
      clear c6
      by_cases c7 : 0 ≤ x4_1
      ·
       rw [if_pos c7] at H
       have c7b0 : decide (0 ≤ x4_1) = true := decide_eq_true c7
       clear c7
       by_cases c8 : x4_1 < (x3_1.length : Int)
       ·
        rw [if_pos c8] at H
        have c8b0 : decide (x4_1 < (x3_1.length : Int)) = true := decide_eq_true c8
        clear c8
        obtain ⟨y118, hy118⟩ : ∃ y_ : List ByteArray, y_ = (x3_1.set (x4_1 : Int).toNat (rdOf ByteArray.empty l0 x4_1)) := ⟨_, rfl⟩
        replace H : (laws_toStringS.l0 k1 l0 y118 (wrap64 (x4_1 + 1))) = some r := by first | (rw [hy118]; with_reducible exact H) | (have H2_ := (Option.bind_some _ _).symm.trans H; rw [hy118]; with_reducible exact H2_) | (have H2_ := (Option.bind_some _ _).symm.trans H; with_reducible exact H2_) | with_reducible exact H | (rw [hy118]; exact H) | exact H
        have Ny118 := Aside0.mk hy118
        clear hy118
        have H' := Aside0.mk H
        clear H
        have p117 : 0 ≤ (x4_1 : Int) := of_decide_eq_true (by first | (with_reducible assumption) | assumption)
        have q117 : x4_1 < (l0.length : Int) := of_decide_eq_true (by first | (with_reducible assumption) | assumption)
        obtain ⟨ad117, e117, hx117_0⟩ := Kd.at_string HR0.out x4_1 p117 q117
        cases e117
        replace hx117_0 := (HB.out.cell (World.block_lt_of_cell? w _ hx117_0)).trans hx117_0
        replace p117 := eq_true p117
        replace q117 := eq_true q117
        have p9 : 0 ≤ (x4_1 : Int) := of_decide_eq_true (by first | (with_reducible assumption) | assumption)
        have q9 : (x4_1 : Int) < ((x3_1.length : Int) : Int) := of_decide_eq_true (by first | (with_reducible assumption) | assumption)
        obtain ⟨go9, co9, eo9, gb9, gl9, cl9, HG9⟩ := Kd.R_form HO_3.out (by omega)
        (first | cases eo9 | (injection eo9 with ea_ en_ ec_; (first | subst ea_ | (injection ea_ with ea_; subst ea_)); subst ec_; clear en_))
        have GB9 := Aside0.mk gb9
        have GG9 := Aside0.mk HG9
        clear gb9 gl9 HG9
        obtain ⟨hx9_0, hf9_0⟩ := Kd.R_celln (⟨#[]⟩ : ByteArray) HO_3.out (x4_1 : Int) p9 q9
        replace p9 := eq_true p9
        replace q9 := eq_true q9
        have HP10 := Kd.R_putg HO_3.out (x4_1 : Int) (rdOf ByteArray.empty l0 x4_1)
        go_wp2_with (first | ((with_reducible refine gate_store (t := 9) (p := 20) rfl ?_); refine store_event (t := 9) (p := 20) (v := ?vo_w11) (w1 := (wr.setCell ⟨go9, (x4_1 : Int).toNat, none⟩ (.string (rdOf ByteArray.empty l0 x4_1)))) ?hg ?ho ?hn ?hr ?_; (case ho => rfl); (case hg => rfl); (case hn => rfl); (case hr => first | (go_simp; done) | (go_simp; rfl)); intro w11 hw; have hg : wr.grownBy w11 (some go9) := (by rw [hw]; exact HP10.2); have hp_ : Kd.R Kd.string 9 w11 w.heap.size (fun _ => True) (.slice (some ⟨go9, 0, none⟩) x3_1.length co9) y118 := (by rw [hw, Ny118.out]; exact HP10.1); clear HP10; have n0_ := Aside0.mk (hp_); have n1_ := Aside0.mk ((by rw [hw]; exact below_set (HB.out) GB9.out : Below w.heap.size w w11)); clear HO_3; clear HB; have HO_3 := n0_; have HB := n1_; clear n0_ n1_; clear hg hw hp_))
        go_roundg k1
        case measure => have := HK1.out; omega
        case rel => exact ⟨(y118), (wrap64 (x4_1 + 1)), eqE_, H', ⟨by have := HK1.out; omega⟩, ⟨by (with_reducible repeat (first | apply Kd.R_alloc | apply Kd.R_drewN | apply Kd.R_drew)); exact HO_3.out⟩, ⟨belE_⟩⟩
       ·
        rw [if_neg c8] at H
        exact absurd H (by simp)
      ·
       rw [if_neg c7] at H
       exact absurd H (by simp)
     ·
      rw [if_neg c6] at H
      have c6b0 : decide (x4_1 < (l0.length : Int)) = false := decide_eq_false c6
      clear c6
      obtain rfl := Option.some.inj H
      go_wp2
      go_ret
      exact ⟨_, by first | rfl | (simp [errW_none, errW_some] <;> rfl) | (simp [*, errW_none, errW_some] <;> rfl), by (with_reducible repeat (first | apply Kd.R_alloc | apply Kd.R_drewN | apply Kd.R_drew)); exact HO_3.out, belE_⟩
  ·
   rw [if_neg c3] at H
   exact absurd H (by simp)
 ·
  rw [if_neg c2] at H
  exact absurd H (by simp)

/-! ### laws_toJson: function 60, by hand -/
mutual
/-- The program's form of a value. -/
def laws_toJson.toJ : S83 → S88
  | ⟨a, b, c, d, e⟩ => ⟨a, b, c, d, laws_toJson.toJL e⟩
def laws_toJson.toJL : List S83 → List S88
  | [] => []
  | x :: xs => laws_toJson.toJ x :: laws_toJson.toJL xs
end
mutual
/-- No list is longer than 2 ^ 20. -/
def laws_toJson.okJ : S83 → Bool
  | ⟨_, _, _, d, e⟩ => decide (d.length ≤ 1048576) && decide (e.length ≤ 1048576) && laws_toJson.okJL e
def laws_toJson.okJL : List S83 → Bool
  | [] => true
  | x :: xs => laws_toJson.okJ x && laws_toJson.okJL xs
end
theorem laws_toJson.toJL_map : ∀ l : List S83, laws_toJson.toJL l = l.map laws_toJson.toJ
  | [] => by rw [laws_toJson.toJL]; rfl
  | x :: xs => by rw [laws_toJson.toJL, laws_toJson.toJL_map xs]; rfl
theorem laws_toJson.toJL_len (l : List S83) : (laws_toJson.toJL l).length = l.length := by rw [laws_toJson.toJL_map, List.length_map]
theorem laws_toJson.okJL_all : ∀ l : List S83, laws_toJson.okJL l = true → ∀ x ∈ l, laws_toJson.okJ x = true
  | [], _, x, hx => by cases hx
  | y :: ys, h, x, hx => by
    simp only [laws_toJson.okJL, Bool.and_eq_true] at h
    rcases List.mem_cons.1 hx with rfl | hx
    · exact h.1
    · exact laws_toJson.okJL_all ys h.2 x hx
theorem laws_toJson.set_ {α : Type} (l : List α) (z : α) (n d : Nat) (h : n + (d + 1) = l.length) (y : α) (hy : l[n]? = some y) : (l.take n ++ List.replicate (d + 1) z).set n y = l.take (n + 1) ++ List.replicate d z := by
  have hn : n < l.length := by omega
  have e : l[n] = y := by rw [List.getElem?_eq_getElem hn] at hy; exact Option.some.inj hy
  rw [List.set_append_right _ _ (by rw [List.length_take]; omega), List.length_take, Nat.min_eq_left (by omega), Nat.sub_self, List.replicate_succ, List.set_cons_zero, List.take_add_one, hy]
  simp
theorem laws_toJson.str_l0 (l : List ByteArray) (hl : l.length ≤ 1048576) : ∀ (d n : Nat), n + d = l.length → laws_toStringS.l0 (d + 1) l (l.take n ++ List.replicate d (⟨#[]⟩ : ByteArray)) (n : Int) = some l := by
  intro d
  induction d with
  | zero => intro n h; rw [laws_toStringS.l0, if_neg (by omega), List.replicate_zero, List.append_nil, List.take_of_length_le (by omega)]
  | succ d ih =>
    intro n h
    have hn : n < l.length := by omega
    rw [laws_toStringS.l0, if_pos (by omega), if_pos (by omega), if_pos (by simp; omega), Int.toNat_natCast, laws_toJson.set_ l _ n d h _ (by simp [rdOf, List.getD, hn]), show wrap64 ((n : Int) + 1) = ((n + 1 : Nat) : Int) from by unfold wrap64; omega]
    exact ih (n + 1) (by omega)
theorem laws_toJson.str (l : List ByteArray) (hl : l.length ≤ 1048576) : laws_toStringS.f (l.length + 1) l = some l := by
  rw [laws_toStringS.f, if_pos (by omega), if_pos (by omega)]
  exact laws_toJson.str_l0 l hl l.length 0 (by omega)
theorem laws_toJson.ltR {W w' : World} (hb : Below W.heap.size W w') {α : Type} {d : Kd α} {e base : Nat} {ok : Nat → Prop} {v : Value} {xs : List α} (h : d.R e W base ok v xs) : ∀ k, v.ownBlock = some k → k < W.heap.size := Kd.R_lt h
theorem laws_toJson.lt_ {W w' : World} (hb : Below W.heap.size W w') {g : Nat} {o : Obj} (h : W.heap[g]? = some o) : g < W.heap.size := blk_lt h
abbrev laws_toJson.P (x : S83) : Prop := ∀ (A3 : Option Addr) (c3 : Nat) (A4 : Option Addr) (c4 : Nat) (w : World), Kd.C Kd.string w A3 x.f3.length x.f3 → x.f3.length ≤ c3 → Kd.C k83 w A4 x.f4.length x.f4 → x.f4.length ≤ c4 → laws_toJson.okJ x = true →
  Calls Try.prog 60 #[.agg #[(.int .i64 x.f0), (.int .i64 x.f1), (.string x.f2), (.slice A3 x.f3.length c3), (.slice A4 x.f4.length c4)]] w fun e w' => ∃ v3_ v4_ : Value, e = .returned (.agg #[.int .i64 x.f0, .int .i64 x.f1, .string x.f2, v3_, v4_]) ∧ Kd.R Kd.string 9 w' w.heap.size (fun _ => True) v3_ x.f3 ∧ Kd.R k88 88 w' w.heap.size (fun k_ => some k_ ≠ v3_.ownBlock) v4_ (laws_toJson.toJL x.f4) ∧ Below w.heap.size w w'
set_option maxHeartbeats 8000000 in
set_option maxRecDepth 100000 in
theorem laws_toJson.own1 (x : S83) (hp : laws_toJson.okJL x.f4 = true → ∀ (A : Option Addr) (c : Nat) (w : World), Kd.C k83 w A x.f4.length x.f4 → x.f4.length ≤ c → x.f4.length ≤ 1048576 →
    Calls Try.prog 117 #[.slice A x.f4.length c] w fun e w' => ∃ v0_ : Value, e = .returned v0_ ∧ Kd.R k88 88 w' w.heap.size (fun _ => True) v0_ (laws_toJson.toJL x.f4) ∧ Below w.heap.size w w') : laws_toJson.P x := by
  intro A3 c3 A4 c4 w h3 l3 h4 l4 hok
  have hk : x.f3.length ≤ 1048576 ∧ x.f4.length ≤ 1048576 ∧ laws_toJson.okJL x.f4 = true := by
    cases x; simp only [laws_toJson.okJ, Bool.and_eq_true, decide_eq_true_eq] at hok; exact ⟨hok.1.1, hok.1.2, hok.2⟩
  have HS := Aside0.mk (fun (W : World) (hw : Below w.heap.size w W) => laws_toStringS.calls (x.f3.length + 1) A3 c3 x.f3 x.f3 W (Kd.C_below h3 hw) l3 (laws_toJson.str x.f3 hk.1))
  have HT := Aside0.mk (fun (W : World) (hw : Below w.heap.size w W) => hp hk.2.2 A4 c4 W (Kd.C_below h4 hw) l4 hk.2.1)
  have HB := Aside0.mk (Below.refl w.heap.size w)
  clear h3 h4 hp hok hk
  have hu83 := Try.underlying83
  have hu88 := Try.underlying88
  go_enter Try.func60, Try.ntmps60
  go_wp2_with (first | ((with_reducible refine gate_dst (N := 1) rfl ?_); refine box_event ?hg (N := 1) ?hd (cs := #[(.int .i64 x.f0), (.int .i64 x.f1), (.string x.f2), (.slice A3 x.f3.length c3), (.slice A4 x.f4.length c4)]) (t := 83) ?hr ?_; (case hd => rfl); (case hg => rfl); (case hr => first | (go_simp; done) | (go_simp; rfl)); intro g1 hg w2 hx hb; have B1 := Aside0.mk hx; have n0 := Aside0.mk (below_step HB.out hb); clear HB; have HB := n0; clear n0 hx hb hg) | ((with_reducible refine gate_dst (N := 2) rfl ?_); refine box_event ?hg (N := 2) ?hd (cs := #[(.int .i64 0), (.int .i64 0), (.string (⟨#[]⟩ : ByteArray)), (.slice none 0 0), (.slice none 0 0)]) (t := 88) ?hr ?_; (case hd => rfl); (case hg => rfl); (case hr => first | (go_simp; done) | (go_simp; rfl)); intro g2 hg w3 hx hb; have N12 := Aside0.mk (by rw [hg]; exact Nat.ne_of_lt (blk_lt B1.out) : g1 ≠ g2); have GE2 := Aside0.mk (by rw [hg]; exact below_size HB.out : w.heap.size ≤ g2); have n1 := Aside0.mk (blk_below B1.out hb); clear B1; have B1 := n1; have B2 := Aside0.mk hx; have n0 := Aside0.mk (below_step HB.out hb); clear HB; have HB := n0; clear n0 n1 hx hb hg) | ((with_reducible refine gate_dst (N := 3) rfl ?_); refine box_event ?hg (N := 3) ?hd (cs := #[(.int .i64 0), (.int .i64 0), (.string (⟨#[]⟩ : ByteArray)), (.slice none 0 0), (.slice none 0 0)]) (t := 88) ?hr ?_; (case hd => rfl); (case hg => rfl); (case hr => first | (go_simp; done) | (go_simp; rfl)); intro g3 hg w4 hx hb; have N13 := Aside0.mk (by rw [hg]; exact Nat.ne_of_lt (blk_lt B1.out) : g1 ≠ g3); have N23 := Aside0.mk (by rw [hg]; exact Nat.ne_of_lt (blk_lt B2.out) : g2 ≠ g3); have GE3 := Aside0.mk (by rw [hg]; exact below_size HB.out : w.heap.size ≤ g3); have n1 := Aside0.mk (blk_below B1.out hb); have n2 := Aside0.mk (blk_below B2.out hb); clear B1 B2; have B1 := n1; have B2 := n2; have B3 := Aside0.mk hx; have n0 := Aside0.mk (below_step HB.out hb); clear HB; have HB := n0; clear n0 n1 n2 hx hb hg; have e13 := N13.out; have e31 := N13.out.symm; have e23 := N23.out; have e32 := N23.out.symm; have p0 : w4.cell? ⟨g1, 0, none⟩ = some (.int .i64 x.f0) := (blk_cell B1.out 0).trans rfl; have pf0 := blk_frozen B1.out 0; have p1 : w4.cell? ⟨g1, 1, none⟩ = some (.int .i64 x.f1) := (blk_cell B1.out 1).trans rfl; have pf1 := blk_frozen B1.out 1; have p2 : w4.cell? ⟨g1, 2, none⟩ = some (.string x.f2) := (blk_cell B1.out 2).trans rfl; have pf2 := blk_frozen B1.out 2; have p3 : w4.cell? ⟨g1, 3, none⟩ = some (.slice A3 x.f3.length c3) := (blk_cell B1.out 3).trans rfl; have pf3 := blk_frozen B1.out 3; have p4 : w4.cell? ⟨g1, 4, none⟩ = some (.slice A4 x.f4.length c4) := (blk_cell B1.out 4).trans rfl; have pf4 := blk_frozen B1.out 4; have z0 : w4.cell? ⟨g3, 0, none⟩ = some (.int .i64 0) := (blk_cell B3.out 0).trans rfl; have zf0 := blk_frozen B3.out 0; have z1 : w4.cell? ⟨g3, 1, none⟩ = some (.int .i64 0) := (blk_cell B3.out 1).trans rfl; have zf1 := blk_frozen B3.out 1; have z2 : w4.cell? ⟨g3, 2, none⟩ = some (.string (⟨#[]⟩ : ByteArray)) := (blk_cell B3.out 2).trans rfl; have zf2 := blk_frozen B3.out 2; have z3 : w4.cell? ⟨g3, 3, none⟩ = some (.slice none 0 0) := (blk_cell B3.out 3).trans rfl; have zf3 := blk_frozen B3.out 3; have z4 : w4.cell? ⟨g3, 4, none⟩ = some (.slice none 0 0) := (blk_cell B3.out 4).trans rfl; have zf4 := blk_frozen B3.out 4; ) | (go_at_call 78; refine (HS.out _ ((by repeat (first | (with_reducible first | exact HB.out | apply below_alloc | apply pw_below_drewN | apply below_drew1 | refine below_set ?_ GE3.out | refine below_set ?_ GE2.out) | exact HB.out)))).mono ?_; rintro e w7 ⟨v3, rfl, ho, hb⟩; have n1 := Aside0.mk (blk_below (g := g1) (o := .cells #[(.int .i64 x.f0), (.int .i64 x.f1), (.string x.f2), (.slice A3 x.f3.length c3), (.slice A4 x.f4.length c4)] 83 (0, 0)) (by (with_reducible repeat (first | refine blk_drewN ?_ _ | refine blk_drew ?_ | refine blk_alloc ?_ _)); refine blk_far ?_ N13.out _; (with_reducible repeat (first | refine blk_drewN ?_ _ | refine blk_drew ?_ | refine blk_alloc ?_ _)); refine blk_far ?_ N13.out _; (with_reducible repeat (first | refine blk_drewN ?_ _ | refine blk_drew ?_ | refine blk_alloc ?_ _)); refine blk_far ?_ N13.out _; (with_reducible repeat (first | refine blk_drewN ?_ _ | refine blk_drew ?_ | refine blk_alloc ?_ _)); exact B1.out) hb); have n2 := Aside0.mk (blk_below (g := g2) (o := .cells #[(.int .i64 0), (.int .i64 0), (.string (⟨#[]⟩ : ByteArray)), (.slice none 0 0), (.slice none 0 0)] 88 (0, 0)) (by (with_reducible repeat (first | refine blk_drewN ?_ _ | refine blk_drew ?_ | refine blk_alloc ?_ _)); refine blk_far ?_ N23.out _; (with_reducible repeat (first | refine blk_drewN ?_ _ | refine blk_drew ?_ | refine blk_alloc ?_ _)); refine blk_far ?_ N23.out _; (with_reducible repeat (first | refine blk_drewN ?_ _ | refine blk_drew ?_ | refine blk_alloc ?_ _)); refine blk_far ?_ N23.out _; (with_reducible repeat (first | refine blk_drewN ?_ _ | refine blk_drew ?_ | refine blk_alloc ?_ _)); exact B2.out) hb); have n3 := Aside0.mk (blk_below (g := g3) (o := .cells #[(.int .i64 x.f0), (.int .i64 x.f1), (.string x.f2), (.slice none 0 0), (.slice none 0 0)] 88 (0, 0)) (by (with_reducible repeat (first | refine blk_drewN ?_ _ | refine blk_drew ?_ | refine blk_alloc ?_ _)); refine blk_put (cs := #[(.int .i64 x.f0), (.int .i64 x.f1), (.string (⟨#[]⟩ : ByteArray)), (.slice none 0 0), (.slice none 0 0)]) ?_ 2 _ rfl; (with_reducible repeat (first | refine blk_drewN ?_ _ | refine blk_drew ?_ | refine blk_alloc ?_ _)); refine blk_put (cs := #[(.int .i64 x.f0), (.int .i64 0), (.string (⟨#[]⟩ : ByteArray)), (.slice none 0 0), (.slice none 0 0)]) ?_ 1 _ rfl; (with_reducible repeat (first | refine blk_drewN ?_ _ | refine blk_drew ?_ | refine blk_alloc ?_ _)); refine blk_put (cs := #[(.int .i64 0), (.int .i64 0), (.string (⟨#[]⟩ : ByteArray)), (.slice none 0 0), (.slice none 0 0)]) ?_ 0 _ rfl; (with_reducible repeat (first | refine blk_drewN ?_ _ | refine blk_drew ?_ | refine blk_alloc ?_ _)); exact B3.out) hb); have n4 := Aside0.mk (Kd.R_lower ho (below_size (by repeat (first | (with_reducible first | exact HB.out | apply below_alloc | apply pw_below_drewN | apply below_drew1 | refine below_set ?_ GE3.out | refine below_set ?_ GE2.out) | exact HB.out)))); have n0 := Aside0.mk (below_step (by repeat (first | (with_reducible first | exact HB.out | apply below_alloc | apply pw_below_drewN | apply below_drew1 | refine below_set ?_ GE3.out | refine below_set ?_ GE2.out) | exact HB.out)) hb); clear B1 B2 B3 HB; have B1 := n1; have B2 := n2; have B3 := n3; have HB := n0; have HO3 := n4; clear n0 n1 n2 n3 n4 hb ho; obtain ⟨Ao, co, eo⟩ := Kd.R_slice HO3.out; subst eo; have q0 : w7.cell? ⟨g1, 0, none⟩ = some (.int .i64 x.f0) := (blk_cell B1.out 0).trans rfl; have qf0 := blk_frozen B1.out 0; have q1 : w7.cell? ⟨g1, 1, none⟩ = some (.int .i64 x.f1) := (blk_cell B1.out 1).trans rfl; have qf1 := blk_frozen B1.out 1; have q2 : w7.cell? ⟨g1, 2, none⟩ = some (.string x.f2) := (blk_cell B1.out 2).trans rfl; have qf2 := blk_frozen B1.out 2; have q3 : w7.cell? ⟨g1, 3, none⟩ = some (.slice A3 x.f3.length c3) := (blk_cell B1.out 3).trans rfl; have qf3 := blk_frozen B1.out 3; have q4 : w7.cell? ⟨g1, 4, none⟩ = some (.slice A4 x.f4.length c4) := (blk_cell B1.out 4).trans rfl; have qf4 := blk_frozen B1.out 4; have r0 : w7.cell? ⟨g3, 0, none⟩ = some (.int .i64 x.f0) := (blk_cell B3.out 0).trans rfl; have rf0 := blk_frozen B3.out 0; have r1 : w7.cell? ⟨g3, 1, none⟩ = some (.int .i64 x.f1) := (blk_cell B3.out 1).trans rfl; have rf1 := blk_frozen B3.out 1; have r2 : w7.cell? ⟨g3, 2, none⟩ = some (.string x.f2) := (blk_cell B3.out 2).trans rfl; have rf2 := blk_frozen B3.out 2; have r3 : w7.cell? ⟨g3, 3, none⟩ = some (.slice none 0 0) := (blk_cell B3.out 3).trans rfl; have rf3 := blk_frozen B3.out 3; have r4 : w7.cell? ⟨g3, 4, none⟩ = some (.slice none 0 0) := (blk_cell B3.out 4).trans rfl; have rf4 := blk_frozen B3.out 4; ) | (go_at_call 117; refine (HT.out _ ((by repeat (first | (with_reducible first | exact HB.out | apply below_alloc | apply pw_below_drewN | apply below_drew1 | refine below_set ?_ GE3.out | refine below_set ?_ GE2.out) | exact HB.out)))).mono ?_; rintro e w9 ⟨v4, rfl, ho, hb⟩; have m2 := laws_toJson.lt_ hb (g := g2) (o := .cells #[(.int .i64 0), (.int .i64 0), (.string (⟨#[]⟩ : ByteArray)), (.slice none 0 0), (.slice none 0 0)] 88 (0, 0)) (by (with_reducible repeat (first | refine blk_drewN ?_ _ | refine blk_drew ?_ | refine blk_alloc ?_ _)); refine blk_far ?_ N23.out _; (with_reducible repeat (first | refine blk_drewN ?_ _ | refine blk_drew ?_ | refine blk_alloc ?_ _)); exact B2.out); have m3 := laws_toJson.lt_ hb (g := g3) (o := .cells #[(.int .i64 x.f0), (.int .i64 x.f1), (.string x.f2), (.slice Ao x.f3.length co), (.slice none 0 0)] 88 (0, 0)) (by (with_reducible repeat (first | refine blk_drewN ?_ _ | refine blk_drew ?_ | refine blk_alloc ?_ _)); refine blk_put (cs := #[(.int .i64 x.f0), (.int .i64 x.f1), (.string x.f2), (.slice none 0 0), (.slice none 0 0)]) ?_ 3 _ rfl; (with_reducible repeat (first | refine blk_drewN ?_ _ | refine blk_drew ?_ | refine blk_alloc ?_ _)); exact B3.out); have m4 := laws_toJson.ltR hb (by (with_reducible repeat (first | apply Kd.R_alloc | apply Kd.R_drewN | apply Kd.R_drew)); exact (Kd.R_mono (Kd.R_far (p := ⟨g3, 3, none⟩) (Kd.R_types HO3.out B3.out (by decide)) (fun _ hk => hk.2) (.slice Ao x.f3.length co)) (fun _ h_ => h_.1))); have n2 := Aside0.mk (blk_below (g := g2) (o := .cells #[(.int .i64 0), (.int .i64 0), (.string (⟨#[]⟩ : ByteArray)), (.slice none 0 0), (.slice none 0 0)] 88 (0, 0)) (by (with_reducible repeat (first | refine blk_drewN ?_ _ | refine blk_drew ?_ | refine blk_alloc ?_ _)); refine blk_far ?_ N23.out _; (with_reducible repeat (first | refine blk_drewN ?_ _ | refine blk_drew ?_ | refine blk_alloc ?_ _)); exact B2.out) hb); have n3 := Aside0.mk (blk_below (g := g3) (o := .cells #[(.int .i64 x.f0), (.int .i64 x.f1), (.string x.f2), (.slice Ao x.f3.length co), (.slice none 0 0)] 88 (0, 0)) (by (with_reducible repeat (first | refine blk_drewN ?_ _ | refine blk_drew ?_ | refine blk_alloc ?_ _)); refine blk_put (cs := #[(.int .i64 x.f0), (.int .i64 x.f1), (.string x.f2), (.slice none 0 0), (.slice none 0 0)]) ?_ 3 _ rfl; (with_reducible repeat (first | refine blk_drewN ?_ _ | refine blk_drew ?_ | refine blk_alloc ?_ _)); exact B3.out) hb); have n4 := Aside0.mk (Kd.R_mono (ok' := fun k => k ≠ g2 ∧ k ≠ g3 ∧ some k ≠ (.slice Ao x.f3.length co : Value).ownBlock) (Kd.R_lower (Kd.R_bound ho) (below_size (by repeat (first | (with_reducible first | exact HB.out | apply below_alloc | apply pw_below_drewN | apply below_drew1 | refine below_set ?_ GE3.out | refine below_set ?_ GE2.out) | exact HB.out)))) (fun k hk => ⟨fun h_ => absurd hk.2.1 (by rw [h_]; exact Nat.not_le_of_lt m2), fun h_ => absurd hk.2.1 (by rw [h_]; exact Nat.not_le_of_lt m3), fun h_ => absurd hk.2.1 (Nat.not_le_of_lt (m4 k h_.symm))⟩)); have n5 := Aside0.mk (Kd.R_below (by (with_reducible repeat (first | apply Kd.R_alloc | apply Kd.R_drewN | apply Kd.R_drew)); exact (Kd.R_mono (Kd.R_far (p := ⟨g3, 3, none⟩) (Kd.R_types HO3.out B3.out (by decide)) (fun _ hk => hk.2) _) (fun _ h_ => h_.1))) hb); have n0 := Aside0.mk (below_step (by repeat (first | (with_reducible first | exact HB.out | apply below_alloc | apply pw_below_drewN | apply below_drew1 | refine below_set ?_ GE3.out | refine below_set ?_ GE2.out) | exact HB.out)) hb); clear B1 B2 B3 HB HO3; have B2 := n2; have B3 := n3; have HB := n0; have HO3 := n5; have HO4 := n4; clear n0 n2 n3 n4 n5 m2 m3 m4 hb ho; obtain ⟨Bo, do_, eo⟩ := Kd.R_slice HO4.out; subst eo; have s0 : w9.cell? ⟨g2, 0, none⟩ = some (.int .i64 0) := (blk_cell B2.out 0).trans rfl; have sf0 := blk_frozen B2.out 0; have s1 : w9.cell? ⟨g2, 1, none⟩ = some (.int .i64 0) := (blk_cell B2.out 1).trans rfl; have sf1 := blk_frozen B2.out 1; have s2 : w9.cell? ⟨g2, 2, none⟩ = some (.string (⟨#[]⟩ : ByteArray)) := (blk_cell B2.out 2).trans rfl; have sf2 := blk_frozen B2.out 2; have s3 : w9.cell? ⟨g2, 3, none⟩ = some (.slice none 0 0) := (blk_cell B2.out 3).trans rfl; have sf3 := blk_frozen B2.out 3; have s4 : w9.cell? ⟨g2, 4, none⟩ = some (.slice none 0 0) := (blk_cell B2.out 4).trans rfl; have sf4 := blk_frozen B2.out 4; have t0 : w9.cell? ⟨g3, 0, none⟩ = some (.int .i64 x.f0) := (blk_cell B3.out 0).trans rfl; have tf0 := blk_frozen B3.out 0; have t1 : w9.cell? ⟨g3, 1, none⟩ = some (.int .i64 x.f1) := (blk_cell B3.out 1).trans rfl; have tf1 := blk_frozen B3.out 1; have t2 : w9.cell? ⟨g3, 2, none⟩ = some (.string x.f2) := (blk_cell B3.out 2).trans rfl; have tf2 := blk_frozen B3.out 2; have t3 : w9.cell? ⟨g3, 3, none⟩ = some (.slice Ao x.f3.length co) := (blk_cell B3.out 3).trans rfl; have tf3 := blk_frozen B3.out 3; have t4 : w9.cell? ⟨g3, 4, none⟩ = some (.slice none 0 0) := (blk_cell B3.out 4).trans rfl; have tf4 := blk_frozen B3.out 4; ))
  refine bodyPost_ret (results_cell_row rfl _ _ g2 88 #[(.int .i64 x.f0), (.int .i64 x.f1), (.string x.f2), (.slice Ao x.f3.length co), (.slice Bo (laws_toJson.toJL x.f4).length do_)] (0, 0) _ rfl (by (with_reducible repeat (first | refine blk_drewN ?_ _ | refine blk_drew ?_ | refine blk_alloc ?_ _)); refine blk_put (cs := #[(.int .i64 x.f0), (.int .i64 x.f1), (.string x.f2), (.slice Ao x.f3.length co), (.slice none 0 0)]) ?_ 4 _ rfl; (with_reducible repeat (first | refine blk_drewN ?_ _ | refine blk_drew ?_ | refine blk_alloc ?_ _)); refine blk_put (cs := #[(.int .i64 x.f0), (.int .i64 x.f1), (.string x.f2), (.slice none 0 0), (.slice none 0 0)]) ?_ 3 _ rfl; (with_reducible repeat (first | refine blk_drewN ?_ _ | refine blk_drew ?_ | refine blk_alloc ?_ _)); refine blk_put (cs := #[(.int .i64 x.f0), (.int .i64 x.f1), (.string (⟨#[]⟩ : ByteArray)), (.slice none 0 0), (.slice none 0 0)]) ?_ 2 _ rfl; (with_reducible repeat (first | refine blk_drewN ?_ _ | refine blk_drew ?_ | refine blk_alloc ?_ _)); refine blk_put (cs := #[(.int .i64 x.f0), (.int .i64 0), (.string (⟨#[]⟩ : ByteArray)), (.slice none 0 0), (.slice none 0 0)]) ?_ 1 _ rfl; (with_reducible repeat (first | refine blk_drewN ?_ _ | refine blk_drew ?_ | refine blk_alloc ?_ _)); refine blk_put (cs := #[(.int .i64 0), (.int .i64 0), (.string (⟨#[]⟩ : ByteArray)), (.slice none 0 0), (.slice none 0 0)]) ?_ 0 _ rfl; (with_reducible repeat (first | refine blk_drewN ?_ _ | refine blk_drew ?_ | refine blk_alloc ?_ _)); refine blk_far ?_ N23.out _; (with_reducible repeat (first | refine blk_drewN ?_ _ | refine blk_drew ?_ | refine blk_alloc ?_ _)); exact B2.out) Try.underlying88 rfl (by kernel_rfl)) rfl ?_
  exact ⟨_, _, rfl, by (with_reducible repeat (first | apply Kd.R_alloc | apply Kd.R_drewN | apply Kd.R_drew)); exact Kd.R_mono (Kd.R_far (p := ⟨g2, 4, none⟩) (Kd.R_far (p := ⟨g2, 3, none⟩) (Kd.R_far (p := ⟨g2, 2, none⟩) (Kd.R_far (p := ⟨g2, 1, none⟩) (Kd.R_far (p := ⟨g2, 0, none⟩) (Kd.R_far (p := ⟨g3, 4, none⟩) (Kd.R_types (Kd.R_types HO3.out B3.out (by decide)) B2.out (by decide)) (fun _ hk => hk.1.2) _) (fun _ hk => hk.2) _) (fun _ hk => hk.2) _) (fun _ hk => hk.2) _) (fun _ hk => hk.2) _) (fun _ hk => hk.2) _) (fun _ _ => trivial), by (with_reducible repeat (first | apply Kd.R_alloc | apply Kd.R_drewN | apply Kd.R_drew)); exact Kd.R_mono (Kd.R_far (p := ⟨g2, 4, none⟩) (Kd.R_far (p := ⟨g2, 3, none⟩) (Kd.R_far (p := ⟨g2, 2, none⟩) (Kd.R_far (p := ⟨g2, 1, none⟩) (Kd.R_far (p := ⟨g2, 0, none⟩) (Kd.R_far (p := ⟨g3, 4, none⟩) HO4.out (fun _ hk => hk.2.1) _) (fun _ hk => hk.1) _) (fun _ hk => hk.1) _) (fun _ hk => hk.1) _) (fun _ hk => hk.1) _) (fun _ hk => hk.1) _) (fun _ h_ => h_.2.2), (by repeat (first | (with_reducible first | exact HB.out | apply below_alloc | apply pw_below_drewN | apply below_drew1 | refine below_set ?_ GE3.out | refine below_set ?_ GE2.out) | exact HB.out))⟩
theorem laws_toJson.info : (Try.prog.info? 88).map (fun i => (i.zero, i.size, i.bytes)) = some (some (.agg #[.int .i64 0, .int .i64 0, .string ⟨#[]⟩, .slice none 0 0, .slice none 0 0]), 5, 80) := by kernel_rfl
theorem laws_toJson.toJL_get (l : List S83) (n : Nat) (h : n < l.length) : (laws_toJson.toJL l)[n]? = some (⟨(rd_T83 l (n : Int)).f0, (rd_T83 l (n : Int)).f1, (rd_T83 l (n : Int)).f2, (rd_T83 l (n : Int)).f3, laws_toJson.toJL (rd_T83 l (n : Int)).f4⟩ : S88) := by
  rw [laws_toJson.toJL_map, List.getElem?_map, List.getElem?_eq_getElem h]
  have e : rd_T83 l (n : Int) = l[n] := by simp [rd_T83, List.getD, h]
  rw [e, Option.map_some]
  cases l[n]; rw [laws_toJson.toJ]
set_option maxHeartbeats 8000000 in
set_option maxRecDepth 100000 in
theorem laws_toJson.ownS (l : List S83) (hp : ∀ i : Nat, i < l.length → laws_toJson.P (rd_T83 l (i : Int))) (hok : laws_toJson.okJL l = true) (A : Option Addr) (c : Nat) (w : World) (hr : Kd.C k83 w A l.length l) (hc : l.length ≤ c) (hl : l.length ≤ 1048576) :
    Calls Try.prog 117 #[.slice A l.length c] w fun e w' => ∃ v0_ : Value, e = .returned v0_ ∧ Kd.R k88 88 w' w.heap.size (fun _ => True) v0_ (laws_toJson.toJL l) ∧ Below w.heap.size w w' := by
  have HR := Aside0.mk hr
  have HP := Aside0.mk hp
  have HK := Aside0.mk (laws_toJson.okJL_all l hok)
  have HB := Aside0.mk (Below.refl w.heap.size w)
  clear hr hp hok
  go_enter Try.func117, Try.ntmps117
  go_wp2_with (first | ((with_reducible refine gate_dst (N := 7) rfl ?_); refine Kd.R_make k88 _ 88 rfl (N := 7) rfl 86 _ _ rfl (l.length : Int) rfl rfl Try.underlying86 (.agg #[.int .i64 0, .int .i64 0, .string ⟨#[]⟩, .slice none 0 0, .slice none 0 0]) 80 laws_toJson.info rfl (by decide) (by omega) z88 (ok := fun _ => True) (okp := fun _ => True) (k88_mkM _ _ _ z88 (v3 := .slice none 0 0) (Kd.R_nil _ _ _ _ _) (v4 := .slice none 0 0) (Kd.R_nil _ _ _ _ _)) (fun _ hk => hk) trivial (by omega) (by omega) (Below.refl _ _) (Nat.le_refl _) ?_; intro v5 w4 ho hb hg_ hnew_; clear hg_ hnew_; have n0 := Aside0.mk (Kd.R_lower ho (below_size HB.out)); have n1 := Aside0.mk (below_step HB.out hb); clear HB ho hb; have HO := n0; have HB := n1; clear n0 n1))
  simp only [Int.toNat_natCast] at HO
  go_loopw [4] (fun i W => ∃ (n d : Nat) (y : List S88), n + d = l.length ∧ i = .int .i64 (n : Int) ∧ Aside0 (y = (laws_toJson.toJL l).take n ++ List.replicate d z88) ∧ Aside0 (Kd.R k88 88 W w.heap.size (fun _ => True) v5 y) ∧ Below w.heap.size w W) (fun i _ => l.length - (intOf i).toNat)
  case atStart => exact ⟨0, l.length, _, by omega, rfl, ⟨rfl⟩, by simpa using HO, HB.out⟩
  case round =>
    clear HB HO
    obtain ⟨n, d, y, hd, rfl, HY, HO, hb⟩ := hrel
    have HB := Aside0.mk hb
    clear hb
    cases d with
    | zero =>
      have hdec : decide ((n : Int) < (l.length : Int)) = false := decide_eq_false (by omega)
      go_wp2
      go_ret
      exact ⟨_, rfl, by have h1 := HO.out; rw [HY.out, List.replicate_zero, List.append_nil, List.take_of_length_le (by rw [laws_toJson.toJL_len]; omega)] at h1; exact h1, HB.out⟩
    | succ d =>
      have p : 0 ≤ (n : Int) := by omega
      have q : (n : Int) < (l.length : Int) := by omega
      have hdec : decide ((n : Int) < (l.length : Int)) = true := decide_eq_true q
      have hylen : y.length = l.length := by rw [HY.out, List.length_append, List.length_take, List.length_replicate, laws_toJson.toJL_len]; omega
      obtain ⟨go, co0, ev, gb, gl, _⟩ := Kd.R_form HO.out (by rw [hylen]; omega)
      rw [hylen] at ev
      subst ev
      obtain ⟨ad, A3, c3, A4, c4, ea, hx0, hx1, hx2, hx3, hx4, l3, g3, l4, g4⟩ := at_T83 (Kd.C_below HR.out HB.out) (n : Int) p q
      cases ea
      simp only [Int.toNat_natCast] at hx0 hx1 hx2 hx3 hx4
      have hm : rd_T83 l (n : Int) ∈ l := by simp [rd_T83, List.getD, (by omega : n < l.length)]
      have HC := Aside0.mk (HP.out n (by omega) A3 c3 A4 c4 wr g3 l3 g4 l4 (HK.out _ hm))
      clear hm g3 g4
      go_wp2_with (first | (go_at_call 60; refine HC.out.mono ?_; rintro e w11 ⟨v3, v4, rfl, h3, h4, hb⟩; obtain ⟨Ao, co, eo⟩ := Kd.R_slice h3; subst eo; obtain ⟨Bo, do_, eo⟩ := Kd.R_slice h4; subst eo; have HX := Aside0.mk (Kd.R_below HO.out hb); have g3 := Kd.R_lower (Kd.R_mono (ok' := fun k => True ∧ k ≠ go) (Kd.R_bound h3) (fun k hk => ⟨trivial, fun h_ => absurd hk.2.1 (by rw [h_]; exact Nat.not_le_of_lt gl)⟩)) (below_size HB.out); have g4 := Kd.R_lower (Kd.R_mono (ok' := fun k => True ∧ k ≠ go) (Kd.R_bound h4) (fun k hk => ⟨trivial, fun h_ => absurd hk.2.1 (by rw [h_]; exact Nat.not_le_of_lt gl)⟩)) (below_size HB.out); obtain ⟨ce, hcl, hM, hcc, hfr⟩ := Kd.R_elem HX.out z88 (n : Int) p q; obtain ⟨u3, u4, rfl, _, _⟩ := k88_openM hM; simp only [Int.toNat_natCast] at hcc hfr; have HP12 := Aside0.mk (Kd.R_seg HX.out (n : Int) p q (seg := [(.int .i64 (rd_T83 l (n : Int)).f0), (.int .i64 (rd_T83 l (n : Int)).f1), (.string (rd_T83 l (n : Int)).f2), (.slice Ao (rd_T83 l (n : Int)).f3.length co), (.slice Bo (laws_toJson.toJL (rd_T83 l (n : Int)).f4).length do_)]) (j := 0) hcl (by simpa only [Int.toNat_natCast] using hcc) (show 5 ≤ 5 from by decide) (x' := (⟨(rd_T83 l (n : Int)).f0, (rd_T83 l (n : Int)).f1, (rd_T83 l (n : Int)).f2, (rd_T83 l (n : Int)).f3, laws_toJson.toJL (rd_T83 l (n : Int)).f4⟩ : S88)) (k88_mkM _ _ _ (⟨(rd_T83 l (n : Int)).f0, (rd_T83 l (n : Int)).f1, (rd_T83 l (n : Int)).f2, (rd_T83 l (n : Int)).f3, laws_toJson.toJL (rd_T83 l (n : Int)).f4⟩ : S88) g3 g4) (fun _ hk => hk)); have y0 : w11.cell? ⟨go, n * 5, none⟩ = some _ := hcc 0 _ rfl; have yf0 : w11.frozen? ⟨go, n * 5, none⟩ = false := hfr 0; have y1 : w11.cell? ⟨go, n * 5 + 1, none⟩ = some _ := hcc 1 _ rfl; have yf1 : w11.frozen? ⟨go, n * 5 + 1, none⟩ = false := hfr 1; have y2 : w11.cell? ⟨go, n * 5 + 2, none⟩ = some _ := hcc 2 _ rfl; have yf2 : w11.frozen? ⟨go, n * 5 + 2, none⟩ = false := hfr 2; have y3 : w11.cell? ⟨go, n * 5 + 3, none⟩ = some _ := hcc 3 _ rfl; have yf3 : w11.frozen? ⟨go, n * 5 + 3, none⟩ = false := hfr 3; have y4 : w11.cell? ⟨go, n * 5 + 4, none⟩ = some _ := hcc 4 _ rfl; have yf4 : w11.frozen? ⟨go, n * 5 + 4, none⟩ = false := hfr 4; have n0 := Aside0.mk (below_step HB.out hb); clear HB HX hcl hcc hfr hM g3 g4 h3 h4 hb; have HB := n0; clear n0) | ((with_reducible refine gate_store (t := 88) (p := 21) rfl ?_); refine store_event (t := 88) (p := 21) (v := ?vo_) (w1 := (((((w11.setCell ⟨go, n * 5, none⟩ (.int .i64 (rd_T83 l (n : Int)).f0)).setCell ⟨go, n * 5 + 1, none⟩ (.int .i64 (rd_T83 l (n : Int)).f1)).setCell ⟨go, n * 5 + 2, none⟩ (.string (rd_T83 l (n : Int)).f2)).setCell ⟨go, n * 5 + 3, none⟩ (.slice Ao (rd_T83 l (n : Int)).f3.length co)).setCell ⟨go, n * 5 + 4, none⟩ (.slice Bo (laws_toJson.toJL (rd_T83 l (n : Int)).f4).length do_))) ?hg ?ho ?hn ?hr ?_; (case ho => rfl); (case hg => rfl); (case hn => rfl); (case hr => first | (go_simp; done) | (go_simp; rfl)); intro w13 hw; have n0 := Aside0.mk (by rw [hw]; exact HP12.out.1 : Kd.R k88 88 w13 w.heap.size (fun _ => True) (.slice (some ⟨go, 0, none⟩) l.length co0) (y.set (n : Int).toNat (⟨(rd_T83 l (n : Int)).f0, (rd_T83 l (n : Int)).f1, (rd_T83 l (n : Int)).f2, (rd_T83 l (n : Int)).f3, laws_toJson.toJL (rd_T83 l (n : Int)).f4⟩ : S88))); have n1 := Aside0.mk ((by rw [hw]; exact below_set (below_set (below_set (below_set (below_set (HB.out) gb) gb) gb) gb) gb : Below w.heap.size w w13)); clear HB HP12 hw HO; have HO := n0; have HB := n1; clear n0 n1))
      go_roundw
      case rel => exact ⟨n + 1, d, _, by omega, by go_num, ⟨by rw [HY.out, Int.toNat_natCast]; exact laws_toJson.set_ _ z88 n d (by rw [laws_toJson.toJL_len]; omega) _ (laws_toJson.toJL_get l n (by omega))⟩, HO, HB.out⟩
      case measure => simp [intOf]; omega
theorem laws_toJson.all (x : S83) : laws_toJson.P x := by
  have : ∀ n : Nat, ∀ x : S83, SizeOf.sizeOf x < n → laws_toJson.P x := by
    intro n
    induction n with
    | zero => intro x h; omega
    | succ n ih =>
      intro x h
      refine laws_toJson.own1 x fun hok A c w hr hc hl => laws_toJson.ownS x.f4 (fun i hi => ih _ ?_) hok A c w hr hc hl
      have hm : rd_T83 x.f4 (i : Int) ∈ x.f4 := by simp [rd_T83, List.getD, hi]
      have h1 := List.sizeOf_lt_of_mem hm
      have h2 : SizeOf.sizeOf x = 1 + SizeOf.sizeOf x.f0 + SizeOf.sizeOf x.f1 + SizeOf.sizeOf x.f2 + SizeOf.sizeOf x.f3 + SizeOf.sizeOf x.f4 := by cases x; simp
      omega
  exact this _ x (Nat.lt_succ_self _)
def laws_toJson.f (a0_0 : Int) (a0_1 : Int) (a0_2 : ByteArray) (l0_3 : List ByteArray) (l0_4 : List (S83)) : Option (Int × Int × ByteArray × List ByteArray × List (S88)) := if laws_toJson.okJ ⟨a0_0, a0_1, a0_2, l0_3, l0_4⟩ = true then some (a0_0, a0_1, a0_2, l0_3, laws_toJson.toJL l0_4) else none
theorem laws_toJson.calls (a0_0 : Int) (a0_1 : Int) (a0_2 : ByteArray) (A0_3 : Option Addr) (c0_3 : Nat) (l0_3 : List ByteArray) (A0_4 : Option Addr) (c0_4 : Nat) (l0_4 : List (S83)) (r1 : Int) (r2 : Int) (r3 : ByteArray) (r4 : List ByteArray) (r5 : List (S88)) (w : World) (hr0_3 : Kd.C Kd.string w A0_3 l0_3.length l0_3) (hc0_3 : l0_3.length ≤ c0_3) (hr0_4 : Kd.C k83 w A0_4 l0_4.length l0_4) (hc0_4 : l0_4.length ≤ c0_4) (h : laws_toJson.f a0_0 a0_1 a0_2 l0_3 l0_4 = some (r1, r2, r3, r4, r5)) :
    Calls Try.prog 60 #[.agg #[.int .i64 a0_0, .int .i64 a0_1, .string a0_2, .slice A0_3 l0_3.length c0_3, .slice A0_4 l0_4.length c0_4]] w fun e w' => ∃ v3_ v4_ : Value, e = .returned (.agg #[.int .i64 r1, .int .i64 r2, .string r3, v3_, v4_]) ∧ Kd.R Kd.string 9 w' w.heap.size (fun _ => True) v3_ r4 ∧ Kd.R k88 88 w' w.heap.size (fun k_ => some k_ ≠ v3_.ownBlock) v4_ r5 ∧ Below w.heap.size w w' := by
  unfold laws_toJson.f at h
  split at h
  · rename_i he
    simp only [Option.some.injEq, Prod.mk.injEq] at h
    obtain ⟨rfl, rfl, rfl, rfl, rfl⟩ := h
    exact laws_toJson.all ⟨a0_0, a0_1, a0_2, l0_3, l0_4⟩ A0_3 c0_3 A0_4 c0_4 w hr0_3 hc0_3 hr0_4 hc0_4 he
  · cases h

/-! ### impl_within: function 69 -/
def impl_within.f (a0 : Int) (a1 : Int) (a2 : Int) : Option (Bool) := if a1 ≤ a0 then (some (decide (a0 ≤ a2))) else (some false)
set_option maxHeartbeats 8000000 in
set_option maxRecDepth 100000 in
theorem impl_within.calls (a0 : Int) (a1 : Int) (a2 : Int) (r : Bool) (w : World) (h : impl_within.f a0 a1 a2 = some r) :
    Calls Try.prog 69 #[.int .i64 a0, .int .i64 a1, .int .i64 a2] w fun e w' => e = .returned (.bool r) ∧ Drawn0 w w' := by
 have H : (if a1 ≤ a0 then (some (decide (a0 ≤ a2))) else (some false)) = some r := h
 clear h
 by_cases c4 : a1 ≤ a0
 ·
  rw [if_pos c4] at H
  have c4b0 : decide (a1 ≤ a0) = true := decide_eq_true c4
  clear c4
  obtain rfl := Option.some.inj H
  go_enter Try.func69, Try.ntmps69
  go_wp2
  go_ret
  exact ⟨by first | rfl | (simp; done) | (simp [*]; done) | (simp only [bne_empty_]; rfl), by repeat (first | exact Drawn0.refl _ | apply Drawn0.step)⟩
 ·
  rw [if_neg c4] at H
  have c4b0 : decide (a1 ≤ a0) = false := decide_eq_false c4
  clear c4
  obtain rfl := Option.some.inj H
  go_enter Try.func69, Try.ntmps69
  go_wp2
  go_ret
  exact ⟨by first | rfl | (simp; done) | (simp [*]; done) | (simp only [bne_empty_]; rfl), by repeat (first | exact Drawn0.refl _ | apply Drawn0.step)⟩

/-! ### slices_Index_string_string: function 129 -/
def slices_Index_string_string.l0 : Nat → List ByteArray → ByteArray → Int → Int → Option (Int)
  | 0, _, _, _, _ => none
  | k + 1, x0, x1, x7, x8 => if x8 < x7 then (if 0 ≤ x8 then (if x8 < (x0.length : Int) then (if x1.toList = (rdOf ByteArray.empty x0 x8).toList then (some x8) else (slices_Index_string_string.l0 k x0 x1 x7 (wrap64 (x8 + 1)))) else (none)) else (none)) else (some (-1))
def slices_Index_string_string.f (k : Nat) (l0 : List ByteArray) (a1 : ByteArray) : Option (Int) := slices_Index_string_string.l0 k l0 a1 (l0.length : Int) 0
theorem slices_Index_string_string.mono_l : ∀ k, (∀ y0 y1 y2 y3, LeO (slices_Index_string_string.l0 k y0 y1 y2 y3) (slices_Index_string_string.l0 (k + 1) y0 y1 y2 y3))
  | 0 => fun _ _ _ _ r h => by simp [slices_Index_string_string.l0] at h
  | k + 1 => by
    have ih0 := slices_Index_string_string.mono_l k
    · intro y0 y1 y2 y3
      unfold slices_Index_string_string.l0
      repeat' first
      | (with_reducible exact ih0 _ _ _ _)
      | (with_reducible exact LeO.refl _)
      | (with_reducible exact LeO.none _)
      | (with_reducible refine LeO.ite ?_ ?_)
      | (with_reducible refine LeO.bind ?_ (fun _ => ?_))
      | exact ih0 _ _ _ _
      | exact LeO.none _
      | refine LeO.ite ?_ ?_
      | refine LeO.bind ?_ (fun _ => ?_)
theorem slices_Index_string_string.mono : ∀ a0 a1 k, LeO (slices_Index_string_string.f k a0 a1) (slices_Index_string_string.f (k + 1) a0 a1) := by
  intro a0 a1 k
  have ih0 := slices_Index_string_string.mono_l k
  unfold slices_Index_string_string.f
  repeat' first
      | (with_reducible exact ih0 _ _ _ _)
      | (with_reducible exact LeO.refl _)
      | (with_reducible exact LeO.none _)
      | (with_reducible refine LeO.ite ?_ ?_)
      | (with_reducible refine LeO.bind ?_ (fun _ => ?_))
      | exact ih0 _ _ _ _
      | exact LeO.none _
      | refine LeO.ite ?_ ?_
      | refine LeO.bind ?_ (fun _ => ?_)
set_option maxHeartbeats 8000000 in
set_option maxRecDepth 100000 in
theorem slices_Index_string_string.calls (k : Nat) (A0 : Option Addr) (c0 : Nat) (l0 : List ByteArray) (a1 : ByteArray) (r : Int) (w : World) (hr0 : Kd.C Kd.string w A0 l0.length l0) (hc0 : l0.length ≤ c0) (h : slices_Index_string_string.f k l0 a1 = some r) :
    Calls Try.prog 129 #[.slice A0 l0.length c0, .string a1] w fun e w' => e = .returned (.int .i64 r) ∧ Drawn0 w w' := by
 have HR0 := Aside0.mk hr0
 have HC0 := Aside0.mk hc0
 clear hr0 hc0
 have H : (slices_Index_string_string.l0 k l0 a1 (l0.length : Int) 0) = some r := h
 clear h
 have H' := Aside0.mk H
 clear H
 go_enter Try.func129, Try.ntmps129
 go_wp2
 go_loopg [8] k (fun kq v8 w' => ∃ (x8_1 : Int), v8 = .int .i64 x8_1 ∧ Aside0 (slices_Index_string_string.l0 kq l0 a1 (l0.length : Int) x8_1 = some r) ∧ Aside0 (kq ≤ k) ∧ Drawn0 w w')
 case atStart => exact ⟨(0), eqE_, H', ⟨Nat.le_refl _⟩, by repeat (first | exact Drawn0.refl _ | apply Drawn0.step)⟩
 case round =>
  clear H'
  obtain ⟨x8_1, rfl, HA, HK1, ⟨m1, rfl⟩⟩ := hrel
  cases gk with
  | zero => exact absurd HA.out (by simp [slices_Index_string_string.l0])
  | succ k1 =>
   have H := HA.out
   clear HA
   simp only [slices_Index_string_string.l0] at H
   by_cases c3 : x8_1 < (l0.length : Int)
   ·
    rw [if_pos c3] at H
    have c3b0 : decide (x8_1 < (l0.length : Int)) = true := decide_eq_true c3
    clear c3
    by_cases c4 : 0 ≤ x8_1
    ·
     rw [if_pos c4] at H
     have c4b0 : decide (0 ≤ x8_1) = true := decide_eq_true c4
     clear c4
     by_cases c5 : x8_1 < (l0.length : Int)
     ·
      rw [if_pos c5] at H
      have c5b0 : decide (x8_1 < (l0.length : Int)) = true := decide_eq_true c5
      clear c5
      by_cases c6 : a1.toList = (rdOf ByteArray.empty l0 x8_1).toList
      ·
       rw [if_pos c6] at H
       have c6b0 : (a1.toList == (rdOf ByteArray.empty l0 x8_1).toList) = true := beq_iff_eq.mpr c6
       have c6b1 : (a1.toList != (rdOf ByteArray.empty l0 x8_1).toList) = false := bne_eq_false_iff_eq.mpr c6
       clear c6
       obtain rfl := Option.some.inj H
       have p119 : 0 ≤ (x8_1 : Int) := of_decide_eq_true (by first | (with_reducible assumption) | assumption)
       have q119 : x8_1 < (l0.length : Int) := of_decide_eq_true (by first | (with_reducible assumption) | assumption)
       obtain ⟨ad119, e119, hx119_0⟩ := Kd.at_string HR0.out x8_1 p119 q119
       cases e119
       replace p119 := eq_true p119
       replace q119 := eq_true q119
       go_wp2
       go_ret
       exact ⟨by first | rfl | (simp; done) | (simp [*]; done) | (simp only [bne_empty_]; rfl), by repeat (first | exact Drawn0.refl _ | apply Drawn0.step)⟩
      ·
       rw [if_neg c6] at H
       have c6b0 : (a1.toList == (rdOf ByteArray.empty l0 x8_1).toList) = false := beq_eq_false_iff_ne.mpr c6
       have c6b1 : (a1.toList != (rdOf ByteArray.empty l0 x8_1).toList) = true := bne_iff_ne.mpr c6
       have H' := Aside0.mk H
       clear H
       have p119 : 0 ≤ (x8_1 : Int) := of_decide_eq_true (by first | (with_reducible assumption) | assumption)
       have q119 : x8_1 < (l0.length : Int) := of_decide_eq_true (by first | (with_reducible assumption) | assumption)
       obtain ⟨ad119, e119, hx119_0⟩ := Kd.at_string HR0.out x8_1 p119 q119
       cases e119
       replace p119 := eq_true p119
       replace q119 := eq_true q119
       go_wp2
       go_roundg k1
       case measure => have := HK1.out; omega
       case rel => exact ⟨(wrap64 (x8_1 + 1)), eqE_, H', ⟨by have := HK1.out; omega⟩, by repeat (first | exact Drawn0.refl _ | apply Drawn0.step)⟩
     ·
      rw [if_neg c5] at H
      exact absurd H (by simp)
    ·
     rw [if_neg c4] at H
     exact absurd H (by simp)
   ·
    rw [if_neg c3] at H
    have c3b0 : decide (x8_1 < (l0.length : Int)) = false := decide_eq_false c3
    clear c3
    obtain rfl := Option.some.inj H
    go_wp2
    go_ret
    exact ⟨by first | rfl | (simp; done) | (simp [*]; done) | (simp only [bne_empty_]; rfl), by repeat (first | exact Drawn0.refl _ | apply Drawn0.step)⟩

/-! ### slices_Contains_string_string: function 87 -/
def slices_Contains_string_string.f (k : Nat) (l0 : List ByteArray) (a1 : ByteArray) : Option (Bool) := (slices_Index_string_string.f k l0 a1).bind fun t120 => (some (decide (t120 ≥ 0)))
theorem slices_Contains_string_string.mono : ∀ a0 a1 k, LeO (slices_Contains_string_string.f k a0 a1) (slices_Contains_string_string.f (k + 1) a0 a1) := by
  intro a0 a1 k
  unfold slices_Contains_string_string.f
  repeat' first
      | (with_reducible exact slices_Index_string_string.mono _ _ _)
      | (with_reducible exact LeO.refl _)
      | (with_reducible exact LeO.none _)
      | (with_reducible refine LeO.ite ?_ ?_)
      | (with_reducible refine LeO.bind ?_ (fun _ => ?_))
      | exact slices_Index_string_string.mono _ _ _
      | exact LeO.none _
      | refine LeO.ite ?_ ?_
      | refine LeO.bind ?_ (fun _ => ?_)
set_option maxHeartbeats 8000000 in
set_option maxRecDepth 100000 in
theorem slices_Contains_string_string.calls (k : Nat) (A0 : Option Addr) (c0 : Nat) (l0 : List ByteArray) (a1 : ByteArray) (r : Bool) (w : World) (hr0 : Kd.C Kd.string w A0 l0.length l0) (hc0 : l0.length ≤ c0) (h : slices_Contains_string_string.f k l0 a1 = some r) :
    Calls Try.prog 87 #[.slice A0 l0.length c0, .string a1] w fun e w' => e = .returned (.bool r) ∧ Drawn0 w w' := by
 have HR0 := Aside0.mk hr0
 have HC0 := Aside0.mk hc0
 clear hr0 hc0
 have H : ((slices_Index_string_string.f k l0 a1).bind fun t120 => (some (decide (t120 ≥ 0)))) = some r := h
 clear h
 obtain ⟨t120, A3, H⟩ := bindE_ H
 obtain rfl := Option.some.inj H
 go_enter Try.func87, Try.ntmps87
 go_wp2_with (first | ((with_reducible refine gate_callee (f := 129) rfl ?_); refine cU_ (some 7) Try.func129 #[.slice A0 l0.length c0, .string a1] ?_; (with_reducible refine (slices_Index_string_string.calls k _ _ l0 a1 t120 _ ?side1 ?side2 A3.out).mono ?_); (case side1 => repeat (first | exact HR0.out | (with_reducible refine Kd.C_alloc ?_ _) | (with_reducible refine Kd.C_drewN ?_ _) | (with_reducible refine Kd.C_drew ?_))); (case side2 => exact HC0.out); rintro e w' ⟨rfl, ⟨nd, rfl⟩⟩; refine ⟨_, rfl, ?_⟩))
 go_ret
 exact ⟨by first | rfl | (simp; done) | (simp [*]; done) | (simp only [bne_empty_]; rfl), by repeat (first | exact Drawn0.refl _ | apply Drawn0.step)⟩

end Go.Proofs.Ytmfnaaeglfhnmaa.QFnExactJsonOK
