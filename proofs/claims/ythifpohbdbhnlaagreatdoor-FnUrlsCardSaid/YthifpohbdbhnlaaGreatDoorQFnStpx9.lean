/- A tool of this session wrote this text out of the translation: functions as plain Lean, and proofs that the machine's calls come to their answers. -/
import Derived.Test.YthifpohbdbhnlaaGreatDoorQShort
import Derived.Test.YthifpohbdbhnlaaGreatDoorQFnStpx0
namespace Go.Proofs.YthifpohbdbhnlaaGreatDoor.QFnStp
open Go.RowKit Go.Proofs.YthifpohbdbhnlaaGreatDoorW.PrintWords Go.Proofs.YthifpohbdbhnlaaGreatDoorW.PrintLast Go.Proofs.YthifpohbdbhnlaaGreatDoorW.PrintMore
open Go.Proofs.YthifpohbdbhnlaaGreatDoor.Short
attribute [local go_sem] max2_int min2_int max_two min_two max_three min_three max_four min_four   -- for this text's walks alone
set_option linter.unusedVariables false
set_option linter.unusedSimpArgs false

-- NOT PRINTED: function 51 (spec_l00Src_urlValue)

-- NOT PRINTED: function 16 (spec_UrlValue)

/-! ### impl_Url_web: function 59 -/
def impl_Url_web.f (a0_0 : ByteArray) (a0_1 : ByteArray) (a0_2 : ByteArray) (a0_3 : Int) (a0_4 : ByteArray) (a0_5 : ByteArray) (a0_6 : ByteArray) (a0_7 : Bool) (a0_8 : Bool) : Option (Bool) := if a0_0.toList = ([104, 116, 116, 112] : List UInt8) then (some true) else (some (a0_0.toList == ([104, 116, 116, 112, 115] : List UInt8)))
set_option maxHeartbeats 8000000 in
set_option maxRecDepth 100000 in
theorem impl_Url_web.calls (a0_0 : ByteArray) (a0_1 : ByteArray) (a0_2 : ByteArray) (a0_3 : Int) (a0_4 : ByteArray) (a0_5 : ByteArray) (a0_6 : ByteArray) (a0_7 : Bool) (a0_8 : Bool) (r : Bool) (w : World) (h : impl_Url_web.f a0_0 a0_1 a0_2 a0_3 a0_4 a0_5 a0_6 a0_7 a0_8 = some r) :
    Calls Tryz.prog 59 #[.agg #[.string a0_0, .string a0_1, .string a0_2, .int .i64 a0_3, .string a0_4, .string a0_5, .string a0_6, .bool a0_7, .bool a0_8]] w fun e w' => e = .returned (.bool r) ∧ Below w.heap.size w w' := by
 have hu32 := Tryz.underlying32; have HB := Aside0.mk (Below.refl w.heap.size w); have H := h; clear h; unfold impl_Url_web.f at H; by_cases c2 : a0_0.toList = ([104, 116, 116, 112] : List UInt8)
 · rw [if_pos c2] at H; have l : (a0_0.toList == ([104, 116, 116, 112] : List UInt8)) = true := beq_iff_eq.mpr c2; have m : (a0_0.toList != ([104, 116, 116, 112] : List UInt8)) = false := bne_eq_false_iff_eq.mpr c2; clear c2; obtain rfl := Option.some.inj H; go_enter Tryz.func59, Tryz.ntmps59; go_wp2_with (first | ((with_reducible refine gate_dst (N := 1) rfl ?_); refine box_event ?hg (N := 1) ?hd (cs := #[.string a0_0, .string a0_1, .string a0_2, .int .i64 a0_3, .string a0_4, .string a0_5, .string a0_6, .bool a0_7, .bool a0_8]) (t := 32) ?hr ?_; (case hd => rfl); (case hg => rfl); (case hr => first | (go_simp; done) | (go_simp; rfl)); intro i hg w3 hbox hb; have a := belB_ hb; have b := Aside0.mk (hbox); have c := geE_ (w := w) hg; have d := geE_ (w := w) hg; clear HB; have HB := a; have g := b; have j := c; have k := d; clear a b c d; clear hb hbox hg; obtain ⟨n, o, p, q, s, u, v, x, y, z, A, B, C, D, E, F, G, I⟩ := cz9_ g)); go_ret; exact ⟨retE_, belE_⟩
 · rw [if_neg c2] at H; have l : (a0_0.toList == ([104, 116, 116, 112] : List UInt8)) = false := beq_eq_false_iff_ne.mpr c2; have m : (a0_0.toList != ([104, 116, 116, 112] : List UInt8)) = true := bne_iff_ne.mpr c2; obtain rfl := Option.some.inj H; go_enter Tryz.func59, Tryz.ntmps59; go_wp2_with (first | ((with_reducible refine gate_dst (N := 1) rfl ?_); refine box_event ?hg (N := 1) ?hd (cs := #[.string a0_0, .string a0_1, .string a0_2, .int .i64 a0_3, .string a0_4, .string a0_5, .string a0_6, .bool a0_7, .bool a0_8]) (t := 32) ?hr ?_; (case hd => rfl); (case hg => rfl); (case hr => first | (go_simp; done) | (go_simp; rfl)); intro i hg w5 hbox hb; have a := belB_ hb; have b := Aside0.mk (hbox); have c := geE_ (w := w) hg; have d := geE_ (w := w) hg; clear HB; have HB := a; have g := b; have j := c; have k := d; clear a b c d; clear hb hbox hg; obtain ⟨J, K, L, M, O, P, Q, R, S, T, U, V, W, X, Y, Z, a0, a1⟩ := cz9_ g)); go_ret; exact ⟨retE_, belE_⟩

/-! ### strconv_Itoa: function 141, by hand -/
/-- The library's table and its two sentinels, as their initialisers lay them. -/
def IsErr (w : World) (b : Nat) : Prop := ∃ te pe, w.cell? ⟨b, 0, none⟩ = some (.iface te pe)
def Amb (w : World) : Prop := Lib.TabIs Tryz.prog w "internal/strconv.uint64pow10" .u64 Lib.pow10Tab ∧ IsErr w 1 ∧ IsErr w 2
theorem IsErr.on {w w' : World} {b : Nat} (h : IsErr w b) (hb : Below w.heap.size w w') : IsErr w' b := by
  obtain ⟨te, pe, h⟩ := h; exact ⟨te, pe, (hb.cell (World.block_lt_of_cell? _ _ h)).trans h⟩
theorem Amb.on {w w' : World} (h : Amb w) (hb : Below w.heap.size w w') : Amb w' := ⟨Lib.tabBelow_of_tabIs h.1 w' hb, h.2.1.on hb, h.2.2.on hb⟩
def strconv_Itoa.f (a0 : Int) : Option (ByteArray) := if -9223372036854775808 ≤ a0 ∧ a0 ≤ 9223372036854775807 then some ⟨(Lib.itoa a0).toArray⟩ else none
theorem strconv_Itoa.calls (a0 : Int) (r : ByteArray) (w : World) (hM : Amb w) (h : strconv_Itoa.f a0 = some r) :
    Calls Tryz.prog 141 #[.int .i64 a0] w fun e w' => e = .returned (.string r) ∧ Below w.heap.size w w' := by
  unfold strconv_Itoa.f at h; by_cases hb : -9223372036854775808 ≤ a0 ∧ a0 ≤ 9223372036854775807
  · rw [if_pos hb] at h
    cases h; refine (Tryz.strconv_Itoa a0 hb.1 hb.2 w hM.1).mono ?_; rintro e w' ⟨rfl, k, os, rfl⟩; exact ⟨rfl, Lib.below_grow _ _ (Nat.le_refl _) _ _⟩
  · rw [if_neg hb] at h
    cases h

/-! ### impl_decimal: function 115 -/
def impl_decimal.f (a0 : Int) : Option (ByteArray) := (strconv_Itoa.f a0).bind fun t192 => (some t192)
set_option maxHeartbeats 8000000 in
set_option maxRecDepth 100000 in
theorem impl_decimal.calls (a0 : Int) (r : ByteArray) (w : World) (hM : Amb w) (h : impl_decimal.f a0 = some r) :
    Calls Tryz.prog 115 #[.int .i64 a0] w fun e w' => e = .returned (.string r) ∧ Below w.heap.size w w' := by
 have HB := Aside0.mk (Below.refl w.heap.size w); have HM := Aside0.mk hM; clear hM; have H : ((strconv_Itoa.f a0).bind fun t192 => (some t192)) = some r := h; clear h; obtain ⟨t192, A2, H⟩ := bindE_ H; obtain rfl := Option.some.inj H; go_enter Tryz.func115, Tryz.ntmps115; go_wp2_with (first | ((with_reducible refine gate_callee (f := 141) rfl ?_); refine cU_ (some 4) Tryz.func141 #[.int .i64 a0] ?_; (with_reducible refine (strconv_Itoa.calls a0 t192 _ ?side1 A2.out).mono ?_); (case side1 => exact Amb.on HM.out belE_); rintro e w3 ⟨rfl, hb⟩; refine ⟨_, rfl, ?_⟩; have n0_ := belB_ hb; clear HB; have HB := n0_; clear n0_; (try clear hb); (try clear hb2); (try clear hk); (try clear hi))); go_ret; exact ⟨retE_, belE_⟩

/-! ### impl_Url_text: function 65 -/
mutual
def impl_Url_text.j0 : Nat → ByteArray → ByteArray → ByteArray → ByteArray → Int → ByteArray → ByteArray → ByteArray → Bool → Bool → Option (ByteArray)
  | 0, _, _, _, _, _, _, _, _, _, _ => none
  | k + 1, x3, x194000, x194001, x194002, x194003, x194004, x194005, x194006, x194007, x194008 => if x3.size + x194002.size ≤ 9223372036854775807 then (if x194003 = 0 then (impl_Url_text.j1 k (x3 ++ x194002) x194000 x194001 x194002 x194003 x194004 x194005 x194006 x194007 x194008) else ((impl_decimal.f x194003).bind fun t195 => (if 1 + t195.size ≤ 9223372036854775807 then (if (x3 ++ x194002).size + ((⟨#[58]⟩ : ByteArray) ++ t195).size ≤ 9223372036854775807 then (impl_Url_text.j1 k ((x3 ++ x194002) ++ ((⟨#[58]⟩ : ByteArray) ++ t195)) x194000 x194001 x194002 x194003 x194004 x194005 x194006 x194007 x194008) else (none)) else (none)))) else (none)
def impl_Url_text.j1 : Nat → ByteArray → ByteArray → ByteArray → ByteArray → Int → ByteArray → ByteArray → ByteArray → Bool → Bool → Option (ByteArray)
  | 0, _, _, _, _, _, _, _, _, _, _ => none
  | k + 1, x3, x194000, x194001, x194002, x194003, x194004, x194005, x194006, x194007, x194008 => if x3.size + x194004.size ≤ 9223372036854775807 then (if x194007 = true then (if 1 + x194005.size ≤ 9223372036854775807 then (if (x3 ++ x194004).size + ((⟨#[63]⟩ : ByteArray) ++ x194005).size ≤ 9223372036854775807 then (if x194008 = true then (if 1 + x194006.size ≤ 9223372036854775807 then (if ((x3 ++ x194004) ++ ((⟨#[63]⟩ : ByteArray) ++ x194005)).size + ((⟨#[35]⟩ : ByteArray) ++ x194006).size ≤ 9223372036854775807 then (some (((x3 ++ x194004) ++ ((⟨#[63]⟩ : ByteArray) ++ x194005)) ++ ((⟨#[35]⟩ : ByteArray) ++ x194006))) else (none)) else (none)) else (some ((x3 ++ x194004) ++ ((⟨#[63]⟩ : ByteArray) ++ x194005)))) else (none)) else (none)) else (if x194008 = true then (if 1 + x194006.size ≤ 9223372036854775807 then (if (x3 ++ x194004).size + ((⟨#[35]⟩ : ByteArray) ++ x194006).size ≤ 9223372036854775807 then (some ((x3 ++ x194004) ++ ((⟨#[35]⟩ : ByteArray) ++ x194006))) else (none)) else (none)) else (some (x3 ++ x194004)))) else (none)
end
def impl_Url_text.f (k : Nat) (a0_0 : ByteArray) (a0_1 : ByteArray) (a0_2 : ByteArray) (a0_3 : Int) (a0_4 : ByteArray) (a0_5 : ByteArray) (a0_6 : ByteArray) (a0_7 : Bool) (a0_8 : Bool) : Option (ByteArray) := (impl_Url_web.f a0_0 a0_1 a0_2 a0_3 a0_4 a0_5 a0_6 a0_7 a0_8).bind fun t194 => (if t194 = true then (if a0_0.size + 3 ≤ 9223372036854775807 then (if a0_1.toList = ([] : List UInt8) then (impl_Url_text.j0 k (a0_0 ++ (⟨#[58, 47, 47]⟩ : ByteArray)) a0_0 a0_1 a0_2 a0_3 a0_4 a0_5 a0_6 a0_7 a0_8) else (if a0_1.size + 1 ≤ 9223372036854775807 then (if (a0_0 ++ (⟨#[58, 47, 47]⟩ : ByteArray)).size + (a0_1 ++ (⟨#[64]⟩ : ByteArray)).size ≤ 9223372036854775807 then (impl_Url_text.j0 k ((a0_0 ++ (⟨#[58, 47, 47]⟩ : ByteArray)) ++ (a0_1 ++ (⟨#[64]⟩ : ByteArray))) a0_0 a0_1 a0_2 a0_3 a0_4 a0_5 a0_6 a0_7 a0_8) else (none)) else (none))) else (none)) else (if a0_0.size + 1 ≤ 9223372036854775807 then (if (a0_0 ++ (⟨#[58]⟩ : ByteArray)).size + a0_4.size ≤ 9223372036854775807 then (some ((a0_0 ++ (⟨#[58]⟩ : ByteArray)) ++ a0_4)) else (none)) else (none)))
theorem impl_Url_text.mono_l : ∀ k, (∀ y0 y1 y2 y3 y4 y5 y6 y7 y8 y9, LeO (impl_Url_text.j0 k y0 y1 y2 y3 y4 y5 y6 y7 y8 y9) (impl_Url_text.j0 (k + 1) y0 y1 y2 y3 y4 y5 y6 y7 y8 y9)) ∧ (∀ y0 y1 y2 y3 y4 y5 y6 y7 y8 y9, LeO (impl_Url_text.j1 k y0 y1 y2 y3 y4 y5 y6 y7 y8 y9) (impl_Url_text.j1 (k + 1) y0 y1 y2 y3 y4 y5 y6 y7 y8 y9))
  | 0 => ⟨fun _ _ _ _ _ _ _ _ _ _ r h => by simp [impl_Url_text.j0] at h, fun _ _ _ _ _ _ _ _ _ _ r h => by simp [impl_Url_text.j1] at h⟩
  | k + 1 => by
    obtain ⟨ih0, ih1⟩ := impl_Url_text.mono_l k; refine ⟨?_, ?_⟩
    · intro y0 y1 y2 y3 y4 y5 y6 y7 y8 y9
      unfold impl_Url_text.j0; repeat' first | (with_reducible exact ih0 _ _ _ _ _ _ _ _ _ _) | (with_reducible exact ih1 _ _ _ _ _ _ _ _ _ _) | (with_reducible first | exact LeO.refl _ | exact LeO.none _ | refine LeO.ite ?_ ?_ | refine LeO.bind ?_ (fun _ => ?_)) | exact ih0 _ _ _ _ _ _ _ _ _ _ | exact ih1 _ _ _ _ _ _ _ _ _ _ | exact LeO.none _ | refine LeO.ite ?_ ?_ | refine LeO.bind ?_ (fun _ => ?_)
    · intro y0 y1 y2 y3 y4 y5 y6 y7 y8 y9
      unfold impl_Url_text.j1; repeat' first | (with_reducible exact ih0 _ _ _ _ _ _ _ _ _ _) | (with_reducible exact ih1 _ _ _ _ _ _ _ _ _ _) | (with_reducible first | exact LeO.refl _ | exact LeO.none _ | refine LeO.ite ?_ ?_ | refine LeO.bind ?_ (fun _ => ?_)) | exact ih0 _ _ _ _ _ _ _ _ _ _ | exact ih1 _ _ _ _ _ _ _ _ _ _ | exact LeO.none _ | refine LeO.ite ?_ ?_ | refine LeO.bind ?_ (fun _ => ?_)
theorem impl_Url_text.mono : ∀ a0 a1 a2 a3 a4 a5 a6 a7 a8 k, LeO (impl_Url_text.f k a0 a1 a2 a3 a4 a5 a6 a7 a8) (impl_Url_text.f (k + 1) a0 a1 a2 a3 a4 a5 a6 a7 a8) := by
  intro a0 a1 a2 a3 a4 a5 a6 a7 a8 k; obtain ⟨ih0, ih1⟩ := impl_Url_text.mono_l k; unfold impl_Url_text.f; repeat' first | (with_reducible exact ih0 _ _ _ _ _ _ _ _ _ _) | (with_reducible exact ih1 _ _ _ _ _ _ _ _ _ _) | (with_reducible first | exact LeO.refl _ | exact LeO.none _ | refine LeO.ite ?_ ?_ | refine LeO.bind ?_ (fun _ => ?_)) | exact ih0 _ _ _ _ _ _ _ _ _ _ | exact ih1 _ _ _ _ _ _ _ _ _ _ | exact LeO.none _ | refine LeO.ite ?_ ?_ | refine LeO.bind ?_ (fun _ => ?_)
set_option maxHeartbeats 8000000 in
set_option maxRecDepth 100000 in
theorem impl_Url_text.calls (k : Nat) (a0_0 : ByteArray) (a0_1 : ByteArray) (a0_2 : ByteArray) (a0_3 : Int) (a0_4 : ByteArray) (a0_5 : ByteArray) (a0_6 : ByteArray) (a0_7 : Bool) (a0_8 : Bool) (r : ByteArray) (w : World) (hM : Amb w) (h : impl_Url_text.f k a0_0 a0_1 a0_2 a0_3 a0_4 a0_5 a0_6 a0_7 a0_8 = some r) :
    Calls Tryz.prog 65 #[.agg #[.string a0_0, .string a0_1, .string a0_2, .int .i64 a0_3, .string a0_4, .string a0_5, .string a0_6, .bool a0_7, .bool a0_8]] w fun e w' => e = .returned (.string r) ∧ Below w.heap.size w w' := by
 have hu32 := Tryz.underlying32; have HB := Aside0.mk (Below.refl w.heap.size w); have HM := Aside0.mk hM; clear hM; have H := h; clear h; unfold impl_Url_text.f at H; obtain ⟨aV, A2, H⟩ := bindE_ H; by_cases c3 : aV = true
 ·
  subst c3; replace H := ifT_ H; by_cases c4 : a0_0.size + 3 ≤ 9223372036854775807
  ·
   rw [if_pos c4] at H; have Q := eq_true c4; have R : decide (a0_0.size + 3 ≤ 9223372036854775807) = true := decide_eq_true c4; try have S : (9223372036854775807 < a0_0.size + 3) = False := eq_false (Nat.not_lt.2 c4)
   have P := Aside0.mk H; clear H; go_enter Tryz.func65, Tryz.ntmps65; go_upto_if 18 with (first | ((with_reducible refine gate_dst (N := 1) rfl ?_); refine box_event ?hg (N := 1) ?hd (cs := #[.string a0_0, .string a0_1, .string a0_2, .int .i64 a0_3, .string a0_4, .string a0_5, .string a0_6, .bool a0_7, .bool a0_8]) (t := 32) ?hr ?_; (case hd => rfl); (case hg => rfl); (case hr => first | (go_simp; done) | (go_simp; rfl)); intro L hg w6 hbox hb; have n := belB_ hb; have o := Aside0.mk (hbox); have p := geE_ (w := w) hg; have q := geE_ (w := w) hg; clear HB; have HB := n; have a := o; have aw := p; have ax := q; clear n o p q; clear hb hbox hg; obtain ⟨T, U, V, W, X, Y, Z, a0, a1, a2, a3, a4, a5, a6, a7, a8, a9, aa⟩ := cz9_ a) | ((with_reducible refine gate_callee (f := 59) rfl ?_); refine cU_ (some 5) Tryz.func59 #[.agg #[.string a0_0, .string a0_1, .string a0_2, .int .i64 a0_3, .string a0_4, .string a0_5, .string a0_6, .bool a0_7, .bool a0_8]] ?_; (with_reducible refine (impl_Url_web.calls a0_0 a0_1 a0_2 a0_3 a0_4 a0_5 a0_6 a0_7 a0_8 true _ A2.out).mono ?_); rintro e w8 ⟨rfl, hb⟩; refine ⟨_, rfl, ?_⟩; replace a := blkK_ a hb; replace HB := belB_ hb; (try clear hb); obtain ⟨ab, ac, ad, ae, af, ag, ah, ai, aj, ak, al, am, an, ao, ap, aq, ar, au⟩ := cz9_ a))
   (try simp only [Act.put, List.setIfInBounds_toArray, List.set_cons_zero, List.set_cons_succ]); go_cut [3] (fun v3 wc => ∃ (kq : Nat) (c : ByteArray), v3 = .string c ∧ Aside0 (impl_Url_text.j0 kq c a0_0 a0_1 a0_2 a0_3 a0_4 a0_5 a0_6 a0_7 a0_8 = some r) ∧ Aside0 (kq ≤ k) ∧ Aside0 (wc.heap[L]? = some (.cells #[.string a0_0, .string a0_1, .string a0_2, .int .i64 a0_3, .string a0_4, .string a0_5, .string a0_6, .bool a0_7, .bool a0_8] 32 (0, 0))) ∧ Aside0 (Below w.heap.size w wc))
   case first =>
    have H := P.out; clear P; by_cases d : a0_1.toList = ([] : List UInt8)
    ·
     rw [if_pos d] at H; have l : (a0_1.toList == ([] : List UInt8)) = true := beq_iff_eq.mpr d; have ay : (a0_1.toList != ([] : List UInt8)) = false := bne_eq_false_iff_eq.mpr d; (try (have M : a0_1.toList.isEmpty = true := by simpa using d)); clear d; (first | rw [l] | rw [M] | (simp only [i64_w, i32_w]; rw [l]) | skip); have H' := Aside0.mk H; clear H; go_wp2; go_meet
     case rel => exact ⟨_, (a0_0 ++ (⟨#[58, 47, 47]⟩ : ByteArray)), eqE_, H', ⟨leE_⟩, ⟨blkE_⟩, ⟨belE_⟩⟩
    ·
     rw [if_neg d] at H; have l : (a0_1.toList == ([] : List UInt8)) = false := beq_eq_false_iff_ne.mpr d; have ay : (a0_1.toList != ([] : List UInt8)) = true := bne_iff_ne.mpr d; (try (have M : a0_1.toList.isEmpty = false := by simpa using d)); (first | rw [l] | rw [M] | (simp only [i64_w, i32_w]; rw [l]) | skip); by_cases s : a0_1.size + 1 ≤ 9223372036854775807
     ·
      rw [if_pos s] at H; have aY := eq_true s; have aZ : decide (a0_1.size + 1 ≤ 9223372036854775807) = true := decide_eq_true s; try have a_ : (9223372036854775807 < a0_1.size + 1) = False := eq_false (Nat.not_lt.2 s)
      by_cases u : (a0_0 ++ (⟨#[58, 47, 47]⟩ : ByteArray)).size + (a0_1 ++ (⟨#[64]⟩ : ByteArray)).size ≤ 9223372036854775807
      ·
       rw [if_pos u] at H; have b0 := eq_true u; have b1 : decide ((a0_0 ++ (⟨#[58, 47, 47]⟩ : ByteArray)).size + (a0_1 ++ (⟨#[64]⟩ : ByteArray)).size ≤ 9223372036854775807) = true := decide_eq_true u; try have b2 : (9223372036854775807 < (a0_0 ++ (⟨#[58, 47, 47]⟩ : ByteArray)).size + (a0_1 ++ (⟨#[64]⟩ : ByteArray)).size) = False := eq_false (Nat.not_lt.2 u)
       have H' := Aside0.mk H; clear H; obtain ⟨b3, b4, b5, b6, b7, b8, b9, ba, bb, bc, bd, bf, bg, bh, bi, bj, bk, bl⟩ := cz9_ a; go_wp2; go_meet
       case rel => exact ⟨_, ((a0_0 ++ (⟨#[58, 47, 47]⟩ : ByteArray)) ++ (a0_1 ++ (⟨#[64]⟩ : ByteArray))), eqE_, H', ⟨leE_⟩, ⟨blkE_⟩, ⟨belE_⟩⟩
      · rw [if_neg u] at H; exact absurd H (by simp)
     · rw [if_neg s] at H; exact absurd H (by simp)
   case rest =>
    clear P; try clear c3
    try clear c4
    try clear Q
    try clear R
    try clear S
    try clear T U V W X Y Z a0 a1
    try clear ab ac ad ae af ag ah ai aj
    try clear a2 a3 a4 a5 a6 a7 a8 a9 aa
    try clear ak al am an ao ap aq ar au
    obtain ⟨kq, c, rfl, HA, av, a, HB⟩ := hcut; cases kq with
    | zero => exact absurd HA.out (by simp [impl_Url_text.j0])
    | succ aW =>
     have H := HA.out; clear HA; simp only [impl_Url_text.j0] at H; by_cases j : c.size + a0_2.size ≤ 9223372036854775807
     ·
      rw [if_pos j] at H; have az := eq_true j; have aA : decide (c.size + a0_2.size ≤ 9223372036854775807) = true := decide_eq_true j; try have aB : (9223372036854775807 < c.size + a0_2.size) = False := eq_false (Nat.not_lt.2 j)
      have O := Aside0.mk H; clear H; obtain ⟨aC, aD, aE, aF, aG, aH, aI, aJ, aK, aL, aM, aN, aO, aP, aQ, aR, aS, aT⟩ := cz9_ a; go_upto_if 30 with (fail)
      go_cut [3] (fun v3 wc => ∃ (kq : Nat) (b : ByteArray), v3 = .string b ∧ Aside0 (impl_Url_text.j1 kq b a0_0 a0_1 a0_2 a0_3 a0_4 a0_5 a0_6 a0_7 a0_8 = some r) ∧ Aside0 (kq ≤ aW) ∧ Aside0 (wc.heap[L]? = some (.cells #[.string a0_0, .string a0_1, .string a0_2, .int .i64 a0_3, .string a0_4, .string a0_5, .string a0_6, .bool a0_7, .bool a0_8] 32 (0, 0))) ∧ Aside0 (Below w.heap.size w wc))
      case first =>
       have H := O.out; clear O; by_cases i : a0_3 = 0
       ·
        rw [if_pos i] at H; have m : (a0_3 == 0) = true := beq_iff_eq.mpr i; have aU : (a0_3 != 0) = false := bne_eq_false_iff_eq.mpr i; clear i; (first | rw [m] | (simp only [i64_w, i32_w]; rw [m]) | skip); have H' := Aside0.mk H; clear H; go_wp2; go_meet
        case rel => exact ⟨_, (c ++ a0_2), eqE_, H', ⟨by have := av.out; first | omega | exact Nat.le_refl _⟩, ⟨blkE_⟩, ⟨belE_⟩⟩
       ·
        rw [if_neg i] at H; have m : (a0_3 == 0) = false := beq_eq_false_iff_ne.mpr i; have aU : (a0_3 != 0) = true := bne_iff_ne.mpr i; (first | rw [m] | (simp only [i64_w, i32_w]; rw [m]) | skip); obtain ⟨g, aX, H⟩ := bindE_ H; by_cases v : 1 + g.size ≤ 9223372036854775807
        ·
         rw [if_pos v] at H; have bm := eq_true v; have bn : decide (1 + g.size ≤ 9223372036854775807) = true := decide_eq_true v; try have bo : (9223372036854775807 < 1 + g.size) = False := eq_false (Nat.not_lt.2 v)
         by_cases x : (c ++ a0_2).size + ((⟨#[58]⟩ : ByteArray) ++ g).size ≤ 9223372036854775807
         ·
          rw [if_pos x] at H; have bp := eq_true x; have bq : decide ((c ++ a0_2).size + ((⟨#[58]⟩ : ByteArray) ++ g).size ≤ 9223372036854775807) = true := decide_eq_true x; try have br : (9223372036854775807 < (c ++ a0_2).size + ((⟨#[58]⟩ : ByteArray) ++ g).size) = False := eq_false (Nat.not_lt.2 x)
          have H' := Aside0.mk H; clear H; obtain ⟨bs, bt, bu, bv, bw, bx, bz, bA, bB, bC, bD, bE, bF, bG, bH, bI, bJ, bK⟩ := cz9_ a; go_wp2_with (first | ((with_reducible refine gate_callee (f := 115) rfl ?_); refine cU_ (some 34) Tryz.func115 #[.int .i64 a0_3] ?_; (with_reducible refine (impl_decimal.calls a0_3 g _ ?side1 aX.out).mono ?_); (case side1 => exact Amb.on HM.out belE_); rintro e d_ ⟨rfl, hb⟩; refine ⟨_, rfl, ?_⟩; replace a := blkK_ a hb; replace HB := belB_ hb; (try clear hb))); go_meet
          case rel => exact ⟨_, ((c ++ a0_2) ++ ((⟨#[58]⟩ : ByteArray) ++ g)), eqE_, H', ⟨by have := av.out; first | omega | exact Nat.le_refl _⟩, ⟨blkE_⟩, ⟨belE_⟩⟩
         · rw [if_neg x] at H; exact absurd H (by simp)
        · rw [if_neg v] at H; exact absurd H (by simp)
      case rest =>
       clear O; try clear c3
       try clear c4
       try clear Q
       try clear R
       try clear S
       try clear j
       try clear az
       try clear aA
       try clear aB
       try clear aC aD aE aF aG aH aI aJ aK
       try clear T U V W X Y Z a0 a1
       try clear ab ac ad ae af ag ah ai aj
       try clear aL aM aN aO aP aQ aR aS aT
       try clear a2 a3 a4 a5 a6 a7 a8 a9 aa
       try clear ak al am an ao ap aq ar au
       obtain ⟨kq, b, rfl, HA, dY, a, HB⟩ := hcut; cases kq with
       | zero => exact absurd HA.out (by simp [impl_Url_text.j1])
       | succ dZ =>
        have H := HA.out; clear HA; simp only [impl_Url_text.j1] at H; by_cases y : b.size + a0_4.size ≤ 9223372036854775807
        ·
         rw [if_pos y] at H; have bL := eq_true y; have bM : decide (b.size + a0_4.size ≤ 9223372036854775807) = true := decide_eq_true y; try have bN : (9223372036854775807 < b.size + a0_4.size) = False := eq_false (Nat.not_lt.2 y)
         by_cases I : a0_7 = true
         ·
          subst I; replace H := ifT_ H; by_cases z : 1 + a0_5.size ≤ 9223372036854775807
          ·
           rw [if_pos z] at H; have bO := eq_true z; have bP : decide (1 + a0_5.size ≤ 9223372036854775807) = true := decide_eq_true z; try have bQ : (9223372036854775807 < 1 + a0_5.size) = False := eq_false (Nat.not_lt.2 z)
           by_cases A : (b ++ a0_4).size + ((⟨#[63]⟩ : ByteArray) ++ a0_5).size ≤ 9223372036854775807
           ·
            rw [if_pos A] at H; have bR := eq_true A; have bS : decide ((b ++ a0_4).size + ((⟨#[63]⟩ : ByteArray) ++ a0_5).size ≤ 9223372036854775807) = true := decide_eq_true A; try have bT : (9223372036854775807 < (b ++ a0_4).size + ((⟨#[63]⟩ : ByteArray) ++ a0_5).size) = False := eq_false (Nat.not_lt.2 A)
            by_cases J : a0_8 = true
            ·
             subst J; replace H := ifT_ H; by_cases B : 1 + a0_6.size ≤ 9223372036854775807
             ·
              rw [if_pos B] at H; have bU := eq_true B; have bV : decide (1 + a0_6.size ≤ 9223372036854775807) = true := decide_eq_true B; try have bW : (9223372036854775807 < 1 + a0_6.size) = False := eq_false (Nat.not_lt.2 B)
              by_cases C : ((b ++ a0_4) ++ ((⟨#[63]⟩ : ByteArray) ++ a0_5)).size + ((⟨#[35]⟩ : ByteArray) ++ a0_6).size ≤ 9223372036854775807
              ·
               rw [if_pos C] at H; have bX := eq_true C; have bY : decide (((b ++ a0_4) ++ ((⟨#[63]⟩ : ByteArray) ++ a0_5)).size + ((⟨#[35]⟩ : ByteArray) ++ a0_6).size ≤ 9223372036854775807) = true := decide_eq_true C; try have bZ : (9223372036854775807 < ((b ++ a0_4) ++ ((⟨#[63]⟩ : ByteArray) ++ a0_5)).size + ((⟨#[35]⟩ : ByteArray) ++ a0_6).size) = False := eq_false (Nat.not_lt.2 C)
               obtain rfl := Option.some.inj H; obtain ⟨b_, c0, c1, c2, c5, c6, c7, c8, c9, ca, cb, cc, cd, ce, cf, cg, ch, ci⟩ := cz9_ a; go_wp2; go_ret; exact ⟨retE_, belE_⟩
              · rw [if_neg C] at H; exact absurd H (by simp)
             · rw [if_neg B] at H; exact absurd H (by simp)
            · replace J := Bool.eq_false_iff.mpr J; subst J; replace H := ifF_ H; obtain rfl := Option.some.inj H; obtain ⟨cj, ck, cl, cm, cn, co, cp, cq, cr, ct, cu, cv, cw, cx, cy, cz, cA, cB⟩ := cz9_ a; go_wp2; go_ret; exact ⟨retE_, belE_⟩
           · rw [if_neg A] at H; exact absurd H (by simp)
          · rw [if_neg z] at H; exact absurd H (by simp)
         ·
          replace I := Bool.eq_false_iff.mpr I; subst I; replace H := ifF_ H; by_cases K : a0_8 = true
          ·
           subst K; replace H := ifT_ H; by_cases D : 1 + a0_6.size ≤ 9223372036854775807
           ·
            rw [if_pos D] at H; have cC := eq_true D; have cD : decide (1 + a0_6.size ≤ 9223372036854775807) = true := decide_eq_true D; try have cE : (9223372036854775807 < 1 + a0_6.size) = False := eq_false (Nat.not_lt.2 D)
            by_cases E : (b ++ a0_4).size + ((⟨#[35]⟩ : ByteArray) ++ a0_6).size ≤ 9223372036854775807
            ·
             rw [if_pos E] at H; have cF := eq_true E; have cG : decide ((b ++ a0_4).size + ((⟨#[35]⟩ : ByteArray) ++ a0_6).size ≤ 9223372036854775807) = true := decide_eq_true E; try have cH : (9223372036854775807 < (b ++ a0_4).size + ((⟨#[35]⟩ : ByteArray) ++ a0_6).size) = False := eq_false (Nat.not_lt.2 E)
             obtain rfl := Option.some.inj H; obtain ⟨cI, cJ, cK, cL, cM, cN, cO, cP, cQ, cR, cS, cT, cU, cV, cW, cX, cY, cZ⟩ := cz9_ a; go_wp2; go_ret; exact ⟨retE_, belE_⟩
            · rw [if_neg E] at H; exact absurd H (by simp)
           · rw [if_neg D] at H; exact absurd H (by simp)
          · replace K := Bool.eq_false_iff.mpr K; subst K; replace H := ifF_ H; obtain rfl := Option.some.inj H; obtain ⟨c_, d0, d1, d2, d3, d4, d5, d6, d7, d8, d9, da, db, dc, dd, de, df, dg⟩ := cz9_ a; go_wp2; go_ret; exact ⟨retE_, belE_⟩
        · rw [if_neg y] at H; exact absurd H (by simp)
     · rw [if_neg j] at H; exact absurd H (by simp)
  · rw [if_neg c4] at H; exact absurd H (by simp)
 ·
  replace c3 := Bool.eq_false_iff.mpr c3; subst c3; replace H := ifF_ H; by_cases F : a0_0.size + 1 ≤ 9223372036854775807
  ·
   rw [if_pos F] at H; have dh := eq_true F; have di : decide (a0_0.size + 1 ≤ 9223372036854775807) = true := decide_eq_true F; try have dj : (9223372036854775807 < a0_0.size + 1) = False := eq_false (Nat.not_lt.2 F)
   by_cases G : (a0_0 ++ (⟨#[58]⟩ : ByteArray)).size + a0_4.size ≤ 9223372036854775807
   ·
    rw [if_pos G] at H; have dk := eq_true G; have dl : decide ((a0_0 ++ (⟨#[58]⟩ : ByteArray)).size + a0_4.size ≤ 9223372036854775807) = true := decide_eq_true G; try have dm : (9223372036854775807 < (a0_0 ++ (⟨#[58]⟩ : ByteArray)).size + a0_4.size) = False := eq_false (Nat.not_lt.2 G)
    obtain rfl := Option.some.inj H; go_enter Tryz.func65, Tryz.ntmps65; go_wp2_with (first | ((with_reducible refine gate_dst (N := 1) rfl ?_); refine box_event ?hg (N := 1) ?hd (cs := #[.string a0_0, .string a0_1, .string a0_2, .int .i64 a0_3, .string a0_4, .string a0_5, .string a0_6, .bool a0_7, .bool a0_8]) (t := 32) ?hr ?_; (case hd => rfl); (case hg => rfl); (case hr => first | (go_simp; done) | (go_simp; rfl)); intro L hg e0 hbox hb; have n := belB_ hb; have o := Aside0.mk (hbox); have p := geE_ (w := w) hg; have q := geE_ (w := w) hg; clear HB; have HB := n; have a := o; have aw := p; have ax := q; clear n o p q; clear hb hbox hg; obtain ⟨dn, dp, dq, dr, ds, dt, du, dv, dw, dx, dy, dz, dA, dB, dC, dD, dE, dF⟩ := cz9_ a) | ((with_reducible refine gate_callee (f := 59) rfl ?_); refine cU_ (some 5) Tryz.func59 #[.agg #[.string a0_0, .string a0_1, .string a0_2, .int .i64 a0_3, .string a0_4, .string a0_5, .string a0_6, .bool a0_7, .bool a0_8]] ?_; (with_reducible refine (impl_Url_web.calls a0_0 a0_1 a0_2 a0_3 a0_4 a0_5 a0_6 a0_7 a0_8 false _ A2.out).mono ?_); rintro e e1 ⟨rfl, hb⟩; refine ⟨_, rfl, ?_⟩; replace a := blkK_ a hb; replace HB := belB_ hb; (try clear hb); obtain ⟨dG, dH, dI, dJ, dK, dL, dM, dN, dO, dP, dQ, dR, dS, dT, dU, dV, dW, dX⟩ := cz9_ a)); go_ret; exact ⟨retE_, belE_⟩
   · rw [if_neg G] at H; exact absurd H (by simp)
  · rw [if_neg F] at H; exact absurd H (by simp)

/-! ### impl_within: function 71 -/
def impl_within.f (a0 : Int) (a1 : Int) (a2 : Int) : Option (Bool) := if a1 ≤ a0 then (some (decide (a0 ≤ a2))) else (some false)
set_option maxHeartbeats 8000000 in
set_option maxRecDepth 100000 in
theorem impl_within.calls (a0 : Int) (a1 : Int) (a2 : Int) (r : Bool) (w : World) (h : impl_within.f a0 a1 a2 = some r) :
    Calls Tryz.prog 71 #[.int .i64 a0, .int .i64 a1, .int .i64 a2] w fun e w' => e = .returned (.bool r) ∧ Drawn0 w w' := by
 have H : (if a1 ≤ a0 then (some (decide (a0 ≤ a2))) else (some false)) = some r := h; clear h; by_cases c4 : a1 ≤ a0
 · rw [if_pos c4] at H; have c4b0 : decide (a1 ≤ a0) = true := decide_eq_true c4; clear c4; obtain rfl := Option.some.inj H; go_enter Tryz.func71, Tryz.ntmps71; go_wp2; go_ret; exact ⟨eqE_, drE_⟩
 · rw [if_neg c4] at H; have c4b0 : decide (a1 ≤ a0) = false := decide_eq_false c4; clear c4; obtain rfl := Option.some.inj H; go_enter Tryz.func71, Tryz.ntmps71; go_wp2; go_ret; exact ⟨eqE_, drE_⟩

/-! ### impl_isLower: function 116 -/
def impl_isLower.f (a0 : Int) : Option (Bool) := if 97 ≤ a0 then (some (decide (a0 ≤ 122))) else (some false)
set_option maxHeartbeats 8000000 in
set_option maxRecDepth 100000 in
theorem impl_isLower.calls (a0 : Int) (r : Bool) (w : World) (h : impl_isLower.f a0 = some r) :
    Calls Tryz.prog 116 #[.int .u8 a0] w fun e w' => e = .returned (.bool r) ∧ Drawn0 w w' := by
 have H : (if 97 ≤ a0 then (some (decide (a0 ≤ 122))) else (some false)) = some r := h; clear h; by_cases c2 : 97 ≤ a0
 · rw [if_pos c2] at H; have c2b0 : decide (97 ≤ a0) = true := decide_eq_true c2; clear c2; obtain rfl := Option.some.inj H; go_enter Tryz.func116, Tryz.ntmps116; go_wp2; go_ret; exact ⟨eqE_, drE_⟩
 · rw [if_neg c2] at H; have c2b0 : decide (97 ≤ a0) = false := decide_eq_false c2; clear c2; obtain rfl := Option.some.inj H; go_enter Tryz.func116, Tryz.ntmps116; go_wp2; go_ret; exact ⟨eqE_, drE_⟩

/-! ### impl_isDigit: function 117 -/
def impl_isDigit.f (a0 : Int) : Option (Bool) := if 48 ≤ a0 then (some (decide (a0 ≤ 57))) else (some false)
set_option maxHeartbeats 8000000 in
set_option maxRecDepth 100000 in
theorem impl_isDigit.calls (a0 : Int) (r : Bool) (w : World) (h : impl_isDigit.f a0 = some r) :
    Calls Tryz.prog 117 #[.int .u8 a0] w fun e w' => e = .returned (.bool r) ∧ Drawn0 w w' := by
 have H : (if 48 ≤ a0 then (some (decide (a0 ≤ 57))) else (some false)) = some r := h; clear h; by_cases c2 : 48 ≤ a0
 · rw [if_pos c2] at H; have c2b0 : decide (48 ≤ a0) = true := decide_eq_true c2; clear c2; obtain rfl := Option.some.inj H; go_enter Tryz.func117, Tryz.ntmps117; go_wp2; go_ret; exact ⟨eqE_, drE_⟩
 · rw [if_neg c2] at H; have c2b0 : decide (48 ≤ a0) = false := decide_eq_false c2; clear c2; obtain rfl := Option.some.inj H; go_enter Tryz.func117, Tryz.ntmps117; go_wp2; go_ret; exact ⟨eqE_, drE_⟩

/-! ### impl_isScheme: function 67 -/
def impl_isScheme.l0 : Nat → ByteArray → Int → Int → Option (Bool)
  | 0, _, _, _ => none
  | k + 1, x0, x7, x8 => if x8 < x7 then (if 0 ≤ x8 then (if x8 < (x0.size : Int) then ((impl_isLower.f (bt x0 x8)).bind fun t197 => (if t197 = true then (impl_isScheme.l0 k x0 x7 (wrap64 (x8 + 1))) else (if x8 = 0 then (some false) else ((impl_isDigit.f (bt x0 x8)).bind fun t198 => (if t198 = true then (impl_isScheme.l0 k x0 x7 (wrap64 (x8 + 1))) else (if (bt x0 x8) = 45 then (impl_isScheme.l0 k x0 x7 (wrap64 (x8 + 1))) else (if (bt x0 x8) = 43 then (impl_isScheme.l0 k x0 x7 (wrap64 (x8 + 1))) else (if (bt x0 x8) = 46 then (impl_isScheme.l0 k x0 x7 (wrap64 (x8 + 1))) else (some false))))))))) else (none)) else (none)) else ((impl_within.f (x0.size : Int) 1 12).bind fun t196 => (some t196))
def impl_isScheme.f (k : Nat) (a0 : ByteArray) : Option (Bool) := impl_isScheme.l0 k a0 (mn (a0.size : Int) 13) 0
theorem impl_isScheme.mono_l : ∀ k, (∀ y0 y1 y2, LeO (impl_isScheme.l0 k y0 y1 y2) (impl_isScheme.l0 (k + 1) y0 y1 y2))
  | 0 => fun _ _ _ r h => by simp [impl_isScheme.l0] at h
  | k + 1 => by
    have ih0 := impl_isScheme.mono_l k
    · intro y0 y1 y2
      unfold impl_isScheme.l0; repeat' first | (with_reducible exact ih0 _ _ _) | (with_reducible first | exact LeO.refl _ | exact LeO.none _ | refine LeO.ite ?_ ?_ | refine LeO.bind ?_ (fun _ => ?_)) | exact ih0 _ _ _ | exact LeO.none _ | refine LeO.ite ?_ ?_ | refine LeO.bind ?_ (fun _ => ?_)
theorem impl_isScheme.mono : ∀ a0 k, LeO (impl_isScheme.f k a0) (impl_isScheme.f (k + 1) a0) := by
  intro a0 k; have ih0 := impl_isScheme.mono_l k; unfold impl_isScheme.f; repeat' first | (with_reducible exact ih0 _ _ _) | (with_reducible first | exact LeO.refl _ | exact LeO.none _ | refine LeO.ite ?_ ?_ | refine LeO.bind ?_ (fun _ => ?_)) | exact ih0 _ _ _ | exact LeO.none _ | refine LeO.ite ?_ ?_ | refine LeO.bind ?_ (fun _ => ?_)
set_option maxHeartbeats 8000000 in
set_option maxRecDepth 100000 in
theorem impl_isScheme.calls (k : Nat) (a0 : ByteArray) (r : Bool) (w : World) (h : impl_isScheme.f k a0 = some r) :
    Calls Tryz.prog 67 #[.string a0] w fun e w' => e = .returned (.bool r) ∧ Below w.heap.size w w' := by
 have HB := Aside0.mk (Below.refl w.heap.size w); have H : (impl_isScheme.l0 k a0 (mn (a0.size : Int) 13) 0) = some r := h; clear h; obtain ⟨ji2, hji2⟩ : ∃ j_ : Int, (mn (a0.size : Int) 13) = j_ := ⟨_, rfl⟩
 replace H : (impl_isScheme.l0 k a0 ji2 0) = some r := by first | (rw [hji2] at H; exact H) | (simp only [hji2] at H ⊢; exact H)
 (try (have hji2h : ji2 ≤ 13 := by (rw [← hji2]; unfold mn; (repeat' split) <;> omega))); (try (have hji2g : ji2 ≤ 64 := by omega)); (try (have hji2l : 0 ≤ ji2 := by (rw [← hji2]; unfold mn; (repeat' split) <;> omega))); (try (have hji2m : 0 ≤ ji2 := by omega)); have hji2_ : (if 13 < (a0.size : Int) then 13 else (a0.size : Int)) = ji2 := hji2; (try (have hji2n_ := hji2_; simp only [Int.ofNat_lt] at hji2n_)); have H' := Aside0.mk H; clear H; go_enter Tryz.func67, Tryz.ntmps67; go_wp2; go_loopg [8] k (fun kq v8 w' => ∃ (a : Int), v8 = .int .i64 a ∧ Aside0 (impl_isScheme.l0 kq a0 ji2 a = some r) ∧ Aside0 (kq ≤ k) ∧ Aside0 (Below w.heap.size w w'))
 case atStart => exact ⟨(0), eqE_, H', ⟨Nat.le_refl _⟩, ⟨belE_⟩⟩
 case round =>
  clear H'; obtain ⟨a, rfl, HA, b, HB⟩ := hrel; cases gk with
  | zero => exact absurd HA.out (by simp [impl_isScheme.l0])
  | succ k1 =>
   have H := HA.out; clear HA; simp only [impl_isScheme.l0] at H; by_cases c3 : a < ji2
   ·
    rw [if_pos c3] at H; have t : decide (a < ji2) = true := decide_eq_true c3; clear c3; by_cases c4 : 0 ≤ a
    ·
     rw [if_pos c4] at H; have B : decide (0 ≤ a) = true := decide_eq_true c4; clear c4; by_cases c5 : a < (a0.size : Int)
     ·
      rw [if_pos c5] at H; have C : decide (a < (a0.size : Int)) = true := decide_eq_true c5; clear c5; obtain ⟨u, A7, H⟩ := bindE_ H; by_cases c8 : u = true
      ·
       subst c8; replace H := ifT_ H; have H' := Aside0.mk H; clear H; have p6 : 0 ≤ (a : Int) := ofd_; have q6 : a < (a0.size : Int) := ofd_; have i := bt_at a0 a; replace p6 := eq_true p6; replace q6 := eq_true q6; go_wp2_with (first | ((with_reducible refine gate_callee (f := 116) rfl ?_); refine cU_ (some 15) Tryz.func116 #[.int .u8 (bt a0 a)] ?_; (with_reducible refine (impl_isLower.calls (bt a0 a) true _ A7.out).mono ?_); rintro e w' ⟨rfl, ⟨nd, rfl⟩⟩; refine ⟨_, rfl, ?_⟩)); go_roundg k1
       case measure => have := b.out; omega
       case rel => exact ⟨(wrap64 (a + 1)), eqE_, H', ⟨by have := b.out; omega⟩, ⟨belE_⟩⟩
      ·
       replace c8 := Bool.eq_false_iff.mpr c8; subst c8; replace H := ifF_ H; by_cases c9 : a = 0
       · rw [if_pos c9] at H; have v : (a == 0) = true := beq_iff_eq.mpr c9; have x : (a != 0) = false := bne_eq_false_iff_eq.mpr c9; clear c9; obtain rfl := Option.some.inj H; have p6 : 0 ≤ (a : Int) := ofd_; have q6 : a < (a0.size : Int) := ofd_; have i := bt_at a0 a; replace p6 := eq_true p6; replace q6 := eq_true q6; go_wp2_with (first | ((with_reducible refine gate_callee (f := 116) rfl ?_); refine cU_ (some 15) Tryz.func116 #[.int .u8 (bt a0 a)] ?_; (with_reducible refine (impl_isLower.calls (bt a0 a) false _ A7.out).mono ?_); rintro e w' ⟨rfl, ⟨nd, rfl⟩⟩; refine ⟨_, rfl, ?_⟩)); go_ret; exact ⟨by first | rfl | (simp [errW_none, errW_some] <;> rfl) | (simp only [← hji2]; first | rfl | (simp [errW_none, errW_some] <;> rfl)) | (simp [*, errW_none, errW_some] <;> rfl), belE_⟩
       ·
        rw [if_neg c9] at H; have v : (a == 0) = false := beq_eq_false_iff_ne.mpr c9; have x : (a != 0) = true := bne_iff_ne.mpr c9; obtain ⟨y, j, H⟩ := bindE_ H; by_cases l : y = true
        ·
         subst l; replace H := ifT_ H; have H' := Aside0.mk H; clear H; have p6 : 0 ≤ (a : Int) := ofd_; have q6 : a < (a0.size : Int) := ofd_; have i := bt_at a0 a; replace p6 := eq_true p6; replace q6 := eq_true q6; go_wp2_with (first | ((with_reducible refine gate_callee (f := 116) rfl ?_); refine cU_ (some 15) Tryz.func116 #[.int .u8 (bt a0 a)] ?_; (with_reducible refine (impl_isLower.calls (bt a0 a) false _ A7.out).mono ?_); rintro e w' ⟨rfl, ⟨nd, rfl⟩⟩; refine ⟨_, rfl, ?_⟩) | (go_at_call 117; (with_reducible refine (impl_isDigit.calls (bt a0 a) true _ j.out).mono ?_); rintro e w' ⟨rfl, ⟨nd, rfl⟩⟩)); go_roundg k1
         case measure => have := b.out; omega
         case rel => exact ⟨(wrap64 (a + 1)), eqE_, H', ⟨by have := b.out; omega⟩, ⟨belE_⟩⟩
        ·
         replace l := Bool.eq_false_iff.mpr l; subst l; replace H := ifF_ H; by_cases c : (bt a0 a) = 45
         ·
          rw [if_pos c] at H; have m : ((bt a0 a) == 45) = true := beq_iff_eq.mpr c; have n : ((bt a0 a) != 45) = false := bne_eq_false_iff_eq.mpr c; clear c; have H' := Aside0.mk H; clear H; have p6 : 0 ≤ (a : Int) := ofd_; have q6 : a < (a0.size : Int) := ofd_; have i := bt_at a0 a; replace p6 := eq_true p6; replace q6 := eq_true q6; go_wp2_with (first | ((with_reducible refine gate_callee (f := 116) rfl ?_); refine cU_ (some 15) Tryz.func116 #[.int .u8 (bt a0 a)] ?_; (with_reducible refine (impl_isLower.calls (bt a0 a) false _ A7.out).mono ?_); rintro e w' ⟨rfl, ⟨nd, rfl⟩⟩; refine ⟨_, rfl, ?_⟩) | (go_at_call 117; (with_reducible refine (impl_isDigit.calls (bt a0 a) false _ j.out).mono ?_); rintro e w' ⟨rfl, ⟨nd, rfl⟩⟩)); go_roundg k1
          case measure => have := b.out; omega
          case rel => exact ⟨(wrap64 (a + 1)), eqE_, H', ⟨by have := b.out; omega⟩, ⟨belE_⟩⟩
         ·
          rw [if_neg c] at H; have m : ((bt a0 a) == 45) = false := beq_eq_false_iff_ne.mpr c; have n : ((bt a0 a) != 45) = true := bne_iff_ne.mpr c; by_cases d : (bt a0 a) = 43
          ·
           rw [if_pos d] at H; have o : ((bt a0 a) == 43) = true := beq_iff_eq.mpr d; have p : ((bt a0 a) != 43) = false := bne_eq_false_iff_eq.mpr d; clear d; have H' := Aside0.mk H; clear H; have p6 : 0 ≤ (a : Int) := ofd_; have q6 : a < (a0.size : Int) := ofd_; have i := bt_at a0 a; replace p6 := eq_true p6; replace q6 := eq_true q6; go_wp2_with (first | ((with_reducible refine gate_callee (f := 116) rfl ?_); refine cU_ (some 15) Tryz.func116 #[.int .u8 (bt a0 a)] ?_; (with_reducible refine (impl_isLower.calls (bt a0 a) false _ A7.out).mono ?_); rintro e w' ⟨rfl, ⟨nd, rfl⟩⟩; refine ⟨_, rfl, ?_⟩) | (go_at_call 117; (with_reducible refine (impl_isDigit.calls (bt a0 a) false _ j.out).mono ?_); rintro e w' ⟨rfl, ⟨nd, rfl⟩⟩)); go_roundg k1
           case measure => have := b.out; omega
           case rel => exact ⟨(wrap64 (a + 1)), eqE_, H', ⟨by have := b.out; omega⟩, ⟨belE_⟩⟩
          ·
           rw [if_neg d] at H; have o : ((bt a0 a) == 43) = false := beq_eq_false_iff_ne.mpr d; have p : ((bt a0 a) != 43) = true := bne_iff_ne.mpr d; by_cases g : (bt a0 a) = 46
           ·
            rw [if_pos g] at H; have q : ((bt a0 a) == 46) = true := beq_iff_eq.mpr g; have s : ((bt a0 a) != 46) = false := bne_eq_false_iff_eq.mpr g; clear g; have H' := Aside0.mk H; clear H; have p6 : 0 ≤ (a : Int) := ofd_; have q6 : a < (a0.size : Int) := ofd_; have i := bt_at a0 a; replace p6 := eq_true p6; replace q6 := eq_true q6; go_wp2_with (first | ((with_reducible refine gate_callee (f := 116) rfl ?_); refine cU_ (some 15) Tryz.func116 #[.int .u8 (bt a0 a)] ?_; (with_reducible refine (impl_isLower.calls (bt a0 a) false _ A7.out).mono ?_); rintro e w' ⟨rfl, ⟨nd, rfl⟩⟩; refine ⟨_, rfl, ?_⟩) | (go_at_call 117; (with_reducible refine (impl_isDigit.calls (bt a0 a) false _ j.out).mono ?_); rintro e w' ⟨rfl, ⟨nd, rfl⟩⟩)); go_roundg k1
            case measure => have := b.out; omega
            case rel => exact ⟨(wrap64 (a + 1)), eqE_, H', ⟨by have := b.out; omega⟩, ⟨belE_⟩⟩
           · rw [if_neg g] at H; have q : ((bt a0 a) == 46) = false := beq_eq_false_iff_ne.mpr g; have s : ((bt a0 a) != 46) = true := bne_iff_ne.mpr g; obtain rfl := Option.some.inj H; have p6 : 0 ≤ (a : Int) := ofd_; have q6 : a < (a0.size : Int) := ofd_; have i := bt_at a0 a; replace p6 := eq_true p6; replace q6 := eq_true q6; go_wp2_with (first | ((with_reducible refine gate_callee (f := 116) rfl ?_); refine cU_ (some 15) Tryz.func116 #[.int .u8 (bt a0 a)] ?_; (with_reducible refine (impl_isLower.calls (bt a0 a) false _ A7.out).mono ?_); rintro e w' ⟨rfl, ⟨nd, rfl⟩⟩; refine ⟨_, rfl, ?_⟩) | (go_at_call 117; (with_reducible refine (impl_isDigit.calls (bt a0 a) false _ j.out).mono ?_); rintro e w' ⟨rfl, ⟨nd, rfl⟩⟩)); go_ret; exact ⟨by first | rfl | (simp [errW_none, errW_some] <;> rfl) | (simp only [← hji2]; first | rfl | (simp [errW_none, errW_some] <;> rfl)) | (simp [*, errW_none, errW_some] <;> rfl), belE_⟩
     · rw [if_neg c5] at H; exact absurd H (by simp)
    · rw [if_neg c4] at H; exact absurd H (by simp)
   · rw [if_neg c3] at H; have t : decide (a < ji2) = false := decide_eq_false c3; clear c3; obtain ⟨z, A, H⟩ := bindE_ H; obtain rfl := Option.some.inj H; go_wp2_with (first | ((with_reducible refine gate_callee (f := 71) rfl ?_); refine cU_ (some 41) Tryz.func71 #[.int .i64 (a0.size : Int), .int .i64 1, .int .i64 12] ?_; (with_reducible refine (impl_within.calls (a0.size : Int) 1 12 z _ A.out).mono ?_); rintro e w' ⟨rfl, ⟨nd, rfl⟩⟩; refine ⟨_, rfl, ?_⟩)); go_ret; exact ⟨by first | rfl | (simp [errW_none, errW_some] <;> rfl) | (simp only [← hji2]; first | rfl | (simp [errW_none, errW_some] <;> rfl)) | (simp [*, errW_none, errW_some] <;> rfl), belE_⟩

end Go.Proofs.YthifpohbdbhnlaaGreatDoor.QFnStp
