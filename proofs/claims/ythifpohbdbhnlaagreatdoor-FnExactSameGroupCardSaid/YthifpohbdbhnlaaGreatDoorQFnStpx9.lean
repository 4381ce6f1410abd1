/- A tool of this session wrote this text out of the translation: functions as plain Lean, and proofs that the machine's calls come to their answers. -/
import Derived.Test.YthifpohbdbhnlaaGreatDoorQShort
import Derived.Test.YthifpohbdbhnlaaGreatDoorQFnStpx0
namespace Go.Proofs.YthifpohbdbhnlaaGreatDoor.QFnStp
open Go.RowKit Go.Proofs.YthifpohbdbhnlaaGreatDoorW.PrintWords Go.Proofs.YthifpohbdbhnlaaGreatDoorW.PrintLast Go.Proofs.YthifpohbdbhnlaaGreatDoorW.PrintMore
open Go.Proofs.YthifpohbdbhnlaaGreatDoor.Short
attribute [local go_sem] max2_int min2_int max_two min_two max_three min_three max_four min_four   -- for this text's walks alone
set_option linter.unusedVariables false
set_option linter.unusedSimpArgs false

-- NOT PRINTED: function 51 (spec_l00Src_urlValue)

-- NOT PRINTED: function 16 (spec_UrlValue)

/-! ### impl_Url_web: function 59 -/
def impl_Url_web.f (a0_0 : ByteArray) (a0_1 : ByteArray) (a0_2 : ByteArray) (a0_3 : Int) (a0_4 : ByteArray) (a0_5 : ByteArray) (a0_6 : ByteArray) (a0_7 : Bool) (a0_8 : Bool) : Option (Bool) := if a0_0.toList = ([104, 116, 116, 112] : List UInt8) then (some true) else (some (a0_0.toList == ([104, 116, 116, 112, 115] : List UInt8)))
set_option maxHeartbeats 8000000 in
set_option maxRecDepth 100000 in
theorem impl_Url_web.calls (a0_0 : ByteArray) (a0_1 : ByteArray) (a0_2 : ByteArray) (a0_3 : Int) (a0_4 : ByteArray) (a0_5 : ByteArray) (a0_6 : ByteArray) (a0_7 : Bool) (a0_8 : Bool) (r : Bool) (w : World) (h : impl_Url_web.f a0_0 a0_1 a0_2 a0_3 a0_4 a0_5 a0_6 a0_7 a0_8 = some r) :
    Calls Tryz.prog 59 #[.agg #[.string a0_0, .string a0_1, .string a0_2, .int .i64 a0_3, .string a0_4, .string a0_5, .string a0_6, .bool a0_7, .bool a0_8]] w fun e w' => e = .returned (.bool r) ∧ Below w.heap.size w w' := by
 have hu32 := Tryz.underlying32; have HB := Aside0.mk (Below.refl w.heap.size w); have H : (if a0_0.toList = ([104, 116, 116, 112] : List UInt8) then (some true) else (some (a0_0.toList == ([104, 116, 116, 112, 115] : List UInt8)))) = some r := h; clear h; by_cases c2 : a0_0.toList = ([104, 116, 116, 112] : List UInt8)
 · rw [if_pos c2] at H; have c2b0 : (a0_0.toList == ([104, 116, 116, 112] : List UInt8)) = true := beq_iff_eq.mpr c2; have c2b1 : (a0_0.toList != ([104, 116, 116, 112] : List UInt8)) = false := bne_eq_false_iff_eq.mpr c2; clear c2; obtain rfl := Option.some.inj H; go_enter Tryz.func59, Tryz.ntmps59; go_wp2_with (first | ((with_reducible refine gate_dst (N := 1) rfl ?_); refine box_event ?hg (N := 1) ?hd (cs := #[.string a0_0, .string a0_1, .string a0_2, .int .i64 a0_3, .string a0_4, .string a0_5, .string a0_6, .bool a0_7, .bool a0_8]) (t := 32) ?hr ?_; (case hd => rfl); (case hg => rfl); (case hr => first | (go_simp; done) | (go_simp; rfl)); intro gb191 hg w3 hbox hb; have n0_ := belB_ hb; have n1_ := Aside0.mk (hbox); have n2_ := geE_ (w := w) hg; have n3_ := geE_ (w := w) hg; clear HB; have HB := n0_; have BK191 := n1_; have GW191 := n2_; have GE191 := n3_; clear n0_ n1_ n2_ n3_; clear hb hbox hg; obtain ⟨u4_0, u4_1, u4_2, u4_3, u4_4, u4_5, u4_6, u4_7, u4_8, v4_0, v4_1, v4_2, v4_3, v4_4, v4_5, v4_6, v4_7, v4_8⟩ := cz9_ BK191)); go_ret; exact ⟨retE_, belE_⟩
 · rw [if_neg c2] at H; have c2b0 : (a0_0.toList == ([104, 116, 116, 112] : List UInt8)) = false := beq_eq_false_iff_ne.mpr c2; have c2b1 : (a0_0.toList != ([104, 116, 116, 112] : List UInt8)) = true := bne_iff_ne.mpr c2; obtain rfl := Option.some.inj H; go_enter Tryz.func59, Tryz.ntmps59; go_wp2_with (first | ((with_reducible refine gate_dst (N := 1) rfl ?_); refine box_event ?hg (N := 1) ?hd (cs := #[.string a0_0, .string a0_1, .string a0_2, .int .i64 a0_3, .string a0_4, .string a0_5, .string a0_6, .bool a0_7, .bool a0_8]) (t := 32) ?hr ?_; (case hd => rfl); (case hg => rfl); (case hr => first | (go_simp; done) | (go_simp; rfl)); intro gb191 hg w5 hbox hb; have n0_ := belB_ hb; have n1_ := Aside0.mk (hbox); have n2_ := geE_ (w := w) hg; have n3_ := geE_ (w := w) hg; clear HB; have HB := n0_; have BK191 := n1_; have GW191 := n2_; have GE191 := n3_; clear n0_ n1_ n2_ n3_; clear hb hbox hg; obtain ⟨u6_0, u6_1, u6_2, u6_3, u6_4, u6_5, u6_6, u6_7, u6_8, v6_0, v6_1, v6_2, v6_3, v6_4, v6_5, v6_6, v6_7, v6_8⟩ := cz9_ BK191)); go_ret; exact ⟨retE_, belE_⟩

/-! ### strconv_Itoa: function 141, by hand -/
/-- The library's table and its two sentinels, as their initialisers lay them. -/
def IsErr (w : World) (b : Nat) : Prop := ∃ te pe, w.cell? ⟨b, 0, none⟩ = some (.iface te pe)
def Amb (w : World) : Prop := Lib.TabIs Tryz.prog w "internal/strconv.uint64pow10" .u64 Lib.pow10Tab ∧ IsErr w 1 ∧ IsErr w 2
theorem IsErr.on {w w' : World} {b : Nat} (h : IsErr w b) (hb : Below w.heap.size w w') : IsErr w' b := by
  obtain ⟨te, pe, h⟩ := h; exact ⟨te, pe, (hb.cell (World.block_lt_of_cell? _ _ h)).trans h⟩
theorem Amb.on {w w' : World} (h : Amb w) (hb : Below w.heap.size w w') : Amb w' := ⟨Lib.tabBelow_of_tabIs h.1 w' hb, h.2.1.on hb, h.2.2.on hb⟩
def strconv_Itoa.f (a0 : Int) : Option (ByteArray) := if -9223372036854775808 ≤ a0 ∧ a0 ≤ 9223372036854775807 then some ⟨(Lib.itoa a0).toArray⟩ else none
theorem strconv_Itoa.calls (a0 : Int) (r : ByteArray) (w : World) (hM : Amb w) (h : strconv_Itoa.f a0 = some r) :
    Calls Tryz.prog 141 #[.int .i64 a0] w fun e w' => e = .returned (.string r) ∧ Below w.heap.size w w' := by
  unfold strconv_Itoa.f at h; by_cases hb : -9223372036854775808 ≤ a0 ∧ a0 ≤ 9223372036854775807
  · rw [if_pos hb] at h
    cases h; refine (Tryz.strconv_Itoa a0 hb.1 hb.2 w hM.1).mono ?_; rintro e w' ⟨rfl, k, os, rfl⟩; exact ⟨rfl, Lib.below_grow _ _ (Nat.le_refl _) _ _⟩
  · rw [if_neg hb] at h
    cases h

/-! ### impl_decimal: function 115 -/
def impl_decimal.f (a0 : Int) : Option (ByteArray) := (strconv_Itoa.f a0).bind fun t192 => (some t192)
set_option maxHeartbeats 8000000 in
set_option maxRecDepth 100000 in
theorem impl_decimal.calls (a0 : Int) (r : ByteArray) (w : World) (hM : Amb w) (h : impl_decimal.f a0 = some r) :
    Calls Tryz.prog 115 #[.int .i64 a0] w fun e w' => e = .returned (.string r) ∧ Below w.heap.size w w' := by
 have HB := Aside0.mk (Below.refl w.heap.size w); have HM := Aside0.mk hM; clear hM; have H : ((strconv_Itoa.f a0).bind fun t192 => (some t192)) = some r := h; clear h; obtain ⟨t192, A2, H⟩ := bindE_ H; obtain rfl := Option.some.inj H; go_enter Tryz.func115, Tryz.ntmps115; go_wp2_with (first | ((with_reducible refine gate_callee (f := 141) rfl ?_); refine cU_ (some 4) Tryz.func141 #[.int .i64 a0] ?_; (with_reducible refine (strconv_Itoa.calls a0 t192 _ ?side1 A2.out).mono ?_); (case side1 => exact Amb.on HM.out belE_); rintro e w3 ⟨rfl, hb⟩; refine ⟨_, rfl, ?_⟩; have n0_ := belB_ hb; clear HB; have HB := n0_; clear n0_; (try clear hb); (try clear hb2); (try clear hk); (try clear hi))); go_ret; exact ⟨retE_, belE_⟩

/-! ### impl_Url_text: function 65 -/
mutual
def impl_Url_text.j0 : Nat → ByteArray → ByteArray → ByteArray → ByteArray → Int → ByteArray → ByteArray → ByteArray → Bool → Bool → Option (ByteArray)
  | 0, _, _, _, _, _, _, _, _, _, _ => none
  | k + 1, x3, x194000, x194001, x194002, x194003, x194004, x194005, x194006, x194007, x194008 => if x3.size + x194002.size ≤ 9223372036854775807 then (if x194003 = 0 then (impl_Url_text.j1 k (x3 ++ x194002) x194000 x194001 x194002 x194003 x194004 x194005 x194006 x194007 x194008) else ((impl_decimal.f x194003).bind fun t195 => (if 1 + t195.size ≤ 9223372036854775807 then (if (x3 ++ x194002).size + ((⟨#[58]⟩ : ByteArray) ++ t195).size ≤ 9223372036854775807 then (impl_Url_text.j1 k ((x3 ++ x194002) ++ ((⟨#[58]⟩ : ByteArray) ++ t195)) x194000 x194001 x194002 x194003 x194004 x194005 x194006 x194007 x194008) else (none)) else (none)))) else (none)
def impl_Url_text.j1 : Nat → ByteArray → ByteArray → ByteArray → ByteArray → Int → ByteArray → ByteArray → ByteArray → Bool → Bool → Option (ByteArray)
  | 0, _, _, _, _, _, _, _, _, _, _ => none
  | k + 1, x3, x194000, x194001, x194002, x194003, x194004, x194005, x194006, x194007, x194008 => if x3.size + x194004.size ≤ 9223372036854775807 then (if x194007 = true then (if 1 + x194005.size ≤ 9223372036854775807 then (if (x3 ++ x194004).size + ((⟨#[63]⟩ : ByteArray) ++ x194005).size ≤ 9223372036854775807 then (if x194008 = true then (if 1 + x194006.size ≤ 9223372036854775807 then (if ((x3 ++ x194004) ++ ((⟨#[63]⟩ : ByteArray) ++ x194005)).size + ((⟨#[35]⟩ : ByteArray) ++ x194006).size ≤ 9223372036854775807 then (some (((x3 ++ x194004) ++ ((⟨#[63]⟩ : ByteArray) ++ x194005)) ++ ((⟨#[35]⟩ : ByteArray) ++ x194006))) else (none)) else (none)) else (some ((x3 ++ x194004) ++ ((⟨#[63]⟩ : ByteArray) ++ x194005)))) else (none)) else (none)) else (if x194008 = true then (if 1 + x194006.size ≤ 9223372036854775807 then (if (x3 ++ x194004).size + ((⟨#[35]⟩ : ByteArray) ++ x194006).size ≤ 9223372036854775807 then (some ((x3 ++ x194004) ++ ((⟨#[35]⟩ : ByteArray) ++ x194006))) else (none)) else (none)) else (some (x3 ++ x194004)))) else (none)
end
def impl_Url_text.f (k : Nat) (a0_0 : ByteArray) (a0_1 : ByteArray) (a0_2 : ByteArray) (a0_3 : Int) (a0_4 : ByteArray) (a0_5 : ByteArray) (a0_6 : ByteArray) (a0_7 : Bool) (a0_8 : Bool) : Option (ByteArray) := (impl_Url_web.f a0_0 a0_1 a0_2 a0_3 a0_4 a0_5 a0_6 a0_7 a0_8).bind fun t194 => (if t194 = true then (if a0_0.size + 3 ≤ 9223372036854775807 then (if a0_1.toList = ([] : List UInt8) then (impl_Url_text.j0 k (a0_0 ++ (⟨#[58, 47, 47]⟩ : ByteArray)) a0_0 a0_1 a0_2 a0_3 a0_4 a0_5 a0_6 a0_7 a0_8) else (if a0_1.size + 1 ≤ 9223372036854775807 then (if (a0_0 ++ (⟨#[58, 47, 47]⟩ : ByteArray)).size + (a0_1 ++ (⟨#[64]⟩ : ByteArray)).size ≤ 9223372036854775807 then (impl_Url_text.j0 k ((a0_0 ++ (⟨#[58, 47, 47]⟩ : ByteArray)) ++ (a0_1 ++ (⟨#[64]⟩ : ByteArray))) a0_0 a0_1 a0_2 a0_3 a0_4 a0_5 a0_6 a0_7 a0_8) else (none)) else (none))) else (none)) else (if a0_0.size + 1 ≤ 9223372036854775807 then (if (a0_0 ++ (⟨#[58]⟩ : ByteArray)).size + a0_4.size ≤ 9223372036854775807 then (some ((a0_0 ++ (⟨#[58]⟩ : ByteArray)) ++ a0_4)) else (none)) else (none)))
theorem impl_Url_text.mono_l : ∀ k, (∀ y0 y1 y2 y3 y4 y5 y6 y7 y8 y9, LeO (impl_Url_text.j0 k y0 y1 y2 y3 y4 y5 y6 y7 y8 y9) (impl_Url_text.j0 (k + 1) y0 y1 y2 y3 y4 y5 y6 y7 y8 y9)) ∧ (∀ y0 y1 y2 y3 y4 y5 y6 y7 y8 y9, LeO (impl_Url_text.j1 k y0 y1 y2 y3 y4 y5 y6 y7 y8 y9) (impl_Url_text.j1 (k + 1) y0 y1 y2 y3 y4 y5 y6 y7 y8 y9))
  | 0 => ⟨fun _ _ _ _ _ _ _ _ _ _ r h => by simp [impl_Url_text.j0] at h, fun _ _ _ _ _ _ _ _ _ _ r h => by simp [impl_Url_text.j1] at h⟩
  | k + 1 => by
    obtain ⟨ih0, ih1⟩ := impl_Url_text.mono_l k; refine ⟨?_, ?_⟩
    · intro y0 y1 y2 y3 y4 y5 y6 y7 y8 y9
      unfold impl_Url_text.j0; repeat' first | (with_reducible exact ih0 _ _ _ _ _ _ _ _ _ _) | (with_reducible exact ih1 _ _ _ _ _ _ _ _ _ _) | (with_reducible first | exact LeO.refl _ | exact LeO.none _ | refine LeO.ite ?_ ?_ | refine LeO.bind ?_ (fun _ => ?_)) | exact ih0 _ _ _ _ _ _ _ _ _ _ | exact ih1 _ _ _ _ _ _ _ _ _ _ | exact LeO.none _ | refine LeO.ite ?_ ?_ | refine LeO.bind ?_ (fun _ => ?_)
    · intro y0 y1 y2 y3 y4 y5 y6 y7 y8 y9
      unfold impl_Url_text.j1; repeat' first | (with_reducible exact ih0 _ _ _ _ _ _ _ _ _ _) | (with_reducible exact ih1 _ _ _ _ _ _ _ _ _ _) | (with_reducible first | exact LeO.refl _ | exact LeO.none _ | refine LeO.ite ?_ ?_ | refine LeO.bind ?_ (fun _ => ?_)) | exact ih0 _ _ _ _ _ _ _ _ _ _ | exact ih1 _ _ _ _ _ _ _ _ _ _ | exact LeO.none _ | refine LeO.ite ?_ ?_ | refine LeO.bind ?_ (fun _ => ?_)
theorem impl_Url_text.mono : ∀ a0 a1 a2 a3 a4 a5 a6 a7 a8 k, LeO (impl_Url_text.f k a0 a1 a2 a3 a4 a5 a6 a7 a8) (impl_Url_text.f (k + 1) a0 a1 a2 a3 a4 a5 a6 a7 a8) := by
  intro a0 a1 a2 a3 a4 a5 a6 a7 a8 k; obtain ⟨ih0, ih1⟩ := impl_Url_text.mono_l k; unfold impl_Url_text.f; repeat' first | (with_reducible exact ih0 _ _ _ _ _ _ _ _ _ _) | (with_reducible exact ih1 _ _ _ _ _ _ _ _ _ _) | (with_reducible first | exact LeO.refl _ | exact LeO.none _ | refine LeO.ite ?_ ?_ | refine LeO.bind ?_ (fun _ => ?_)) | exact ih0 _ _ _ _ _ _ _ _ _ _ | exact ih1 _ _ _ _ _ _ _ _ _ _ | exact LeO.none _ | refine LeO.ite ?_ ?_ | refine LeO.bind ?_ (fun _ => ?_)
set_option maxHeartbeats 8000000 in
set_option maxRecDepth 100000 in
theorem impl_Url_text.calls (k : Nat) (a0_0 : ByteArray) (a0_1 : ByteArray) (a0_2 : ByteArray) (a0_3 : Int) (a0_4 : ByteArray) (a0_5 : ByteArray) (a0_6 : ByteArray) (a0_7 : Bool) (a0_8 : Bool) (r : ByteArray) (w : World) (hM : Amb w) (h : impl_Url_text.f k a0_0 a0_1 a0_2 a0_3 a0_4 a0_5 a0_6 a0_7 a0_8 = some r) :
    Calls Tryz.prog 65 #[.agg #[.string a0_0, .string a0_1, .string a0_2, .int .i64 a0_3, .string a0_4, .string a0_5, .string a0_6, .bool a0_7, .bool a0_8]] w fun e w' => e = .returned (.string r) ∧ Below w.heap.size w w' := by
 have hu32 := Tryz.underlying32; have HB := Aside0.mk (Below.refl w.heap.size w); have HM := Aside0.mk hM; clear hM; have H : ((impl_Url_web.f a0_0 a0_1 a0_2 a0_3 a0_4 a0_5 a0_6 a0_7 a0_8).bind fun t194 => (if t194 = true then (if a0_0.size + 3 ≤ 9223372036854775807 then (if a0_1.toList = ([] : List UInt8) then (impl_Url_text.j0 k (a0_0 ++ (⟨#[58, 47, 47]⟩ : ByteArray)) a0_0 a0_1 a0_2 a0_3 a0_4 a0_5 a0_6 a0_7 a0_8) else (if a0_1.size + 1 ≤ 9223372036854775807 then (if (a0_0 ++ (⟨#[58, 47, 47]⟩ : ByteArray)).size + (a0_1 ++ (⟨#[64]⟩ : ByteArray)).size ≤ 9223372036854775807 then (impl_Url_text.j0 k ((a0_0 ++ (⟨#[58, 47, 47]⟩ : ByteArray)) ++ (a0_1 ++ (⟨#[64]⟩ : ByteArray))) a0_0 a0_1 a0_2 a0_3 a0_4 a0_5 a0_6 a0_7 a0_8) else (none)) else (none))) else (none)) else (if a0_0.size + 1 ≤ 9223372036854775807 then (if (a0_0 ++ (⟨#[58]⟩ : ByteArray)).size + a0_4.size ≤ 9223372036854775807 then (some ((a0_0 ++ (⟨#[58]⟩ : ByteArray)) ++ a0_4)) else (none)) else (none)))) = some r := h; clear h; obtain ⟨t194, A2, H⟩ := bindE_ H; by_cases c3 : t194 = true
 ·
  subst c3; replace H := ifT_ H; by_cases c4 : a0_0.size + 3 ≤ 9223372036854775807
  ·
   rw [if_pos c4] at H; have c4b0 := eq_true c4; have c4b1 : decide (a0_0.size + 3 ≤ 9223372036854775807) = true := decide_eq_true c4; try have c4b2 : (9223372036854775807 < a0_0.size + 3) = False := eq_false (Nat.not_lt.2 c4)
   have HC5 := Aside0.mk H; clear H; go_enter Tryz.func65, Tryz.ntmps65; go_upto_if 18 with (first | ((with_reducible refine gate_dst (N := 1) rfl ?_); refine box_event ?hg (N := 1) ?hd (cs := #[.string a0_0, .string a0_1, .string a0_2, .int .i64 a0_3, .string a0_4, .string a0_5, .string a0_6, .bool a0_7, .bool a0_8]) (t := 32) ?hr ?_; (case hd => rfl); (case hg => rfl); (case hr => first | (go_simp; done) | (go_simp; rfl)); intro gb193 hg w6 hbox hb; have n0_ := belB_ hb; have n1_ := Aside0.mk (hbox); have n2_ := geE_ (w := w) hg; have n3_ := geE_ (w := w) hg; clear HB; have HB := n0_; have BK193 := n1_; have GW193 := n2_; have GE193 := n3_; clear n0_ n1_ n2_ n3_; clear hb hbox hg; obtain ⟨u7_0, u7_1, u7_2, u7_3, u7_4, u7_5, u7_6, u7_7, u7_8, v7_0, v7_1, v7_2, v7_3, v7_4, v7_5, v7_6, v7_7, v7_8⟩ := cz9_ BK193) | ((with_reducible refine gate_callee (f := 59) rfl ?_); refine cU_ (some 5) Tryz.func59 #[.agg #[.string a0_0, .string a0_1, .string a0_2, .int .i64 a0_3, .string a0_4, .string a0_5, .string a0_6, .bool a0_7, .bool a0_8]] ?_; (with_reducible refine (impl_Url_web.calls a0_0 a0_1 a0_2 a0_3 a0_4 a0_5 a0_6 a0_7 a0_8 true _ A2.out).mono ?_); rintro e w8 ⟨rfl, hb⟩; refine ⟨_, rfl, ?_⟩; replace BK193 := blkK_ BK193 hb; replace HB := belB_ hb; (try clear hb); obtain ⟨u9_0, u9_1, u9_2, u9_3, u9_4, u9_5, u9_6, u9_7, u9_8, v9_0, v9_1, v9_2, v9_3, v9_4, v9_5, v9_6, v9_7, v9_8⟩ := cz9_ BK193))
   (try simp only [Act.put, List.setIfInBounds_toArray, List.set_cons_zero, List.set_cons_succ]); go_cut [3] (fun v3 wc => ∃ (kq : Nat) (x3_4 : ByteArray), v3 = .string x3_4 ∧ Aside0 (impl_Url_text.j0 kq x3_4 a0_0 a0_1 a0_2 a0_3 a0_4 a0_5 a0_6 a0_7 a0_8 = some r) ∧ Aside0 (kq ≤ k) ∧ Aside0 (wc.heap[gb193]? = some (.cells #[.string a0_0, .string a0_1, .string a0_2, .int .i64 a0_3, .string a0_4, .string a0_5, .string a0_6, .bool a0_7, .bool a0_8] 32 (0, 0))) ∧ Aside0 (Below w.heap.size w wc))
   case first =>
    have H := HC5.out; clear HC5; by_cases c10 : a0_1.toList = ([] : List UInt8)
    ·
     rw [if_pos c10] at H; have c10b0 : (a0_1.toList == ([] : List UInt8)) = true := beq_iff_eq.mpr c10; have c10b1 : (a0_1.toList != ([] : List UInt8)) = false := bne_eq_false_iff_eq.mpr c10; (try (have c10b2 : a0_1.toList.isEmpty = true := by simpa using c10)); clear c10; (first | rw [c10b0] | rw [c10b2] | (simp only [i64_w, i32_w]; rw [c10b0]) | skip); have H' := Aside0.mk H; clear H; go_wp2; go_meet
     case rel => exact ⟨_, (a0_0 ++ (⟨#[58, 47, 47]⟩ : ByteArray)), eqE_, H', ⟨leE_⟩, ⟨blkE_⟩, ⟨belE_⟩⟩
    ·
     rw [if_neg c10] at H; have c10b0 : (a0_1.toList == ([] : List UInt8)) = false := beq_eq_false_iff_ne.mpr c10; have c10b1 : (a0_1.toList != ([] : List UInt8)) = true := bne_iff_ne.mpr c10; (try (have c10b2 : a0_1.toList.isEmpty = false := by simpa using c10)); (first | rw [c10b0] | rw [c10b2] | (simp only [i64_w, i32_w]; rw [c10b0]) | skip); by_cases c11 : a0_1.size + 1 ≤ 9223372036854775807
     ·
      rw [if_pos c11] at H; have c11b0 := eq_true c11; have c11b1 : decide (a0_1.size + 1 ≤ 9223372036854775807) = true := decide_eq_true c11; try have c11b2 : (9223372036854775807 < a0_1.size + 1) = False := eq_false (Nat.not_lt.2 c11)
      by_cases c12 : (a0_0 ++ (⟨#[58, 47, 47]⟩ : ByteArray)).size + (a0_1 ++ (⟨#[64]⟩ : ByteArray)).size ≤ 9223372036854775807
      ·
       rw [if_pos c12] at H; have c12b0 := eq_true c12; have c12b1 : decide ((a0_0 ++ (⟨#[58, 47, 47]⟩ : ByteArray)).size + (a0_1 ++ (⟨#[64]⟩ : ByteArray)).size ≤ 9223372036854775807) = true := decide_eq_true c12; try have c12b2 : (9223372036854775807 < (a0_0 ++ (⟨#[58, 47, 47]⟩ : ByteArray)).size + (a0_1 ++ (⟨#[64]⟩ : ByteArray)).size) = False := eq_false (Nat.not_lt.2 c12)
       have H' := Aside0.mk H; clear H; obtain ⟨u13_0, u13_1, u13_2, u13_3, u13_4, u13_5, u13_6, u13_7, u13_8, v13_0, v13_1, v13_2, v13_3, v13_4, v13_5, v13_6, v13_7, v13_8⟩ := cz9_ BK193; go_wp2; go_meet
       case rel => exact ⟨_, ((a0_0 ++ (⟨#[58, 47, 47]⟩ : ByteArray)) ++ (a0_1 ++ (⟨#[64]⟩ : ByteArray))), eqE_, H', ⟨leE_⟩, ⟨blkE_⟩, ⟨belE_⟩⟩
      · rw [if_neg c12] at H; exact absurd H (by simp)
     · rw [if_neg c11] at H; exact absurd H (by simp)
   case rest =>
    clear HC5; try clear c3
    try clear c4
    try clear c4b0
    try clear c4b1
    try clear c4b2
    try clear u7_0 u7_1 u7_2 u7_3 u7_4 u7_5 u7_6 u7_7 u7_8
    try clear u9_0 u9_1 u9_2 u9_3 u9_4 u9_5 u9_6 u9_7 u9_8
    try clear v7_0 v7_1 v7_2 v7_3 v7_4 v7_5 v7_6 v7_7 v7_8
    try clear v9_0 v9_1 v9_2 v9_3 v9_4 v9_5 v9_6 v9_7 v9_8
    obtain ⟨kq, x3_4, rfl, HA, HJ4, BK193, HB⟩ := hcut; cases kq with
    | zero => exact absurd HA.out (by simp [impl_Url_text.j0])
    | succ kj4 =>
     have H := HA.out; clear HA; simp only [impl_Url_text.j0] at H; by_cases c14 : x3_4.size + a0_2.size ≤ 9223372036854775807
     ·
      rw [if_pos c14] at H; have c14b0 := eq_true c14; have c14b1 : decide (x3_4.size + a0_2.size ≤ 9223372036854775807) = true := decide_eq_true c14; try have c14b2 : (9223372036854775807 < x3_4.size + a0_2.size) = False := eq_false (Nat.not_lt.2 c14)
      have HC15 := Aside0.mk H; clear H; obtain ⟨u16_0, u16_1, u16_2, u16_3, u16_4, u16_5, u16_6, u16_7, u16_8, v16_0, v16_1, v16_2, v16_3, v16_4, v16_5, v16_6, v16_7, v16_8⟩ := cz9_ BK193; go_upto_if 30 with (fail)
      go_cut [3] (fun v3 wc => ∃ (kq : Nat) (x3_14 : ByteArray), v3 = .string x3_14 ∧ Aside0 (impl_Url_text.j1 kq x3_14 a0_0 a0_1 a0_2 a0_3 a0_4 a0_5 a0_6 a0_7 a0_8 = some r) ∧ Aside0 (kq ≤ kj4) ∧ Aside0 (wc.heap[gb193]? = some (.cells #[.string a0_0, .string a0_1, .string a0_2, .int .i64 a0_3, .string a0_4, .string a0_5, .string a0_6, .bool a0_7, .bool a0_8] 32 (0, 0))) ∧ Aside0 (Below w.heap.size w wc))
      case first =>
       have H := HC15.out; clear HC15; by_cases c17 : a0_3 = 0
       ·
        rw [if_pos c17] at H; have c17b0 : (a0_3 == 0) = true := beq_iff_eq.mpr c17; have c17b1 : (a0_3 != 0) = false := bne_eq_false_iff_eq.mpr c17; clear c17; (first | rw [c17b0] | (simp only [i64_w, i32_w]; rw [c17b0]) | skip); have H' := Aside0.mk H; clear H; go_wp2; go_meet
        case rel => exact ⟨_, (x3_4 ++ a0_2), eqE_, H', ⟨by have := HJ4.out; first | omega | exact Nat.le_refl _⟩, ⟨blkE_⟩, ⟨belE_⟩⟩
       ·
        rw [if_neg c17] at H; have c17b0 : (a0_3 == 0) = false := beq_eq_false_iff_ne.mpr c17; have c17b1 : (a0_3 != 0) = true := bne_iff_ne.mpr c17; (first | rw [c17b0] | (simp only [i64_w, i32_w]; rw [c17b0]) | skip); obtain ⟨t195, A18, H⟩ := bindE_ H; by_cases c19 : 1 + t195.size ≤ 9223372036854775807
        ·
         rw [if_pos c19] at H; have c19b0 := eq_true c19; have c19b1 : decide (1 + t195.size ≤ 9223372036854775807) = true := decide_eq_true c19; try have c19b2 : (9223372036854775807 < 1 + t195.size) = False := eq_false (Nat.not_lt.2 c19)
         by_cases c20 : (x3_4 ++ a0_2).size + ((⟨#[58]⟩ : ByteArray) ++ t195).size ≤ 9223372036854775807
         ·
          rw [if_pos c20] at H; have c20b0 := eq_true c20; have c20b1 : decide ((x3_4 ++ a0_2).size + ((⟨#[58]⟩ : ByteArray) ++ t195).size ≤ 9223372036854775807) = true := decide_eq_true c20; try have c20b2 : (9223372036854775807 < (x3_4 ++ a0_2).size + ((⟨#[58]⟩ : ByteArray) ++ t195).size) = False := eq_false (Nat.not_lt.2 c20)
          have H' := Aside0.mk H; clear H; obtain ⟨u21_0, u21_1, u21_2, u21_3, u21_4, u21_5, u21_6, u21_7, u21_8, v21_0, v21_1, v21_2, v21_3, v21_4, v21_5, v21_6, v21_7, v21_8⟩ := cz9_ BK193; go_wp2_with (first | ((with_reducible refine gate_callee (f := 115) rfl ?_); refine cU_ (some 34) Tryz.func115 #[.int .i64 a0_3] ?_; (with_reducible refine (impl_decimal.calls a0_3 t195 _ ?side1 A18.out).mono ?_); (case side1 => exact Amb.on HM.out belE_); rintro e w22 ⟨rfl, hb⟩; refine ⟨_, rfl, ?_⟩; replace BK193 := blkK_ BK193 hb; replace HB := belB_ hb; (try clear hb))); go_meet
          case rel => exact ⟨_, ((x3_4 ++ a0_2) ++ ((⟨#[58]⟩ : ByteArray) ++ t195)), eqE_, H', ⟨by have := HJ4.out; first | omega | exact Nat.le_refl _⟩, ⟨blkE_⟩, ⟨belE_⟩⟩
         · rw [if_neg c20] at H; exact absurd H (by simp)
        · rw [if_neg c19] at H; exact absurd H (by simp)
      case rest =>
       clear HC15; try clear c3
       try clear c4
       try clear c4b0
       try clear c4b1
       try clear c4b2
       try clear c14
       try clear c14b0
       try clear c14b1
       try clear c14b2
       try clear u16_0 u16_1 u16_2 u16_3 u16_4 u16_5 u16_6 u16_7 u16_8
       try clear u7_0 u7_1 u7_2 u7_3 u7_4 u7_5 u7_6 u7_7 u7_8
       try clear u9_0 u9_1 u9_2 u9_3 u9_4 u9_5 u9_6 u9_7 u9_8
       try clear v16_0 v16_1 v16_2 v16_3 v16_4 v16_5 v16_6 v16_7 v16_8
       try clear v7_0 v7_1 v7_2 v7_3 v7_4 v7_5 v7_6 v7_7 v7_8
       try clear v9_0 v9_1 v9_2 v9_3 v9_4 v9_5 v9_6 v9_7 v9_8
       obtain ⟨kq, x3_14, rfl, HA, HJ14, BK193, HB⟩ := hcut; cases kq with
       | zero => exact absurd HA.out (by simp [impl_Url_text.j1])
       | succ kj14 =>
        have H := HA.out; clear HA; simp only [impl_Url_text.j1] at H; by_cases c23 : x3_14.size + a0_4.size ≤ 9223372036854775807
        ·
         rw [if_pos c23] at H; have c23b0 := eq_true c23; have c23b1 : decide (x3_14.size + a0_4.size ≤ 9223372036854775807) = true := decide_eq_true c23; try have c23b2 : (9223372036854775807 < x3_14.size + a0_4.size) = False := eq_false (Nat.not_lt.2 c23)
         by_cases c24 : a0_7 = true
         ·
          subst c24; replace H := ifT_ H; by_cases c25 : 1 + a0_5.size ≤ 9223372036854775807
          ·
           rw [if_pos c25] at H; have c25b0 := eq_true c25; have c25b1 : decide (1 + a0_5.size ≤ 9223372036854775807) = true := decide_eq_true c25; try have c25b2 : (9223372036854775807 < 1 + a0_5.size) = False := eq_false (Nat.not_lt.2 c25)
           by_cases c26 : (x3_14 ++ a0_4).size + ((⟨#[63]⟩ : ByteArray) ++ a0_5).size ≤ 9223372036854775807
           ·
            rw [if_pos c26] at H; have c26b0 := eq_true c26; have c26b1 : decide ((x3_14 ++ a0_4).size + ((⟨#[63]⟩ : ByteArray) ++ a0_5).size ≤ 9223372036854775807) = true := decide_eq_true c26; try have c26b2 : (9223372036854775807 < (x3_14 ++ a0_4).size + ((⟨#[63]⟩ : ByteArray) ++ a0_5).size) = False := eq_false (Nat.not_lt.2 c26)
            by_cases c27 : a0_8 = true
            ·
             subst c27; replace H := ifT_ H; by_cases c28 : 1 + a0_6.size ≤ 9223372036854775807
             ·
              rw [if_pos c28] at H; have c28b0 := eq_true c28; have c28b1 : decide (1 + a0_6.size ≤ 9223372036854775807) = true := decide_eq_true c28; try have c28b2 : (9223372036854775807 < 1 + a0_6.size) = False := eq_false (Nat.not_lt.2 c28)
              by_cases c29 : ((x3_14 ++ a0_4) ++ ((⟨#[63]⟩ : ByteArray) ++ a0_5)).size + ((⟨#[35]⟩ : ByteArray) ++ a0_6).size ≤ 9223372036854775807
              ·
               rw [if_pos c29] at H; have c29b0 := eq_true c29; have c29b1 : decide (((x3_14 ++ a0_4) ++ ((⟨#[63]⟩ : ByteArray) ++ a0_5)).size + ((⟨#[35]⟩ : ByteArray) ++ a0_6).size ≤ 9223372036854775807) = true := decide_eq_true c29; try have c29b2 : (9223372036854775807 < ((x3_14 ++ a0_4) ++ ((⟨#[63]⟩ : ByteArray) ++ a0_5)).size + ((⟨#[35]⟩ : ByteArray) ++ a0_6).size) = False := eq_false (Nat.not_lt.2 c29)
               obtain rfl := Option.some.inj H; obtain ⟨u30_0, u30_1, u30_2, u30_3, u30_4, u30_5, u30_6, u30_7, u30_8, v30_0, v30_1, v30_2, v30_3, v30_4, v30_5, v30_6, v30_7, v30_8⟩ := cz9_ BK193; go_wp2; go_ret; exact ⟨retE_, belE_⟩
              · rw [if_neg c29] at H; exact absurd H (by simp)
             · rw [if_neg c28] at H; exact absurd H (by simp)
            · replace c27 := Bool.eq_false_iff.mpr c27; subst c27; replace H := ifF_ H; obtain rfl := Option.some.inj H; obtain ⟨u31_0, u31_1, u31_2, u31_3, u31_4, u31_5, u31_6, u31_7, u31_8, v31_0, v31_1, v31_2, v31_3, v31_4, v31_5, v31_6, v31_7, v31_8⟩ := cz9_ BK193; go_wp2; go_ret; exact ⟨retE_, belE_⟩
           · rw [if_neg c26] at H; exact absurd H (by simp)
          · rw [if_neg c25] at H; exact absurd H (by simp)
         ·
          replace c24 := Bool.eq_false_iff.mpr c24; subst c24; replace H := ifF_ H; by_cases c32 : a0_8 = true
          ·
           subst c32; replace H := ifT_ H; by_cases c33 : 1 + a0_6.size ≤ 9223372036854775807
           ·
            rw [if_pos c33] at H; have c33b0 := eq_true c33; have c33b1 : decide (1 + a0_6.size ≤ 9223372036854775807) = true := decide_eq_true c33; try have c33b2 : (9223372036854775807 < 1 + a0_6.size) = False := eq_false (Nat.not_lt.2 c33)
            by_cases c34 : (x3_14 ++ a0_4).size + ((⟨#[35]⟩ : ByteArray) ++ a0_6).size ≤ 9223372036854775807
            ·
             rw [if_pos c34] at H; have c34b0 := eq_true c34; have c34b1 : decide ((x3_14 ++ a0_4).size + ((⟨#[35]⟩ : ByteArray) ++ a0_6).size ≤ 9223372036854775807) = true := decide_eq_true c34; try have c34b2 : (9223372036854775807 < (x3_14 ++ a0_4).size + ((⟨#[35]⟩ : ByteArray) ++ a0_6).size) = False := eq_false (Nat.not_lt.2 c34)
             obtain rfl := Option.some.inj H; obtain ⟨u35_0, u35_1, u35_2, u35_3, u35_4, u35_5, u35_6, u35_7, u35_8, v35_0, v35_1, v35_2, v35_3, v35_4, v35_5, v35_6, v35_7, v35_8⟩ := cz9_ BK193; go_wp2; go_ret; exact ⟨retE_, belE_⟩
            · rw [if_neg c34] at H; exact absurd H (by simp)
           · rw [if_neg c33] at H; exact absurd H (by simp)
          · replace c32 := Bool.eq_false_iff.mpr c32; subst c32; replace H := ifF_ H; obtain rfl := Option.some.inj H; obtain ⟨u36_0, u36_1, u36_2, u36_3, u36_4, u36_5, u36_6, u36_7, u36_8, v36_0, v36_1, v36_2, v36_3, v36_4, v36_5, v36_6, v36_7, v36_8⟩ := cz9_ BK193; go_wp2; go_ret; exact ⟨retE_, belE_⟩
        · rw [if_neg c23] at H; exact absurd H (by simp)
     · rw [if_neg c14] at H; exact absurd H (by simp)
  · rw [if_neg c4] at H; exact absurd H (by simp)
 ·
  replace c3 := Bool.eq_false_iff.mpr c3; subst c3; replace H := ifF_ H; by_cases c37 : a0_0.size + 1 ≤ 9223372036854775807
  ·
   rw [if_pos c37] at H; have c37b0 := eq_true c37; have c37b1 : decide (a0_0.size + 1 ≤ 9223372036854775807) = true := decide_eq_true c37; try have c37b2 : (9223372036854775807 < a0_0.size + 1) = False := eq_false (Nat.not_lt.2 c37)
   by_cases c38 : (a0_0 ++ (⟨#[58]⟩ : ByteArray)).size + a0_4.size ≤ 9223372036854775807
   ·
    rw [if_pos c38] at H; have c38b0 := eq_true c38; have c38b1 : decide ((a0_0 ++ (⟨#[58]⟩ : ByteArray)).size + a0_4.size ≤ 9223372036854775807) = true := decide_eq_true c38; try have c38b2 : (9223372036854775807 < (a0_0 ++ (⟨#[58]⟩ : ByteArray)).size + a0_4.size) = False := eq_false (Nat.not_lt.2 c38)
    obtain rfl := Option.some.inj H; go_enter Tryz.func65, Tryz.ntmps65; go_wp2_with (first | ((with_reducible refine gate_dst (N := 1) rfl ?_); refine box_event ?hg (N := 1) ?hd (cs := #[.string a0_0, .string a0_1, .string a0_2, .int .i64 a0_3, .string a0_4, .string a0_5, .string a0_6, .bool a0_7, .bool a0_8]) (t := 32) ?hr ?_; (case hd => rfl); (case hg => rfl); (case hr => first | (go_simp; done) | (go_simp; rfl)); intro gb193 hg w39 hbox hb; have n0_ := belB_ hb; have n1_ := Aside0.mk (hbox); have n2_ := geE_ (w := w) hg; have n3_ := geE_ (w := w) hg; clear HB; have HB := n0_; have BK193 := n1_; have GW193 := n2_; have GE193 := n3_; clear n0_ n1_ n2_ n3_; clear hb hbox hg; obtain ⟨u40_0, u40_1, u40_2, u40_3, u40_4, u40_5, u40_6, u40_7, u40_8, v40_0, v40_1, v40_2, v40_3, v40_4, v40_5, v40_6, v40_7, v40_8⟩ := cz9_ BK193) | ((with_reducible refine gate_callee (f := 59) rfl ?_); refine cU_ (some 5) Tryz.func59 #[.agg #[.string a0_0, .string a0_1, .string a0_2, .int .i64 a0_3, .string a0_4, .string a0_5, .string a0_6, .bool a0_7, .bool a0_8]] ?_; (with_reducible refine (impl_Url_web.calls a0_0 a0_1 a0_2 a0_3 a0_4 a0_5 a0_6 a0_7 a0_8 false _ A2.out).mono ?_); rintro e w41 ⟨rfl, hb⟩; refine ⟨_, rfl, ?_⟩; replace BK193 := blkK_ BK193 hb; replace HB := belB_ hb; (try clear hb); obtain ⟨u42_0, u42_1, u42_2, u42_3, u42_4, u42_5, u42_6, u42_7, u42_8, v42_0, v42_1, v42_2, v42_3, v42_4, v42_5, v42_6, v42_7, v42_8⟩ := cz9_ BK193)); go_ret; exact ⟨retE_, belE_⟩
   · rw [if_neg c38] at H; exact absurd H (by simp)
  · rw [if_neg c37] at H; exact absurd H (by simp)

/-! ### impl_within: function 71 -/
def impl_within.f (a0 : Int) (a1 : Int) (a2 : Int) : Option (Bool) := if a1 ≤ a0 then (some (decide (a0 ≤ a2))) else (some false)
set_option maxHeartbeats 8000000 in
set_option maxRecDepth 100000 in
theorem impl_within.calls (a0 : Int) (a1 : Int) (a2 : Int) (r : Bool) (w : World) (h : impl_within.f a0 a1 a2 = some r) :
    Calls Tryz.prog 71 #[.int .i64 a0, .int .i64 a1, .int .i64 a2] w fun e w' => e = .returned (.bool r) ∧ Drawn0 w w' := by
 have H : (if a1 ≤ a0 then (some (decide (a0 ≤ a2))) else (some false)) = some r := h; clear h; by_cases c4 : a1 ≤ a0
 · rw [if_pos c4] at H; have c4b0 : decide (a1 ≤ a0) = true := decide_eq_true c4; clear c4; obtain rfl := Option.some.inj H; go_enter Tryz.func71, Tryz.ntmps71; go_wp2; go_ret; exact ⟨eqE_, drE_⟩
 · rw [if_neg c4] at H; have c4b0 : decide (a1 ≤ a0) = false := decide_eq_false c4; clear c4; obtain rfl := Option.some.inj H; go_enter Tryz.func71, Tryz.ntmps71; go_wp2; go_ret; exact ⟨eqE_, drE_⟩

/-! ### impl_isLower: function 116 -/
def impl_isLower.f (a0 : Int) : Option (Bool) := if 97 ≤ a0 then (some (decide (a0 ≤ 122))) else (some false)
set_option maxHeartbeats 8000000 in
set_option maxRecDepth 100000 in
theorem impl_isLower.calls (a0 : Int) (r : Bool) (w : World) (h : impl_isLower.f a0 = some r) :
    Calls Tryz.prog 116 #[.int .u8 a0] w fun e w' => e = .returned (.bool r) ∧ Drawn0 w w' := by
 have H : (if 97 ≤ a0 then (some (decide (a0 ≤ 122))) else (some false)) = some r := h; clear h; by_cases c2 : 97 ≤ a0
 · rw [if_pos c2] at H; have c2b0 : decide (97 ≤ a0) = true := decide_eq_true c2; clear c2; obtain rfl := Option.some.inj H; go_enter Tryz.func116, Tryz.ntmps116; go_wp2; go_ret; exact ⟨eqE_, drE_⟩
 · rw [if_neg c2] at H; have c2b0 : decide (97 ≤ a0) = false := decide_eq_false c2; clear c2; obtain rfl := Option.some.inj H; go_enter Tryz.func116, Tryz.ntmps116; go_wp2; go_ret; exact ⟨eqE_, drE_⟩

/-! ### impl_isDigit: function 117 -/
def impl_isDigit.f (a0 : Int) : Option (Bool) := if 48 ≤ a0 then (some (decide (a0 ≤ 57))) else (some false)
set_option maxHeartbeats 8000000 in
set_option maxRecDepth 100000 in
theorem impl_isDigit.calls (a0 : Int) (r : Bool) (w : World) (h : impl_isDigit.f a0 = some r) :
    Calls Tryz.prog 117 #[.int .u8 a0] w fun e w' => e = .returned (.bool r) ∧ Drawn0 w w' := by
 have H : (if 48 ≤ a0 then (some (decide (a0 ≤ 57))) else (some false)) = some r := h; clear h; by_cases c2 : 48 ≤ a0
 · rw [if_pos c2] at H; have c2b0 : decide (48 ≤ a0) = true := decide_eq_true c2; clear c2; obtain rfl := Option.some.inj H; go_enter Tryz.func117, Tryz.ntmps117; go_wp2; go_ret; exact ⟨eqE_, drE_⟩
 · rw [if_neg c2] at H; have c2b0 : decide (48 ≤ a0) = false := decide_eq_false c2; clear c2; obtain rfl := Option.some.inj H; go_enter Tryz.func117, Tryz.ntmps117; go_wp2; go_ret; exact ⟨eqE_, drE_⟩

/-! ### impl_isScheme: function 67 -/
def impl_isScheme.l0 : Nat → ByteArray → Int → Int → Option (Bool)
  | 0, _, _, _ => none
  | k + 1, x0, x7, x8 => if x8 < x7 then (if 0 ≤ x8 then (if x8 < (x0.size : Int) then ((impl_isLower.f (bt x0 x8)).bind fun t197 => (if t197 = true then (impl_isScheme.l0 k x0 x7 (wrap64 (x8 + 1))) else (if x8 = 0 then (some false) else ((impl_isDigit.f (bt x0 x8)).bind fun t198 => (if t198 = true then (impl_isScheme.l0 k x0 x7 (wrap64 (x8 + 1))) else (if (bt x0 x8) = 45 then (impl_isScheme.l0 k x0 x7 (wrap64 (x8 + 1))) else (if (bt x0 x8) = 43 then (impl_isScheme.l0 k x0 x7 (wrap64 (x8 + 1))) else (if (bt x0 x8) = 46 then (impl_isScheme.l0 k x0 x7 (wrap64 (x8 + 1))) else (some false))))))))) else (none)) else (none)) else ((impl_within.f (x0.size : Int) 1 12).bind fun t196 => (some t196))
def impl_isScheme.f (k : Nat) (a0 : ByteArray) : Option (Bool) := impl_isScheme.l0 k a0 (mn (a0.size : Int) 13) 0
theorem impl_isScheme.mono_l : ∀ k, (∀ y0 y1 y2, LeO (impl_isScheme.l0 k y0 y1 y2) (impl_isScheme.l0 (k + 1) y0 y1 y2))
  | 0 => fun _ _ _ r h => by simp [impl_isScheme.l0] at h
  | k + 1 => by
    have ih0 := impl_isScheme.mono_l k
    · intro y0 y1 y2
      unfold impl_isScheme.l0; repeat' first | (with_reducible exact ih0 _ _ _) | (with_reducible first | exact LeO.refl _ | exact LeO.none _ | refine LeO.ite ?_ ?_ | refine LeO.bind ?_ (fun _ => ?_)) | exact ih0 _ _ _ | exact LeO.none _ | refine LeO.ite ?_ ?_ | refine LeO.bind ?_ (fun _ => ?_)
theorem impl_isScheme.mono : ∀ a0 k, LeO (impl_isScheme.f k a0) (impl_isScheme.f (k + 1) a0) := by
  intro a0 k; have ih0 := impl_isScheme.mono_l k; unfold impl_isScheme.f; repeat' first | (with_reducible exact ih0 _ _ _) | (with_reducible first | exact LeO.refl _ | exact LeO.none _ | refine LeO.ite ?_ ?_ | refine LeO.bind ?_ (fun _ => ?_)) | exact ih0 _ _ _ | exact LeO.none _ | refine LeO.ite ?_ ?_ | refine LeO.bind ?_ (fun _ => ?_)
set_option maxHeartbeats 8000000 in
set_option maxRecDepth 100000 in
theorem impl_isScheme.calls (k : Nat) (a0 : ByteArray) (r : Bool) (w : World) (h : impl_isScheme.f k a0 = some r) :
    Calls Tryz.prog 67 #[.string a0] w fun e w' => e = .returned (.bool r) ∧ Below w.heap.size w w' := by
 have HB := Aside0.mk (Below.refl w.heap.size w); have H : (impl_isScheme.l0 k a0 (mn (a0.size : Int) 13) 0) = some r := h; clear h; obtain ⟨ji2, hji2⟩ : ∃ j_ : Int, (mn (a0.size : Int) 13) = j_ := ⟨_, rfl⟩
 replace H : (impl_isScheme.l0 k a0 ji2 0) = some r := by first | (rw [hji2] at H; exact H) | (simp only [hji2] at H ⊢; exact H)
 (try (have hji2h : ji2 ≤ 13 := by (rw [← hji2]; unfold mn; (repeat' split) <;> omega))); (try (have hji2g : ji2 ≤ 64 := by omega)); (try (have hji2l : 0 ≤ ji2 := by (rw [← hji2]; unfold mn; (repeat' split) <;> omega))); (try (have hji2m : 0 ≤ ji2 := by omega)); have hji2_ : (if 13 < (a0.size : Int) then 13 else (a0.size : Int)) = ji2 := hji2; (try (have hji2n_ := hji2_; simp only [Int.ofNat_lt] at hji2n_)); have H' := Aside0.mk H; clear H; go_enter Tryz.func67, Tryz.ntmps67; go_wp2; go_loopg [8] k (fun kq v8 w' => ∃ (x8_1 : Int), v8 = .int .i64 x8_1 ∧ Aside0 (impl_isScheme.l0 kq a0 ji2 x8_1 = some r) ∧ Aside0 (kq ≤ k) ∧ Aside0 (Below w.heap.size w w'))
 case atStart => exact ⟨(0), eqE_, H', ⟨Nat.le_refl _⟩, ⟨belE_⟩⟩
 case round =>
  clear H'; obtain ⟨x8_1, rfl, HA, HK1, HB⟩ := hrel; cases gk with
  | zero => exact absurd HA.out (by simp [impl_isScheme.l0])
  | succ k1 =>
   have H := HA.out; clear HA; simp only [impl_isScheme.l0] at H; by_cases c3 : x8_1 < ji2
   ·
    rw [if_pos c3] at H; have c3b0 : decide (x8_1 < ji2) = true := decide_eq_true c3; clear c3; by_cases c4 : 0 ≤ x8_1
    ·
     rw [if_pos c4] at H; have c4b0 : decide (0 ≤ x8_1) = true := decide_eq_true c4; clear c4; by_cases c5 : x8_1 < (a0.size : Int)
     ·
      rw [if_pos c5] at H; have c5b0 : decide (x8_1 < (a0.size : Int)) = true := decide_eq_true c5; clear c5; obtain ⟨t197, A7, H⟩ := bindE_ H; by_cases c8 : t197 = true
      ·
       subst c8; replace H := ifT_ H; have H' := Aside0.mk H; clear H; have p6 : 0 ≤ (x8_1 : Int) := ofd_; have q6 : x8_1 < (a0.size : Int) := ofd_; have hx6 := bt_at a0 x8_1; replace p6 := eq_true p6; replace q6 := eq_true q6; go_wp2_with (first | ((with_reducible refine gate_callee (f := 116) rfl ?_); refine cU_ (some 15) Tryz.func116 #[.int .u8 (bt a0 x8_1)] ?_; (with_reducible refine (impl_isLower.calls (bt a0 x8_1) true _ A7.out).mono ?_); rintro e w' ⟨rfl, ⟨nd, rfl⟩⟩; refine ⟨_, rfl, ?_⟩)); go_roundg k1
       case measure => have := HK1.out; omega
       case rel => exact ⟨(wrap64 (x8_1 + 1)), eqE_, H', ⟨by have := HK1.out; omega⟩, ⟨belE_⟩⟩
      ·
       replace c8 := Bool.eq_false_iff.mpr c8; subst c8; replace H := ifF_ H; by_cases c9 : x8_1 = 0
       · rw [if_pos c9] at H; have c9b0 : (x8_1 == 0) = true := beq_iff_eq.mpr c9; have c9b1 : (x8_1 != 0) = false := bne_eq_false_iff_eq.mpr c9; clear c9; obtain rfl := Option.some.inj H; have p6 : 0 ≤ (x8_1 : Int) := ofd_; have q6 : x8_1 < (a0.size : Int) := ofd_; have hx6 := bt_at a0 x8_1; replace p6 := eq_true p6; replace q6 := eq_true q6; go_wp2_with (first | ((with_reducible refine gate_callee (f := 116) rfl ?_); refine cU_ (some 15) Tryz.func116 #[.int .u8 (bt a0 x8_1)] ?_; (with_reducible refine (impl_isLower.calls (bt a0 x8_1) false _ A7.out).mono ?_); rintro e w' ⟨rfl, ⟨nd, rfl⟩⟩; refine ⟨_, rfl, ?_⟩)); go_ret; exact ⟨by first | rfl | (simp [errW_none, errW_some] <;> rfl) | (simp only [← hji2]; first | rfl | (simp [errW_none, errW_some] <;> rfl)) | (simp [*, errW_none, errW_some] <;> rfl), belE_⟩
       ·
        rw [if_neg c9] at H; have c9b0 : (x8_1 == 0) = false := beq_eq_false_iff_ne.mpr c9; have c9b1 : (x8_1 != 0) = true := bne_iff_ne.mpr c9; obtain ⟨t198, A10, H⟩ := bindE_ H; by_cases c11 : t198 = true
        ·
         subst c11; replace H := ifT_ H; have H' := Aside0.mk H; clear H; have p6 : 0 ≤ (x8_1 : Int) := ofd_; have q6 : x8_1 < (a0.size : Int) := ofd_; have hx6 := bt_at a0 x8_1; replace p6 := eq_true p6; replace q6 := eq_true q6; go_wp2_with (first | ((with_reducible refine gate_callee (f := 116) rfl ?_); refine cU_ (some 15) Tryz.func116 #[.int .u8 (bt a0 x8_1)] ?_; (with_reducible refine (impl_isLower.calls (bt a0 x8_1) false _ A7.out).mono ?_); rintro e w' ⟨rfl, ⟨nd, rfl⟩⟩; refine ⟨_, rfl, ?_⟩) | (go_at_call 117; (with_reducible refine (impl_isDigit.calls (bt a0 x8_1) true _ A10.out).mono ?_); rintro e w' ⟨rfl, ⟨nd, rfl⟩⟩)); go_roundg k1
         case measure => have := HK1.out; omega
         case rel => exact ⟨(wrap64 (x8_1 + 1)), eqE_, H', ⟨by have := HK1.out; omega⟩, ⟨belE_⟩⟩
        ·
         replace c11 := Bool.eq_false_iff.mpr c11; subst c11; replace H := ifF_ H; by_cases c12 : (bt a0 x8_1) = 45
         ·
          rw [if_pos c12] at H; have c12b0 : ((bt a0 x8_1) == 45) = true := beq_iff_eq.mpr c12; have c12b1 : ((bt a0 x8_1) != 45) = false := bne_eq_false_iff_eq.mpr c12; clear c12; have H' := Aside0.mk H; clear H; have p6 : 0 ≤ (x8_1 : Int) := ofd_; have q6 : x8_1 < (a0.size : Int) := ofd_; have hx6 := bt_at a0 x8_1; replace p6 := eq_true p6; replace q6 := eq_true q6; go_wp2_with (first | ((with_reducible refine gate_callee (f := 116) rfl ?_); refine cU_ (some 15) Tryz.func116 #[.int .u8 (bt a0 x8_1)] ?_; (with_reducible refine (impl_isLower.calls (bt a0 x8_1) false _ A7.out).mono ?_); rintro e w' ⟨rfl, ⟨nd, rfl⟩⟩; refine ⟨_, rfl, ?_⟩) | (go_at_call 117; (with_reducible refine (impl_isDigit.calls (bt a0 x8_1) false _ A10.out).mono ?_); rintro e w' ⟨rfl, ⟨nd, rfl⟩⟩)); go_roundg k1
          case measure => have := HK1.out; omega
          case rel => exact ⟨(wrap64 (x8_1 + 1)), eqE_, H', ⟨by have := HK1.out; omega⟩, ⟨belE_⟩⟩
         ·
          rw [if_neg c12] at H; have c12b0 : ((bt a0 x8_1) == 45) = false := beq_eq_false_iff_ne.mpr c12; have c12b1 : ((bt a0 x8_1) != 45) = true := bne_iff_ne.mpr c12; by_cases c13 : (bt a0 x8_1) = 43
          ·
           rw [if_pos c13] at H; have c13b0 : ((bt a0 x8_1) == 43) = true := beq_iff_eq.mpr c13; have c13b1 : ((bt a0 x8_1) != 43) = false := bne_eq_false_iff_eq.mpr c13; clear c13; have H' := Aside0.mk H; clear H; have p6 : 0 ≤ (x8_1 : Int) := ofd_; have q6 : x8_1 < (a0.size : Int) := ofd_; have hx6 := bt_at a0 x8_1; replace p6 := eq_true p6; replace q6 := eq_true q6; go_wp2_with (first | ((with_reducible refine gate_callee (f := 116) rfl ?_); refine cU_ (some 15) Tryz.func116 #[.int .u8 (bt a0 x8_1)] ?_; (with_reducible refine (impl_isLower.calls (bt a0 x8_1) false _ A7.out).mono ?_); rintro e w' ⟨rfl, ⟨nd, rfl⟩⟩; refine ⟨_, rfl, ?_⟩) | (go_at_call 117; (with_reducible refine (impl_isDigit.calls (bt a0 x8_1) false _ A10.out).mono ?_); rintro e w' ⟨rfl, ⟨nd, rfl⟩⟩)); go_roundg k1
           case measure => have := HK1.out; omega
           case rel => exact ⟨(wrap64 (x8_1 + 1)), eqE_, H', ⟨by have := HK1.out; omega⟩, ⟨belE_⟩⟩
          ·
           rw [if_neg c13] at H; have c13b0 : ((bt a0 x8_1) == 43) = false := beq_eq_false_iff_ne.mpr c13; have c13b1 : ((bt a0 x8_1) != 43) = true := bne_iff_ne.mpr c13; by_cases c14 : (bt a0 x8_1) = 46
           ·
            rw [if_pos c14] at H; have c14b0 : ((bt a0 x8_1) == 46) = true := beq_iff_eq.mpr c14; have c14b1 : ((bt a0 x8_1) != 46) = false := bne_eq_false_iff_eq.mpr c14; clear c14; have H' := Aside0.mk H; clear H; have p6 : 0 ≤ (x8_1 : Int) := ofd_; have q6 : x8_1 < (a0.size : Int) := ofd_; have hx6 := bt_at a0 x8_1; replace p6 := eq_true p6; replace q6 := eq_true q6; go_wp2_with (first | ((with_reducible refine gate_callee (f := 116) rfl ?_); refine cU_ (some 15) Tryz.func116 #[.int .u8 (bt a0 x8_1)] ?_; (with_reducible refine (impl_isLower.calls (bt a0 x8_1) false _ A7.out).mono ?_); rintro e w' ⟨rfl, ⟨nd, rfl⟩⟩; refine ⟨_, rfl, ?_⟩) | (go_at_call 117; (with_reducible refine (impl_isDigit.calls (bt a0 x8_1) false _ A10.out).mono ?_); rintro e w' ⟨rfl, ⟨nd, rfl⟩⟩)); go_roundg k1
            case measure => have := HK1.out; omega
            case rel => exact ⟨(wrap64 (x8_1 + 1)), eqE_, H', ⟨by have := HK1.out; omega⟩, ⟨belE_⟩⟩
           · rw [if_neg c14] at H; have c14b0 : ((bt a0 x8_1) == 46) = false := beq_eq_false_iff_ne.mpr c14; have c14b1 : ((bt a0 x8_1) != 46) = true := bne_iff_ne.mpr c14; obtain rfl := Option.some.inj H; have p6 : 0 ≤ (x8_1 : Int) := ofd_; have q6 : x8_1 < (a0.size : Int) := ofd_; have hx6 := bt_at a0 x8_1; replace p6 := eq_true p6; replace q6 := eq_true q6; go_wp2_with (first | ((with_reducible refine gate_callee (f := 116) rfl ?_); refine cU_ (some 15) Tryz.func116 #[.int .u8 (bt a0 x8_1)] ?_; (with_reducible refine (impl_isLower.calls (bt a0 x8_1) false _ A7.out).mono ?_); rintro e w' ⟨rfl, ⟨nd, rfl⟩⟩; refine ⟨_, rfl, ?_⟩) | (go_at_call 117; (with_reducible refine (impl_isDigit.calls (bt a0 x8_1) false _ A10.out).mono ?_); rintro e w' ⟨rfl, ⟨nd, rfl⟩⟩)); go_ret; exact ⟨by first | rfl | (simp [errW_none, errW_some] <;> rfl) | (simp only [← hji2]; first | rfl | (simp [errW_none, errW_some] <;> rfl)) | (simp [*, errW_none, errW_some] <;> rfl), belE_⟩
     · rw [if_neg c5] at H; exact absurd H (by simp)
    · rw [if_neg c4] at H; exact absurd H (by simp)
   · rw [if_neg c3] at H; have c3b0 : decide (x8_1 < ji2) = false := decide_eq_false c3; clear c3; obtain ⟨t196, A15, H⟩ := bindE_ H; obtain rfl := Option.some.inj H; go_wp2_with (first | ((with_reducible refine gate_callee (f := 71) rfl ?_); refine cU_ (some 41) Tryz.func71 #[.int .i64 (a0.size : Int), .int .i64 1, .int .i64 12] ?_; (with_reducible refine (impl_within.calls (a0.size : Int) 1 12 t196 _ A15.out).mono ?_); rintro e w' ⟨rfl, ⟨nd, rfl⟩⟩; refine ⟨_, rfl, ?_⟩)); go_ret; exact ⟨by first | rfl | (simp [errW_none, errW_some] <;> rfl) | (simp only [← hji2]; first | rfl | (simp [errW_none, errW_some] <;> rfl)) | (simp [*, errW_none, errW_some] <;> rfl), belE_⟩

end Go.Proofs.YthifpohbdbhnlaaGreatDoor.QFnStp
