/- A tool of this session wrote this text out of the translation: functions as plain Lean, and proofs that the machine's calls come to their answers. -/
import Derived.Test.YthifpohbdbhnlaaGreatDoorQShort
import Derived.Test.YthifpohbdbhnlaaGreatDoorQFnStpx0
import Derived.Test.YthifpohbdbhnlaaGreatDoorQFnStpx2
import Derived.Test.YthifpohbdbhnlaaGreatDoorQFnStpx3
import Derived.Test.YthifpohbdbhnlaaGreatDoorQFnStpx6
import Derived.Test.YthifpohbdbhnlaaGreatDoorQFnStpx9
import Derived.Test.YthifpohbdbhnlaaGreatDoorQFnStpx10
import Derived.Test.YthifpohbdbhnlaaGreatDoorQFnStpx11
namespace Go.Proofs.YthifpohbdbhnlaaGreatDoor.QFnStp
open Go.RowKit Go.Proofs.YthifpohbdbhnlaaGreatDoorW.PrintWords Go.Proofs.YthifpohbdbhnlaaGreatDoorW.PrintLast Go.Proofs.YthifpohbdbhnlaaGreatDoorW.PrintMore
open Go.Proofs.YthifpohbdbhnlaaGreatDoor.Short
attribute [local go_sem] max2_int min2_int max_two min_two max_three min_three max_four min_four   -- for this text's walks alone
set_option linter.unusedVariables false
set_option linter.unusedSimpArgs false

/-! ### impl_Url_strip: function 52 -/
def impl_Url_strip.f (k : Nat) (a0_0 : ByteArray) (a0_1 : ByteArray) (a0_2 : ByteArray) (a0_3 : Int) (a0_4 : ByteArray) (a0_5 : ByteArray) (a0_6 : ByteArray) (a0_7 : Bool) (a0_8 : Bool) : Option (ByteArray) := (impl_Url_web.f a0_0 a0_1 a0_2 a0_3 a0_4 a0_5 a0_6 a0_7 a0_8).bind fun t216 => (if t216 = true then ((impl_Url_text.f k a0_0 (⟨#[]⟩ : ByteArray) a0_2 a0_3 a0_4 a0_5 (⟨#[]⟩ : ByteArray) a0_7 false).bind fun t217 => (some t217)) else (some a0_0))
theorem impl_Url_strip.mono : ∀ a0 a1 a2 a3 a4 a5 a6 a7 a8 k, LeO (impl_Url_strip.f k a0 a1 a2 a3 a4 a5 a6 a7 a8) (impl_Url_strip.f (k + 1) a0 a1 a2 a3 a4 a5 a6 a7 a8) := by
  intro a0 a1 a2 a3 a4 a5 a6 a7 a8 k; unfold impl_Url_strip.f; repeat' first | (with_reducible exact impl_Url_text.mono _ _ _ _ _ _ _ _ _ _) | (with_reducible first | exact LeO.refl _ | exact LeO.none _ | refine LeO.ite ?_ ?_ | refine LeO.bind ?_ (fun _ => ?_)) | exact impl_Url_text.mono _ _ _ _ _ _ _ _ _ _ | exact LeO.none _ | refine LeO.ite ?_ ?_ | refine LeO.bind ?_ (fun _ => ?_)
set_option maxHeartbeats 8000000 in
set_option maxRecDepth 100000 in
theorem impl_Url_strip.calls (k : Nat) (a0_0 : ByteArray) (a0_1 : ByteArray) (a0_2 : ByteArray) (a0_3 : Int) (a0_4 : ByteArray) (a0_5 : ByteArray) (a0_6 : ByteArray) (a0_7 : Bool) (a0_8 : Bool) (r : ByteArray) (w : World) (hM : Amb w) (h : impl_Url_strip.f k a0_0 a0_1 a0_2 a0_3 a0_4 a0_5 a0_6 a0_7 a0_8 = some r) :
    Calls Tryz.prog 52 #[.agg #[.string a0_0, .string a0_1, .string a0_2, .int .i64 a0_3, .string a0_4, .string a0_5, .string a0_6, .bool a0_7, .bool a0_8]] w fun e w' => e = .returned (.string r) ∧ Below w.heap.size w w' := by
 have hu32 := Tryz.underlying32; have HB := Aside0.mk (Below.refl w.heap.size w); have HM := Aside0.mk hM; clear hM; have H := h; clear h; unfold impl_Url_strip.f at H; obtain ⟨n, A2, H⟩ := bindE_ H; by_cases c3 : n = true
 · subst c3; replace H := ifT_ H; obtain ⟨p, A4, H⟩ := bindE_ H; obtain rfl := Option.some.inj H; go_enter Tryz.func52, Tryz.ntmps52; go_wp2_with (first | ((with_reducible refine gate_dst (N := 1) rfl ?_); refine box_event ?hg (N := 1) ?hd (cs := #[.string a0_0, .string a0_1, .string a0_2, .int .i64 a0_3, .string a0_4, .string a0_5, .string a0_6, .bool a0_7, .bool a0_8]) (t := 32) ?hr ?_; (case hd => rfl); (case hg => rfl); (case hr => first | (go_simp; done) | (go_simp; rfl)); intro j hg w5 hbox hb; have b := belB_ hb; have c := Aside0.mk (hbox); have d := geE_ (w := w) hg; have i := geE_ (w := w) hg; clear HB; have HB := b; have a := c; have l := d; have m := i; clear b c d i; clear hb hbox hg; obtain ⟨a5, a6, a7, a8, a9, aa, ab, ac, ad, ae, af, ag, ah, ai, aj, ak, al, am⟩ := cz9_ a) | ((with_reducible refine gate_callee (f := 59) rfl ?_); refine cU_ (some 4) Tryz.func59 #[.agg #[.string a0_0, .string a0_1, .string a0_2, .int .i64 a0_3, .string a0_4, .string a0_5, .string a0_6, .bool a0_7, .bool a0_8]] ?_; (with_reducible refine (impl_Url_web.calls a0_0 a0_1 a0_2 a0_3 a0_4 a0_5 a0_6 a0_7 a0_8 true _ A2.out).mono ?_); rintro e w7 ⟨rfl, hb⟩; refine ⟨_, rfl, ?_⟩; replace a := blkK_ a hb; replace HB := belB_ hb; (try clear hb); obtain ⟨an, ao, ap, aq, ar, au, av, aw, ax, ay, az, aA, aB, aC, aD, aE, aF, aG⟩ := cz9_ a) | ((with_reducible refine gate_callee (f := 65) rfl ?_); refine cU_ (some 12) Tryz.func65 #[.agg #[.string a0_0, .string ⟨#[]⟩, .string a0_2, .int .i64 a0_3, .string a0_4, .string a0_5, .string ⟨#[]⟩, .bool a0_7, .bool false]] ?_; (with_reducible refine (impl_Url_text.calls k a0_0 (⟨#[]⟩ : ByteArray) a0_2 a0_3 a0_4 a0_5 (⟨#[]⟩ : ByteArray) a0_7 false p _ ?side1 A4.out).mono ?_); (case side1 => exact Amb.on HM.out belE_); rintro e w9 ⟨rfl, hb⟩; refine ⟨_, rfl, ?_⟩; have b := Aside0.mk (blk_below (g := j) (o := .cells #[.string a0_0, .string ⟨#[]⟩, .string a0_2, .int .i64 a0_3, .string a0_4, .string a0_5, .string ⟨#[]⟩, .bool a0_7, .bool false] 32 (0, 0)) (bk_ a.out) hb); have c := belB_ hb; clear a; clear HB; have a := b; have HB := c; clear b c; (try clear hb); (try clear aH); (try clear hk); (try clear hi))); go_ret; exact ⟨retE_, belE_⟩
 · replace c3 := Bool.eq_false_iff.mpr c3; subst c3; replace H := ifF_ H; obtain rfl := Option.some.inj H; go_enter Tryz.func52, Tryz.ntmps52; go_wp2_with (first | ((with_reducible refine gate_dst (N := 1) rfl ?_); refine box_event ?hg (N := 1) ?hd (cs := #[.string a0_0, .string a0_1, .string a0_2, .int .i64 a0_3, .string a0_4, .string a0_5, .string a0_6, .bool a0_7, .bool a0_8]) (t := 32) ?hr ?_; (case hd => rfl); (case hg => rfl); (case hr => first | (go_simp; done) | (go_simp; rfl)); intro j hg aI hbox hb; have b := belB_ hb; have c := Aside0.mk (hbox); have d := geE_ (w := w) hg; have i := geE_ (w := w) hg; clear HB; have HB := b; have a := c; have l := d; have m := i; clear b c d i; clear hb hbox hg; obtain ⟨q, s, u, v, x, y, z, A, B, C, D, E, F, G, I, J, K, L⟩ := cz9_ a) | ((with_reducible refine gate_callee (f := 59) rfl ?_); refine cU_ (some 4) Tryz.func59 #[.agg #[.string a0_0, .string a0_1, .string a0_2, .int .i64 a0_3, .string a0_4, .string a0_5, .string a0_6, .bool a0_7, .bool a0_8]] ?_; (with_reducible refine (impl_Url_web.calls a0_0 a0_1 a0_2 a0_3 a0_4 a0_5 a0_6 a0_7 a0_8 false _ A2.out).mono ?_); rintro e aJ ⟨rfl, hb⟩; refine ⟨_, rfl, ?_⟩; replace a := blkK_ a hb; replace HB := belB_ hb; (try clear hb); obtain ⟨M, O, P, Q, R, S, T, U, V, W, X, Y, Z, a0, a1, a2, a3, a4⟩ := cz9_ a)); go_ret; exact ⟨retE_, belE_⟩

/-! ### spec_l01Strip: function 54 -/
def spec_l01Strip.f (k : Nat) (a0_0 : ByteArray) (a0_1 : ByteArray) (a0_2 : ByteArray) (a0_3 : Int) (a0_4 : ByteArray) (a0_5 : ByteArray) (a0_6 : ByteArray) (a0_7 : Bool) (a0_8 : Bool) : Option (ByteArray) := (spec_l01Web.f a0_0).bind fun t222 => (if t222 = true then ((spec_l01Text.f k a0_0 (⟨#[]⟩ : ByteArray) a0_2 a0_3 a0_4 a0_5 (⟨#[]⟩ : ByteArray) a0_7 false).bind fun t223 => (some t223)) else (some a0_0))
theorem spec_l01Strip.mono : ∀ a0 a1 a2 a3 a4 a5 a6 a7 a8 k, LeO (spec_l01Strip.f k a0 a1 a2 a3 a4 a5 a6 a7 a8) (spec_l01Strip.f (k + 1) a0 a1 a2 a3 a4 a5 a6 a7 a8) := by
  intro a0 a1 a2 a3 a4 a5 a6 a7 a8 k; unfold spec_l01Strip.f; repeat' first | (with_reducible exact spec_l01Text.mono _ _ _ _ _ _ _ _ _ _) | (with_reducible first | exact LeO.refl _ | exact LeO.none _ | refine LeO.ite ?_ ?_ | refine LeO.bind ?_ (fun _ => ?_)) | exact spec_l01Text.mono _ _ _ _ _ _ _ _ _ _ | exact LeO.none _ | refine LeO.ite ?_ ?_ | refine LeO.bind ?_ (fun _ => ?_)
set_option maxHeartbeats 8000000 in
set_option maxRecDepth 100000 in
theorem spec_l01Strip.calls (k : Nat) (a0_0 : ByteArray) (a0_1 : ByteArray) (a0_2 : ByteArray) (a0_3 : Int) (a0_4 : ByteArray) (a0_5 : ByteArray) (a0_6 : ByteArray) (a0_7 : Bool) (a0_8 : Bool) (r : ByteArray) (w : World) (h : spec_l01Strip.f k a0_0 a0_1 a0_2 a0_3 a0_4 a0_5 a0_6 a0_7 a0_8 = some r) :
    Calls Tryz.prog 54 #[.agg #[.string a0_0, .string a0_1, .string a0_2, .int .i64 a0_3, .string a0_4, .string a0_5, .string a0_6, .bool a0_7, .bool a0_8]] w fun e w' => e = .returned (.string r) ∧ Below w.heap.size w w' := by
 have hu32 := Tryz.underlying32; have HB := Aside0.mk (Below.refl w.heap.size w); have H := h; clear h; unfold spec_l01Strip.f at H; obtain ⟨n, A2, H⟩ := bindE_ H; by_cases c3 : n = true
 · subst c3; replace H := ifT_ H; obtain ⟨p, A4, H⟩ := bindE_ H; obtain rfl := Option.some.inj H; go_enter Tryz.func54, Tryz.ntmps54; go_wp2_with (first | ((with_reducible refine gate_dst (N := 1) rfl ?_); refine box_event ?hg (N := 1) ?hd (cs := #[.string a0_0, .string a0_1, .string a0_2, .int .i64 a0_3, .string a0_4, .string a0_5, .string a0_6, .bool a0_7, .bool a0_8]) (t := 32) ?hr ?_; (case hd => rfl); (case hg => rfl); (case hr => first | (go_simp; done) | (go_simp; rfl)); intro j hg w5 hbox hb; have a := belB_ hb; have b := Aside0.mk (hbox); have d := geE_ (w := w) hg; have i := geE_ (w := w) hg; clear HB; have HB := a; have c := b; have l := d; have m := i; clear a b d i; clear hb hbox hg; obtain ⟨q, s, u, v, x, y, z, A, B, C, D, E, F, G, I, J, K, L⟩ := cz9_ c) | ((with_reducible refine gate_callee (f := 61) rfl ?_); refine cU_ (some 5) Tryz.func61 #[.string a0_0] ?_; (with_reducible refine (spec_l01Web.calls a0_0 true _ A2.out).mono ?_); rintro e w' ⟨rfl, ⟨nd, rfl⟩⟩; refine ⟨_, rfl, ?_⟩; (try (rw [drewN_self w5]; generalize hq_ : World.drewN w5 _ = w5; have a : Aside0 (w5.heap[j]? = some (.cells #[.string a0_0, .string a0_1, .string a0_2, .int .i64 a0_3, .string a0_4, .string a0_5, .string a0_6, .bool a0_7, .bool a0_8] 32 (0, 0))) := ⟨by rw [← hq_]; exact (by (with_reducible repeat apply bd_); exact c.out)⟩; have b : Aside0 (Below w.heap.size w w5) := ⟨by rw [← hq_]; exact belE_⟩; clear c HB hq_; have c := a; have HB := b; clear a b; obtain ⟨q, s, u, v, x, y, z, A, B, C, D, E, F, G, I, J, K, L⟩ := cz9_ c))) | ((with_reducible refine gate_callee (f := 66) rfl ?_); refine cU_ (some 13) Tryz.func66 #[.agg #[.string a0_0, .string ⟨#[]⟩, .string a0_2, .int .i64 a0_3, .string a0_4, .string a0_5, .string ⟨#[]⟩, .bool a0_7, .bool false]] ?_; (with_reducible refine (spec_l01Text.calls k a0_0 (⟨#[]⟩ : ByteArray) a0_2 a0_3 a0_4 a0_5 (⟨#[]⟩ : ByteArray) a0_7 false p _ A4.out).mono ?_); rintro e w7 ⟨rfl, hb⟩; refine ⟨_, rfl, ?_⟩; have a := Aside0.mk (blk_below (g := j) (o := .cells #[.string a0_0, .string ⟨#[]⟩, .string a0_2, .int .i64 a0_3, .string a0_4, .string a0_5, .string ⟨#[]⟩, .bool a0_7, .bool false] 32 (0, 0)) (bk_ c.out) hb); have b := belB_ hb; clear c; clear HB; have c := a; have HB := b; clear a b; (try clear hb); (try clear a5); (try clear hk); (try clear hi))); go_ret; exact ⟨retE_, belE_⟩
 · replace c3 := Bool.eq_false_iff.mpr c3; subst c3; replace H := ifF_ H; obtain rfl := Option.some.inj H; go_enter Tryz.func54, Tryz.ntmps54; go_wp2_with (first | ((with_reducible refine gate_dst (N := 1) rfl ?_); refine box_event ?hg (N := 1) ?hd (cs := #[.string a0_0, .string a0_1, .string a0_2, .int .i64 a0_3, .string a0_4, .string a0_5, .string a0_6, .bool a0_7, .bool a0_8]) (t := 32) ?hr ?_; (case hd => rfl); (case hg => rfl); (case hr => first | (go_simp; done) | (go_simp; rfl)); intro j hg w8 hbox hb; have a := belB_ hb; have b := Aside0.mk (hbox); have d := geE_ (w := w) hg; have i := geE_ (w := w) hg; clear HB; have HB := a; have c := b; have l := d; have m := i; clear a b d i; clear hb hbox hg; obtain ⟨M, O, P, Q, R, S, T, U, V, W, X, Y, Z, a0, a1, a2, a3, a4⟩ := cz9_ c) | ((with_reducible refine gate_callee (f := 61) rfl ?_); refine cU_ (some 5) Tryz.func61 #[.string a0_0] ?_; (with_reducible refine (spec_l01Web.calls a0_0 false _ A2.out).mono ?_); rintro e w' ⟨rfl, ⟨nd, rfl⟩⟩; refine ⟨_, rfl, ?_⟩)); go_ret; exact ⟨retE_, belE_⟩

/-! ### impl_unless: function 58 -/
def impl_unless.f (a0 : Bool) (a1 : Int) : Option (Int) := if a0 = true then (some 0) else (some a1)
set_option maxHeartbeats 8000000 in
set_option maxRecDepth 100000 in
theorem impl_unless.calls (a0 : Bool) (a1 : Int) (r : Int) (w : World) (h : impl_unless.f a0 a1 = some r) :
    Calls Tryz.prog 58 #[.bool a0, .int .i64 a1] w fun e w' => e = .returned (.int .i64 r) ∧ Drawn0 w w' := by
 have H : (if a0 = true then (some 0) else (some a1)) = some r := h; clear h; by_cases c3 : a0 = true
 · subst c3; replace H := ifT_ H; obtain rfl := Option.some.inj H; go_enter Tryz.func58, Tryz.ntmps58; go_wp2; go_ret; exact ⟨eqE_, drE_⟩
 · replace c3 := Bool.eq_false_iff.mpr c3; subst c3; replace H := ifF_ H; obtain rfl := Option.some.inj H; go_enter Tryz.func58, Tryz.ntmps58; go_wp2; go_ret; exact ⟨eqE_, drE_⟩

/-! ### impl_long: function 63 -/
def impl_long.f (a0 : ByteArray) : Option (Int) := (impl_unless.f (decide ((a0.size : Int) ≤ 65536)) 2).bind fun t227 => (some t227)
set_option maxHeartbeats 8000000 in
set_option maxRecDepth 100000 in
theorem impl_long.calls (a0 : ByteArray) (r : Int) (w : World) (h : impl_long.f a0 = some r) :
    Calls Tryz.prog 63 #[.string a0] w fun e w' => e = .returned (.int .i64 r) ∧ Drawn0 w w' := by
 have H : ((impl_unless.f (decide ((a0.size : Int) ≤ 65536)) 2).bind fun t227 => (some t227)) = some r := h; clear h; obtain ⟨t227, A2, H⟩ := bindE_ H; obtain rfl := Option.some.inj H; go_enter Tryz.func63, Tryz.ntmps63; go_wp2_with (first | ((with_reducible refine gate_callee (f := 58) rfl ?_); refine cU_ (some 6) Tryz.func58 #[.bool (decide ((a0.size : Int) ≤ 65536)), .int .i64 2] ?_; (with_reducible refine (impl_unless.calls (decide ((a0.size : Int) ≤ 65536)) 2 t227 _ A2.out).mono ?_); rintro e w' ⟨rfl, ⟨nd, rfl⟩⟩; refine ⟨_, rfl, ?_⟩)); go_ret; exact ⟨eqE_, drE_⟩

/-! ### stringslite_Index: function 146, by hand -/
/-- At a text of one byte. -/
def stringslite_Index.f (a0 : ByteArray) (a1 : ByteArray) : Option (Int) := if a1.size = 1 then some (Lib.indexByte a0.data.toList (a1.data.toList.getD 0 0)) else none
theorem stringslite_Index.calls (a0 : ByteArray) (a1 : ByteArray) (r : Int) (w : World) (h : stringslite_Index.f a0 a1 = some r) :
    Calls Tryz.prog 146 #[.string a0, .string a1] w fun e w' => e = .returned (.int .i64 r) ∧ Drawn0 w w' := by
  unfold stringslite_Index.f at h; by_cases hb : a1.size = 1
  · rw [if_pos hb] at h
    cases h; obtain ⟨l⟩ := a1
    obtain ⟨c, rfl⟩ : ∃ c, l = #[c] := by
      obtain ⟨l⟩ := l; match l, hb with
      | [c], _ => exact ⟨c, rfl⟩
    refine (Tryz.stringslite_Index_one a0 c w).mono ?_; rintro e w' ⟨rfl, rfl⟩; exact ⟨rfl, ⟨0, rfl⟩⟩
  · rw [if_neg hb] at h
    cases h

/-! ### stringslite_Cut: function 137 -/
def stringslite_Cut.f (a0 : ByteArray) (a1 : ByteArray) : Option (ByteArray × ByteArray × Bool) := (stringslite_Index.f a0 a1).bind fun t228 => (if t228 ≥ 0 then (if 0 ≤ t228 then (if t228 ≤ (a0.size : Int) then (if 0 ≤ (wrap64 (t228 + (a1.size : Int))) then (if (wrap64 (t228 + (a1.size : Int))) ≤ (a0.size : Int) then (some (a0.extract 0 (t228 : Int).toNat, a0.extract ((wrap64 (t228 + (a1.size : Int))) : Int).toNat a0.size, true)) else (none)) else (none)) else (none)) else (none)) else (some (a0, (⟨#[]⟩ : ByteArray), false)))
set_option maxHeartbeats 8000000 in
set_option maxRecDepth 100000 in
theorem stringslite_Cut.calls (a0 : ByteArray) (a1 : ByteArray) (r1 : ByteArray) (r2 : ByteArray) (r3 : Bool) (w : World) (h : stringslite_Cut.f a0 a1 = some (r1, r2, r3)) :
    Calls Tryz.prog 137 #[.string a0, .string a1] w fun e w' => e = .returned (.tuple #[.string r1, .string r2, .bool r3]) ∧ Drawn0 w w' := by
 have H := h; clear h; unfold stringslite_Cut.f at H; obtain ⟨a, A3, H⟩ := bindE_ H; by_cases c4 : a ≥ 0
 ·
  rw [if_pos c4] at H; have b : decide (0 ≤ a) = true := decide_eq_true c4; clear c4; by_cases c5 : 0 ≤ a
  ·
   rw [if_pos c5] at H; have c := eq_true c5; have d : decide (0 ≤ a) = true := decide_eq_true c5; clear c5; by_cases c6 : a ≤ (a0.size : Int)
   ·
    rw [if_pos c6] at H; have g := eq_true c6; have i : decide (a ≤ (a0.size : Int)) = true := decide_eq_true c6; clear c6; obtain ⟨ji7, hji7⟩ : ∃ j_ : Int, (wrap64 (a + (a1.size : Int))) = j_ := ⟨_, rfl⟩
    replace H : (if 0 ≤ (ji7) then (if (ji7) ≤ (a0.size : Int) then (some (a0.extract 0 (a : Int).toNat, a0.extract ((ji7) : Int).toNat a0.size, true)) else (none)) else (none)) = some (r1, r2, r3) := by first | (rw [hji7] at H; exact H) | (simp only [hji7] at H ⊢; exact H)
    (try rw [hji7] at A3); have hji7w : (IntKind.i64.wrap (a + (a1.size : Int))) = ji7 := (i64_w _).trans hji7; by_cases c8 : 0 ≤ (ji7)
    ·
     rw [if_pos c8] at H; have j := eq_true c8; have k : decide (0 ≤ (ji7)) = true := decide_eq_true c8; clear c8; by_cases c9 : (ji7) ≤ (a0.size : Int)
     ·
      rw [if_pos c9] at H; have l := eq_true c9; have m : decide ((ji7) ≤ (a0.size : Int)) = true := decide_eq_true c9; clear c9; simp only [Option.some.injEq, Prod.mk.injEq] at H; obtain ⟨rfl, rfl, rfl⟩ := H; go_enter Tryz.func137, Tryz.ntmps137; go_wp2_with (first | (go_at_call 146; (with_reducible refine (stringslite_Index.calls a0 a1 a _ A3.out).mono ?_); rintro e w' ⟨rfl, ⟨nd, rfl⟩⟩; (try first | exact ⟨rfl, _, World.drewN_drewN _ _ _⟩ | exact ⟨rfl, _, Eq.trans (World.drewN_drewN _ _ _) (congrArg (World.drewN _) (Nat.add_assoc _ _ _))⟩))); repeat (go_quiet (first | (go_at_call 146; (with_reducible refine (stringslite_Index.calls a0 a1 a _ A3.out).mono ?_); rintro e w' ⟨rfl, ⟨nd, rfl⟩⟩; (try first | exact ⟨rfl, _, World.drewN_drewN _ _ _⟩ | exact ⟨rfl, _, Eq.trans (World.drewN_drewN _ _ _) (congrArg (World.drewN _) (Nat.add_assoc _ _ _))⟩))); try go_wp2_with (first | (go_at_call 146; (with_reducible refine (stringslite_Index.calls a0 a1 a _ A3.out).mono ?_); rintro e w' ⟨rfl, ⟨nd, rfl⟩⟩; (try first | exact ⟨rfl, _, World.drewN_drewN _ _ _⟩ | exact ⟨rfl, _, Eq.trans (World.drewN_drewN _ _ _) (congrArg (World.drewN _) (Nat.add_assoc _ _ _))⟩))))
      go_ret3; exact ⟨by first | rfl | (simp; done) | (simp only [← hji7] <;> (first | rfl | simp)) | (simp [*]; done), drE_⟩
     · rw [if_neg c9] at H; exact absurd H (by simp)
    · rw [if_neg c8] at H; exact absurd H (by simp)
   · rw [if_neg c6] at H; exact absurd H (by simp)
  · rw [if_neg c5] at H; exact absurd H (by simp)
 ·
  rw [if_neg c4] at H; have b : decide (0 ≤ a) = false := decide_eq_false c4; clear c4; simp only [Option.some.injEq, Prod.mk.injEq] at H; obtain ⟨rfl, rfl, rfl⟩ := H; go_enter Tryz.func137, Tryz.ntmps137; go_wp2_with (first | (go_at_call 146; (with_reducible refine (stringslite_Index.calls a0 a1 a _ A3.out).mono ?_); rintro e w' ⟨rfl, ⟨nd, rfl⟩⟩; (try first | exact ⟨rfl, _, World.drewN_drewN _ _ _⟩ | exact ⟨rfl, _, Eq.trans (World.drewN_drewN _ _ _) (congrArg (World.drewN _) (Nat.add_assoc _ _ _))⟩))); repeat (go_quiet (first | (go_at_call 146; (with_reducible refine (stringslite_Index.calls a0 a1 a _ A3.out).mono ?_); rintro e w' ⟨rfl, ⟨nd, rfl⟩⟩; (try first | exact ⟨rfl, _, World.drewN_drewN _ _ _⟩ | exact ⟨rfl, _, Eq.trans (World.drewN_drewN _ _ _) (congrArg (World.drewN _) (Nat.add_assoc _ _ _))⟩))); try go_wp2_with (first | (go_at_call 146; (with_reducible refine (stringslite_Index.calls a0 a1 a _ A3.out).mono ?_); rintro e w' ⟨rfl, ⟨nd, rfl⟩⟩; (try first | exact ⟨rfl, _, World.drewN_drewN _ _ _⟩ | exact ⟨rfl, _, Eq.trans (World.drewN_drewN _ _ _) (congrArg (World.drewN _) (Nat.add_assoc _ _ _))⟩))))
  go_ret3; exact ⟨eqE_, drE_⟩

/-! ### strings_Cut: function 110 -/
def strings_Cut.f (a0 : ByteArray) (a1 : ByteArray) : Option (ByteArray × ByteArray × Bool) := (stringslite_Cut.f a0 a1).bind fun bt229 => (some (bt229.1, bt229.2.1, bt229.2.2))
set_option maxHeartbeats 8000000 in
set_option maxRecDepth 100000 in
theorem strings_Cut.calls (a0 : ByteArray) (a1 : ByteArray) (r1 : ByteArray) (r2 : ByteArray) (r3 : Bool) (w : World) (h : strings_Cut.f a0 a1 = some (r1, r2, r3)) :
    Calls Tryz.prog 110 #[.string a0, .string a1] w fun e w' => e = .returned (.tuple #[.string r1, .string r2, .bool r3]) ∧ Drawn0 w w' := by
 have H := h; clear h; unfold strings_Cut.f at H; replace H := Option.bind_eq_some_iff.mp H; obtain ⟨⟨t229, t230, t231⟩, A30, H⟩ := H; dsimp only at H; have A3 := Aside0.mk A30; clear A30; simp only [Option.some.injEq, Prod.mk.injEq] at H; obtain ⟨rfl, rfl, rfl⟩ := H; go_enter Tryz.func110, Tryz.ntmps110; go_wp2_with (first | ((with_reducible refine gate_callee (f := 137) rfl ?_); refine cU_ (some 9) Tryz.func137 #[.string a0, .string a1] ?_; (with_reducible refine (stringslite_Cut.calls a0 a1 t229 t230 t231 _ A3.out).mono ?_); rintro e w' ⟨rfl, ⟨nd, rfl⟩⟩; refine ⟨_, rfl, ?_⟩)); go_ret3; exact ⟨eqE_, drE_⟩

/-! ### impl_lower: function 111, by hand -/
/-- A byte as a small letter. -/
def low1 (b : UInt8) : UInt8 := if 65 ≤ b.toNat ∧ b.toNat ≤ 90 then UInt8.ofNat (b.toNat + 32) else b
def lowL (l : List UInt8) (k : Nat) : List UInt8 := (l.take k).map low1 ++ l.drop k
def lowAt (s : ByteArray) (k : Nat) : ByteArray := ⟨(lowL s.data.toList k).toArray⟩
def impl_lower.f (a0 : ByteArray) : Option (ByteArray) := if a0.size ≤ 1000000000 then some (lowAt a0 a0.size) else none
theorem sizeL (s : ByteArray) : s.size = s.data.toList.length := by rw [Array.length_toList]; rfl
theorem lowL_length (l : List UInt8) (k : Nat) : (lowL l k).length = l.length := by
  unfold lowL; rw [List.length_append, List.length_map, ← List.length_append, List.take_append_drop]
theorem lowL_get (l : List UInt8) (k j : Nat) (h : j < (lowL l k).length) (h' : j < l.length) : (lowL l k)[j] = if j < k then low1 l[j] else l[j] := by
  unfold lowL at h; show ((l.take k).map low1 ++ l.drop k)[j]'h = _; by_cases c : j < k
  · rw [if_pos c, List.getElem_append_left (by rw [List.length_map, List.length_take]; omega), List.getElem_map, List.getElem_take]
  · rw [if_neg c, List.getElem_append_right (by rw [List.length_map, List.length_take]; omega), List.getElem_drop]
    have e : k + (j - (List.map low1 (List.take k l)).length) = j := by rw [List.length_map, List.length_take]; omega
    simp only [e]
theorem lowAt_size (s : ByteArray) (k : Nat) : (lowAt s k).size = s.size := by
  rw [sizeL, sizeL s]; exact lowL_length _ k
theorem lowAt_get (s : ByteArray) (k j : Nat) (hj : j < (lowAt s k).size) (hj' : j < s.size) : (lowAt s k)[j] = if j < k then low1 s[j] else s[j] :=
  lowL_get s.data.toList k j (by rw [lowL_length, ← sizeL]; exact hj') (by rw [← sizeL]; exact hj')
theorem bytes_set {w : World} {g k : Nat} {s : ByteArray} {v : Value} (h : Lib.Bytes w g 0 (lowAt s k)) (hk : k < s.size) (hv : v = .int .u8 ((low1 s[k]).toNat : Int)) : Lib.Bytes (w.setCell ⟨g, k, none⟩ v) g 0 (lowAt s (k + 1)) := by
  intro j hj; have hj' : j < s.size := by rw [lowAt_size] at hj; exact hj
  have h0 := h j (by rw [lowAt_size]; exact hj'); rw [Nat.zero_add] at h0 ⊢; rw [lowAt_get s k j _ hj'] at h0; rw [lowAt_get s (k + 1) j hj hj']; by_cases e : j = k
  · subst e
    rw [if_pos (by omega), World.cell?_setCell_same _ _ _ h0, hv]
  · have hne : (⟨g, k, none⟩ : Addr) ≠ ⟨g, j, none⟩ := fun h => e (by injection h with _ h2 _; exact h2.symm)
    rw [World.cell?_setCell_other _ _ _ _ hne, h0]; by_cases l : j < k
    · rw [if_pos l, if_pos (by omega)]
    · rw [if_neg l, if_neg (by omega)]
theorem bytes_keep {w : World} {g k : Nat} {s : ByteArray} (h : Lib.Bytes w g 0 (lowAt s k)) (hk : k < s.size) (hv : low1 s[k] = s[k]) : Lib.Bytes w g 0 (lowAt s (k + 1)) := by
  intro j hj; have hj' : j < s.size := by rw [lowAt_size] at hj; exact hj
  have h0 := h j (by rw [lowAt_size]; exact hj'); rw [lowAt_get s k j _ hj'] at h0; rw [h0, lowAt_get s (k + 1) j hj hj']; by_cases e : j = k
  · subst e
    rw [if_neg (by omega), if_pos (by omega), hv]
  · by_cases l : j < k
    · rw [if_pos l, if_pos (by omega)]
    · rw [if_neg l, if_neg (by omega)]
theorem bytes_start (w : World) (s : ByteArray) : Lib.Bytes (Lib.bytesWorld w 5 s) w.heap.size 0 (lowAt s 0) := by
  intro j hj; have hj' : j < s.size := by rw [lowAt_size] at hj; exact hj
  rw [Nat.zero_add, Lib.bytesWorld_cell w _ s j hj', lowAt_get s 0 j hj hj', if_neg (by omega)]; have hl : j < s.data.toList.length := by rw [← sizeL]; exact hj'
  rw [List.getD_eq_getElem?_getD, List.getElem?_eq_getElem hl]; rfl
theorem bytes_free (w : World) (s : ByteArray) (j : Nat) (hj : j < s.size) : (Lib.bytesWorld w 5 s).frozen? ⟨w.heap.size, j, none⟩ = false := by
  have h1 := Lib.bytesWorld_at_new w 5 s
  have h2 : s.size ≤ (Lib.bytesCells w 5 s).size := by
    unfold Lib.bytesCells; rw [Array.size_append, Array.size_map]; exact Nat.le_add_right _ _
  unfold World.frozen?; rw [h1]; simp only [Bool.and_eq_false_iff, decide_eq_false_iff_not]; omega
set_option maxHeartbeats 2000000 in
set_option maxRecDepth 100000 in
theorem impl_lower.calls (a0 : ByteArray) (r : ByteArray) (w : World) (h : impl_lower.f a0 = some r) :
    Calls Tryz.prog 111 #[.string a0] w fun e w' => e = .returned (.string r) ∧ Below w.heap.size w w' := by
  unfold impl_lower.f at h; by_cases hs : a0.size ≤ 1000000000; rotate_left
  · rw [if_neg hs] at h; cases h
  rw [if_pos hs] at h; cases h; have kb := fun W => print_bytes (P := Tryz.prog) 9 30 5 Tryz.underlying9 Tryz.underlying30 Tryz.underlying5 a0 W; have fb := fun j hj => bytes_free w a0 j hj; have B0 := bytes_start w a0; have hbel : Below w.heap.size w (Lib.bytesWorld w 5 a0) := Joins.below_bytesWorld _ _ _ _ (Nat.le_refl _); generalize hg : w.heap.size = g at fb B0 hbel; have FB := Lib.hid fb; have B1 := Lib.hid B0; have HB1 := Lib.hid hbel; clear fb B0 hbel; go_enter Tryz.func111, Tryz.ntmps111; go_wp2; go_loopw [10] (fun i wr => ∃ k : Nat, k ≤ a0.size ∧ i = .int .i64 k ∧ Hid (Lib.Bytes wr g 0 (lowAt a0 k)) ∧ Hid (∀ j, j < a0.size → wr.frozen? ⟨g, j, none⟩ = false) ∧ Hid (Below g w wr)) (fun i _ => a0.size - (intOf i).toNat)
  case atStart => exact ⟨0, Nat.zero_le _, rfl, B1, FB, HB1⟩
  case round =>
    obtain ⟨k, hk, rfl, HBy, HFr, HBe⟩ := hrel; clear B1 FB HB1; by_cases hlt : k < a0.size
    · have hc := HBy.out k (by rw [lowAt_size]; exact hlt)
      rw [Nat.zero_add, lowAt_get a0 k k _ hlt, if_neg (Nat.lt_irrefl k)] at hc; have hf := HFr.out k hlt; have a : (a0[k]).toNat < 256 := (a0[k]).toNat_lt; by_cases hup : 65 ≤ (a0[k]).toNat ∧ (a0[k]).toNat ≤ 90
      · obtain ⟨h1, h2⟩ := hup
        go_wp2; go_roundw
        case rel =>
          refine ⟨k + 1, by omega, by go_num, Lib.hid (bytes_set HBy.out hlt ?_), Lib.hid (fun j hj => by rw [World.frozen?_setCell]; exact HFr.out j hj), Lib.hid (HBe.out.setCell (Nat.le_refl _) _)⟩
          have e : (low1 a0[k]).toNat = (a0[k]).toNat + 32 := by
            unfold low1; rw [if_pos ⟨h1, h2⟩, UInt8.toNat_ofNat']; omega
          rw [e]; rfl
        case measure => simp [intOf]; omega
      · have hl : low1 a0[k] = a0[k] := by unfold low1; rw [if_neg hup]
        have HL := Lib.hid hl; clear hl; by_cases h1 : 65 ≤ (a0[k]).toNat
        · have h2 : ¬ (a0[k]).toNat ≤ 90 := fun h2 => hup ⟨h1, h2⟩
          clear hup; go_wp2; go_roundw
          case rel => exact ⟨k + 1, by omega, by go_num, Lib.hid (bytes_keep HBy.out hlt HL.out), HFr, HBe⟩
          case measure => simp [intOf]; omega
        · clear hup
          go_wp2; go_roundw
          case rel => exact ⟨k + 1, by omega, by go_num, Lib.hid (bytes_keep HBy.out hlt HL.out), HFr, HBe⟩
          case measure => simp [intOf]; omega
    · obtain rfl : k = a0.size := by omega
      have kc := Lib.run_convert_whole (P := Tryz.prog) wr 30 5 9 Tryz.underlying30 Tryz.underlying5 Tryz.underlying9 g 0 (lowAt a0 a0.size) HBy.out (grownCap w a0.size 0 5); rw [lowAt_size] at kc; go_wp2; go_ret; exact ⟨rfl, HBe.out⟩

/-! ### stringslite_CutPrefix: function 138 -/
def stringslite_CutPrefix.f (a0 : ByteArray) (a1 : ByteArray) : Option (ByteArray × Bool) := (stringslite_HasPrefix.f a0 a1).bind fun t232 => (if t232 = true then (if 0 ≤ (a1.size : Int) then (if (a1.size : Int) ≤ (a0.size : Int) then (some (a0.extract ((a1.size : Int) : Int).toNat a0.size, true)) else (none)) else (none)) else (some (a0, false)))
set_option maxHeartbeats 8000000 in
set_option maxRecDepth 100000 in
theorem stringslite_CutPrefix.calls (a0 : ByteArray) (a1 : ByteArray) (r1 : ByteArray) (r2 : Bool) (w : World) (h : stringslite_CutPrefix.f a0 a1 = some (r1, r2)) :
    Calls Tryz.prog 138 #[.string a0, .string a1] w fun e w' => e = .returned (.tuple #[.string r1, .bool r2]) ∧ Drawn0 w w' := by
 have H := h; clear h; unfold stringslite_CutPrefix.f at H; obtain ⟨a, A3, H⟩ := bindE_ H; by_cases c4 : a = true
 ·
  subst c4; replace H := ifT_ H; by_cases c5 : 0 ≤ (a1.size : Int)
  ·
   rw [if_pos c5] at H; have b := eq_true c5; have c : decide (0 ≤ (a1.size : Int)) = true := decide_eq_true c5; clear c5; by_cases c6 : (a1.size : Int) ≤ (a0.size : Int)
   · rw [if_pos c6] at H; have d := eq_true c6; have g : decide ((a1.size : Int) ≤ (a0.size : Int)) = true := decide_eq_true c6; clear c6; simp only [Option.some.injEq, Prod.mk.injEq] at H; obtain ⟨rfl, rfl⟩ := H; go_enter Tryz.func138, Tryz.ntmps138; go_wp2_with (first | ((with_reducible refine gate_callee (f := 119) rfl ?_); refine cU_ (some 8) Tryz.func119 #[.string a0, .string a1] ?_; (with_reducible refine (stringslite_HasPrefix.calls a0 a1 true _ A3.out).mono ?_); rintro e w' ⟨rfl, ⟨nd, rfl⟩⟩; refine ⟨_, rfl, ?_⟩)); go_ret2; exact ⟨eqE_, drE_⟩
   · rw [if_neg c6] at H; exact absurd H (by simp)
  · rw [if_neg c5] at H; exact absurd H (by simp)
 · replace c4 := Bool.eq_false_iff.mpr c4; subst c4; replace H := ifF_ H; simp only [Option.some.injEq, Prod.mk.injEq] at H; obtain ⟨rfl, rfl⟩ := H; go_enter Tryz.func138, Tryz.ntmps138; go_wp2_with (first | ((with_reducible refine gate_callee (f := 119) rfl ?_); refine cU_ (some 8) Tryz.func119 #[.string a0, .string a1] ?_; (with_reducible refine (stringslite_HasPrefix.calls a0 a1 false _ A3.out).mono ?_); rintro e w' ⟨rfl, ⟨nd, rfl⟩⟩; refine ⟨_, rfl, ?_⟩)); go_ret2; exact ⟨eqE_, drE_⟩

/-! ### strings_CutPrefix: function 112 -/
def strings_CutPrefix.f (a0 : ByteArray) (a1 : ByteArray) : Option (ByteArray × Bool) := (stringslite_CutPrefix.f a0 a1).bind fun bt233 => (some (bt233.1, bt233.2))
set_option maxHeartbeats 8000000 in
set_option maxRecDepth 100000 in
theorem strings_CutPrefix.calls (a0 : ByteArray) (a1 : ByteArray) (r1 : ByteArray) (r2 : Bool) (w : World) (h : strings_CutPrefix.f a0 a1 = some (r1, r2)) :
    Calls Tryz.prog 112 #[.string a0, .string a1] w fun e w' => e = .returned (.tuple #[.string r1, .bool r2]) ∧ Drawn0 w w' := by
 have H : ((stringslite_CutPrefix.f a0 a1).bind fun bt233 => (some (bt233.1, bt233.2))) = some (r1, r2) := h; clear h; replace H := Option.bind_eq_some_iff.mp H; obtain ⟨⟨t233, t234⟩, A30, H⟩ := H; replace H : (some (t233, t234)) = some (r1, r2) := H; have A3 := Aside0.mk A30; clear A30; simp only [Option.some.injEq, Prod.mk.injEq] at H; obtain ⟨rfl, rfl⟩ := H; go_enter Tryz.func112, Tryz.ntmps112; go_wp2_with (first | ((with_reducible refine gate_callee (f := 138) rfl ?_); refine cU_ (some 8) Tryz.func138 #[.string a0, .string a1] ?_; (with_reducible refine (stringslite_CutPrefix.calls a0 a1 t233 t234 _ A3.out).mono ?_); rintro e w' ⟨rfl, ⟨nd, rfl⟩⟩; refine ⟨_, rfl, ?_⟩)); go_ret2; exact ⟨eqE_, drE_⟩

/-! ### stringslite_IndexByte: function 139, by hand -/
def stringslite_IndexByte.f (a0 : ByteArray) (a1 : Int) : Option (Int) := some (Lib.indexByte a0.data.toList a1.toNat.toUInt8)
theorem stringslite_IndexByte.calls (a0 : ByteArray) (a1 : Int) (r : Int) (w : World) (h : stringslite_IndexByte.f a0 a1 = some r) :
    Calls Tryz.prog 139 #[.string a0, .int .u8 a1] w fun e w' => e = .returned (.int .i64 r) ∧ Drawn0 w w' := by
  unfold stringslite_IndexByte.f at h; cases h; refine (Tryz.stringslite_IndexByte a0 a1 w).mono ?_; rintro e w' ⟨rfl, rfl⟩; exact ⟨rfl, ⟨0, rfl⟩⟩

/-! ### strings_IndexByte: function 113 -/
def strings_IndexByte.f (a0 : ByteArray) (a1 : Int) : Option (Int) := (stringslite_IndexByte.f a0 a1).bind fun t235 => (some t235)
set_option maxHeartbeats 8000000 in
set_option maxRecDepth 100000 in
theorem strings_IndexByte.calls (a0 : ByteArray) (a1 : Int) (r : Int) (w : World) (h : strings_IndexByte.f a0 a1 = some r) :
    Calls Tryz.prog 113 #[.string a0, .int .u8 a1] w fun e w' => e = .returned (.int .i64 r) ∧ Drawn0 w w' := by
 have H : ((stringslite_IndexByte.f a0 a1).bind fun t235 => (some t235)) = some r := h; clear h; obtain ⟨t235, A3, H⟩ := bindE_ H; obtain rfl := Option.some.inj H; go_enter Tryz.func113, Tryz.ntmps113; go_wp2_with (first | ((with_reducible refine gate_callee (f := 139) rfl ?_); refine cU_ (some 7) Tryz.func139 #[.string a0, .int .u8 a1] ?_; (with_reducible refine (stringslite_IndexByte.calls a0 a1 t235 _ A3.out).mono ?_); rintro e w' ⟨rfl, ⟨nd, rfl⟩⟩; refine ⟨_, rfl, ?_⟩)); go_ret; exact ⟨eqE_, drE_⟩

/-! ### impl_number: function 114, by hand -/
/-- How many digits a number's text has. -/
def impl_number.dig (s : ByteArray) : Int := if 0 < s.size ∧ bt s 0 = 45 then (s.size : Int) - 1 else s.size
def impl_number.val (s : ByteArray) : Int := match Lib.atoiAll s.data.toList with
  | .ok v => v
  | .range => Lib.atoiSat s.data.toList
  | _ => 0
def impl_number.ok (s : ByteArray) : Bool := match Lib.atoiAll s.data.toList with
  | .ok v => decide (impl_number.dig s ≤ 18) && (Lib.itoa v == s.data.toList)
  | _ => false
def impl_number.f (a0 : ByteArray) : Option (Int × Bool) := if a0.size ≤ 1000000000 then some (impl_number.val a0, impl_number.ok a0) else none
theorem impl_number.dig_neg {s : ByteArray} (h : 0 < s.size) (c : (((s[0]).toNat : Int) == 45) = true) : impl_number.dig s = (s.size : Int) - 1 := by
  have hb0 : bt s 0 = ((s[0]).toNat : Int) := by unfold bt; rw [dif_pos (by exact h)]; rfl
  unfold impl_number.dig; rw [if_pos ⟨h, by rw [hb0]; exact beq_iff_eq.1 c⟩]
theorem impl_number.dig_pos {s : ByteArray} (h : 0 < s.size) (c : (((s[0]).toNat : Int) == 45) = false) : impl_number.dig s = s.size := by
  have hb0 : bt s 0 = ((s[0]).toNat : Int) := by unfold bt; rw [dif_pos (by exact h)]; rfl
  unfold impl_number.dig; rw [if_neg (fun hh => by rw [hb0] at hh; exact beq_eq_false_iff_ne.1 c hh.2)]
theorem num_ret {v : Int} {b b' : Bool} (h : b = b') : Ending.returned (.tuple #[.int .i64 v, .bool b]) = Ending.returned (.tuple #[.int .i64 v, .bool b']) := by rw [h]
theorem atoiAll_nil (v : Int) : Lib.atoiAll [] ≠ .ok v := by
  have h : Lib.atoiAll [] = .«syntax» := by decide
  rw [h]; exact fun h => by cases h
theorem atoi_good (s : ByteArray) (hs : s.size ≤ 1000000000) (v : Int) (h : Lib.atoiAll s.data.toList = .ok v) (w : World) :
    Calls Tryz.prog 140 #[.string s] w fun e w' => e = .returned (.tuple #[.int .i64 v, .nilIface]) ∧ Below w.heap.size w w' := by
  refine (Tryz.strconv_Atoi_ok s (by omega) v h w).mono ?_; rintro e w' ⟨rfl, rfl | ⟨t, rfl⟩⟩
  · exact ⟨rfl, Below.refl _ _⟩
  · exact ⟨rfl, Joins.below_bytesWorld _ _ _ _ (Nat.le_refl _)⟩
theorem atoi_bad (s : ByteArray) (hs : s.size ≤ 1000000000) (h : ∀ v, Lib.atoiAll s.data.toList ≠ .ok v) (w : World) (hM : Amb w) :
    Calls Tryz.prog 140 #[.string s] w fun e w' => ∃ t p, e = .returned (.tuple #[.int .i64 (impl_number.val s), .iface t p]) ∧ Below w.heap.size w w' := by
  unfold impl_number.val; obtain ⟨_, ⟨t1, p1, h1⟩, ⟨t2, p2, h2⟩⟩ := hM; cases e : Lib.atoiAll s.data.toList with
  | ok v => exact absurd e (h v)
  | «syntax» =>
    refine (Tryz.strconv_Atoi_syntax s (by omega) e _ w h1 (Or.inr ⟨_, _, rfl⟩)).mono ?_; rintro e w' ⟨N, rfl, _, _, hb⟩; exact ⟨_, _, rfl, hb⟩
  | range =>
    refine (Tryz.strconv_Atoi_range s (by omega) e _ w h2 (Or.inr ⟨_, _, rfl⟩)).mono ?_; rintro e w' ⟨N, rfl, _, _, hb⟩; exact ⟨_, _, rfl, hb⟩
set_option maxHeartbeats 2000000 in
set_option maxRecDepth 100000 in
theorem number_bad (a0 : ByteArray) (hs : a0.size ≤ 1000000000) (hne : ∀ v, Lib.atoiAll a0.data.toList ≠ .ok v) (ho : impl_number.ok a0 = false) (w : World) (hM : Amb w) :
    Calls Tryz.prog 114 #[.string a0] w fun e w' => e = .returned (.tuple #[.int .i64 (impl_number.val a0), .bool (impl_number.ok a0)]) ∧ Below w.heap.size w w' := by
  rw [ho]; have NE := Lib.hid hne; have HM := Lib.hid hM; clear hne hM ho; generalize hV : impl_number.val a0 = V; have HV := Lib.hid hV; clear hV; by_cases hz : 0 < a0.size
  · have hei : a0.toList.isEmpty = false := by
      rw [ByteArray.toList_eq]; cases h : a0.data.toList with
      | nil => have : a0.data.toList.length = 0 := by rw [h]; rfl
               rw [Array.length_toList] at this; exact absurd this (by have : a0.data.size = a0.size := rfl; omega)
      | cons _ _ => rfl
    go_enter Tryz.func114, Tryz.ntmps114; go_wp2_with (first | (go_at_call 140; refine (atoi_bad a0 hs NE.out _ HM.out).mono ?_; rintro e w1 ⟨t1, p1, rfl, a⟩; rw [HV.out]; have HB1 := Lib.hid a; clear a)); all_goals go_ret2
    all_goals exact ⟨rfl, HB1.out⟩
  · have hei : a0.toList = [] := by
      rw [ByteArray.toList_eq]; exact List.length_eq_zero_iff.1 (by rw [Array.length_toList]; show a0.size = 0; omega)
    have hei2 : a0.toList.isEmpty = true := by rw [hei]; rfl
    clear hei; go_enter Tryz.func114, Tryz.ntmps114; go_wp2_with (first | (go_at_call 140; refine (atoi_bad a0 hs NE.out _ HM.out).mono ?_; rintro e w1 ⟨t1, p1, rfl, a⟩; rw [HV.out]; have HB1 := Lib.hid a; clear a)); all_goals go_ret2
    all_goals exact ⟨rfl, HB1.out⟩
set_option maxHeartbeats 2000000 in
set_option maxRecDepth 100000 in
theorem impl_number.calls (a0 : ByteArray) (r1 : Int) (r2 : Bool) (w : World) (hM : Amb w) (h : impl_number.f a0 = some (r1, r2)) :
    Calls Tryz.prog 114 #[.string a0] w fun e w' => e = .returned (.tuple #[.int .i64 r1, .bool r2]) ∧ Below w.heap.size w w' := by
  unfold impl_number.f at h; by_cases hs : a0.size ≤ 1000000000; rotate_left
  · rw [if_neg hs] at h; cases h
  rw [if_pos hs] at h; injection h with h
  injection h with h1 h2
  subst h1 h2; cases e : Lib.atoiAll a0.data.toList with
  | ok v =>
    have hne : 0 < a0.size := by
      rcases Nat.eq_zero_or_pos a0.size with h | h
      · have : a0.data.toList = [] := List.length_eq_zero_iff.1 (by rw [Array.length_toList]; exact h)
        rw [this] at e; exact absurd e (atoiAll_nil v)
      · exact h
    have hv := Lib.atoiAll_bounds e; have ev : impl_number.val a0 = v := by unfold impl_number.val; rw [e]
    have eo : impl_number.ok a0 = (decide (impl_number.dig a0 ≤ 18) && (Lib.itoa v == a0.data.toList)) := by unfold impl_number.ok; rw [e]
    rw [ev, eo]; have EV := Lib.hid ev; clear ev eo; have E := Lib.hid e; clear e
    have hei : a0.toList.isEmpty = false := by
      rw [ByteArray.toList_eq]; cases h : a0.data.toList with
      | nil => have : a0.data.toList.length = 0 := by rw [h]; rfl
               rw [Array.length_toList] at this; exact absurd this (by have : a0.data.size = a0.size := rfl; omega)
      | cons _ _ => rfl
    have hit : strconv_Itoa.f v = some ⟨(Lib.itoa v).toArray⟩ := by unfold strconv_Itoa.f; rw [if_pos hv]
    have HIT := Lib.hid hit; have HM := Lib.hid hM; clear hit hM; go_enter Tryz.func114, Tryz.ntmps114; go_wp2_with (first | (go_at_call 140; refine (atoi_good a0 hs v E.out _).mono ?_; rintro e w1 ⟨rfl, a⟩; have HB1 := Lib.hid a; clear a) | (go_at_call 141; refine (strconv_Itoa.calls v _ _ (HM.out.on HB1.out) HIT.out).mono ?_; rintro e w2 ⟨rfl, c⟩; have HB2 := Lib.hid c; clear c)); all_goals go_ret2
    all_goals
      first
      | (refine ⟨num_ret (b := Lib.itoa v == a0.toList) ?_, below_step HB1.out HB2.out⟩
         rw [ByteArray.toList_eq]; first | rw [impl_number.dig_neg hne (by assumption)] | rw [impl_number.dig_pos hne (by assumption)]
         rw [decide_eq_true (by omega), Bool.true_and])
      | (refine ⟨num_ret (b := false) ?_, HB1.out⟩
         first | rw [impl_number.dig_neg hne (by assumption)] | rw [impl_number.dig_pos hne (by assumption)]
         rw [decide_eq_false (by omega), Bool.false_and])
  | «syntax» =>
    exact number_bad a0 hs (fun v h => by rw [e] at h; cases h) (by unfold impl_number.ok; rw [e]) w hM
  | range =>
    exact number_bad a0 hs (fun v h => by rw [e] at h; cases h) (by unfold impl_number.ok; rw [e]) w hM

end Go.Proofs.YthifpohbdbhnlaaGreatDoor.QFnStp
