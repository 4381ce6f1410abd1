/- A tool of this session wrote this text out of the translation: functions as plain Lean, and proofs that the machine's calls come to their answers. -/
import Derived.Test.YtagbjmjfelggmaaDoorQShort
import Derived.Test.YtagbjmjfelggmaaDoorQFnExactReadEventx0
import Derived.Test.YtagbjmjfelggmaaDoorQFnExactReadEventx16
namespace Go.Proofs.YtagbjmjfelggmaaDoor.QFnExactReadEvent
open Go.RowKit Go.Proofs.YtagbjmjfelggmaaDoorW.PrintWords Go.Proofs.YtagbjmjfelggmaaDoorW.PrintLast Go.Proofs.YtagbjmjfelggmaaDoorW.PrintMore
open Go.Proofs.YtagbjmjfelggmaaDoor.Short
attribute [local go_sem] max2_int min2_int max_two min_two max_three min_three max_four min_four   -- for this text's walks alone
set_option linter.unusedVariables false
set_option linter.unusedSimpArgs false

/-! ### impl_ViolationOK: function 27 -/
def impl_ViolationOK.f (k : Nat) (a0_0 : ByteArray) (a0_1 : ByteArray) (a0_2 : ByteArray) (a0_3 : ByteArray) (a0_4 : ByteArray) (a0_5 : ByteArray) (a0_6 : Int) (a0_7 : Int) (a0_8 : Bool) : Option (Bool) := if (mx (mx (mx (a0_0.size : Int) (a0_1.size : Int)) (a0_2.size : Int)) (a0_3.size : Int)) ≤ 100 then ((impl_isRule.f k a0_4).bind fun t244 => (if t244 = true then (if (a0_5.size : Int) ≤ 200 then ((impl_within.f a0_6 0 9999).bind fun t245 => (if t245 = true then ((impl_within.f a0_7 0 9999).bind fun t246 => (some t246)) else (some false))) else (some false)) else (some false))) else (some false)
theorem impl_ViolationOK.mono : ∀ a0 a1 a2 a3 a4 a5 a6 a7 a8 k, LeO (impl_ViolationOK.f k a0 a1 a2 a3 a4 a5 a6 a7 a8) (impl_ViolationOK.f (k + 1) a0 a1 a2 a3 a4 a5 a6 a7 a8) := by
  intro a0 a1 a2 a3 a4 a5 a6 a7 a8 k; unfold impl_ViolationOK.f; repeat' first | (with_reducible exact impl_isRule.mono _ _) | (with_reducible first | exact LeO.refl _ | exact LeO.none _ | refine LeO.ite ?_ ?_ | refine LeO.bind ?_ (fun _ => ?_)) | exact impl_isRule.mono _ _ | exact LeO.none _ | refine LeO.ite ?_ ?_ | refine LeO.bind ?_ (fun _ => ?_)
set_option maxHeartbeats 8000000 in
set_option maxRecDepth 100000 in
theorem impl_ViolationOK.calls (k : Nat) (a0_0 : ByteArray) (a0_1 : ByteArray) (a0_2 : ByteArray) (a0_3 : ByteArray) (a0_4 : ByteArray) (a0_5 : ByteArray) (a0_6 : Int) (a0_7 : Int) (a0_8 : Bool) (r : Bool) (w : World) (h : impl_ViolationOK.f k a0_0 a0_1 a0_2 a0_3 a0_4 a0_5 a0_6 a0_7 a0_8 = some r) :
    Calls Tryd.prog 27 #[.agg #[.string a0_0, .string a0_1, .string a0_2, .string a0_3, .string a0_4, .string a0_5, .int .i64 a0_6, .int .i64 a0_7, .bool a0_8]] w fun e w' => e = .returned (.bool r) ∧ Below w.heap.size w w' := by
 have hu29 := Tryd.underlying29; have HB := Aside0.mk (Below.refl w.heap.size w); have H : (if (mx (mx (mx (a0_0.size : Int) (a0_1.size : Int)) (a0_2.size : Int)) (a0_3.size : Int)) ≤ 100 then ((impl_isRule.f k a0_4).bind fun t244 => (if t244 = true then (if (a0_5.size : Int) ≤ 200 then ((impl_within.f a0_6 0 9999).bind fun t245 => (if t245 = true then ((impl_within.f a0_7 0 9999).bind fun t246 => (some t246)) else (some false))) else (some false)) else (some false))) else (some false)) = some r := h; clear h; obtain ⟨ji2, hji2⟩ : ∃ j_ : Int, (mx (a0_0.size : Int) (a0_1.size : Int)) = j_ := ⟨_, rfl⟩
 replace H : (if (mx (mx (ji2) (a0_2.size : Int)) (a0_3.size : Int)) ≤ 100 then ((impl_isRule.f k a0_4).bind fun t244 => (if t244 = true then (if (a0_5.size : Int) ≤ 200 then ((impl_within.f a0_6 0 9999).bind fun t245 => (if t245 = true then ((impl_within.f a0_7 0 9999).bind fun t246 => (some t246)) else (some false))) else (some false)) else (some false))) else (some false)) = some r := by first | (rw [hji2] at H; exact H) | (simp only [hji2] at H ⊢; exact H)
 (try (have hji2l : 0 ≤ ji2 := by (rw [← hji2]; unfold mx; (repeat' split) <;> omega))); (try (have hji2m : 0 ≤ ji2 := by omega)); have hji2_ : (if (a0_0.size : Int) < (a0_1.size : Int) then (a0_1.size : Int) else (a0_0.size : Int)) = ji2 := hji2; (try (have hji2n_ := hji2_; simp only [Int.ofNat_lt] at hji2n_)); obtain ⟨ji3, hji3⟩ : ∃ j_ : Int, (mx (ji2) (a0_2.size : Int)) = j_ := ⟨_, rfl⟩
 replace H : (if (mx (ji3) (a0_3.size : Int)) ≤ 100 then ((impl_isRule.f k a0_4).bind fun t244 => (if t244 = true then (if (a0_5.size : Int) ≤ 200 then ((impl_within.f a0_6 0 9999).bind fun t245 => (if t245 = true then ((impl_within.f a0_7 0 9999).bind fun t246 => (some t246)) else (some false))) else (some false)) else (some false))) else (some false)) = some r := by first | (rw [hji3] at H; exact H) | (simp only [hji3] at H ⊢; exact H)
 have hji3_ : (if (ji2) < (a0_2.size : Int) then (a0_2.size : Int) else (ji2)) = ji3 := hji3; (try (have hji3n_ := hji3_; simp only [Int.ofNat_lt] at hji3n_)); obtain ⟨ji4, hji4⟩ : ∃ j_ : Int, (mx (ji3) (a0_3.size : Int)) = j_ := ⟨_, rfl⟩
 replace H : (if (ji4) ≤ 100 then ((impl_isRule.f k a0_4).bind fun t244 => (if t244 = true then (if (a0_5.size : Int) ≤ 200 then ((impl_within.f a0_6 0 9999).bind fun t245 => (if t245 = true then ((impl_within.f a0_7 0 9999).bind fun t246 => (some t246)) else (some false))) else (some false)) else (some false))) else (some false)) = some r := by first | (rw [hji4] at H; exact H) | (simp only [hji4] at H ⊢; exact H)
 have hji4_ : (if (ji3) < (a0_3.size : Int) then (a0_3.size : Int) else (ji3)) = ji4 := hji4; (try (have hji4n_ := hji4_; simp only [Int.ofNat_lt] at hji4n_)); by_cases c5 : (ji4) ≤ 100
 ·
  rw [if_pos c5] at H; have c5b0 : decide ((ji4) ≤ 100) = true := decide_eq_true c5; clear c5; obtain ⟨t244, A6, H⟩ := bindE_ H; by_cases c7 : t244 = true
  ·
   subst c7; replace H := ifT_ H; by_cases c8 : (a0_5.size : Int) ≤ 200
   ·
    rw [if_pos c8] at H; have c8b0 : decide ((a0_5.size : Int) ≤ 200) = true := decide_eq_true c8; have c8b1 : decide (a0_5.size ≤ 200) = true := decide_eq_true (by omega); clear c8; obtain ⟨t245, A9, H⟩ := bindE_ H; by_cases c10 : t245 = true
    · subst c10; replace H := ifT_ H; obtain ⟨t246, A11, H⟩ := bindE_ H; obtain rfl := Option.some.inj H; go_enter Tryd.func27, Tryd.ntmps27; go_wp2_with (first | ((with_reducible refine gate_dst (N := 1) rfl ?_); (try (refine gate_guard (by rfl) ?_; dsimp only)); refine box_event ?hg (N := 1) ?hd (cs := #[.string a0_0, .string a0_1, .string a0_2, .string a0_3, .string a0_4, .string a0_5, .int .i64 a0_6, .int .i64 a0_7, .bool a0_8]) (t := 29) ?hr ?_; (case hd => rfl); (case hg => rfl); (case hr => first | (go_simp; done) | (go_simp; rfl)); intro gb243 hg w12 hbox hb; have n0_ := belB_ hb; have n1_ := Aside0.mk (hbox); have n2_ := geE_ (w := w) hg; have n3_ := geE_ (w := w) hg; clear HB; have HB := n0_; have BK243 := n1_; have GW243 := n2_; have GE243 := n3_; clear n0_ n1_ n2_ n3_; clear hb hbox hg; obtain ⟨u13_0, u13_1, u13_2, u13_3, u13_4, u13_5, u13_6, u13_7, u13_8, v13_0, v13_1, v13_2, v13_3, v13_4, v13_5, v13_6, v13_7, v13_8⟩ := cz9_ BK243) | (go_at_call 49; (with_reducible refine (impl_isRule.calls k a0_4 true _ A6.out).mono ?_); rintro e w14 ⟨rfl, hb⟩; replace BK243 := blkK_ BK243 hb; replace HB := belB_ hb; (try clear hb); obtain ⟨u15_0, u15_1, u15_2, u15_3, u15_4, u15_5, u15_6, u15_7, u15_8, v15_0, v15_1, v15_2, v15_3, v15_4, v15_5, v15_6, v15_7, v15_8⟩ := cz9_ BK243) | (go_at_call 28; (with_reducible refine (impl_within.calls a0_6 0 9999 true _ A9.out).mono ?_); rintro e w' ⟨rfl, ⟨nd, rfl⟩⟩) | (go_at_call 28; (with_reducible refine (impl_within.calls a0_7 0 9999 t246 _ A11.out).mono ?_); rintro e w' ⟨rfl, ⟨nd, rfl⟩⟩)); go_ret; exact ⟨by first | rfl | (simp [errW_none, errW_some] <;> rfl) | (simp only [← hji2, ← hji3, ← hji4]; first | rfl | (simp [errW_none, errW_some] <;> rfl)) | (simp [*, errW_none, errW_some] <;> rfl), belE_⟩
    · replace c10 := Bool.eq_false_iff.mpr c10; subst c10; replace H := ifF_ H; obtain rfl := Option.some.inj H; go_enter Tryd.func27, Tryd.ntmps27; go_wp2_with (first | ((with_reducible refine gate_dst (N := 1) rfl ?_); (try (refine gate_guard (by rfl) ?_; dsimp only)); refine box_event ?hg (N := 1) ?hd (cs := #[.string a0_0, .string a0_1, .string a0_2, .string a0_3, .string a0_4, .string a0_5, .int .i64 a0_6, .int .i64 a0_7, .bool a0_8]) (t := 29) ?hr ?_; (case hd => rfl); (case hg => rfl); (case hr => first | (go_simp; done) | (go_simp; rfl)); intro gb243 hg w16 hbox hb; have n0_ := belB_ hb; have n1_ := Aside0.mk (hbox); have n2_ := geE_ (w := w) hg; have n3_ := geE_ (w := w) hg; clear HB; have HB := n0_; have BK243 := n1_; have GW243 := n2_; have GE243 := n3_; clear n0_ n1_ n2_ n3_; clear hb hbox hg; obtain ⟨u17_0, u17_1, u17_2, u17_3, u17_4, u17_5, u17_6, u17_7, u17_8, v17_0, v17_1, v17_2, v17_3, v17_4, v17_5, v17_6, v17_7, v17_8⟩ := cz9_ BK243) | (go_at_call 49; (with_reducible refine (impl_isRule.calls k a0_4 true _ A6.out).mono ?_); rintro e w18 ⟨rfl, hb⟩; replace BK243 := blkK_ BK243 hb; replace HB := belB_ hb; (try clear hb); obtain ⟨u19_0, u19_1, u19_2, u19_3, u19_4, u19_5, u19_6, u19_7, u19_8, v19_0, v19_1, v19_2, v19_3, v19_4, v19_5, v19_6, v19_7, v19_8⟩ := cz9_ BK243) | (go_at_call 28; (with_reducible refine (impl_within.calls a0_6 0 9999 false _ A9.out).mono ?_); rintro e w' ⟨rfl, ⟨nd, rfl⟩⟩)); go_ret; exact ⟨by first | rfl | (simp [errW_none, errW_some] <;> rfl) | (simp only [← hji2, ← hji3, ← hji4]; first | rfl | (simp [errW_none, errW_some] <;> rfl)) | (simp [*, errW_none, errW_some] <;> rfl), belE_⟩
   · rw [if_neg c8] at H; have c8b0 : decide ((a0_5.size : Int) ≤ 200) = false := decide_eq_false c8; have c8b1 : decide (a0_5.size ≤ 200) = false := decide_eq_false (by omega); clear c8; obtain rfl := Option.some.inj H; go_enter Tryd.func27, Tryd.ntmps27; go_wp2_with (first | ((with_reducible refine gate_dst (N := 1) rfl ?_); (try (refine gate_guard (by rfl) ?_; dsimp only)); refine box_event ?hg (N := 1) ?hd (cs := #[.string a0_0, .string a0_1, .string a0_2, .string a0_3, .string a0_4, .string a0_5, .int .i64 a0_6, .int .i64 a0_7, .bool a0_8]) (t := 29) ?hr ?_; (case hd => rfl); (case hg => rfl); (case hr => first | (go_simp; done) | (go_simp; rfl)); intro gb243 hg w20 hbox hb; have n0_ := belB_ hb; have n1_ := Aside0.mk (hbox); have n2_ := geE_ (w := w) hg; have n3_ := geE_ (w := w) hg; clear HB; have HB := n0_; have BK243 := n1_; have GW243 := n2_; have GE243 := n3_; clear n0_ n1_ n2_ n3_; clear hb hbox hg; obtain ⟨u21_0, u21_1, u21_2, u21_3, u21_4, u21_5, u21_6, u21_7, u21_8, v21_0, v21_1, v21_2, v21_3, v21_4, v21_5, v21_6, v21_7, v21_8⟩ := cz9_ BK243) | (go_at_call 49; (with_reducible refine (impl_isRule.calls k a0_4 true _ A6.out).mono ?_); rintro e w22 ⟨rfl, hb⟩; replace BK243 := blkK_ BK243 hb; replace HB := belB_ hb; (try clear hb); obtain ⟨u23_0, u23_1, u23_2, u23_3, u23_4, u23_5, u23_6, u23_7, u23_8, v23_0, v23_1, v23_2, v23_3, v23_4, v23_5, v23_6, v23_7, v23_8⟩ := cz9_ BK243)); go_ret; exact ⟨by first | rfl | (simp [errW_none, errW_some] <;> rfl) | (simp only [← hji2, ← hji3, ← hji4]; first | rfl | (simp [errW_none, errW_some] <;> rfl)) | (simp [*, errW_none, errW_some] <;> rfl), belE_⟩
  · replace c7 := Bool.eq_false_iff.mpr c7; subst c7; replace H := ifF_ H; obtain rfl := Option.some.inj H; go_enter Tryd.func27, Tryd.ntmps27; go_wp2_with (first | ((with_reducible refine gate_dst (N := 1) rfl ?_); (try (refine gate_guard (by rfl) ?_; dsimp only)); refine box_event ?hg (N := 1) ?hd (cs := #[.string a0_0, .string a0_1, .string a0_2, .string a0_3, .string a0_4, .string a0_5, .int .i64 a0_6, .int .i64 a0_7, .bool a0_8]) (t := 29) ?hr ?_; (case hd => rfl); (case hg => rfl); (case hr => first | (go_simp; done) | (go_simp; rfl)); intro gb243 hg w24 hbox hb; have n0_ := belB_ hb; have n1_ := Aside0.mk (hbox); have n2_ := geE_ (w := w) hg; have n3_ := geE_ (w := w) hg; clear HB; have HB := n0_; have BK243 := n1_; have GW243 := n2_; have GE243 := n3_; clear n0_ n1_ n2_ n3_; clear hb hbox hg; obtain ⟨u25_0, u25_1, u25_2, u25_3, u25_4, u25_5, u25_6, u25_7, u25_8, v25_0, v25_1, v25_2, v25_3, v25_4, v25_5, v25_6, v25_7, v25_8⟩ := cz9_ BK243) | (go_at_call 49; (with_reducible refine (impl_isRule.calls k a0_4 false _ A6.out).mono ?_); rintro e w26 ⟨rfl, hb⟩; replace BK243 := blkK_ BK243 hb; replace HB := belB_ hb; (try clear hb))); go_ret; exact ⟨by first | rfl | (simp [errW_none, errW_some] <;> rfl) | (simp only [← hji2, ← hji3, ← hji4]; first | rfl | (simp [errW_none, errW_some] <;> rfl)) | (simp [*, errW_none, errW_some] <;> rfl), belE_⟩
 · rw [if_neg c5] at H; have c5b0 : decide ((ji4) ≤ 100) = false := decide_eq_false c5; clear c5; obtain rfl := Option.some.inj H; go_enter Tryd.func27, Tryd.ntmps27; go_wp2_with (first | ((with_reducible refine gate_dst (N := 1) rfl ?_); (try (refine gate_guard (by rfl) ?_; dsimp only)); refine box_event ?hg (N := 1) ?hd (cs := #[.string a0_0, .string a0_1, .string a0_2, .string a0_3, .string a0_4, .string a0_5, .int .i64 a0_6, .int .i64 a0_7, .bool a0_8]) (t := 29) ?hr ?_; (case hd => rfl); (case hg => rfl); (case hr => first | (go_simp; done) | (go_simp; rfl)); intro gb243 hg w27 hbox hb; have n0_ := belB_ hb; have n1_ := Aside0.mk (hbox); have n2_ := geE_ (w := w) hg; have n3_ := geE_ (w := w) hg; clear HB; have HB := n0_; have BK243 := n1_; have GW243 := n2_; have GE243 := n3_; clear n0_ n1_ n2_ n3_; clear hb hbox hg; obtain ⟨u28_0, u28_1, u28_2, u28_3, u28_4, u28_5, u28_6, u28_7, u28_8, v28_0, v28_1, v28_2, v28_3, v28_4, v28_5, v28_6, v28_7, v28_8⟩ := cz9_ BK243)); go_ret; exact ⟨by first | rfl | (simp [errW_none, errW_some] <;> rfl) | (simp only [← hji2, ← hji3, ← hji4]; first | rfl | (simp [errW_none, errW_some] <;> rfl)) | (simp [*, errW_none, errW_some] <;> rfl), belE_⟩

/-! ### impl_NameOK: function 29 -/
def impl_NameOK.l0 : Nat → ByteArray → Int → Int → Option (Bool)
  | 0, _, _, _ => none
  | k + 1, x0, x11, x12 => if x12 < x11 then (if 0 ≤ x12 then (if x12 < (x0.size : Int) then (if 97 ≤ (bt x0 x12) then (if (bt x0 x12) ≤ 122 then (impl_NameOK.l0 k x0 x11 (wrap64 (x12 + 1))) else (if 65 ≤ (bt x0 x12) then (if (bt x0 x12) ≤ 90 then (impl_NameOK.l0 k x0 x11 (wrap64 (x12 + 1))) else (if ((bt x0 x12) = 95) then (impl_NameOK.l0 k x0 x11 (wrap64 (x12 + 1))) else (if x12 = 0 then (some false) else (if (bt x0 x12) < 48 then (some false) else (if (bt x0 x12) > 57 then (some false) else (impl_NameOK.l0 k x0 x11 (wrap64 (x12 + 1)))))))) else (if ((bt x0 x12) = 95) then (impl_NameOK.l0 k x0 x11 (wrap64 (x12 + 1))) else (if x12 = 0 then (some false) else (if (bt x0 x12) < 48 then (some false) else (if (bt x0 x12) > 57 then (some false) else (impl_NameOK.l0 k x0 x11 (wrap64 (x12 + 1))))))))) else (if 65 ≤ (bt x0 x12) then (if (bt x0 x12) ≤ 90 then (impl_NameOK.l0 k x0 x11 (wrap64 (x12 + 1))) else (if ((bt x0 x12) = 95) then (impl_NameOK.l0 k x0 x11 (wrap64 (x12 + 1))) else (if x12 = 0 then (some false) else (if (bt x0 x12) < 48 then (some false) else (if (bt x0 x12) > 57 then (some false) else (impl_NameOK.l0 k x0 x11 (wrap64 (x12 + 1)))))))) else (if ((bt x0 x12) = 95) then (impl_NameOK.l0 k x0 x11 (wrap64 (x12 + 1))) else (if x12 = 0 then (some false) else (if (bt x0 x12) < 48 then (some false) else (if (bt x0 x12) > 57 then (some false) else (impl_NameOK.l0 k x0 x11 (wrap64 (x12 + 1))))))))) else (none)) else (none)) else (some true)
def impl_NameOK.f (k : Nat) (a0 : ByteArray) : Option (Bool) := (impl_within.f (a0.size : Int) 1 12).bind fun t247 => (if t247 = true then (impl_NameOK.l0 k a0 (a0.size : Int) 0) else (some false))
theorem impl_NameOK.mono_l : ∀ k, (∀ y0 y1 y2, LeO (impl_NameOK.l0 k y0 y1 y2) (impl_NameOK.l0 (k + 1) y0 y1 y2))
  | 0 => fun _ _ _ r h => by simp [impl_NameOK.l0] at h
  | k + 1 => by
    have ih0 := impl_NameOK.mono_l k
    · intro y0 y1 y2
      unfold impl_NameOK.l0; repeat' first | (with_reducible exact ih0 _ _ _) | (with_reducible first | exact LeO.refl _ | exact LeO.none _ | refine LeO.ite ?_ ?_ | refine LeO.bind ?_ (fun _ => ?_)) | exact ih0 _ _ _ | exact LeO.none _ | refine LeO.ite ?_ ?_ | refine LeO.bind ?_ (fun _ => ?_)
theorem impl_NameOK.mono : ∀ a0 k, LeO (impl_NameOK.f k a0) (impl_NameOK.f (k + 1) a0) := by
  intro a0 k; have ih0 := impl_NameOK.mono_l k; unfold impl_NameOK.f; repeat' first | (with_reducible exact ih0 _ _ _) | (with_reducible first | exact LeO.refl _ | exact LeO.none _ | refine LeO.ite ?_ ?_ | refine LeO.bind ?_ (fun _ => ?_)) | exact ih0 _ _ _ | exact LeO.none _ | refine LeO.ite ?_ ?_ | refine LeO.bind ?_ (fun _ => ?_)
set_option maxHeartbeats 8000000 in
set_option maxRecDepth 100000 in
theorem impl_NameOK.calls (k : Nat) (a0 : ByteArray) (r : Bool) (w : World) (h : impl_NameOK.f k a0 = some r) :
    Calls Tryd.prog 29 #[.string a0] w fun e w' => e = .returned (.bool r) ∧ Drawn0 w w' := by
 have H : ((impl_within.f (a0.size : Int) 1 12).bind fun t247 => (if t247 = true then (impl_NameOK.l0 k a0 (a0.size : Int) 0) else (some false))) = some r := h; clear h; obtain ⟨t247, A2, H⟩ := bindE_ H; by_cases c3 : t247 = true
 ·
  subst c3; replace H := ifT_ H; have H' := Aside0.mk H; clear H; go_enter Tryd.func29, Tryd.ntmps29; go_wp2_with (first | ((with_reducible refine gate_callee (f := 28) rfl ?_); refine cU_ (some 8) Tryd.func28 #[.int .i64 (a0.size : Int), .int .i64 1, .int .i64 12] ?_; (with_reducible refine (impl_within.calls (a0.size : Int) 1 12 true _ A2.out).mono ?_); rintro e w' ⟨rfl, ⟨nd, rfl⟩⟩; refine ⟨_, rfl, ?_⟩)); go_loopg [12] k (fun kq v12 w' => ∃ (x12_1 : Int), v12 = .int .i64 x12_1 ∧ Aside0 (impl_NameOK.l0 kq a0 (a0.size : Int) x12_1 = some r) ∧ Aside0 (kq ≤ k) ∧ Drawn0 w w')
  case atStart => exact ⟨(0), eqE_, H', ⟨Nat.le_refl _⟩, drE_⟩
  case round =>
   clear H'; try clear c3
   obtain ⟨x12_1, rfl, HA, HK1, ⟨m1, rfl⟩⟩ := hrel; cases gk with
   | zero => exact absurd HA.out (by simp [impl_NameOK.l0])
   | succ k1 =>
    have H := HA.out; clear HA; simp only [impl_NameOK.l0] at H; by_cases c4 : x12_1 < (a0.size : Int)
    ·
     rw [if_pos c4] at H; have c4b0 : decide (x12_1 < (a0.size : Int)) = true := decide_eq_true c4; clear c4; by_cases c5 : 0 ≤ x12_1
     ·
      rw [if_pos c5] at H; have c5b0 : decide (0 ≤ x12_1) = true := decide_eq_true c5; clear c5; by_cases c6 : x12_1 < (a0.size : Int)
      ·
       rw [if_pos c6] at H; have c6b0 : decide (x12_1 < (a0.size : Int)) = true := decide_eq_true c6; clear c6; by_cases c8 : 97 ≤ (bt a0 x12_1)
       ·
        rw [if_pos c8] at H; have c8b0 : decide (97 ≤ (bt a0 x12_1)) = true := decide_eq_true c8; clear c8; by_cases c9 : (bt a0 x12_1) ≤ 122
        ·
         rw [if_pos c9] at H; have c9b0 : decide ((bt a0 x12_1) ≤ 122) = true := decide_eq_true c9; clear c9; have H' := Aside0.mk H; clear H; have p7 : 0 ≤ (x12_1 : Int) := ofd_; have q7 : x12_1 < (a0.size : Int) := ofd_; have hx7 := bt_at a0 x12_1; replace p7 := eq_true p7; replace q7 := eq_true q7; go_wp2; go_roundg k1
         case measure => have := HK1.out; omega
         case rel => exact ⟨(wrap64 (x12_1 + 1)), eqE_, H', ⟨by have := HK1.out; omega⟩, drE_⟩
        ·
         rw [if_neg c9] at H; have c9b0 : decide ((bt a0 x12_1) ≤ 122) = false := decide_eq_false c9; clear c9; by_cases c10 : 65 ≤ (bt a0 x12_1)
         ·
          rw [if_pos c10] at H; have c10b0 : decide (65 ≤ (bt a0 x12_1)) = true := decide_eq_true c10; clear c10; by_cases c11 : (bt a0 x12_1) ≤ 90
          ·
           rw [if_pos c11] at H; have c11b0 : decide ((bt a0 x12_1) ≤ 90) = true := decide_eq_true c11; clear c11; have H' := Aside0.mk H; clear H; have p7 : 0 ≤ (x12_1 : Int) := ofd_; have q7 : x12_1 < (a0.size : Int) := ofd_; have hx7 := bt_at a0 x12_1; replace p7 := eq_true p7; replace q7 := eq_true q7; go_wp2; go_roundg k1
           case measure => have := HK1.out; omega
           case rel => exact ⟨(wrap64 (x12_1 + 1)), eqE_, H', ⟨by have := HK1.out; omega⟩, drE_⟩
          ·
           rw [if_neg c11] at H; have c11b0 : decide ((bt a0 x12_1) ≤ 90) = false := decide_eq_false c11; clear c11; by_cases c12 : ((bt a0 x12_1) = 95)
           ·
            rw [if_pos c12] at H; have c12b0 : ((bt a0 x12_1) == 95) = true := beq_iff_eq.mpr c12; have c12b1 : ((bt a0 x12_1) != 95) = false := bne_eq_false_iff_eq.mpr c12; clear c12; have H' := Aside0.mk H; clear H; have p7 : 0 ≤ (x12_1 : Int) := ofd_; have q7 : x12_1 < (a0.size : Int) := ofd_; have hx7 := bt_at a0 x12_1; replace p7 := eq_true p7; replace q7 := eq_true q7; go_wp2; go_roundg k1
            case measure => have := HK1.out; omega
            case rel => exact ⟨(wrap64 (x12_1 + 1)), eqE_, H', ⟨by have := HK1.out; omega⟩, drE_⟩
           ·
            rw [if_neg c12] at H; have c12b0 : ((bt a0 x12_1) == 95) = false := beq_eq_false_iff_ne.mpr c12; have c12b1 : ((bt a0 x12_1) != 95) = true := bne_iff_ne.mpr c12; by_cases c13 : x12_1 = 0
            · rw [if_pos c13] at H; have c13b0 : (x12_1 == 0) = true := beq_iff_eq.mpr c13; have c13b1 : (x12_1 != 0) = false := bne_eq_false_iff_eq.mpr c13; clear c13; obtain rfl := Option.some.inj H; have p7 : 0 ≤ (x12_1 : Int) := ofd_; have q7 : x12_1 < (a0.size : Int) := ofd_; have hx7 := bt_at a0 x12_1; replace p7 := eq_true p7; replace q7 := eq_true q7; go_wp2; go_ret; exact ⟨eqE_, drE_⟩
            ·
             rw [if_neg c13] at H; have c13b0 : (x12_1 == 0) = false := beq_eq_false_iff_ne.mpr c13; have c13b1 : (x12_1 != 0) = true := bne_iff_ne.mpr c13; by_cases c14 : (bt a0 x12_1) < 48
             · rw [if_pos c14] at H; have c14b0 : decide ((bt a0 x12_1) < 48) = true := decide_eq_true c14; clear c14; obtain rfl := Option.some.inj H; have p7 : 0 ≤ (x12_1 : Int) := ofd_; have q7 : x12_1 < (a0.size : Int) := ofd_; have hx7 := bt_at a0 x12_1; replace p7 := eq_true p7; replace q7 := eq_true q7; go_wp2; go_ret; exact ⟨eqE_, drE_⟩
             ·
              rw [if_neg c14] at H; have c14b0 : decide ((bt a0 x12_1) < 48) = false := decide_eq_false c14; clear c14; by_cases c15 : (bt a0 x12_1) > 57
              · rw [if_pos c15] at H; have c15b0 : decide (57 < (bt a0 x12_1)) = true := decide_eq_true c15; clear c15; obtain rfl := Option.some.inj H; have p7 : 0 ≤ (x12_1 : Int) := ofd_; have q7 : x12_1 < (a0.size : Int) := ofd_; have hx7 := bt_at a0 x12_1; replace p7 := eq_true p7; replace q7 := eq_true q7; go_wp2; go_ret; exact ⟨eqE_, drE_⟩
              ·
               rw [if_neg c15] at H; have c15b0 : decide (57 < (bt a0 x12_1)) = false := decide_eq_false c15; clear c15; have H' := Aside0.mk H; clear H; have p7 : 0 ≤ (x12_1 : Int) := ofd_; have q7 : x12_1 < (a0.size : Int) := ofd_; have hx7 := bt_at a0 x12_1; replace p7 := eq_true p7; replace q7 := eq_true q7; go_wp2; go_roundg k1
               case measure => have := HK1.out; omega
               case rel => exact ⟨(wrap64 (x12_1 + 1)), eqE_, H', ⟨by have := HK1.out; omega⟩, drE_⟩
         ·
          rw [if_neg c10] at H; have c10b0 : decide (65 ≤ (bt a0 x12_1)) = false := decide_eq_false c10; clear c10; by_cases c16 : ((bt a0 x12_1) = 95)
          ·
           rw [if_pos c16] at H; have c16b0 : ((bt a0 x12_1) == 95) = true := beq_iff_eq.mpr c16; have c16b1 : ((bt a0 x12_1) != 95) = false := bne_eq_false_iff_eq.mpr c16; clear c16; have H' := Aside0.mk H; clear H; have p7 : 0 ≤ (x12_1 : Int) := ofd_; have q7 : x12_1 < (a0.size : Int) := ofd_; have hx7 := bt_at a0 x12_1; replace p7 := eq_true p7; replace q7 := eq_true q7; go_wp2; go_roundg k1
           case measure => have := HK1.out; omega
           case rel => exact ⟨(wrap64 (x12_1 + 1)), eqE_, H', ⟨by have := HK1.out; omega⟩, drE_⟩
          ·
           rw [if_neg c16] at H; have c16b0 : ((bt a0 x12_1) == 95) = false := beq_eq_false_iff_ne.mpr c16; have c16b1 : ((bt a0 x12_1) != 95) = true := bne_iff_ne.mpr c16; by_cases c17 : x12_1 = 0
           · rw [if_pos c17] at H; have c17b0 : (x12_1 == 0) = true := beq_iff_eq.mpr c17; have c17b1 : (x12_1 != 0) = false := bne_eq_false_iff_eq.mpr c17; clear c17; obtain rfl := Option.some.inj H; have p7 : 0 ≤ (x12_1 : Int) := ofd_; have q7 : x12_1 < (a0.size : Int) := ofd_; have hx7 := bt_at a0 x12_1; replace p7 := eq_true p7; replace q7 := eq_true q7; go_wp2; go_ret; exact ⟨eqE_, drE_⟩
           ·
            rw [if_neg c17] at H; have c17b0 : (x12_1 == 0) = false := beq_eq_false_iff_ne.mpr c17; have c17b1 : (x12_1 != 0) = true := bne_iff_ne.mpr c17; by_cases c18 : (bt a0 x12_1) < 48
            · rw [if_pos c18] at H; have c18b0 : decide ((bt a0 x12_1) < 48) = true := decide_eq_true c18; clear c18; obtain rfl := Option.some.inj H; have p7 : 0 ≤ (x12_1 : Int) := ofd_; have q7 : x12_1 < (a0.size : Int) := ofd_; have hx7 := bt_at a0 x12_1; replace p7 := eq_true p7; replace q7 := eq_true q7; go_wp2; go_ret; exact ⟨eqE_, drE_⟩
            ·
             rw [if_neg c18] at H; have c18b0 : decide ((bt a0 x12_1) < 48) = false := decide_eq_false c18; clear c18; by_cases c19 : (bt a0 x12_1) > 57
             · rw [if_pos c19] at H; have c19b0 : decide (57 < (bt a0 x12_1)) = true := decide_eq_true c19; clear c19; obtain rfl := Option.some.inj H; have p7 : 0 ≤ (x12_1 : Int) := ofd_; have q7 : x12_1 < (a0.size : Int) := ofd_; have hx7 := bt_at a0 x12_1; replace p7 := eq_true p7; replace q7 := eq_true q7; go_wp2; go_ret; exact ⟨eqE_, drE_⟩
             ·
              rw [if_neg c19] at H; have c19b0 : decide (57 < (bt a0 x12_1)) = false := decide_eq_false c19; clear c19; have H' := Aside0.mk H; clear H; have p7 : 0 ≤ (x12_1 : Int) := ofd_; have q7 : x12_1 < (a0.size : Int) := ofd_; have hx7 := bt_at a0 x12_1; replace p7 := eq_true p7; replace q7 := eq_true q7; go_wp2; go_roundg k1
              case measure => have := HK1.out; omega
              case rel => exact ⟨(wrap64 (x12_1 + 1)), eqE_, H', ⟨by have := HK1.out; omega⟩, drE_⟩
       ·
        rw [if_neg c8] at H; have c8b0 : decide (97 ≤ (bt a0 x12_1)) = false := decide_eq_false c8; clear c8; by_cases c20 : 65 ≤ (bt a0 x12_1)
        ·
         rw [if_pos c20] at H; have c20b0 : decide (65 ≤ (bt a0 x12_1)) = true := decide_eq_true c20; clear c20; by_cases c21 : (bt a0 x12_1) ≤ 90
         ·
          rw [if_pos c21] at H; have c21b0 : decide ((bt a0 x12_1) ≤ 90) = true := decide_eq_true c21; clear c21; have H' := Aside0.mk H; clear H; have p7 : 0 ≤ (x12_1 : Int) := ofd_; have q7 : x12_1 < (a0.size : Int) := ofd_; have hx7 := bt_at a0 x12_1; replace p7 := eq_true p7; replace q7 := eq_true q7; go_wp2; go_roundg k1
          case measure => have := HK1.out; omega
          case rel => exact ⟨(wrap64 (x12_1 + 1)), eqE_, H', ⟨by have := HK1.out; omega⟩, drE_⟩
         ·
          rw [if_neg c21] at H; have c21b0 : decide ((bt a0 x12_1) ≤ 90) = false := decide_eq_false c21; clear c21; by_cases c22 : ((bt a0 x12_1) = 95)
          ·
           rw [if_pos c22] at H; have c22b0 : ((bt a0 x12_1) == 95) = true := beq_iff_eq.mpr c22; have c22b1 : ((bt a0 x12_1) != 95) = false := bne_eq_false_iff_eq.mpr c22; clear c22; have H' := Aside0.mk H; clear H; have p7 : 0 ≤ (x12_1 : Int) := ofd_; have q7 : x12_1 < (a0.size : Int) := ofd_; have hx7 := bt_at a0 x12_1; replace p7 := eq_true p7; replace q7 := eq_true q7; go_wp2; go_roundg k1
           case measure => have := HK1.out; omega
           case rel => exact ⟨(wrap64 (x12_1 + 1)), eqE_, H', ⟨by have := HK1.out; omega⟩, drE_⟩
          ·
           rw [if_neg c22] at H; have c22b0 : ((bt a0 x12_1) == 95) = false := beq_eq_false_iff_ne.mpr c22; have c22b1 : ((bt a0 x12_1) != 95) = true := bne_iff_ne.mpr c22; by_cases c23 : x12_1 = 0
           · rw [if_pos c23] at H; have c23b0 : (x12_1 == 0) = true := beq_iff_eq.mpr c23; have c23b1 : (x12_1 != 0) = false := bne_eq_false_iff_eq.mpr c23; clear c23; obtain rfl := Option.some.inj H; have p7 : 0 ≤ (x12_1 : Int) := ofd_; have q7 : x12_1 < (a0.size : Int) := ofd_; have hx7 := bt_at a0 x12_1; replace p7 := eq_true p7; replace q7 := eq_true q7; go_wp2; go_ret; exact ⟨eqE_, drE_⟩
           ·
            rw [if_neg c23] at H; have c23b0 : (x12_1 == 0) = false := beq_eq_false_iff_ne.mpr c23; have c23b1 : (x12_1 != 0) = true := bne_iff_ne.mpr c23; by_cases c24 : (bt a0 x12_1) < 48
            · rw [if_pos c24] at H; have c24b0 : decide ((bt a0 x12_1) < 48) = true := decide_eq_true c24; clear c24; obtain rfl := Option.some.inj H; have p7 : 0 ≤ (x12_1 : Int) := ofd_; have q7 : x12_1 < (a0.size : Int) := ofd_; have hx7 := bt_at a0 x12_1; replace p7 := eq_true p7; replace q7 := eq_true q7; go_wp2; go_ret; exact ⟨eqE_, drE_⟩
            ·
             rw [if_neg c24] at H; have c24b0 : decide ((bt a0 x12_1) < 48) = false := decide_eq_false c24; clear c24; by_cases c25 : (bt a0 x12_1) > 57
             · rw [if_pos c25] at H; have c25b0 : decide (57 < (bt a0 x12_1)) = true := decide_eq_true c25; clear c25; obtain rfl := Option.some.inj H; have p7 : 0 ≤ (x12_1 : Int) := ofd_; have q7 : x12_1 < (a0.size : Int) := ofd_; have hx7 := bt_at a0 x12_1; replace p7 := eq_true p7; replace q7 := eq_true q7; go_wp2; go_ret; exact ⟨eqE_, drE_⟩
             ·
              rw [if_neg c25] at H; have c25b0 : decide (57 < (bt a0 x12_1)) = false := decide_eq_false c25; clear c25; have H' := Aside0.mk H; clear H; have p7 : 0 ≤ (x12_1 : Int) := ofd_; have q7 : x12_1 < (a0.size : Int) := ofd_; have hx7 := bt_at a0 x12_1; replace p7 := eq_true p7; replace q7 := eq_true q7; go_wp2; go_roundg k1
              case measure => have := HK1.out; omega
              case rel => exact ⟨(wrap64 (x12_1 + 1)), eqE_, H', ⟨by have := HK1.out; omega⟩, drE_⟩
        ·
         rw [if_neg c20] at H; have c20b0 : decide (65 ≤ (bt a0 x12_1)) = false := decide_eq_false c20; clear c20; by_cases c26 : ((bt a0 x12_1) = 95)
         ·
          rw [if_pos c26] at H; have c26b0 : ((bt a0 x12_1) == 95) = true := beq_iff_eq.mpr c26; have c26b1 : ((bt a0 x12_1) != 95) = false := bne_eq_false_iff_eq.mpr c26; clear c26; have H' := Aside0.mk H; clear H; have p7 : 0 ≤ (x12_1 : Int) := ofd_; have q7 : x12_1 < (a0.size : Int) := ofd_; have hx7 := bt_at a0 x12_1; replace p7 := eq_true p7; replace q7 := eq_true q7; go_wp2; go_roundg k1
          case measure => have := HK1.out; omega
          case rel => exact ⟨(wrap64 (x12_1 + 1)), eqE_, H', ⟨by have := HK1.out; omega⟩, drE_⟩
         ·
          rw [if_neg c26] at H; have c26b0 : ((bt a0 x12_1) == 95) = false := beq_eq_false_iff_ne.mpr c26; have c26b1 : ((bt a0 x12_1) != 95) = true := bne_iff_ne.mpr c26; by_cases c27 : x12_1 = 0
          · rw [if_pos c27] at H; have c27b0 : (x12_1 == 0) = true := beq_iff_eq.mpr c27; have c27b1 : (x12_1 != 0) = false := bne_eq_false_iff_eq.mpr c27; clear c27; obtain rfl := Option.some.inj H; have p7 : 0 ≤ (x12_1 : Int) := ofd_; have q7 : x12_1 < (a0.size : Int) := ofd_; have hx7 := bt_at a0 x12_1; replace p7 := eq_true p7; replace q7 := eq_true q7; go_wp2; go_ret; exact ⟨eqE_, drE_⟩
          ·
           rw [if_neg c27] at H; have c27b0 : (x12_1 == 0) = false := beq_eq_false_iff_ne.mpr c27; have c27b1 : (x12_1 != 0) = true := bne_iff_ne.mpr c27; by_cases c28 : (bt a0 x12_1) < 48
           · rw [if_pos c28] at H; have c28b0 : decide ((bt a0 x12_1) < 48) = true := decide_eq_true c28; clear c28; obtain rfl := Option.some.inj H; have p7 : 0 ≤ (x12_1 : Int) := ofd_; have q7 : x12_1 < (a0.size : Int) := ofd_; have hx7 := bt_at a0 x12_1; replace p7 := eq_true p7; replace q7 := eq_true q7; go_wp2; go_ret; exact ⟨eqE_, drE_⟩
           ·
            rw [if_neg c28] at H; have c28b0 : decide ((bt a0 x12_1) < 48) = false := decide_eq_false c28; clear c28; by_cases c29 : (bt a0 x12_1) > 57
            · rw [if_pos c29] at H; have c29b0 : decide (57 < (bt a0 x12_1)) = true := decide_eq_true c29; clear c29; obtain rfl := Option.some.inj H; have p7 : 0 ≤ (x12_1 : Int) := ofd_; have q7 : x12_1 < (a0.size : Int) := ofd_; have hx7 := bt_at a0 x12_1; replace p7 := eq_true p7; replace q7 := eq_true q7; go_wp2; go_ret; exact ⟨eqE_, drE_⟩
            ·
             rw [if_neg c29] at H; have c29b0 : decide (57 < (bt a0 x12_1)) = false := decide_eq_false c29; clear c29; have H' := Aside0.mk H; clear H; have p7 : 0 ≤ (x12_1 : Int) := ofd_; have q7 : x12_1 < (a0.size : Int) := ofd_; have hx7 := bt_at a0 x12_1; replace p7 := eq_true p7; replace q7 := eq_true q7; go_wp2; go_roundg k1
             case measure => have := HK1.out; omega
             case rel => exact ⟨(wrap64 (x12_1 + 1)), eqE_, H', ⟨by have := HK1.out; omega⟩, drE_⟩
      · rw [if_neg c6] at H; exact absurd H (by simp)
     · rw [if_neg c5] at H; exact absurd H (by simp)
    · rw [if_neg c4] at H; have c4b0 : decide (x12_1 < (a0.size : Int)) = false := decide_eq_false c4; clear c4; obtain rfl := Option.some.inj H; go_wp2; go_ret; exact ⟨eqE_, drE_⟩
 · replace c3 := Bool.eq_false_iff.mpr c3; subst c3; replace H := ifF_ H; obtain rfl := Option.some.inj H; go_enter Tryd.func29, Tryd.ntmps29; go_wp2_with (first | ((with_reducible refine gate_callee (f := 28) rfl ?_); refine cU_ (some 8) Tryd.func28 #[.int .i64 (a0.size : Int), .int .i64 1, .int .i64 12] ?_; (with_reducible refine (impl_within.calls (a0.size : Int) 1 12 false _ A2.out).mono ?_); rintro e w' ⟨rfl, ⟨nd, rfl⟩⟩; refine ⟨_, rfl, ?_⟩)); go_ret; exact ⟨eqE_, drE_⟩

/-! ### impl_isNow: function 30 -/
def impl_isNow.f (a0 : Int) : Option (Bool) := (impl_within.f a0 0 1000000).bind fun t248 => (some t248)
set_option maxHeartbeats 8000000 in
set_option maxRecDepth 100000 in
theorem impl_isNow.calls (a0 : Int) (r : Bool) (w : World) (h : impl_isNow.f a0 = some r) :
    Calls Tryd.prog 30 #[.int .i64 a0] w fun e w' => e = .returned (.bool r) ∧ Drawn0 w w' := by
 have H : ((impl_within.f a0 0 1000000).bind fun t248 => (some t248)) = some r := h; clear h; obtain ⟨t248, A2, H⟩ := bindE_ H; obtain rfl := Option.some.inj H; go_enter Tryd.func30, Tryd.ntmps30; go_wp2_with (first | ((with_reducible refine gate_callee (f := 28) rfl ?_); refine cU_ (some 4) Tryd.func28 #[.int .i64 a0, .int .i64 0, .int .i64 1000000] ?_; (with_reducible refine (impl_within.calls a0 0 1000000 t248 _ A2.out).mono ?_); rintro e w' ⟨rfl, ⟨nd, rfl⟩⟩; refine ⟨_, rfl, ?_⟩)); go_ret; exact ⟨eqE_, drE_⟩

/-! ### impl_isStatus: function 31 -/
def impl_isStatus.f (a0 : Int) : Option (Bool) := (impl_within.f a0 100 599).bind fun t249 => (some t249)
set_option maxHeartbeats 8000000 in
set_option maxRecDepth 100000 in
theorem impl_isStatus.calls (a0 : Int) (r : Bool) (w : World) (h : impl_isStatus.f a0 = some r) :
    Calls Tryd.prog 31 #[.int .i64 a0] w fun e w' => e = .returned (.bool r) ∧ Drawn0 w w' := by
 have H : ((impl_within.f a0 100 599).bind fun t249 => (some t249)) = some r := h; clear h; obtain ⟨t249, A2, H⟩ := bindE_ H; obtain rfl := Option.some.inj H; go_enter Tryd.func31, Tryd.ntmps31; go_wp2_with (first | ((with_reducible refine gate_callee (f := 28) rfl ?_); refine cU_ (some 4) Tryd.func28 #[.int .i64 a0, .int .i64 100, .int .i64 599] ?_; (with_reducible refine (impl_within.calls a0 100 599 t249 _ A2.out).mono ?_); rintro e w' ⟨rfl, ⟨nd, rfl⟩⟩; refine ⟨_, rfl, ?_⟩)); go_ret; exact ⟨eqE_, drE_⟩

end Go.Proofs.YtagbjmjfelggmaaDoor.QFnExactReadEvent
