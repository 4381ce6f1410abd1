/- A tool of this session wrote this text out of the translation: functions as plain Lean, and proofs that the machine's calls come to their answers. -/
import Derived.Test.YthfcmloofifipaaDoorQSteps
import Derived.Test.YthfcmloofifipaaDoorQFnExactUrlOKx0
import Derived.Test.YthfcmloofifipaaDoorQFnExactUrlOKx1
import Derived.Test.YthfcmloofifipaaDoorQFnExactUrlOKx7
import Derived.Test.YthfcmloofifipaaDoorQFnExactUrlOKx8
import Derived.Test.YthfcmloofifipaaDoorQFnExactUrlOKx9
namespace Go.Proofs.YthfcmloofifipaaDoor.QFnExactUrlOK
open Go.RowKit Go.Proofs.YthfcmloofifipaaDoorW.PrintWords Go.Proofs.YthfcmloofifipaaDoorW.PrintLast Go.Proofs.YthfcmloofifipaaDoorW.PrintMore
open Bool renaming true → Y, false → Z
open Go.Proofs.YthfcmloofifipaaDoor.Steps
attribute [local go_sem] max2_int min2_int max_two min_two max_three min_three max_four min_four   -- for this text's walks alone
set_option linter.unusedVariables false
set_option linter.unusedSimpArgs false

attribute [local go_sem high] eqA26
/-! ### impl_UrlOK: function 13 -/
def impl_UrlOK.j0 : Nat → Bool → ByteArray → ByteArray → ByteArray → Int → ByteArray → ByteArray → ByteArray → Bool → Bool → Option (Bool)
  | 0, _, _, _, _, _, _, _, _, _, _ => none
  | k + 1, x52, x162000, x162001, x162002, x162003, x162004, x162005, x162006, x162007, x162008 => if x52 = true then (some false) else ((strings_ContainsAny.f x162004 (⟨#[63, 35]⟩ : ByteArray)).bind fun t165 => (if t165 = true then (some false) else ((impl_Url_web.f x162000 x162001 x162002 x162003 x162004 x162005 x162006 x162007 x162008).bind fun t166 => (if t166 = true then ((strings_ContainsAny.f x162001 (⟨#[47, 63, 35, 64]⟩ : ByteArray)).bind fun t167 => (if t167 = true then (some false) else ((impl_isHost.f k x162002).bind fun t168 => (if t168 = true then ((impl_within.f x162003 0 65535).bind fun t169 => (if t169 = true then ((impl_usual.f x162000).bind fun t170 => (if x162003 = t170 then (some false) else ((strings_HasPrefix.f x162004 (⟨#[47]⟩ : ByteArray)).bind fun t171 => (if t171 = true then ((strings_Contains.f x162005 (⟨#[35]⟩ : ByteArray)).bind fun t172 => (if t172 = true then (some false) else (if x162007 = true then (if x162008 = true then (some true) else (some (x162006.toList == ([] : List UInt8)))) else (if x162005.toList = ([] : List UInt8) then (if x162008 = true then (some true) else (some (x162006.toList == ([] : List UInt8)))) else (some false))))) else (some false))))) else (some false))) else (some false))))) else (some (x162001.toList == ([] : List UInt8) && (x162002.toList == ([] : List UInt8) && (x162003 == 0 && (x162005.toList == ([] : List UInt8) && (x162006.toList == ([] : List UInt8) && (!x162007 && (!x162008))))))))))))
def impl_UrlOK.f (k : Nat) (a0_0 : ByteArray) (a0_1 : ByteArray) (a0_2 : ByteArray) (a0_3 : Int) (a0_4 : ByteArray) (a0_5 : ByteArray) (a0_6 : ByteArray) (a0_7 : Bool) (a0_8 : Bool) : Option (Bool) := (impl_isScheme.f k a0_0).bind fun t162 => (if t162 = true then (if (wrap64 ((wrap64 ((wrap64 ((wrap64 ((a0_1.size : Int) + (a0_2.size : Int))) + (a0_4.size : Int))) + (a0_5.size : Int))) + (a0_6.size : Int))) > 100 then (impl_UrlOK.j0 k true a0_0 a0_1 a0_2 a0_3 a0_4 a0_5 a0_6 a0_7 a0_8) else ((impl_Url_text.f k a0_0 a0_1 a0_2 a0_3 a0_4 a0_5 a0_6 a0_7 a0_8).bind fun t163 => (if (t163.size : Int) > 100 then (impl_UrlOK.j0 k true a0_0 a0_1 a0_2 a0_3 a0_4 a0_5 a0_6 a0_7 a0_8) else (if a0_1.size + a0_2.size ≤ 9223372036854775807 then (if (a0_1 ++ a0_2).size + a0_4.size ≤ 9223372036854775807 then (if ((a0_1 ++ a0_2) ++ a0_4).size + a0_5.size ≤ 9223372036854775807 then (if (((a0_1 ++ a0_2) ++ a0_4) ++ a0_5).size + a0_6.size ≤ 9223372036854775807 then ((impl_areShown.f k ((((a0_1 ++ a0_2) ++ a0_4) ++ a0_5) ++ a0_6)).bind fun t164 => (impl_UrlOK.j0 k (!t164) a0_0 a0_1 a0_2 a0_3 a0_4 a0_5 a0_6 a0_7 a0_8)) else (none)) else (none)) else (none)) else (none))))) else (impl_UrlOK.j0 k true a0_0 a0_1 a0_2 a0_3 a0_4 a0_5 a0_6 a0_7 a0_8))
theorem impl_UrlOK.mono_l : ∀ k, (∀ y0 y1 y2 y3 y4 y5 y6 y7 y8 y9, LeO (impl_UrlOK.j0 k y0 y1 y2 y3 y4 y5 y6 y7 y8 y9) (impl_UrlOK.j0 (k + 1) y0 y1 y2 y3 y4 y5 y6 y7 y8 y9))
  | 0 => fun _ _ _ _ _ _ _ _ _ _ r h => by simp [impl_UrlOK.j0] at h
  | k + 1 => by
    have ih0 := impl_UrlOK.mono_l k
    · intro y0 y1 y2 y3 y4 y5 y6 y7 y8 y9
      unfold impl_UrlOK.j0
      repeat' first
      | (with_reducible exact ih0 _ _ _ _ _ _ _ _ _ _)
      | (with_reducible exact impl_Url_text.mono _ _ _ _ _ _ _ _ _ _)
      | (with_reducible exact impl_areShown.mono _ _)
      | (with_reducible exact impl_isHost.mono _ _)
      | (with_reducible exact impl_isScheme.mono _ _)
      | (with_reducible exact LeO.refl _)
      | (with_reducible exact LeO.none _)
      | (with_reducible refine LeO.ite ?_ ?_)
      | (with_reducible refine LeO.bind ?_ (fun _ => ?_))
      | exact ih0 _ _ _ _ _ _ _ _ _ _
      | exact impl_Url_text.mono _ _ _ _ _ _ _ _ _ _
      | exact impl_areShown.mono _ _
      | exact impl_isHost.mono _ _
      | exact impl_isScheme.mono _ _
      | exact LeO.none _
      | refine LeO.ite ?_ ?_
      | refine LeO.bind ?_ (fun _ => ?_)
theorem impl_UrlOK.mono : ∀ a0 a1 a2 a3 a4 a5 a6 a7 a8 k, LeO (impl_UrlOK.f k a0 a1 a2 a3 a4 a5 a6 a7 a8) (impl_UrlOK.f (k + 1) a0 a1 a2 a3 a4 a5 a6 a7 a8) := by
  intro a0 a1 a2 a3 a4 a5 a6 a7 a8 k
  have ih0 := impl_UrlOK.mono_l k
  unfold impl_UrlOK.f
  repeat' first
      | (with_reducible exact ih0 _ _ _ _ _ _ _ _ _ _)
      | (with_reducible exact impl_Url_text.mono _ _ _ _ _ _ _ _ _ _)
      | (with_reducible exact impl_areShown.mono _ _)
      | (with_reducible exact impl_isHost.mono _ _)
      | (with_reducible exact impl_isScheme.mono _ _)
      | (with_reducible exact LeO.refl _)
      | (with_reducible exact LeO.none _)
      | (with_reducible refine LeO.ite ?_ ?_)
      | (with_reducible refine LeO.bind ?_ (fun _ => ?_))
      | exact ih0 _ _ _ _ _ _ _ _ _ _
      | exact impl_Url_text.mono _ _ _ _ _ _ _ _ _ _
      | exact impl_areShown.mono _ _
      | exact impl_isHost.mono _ _
      | exact impl_isScheme.mono _ _
      | exact LeO.none _
      | refine LeO.ite ?_ ?_
      | refine LeO.bind ?_ (fun _ => ?_)
def impl_UrlOK.T7 : Bool × List (List Nat × List Nat) := (true, [([], []), ([0], [0]), ([1], [1]), ([2], [2]), ([3, 2], [3]), ([4], [4]), ([5, 4], [4, 5]), ([6, 4, 4], [4, 6]), ([4, 7], [4, 7]), ([8, 7], [8]), ([9], [9]), ([10, 9], [9, 10]), ([11, 9, 9], [9, 11]), ([9, 12], [9, 12]), ([13, 12], [13]), ([14], [14]), ([15, 14], [14, 15]), ([14], [14]), ([17, 14], [14, 17]), ([18, 14, 14], [14, 18]), ([16, 19, 14], [14, 16, 19]), ([14, 20], [14, 20]), ([21, 19], [21]), ([22], [22]), ([23, 22], [22, 23]), ([24, 22, 22], [22, 24]), ([22, 25], [22, 25]), ([26, 25], [26]), ([27], [27]), ([28, 27], [27, 28]), ([29, 27, 27], [27, 29]), ([30, 27], [27, 30]), ([27, 31], [27, 31]), ([32, 30], [32]), ([33], [33]), ([34, 33], [33, 34]), ([35, 33, 33], [33, 35]), ([36], [36]), ([37, 36], [36, 37]), ([38, 36], [36, 38]), ([36, 39, 33], [33, 36, 39]), ([33, 40], [33, 40]), ([41, 36], [41]), ([42], [42]), ([43, 42], [42, 43]), ([44, 42, 42], [42, 44]), ([45], [45]), ([46, 45], [45, 46]), ([47, 45], [45, 47]), ([45, 48, 42], [42, 45, 48]), ([42, 49], [42, 49]), ([50, 45, 0, 1, 2, 3, 4, 5, 6, 7, 8, 9, 10, 11, 12, 13, 14, 15, 16, 17, 18, 19, 20, 21, 22, 23, 24, 25, 26, 27, 28, 29, 30, 31, 32, 33, 34, 35, 36, 37, 38, 39, 40, 41, 42, 43, 44, 45, 46, 47, 48, 49, 50], [50])])
def impl_UrlOK.B7 : List Nat := [0, 1, 3, 7, 15, 31, 63, 127, 255, 511, 1023, 2047, 4095, 8191, 16383, 32767, 65535, 32767, 163839, 425983, 1048575, 2097151, 4194303, 8388607, 16777215, 33554431, 67108863, 134217727, 268435455, 536870911, 1073741823, 2147483647, 4294967295, 8589934591, 17179869183, 34359738367, 68719476735, 137438953471, 274877906943, 549755813887, 1099511627775, 2199023255551, 4398046511103, 8796093022207, 17592186044415, 35184372088831, 70368744177663, 140737488355327, 281474976710655, 562949953421311, 1125899906842623, 2251799813685247]
theorem impl_UrlOK.tab7 : rtab .any (opsOf Tryd.f13 7) = impl_UrlOK.T7 := by kernel_rfl
theorem impl_UrlOK.bits7 : waitsOk impl_UrlOK.T7.2 impl_UrlOK.B7 = true := by kernel_rfl
set_option maxHeartbeats 8000000 in
set_option maxRecDepth 100000 in
theorem impl_UrlOK.calls (k : Nat) (a0_0 : ByteArray) (a0_1 : ByteArray) (a0_2 : ByteArray) (a0_3 : Int) (a0_4 : ByteArray) (a0_5 : ByteArray) (a0_6 : ByteArray) (a0_7 : Bool) (a0_8 : Bool) (r : Bool) (w : World) (hM : Amb w) (h : impl_UrlOK.f k a0_0 a0_1 a0_2 a0_3 a0_4 a0_5 a0_6 a0_7 a0_8 = some r) :
    Calls Tryd.prog 13 #[.agg #[.string a0_0, .string a0_1, .string a0_2, .int .i64 a0_3, .string a0_4, .string a0_5, .string a0_6, .bool a0_7, .bool a0_8]] w fun e w' => e = .returned (.bool r) ∧ Below w.heap.size w w' := by
 have hu26 := Tryd.underlying26
 have HB := Aside0.mk (Below.refl w.heap.size w)
 have HM := Aside0.mk hM
 clear hM
 have H : ((impl_isScheme.f k a0_0).bind fun t162 => (if t162 = true then (if (wrap64 ((wrap64 ((wrap64 ((wrap64 ((a0_1.size : Int) + (a0_2.size : Int))) + (a0_4.size : Int))) + (a0_5.size : Int))) + (a0_6.size : Int))) > 100 then (impl_UrlOK.j0 k true a0_0 a0_1 a0_2 a0_3 a0_4 a0_5 a0_6 a0_7 a0_8) else ((impl_Url_text.f k a0_0 a0_1 a0_2 a0_3 a0_4 a0_5 a0_6 a0_7 a0_8).bind fun t163 => (if (t163.size : Int) > 100 then (impl_UrlOK.j0 k true a0_0 a0_1 a0_2 a0_3 a0_4 a0_5 a0_6 a0_7 a0_8) else (if a0_1.size + a0_2.size ≤ 9223372036854775807 then (if (a0_1 ++ a0_2).size + a0_4.size ≤ 9223372036854775807 then (if ((a0_1 ++ a0_2) ++ a0_4).size + a0_5.size ≤ 9223372036854775807 then (if (((a0_1 ++ a0_2) ++ a0_4) ++ a0_5).size + a0_6.size ≤ 9223372036854775807 then ((impl_areShown.f k ((((a0_1 ++ a0_2) ++ a0_4) ++ a0_5) ++ a0_6)).bind fun t164 => (impl_UrlOK.j0 k (!t164) a0_0 a0_1 a0_2 a0_3 a0_4 a0_5 a0_6 a0_7 a0_8)) else (none)) else (none)) else (none)) else (none))))) else (impl_UrlOK.j0 k true a0_0 a0_1 a0_2 a0_3 a0_4 a0_5 a0_6 a0_7 a0_8))) = some r := h
 clear h
 have HC2 := Aside0.mk H
 clear H
 go_enter Tryd.func13, Tryd.ntmps13
 go_upto_region 1 with (first | ((with_reducible refine gate_dst (N := 1) rfl ?_); (try (refine gate_guard (by rfl) ?_; dsimp only)); refine box_event ?hg (N := 1) ?hd (cs := #[.string a0_0, .string a0_1, .string a0_2, .int .i64 a0_3, .string a0_4, .string a0_5, .string a0_6, .bool a0_7, .bool a0_8]) (t := 26) ?hr ?_; (case hd => rfl); (case hg => rfl); (case hr => first | (go_simp; done) | (go_simp; rfl)); intro gb161 hg w3 hbox hb; have n0_ := Aside0.mk (below_step (by repeat (first | (with_reducible first | exact HB.out | apply below_alloc | apply pw_below_drewN | apply below_drew1) | exact HB.out)) hb); have n1_ := Aside0.mk (hbox); have n2_ := Aside0.mk ((by rw [hg]; exact (below_size (by repeat (first | (with_reducible first | exact HB.out | apply below_alloc | apply pw_below_drewN | apply below_drew1) | exact HB.out))) : w.heap.size ≤ gb161)); have n3_ := Aside0.mk ((by rw [hg]; exact (below_size (by repeat (first | (with_reducible first | exact HB.out | apply below_alloc | apply pw_below_drewN | apply below_drew1) | exact HB.out))) : w.heap.size ≤ gb161)); clear HB; have HB := n0_; have BK161 := n1_; have GW161 := n2_; have GE161 := n3_; clear n0_ n1_ n2_ n3_; clear hb hbox hg))
 (try simp only [Act.put, List.setIfInBounds_toArray, List.set_cons_zero, List.set_cons_succ])
 go_cut [52] (fun v52 wc => ∃ (kq : Nat) (x52_1 : Bool), v52 = .bool x52_1 ∧ Aside0 (impl_UrlOK.j0 kq x52_1 a0_0 a0_1 a0_2 a0_3 a0_4 a0_5 a0_6 a0_7 a0_8 = some r) ∧ Aside0 (kq ≤ k) ∧ Aside0 (wc.heap[gb161]? = some (.cells #[.string a0_0, .string a0_1, .string a0_2, .int .i64 a0_3, .string a0_4, .string a0_5, .string a0_6, .bool a0_7, .bool a0_8] 26 (0, 0))) ∧ Aside0 (Below w.heap.size w wc))
 case first =>
  have H := HC2.out
  clear HC2
  replace H := Option.bind_eq_some_iff.mp H
  obtain ⟨t162, A40, H⟩ := H
  replace H : (if t162 = true then (if (wrap64 ((wrap64 ((wrap64 ((wrap64 ((a0_1.size : Int) + (a0_2.size : Int))) + (a0_4.size : Int))) + (a0_5.size : Int))) + (a0_6.size : Int))) > 100 then (impl_UrlOK.j0 k true a0_0 a0_1 a0_2 a0_3 a0_4 a0_5 a0_6 a0_7 a0_8) else ((impl_Url_text.f k a0_0 a0_1 a0_2 a0_3 a0_4 a0_5 a0_6 a0_7 a0_8).bind fun t163 => (if (t163.size : Int) > 100 then (impl_UrlOK.j0 k true a0_0 a0_1 a0_2 a0_3 a0_4 a0_5 a0_6 a0_7 a0_8) else (if a0_1.size + a0_2.size ≤ 9223372036854775807 then (if (a0_1 ++ a0_2).size + a0_4.size ≤ 9223372036854775807 then (if ((a0_1 ++ a0_2) ++ a0_4).size + a0_5.size ≤ 9223372036854775807 then (if (((a0_1 ++ a0_2) ++ a0_4) ++ a0_5).size + a0_6.size ≤ 9223372036854775807 then ((impl_areShown.f k ((((a0_1 ++ a0_2) ++ a0_4) ++ a0_5) ++ a0_6)).bind fun t164 => (impl_UrlOK.j0 k (!t164) a0_0 a0_1 a0_2 a0_3 a0_4 a0_5 a0_6 a0_7 a0_8)) else (none)) else (none)) else (none)) else (none))))) else (impl_UrlOK.j0 k true a0_0 a0_1 a0_2 a0_3 a0_4 a0_5 a0_6 a0_7 a0_8)) = some r := H
  have A4 := Aside0.mk A40
  clear A40
  by_cases c5 : t162 = true
  ·
   subst c5
   have H1 : (if (wrap64 ((wrap64 ((wrap64 ((wrap64 ((a0_1.size : Int) + (a0_2.size : Int))) + (a0_4.size : Int))) + (a0_5.size : Int))) + (a0_6.size : Int))) > 100 then (impl_UrlOK.j0 k true a0_0 a0_1 a0_2 a0_3 a0_4 a0_5 a0_6 a0_7 a0_8) else ((impl_Url_text.f k a0_0 a0_1 a0_2 a0_3 a0_4 a0_5 a0_6 a0_7 a0_8).bind fun t163 => (if (t163.size : Int) > 100 then (impl_UrlOK.j0 k true a0_0 a0_1 a0_2 a0_3 a0_4 a0_5 a0_6 a0_7 a0_8) else (if a0_1.size + a0_2.size ≤ 9223372036854775807 then (if (a0_1 ++ a0_2).size + a0_4.size ≤ 9223372036854775807 then (if ((a0_1 ++ a0_2) ++ a0_4).size + a0_5.size ≤ 9223372036854775807 then (if (((a0_1 ++ a0_2) ++ a0_4) ++ a0_5).size + a0_6.size ≤ 9223372036854775807 then ((impl_areShown.f k ((((a0_1 ++ a0_2) ++ a0_4) ++ a0_5) ++ a0_6)).bind fun t164 => (impl_UrlOK.j0 k (!t164) a0_0 a0_1 a0_2 a0_3 a0_4 a0_5 a0_6 a0_7 a0_8)) else (none)) else (none)) else (none)) else (none))))) = some r := by rw [if_pos rfl] at H; exact H
   clear H
   have H := H1
   clear H1
   by_cases c6 : (wrap64 ((wrap64 ((wrap64 ((wrap64 ((a0_1.size : Int) + (a0_2.size : Int))) + (a0_4.size : Int))) + (a0_5.size : Int))) + (a0_6.size : Int))) > 100
   ·
    rw [if_pos c6] at H
    have c6b0 : decide (100 < (wrap64 ((wrap64 ((wrap64 ((wrap64 ((a0_1.size : Int) + (a0_2.size : Int))) + (a0_4.size : Int))) + (a0_5.size : Int))) + (a0_6.size : Int)))) = true := decide_eq_true c6
    clear c6
    (first | rw [c6b0] | (simp only [i64_w, i32_w]; rw [c6b0]) | skip)
    have H' := Aside0.mk H
    clear H
    have hcz7_0 : w3.cell? ⟨gb161, 0, none⟩ = some (.string a0_0) := (blk_cell BK161.out 0).trans rfl
    have hcz7_1 : w3.cell? ⟨gb161, 1, none⟩ = some (.string a0_1) := (blk_cell BK161.out 1).trans rfl
    have hcz7_2 : w3.cell? ⟨gb161, 2, none⟩ = some (.string a0_2) := (blk_cell BK161.out 2).trans rfl
    have hcz7_3 : w3.cell? ⟨gb161, 3, none⟩ = some (.int .i64 a0_3) := (blk_cell BK161.out 3).trans rfl
    have hcz7_4 : w3.cell? ⟨gb161, 4, none⟩ = some (.string a0_4) := (blk_cell BK161.out 4).trans rfl
    have hcz7_5 : w3.cell? ⟨gb161, 5, none⟩ = some (.string a0_5) := (blk_cell BK161.out 5).trans rfl
    have hcz7_6 : w3.cell? ⟨gb161, 6, none⟩ = some (.string a0_6) := (blk_cell BK161.out 6).trans rfl
    have hcz7_7 : w3.cell? ⟨gb161, 7, none⟩ = some (.bool a0_7) := (blk_cell BK161.out 7).trans rfl
    have hcz7_8 : w3.cell? ⟨gb161, 8, none⟩ = some (.bool a0_8) := (blk_cell BK161.out 8).trans rfl
    have hfz7_0 := blk_frozen BK161.out 0
    have hfz7_1 := blk_frozen BK161.out 1
    have hfz7_2 := blk_frozen BK161.out 2
    have hfz7_3 := blk_frozen BK161.out 3
    have hfz7_4 := blk_frozen BK161.out 4
    have hfz7_5 := blk_frozen BK161.out 5
    have hfz7_6 := blk_frozen BK161.out 6
    have hfz7_7 := blk_frozen BK161.out 7
    have hfz7_8 := blk_frozen BK161.out 8
    go_wp2_with (first | ((with_reducible refine gate_callee (f := 28) rfl ?_); refine goesL_ (some 5) rfl rfl Tryd.func28 (by kernel_rfl) rfl #[.string a0_0] rfl (by (try simp only [List.map_toArray, List.map_cons, List.map_nil]); first | done | rfl | (simp only [List.length_drop, List.length_take]; rfl)) ?_; (with_reducible refine (impl_isScheme.calls k a0_0 true _ A4.out).mono ?_); rintro e w8 ⟨rfl, hb⟩; refine ⟨_, rfl, ?_⟩; have n0_ := Aside0.mk (blk_below (g := gb161) (o := .cells #[.string a0_0, .string a0_1, .string a0_2, .int .i64 a0_3, .string a0_4, .string a0_5, .string a0_6, .bool a0_7, .bool a0_8] 26 (0, 0)) (by (with_reducible repeat (first | refine blk_drewN ?_ _ | refine blk_drew ?_ | refine blk_alloc ?_ _)); exact BK161.out) hb); have n1_ := Aside0.mk (below_step (by repeat (first | (with_reducible first | exact HB.out | apply below_alloc | apply pw_below_drewN | apply below_drew1 | refine below_set ?_ GE161.out) | exact HB.out)) hb); clear BK161; clear HB; have BK161 := n0_; have HB := n1_; clear n0_ n1_; (try clear hb); (try clear hb2); (try clear hk); (try clear hi); have hcz9_0 : w8.cell? ⟨gb161, 0, none⟩ = some (.string a0_0) := (blk_cell BK161.out 0).trans rfl; have hcz9_1 : w8.cell? ⟨gb161, 1, none⟩ = some (.string a0_1) := (blk_cell BK161.out 1).trans rfl; have hcz9_2 : w8.cell? ⟨gb161, 2, none⟩ = some (.string a0_2) := (blk_cell BK161.out 2).trans rfl; have hcz9_3 : w8.cell? ⟨gb161, 3, none⟩ = some (.int .i64 a0_3) := (blk_cell BK161.out 3).trans rfl; have hcz9_4 : w8.cell? ⟨gb161, 4, none⟩ = some (.string a0_4) := (blk_cell BK161.out 4).trans rfl; have hcz9_5 : w8.cell? ⟨gb161, 5, none⟩ = some (.string a0_5) := (blk_cell BK161.out 5).trans rfl; have hcz9_6 : w8.cell? ⟨gb161, 6, none⟩ = some (.string a0_6) := (blk_cell BK161.out 6).trans rfl; have hcz9_7 : w8.cell? ⟨gb161, 7, none⟩ = some (.bool a0_7) := (blk_cell BK161.out 7).trans rfl; have hcz9_8 : w8.cell? ⟨gb161, 8, none⟩ = some (.bool a0_8) := (blk_cell BK161.out 8).trans rfl; have hfz9_0 := blk_frozen BK161.out 0; have hfz9_1 := blk_frozen BK161.out 1; have hfz9_2 := blk_frozen BK161.out 2; have hfz9_3 := blk_frozen BK161.out 3; have hfz9_4 := blk_frozen BK161.out 4; have hfz9_5 := blk_frozen BK161.out 5; have hfz9_6 := blk_frozen BK161.out 6; have hfz9_7 := blk_frozen BK161.out 7; have hfz9_8 := blk_frozen BK161.out 8))
    go_meet
    case rel => exact ⟨_, (true), (by first | rfl | (simp; done) | (simp [*]; done) | (simp only [bne_empty_]; rfl)), H', ⟨by first | omega | exact Nat.le_refl _⟩, ⟨by (with_reducible repeat (first | refine blk_drewN ?_ _ | refine blk_drew ?_ | refine blk_alloc ?_ _)); exact BK161.out⟩, ⟨by repeat (first | (with_reducible first | exact HB.out | apply below_alloc | apply pw_below_drewN | apply below_drew1 | refine below_set ?_ GE161.out) | exact HB.out)⟩⟩
   ·
    rw [if_neg c6] at H
    have c6b0 : decide (100 < (wrap64 ((wrap64 ((wrap64 ((wrap64 ((a0_1.size : Int) + (a0_2.size : Int))) + (a0_4.size : Int))) + (a0_5.size : Int))) + (a0_6.size : Int)))) = false := decide_eq_false c6
    clear c6
    (first | rw [c6b0] | (simp only [i64_w, i32_w]; rw [c6b0]) | skip)
    replace H := Option.bind_eq_some_iff.mp H
    obtain ⟨t163, A100, H⟩ := H
    replace H : (if (t163.size : Int) > 100 then (impl_UrlOK.j0 k true a0_0 a0_1 a0_2 a0_3 a0_4 a0_5 a0_6 a0_7 a0_8) else (if a0_1.size + a0_2.size ≤ 9223372036854775807 then (if (a0_1 ++ a0_2).size + a0_4.size ≤ 9223372036854775807 then (if ((a0_1 ++ a0_2) ++ a0_4).size + a0_5.size ≤ 9223372036854775807 then (if (((a0_1 ++ a0_2) ++ a0_4) ++ a0_5).size + a0_6.size ≤ 9223372036854775807 then ((impl_areShown.f k ((((a0_1 ++ a0_2) ++ a0_4) ++ a0_5) ++ a0_6)).bind fun t164 => (impl_UrlOK.j0 k (!t164) a0_0 a0_1 a0_2 a0_3 a0_4 a0_5 a0_6 a0_7 a0_8)) else (none)) else (none)) else (none)) else (none))) = some r := H
    have A10 := Aside0.mk A100
    clear A100
    by_cases c11 : (t163.size : Int) > 100
    ·
     rw [if_pos c11] at H
     have c11b0 : decide (100 < (t163.size : Int)) = true := decide_eq_true c11
     have c11b1 : decide (100 < t163.size) = true := decide_eq_true (by omega)
     clear c11
     have H' := Aside0.mk H
     clear H
     have hcz12_0 : w3.cell? ⟨gb161, 0, none⟩ = some (.string a0_0) := (blk_cell BK161.out 0).trans rfl
     have hcz12_1 : w3.cell? ⟨gb161, 1, none⟩ = some (.string a0_1) := (blk_cell BK161.out 1).trans rfl
     have hcz12_2 : w3.cell? ⟨gb161, 2, none⟩ = some (.string a0_2) := (blk_cell BK161.out 2).trans rfl
     have hcz12_3 : w3.cell? ⟨gb161, 3, none⟩ = some (.int .i64 a0_3) := (blk_cell BK161.out 3).trans rfl
     have hcz12_4 : w3.cell? ⟨gb161, 4, none⟩ = some (.string a0_4) := (blk_cell BK161.out 4).trans rfl
     have hcz12_5 : w3.cell? ⟨gb161, 5, none⟩ = some (.string a0_5) := (blk_cell BK161.out 5).trans rfl
     have hcz12_6 : w3.cell? ⟨gb161, 6, none⟩ = some (.string a0_6) := (blk_cell BK161.out 6).trans rfl
     have hcz12_7 : w3.cell? ⟨gb161, 7, none⟩ = some (.bool a0_7) := (blk_cell BK161.out 7).trans rfl
     have hcz12_8 : w3.cell? ⟨gb161, 8, none⟩ = some (.bool a0_8) := (blk_cell BK161.out 8).trans rfl
     have hfz12_0 := blk_frozen BK161.out 0
     have hfz12_1 := blk_frozen BK161.out 1
     have hfz12_2 := blk_frozen BK161.out 2
     have hfz12_3 := blk_frozen BK161.out 3
     have hfz12_4 := blk_frozen BK161.out 4
     have hfz12_5 := blk_frozen BK161.out 5
     have hfz12_6 := blk_frozen BK161.out 6
     have hfz12_7 := blk_frozen BK161.out 7
     have hfz12_8 := blk_frozen BK161.out 8
     go_wp2_with (first | ((with_reducible refine gate_callee (f := 28) rfl ?_); refine goesL_ (some 5) rfl rfl Tryd.func28 (by kernel_rfl) rfl #[.string a0_0] rfl (by (try simp only [List.map_toArray, List.map_cons, List.map_nil]); first | done | rfl | (simp only [List.length_drop, List.length_take]; rfl)) ?_; (with_reducible refine (impl_isScheme.calls k a0_0 true _ A4.out).mono ?_); rintro e w13 ⟨rfl, hb⟩; refine ⟨_, rfl, ?_⟩; have n0_ := Aside0.mk (blk_below (g := gb161) (o := .cells #[.string a0_0, .string a0_1, .string a0_2, .int .i64 a0_3, .string a0_4, .string a0_5, .string a0_6, .bool a0_7, .bool a0_8] 26 (0, 0)) (by (with_reducible repeat (first | refine blk_drewN ?_ _ | refine blk_drew ?_ | refine blk_alloc ?_ _)); exact BK161.out) hb); have n1_ := Aside0.mk (below_step (by repeat (first | (with_reducible first | exact HB.out | apply below_alloc | apply pw_below_drewN | apply below_drew1 | refine below_set ?_ GE161.out) | exact HB.out)) hb); clear BK161; clear HB; have BK161 := n0_; have HB := n1_; clear n0_ n1_; (try clear hb); (try clear hb2); (try clear hk); (try clear hi); have hcz14_0 : w13.cell? ⟨gb161, 0, none⟩ = some (.string a0_0) := (blk_cell BK161.out 0).trans rfl; have hcz14_1 : w13.cell? ⟨gb161, 1, none⟩ = some (.string a0_1) := (blk_cell BK161.out 1).trans rfl; have hcz14_2 : w13.cell? ⟨gb161, 2, none⟩ = some (.string a0_2) := (blk_cell BK161.out 2).trans rfl; have hcz14_3 : w13.cell? ⟨gb161, 3, none⟩ = some (.int .i64 a0_3) := (blk_cell BK161.out 3).trans rfl; have hcz14_4 : w13.cell? ⟨gb161, 4, none⟩ = some (.string a0_4) := (blk_cell BK161.out 4).trans rfl; have hcz14_5 : w13.cell? ⟨gb161, 5, none⟩ = some (.string a0_5) := (blk_cell BK161.out 5).trans rfl; have hcz14_6 : w13.cell? ⟨gb161, 6, none⟩ = some (.string a0_6) := (blk_cell BK161.out 6).trans rfl; have hcz14_7 : w13.cell? ⟨gb161, 7, none⟩ = some (.bool a0_7) := (blk_cell BK161.out 7).trans rfl; have hcz14_8 : w13.cell? ⟨gb161, 8, none⟩ = some (.bool a0_8) := (blk_cell BK161.out 8).trans rfl; have hfz14_0 := blk_frozen BK161.out 0; have hfz14_1 := blk_frozen BK161.out 1; have hfz14_2 := blk_frozen BK161.out 2; have hfz14_3 := blk_frozen BK161.out 3; have hfz14_4 := blk_frozen BK161.out 4; have hfz14_5 := blk_frozen BK161.out 5; have hfz14_6 := blk_frozen BK161.out 6; have hfz14_7 := blk_frozen BK161.out 7; have hfz14_8 := blk_frozen BK161.out 8) | (go_at_call 29; (with_reducible refine (impl_Url_text.calls k a0_0 a0_1 a0_2 a0_3 a0_4 a0_5 a0_6 a0_7 a0_8 t163 _ ?side1 A10.out).mono ?_); (case side1 => exact Amb.on HM.out (by repeat (first | (with_reducible first | exact HB.out | apply below_alloc | apply pw_below_drewN | apply below_drew1 | refine below_set ?_ GE161.out) | exact HB.out))); rintro e w15 ⟨rfl, hb⟩; have n0_ := Aside0.mk (blk_below (g := gb161) (o := .cells #[.string a0_0, .string a0_1, .string a0_2, .int .i64 a0_3, .string a0_4, .string a0_5, .string a0_6, .bool a0_7, .bool a0_8] 26 (0, 0)) (by (with_reducible repeat (first | refine blk_drewN ?_ _ | refine blk_drew ?_ | refine blk_alloc ?_ _)); exact BK161.out) hb); have n1_ := Aside0.mk (below_step (by repeat (first | (with_reducible first | exact HB.out | apply below_alloc | apply pw_below_drewN | apply below_drew1 | refine below_set ?_ GE161.out) | exact HB.out)) hb); clear BK161; clear HB; have BK161 := n0_; have HB := n1_; clear n0_ n1_; (try clear hb); (try clear hb2); (try clear hk); (try clear hi)))
     go_meet
     case rel => exact ⟨_, (true), (by first | rfl | (simp; done) | (simp [*]; done) | (simp only [bne_empty_]; rfl)), H', ⟨by first | omega | exact Nat.le_refl _⟩, ⟨by (with_reducible repeat (first | refine blk_drewN ?_ _ | refine blk_drew ?_ | refine blk_alloc ?_ _)); exact BK161.out⟩, ⟨by repeat (first | (with_reducible first | exact HB.out | apply below_alloc | apply pw_below_drewN | apply below_drew1 | refine below_set ?_ GE161.out) | exact HB.out)⟩⟩
    ·
     rw [if_neg c11] at H
     have c11b0 : decide (100 < (t163.size : Int)) = false := decide_eq_false c11
     have c11b1 : decide (100 < t163.size) = false := decide_eq_false (by omega)
     clear c11
     by_cases c16 : a0_1.size + a0_2.size ≤ 9223372036854775807
     ·
      rw [if_pos c16] at H
      (have wq_ : wrap64 ((a0_1.size : Int) + (a0_2.size : Int)) = (a0_1.size : Int) + (a0_2.size : Int) := by unfold wrap64; omega); (try rw [wq_] at c6b0); clear wq_
      (have wq_ : wrap64 ((a0_1.size : Int) + (a0_2.size : Int)) = (a0_1.size : Int) + (a0_2.size : Int) := by unfold wrap64; omega); (try rw [wq_] at c6b0); clear wq_
      have c16b0 := eq_true c16
      have c16b1 : decide (a0_1.size + a0_2.size ≤ 9223372036854775807) = true := decide_eq_true c16
      try have c16b2 : (9223372036854775807 < a0_1.size + a0_2.size) = False := eq_false (Nat.not_lt.2 c16)
      try (have c16b3 := c16b0; simp only [ByteArray.size_extract, ByteArray.size_append, bsize_lit, List.length_cons, List.length_nil, Nat.reduceAdd, Nat.zero_add] at c16b3)
      try (have c16b4 := c16b1; simp only [ByteArray.size_extract, ByteArray.size_append, bsize_lit, List.length_cons, List.length_nil, Nat.reduceAdd, Nat.zero_add] at c16b4)
      try (have c16b5 := c16b2; simp only [ByteArray.size_extract, ByteArray.size_append, bsize_lit, List.length_cons, List.length_nil, Nat.reduceAdd, Nat.zero_add] at c16b5)
      by_cases c17 : (a0_1 ++ a0_2).size + a0_4.size ≤ 9223372036854775807
      ·
       rw [if_pos c17] at H
       have c17b0 := eq_true c17
       have c17b1 : decide ((a0_1 ++ a0_2).size + a0_4.size ≤ 9223372036854775807) = true := decide_eq_true c17
       try have c17b2 : (9223372036854775807 < (a0_1 ++ a0_2).size + a0_4.size) = False := eq_false (Nat.not_lt.2 c17)
       try (have c17b3 := c17b0; simp only [ByteArray.size_extract, ByteArray.size_append, bsize_lit, List.length_cons, List.length_nil, Nat.reduceAdd, Nat.zero_add] at c17b3)
       try (have c17b4 := c17b1; simp only [ByteArray.size_extract, ByteArray.size_append, bsize_lit, List.length_cons, List.length_nil, Nat.reduceAdd, Nat.zero_add] at c17b4)
       try (have c17b5 := c17b2; simp only [ByteArray.size_extract, ByteArray.size_append, bsize_lit, List.length_cons, List.length_nil, Nat.reduceAdd, Nat.zero_add] at c17b5)
       by_cases c18 : ((a0_1 ++ a0_2) ++ a0_4).size + a0_5.size ≤ 9223372036854775807
       ·
        rw [if_pos c18] at H
        have c18b0 := eq_true c18
        have c18b1 : decide (((a0_1 ++ a0_2) ++ a0_4).size + a0_5.size ≤ 9223372036854775807) = true := decide_eq_true c18
        try have c18b2 : (9223372036854775807 < ((a0_1 ++ a0_2) ++ a0_4).size + a0_5.size) = False := eq_false (Nat.not_lt.2 c18)
        try (have c18b3 := c18b0; simp only [ByteArray.size_extract, ByteArray.size_append, bsize_lit, List.length_cons, List.length_nil, Nat.reduceAdd, Nat.zero_add] at c18b3)
        try (have c18b4 := c18b1; simp only [ByteArray.size_extract, ByteArray.size_append, bsize_lit, List.length_cons, List.length_nil, Nat.reduceAdd, Nat.zero_add] at c18b4)
        try (have c18b5 := c18b2; simp only [ByteArray.size_extract, ByteArray.size_append, bsize_lit, List.length_cons, List.length_nil, Nat.reduceAdd, Nat.zero_add] at c18b5)
        by_cases c19 : (((a0_1 ++ a0_2) ++ a0_4) ++ a0_5).size + a0_6.size ≤ 9223372036854775807
        ·
         rw [if_pos c19] at H
         have c19b0 := eq_true c19
         have c19b1 : decide ((((a0_1 ++ a0_2) ++ a0_4) ++ a0_5).size + a0_6.size ≤ 9223372036854775807) = true := decide_eq_true c19
         try have c19b2 : (9223372036854775807 < (((a0_1 ++ a0_2) ++ a0_4) ++ a0_5).size + a0_6.size) = False := eq_false (Nat.not_lt.2 c19)
         try (have c19b3 := c19b0; simp only [ByteArray.size_extract, ByteArray.size_append, bsize_lit, List.length_cons, List.length_nil, Nat.reduceAdd, Nat.zero_add] at c19b3)
         try (have c19b4 := c19b1; simp only [ByteArray.size_extract, ByteArray.size_append, bsize_lit, List.length_cons, List.length_nil, Nat.reduceAdd, Nat.zero_add] at c19b4)
         try (have c19b5 := c19b2; simp only [ByteArray.size_extract, ByteArray.size_append, bsize_lit, List.length_cons, List.length_nil, Nat.reduceAdd, Nat.zero_add] at c19b5)
         replace H := Option.bind_eq_some_iff.mp H
         obtain ⟨t164, A200, H⟩ := H
         replace H : (impl_UrlOK.j0 k (!t164) a0_0 a0_1 a0_2 a0_3 a0_4 a0_5 a0_6 a0_7 a0_8) = some r := H
         have A20 := Aside0.mk A200
         clear A200
         have H' := Aside0.mk H
         clear H
         have hcz21_0 : w3.cell? ⟨gb161, 0, none⟩ = some (.string a0_0) := (blk_cell BK161.out 0).trans rfl
         have hcz21_1 : w3.cell? ⟨gb161, 1, none⟩ = some (.string a0_1) := (blk_cell BK161.out 1).trans rfl
         have hcz21_2 : w3.cell? ⟨gb161, 2, none⟩ = some (.string a0_2) := (blk_cell BK161.out 2).trans rfl
         have hcz21_3 : w3.cell? ⟨gb161, 3, none⟩ = some (.int .i64 a0_3) := (blk_cell BK161.out 3).trans rfl
         have hcz21_4 : w3.cell? ⟨gb161, 4, none⟩ = some (.string a0_4) := (blk_cell BK161.out 4).trans rfl
         have hcz21_5 : w3.cell? ⟨gb161, 5, none⟩ = some (.string a0_5) := (blk_cell BK161.out 5).trans rfl
         have hcz21_6 : w3.cell? ⟨gb161, 6, none⟩ = some (.string a0_6) := (blk_cell BK161.out 6).trans rfl
         have hcz21_7 : w3.cell? ⟨gb161, 7, none⟩ = some (.bool a0_7) := (blk_cell BK161.out 7).trans rfl
         have hcz21_8 : w3.cell? ⟨gb161, 8, none⟩ = some (.bool a0_8) := (blk_cell BK161.out 8).trans rfl
         have hfz21_0 := blk_frozen BK161.out 0
         have hfz21_1 := blk_frozen BK161.out 1
         have hfz21_2 := blk_frozen BK161.out 2
         have hfz21_3 := blk_frozen BK161.out 3
         have hfz21_4 := blk_frozen BK161.out 4
         have hfz21_5 := blk_frozen BK161.out 5
         have hfz21_6 := blk_frozen BK161.out 6
         have hfz21_7 := blk_frozen BK161.out 7
         have hfz21_8 := blk_frozen BK161.out 8
         go_wp2_with (first | ((with_reducible refine gate_callee (f := 28) rfl ?_); refine goesL_ (some 5) rfl rfl Tryd.func28 (by kernel_rfl) rfl #[.string a0_0] rfl (by (try simp only [List.map_toArray, List.map_cons, List.map_nil]); first | done | rfl | (simp only [List.length_drop, List.length_take]; rfl)) ?_; (with_reducible refine (impl_isScheme.calls k a0_0 true _ A4.out).mono ?_); rintro e w22 ⟨rfl, hb⟩; refine ⟨_, rfl, ?_⟩; have n0_ := Aside0.mk (blk_below (g := gb161) (o := .cells #[.string a0_0, .string a0_1, .string a0_2, .int .i64 a0_3, .string a0_4, .string a0_5, .string a0_6, .bool a0_7, .bool a0_8] 26 (0, 0)) (by (with_reducible repeat (first | refine blk_drewN ?_ _ | refine blk_drew ?_ | refine blk_alloc ?_ _)); exact BK161.out) hb); have n1_ := Aside0.mk (below_step (by repeat (first | (with_reducible first | exact HB.out | apply below_alloc | apply pw_below_drewN | apply below_drew1 | refine below_set ?_ GE161.out) | exact HB.out)) hb); clear BK161; clear HB; have BK161 := n0_; have HB := n1_; clear n0_ n1_; (try clear hb); (try clear hb2); (try clear hk); (try clear hi); have hcz23_0 : w22.cell? ⟨gb161, 0, none⟩ = some (.string a0_0) := (blk_cell BK161.out 0).trans rfl; have hcz23_1 : w22.cell? ⟨gb161, 1, none⟩ = some (.string a0_1) := (blk_cell BK161.out 1).trans rfl; have hcz23_2 : w22.cell? ⟨gb161, 2, none⟩ = some (.string a0_2) := (blk_cell BK161.out 2).trans rfl; have hcz23_3 : w22.cell? ⟨gb161, 3, none⟩ = some (.int .i64 a0_3) := (blk_cell BK161.out 3).trans rfl; have hcz23_4 : w22.cell? ⟨gb161, 4, none⟩ = some (.string a0_4) := (blk_cell BK161.out 4).trans rfl; have hcz23_5 : w22.cell? ⟨gb161, 5, none⟩ = some (.string a0_5) := (blk_cell BK161.out 5).trans rfl; have hcz23_6 : w22.cell? ⟨gb161, 6, none⟩ = some (.string a0_6) := (blk_cell BK161.out 6).trans rfl; have hcz23_7 : w22.cell? ⟨gb161, 7, none⟩ = some (.bool a0_7) := (blk_cell BK161.out 7).trans rfl; have hcz23_8 : w22.cell? ⟨gb161, 8, none⟩ = some (.bool a0_8) := (blk_cell BK161.out 8).trans rfl; have hfz23_0 := blk_frozen BK161.out 0; have hfz23_1 := blk_frozen BK161.out 1; have hfz23_2 := blk_frozen BK161.out 2; have hfz23_3 := blk_frozen BK161.out 3; have hfz23_4 := blk_frozen BK161.out 4; have hfz23_5 := blk_frozen BK161.out 5; have hfz23_6 := blk_frozen BK161.out 6; have hfz23_7 := blk_frozen BK161.out 7; have hfz23_8 := blk_frozen BK161.out 8) | (go_at_call 29; (with_reducible refine (impl_Url_text.calls k a0_0 a0_1 a0_2 a0_3 a0_4 a0_5 a0_6 a0_7 a0_8 t163 _ ?side1 A10.out).mono ?_); (case side1 => exact Amb.on HM.out (by repeat (first | (with_reducible first | exact HB.out | apply below_alloc | apply pw_below_drewN | apply below_drew1 | refine below_set ?_ GE161.out) | exact HB.out))); rintro e w24 ⟨rfl, hb⟩; have n0_ := Aside0.mk (blk_below (g := gb161) (o := .cells #[.string a0_0, .string a0_1, .string a0_2, .int .i64 a0_3, .string a0_4, .string a0_5, .string a0_6, .bool a0_7, .bool a0_8] 26 (0, 0)) (by (with_reducible repeat (first | refine blk_drewN ?_ _ | refine blk_drew ?_ | refine blk_alloc ?_ _)); exact BK161.out) hb); have n1_ := Aside0.mk (below_step (by repeat (first | (with_reducible first | exact HB.out | apply below_alloc | apply pw_below_drewN | apply below_drew1 | refine below_set ?_ GE161.out) | exact HB.out)) hb); clear BK161; clear HB; have BK161 := n0_; have HB := n1_; clear n0_ n1_; (try clear hb); (try clear hb2); (try clear hk); (try clear hi); have hcz25_0 : w24.cell? ⟨gb161, 0, none⟩ = some (.string a0_0) := (blk_cell BK161.out 0).trans rfl; have hcz25_1 : w24.cell? ⟨gb161, 1, none⟩ = some (.string a0_1) := (blk_cell BK161.out 1).trans rfl; have hcz25_2 : w24.cell? ⟨gb161, 2, none⟩ = some (.string a0_2) := (blk_cell BK161.out 2).trans rfl; have hcz25_3 : w24.cell? ⟨gb161, 3, none⟩ = some (.int .i64 a0_3) := (blk_cell BK161.out 3).trans rfl; have hcz25_4 : w24.cell? ⟨gb161, 4, none⟩ = some (.string a0_4) := (blk_cell BK161.out 4).trans rfl; have hcz25_5 : w24.cell? ⟨gb161, 5, none⟩ = some (.string a0_5) := (blk_cell BK161.out 5).trans rfl; have hcz25_6 : w24.cell? ⟨gb161, 6, none⟩ = some (.string a0_6) := (blk_cell BK161.out 6).trans rfl; have hcz25_7 : w24.cell? ⟨gb161, 7, none⟩ = some (.bool a0_7) := (blk_cell BK161.out 7).trans rfl; have hcz25_8 : w24.cell? ⟨gb161, 8, none⟩ = some (.bool a0_8) := (blk_cell BK161.out 8).trans rfl; have hfz25_0 := blk_frozen BK161.out 0; have hfz25_1 := blk_frozen BK161.out 1; have hfz25_2 := blk_frozen BK161.out 2; have hfz25_3 := blk_frozen BK161.out 3; have hfz25_4 := blk_frozen BK161.out 4; have hfz25_5 := blk_frozen BK161.out 5; have hfz25_6 := blk_frozen BK161.out 6; have hfz25_7 := blk_frozen BK161.out 7; have hfz25_8 := blk_frozen BK161.out 8) | (go_at_call 30; (with_reducible refine (impl_areShown.calls k ((((a0_1 ++ a0_2) ++ a0_4) ++ a0_5) ++ a0_6) t164 _ A20.out).mono ?_); rintro e w' ⟨rfl, ⟨nd, rfl⟩⟩))
         go_meet
         case rel => exact ⟨_, (!t164), (by first | rfl | (simp; done) | (simp [*]; done) | (simp only [bne_empty_]; rfl)), H', ⟨by first | omega | exact Nat.le_refl _⟩, ⟨by (with_reducible repeat (first | refine blk_drewN ?_ _ | refine blk_drew ?_ | refine blk_alloc ?_ _)); exact BK161.out⟩, ⟨by repeat (first | (with_reducible first | exact HB.out | apply below_alloc | apply pw_below_drewN | apply below_drew1 | refine below_set ?_ GE161.out) | exact HB.out)⟩⟩
        ·
         rw [if_neg c19] at H
         exact absurd H (by simp)
       ·
        rw [if_neg c18] at H
        exact absurd H (by simp)
      ·
       rw [if_neg c17] at H
       exact absurd H (by simp)
     ·
      rw [if_neg c16] at H
      exact absurd H (by simp)
  ·
   replace c5 := Bool.eq_false_iff.mpr c5
   subst c5
   have H1 : (impl_UrlOK.j0 k true a0_0 a0_1 a0_2 a0_3 a0_4 a0_5 a0_6 a0_7 a0_8) = some r := by rw [if_neg (show ¬ (false = true) by decide)] at H; exact H
   clear H
   have H := H1
   clear H1
   have H' := Aside0.mk H
   clear H
   have hcz26_0 : w3.cell? ⟨gb161, 0, none⟩ = some (.string a0_0) := (blk_cell BK161.out 0).trans rfl
   have hcz26_1 : w3.cell? ⟨gb161, 1, none⟩ = some (.string a0_1) := (blk_cell BK161.out 1).trans rfl
   have hcz26_2 : w3.cell? ⟨gb161, 2, none⟩ = some (.string a0_2) := (blk_cell BK161.out 2).trans rfl
   have hcz26_3 : w3.cell? ⟨gb161, 3, none⟩ = some (.int .i64 a0_3) := (blk_cell BK161.out 3).trans rfl
   have hcz26_4 : w3.cell? ⟨gb161, 4, none⟩ = some (.string a0_4) := (blk_cell BK161.out 4).trans rfl
   have hcz26_5 : w3.cell? ⟨gb161, 5, none⟩ = some (.string a0_5) := (blk_cell BK161.out 5).trans rfl
   have hcz26_6 : w3.cell? ⟨gb161, 6, none⟩ = some (.string a0_6) := (blk_cell BK161.out 6).trans rfl
   have hcz26_7 : w3.cell? ⟨gb161, 7, none⟩ = some (.bool a0_7) := (blk_cell BK161.out 7).trans rfl
   have hcz26_8 : w3.cell? ⟨gb161, 8, none⟩ = some (.bool a0_8) := (blk_cell BK161.out 8).trans rfl
   have hfz26_0 := blk_frozen BK161.out 0
   have hfz26_1 := blk_frozen BK161.out 1
   have hfz26_2 := blk_frozen BK161.out 2
   have hfz26_3 := blk_frozen BK161.out 3
   have hfz26_4 := blk_frozen BK161.out 4
   have hfz26_5 := blk_frozen BK161.out 5
   have hfz26_6 := blk_frozen BK161.out 6
   have hfz26_7 := blk_frozen BK161.out 7
   have hfz26_8 := blk_frozen BK161.out 8
   go_wp2_with (first | ((with_reducible refine gate_callee (f := 28) rfl ?_); refine goesL_ (some 5) rfl rfl Tryd.func28 (by kernel_rfl) rfl #[.string a0_0] rfl (by (try simp only [List.map_toArray, List.map_cons, List.map_nil]); first | done | rfl | (simp only [List.length_drop, List.length_take]; rfl)) ?_; (with_reducible refine (impl_isScheme.calls k a0_0 false _ A4.out).mono ?_); rintro e w27 ⟨rfl, hb⟩; refine ⟨_, rfl, ?_⟩; have n0_ := Aside0.mk (blk_below (g := gb161) (o := .cells #[.string a0_0, .string a0_1, .string a0_2, .int .i64 a0_3, .string a0_4, .string a0_5, .string a0_6, .bool a0_7, .bool a0_8] 26 (0, 0)) (by (with_reducible repeat (first | refine blk_drewN ?_ _ | refine blk_drew ?_ | refine blk_alloc ?_ _)); exact BK161.out) hb); have n1_ := Aside0.mk (below_step (by repeat (first | (with_reducible first | exact HB.out | apply below_alloc | apply pw_below_drewN | apply below_drew1 | refine below_set ?_ GE161.out) | exact HB.out)) hb); clear BK161; clear HB; have BK161 := n0_; have HB := n1_; clear n0_ n1_; (try clear hb); (try clear hb2); (try clear hk); (try clear hi)))
   go_meet
   case rel => exact ⟨_, (true), (by first | rfl | (simp; done) | (simp [*]; done) | (simp only [bne_empty_]; rfl)), H', ⟨by first | omega | exact Nat.le_refl _⟩, ⟨by (with_reducible repeat (first | refine blk_drewN ?_ _ | refine blk_drew ?_ | refine blk_alloc ?_ _)); exact BK161.out⟩, ⟨by repeat (first | (with_reducible first | exact HB.out | apply below_alloc | apply pw_below_drewN | apply below_drew1 | refine below_set ?_ GE161.out) | exact HB.out)⟩⟩
 case rest =>
  clear HC2
  try clear c1
  try clear c2
  try clear p2
  try clear c5
  try clear c6
  try clear c6b0
  try clear p6
  try clear c11
  try clear c11b0
  try clear c11b1
  try clear c13
  try clear c16
  try clear c16b0
  try clear c16b1
  try clear c16b2
  try clear c17
  try clear c17b0
  try clear c17b1
  try clear c17b2
  try clear c18
  try clear c18b0
  try clear c18b1
  try clear c18b2
  try clear c19
  try clear c19b0
  try clear c19b1
  try clear c19b2
  try clear hcz12_0
  try clear hcz12_1
  try clear hcz12_2
  try clear hcz12_3
  try clear hcz12_4
  try clear hcz12_5
  try clear hcz12_6
  try clear hcz12_7
  try clear hcz12_8
  try clear hcz14_0
  try clear hcz14_1
  try clear hcz14_2
  try clear hcz14_3
  try clear hcz14_4
  try clear hcz14_5
  try clear hcz14_6
  try clear hcz14_7
  try clear hcz14_8
  try clear hcz21_0
  try clear hcz21_1
  try clear hcz21_2
  try clear hcz21_3
  try clear hcz21_4
  try clear hcz21_5
  try clear hcz21_6
  try clear hcz21_7
  try clear hcz21_8
  try clear hcz23_0
  try clear hcz23_1
  try clear hcz23_2
  try clear hcz23_3
  try clear hcz23_4
  try clear hcz23_5
  try clear hcz23_6
  try clear hcz23_7
  try clear hcz23_8
  try clear hcz25_0
  try clear hcz25_1
  try clear hcz25_2
  try clear hcz25_3
  try clear hcz25_4
  try clear hcz25_5
  try clear hcz25_6
  try clear hcz25_7
  try clear hcz25_8
  try clear hcz26_0
  try clear hcz26_1
  try clear hcz26_2
  try clear hcz26_3
  try clear hcz26_4
  try clear hcz26_5
  try clear hcz26_6
  try clear hcz26_7
  try clear hcz26_8
  try clear hcz7_0
  try clear hcz7_1
  try clear hcz7_2
  try clear hcz7_3
  try clear hcz7_4
  try clear hcz7_5
  try clear hcz7_6
  try clear hcz7_7
  try clear hcz7_8
  try clear hcz9_0
  try clear hcz9_1
  try clear hcz9_2
  try clear hcz9_3
  try clear hcz9_4
  try clear hcz9_5
  try clear hcz9_6
  try clear hcz9_7
  try clear hcz9_8
  try clear hfz12_0
  try clear hfz12_1
  try clear hfz12_2
  try clear hfz12_3
  try clear hfz12_4
  try clear hfz12_5
  try clear hfz12_6
  try clear hfz12_7
  try clear hfz12_8
  try clear hfz14_0
  try clear hfz14_1
  try clear hfz14_2
  try clear hfz14_3
  try clear hfz14_4
  try clear hfz14_5
  try clear hfz14_6
  try clear hfz14_7
  try clear hfz14_8
  try clear hfz21_0
  try clear hfz21_1
  try clear hfz21_2
  try clear hfz21_3
  try clear hfz21_4
  try clear hfz21_5
  try clear hfz21_6
  try clear hfz21_7
  try clear hfz21_8
  try clear hfz23_0
  try clear hfz23_1
  try clear hfz23_2
  try clear hfz23_3
  try clear hfz23_4
  try clear hfz23_5
  try clear hfz23_6
  try clear hfz23_7
  try clear hfz23_8
  try clear hfz25_0
  try clear hfz25_1
  try clear hfz25_2
  try clear hfz25_3
  try clear hfz25_4
  try clear hfz25_5
  try clear hfz25_6
  try clear hfz25_7
  try clear hfz25_8
  try clear hfz26_0
  try clear hfz26_1
  try clear hfz26_2
  try clear hfz26_3
  try clear hfz26_4
  try clear hfz26_5
  try clear hfz26_6
  try clear hfz26_7
  try clear hfz26_8
  try clear hfz7_0
  try clear hfz7_1
  try clear hfz7_2
  try clear hfz7_3
  try clear hfz7_4
  try clear hfz7_5
  try clear hfz7_6
  try clear hfz7_7
  try clear hfz7_8
  try clear hfz9_0
  try clear hfz9_1
  try clear hfz9_2
  try clear hfz9_3
  try clear hfz9_4
  try clear hfz9_5
  try clear hfz9_6
  try clear hfz9_7
  try clear hfz9_8
  obtain ⟨kq, x52_1, rfl, HA, HJ1, BK161, HB⟩ := hcut
  cases kq with
  | zero => exact absurd HA.out (by simp [impl_UrlOK.j0])
  | succ kj1 =>
   have H := HA.out
   clear HA
   simp only [impl_UrlOK.j0] at H
   by_cases c28 : x52_1 = true
   ·
    subst c28
    have H1 : (some false) = some r := by rw [if_pos rfl] at H; exact H
    clear H
    have H := H1
    clear H1
    obtain rfl := Option.some.inj H
    go_wp2
    go_ret
    exact ⟨by first | rfl | (simp [errW_none, errW_some] <;> rfl) | (simp [*, errW_none, errW_some] <;> rfl), by repeat (first | (with_reducible first | exact HB.out | apply below_alloc | apply pw_below_drewN | apply below_drew1 | refine below_set ?_ GE161.out) | exact HB.out)⟩
   ·
    replace c28 := Bool.eq_false_iff.mpr c28
    subst c28
    have H1 : ((strings_ContainsAny.f a0_4 (⟨#[63, 35]⟩ : ByteArray)).bind fun t165 => (if t165 = true then (some false) else ((impl_Url_web.f a0_0 a0_1 a0_2 a0_3 a0_4 a0_5 a0_6 a0_7 a0_8).bind fun t166 => (if t166 = true then ((strings_ContainsAny.f a0_1 (⟨#[47, 63, 35, 64]⟩ : ByteArray)).bind fun t167 => (if t167 = true then (some false) else ((impl_isHost.f kj1 a0_2).bind fun t168 => (if t168 = true then ((impl_within.f a0_3 0 65535).bind fun t169 => (if t169 = true then ((impl_usual.f a0_0).bind fun t170 => (if a0_3 = t170 then (some false) else ((strings_HasPrefix.f a0_4 (⟨#[47]⟩ : ByteArray)).bind fun t171 => (if t171 = true then ((strings_Contains.f a0_5 (⟨#[35]⟩ : ByteArray)).bind fun t172 => (if t172 = true then (some false) else (if a0_7 = true then (if a0_8 = true then (some true) else (some (a0_6.toList == ([] : List UInt8)))) else (if a0_5.toList = ([] : List UInt8) then (if a0_8 = true then (some true) else (some (a0_6.toList == ([] : List UInt8)))) else (some false))))) else (some false))))) else (some false))) else (some false))))) else (some (a0_1.toList == ([] : List UInt8) && (a0_2.toList == ([] : List UInt8) && (a0_3 == 0 && (a0_5.toList == ([] : List UInt8) && (a0_6.toList == ([] : List UInt8) && (!a0_7 && (!a0_8)))))))))))) = some r := by rw [if_neg (show ¬ (false = true) by decide)] at H; exact H
    clear H
    have H := H1
    clear H1
    replace H := Option.bind_eq_some_iff.mp H
    obtain ⟨t165, A290, H⟩ := H
    replace H : (if t165 = true then (some false) else ((impl_Url_web.f a0_0 a0_1 a0_2 a0_3 a0_4 a0_5 a0_6 a0_7 a0_8).bind fun t166 => (if t166 = true then ((strings_ContainsAny.f a0_1 (⟨#[47, 63, 35, 64]⟩ : ByteArray)).bind fun t167 => (if t167 = true then (some false) else ((impl_isHost.f kj1 a0_2).bind fun t168 => (if t168 = true then ((impl_within.f a0_3 0 65535).bind fun t169 => (if t169 = true then ((impl_usual.f a0_0).bind fun t170 => (if a0_3 = t170 then (some false) else ((strings_HasPrefix.f a0_4 (⟨#[47]⟩ : ByteArray)).bind fun t171 => (if t171 = true then ((strings_Contains.f a0_5 (⟨#[35]⟩ : ByteArray)).bind fun t172 => (if t172 = true then (some false) else (if a0_7 = true then (if a0_8 = true then (some true) else (some (a0_6.toList == ([] : List UInt8)))) else (if a0_5.toList = ([] : List UInt8) then (if a0_8 = true then (some true) else (some (a0_6.toList == ([] : List UInt8)))) else (some false))))) else (some false))))) else (some false))) else (some false))))) else (some (a0_1.toList == ([] : List UInt8) && (a0_2.toList == ([] : List UInt8) && (a0_3 == 0 && (a0_5.toList == ([] : List UInt8) && (a0_6.toList == ([] : List UInt8) && (!a0_7 && (!a0_8))))))))))) = some r := H
    have A29 := Aside0.mk A290
    clear A290
    by_cases c30 : t165 = true
    ·
     subst c30
     have H1 : (some false) = some r := by rw [if_pos rfl] at H; exact H
     clear H
     have H := H1
     clear H1
     obtain rfl := Option.some.inj H
     have hcz31_0 : wc.cell? ⟨gb161, 0, none⟩ = some (.string a0_0) := (blk_cell BK161.out 0).trans rfl
     have hcz31_1 : wc.cell? ⟨gb161, 1, none⟩ = some (.string a0_1) := (blk_cell BK161.out 1).trans rfl
     have hcz31_2 : wc.cell? ⟨gb161, 2, none⟩ = some (.string a0_2) := (blk_cell BK161.out 2).trans rfl
     have hcz31_3 : wc.cell? ⟨gb161, 3, none⟩ = some (.int .i64 a0_3) := (blk_cell BK161.out 3).trans rfl
     have hcz31_4 : wc.cell? ⟨gb161, 4, none⟩ = some (.string a0_4) := (blk_cell BK161.out 4).trans rfl
     have hcz31_5 : wc.cell? ⟨gb161, 5, none⟩ = some (.string a0_5) := (blk_cell BK161.out 5).trans rfl
     have hcz31_6 : wc.cell? ⟨gb161, 6, none⟩ = some (.string a0_6) := (blk_cell BK161.out 6).trans rfl
     have hcz31_7 : wc.cell? ⟨gb161, 7, none⟩ = some (.bool a0_7) := (blk_cell BK161.out 7).trans rfl
     have hcz31_8 : wc.cell? ⟨gb161, 8, none⟩ = some (.bool a0_8) := (blk_cell BK161.out 8).trans rfl
     have hfz31_0 := blk_frozen BK161.out 0
     have hfz31_1 := blk_frozen BK161.out 1
     have hfz31_2 := blk_frozen BK161.out 2
     have hfz31_3 := blk_frozen BK161.out 3
     have hfz31_4 := blk_frozen BK161.out 4
     have hfz31_5 := blk_frozen BK161.out 5
     have hfz31_6 := blk_frozen BK161.out 6
     have hfz31_7 := blk_frozen BK161.out 7
     have hfz31_8 := blk_frozen BK161.out 8
     go_wp2_with (first | ((with_reducible refine gate_callee (f := 31) rfl ?_); refine goesL_ (some 55) rfl rfl Tryd.func31 (by kernel_rfl) rfl #[.string a0_4, .string (⟨#[63, 35]⟩ : ByteArray)] rfl (by (try simp only [List.map_toArray, List.map_cons, List.map_nil]); first | done | rfl | (simp only [List.length_drop, List.length_take]; rfl)) ?_; (with_reducible refine (strings_ContainsAny.calls a0_4 (⟨#[63, 35]⟩ : ByteArray) true _ A29.out).mono ?_); rintro e w32 ⟨rfl, hb⟩; refine ⟨_, rfl, ?_⟩; have n0_ := Aside0.mk (blk_below (g := gb161) (o := .cells #[.string a0_0, .string a0_1, .string a0_2, .int .i64 a0_3, .string a0_4, .string a0_5, .string a0_6, .bool a0_7, .bool a0_8] 26 (0, 0)) (by (with_reducible repeat (first | refine blk_drewN ?_ _ | refine blk_drew ?_ | refine blk_alloc ?_ _)); exact BK161.out) hb); have n1_ := Aside0.mk (below_step (by repeat (first | (with_reducible first | exact HB.out | apply below_alloc | apply pw_below_drewN | apply below_drew1 | refine below_set ?_ GE161.out) | exact HB.out)) hb); clear BK161; clear HB; have BK161 := n0_; have HB := n1_; clear n0_ n1_; (try clear hb); (try clear hb2); (try clear hk); (try clear hi)))
     go_ret
     exact ⟨by first | rfl | (simp [errW_none, errW_some] <;> rfl) | (simp [*, errW_none, errW_some] <;> rfl), by repeat (first | (with_reducible first | exact HB.out | apply below_alloc | apply pw_below_drewN | apply below_drew1 | refine below_set ?_ GE161.out) | exact HB.out)⟩
    ·
     replace c30 := Bool.eq_false_iff.mpr c30
     subst c30
     have H1 : ((impl_Url_web.f a0_0 a0_1 a0_2 a0_3 a0_4 a0_5 a0_6 a0_7 a0_8).bind fun t166 => (if t166 = true then ((strings_ContainsAny.f a0_1 (⟨#[47, 63, 35, 64]⟩ : ByteArray)).bind fun t167 => (if t167 = true then (some false) else ((impl_isHost.f kj1 a0_2).bind fun t168 => (if t168 = true then ((impl_within.f a0_3 0 65535).bind fun t169 => (if t169 = true then ((impl_usual.f a0_0).bind fun t170 => (if a0_3 = t170 then (some false) else ((strings_HasPrefix.f a0_4 (⟨#[47]⟩ : ByteArray)).bind fun t171 => (if t171 = true then ((strings_Contains.f a0_5 (⟨#[35]⟩ : ByteArray)).bind fun t172 => (if t172 = true then (some false) else (if a0_7 = true then (if a0_8 = true then (some true) else (some (a0_6.toList == ([] : List UInt8)))) else (if a0_5.toList = ([] : List UInt8) then (if a0_8 = true then (some true) else (some (a0_6.toList == ([] : List UInt8)))) else (some false))))) else (some false))))) else (some false))) else (some false))))) else (some (a0_1.toList == ([] : List UInt8) && (a0_2.toList == ([] : List UInt8) && (a0_3 == 0 && (a0_5.toList == ([] : List UInt8) && (a0_6.toList == ([] : List UInt8) && (!a0_7 && (!a0_8)))))))))) = some r := by rw [if_neg (show ¬ (false = true) by decide)] at H; exact H
     clear H
     have H := H1
     clear H1
     replace H := Option.bind_eq_some_iff.mp H
     obtain ⟨t166, A330, H⟩ := H
     replace H : (if t166 = true then ((strings_ContainsAny.f a0_1 (⟨#[47, 63, 35, 64]⟩ : ByteArray)).bind fun t167 => (if t167 = true then (some false) else ((impl_isHost.f kj1 a0_2).bind fun t168 => (if t168 = true then ((impl_within.f a0_3 0 65535).bind fun t169 => (if t169 = true then ((impl_usual.f a0_0).bind fun t170 => (if a0_3 = t170 then (some false) else ((strings_HasPrefix.f a0_4 (⟨#[47]⟩ : ByteArray)).bind fun t171 => (if t171 = true then ((strings_Contains.f a0_5 (⟨#[35]⟩ : ByteArray)).bind fun t172 => (if t172 = true then (some false) else (if a0_7 = true then (if a0_8 = true then (some true) else (some (a0_6.toList == ([] : List UInt8)))) else (if a0_5.toList = ([] : List UInt8) then (if a0_8 = true then (some true) else (some (a0_6.toList == ([] : List UInt8)))) else (some false))))) else (some false))))) else (some false))) else (some false))))) else (some (a0_1.toList == ([] : List UInt8) && (a0_2.toList == ([] : List UInt8) && (a0_3 == 0 && (a0_5.toList == ([] : List UInt8) && (a0_6.toList == ([] : List UInt8) && (!a0_7 && (!a0_8))))))))) = some r := H
     have A33 := Aside0.mk A330
     clear A330
     by_cases c34 : t166 = true
     ·
      subst c34
      have H1 : ((strings_ContainsAny.f a0_1 (⟨#[47, 63, 35, 64]⟩ : ByteArray)).bind fun t167 => (if t167 = true then (some false) else ((impl_isHost.f kj1 a0_2).bind fun t168 => (if t168 = true then ((impl_within.f a0_3 0 65535).bind fun t169 => (if t169 = true then ((impl_usual.f a0_0).bind fun t170 => (if a0_3 = t170 then (some false) else ((strings_HasPrefix.f a0_4 (⟨#[47]⟩ : ByteArray)).bind fun t171 => (if t171 = true then ((strings_Contains.f a0_5 (⟨#[35]⟩ : ByteArray)).bind fun t172 => (if t172 = true then (some false) else (if a0_7 = true then (if a0_8 = true then (some true) else (some (a0_6.toList == ([] : List UInt8)))) else (if a0_5.toList = ([] : List UInt8) then (if a0_8 = true then (some true) else (some (a0_6.toList == ([] : List UInt8)))) else (some false))))) else (some false))))) else (some false))) else (some false))))) = some r := by rw [if_pos rfl] at H; exact H
      clear H
      have H := H1
      clear H1
      replace H := Option.bind_eq_some_iff.mp H
      obtain ⟨t167, A350, H⟩ := H
      replace H : (if t167 = true then (some false) else ((impl_isHost.f kj1 a0_2).bind fun t168 => (if t168 = true then ((impl_within.f a0_3 0 65535).bind fun t169 => (if t169 = true then ((impl_usual.f a0_0).bind fun t170 => (if a0_3 = t170 then (some false) else ((strings_HasPrefix.f a0_4 (⟨#[47]⟩ : ByteArray)).bind fun t171 => (if t171 = true then ((strings_Contains.f a0_5 (⟨#[35]⟩ : ByteArray)).bind fun t172 => (if t172 = true then (some false) else (if a0_7 = true then (if a0_8 = true then (some true) else (some (a0_6.toList == ([] : List UInt8)))) else (if a0_5.toList = ([] : List UInt8) then (if a0_8 = true then (some true) else (some (a0_6.toList == ([] : List UInt8)))) else (some false))))) else (some false))))) else (some false))) else (some false)))) = some r := H
      have A35 := Aside0.mk A350
      clear A350
      by_cases c36 : t167 = true
      ·
       subst c36
       have H1 : (some false) = some r := by rw [if_pos rfl] at H; exact H
       clear H
       have H := H1
       clear H1
       obtain rfl := Option.some.inj H
       have hcz37_0 : wc.cell? ⟨gb161, 0, none⟩ = some (.string a0_0) := (blk_cell BK161.out 0).trans rfl
       have hcz37_1 : wc.cell? ⟨gb161, 1, none⟩ = some (.string a0_1) := (blk_cell BK161.out 1).trans rfl
       have hcz37_2 : wc.cell? ⟨gb161, 2, none⟩ = some (.string a0_2) := (blk_cell BK161.out 2).trans rfl
       have hcz37_3 : wc.cell? ⟨gb161, 3, none⟩ = some (.int .i64 a0_3) := (blk_cell BK161.out 3).trans rfl
       have hcz37_4 : wc.cell? ⟨gb161, 4, none⟩ = some (.string a0_4) := (blk_cell BK161.out 4).trans rfl
       have hcz37_5 : wc.cell? ⟨gb161, 5, none⟩ = some (.string a0_5) := (blk_cell BK161.out 5).trans rfl
       have hcz37_6 : wc.cell? ⟨gb161, 6, none⟩ = some (.string a0_6) := (blk_cell BK161.out 6).trans rfl
       have hcz37_7 : wc.cell? ⟨gb161, 7, none⟩ = some (.bool a0_7) := (blk_cell BK161.out 7).trans rfl
       have hcz37_8 : wc.cell? ⟨gb161, 8, none⟩ = some (.bool a0_8) := (blk_cell BK161.out 8).trans rfl
       have hfz37_0 := blk_frozen BK161.out 0
       have hfz37_1 := blk_frozen BK161.out 1
       have hfz37_2 := blk_frozen BK161.out 2
       have hfz37_3 := blk_frozen BK161.out 3
       have hfz37_4 := blk_frozen BK161.out 4
       have hfz37_5 := blk_frozen BK161.out 5
       have hfz37_6 := blk_frozen BK161.out 6
       have hfz37_7 := blk_frozen BK161.out 7
       have hfz37_8 := blk_frozen BK161.out 8
       try go_wp2_with (first | ((with_reducible refine gate_callee (f := 31) rfl ?_); refine goesL_ (some 55) rfl rfl Tryd.func31 (by kernel_rfl) rfl #[.string a0_4, .string (⟨#[63, 35]⟩ : ByteArray)] rfl (by (try simp only [List.map_toArray, List.map_cons, List.map_nil]); first | done | rfl | (simp only [List.length_drop, List.length_take]; rfl)) ?_; (with_reducible refine (strings_ContainsAny.calls a0_4 (⟨#[63, 35]⟩ : ByteArray) false _ A29.out).mono ?_); rintro e w38 ⟨rfl, hb⟩; refine ⟨_, rfl, ?_⟩; have n0_ := Aside0.mk (blk_below (g := gb161) (o := .cells #[.string a0_0, .string a0_1, .string a0_2, .int .i64 a0_3, .string a0_4, .string a0_5, .string a0_6, .bool a0_7, .bool a0_8] 26 (0, 0)) (by (with_reducible repeat (first | refine blk_drewN ?_ _ | refine blk_drew ?_ | refine blk_alloc ?_ _)); exact BK161.out) hb); have n1_ := Aside0.mk (below_step (by repeat (first | (with_reducible first | exact HB.out | apply below_alloc | apply pw_below_drewN | apply below_drew1 | refine below_set ?_ GE161.out) | exact HB.out)) hb); clear BK161; clear HB; have BK161 := n0_; have HB := n1_; clear n0_ n1_; (try clear hb); (try clear hb2); (try clear hk); (try clear hi); have hcz39_0 : w38.cell? ⟨gb161, 0, none⟩ = some (.string a0_0) := (blk_cell BK161.out 0).trans rfl; have hcz39_1 : w38.cell? ⟨gb161, 1, none⟩ = some (.string a0_1) := (blk_cell BK161.out 1).trans rfl; have hcz39_2 : w38.cell? ⟨gb161, 2, none⟩ = some (.string a0_2) := (blk_cell BK161.out 2).trans rfl; have hcz39_3 : w38.cell? ⟨gb161, 3, none⟩ = some (.int .i64 a0_3) := (blk_cell BK161.out 3).trans rfl; have hcz39_4 : w38.cell? ⟨gb161, 4, none⟩ = some (.string a0_4) := (blk_cell BK161.out 4).trans rfl; have hcz39_5 : w38.cell? ⟨gb161, 5, none⟩ = some (.string a0_5) := (blk_cell BK161.out 5).trans rfl; have hcz39_6 : w38.cell? ⟨gb161, 6, none⟩ = some (.string a0_6) := (blk_cell BK161.out 6).trans rfl; have hcz39_7 : w38.cell? ⟨gb161, 7, none⟩ = some (.bool a0_7) := (blk_cell BK161.out 7).trans rfl; have hcz39_8 : w38.cell? ⟨gb161, 8, none⟩ = some (.bool a0_8) := (blk_cell BK161.out 8).trans rfl; have hfz39_0 := blk_frozen BK161.out 0; have hfz39_1 := blk_frozen BK161.out 1; have hfz39_2 := blk_frozen BK161.out 2; have hfz39_3 := blk_frozen BK161.out 3; have hfz39_4 := blk_frozen BK161.out 4; have hfz39_5 := blk_frozen BK161.out 5; have hfz39_6 := blk_frozen BK161.out 6; have hfz39_7 := blk_frozen BK161.out 7; have hfz39_8 := blk_frozen BK161.out 8) | ((with_reducible refine gate_callee (f := 32) rfl ?_); refine goesL_ (some 57) rfl rfl Tryd.func32 (by kernel_rfl) rfl #[.agg #[.string a0_0, .string a0_1, .string a0_2, .int .i64 a0_3, .string a0_4, .string a0_5, .string a0_6, .bool a0_7, .bool a0_8]] rfl (by (try simp only [List.map_toArray, List.map_cons, List.map_nil]); first | done | rfl | (simp only [List.length_drop, List.length_take]; rfl)) ?_; (with_reducible refine (impl_Url_web.calls a0_0 a0_1 a0_2 a0_3 a0_4 a0_5 a0_6 a0_7 a0_8 true _ A33.out).mono ?_); rintro e w40 ⟨rfl, hb⟩; refine ⟨_, rfl, ?_⟩; have n0_ := Aside0.mk (blk_below (g := gb161) (o := .cells #[.string a0_0, .string a0_1, .string a0_2, .int .i64 a0_3, .string a0_4, .string a0_5, .string a0_6, .bool a0_7, .bool a0_8] 26 (0, 0)) (by (with_reducible repeat (first | refine blk_drewN ?_ _ | refine blk_drew ?_ | refine blk_alloc ?_ _)); exact BK161.out) hb); have n1_ := Aside0.mk (below_step (by repeat (first | (with_reducible first | exact HB.out | apply below_alloc | apply pw_below_drewN | apply below_drew1 | refine below_set ?_ GE161.out) | exact HB.out)) hb); clear BK161; clear HB; have BK161 := n0_; have HB := n1_; clear n0_ n1_; (try clear hb); (try clear hb2); (try clear hk); (try clear hi)))
       have n0_ := Aside0.mk (blk_drew BK161.out)
       have n1_ := Aside0.mk (below_drew1 HB.out)
       clear BK161
       clear HB
       have BK161 := n0_
       have HB := n1_
       clear n0_ n1_
       refine start_ (n := 52) (S := fun w' => w'.cell? ⟨gb161, 0, none⟩ = some (.string a0_0) ∧ w'.cell? ⟨gb161, 1, none⟩ = some (.string a0_1) ∧ w'.cell? ⟨gb161, 2, none⟩ = some (.string a0_2) ∧ w'.cell? ⟨gb161, 3, none⟩ = some (.int .i64 a0_3) ∧ w'.cell? ⟨gb161, 4, none⟩ = some (.string a0_4) ∧ w'.cell? ⟨gb161, 5, none⟩ = some (.string a0_5) ∧ w'.cell? ⟨gb161, 6, none⟩ = some (.string a0_6) ∧ w'.cell? ⟨gb161, 7, none⟩ = some (.bool a0_7) ∧ w'.cell? ⟨gb161, 8, none⟩ = some (.bool a0_8)) (ds := []) #[Z, Z, Z, Z, Z, Z, Z, Z, Z, Z, Z, Z, Z, Z, Z, Z, Z, Z, Z, Z, Z, Z, Z, Z, Z, Z, Z, Z, Z, Z, Z, Z, Z, Z, Z, Z, Z, Z, Z, Z, Z, Z, Z, Z, Z, Z, Z, Z, Z, Z, Z, Z] (by kernel_rfl) rfl rfl (held9_ BK161.out) (fun hHeld => ?_); refine with_tabW impl_UrlOK.tab7 impl_UrlOK.bits7 (fun HT_ HW_ => ?_)
       generalize w40.drew = w41 at BK161 HB hHeld ⊢
       refine toU_ (i := 0) (n := 52) (by kernel_rfl) ?_
       (refine pureU_ (v := ?_) (a' := ?_) HT_.out (by simp only [Nat.reduceAdd]; rfl) rfl rfl (by kernel_rfl) (fun _ _ _ h => h) (Or.inl ⟨by rfl, ?_⟩) ?_ ?_; rotate_left; (· (intro w'; go_simp; with_reducible rfl)); rotate_left; (· (simp only [Act.put, List.setIfInBounds_toArray, List.set_cons_zero, List.set_cons_succ, i64_w, i32_w]; rfl)))
       (refine takeU_ (v := ?_) (a' := ?_) HT_.out HW_.out (by simp only [Nat.reduceAdd]; rfl) rfl rfl (by kernel_rfl) (fun _ _ _ h => h) (Or.inl ⟨by rfl, ?_⟩) hHeld ?_ ?_; rotate_left; (· (rintro w' ⟨s0, s1, s2, s3, s4, s5, s6, s7, s8⟩; go_simp; with_reducible rfl)); rotate_left; (· (simp only [Act.put, List.setIfInBounds_toArray, List.set_cons_zero, List.set_cons_succ, i64_w, i32_w]; rfl)))
       refine one_ (i := 2) (N := some 68) (upTo 3 49) rfl rfl (one_of HT_.out (by kernel_rfl)) (by decide) (fun K hK => ?_)
       refine goes_ Tryd.func31 (by kernel_rfl) rfl #[.string a0_1, .string (⟨#[47, 63, 35, 64]⟩ : ByteArray)] (by rfl) rfl rfl (by (try simp only [List.map_toArray, List.map_cons, List.map_nil]); first | done | rfl | (simp only [List.length_drop, List.length_take]; rfl)) ?_
       with_reducible refine (strings_ContainsAny.calls a0_1 (⟨#[47, 63, 35, 64]⟩ : ByteArray) true _ A35.out).mono ?_
       rintro e w42 ⟨rfl, hb⟩
       refine ⟨_, rfl, ?_⟩
       have n0_ := Aside0.mk (blk_below (g := gb161) (o := .cells #[.string a0_0, .string a0_1, .string a0_2, .int .i64 a0_3, .string a0_4, .string a0_5, .string a0_6, .bool a0_7, .bool a0_8] 26 (0, 0)) (by (with_reducible repeat (first | refine blk_drewN ?_ _ | refine blk_drew ?_ | refine blk_alloc ?_ _)); exact BK161.out) hb)
       have n1_ := Aside0.mk (below_step (by repeat (first | (with_reducible first | exact HB.out | apply below_alloc | apply pw_below_drewN | apply below_drew1 | refine below_set ?_ GE161.out) | exact HB.out)) hb)
       clear BK161
       clear HB
       have BK161 := n0_
       have HB := n1_
       clear n0_ n1_
       (try clear hb)
       (try clear hb2)
       (try clear hk)
       (try clear hi)
       refine hK.out _ _ (held9_ BK161.out) (fun hHeld => ?_)
       clear hK K
       refine norm_ (a' := ?_) ?_ ?_
       rotate_left
       ·
        show Act.put _ (some 68) _ = _
        simp only [Act.put, List.setIfInBounds_toArray, List.set_cons_zero, List.set_cons_succ, i64_w, i32_w]
        rfl
       refine toU_ (i := 3) (n := 49) (by kernel_rfl) ?_
       iterate 2 (refine pureU_ (v := ?_) (a' := ?_) HT_.out (by simp only [Nat.reduceAdd]; rfl) rfl rfl (by kernel_rfl) (fun _ _ _ h => h) (Or.inl ⟨by rfl, ?_⟩) ?_ ?_; rotate_left; (· (intro w'; go_simp; with_reducible rfl)); rotate_left; (· (simp only [Act.put, List.setIfInBounds_toArray, List.set_cons_zero, List.set_cons_succ, i64_w, i32_w]; rfl)))
       iterate 3 (refine skipU_ (a' := ?_) HT_.out (by simp only [Nat.reduceAdd]; rfl) rfl rfl (by kernel_rfl) (fun _ _ _ h => h) (by rfl) ?_ ?_; rotate_left; (· (simp only [Act.put, List.setIfInBounds_toArray, List.set_cons_zero, List.set_cons_succ, i64_w, i32_w]; rfl)))
       iterate 2 (refine pureU_ (v := ?_) (a' := ?_) HT_.out (by simp only [Nat.reduceAdd]; rfl) rfl rfl (by kernel_rfl) (fun _ _ _ h => h) (Or.inl ⟨by rfl, ?_⟩) ?_ ?_; rotate_left; (· (intro w'; go_simp; with_reducible rfl)); rotate_left; (· (simp only [Act.put, List.setIfInBounds_toArray, List.set_cons_zero, List.set_cons_succ, i64_w, i32_w]; rfl)))
       iterate 3 (refine skipU_ (a' := ?_) HT_.out (by simp only [Nat.reduceAdd]; rfl) rfl rfl (by kernel_rfl) (fun _ _ _ h => h) (by rfl) ?_ ?_; rotate_left; (· (simp only [Act.put, List.setIfInBounds_toArray, List.set_cons_zero, List.set_cons_succ, i64_w, i32_w]; rfl)))
       iterate 2 (refine pureU_ (v := ?_) (a' := ?_) HT_.out (by simp only [Nat.reduceAdd]; rfl) rfl rfl (by kernel_rfl) (fun _ _ _ h => h) (Or.inl ⟨by rfl, ?_⟩) ?_ ?_; rotate_left; (· (intro w'; go_simp; with_reducible rfl)); rotate_left; (· (simp only [Act.put, List.setIfInBounds_toArray, List.set_cons_zero, List.set_cons_succ, i64_w, i32_w]; rfl)))
       iterate 6 (refine skipU_ (a' := ?_) HT_.out (by simp only [Nat.reduceAdd]; rfl) rfl rfl (by kernel_rfl) (fun _ _ _ h => h) (by rfl) ?_ ?_; rotate_left; (· (simp only [Act.put, List.setIfInBounds_toArray, List.set_cons_zero, List.set_cons_succ, i64_w, i32_w]; rfl)))
       iterate 2 (refine pureU_ (v := ?_) (a' := ?_) HT_.out (by simp only [Nat.reduceAdd]; rfl) rfl rfl (by kernel_rfl) (fun _ _ _ h => h) (Or.inl ⟨by rfl, ?_⟩) ?_ ?_; rotate_left; (· (intro w'; go_simp; with_reducible rfl)); rotate_left; (· (simp only [Act.put, List.setIfInBounds_toArray, List.set_cons_zero, List.set_cons_succ, i64_w, i32_w]; rfl)))
       iterate 3 (refine skipU_ (a' := ?_) HT_.out (by simp only [Nat.reduceAdd]; rfl) rfl rfl (by kernel_rfl) (fun _ _ _ h => h) (by rfl) ?_ ?_; rotate_left; (· (simp only [Act.put, List.setIfInBounds_toArray, List.set_cons_zero, List.set_cons_succ, i64_w, i32_w]; rfl)))
       iterate 2 (refine pureU_ (v := ?_) (a' := ?_) HT_.out (by simp only [Nat.reduceAdd]; rfl) rfl rfl (by kernel_rfl) (fun _ _ _ h => h) (Or.inl ⟨by rfl, ?_⟩) ?_ ?_; rotate_left; (· (intro w'; go_simp; with_reducible rfl)); rotate_left; (· (simp only [Act.put, List.setIfInBounds_toArray, List.set_cons_zero, List.set_cons_succ, i64_w, i32_w]; rfl)))
       iterate 4 (refine skipU_ (a' := ?_) HT_.out (by simp only [Nat.reduceAdd]; rfl) rfl rfl (by kernel_rfl) (fun _ _ _ h => h) (by rfl) ?_ ?_; rotate_left; (· (simp only [Act.put, List.setIfInBounds_toArray, List.set_cons_zero, List.set_cons_succ, i64_w, i32_w]; rfl)))
       iterate 2 (refine pureU_ (v := ?_) (a' := ?_) HT_.out (by simp only [Nat.reduceAdd]; rfl) rfl rfl (by kernel_rfl) (fun _ _ _ h => h) (Or.inl ⟨by rfl, ?_⟩) ?_ ?_; rotate_left; (· (intro w'; go_simp; with_reducible rfl)); rotate_left; (· (simp only [Act.put, List.setIfInBounds_toArray, List.set_cons_zero, List.set_cons_succ, i64_w, i32_w]; rfl)))
       iterate 7 (refine skipU_ (a' := ?_) HT_.out (by simp only [Nat.reduceAdd]; rfl) rfl rfl (by kernel_rfl) (fun _ _ _ h => h) (by rfl) ?_ ?_; rotate_left; (· (simp only [Act.put, List.setIfInBounds_toArray, List.set_cons_zero, List.set_cons_succ, i64_w, i32_w]; rfl)))
       iterate 2 (refine pureU_ (v := ?_) (a' := ?_) HT_.out (by simp only [Nat.reduceAdd]; rfl) rfl rfl (by kernel_rfl) (fun _ _ _ h => h) (Or.inl ⟨by rfl, ?_⟩) ?_ ?_; rotate_left; (· (intro w'; go_simp; with_reducible rfl)); rotate_left; (· (simp only [Act.put, List.setIfInBounds_toArray, List.set_cons_zero, List.set_cons_succ, i64_w, i32_w]; rfl)))
       iterate 7 (refine skipU_ (a' := ?_) HT_.out (by simp only [Nat.reduceAdd]; rfl) rfl rfl (by kernel_rfl) (fun _ _ _ h => h) (by rfl) ?_ ?_; rotate_left; (· (simp only [Act.put, List.setIfInBounds_toArray, List.set_cons_zero, List.set_cons_succ, i64_w, i32_w]; rfl)))
       iterate 2 (refine pureU_ (v := ?_) (a' := ?_) HT_.out (by simp only [Nat.reduceAdd]; rfl) rfl rfl (by kernel_rfl) (fun _ _ _ h => h) (Or.inl ⟨by rfl, ?_⟩) ?_ ?_; rotate_left; (· (intro w'; go_simp; with_reducible rfl)); rotate_left; (· (simp only [Act.put, List.setIfInBounds_toArray, List.set_cons_zero, List.set_cons_succ, i64_w, i32_w]; rfl)))
       refine done_ (done_of HT_.out (by kernel_rfl)) ?_
       try go_wp2
       go_ret
       exact ⟨by first | rfl | (simp [errW_none, errW_some] <;> rfl) | (simp [*, errW_none, errW_some] <;> rfl), by repeat (first | (with_reducible first | exact HB.out | apply below_alloc | apply pw_below_drewN | apply below_drew1 | refine below_set ?_ GE161.out) | exact HB.out)⟩
      ·
       replace c36 := Bool.eq_false_iff.mpr c36
       subst c36
       have H1 : ((impl_isHost.f kj1 a0_2).bind fun t168 => (if t168 = true then ((impl_within.f a0_3 0 65535).bind fun t169 => (if t169 = true then ((impl_usual.f a0_0).bind fun t170 => (if a0_3 = t170 then (some false) else ((strings_HasPrefix.f a0_4 (⟨#[47]⟩ : ByteArray)).bind fun t171 => (if t171 = true then ((strings_Contains.f a0_5 (⟨#[35]⟩ : ByteArray)).bind fun t172 => (if t172 = true then (some false) else (if a0_7 = true then (if a0_8 = true then (some true) else (some (a0_6.toList == ([] : List UInt8)))) else (if a0_5.toList = ([] : List UInt8) then (if a0_8 = true then (some true) else (some (a0_6.toList == ([] : List UInt8)))) else (some false))))) else (some false))))) else (some false))) else (some false))) = some r := by rw [if_neg (show ¬ (false = true) by decide)] at H; exact H
       clear H
       have H := H1
       clear H1
       replace H := Option.bind_eq_some_iff.mp H
       obtain ⟨t168, A430, H⟩ := H
       replace H : (if t168 = true then ((impl_within.f a0_3 0 65535).bind fun t169 => (if t169 = true then ((impl_usual.f a0_0).bind fun t170 => (if a0_3 = t170 then (some false) else ((strings_HasPrefix.f a0_4 (⟨#[47]⟩ : ByteArray)).bind fun t171 => (if t171 = true then ((strings_Contains.f a0_5 (⟨#[35]⟩ : ByteArray)).bind fun t172 => (if t172 = true then (some false) else (if a0_7 = true then (if a0_8 = true then (some true) else (some (a0_6.toList == ([] : List UInt8)))) else (if a0_5.toList = ([] : List UInt8) then (if a0_8 = true then (some true) else (some (a0_6.toList == ([] : List UInt8)))) else (some false))))) else (some false))))) else (some false))) else (some false)) = some r := H
       have A43 := Aside0.mk A430
       clear A430
       by_cases c44 : t168 = true
       ·
        subst c44
        have H1 : ((impl_within.f a0_3 0 65535).bind fun t169 => (if t169 = true then ((impl_usual.f a0_0).bind fun t170 => (if a0_3 = t170 then (some false) else ((strings_HasPrefix.f a0_4 (⟨#[47]⟩ : ByteArray)).bind fun t171 => (if t171 = true then ((strings_Contains.f a0_5 (⟨#[35]⟩ : ByteArray)).bind fun t172 => (if t172 = true then (some false) else (if a0_7 = true then (if a0_8 = true then (some true) else (some (a0_6.toList == ([] : List UInt8)))) else (if a0_5.toList = ([] : List UInt8) then (if a0_8 = true then (some true) else (some (a0_6.toList == ([] : List UInt8)))) else (some false))))) else (some false))))) else (some false))) = some r := by rw [if_pos rfl] at H; exact H
        clear H
        have H := H1
        clear H1
        replace H := Option.bind_eq_some_iff.mp H
        obtain ⟨t169, A450, H⟩ := H
        replace H : (if t169 = true then ((impl_usual.f a0_0).bind fun t170 => (if a0_3 = t170 then (some false) else ((strings_HasPrefix.f a0_4 (⟨#[47]⟩ : ByteArray)).bind fun t171 => (if t171 = true then ((strings_Contains.f a0_5 (⟨#[35]⟩ : ByteArray)).bind fun t172 => (if t172 = true then (some false) else (if a0_7 = true then (if a0_8 = true then (some true) else (some (a0_6.toList == ([] : List UInt8)))) else (if a0_5.toList = ([] : List UInt8) then (if a0_8 = true then (some true) else (some (a0_6.toList == ([] : List UInt8)))) else (some false))))) else (some false))))) else (some false)) = some r := H
        have A45 := Aside0.mk A450
        clear A450
        by_cases c46 : t169 = true
        ·
         subst c46
         have H1 : ((impl_usual.f a0_0).bind fun t170 => (if a0_3 = t170 then (some false) else ((strings_HasPrefix.f a0_4 (⟨#[47]⟩ : ByteArray)).bind fun t171 => (if t171 = true then ((strings_Contains.f a0_5 (⟨#[35]⟩ : ByteArray)).bind fun t172 => (if t172 = true then (some false) else (if a0_7 = true then (if a0_8 = true then (some true) else (some (a0_6.toList == ([] : List UInt8)))) else (if a0_5.toList = ([] : List UInt8) then (if a0_8 = true then (some true) else (some (a0_6.toList == ([] : List UInt8)))) else (some false))))) else (some false))))) = some r := by rw [if_pos rfl] at H; exact H
         clear H
         have H := H1
         clear H1
         replace H := Option.bind_eq_some_iff.mp H
         obtain ⟨t170, A470, H⟩ := H
         replace H : (if a0_3 = t170 then (some false) else ((strings_HasPrefix.f a0_4 (⟨#[47]⟩ : ByteArray)).bind fun t171 => (if t171 = true then ((strings_Contains.f a0_5 (⟨#[35]⟩ : ByteArray)).bind fun t172 => (if t172 = true then (some false) else (if a0_7 = true then (if a0_8 = true then (some true) else (some (a0_6.toList == ([] : List UInt8)))) else (if a0_5.toList = ([] : List UInt8) then (if a0_8 = true then (some true) else (some (a0_6.toList == ([] : List UInt8)))) else (some false))))) else (some false)))) = some r := H
         have A47 := Aside0.mk A470
         clear A470
         by_cases c48 : a0_3 = t170
         ·
          rw [if_pos c48] at H
          have c48b0 : (a0_3 == t170) = true := beq_iff_eq.mpr c48
          have c48b1 : (a0_3 != t170) = false := bne_eq_false_iff_eq.mpr c48
          clear c48
          obtain rfl := Option.some.inj H
          have hcz49_0 : wc.cell? ⟨gb161, 0, none⟩ = some (.string a0_0) := (blk_cell BK161.out 0).trans rfl
          have hcz49_1 : wc.cell? ⟨gb161, 1, none⟩ = some (.string a0_1) := (blk_cell BK161.out 1).trans rfl
          have hcz49_2 : wc.cell? ⟨gb161, 2, none⟩ = some (.string a0_2) := (blk_cell BK161.out 2).trans rfl
          have hcz49_3 : wc.cell? ⟨gb161, 3, none⟩ = some (.int .i64 a0_3) := (blk_cell BK161.out 3).trans rfl
          have hcz49_4 : wc.cell? ⟨gb161, 4, none⟩ = some (.string a0_4) := (blk_cell BK161.out 4).trans rfl
          have hcz49_5 : wc.cell? ⟨gb161, 5, none⟩ = some (.string a0_5) := (blk_cell BK161.out 5).trans rfl
          have hcz49_6 : wc.cell? ⟨gb161, 6, none⟩ = some (.string a0_6) := (blk_cell BK161.out 6).trans rfl
          have hcz49_7 : wc.cell? ⟨gb161, 7, none⟩ = some (.bool a0_7) := (blk_cell BK161.out 7).trans rfl
          have hcz49_8 : wc.cell? ⟨gb161, 8, none⟩ = some (.bool a0_8) := (blk_cell BK161.out 8).trans rfl
          have hfz49_0 := blk_frozen BK161.out 0
          have hfz49_1 := blk_frozen BK161.out 1
          have hfz49_2 := blk_frozen BK161.out 2
          have hfz49_3 := blk_frozen BK161.out 3
          have hfz49_4 := blk_frozen BK161.out 4
          have hfz49_5 := blk_frozen BK161.out 5
          have hfz49_6 := blk_frozen BK161.out 6
          have hfz49_7 := blk_frozen BK161.out 7
          have hfz49_8 := blk_frozen BK161.out 8
          try go_wp2_with (first | ((with_reducible refine gate_callee (f := 31) rfl ?_); refine goesL_ (some 55) rfl rfl Tryd.func31 (by kernel_rfl) rfl #[.string a0_4, .string (⟨#[63, 35]⟩ : ByteArray)] rfl (by (try simp only [List.map_toArray, List.map_cons, List.map_nil]); first | done | rfl | (simp only [List.length_drop, List.length_take]; rfl)) ?_; (with_reducible refine (strings_ContainsAny.calls a0_4 (⟨#[63, 35]⟩ : ByteArray) false _ A29.out).mono ?_); rintro e w50 ⟨rfl, hb⟩; refine ⟨_, rfl, ?_⟩; have n0_ := Aside0.mk (blk_below (g := gb161) (o := .cells #[.string a0_0, .string a0_1, .string a0_2, .int .i64 a0_3, .string a0_4, .string a0_5, .string a0_6, .bool a0_7, .bool a0_8] 26 (0, 0)) (by (with_reducible repeat (first | refine blk_drewN ?_ _ | refine blk_drew ?_ | refine blk_alloc ?_ _)); exact BK161.out) hb); have n1_ := Aside0.mk (below_step (by repeat (first | (with_reducible first | exact HB.out | apply below_alloc | apply pw_below_drewN | apply below_drew1 | refine below_set ?_ GE161.out) | exact HB.out)) hb); clear BK161; clear HB; have BK161 := n0_; have HB := n1_; clear n0_ n1_; (try clear hb); (try clear hb2); (try clear hk); (try clear hi); have hcz51_0 : w50.cell? ⟨gb161, 0, none⟩ = some (.string a0_0) := (blk_cell BK161.out 0).trans rfl; have hcz51_1 : w50.cell? ⟨gb161, 1, none⟩ = some (.string a0_1) := (blk_cell BK161.out 1).trans rfl; have hcz51_2 : w50.cell? ⟨gb161, 2, none⟩ = some (.string a0_2) := (blk_cell BK161.out 2).trans rfl; have hcz51_3 : w50.cell? ⟨gb161, 3, none⟩ = some (.int .i64 a0_3) := (blk_cell BK161.out 3).trans rfl; have hcz51_4 : w50.cell? ⟨gb161, 4, none⟩ = some (.string a0_4) := (blk_cell BK161.out 4).trans rfl; have hcz51_5 : w50.cell? ⟨gb161, 5, none⟩ = some (.string a0_5) := (blk_cell BK161.out 5).trans rfl; have hcz51_6 : w50.cell? ⟨gb161, 6, none⟩ = some (.string a0_6) := (blk_cell BK161.out 6).trans rfl; have hcz51_7 : w50.cell? ⟨gb161, 7, none⟩ = some (.bool a0_7) := (blk_cell BK161.out 7).trans rfl; have hcz51_8 : w50.cell? ⟨gb161, 8, none⟩ = some (.bool a0_8) := (blk_cell BK161.out 8).trans rfl; have hfz51_0 := blk_frozen BK161.out 0; have hfz51_1 := blk_frozen BK161.out 1; have hfz51_2 := blk_frozen BK161.out 2; have hfz51_3 := blk_frozen BK161.out 3; have hfz51_4 := blk_frozen BK161.out 4; have hfz51_5 := blk_frozen BK161.out 5; have hfz51_6 := blk_frozen BK161.out 6; have hfz51_7 := blk_frozen BK161.out 7; have hfz51_8 := blk_frozen BK161.out 8) | ((with_reducible refine gate_callee (f := 32) rfl ?_); refine goesL_ (some 57) rfl rfl Tryd.func32 (by kernel_rfl) rfl #[.agg #[.string a0_0, .string a0_1, .string a0_2, .int .i64 a0_3, .string a0_4, .string a0_5, .string a0_6, .bool a0_7, .bool a0_8]] rfl (by (try simp only [List.map_toArray, List.map_cons, List.map_nil]); first | done | rfl | (simp only [List.length_drop, List.length_take]; rfl)) ?_; (with_reducible refine (impl_Url_web.calls a0_0 a0_1 a0_2 a0_3 a0_4 a0_5 a0_6 a0_7 a0_8 true _ A33.out).mono ?_); rintro e w52 ⟨rfl, hb⟩; refine ⟨_, rfl, ?_⟩; have n0_ := Aside0.mk (blk_below (g := gb161) (o := .cells #[.string a0_0, .string a0_1, .string a0_2, .int .i64 a0_3, .string a0_4, .string a0_5, .string a0_6, .bool a0_7, .bool a0_8] 26 (0, 0)) (by (with_reducible repeat (first | refine blk_drewN ?_ _ | refine blk_drew ?_ | refine blk_alloc ?_ _)); exact BK161.out) hb); have n1_ := Aside0.mk (below_step (by repeat (first | (with_reducible first | exact HB.out | apply below_alloc | apply pw_below_drewN | apply below_drew1 | refine below_set ?_ GE161.out) | exact HB.out)) hb); clear BK161; clear HB; have BK161 := n0_; have HB := n1_; clear n0_ n1_; (try clear hb); (try clear hb2); (try clear hk); (try clear hi)))
          have n0_ := Aside0.mk (blk_drew BK161.out)
          have n1_ := Aside0.mk (below_drew1 HB.out)
          clear BK161
          clear HB
          have BK161 := n0_
          have HB := n1_
          clear n0_ n1_
          refine start_ (n := 52) (S := fun w' => w'.cell? ⟨gb161, 0, none⟩ = some (.string a0_0) ∧ w'.cell? ⟨gb161, 1, none⟩ = some (.string a0_1) ∧ w'.cell? ⟨gb161, 2, none⟩ = some (.string a0_2) ∧ w'.cell? ⟨gb161, 3, none⟩ = some (.int .i64 a0_3) ∧ w'.cell? ⟨gb161, 4, none⟩ = some (.string a0_4) ∧ w'.cell? ⟨gb161, 5, none⟩ = some (.string a0_5) ∧ w'.cell? ⟨gb161, 6, none⟩ = some (.string a0_6) ∧ w'.cell? ⟨gb161, 7, none⟩ = some (.bool a0_7) ∧ w'.cell? ⟨gb161, 8, none⟩ = some (.bool a0_8)) (ds := []) #[Z, Z, Z, Z, Z, Z, Z, Z, Z, Z, Z, Z, Z, Z, Z, Z, Z, Z, Z, Z, Z, Z, Z, Z, Z, Z, Z, Z, Z, Z, Z, Z, Z, Z, Z, Z, Z, Z, Z, Z, Z, Z, Z, Z, Z, Z, Z, Z, Z, Z, Z, Z] (by kernel_rfl) rfl rfl (held9_ BK161.out) (fun hHeld => ?_); refine with_tabW impl_UrlOK.tab7 impl_UrlOK.bits7 (fun HT_ HW_ => ?_)
          generalize w52.drew = w53 at BK161 HB hHeld ⊢
          refine toU_ (i := 0) (n := 52) (by kernel_rfl) ?_
          (refine pureU_ (v := ?_) (a' := ?_) HT_.out (by simp only [Nat.reduceAdd]; rfl) rfl rfl (by kernel_rfl) (fun _ _ _ h => h) (Or.inl ⟨by rfl, ?_⟩) ?_ ?_; rotate_left; (· (intro w'; go_simp; with_reducible rfl)); rotate_left; (· (simp only [Act.put, List.setIfInBounds_toArray, List.set_cons_zero, List.set_cons_succ, i64_w, i32_w]; rfl)))
          (refine takeU_ (v := ?_) (a' := ?_) HT_.out HW_.out (by simp only [Nat.reduceAdd]; rfl) rfl rfl (by kernel_rfl) (fun _ _ _ h => h) (Or.inl ⟨by rfl, ?_⟩) hHeld ?_ ?_; rotate_left; (· (rintro w' ⟨s0, s1, s2, s3, s4, s5, s6, s7, s8⟩; go_simp; with_reducible rfl)); rotate_left; (· (simp only [Act.put, List.setIfInBounds_toArray, List.set_cons_zero, List.set_cons_succ, i64_w, i32_w]; rfl)))
          refine one_ (i := 2) (N := some 68) (upTo 3 49) rfl rfl (one_of HT_.out (by kernel_rfl)) (by decide) (fun K hK => ?_)
          refine goes_ Tryd.func31 (by kernel_rfl) rfl #[.string a0_1, .string (⟨#[47, 63, 35, 64]⟩ : ByteArray)] (by rfl) rfl rfl (by (try simp only [List.map_toArray, List.map_cons, List.map_nil]); first | done | rfl | (simp only [List.length_drop, List.length_take]; rfl)) ?_
          with_reducible refine (strings_ContainsAny.calls a0_1 (⟨#[47, 63, 35, 64]⟩ : ByteArray) false _ A35.out).mono ?_
          rintro e w54 ⟨rfl, hb⟩
          refine ⟨_, rfl, ?_⟩
          have n0_ := Aside0.mk (blk_below (g := gb161) (o := .cells #[.string a0_0, .string a0_1, .string a0_2, .int .i64 a0_3, .string a0_4, .string a0_5, .string a0_6, .bool a0_7, .bool a0_8] 26 (0, 0)) (by (with_reducible repeat (first | refine blk_drewN ?_ _ | refine blk_drew ?_ | refine blk_alloc ?_ _)); exact BK161.out) hb)
          have n1_ := Aside0.mk (below_step (by repeat (first | (with_reducible first | exact HB.out | apply below_alloc | apply pw_below_drewN | apply below_drew1 | refine below_set ?_ GE161.out) | exact HB.out)) hb)
          clear BK161
          clear HB
          have BK161 := n0_
          have HB := n1_
          clear n0_ n1_
          (try clear hb)
          (try clear hb2)
          (try clear hk)
          (try clear hi)
          refine hK.out _ _ (held9_ BK161.out) (fun hHeld => ?_)
          clear hK K
          refine norm_ (a' := ?_) ?_ ?_
          rotate_left
          ·
           show Act.put _ (some 68) _ = _
           simp only [Act.put, List.setIfInBounds_toArray, List.set_cons_zero, List.set_cons_succ, i64_w, i32_w]
           rfl
          refine toU_ (i := 3) (n := 49) (by kernel_rfl) ?_
          iterate 3 (refine pureU_ (v := ?_) (a' := ?_) HT_.out (by simp only [Nat.reduceAdd]; rfl) rfl rfl (by kernel_rfl) (fun _ _ _ h => h) (Or.inl ⟨by rfl, ?_⟩) ?_ ?_; rotate_left; (· (intro w'; go_simp; with_reducible rfl)); rotate_left; (· (simp only [Act.put, List.setIfInBounds_toArray, List.set_cons_zero, List.set_cons_succ, i64_w, i32_w]; rfl)))
          (refine takeU_ (v := ?_) (a' := ?_) HT_.out HW_.out (by simp only [Nat.reduceAdd]; rfl) rfl rfl (by kernel_rfl) (fun _ _ _ h => h) (Or.inl ⟨by rfl, ?_⟩) hHeld ?_ ?_; rotate_left; (· (rintro w' ⟨s0, s1, s2, s3, s4, s5, s6, s7, s8⟩; go_simp; with_reducible rfl)); rotate_left; (· (simp only [Act.put, List.setIfInBounds_toArray, List.set_cons_zero, List.set_cons_succ, i64_w, i32_w]; rfl)))
          refine one_ (i := 7) (N := some 73) (upTo 8 44) rfl rfl (one_of HT_.out (by kernel_rfl)) (by decide) (fun K hK => ?_)
          refine goes_ Tryd.func33 (by kernel_rfl) rfl #[.string a0_2] (by rfl) rfl rfl (by (try simp only [List.map_toArray, List.map_cons, List.map_nil]); first | done | rfl | (simp only [List.length_drop, List.length_take]; rfl)) ?_
          with_reducible refine (impl_isHost.calls kj1 a0_2 true _ A43.out).mono ?_
          rintro e w' ⟨rfl, ⟨nd, rfl⟩⟩
          refine ⟨_, rfl, ?_⟩
          refine hK.out _ _ (held9_ BK161.out) (fun hHeld => ?_)
          clear hK K
          refine norm_ (a' := ?_) ?_ ?_
          rotate_left
          ·
           show Act.put _ (some 73) _ = _
           simp only [Act.put, List.setIfInBounds_toArray, List.set_cons_zero, List.set_cons_succ, i64_w, i32_w]
           rfl
          refine toU_ (i := 8) (n := 44) (by kernel_rfl) ?_
          iterate 3 (refine pureU_ (v := ?_) (a' := ?_) HT_.out (by simp only [Nat.reduceAdd]; rfl) rfl rfl (by kernel_rfl) (fun _ _ _ h => h) (Or.inl ⟨by rfl, ?_⟩) ?_ ?_; rotate_left; (· (intro w'; go_simp; with_reducible rfl)); rotate_left; (· (simp only [Act.put, List.setIfInBounds_toArray, List.set_cons_zero, List.set_cons_succ, i64_w, i32_w]; rfl)))
          (refine takeU_ (v := ?_) (a' := ?_) HT_.out HW_.out (by simp only [Nat.reduceAdd]; rfl) rfl rfl (by kernel_rfl) (fun _ _ _ h => h) (Or.inl ⟨by rfl, ?_⟩) hHeld ?_ ?_; rotate_left; (· (rintro w' ⟨s0, s1, s2, s3, s4, s5, s6, s7, s8⟩; go_simp; with_reducible rfl)); rotate_left; (· (simp only [Act.put, List.setIfInBounds_toArray, List.set_cons_zero, List.set_cons_succ, i64_w, i32_w]; rfl)))
          refine one_ (i := 12) (N := some 78) (upTo 13 39) rfl rfl (one_of HT_.out (by kernel_rfl)) (by decide) (fun K hK => ?_)
          refine goes_ Tryd.func34 (by kernel_rfl) rfl #[.int .i64 a0_3, .int .i64 0, .int .i64 65535] (by rfl) rfl rfl (by (try simp only [List.map_toArray, List.map_cons, List.map_nil]); first | done | rfl | (simp only [List.length_drop, List.length_take]; rfl)) ?_
          with_reducible refine (impl_within.calls a0_3 0 65535 true _ A45.out).mono ?_
          rintro e w' ⟨rfl, ⟨nd, rfl⟩⟩
          refine ⟨_, rfl, ?_⟩
          refine hK.out _ _ (held9_ BK161.out) (fun hHeld => ?_)
          clear hK K
          refine norm_ (a' := ?_) ?_ ?_
          rotate_left
          ·
           show Act.put _ (some 78) _ = _
           simp only [Act.put, List.setIfInBounds_toArray, List.set_cons_zero, List.set_cons_succ, i64_w, i32_w]
           rfl
          refine toU_ (i := 13) (n := 39) (by kernel_rfl) ?_
          iterate 3 (refine pureU_ (v := ?_) (a' := ?_) HT_.out (by simp only [Nat.reduceAdd]; rfl) rfl rfl (by kernel_rfl) (fun _ _ _ h => h) (Or.inl ⟨by rfl, ?_⟩) ?_ ?_; rotate_left; (· (intro w'; go_simp; with_reducible rfl)); rotate_left; (· (simp only [Act.put, List.setIfInBounds_toArray, List.set_cons_zero, List.set_cons_succ, i64_w, i32_w]; rfl)))
          refine pure_ (i := 17) (N := some 83) (v := ?_) (a' := ?_) #[Y, Y, Y, Y, Y, Y, Y, Y, Y, Y, Y, Y, Y, Y, Y, Y, Z, Y, Z, Z, Z, Z, Z, Z, Z, Z, Z, Z, Z, Z, Z, Z, Z, Z, Z, Z, Z, Z, Z, Z, Z, Z, Z, Z, Z, Z, Z, Z, Z, Z, Z, Z] rfl rfl (any_of HT_.out (by kernel_rfl)) (fun _ _ _ h => h) (Or.inl ⟨by rfl, ?_⟩) ?_ ?_
          rotate_left
          ·
           intro w'
           go_simp
           with_reducible rfl
          rotate_left
          ·
           simp only [Act.put, List.setIfInBounds_toArray, List.set_cons_zero, List.set_cons_succ, i64_w, i32_w]
           rfl
          refine take_ (i := 16) (N := some 82) (v := ?_) (a' := ?_) #[Y, Y, Y, Y, Y, Y, Y, Y, Y, Y, Y, Y, Y, Y, Y, Y, Y, Y, Z, Z, Z, Z, Z, Z, Z, Z, Z, Z, Z, Z, Z, Z, Z, Z, Z, Z, Z, Z, Z, Z, Z, Z, Z, Z, Z, Z, Z, Z, Z, Z, Z, Z] rfl rfl (take_ofW HT_.out HW_.out (by kernel_rfl)) (fun _ _ _ h => h) (Or.inl ⟨by rfl, ?_⟩) hHeld ?_ ?_
          rotate_left
          ·
           rintro w' ⟨s0, s1, s2, s3, s4, s5, s6, s7, s8⟩
           go_simp
           with_reducible rfl
          rotate_left
          ·
           simp only [Act.put, List.setIfInBounds_toArray, List.set_cons_zero, List.set_cons_succ, i64_w, i32_w]
           rfl
          refine take_ (i := 18) (N := some 84) (v := ?_) (a' := ?_) #[Y, Y, Y, Y, Y, Y, Y, Y, Y, Y, Y, Y, Y, Y, Y, Y, Y, Y, Y, Z, Z, Z, Z, Z, Z, Z, Z, Z, Z, Z, Z, Z, Z, Z, Z, Z, Z, Z, Z, Z, Z, Z, Z, Z, Z, Z, Z, Z, Z, Z, Z, Z] rfl rfl (take_ofW HT_.out HW_.out (by kernel_rfl)) (fun _ _ _ h => h) (Or.inl ⟨by rfl, ?_⟩) hHeld ?_ ?_
          rotate_left
          ·
           rintro w' ⟨s0, s1, s2, s3, s4, s5, s6, s7, s8⟩
           go_simp
           with_reducible rfl
          rotate_left
          ·
           simp only [Act.put, List.setIfInBounds_toArray, List.set_cons_zero, List.set_cons_succ, i64_w, i32_w]
           rfl
          refine one_ (i := 19) (N := some 85) (upTo 20 32) rfl rfl (one_of HT_.out (by kernel_rfl)) (by decide) (fun K hK => ?_)
          refine goes_ Tryd.func35 (by kernel_rfl) rfl #[.string a0_0] (by rfl) rfl rfl (by (try simp only [List.map_toArray, List.map_cons, List.map_nil]); first | done | rfl | (simp only [List.length_drop, List.length_take]; rfl)) ?_
          with_reducible refine (impl_usual.calls a0_0 t170 _ A47.out).mono ?_
          rintro e w' ⟨rfl, ⟨nd, rfl⟩⟩
          refine ⟨_, rfl, ?_⟩
          refine hK.out _ _ (held9_ BK161.out) (fun hHeld => ?_)
          clear hK K
          refine norm_ (a' := ?_) ?_ ?_
          rotate_left
          ·
           show Act.put _ (some 85) _ = _
           simp only [Act.put, List.setIfInBounds_toArray, List.set_cons_zero, List.set_cons_succ, i64_w, i32_w]
           rfl
          refine toU_ (i := 20) (n := 32) (by kernel_rfl) ?_
          iterate 3 (refine pureU_ (v := ?_) (a' := ?_) HT_.out (by simp only [Nat.reduceAdd]; rfl) rfl rfl (by kernel_rfl) (fun _ _ _ h => h) (Or.inl ⟨by rfl, ?_⟩) ?_ ?_; rotate_left; (· (intro w'; go_simp; with_reducible rfl)); rotate_left; (· (simp only [Act.put, List.setIfInBounds_toArray, List.set_cons_zero, List.set_cons_succ, i64_w, i32_w]; rfl)))
          iterate 3 (refine skipU_ (a' := ?_) HT_.out (by simp only [Nat.reduceAdd]; rfl) rfl rfl (by kernel_rfl) (fun _ _ _ h => h) (by rfl) ?_ ?_; rotate_left; (· (simp only [Act.put, List.setIfInBounds_toArray, List.set_cons_zero, List.set_cons_succ, i64_w, i32_w]; rfl)))
          iterate 2 (refine pureU_ (v := ?_) (a' := ?_) HT_.out (by simp only [Nat.reduceAdd]; rfl) rfl rfl (by kernel_rfl) (fun _ _ _ h => h) (Or.inl ⟨by rfl, ?_⟩) ?_ ?_; rotate_left; (· (intro w'; go_simp; with_reducible rfl)); rotate_left; (· (simp only [Act.put, List.setIfInBounds_toArray, List.set_cons_zero, List.set_cons_succ, i64_w, i32_w]; rfl)))
          iterate 4 (refine skipU_ (a' := ?_) HT_.out (by simp only [Nat.reduceAdd]; rfl) rfl rfl (by kernel_rfl) (fun _ _ _ h => h) (by rfl) ?_ ?_; rotate_left; (· (simp only [Act.put, List.setIfInBounds_toArray, List.set_cons_zero, List.set_cons_succ, i64_w, i32_w]; rfl)))
          iterate 2 (refine pureU_ (v := ?_) (a' := ?_) HT_.out (by simp only [Nat.reduceAdd]; rfl) rfl rfl (by kernel_rfl) (fun _ _ _ h => h) (Or.inl ⟨by rfl, ?_⟩) ?_ ?_; rotate_left; (· (intro w'; go_simp; with_reducible rfl)); rotate_left; (· (simp only [Act.put, List.setIfInBounds_toArray, List.set_cons_zero, List.set_cons_succ, i64_w, i32_w]; rfl)))
          iterate 7 (refine skipU_ (a' := ?_) HT_.out (by simp only [Nat.reduceAdd]; rfl) rfl rfl (by kernel_rfl) (fun _ _ _ h => h) (by rfl) ?_ ?_; rotate_left; (· (simp only [Act.put, List.setIfInBounds_toArray, List.set_cons_zero, List.set_cons_succ, i64_w, i32_w]; rfl)))
          iterate 2 (refine pureU_ (v := ?_) (a' := ?_) HT_.out (by simp only [Nat.reduceAdd]; rfl) rfl rfl (by kernel_rfl) (fun _ _ _ h => h) (Or.inl ⟨by rfl, ?_⟩) ?_ ?_; rotate_left; (· (intro w'; go_simp; with_reducible rfl)); rotate_left; (· (simp only [Act.put, List.setIfInBounds_toArray, List.set_cons_zero, List.set_cons_succ, i64_w, i32_w]; rfl)))
          iterate 7 (refine skipU_ (a' := ?_) HT_.out (by simp only [Nat.reduceAdd]; rfl) rfl rfl (by kernel_rfl) (fun _ _ _ h => h) (by rfl) ?_ ?_; rotate_left; (· (simp only [Act.put, List.setIfInBounds_toArray, List.set_cons_zero, List.set_cons_succ, i64_w, i32_w]; rfl)))
          iterate 2 (refine pureU_ (v := ?_) (a' := ?_) HT_.out (by simp only [Nat.reduceAdd]; rfl) rfl rfl (by kernel_rfl) (fun _ _ _ h => h) (Or.inl ⟨by rfl, ?_⟩) ?_ ?_; rotate_left; (· (intro w'; go_simp; with_reducible rfl)); rotate_left; (· (simp only [Act.put, List.setIfInBounds_toArray, List.set_cons_zero, List.set_cons_succ, i64_w, i32_w]; rfl)))
          refine done_ (done_of HT_.out (by kernel_rfl)) ?_
          try go_wp2
          go_ret
          exact ⟨by first | rfl | (simp [errW_none, errW_some] <;> rfl) | (simp [*, errW_none, errW_some] <;> rfl), by repeat (first | (with_reducible first | exact HB.out | apply below_alloc | apply pw_below_drewN | apply below_drew1 | refine below_set ?_ GE161.out) | exact HB.out)⟩
         ·
          rw [if_neg c48] at H
          have c48b0 : (a0_3 == t170) = false := beq_eq_false_iff_ne.mpr c48
          have c48b1 : (a0_3 != t170) = true := bne_iff_ne.mpr c48
          replace H := Option.bind_eq_some_iff.mp H
          obtain ⟨t171, A550, H⟩ := H
          replace H : (if t171 = true then ((strings_Contains.f a0_5 (⟨#[35]⟩ : ByteArray)).bind fun t172 => (if t172 = true then (some false) else (if a0_7 = true then (if a0_8 = true then (some true) else (some (a0_6.toList == ([] : List UInt8)))) else (if a0_5.toList = ([] : List UInt8) then (if a0_8 = true then (some true) else (some (a0_6.toList == ([] : List UInt8)))) else (some false))))) else (some false)) = some r := H
          have A55 := Aside0.mk A550
          clear A550
          by_cases c56 : t171 = true
          ·
           subst c56
           have H1 : ((strings_Contains.f a0_5 (⟨#[35]⟩ : ByteArray)).bind fun t172 => (if t172 = true then (some false) else (if a0_7 = true then (if a0_8 = true then (some true) else (some (a0_6.toList == ([] : List UInt8)))) else (if a0_5.toList = ([] : List UInt8) then (if a0_8 = true then (some true) else (some (a0_6.toList == ([] : List UInt8)))) else (some false))))) = some r := by rw [if_pos rfl] at H; exact H
           clear H
           have H := H1
           clear H1
           replace H := Option.bind_eq_some_iff.mp H
           obtain ⟨t172, A570, H⟩ := H
           replace H : (if t172 = true then (some false) else (if a0_7 = true then (if a0_8 = true then (some true) else (some (a0_6.toList == ([] : List UInt8)))) else (if a0_5.toList = ([] : List UInt8) then (if a0_8 = true then (some true) else (some (a0_6.toList == ([] : List UInt8)))) else (some false)))) = some r := H
           have A57 := Aside0.mk A570
           clear A570
           by_cases c58 : t172 = true
           ·
            subst c58
            have H1 : (some false) = some r := by rw [if_pos rfl] at H; exact H
            clear H
            have H := H1
            clear H1
            obtain rfl := Option.some.inj H
            have hcz59_0 : wc.cell? ⟨gb161, 0, none⟩ = some (.string a0_0) := (blk_cell BK161.out 0).trans rfl
            have hcz59_1 : wc.cell? ⟨gb161, 1, none⟩ = some (.string a0_1) := (blk_cell BK161.out 1).trans rfl
            have hcz59_2 : wc.cell? ⟨gb161, 2, none⟩ = some (.string a0_2) := (blk_cell BK161.out 2).trans rfl
            have hcz59_3 : wc.cell? ⟨gb161, 3, none⟩ = some (.int .i64 a0_3) := (blk_cell BK161.out 3).trans rfl
            have hcz59_4 : wc.cell? ⟨gb161, 4, none⟩ = some (.string a0_4) := (blk_cell BK161.out 4).trans rfl
            have hcz59_5 : wc.cell? ⟨gb161, 5, none⟩ = some (.string a0_5) := (blk_cell BK161.out 5).trans rfl
            have hcz59_6 : wc.cell? ⟨gb161, 6, none⟩ = some (.string a0_6) := (blk_cell BK161.out 6).trans rfl
            have hcz59_7 : wc.cell? ⟨gb161, 7, none⟩ = some (.bool a0_7) := (blk_cell BK161.out 7).trans rfl
            have hcz59_8 : wc.cell? ⟨gb161, 8, none⟩ = some (.bool a0_8) := (blk_cell BK161.out 8).trans rfl
            have hfz59_0 := blk_frozen BK161.out 0
            have hfz59_1 := blk_frozen BK161.out 1
            have hfz59_2 := blk_frozen BK161.out 2
            have hfz59_3 := blk_frozen BK161.out 3
            have hfz59_4 := blk_frozen BK161.out 4
            have hfz59_5 := blk_frozen BK161.out 5
            have hfz59_6 := blk_frozen BK161.out 6
            have hfz59_7 := blk_frozen BK161.out 7
            have hfz59_8 := blk_frozen BK161.out 8
            try go_wp2_with (first | ((with_reducible refine gate_callee (f := 31) rfl ?_); refine goesL_ (some 55) rfl rfl Tryd.func31 (by kernel_rfl) rfl #[.string a0_4, .string (⟨#[63, 35]⟩ : ByteArray)] rfl (by (try simp only [List.map_toArray, List.map_cons, List.map_nil]); first | done | rfl | (simp only [List.length_drop, List.length_take]; rfl)) ?_; (with_reducible refine (strings_ContainsAny.calls a0_4 (⟨#[63, 35]⟩ : ByteArray) false _ A29.out).mono ?_); rintro e w60 ⟨rfl, hb⟩; refine ⟨_, rfl, ?_⟩; have n0_ := Aside0.mk (blk_below (g := gb161) (o := .cells #[.string a0_0, .string a0_1, .string a0_2, .int .i64 a0_3, .string a0_4, .string a0_5, .string a0_6, .bool a0_7, .bool a0_8] 26 (0, 0)) (by (with_reducible repeat (first | refine blk_drewN ?_ _ | refine blk_drew ?_ | refine blk_alloc ?_ _)); exact BK161.out) hb); have n1_ := Aside0.mk (below_step (by repeat (first | (with_reducible first | exact HB.out | apply below_alloc | apply pw_below_drewN | apply below_drew1 | refine below_set ?_ GE161.out) | exact HB.out)) hb); clear BK161; clear HB; have BK161 := n0_; have HB := n1_; clear n0_ n1_; (try clear hb); (try clear hb2); (try clear hk); (try clear hi); have hcz61_0 : w60.cell? ⟨gb161, 0, none⟩ = some (.string a0_0) := (blk_cell BK161.out 0).trans rfl; have hcz61_1 : w60.cell? ⟨gb161, 1, none⟩ = some (.string a0_1) := (blk_cell BK161.out 1).trans rfl; have hcz61_2 : w60.cell? ⟨gb161, 2, none⟩ = some (.string a0_2) := (blk_cell BK161.out 2).trans rfl; have hcz61_3 : w60.cell? ⟨gb161, 3, none⟩ = some (.int .i64 a0_3) := (blk_cell BK161.out 3).trans rfl; have hcz61_4 : w60.cell? ⟨gb161, 4, none⟩ = some (.string a0_4) := (blk_cell BK161.out 4).trans rfl; have hcz61_5 : w60.cell? ⟨gb161, 5, none⟩ = some (.string a0_5) := (blk_cell BK161.out 5).trans rfl; have hcz61_6 : w60.cell? ⟨gb161, 6, none⟩ = some (.string a0_6) := (blk_cell BK161.out 6).trans rfl; have hcz61_7 : w60.cell? ⟨gb161, 7, none⟩ = some (.bool a0_7) := (blk_cell BK161.out 7).trans rfl; have hcz61_8 : w60.cell? ⟨gb161, 8, none⟩ = some (.bool a0_8) := (blk_cell BK161.out 8).trans rfl; have hfz61_0 := blk_frozen BK161.out 0; have hfz61_1 := blk_frozen BK161.out 1; have hfz61_2 := blk_frozen BK161.out 2; have hfz61_3 := blk_frozen BK161.out 3; have hfz61_4 := blk_frozen BK161.out 4; have hfz61_5 := blk_frozen BK161.out 5; have hfz61_6 := blk_frozen BK161.out 6; have hfz61_7 := blk_frozen BK161.out 7; have hfz61_8 := blk_frozen BK161.out 8) | ((with_reducible refine gate_callee (f := 32) rfl ?_); refine goesL_ (some 57) rfl rfl Tryd.func32 (by kernel_rfl) rfl #[.agg #[.string a0_0, .string a0_1, .string a0_2, .int .i64 a0_3, .string a0_4, .string a0_5, .string a0_6, .bool a0_7, .bool a0_8]] rfl (by (try simp only [List.map_toArray, List.map_cons, List.map_nil]); first | done | rfl | (simp only [List.length_drop, List.length_take]; rfl)) ?_; (with_reducible refine (impl_Url_web.calls a0_0 a0_1 a0_2 a0_3 a0_4 a0_5 a0_6 a0_7 a0_8 true _ A33.out).mono ?_); rintro e w62 ⟨rfl, hb⟩; refine ⟨_, rfl, ?_⟩; have n0_ := Aside0.mk (blk_below (g := gb161) (o := .cells #[.string a0_0, .string a0_1, .string a0_2, .int .i64 a0_3, .string a0_4, .string a0_5, .string a0_6, .bool a0_7, .bool a0_8] 26 (0, 0)) (by (with_reducible repeat (first | refine blk_drewN ?_ _ | refine blk_drew ?_ | refine blk_alloc ?_ _)); exact BK161.out) hb); have n1_ := Aside0.mk (below_step (by repeat (first | (with_reducible first | exact HB.out | apply below_alloc | apply pw_below_drewN | apply below_drew1 | refine below_set ?_ GE161.out) | exact HB.out)) hb); clear BK161; clear HB; have BK161 := n0_; have HB := n1_; clear n0_ n1_; (try clear hb); (try clear hb2); (try clear hk); (try clear hi)))
            have n0_ := Aside0.mk (blk_drew BK161.out)
            have n1_ := Aside0.mk (below_drew1 HB.out)
            clear BK161
            clear HB
            have BK161 := n0_
            have HB := n1_
            clear n0_ n1_
            refine start_ (n := 52) (S := fun w' => w'.cell? ⟨gb161, 0, none⟩ = some (.string a0_0) ∧ w'.cell? ⟨gb161, 1, none⟩ = some (.string a0_1) ∧ w'.cell? ⟨gb161, 2, none⟩ = some (.string a0_2) ∧ w'.cell? ⟨gb161, 3, none⟩ = some (.int .i64 a0_3) ∧ w'.cell? ⟨gb161, 4, none⟩ = some (.string a0_4) ∧ w'.cell? ⟨gb161, 5, none⟩ = some (.string a0_5) ∧ w'.cell? ⟨gb161, 6, none⟩ = some (.string a0_6) ∧ w'.cell? ⟨gb161, 7, none⟩ = some (.bool a0_7) ∧ w'.cell? ⟨gb161, 8, none⟩ = some (.bool a0_8)) (ds := []) #[Z, Z, Z, Z, Z, Z, Z, Z, Z, Z, Z, Z, Z, Z, Z, Z, Z, Z, Z, Z, Z, Z, Z, Z, Z, Z, Z, Z, Z, Z, Z, Z, Z, Z, Z, Z, Z, Z, Z, Z, Z, Z, Z, Z, Z, Z, Z, Z, Z, Z, Z, Z] (by kernel_rfl) rfl rfl (held9_ BK161.out) (fun hHeld => ?_); refine with_tabW impl_UrlOK.tab7 impl_UrlOK.bits7 (fun HT_ HW_ => ?_)
            generalize w62.drew = w63 at BK161 HB hHeld ⊢
            refine toU_ (i := 0) (n := 52) (by kernel_rfl) ?_
            (refine pureU_ (v := ?_) (a' := ?_) HT_.out (by simp only [Nat.reduceAdd]; rfl) rfl rfl (by kernel_rfl) (fun _ _ _ h => h) (Or.inl ⟨by rfl, ?_⟩) ?_ ?_; rotate_left; (· (intro w'; go_simp; with_reducible rfl)); rotate_left; (· (simp only [Act.put, List.setIfInBounds_toArray, List.set_cons_zero, List.set_cons_succ, i64_w, i32_w]; rfl)))
            (refine takeU_ (v := ?_) (a' := ?_) HT_.out HW_.out (by simp only [Nat.reduceAdd]; rfl) rfl rfl (by kernel_rfl) (fun _ _ _ h => h) (Or.inl ⟨by rfl, ?_⟩) hHeld ?_ ?_; rotate_left; (· (rintro w' ⟨s0, s1, s2, s3, s4, s5, s6, s7, s8⟩; go_simp; with_reducible rfl)); rotate_left; (· (simp only [Act.put, List.setIfInBounds_toArray, List.set_cons_zero, List.set_cons_succ, i64_w, i32_w]; rfl)))
            refine one_ (i := 2) (N := some 68) (upTo 3 49) rfl rfl (one_of HT_.out (by kernel_rfl)) (by decide) (fun K hK => ?_)
            refine goes_ Tryd.func31 (by kernel_rfl) rfl #[.string a0_1, .string (⟨#[47, 63, 35, 64]⟩ : ByteArray)] (by rfl) rfl rfl (by (try simp only [List.map_toArray, List.map_cons, List.map_nil]); first | done | rfl | (simp only [List.length_drop, List.length_take]; rfl)) ?_
            with_reducible refine (strings_ContainsAny.calls a0_1 (⟨#[47, 63, 35, 64]⟩ : ByteArray) false _ A35.out).mono ?_
            rintro e w64 ⟨rfl, hb⟩
            refine ⟨_, rfl, ?_⟩
            have n0_ := Aside0.mk (blk_below (g := gb161) (o := .cells #[.string a0_0, .string a0_1, .string a0_2, .int .i64 a0_3, .string a0_4, .string a0_5, .string a0_6, .bool a0_7, .bool a0_8] 26 (0, 0)) (by (with_reducible repeat (first | refine blk_drewN ?_ _ | refine blk_drew ?_ | refine blk_alloc ?_ _)); exact BK161.out) hb)
            have n1_ := Aside0.mk (below_step (by repeat (first | (with_reducible first | exact HB.out | apply below_alloc | apply pw_below_drewN | apply below_drew1 | refine below_set ?_ GE161.out) | exact HB.out)) hb)
            clear BK161
            clear HB
            have BK161 := n0_
            have HB := n1_
            clear n0_ n1_
            (try clear hb)
            (try clear hb2)
            (try clear hk)
            (try clear hi)
            refine hK.out _ _ (held9_ BK161.out) (fun hHeld => ?_)
            clear hK K
            refine norm_ (a' := ?_) ?_ ?_
            rotate_left
            ·
             show Act.put _ (some 68) _ = _
             simp only [Act.put, List.setIfInBounds_toArray, List.set_cons_zero, List.set_cons_succ, i64_w, i32_w]
             rfl
            refine toU_ (i := 3) (n := 49) (by kernel_rfl) ?_
            iterate 3 (refine pureU_ (v := ?_) (a' := ?_) HT_.out (by simp only [Nat.reduceAdd]; rfl) rfl rfl (by kernel_rfl) (fun _ _ _ h => h) (Or.inl ⟨by rfl, ?_⟩) ?_ ?_; rotate_left; (· (intro w'; go_simp; with_reducible rfl)); rotate_left; (· (simp only [Act.put, List.setIfInBounds_toArray, List.set_cons_zero, List.set_cons_succ, i64_w, i32_w]; rfl)))
            (refine takeU_ (v := ?_) (a' := ?_) HT_.out HW_.out (by simp only [Nat.reduceAdd]; rfl) rfl rfl (by kernel_rfl) (fun _ _ _ h => h) (Or.inl ⟨by rfl, ?_⟩) hHeld ?_ ?_; rotate_left; (· (rintro w' ⟨s0, s1, s2, s3, s4, s5, s6, s7, s8⟩; go_simp; with_reducible rfl)); rotate_left; (· (simp only [Act.put, List.setIfInBounds_toArray, List.set_cons_zero, List.set_cons_succ, i64_w, i32_w]; rfl)))
            refine one_ (i := 7) (N := some 73) (upTo 8 44) rfl rfl (one_of HT_.out (by kernel_rfl)) (by decide) (fun K hK => ?_)
            refine goes_ Tryd.func33 (by kernel_rfl) rfl #[.string a0_2] (by rfl) rfl rfl (by (try simp only [List.map_toArray, List.map_cons, List.map_nil]); first | done | rfl | (simp only [List.length_drop, List.length_take]; rfl)) ?_
            with_reducible refine (impl_isHost.calls kj1 a0_2 true _ A43.out).mono ?_
            rintro e w' ⟨rfl, ⟨nd, rfl⟩⟩
            refine ⟨_, rfl, ?_⟩
            refine hK.out _ _ (held9_ BK161.out) (fun hHeld => ?_)
            clear hK K
            refine norm_ (a' := ?_) ?_ ?_
            rotate_left
            ·
             show Act.put _ (some 73) _ = _
             simp only [Act.put, List.setIfInBounds_toArray, List.set_cons_zero, List.set_cons_succ, i64_w, i32_w]
             rfl
            refine toU_ (i := 8) (n := 44) (by kernel_rfl) ?_
            iterate 3 (refine pureU_ (v := ?_) (a' := ?_) HT_.out (by simp only [Nat.reduceAdd]; rfl) rfl rfl (by kernel_rfl) (fun _ _ _ h => h) (Or.inl ⟨by rfl, ?_⟩) ?_ ?_; rotate_left; (· (intro w'; go_simp; with_reducible rfl)); rotate_left; (· (simp only [Act.put, List.setIfInBounds_toArray, List.set_cons_zero, List.set_cons_succ, i64_w, i32_w]; rfl)))
            (refine takeU_ (v := ?_) (a' := ?_) HT_.out HW_.out (by simp only [Nat.reduceAdd]; rfl) rfl rfl (by kernel_rfl) (fun _ _ _ h => h) (Or.inl ⟨by rfl, ?_⟩) hHeld ?_ ?_; rotate_left; (· (rintro w' ⟨s0, s1, s2, s3, s4, s5, s6, s7, s8⟩; go_simp; with_reducible rfl)); rotate_left; (· (simp only [Act.put, List.setIfInBounds_toArray, List.set_cons_zero, List.set_cons_succ, i64_w, i32_w]; rfl)))
            refine one_ (i := 12) (N := some 78) (upTo 13 39) rfl rfl (one_of HT_.out (by kernel_rfl)) (by decide) (fun K hK => ?_)
            refine goes_ Tryd.func34 (by kernel_rfl) rfl #[.int .i64 a0_3, .int .i64 0, .int .i64 65535] (by rfl) rfl rfl (by (try simp only [List.map_toArray, List.map_cons, List.map_nil]); first | done | rfl | (simp only [List.length_drop, List.length_take]; rfl)) ?_
            with_reducible refine (impl_within.calls a0_3 0 65535 true _ A45.out).mono ?_
            rintro e w' ⟨rfl, ⟨nd, rfl⟩⟩
            refine ⟨_, rfl, ?_⟩
            refine hK.out _ _ (held9_ BK161.out) (fun hHeld => ?_)
            clear hK K
            refine norm_ (a' := ?_) ?_ ?_
            rotate_left
            ·
             show Act.put _ (some 78) _ = _
             simp only [Act.put, List.setIfInBounds_toArray, List.set_cons_zero, List.set_cons_succ, i64_w, i32_w]
             rfl
            refine toU_ (i := 13) (n := 39) (by kernel_rfl) ?_
            iterate 3 (refine pureU_ (v := ?_) (a' := ?_) HT_.out (by simp only [Nat.reduceAdd]; rfl) rfl rfl (by kernel_rfl) (fun _ _ _ h => h) (Or.inl ⟨by rfl, ?_⟩) ?_ ?_; rotate_left; (· (intro w'; go_simp; with_reducible rfl)); rotate_left; (· (simp only [Act.put, List.setIfInBounds_toArray, List.set_cons_zero, List.set_cons_succ, i64_w, i32_w]; rfl)))
            refine pure_ (i := 17) (N := some 83) (v := ?_) (a' := ?_) #[Y, Y, Y, Y, Y, Y, Y, Y, Y, Y, Y, Y, Y, Y, Y, Y, Z, Y, Z, Z, Z, Z, Z, Z, Z, Z, Z, Z, Z, Z, Z, Z, Z, Z, Z, Z, Z, Z, Z, Z, Z, Z, Z, Z, Z, Z, Z, Z, Z, Z, Z, Z] rfl rfl (any_of HT_.out (by kernel_rfl)) (fun _ _ _ h => h) (Or.inl ⟨by rfl, ?_⟩) ?_ ?_
            rotate_left
            ·
             intro w'
             go_simp
             with_reducible rfl
            rotate_left
            ·
             simp only [Act.put, List.setIfInBounds_toArray, List.set_cons_zero, List.set_cons_succ, i64_w, i32_w]
             rfl
            refine take_ (i := 16) (N := some 82) (v := ?_) (a' := ?_) #[Y, Y, Y, Y, Y, Y, Y, Y, Y, Y, Y, Y, Y, Y, Y, Y, Y, Y, Z, Z, Z, Z, Z, Z, Z, Z, Z, Z, Z, Z, Z, Z, Z, Z, Z, Z, Z, Z, Z, Z, Z, Z, Z, Z, Z, Z, Z, Z, Z, Z, Z, Z] rfl rfl (take_ofW HT_.out HW_.out (by kernel_rfl)) (fun _ _ _ h => h) (Or.inl ⟨by rfl, ?_⟩) hHeld ?_ ?_
            rotate_left
            ·
             rintro w' ⟨s0, s1, s2, s3, s4, s5, s6, s7, s8⟩
             go_simp
             with_reducible rfl
            rotate_left
            ·
             simp only [Act.put, List.setIfInBounds_toArray, List.set_cons_zero, List.set_cons_succ, i64_w, i32_w]
             rfl
            refine take_ (i := 18) (N := some 84) (v := ?_) (a' := ?_) #[Y, Y, Y, Y, Y, Y, Y, Y, Y, Y, Y, Y, Y, Y, Y, Y, Y, Y, Y, Z, Z, Z, Z, Z, Z, Z, Z, Z, Z, Z, Z, Z, Z, Z, Z, Z, Z, Z, Z, Z, Z, Z, Z, Z, Z, Z, Z, Z, Z, Z, Z, Z] rfl rfl (take_ofW HT_.out HW_.out (by kernel_rfl)) (fun _ _ _ h => h) (Or.inl ⟨by rfl, ?_⟩) hHeld ?_ ?_
            rotate_left
            ·
             rintro w' ⟨s0, s1, s2, s3, s4, s5, s6, s7, s8⟩
             go_simp
             with_reducible rfl
            rotate_left
            ·
             simp only [Act.put, List.setIfInBounds_toArray, List.set_cons_zero, List.set_cons_succ, i64_w, i32_w]
             rfl
            refine one_ (i := 19) (N := some 85) (upTo 20 32) rfl rfl (one_of HT_.out (by kernel_rfl)) (by decide) (fun K hK => ?_)
            refine goes_ Tryd.func35 (by kernel_rfl) rfl #[.string a0_0] (by rfl) rfl rfl (by (try simp only [List.map_toArray, List.map_cons, List.map_nil]); first | done | rfl | (simp only [List.length_drop, List.length_take]; rfl)) ?_
            with_reducible refine (impl_usual.calls a0_0 t170 _ A47.out).mono ?_
            rintro e w' ⟨rfl, ⟨nd, rfl⟩⟩
            refine ⟨_, rfl, ?_⟩
            refine hK.out _ _ (held9_ BK161.out) (fun hHeld => ?_)
            clear hK K
            refine norm_ (a' := ?_) ?_ ?_
            rotate_left
            ·
             show Act.put _ (some 85) _ = _
             simp only [Act.put, List.setIfInBounds_toArray, List.set_cons_zero, List.set_cons_succ, i64_w, i32_w]
             rfl
            refine toU_ (i := 20) (n := 32) (by kernel_rfl) ?_
            iterate 4 (refine pureU_ (v := ?_) (a' := ?_) HT_.out (by simp only [Nat.reduceAdd]; rfl) rfl rfl (by kernel_rfl) (fun _ _ _ h => h) (Or.inl ⟨by rfl, ?_⟩) ?_ ?_; rotate_left; (· (intro w'; go_simp; with_reducible rfl)); rotate_left; (· (simp only [Act.put, List.setIfInBounds_toArray, List.set_cons_zero, List.set_cons_succ, i64_w, i32_w]; rfl)))
            (refine takeU_ (v := ?_) (a' := ?_) HT_.out HW_.out (by simp only [Nat.reduceAdd]; rfl) rfl rfl (by kernel_rfl) (fun _ _ _ h => h) (Or.inl ⟨by rfl, ?_⟩) hHeld ?_ ?_; rotate_left; (· (rintro w' ⟨s0, s1, s2, s3, s4, s5, s6, s7, s8⟩; go_simp; with_reducible rfl)); rotate_left; (· (simp only [Act.put, List.setIfInBounds_toArray, List.set_cons_zero, List.set_cons_succ, i64_w, i32_w]; rfl)))
            refine one_ (i := 25) (N := some 91) (upTo 26 26) rfl rfl (one_of HT_.out (by kernel_rfl)) (by decide) (fun K hK => ?_)
            refine goes_ Tryd.func36 (by kernel_rfl) rfl #[.string a0_4, .string (⟨#[47]⟩ : ByteArray)] (by rfl) rfl rfl (by (try simp only [List.map_toArray, List.map_cons, List.map_nil]); first | done | rfl | (simp only [List.length_drop, List.length_take]; rfl)) ?_
            with_reducible refine (strings_HasPrefix.calls a0_4 (⟨#[47]⟩ : ByteArray) true _ A55.out).mono ?_
            rintro e w' ⟨rfl, ⟨nd, rfl⟩⟩
            refine ⟨_, rfl, ?_⟩
            refine hK.out _ _ (held9_ BK161.out) (fun hHeld => ?_)
            clear hK K
            refine norm_ (a' := ?_) ?_ ?_
            rotate_left
            ·
             show Act.put _ (some 91) _ = _
             simp only [Act.put, List.setIfInBounds_toArray, List.set_cons_zero, List.set_cons_succ, i64_w, i32_w]
             rfl
            refine toU_ (i := 26) (n := 26) (by kernel_rfl) ?_
            iterate 3 (refine pureU_ (v := ?_) (a' := ?_) HT_.out (by simp only [Nat.reduceAdd]; rfl) rfl rfl (by kernel_rfl) (fun _ _ _ h => h) (Or.inl ⟨by rfl, ?_⟩) ?_ ?_; rotate_left; (· (intro w'; go_simp; with_reducible rfl)); rotate_left; (· (simp only [Act.put, List.setIfInBounds_toArray, List.set_cons_zero, List.set_cons_succ, i64_w, i32_w]; rfl)))
            (refine takeU_ (v := ?_) (a' := ?_) HT_.out HW_.out (by simp only [Nat.reduceAdd]; rfl) rfl rfl (by kernel_rfl) (fun _ _ _ h => h) (Or.inl ⟨by rfl, ?_⟩) hHeld ?_ ?_; rotate_left; (· (rintro w' ⟨s0, s1, s2, s3, s4, s5, s6, s7, s8⟩; go_simp; with_reducible rfl)); rotate_left; (· (simp only [Act.put, List.setIfInBounds_toArray, List.set_cons_zero, List.set_cons_succ, i64_w, i32_w]; rfl)))
            refine one_ (i := 30) (N := some 96) (upTo 31 21) rfl rfl (one_of HT_.out (by kernel_rfl)) (by decide) (fun K hK => ?_)
            refine goes_ Tryd.func37 (by kernel_rfl) rfl #[.string a0_5, .string (⟨#[35]⟩ : ByteArray)] (by rfl) rfl rfl (by (try simp only [List.map_toArray, List.map_cons, List.map_nil]); first | done | rfl | (simp only [List.length_drop, List.length_take]; rfl)) ?_
            with_reducible refine (strings_Contains.calls a0_5 (⟨#[35]⟩ : ByteArray) true _ A57.out).mono ?_
            rintro e w' ⟨rfl, ⟨nd, rfl⟩⟩
            refine ⟨_, rfl, ?_⟩
            refine hK.out _ _ (held9_ BK161.out) (fun hHeld => ?_)
            clear hK K
            refine norm_ (a' := ?_) ?_ ?_
            rotate_left
            ·
             show Act.put _ (some 96) _ = _
             simp only [Act.put, List.setIfInBounds_toArray, List.set_cons_zero, List.set_cons_succ, i64_w, i32_w]
             rfl
            refine toU_ (i := 31) (n := 21) (by kernel_rfl) ?_
            iterate 3 (refine pureU_ (v := ?_) (a' := ?_) HT_.out (by simp only [Nat.reduceAdd]; rfl) rfl rfl (by kernel_rfl) (fun _ _ _ h => h) (Or.inl ⟨by rfl, ?_⟩) ?_ ?_; rotate_left; (· (intro w'; go_simp; with_reducible rfl)); rotate_left; (· (simp only [Act.put, List.setIfInBounds_toArray, List.set_cons_zero, List.set_cons_succ, i64_w, i32_w]; rfl)))
            iterate 7 (refine skipU_ (a' := ?_) HT_.out (by simp only [Nat.reduceAdd]; rfl) rfl rfl (by kernel_rfl) (fun _ _ _ h => h) (by rfl) ?_ ?_; rotate_left; (· (simp only [Act.put, List.setIfInBounds_toArray, List.set_cons_zero, List.set_cons_succ, i64_w, i32_w]; rfl)))
            iterate 2 (refine pureU_ (v := ?_) (a' := ?_) HT_.out (by simp only [Nat.reduceAdd]; rfl) rfl rfl (by kernel_rfl) (fun _ _ _ h => h) (Or.inl ⟨by rfl, ?_⟩) ?_ ?_; rotate_left; (· (intro w'; go_simp; with_reducible rfl)); rotate_left; (· (simp only [Act.put, List.setIfInBounds_toArray, List.set_cons_zero, List.set_cons_succ, i64_w, i32_w]; rfl)))
            iterate 7 (refine skipU_ (a' := ?_) HT_.out (by simp only [Nat.reduceAdd]; rfl) rfl rfl (by kernel_rfl) (fun _ _ _ h => h) (by rfl) ?_ ?_; rotate_left; (· (simp only [Act.put, List.setIfInBounds_toArray, List.set_cons_zero, List.set_cons_succ, i64_w, i32_w]; rfl)))
            iterate 2 (refine pureU_ (v := ?_) (a' := ?_) HT_.out (by simp only [Nat.reduceAdd]; rfl) rfl rfl (by kernel_rfl) (fun _ _ _ h => h) (Or.inl ⟨by rfl, ?_⟩) ?_ ?_; rotate_left; (· (intro w'; go_simp; with_reducible rfl)); rotate_left; (· (simp only [Act.put, List.setIfInBounds_toArray, List.set_cons_zero, List.set_cons_succ, i64_w, i32_w]; rfl)))
            refine done_ (done_of HT_.out (by kernel_rfl)) ?_
            try go_wp2
            go_ret
            exact ⟨by first | rfl | (simp [errW_none, errW_some] <;> rfl) | (simp [*, errW_none, errW_some] <;> rfl), by repeat (first | (with_reducible first | exact HB.out | apply below_alloc | apply pw_below_drewN | apply below_drew1 | refine below_set ?_ GE161.out) | exact HB.out)⟩
           ·
            replace c58 := Bool.eq_false_iff.mpr c58
            subst c58
            have H1 : (if a0_7 = true then (if a0_8 = true then (some true) else (some (a0_6.toList == ([] : List UInt8)))) else (if a0_5.toList = ([] : List UInt8) then (if a0_8 = true then (some true) else (some (a0_6.toList == ([] : List UInt8)))) else (some false))) = some r := by rw [if_neg (show ¬ (false = true) by decide)] at H; exact H
            clear H
            have H := H1
            clear H1
            by_cases c65 : a0_7 = true
            ·
             subst c65
             have H1 : (if a0_8 = true then (some true) else (some (a0_6.toList == ([] : List UInt8)))) = some r := by rw [if_pos rfl] at H; exact H
             clear H
             have H := H1
             clear H1
             by_cases c66 : a0_8 = true
             ·
              subst c66
              have H1 : (some true) = some r := by rw [if_pos rfl] at H; exact H
              clear H
              have H := H1
              clear H1
              obtain rfl := Option.some.inj H
              have hcz67_0 : wc.cell? ⟨gb161, 0, none⟩ = some (.string a0_0) := (blk_cell BK161.out 0).trans rfl
              have hcz67_1 : wc.cell? ⟨gb161, 1, none⟩ = some (.string a0_1) := (blk_cell BK161.out 1).trans rfl
              have hcz67_2 : wc.cell? ⟨gb161, 2, none⟩ = some (.string a0_2) := (blk_cell BK161.out 2).trans rfl
              have hcz67_3 : wc.cell? ⟨gb161, 3, none⟩ = some (.int .i64 a0_3) := (blk_cell BK161.out 3).trans rfl
              have hcz67_4 : wc.cell? ⟨gb161, 4, none⟩ = some (.string a0_4) := (blk_cell BK161.out 4).trans rfl
              have hcz67_5 : wc.cell? ⟨gb161, 5, none⟩ = some (.string a0_5) := (blk_cell BK161.out 5).trans rfl
              have hcz67_6 : wc.cell? ⟨gb161, 6, none⟩ = some (.string a0_6) := (blk_cell BK161.out 6).trans rfl
              have hcz67_7 : wc.cell? ⟨gb161, 7, none⟩ = some (.bool true) := (blk_cell BK161.out 7).trans rfl
              have hcz67_8 : wc.cell? ⟨gb161, 8, none⟩ = some (.bool true) := (blk_cell BK161.out 8).trans rfl
              have hfz67_0 := blk_frozen BK161.out 0
              have hfz67_1 := blk_frozen BK161.out 1
              have hfz67_2 := blk_frozen BK161.out 2
              have hfz67_3 := blk_frozen BK161.out 3
              have hfz67_4 := blk_frozen BK161.out 4
              have hfz67_5 := blk_frozen BK161.out 5
              have hfz67_6 := blk_frozen BK161.out 6
              have hfz67_7 := blk_frozen BK161.out 7
              have hfz67_8 := blk_frozen BK161.out 8
              try go_wp2_with (first | ((with_reducible refine gate_callee (f := 31) rfl ?_); refine goesL_ (some 55) rfl rfl Tryd.func31 (by kernel_rfl) rfl #[.string a0_4, .string (⟨#[63, 35]⟩ : ByteArray)] rfl (by (try simp only [List.map_toArray, List.map_cons, List.map_nil]); first | done | rfl | (simp only [List.length_drop, List.length_take]; rfl)) ?_; (with_reducible refine (strings_ContainsAny.calls a0_4 (⟨#[63, 35]⟩ : ByteArray) false _ A29.out).mono ?_); rintro e w68 ⟨rfl, hb⟩; refine ⟨_, rfl, ?_⟩; have n0_ := Aside0.mk (blk_below (g := gb161) (o := .cells #[.string a0_0, .string a0_1, .string a0_2, .int .i64 a0_3, .string a0_4, .string a0_5, .string a0_6, .bool true, .bool true] 26 (0, 0)) (by (with_reducible repeat (first | refine blk_drewN ?_ _ | refine blk_drew ?_ | refine blk_alloc ?_ _)); exact BK161.out) hb); have n1_ := Aside0.mk (below_step (by repeat (first | (with_reducible first | exact HB.out | apply below_alloc | apply pw_below_drewN | apply below_drew1 | refine below_set ?_ GE161.out) | exact HB.out)) hb); clear BK161; clear HB; have BK161 := n0_; have HB := n1_; clear n0_ n1_; (try clear hb); (try clear hb2); (try clear hk); (try clear hi); have hcz69_0 : w68.cell? ⟨gb161, 0, none⟩ = some (.string a0_0) := (blk_cell BK161.out 0).trans rfl; have hcz69_1 : w68.cell? ⟨gb161, 1, none⟩ = some (.string a0_1) := (blk_cell BK161.out 1).trans rfl; have hcz69_2 : w68.cell? ⟨gb161, 2, none⟩ = some (.string a0_2) := (blk_cell BK161.out 2).trans rfl; have hcz69_3 : w68.cell? ⟨gb161, 3, none⟩ = some (.int .i64 a0_3) := (blk_cell BK161.out 3).trans rfl; have hcz69_4 : w68.cell? ⟨gb161, 4, none⟩ = some (.string a0_4) := (blk_cell BK161.out 4).trans rfl; have hcz69_5 : w68.cell? ⟨gb161, 5, none⟩ = some (.string a0_5) := (blk_cell BK161.out 5).trans rfl; have hcz69_6 : w68.cell? ⟨gb161, 6, none⟩ = some (.string a0_6) := (blk_cell BK161.out 6).trans rfl; have hcz69_7 : w68.cell? ⟨gb161, 7, none⟩ = some (.bool true) := (blk_cell BK161.out 7).trans rfl; have hcz69_8 : w68.cell? ⟨gb161, 8, none⟩ = some (.bool true) := (blk_cell BK161.out 8).trans rfl; have hfz69_0 := blk_frozen BK161.out 0; have hfz69_1 := blk_frozen BK161.out 1; have hfz69_2 := blk_frozen BK161.out 2; have hfz69_3 := blk_frozen BK161.out 3; have hfz69_4 := blk_frozen BK161.out 4; have hfz69_5 := blk_frozen BK161.out 5; have hfz69_6 := blk_frozen BK161.out 6; have hfz69_7 := blk_frozen BK161.out 7; have hfz69_8 := blk_frozen BK161.out 8) | ((with_reducible refine gate_callee (f := 32) rfl ?_); refine goesL_ (some 57) rfl rfl Tryd.func32 (by kernel_rfl) rfl #[.agg #[.string a0_0, .string a0_1, .string a0_2, .int .i64 a0_3, .string a0_4, .string a0_5, .string a0_6, .bool true, .bool true]] rfl (by (try simp only [List.map_toArray, List.map_cons, List.map_nil]); first | done | rfl | (simp only [List.length_drop, List.length_take]; rfl)) ?_; (with_reducible refine (impl_Url_web.calls a0_0 a0_1 a0_2 a0_3 a0_4 a0_5 a0_6 true true true _ A33.out).mono ?_); rintro e w70 ⟨rfl, hb⟩; refine ⟨_, rfl, ?_⟩; have n0_ := Aside0.mk (blk_below (g := gb161) (o := .cells #[.string a0_0, .string a0_1, .string a0_2, .int .i64 a0_3, .string a0_4, .string a0_5, .string a0_6, .bool true, .bool true] 26 (0, 0)) (by (with_reducible repeat (first | refine blk_drewN ?_ _ | refine blk_drew ?_ | refine blk_alloc ?_ _)); exact BK161.out) hb); have n1_ := Aside0.mk (below_step (by repeat (first | (with_reducible first | exact HB.out | apply below_alloc | apply pw_below_drewN | apply below_drew1 | refine below_set ?_ GE161.out) | exact HB.out)) hb); clear BK161; clear HB; have BK161 := n0_; have HB := n1_; clear n0_ n1_; (try clear hb); (try clear hb2); (try clear hk); (try clear hi)))
              have n0_ := Aside0.mk (blk_drew BK161.out)
              have n1_ := Aside0.mk (below_drew1 HB.out)
              clear BK161
              clear HB
              have BK161 := n0_
              have HB := n1_
              clear n0_ n1_
              refine start_ (n := 52) (S := fun w' => w'.cell? ⟨gb161, 0, none⟩ = some (.string a0_0) ∧ w'.cell? ⟨gb161, 1, none⟩ = some (.string a0_1) ∧ w'.cell? ⟨gb161, 2, none⟩ = some (.string a0_2) ∧ w'.cell? ⟨gb161, 3, none⟩ = some (.int .i64 a0_3) ∧ w'.cell? ⟨gb161, 4, none⟩ = some (.string a0_4) ∧ w'.cell? ⟨gb161, 5, none⟩ = some (.string a0_5) ∧ w'.cell? ⟨gb161, 6, none⟩ = some (.string a0_6) ∧ w'.cell? ⟨gb161, 7, none⟩ = some (.bool true) ∧ w'.cell? ⟨gb161, 8, none⟩ = some (.bool true)) (ds := []) #[Z, Z, Z, Z, Z, Z, Z, Z, Z, Z, Z, Z, Z, Z, Z, Z, Z, Z, Z, Z, Z, Z, Z, Z, Z, Z, Z, Z, Z, Z, Z, Z, Z, Z, Z, Z, Z, Z, Z, Z, Z, Z, Z, Z, Z, Z, Z, Z, Z, Z, Z, Z] (by kernel_rfl) rfl rfl (held9_ BK161.out) (fun hHeld => ?_); refine with_tabW impl_UrlOK.tab7 impl_UrlOK.bits7 (fun HT_ HW_ => ?_)
              generalize w70.drew = w71 at BK161 HB hHeld ⊢
              refine toU_ (i := 0) (n := 52) (by kernel_rfl) ?_
              (refine pureU_ (v := ?_) (a' := ?_) HT_.out (by simp only [Nat.reduceAdd]; rfl) rfl rfl (by kernel_rfl) (fun _ _ _ h => h) (Or.inl ⟨by rfl, ?_⟩) ?_ ?_; rotate_left; (· (intro w'; go_simp; with_reducible rfl)); rotate_left; (· (simp only [Act.put, List.setIfInBounds_toArray, List.set_cons_zero, List.set_cons_succ, i64_w, i32_w]; rfl)))
              (refine takeU_ (v := ?_) (a' := ?_) HT_.out HW_.out (by simp only [Nat.reduceAdd]; rfl) rfl rfl (by kernel_rfl) (fun _ _ _ h => h) (Or.inl ⟨by rfl, ?_⟩) hHeld ?_ ?_; rotate_left; (· (rintro w' ⟨s0, s1, s2, s3, s4, s5, s6, s7, s8⟩; go_simp; with_reducible rfl)); rotate_left; (· (simp only [Act.put, List.setIfInBounds_toArray, List.set_cons_zero, List.set_cons_succ, i64_w, i32_w]; rfl)))
              refine one_ (i := 2) (N := some 68) (upTo 3 49) rfl rfl (one_of HT_.out (by kernel_rfl)) (by decide) (fun K hK => ?_)
              refine goes_ Tryd.func31 (by kernel_rfl) rfl #[.string a0_1, .string (⟨#[47, 63, 35, 64]⟩ : ByteArray)] (by rfl) rfl rfl (by (try simp only [List.map_toArray, List.map_cons, List.map_nil]); first | done | rfl | (simp only [List.length_drop, List.length_take]; rfl)) ?_
              with_reducible refine (strings_ContainsAny.calls a0_1 (⟨#[47, 63, 35, 64]⟩ : ByteArray) false _ A35.out).mono ?_
              rintro e w72 ⟨rfl, hb⟩
              refine ⟨_, rfl, ?_⟩
              have n0_ := Aside0.mk (blk_below (g := gb161) (o := .cells #[.string a0_0, .string a0_1, .string a0_2, .int .i64 a0_3, .string a0_4, .string a0_5, .string a0_6, .bool true, .bool true] 26 (0, 0)) (by (with_reducible repeat (first | refine blk_drewN ?_ _ | refine blk_drew ?_ | refine blk_alloc ?_ _)); exact BK161.out) hb)
              have n1_ := Aside0.mk (below_step (by repeat (first | (with_reducible first | exact HB.out | apply below_alloc | apply pw_below_drewN | apply below_drew1 | refine below_set ?_ GE161.out) | exact HB.out)) hb)
              clear BK161
              clear HB
              have BK161 := n0_
              have HB := n1_
              clear n0_ n1_
              (try clear hb)
              (try clear hb2)
              (try clear hk)
              (try clear hi)
              refine hK.out _ _ (held9_ BK161.out) (fun hHeld => ?_)
              clear hK K
              refine norm_ (a' := ?_) ?_ ?_
              rotate_left
              ·
               show Act.put _ (some 68) _ = _
               simp only [Act.put, List.setIfInBounds_toArray, List.set_cons_zero, List.set_cons_succ, i64_w, i32_w]
               rfl
              refine toU_ (i := 3) (n := 49) (by kernel_rfl) ?_
              iterate 3 (refine pureU_ (v := ?_) (a' := ?_) HT_.out (by simp only [Nat.reduceAdd]; rfl) rfl rfl (by kernel_rfl) (fun _ _ _ h => h) (Or.inl ⟨by rfl, ?_⟩) ?_ ?_; rotate_left; (· (intro w'; go_simp; with_reducible rfl)); rotate_left; (· (simp only [Act.put, List.setIfInBounds_toArray, List.set_cons_zero, List.set_cons_succ, i64_w, i32_w]; rfl)))
              (refine takeU_ (v := ?_) (a' := ?_) HT_.out HW_.out (by simp only [Nat.reduceAdd]; rfl) rfl rfl (by kernel_rfl) (fun _ _ _ h => h) (Or.inl ⟨by rfl, ?_⟩) hHeld ?_ ?_; rotate_left; (· (rintro w' ⟨s0, s1, s2, s3, s4, s5, s6, s7, s8⟩; go_simp; with_reducible rfl)); rotate_left; (· (simp only [Act.put, List.setIfInBounds_toArray, List.set_cons_zero, List.set_cons_succ, i64_w, i32_w]; rfl)))
              refine one_ (i := 7) (N := some 73) (upTo 8 44) rfl rfl (one_of HT_.out (by kernel_rfl)) (by decide) (fun K hK => ?_)
              refine goes_ Tryd.func33 (by kernel_rfl) rfl #[.string a0_2] (by rfl) rfl rfl (by (try simp only [List.map_toArray, List.map_cons, List.map_nil]); first | done | rfl | (simp only [List.length_drop, List.length_take]; rfl)) ?_
              with_reducible refine (impl_isHost.calls kj1 a0_2 true _ A43.out).mono ?_
              rintro e w' ⟨rfl, ⟨nd, rfl⟩⟩
              refine ⟨_, rfl, ?_⟩
              refine hK.out _ _ (held9_ BK161.out) (fun hHeld => ?_)
              clear hK K
              refine norm_ (a' := ?_) ?_ ?_
              rotate_left
              ·
               show Act.put _ (some 73) _ = _
               simp only [Act.put, List.setIfInBounds_toArray, List.set_cons_zero, List.set_cons_succ, i64_w, i32_w]
               rfl
              refine toU_ (i := 8) (n := 44) (by kernel_rfl) ?_
              iterate 3 (refine pureU_ (v := ?_) (a' := ?_) HT_.out (by simp only [Nat.reduceAdd]; rfl) rfl rfl (by kernel_rfl) (fun _ _ _ h => h) (Or.inl ⟨by rfl, ?_⟩) ?_ ?_; rotate_left; (· (intro w'; go_simp; with_reducible rfl)); rotate_left; (· (simp only [Act.put, List.setIfInBounds_toArray, List.set_cons_zero, List.set_cons_succ, i64_w, i32_w]; rfl)))
              (refine takeU_ (v := ?_) (a' := ?_) HT_.out HW_.out (by simp only [Nat.reduceAdd]; rfl) rfl rfl (by kernel_rfl) (fun _ _ _ h => h) (Or.inl ⟨by rfl, ?_⟩) hHeld ?_ ?_; rotate_left; (· (rintro w' ⟨s0, s1, s2, s3, s4, s5, s6, s7, s8⟩; go_simp; with_reducible rfl)); rotate_left; (· (simp only [Act.put, List.setIfInBounds_toArray, List.set_cons_zero, List.set_cons_succ, i64_w, i32_w]; rfl)))
              refine one_ (i := 12) (N := some 78) (upTo 13 39) rfl rfl (one_of HT_.out (by kernel_rfl)) (by decide) (fun K hK => ?_)
              refine goes_ Tryd.func34 (by kernel_rfl) rfl #[.int .i64 a0_3, .int .i64 0, .int .i64 65535] (by rfl) rfl rfl (by (try simp only [List.map_toArray, List.map_cons, List.map_nil]); first | done | rfl | (simp only [List.length_drop, List.length_take]; rfl)) ?_
              with_reducible refine (impl_within.calls a0_3 0 65535 true _ A45.out).mono ?_
              rintro e w' ⟨rfl, ⟨nd, rfl⟩⟩
              refine ⟨_, rfl, ?_⟩
              refine hK.out _ _ (held9_ BK161.out) (fun hHeld => ?_)
              clear hK K
              refine norm_ (a' := ?_) ?_ ?_
              rotate_left
              ·
               show Act.put _ (some 78) _ = _
               simp only [Act.put, List.setIfInBounds_toArray, List.set_cons_zero, List.set_cons_succ, i64_w, i32_w]
               rfl
              refine toU_ (i := 13) (n := 39) (by kernel_rfl) ?_
              iterate 3 (refine pureU_ (v := ?_) (a' := ?_) HT_.out (by simp only [Nat.reduceAdd]; rfl) rfl rfl (by kernel_rfl) (fun _ _ _ h => h) (Or.inl ⟨by rfl, ?_⟩) ?_ ?_; rotate_left; (· (intro w'; go_simp; with_reducible rfl)); rotate_left; (· (simp only [Act.put, List.setIfInBounds_toArray, List.set_cons_zero, List.set_cons_succ, i64_w, i32_w]; rfl)))
              refine pure_ (i := 17) (N := some 83) (v := ?_) (a' := ?_) #[Y, Y, Y, Y, Y, Y, Y, Y, Y, Y, Y, Y, Y, Y, Y, Y, Z, Y, Z, Z, Z, Z, Z, Z, Z, Z, Z, Z, Z, Z, Z, Z, Z, Z, Z, Z, Z, Z, Z, Z, Z, Z, Z, Z, Z, Z, Z, Z, Z, Z, Z, Z] rfl rfl (any_of HT_.out (by kernel_rfl)) (fun _ _ _ h => h) (Or.inl ⟨by rfl, ?_⟩) ?_ ?_
              rotate_left
              ·
               intro w'
               go_simp
               with_reducible rfl
              rotate_left
              ·
               simp only [Act.put, List.setIfInBounds_toArray, List.set_cons_zero, List.set_cons_succ, i64_w, i32_w]
               rfl
              refine take_ (i := 16) (N := some 82) (v := ?_) (a' := ?_) #[Y, Y, Y, Y, Y, Y, Y, Y, Y, Y, Y, Y, Y, Y, Y, Y, Y, Y, Z, Z, Z, Z, Z, Z, Z, Z, Z, Z, Z, Z, Z, Z, Z, Z, Z, Z, Z, Z, Z, Z, Z, Z, Z, Z, Z, Z, Z, Z, Z, Z, Z, Z] rfl rfl (take_ofW HT_.out HW_.out (by kernel_rfl)) (fun _ _ _ h => h) (Or.inl ⟨by rfl, ?_⟩) hHeld ?_ ?_
              rotate_left
              ·
               rintro w' ⟨s0, s1, s2, s3, s4, s5, s6, s7, s8⟩
               go_simp
               with_reducible rfl
              rotate_left
              ·
               simp only [Act.put, List.setIfInBounds_toArray, List.set_cons_zero, List.set_cons_succ, i64_w, i32_w]
               rfl
              refine take_ (i := 18) (N := some 84) (v := ?_) (a' := ?_) #[Y, Y, Y, Y, Y, Y, Y, Y, Y, Y, Y, Y, Y, Y, Y, Y, Y, Y, Y, Z, Z, Z, Z, Z, Z, Z, Z, Z, Z, Z, Z, Z, Z, Z, Z, Z, Z, Z, Z, Z, Z, Z, Z, Z, Z, Z, Z, Z, Z, Z, Z, Z] rfl rfl (take_ofW HT_.out HW_.out (by kernel_rfl)) (fun _ _ _ h => h) (Or.inl ⟨by rfl, ?_⟩) hHeld ?_ ?_
              rotate_left
              ·
               rintro w' ⟨s0, s1, s2, s3, s4, s5, s6, s7, s8⟩
               go_simp
               with_reducible rfl
              rotate_left
              ·
               simp only [Act.put, List.setIfInBounds_toArray, List.set_cons_zero, List.set_cons_succ, i64_w, i32_w]
               rfl
              refine one_ (i := 19) (N := some 85) (upTo 20 32) rfl rfl (one_of HT_.out (by kernel_rfl)) (by decide) (fun K hK => ?_)
              refine goes_ Tryd.func35 (by kernel_rfl) rfl #[.string a0_0] (by rfl) rfl rfl (by (try simp only [List.map_toArray, List.map_cons, List.map_nil]); first | done | rfl | (simp only [List.length_drop, List.length_take]; rfl)) ?_
              with_reducible refine (impl_usual.calls a0_0 t170 _ A47.out).mono ?_
              rintro e w' ⟨rfl, ⟨nd, rfl⟩⟩
              refine ⟨_, rfl, ?_⟩
              refine hK.out _ _ (held9_ BK161.out) (fun hHeld => ?_)
              clear hK K
              refine norm_ (a' := ?_) ?_ ?_
              rotate_left
              ·
               show Act.put _ (some 85) _ = _
               simp only [Act.put, List.setIfInBounds_toArray, List.set_cons_zero, List.set_cons_succ, i64_w, i32_w]
               rfl
              refine toU_ (i := 20) (n := 32) (by kernel_rfl) ?_
              iterate 4 (refine pureU_ (v := ?_) (a' := ?_) HT_.out (by simp only [Nat.reduceAdd]; rfl) rfl rfl (by kernel_rfl) (fun _ _ _ h => h) (Or.inl ⟨by rfl, ?_⟩) ?_ ?_; rotate_left; (· (intro w'; go_simp; with_reducible rfl)); rotate_left; (· (simp only [Act.put, List.setIfInBounds_toArray, List.set_cons_zero, List.set_cons_succ, i64_w, i32_w]; rfl)))
              (refine takeU_ (v := ?_) (a' := ?_) HT_.out HW_.out (by simp only [Nat.reduceAdd]; rfl) rfl rfl (by kernel_rfl) (fun _ _ _ h => h) (Or.inl ⟨by rfl, ?_⟩) hHeld ?_ ?_; rotate_left; (· (rintro w' ⟨s0, s1, s2, s3, s4, s5, s6, s7, s8⟩; go_simp; with_reducible rfl)); rotate_left; (· (simp only [Act.put, List.setIfInBounds_toArray, List.set_cons_zero, List.set_cons_succ, i64_w, i32_w]; rfl)))
              refine one_ (i := 25) (N := some 91) (upTo 26 26) rfl rfl (one_of HT_.out (by kernel_rfl)) (by decide) (fun K hK => ?_)
              refine goes_ Tryd.func36 (by kernel_rfl) rfl #[.string a0_4, .string (⟨#[47]⟩ : ByteArray)] (by rfl) rfl rfl (by (try simp only [List.map_toArray, List.map_cons, List.map_nil]); first | done | rfl | (simp only [List.length_drop, List.length_take]; rfl)) ?_
              with_reducible refine (strings_HasPrefix.calls a0_4 (⟨#[47]⟩ : ByteArray) true _ A55.out).mono ?_
              rintro e w' ⟨rfl, ⟨nd, rfl⟩⟩
              refine ⟨_, rfl, ?_⟩
              refine hK.out _ _ (held9_ BK161.out) (fun hHeld => ?_)
              clear hK K
              refine norm_ (a' := ?_) ?_ ?_
              rotate_left
              ·
               show Act.put _ (some 91) _ = _
               simp only [Act.put, List.setIfInBounds_toArray, List.set_cons_zero, List.set_cons_succ, i64_w, i32_w]
               rfl
              refine toU_ (i := 26) (n := 26) (by kernel_rfl) ?_
              iterate 3 (refine pureU_ (v := ?_) (a' := ?_) HT_.out (by simp only [Nat.reduceAdd]; rfl) rfl rfl (by kernel_rfl) (fun _ _ _ h => h) (Or.inl ⟨by rfl, ?_⟩) ?_ ?_; rotate_left; (· (intro w'; go_simp; with_reducible rfl)); rotate_left; (· (simp only [Act.put, List.setIfInBounds_toArray, List.set_cons_zero, List.set_cons_succ, i64_w, i32_w]; rfl)))
              (refine takeU_ (v := ?_) (a' := ?_) HT_.out HW_.out (by simp only [Nat.reduceAdd]; rfl) rfl rfl (by kernel_rfl) (fun _ _ _ h => h) (Or.inl ⟨by rfl, ?_⟩) hHeld ?_ ?_; rotate_left; (· (rintro w' ⟨s0, s1, s2, s3, s4, s5, s6, s7, s8⟩; go_simp; with_reducible rfl)); rotate_left; (· (simp only [Act.put, List.setIfInBounds_toArray, List.set_cons_zero, List.set_cons_succ, i64_w, i32_w]; rfl)))
              refine one_ (i := 30) (N := some 96) (upTo 31 21) rfl rfl (one_of HT_.out (by kernel_rfl)) (by decide) (fun K hK => ?_)
              refine goes_ Tryd.func37 (by kernel_rfl) rfl #[.string a0_5, .string (⟨#[35]⟩ : ByteArray)] (by rfl) rfl rfl (by (try simp only [List.map_toArray, List.map_cons, List.map_nil]); first | done | rfl | (simp only [List.length_drop, List.length_take]; rfl)) ?_
              with_reducible refine (strings_Contains.calls a0_5 (⟨#[35]⟩ : ByteArray) false _ A57.out).mono ?_
              rintro e w' ⟨rfl, ⟨nd, rfl⟩⟩
              refine ⟨_, rfl, ?_⟩
              refine hK.out _ _ (held9_ BK161.out) (fun hHeld => ?_)
              clear hK K
              refine norm_ (a' := ?_) ?_ ?_
              rotate_left
              ·
               show Act.put _ (some 96) _ = _
               simp only [Act.put, List.setIfInBounds_toArray, List.set_cons_zero, List.set_cons_succ, i64_w, i32_w]
               rfl
              refine toU_ (i := 31) (n := 21) (by kernel_rfl) ?_
              iterate 4 (refine pureU_ (v := ?_) (a' := ?_) HT_.out (by simp only [Nat.reduceAdd]; rfl) rfl rfl (by kernel_rfl) (fun _ _ _ h => h) (Or.inl ⟨by rfl, ?_⟩) ?_ ?_; rotate_left; (· (intro w'; go_simp; with_reducible rfl)); rotate_left; (· (simp only [Act.put, List.setIfInBounds_toArray, List.set_cons_zero, List.set_cons_succ, i64_w, i32_w]; rfl)))
              (refine takeU_ (v := ?_) (a' := ?_) HT_.out HW_.out (by simp only [Nat.reduceAdd]; rfl) rfl rfl (by kernel_rfl) (fun _ _ _ h => h) (Or.inl ⟨by rfl, ?_⟩) hHeld ?_ ?_; rotate_left; (· (rintro w' ⟨s0, s1, s2, s3, s4, s5, s6, s7, s8⟩; go_simp; with_reducible rfl)); rotate_left; (· (simp only [Act.put, List.setIfInBounds_toArray, List.set_cons_zero, List.set_cons_succ, i64_w, i32_w]; rfl)))
              (refine pureU_ (v := ?_) (a' := ?_) HT_.out (by simp only [Nat.reduceAdd]; rfl) rfl rfl (by kernel_rfl) (fun _ _ _ h => h) (Or.inl ⟨by rfl, ?_⟩) ?_ ?_; rotate_left; (· (intro w'; go_simp; with_reducible rfl)); rotate_left; (· (simp only [Act.put, List.setIfInBounds_toArray, List.set_cons_zero, List.set_cons_succ, i64_w, i32_w]; rfl)))
              iterate 3 (refine skipU_ (a' := ?_) HT_.out (by simp only [Nat.reduceAdd]; rfl) rfl rfl (by kernel_rfl) (fun _ _ _ h => h) (by rfl) ?_ ?_; rotate_left; (· (simp only [Act.put, List.setIfInBounds_toArray, List.set_cons_zero, List.set_cons_succ, i64_w, i32_w]; rfl)))
              iterate 4 (refine pureU_ (v := ?_) (a' := ?_) HT_.out (by simp only [Nat.reduceAdd]; rfl) rfl rfl (by kernel_rfl) (fun _ _ _ h => h) (Or.inl ⟨by rfl, ?_⟩) ?_ ?_; rotate_left; (· (intro w'; go_simp; with_reducible rfl)); rotate_left; (· (simp only [Act.put, List.setIfInBounds_toArray, List.set_cons_zero, List.set_cons_succ, i64_w, i32_w]; rfl)))
              (refine takeU_ (v := ?_) (a' := ?_) HT_.out HW_.out (by simp only [Nat.reduceAdd]; rfl) rfl rfl (by kernel_rfl) (fun _ _ _ h => h) (Or.inl ⟨by rfl, ?_⟩) hHeld ?_ ?_; rotate_left; (· (rintro w' ⟨s0, s1, s2, s3, s4, s5, s6, s7, s8⟩; go_simp; with_reducible rfl)); rotate_left; (· (simp only [Act.put, List.setIfInBounds_toArray, List.set_cons_zero, List.set_cons_succ, i64_w, i32_w]; rfl)))
              (refine pureU_ (v := ?_) (a' := ?_) HT_.out (by simp only [Nat.reduceAdd]; rfl) rfl rfl (by kernel_rfl) (fun _ _ _ h => h) (Or.inl ⟨by rfl, ?_⟩) ?_ ?_; rotate_left; (· (intro w'; go_simp; with_reducible rfl)); rotate_left; (· (simp only [Act.put, List.setIfInBounds_toArray, List.set_cons_zero, List.set_cons_succ, i64_w, i32_w]; rfl)))
              iterate 3 (refine skipU_ (a' := ?_) HT_.out (by simp only [Nat.reduceAdd]; rfl) rfl rfl (by kernel_rfl) (fun _ _ _ h => h) (by rfl) ?_ ?_; rotate_left; (· (simp only [Act.put, List.setIfInBounds_toArray, List.set_cons_zero, List.set_cons_succ, i64_w, i32_w]; rfl)))
              iterate 3 (refine pureU_ (v := ?_) (a' := ?_) HT_.out (by simp only [Nat.reduceAdd]; rfl) rfl rfl (by kernel_rfl) (fun _ _ _ h => h) (Or.inl ⟨by rfl, ?_⟩) ?_ ?_; rotate_left; (· (intro w'; go_simp; with_reducible rfl)); rotate_left; (· (simp only [Act.put, List.setIfInBounds_toArray, List.set_cons_zero, List.set_cons_succ, i64_w, i32_w]; rfl)))
              refine done_ (done_of HT_.out (by kernel_rfl)) ?_
              try go_wp2
              go_ret
              exact ⟨by first | rfl | (simp [errW_none, errW_some] <;> rfl) | (simp [*, errW_none, errW_some] <;> rfl), by repeat (first | (with_reducible first | exact HB.out | apply below_alloc | apply pw_below_drewN | apply below_drew1 | refine below_set ?_ GE161.out) | exact HB.out)⟩
             ·
              replace c66 := Bool.eq_false_iff.mpr c66
              subst c66
              have H1 : (some (a0_6.toList == ([] : List UInt8))) = some r := by rw [if_neg (show ¬ (false = true) by decide)] at H; exact H
              clear H
              have H := H1
              clear H1
              obtain rfl := Option.some.inj H
              have hcz73_0 : wc.cell? ⟨gb161, 0, none⟩ = some (.string a0_0) := (blk_cell BK161.out 0).trans rfl
              have hcz73_1 : wc.cell? ⟨gb161, 1, none⟩ = some (.string a0_1) := (blk_cell BK161.out 1).trans rfl
              have hcz73_2 : wc.cell? ⟨gb161, 2, none⟩ = some (.string a0_2) := (blk_cell BK161.out 2).trans rfl
              have hcz73_3 : wc.cell? ⟨gb161, 3, none⟩ = some (.int .i64 a0_3) := (blk_cell BK161.out 3).trans rfl
              have hcz73_4 : wc.cell? ⟨gb161, 4, none⟩ = some (.string a0_4) := (blk_cell BK161.out 4).trans rfl
              have hcz73_5 : wc.cell? ⟨gb161, 5, none⟩ = some (.string a0_5) := (blk_cell BK161.out 5).trans rfl
              have hcz73_6 : wc.cell? ⟨gb161, 6, none⟩ = some (.string a0_6) := (blk_cell BK161.out 6).trans rfl
              have hcz73_7 : wc.cell? ⟨gb161, 7, none⟩ = some (.bool true) := (blk_cell BK161.out 7).trans rfl
              have hcz73_8 : wc.cell? ⟨gb161, 8, none⟩ = some (.bool false) := (blk_cell BK161.out 8).trans rfl
              have hfz73_0 := blk_frozen BK161.out 0
              have hfz73_1 := blk_frozen BK161.out 1
              have hfz73_2 := blk_frozen BK161.out 2
              have hfz73_3 := blk_frozen BK161.out 3
              have hfz73_4 := blk_frozen BK161.out 4
              have hfz73_5 := blk_frozen BK161.out 5
              have hfz73_6 := blk_frozen BK161.out 6
              have hfz73_7 := blk_frozen BK161.out 7
              have hfz73_8 := blk_frozen BK161.out 8
              try go_wp2_with (first | ((with_reducible refine gate_callee (f := 31) rfl ?_); refine goesL_ (some 55) rfl rfl Tryd.func31 (by kernel_rfl) rfl #[.string a0_4, .string (⟨#[63, 35]⟩ : ByteArray)] rfl (by (try simp only [List.map_toArray, List.map_cons, List.map_nil]); first | done | rfl | (simp only [List.length_drop, List.length_take]; rfl)) ?_; (with_reducible refine (strings_ContainsAny.calls a0_4 (⟨#[63, 35]⟩ : ByteArray) false _ A29.out).mono ?_); rintro e w74 ⟨rfl, hb⟩; refine ⟨_, rfl, ?_⟩; have n0_ := Aside0.mk (blk_below (g := gb161) (o := .cells #[.string a0_0, .string a0_1, .string a0_2, .int .i64 a0_3, .string a0_4, .string a0_5, .string a0_6, .bool true, .bool false] 26 (0, 0)) (by (with_reducible repeat (first | refine blk_drewN ?_ _ | refine blk_drew ?_ | refine blk_alloc ?_ _)); exact BK161.out) hb); have n1_ := Aside0.mk (below_step (by repeat (first | (with_reducible first | exact HB.out | apply below_alloc | apply pw_below_drewN | apply below_drew1 | refine below_set ?_ GE161.out) | exact HB.out)) hb); clear BK161; clear HB; have BK161 := n0_; have HB := n1_; clear n0_ n1_; (try clear hb); (try clear hb2); (try clear hk); (try clear hi); have hcz75_0 : w74.cell? ⟨gb161, 0, none⟩ = some (.string a0_0) := (blk_cell BK161.out 0).trans rfl; have hcz75_1 : w74.cell? ⟨gb161, 1, none⟩ = some (.string a0_1) := (blk_cell BK161.out 1).trans rfl; have hcz75_2 : w74.cell? ⟨gb161, 2, none⟩ = some (.string a0_2) := (blk_cell BK161.out 2).trans rfl; have hcz75_3 : w74.cell? ⟨gb161, 3, none⟩ = some (.int .i64 a0_3) := (blk_cell BK161.out 3).trans rfl; have hcz75_4 : w74.cell? ⟨gb161, 4, none⟩ = some (.string a0_4) := (blk_cell BK161.out 4).trans rfl; have hcz75_5 : w74.cell? ⟨gb161, 5, none⟩ = some (.string a0_5) := (blk_cell BK161.out 5).trans rfl; have hcz75_6 : w74.cell? ⟨gb161, 6, none⟩ = some (.string a0_6) := (blk_cell BK161.out 6).trans rfl; have hcz75_7 : w74.cell? ⟨gb161, 7, none⟩ = some (.bool true) := (blk_cell BK161.out 7).trans rfl; have hcz75_8 : w74.cell? ⟨gb161, 8, none⟩ = some (.bool false) := (blk_cell BK161.out 8).trans rfl; have hfz75_0 := blk_frozen BK161.out 0; have hfz75_1 := blk_frozen BK161.out 1; have hfz75_2 := blk_frozen BK161.out 2; have hfz75_3 := blk_frozen BK161.out 3; have hfz75_4 := blk_frozen BK161.out 4; have hfz75_5 := blk_frozen BK161.out 5; have hfz75_6 := blk_frozen BK161.out 6; have hfz75_7 := blk_frozen BK161.out 7; have hfz75_8 := blk_frozen BK161.out 8) | ((with_reducible refine gate_callee (f := 32) rfl ?_); refine goesL_ (some 57) rfl rfl Tryd.func32 (by kernel_rfl) rfl #[.agg #[.string a0_0, .string a0_1, .string a0_2, .int .i64 a0_3, .string a0_4, .string a0_5, .string a0_6, .bool true, .bool false]] rfl (by (try simp only [List.map_toArray, List.map_cons, List.map_nil]); first | done | rfl | (simp only [List.length_drop, List.length_take]; rfl)) ?_; (with_reducible refine (impl_Url_web.calls a0_0 a0_1 a0_2 a0_3 a0_4 a0_5 a0_6 true false true _ A33.out).mono ?_); rintro e w76 ⟨rfl, hb⟩; refine ⟨_, rfl, ?_⟩; have n0_ := Aside0.mk (blk_below (g := gb161) (o := .cells #[.string a0_0, .string a0_1, .string a0_2, .int .i64 a0_3, .string a0_4, .string a0_5, .string a0_6, .bool true, .bool false] 26 (0, 0)) (by (with_reducible repeat (first | refine blk_drewN ?_ _ | refine blk_drew ?_ | refine blk_alloc ?_ _)); exact BK161.out) hb); have n1_ := Aside0.mk (below_step (by repeat (first | (with_reducible first | exact HB.out | apply below_alloc | apply pw_below_drewN | apply below_drew1 | refine below_set ?_ GE161.out) | exact HB.out)) hb); clear BK161; clear HB; have BK161 := n0_; have HB := n1_; clear n0_ n1_; (try clear hb); (try clear hb2); (try clear hk); (try clear hi)))
              have n0_ := Aside0.mk (blk_drew BK161.out)
              have n1_ := Aside0.mk (below_drew1 HB.out)
              clear BK161
              clear HB
              have BK161 := n0_
              have HB := n1_
              clear n0_ n1_
              refine start_ (n := 52) (S := fun w' => w'.cell? ⟨gb161, 0, none⟩ = some (.string a0_0) ∧ w'.cell? ⟨gb161, 1, none⟩ = some (.string a0_1) ∧ w'.cell? ⟨gb161, 2, none⟩ = some (.string a0_2) ∧ w'.cell? ⟨gb161, 3, none⟩ = some (.int .i64 a0_3) ∧ w'.cell? ⟨gb161, 4, none⟩ = some (.string a0_4) ∧ w'.cell? ⟨gb161, 5, none⟩ = some (.string a0_5) ∧ w'.cell? ⟨gb161, 6, none⟩ = some (.string a0_6) ∧ w'.cell? ⟨gb161, 7, none⟩ = some (.bool true) ∧ w'.cell? ⟨gb161, 8, none⟩ = some (.bool false)) (ds := []) #[Z, Z, Z, Z, Z, Z, Z, Z, Z, Z, Z, Z, Z, Z, Z, Z, Z, Z, Z, Z, Z, Z, Z, Z, Z, Z, Z, Z, Z, Z, Z, Z, Z, Z, Z, Z, Z, Z, Z, Z, Z, Z, Z, Z, Z, Z, Z, Z, Z, Z, Z, Z] (by kernel_rfl) rfl rfl (held9_ BK161.out) (fun hHeld => ?_); refine with_tabW impl_UrlOK.tab7 impl_UrlOK.bits7 (fun HT_ HW_ => ?_)
              generalize w76.drew = w77 at BK161 HB hHeld ⊢
              refine toU_ (i := 0) (n := 52) (by kernel_rfl) ?_
              (refine pureU_ (v := ?_) (a' := ?_) HT_.out (by simp only [Nat.reduceAdd]; rfl) rfl rfl (by kernel_rfl) (fun _ _ _ h => h) (Or.inl ⟨by rfl, ?_⟩) ?_ ?_; rotate_left; (· (intro w'; go_simp; with_reducible rfl)); rotate_left; (· (simp only [Act.put, List.setIfInBounds_toArray, List.set_cons_zero, List.set_cons_succ, i64_w, i32_w]; rfl)))
              (refine takeU_ (v := ?_) (a' := ?_) HT_.out HW_.out (by simp only [Nat.reduceAdd]; rfl) rfl rfl (by kernel_rfl) (fun _ _ _ h => h) (Or.inl ⟨by rfl, ?_⟩) hHeld ?_ ?_; rotate_left; (· (rintro w' ⟨s0, s1, s2, s3, s4, s5, s6, s7, s8⟩; go_simp; with_reducible rfl)); rotate_left; (· (simp only [Act.put, List.setIfInBounds_toArray, List.set_cons_zero, List.set_cons_succ, i64_w, i32_w]; rfl)))
              refine one_ (i := 2) (N := some 68) (upTo 3 49) rfl rfl (one_of HT_.out (by kernel_rfl)) (by decide) (fun K hK => ?_)
              refine goes_ Tryd.func31 (by kernel_rfl) rfl #[.string a0_1, .string (⟨#[47, 63, 35, 64]⟩ : ByteArray)] (by rfl) rfl rfl (by (try simp only [List.map_toArray, List.map_cons, List.map_nil]); first | done | rfl | (simp only [List.length_drop, List.length_take]; rfl)) ?_
              with_reducible refine (strings_ContainsAny.calls a0_1 (⟨#[47, 63, 35, 64]⟩ : ByteArray) false _ A35.out).mono ?_
              rintro e w78 ⟨rfl, hb⟩
              refine ⟨_, rfl, ?_⟩
              have n0_ := Aside0.mk (blk_below (g := gb161) (o := .cells #[.string a0_0, .string a0_1, .string a0_2, .int .i64 a0_3, .string a0_4, .string a0_5, .string a0_6, .bool true, .bool false] 26 (0, 0)) (by (with_reducible repeat (first | refine blk_drewN ?_ _ | refine blk_drew ?_ | refine blk_alloc ?_ _)); exact BK161.out) hb)
              have n1_ := Aside0.mk (below_step (by repeat (first | (with_reducible first | exact HB.out | apply below_alloc | apply pw_below_drewN | apply below_drew1 | refine below_set ?_ GE161.out) | exact HB.out)) hb)
              clear BK161
              clear HB
              have BK161 := n0_
              have HB := n1_
              clear n0_ n1_
              (try clear hb)
              (try clear hb2)
              (try clear hk)
              (try clear hi)
              refine hK.out _ _ (held9_ BK161.out) (fun hHeld => ?_)
              clear hK K
              refine norm_ (a' := ?_) ?_ ?_
              rotate_left
              ·
               show Act.put _ (some 68) _ = _
               simp only [Act.put, List.setIfInBounds_toArray, List.set_cons_zero, List.set_cons_succ, i64_w, i32_w]
               rfl
              refine toU_ (i := 3) (n := 49) (by kernel_rfl) ?_
              iterate 3 (refine pureU_ (v := ?_) (a' := ?_) HT_.out (by simp only [Nat.reduceAdd]; rfl) rfl rfl (by kernel_rfl) (fun _ _ _ h => h) (Or.inl ⟨by rfl, ?_⟩) ?_ ?_; rotate_left; (· (intro w'; go_simp; with_reducible rfl)); rotate_left; (· (simp only [Act.put, List.setIfInBounds_toArray, List.set_cons_zero, List.set_cons_succ, i64_w, i32_w]; rfl)))
              (refine takeU_ (v := ?_) (a' := ?_) HT_.out HW_.out (by simp only [Nat.reduceAdd]; rfl) rfl rfl (by kernel_rfl) (fun _ _ _ h => h) (Or.inl ⟨by rfl, ?_⟩) hHeld ?_ ?_; rotate_left; (· (rintro w' ⟨s0, s1, s2, s3, s4, s5, s6, s7, s8⟩; go_simp; with_reducible rfl)); rotate_left; (· (simp only [Act.put, List.setIfInBounds_toArray, List.set_cons_zero, List.set_cons_succ, i64_w, i32_w]; rfl)))
              refine one_ (i := 7) (N := some 73) (upTo 8 44) rfl rfl (one_of HT_.out (by kernel_rfl)) (by decide) (fun K hK => ?_)
              refine goes_ Tryd.func33 (by kernel_rfl) rfl #[.string a0_2] (by rfl) rfl rfl (by (try simp only [List.map_toArray, List.map_cons, List.map_nil]); first | done | rfl | (simp only [List.length_drop, List.length_take]; rfl)) ?_
              with_reducible refine (impl_isHost.calls kj1 a0_2 true _ A43.out).mono ?_
              rintro e w' ⟨rfl, ⟨nd, rfl⟩⟩
              refine ⟨_, rfl, ?_⟩
              refine hK.out _ _ (held9_ BK161.out) (fun hHeld => ?_)
              clear hK K
              refine norm_ (a' := ?_) ?_ ?_
              rotate_left
              ·
               show Act.put _ (some 73) _ = _
               simp only [Act.put, List.setIfInBounds_toArray, List.set_cons_zero, List.set_cons_succ, i64_w, i32_w]
               rfl
              refine toU_ (i := 8) (n := 44) (by kernel_rfl) ?_
              iterate 3 (refine pureU_ (v := ?_) (a' := ?_) HT_.out (by simp only [Nat.reduceAdd]; rfl) rfl rfl (by kernel_rfl) (fun _ _ _ h => h) (Or.inl ⟨by rfl, ?_⟩) ?_ ?_; rotate_left; (· (intro w'; go_simp; with_reducible rfl)); rotate_left; (· (simp only [Act.put, List.setIfInBounds_toArray, List.set_cons_zero, List.set_cons_succ, i64_w, i32_w]; rfl)))
              (refine takeU_ (v := ?_) (a' := ?_) HT_.out HW_.out (by simp only [Nat.reduceAdd]; rfl) rfl rfl (by kernel_rfl) (fun _ _ _ h => h) (Or.inl ⟨by rfl, ?_⟩) hHeld ?_ ?_; rotate_left; (· (rintro w' ⟨s0, s1, s2, s3, s4, s5, s6, s7, s8⟩; go_simp; with_reducible rfl)); rotate_left; (· (simp only [Act.put, List.setIfInBounds_toArray, List.set_cons_zero, List.set_cons_succ, i64_w, i32_w]; rfl)))
              refine one_ (i := 12) (N := some 78) (upTo 13 39) rfl rfl (one_of HT_.out (by kernel_rfl)) (by decide) (fun K hK => ?_)
              refine goes_ Tryd.func34 (by kernel_rfl) rfl #[.int .i64 a0_3, .int .i64 0, .int .i64 65535] (by rfl) rfl rfl (by (try simp only [List.map_toArray, List.map_cons, List.map_nil]); first | done | rfl | (simp only [List.length_drop, List.length_take]; rfl)) ?_
              with_reducible refine (impl_within.calls a0_3 0 65535 true _ A45.out).mono ?_
              rintro e w' ⟨rfl, ⟨nd, rfl⟩⟩
              refine ⟨_, rfl, ?_⟩
              refine hK.out _ _ (held9_ BK161.out) (fun hHeld => ?_)
              clear hK K
              refine norm_ (a' := ?_) ?_ ?_
              rotate_left
              ·
               show Act.put _ (some 78) _ = _
               simp only [Act.put, List.setIfInBounds_toArray, List.set_cons_zero, List.set_cons_succ, i64_w, i32_w]
               rfl
              refine toU_ (i := 13) (n := 39) (by kernel_rfl) ?_
              iterate 3 (refine pureU_ (v := ?_) (a' := ?_) HT_.out (by simp only [Nat.reduceAdd]; rfl) rfl rfl (by kernel_rfl) (fun _ _ _ h => h) (Or.inl ⟨by rfl, ?_⟩) ?_ ?_; rotate_left; (· (intro w'; go_simp; with_reducible rfl)); rotate_left; (· (simp only [Act.put, List.setIfInBounds_toArray, List.set_cons_zero, List.set_cons_succ, i64_w, i32_w]; rfl)))
              refine pure_ (i := 17) (N := some 83) (v := ?_) (a' := ?_) #[Y, Y, Y, Y, Y, Y, Y, Y, Y, Y, Y, Y, Y, Y, Y, Y, Z, Y, Z, Z, Z, Z, Z, Z, Z, Z, Z, Z, Z, Z, Z, Z, Z, Z, Z, Z, Z, Z, Z, Z, Z, Z, Z, Z, Z, Z, Z, Z, Z, Z, Z, Z] rfl rfl (any_of HT_.out (by kernel_rfl)) (fun _ _ _ h => h) (Or.inl ⟨by rfl, ?_⟩) ?_ ?_
              rotate_left
              ·
               intro w'
               go_simp
               with_reducible rfl
              rotate_left
              ·
               simp only [Act.put, List.setIfInBounds_toArray, List.set_cons_zero, List.set_cons_succ, i64_w, i32_w]
               rfl
              refine take_ (i := 16) (N := some 82) (v := ?_) (a' := ?_) #[Y, Y, Y, Y, Y, Y, Y, Y, Y, Y, Y, Y, Y, Y, Y, Y, Y, Y, Z, Z, Z, Z, Z, Z, Z, Z, Z, Z, Z, Z, Z, Z, Z, Z, Z, Z, Z, Z, Z, Z, Z, Z, Z, Z, Z, Z, Z, Z, Z, Z, Z, Z] rfl rfl (take_ofW HT_.out HW_.out (by kernel_rfl)) (fun _ _ _ h => h) (Or.inl ⟨by rfl, ?_⟩) hHeld ?_ ?_
              rotate_left
              ·
               rintro w' ⟨s0, s1, s2, s3, s4, s5, s6, s7, s8⟩
               go_simp
               with_reducible rfl
              rotate_left
              ·
               simp only [Act.put, List.setIfInBounds_toArray, List.set_cons_zero, List.set_cons_succ, i64_w, i32_w]
               rfl
              refine take_ (i := 18) (N := some 84) (v := ?_) (a' := ?_) #[Y, Y, Y, Y, Y, Y, Y, Y, Y, Y, Y, Y, Y, Y, Y, Y, Y, Y, Y, Z, Z, Z, Z, Z, Z, Z, Z, Z, Z, Z, Z, Z, Z, Z, Z, Z, Z, Z, Z, Z, Z, Z, Z, Z, Z, Z, Z, Z, Z, Z, Z, Z] rfl rfl (take_ofW HT_.out HW_.out (by kernel_rfl)) (fun _ _ _ h => h) (Or.inl ⟨by rfl, ?_⟩) hHeld ?_ ?_
              rotate_left
              ·
               rintro w' ⟨s0, s1, s2, s3, s4, s5, s6, s7, s8⟩
               go_simp
               with_reducible rfl
              rotate_left
              ·
               simp only [Act.put, List.setIfInBounds_toArray, List.set_cons_zero, List.set_cons_succ, i64_w, i32_w]
               rfl
              refine one_ (i := 19) (N := some 85) (upTo 20 32) rfl rfl (one_of HT_.out (by kernel_rfl)) (by decide) (fun K hK => ?_)
              refine goes_ Tryd.func35 (by kernel_rfl) rfl #[.string a0_0] (by rfl) rfl rfl (by (try simp only [List.map_toArray, List.map_cons, List.map_nil]); first | done | rfl | (simp only [List.length_drop, List.length_take]; rfl)) ?_
              with_reducible refine (impl_usual.calls a0_0 t170 _ A47.out).mono ?_
              rintro e w' ⟨rfl, ⟨nd, rfl⟩⟩
              refine ⟨_, rfl, ?_⟩
              refine hK.out _ _ (held9_ BK161.out) (fun hHeld => ?_)
              clear hK K
              refine norm_ (a' := ?_) ?_ ?_
              rotate_left
              ·
               show Act.put _ (some 85) _ = _
               simp only [Act.put, List.setIfInBounds_toArray, List.set_cons_zero, List.set_cons_succ, i64_w, i32_w]
               rfl
              refine toU_ (i := 20) (n := 32) (by kernel_rfl) ?_
              iterate 4 (refine pureU_ (v := ?_) (a' := ?_) HT_.out (by simp only [Nat.reduceAdd]; rfl) rfl rfl (by kernel_rfl) (fun _ _ _ h => h) (Or.inl ⟨by rfl, ?_⟩) ?_ ?_; rotate_left; (· (intro w'; go_simp; with_reducible rfl)); rotate_left; (· (simp only [Act.put, List.setIfInBounds_toArray, List.set_cons_zero, List.set_cons_succ, i64_w, i32_w]; rfl)))
              (refine takeU_ (v := ?_) (a' := ?_) HT_.out HW_.out (by simp only [Nat.reduceAdd]; rfl) rfl rfl (by kernel_rfl) (fun _ _ _ h => h) (Or.inl ⟨by rfl, ?_⟩) hHeld ?_ ?_; rotate_left; (· (rintro w' ⟨s0, s1, s2, s3, s4, s5, s6, s7, s8⟩; go_simp; with_reducible rfl)); rotate_left; (· (simp only [Act.put, List.setIfInBounds_toArray, List.set_cons_zero, List.set_cons_succ, i64_w, i32_w]; rfl)))
              refine one_ (i := 25) (N := some 91) (upTo 26 26) rfl rfl (one_of HT_.out (by kernel_rfl)) (by decide) (fun K hK => ?_)
              refine goes_ Tryd.func36 (by kernel_rfl) rfl #[.string a0_4, .string (⟨#[47]⟩ : ByteArray)] (by rfl) rfl rfl (by (try simp only [List.map_toArray, List.map_cons, List.map_nil]); first | done | rfl | (simp only [List.length_drop, List.length_take]; rfl)) ?_
              with_reducible refine (strings_HasPrefix.calls a0_4 (⟨#[47]⟩ : ByteArray) true _ A55.out).mono ?_
              rintro e w' ⟨rfl, ⟨nd, rfl⟩⟩
              refine ⟨_, rfl, ?_⟩
              refine hK.out _ _ (held9_ BK161.out) (fun hHeld => ?_)
              clear hK K
              refine norm_ (a' := ?_) ?_ ?_
              rotate_left
              ·
               show Act.put _ (some 91) _ = _
               simp only [Act.put, List.setIfInBounds_toArray, List.set_cons_zero, List.set_cons_succ, i64_w, i32_w]
               rfl
              refine toU_ (i := 26) (n := 26) (by kernel_rfl) ?_
              iterate 3 (refine pureU_ (v := ?_) (a' := ?_) HT_.out (by simp only [Nat.reduceAdd]; rfl) rfl rfl (by kernel_rfl) (fun _ _ _ h => h) (Or.inl ⟨by rfl, ?_⟩) ?_ ?_; rotate_left; (· (intro w'; go_simp; with_reducible rfl)); rotate_left; (· (simp only [Act.put, List.setIfInBounds_toArray, List.set_cons_zero, List.set_cons_succ, i64_w, i32_w]; rfl)))
              (refine takeU_ (v := ?_) (a' := ?_) HT_.out HW_.out (by simp only [Nat.reduceAdd]; rfl) rfl rfl (by kernel_rfl) (fun _ _ _ h => h) (Or.inl ⟨by rfl, ?_⟩) hHeld ?_ ?_; rotate_left; (· (rintro w' ⟨s0, s1, s2, s3, s4, s5, s6, s7, s8⟩; go_simp; with_reducible rfl)); rotate_left; (· (simp only [Act.put, List.setIfInBounds_toArray, List.set_cons_zero, List.set_cons_succ, i64_w, i32_w]; rfl)))
              refine one_ (i := 30) (N := some 96) (upTo 31 21) rfl rfl (one_of HT_.out (by kernel_rfl)) (by decide) (fun K hK => ?_)
              refine goes_ Tryd.func37 (by kernel_rfl) rfl #[.string a0_5, .string (⟨#[35]⟩ : ByteArray)] (by rfl) rfl rfl (by (try simp only [List.map_toArray, List.map_cons, List.map_nil]); first | done | rfl | (simp only [List.length_drop, List.length_take]; rfl)) ?_
              with_reducible refine (strings_Contains.calls a0_5 (⟨#[35]⟩ : ByteArray) false _ A57.out).mono ?_
              rintro e w' ⟨rfl, ⟨nd, rfl⟩⟩
              refine ⟨_, rfl, ?_⟩
              refine hK.out _ _ (held9_ BK161.out) (fun hHeld => ?_)
              clear hK K
              refine norm_ (a' := ?_) ?_ ?_
              rotate_left
              ·
               show Act.put _ (some 96) _ = _
               simp only [Act.put, List.setIfInBounds_toArray, List.set_cons_zero, List.set_cons_succ, i64_w, i32_w]
               rfl
              refine toU_ (i := 31) (n := 21) (by kernel_rfl) ?_
              iterate 4 (refine pureU_ (v := ?_) (a' := ?_) HT_.out (by simp only [Nat.reduceAdd]; rfl) rfl rfl (by kernel_rfl) (fun _ _ _ h => h) (Or.inl ⟨by rfl, ?_⟩) ?_ ?_; rotate_left; (· (intro w'; go_simp; with_reducible rfl)); rotate_left; (· (simp only [Act.put, List.setIfInBounds_toArray, List.set_cons_zero, List.set_cons_succ, i64_w, i32_w]; rfl)))
              (refine takeU_ (v := ?_) (a' := ?_) HT_.out HW_.out (by simp only [Nat.reduceAdd]; rfl) rfl rfl (by kernel_rfl) (fun _ _ _ h => h) (Or.inl ⟨by rfl, ?_⟩) hHeld ?_ ?_; rotate_left; (· (rintro w' ⟨s0, s1, s2, s3, s4, s5, s6, s7, s8⟩; go_simp; with_reducible rfl)); rotate_left; (· (simp only [Act.put, List.setIfInBounds_toArray, List.set_cons_zero, List.set_cons_succ, i64_w, i32_w]; rfl)))
              (refine pureU_ (v := ?_) (a' := ?_) HT_.out (by simp only [Nat.reduceAdd]; rfl) rfl rfl (by kernel_rfl) (fun _ _ _ h => h) (Or.inl ⟨by rfl, ?_⟩) ?_ ?_; rotate_left; (· (intro w'; go_simp; with_reducible rfl)); rotate_left; (· (simp only [Act.put, List.setIfInBounds_toArray, List.set_cons_zero, List.set_cons_succ, i64_w, i32_w]; rfl)))
              iterate 3 (refine skipU_ (a' := ?_) HT_.out (by simp only [Nat.reduceAdd]; rfl) rfl rfl (by kernel_rfl) (fun _ _ _ h => h) (by rfl) ?_ ?_; rotate_left; (· (simp only [Act.put, List.setIfInBounds_toArray, List.set_cons_zero, List.set_cons_succ, i64_w, i32_w]; rfl)))
              iterate 4 (refine pureU_ (v := ?_) (a' := ?_) HT_.out (by simp only [Nat.reduceAdd]; rfl) rfl rfl (by kernel_rfl) (fun _ _ _ h => h) (Or.inl ⟨by rfl, ?_⟩) ?_ ?_; rotate_left; (· (intro w'; go_simp; with_reducible rfl)); rotate_left; (· (simp only [Act.put, List.setIfInBounds_toArray, List.set_cons_zero, List.set_cons_succ, i64_w, i32_w]; rfl)))
              (refine takeU_ (v := ?_) (a' := ?_) HT_.out HW_.out (by simp only [Nat.reduceAdd]; rfl) rfl rfl (by kernel_rfl) (fun _ _ _ h => h) (Or.inl ⟨by rfl, ?_⟩) hHeld ?_ ?_; rotate_left; (· (rintro w' ⟨s0, s1, s2, s3, s4, s5, s6, s7, s8⟩; go_simp; with_reducible rfl)); rotate_left; (· (simp only [Act.put, List.setIfInBounds_toArray, List.set_cons_zero, List.set_cons_succ, i64_w, i32_w]; rfl)))
              iterate 2 (refine pureU_ (v := ?_) (a' := ?_) HT_.out (by simp only [Nat.reduceAdd]; rfl) rfl rfl (by kernel_rfl) (fun _ _ _ h => h) (Or.inl ⟨by rfl, ?_⟩) ?_ ?_; rotate_left; (· (intro w'; go_simp; with_reducible rfl)); rotate_left; (· (simp only [Act.put, List.setIfInBounds_toArray, List.set_cons_zero, List.set_cons_succ, i64_w, i32_w]; rfl)))
              (refine takeU_ (v := ?_) (a' := ?_) HT_.out HW_.out (by simp only [Nat.reduceAdd]; rfl) rfl rfl (by kernel_rfl) (fun _ _ _ h => h) (Or.inl ⟨by rfl, ?_⟩) hHeld ?_ ?_; rotate_left; (· (rintro w' ⟨s0, s1, s2, s3, s4, s5, s6, s7, s8⟩; go_simp; with_reducible rfl)); rotate_left; (· (simp only [Act.put, List.setIfInBounds_toArray, List.set_cons_zero, List.set_cons_succ, i64_w, i32_w]; rfl)))
              iterate 4 (refine pureU_ (v := ?_) (a' := ?_) HT_.out (by simp only [Nat.reduceAdd]; rfl) rfl rfl (by kernel_rfl) (fun _ _ _ h => h) (Or.inl ⟨by rfl, ?_⟩) ?_ ?_; rotate_left; (· (intro w'; go_simp; with_reducible rfl)); rotate_left; (· (simp only [Act.put, List.setIfInBounds_toArray, List.set_cons_zero, List.set_cons_succ, i64_w, i32_w]; rfl)))
              refine done_ (done_of HT_.out (by kernel_rfl)) ?_
              try go_wp2
              go_ret
              exact ⟨by first | rfl | (simp [errW_none, errW_some] <;> rfl) | (simp [*, errW_none, errW_some] <;> rfl), by repeat (first | (with_reducible first | exact HB.out | apply below_alloc | apply pw_below_drewN | apply below_drew1 | refine below_set ?_ GE161.out) | exact HB.out)⟩
            ·
             replace c65 := Bool.eq_false_iff.mpr c65
             subst c65
             have H1 : (if a0_5.toList = ([] : List UInt8) then (if a0_8 = true then (some true) else (some (a0_6.toList == ([] : List UInt8)))) else (some false)) = some r := by rw [if_neg (show ¬ (false = true) by decide)] at H; exact H
             clear H
             have H := H1
             clear H1
             by_cases c79 : a0_5.toList = ([] : List UInt8)
             ·
              rw [if_pos c79] at H
              have c79b0 : (a0_5.toList == ([] : List UInt8)) = true := beq_iff_eq.mpr c79
              have c79b1 : (a0_5.toList != ([] : List UInt8)) = false := bne_eq_false_iff_eq.mpr c79
              (try (have c79b2 : a0_5.toList.isEmpty = true := by simpa using c79))
              clear c79
              by_cases c80 : a0_8 = true
              ·
               subst c80
               have H1 : (some true) = some r := by rw [if_pos rfl] at H; exact H
               clear H
               have H := H1
               clear H1
               obtain rfl := Option.some.inj H
               have hcz81_0 : wc.cell? ⟨gb161, 0, none⟩ = some (.string a0_0) := (blk_cell BK161.out 0).trans rfl
               have hcz81_1 : wc.cell? ⟨gb161, 1, none⟩ = some (.string a0_1) := (blk_cell BK161.out 1).trans rfl
               have hcz81_2 : wc.cell? ⟨gb161, 2, none⟩ = some (.string a0_2) := (blk_cell BK161.out 2).trans rfl
               have hcz81_3 : wc.cell? ⟨gb161, 3, none⟩ = some (.int .i64 a0_3) := (blk_cell BK161.out 3).trans rfl
               have hcz81_4 : wc.cell? ⟨gb161, 4, none⟩ = some (.string a0_4) := (blk_cell BK161.out 4).trans rfl
               have hcz81_5 : wc.cell? ⟨gb161, 5, none⟩ = some (.string a0_5) := (blk_cell BK161.out 5).trans rfl
               have hcz81_6 : wc.cell? ⟨gb161, 6, none⟩ = some (.string a0_6) := (blk_cell BK161.out 6).trans rfl
               have hcz81_7 : wc.cell? ⟨gb161, 7, none⟩ = some (.bool false) := (blk_cell BK161.out 7).trans rfl
               have hcz81_8 : wc.cell? ⟨gb161, 8, none⟩ = some (.bool true) := (blk_cell BK161.out 8).trans rfl
               have hfz81_0 := blk_frozen BK161.out 0
               have hfz81_1 := blk_frozen BK161.out 1
               have hfz81_2 := blk_frozen BK161.out 2
               have hfz81_3 := blk_frozen BK161.out 3
               have hfz81_4 := blk_frozen BK161.out 4
               have hfz81_5 := blk_frozen BK161.out 5
               have hfz81_6 := blk_frozen BK161.out 6
               have hfz81_7 := blk_frozen BK161.out 7
               have hfz81_8 := blk_frozen BK161.out 8
               try go_wp2_with (first | ((with_reducible refine gate_callee (f := 31) rfl ?_); refine goesL_ (some 55) rfl rfl Tryd.func31 (by kernel_rfl) rfl #[.string a0_4, .string (⟨#[63, 35]⟩ : ByteArray)] rfl (by (try simp only [List.map_toArray, List.map_cons, List.map_nil]); first | done | rfl | (simp only [List.length_drop, List.length_take]; rfl)) ?_; (with_reducible refine (strings_ContainsAny.calls a0_4 (⟨#[63, 35]⟩ : ByteArray) false _ A29.out).mono ?_); rintro e w82 ⟨rfl, hb⟩; refine ⟨_, rfl, ?_⟩; have n0_ := Aside0.mk (blk_below (g := gb161) (o := .cells #[.string a0_0, .string a0_1, .string a0_2, .int .i64 a0_3, .string a0_4, .string a0_5, .string a0_6, .bool false, .bool true] 26 (0, 0)) (by (with_reducible repeat (first | refine blk_drewN ?_ _ | refine blk_drew ?_ | refine blk_alloc ?_ _)); exact BK161.out) hb); have n1_ := Aside0.mk (below_step (by repeat (first | (with_reducible first | exact HB.out | apply below_alloc | apply pw_below_drewN | apply below_drew1 | refine below_set ?_ GE161.out) | exact HB.out)) hb); clear BK161; clear HB; have BK161 := n0_; have HB := n1_; clear n0_ n1_; (try clear hb); (try clear hb2); (try clear hk); (try clear hi); have hcz83_0 : w82.cell? ⟨gb161, 0, none⟩ = some (.string a0_0) := (blk_cell BK161.out 0).trans rfl; have hcz83_1 : w82.cell? ⟨gb161, 1, none⟩ = some (.string a0_1) := (blk_cell BK161.out 1).trans rfl; have hcz83_2 : w82.cell? ⟨gb161, 2, none⟩ = some (.string a0_2) := (blk_cell BK161.out 2).trans rfl; have hcz83_3 : w82.cell? ⟨gb161, 3, none⟩ = some (.int .i64 a0_3) := (blk_cell BK161.out 3).trans rfl; have hcz83_4 : w82.cell? ⟨gb161, 4, none⟩ = some (.string a0_4) := (blk_cell BK161.out 4).trans rfl; have hcz83_5 : w82.cell? ⟨gb161, 5, none⟩ = some (.string a0_5) := (blk_cell BK161.out 5).trans rfl; have hcz83_6 : w82.cell? ⟨gb161, 6, none⟩ = some (.string a0_6) := (blk_cell BK161.out 6).trans rfl; have hcz83_7 : w82.cell? ⟨gb161, 7, none⟩ = some (.bool false) := (blk_cell BK161.out 7).trans rfl; have hcz83_8 : w82.cell? ⟨gb161, 8, none⟩ = some (.bool true) := (blk_cell BK161.out 8).trans rfl; have hfz83_0 := blk_frozen BK161.out 0; have hfz83_1 := blk_frozen BK161.out 1; have hfz83_2 := blk_frozen BK161.out 2; have hfz83_3 := blk_frozen BK161.out 3; have hfz83_4 := blk_frozen BK161.out 4; have hfz83_5 := blk_frozen BK161.out 5; have hfz83_6 := blk_frozen BK161.out 6; have hfz83_7 := blk_frozen BK161.out 7; have hfz83_8 := blk_frozen BK161.out 8) | ((with_reducible refine gate_callee (f := 32) rfl ?_); refine goesL_ (some 57) rfl rfl Tryd.func32 (by kernel_rfl) rfl #[.agg #[.string a0_0, .string a0_1, .string a0_2, .int .i64 a0_3, .string a0_4, .string a0_5, .string a0_6, .bool false, .bool true]] rfl (by (try simp only [List.map_toArray, List.map_cons, List.map_nil]); first | done | rfl | (simp only [List.length_drop, List.length_take]; rfl)) ?_; (with_reducible refine (impl_Url_web.calls a0_0 a0_1 a0_2 a0_3 a0_4 a0_5 a0_6 false true true _ A33.out).mono ?_); rintro e w84 ⟨rfl, hb⟩; refine ⟨_, rfl, ?_⟩; have n0_ := Aside0.mk (blk_below (g := gb161) (o := .cells #[.string a0_0, .string a0_1, .string a0_2, .int .i64 a0_3, .string a0_4, .string a0_5, .string a0_6, .bool false, .bool true] 26 (0, 0)) (by (with_reducible repeat (first | refine blk_drewN ?_ _ | refine blk_drew ?_ | refine blk_alloc ?_ _)); exact BK161.out) hb); have n1_ := Aside0.mk (below_step (by repeat (first | (with_reducible first | exact HB.out | apply below_alloc | apply pw_below_drewN | apply below_drew1 | refine below_set ?_ GE161.out) | exact HB.out)) hb); clear BK161; clear HB; have BK161 := n0_; have HB := n1_; clear n0_ n1_; (try clear hb); (try clear hb2); (try clear hk); (try clear hi)))
               have n0_ := Aside0.mk (blk_drew BK161.out)
               have n1_ := Aside0.mk (below_drew1 HB.out)
               clear BK161
               clear HB
               have BK161 := n0_
               have HB := n1_
               clear n0_ n1_
               refine start_ (n := 52) (S := fun w' => w'.cell? ⟨gb161, 0, none⟩ = some (.string a0_0) ∧ w'.cell? ⟨gb161, 1, none⟩ = some (.string a0_1) ∧ w'.cell? ⟨gb161, 2, none⟩ = some (.string a0_2) ∧ w'.cell? ⟨gb161, 3, none⟩ = some (.int .i64 a0_3) ∧ w'.cell? ⟨gb161, 4, none⟩ = some (.string a0_4) ∧ w'.cell? ⟨gb161, 5, none⟩ = some (.string a0_5) ∧ w'.cell? ⟨gb161, 6, none⟩ = some (.string a0_6) ∧ w'.cell? ⟨gb161, 7, none⟩ = some (.bool false) ∧ w'.cell? ⟨gb161, 8, none⟩ = some (.bool true)) (ds := []) #[Z, Z, Z, Z, Z, Z, Z, Z, Z, Z, Z, Z, Z, Z, Z, Z, Z, Z, Z, Z, Z, Z, Z, Z, Z, Z, Z, Z, Z, Z, Z, Z, Z, Z, Z, Z, Z, Z, Z, Z, Z, Z, Z, Z, Z, Z, Z, Z, Z, Z, Z, Z] (by kernel_rfl) rfl rfl (held9_ BK161.out) (fun hHeld => ?_); refine with_tabW impl_UrlOK.tab7 impl_UrlOK.bits7 (fun HT_ HW_ => ?_)
               generalize w84.drew = w85 at BK161 HB hHeld ⊢
               refine toU_ (i := 0) (n := 52) (by kernel_rfl) ?_
               (refine pureU_ (v := ?_) (a' := ?_) HT_.out (by simp only [Nat.reduceAdd]; rfl) rfl rfl (by kernel_rfl) (fun _ _ _ h => h) (Or.inl ⟨by rfl, ?_⟩) ?_ ?_; rotate_left; (· (intro w'; go_simp; with_reducible rfl)); rotate_left; (· (simp only [Act.put, List.setIfInBounds_toArray, List.set_cons_zero, List.set_cons_succ, i64_w, i32_w]; rfl)))
               (refine takeU_ (v := ?_) (a' := ?_) HT_.out HW_.out (by simp only [Nat.reduceAdd]; rfl) rfl rfl (by kernel_rfl) (fun _ _ _ h => h) (Or.inl ⟨by rfl, ?_⟩) hHeld ?_ ?_; rotate_left; (· (rintro w' ⟨s0, s1, s2, s3, s4, s5, s6, s7, s8⟩; go_simp; with_reducible rfl)); rotate_left; (· (simp only [Act.put, List.setIfInBounds_toArray, List.set_cons_zero, List.set_cons_succ, i64_w, i32_w]; rfl)))
               refine one_ (i := 2) (N := some 68) (upTo 3 49) rfl rfl (one_of HT_.out (by kernel_rfl)) (by decide) (fun K hK => ?_)
               refine goes_ Tryd.func31 (by kernel_rfl) rfl #[.string a0_1, .string (⟨#[47, 63, 35, 64]⟩ : ByteArray)] (by rfl) rfl rfl (by (try simp only [List.map_toArray, List.map_cons, List.map_nil]); first | done | rfl | (simp only [List.length_drop, List.length_take]; rfl)) ?_
               with_reducible refine (strings_ContainsAny.calls a0_1 (⟨#[47, 63, 35, 64]⟩ : ByteArray) false _ A35.out).mono ?_
               rintro e w86 ⟨rfl, hb⟩
               refine ⟨_, rfl, ?_⟩
               have n0_ := Aside0.mk (blk_below (g := gb161) (o := .cells #[.string a0_0, .string a0_1, .string a0_2, .int .i64 a0_3, .string a0_4, .string a0_5, .string a0_6, .bool false, .bool true] 26 (0, 0)) (by (with_reducible repeat (first | refine blk_drewN ?_ _ | refine blk_drew ?_ | refine blk_alloc ?_ _)); exact BK161.out) hb)
               have n1_ := Aside0.mk (below_step (by repeat (first | (with_reducible first | exact HB.out | apply below_alloc | apply pw_below_drewN | apply below_drew1 | refine below_set ?_ GE161.out) | exact HB.out)) hb)
               clear BK161
               clear HB
               have BK161 := n0_
               have HB := n1_
               clear n0_ n1_
               (try clear hb)
               (try clear hb2)
               (try clear hk)
               (try clear hi)
               refine hK.out _ _ (held9_ BK161.out) (fun hHeld => ?_)
               clear hK K
               refine norm_ (a' := ?_) ?_ ?_
               rotate_left
               ·
                show Act.put _ (some 68) _ = _
                simp only [Act.put, List.setIfInBounds_toArray, List.set_cons_zero, List.set_cons_succ, i64_w, i32_w]
                rfl
               refine toU_ (i := 3) (n := 49) (by kernel_rfl) ?_
               iterate 3 (refine pureU_ (v := ?_) (a' := ?_) HT_.out (by simp only [Nat.reduceAdd]; rfl) rfl rfl (by kernel_rfl) (fun _ _ _ h => h) (Or.inl ⟨by rfl, ?_⟩) ?_ ?_; rotate_left; (· (intro w'; go_simp; with_reducible rfl)); rotate_left; (· (simp only [Act.put, List.setIfInBounds_toArray, List.set_cons_zero, List.set_cons_succ, i64_w, i32_w]; rfl)))
               (refine takeU_ (v := ?_) (a' := ?_) HT_.out HW_.out (by simp only [Nat.reduceAdd]; rfl) rfl rfl (by kernel_rfl) (fun _ _ _ h => h) (Or.inl ⟨by rfl, ?_⟩) hHeld ?_ ?_; rotate_left; (· (rintro w' ⟨s0, s1, s2, s3, s4, s5, s6, s7, s8⟩; go_simp; with_reducible rfl)); rotate_left; (· (simp only [Act.put, List.setIfInBounds_toArray, List.set_cons_zero, List.set_cons_succ, i64_w, i32_w]; rfl)))
               refine one_ (i := 7) (N := some 73) (upTo 8 44) rfl rfl (one_of HT_.out (by kernel_rfl)) (by decide) (fun K hK => ?_)
               refine goes_ Tryd.func33 (by kernel_rfl) rfl #[.string a0_2] (by rfl) rfl rfl (by (try simp only [List.map_toArray, List.map_cons, List.map_nil]); first | done | rfl | (simp only [List.length_drop, List.length_take]; rfl)) ?_
               with_reducible refine (impl_isHost.calls kj1 a0_2 true _ A43.out).mono ?_
               rintro e w' ⟨rfl, ⟨nd, rfl⟩⟩
               refine ⟨_, rfl, ?_⟩
               refine hK.out _ _ (held9_ BK161.out) (fun hHeld => ?_)
               clear hK K
               refine norm_ (a' := ?_) ?_ ?_
               rotate_left
               ·
                show Act.put _ (some 73) _ = _
                simp only [Act.put, List.setIfInBounds_toArray, List.set_cons_zero, List.set_cons_succ, i64_w, i32_w]
                rfl
               refine toU_ (i := 8) (n := 44) (by kernel_rfl) ?_
               iterate 3 (refine pureU_ (v := ?_) (a' := ?_) HT_.out (by simp only [Nat.reduceAdd]; rfl) rfl rfl (by kernel_rfl) (fun _ _ _ h => h) (Or.inl ⟨by rfl, ?_⟩) ?_ ?_; rotate_left; (· (intro w'; go_simp; with_reducible rfl)); rotate_left; (· (simp only [Act.put, List.setIfInBounds_toArray, List.set_cons_zero, List.set_cons_succ, i64_w, i32_w]; rfl)))
               (refine takeU_ (v := ?_) (a' := ?_) HT_.out HW_.out (by simp only [Nat.reduceAdd]; rfl) rfl rfl (by kernel_rfl) (fun _ _ _ h => h) (Or.inl ⟨by rfl, ?_⟩) hHeld ?_ ?_; rotate_left; (· (rintro w' ⟨s0, s1, s2, s3, s4, s5, s6, s7, s8⟩; go_simp; with_reducible rfl)); rotate_left; (· (simp only [Act.put, List.setIfInBounds_toArray, List.set_cons_zero, List.set_cons_succ, i64_w, i32_w]; rfl)))
               refine one_ (i := 12) (N := some 78) (upTo 13 39) rfl rfl (one_of HT_.out (by kernel_rfl)) (by decide) (fun K hK => ?_)
               refine goes_ Tryd.func34 (by kernel_rfl) rfl #[.int .i64 a0_3, .int .i64 0, .int .i64 65535] (by rfl) rfl rfl (by (try simp only [List.map_toArray, List.map_cons, List.map_nil]); first | done | rfl | (simp only [List.length_drop, List.length_take]; rfl)) ?_
               with_reducible refine (impl_within.calls a0_3 0 65535 true _ A45.out).mono ?_
               rintro e w' ⟨rfl, ⟨nd, rfl⟩⟩
               refine ⟨_, rfl, ?_⟩
               refine hK.out _ _ (held9_ BK161.out) (fun hHeld => ?_)
               clear hK K
               refine norm_ (a' := ?_) ?_ ?_
               rotate_left
               ·
                show Act.put _ (some 78) _ = _
                simp only [Act.put, List.setIfInBounds_toArray, List.set_cons_zero, List.set_cons_succ, i64_w, i32_w]
                rfl
               refine toU_ (i := 13) (n := 39) (by kernel_rfl) ?_
               iterate 3 (refine pureU_ (v := ?_) (a' := ?_) HT_.out (by simp only [Nat.reduceAdd]; rfl) rfl rfl (by kernel_rfl) (fun _ _ _ h => h) (Or.inl ⟨by rfl, ?_⟩) ?_ ?_; rotate_left; (· (intro w'; go_simp; with_reducible rfl)); rotate_left; (· (simp only [Act.put, List.setIfInBounds_toArray, List.set_cons_zero, List.set_cons_succ, i64_w, i32_w]; rfl)))
               refine pure_ (i := 17) (N := some 83) (v := ?_) (a' := ?_) #[Y, Y, Y, Y, Y, Y, Y, Y, Y, Y, Y, Y, Y, Y, Y, Y, Z, Y, Z, Z, Z, Z, Z, Z, Z, Z, Z, Z, Z, Z, Z, Z, Z, Z, Z, Z, Z, Z, Z, Z, Z, Z, Z, Z, Z, Z, Z, Z, Z, Z, Z, Z] rfl rfl (any_of HT_.out (by kernel_rfl)) (fun _ _ _ h => h) (Or.inl ⟨by rfl, ?_⟩) ?_ ?_
               rotate_left
               ·
                intro w'
                go_simp
                with_reducible rfl
               rotate_left
               ·
                simp only [Act.put, List.setIfInBounds_toArray, List.set_cons_zero, List.set_cons_succ, i64_w, i32_w]
                rfl
               refine take_ (i := 16) (N := some 82) (v := ?_) (a' := ?_) #[Y, Y, Y, Y, Y, Y, Y, Y, Y, Y, Y, Y, Y, Y, Y, Y, Y, Y, Z, Z, Z, Z, Z, Z, Z, Z, Z, Z, Z, Z, Z, Z, Z, Z, Z, Z, Z, Z, Z, Z, Z, Z, Z, Z, Z, Z, Z, Z, Z, Z, Z, Z] rfl rfl (take_ofW HT_.out HW_.out (by kernel_rfl)) (fun _ _ _ h => h) (Or.inl ⟨by rfl, ?_⟩) hHeld ?_ ?_
               rotate_left
               ·
                rintro w' ⟨s0, s1, s2, s3, s4, s5, s6, s7, s8⟩
                go_simp
                with_reducible rfl
               rotate_left
               ·
                simp only [Act.put, List.setIfInBounds_toArray, List.set_cons_zero, List.set_cons_succ, i64_w, i32_w]
                rfl
               refine take_ (i := 18) (N := some 84) (v := ?_) (a' := ?_) #[Y, Y, Y, Y, Y, Y, Y, Y, Y, Y, Y, Y, Y, Y, Y, Y, Y, Y, Y, Z, Z, Z, Z, Z, Z, Z, Z, Z, Z, Z, Z, Z, Z, Z, Z, Z, Z, Z, Z, Z, Z, Z, Z, Z, Z, Z, Z, Z, Z, Z, Z, Z] rfl rfl (take_ofW HT_.out HW_.out (by kernel_rfl)) (fun _ _ _ h => h) (Or.inl ⟨by rfl, ?_⟩) hHeld ?_ ?_
               rotate_left
               ·
                rintro w' ⟨s0, s1, s2, s3, s4, s5, s6, s7, s8⟩
                go_simp
                with_reducible rfl
               rotate_left
               ·
                simp only [Act.put, List.setIfInBounds_toArray, List.set_cons_zero, List.set_cons_succ, i64_w, i32_w]
                rfl
               refine one_ (i := 19) (N := some 85) (upTo 20 32) rfl rfl (one_of HT_.out (by kernel_rfl)) (by decide) (fun K hK => ?_)
               refine goes_ Tryd.func35 (by kernel_rfl) rfl #[.string a0_0] (by rfl) rfl rfl (by (try simp only [List.map_toArray, List.map_cons, List.map_nil]); first | done | rfl | (simp only [List.length_drop, List.length_take]; rfl)) ?_
               with_reducible refine (impl_usual.calls a0_0 t170 _ A47.out).mono ?_
               rintro e w' ⟨rfl, ⟨nd, rfl⟩⟩
               refine ⟨_, rfl, ?_⟩
               refine hK.out _ _ (held9_ BK161.out) (fun hHeld => ?_)
               clear hK K
               refine norm_ (a' := ?_) ?_ ?_
               rotate_left
               ·
                show Act.put _ (some 85) _ = _
                simp only [Act.put, List.setIfInBounds_toArray, List.set_cons_zero, List.set_cons_succ, i64_w, i32_w]
                rfl
               refine toU_ (i := 20) (n := 32) (by kernel_rfl) ?_
               iterate 4 (refine pureU_ (v := ?_) (a' := ?_) HT_.out (by simp only [Nat.reduceAdd]; rfl) rfl rfl (by kernel_rfl) (fun _ _ _ h => h) (Or.inl ⟨by rfl, ?_⟩) ?_ ?_; rotate_left; (· (intro w'; go_simp; with_reducible rfl)); rotate_left; (· (simp only [Act.put, List.setIfInBounds_toArray, List.set_cons_zero, List.set_cons_succ, i64_w, i32_w]; rfl)))
               (refine takeU_ (v := ?_) (a' := ?_) HT_.out HW_.out (by simp only [Nat.reduceAdd]; rfl) rfl rfl (by kernel_rfl) (fun _ _ _ h => h) (Or.inl ⟨by rfl, ?_⟩) hHeld ?_ ?_; rotate_left; (· (rintro w' ⟨s0, s1, s2, s3, s4, s5, s6, s7, s8⟩; go_simp; with_reducible rfl)); rotate_left; (· (simp only [Act.put, List.setIfInBounds_toArray, List.set_cons_zero, List.set_cons_succ, i64_w, i32_w]; rfl)))
               refine one_ (i := 25) (N := some 91) (upTo 26 26) rfl rfl (one_of HT_.out (by kernel_rfl)) (by decide) (fun K hK => ?_)
               refine goes_ Tryd.func36 (by kernel_rfl) rfl #[.string a0_4, .string (⟨#[47]⟩ : ByteArray)] (by rfl) rfl rfl (by (try simp only [List.map_toArray, List.map_cons, List.map_nil]); first | done | rfl | (simp only [List.length_drop, List.length_take]; rfl)) ?_
               with_reducible refine (strings_HasPrefix.calls a0_4 (⟨#[47]⟩ : ByteArray) true _ A55.out).mono ?_
               rintro e w' ⟨rfl, ⟨nd, rfl⟩⟩
               refine ⟨_, rfl, ?_⟩
               refine hK.out _ _ (held9_ BK161.out) (fun hHeld => ?_)
               clear hK K
               refine norm_ (a' := ?_) ?_ ?_
               rotate_left
               ·
                show Act.put _ (some 91) _ = _
                simp only [Act.put, List.setIfInBounds_toArray, List.set_cons_zero, List.set_cons_succ, i64_w, i32_w]
                rfl
               refine toU_ (i := 26) (n := 26) (by kernel_rfl) ?_
               iterate 3 (refine pureU_ (v := ?_) (a' := ?_) HT_.out (by simp only [Nat.reduceAdd]; rfl) rfl rfl (by kernel_rfl) (fun _ _ _ h => h) (Or.inl ⟨by rfl, ?_⟩) ?_ ?_; rotate_left; (· (intro w'; go_simp; with_reducible rfl)); rotate_left; (· (simp only [Act.put, List.setIfInBounds_toArray, List.set_cons_zero, List.set_cons_succ, i64_w, i32_w]; rfl)))
               (refine takeU_ (v := ?_) (a' := ?_) HT_.out HW_.out (by simp only [Nat.reduceAdd]; rfl) rfl rfl (by kernel_rfl) (fun _ _ _ h => h) (Or.inl ⟨by rfl, ?_⟩) hHeld ?_ ?_; rotate_left; (· (rintro w' ⟨s0, s1, s2, s3, s4, s5, s6, s7, s8⟩; go_simp; with_reducible rfl)); rotate_left; (· (simp only [Act.put, List.setIfInBounds_toArray, List.set_cons_zero, List.set_cons_succ, i64_w, i32_w]; rfl)))
               refine one_ (i := 30) (N := some 96) (upTo 31 21) rfl rfl (one_of HT_.out (by kernel_rfl)) (by decide) (fun K hK => ?_)
               refine goes_ Tryd.func37 (by kernel_rfl) rfl #[.string a0_5, .string (⟨#[35]⟩ : ByteArray)] (by rfl) rfl rfl (by (try simp only [List.map_toArray, List.map_cons, List.map_nil]); first | done | rfl | (simp only [List.length_drop, List.length_take]; rfl)) ?_
               with_reducible refine (strings_Contains.calls a0_5 (⟨#[35]⟩ : ByteArray) false _ A57.out).mono ?_
               rintro e w' ⟨rfl, ⟨nd, rfl⟩⟩
               refine ⟨_, rfl, ?_⟩
               refine hK.out _ _ (held9_ BK161.out) (fun hHeld => ?_)
               clear hK K
               refine norm_ (a' := ?_) ?_ ?_
               rotate_left
               ·
                show Act.put _ (some 96) _ = _
                simp only [Act.put, List.setIfInBounds_toArray, List.set_cons_zero, List.set_cons_succ, i64_w, i32_w]
                rfl
               refine toU_ (i := 31) (n := 21) (by kernel_rfl) ?_
               iterate 4 (refine pureU_ (v := ?_) (a' := ?_) HT_.out (by simp only [Nat.reduceAdd]; rfl) rfl rfl (by kernel_rfl) (fun _ _ _ h => h) (Or.inl ⟨by rfl, ?_⟩) ?_ ?_; rotate_left; (· (intro w'; go_simp; with_reducible rfl)); rotate_left; (· (simp only [Act.put, List.setIfInBounds_toArray, List.set_cons_zero, List.set_cons_succ, i64_w, i32_w]; rfl)))
               (refine takeU_ (v := ?_) (a' := ?_) HT_.out HW_.out (by simp only [Nat.reduceAdd]; rfl) rfl rfl (by kernel_rfl) (fun _ _ _ h => h) (Or.inl ⟨by rfl, ?_⟩) hHeld ?_ ?_; rotate_left; (· (rintro w' ⟨s0, s1, s2, s3, s4, s5, s6, s7, s8⟩; go_simp; with_reducible rfl)); rotate_left; (· (simp only [Act.put, List.setIfInBounds_toArray, List.set_cons_zero, List.set_cons_succ, i64_w, i32_w]; rfl)))
               iterate 2 (refine pureU_ (v := ?_) (a' := ?_) HT_.out (by simp only [Nat.reduceAdd]; rfl) rfl rfl (by kernel_rfl) (fun _ _ _ h => h) (Or.inl ⟨by rfl, ?_⟩) ?_ ?_; rotate_left; (· (intro w'; go_simp; with_reducible rfl)); rotate_left; (· (simp only [Act.put, List.setIfInBounds_toArray, List.set_cons_zero, List.set_cons_succ, i64_w, i32_w]; rfl)))
               (refine takeU_ (v := ?_) (a' := ?_) HT_.out HW_.out (by simp only [Nat.reduceAdd]; rfl) rfl rfl (by kernel_rfl) (fun _ _ _ h => h) (Or.inl ⟨by rfl, ?_⟩) hHeld ?_ ?_; rotate_left; (· (rintro w' ⟨s0, s1, s2, s3, s4, s5, s6, s7, s8⟩; go_simp; with_reducible rfl)); rotate_left; (· (simp only [Act.put, List.setIfInBounds_toArray, List.set_cons_zero, List.set_cons_succ, i64_w, i32_w]; rfl)))
               iterate 5 (refine pureU_ (v := ?_) (a' := ?_) HT_.out (by simp only [Nat.reduceAdd]; rfl) rfl rfl (by kernel_rfl) (fun _ _ _ h => h) (Or.inl ⟨by rfl, ?_⟩) ?_ ?_; rotate_left; (· (intro w'; go_simp; with_reducible rfl)); rotate_left; (· (simp only [Act.put, List.setIfInBounds_toArray, List.set_cons_zero, List.set_cons_succ, i64_w, i32_w]; rfl)))
               (refine takeU_ (v := ?_) (a' := ?_) HT_.out HW_.out (by simp only [Nat.reduceAdd]; rfl) rfl rfl (by kernel_rfl) (fun _ _ _ h => h) (Or.inl ⟨by rfl, ?_⟩) hHeld ?_ ?_; rotate_left; (· (rintro w' ⟨s0, s1, s2, s3, s4, s5, s6, s7, s8⟩; go_simp; with_reducible rfl)); rotate_left; (· (simp only [Act.put, List.setIfInBounds_toArray, List.set_cons_zero, List.set_cons_succ, i64_w, i32_w]; rfl)))
               (refine pureU_ (v := ?_) (a' := ?_) HT_.out (by simp only [Nat.reduceAdd]; rfl) rfl rfl (by kernel_rfl) (fun _ _ _ h => h) (Or.inl ⟨by rfl, ?_⟩) ?_ ?_; rotate_left; (· (intro w'; go_simp; with_reducible rfl)); rotate_left; (· (simp only [Act.put, List.setIfInBounds_toArray, List.set_cons_zero, List.set_cons_succ, i64_w, i32_w]; rfl)))
               iterate 3 (refine skipU_ (a' := ?_) HT_.out (by simp only [Nat.reduceAdd]; rfl) rfl rfl (by kernel_rfl) (fun _ _ _ h => h) (by rfl) ?_ ?_; rotate_left; (· (simp only [Act.put, List.setIfInBounds_toArray, List.set_cons_zero, List.set_cons_succ, i64_w, i32_w]; rfl)))
               iterate 3 (refine pureU_ (v := ?_) (a' := ?_) HT_.out (by simp only [Nat.reduceAdd]; rfl) rfl rfl (by kernel_rfl) (fun _ _ _ h => h) (Or.inl ⟨by rfl, ?_⟩) ?_ ?_; rotate_left; (· (intro w'; go_simp; with_reducible rfl)); rotate_left; (· (simp only [Act.put, List.setIfInBounds_toArray, List.set_cons_zero, List.set_cons_succ, i64_w, i32_w]; rfl)))
               refine done_ (done_of HT_.out (by kernel_rfl)) ?_
               try go_wp2
               go_ret
               exact ⟨by first | rfl | (simp [errW_none, errW_some] <;> rfl) | (simp [*, errW_none, errW_some] <;> rfl), by repeat (first | (with_reducible first | exact HB.out | apply below_alloc | apply pw_below_drewN | apply below_drew1 | refine below_set ?_ GE161.out) | exact HB.out)⟩
              ·
               replace c80 := Bool.eq_false_iff.mpr c80
               subst c80
               have H1 : (some (a0_6.toList == ([] : List UInt8))) = some r := by rw [if_neg (show ¬ (false = true) by decide)] at H; exact H
               clear H
               have H := H1
               clear H1
               obtain rfl := Option.some.inj H
               have hcz87_0 : wc.cell? ⟨gb161, 0, none⟩ = some (.string a0_0) := (blk_cell BK161.out 0).trans rfl
               have hcz87_1 : wc.cell? ⟨gb161, 1, none⟩ = some (.string a0_1) := (blk_cell BK161.out 1).trans rfl
               have hcz87_2 : wc.cell? ⟨gb161, 2, none⟩ = some (.string a0_2) := (blk_cell BK161.out 2).trans rfl
               have hcz87_3 : wc.cell? ⟨gb161, 3, none⟩ = some (.int .i64 a0_3) := (blk_cell BK161.out 3).trans rfl
               have hcz87_4 : wc.cell? ⟨gb161, 4, none⟩ = some (.string a0_4) := (blk_cell BK161.out 4).trans rfl
               have hcz87_5 : wc.cell? ⟨gb161, 5, none⟩ = some (.string a0_5) := (blk_cell BK161.out 5).trans rfl
               have hcz87_6 : wc.cell? ⟨gb161, 6, none⟩ = some (.string a0_6) := (blk_cell BK161.out 6).trans rfl
               have hcz87_7 : wc.cell? ⟨gb161, 7, none⟩ = some (.bool false) := (blk_cell BK161.out 7).trans rfl
               have hcz87_8 : wc.cell? ⟨gb161, 8, none⟩ = some (.bool false) := (blk_cell BK161.out 8).trans rfl
               have hfz87_0 := blk_frozen BK161.out 0
               have hfz87_1 := blk_frozen BK161.out 1
               have hfz87_2 := blk_frozen BK161.out 2
               have hfz87_3 := blk_frozen BK161.out 3
               have hfz87_4 := blk_frozen BK161.out 4
               have hfz87_5 := blk_frozen BK161.out 5
               have hfz87_6 := blk_frozen BK161.out 6
               have hfz87_7 := blk_frozen BK161.out 7
               have hfz87_8 := blk_frozen BK161.out 8
               try go_wp2_with (first | ((with_reducible refine gate_callee (f := 31) rfl ?_); refine goesL_ (some 55) rfl rfl Tryd.func31 (by kernel_rfl) rfl #[.string a0_4, .string (⟨#[63, 35]⟩ : ByteArray)] rfl (by (try simp only [List.map_toArray, List.map_cons, List.map_nil]); first | done | rfl | (simp only [List.length_drop, List.length_take]; rfl)) ?_; (with_reducible refine (strings_ContainsAny.calls a0_4 (⟨#[63, 35]⟩ : ByteArray) false _ A29.out).mono ?_); rintro e w88 ⟨rfl, hb⟩; refine ⟨_, rfl, ?_⟩; have n0_ := Aside0.mk (blk_below (g := gb161) (o := .cells #[.string a0_0, .string a0_1, .string a0_2, .int .i64 a0_3, .string a0_4, .string a0_5, .string a0_6, .bool false, .bool false] 26 (0, 0)) (by (with_reducible repeat (first | refine blk_drewN ?_ _ | refine blk_drew ?_ | refine blk_alloc ?_ _)); exact BK161.out) hb); have n1_ := Aside0.mk (below_step (by repeat (first | (with_reducible first | exact HB.out | apply below_alloc | apply pw_below_drewN | apply below_drew1 | refine below_set ?_ GE161.out) | exact HB.out)) hb); clear BK161; clear HB; have BK161 := n0_; have HB := n1_; clear n0_ n1_; (try clear hb); (try clear hb2); (try clear hk); (try clear hi); have hcz89_0 : w88.cell? ⟨gb161, 0, none⟩ = some (.string a0_0) := (blk_cell BK161.out 0).trans rfl; have hcz89_1 : w88.cell? ⟨gb161, 1, none⟩ = some (.string a0_1) := (blk_cell BK161.out 1).trans rfl; have hcz89_2 : w88.cell? ⟨gb161, 2, none⟩ = some (.string a0_2) := (blk_cell BK161.out 2).trans rfl; have hcz89_3 : w88.cell? ⟨gb161, 3, none⟩ = some (.int .i64 a0_3) := (blk_cell BK161.out 3).trans rfl; have hcz89_4 : w88.cell? ⟨gb161, 4, none⟩ = some (.string a0_4) := (blk_cell BK161.out 4).trans rfl; have hcz89_5 : w88.cell? ⟨gb161, 5, none⟩ = some (.string a0_5) := (blk_cell BK161.out 5).trans rfl; have hcz89_6 : w88.cell? ⟨gb161, 6, none⟩ = some (.string a0_6) := (blk_cell BK161.out 6).trans rfl; have hcz89_7 : w88.cell? ⟨gb161, 7, none⟩ = some (.bool false) := (blk_cell BK161.out 7).trans rfl; have hcz89_8 : w88.cell? ⟨gb161, 8, none⟩ = some (.bool false) := (blk_cell BK161.out 8).trans rfl; have hfz89_0 := blk_frozen BK161.out 0; have hfz89_1 := blk_frozen BK161.out 1; have hfz89_2 := blk_frozen BK161.out 2; have hfz89_3 := blk_frozen BK161.out 3; have hfz89_4 := blk_frozen BK161.out 4; have hfz89_5 := blk_frozen BK161.out 5; have hfz89_6 := blk_frozen BK161.out 6; have hfz89_7 := blk_frozen BK161.out 7; have hfz89_8 := blk_frozen BK161.out 8) | ((with_reducible refine gate_callee (f := 32) rfl ?_); refine goesL_ (some 57) rfl rfl Tryd.func32 (by kernel_rfl) rfl #[.agg #[.string a0_0, .string a0_1, .string a0_2, .int .i64 a0_3, .string a0_4, .string a0_5, .string a0_6, .bool false, .bool false]] rfl (by (try simp only [List.map_toArray, List.map_cons, List.map_nil]); first | done | rfl | (simp only [List.length_drop, List.length_take]; rfl)) ?_; (with_reducible refine (impl_Url_web.calls a0_0 a0_1 a0_2 a0_3 a0_4 a0_5 a0_6 false false true _ A33.out).mono ?_); rintro e w90 ⟨rfl, hb⟩; refine ⟨_, rfl, ?_⟩; have n0_ := Aside0.mk (blk_below (g := gb161) (o := .cells #[.string a0_0, .string a0_1, .string a0_2, .int .i64 a0_3, .string a0_4, .string a0_5, .string a0_6, .bool false, .bool false] 26 (0, 0)) (by (with_reducible repeat (first | refine blk_drewN ?_ _ | refine blk_drew ?_ | refine blk_alloc ?_ _)); exact BK161.out) hb); have n1_ := Aside0.mk (below_step (by repeat (first | (with_reducible first | exact HB.out | apply below_alloc | apply pw_below_drewN | apply below_drew1 | refine below_set ?_ GE161.out) | exact HB.out)) hb); clear BK161; clear HB; have BK161 := n0_; have HB := n1_; clear n0_ n1_; (try clear hb); (try clear hb2); (try clear hk); (try clear hi)))
               have n0_ := Aside0.mk (blk_drew BK161.out)
               have n1_ := Aside0.mk (below_drew1 HB.out)
               clear BK161
               clear HB
               have BK161 := n0_
               have HB := n1_
               clear n0_ n1_
               refine start_ (n := 52) (S := fun w' => w'.cell? ⟨gb161, 0, none⟩ = some (.string a0_0) ∧ w'.cell? ⟨gb161, 1, none⟩ = some (.string a0_1) ∧ w'.cell? ⟨gb161, 2, none⟩ = some (.string a0_2) ∧ w'.cell? ⟨gb161, 3, none⟩ = some (.int .i64 a0_3) ∧ w'.cell? ⟨gb161, 4, none⟩ = some (.string a0_4) ∧ w'.cell? ⟨gb161, 5, none⟩ = some (.string a0_5) ∧ w'.cell? ⟨gb161, 6, none⟩ = some (.string a0_6) ∧ w'.cell? ⟨gb161, 7, none⟩ = some (.bool false) ∧ w'.cell? ⟨gb161, 8, none⟩ = some (.bool false)) (ds := []) #[Z, Z, Z, Z, Z, Z, Z, Z, Z, Z, Z, Z, Z, Z, Z, Z, Z, Z, Z, Z, Z, Z, Z, Z, Z, Z, Z, Z, Z, Z, Z, Z, Z, Z, Z, Z, Z, Z, Z, Z, Z, Z, Z, Z, Z, Z, Z, Z, Z, Z, Z, Z] (by kernel_rfl) rfl rfl (held9_ BK161.out) (fun hHeld => ?_); refine with_tabW impl_UrlOK.tab7 impl_UrlOK.bits7 (fun HT_ HW_ => ?_)
               generalize w90.drew = w91 at BK161 HB hHeld ⊢
               refine toU_ (i := 0) (n := 52) (by kernel_rfl) ?_
               (refine pureU_ (v := ?_) (a' := ?_) HT_.out (by simp only [Nat.reduceAdd]; rfl) rfl rfl (by kernel_rfl) (fun _ _ _ h => h) (Or.inl ⟨by rfl, ?_⟩) ?_ ?_; rotate_left; (· (intro w'; go_simp; with_reducible rfl)); rotate_left; (· (simp only [Act.put, List.setIfInBounds_toArray, List.set_cons_zero, List.set_cons_succ, i64_w, i32_w]; rfl)))
               (refine takeU_ (v := ?_) (a' := ?_) HT_.out HW_.out (by simp only [Nat.reduceAdd]; rfl) rfl rfl (by kernel_rfl) (fun _ _ _ h => h) (Or.inl ⟨by rfl, ?_⟩) hHeld ?_ ?_; rotate_left; (· (rintro w' ⟨s0, s1, s2, s3, s4, s5, s6, s7, s8⟩; go_simp; with_reducible rfl)); rotate_left; (· (simp only [Act.put, List.setIfInBounds_toArray, List.set_cons_zero, List.set_cons_succ, i64_w, i32_w]; rfl)))
               refine one_ (i := 2) (N := some 68) (upTo 3 49) rfl rfl (one_of HT_.out (by kernel_rfl)) (by decide) (fun K hK => ?_)
               refine goes_ Tryd.func31 (by kernel_rfl) rfl #[.string a0_1, .string (⟨#[47, 63, 35, 64]⟩ : ByteArray)] (by rfl) rfl rfl (by (try simp only [List.map_toArray, List.map_cons, List.map_nil]); first | done | rfl | (simp only [List.length_drop, List.length_take]; rfl)) ?_
               with_reducible refine (strings_ContainsAny.calls a0_1 (⟨#[47, 63, 35, 64]⟩ : ByteArray) false _ A35.out).mono ?_
               rintro e w92 ⟨rfl, hb⟩
               refine ⟨_, rfl, ?_⟩
               have n0_ := Aside0.mk (blk_below (g := gb161) (o := .cells #[.string a0_0, .string a0_1, .string a0_2, .int .i64 a0_3, .string a0_4, .string a0_5, .string a0_6, .bool false, .bool false] 26 (0, 0)) (by (with_reducible repeat (first | refine blk_drewN ?_ _ | refine blk_drew ?_ | refine blk_alloc ?_ _)); exact BK161.out) hb)
               have n1_ := Aside0.mk (below_step (by repeat (first | (with_reducible first | exact HB.out | apply below_alloc | apply pw_below_drewN | apply below_drew1 | refine below_set ?_ GE161.out) | exact HB.out)) hb)
               clear BK161
               clear HB
               have BK161 := n0_
               have HB := n1_
               clear n0_ n1_
               (try clear hb)
               (try clear hb2)
               (try clear hk)
               (try clear hi)
               refine hK.out _ _ (held9_ BK161.out) (fun hHeld => ?_)
               clear hK K
               refine norm_ (a' := ?_) ?_ ?_
               rotate_left
               ·
                show Act.put _ (some 68) _ = _
                simp only [Act.put, List.setIfInBounds_toArray, List.set_cons_zero, List.set_cons_succ, i64_w, i32_w]
                rfl
               refine toU_ (i := 3) (n := 49) (by kernel_rfl) ?_
               iterate 3 (refine pureU_ (v := ?_) (a' := ?_) HT_.out (by simp only [Nat.reduceAdd]; rfl) rfl rfl (by kernel_rfl) (fun _ _ _ h => h) (Or.inl ⟨by rfl, ?_⟩) ?_ ?_; rotate_left; (· (intro w'; go_simp; with_reducible rfl)); rotate_left; (· (simp only [Act.put, List.setIfInBounds_toArray, List.set_cons_zero, List.set_cons_succ, i64_w, i32_w]; rfl)))
               (refine takeU_ (v := ?_) (a' := ?_) HT_.out HW_.out (by simp only [Nat.reduceAdd]; rfl) rfl rfl (by kernel_rfl) (fun _ _ _ h => h) (Or.inl ⟨by rfl, ?_⟩) hHeld ?_ ?_; rotate_left; (· (rintro w' ⟨s0, s1, s2, s3, s4, s5, s6, s7, s8⟩; go_simp; with_reducible rfl)); rotate_left; (· (simp only [Act.put, List.setIfInBounds_toArray, List.set_cons_zero, List.set_cons_succ, i64_w, i32_w]; rfl)))
               refine one_ (i := 7) (N := some 73) (upTo 8 44) rfl rfl (one_of HT_.out (by kernel_rfl)) (by decide) (fun K hK => ?_)
               refine goes_ Tryd.func33 (by kernel_rfl) rfl #[.string a0_2] (by rfl) rfl rfl (by (try simp only [List.map_toArray, List.map_cons, List.map_nil]); first | done | rfl | (simp only [List.length_drop, List.length_take]; rfl)) ?_
               with_reducible refine (impl_isHost.calls kj1 a0_2 true _ A43.out).mono ?_
               rintro e w' ⟨rfl, ⟨nd, rfl⟩⟩
               refine ⟨_, rfl, ?_⟩
               refine hK.out _ _ (held9_ BK161.out) (fun hHeld => ?_)
               clear hK K
               refine norm_ (a' := ?_) ?_ ?_
               rotate_left
               ·
                show Act.put _ (some 73) _ = _
                simp only [Act.put, List.setIfInBounds_toArray, List.set_cons_zero, List.set_cons_succ, i64_w, i32_w]
                rfl
               refine toU_ (i := 8) (n := 44) (by kernel_rfl) ?_
               iterate 3 (refine pureU_ (v := ?_) (a' := ?_) HT_.out (by simp only [Nat.reduceAdd]; rfl) rfl rfl (by kernel_rfl) (fun _ _ _ h => h) (Or.inl ⟨by rfl, ?_⟩) ?_ ?_; rotate_left; (· (intro w'; go_simp; with_reducible rfl)); rotate_left; (· (simp only [Act.put, List.setIfInBounds_toArray, List.set_cons_zero, List.set_cons_succ, i64_w, i32_w]; rfl)))
               (refine takeU_ (v := ?_) (a' := ?_) HT_.out HW_.out (by simp only [Nat.reduceAdd]; rfl) rfl rfl (by kernel_rfl) (fun _ _ _ h => h) (Or.inl ⟨by rfl, ?_⟩) hHeld ?_ ?_; rotate_left; (· (rintro w' ⟨s0, s1, s2, s3, s4, s5, s6, s7, s8⟩; go_simp; with_reducible rfl)); rotate_left; (· (simp only [Act.put, List.setIfInBounds_toArray, List.set_cons_zero, List.set_cons_succ, i64_w, i32_w]; rfl)))
               refine one_ (i := 12) (N := some 78) (upTo 13 39) rfl rfl (one_of HT_.out (by kernel_rfl)) (by decide) (fun K hK => ?_)
               refine goes_ Tryd.func34 (by kernel_rfl) rfl #[.int .i64 a0_3, .int .i64 0, .int .i64 65535] (by rfl) rfl rfl (by (try simp only [List.map_toArray, List.map_cons, List.map_nil]); first | done | rfl | (simp only [List.length_drop, List.length_take]; rfl)) ?_
               with_reducible refine (impl_within.calls a0_3 0 65535 true _ A45.out).mono ?_
               rintro e w' ⟨rfl, ⟨nd, rfl⟩⟩
               refine ⟨_, rfl, ?_⟩
               refine hK.out _ _ (held9_ BK161.out) (fun hHeld => ?_)
               clear hK K
               refine norm_ (a' := ?_) ?_ ?_
               rotate_left
               ·
                show Act.put _ (some 78) _ = _
                simp only [Act.put, List.setIfInBounds_toArray, List.set_cons_zero, List.set_cons_succ, i64_w, i32_w]
                rfl
               refine toU_ (i := 13) (n := 39) (by kernel_rfl) ?_
               iterate 3 (refine pureU_ (v := ?_) (a' := ?_) HT_.out (by simp only [Nat.reduceAdd]; rfl) rfl rfl (by kernel_rfl) (fun _ _ _ h => h) (Or.inl ⟨by rfl, ?_⟩) ?_ ?_; rotate_left; (· (intro w'; go_simp; with_reducible rfl)); rotate_left; (· (simp only [Act.put, List.setIfInBounds_toArray, List.set_cons_zero, List.set_cons_succ, i64_w, i32_w]; rfl)))
               refine pure_ (i := 17) (N := some 83) (v := ?_) (a' := ?_) #[Y, Y, Y, Y, Y, Y, Y, Y, Y, Y, Y, Y, Y, Y, Y, Y, Z, Y, Z, Z, Z, Z, Z, Z, Z, Z, Z, Z, Z, Z, Z, Z, Z, Z, Z, Z, Z, Z, Z, Z, Z, Z, Z, Z, Z, Z, Z, Z, Z, Z, Z, Z] rfl rfl (any_of HT_.out (by kernel_rfl)) (fun _ _ _ h => h) (Or.inl ⟨by rfl, ?_⟩) ?_ ?_
               rotate_left
               ·
                intro w'
                go_simp
                with_reducible rfl
               rotate_left
               ·
                simp only [Act.put, List.setIfInBounds_toArray, List.set_cons_zero, List.set_cons_succ, i64_w, i32_w]
                rfl
               refine take_ (i := 16) (N := some 82) (v := ?_) (a' := ?_) #[Y, Y, Y, Y, Y, Y, Y, Y, Y, Y, Y, Y, Y, Y, Y, Y, Y, Y, Z, Z, Z, Z, Z, Z, Z, Z, Z, Z, Z, Z, Z, Z, Z, Z, Z, Z, Z, Z, Z, Z, Z, Z, Z, Z, Z, Z, Z, Z, Z, Z, Z, Z] rfl rfl (take_ofW HT_.out HW_.out (by kernel_rfl)) (fun _ _ _ h => h) (Or.inl ⟨by rfl, ?_⟩) hHeld ?_ ?_
               rotate_left
               ·
                rintro w' ⟨s0, s1, s2, s3, s4, s5, s6, s7, s8⟩
                go_simp
                with_reducible rfl
               rotate_left
               ·
                simp only [Act.put, List.setIfInBounds_toArray, List.set_cons_zero, List.set_cons_succ, i64_w, i32_w]
                rfl
               refine take_ (i := 18) (N := some 84) (v := ?_) (a' := ?_) #[Y, Y, Y, Y, Y, Y, Y, Y, Y, Y, Y, Y, Y, Y, Y, Y, Y, Y, Y, Z, Z, Z, Z, Z, Z, Z, Z, Z, Z, Z, Z, Z, Z, Z, Z, Z, Z, Z, Z, Z, Z, Z, Z, Z, Z, Z, Z, Z, Z, Z, Z, Z] rfl rfl (take_ofW HT_.out HW_.out (by kernel_rfl)) (fun _ _ _ h => h) (Or.inl ⟨by rfl, ?_⟩) hHeld ?_ ?_
               rotate_left
               ·
                rintro w' ⟨s0, s1, s2, s3, s4, s5, s6, s7, s8⟩
                go_simp
                with_reducible rfl
               rotate_left
               ·
                simp only [Act.put, List.setIfInBounds_toArray, List.set_cons_zero, List.set_cons_succ, i64_w, i32_w]
                rfl
               refine one_ (i := 19) (N := some 85) (upTo 20 32) rfl rfl (one_of HT_.out (by kernel_rfl)) (by decide) (fun K hK => ?_)
               refine goes_ Tryd.func35 (by kernel_rfl) rfl #[.string a0_0] (by rfl) rfl rfl (by (try simp only [List.map_toArray, List.map_cons, List.map_nil]); first | done | rfl | (simp only [List.length_drop, List.length_take]; rfl)) ?_
               with_reducible refine (impl_usual.calls a0_0 t170 _ A47.out).mono ?_
               rintro e w' ⟨rfl, ⟨nd, rfl⟩⟩
               refine ⟨_, rfl, ?_⟩
               refine hK.out _ _ (held9_ BK161.out) (fun hHeld => ?_)
               clear hK K
               refine norm_ (a' := ?_) ?_ ?_
               rotate_left
               ·
                show Act.put _ (some 85) _ = _
                simp only [Act.put, List.setIfInBounds_toArray, List.set_cons_zero, List.set_cons_succ, i64_w, i32_w]
                rfl
               refine toU_ (i := 20) (n := 32) (by kernel_rfl) ?_
               iterate 4 (refine pureU_ (v := ?_) (a' := ?_) HT_.out (by simp only [Nat.reduceAdd]; rfl) rfl rfl (by kernel_rfl) (fun _ _ _ h => h) (Or.inl ⟨by rfl, ?_⟩) ?_ ?_; rotate_left; (· (intro w'; go_simp; with_reducible rfl)); rotate_left; (· (simp only [Act.put, List.setIfInBounds_toArray, List.set_cons_zero, List.set_cons_succ, i64_w, i32_w]; rfl)))
               (refine takeU_ (v := ?_) (a' := ?_) HT_.out HW_.out (by simp only [Nat.reduceAdd]; rfl) rfl rfl (by kernel_rfl) (fun _ _ _ h => h) (Or.inl ⟨by rfl, ?_⟩) hHeld ?_ ?_; rotate_left; (· (rintro w' ⟨s0, s1, s2, s3, s4, s5, s6, s7, s8⟩; go_simp; with_reducible rfl)); rotate_left; (· (simp only [Act.put, List.setIfInBounds_toArray, List.set_cons_zero, List.set_cons_succ, i64_w, i32_w]; rfl)))
               refine one_ (i := 25) (N := some 91) (upTo 26 26) rfl rfl (one_of HT_.out (by kernel_rfl)) (by decide) (fun K hK => ?_)
               refine goes_ Tryd.func36 (by kernel_rfl) rfl #[.string a0_4, .string (⟨#[47]⟩ : ByteArray)] (by rfl) rfl rfl (by (try simp only [List.map_toArray, List.map_cons, List.map_nil]); first | done | rfl | (simp only [List.length_drop, List.length_take]; rfl)) ?_
               with_reducible refine (strings_HasPrefix.calls a0_4 (⟨#[47]⟩ : ByteArray) true _ A55.out).mono ?_
               rintro e w' ⟨rfl, ⟨nd, rfl⟩⟩
               refine ⟨_, rfl, ?_⟩
               refine hK.out _ _ (held9_ BK161.out) (fun hHeld => ?_)
               clear hK K
               refine norm_ (a' := ?_) ?_ ?_
               rotate_left
               ·
                show Act.put _ (some 91) _ = _
                simp only [Act.put, List.setIfInBounds_toArray, List.set_cons_zero, List.set_cons_succ, i64_w, i32_w]
                rfl
               refine toU_ (i := 26) (n := 26) (by kernel_rfl) ?_
               iterate 3 (refine pureU_ (v := ?_) (a' := ?_) HT_.out (by simp only [Nat.reduceAdd]; rfl) rfl rfl (by kernel_rfl) (fun _ _ _ h => h) (Or.inl ⟨by rfl, ?_⟩) ?_ ?_; rotate_left; (· (intro w'; go_simp; with_reducible rfl)); rotate_left; (· (simp only [Act.put, List.setIfInBounds_toArray, List.set_cons_zero, List.set_cons_succ, i64_w, i32_w]; rfl)))
               (refine takeU_ (v := ?_) (a' := ?_) HT_.out HW_.out (by simp only [Nat.reduceAdd]; rfl) rfl rfl (by kernel_rfl) (fun _ _ _ h => h) (Or.inl ⟨by rfl, ?_⟩) hHeld ?_ ?_; rotate_left; (· (rintro w' ⟨s0, s1, s2, s3, s4, s5, s6, s7, s8⟩; go_simp; with_reducible rfl)); rotate_left; (· (simp only [Act.put, List.setIfInBounds_toArray, List.set_cons_zero, List.set_cons_succ, i64_w, i32_w]; rfl)))
               refine one_ (i := 30) (N := some 96) (upTo 31 21) rfl rfl (one_of HT_.out (by kernel_rfl)) (by decide) (fun K hK => ?_)
               refine goes_ Tryd.func37 (by kernel_rfl) rfl #[.string a0_5, .string (⟨#[35]⟩ : ByteArray)] (by rfl) rfl rfl (by (try simp only [List.map_toArray, List.map_cons, List.map_nil]); first | done | rfl | (simp only [List.length_drop, List.length_take]; rfl)) ?_
               with_reducible refine (strings_Contains.calls a0_5 (⟨#[35]⟩ : ByteArray) false _ A57.out).mono ?_
               rintro e w' ⟨rfl, ⟨nd, rfl⟩⟩
               refine ⟨_, rfl, ?_⟩
               refine hK.out _ _ (held9_ BK161.out) (fun hHeld => ?_)
               clear hK K
               refine norm_ (a' := ?_) ?_ ?_
               rotate_left
               ·
                show Act.put _ (some 96) _ = _
                simp only [Act.put, List.setIfInBounds_toArray, List.set_cons_zero, List.set_cons_succ, i64_w, i32_w]
                rfl
               refine toU_ (i := 31) (n := 21) (by kernel_rfl) ?_
               iterate 4 (refine pureU_ (v := ?_) (a' := ?_) HT_.out (by simp only [Nat.reduceAdd]; rfl) rfl rfl (by kernel_rfl) (fun _ _ _ h => h) (Or.inl ⟨by rfl, ?_⟩) ?_ ?_; rotate_left; (· (intro w'; go_simp; with_reducible rfl)); rotate_left; (· (simp only [Act.put, List.setIfInBounds_toArray, List.set_cons_zero, List.set_cons_succ, i64_w, i32_w]; rfl)))
               (refine takeU_ (v := ?_) (a' := ?_) HT_.out HW_.out (by simp only [Nat.reduceAdd]; rfl) rfl rfl (by kernel_rfl) (fun _ _ _ h => h) (Or.inl ⟨by rfl, ?_⟩) hHeld ?_ ?_; rotate_left; (· (rintro w' ⟨s0, s1, s2, s3, s4, s5, s6, s7, s8⟩; go_simp; with_reducible rfl)); rotate_left; (· (simp only [Act.put, List.setIfInBounds_toArray, List.set_cons_zero, List.set_cons_succ, i64_w, i32_w]; rfl)))
               iterate 2 (refine pureU_ (v := ?_) (a' := ?_) HT_.out (by simp only [Nat.reduceAdd]; rfl) rfl rfl (by kernel_rfl) (fun _ _ _ h => h) (Or.inl ⟨by rfl, ?_⟩) ?_ ?_; rotate_left; (· (intro w'; go_simp; with_reducible rfl)); rotate_left; (· (simp only [Act.put, List.setIfInBounds_toArray, List.set_cons_zero, List.set_cons_succ, i64_w, i32_w]; rfl)))
               (refine takeU_ (v := ?_) (a' := ?_) HT_.out HW_.out (by simp only [Nat.reduceAdd]; rfl) rfl rfl (by kernel_rfl) (fun _ _ _ h => h) (Or.inl ⟨by rfl, ?_⟩) hHeld ?_ ?_; rotate_left; (· (rintro w' ⟨s0, s1, s2, s3, s4, s5, s6, s7, s8⟩; go_simp; with_reducible rfl)); rotate_left; (· (simp only [Act.put, List.setIfInBounds_toArray, List.set_cons_zero, List.set_cons_succ, i64_w, i32_w]; rfl)))
               iterate 5 (refine pureU_ (v := ?_) (a' := ?_) HT_.out (by simp only [Nat.reduceAdd]; rfl) rfl rfl (by kernel_rfl) (fun _ _ _ h => h) (Or.inl ⟨by rfl, ?_⟩) ?_ ?_; rotate_left; (· (intro w'; go_simp; with_reducible rfl)); rotate_left; (· (simp only [Act.put, List.setIfInBounds_toArray, List.set_cons_zero, List.set_cons_succ, i64_w, i32_w]; rfl)))
               (refine takeU_ (v := ?_) (a' := ?_) HT_.out HW_.out (by simp only [Nat.reduceAdd]; rfl) rfl rfl (by kernel_rfl) (fun _ _ _ h => h) (Or.inl ⟨by rfl, ?_⟩) hHeld ?_ ?_; rotate_left; (· (rintro w' ⟨s0, s1, s2, s3, s4, s5, s6, s7, s8⟩; go_simp; with_reducible rfl)); rotate_left; (· (simp only [Act.put, List.setIfInBounds_toArray, List.set_cons_zero, List.set_cons_succ, i64_w, i32_w]; rfl)))
               iterate 2 (refine pureU_ (v := ?_) (a' := ?_) HT_.out (by simp only [Nat.reduceAdd]; rfl) rfl rfl (by kernel_rfl) (fun _ _ _ h => h) (Or.inl ⟨by rfl, ?_⟩) ?_ ?_; rotate_left; (· (intro w'; go_simp; with_reducible rfl)); rotate_left; (· (simp only [Act.put, List.setIfInBounds_toArray, List.set_cons_zero, List.set_cons_succ, i64_w, i32_w]; rfl)))
               (refine takeU_ (v := ?_) (a' := ?_) HT_.out HW_.out (by simp only [Nat.reduceAdd]; rfl) rfl rfl (by kernel_rfl) (fun _ _ _ h => h) (Or.inl ⟨by rfl, ?_⟩) hHeld ?_ ?_; rotate_left; (· (rintro w' ⟨s0, s1, s2, s3, s4, s5, s6, s7, s8⟩; go_simp; with_reducible rfl)); rotate_left; (· (simp only [Act.put, List.setIfInBounds_toArray, List.set_cons_zero, List.set_cons_succ, i64_w, i32_w]; rfl)))
               iterate 4 (refine pureU_ (v := ?_) (a' := ?_) HT_.out (by simp only [Nat.reduceAdd]; rfl) rfl rfl (by kernel_rfl) (fun _ _ _ h => h) (Or.inl ⟨by rfl, ?_⟩) ?_ ?_; rotate_left; (· (intro w'; go_simp; with_reducible rfl)); rotate_left; (· (simp only [Act.put, List.setIfInBounds_toArray, List.set_cons_zero, List.set_cons_succ, i64_w, i32_w]; rfl)))
               refine done_ (done_of HT_.out (by kernel_rfl)) ?_
               try go_wp2
               go_ret
               exact ⟨by first | rfl | (simp [errW_none, errW_some] <;> rfl) | (simp [*, errW_none, errW_some] <;> rfl), by repeat (first | (with_reducible first | exact HB.out | apply below_alloc | apply pw_below_drewN | apply below_drew1 | refine below_set ?_ GE161.out) | exact HB.out)⟩
             ·
              rw [if_neg c79] at H
              have c79b0 : (a0_5.toList == ([] : List UInt8)) = false := beq_eq_false_iff_ne.mpr c79
              have c79b1 : (a0_5.toList != ([] : List UInt8)) = true := bne_iff_ne.mpr c79
              (try (have c79b2 : a0_5.toList.isEmpty = false := by simpa using c79))
              obtain rfl := Option.some.inj H
              have hcz93_0 : wc.cell? ⟨gb161, 0, none⟩ = some (.string a0_0) := (blk_cell BK161.out 0).trans rfl
              have hcz93_1 : wc.cell? ⟨gb161, 1, none⟩ = some (.string a0_1) := (blk_cell BK161.out 1).trans rfl
              have hcz93_2 : wc.cell? ⟨gb161, 2, none⟩ = some (.string a0_2) := (blk_cell BK161.out 2).trans rfl
              have hcz93_3 : wc.cell? ⟨gb161, 3, none⟩ = some (.int .i64 a0_3) := (blk_cell BK161.out 3).trans rfl
              have hcz93_4 : wc.cell? ⟨gb161, 4, none⟩ = some (.string a0_4) := (blk_cell BK161.out 4).trans rfl
              have hcz93_5 : wc.cell? ⟨gb161, 5, none⟩ = some (.string a0_5) := (blk_cell BK161.out 5).trans rfl
              have hcz93_6 : wc.cell? ⟨gb161, 6, none⟩ = some (.string a0_6) := (blk_cell BK161.out 6).trans rfl
              have hcz93_7 : wc.cell? ⟨gb161, 7, none⟩ = some (.bool false) := (blk_cell BK161.out 7).trans rfl
              have hcz93_8 : wc.cell? ⟨gb161, 8, none⟩ = some (.bool a0_8) := (blk_cell BK161.out 8).trans rfl
              have hfz93_0 := blk_frozen BK161.out 0
              have hfz93_1 := blk_frozen BK161.out 1
              have hfz93_2 := blk_frozen BK161.out 2
              have hfz93_3 := blk_frozen BK161.out 3
              have hfz93_4 := blk_frozen BK161.out 4
              have hfz93_5 := blk_frozen BK161.out 5
              have hfz93_6 := blk_frozen BK161.out 6
              have hfz93_7 := blk_frozen BK161.out 7
              have hfz93_8 := blk_frozen BK161.out 8
              try go_wp2_with (first | ((with_reducible refine gate_callee (f := 31) rfl ?_); refine goesL_ (some 55) rfl rfl Tryd.func31 (by kernel_rfl) rfl #[.string a0_4, .string (⟨#[63, 35]⟩ : ByteArray)] rfl (by (try simp only [List.map_toArray, List.map_cons, List.map_nil]); first | done | rfl | (simp only [List.length_drop, List.length_take]; rfl)) ?_; (with_reducible refine (strings_ContainsAny.calls a0_4 (⟨#[63, 35]⟩ : ByteArray) false _ A29.out).mono ?_); rintro e w94 ⟨rfl, hb⟩; refine ⟨_, rfl, ?_⟩; have n0_ := Aside0.mk (blk_below (g := gb161) (o := .cells #[.string a0_0, .string a0_1, .string a0_2, .int .i64 a0_3, .string a0_4, .string a0_5, .string a0_6, .bool false, .bool a0_8] 26 (0, 0)) (by (with_reducible repeat (first | refine blk_drewN ?_ _ | refine blk_drew ?_ | refine blk_alloc ?_ _)); exact BK161.out) hb); have n1_ := Aside0.mk (below_step (by repeat (first | (with_reducible first | exact HB.out | apply below_alloc | apply pw_below_drewN | apply below_drew1 | refine below_set ?_ GE161.out) | exact HB.out)) hb); clear BK161; clear HB; have BK161 := n0_; have HB := n1_; clear n0_ n1_; (try clear hb); (try clear hb2); (try clear hk); (try clear hi); have hcz95_0 : w94.cell? ⟨gb161, 0, none⟩ = some (.string a0_0) := (blk_cell BK161.out 0).trans rfl; have hcz95_1 : w94.cell? ⟨gb161, 1, none⟩ = some (.string a0_1) := (blk_cell BK161.out 1).trans rfl; have hcz95_2 : w94.cell? ⟨gb161, 2, none⟩ = some (.string a0_2) := (blk_cell BK161.out 2).trans rfl; have hcz95_3 : w94.cell? ⟨gb161, 3, none⟩ = some (.int .i64 a0_3) := (blk_cell BK161.out 3).trans rfl; have hcz95_4 : w94.cell? ⟨gb161, 4, none⟩ = some (.string a0_4) := (blk_cell BK161.out 4).trans rfl; have hcz95_5 : w94.cell? ⟨gb161, 5, none⟩ = some (.string a0_5) := (blk_cell BK161.out 5).trans rfl; have hcz95_6 : w94.cell? ⟨gb161, 6, none⟩ = some (.string a0_6) := (blk_cell BK161.out 6).trans rfl; have hcz95_7 : w94.cell? ⟨gb161, 7, none⟩ = some (.bool false) := (blk_cell BK161.out 7).trans rfl; have hcz95_8 : w94.cell? ⟨gb161, 8, none⟩ = some (.bool a0_8) := (blk_cell BK161.out 8).trans rfl; have hfz95_0 := blk_frozen BK161.out 0; have hfz95_1 := blk_frozen BK161.out 1; have hfz95_2 := blk_frozen BK161.out 2; have hfz95_3 := blk_frozen BK161.out 3; have hfz95_4 := blk_frozen BK161.out 4; have hfz95_5 := blk_frozen BK161.out 5; have hfz95_6 := blk_frozen BK161.out 6; have hfz95_7 := blk_frozen BK161.out 7; have hfz95_8 := blk_frozen BK161.out 8) | ((with_reducible refine gate_callee (f := 32) rfl ?_); refine goesL_ (some 57) rfl rfl Tryd.func32 (by kernel_rfl) rfl #[.agg #[.string a0_0, .string a0_1, .string a0_2, .int .i64 a0_3, .string a0_4, .string a0_5, .string a0_6, .bool false, .bool a0_8]] rfl (by (try simp only [List.map_toArray, List.map_cons, List.map_nil]); first | done | rfl | (simp only [List.length_drop, List.length_take]; rfl)) ?_; (with_reducible refine (impl_Url_web.calls a0_0 a0_1 a0_2 a0_3 a0_4 a0_5 a0_6 false a0_8 true _ A33.out).mono ?_); rintro e w96 ⟨rfl, hb⟩; refine ⟨_, rfl, ?_⟩; have n0_ := Aside0.mk (blk_below (g := gb161) (o := .cells #[.string a0_0, .string a0_1, .string a0_2, .int .i64 a0_3, .string a0_4, .string a0_5, .string a0_6, .bool false, .bool a0_8] 26 (0, 0)) (by (with_reducible repeat (first | refine blk_drewN ?_ _ | refine blk_drew ?_ | refine blk_alloc ?_ _)); exact BK161.out) hb); have n1_ := Aside0.mk (below_step (by repeat (first | (with_reducible first | exact HB.out | apply below_alloc | apply pw_below_drewN | apply below_drew1 | refine below_set ?_ GE161.out) | exact HB.out)) hb); clear BK161; clear HB; have BK161 := n0_; have HB := n1_; clear n0_ n1_; (try clear hb); (try clear hb2); (try clear hk); (try clear hi)))
              have n0_ := Aside0.mk (blk_drew BK161.out)
              have n1_ := Aside0.mk (below_drew1 HB.out)
              clear BK161
              clear HB
              have BK161 := n0_
              have HB := n1_
              clear n0_ n1_
              refine start_ (n := 52) (S := fun w' => w'.cell? ⟨gb161, 0, none⟩ = some (.string a0_0) ∧ w'.cell? ⟨gb161, 1, none⟩ = some (.string a0_1) ∧ w'.cell? ⟨gb161, 2, none⟩ = some (.string a0_2) ∧ w'.cell? ⟨gb161, 3, none⟩ = some (.int .i64 a0_3) ∧ w'.cell? ⟨gb161, 4, none⟩ = some (.string a0_4) ∧ w'.cell? ⟨gb161, 5, none⟩ = some (.string a0_5) ∧ w'.cell? ⟨gb161, 6, none⟩ = some (.string a0_6) ∧ w'.cell? ⟨gb161, 7, none⟩ = some (.bool false) ∧ w'.cell? ⟨gb161, 8, none⟩ = some (.bool a0_8)) (ds := []) #[Z, Z, Z, Z, Z, Z, Z, Z, Z, Z, Z, Z, Z, Z, Z, Z, Z, Z, Z, Z, Z, Z, Z, Z, Z, Z, Z, Z, Z, Z, Z, Z, Z, Z, Z, Z, Z, Z, Z, Z, Z, Z, Z, Z, Z, Z, Z, Z, Z, Z, Z, Z] (by kernel_rfl) rfl rfl (held9_ BK161.out) (fun hHeld => ?_); refine with_tabW impl_UrlOK.tab7 impl_UrlOK.bits7 (fun HT_ HW_ => ?_)
              generalize w96.drew = w97 at BK161 HB hHeld ⊢
              refine toU_ (i := 0) (n := 52) (by kernel_rfl) ?_
              (refine pureU_ (v := ?_) (a' := ?_) HT_.out (by simp only [Nat.reduceAdd]; rfl) rfl rfl (by kernel_rfl) (fun _ _ _ h => h) (Or.inl ⟨by rfl, ?_⟩) ?_ ?_; rotate_left; (· (intro w'; go_simp; with_reducible rfl)); rotate_left; (· (simp only [Act.put, List.setIfInBounds_toArray, List.set_cons_zero, List.set_cons_succ, i64_w, i32_w]; rfl)))
              (refine takeU_ (v := ?_) (a' := ?_) HT_.out HW_.out (by simp only [Nat.reduceAdd]; rfl) rfl rfl (by kernel_rfl) (fun _ _ _ h => h) (Or.inl ⟨by rfl, ?_⟩) hHeld ?_ ?_; rotate_left; (· (rintro w' ⟨s0, s1, s2, s3, s4, s5, s6, s7, s8⟩; go_simp; with_reducible rfl)); rotate_left; (· (simp only [Act.put, List.setIfInBounds_toArray, List.set_cons_zero, List.set_cons_succ, i64_w, i32_w]; rfl)))
              refine one_ (i := 2) (N := some 68) (upTo 3 49) rfl rfl (one_of HT_.out (by kernel_rfl)) (by decide) (fun K hK => ?_)
              refine goes_ Tryd.func31 (by kernel_rfl) rfl #[.string a0_1, .string (⟨#[47, 63, 35, 64]⟩ : ByteArray)] (by rfl) rfl rfl (by (try simp only [List.map_toArray, List.map_cons, List.map_nil]); first | done | rfl | (simp only [List.length_drop, List.length_take]; rfl)) ?_
              with_reducible refine (strings_ContainsAny.calls a0_1 (⟨#[47, 63, 35, 64]⟩ : ByteArray) false _ A35.out).mono ?_
              rintro e w98 ⟨rfl, hb⟩
              refine ⟨_, rfl, ?_⟩
              have n0_ := Aside0.mk (blk_below (g := gb161) (o := .cells #[.string a0_0, .string a0_1, .string a0_2, .int .i64 a0_3, .string a0_4, .string a0_5, .string a0_6, .bool false, .bool a0_8] 26 (0, 0)) (by (with_reducible repeat (first | refine blk_drewN ?_ _ | refine blk_drew ?_ | refine blk_alloc ?_ _)); exact BK161.out) hb)
              have n1_ := Aside0.mk (below_step (by repeat (first | (with_reducible first | exact HB.out | apply below_alloc | apply pw_below_drewN | apply below_drew1 | refine below_set ?_ GE161.out) | exact HB.out)) hb)
              clear BK161
              clear HB
              have BK161 := n0_
              have HB := n1_
              clear n0_ n1_
              (try clear hb)
              (try clear hb2)
              (try clear hk)
              (try clear hi)
              refine hK.out _ _ (held9_ BK161.out) (fun hHeld => ?_)
              clear hK K
              refine norm_ (a' := ?_) ?_ ?_
              rotate_left
              ·
               show Act.put _ (some 68) _ = _
               simp only [Act.put, List.setIfInBounds_toArray, List.set_cons_zero, List.set_cons_succ, i64_w, i32_w]
               rfl
              refine toU_ (i := 3) (n := 49) (by kernel_rfl) ?_
              iterate 3 (refine pureU_ (v := ?_) (a' := ?_) HT_.out (by simp only [Nat.reduceAdd]; rfl) rfl rfl (by kernel_rfl) (fun _ _ _ h => h) (Or.inl ⟨by rfl, ?_⟩) ?_ ?_; rotate_left; (· (intro w'; go_simp; with_reducible rfl)); rotate_left; (· (simp only [Act.put, List.setIfInBounds_toArray, List.set_cons_zero, List.set_cons_succ, i64_w, i32_w]; rfl)))
              (refine takeU_ (v := ?_) (a' := ?_) HT_.out HW_.out (by simp only [Nat.reduceAdd]; rfl) rfl rfl (by kernel_rfl) (fun _ _ _ h => h) (Or.inl ⟨by rfl, ?_⟩) hHeld ?_ ?_; rotate_left; (· (rintro w' ⟨s0, s1, s2, s3, s4, s5, s6, s7, s8⟩; go_simp; with_reducible rfl)); rotate_left; (· (simp only [Act.put, List.setIfInBounds_toArray, List.set_cons_zero, List.set_cons_succ, i64_w, i32_w]; rfl)))
              refine one_ (i := 7) (N := some 73) (upTo 8 44) rfl rfl (one_of HT_.out (by kernel_rfl)) (by decide) (fun K hK => ?_)
              refine goes_ Tryd.func33 (by kernel_rfl) rfl #[.string a0_2] (by rfl) rfl rfl (by (try simp only [List.map_toArray, List.map_cons, List.map_nil]); first | done | rfl | (simp only [List.length_drop, List.length_take]; rfl)) ?_
              with_reducible refine (impl_isHost.calls kj1 a0_2 true _ A43.out).mono ?_
              rintro e w' ⟨rfl, ⟨nd, rfl⟩⟩
              refine ⟨_, rfl, ?_⟩
              refine hK.out _ _ (held9_ BK161.out) (fun hHeld => ?_)
              clear hK K
              refine norm_ (a' := ?_) ?_ ?_
              rotate_left
              ·
               show Act.put _ (some 73) _ = _
               simp only [Act.put, List.setIfInBounds_toArray, List.set_cons_zero, List.set_cons_succ, i64_w, i32_w]
               rfl
              refine toU_ (i := 8) (n := 44) (by kernel_rfl) ?_
              iterate 3 (refine pureU_ (v := ?_) (a' := ?_) HT_.out (by simp only [Nat.reduceAdd]; rfl) rfl rfl (by kernel_rfl) (fun _ _ _ h => h) (Or.inl ⟨by rfl, ?_⟩) ?_ ?_; rotate_left; (· (intro w'; go_simp; with_reducible rfl)); rotate_left; (· (simp only [Act.put, List.setIfInBounds_toArray, List.set_cons_zero, List.set_cons_succ, i64_w, i32_w]; rfl)))
              (refine takeU_ (v := ?_) (a' := ?_) HT_.out HW_.out (by simp only [Nat.reduceAdd]; rfl) rfl rfl (by kernel_rfl) (fun _ _ _ h => h) (Or.inl ⟨by rfl, ?_⟩) hHeld ?_ ?_; rotate_left; (· (rintro w' ⟨s0, s1, s2, s3, s4, s5, s6, s7, s8⟩; go_simp; with_reducible rfl)); rotate_left; (· (simp only [Act.put, List.setIfInBounds_toArray, List.set_cons_zero, List.set_cons_succ, i64_w, i32_w]; rfl)))
              refine one_ (i := 12) (N := some 78) (upTo 13 39) rfl rfl (one_of HT_.out (by kernel_rfl)) (by decide) (fun K hK => ?_)
              refine goes_ Tryd.func34 (by kernel_rfl) rfl #[.int .i64 a0_3, .int .i64 0, .int .i64 65535] (by rfl) rfl rfl (by (try simp only [List.map_toArray, List.map_cons, List.map_nil]); first | done | rfl | (simp only [List.length_drop, List.length_take]; rfl)) ?_
              with_reducible refine (impl_within.calls a0_3 0 65535 true _ A45.out).mono ?_
              rintro e w' ⟨rfl, ⟨nd, rfl⟩⟩
              refine ⟨_, rfl, ?_⟩
              refine hK.out _ _ (held9_ BK161.out) (fun hHeld => ?_)
              clear hK K
              refine norm_ (a' := ?_) ?_ ?_
              rotate_left
              ·
               show Act.put _ (some 78) _ = _
               simp only [Act.put, List.setIfInBounds_toArray, List.set_cons_zero, List.set_cons_succ, i64_w, i32_w]
               rfl
              refine toU_ (i := 13) (n := 39) (by kernel_rfl) ?_
              iterate 3 (refine pureU_ (v := ?_) (a' := ?_) HT_.out (by simp only [Nat.reduceAdd]; rfl) rfl rfl (by kernel_rfl) (fun _ _ _ h => h) (Or.inl ⟨by rfl, ?_⟩) ?_ ?_; rotate_left; (· (intro w'; go_simp; with_reducible rfl)); rotate_left; (· (simp only [Act.put, List.setIfInBounds_toArray, List.set_cons_zero, List.set_cons_succ, i64_w, i32_w]; rfl)))
              refine pure_ (i := 17) (N := some 83) (v := ?_) (a' := ?_) #[Y, Y, Y, Y, Y, Y, Y, Y, Y, Y, Y, Y, Y, Y, Y, Y, Z, Y, Z, Z, Z, Z, Z, Z, Z, Z, Z, Z, Z, Z, Z, Z, Z, Z, Z, Z, Z, Z, Z, Z, Z, Z, Z, Z, Z, Z, Z, Z, Z, Z, Z, Z] rfl rfl (any_of HT_.out (by kernel_rfl)) (fun _ _ _ h => h) (Or.inl ⟨by rfl, ?_⟩) ?_ ?_
              rotate_left
              ·
               intro w'
               go_simp
               with_reducible rfl
              rotate_left
              ·
               simp only [Act.put, List.setIfInBounds_toArray, List.set_cons_zero, List.set_cons_succ, i64_w, i32_w]
               rfl
              refine take_ (i := 16) (N := some 82) (v := ?_) (a' := ?_) #[Y, Y, Y, Y, Y, Y, Y, Y, Y, Y, Y, Y, Y, Y, Y, Y, Y, Y, Z, Z, Z, Z, Z, Z, Z, Z, Z, Z, Z, Z, Z, Z, Z, Z, Z, Z, Z, Z, Z, Z, Z, Z, Z, Z, Z, Z, Z, Z, Z, Z, Z, Z] rfl rfl (take_ofW HT_.out HW_.out (by kernel_rfl)) (fun _ _ _ h => h) (Or.inl ⟨by rfl, ?_⟩) hHeld ?_ ?_
              rotate_left
              ·
               rintro w' ⟨s0, s1, s2, s3, s4, s5, s6, s7, s8⟩
               go_simp
               with_reducible rfl
              rotate_left
              ·
               simp only [Act.put, List.setIfInBounds_toArray, List.set_cons_zero, List.set_cons_succ, i64_w, i32_w]
               rfl
              refine take_ (i := 18) (N := some 84) (v := ?_) (a' := ?_) #[Y, Y, Y, Y, Y, Y, Y, Y, Y, Y, Y, Y, Y, Y, Y, Y, Y, Y, Y, Z, Z, Z, Z, Z, Z, Z, Z, Z, Z, Z, Z, Z, Z, Z, Z, Z, Z, Z, Z, Z, Z, Z, Z, Z, Z, Z, Z, Z, Z, Z, Z, Z] rfl rfl (take_ofW HT_.out HW_.out (by kernel_rfl)) (fun _ _ _ h => h) (Or.inl ⟨by rfl, ?_⟩) hHeld ?_ ?_
              rotate_left
              ·
               rintro w' ⟨s0, s1, s2, s3, s4, s5, s6, s7, s8⟩
               go_simp
               with_reducible rfl
              rotate_left
              ·
               simp only [Act.put, List.setIfInBounds_toArray, List.set_cons_zero, List.set_cons_succ, i64_w, i32_w]
               rfl
              refine one_ (i := 19) (N := some 85) (upTo 20 32) rfl rfl (one_of HT_.out (by kernel_rfl)) (by decide) (fun K hK => ?_)
              refine goes_ Tryd.func35 (by kernel_rfl) rfl #[.string a0_0] (by rfl) rfl rfl (by (try simp only [List.map_toArray, List.map_cons, List.map_nil]); first | done | rfl | (simp only [List.length_drop, List.length_take]; rfl)) ?_
              with_reducible refine (impl_usual.calls a0_0 t170 _ A47.out).mono ?_
              rintro e w' ⟨rfl, ⟨nd, rfl⟩⟩
              refine ⟨_, rfl, ?_⟩
              refine hK.out _ _ (held9_ BK161.out) (fun hHeld => ?_)
              clear hK K
              refine norm_ (a' := ?_) ?_ ?_
              rotate_left
              ·
               show Act.put _ (some 85) _ = _
               simp only [Act.put, List.setIfInBounds_toArray, List.set_cons_zero, List.set_cons_succ, i64_w, i32_w]
               rfl
              refine toU_ (i := 20) (n := 32) (by kernel_rfl) ?_
              iterate 4 (refine pureU_ (v := ?_) (a' := ?_) HT_.out (by simp only [Nat.reduceAdd]; rfl) rfl rfl (by kernel_rfl) (fun _ _ _ h => h) (Or.inl ⟨by rfl, ?_⟩) ?_ ?_; rotate_left; (· (intro w'; go_simp; with_reducible rfl)); rotate_left; (· (simp only [Act.put, List.setIfInBounds_toArray, List.set_cons_zero, List.set_cons_succ, i64_w, i32_w]; rfl)))
              (refine takeU_ (v := ?_) (a' := ?_) HT_.out HW_.out (by simp only [Nat.reduceAdd]; rfl) rfl rfl (by kernel_rfl) (fun _ _ _ h => h) (Or.inl ⟨by rfl, ?_⟩) hHeld ?_ ?_; rotate_left; (· (rintro w' ⟨s0, s1, s2, s3, s4, s5, s6, s7, s8⟩; go_simp; with_reducible rfl)); rotate_left; (· (simp only [Act.put, List.setIfInBounds_toArray, List.set_cons_zero, List.set_cons_succ, i64_w, i32_w]; rfl)))
              refine one_ (i := 25) (N := some 91) (upTo 26 26) rfl rfl (one_of HT_.out (by kernel_rfl)) (by decide) (fun K hK => ?_)
              refine goes_ Tryd.func36 (by kernel_rfl) rfl #[.string a0_4, .string (⟨#[47]⟩ : ByteArray)] (by rfl) rfl rfl (by (try simp only [List.map_toArray, List.map_cons, List.map_nil]); first | done | rfl | (simp only [List.length_drop, List.length_take]; rfl)) ?_
              with_reducible refine (strings_HasPrefix.calls a0_4 (⟨#[47]⟩ : ByteArray) true _ A55.out).mono ?_
              rintro e w' ⟨rfl, ⟨nd, rfl⟩⟩
              refine ⟨_, rfl, ?_⟩
              refine hK.out _ _ (held9_ BK161.out) (fun hHeld => ?_)
              clear hK K
              refine norm_ (a' := ?_) ?_ ?_
              rotate_left
              ·
               show Act.put _ (some 91) _ = _
               simp only [Act.put, List.setIfInBounds_toArray, List.set_cons_zero, List.set_cons_succ, i64_w, i32_w]
               rfl
              refine toU_ (i := 26) (n := 26) (by kernel_rfl) ?_
              iterate 3 (refine pureU_ (v := ?_) (a' := ?_) HT_.out (by simp only [Nat.reduceAdd]; rfl) rfl rfl (by kernel_rfl) (fun _ _ _ h => h) (Or.inl ⟨by rfl, ?_⟩) ?_ ?_; rotate_left; (· (intro w'; go_simp; with_reducible rfl)); rotate_left; (· (simp only [Act.put, List.setIfInBounds_toArray, List.set_cons_zero, List.set_cons_succ, i64_w, i32_w]; rfl)))
              (refine takeU_ (v := ?_) (a' := ?_) HT_.out HW_.out (by simp only [Nat.reduceAdd]; rfl) rfl rfl (by kernel_rfl) (fun _ _ _ h => h) (Or.inl ⟨by rfl, ?_⟩) hHeld ?_ ?_; rotate_left; (· (rintro w' ⟨s0, s1, s2, s3, s4, s5, s6, s7, s8⟩; go_simp; with_reducible rfl)); rotate_left; (· (simp only [Act.put, List.setIfInBounds_toArray, List.set_cons_zero, List.set_cons_succ, i64_w, i32_w]; rfl)))
              refine one_ (i := 30) (N := some 96) (upTo 31 21) rfl rfl (one_of HT_.out (by kernel_rfl)) (by decide) (fun K hK => ?_)
              refine goes_ Tryd.func37 (by kernel_rfl) rfl #[.string a0_5, .string (⟨#[35]⟩ : ByteArray)] (by rfl) rfl rfl (by (try simp only [List.map_toArray, List.map_cons, List.map_nil]); first | done | rfl | (simp only [List.length_drop, List.length_take]; rfl)) ?_
              with_reducible refine (strings_Contains.calls a0_5 (⟨#[35]⟩ : ByteArray) false _ A57.out).mono ?_
              rintro e w' ⟨rfl, ⟨nd, rfl⟩⟩
              refine ⟨_, rfl, ?_⟩
              refine hK.out _ _ (held9_ BK161.out) (fun hHeld => ?_)
              clear hK K
              refine norm_ (a' := ?_) ?_ ?_
              rotate_left
              ·
               show Act.put _ (some 96) _ = _
               simp only [Act.put, List.setIfInBounds_toArray, List.set_cons_zero, List.set_cons_succ, i64_w, i32_w]
               rfl
              refine toU_ (i := 31) (n := 21) (by kernel_rfl) ?_
              iterate 4 (refine pureU_ (v := ?_) (a' := ?_) HT_.out (by simp only [Nat.reduceAdd]; rfl) rfl rfl (by kernel_rfl) (fun _ _ _ h => h) (Or.inl ⟨by rfl, ?_⟩) ?_ ?_; rotate_left; (· (intro w'; go_simp; with_reducible rfl)); rotate_left; (· (simp only [Act.put, List.setIfInBounds_toArray, List.set_cons_zero, List.set_cons_succ, i64_w, i32_w]; rfl)))
              (refine takeU_ (v := ?_) (a' := ?_) HT_.out HW_.out (by simp only [Nat.reduceAdd]; rfl) rfl rfl (by kernel_rfl) (fun _ _ _ h => h) (Or.inl ⟨by rfl, ?_⟩) hHeld ?_ ?_; rotate_left; (· (rintro w' ⟨s0, s1, s2, s3, s4, s5, s6, s7, s8⟩; go_simp; with_reducible rfl)); rotate_left; (· (simp only [Act.put, List.setIfInBounds_toArray, List.set_cons_zero, List.set_cons_succ, i64_w, i32_w]; rfl)))
              iterate 2 (refine pureU_ (v := ?_) (a' := ?_) HT_.out (by simp only [Nat.reduceAdd]; rfl) rfl rfl (by kernel_rfl) (fun _ _ _ h => h) (Or.inl ⟨by rfl, ?_⟩) ?_ ?_; rotate_left; (· (intro w'; go_simp; with_reducible rfl)); rotate_left; (· (simp only [Act.put, List.setIfInBounds_toArray, List.set_cons_zero, List.set_cons_succ, i64_w, i32_w]; rfl)))
              (refine takeU_ (v := ?_) (a' := ?_) HT_.out HW_.out (by simp only [Nat.reduceAdd]; rfl) rfl rfl (by kernel_rfl) (fun _ _ _ h => h) (Or.inl ⟨by rfl, ?_⟩) hHeld ?_ ?_; rotate_left; (· (rintro w' ⟨s0, s1, s2, s3, s4, s5, s6, s7, s8⟩; go_simp; with_reducible rfl)); rotate_left; (· (simp only [Act.put, List.setIfInBounds_toArray, List.set_cons_zero, List.set_cons_succ, i64_w, i32_w]; rfl)))
              iterate 4 (refine pureU_ (v := ?_) (a' := ?_) HT_.out (by simp only [Nat.reduceAdd]; rfl) rfl rfl (by kernel_rfl) (fun _ _ _ h => h) (Or.inl ⟨by rfl, ?_⟩) ?_ ?_; rotate_left; (· (intro w'; go_simp; with_reducible rfl)); rotate_left; (· (simp only [Act.put, List.setIfInBounds_toArray, List.set_cons_zero, List.set_cons_succ, i64_w, i32_w]; rfl)))
              iterate 7 (refine skipU_ (a' := ?_) HT_.out (by simp only [Nat.reduceAdd]; rfl) rfl rfl (by kernel_rfl) (fun _ _ _ h => h) (by rfl) ?_ ?_; rotate_left; (· (simp only [Act.put, List.setIfInBounds_toArray, List.set_cons_zero, List.set_cons_succ, i64_w, i32_w]; rfl)))
              iterate 2 (refine pureU_ (v := ?_) (a' := ?_) HT_.out (by simp only [Nat.reduceAdd]; rfl) rfl rfl (by kernel_rfl) (fun _ _ _ h => h) (Or.inl ⟨by rfl, ?_⟩) ?_ ?_; rotate_left; (· (intro w'; go_simp; with_reducible rfl)); rotate_left; (· (simp only [Act.put, List.setIfInBounds_toArray, List.set_cons_zero, List.set_cons_succ, i64_w, i32_w]; rfl)))
              refine done_ (done_of HT_.out (by kernel_rfl)) ?_
              try go_wp2
              go_ret
              exact ⟨by first | rfl | (simp [errW_none, errW_some] <;> rfl) | (simp [*, errW_none, errW_some] <;> rfl), by repeat (first | (with_reducible first | exact HB.out | apply below_alloc | apply pw_below_drewN | apply below_drew1 | refine below_set ?_ GE161.out) | exact HB.out)⟩
          ·
           replace c56 := Bool.eq_false_iff.mpr c56
           subst c56
           have H1 : (some false) = some r := by rw [if_neg (show ¬ (false = true) by decide)] at H; exact H
           clear H
           have H := H1
           clear H1
           obtain rfl := Option.some.inj H
           have hcz99_0 : wc.cell? ⟨gb161, 0, none⟩ = some (.string a0_0) := (blk_cell BK161.out 0).trans rfl
           have hcz99_1 : wc.cell? ⟨gb161, 1, none⟩ = some (.string a0_1) := (blk_cell BK161.out 1).trans rfl
           have hcz99_2 : wc.cell? ⟨gb161, 2, none⟩ = some (.string a0_2) := (blk_cell BK161.out 2).trans rfl
           have hcz99_3 : wc.cell? ⟨gb161, 3, none⟩ = some (.int .i64 a0_3) := (blk_cell BK161.out 3).trans rfl
           have hcz99_4 : wc.cell? ⟨gb161, 4, none⟩ = some (.string a0_4) := (blk_cell BK161.out 4).trans rfl
           have hcz99_5 : wc.cell? ⟨gb161, 5, none⟩ = some (.string a0_5) := (blk_cell BK161.out 5).trans rfl
           have hcz99_6 : wc.cell? ⟨gb161, 6, none⟩ = some (.string a0_6) := (blk_cell BK161.out 6).trans rfl
           have hcz99_7 : wc.cell? ⟨gb161, 7, none⟩ = some (.bool a0_7) := (blk_cell BK161.out 7).trans rfl
           have hcz99_8 : wc.cell? ⟨gb161, 8, none⟩ = some (.bool a0_8) := (blk_cell BK161.out 8).trans rfl
           have hfz99_0 := blk_frozen BK161.out 0
           have hfz99_1 := blk_frozen BK161.out 1
           have hfz99_2 := blk_frozen BK161.out 2
           have hfz99_3 := blk_frozen BK161.out 3
           have hfz99_4 := blk_frozen BK161.out 4
           have hfz99_5 := blk_frozen BK161.out 5
           have hfz99_6 := blk_frozen BK161.out 6
           have hfz99_7 := blk_frozen BK161.out 7
           have hfz99_8 := blk_frozen BK161.out 8
           try go_wp2_with (first | ((with_reducible refine gate_callee (f := 31) rfl ?_); refine goesL_ (some 55) rfl rfl Tryd.func31 (by kernel_rfl) rfl #[.string a0_4, .string (⟨#[63, 35]⟩ : ByteArray)] rfl (by (try simp only [List.map_toArray, List.map_cons, List.map_nil]); first | done | rfl | (simp only [List.length_drop, List.length_take]; rfl)) ?_; (with_reducible refine (strings_ContainsAny.calls a0_4 (⟨#[63, 35]⟩ : ByteArray) false _ A29.out).mono ?_); rintro e w100 ⟨rfl, hb⟩; refine ⟨_, rfl, ?_⟩; have n0_ := Aside0.mk (blk_below (g := gb161) (o := .cells #[.string a0_0, .string a0_1, .string a0_2, .int .i64 a0_3, .string a0_4, .string a0_5, .string a0_6, .bool a0_7, .bool a0_8] 26 (0, 0)) (by (with_reducible repeat (first | refine blk_drewN ?_ _ | refine blk_drew ?_ | refine blk_alloc ?_ _)); exact BK161.out) hb); have n1_ := Aside0.mk (below_step (by repeat (first | (with_reducible first | exact HB.out | apply below_alloc | apply pw_below_drewN | apply below_drew1 | refine below_set ?_ GE161.out) | exact HB.out)) hb); clear BK161; clear HB; have BK161 := n0_; have HB := n1_; clear n0_ n1_; (try clear hb); (try clear hb2); (try clear hk); (try clear hi); have hcz101_0 : w100.cell? ⟨gb161, 0, none⟩ = some (.string a0_0) := (blk_cell BK161.out 0).trans rfl; have hcz101_1 : w100.cell? ⟨gb161, 1, none⟩ = some (.string a0_1) := (blk_cell BK161.out 1).trans rfl; have hcz101_2 : w100.cell? ⟨gb161, 2, none⟩ = some (.string a0_2) := (blk_cell BK161.out 2).trans rfl; have hcz101_3 : w100.cell? ⟨gb161, 3, none⟩ = some (.int .i64 a0_3) := (blk_cell BK161.out 3).trans rfl; have hcz101_4 : w100.cell? ⟨gb161, 4, none⟩ = some (.string a0_4) := (blk_cell BK161.out 4).trans rfl; have hcz101_5 : w100.cell? ⟨gb161, 5, none⟩ = some (.string a0_5) := (blk_cell BK161.out 5).trans rfl; have hcz101_6 : w100.cell? ⟨gb161, 6, none⟩ = some (.string a0_6) := (blk_cell BK161.out 6).trans rfl; have hcz101_7 : w100.cell? ⟨gb161, 7, none⟩ = some (.bool a0_7) := (blk_cell BK161.out 7).trans rfl; have hcz101_8 : w100.cell? ⟨gb161, 8, none⟩ = some (.bool a0_8) := (blk_cell BK161.out 8).trans rfl; have hfz101_0 := blk_frozen BK161.out 0; have hfz101_1 := blk_frozen BK161.out 1; have hfz101_2 := blk_frozen BK161.out 2; have hfz101_3 := blk_frozen BK161.out 3; have hfz101_4 := blk_frozen BK161.out 4; have hfz101_5 := blk_frozen BK161.out 5; have hfz101_6 := blk_frozen BK161.out 6; have hfz101_7 := blk_frozen BK161.out 7; have hfz101_8 := blk_frozen BK161.out 8) | ((with_reducible refine gate_callee (f := 32) rfl ?_); refine goesL_ (some 57) rfl rfl Tryd.func32 (by kernel_rfl) rfl #[.agg #[.string a0_0, .string a0_1, .string a0_2, .int .i64 a0_3, .string a0_4, .string a0_5, .string a0_6, .bool a0_7, .bool a0_8]] rfl (by (try simp only [List.map_toArray, List.map_cons, List.map_nil]); first | done | rfl | (simp only [List.length_drop, List.length_take]; rfl)) ?_; (with_reducible refine (impl_Url_web.calls a0_0 a0_1 a0_2 a0_3 a0_4 a0_5 a0_6 a0_7 a0_8 true _ A33.out).mono ?_); rintro e w102 ⟨rfl, hb⟩; refine ⟨_, rfl, ?_⟩; have n0_ := Aside0.mk (blk_below (g := gb161) (o := .cells #[.string a0_0, .string a0_1, .string a0_2, .int .i64 a0_3, .string a0_4, .string a0_5, .string a0_6, .bool a0_7, .bool a0_8] 26 (0, 0)) (by (with_reducible repeat (first | refine blk_drewN ?_ _ | refine blk_drew ?_ | refine blk_alloc ?_ _)); exact BK161.out) hb); have n1_ := Aside0.mk (below_step (by repeat (first | (with_reducible first | exact HB.out | apply below_alloc | apply pw_below_drewN | apply below_drew1 | refine below_set ?_ GE161.out) | exact HB.out)) hb); clear BK161; clear HB; have BK161 := n0_; have HB := n1_; clear n0_ n1_; (try clear hb); (try clear hb2); (try clear hk); (try clear hi)))
           have n0_ := Aside0.mk (blk_drew BK161.out)
           have n1_ := Aside0.mk (below_drew1 HB.out)
           clear BK161
           clear HB
           have BK161 := n0_
           have HB := n1_
           clear n0_ n1_
           refine start_ (n := 52) (S := fun w' => w'.cell? ⟨gb161, 0, none⟩ = some (.string a0_0) ∧ w'.cell? ⟨gb161, 1, none⟩ = some (.string a0_1) ∧ w'.cell? ⟨gb161, 2, none⟩ = some (.string a0_2) ∧ w'.cell? ⟨gb161, 3, none⟩ = some (.int .i64 a0_3) ∧ w'.cell? ⟨gb161, 4, none⟩ = some (.string a0_4) ∧ w'.cell? ⟨gb161, 5, none⟩ = some (.string a0_5) ∧ w'.cell? ⟨gb161, 6, none⟩ = some (.string a0_6) ∧ w'.cell? ⟨gb161, 7, none⟩ = some (.bool a0_7) ∧ w'.cell? ⟨gb161, 8, none⟩ = some (.bool a0_8)) (ds := []) #[Z, Z, Z, Z, Z, Z, Z, Z, Z, Z, Z, Z, Z, Z, Z, Z, Z, Z, Z, Z, Z, Z, Z, Z, Z, Z, Z, Z, Z, Z, Z, Z, Z, Z, Z, Z, Z, Z, Z, Z, Z, Z, Z, Z, Z, Z, Z, Z, Z, Z, Z, Z] (by kernel_rfl) rfl rfl (held9_ BK161.out) (fun hHeld => ?_); refine with_tabW impl_UrlOK.tab7 impl_UrlOK.bits7 (fun HT_ HW_ => ?_)
           generalize w102.drew = w103 at BK161 HB hHeld ⊢
           refine toU_ (i := 0) (n := 52) (by kernel_rfl) ?_
           (refine pureU_ (v := ?_) (a' := ?_) HT_.out (by simp only [Nat.reduceAdd]; rfl) rfl rfl (by kernel_rfl) (fun _ _ _ h => h) (Or.inl ⟨by rfl, ?_⟩) ?_ ?_; rotate_left; (· (intro w'; go_simp; with_reducible rfl)); rotate_left; (· (simp only [Act.put, List.setIfInBounds_toArray, List.set_cons_zero, List.set_cons_succ, i64_w, i32_w]; rfl)))
           (refine takeU_ (v := ?_) (a' := ?_) HT_.out HW_.out (by simp only [Nat.reduceAdd]; rfl) rfl rfl (by kernel_rfl) (fun _ _ _ h => h) (Or.inl ⟨by rfl, ?_⟩) hHeld ?_ ?_; rotate_left; (· (rintro w' ⟨s0, s1, s2, s3, s4, s5, s6, s7, s8⟩; go_simp; with_reducible rfl)); rotate_left; (· (simp only [Act.put, List.setIfInBounds_toArray, List.set_cons_zero, List.set_cons_succ, i64_w, i32_w]; rfl)))
           refine one_ (i := 2) (N := some 68) (upTo 3 49) rfl rfl (one_of HT_.out (by kernel_rfl)) (by decide) (fun K hK => ?_)
           refine goes_ Tryd.func31 (by kernel_rfl) rfl #[.string a0_1, .string (⟨#[47, 63, 35, 64]⟩ : ByteArray)] (by rfl) rfl rfl (by (try simp only [List.map_toArray, List.map_cons, List.map_nil]); first | done | rfl | (simp only [List.length_drop, List.length_take]; rfl)) ?_
           with_reducible refine (strings_ContainsAny.calls a0_1 (⟨#[47, 63, 35, 64]⟩ : ByteArray) false _ A35.out).mono ?_
           rintro e w104 ⟨rfl, hb⟩
           refine ⟨_, rfl, ?_⟩
           have n0_ := Aside0.mk (blk_below (g := gb161) (o := .cells #[.string a0_0, .string a0_1, .string a0_2, .int .i64 a0_3, .string a0_4, .string a0_5, .string a0_6, .bool a0_7, .bool a0_8] 26 (0, 0)) (by (with_reducible repeat (first | refine blk_drewN ?_ _ | refine blk_drew ?_ | refine blk_alloc ?_ _)); exact BK161.out) hb)
           have n1_ := Aside0.mk (below_step (by repeat (first | (with_reducible first | exact HB.out | apply below_alloc | apply pw_below_drewN | apply below_drew1 | refine below_set ?_ GE161.out) | exact HB.out)) hb)
           clear BK161
           clear HB
           have BK161 := n0_
           have HB := n1_
           clear n0_ n1_
           (try clear hb)
           (try clear hb2)
           (try clear hk)
           (try clear hi)
           refine hK.out _ _ (held9_ BK161.out) (fun hHeld => ?_)
           clear hK K
           refine norm_ (a' := ?_) ?_ ?_
           rotate_left
           ·
            show Act.put _ (some 68) _ = _
            simp only [Act.put, List.setIfInBounds_toArray, List.set_cons_zero, List.set_cons_succ, i64_w, i32_w]
            rfl
           refine toU_ (i := 3) (n := 49) (by kernel_rfl) ?_
           iterate 3 (refine pureU_ (v := ?_) (a' := ?_) HT_.out (by simp only [Nat.reduceAdd]; rfl) rfl rfl (by kernel_rfl) (fun _ _ _ h => h) (Or.inl ⟨by rfl, ?_⟩) ?_ ?_; rotate_left; (· (intro w'; go_simp; with_reducible rfl)); rotate_left; (· (simp only [Act.put, List.setIfInBounds_toArray, List.set_cons_zero, List.set_cons_succ, i64_w, i32_w]; rfl)))
           (refine takeU_ (v := ?_) (a' := ?_) HT_.out HW_.out (by simp only [Nat.reduceAdd]; rfl) rfl rfl (by kernel_rfl) (fun _ _ _ h => h) (Or.inl ⟨by rfl, ?_⟩) hHeld ?_ ?_; rotate_left; (· (rintro w' ⟨s0, s1, s2, s3, s4, s5, s6, s7, s8⟩; go_simp; with_reducible rfl)); rotate_left; (· (simp only [Act.put, List.setIfInBounds_toArray, List.set_cons_zero, List.set_cons_succ, i64_w, i32_w]; rfl)))
           refine one_ (i := 7) (N := some 73) (upTo 8 44) rfl rfl (one_of HT_.out (by kernel_rfl)) (by decide) (fun K hK => ?_)
           refine goes_ Tryd.func33 (by kernel_rfl) rfl #[.string a0_2] (by rfl) rfl rfl (by (try simp only [List.map_toArray, List.map_cons, List.map_nil]); first | done | rfl | (simp only [List.length_drop, List.length_take]; rfl)) ?_
           with_reducible refine (impl_isHost.calls kj1 a0_2 true _ A43.out).mono ?_
           rintro e w' ⟨rfl, ⟨nd, rfl⟩⟩
           refine ⟨_, rfl, ?_⟩
           refine hK.out _ _ (held9_ BK161.out) (fun hHeld => ?_)
           clear hK K
           refine norm_ (a' := ?_) ?_ ?_
           rotate_left
           ·
            show Act.put _ (some 73) _ = _
            simp only [Act.put, List.setIfInBounds_toArray, List.set_cons_zero, List.set_cons_succ, i64_w, i32_w]
            rfl
           refine toU_ (i := 8) (n := 44) (by kernel_rfl) ?_
           iterate 3 (refine pureU_ (v := ?_) (a' := ?_) HT_.out (by simp only [Nat.reduceAdd]; rfl) rfl rfl (by kernel_rfl) (fun _ _ _ h => h) (Or.inl ⟨by rfl, ?_⟩) ?_ ?_; rotate_left; (· (intro w'; go_simp; with_reducible rfl)); rotate_left; (· (simp only [Act.put, List.setIfInBounds_toArray, List.set_cons_zero, List.set_cons_succ, i64_w, i32_w]; rfl)))
           (refine takeU_ (v := ?_) (a' := ?_) HT_.out HW_.out (by simp only [Nat.reduceAdd]; rfl) rfl rfl (by kernel_rfl) (fun _ _ _ h => h) (Or.inl ⟨by rfl, ?_⟩) hHeld ?_ ?_; rotate_left; (· (rintro w' ⟨s0, s1, s2, s3, s4, s5, s6, s7, s8⟩; go_simp; with_reducible rfl)); rotate_left; (· (simp only [Act.put, List.setIfInBounds_toArray, List.set_cons_zero, List.set_cons_succ, i64_w, i32_w]; rfl)))
           refine one_ (i := 12) (N := some 78) (upTo 13 39) rfl rfl (one_of HT_.out (by kernel_rfl)) (by decide) (fun K hK => ?_)
           refine goes_ Tryd.func34 (by kernel_rfl) rfl #[.int .i64 a0_3, .int .i64 0, .int .i64 65535] (by rfl) rfl rfl (by (try simp only [List.map_toArray, List.map_cons, List.map_nil]); first | done | rfl | (simp only [List.length_drop, List.length_take]; rfl)) ?_
           with_reducible refine (impl_within.calls a0_3 0 65535 true _ A45.out).mono ?_
           rintro e w' ⟨rfl, ⟨nd, rfl⟩⟩
           refine ⟨_, rfl, ?_⟩
           refine hK.out _ _ (held9_ BK161.out) (fun hHeld => ?_)
           clear hK K
           refine norm_ (a' := ?_) ?_ ?_
           rotate_left
           ·
            show Act.put _ (some 78) _ = _
            simp only [Act.put, List.setIfInBounds_toArray, List.set_cons_zero, List.set_cons_succ, i64_w, i32_w]
            rfl
           refine toU_ (i := 13) (n := 39) (by kernel_rfl) ?_
           iterate 3 (refine pureU_ (v := ?_) (a' := ?_) HT_.out (by simp only [Nat.reduceAdd]; rfl) rfl rfl (by kernel_rfl) (fun _ _ _ h => h) (Or.inl ⟨by rfl, ?_⟩) ?_ ?_; rotate_left; (· (intro w'; go_simp; with_reducible rfl)); rotate_left; (· (simp only [Act.put, List.setIfInBounds_toArray, List.set_cons_zero, List.set_cons_succ, i64_w, i32_w]; rfl)))
           refine pure_ (i := 17) (N := some 83) (v := ?_) (a' := ?_) #[Y, Y, Y, Y, Y, Y, Y, Y, Y, Y, Y, Y, Y, Y, Y, Y, Z, Y, Z, Z, Z, Z, Z, Z, Z, Z, Z, Z, Z, Z, Z, Z, Z, Z, Z, Z, Z, Z, Z, Z, Z, Z, Z, Z, Z, Z, Z, Z, Z, Z, Z, Z] rfl rfl (any_of HT_.out (by kernel_rfl)) (fun _ _ _ h => h) (Or.inl ⟨by rfl, ?_⟩) ?_ ?_
           rotate_left
           ·
            intro w'
            go_simp
            with_reducible rfl
           rotate_left
           ·
            simp only [Act.put, List.setIfInBounds_toArray, List.set_cons_zero, List.set_cons_succ, i64_w, i32_w]
            rfl
           refine take_ (i := 16) (N := some 82) (v := ?_) (a' := ?_) #[Y, Y, Y, Y, Y, Y, Y, Y, Y, Y, Y, Y, Y, Y, Y, Y, Y, Y, Z, Z, Z, Z, Z, Z, Z, Z, Z, Z, Z, Z, Z, Z, Z, Z, Z, Z, Z, Z, Z, Z, Z, Z, Z, Z, Z, Z, Z, Z, Z, Z, Z, Z] rfl rfl (take_ofW HT_.out HW_.out (by kernel_rfl)) (fun _ _ _ h => h) (Or.inl ⟨by rfl, ?_⟩) hHeld ?_ ?_
           rotate_left
           ·
            rintro w' ⟨s0, s1, s2, s3, s4, s5, s6, s7, s8⟩
            go_simp
            with_reducible rfl
           rotate_left
           ·
            simp only [Act.put, List.setIfInBounds_toArray, List.set_cons_zero, List.set_cons_succ, i64_w, i32_w]
            rfl
           refine take_ (i := 18) (N := some 84) (v := ?_) (a' := ?_) #[Y, Y, Y, Y, Y, Y, Y, Y, Y, Y, Y, Y, Y, Y, Y, Y, Y, Y, Y, Z, Z, Z, Z, Z, Z, Z, Z, Z, Z, Z, Z, Z, Z, Z, Z, Z, Z, Z, Z, Z, Z, Z, Z, Z, Z, Z, Z, Z, Z, Z, Z, Z] rfl rfl (take_ofW HT_.out HW_.out (by kernel_rfl)) (fun _ _ _ h => h) (Or.inl ⟨by rfl, ?_⟩) hHeld ?_ ?_
           rotate_left
           ·
            rintro w' ⟨s0, s1, s2, s3, s4, s5, s6, s7, s8⟩
            go_simp
            with_reducible rfl
           rotate_left
           ·
            simp only [Act.put, List.setIfInBounds_toArray, List.set_cons_zero, List.set_cons_succ, i64_w, i32_w]
            rfl
           refine one_ (i := 19) (N := some 85) (upTo 20 32) rfl rfl (one_of HT_.out (by kernel_rfl)) (by decide) (fun K hK => ?_)
           refine goes_ Tryd.func35 (by kernel_rfl) rfl #[.string a0_0] (by rfl) rfl rfl (by (try simp only [List.map_toArray, List.map_cons, List.map_nil]); first | done | rfl | (simp only [List.length_drop, List.length_take]; rfl)) ?_
           with_reducible refine (impl_usual.calls a0_0 t170 _ A47.out).mono ?_
           rintro e w' ⟨rfl, ⟨nd, rfl⟩⟩
           refine ⟨_, rfl, ?_⟩
           refine hK.out _ _ (held9_ BK161.out) (fun hHeld => ?_)
           clear hK K
           refine norm_ (a' := ?_) ?_ ?_
           rotate_left
           ·
            show Act.put _ (some 85) _ = _
            simp only [Act.put, List.setIfInBounds_toArray, List.set_cons_zero, List.set_cons_succ, i64_w, i32_w]
            rfl
           refine toU_ (i := 20) (n := 32) (by kernel_rfl) ?_
           iterate 4 (refine pureU_ (v := ?_) (a' := ?_) HT_.out (by simp only [Nat.reduceAdd]; rfl) rfl rfl (by kernel_rfl) (fun _ _ _ h => h) (Or.inl ⟨by rfl, ?_⟩) ?_ ?_; rotate_left; (· (intro w'; go_simp; with_reducible rfl)); rotate_left; (· (simp only [Act.put, List.setIfInBounds_toArray, List.set_cons_zero, List.set_cons_succ, i64_w, i32_w]; rfl)))
           (refine takeU_ (v := ?_) (a' := ?_) HT_.out HW_.out (by simp only [Nat.reduceAdd]; rfl) rfl rfl (by kernel_rfl) (fun _ _ _ h => h) (Or.inl ⟨by rfl, ?_⟩) hHeld ?_ ?_; rotate_left; (· (rintro w' ⟨s0, s1, s2, s3, s4, s5, s6, s7, s8⟩; go_simp; with_reducible rfl)); rotate_left; (· (simp only [Act.put, List.setIfInBounds_toArray, List.set_cons_zero, List.set_cons_succ, i64_w, i32_w]; rfl)))
           refine one_ (i := 25) (N := some 91) (upTo 26 26) rfl rfl (one_of HT_.out (by kernel_rfl)) (by decide) (fun K hK => ?_)
           refine goes_ Tryd.func36 (by kernel_rfl) rfl #[.string a0_4, .string (⟨#[47]⟩ : ByteArray)] (by rfl) rfl rfl (by (try simp only [List.map_toArray, List.map_cons, List.map_nil]); first | done | rfl | (simp only [List.length_drop, List.length_take]; rfl)) ?_
           with_reducible refine (strings_HasPrefix.calls a0_4 (⟨#[47]⟩ : ByteArray) false _ A55.out).mono ?_
           rintro e w' ⟨rfl, ⟨nd, rfl⟩⟩
           refine ⟨_, rfl, ?_⟩
           refine hK.out _ _ (held9_ BK161.out) (fun hHeld => ?_)
           clear hK K
           refine norm_ (a' := ?_) ?_ ?_
           rotate_left
           ·
            show Act.put _ (some 91) _ = _
            simp only [Act.put, List.setIfInBounds_toArray, List.set_cons_zero, List.set_cons_succ, i64_w, i32_w]
            rfl
           refine toU_ (i := 26) (n := 26) (by kernel_rfl) ?_
           iterate 2 (refine pureU_ (v := ?_) (a' := ?_) HT_.out (by simp only [Nat.reduceAdd]; rfl) rfl rfl (by kernel_rfl) (fun _ _ _ h => h) (Or.inl ⟨by rfl, ?_⟩) ?_ ?_; rotate_left; (· (intro w'; go_simp; with_reducible rfl)); rotate_left; (· (simp only [Act.put, List.setIfInBounds_toArray, List.set_cons_zero, List.set_cons_succ, i64_w, i32_w]; rfl)))
           iterate 4 (refine skipU_ (a' := ?_) HT_.out (by simp only [Nat.reduceAdd]; rfl) rfl rfl (by kernel_rfl) (fun _ _ _ h => h) (by rfl) ?_ ?_; rotate_left; (· (simp only [Act.put, List.setIfInBounds_toArray, List.set_cons_zero, List.set_cons_succ, i64_w, i32_w]; rfl)))
           iterate 2 (refine pureU_ (v := ?_) (a' := ?_) HT_.out (by simp only [Nat.reduceAdd]; rfl) rfl rfl (by kernel_rfl) (fun _ _ _ h => h) (Or.inl ⟨by rfl, ?_⟩) ?_ ?_; rotate_left; (· (intro w'; go_simp; with_reducible rfl)); rotate_left; (· (simp only [Act.put, List.setIfInBounds_toArray, List.set_cons_zero, List.set_cons_succ, i64_w, i32_w]; rfl)))
           iterate 7 (refine skipU_ (a' := ?_) HT_.out (by simp only [Nat.reduceAdd]; rfl) rfl rfl (by kernel_rfl) (fun _ _ _ h => h) (by rfl) ?_ ?_; rotate_left; (· (simp only [Act.put, List.setIfInBounds_toArray, List.set_cons_zero, List.set_cons_succ, i64_w, i32_w]; rfl)))
           iterate 2 (refine pureU_ (v := ?_) (a' := ?_) HT_.out (by simp only [Nat.reduceAdd]; rfl) rfl rfl (by kernel_rfl) (fun _ _ _ h => h) (Or.inl ⟨by rfl, ?_⟩) ?_ ?_; rotate_left; (· (intro w'; go_simp; with_reducible rfl)); rotate_left; (· (simp only [Act.put, List.setIfInBounds_toArray, List.set_cons_zero, List.set_cons_succ, i64_w, i32_w]; rfl)))
           iterate 7 (refine skipU_ (a' := ?_) HT_.out (by simp only [Nat.reduceAdd]; rfl) rfl rfl (by kernel_rfl) (fun _ _ _ h => h) (by rfl) ?_ ?_; rotate_left; (· (simp only [Act.put, List.setIfInBounds_toArray, List.set_cons_zero, List.set_cons_succ, i64_w, i32_w]; rfl)))
           iterate 2 (refine pureU_ (v := ?_) (a' := ?_) HT_.out (by simp only [Nat.reduceAdd]; rfl) rfl rfl (by kernel_rfl) (fun _ _ _ h => h) (Or.inl ⟨by rfl, ?_⟩) ?_ ?_; rotate_left; (· (intro w'; go_simp; with_reducible rfl)); rotate_left; (· (simp only [Act.put, List.setIfInBounds_toArray, List.set_cons_zero, List.set_cons_succ, i64_w, i32_w]; rfl)))
           refine done_ (done_of HT_.out (by kernel_rfl)) ?_
           try go_wp2
           go_ret
           exact ⟨by first | rfl | (simp [errW_none, errW_some] <;> rfl) | (simp [*, errW_none, errW_some] <;> rfl), by repeat (first | (with_reducible first | exact HB.out | apply below_alloc | apply pw_below_drewN | apply below_drew1 | refine below_set ?_ GE161.out) | exact HB.out)⟩
        ·
         replace c46 := Bool.eq_false_iff.mpr c46
         subst c46
         have H1 : (some false) = some r := by rw [if_neg (show ¬ (false = true) by decide)] at H; exact H
         clear H
         have H := H1
         clear H1
         obtain rfl := Option.some.inj H
         have hcz105_0 : wc.cell? ⟨gb161, 0, none⟩ = some (.string a0_0) := (blk_cell BK161.out 0).trans rfl
         have hcz105_1 : wc.cell? ⟨gb161, 1, none⟩ = some (.string a0_1) := (blk_cell BK161.out 1).trans rfl
         have hcz105_2 : wc.cell? ⟨gb161, 2, none⟩ = some (.string a0_2) := (blk_cell BK161.out 2).trans rfl
         have hcz105_3 : wc.cell? ⟨gb161, 3, none⟩ = some (.int .i64 a0_3) := (blk_cell BK161.out 3).trans rfl
         have hcz105_4 : wc.cell? ⟨gb161, 4, none⟩ = some (.string a0_4) := (blk_cell BK161.out 4).trans rfl
         have hcz105_5 : wc.cell? ⟨gb161, 5, none⟩ = some (.string a0_5) := (blk_cell BK161.out 5).trans rfl
         have hcz105_6 : wc.cell? ⟨gb161, 6, none⟩ = some (.string a0_6) := (blk_cell BK161.out 6).trans rfl
         have hcz105_7 : wc.cell? ⟨gb161, 7, none⟩ = some (.bool a0_7) := (blk_cell BK161.out 7).trans rfl
         have hcz105_8 : wc.cell? ⟨gb161, 8, none⟩ = some (.bool a0_8) := (blk_cell BK161.out 8).trans rfl
         have hfz105_0 := blk_frozen BK161.out 0
         have hfz105_1 := blk_frozen BK161.out 1
         have hfz105_2 := blk_frozen BK161.out 2
         have hfz105_3 := blk_frozen BK161.out 3
         have hfz105_4 := blk_frozen BK161.out 4
         have hfz105_5 := blk_frozen BK161.out 5
         have hfz105_6 := blk_frozen BK161.out 6
         have hfz105_7 := blk_frozen BK161.out 7
         have hfz105_8 := blk_frozen BK161.out 8
         try go_wp2_with (first | ((with_reducible refine gate_callee (f := 31) rfl ?_); refine goesL_ (some 55) rfl rfl Tryd.func31 (by kernel_rfl) rfl #[.string a0_4, .string (⟨#[63, 35]⟩ : ByteArray)] rfl (by (try simp only [List.map_toArray, List.map_cons, List.map_nil]); first | done | rfl | (simp only [List.length_drop, List.length_take]; rfl)) ?_; (with_reducible refine (strings_ContainsAny.calls a0_4 (⟨#[63, 35]⟩ : ByteArray) false _ A29.out).mono ?_); rintro e w106 ⟨rfl, hb⟩; refine ⟨_, rfl, ?_⟩; have n0_ := Aside0.mk (blk_below (g := gb161) (o := .cells #[.string a0_0, .string a0_1, .string a0_2, .int .i64 a0_3, .string a0_4, .string a0_5, .string a0_6, .bool a0_7, .bool a0_8] 26 (0, 0)) (by (with_reducible repeat (first | refine blk_drewN ?_ _ | refine blk_drew ?_ | refine blk_alloc ?_ _)); exact BK161.out) hb); have n1_ := Aside0.mk (below_step (by repeat (first | (with_reducible first | exact HB.out | apply below_alloc | apply pw_below_drewN | apply below_drew1 | refine below_set ?_ GE161.out) | exact HB.out)) hb); clear BK161; clear HB; have BK161 := n0_; have HB := n1_; clear n0_ n1_; (try clear hb); (try clear hb2); (try clear hk); (try clear hi); have hcz107_0 : w106.cell? ⟨gb161, 0, none⟩ = some (.string a0_0) := (blk_cell BK161.out 0).trans rfl; have hcz107_1 : w106.cell? ⟨gb161, 1, none⟩ = some (.string a0_1) := (blk_cell BK161.out 1).trans rfl; have hcz107_2 : w106.cell? ⟨gb161, 2, none⟩ = some (.string a0_2) := (blk_cell BK161.out 2).trans rfl; have hcz107_3 : w106.cell? ⟨gb161, 3, none⟩ = some (.int .i64 a0_3) := (blk_cell BK161.out 3).trans rfl; have hcz107_4 : w106.cell? ⟨gb161, 4, none⟩ = some (.string a0_4) := (blk_cell BK161.out 4).trans rfl; have hcz107_5 : w106.cell? ⟨gb161, 5, none⟩ = some (.string a0_5) := (blk_cell BK161.out 5).trans rfl; have hcz107_6 : w106.cell? ⟨gb161, 6, none⟩ = some (.string a0_6) := (blk_cell BK161.out 6).trans rfl; have hcz107_7 : w106.cell? ⟨gb161, 7, none⟩ = some (.bool a0_7) := (blk_cell BK161.out 7).trans rfl; have hcz107_8 : w106.cell? ⟨gb161, 8, none⟩ = some (.bool a0_8) := (blk_cell BK161.out 8).trans rfl; have hfz107_0 := blk_frozen BK161.out 0; have hfz107_1 := blk_frozen BK161.out 1; have hfz107_2 := blk_frozen BK161.out 2; have hfz107_3 := blk_frozen BK161.out 3; have hfz107_4 := blk_frozen BK161.out 4; have hfz107_5 := blk_frozen BK161.out 5; have hfz107_6 := blk_frozen BK161.out 6; have hfz107_7 := blk_frozen BK161.out 7; have hfz107_8 := blk_frozen BK161.out 8) | ((with_reducible refine gate_callee (f := 32) rfl ?_); refine goesL_ (some 57) rfl rfl Tryd.func32 (by kernel_rfl) rfl #[.agg #[.string a0_0, .string a0_1, .string a0_2, .int .i64 a0_3, .string a0_4, .string a0_5, .string a0_6, .bool a0_7, .bool a0_8]] rfl (by (try simp only [List.map_toArray, List.map_cons, List.map_nil]); first | done | rfl | (simp only [List.length_drop, List.length_take]; rfl)) ?_; (with_reducible refine (impl_Url_web.calls a0_0 a0_1 a0_2 a0_3 a0_4 a0_5 a0_6 a0_7 a0_8 true _ A33.out).mono ?_); rintro e w108 ⟨rfl, hb⟩; refine ⟨_, rfl, ?_⟩; have n0_ := Aside0.mk (blk_below (g := gb161) (o := .cells #[.string a0_0, .string a0_1, .string a0_2, .int .i64 a0_3, .string a0_4, .string a0_5, .string a0_6, .bool a0_7, .bool a0_8] 26 (0, 0)) (by (with_reducible repeat (first | refine blk_drewN ?_ _ | refine blk_drew ?_ | refine blk_alloc ?_ _)); exact BK161.out) hb); have n1_ := Aside0.mk (below_step (by repeat (first | (with_reducible first | exact HB.out | apply below_alloc | apply pw_below_drewN | apply below_drew1 | refine below_set ?_ GE161.out) | exact HB.out)) hb); clear BK161; clear HB; have BK161 := n0_; have HB := n1_; clear n0_ n1_; (try clear hb); (try clear hb2); (try clear hk); (try clear hi)))
         have n0_ := Aside0.mk (blk_drew BK161.out)
         have n1_ := Aside0.mk (below_drew1 HB.out)
         clear BK161
         clear HB
         have BK161 := n0_
         have HB := n1_
         clear n0_ n1_
         refine start_ (n := 52) (S := fun w' => w'.cell? ⟨gb161, 0, none⟩ = some (.string a0_0) ∧ w'.cell? ⟨gb161, 1, none⟩ = some (.string a0_1) ∧ w'.cell? ⟨gb161, 2, none⟩ = some (.string a0_2) ∧ w'.cell? ⟨gb161, 3, none⟩ = some (.int .i64 a0_3) ∧ w'.cell? ⟨gb161, 4, none⟩ = some (.string a0_4) ∧ w'.cell? ⟨gb161, 5, none⟩ = some (.string a0_5) ∧ w'.cell? ⟨gb161, 6, none⟩ = some (.string a0_6) ∧ w'.cell? ⟨gb161, 7, none⟩ = some (.bool a0_7) ∧ w'.cell? ⟨gb161, 8, none⟩ = some (.bool a0_8)) (ds := []) #[Z, Z, Z, Z, Z, Z, Z, Z, Z, Z, Z, Z, Z, Z, Z, Z, Z, Z, Z, Z, Z, Z, Z, Z, Z, Z, Z, Z, Z, Z, Z, Z, Z, Z, Z, Z, Z, Z, Z, Z, Z, Z, Z, Z, Z, Z, Z, Z, Z, Z, Z, Z] (by kernel_rfl) rfl rfl (held9_ BK161.out) (fun hHeld => ?_); refine with_tabW impl_UrlOK.tab7 impl_UrlOK.bits7 (fun HT_ HW_ => ?_)
         generalize w108.drew = w109 at BK161 HB hHeld ⊢
         refine toU_ (i := 0) (n := 52) (by kernel_rfl) ?_
         (refine pureU_ (v := ?_) (a' := ?_) HT_.out (by simp only [Nat.reduceAdd]; rfl) rfl rfl (by kernel_rfl) (fun _ _ _ h => h) (Or.inl ⟨by rfl, ?_⟩) ?_ ?_; rotate_left; (· (intro w'; go_simp; with_reducible rfl)); rotate_left; (· (simp only [Act.put, List.setIfInBounds_toArray, List.set_cons_zero, List.set_cons_succ, i64_w, i32_w]; rfl)))
         (refine takeU_ (v := ?_) (a' := ?_) HT_.out HW_.out (by simp only [Nat.reduceAdd]; rfl) rfl rfl (by kernel_rfl) (fun _ _ _ h => h) (Or.inl ⟨by rfl, ?_⟩) hHeld ?_ ?_; rotate_left; (· (rintro w' ⟨s0, s1, s2, s3, s4, s5, s6, s7, s8⟩; go_simp; with_reducible rfl)); rotate_left; (· (simp only [Act.put, List.setIfInBounds_toArray, List.set_cons_zero, List.set_cons_succ, i64_w, i32_w]; rfl)))
         refine one_ (i := 2) (N := some 68) (upTo 3 49) rfl rfl (one_of HT_.out (by kernel_rfl)) (by decide) (fun K hK => ?_)
         refine goes_ Tryd.func31 (by kernel_rfl) rfl #[.string a0_1, .string (⟨#[47, 63, 35, 64]⟩ : ByteArray)] (by rfl) rfl rfl (by (try simp only [List.map_toArray, List.map_cons, List.map_nil]); first | done | rfl | (simp only [List.length_drop, List.length_take]; rfl)) ?_
         with_reducible refine (strings_ContainsAny.calls a0_1 (⟨#[47, 63, 35, 64]⟩ : ByteArray) false _ A35.out).mono ?_
         rintro e w110 ⟨rfl, hb⟩
         refine ⟨_, rfl, ?_⟩
         have n0_ := Aside0.mk (blk_below (g := gb161) (o := .cells #[.string a0_0, .string a0_1, .string a0_2, .int .i64 a0_3, .string a0_4, .string a0_5, .string a0_6, .bool a0_7, .bool a0_8] 26 (0, 0)) (by (with_reducible repeat (first | refine blk_drewN ?_ _ | refine blk_drew ?_ | refine blk_alloc ?_ _)); exact BK161.out) hb)
         have n1_ := Aside0.mk (below_step (by repeat (first | (with_reducible first | exact HB.out | apply below_alloc | apply pw_below_drewN | apply below_drew1 | refine below_set ?_ GE161.out) | exact HB.out)) hb)
         clear BK161
         clear HB
         have BK161 := n0_
         have HB := n1_
         clear n0_ n1_
         (try clear hb)
         (try clear hb2)
         (try clear hk)
         (try clear hi)
         refine hK.out _ _ (held9_ BK161.out) (fun hHeld => ?_)
         clear hK K
         refine norm_ (a' := ?_) ?_ ?_
         rotate_left
         ·
          show Act.put _ (some 68) _ = _
          simp only [Act.put, List.setIfInBounds_toArray, List.set_cons_zero, List.set_cons_succ, i64_w, i32_w]
          rfl
         refine toU_ (i := 3) (n := 49) (by kernel_rfl) ?_
         iterate 3 (refine pureU_ (v := ?_) (a' := ?_) HT_.out (by simp only [Nat.reduceAdd]; rfl) rfl rfl (by kernel_rfl) (fun _ _ _ h => h) (Or.inl ⟨by rfl, ?_⟩) ?_ ?_; rotate_left; (· (intro w'; go_simp; with_reducible rfl)); rotate_left; (· (simp only [Act.put, List.setIfInBounds_toArray, List.set_cons_zero, List.set_cons_succ, i64_w, i32_w]; rfl)))
         (refine takeU_ (v := ?_) (a' := ?_) HT_.out HW_.out (by simp only [Nat.reduceAdd]; rfl) rfl rfl (by kernel_rfl) (fun _ _ _ h => h) (Or.inl ⟨by rfl, ?_⟩) hHeld ?_ ?_; rotate_left; (· (rintro w' ⟨s0, s1, s2, s3, s4, s5, s6, s7, s8⟩; go_simp; with_reducible rfl)); rotate_left; (· (simp only [Act.put, List.setIfInBounds_toArray, List.set_cons_zero, List.set_cons_succ, i64_w, i32_w]; rfl)))
         refine one_ (i := 7) (N := some 73) (upTo 8 44) rfl rfl (one_of HT_.out (by kernel_rfl)) (by decide) (fun K hK => ?_)
         refine goes_ Tryd.func33 (by kernel_rfl) rfl #[.string a0_2] (by rfl) rfl rfl (by (try simp only [List.map_toArray, List.map_cons, List.map_nil]); first | done | rfl | (simp only [List.length_drop, List.length_take]; rfl)) ?_
         with_reducible refine (impl_isHost.calls kj1 a0_2 true _ A43.out).mono ?_
         rintro e w' ⟨rfl, ⟨nd, rfl⟩⟩
         refine ⟨_, rfl, ?_⟩
         refine hK.out _ _ (held9_ BK161.out) (fun hHeld => ?_)
         clear hK K
         refine norm_ (a' := ?_) ?_ ?_
         rotate_left
         ·
          show Act.put _ (some 73) _ = _
          simp only [Act.put, List.setIfInBounds_toArray, List.set_cons_zero, List.set_cons_succ, i64_w, i32_w]
          rfl
         refine toU_ (i := 8) (n := 44) (by kernel_rfl) ?_
         iterate 3 (refine pureU_ (v := ?_) (a' := ?_) HT_.out (by simp only [Nat.reduceAdd]; rfl) rfl rfl (by kernel_rfl) (fun _ _ _ h => h) (Or.inl ⟨by rfl, ?_⟩) ?_ ?_; rotate_left; (· (intro w'; go_simp; with_reducible rfl)); rotate_left; (· (simp only [Act.put, List.setIfInBounds_toArray, List.set_cons_zero, List.set_cons_succ, i64_w, i32_w]; rfl)))
         (refine takeU_ (v := ?_) (a' := ?_) HT_.out HW_.out (by simp only [Nat.reduceAdd]; rfl) rfl rfl (by kernel_rfl) (fun _ _ _ h => h) (Or.inl ⟨by rfl, ?_⟩) hHeld ?_ ?_; rotate_left; (· (rintro w' ⟨s0, s1, s2, s3, s4, s5, s6, s7, s8⟩; go_simp; with_reducible rfl)); rotate_left; (· (simp only [Act.put, List.setIfInBounds_toArray, List.set_cons_zero, List.set_cons_succ, i64_w, i32_w]; rfl)))
         refine one_ (i := 12) (N := some 78) (upTo 13 39) rfl rfl (one_of HT_.out (by kernel_rfl)) (by decide) (fun K hK => ?_)
         refine goes_ Tryd.func34 (by kernel_rfl) rfl #[.int .i64 a0_3, .int .i64 0, .int .i64 65535] (by rfl) rfl rfl (by (try simp only [List.map_toArray, List.map_cons, List.map_nil]); first | done | rfl | (simp only [List.length_drop, List.length_take]; rfl)) ?_
         with_reducible refine (impl_within.calls a0_3 0 65535 false _ A45.out).mono ?_
         rintro e w' ⟨rfl, ⟨nd, rfl⟩⟩
         refine ⟨_, rfl, ?_⟩
         refine hK.out _ _ (held9_ BK161.out) (fun hHeld => ?_)
         clear hK K
         refine norm_ (a' := ?_) ?_ ?_
         rotate_left
         ·
          show Act.put _ (some 78) _ = _
          simp only [Act.put, List.setIfInBounds_toArray, List.set_cons_zero, List.set_cons_succ, i64_w, i32_w]
          rfl
         refine toU_ (i := 13) (n := 39) (by kernel_rfl) ?_
         iterate 2 (refine pureU_ (v := ?_) (a' := ?_) HT_.out (by simp only [Nat.reduceAdd]; rfl) rfl rfl (by kernel_rfl) (fun _ _ _ h => h) (Or.inl ⟨by rfl, ?_⟩) ?_ ?_; rotate_left; (· (intro w'; go_simp; with_reducible rfl)); rotate_left; (· (simp only [Act.put, List.setIfInBounds_toArray, List.set_cons_zero, List.set_cons_succ, i64_w, i32_w]; rfl)))
         iterate 6 (refine skipU_ (a' := ?_) HT_.out (by simp only [Nat.reduceAdd]; rfl) rfl rfl (by kernel_rfl) (fun _ _ _ h => h) (by rfl) ?_ ?_; rotate_left; (· (simp only [Act.put, List.setIfInBounds_toArray, List.set_cons_zero, List.set_cons_succ, i64_w, i32_w]; rfl)))
         iterate 2 (refine pureU_ (v := ?_) (a' := ?_) HT_.out (by simp only [Nat.reduceAdd]; rfl) rfl rfl (by kernel_rfl) (fun _ _ _ h => h) (Or.inl ⟨by rfl, ?_⟩) ?_ ?_; rotate_left; (· (intro w'; go_simp; with_reducible rfl)); rotate_left; (· (simp only [Act.put, List.setIfInBounds_toArray, List.set_cons_zero, List.set_cons_succ, i64_w, i32_w]; rfl)))
         iterate 3 (refine skipU_ (a' := ?_) HT_.out (by simp only [Nat.reduceAdd]; rfl) rfl rfl (by kernel_rfl) (fun _ _ _ h => h) (by rfl) ?_ ?_; rotate_left; (· (simp only [Act.put, List.setIfInBounds_toArray, List.set_cons_zero, List.set_cons_succ, i64_w, i32_w]; rfl)))
         iterate 2 (refine pureU_ (v := ?_) (a' := ?_) HT_.out (by simp only [Nat.reduceAdd]; rfl) rfl rfl (by kernel_rfl) (fun _ _ _ h => h) (Or.inl ⟨by rfl, ?_⟩) ?_ ?_; rotate_left; (· (intro w'; go_simp; with_reducible rfl)); rotate_left; (· (simp only [Act.put, List.setIfInBounds_toArray, List.set_cons_zero, List.set_cons_succ, i64_w, i32_w]; rfl)))
         iterate 4 (refine skipU_ (a' := ?_) HT_.out (by simp only [Nat.reduceAdd]; rfl) rfl rfl (by kernel_rfl) (fun _ _ _ h => h) (by rfl) ?_ ?_; rotate_left; (· (simp only [Act.put, List.setIfInBounds_toArray, List.set_cons_zero, List.set_cons_succ, i64_w, i32_w]; rfl)))
         iterate 2 (refine pureU_ (v := ?_) (a' := ?_) HT_.out (by simp only [Nat.reduceAdd]; rfl) rfl rfl (by kernel_rfl) (fun _ _ _ h => h) (Or.inl ⟨by rfl, ?_⟩) ?_ ?_; rotate_left; (· (intro w'; go_simp; with_reducible rfl)); rotate_left; (· (simp only [Act.put, List.setIfInBounds_toArray, List.set_cons_zero, List.set_cons_succ, i64_w, i32_w]; rfl)))
         iterate 7 (refine skipU_ (a' := ?_) HT_.out (by simp only [Nat.reduceAdd]; rfl) rfl rfl (by kernel_rfl) (fun _ _ _ h => h) (by rfl) ?_ ?_; rotate_left; (· (simp only [Act.put, List.setIfInBounds_toArray, List.set_cons_zero, List.set_cons_succ, i64_w, i32_w]; rfl)))
         iterate 2 (refine pureU_ (v := ?_) (a' := ?_) HT_.out (by simp only [Nat.reduceAdd]; rfl) rfl rfl (by kernel_rfl) (fun _ _ _ h => h) (Or.inl ⟨by rfl, ?_⟩) ?_ ?_; rotate_left; (· (intro w'; go_simp; with_reducible rfl)); rotate_left; (· (simp only [Act.put, List.setIfInBounds_toArray, List.set_cons_zero, List.set_cons_succ, i64_w, i32_w]; rfl)))
         iterate 7 (refine skipU_ (a' := ?_) HT_.out (by simp only [Nat.reduceAdd]; rfl) rfl rfl (by kernel_rfl) (fun _ _ _ h => h) (by rfl) ?_ ?_; rotate_left; (· (simp only [Act.put, List.setIfInBounds_toArray, List.set_cons_zero, List.set_cons_succ, i64_w, i32_w]; rfl)))
         iterate 2 (refine pureU_ (v := ?_) (a' := ?_) HT_.out (by simp only [Nat.reduceAdd]; rfl) rfl rfl (by kernel_rfl) (fun _ _ _ h => h) (Or.inl ⟨by rfl, ?_⟩) ?_ ?_; rotate_left; (· (intro w'; go_simp; with_reducible rfl)); rotate_left; (· (simp only [Act.put, List.setIfInBounds_toArray, List.set_cons_zero, List.set_cons_succ, i64_w, i32_w]; rfl)))
         refine done_ (done_of HT_.out (by kernel_rfl)) ?_
         try go_wp2
         go_ret
         exact ⟨by first | rfl | (simp [errW_none, errW_some] <;> rfl) | (simp [*, errW_none, errW_some] <;> rfl), by repeat (first | (with_reducible first | exact HB.out | apply below_alloc | apply pw_below_drewN | apply below_drew1 | refine below_set ?_ GE161.out) | exact HB.out)⟩
       ·
        replace c44 := Bool.eq_false_iff.mpr c44
        subst c44
        have H1 : (some false) = some r := by rw [if_neg (show ¬ (false = true) by decide)] at H; exact H
        clear H
        have H := H1
        clear H1
        obtain rfl := Option.some.inj H
        have hcz111_0 : wc.cell? ⟨gb161, 0, none⟩ = some (.string a0_0) := (blk_cell BK161.out 0).trans rfl
        have hcz111_1 : wc.cell? ⟨gb161, 1, none⟩ = some (.string a0_1) := (blk_cell BK161.out 1).trans rfl
        have hcz111_2 : wc.cell? ⟨gb161, 2, none⟩ = some (.string a0_2) := (blk_cell BK161.out 2).trans rfl
        have hcz111_3 : wc.cell? ⟨gb161, 3, none⟩ = some (.int .i64 a0_3) := (blk_cell BK161.out 3).trans rfl
        have hcz111_4 : wc.cell? ⟨gb161, 4, none⟩ = some (.string a0_4) := (blk_cell BK161.out 4).trans rfl
        have hcz111_5 : wc.cell? ⟨gb161, 5, none⟩ = some (.string a0_5) := (blk_cell BK161.out 5).trans rfl
        have hcz111_6 : wc.cell? ⟨gb161, 6, none⟩ = some (.string a0_6) := (blk_cell BK161.out 6).trans rfl
        have hcz111_7 : wc.cell? ⟨gb161, 7, none⟩ = some (.bool a0_7) := (blk_cell BK161.out 7).trans rfl
        have hcz111_8 : wc.cell? ⟨gb161, 8, none⟩ = some (.bool a0_8) := (blk_cell BK161.out 8).trans rfl
        have hfz111_0 := blk_frozen BK161.out 0
        have hfz111_1 := blk_frozen BK161.out 1
        have hfz111_2 := blk_frozen BK161.out 2
        have hfz111_3 := blk_frozen BK161.out 3
        have hfz111_4 := blk_frozen BK161.out 4
        have hfz111_5 := blk_frozen BK161.out 5
        have hfz111_6 := blk_frozen BK161.out 6
        have hfz111_7 := blk_frozen BK161.out 7
        have hfz111_8 := blk_frozen BK161.out 8
        try go_wp2_with (first | ((with_reducible refine gate_callee (f := 31) rfl ?_); refine goesL_ (some 55) rfl rfl Tryd.func31 (by kernel_rfl) rfl #[.string a0_4, .string (⟨#[63, 35]⟩ : ByteArray)] rfl (by (try simp only [List.map_toArray, List.map_cons, List.map_nil]); first | done | rfl | (simp only [List.length_drop, List.length_take]; rfl)) ?_; (with_reducible refine (strings_ContainsAny.calls a0_4 (⟨#[63, 35]⟩ : ByteArray) false _ A29.out).mono ?_); rintro e w112 ⟨rfl, hb⟩; refine ⟨_, rfl, ?_⟩; have n0_ := Aside0.mk (blk_below (g := gb161) (o := .cells #[.string a0_0, .string a0_1, .string a0_2, .int .i64 a0_3, .string a0_4, .string a0_5, .string a0_6, .bool a0_7, .bool a0_8] 26 (0, 0)) (by (with_reducible repeat (first | refine blk_drewN ?_ _ | refine blk_drew ?_ | refine blk_alloc ?_ _)); exact BK161.out) hb); have n1_ := Aside0.mk (below_step (by repeat (first | (with_reducible first | exact HB.out | apply below_alloc | apply pw_below_drewN | apply below_drew1 | refine below_set ?_ GE161.out) | exact HB.out)) hb); clear BK161; clear HB; have BK161 := n0_; have HB := n1_; clear n0_ n1_; (try clear hb); (try clear hb2); (try clear hk); (try clear hi); have hcz113_0 : w112.cell? ⟨gb161, 0, none⟩ = some (.string a0_0) := (blk_cell BK161.out 0).trans rfl; have hcz113_1 : w112.cell? ⟨gb161, 1, none⟩ = some (.string a0_1) := (blk_cell BK161.out 1).trans rfl; have hcz113_2 : w112.cell? ⟨gb161, 2, none⟩ = some (.string a0_2) := (blk_cell BK161.out 2).trans rfl; have hcz113_3 : w112.cell? ⟨gb161, 3, none⟩ = some (.int .i64 a0_3) := (blk_cell BK161.out 3).trans rfl; have hcz113_4 : w112.cell? ⟨gb161, 4, none⟩ = some (.string a0_4) := (blk_cell BK161.out 4).trans rfl; have hcz113_5 : w112.cell? ⟨gb161, 5, none⟩ = some (.string a0_5) := (blk_cell BK161.out 5).trans rfl; have hcz113_6 : w112.cell? ⟨gb161, 6, none⟩ = some (.string a0_6) := (blk_cell BK161.out 6).trans rfl; have hcz113_7 : w112.cell? ⟨gb161, 7, none⟩ = some (.bool a0_7) := (blk_cell BK161.out 7).trans rfl; have hcz113_8 : w112.cell? ⟨gb161, 8, none⟩ = some (.bool a0_8) := (blk_cell BK161.out 8).trans rfl; have hfz113_0 := blk_frozen BK161.out 0; have hfz113_1 := blk_frozen BK161.out 1; have hfz113_2 := blk_frozen BK161.out 2; have hfz113_3 := blk_frozen BK161.out 3; have hfz113_4 := blk_frozen BK161.out 4; have hfz113_5 := blk_frozen BK161.out 5; have hfz113_6 := blk_frozen BK161.out 6; have hfz113_7 := blk_frozen BK161.out 7; have hfz113_8 := blk_frozen BK161.out 8) | ((with_reducible refine gate_callee (f := 32) rfl ?_); refine goesL_ (some 57) rfl rfl Tryd.func32 (by kernel_rfl) rfl #[.agg #[.string a0_0, .string a0_1, .string a0_2, .int .i64 a0_3, .string a0_4, .string a0_5, .string a0_6, .bool a0_7, .bool a0_8]] rfl (by (try simp only [List.map_toArray, List.map_cons, List.map_nil]); first | done | rfl | (simp only [List.length_drop, List.length_take]; rfl)) ?_; (with_reducible refine (impl_Url_web.calls a0_0 a0_1 a0_2 a0_3 a0_4 a0_5 a0_6 a0_7 a0_8 true _ A33.out).mono ?_); rintro e w114 ⟨rfl, hb⟩; refine ⟨_, rfl, ?_⟩; have n0_ := Aside0.mk (blk_below (g := gb161) (o := .cells #[.string a0_0, .string a0_1, .string a0_2, .int .i64 a0_3, .string a0_4, .string a0_5, .string a0_6, .bool a0_7, .bool a0_8] 26 (0, 0)) (by (with_reducible repeat (first | refine blk_drewN ?_ _ | refine blk_drew ?_ | refine blk_alloc ?_ _)); exact BK161.out) hb); have n1_ := Aside0.mk (below_step (by repeat (first | (with_reducible first | exact HB.out | apply below_alloc | apply pw_below_drewN | apply below_drew1 | refine below_set ?_ GE161.out) | exact HB.out)) hb); clear BK161; clear HB; have BK161 := n0_; have HB := n1_; clear n0_ n1_; (try clear hb); (try clear hb2); (try clear hk); (try clear hi)))
        have n0_ := Aside0.mk (blk_drew BK161.out)
        have n1_ := Aside0.mk (below_drew1 HB.out)
        clear BK161
        clear HB
        have BK161 := n0_
        have HB := n1_
        clear n0_ n1_
        refine start_ (n := 52) (S := fun w' => w'.cell? ⟨gb161, 0, none⟩ = some (.string a0_0) ∧ w'.cell? ⟨gb161, 1, none⟩ = some (.string a0_1) ∧ w'.cell? ⟨gb161, 2, none⟩ = some (.string a0_2) ∧ w'.cell? ⟨gb161, 3, none⟩ = some (.int .i64 a0_3) ∧ w'.cell? ⟨gb161, 4, none⟩ = some (.string a0_4) ∧ w'.cell? ⟨gb161, 5, none⟩ = some (.string a0_5) ∧ w'.cell? ⟨gb161, 6, none⟩ = some (.string a0_6) ∧ w'.cell? ⟨gb161, 7, none⟩ = some (.bool a0_7) ∧ w'.cell? ⟨gb161, 8, none⟩ = some (.bool a0_8)) (ds := []) #[Z, Z, Z, Z, Z, Z, Z, Z, Z, Z, Z, Z, Z, Z, Z, Z, Z, Z, Z, Z, Z, Z, Z, Z, Z, Z, Z, Z, Z, Z, Z, Z, Z, Z, Z, Z, Z, Z, Z, Z, Z, Z, Z, Z, Z, Z, Z, Z, Z, Z, Z, Z] (by kernel_rfl) rfl rfl (held9_ BK161.out) (fun hHeld => ?_); refine with_tabW impl_UrlOK.tab7 impl_UrlOK.bits7 (fun HT_ HW_ => ?_)
        generalize w114.drew = w115 at BK161 HB hHeld ⊢
        refine toU_ (i := 0) (n := 52) (by kernel_rfl) ?_
        (refine pureU_ (v := ?_) (a' := ?_) HT_.out (by simp only [Nat.reduceAdd]; rfl) rfl rfl (by kernel_rfl) (fun _ _ _ h => h) (Or.inl ⟨by rfl, ?_⟩) ?_ ?_; rotate_left; (· (intro w'; go_simp; with_reducible rfl)); rotate_left; (· (simp only [Act.put, List.setIfInBounds_toArray, List.set_cons_zero, List.set_cons_succ, i64_w, i32_w]; rfl)))
        (refine takeU_ (v := ?_) (a' := ?_) HT_.out HW_.out (by simp only [Nat.reduceAdd]; rfl) rfl rfl (by kernel_rfl) (fun _ _ _ h => h) (Or.inl ⟨by rfl, ?_⟩) hHeld ?_ ?_; rotate_left; (· (rintro w' ⟨s0, s1, s2, s3, s4, s5, s6, s7, s8⟩; go_simp; with_reducible rfl)); rotate_left; (· (simp only [Act.put, List.setIfInBounds_toArray, List.set_cons_zero, List.set_cons_succ, i64_w, i32_w]; rfl)))
        refine one_ (i := 2) (N := some 68) (upTo 3 49) rfl rfl (one_of HT_.out (by kernel_rfl)) (by decide) (fun K hK => ?_)
        refine goes_ Tryd.func31 (by kernel_rfl) rfl #[.string a0_1, .string (⟨#[47, 63, 35, 64]⟩ : ByteArray)] (by rfl) rfl rfl (by (try simp only [List.map_toArray, List.map_cons, List.map_nil]); first | done | rfl | (simp only [List.length_drop, List.length_take]; rfl)) ?_
        with_reducible refine (strings_ContainsAny.calls a0_1 (⟨#[47, 63, 35, 64]⟩ : ByteArray) false _ A35.out).mono ?_
        rintro e w116 ⟨rfl, hb⟩
        refine ⟨_, rfl, ?_⟩
        have n0_ := Aside0.mk (blk_below (g := gb161) (o := .cells #[.string a0_0, .string a0_1, .string a0_2, .int .i64 a0_3, .string a0_4, .string a0_5, .string a0_6, .bool a0_7, .bool a0_8] 26 (0, 0)) (by (with_reducible repeat (first | refine blk_drewN ?_ _ | refine blk_drew ?_ | refine blk_alloc ?_ _)); exact BK161.out) hb)
        have n1_ := Aside0.mk (below_step (by repeat (first | (with_reducible first | exact HB.out | apply below_alloc | apply pw_below_drewN | apply below_drew1 | refine below_set ?_ GE161.out) | exact HB.out)) hb)
        clear BK161
        clear HB
        have BK161 := n0_
        have HB := n1_
        clear n0_ n1_
        (try clear hb)
        (try clear hb2)
        (try clear hk)
        (try clear hi)
        refine hK.out _ _ (held9_ BK161.out) (fun hHeld => ?_)
        clear hK K
        refine norm_ (a' := ?_) ?_ ?_
        rotate_left
        ·
         show Act.put _ (some 68) _ = _
         simp only [Act.put, List.setIfInBounds_toArray, List.set_cons_zero, List.set_cons_succ, i64_w, i32_w]
         rfl
        refine toU_ (i := 3) (n := 49) (by kernel_rfl) ?_
        iterate 3 (refine pureU_ (v := ?_) (a' := ?_) HT_.out (by simp only [Nat.reduceAdd]; rfl) rfl rfl (by kernel_rfl) (fun _ _ _ h => h) (Or.inl ⟨by rfl, ?_⟩) ?_ ?_; rotate_left; (· (intro w'; go_simp; with_reducible rfl)); rotate_left; (· (simp only [Act.put, List.setIfInBounds_toArray, List.set_cons_zero, List.set_cons_succ, i64_w, i32_w]; rfl)))
        (refine takeU_ (v := ?_) (a' := ?_) HT_.out HW_.out (by simp only [Nat.reduceAdd]; rfl) rfl rfl (by kernel_rfl) (fun _ _ _ h => h) (Or.inl ⟨by rfl, ?_⟩) hHeld ?_ ?_; rotate_left; (· (rintro w' ⟨s0, s1, s2, s3, s4, s5, s6, s7, s8⟩; go_simp; with_reducible rfl)); rotate_left; (· (simp only [Act.put, List.setIfInBounds_toArray, List.set_cons_zero, List.set_cons_succ, i64_w, i32_w]; rfl)))
        refine one_ (i := 7) (N := some 73) (upTo 8 44) rfl rfl (one_of HT_.out (by kernel_rfl)) (by decide) (fun K hK => ?_)
        refine goes_ Tryd.func33 (by kernel_rfl) rfl #[.string a0_2] (by rfl) rfl rfl (by (try simp only [List.map_toArray, List.map_cons, List.map_nil]); first | done | rfl | (simp only [List.length_drop, List.length_take]; rfl)) ?_
        with_reducible refine (impl_isHost.calls kj1 a0_2 false _ A43.out).mono ?_
        rintro e w' ⟨rfl, ⟨nd, rfl⟩⟩
        refine ⟨_, rfl, ?_⟩
        refine hK.out _ _ (held9_ BK161.out) (fun hHeld => ?_)
        clear hK K
        refine norm_ (a' := ?_) ?_ ?_
        rotate_left
        ·
         show Act.put _ (some 73) _ = _
         simp only [Act.put, List.setIfInBounds_toArray, List.set_cons_zero, List.set_cons_succ, i64_w, i32_w]
         rfl
        refine toU_ (i := 8) (n := 44) (by kernel_rfl) ?_
        iterate 2 (refine pureU_ (v := ?_) (a' := ?_) HT_.out (by simp only [Nat.reduceAdd]; rfl) rfl rfl (by kernel_rfl) (fun _ _ _ h => h) (Or.inl ⟨by rfl, ?_⟩) ?_ ?_; rotate_left; (· (intro w'; go_simp; with_reducible rfl)); rotate_left; (· (simp only [Act.put, List.setIfInBounds_toArray, List.set_cons_zero, List.set_cons_succ, i64_w, i32_w]; rfl)))
        iterate 3 (refine skipU_ (a' := ?_) HT_.out (by simp only [Nat.reduceAdd]; rfl) rfl rfl (by kernel_rfl) (fun _ _ _ h => h) (by rfl) ?_ ?_; rotate_left; (· (simp only [Act.put, List.setIfInBounds_toArray, List.set_cons_zero, List.set_cons_succ, i64_w, i32_w]; rfl)))
        iterate 2 (refine pureU_ (v := ?_) (a' := ?_) HT_.out (by simp only [Nat.reduceAdd]; rfl) rfl rfl (by kernel_rfl) (fun _ _ _ h => h) (Or.inl ⟨by rfl, ?_⟩) ?_ ?_; rotate_left; (· (intro w'; go_simp; with_reducible rfl)); rotate_left; (· (simp only [Act.put, List.setIfInBounds_toArray, List.set_cons_zero, List.set_cons_succ, i64_w, i32_w]; rfl)))
        iterate 6 (refine skipU_ (a' := ?_) HT_.out (by simp only [Nat.reduceAdd]; rfl) rfl rfl (by kernel_rfl) (fun _ _ _ h => h) (by rfl) ?_ ?_; rotate_left; (· (simp only [Act.put, List.setIfInBounds_toArray, List.set_cons_zero, List.set_cons_succ, i64_w, i32_w]; rfl)))
        iterate 2 (refine pureU_ (v := ?_) (a' := ?_) HT_.out (by simp only [Nat.reduceAdd]; rfl) rfl rfl (by kernel_rfl) (fun _ _ _ h => h) (Or.inl ⟨by rfl, ?_⟩) ?_ ?_; rotate_left; (· (intro w'; go_simp; with_reducible rfl)); rotate_left; (· (simp only [Act.put, List.setIfInBounds_toArray, List.set_cons_zero, List.set_cons_succ, i64_w, i32_w]; rfl)))
        iterate 3 (refine skipU_ (a' := ?_) HT_.out (by simp only [Nat.reduceAdd]; rfl) rfl rfl (by kernel_rfl) (fun _ _ _ h => h) (by rfl) ?_ ?_; rotate_left; (· (simp only [Act.put, List.setIfInBounds_toArray, List.set_cons_zero, List.set_cons_succ, i64_w, i32_w]; rfl)))
        iterate 2 (refine pureU_ (v := ?_) (a' := ?_) HT_.out (by simp only [Nat.reduceAdd]; rfl) rfl rfl (by kernel_rfl) (fun _ _ _ h => h) (Or.inl ⟨by rfl, ?_⟩) ?_ ?_; rotate_left; (· (intro w'; go_simp; with_reducible rfl)); rotate_left; (· (simp only [Act.put, List.setIfInBounds_toArray, List.set_cons_zero, List.set_cons_succ, i64_w, i32_w]; rfl)))
        iterate 4 (refine skipU_ (a' := ?_) HT_.out (by simp only [Nat.reduceAdd]; rfl) rfl rfl (by kernel_rfl) (fun _ _ _ h => h) (by rfl) ?_ ?_; rotate_left; (· (simp only [Act.put, List.setIfInBounds_toArray, List.set_cons_zero, List.set_cons_succ, i64_w, i32_w]; rfl)))
        iterate 2 (refine pureU_ (v := ?_) (a' := ?_) HT_.out (by simp only [Nat.reduceAdd]; rfl) rfl rfl (by kernel_rfl) (fun _ _ _ h => h) (Or.inl ⟨by rfl, ?_⟩) ?_ ?_; rotate_left; (· (intro w'; go_simp; with_reducible rfl)); rotate_left; (· (simp only [Act.put, List.setIfInBounds_toArray, List.set_cons_zero, List.set_cons_succ, i64_w, i32_w]; rfl)))
        iterate 7 (refine skipU_ (a' := ?_) HT_.out (by simp only [Nat.reduceAdd]; rfl) rfl rfl (by kernel_rfl) (fun _ _ _ h => h) (by rfl) ?_ ?_; rotate_left; (· (simp only [Act.put, List.setIfInBounds_toArray, List.set_cons_zero, List.set_cons_succ, i64_w, i32_w]; rfl)))
        iterate 2 (refine pureU_ (v := ?_) (a' := ?_) HT_.out (by simp only [Nat.reduceAdd]; rfl) rfl rfl (by kernel_rfl) (fun _ _ _ h => h) (Or.inl ⟨by rfl, ?_⟩) ?_ ?_; rotate_left; (· (intro w'; go_simp; with_reducible rfl)); rotate_left; (· (simp only [Act.put, List.setIfInBounds_toArray, List.set_cons_zero, List.set_cons_succ, i64_w, i32_w]; rfl)))
        iterate 7 (refine skipU_ (a' := ?_) HT_.out (by simp only [Nat.reduceAdd]; rfl) rfl rfl (by kernel_rfl) (fun _ _ _ h => h) (by rfl) ?_ ?_; rotate_left; (· (simp only [Act.put, List.setIfInBounds_toArray, List.set_cons_zero, List.set_cons_succ, i64_w, i32_w]; rfl)))
        iterate 2 (refine pureU_ (v := ?_) (a' := ?_) HT_.out (by simp only [Nat.reduceAdd]; rfl) rfl rfl (by kernel_rfl) (fun _ _ _ h => h) (Or.inl ⟨by rfl, ?_⟩) ?_ ?_; rotate_left; (· (intro w'; go_simp; with_reducible rfl)); rotate_left; (· (simp only [Act.put, List.setIfInBounds_toArray, List.set_cons_zero, List.set_cons_succ, i64_w, i32_w]; rfl)))
        refine done_ (done_of HT_.out (by kernel_rfl)) ?_
        try go_wp2
        go_ret
        exact ⟨by first | rfl | (simp [errW_none, errW_some] <;> rfl) | (simp [*, errW_none, errW_some] <;> rfl), by repeat (first | (with_reducible first | exact HB.out | apply below_alloc | apply pw_below_drewN | apply below_drew1 | refine below_set ?_ GE161.out) | exact HB.out)⟩
     ·
      replace c34 := Bool.eq_false_iff.mpr c34
      subst c34
      have H1 : (some (a0_1.toList == ([] : List UInt8) && (a0_2.toList == ([] : List UInt8) && (a0_3 == 0 && (a0_5.toList == ([] : List UInt8) && (a0_6.toList == ([] : List UInt8) && (!a0_7 && (!a0_8)))))))) = some r := by rw [if_neg (show ¬ (false = true) by decide)] at H; exact H
      clear H
      have H := H1
      clear H1
      obtain rfl := Option.some.inj H
      have hcz117_0 : wc.cell? ⟨gb161, 0, none⟩ = some (.string a0_0) := (blk_cell BK161.out 0).trans rfl
      have hcz117_1 : wc.cell? ⟨gb161, 1, none⟩ = some (.string a0_1) := (blk_cell BK161.out 1).trans rfl
      have hcz117_2 : wc.cell? ⟨gb161, 2, none⟩ = some (.string a0_2) := (blk_cell BK161.out 2).trans rfl
      have hcz117_3 : wc.cell? ⟨gb161, 3, none⟩ = some (.int .i64 a0_3) := (blk_cell BK161.out 3).trans rfl
      have hcz117_4 : wc.cell? ⟨gb161, 4, none⟩ = some (.string a0_4) := (blk_cell BK161.out 4).trans rfl
      have hcz117_5 : wc.cell? ⟨gb161, 5, none⟩ = some (.string a0_5) := (blk_cell BK161.out 5).trans rfl
      have hcz117_6 : wc.cell? ⟨gb161, 6, none⟩ = some (.string a0_6) := (blk_cell BK161.out 6).trans rfl
      have hcz117_7 : wc.cell? ⟨gb161, 7, none⟩ = some (.bool a0_7) := (blk_cell BK161.out 7).trans rfl
      have hcz117_8 : wc.cell? ⟨gb161, 8, none⟩ = some (.bool a0_8) := (blk_cell BK161.out 8).trans rfl
      have hfz117_0 := blk_frozen BK161.out 0
      have hfz117_1 := blk_frozen BK161.out 1
      have hfz117_2 := blk_frozen BK161.out 2
      have hfz117_3 := blk_frozen BK161.out 3
      have hfz117_4 := blk_frozen BK161.out 4
      have hfz117_5 := blk_frozen BK161.out 5
      have hfz117_6 := blk_frozen BK161.out 6
      have hfz117_7 := blk_frozen BK161.out 7
      have hfz117_8 := blk_frozen BK161.out 8
      go_wp2_with (first | ((with_reducible refine gate_callee (f := 31) rfl ?_); refine goesL_ (some 55) rfl rfl Tryd.func31 (by kernel_rfl) rfl #[.string a0_4, .string (⟨#[63, 35]⟩ : ByteArray)] rfl (by (try simp only [List.map_toArray, List.map_cons, List.map_nil]); first | done | rfl | (simp only [List.length_drop, List.length_take]; rfl)) ?_; (with_reducible refine (strings_ContainsAny.calls a0_4 (⟨#[63, 35]⟩ : ByteArray) false _ A29.out).mono ?_); rintro e w118 ⟨rfl, hb⟩; refine ⟨_, rfl, ?_⟩; have n0_ := Aside0.mk (blk_below (g := gb161) (o := .cells #[.string a0_0, .string a0_1, .string a0_2, .int .i64 a0_3, .string a0_4, .string a0_5, .string a0_6, .bool a0_7, .bool a0_8] 26 (0, 0)) (by (with_reducible repeat (first | refine blk_drewN ?_ _ | refine blk_drew ?_ | refine blk_alloc ?_ _)); exact BK161.out) hb); have n1_ := Aside0.mk (below_step (by repeat (first | (with_reducible first | exact HB.out | apply below_alloc | apply pw_below_drewN | apply below_drew1 | refine below_set ?_ GE161.out) | exact HB.out)) hb); clear BK161; clear HB; have BK161 := n0_; have HB := n1_; clear n0_ n1_; (try clear hb); (try clear hb2); (try clear hk); (try clear hi); have hcz119_0 : w118.cell? ⟨gb161, 0, none⟩ = some (.string a0_0) := (blk_cell BK161.out 0).trans rfl; have hcz119_1 : w118.cell? ⟨gb161, 1, none⟩ = some (.string a0_1) := (blk_cell BK161.out 1).trans rfl; have hcz119_2 : w118.cell? ⟨gb161, 2, none⟩ = some (.string a0_2) := (blk_cell BK161.out 2).trans rfl; have hcz119_3 : w118.cell? ⟨gb161, 3, none⟩ = some (.int .i64 a0_3) := (blk_cell BK161.out 3).trans rfl; have hcz119_4 : w118.cell? ⟨gb161, 4, none⟩ = some (.string a0_4) := (blk_cell BK161.out 4).trans rfl; have hcz119_5 : w118.cell? ⟨gb161, 5, none⟩ = some (.string a0_5) := (blk_cell BK161.out 5).trans rfl; have hcz119_6 : w118.cell? ⟨gb161, 6, none⟩ = some (.string a0_6) := (blk_cell BK161.out 6).trans rfl; have hcz119_7 : w118.cell? ⟨gb161, 7, none⟩ = some (.bool a0_7) := (blk_cell BK161.out 7).trans rfl; have hcz119_8 : w118.cell? ⟨gb161, 8, none⟩ = some (.bool a0_8) := (blk_cell BK161.out 8).trans rfl; have hfz119_0 := blk_frozen BK161.out 0; have hfz119_1 := blk_frozen BK161.out 1; have hfz119_2 := blk_frozen BK161.out 2; have hfz119_3 := blk_frozen BK161.out 3; have hfz119_4 := blk_frozen BK161.out 4; have hfz119_5 := blk_frozen BK161.out 5; have hfz119_6 := blk_frozen BK161.out 6; have hfz119_7 := blk_frozen BK161.out 7; have hfz119_8 := blk_frozen BK161.out 8) | ((with_reducible refine gate_callee (f := 32) rfl ?_); refine goesL_ (some 57) rfl rfl Tryd.func32 (by kernel_rfl) rfl #[.agg #[.string a0_0, .string a0_1, .string a0_2, .int .i64 a0_3, .string a0_4, .string a0_5, .string a0_6, .bool a0_7, .bool a0_8]] rfl (by (try simp only [List.map_toArray, List.map_cons, List.map_nil]); first | done | rfl | (simp only [List.length_drop, List.length_take]; rfl)) ?_; (with_reducible refine (impl_Url_web.calls a0_0 a0_1 a0_2 a0_3 a0_4 a0_5 a0_6 a0_7 a0_8 false _ A33.out).mono ?_); rintro e w120 ⟨rfl, hb⟩; refine ⟨_, rfl, ?_⟩; have n0_ := Aside0.mk (blk_below (g := gb161) (o := .cells #[.string a0_0, .string a0_1, .string a0_2, .int .i64 a0_3, .string a0_4, .string a0_5, .string a0_6, .bool a0_7, .bool a0_8] 26 (0, 0)) (by (with_reducible repeat (first | refine blk_drewN ?_ _ | refine blk_drew ?_ | refine blk_alloc ?_ _)); exact BK161.out) hb); have n1_ := Aside0.mk (below_step (by repeat (first | (with_reducible first | exact HB.out | apply below_alloc | apply pw_below_drewN | apply below_drew1 | refine below_set ?_ GE161.out) | exact HB.out)) hb); clear BK161; clear HB; have BK161 := n0_; have HB := n1_; clear n0_ n1_; (try clear hb); (try clear hb2); (try clear hk); (try clear hi); have hcz121_0 : w120.cell? ⟨gb161, 0, none⟩ = some (.string a0_0) := (blk_cell BK161.out 0).trans rfl; have hcz121_1 : w120.cell? ⟨gb161, 1, none⟩ = some (.string a0_1) := (blk_cell BK161.out 1).trans rfl; have hcz121_2 : w120.cell? ⟨gb161, 2, none⟩ = some (.string a0_2) := (blk_cell BK161.out 2).trans rfl; have hcz121_3 : w120.cell? ⟨gb161, 3, none⟩ = some (.int .i64 a0_3) := (blk_cell BK161.out 3).trans rfl; have hcz121_4 : w120.cell? ⟨gb161, 4, none⟩ = some (.string a0_4) := (blk_cell BK161.out 4).trans rfl; have hcz121_5 : w120.cell? ⟨gb161, 5, none⟩ = some (.string a0_5) := (blk_cell BK161.out 5).trans rfl; have hcz121_6 : w120.cell? ⟨gb161, 6, none⟩ = some (.string a0_6) := (blk_cell BK161.out 6).trans rfl; have hcz121_7 : w120.cell? ⟨gb161, 7, none⟩ = some (.bool a0_7) := (blk_cell BK161.out 7).trans rfl; have hcz121_8 : w120.cell? ⟨gb161, 8, none⟩ = some (.bool a0_8) := (blk_cell BK161.out 8).trans rfl; have hfz121_0 := blk_frozen BK161.out 0; have hfz121_1 := blk_frozen BK161.out 1; have hfz121_2 := blk_frozen BK161.out 2; have hfz121_3 := blk_frozen BK161.out 3; have hfz121_4 := blk_frozen BK161.out 4; have hfz121_5 := blk_frozen BK161.out 5; have hfz121_6 := blk_frozen BK161.out 6; have hfz121_7 := blk_frozen BK161.out 7; have hfz121_8 := blk_frozen BK161.out 8))
      go_ret
      exact ⟨by first | rfl | (simp [errW_none, errW_some] <;> rfl) | (simp [*, errW_none, errW_some] <;> rfl), by repeat (first | (with_reducible first | exact HB.out | apply below_alloc | apply pw_below_drewN | apply below_drew1 | refine below_set ?_ GE161.out) | exact HB.out)⟩

end Go.Proofs.YthfcmloofifipaaDoor.QFnExactUrlOK
