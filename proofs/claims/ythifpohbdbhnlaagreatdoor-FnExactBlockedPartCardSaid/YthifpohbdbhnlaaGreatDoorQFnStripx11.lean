/- A tool of this session wrote this text out of the translation: functions as plain Lean, and proofs that the machine's calls come to their answers. -/
import Derived.Test.YthifpohbdbhnlaaGreatDoorQShort
import Derived.Test.YthifpohbdbhnlaaGreatDoorQFnStripx0
import Derived.Test.YthifpohbdbhnlaaGreatDoorQFnStripx1
import Derived.Test.YthifpohbdbhnlaaGreatDoorQFnStripx9
import Derived.Test.YthifpohbdbhnlaaGreatDoorQFnStripx10
namespace Go.Proofs.YthifpohbdbhnlaaGreatDoor.QFnStrip
open Go.RowKit Go.Proofs.YthifpohbdbhnlaaGreatDoorW.PrintWords Go.Proofs.YthifpohbdbhnlaaGreatDoorW.PrintLast Go.Proofs.YthifpohbdbhnlaaGreatDoorW.PrintMore
open Go.Proofs.YthifpohbdbhnlaaGreatDoor.Short
attribute [local go_sem] max2_int min2_int max_two min_two max_three min_three max_four min_four   -- for this text's walks alone
set_option linter.unusedVariables false
set_option linter.unusedSimpArgs false

attribute [local go_sem high] eqA32
/-! ### impl_UrlOK: function 27 -/
def impl_UrlOK.j0 : Nat → Bool → ByteArray → ByteArray → ByteArray → Int → ByteArray → ByteArray → ByteArray → Bool → Bool → Option (Bool)
  | 0, _, _, _, _, _, _, _, _, _, _ => none
  | k + 1, x52, x204000, x204001, x204002, x204003, x204004, x204005, x204006, x204007, x204008 => if x52 = true then (some false) else ((strings_ContainsAny.f x204004 (⟨#[63, 35]⟩ : ByteArray)).bind fun t207 => (if t207 = true then (some false) else ((impl_Url_web.f x204000 x204001 x204002 x204003 x204004 x204005 x204006 x204007 x204008).bind fun t208 => (if t208 = true then ((strings_ContainsAny.f x204001 (⟨#[47, 63, 35, 64]⟩ : ByteArray)).bind fun t209 => (if t209 = true then (some false) else ((impl_isHost.f k x204002).bind fun t210 => (if t210 = true then ((impl_within.f x204003 0 65535).bind fun t211 => (if t211 = true then ((impl_usual.f x204000).bind fun t212 => (if x204003 = t212 then (some false) else ((strings_HasPrefix.f x204004 (⟨#[47]⟩ : ByteArray)).bind fun t213 => (if t213 = true then ((strings_Contains.f x204005 (⟨#[35]⟩ : ByteArray)).bind fun t214 => (if t214 = true then (some false) else (if x204007 = true then (if x204008 = true then (some true) else (some (x204006.toList == ([] : List UInt8)))) else (if x204005.toList = ([] : List UInt8) then (if x204008 = true then (some true) else (some (x204006.toList == ([] : List UInt8)))) else (some false))))) else (some false))))) else (some false))) else (some false))))) else (some (x204001.toList == ([] : List UInt8) && (x204002.toList == ([] : List UInt8) && (x204003 == 0 && (x204005.toList == ([] : List UInt8) && (x204006.toList == ([] : List UInt8) && (!x204007 && (!x204008))))))))))))
def impl_UrlOK.f (k : Nat) (a0_0 : ByteArray) (a0_1 : ByteArray) (a0_2 : ByteArray) (a0_3 : Int) (a0_4 : ByteArray) (a0_5 : ByteArray) (a0_6 : ByteArray) (a0_7 : Bool) (a0_8 : Bool) : Option (Bool) := (impl_isScheme.f k a0_0).bind fun t204 => (if t204 = true then (if (wrap64 ((wrap64 ((wrap64 ((wrap64 ((a0_1.size : Int) + (a0_2.size : Int))) + (a0_4.size : Int))) + (a0_5.size : Int))) + (a0_6.size : Int))) > 100 then (impl_UrlOK.j0 k true a0_0 a0_1 a0_2 a0_3 a0_4 a0_5 a0_6 a0_7 a0_8) else ((impl_Url_text.f k a0_0 a0_1 a0_2 a0_3 a0_4 a0_5 a0_6 a0_7 a0_8).bind fun t205 => (if (t205.size : Int) > 100 then (impl_UrlOK.j0 k true a0_0 a0_1 a0_2 a0_3 a0_4 a0_5 a0_6 a0_7 a0_8) else (if a0_1.size + a0_2.size ≤ 9223372036854775807 then (if (a0_1 ++ a0_2).size + a0_4.size ≤ 9223372036854775807 then (if ((a0_1 ++ a0_2) ++ a0_4).size + a0_5.size ≤ 9223372036854775807 then (if (((a0_1 ++ a0_2) ++ a0_4) ++ a0_5).size + a0_6.size ≤ 9223372036854775807 then ((impl_areShown.f k ((((a0_1 ++ a0_2) ++ a0_4) ++ a0_5) ++ a0_6)).bind fun t206 => (impl_UrlOK.j0 k (!t206) a0_0 a0_1 a0_2 a0_3 a0_4 a0_5 a0_6 a0_7 a0_8)) else (none)) else (none)) else (none)) else (none))))) else (impl_UrlOK.j0 k true a0_0 a0_1 a0_2 a0_3 a0_4 a0_5 a0_6 a0_7 a0_8))
theorem impl_UrlOK.mono_l : ∀ k, (∀ y0 y1 y2 y3 y4 y5 y6 y7 y8 y9, LeO (impl_UrlOK.j0 k y0 y1 y2 y3 y4 y5 y6 y7 y8 y9) (impl_UrlOK.j0 (k + 1) y0 y1 y2 y3 y4 y5 y6 y7 y8 y9))
  | 0 => fun _ _ _ _ _ _ _ _ _ _ r h => by simp [impl_UrlOK.j0] at h
  | k + 1 => by
    have ih0 := impl_UrlOK.mono_l k
    · intro y0 y1 y2 y3 y4 y5 y6 y7 y8 y9
      unfold impl_UrlOK.j0
      repeat' first
      | (with_reducible exact ih0 _ _ _ _ _ _ _ _ _ _)
      | (with_reducible exact impl_Url_text.mono _ _ _ _ _ _ _ _ _ _)
      | (with_reducible exact impl_areShown.mono _ _)
      | (with_reducible exact impl_isHost.mono _ _)
      | (with_reducible exact impl_isScheme.mono _ _)
      | (with_reducible exact LeO.refl _)
      | (with_reducible exact LeO.none _)
      | (with_reducible refine LeO.ite ?_ ?_)
      | (with_reducible refine LeO.bind ?_ (fun _ => ?_))
      | exact ih0 _ _ _ _ _ _ _ _ _ _
      | exact impl_Url_text.mono _ _ _ _ _ _ _ _ _ _
      | exact impl_areShown.mono _ _
      | exact impl_isHost.mono _ _
      | exact impl_isScheme.mono _ _
      | exact LeO.none _
      | refine LeO.ite ?_ ?_
      | refine LeO.bind ?_ (fun _ => ?_)
theorem impl_UrlOK.mono : ∀ a0 a1 a2 a3 a4 a5 a6 a7 a8 k, LeO (impl_UrlOK.f k a0 a1 a2 a3 a4 a5 a6 a7 a8) (impl_UrlOK.f (k + 1) a0 a1 a2 a3 a4 a5 a6 a7 a8) := by
  intro a0 a1 a2 a3 a4 a5 a6 a7 a8 k
  have ih0 := impl_UrlOK.mono_l k
  unfold impl_UrlOK.f
  repeat' first
      | (with_reducible exact ih0 _ _ _ _ _ _ _ _ _ _)
      | (with_reducible exact impl_Url_text.mono _ _ _ _ _ _ _ _ _ _)
      | (with_reducible exact impl_areShown.mono _ _)
      | (with_reducible exact impl_isHost.mono _ _)
      | (with_reducible exact impl_isScheme.mono _ _)
      | (with_reducible exact LeO.refl _)
      | (with_reducible exact LeO.none _)
      | (with_reducible refine LeO.ite ?_ ?_)
      | (with_reducible refine LeO.bind ?_ (fun _ => ?_))
      | exact ih0 _ _ _ _ _ _ _ _ _ _
      | exact impl_Url_text.mono _ _ _ _ _ _ _ _ _ _
      | exact impl_areShown.mono _ _
      | exact impl_isHost.mono _ _
      | exact impl_isScheme.mono _ _
      | exact LeO.none _
      | refine LeO.ite ?_ ?_
      | refine LeO.bind ?_ (fun _ => ?_)
def impl_UrlOK.T7 : Bool × List (List Nat × List Nat) := (true, [([], []), ([0], [0]), ([1], [1]), ([2], [2]), ([3, 2], [3]), ([4], [4]), ([5, 4], [4, 5]), ([6, 4, 4], [4, 6]), ([4, 7], [4, 7]), ([8, 7], [8]), ([9], [9]), ([10, 9], [9, 10]), ([11, 9, 9], [9, 11]), ([9, 12], [9, 12]), ([13, 12], [13]), ([14], [14]), ([15, 14], [14, 15]), ([14], [14]), ([17, 14], [14, 17]), ([18, 14, 14], [14, 18]), ([16, 19, 14], [14, 16, 19]), ([14, 20], [14, 20]), ([21, 19], [21]), ([22], [22]), ([23, 22], [22, 23]), ([24, 22, 22], [22, 24]), ([22, 25], [22, 25]), ([26, 25], [26]), ([27], [27]), ([28, 27], [27, 28]), ([29, 27, 27], [27, 29]), ([30, 27], [27, 30]), ([27, 31], [27, 31]), ([32, 30], [32]), ([33], [33]), ([34, 33], [33, 34]), ([35, 33, 33], [33, 35]), ([36], [36]), ([37, 36], [36, 37]), ([38, 36], [36, 38]), ([36, 39, 33], [33, 36, 39]), ([33, 40], [33, 40]), ([41, 36], [41]), ([42], [42]), ([43, 42], [42, 43]), ([44, 42, 42], [42, 44]), ([45], [45]), ([46, 45], [45, 46]), ([47, 45], [45, 47]), ([45, 48, 42], [42, 45, 48]), ([42, 49], [42, 49]), ([50, 45, 0, 1, 2, 3, 4, 5, 6, 7, 8, 9, 10, 11, 12, 13, 14, 15, 16, 17, 18, 19, 20, 21, 22, 23, 24, 25, 26, 27, 28, 29, 30, 31, 32, 33, 34, 35, 36, 37, 38, 39, 40, 41, 42, 43, 44, 45, 46, 47, 48, 49, 50], [50])])
def impl_UrlOK.B7 : List Nat := [0, 1, 3, 7, 15, 31, 63, 127, 255, 511, 1023, 2047, 4095, 8191, 16383, 32767, 65535, 32767, 163839, 425983, 1048575, 2097151, 4194303, 8388607, 16777215, 33554431, 67108863, 134217727, 268435455, 536870911, 1073741823, 2147483647, 4294967295, 8589934591, 17179869183, 34359738367, 68719476735, 137438953471, 274877906943, 549755813887, 1099511627775, 2199023255551, 4398046511103, 8796093022207, 17592186044415, 35184372088831, 70368744177663, 140737488355327, 281474976710655, 562949953421311, 1125899906842623, 2251799813685247]
theorem impl_UrlOK.tab7 : rtab .any (opsOf Tryz.f27 7) = impl_UrlOK.T7 := by kernel_rfl
theorem impl_UrlOK.bits7 : waitsOk impl_UrlOK.T7.2 impl_UrlOK.B7 = true := by kernel_rfl
set_option maxHeartbeats 8000000 in
set_option maxRecDepth 100000 in
theorem impl_UrlOK.calls (k : Nat) (a0_0 : ByteArray) (a0_1 : ByteArray) (a0_2 : ByteArray) (a0_3 : Int) (a0_4 : ByteArray) (a0_5 : ByteArray) (a0_6 : ByteArray) (a0_7 : Bool) (a0_8 : Bool) (r : Bool) (w : World) (hM : Amb w) (h : impl_UrlOK.f k a0_0 a0_1 a0_2 a0_3 a0_4 a0_5 a0_6 a0_7 a0_8 = some r) :
    Calls Tryz.prog 27 #[.agg #[.string a0_0, .string a0_1, .string a0_2, .int .i64 a0_3, .string a0_4, .string a0_5, .string a0_6, .bool a0_7, .bool a0_8]] w fun e w' => e = .returned (.bool r) ∧ Below w.heap.size w w' := by
 have hu32 := Tryz.underlying32
 have HB := Aside0.mk (Below.refl w.heap.size w)
 have HM := Aside0.mk hM
 clear hM
 have H : ((impl_isScheme.f k a0_0).bind fun t204 => (if t204 = true then (if (wrap64 ((wrap64 ((wrap64 ((wrap64 ((a0_1.size : Int) + (a0_2.size : Int))) + (a0_4.size : Int))) + (a0_5.size : Int))) + (a0_6.size : Int))) > 100 then (impl_UrlOK.j0 k true a0_0 a0_1 a0_2 a0_3 a0_4 a0_5 a0_6 a0_7 a0_8) else ((impl_Url_text.f k a0_0 a0_1 a0_2 a0_3 a0_4 a0_5 a0_6 a0_7 a0_8).bind fun t205 => (if (t205.size : Int) > 100 then (impl_UrlOK.j0 k true a0_0 a0_1 a0_2 a0_3 a0_4 a0_5 a0_6 a0_7 a0_8) else (if a0_1.size + a0_2.size ≤ 9223372036854775807 then (if (a0_1 ++ a0_2).size + a0_4.size ≤ 9223372036854775807 then (if ((a0_1 ++ a0_2) ++ a0_4).size + a0_5.size ≤ 9223372036854775807 then (if (((a0_1 ++ a0_2) ++ a0_4) ++ a0_5).size + a0_6.size ≤ 9223372036854775807 then ((impl_areShown.f k ((((a0_1 ++ a0_2) ++ a0_4) ++ a0_5) ++ a0_6)).bind fun t206 => (impl_UrlOK.j0 k (!t206) a0_0 a0_1 a0_2 a0_3 a0_4 a0_5 a0_6 a0_7 a0_8)) else (none)) else (none)) else (none)) else (none))))) else (impl_UrlOK.j0 k true a0_0 a0_1 a0_2 a0_3 a0_4 a0_5 a0_6 a0_7 a0_8))) = some r := h
 clear h
 have HC2 := Aside0.mk H
 clear H
 go_enter Tryz.func27, Tryz.ntmps27
 go_upto_region 1 with (first | ((with_reducible refine gate_dst (N := 1) rfl ?_); (try (refine gate_guard (by rfl) ?_; dsimp only)); refine box_event ?hg (N := 1) ?hd (cs := #[.string a0_0, .string a0_1, .string a0_2, .int .i64 a0_3, .string a0_4, .string a0_5, .string a0_6, .bool a0_7, .bool a0_8]) (t := 32) ?hr ?_; (case hd => rfl); (case hg => rfl); (case hr => first | (go_simp; done) | (go_simp; rfl)); intro gb203 hg w3 hbox hb; have n0_ := belB_ hb; have n1_ := Aside0.mk (hbox); have n2_ := Aside0.mk ((by rw [hg]; exact (below_size belE_) : w.heap.size ≤ gb203)); have n3_ := Aside0.mk ((by rw [hg]; exact (below_size belE_) : w.heap.size ≤ gb203)); clear HB; have HB := n0_; have BK203 := n1_; have GW203 := n2_; have GE203 := n3_; clear n0_ n1_ n2_ n3_; clear hb hbox hg))
 (try simp only [Act.put, List.setIfInBounds_toArray, List.set_cons_zero, List.set_cons_succ])
 go_cut [52] (fun v52 wc => ∃ (kq : Nat) (x52_1 : Bool), v52 = .bool x52_1 ∧ Aside0 (impl_UrlOK.j0 kq x52_1 a0_0 a0_1 a0_2 a0_3 a0_4 a0_5 a0_6 a0_7 a0_8 = some r) ∧ Aside0 (kq ≤ k) ∧ Aside0 (wc.heap[gb203]? = some (.cells #[.string a0_0, .string a0_1, .string a0_2, .int .i64 a0_3, .string a0_4, .string a0_5, .string a0_6, .bool a0_7, .bool a0_8] 32 (0, 0))) ∧ Aside0 (Below w.heap.size w wc))
 case first =>
  have H := HC2.out
  clear HC2
  obtain ⟨t204, A4, H⟩ := bindE_ H
  by_cases c5 : t204 = true
  ·
   subst c5
   replace H := ifT_ H
   by_cases c6 : (wrap64 ((wrap64 ((wrap64 ((wrap64 ((a0_1.size : Int) + (a0_2.size : Int))) + (a0_4.size : Int))) + (a0_5.size : Int))) + (a0_6.size : Int))) > 100
   ·
    rw [if_pos c6] at H
    have c6b0 : decide (100 < (wrap64 ((wrap64 ((wrap64 ((wrap64 ((a0_1.size : Int) + (a0_2.size : Int))) + (a0_4.size : Int))) + (a0_5.size : Int))) + (a0_6.size : Int)))) = true := decide_eq_true c6
    clear c6
    (first | rw [c6b0] | (simp only [i64_w, i32_w]; rw [c6b0]) | skip)
    have H' := Aside0.mk H
    clear H
    obtain ⟨hcz7_0, hcz7_1, hcz7_2, hcz7_3, hcz7_4, hcz7_5, hcz7_6, hcz7_7, hcz7_8, hfz7_0, hfz7_1, hfz7_2, hfz7_3, hfz7_4, hfz7_5, hfz7_6, hfz7_7, hfz7_8⟩ := cz9_ BK203
    go_wp2_with (first | ((with_reducible refine gate_callee (f := 67) rfl ?_); refine cU_ (some 5) Tryz.func67 #[.string a0_0] ?_; (with_reducible refine (impl_isScheme.calls k a0_0 true _ A4.out).mono ?_); rintro e w8 ⟨rfl, hb⟩; refine ⟨_, rfl, ?_⟩; replace BK203 := blkK_ BK203 hb; replace HB := belB_ hb; (try clear hb); obtain ⟨hcz9_0, hcz9_1, hcz9_2, hcz9_3, hcz9_4, hcz9_5, hcz9_6, hcz9_7, hcz9_8, hfz9_0, hfz9_1, hfz9_2, hfz9_3, hfz9_4, hfz9_5, hfz9_6, hfz9_7, hfz9_8⟩ := cz9_ BK203))
    go_meet
    case rel => exact ⟨_, (true), eqE_, H', ⟨leE_⟩, ⟨blkE_⟩, ⟨belE_⟩⟩
   ·
    rw [if_neg c6] at H
    have c6b0 : decide (100 < (wrap64 ((wrap64 ((wrap64 ((wrap64 ((a0_1.size : Int) + (a0_2.size : Int))) + (a0_4.size : Int))) + (a0_5.size : Int))) + (a0_6.size : Int)))) = false := decide_eq_false c6
    clear c6
    (first | rw [c6b0] | (simp only [i64_w, i32_w]; rw [c6b0]) | skip)
    obtain ⟨t205, A10, H⟩ := bindE_ H
    by_cases c11 : (t205.size : Int) > 100
    ·
     rw [if_pos c11] at H
     have c11b0 : decide (100 < (t205.size : Int)) = true := decide_eq_true c11
     have c11b1 : decide (100 < t205.size) = true := decide_eq_true (by omega)
     clear c11
     have H' := Aside0.mk H
     clear H
     obtain ⟨hcz12_0, hcz12_1, hcz12_2, hcz12_3, hcz12_4, hcz12_5, hcz12_6, hcz12_7, hcz12_8, hfz12_0, hfz12_1, hfz12_2, hfz12_3, hfz12_4, hfz12_5, hfz12_6, hfz12_7, hfz12_8⟩ := cz9_ BK203
     go_wp2_with (first | ((with_reducible refine gate_callee (f := 67) rfl ?_); refine cU_ (some 5) Tryz.func67 #[.string a0_0] ?_; (with_reducible refine (impl_isScheme.calls k a0_0 true _ A4.out).mono ?_); rintro e w13 ⟨rfl, hb⟩; refine ⟨_, rfl, ?_⟩; replace BK203 := blkK_ BK203 hb; replace HB := belB_ hb; (try clear hb); obtain ⟨hcz14_0, hcz14_1, hcz14_2, hcz14_3, hcz14_4, hcz14_5, hcz14_6, hcz14_7, hcz14_8, hfz14_0, hfz14_1, hfz14_2, hfz14_3, hfz14_4, hfz14_5, hfz14_6, hfz14_7, hfz14_8⟩ := cz9_ BK203) | (go_at_call 65; (with_reducible refine (impl_Url_text.calls k a0_0 a0_1 a0_2 a0_3 a0_4 a0_5 a0_6 a0_7 a0_8 t205 _ ?side1 A10.out).mono ?_); (case side1 => exact Amb.on HM.out belE_); rintro e w15 ⟨rfl, hb⟩; replace BK203 := blkK_ BK203 hb; replace HB := belB_ hb; (try clear hb)))
     go_meet
     case rel => exact ⟨_, (true), eqE_, H', ⟨leE_⟩, ⟨blkE_⟩, ⟨belE_⟩⟩
    ·
     rw [if_neg c11] at H
     have c11b0 : decide (100 < (t205.size : Int)) = false := decide_eq_false c11
     have c11b1 : decide (100 < t205.size) = false := decide_eq_false (by omega)
     clear c11
     by_cases c16 : a0_1.size + a0_2.size ≤ 9223372036854775807
     ·
      rw [if_pos c16] at H
      (have wq_ : wrap64 ((a0_1.size : Int) + (a0_2.size : Int)) = (a0_1.size : Int) + (a0_2.size : Int) := by unfold wrap64; omega); (try rw [wq_] at c6b0); clear wq_
      (have wq_ : wrap64 ((a0_1.size : Int) + (a0_2.size : Int)) = (a0_1.size : Int) + (a0_2.size : Int) := by unfold wrap64; omega); (try rw [wq_] at c6b0); clear wq_
      have c16b0 := eq_true c16
      have c16b1 : decide (a0_1.size + a0_2.size ≤ 9223372036854775807) = true := decide_eq_true c16
      try have c16b2 : (9223372036854775807 < a0_1.size + a0_2.size) = False := eq_false (Nat.not_lt.2 c16)
      try (have c16b3 := c16b0; simp only [ByteArray.size_extract, ByteArray.size_append, bsize_lit, List.length_cons, List.length_nil, Nat.reduceAdd, Nat.zero_add] at c16b3)
      try (have c16b4 := c16b1; simp only [ByteArray.size_extract, ByteArray.size_append, bsize_lit, List.length_cons, List.length_nil, Nat.reduceAdd, Nat.zero_add] at c16b4)
      try (have c16b5 := c16b2; simp only [ByteArray.size_extract, ByteArray.size_append, bsize_lit, List.length_cons, List.length_nil, Nat.reduceAdd, Nat.zero_add] at c16b5)
      by_cases c17 : (a0_1 ++ a0_2).size + a0_4.size ≤ 9223372036854775807
      ·
       rw [if_pos c17] at H
       have c17b0 := eq_true c17
       have c17b1 : decide ((a0_1 ++ a0_2).size + a0_4.size ≤ 9223372036854775807) = true := decide_eq_true c17
       try have c17b2 : (9223372036854775807 < (a0_1 ++ a0_2).size + a0_4.size) = False := eq_false (Nat.not_lt.2 c17)
       try (have c17b3 := c17b0; simp only [ByteArray.size_extract, ByteArray.size_append, bsize_lit, List.length_cons, List.length_nil, Nat.reduceAdd, Nat.zero_add] at c17b3)
       try (have c17b4 := c17b1; simp only [ByteArray.size_extract, ByteArray.size_append, bsize_lit, List.length_cons, List.length_nil, Nat.reduceAdd, Nat.zero_add] at c17b4)
       try (have c17b5 := c17b2; simp only [ByteArray.size_extract, ByteArray.size_append, bsize_lit, List.length_cons, List.length_nil, Nat.reduceAdd, Nat.zero_add] at c17b5)
       by_cases c18 : ((a0_1 ++ a0_2) ++ a0_4).size + a0_5.size ≤ 9223372036854775807
       ·
        rw [if_pos c18] at H
        have c18b0 := eq_true c18
        have c18b1 : decide (((a0_1 ++ a0_2) ++ a0_4).size + a0_5.size ≤ 9223372036854775807) = true := decide_eq_true c18
        try have c18b2 : (9223372036854775807 < ((a0_1 ++ a0_2) ++ a0_4).size + a0_5.size) = False := eq_false (Nat.not_lt.2 c18)
        try (have c18b3 := c18b0; simp only [ByteArray.size_extract, ByteArray.size_append, bsize_lit, List.length_cons, List.length_nil, Nat.reduceAdd, Nat.zero_add] at c18b3)
        try (have c18b4 := c18b1; simp only [ByteArray.size_extract, ByteArray.size_append, bsize_lit, List.length_cons, List.length_nil, Nat.reduceAdd, Nat.zero_add] at c18b4)
        try (have c18b5 := c18b2; simp only [ByteArray.size_extract, ByteArray.size_append, bsize_lit, List.length_cons, List.length_nil, Nat.reduceAdd, Nat.zero_add] at c18b5)
        by_cases c19 : (((a0_1 ++ a0_2) ++ a0_4) ++ a0_5).size + a0_6.size ≤ 9223372036854775807
        ·
         rw [if_pos c19] at H
         have c19b0 := eq_true c19
         have c19b1 : decide ((((a0_1 ++ a0_2) ++ a0_4) ++ a0_5).size + a0_6.size ≤ 9223372036854775807) = true := decide_eq_true c19
         try have c19b2 : (9223372036854775807 < (((a0_1 ++ a0_2) ++ a0_4) ++ a0_5).size + a0_6.size) = False := eq_false (Nat.not_lt.2 c19)
         try (have c19b3 := c19b0; simp only [ByteArray.size_extract, ByteArray.size_append, bsize_lit, List.length_cons, List.length_nil, Nat.reduceAdd, Nat.zero_add] at c19b3)
         try (have c19b4 := c19b1; simp only [ByteArray.size_extract, ByteArray.size_append, bsize_lit, List.length_cons, List.length_nil, Nat.reduceAdd, Nat.zero_add] at c19b4)
         try (have c19b5 := c19b2; simp only [ByteArray.size_extract, ByteArray.size_append, bsize_lit, List.length_cons, List.length_nil, Nat.reduceAdd, Nat.zero_add] at c19b5)
         obtain ⟨t206, A20, H⟩ := bindE_ H
         have H' := Aside0.mk H
         clear H
         obtain ⟨hcz21_0, hcz21_1, hcz21_2, hcz21_3, hcz21_4, hcz21_5, hcz21_6, hcz21_7, hcz21_8, hfz21_0, hfz21_1, hfz21_2, hfz21_3, hfz21_4, hfz21_5, hfz21_6, hfz21_7, hfz21_8⟩ := cz9_ BK203
         go_wp2_with (first | ((with_reducible refine gate_callee (f := 67) rfl ?_); refine cU_ (some 5) Tryz.func67 #[.string a0_0] ?_; (with_reducible refine (impl_isScheme.calls k a0_0 true _ A4.out).mono ?_); rintro e w22 ⟨rfl, hb⟩; refine ⟨_, rfl, ?_⟩; replace BK203 := blkK_ BK203 hb; replace HB := belB_ hb; (try clear hb); obtain ⟨hcz23_0, hcz23_1, hcz23_2, hcz23_3, hcz23_4, hcz23_5, hcz23_6, hcz23_7, hcz23_8, hfz23_0, hfz23_1, hfz23_2, hfz23_3, hfz23_4, hfz23_5, hfz23_6, hfz23_7, hfz23_8⟩ := cz9_ BK203) | (go_at_call 65; (with_reducible refine (impl_Url_text.calls k a0_0 a0_1 a0_2 a0_3 a0_4 a0_5 a0_6 a0_7 a0_8 t205 _ ?side1 A10.out).mono ?_); (case side1 => exact Amb.on HM.out belE_); rintro e w24 ⟨rfl, hb⟩; replace BK203 := blkK_ BK203 hb; replace HB := belB_ hb; (try clear hb); obtain ⟨hcz25_0, hcz25_1, hcz25_2, hcz25_3, hcz25_4, hcz25_5, hcz25_6, hcz25_7, hcz25_8, hfz25_0, hfz25_1, hfz25_2, hfz25_3, hfz25_4, hfz25_5, hfz25_6, hfz25_7, hfz25_8⟩ := cz9_ BK203) | (go_at_call 68; (with_reducible refine (impl_areShown.calls k ((((a0_1 ++ a0_2) ++ a0_4) ++ a0_5) ++ a0_6) t206 _ A20.out).mono ?_); rintro e w' ⟨rfl, ⟨nd, rfl⟩⟩))
         go_meet
         case rel => exact ⟨_, (!t206), eqE_, H', ⟨leE_⟩, ⟨blkE_⟩, ⟨belE_⟩⟩
        ·
         rw [if_neg c19] at H
         exact absurd H (by simp)
       ·
        rw [if_neg c18] at H
        exact absurd H (by simp)
      ·
       rw [if_neg c17] at H
       exact absurd H (by simp)
     ·
      rw [if_neg c16] at H
      exact absurd H (by simp)
  ·
   replace c5 := Bool.eq_false_iff.mpr c5
   subst c5
   replace H := ifF_ H
   have H' := Aside0.mk H
   clear H
   obtain ⟨hcz26_0, hcz26_1, hcz26_2, hcz26_3, hcz26_4, hcz26_5, hcz26_6, hcz26_7, hcz26_8, hfz26_0, hfz26_1, hfz26_2, hfz26_3, hfz26_4, hfz26_5, hfz26_6, hfz26_7, hfz26_8⟩ := cz9_ BK203
   go_wp2_with (first | ((with_reducible refine gate_callee (f := 67) rfl ?_); refine cU_ (some 5) Tryz.func67 #[.string a0_0] ?_; (with_reducible refine (impl_isScheme.calls k a0_0 false _ A4.out).mono ?_); rintro e w27 ⟨rfl, hb⟩; refine ⟨_, rfl, ?_⟩; replace BK203 := blkK_ BK203 hb; replace HB := belB_ hb; (try clear hb)))
   go_meet
   case rel => exact ⟨_, (true), eqE_, H', ⟨leE_⟩, ⟨blkE_⟩, ⟨belE_⟩⟩
 case rest =>
  clear HC2
  obtain ⟨kq, x52_1, rfl, HA, HJ1, BK203, HB⟩ := hcut
  cases kq with
  | zero => exact absurd HA.out (by simp [impl_UrlOK.j0])
  | succ kj1 =>
   have H := HA.out
   clear HA
   simp only [impl_UrlOK.j0] at H
   by_cases c28 : x52_1 = true
   ·
    subst c28
    replace H := ifT_ H
    obtain rfl := Option.some.inj H
    go_wp2
    go_ret
    exact ⟨retE_, belE_⟩
   ·
    replace c28 := Bool.eq_false_iff.mpr c28
    subst c28
    replace H := ifF_ H
    obtain ⟨t207, A29, H⟩ := bindE_ H
    by_cases c30 : t207 = true
    ·
     subst c30
     replace H := ifT_ H
     obtain rfl := Option.some.inj H
     obtain ⟨hcz31_0, hcz31_1, hcz31_2, hcz31_3, hcz31_4, hcz31_5, hcz31_6, hcz31_7, hcz31_8, hfz31_0, hfz31_1, hfz31_2, hfz31_3, hfz31_4, hfz31_5, hfz31_6, hfz31_7, hfz31_8⟩ := cz9_ BK203
     go_wp2_with (first | ((with_reducible refine gate_callee (f := 69) rfl ?_); refine cU_ (some 55) Tryz.func69 #[.string a0_4, .string (⟨#[63, 35]⟩ : ByteArray)] ?_; (with_reducible refine (strings_ContainsAny.calls a0_4 (⟨#[63, 35]⟩ : ByteArray) true _ A29.out).mono ?_); rintro e w32 ⟨rfl, hb⟩; refine ⟨_, rfl, ?_⟩; replace BK203 := blkK_ BK203 hb; replace HB := belB_ hb; (try clear hb)))
     go_ret
     exact ⟨retE_, belE_⟩
    ·
     replace c30 := Bool.eq_false_iff.mpr c30
     subst c30
     replace H := ifF_ H
     obtain ⟨t208, A33, H⟩ := bindE_ H
     by_cases c34 : t208 = true
     ·
      subst c34
      replace H := ifT_ H
      obtain ⟨t209, A35, H⟩ := bindE_ H
      by_cases c36 : t209 = true
      ·
       subst c36
       replace H := ifT_ H
       obtain rfl := Option.some.inj H
       obtain ⟨hcz37_0, hcz37_1, hcz37_2, hcz37_3, hcz37_4, hcz37_5, hcz37_6, hcz37_7, hcz37_8, hfz37_0, hfz37_1, hfz37_2, hfz37_3, hfz37_4, hfz37_5, hfz37_6, hfz37_7, hfz37_8⟩ := cz9_ BK203
       try go_wp2_with (first | ((with_reducible refine gate_callee (f := 69) rfl ?_); refine cU_ (some 55) Tryz.func69 #[.string a0_4, .string (⟨#[63, 35]⟩ : ByteArray)] ?_; (with_reducible refine (strings_ContainsAny.calls a0_4 (⟨#[63, 35]⟩ : ByteArray) false _ A29.out).mono ?_); rintro e w38 ⟨rfl, hb⟩; refine ⟨_, rfl, ?_⟩; replace BK203 := blkK_ BK203 hb; replace HB := belB_ hb; (try clear hb); obtain ⟨hcz39_0, hcz39_1, hcz39_2, hcz39_3, hcz39_4, hcz39_5, hcz39_6, hcz39_7, hcz39_8, hfz39_0, hfz39_1, hfz39_2, hfz39_3, hfz39_4, hfz39_5, hfz39_6, hfz39_7, hfz39_8⟩ := cz9_ BK203) | ((with_reducible refine gate_callee (f := 59) rfl ?_); refine cU_ (some 57) Tryz.func59 #[.agg #[.string a0_0, .string a0_1, .string a0_2, .int .i64 a0_3, .string a0_4, .string a0_5, .string a0_6, .bool a0_7, .bool a0_8]] ?_; (with_reducible refine (impl_Url_web.calls a0_0 a0_1 a0_2 a0_3 a0_4 a0_5 a0_6 a0_7 a0_8 true _ A33.out).mono ?_); rintro e w40 ⟨rfl, hb⟩; refine ⟨_, rfl, ?_⟩; replace BK203 := blkK_ BK203 hb; replace HB := belB_ hb; (try clear hb)))
       replace BK203 := Aside0.mk (blk_drew BK203.out)
       replace HB := Aside0.mk (below_drew1 HB.out)
       refine startU_ (n := 52) (S := fun w' => w'.cell? ⟨gb203, 0, none⟩ = some (.string a0_0) ∧ w'.cell? ⟨gb203, 1, none⟩ = some (.string a0_1) ∧ w'.cell? ⟨gb203, 2, none⟩ = some (.string a0_2) ∧ w'.cell? ⟨gb203, 3, none⟩ = some (.int .i64 a0_3) ∧ w'.cell? ⟨gb203, 4, none⟩ = some (.string a0_4) ∧ w'.cell? ⟨gb203, 5, none⟩ = some (.string a0_5) ∧ w'.cell? ⟨gb203, 6, none⟩ = some (.string a0_6) ∧ w'.cell? ⟨gb203, 7, none⟩ = some (.bool a0_7) ∧ w'.cell? ⟨gb203, 8, none⟩ = some (.bool a0_8)) (ds := []) (held9_ BK203.out) (fun hHeld => ?_); refine with_tabW impl_UrlOK.tab7 impl_UrlOK.bits7 (fun HT_ HW_ => ?_)
       generalize w40.drew = w41 at BK203 HB hHeld ⊢
       refine pU_ ?_
       refine tU_ ?_
       refine oU_ (fun K hK => ?_)
       refine gU_ Tryz.func69 #[.string a0_1, .string (⟨#[47, 63, 35, 64]⟩ : ByteArray)] ?_
       with_reducible refine (strings_ContainsAny.calls a0_1 (⟨#[47, 63, 35, 64]⟩ : ByteArray) true _ A35.out).mono ?_
       rintro e w42 ⟨rfl, hb⟩
       refine ⟨_, rfl, ?_⟩
       replace BK203 := blkK_ BK203 hb
       replace HB := belB_ hb
       (try clear hb)
       refine hK.out _ _ (held9_ BK203.out) (fun hHeld => ?_)
       clear hK K
       refine nU_ ?_
       iterate 2 refine pU_ ?_
       iterate 3 refine sU_ ?_
       iterate 2 refine pU_ ?_
       iterate 3 refine sU_ ?_
       iterate 2 refine pU_ ?_
       iterate 6 refine sU_ ?_
       iterate 2 refine pU_ ?_
       iterate 3 refine sU_ ?_
       iterate 2 refine pU_ ?_
       iterate 4 refine sU_ ?_
       iterate 2 refine pU_ ?_
       iterate 7 refine sU_ ?_
       iterate 2 refine pU_ ?_
       iterate 7 refine sU_ ?_
       iterate 2 refine pU_ ?_
       refine doneU_ ?_
       try go_wp2
       go_ret
       exact ⟨retE_, belE_⟩
      ·
       replace c36 := Bool.eq_false_iff.mpr c36
       subst c36
       replace H := ifF_ H
       obtain ⟨t210, A43, H⟩ := bindE_ H
       by_cases c44 : t210 = true
       ·
        subst c44
        replace H := ifT_ H
        obtain ⟨t211, A45, H⟩ := bindE_ H
        by_cases c46 : t211 = true
        ·
         subst c46
         replace H := ifT_ H
         obtain ⟨t212, A47, H⟩ := bindE_ H
         by_cases c48 : a0_3 = t212
         ·
          rw [if_pos c48] at H
          have c48b0 : (a0_3 == t212) = true := beq_iff_eq.mpr c48
          have c48b1 : (a0_3 != t212) = false := bne_eq_false_iff_eq.mpr c48
          clear c48
          obtain rfl := Option.some.inj H
          obtain ⟨hcz49_0, hcz49_1, hcz49_2, hcz49_3, hcz49_4, hcz49_5, hcz49_6, hcz49_7, hcz49_8, hfz49_0, hfz49_1, hfz49_2, hfz49_3, hfz49_4, hfz49_5, hfz49_6, hfz49_7, hfz49_8⟩ := cz9_ BK203
          try go_wp2_with (first | ((with_reducible refine gate_callee (f := 69) rfl ?_); refine cU_ (some 55) Tryz.func69 #[.string a0_4, .string (⟨#[63, 35]⟩ : ByteArray)] ?_; (with_reducible refine (strings_ContainsAny.calls a0_4 (⟨#[63, 35]⟩ : ByteArray) false _ A29.out).mono ?_); rintro e w50 ⟨rfl, hb⟩; refine ⟨_, rfl, ?_⟩; replace BK203 := blkK_ BK203 hb; replace HB := belB_ hb; (try clear hb); obtain ⟨hcz51_0, hcz51_1, hcz51_2, hcz51_3, hcz51_4, hcz51_5, hcz51_6, hcz51_7, hcz51_8, hfz51_0, hfz51_1, hfz51_2, hfz51_3, hfz51_4, hfz51_5, hfz51_6, hfz51_7, hfz51_8⟩ := cz9_ BK203) | ((with_reducible refine gate_callee (f := 59) rfl ?_); refine cU_ (some 57) Tryz.func59 #[.agg #[.string a0_0, .string a0_1, .string a0_2, .int .i64 a0_3, .string a0_4, .string a0_5, .string a0_6, .bool a0_7, .bool a0_8]] ?_; (with_reducible refine (impl_Url_web.calls a0_0 a0_1 a0_2 a0_3 a0_4 a0_5 a0_6 a0_7 a0_8 true _ A33.out).mono ?_); rintro e w52 ⟨rfl, hb⟩; refine ⟨_, rfl, ?_⟩; replace BK203 := blkK_ BK203 hb; replace HB := belB_ hb; (try clear hb)))
          replace BK203 := Aside0.mk (blk_drew BK203.out)
          replace HB := Aside0.mk (below_drew1 HB.out)
          refine startU_ (n := 52) (S := fun w' => w'.cell? ⟨gb203, 0, none⟩ = some (.string a0_0) ∧ w'.cell? ⟨gb203, 1, none⟩ = some (.string a0_1) ∧ w'.cell? ⟨gb203, 2, none⟩ = some (.string a0_2) ∧ w'.cell? ⟨gb203, 3, none⟩ = some (.int .i64 a0_3) ∧ w'.cell? ⟨gb203, 4, none⟩ = some (.string a0_4) ∧ w'.cell? ⟨gb203, 5, none⟩ = some (.string a0_5) ∧ w'.cell? ⟨gb203, 6, none⟩ = some (.string a0_6) ∧ w'.cell? ⟨gb203, 7, none⟩ = some (.bool a0_7) ∧ w'.cell? ⟨gb203, 8, none⟩ = some (.bool a0_8)) (ds := []) (held9_ BK203.out) (fun hHeld => ?_); refine with_tabW impl_UrlOK.tab7 impl_UrlOK.bits7 (fun HT_ HW_ => ?_)
          generalize w52.drew = w53 at BK203 HB hHeld ⊢
          refine pU_ ?_
          refine tU_ ?_
          refine oU_ (fun K hK => ?_)
          refine gU_ Tryz.func69 #[.string a0_1, .string (⟨#[47, 63, 35, 64]⟩ : ByteArray)] ?_
          with_reducible refine (strings_ContainsAny.calls a0_1 (⟨#[47, 63, 35, 64]⟩ : ByteArray) false _ A35.out).mono ?_
          rintro e w54 ⟨rfl, hb⟩
          refine ⟨_, rfl, ?_⟩
          replace BK203 := blkK_ BK203 hb
          replace HB := belB_ hb
          (try clear hb)
          refine hK.out _ _ (held9_ BK203.out) (fun hHeld => ?_)
          clear hK K
          refine nU_ ?_
          iterate 3 refine pU_ ?_
          refine tU_ ?_
          refine oU_ (fun K hK => ?_)
          refine gU_ Tryz.func70 #[.string a0_2] ?_
          with_reducible refine (impl_isHost.calls kj1 a0_2 true _ A43.out).mono ?_
          rintro e w' ⟨rfl, ⟨nd, rfl⟩⟩
          refine ⟨_, rfl, ?_⟩
          refine hK.out _ _ (held9_ BK203.out) (fun hHeld => ?_)
          clear hK K
          refine nU_ ?_
          iterate 3 refine pU_ ?_
          refine tU_ ?_
          refine oU_ (fun K hK => ?_)
          refine gU_ Tryz.func71 #[.int .i64 a0_3, .int .i64 0, .int .i64 65535] ?_
          with_reducible refine (impl_within.calls a0_3 0 65535 true _ A45.out).mono ?_
          rintro e w' ⟨rfl, ⟨nd, rfl⟩⟩
          refine ⟨_, rfl, ?_⟩
          refine hK.out _ _ (held9_ BK203.out) (fun hHeld => ?_)
          clear hK K
          refine nU_ ?_
          iterate 3 refine pU_ ?_
          refine pUX_ 17 ?_
          refine tU_ ?_
          refine aU_ ?_
          refine tU_ ?_
          refine oU_ (fun K hK => ?_)
          refine gU_ Tryz.func72 #[.string a0_0] ?_
          with_reducible refine (impl_usual.calls a0_0 t212 _ A47.out).mono ?_
          rintro e w' ⟨rfl, ⟨nd, rfl⟩⟩
          refine ⟨_, rfl, ?_⟩
          refine hK.out _ _ (held9_ BK203.out) (fun hHeld => ?_)
          clear hK K
          refine nU_ ?_
          iterate 3 refine pU_ ?_
          iterate 3 refine sU_ ?_
          iterate 2 refine pU_ ?_
          iterate 4 refine sU_ ?_
          iterate 2 refine pU_ ?_
          iterate 7 refine sU_ ?_
          iterate 2 refine pU_ ?_
          iterate 7 refine sU_ ?_
          iterate 2 refine pU_ ?_
          refine doneU_ ?_
          try go_wp2
          go_ret
          exact ⟨retE_, belE_⟩
         ·
          rw [if_neg c48] at H
          have c48b0 : (a0_3 == t212) = false := beq_eq_false_iff_ne.mpr c48
          have c48b1 : (a0_3 != t212) = true := bne_iff_ne.mpr c48
          obtain ⟨t213, A55, H⟩ := bindE_ H
          by_cases c56 : t213 = true
          ·
           subst c56
           replace H := ifT_ H
           obtain ⟨t214, A57, H⟩ := bindE_ H
           by_cases c58 : t214 = true
           ·
            subst c58
            replace H := ifT_ H
            obtain rfl := Option.some.inj H
            obtain ⟨hcz59_0, hcz59_1, hcz59_2, hcz59_3, hcz59_4, hcz59_5, hcz59_6, hcz59_7, hcz59_8, hfz59_0, hfz59_1, hfz59_2, hfz59_3, hfz59_4, hfz59_5, hfz59_6, hfz59_7, hfz59_8⟩ := cz9_ BK203
            try go_wp2_with (first | ((with_reducible refine gate_callee (f := 69) rfl ?_); refine cU_ (some 55) Tryz.func69 #[.string a0_4, .string (⟨#[63, 35]⟩ : ByteArray)] ?_; (with_reducible refine (strings_ContainsAny.calls a0_4 (⟨#[63, 35]⟩ : ByteArray) false _ A29.out).mono ?_); rintro e w60 ⟨rfl, hb⟩; refine ⟨_, rfl, ?_⟩; replace BK203 := blkK_ BK203 hb; replace HB := belB_ hb; (try clear hb); obtain ⟨hcz61_0, hcz61_1, hcz61_2, hcz61_3, hcz61_4, hcz61_5, hcz61_6, hcz61_7, hcz61_8, hfz61_0, hfz61_1, hfz61_2, hfz61_3, hfz61_4, hfz61_5, hfz61_6, hfz61_7, hfz61_8⟩ := cz9_ BK203) | ((with_reducible refine gate_callee (f := 59) rfl ?_); refine cU_ (some 57) Tryz.func59 #[.agg #[.string a0_0, .string a0_1, .string a0_2, .int .i64 a0_3, .string a0_4, .string a0_5, .string a0_6, .bool a0_7, .bool a0_8]] ?_; (with_reducible refine (impl_Url_web.calls a0_0 a0_1 a0_2 a0_3 a0_4 a0_5 a0_6 a0_7 a0_8 true _ A33.out).mono ?_); rintro e w62 ⟨rfl, hb⟩; refine ⟨_, rfl, ?_⟩; replace BK203 := blkK_ BK203 hb; replace HB := belB_ hb; (try clear hb)))
            replace BK203 := Aside0.mk (blk_drew BK203.out)
            replace HB := Aside0.mk (below_drew1 HB.out)
            refine startU_ (n := 52) (S := fun w' => w'.cell? ⟨gb203, 0, none⟩ = some (.string a0_0) ∧ w'.cell? ⟨gb203, 1, none⟩ = some (.string a0_1) ∧ w'.cell? ⟨gb203, 2, none⟩ = some (.string a0_2) ∧ w'.cell? ⟨gb203, 3, none⟩ = some (.int .i64 a0_3) ∧ w'.cell? ⟨gb203, 4, none⟩ = some (.string a0_4) ∧ w'.cell? ⟨gb203, 5, none⟩ = some (.string a0_5) ∧ w'.cell? ⟨gb203, 6, none⟩ = some (.string a0_6) ∧ w'.cell? ⟨gb203, 7, none⟩ = some (.bool a0_7) ∧ w'.cell? ⟨gb203, 8, none⟩ = some (.bool a0_8)) (ds := []) (held9_ BK203.out) (fun hHeld => ?_); refine with_tabW impl_UrlOK.tab7 impl_UrlOK.bits7 (fun HT_ HW_ => ?_)
            generalize w62.drew = w63 at BK203 HB hHeld ⊢
            refine pU_ ?_
            refine tU_ ?_
            refine oU_ (fun K hK => ?_)
            refine gU_ Tryz.func69 #[.string a0_1, .string (⟨#[47, 63, 35, 64]⟩ : ByteArray)] ?_
            with_reducible refine (strings_ContainsAny.calls a0_1 (⟨#[47, 63, 35, 64]⟩ : ByteArray) false _ A35.out).mono ?_
            rintro e w64 ⟨rfl, hb⟩
            refine ⟨_, rfl, ?_⟩
            replace BK203 := blkK_ BK203 hb
            replace HB := belB_ hb
            (try clear hb)
            refine hK.out _ _ (held9_ BK203.out) (fun hHeld => ?_)
            clear hK K
            refine nU_ ?_
            iterate 3 refine pU_ ?_
            refine tU_ ?_
            refine oU_ (fun K hK => ?_)
            refine gU_ Tryz.func70 #[.string a0_2] ?_
            with_reducible refine (impl_isHost.calls kj1 a0_2 true _ A43.out).mono ?_
            rintro e w' ⟨rfl, ⟨nd, rfl⟩⟩
            refine ⟨_, rfl, ?_⟩
            refine hK.out _ _ (held9_ BK203.out) (fun hHeld => ?_)
            clear hK K
            refine nU_ ?_
            iterate 3 refine pU_ ?_
            refine tU_ ?_
            refine oU_ (fun K hK => ?_)
            refine gU_ Tryz.func71 #[.int .i64 a0_3, .int .i64 0, .int .i64 65535] ?_
            with_reducible refine (impl_within.calls a0_3 0 65535 true _ A45.out).mono ?_
            rintro e w' ⟨rfl, ⟨nd, rfl⟩⟩
            refine ⟨_, rfl, ?_⟩
            refine hK.out _ _ (held9_ BK203.out) (fun hHeld => ?_)
            clear hK K
            refine nU_ ?_
            iterate 3 refine pU_ ?_
            refine pUX_ 17 ?_
            refine tU_ ?_
            refine aU_ ?_
            refine tU_ ?_
            refine oU_ (fun K hK => ?_)
            refine gU_ Tryz.func72 #[.string a0_0] ?_
            with_reducible refine (impl_usual.calls a0_0 t212 _ A47.out).mono ?_
            rintro e w' ⟨rfl, ⟨nd, rfl⟩⟩
            refine ⟨_, rfl, ?_⟩
            refine hK.out _ _ (held9_ BK203.out) (fun hHeld => ?_)
            clear hK K
            refine nU_ ?_
            iterate 4 refine pU_ ?_
            refine tU_ ?_
            refine oU_ (fun K hK => ?_)
            refine gU_ Tryz.func73 #[.string a0_4, .string (⟨#[47]⟩ : ByteArray)] ?_
            with_reducible refine (strings_HasPrefix.calls a0_4 (⟨#[47]⟩ : ByteArray) true _ A55.out).mono ?_
            rintro e w' ⟨rfl, ⟨nd, rfl⟩⟩
            refine ⟨_, rfl, ?_⟩
            refine hK.out _ _ (held9_ BK203.out) (fun hHeld => ?_)
            clear hK K
            refine nU_ ?_
            iterate 3 refine pU_ ?_
            refine tU_ ?_
            refine oU_ (fun K hK => ?_)
            refine gU_ Tryz.func74 #[.string a0_5, .string (⟨#[35]⟩ : ByteArray)] ?_
            with_reducible refine (strings_Contains.calls a0_5 (⟨#[35]⟩ : ByteArray) true _ A57.out).mono ?_
            rintro e w' ⟨rfl, ⟨nd, rfl⟩⟩
            refine ⟨_, rfl, ?_⟩
            refine hK.out _ _ (held9_ BK203.out) (fun hHeld => ?_)
            clear hK K
            refine nU_ ?_
            iterate 3 refine pU_ ?_
            iterate 7 refine sU_ ?_
            iterate 2 refine pU_ ?_
            iterate 7 refine sU_ ?_
            iterate 2 refine pU_ ?_
            refine doneU_ ?_
            try go_wp2
            go_ret
            exact ⟨retE_, belE_⟩
           ·
            replace c58 := Bool.eq_false_iff.mpr c58
            subst c58
            replace H := ifF_ H
            by_cases c65 : a0_7 = true
            ·
             subst c65
             replace H := ifT_ H
             by_cases c66 : a0_8 = true
             ·
              subst c66
              replace H := ifT_ H
              obtain rfl := Option.some.inj H
              obtain ⟨hcz67_0, hcz67_1, hcz67_2, hcz67_3, hcz67_4, hcz67_5, hcz67_6, hcz67_7, hcz67_8, hfz67_0, hfz67_1, hfz67_2, hfz67_3, hfz67_4, hfz67_5, hfz67_6, hfz67_7, hfz67_8⟩ := cz9_ BK203
              try go_wp2_with (first | ((with_reducible refine gate_callee (f := 69) rfl ?_); refine cU_ (some 55) Tryz.func69 #[.string a0_4, .string (⟨#[63, 35]⟩ : ByteArray)] ?_; (with_reducible refine (strings_ContainsAny.calls a0_4 (⟨#[63, 35]⟩ : ByteArray) false _ A29.out).mono ?_); rintro e w68 ⟨rfl, hb⟩; refine ⟨_, rfl, ?_⟩; replace BK203 := blkK_ BK203 hb; replace HB := belB_ hb; (try clear hb); obtain ⟨hcz69_0, hcz69_1, hcz69_2, hcz69_3, hcz69_4, hcz69_5, hcz69_6, hcz69_7, hcz69_8, hfz69_0, hfz69_1, hfz69_2, hfz69_3, hfz69_4, hfz69_5, hfz69_6, hfz69_7, hfz69_8⟩ := cz9_ BK203) | ((with_reducible refine gate_callee (f := 59) rfl ?_); refine cU_ (some 57) Tryz.func59 #[.agg #[.string a0_0, .string a0_1, .string a0_2, .int .i64 a0_3, .string a0_4, .string a0_5, .string a0_6, .bool true, .bool true]] ?_; (with_reducible refine (impl_Url_web.calls a0_0 a0_1 a0_2 a0_3 a0_4 a0_5 a0_6 true true true _ A33.out).mono ?_); rintro e w70 ⟨rfl, hb⟩; refine ⟨_, rfl, ?_⟩; replace BK203 := blkK_ BK203 hb; replace HB := belB_ hb; (try clear hb)))
              replace BK203 := Aside0.mk (blk_drew BK203.out)
              replace HB := Aside0.mk (below_drew1 HB.out)
              refine startU_ (n := 52) (S := fun w' => w'.cell? ⟨gb203, 0, none⟩ = some (.string a0_0) ∧ w'.cell? ⟨gb203, 1, none⟩ = some (.string a0_1) ∧ w'.cell? ⟨gb203, 2, none⟩ = some (.string a0_2) ∧ w'.cell? ⟨gb203, 3, none⟩ = some (.int .i64 a0_3) ∧ w'.cell? ⟨gb203, 4, none⟩ = some (.string a0_4) ∧ w'.cell? ⟨gb203, 5, none⟩ = some (.string a0_5) ∧ w'.cell? ⟨gb203, 6, none⟩ = some (.string a0_6) ∧ w'.cell? ⟨gb203, 7, none⟩ = some (.bool true) ∧ w'.cell? ⟨gb203, 8, none⟩ = some (.bool true)) (ds := []) (held9_ BK203.out) (fun hHeld => ?_); refine with_tabW impl_UrlOK.tab7 impl_UrlOK.bits7 (fun HT_ HW_ => ?_)
              generalize w70.drew = w71 at BK203 HB hHeld ⊢
              refine pU_ ?_
              refine tU_ ?_
              refine oU_ (fun K hK => ?_)
              refine gU_ Tryz.func69 #[.string a0_1, .string (⟨#[47, 63, 35, 64]⟩ : ByteArray)] ?_
              with_reducible refine (strings_ContainsAny.calls a0_1 (⟨#[47, 63, 35, 64]⟩ : ByteArray) false _ A35.out).mono ?_
              rintro e w72 ⟨rfl, hb⟩
              refine ⟨_, rfl, ?_⟩
              replace BK203 := blkK_ BK203 hb
              replace HB := belB_ hb
              (try clear hb)
              refine hK.out _ _ (held9_ BK203.out) (fun hHeld => ?_)
              clear hK K
              refine nU_ ?_
              iterate 3 refine pU_ ?_
              refine tU_ ?_
              refine oU_ (fun K hK => ?_)
              refine gU_ Tryz.func70 #[.string a0_2] ?_
              with_reducible refine (impl_isHost.calls kj1 a0_2 true _ A43.out).mono ?_
              rintro e w' ⟨rfl, ⟨nd, rfl⟩⟩
              refine ⟨_, rfl, ?_⟩
              refine hK.out _ _ (held9_ BK203.out) (fun hHeld => ?_)
              clear hK K
              refine nU_ ?_
              iterate 3 refine pU_ ?_
              refine tU_ ?_
              refine oU_ (fun K hK => ?_)
              refine gU_ Tryz.func71 #[.int .i64 a0_3, .int .i64 0, .int .i64 65535] ?_
              with_reducible refine (impl_within.calls a0_3 0 65535 true _ A45.out).mono ?_
              rintro e w' ⟨rfl, ⟨nd, rfl⟩⟩
              refine ⟨_, rfl, ?_⟩
              refine hK.out _ _ (held9_ BK203.out) (fun hHeld => ?_)
              clear hK K
              refine nU_ ?_
              iterate 3 refine pU_ ?_
              refine pUX_ 17 ?_
              refine tU_ ?_
              refine aU_ ?_
              refine tU_ ?_
              refine oU_ (fun K hK => ?_)
              refine gU_ Tryz.func72 #[.string a0_0] ?_
              with_reducible refine (impl_usual.calls a0_0 t212 _ A47.out).mono ?_
              rintro e w' ⟨rfl, ⟨nd, rfl⟩⟩
              refine ⟨_, rfl, ?_⟩
              refine hK.out _ _ (held9_ BK203.out) (fun hHeld => ?_)
              clear hK K
              refine nU_ ?_
              iterate 4 refine pU_ ?_
              refine tU_ ?_
              refine oU_ (fun K hK => ?_)
              refine gU_ Tryz.func73 #[.string a0_4, .string (⟨#[47]⟩ : ByteArray)] ?_
              with_reducible refine (strings_HasPrefix.calls a0_4 (⟨#[47]⟩ : ByteArray) true _ A55.out).mono ?_
              rintro e w' ⟨rfl, ⟨nd, rfl⟩⟩
              refine ⟨_, rfl, ?_⟩
              refine hK.out _ _ (held9_ BK203.out) (fun hHeld => ?_)
              clear hK K
              refine nU_ ?_
              iterate 3 refine pU_ ?_
              refine tU_ ?_
              refine oU_ (fun K hK => ?_)
              refine gU_ Tryz.func74 #[.string a0_5, .string (⟨#[35]⟩ : ByteArray)] ?_
              with_reducible refine (strings_Contains.calls a0_5 (⟨#[35]⟩ : ByteArray) false _ A57.out).mono ?_
              rintro e w' ⟨rfl, ⟨nd, rfl⟩⟩
              refine ⟨_, rfl, ?_⟩
              refine hK.out _ _ (held9_ BK203.out) (fun hHeld => ?_)
              clear hK K
              refine nU_ ?_
              iterate 4 refine pU_ ?_
              refine tU_ ?_
              refine pU_ ?_
              iterate 3 refine sU_ ?_
              iterate 4 refine pU_ ?_
              refine tU_ ?_
              refine pU_ ?_
              iterate 3 refine sU_ ?_
              iterate 3 refine pU_ ?_
              refine doneU_ ?_
              try go_wp2
              go_ret
              exact ⟨retE_, belE_⟩
             ·
              replace c66 := Bool.eq_false_iff.mpr c66
              subst c66
              replace H := ifF_ H
              obtain rfl := Option.some.inj H
              obtain ⟨hcz73_0, hcz73_1, hcz73_2, hcz73_3, hcz73_4, hcz73_5, hcz73_6, hcz73_7, hcz73_8, hfz73_0, hfz73_1, hfz73_2, hfz73_3, hfz73_4, hfz73_5, hfz73_6, hfz73_7, hfz73_8⟩ := cz9_ BK203
              try go_wp2_with (first | ((with_reducible refine gate_callee (f := 69) rfl ?_); refine cU_ (some 55) Tryz.func69 #[.string a0_4, .string (⟨#[63, 35]⟩ : ByteArray)] ?_; (with_reducible refine (strings_ContainsAny.calls a0_4 (⟨#[63, 35]⟩ : ByteArray) false _ A29.out).mono ?_); rintro e w74 ⟨rfl, hb⟩; refine ⟨_, rfl, ?_⟩; replace BK203 := blkK_ BK203 hb; replace HB := belB_ hb; (try clear hb); obtain ⟨hcz75_0, hcz75_1, hcz75_2, hcz75_3, hcz75_4, hcz75_5, hcz75_6, hcz75_7, hcz75_8, hfz75_0, hfz75_1, hfz75_2, hfz75_3, hfz75_4, hfz75_5, hfz75_6, hfz75_7, hfz75_8⟩ := cz9_ BK203) | ((with_reducible refine gate_callee (f := 59) rfl ?_); refine cU_ (some 57) Tryz.func59 #[.agg #[.string a0_0, .string a0_1, .string a0_2, .int .i64 a0_3, .string a0_4, .string a0_5, .string a0_6, .bool true, .bool false]] ?_; (with_reducible refine (impl_Url_web.calls a0_0 a0_1 a0_2 a0_3 a0_4 a0_5 a0_6 true false true _ A33.out).mono ?_); rintro e w76 ⟨rfl, hb⟩; refine ⟨_, rfl, ?_⟩; replace BK203 := blkK_ BK203 hb; replace HB := belB_ hb; (try clear hb)))
              replace BK203 := Aside0.mk (blk_drew BK203.out)
              replace HB := Aside0.mk (below_drew1 HB.out)
              refine startU_ (n := 52) (S := fun w' => w'.cell? ⟨gb203, 0, none⟩ = some (.string a0_0) ∧ w'.cell? ⟨gb203, 1, none⟩ = some (.string a0_1) ∧ w'.cell? ⟨gb203, 2, none⟩ = some (.string a0_2) ∧ w'.cell? ⟨gb203, 3, none⟩ = some (.int .i64 a0_3) ∧ w'.cell? ⟨gb203, 4, none⟩ = some (.string a0_4) ∧ w'.cell? ⟨gb203, 5, none⟩ = some (.string a0_5) ∧ w'.cell? ⟨gb203, 6, none⟩ = some (.string a0_6) ∧ w'.cell? ⟨gb203, 7, none⟩ = some (.bool true) ∧ w'.cell? ⟨gb203, 8, none⟩ = some (.bool false)) (ds := []) (held9_ BK203.out) (fun hHeld => ?_); refine with_tabW impl_UrlOK.tab7 impl_UrlOK.bits7 (fun HT_ HW_ => ?_)
              generalize w76.drew = w77 at BK203 HB hHeld ⊢
              refine pU_ ?_
              refine tU_ ?_
              refine oU_ (fun K hK => ?_)
              refine gU_ Tryz.func69 #[.string a0_1, .string (⟨#[47, 63, 35, 64]⟩ : ByteArray)] ?_
              with_reducible refine (strings_ContainsAny.calls a0_1 (⟨#[47, 63, 35, 64]⟩ : ByteArray) false _ A35.out).mono ?_
              rintro e w78 ⟨rfl, hb⟩
              refine ⟨_, rfl, ?_⟩
              replace BK203 := blkK_ BK203 hb
              replace HB := belB_ hb
              (try clear hb)
              refine hK.out _ _ (held9_ BK203.out) (fun hHeld => ?_)
              clear hK K
              refine nU_ ?_
              iterate 3 refine pU_ ?_
              refine tU_ ?_
              refine oU_ (fun K hK => ?_)
              refine gU_ Tryz.func70 #[.string a0_2] ?_
              with_reducible refine (impl_isHost.calls kj1 a0_2 true _ A43.out).mono ?_
              rintro e w' ⟨rfl, ⟨nd, rfl⟩⟩
              refine ⟨_, rfl, ?_⟩
              refine hK.out _ _ (held9_ BK203.out) (fun hHeld => ?_)
              clear hK K
              refine nU_ ?_
              iterate 3 refine pU_ ?_
              refine tU_ ?_
              refine oU_ (fun K hK => ?_)
              refine gU_ Tryz.func71 #[.int .i64 a0_3, .int .i64 0, .int .i64 65535] ?_
              with_reducible refine (impl_within.calls a0_3 0 65535 true _ A45.out).mono ?_
              rintro e w' ⟨rfl, ⟨nd, rfl⟩⟩
              refine ⟨_, rfl, ?_⟩
              refine hK.out _ _ (held9_ BK203.out) (fun hHeld => ?_)
              clear hK K
              refine nU_ ?_
              iterate 3 refine pU_ ?_
              refine pUX_ 17 ?_
              refine tU_ ?_
              refine aU_ ?_
              refine tU_ ?_
              refine oU_ (fun K hK => ?_)
              refine gU_ Tryz.func72 #[.string a0_0] ?_
              with_reducible refine (impl_usual.calls a0_0 t212 _ A47.out).mono ?_
              rintro e w' ⟨rfl, ⟨nd, rfl⟩⟩
              refine ⟨_, rfl, ?_⟩
              refine hK.out _ _ (held9_ BK203.out) (fun hHeld => ?_)
              clear hK K
              refine nU_ ?_
              iterate 4 refine pU_ ?_
              refine tU_ ?_
              refine oU_ (fun K hK => ?_)
              refine gU_ Tryz.func73 #[.string a0_4, .string (⟨#[47]⟩ : ByteArray)] ?_
              with_reducible refine (strings_HasPrefix.calls a0_4 (⟨#[47]⟩ : ByteArray) true _ A55.out).mono ?_
              rintro e w' ⟨rfl, ⟨nd, rfl⟩⟩
              refine ⟨_, rfl, ?_⟩
              refine hK.out _ _ (held9_ BK203.out) (fun hHeld => ?_)
              clear hK K
              refine nU_ ?_
              iterate 3 refine pU_ ?_
              refine tU_ ?_
              refine oU_ (fun K hK => ?_)
              refine gU_ Tryz.func74 #[.string a0_5, .string (⟨#[35]⟩ : ByteArray)] ?_
              with_reducible refine (strings_Contains.calls a0_5 (⟨#[35]⟩ : ByteArray) false _ A57.out).mono ?_
              rintro e w' ⟨rfl, ⟨nd, rfl⟩⟩
              refine ⟨_, rfl, ?_⟩
              refine hK.out _ _ (held9_ BK203.out) (fun hHeld => ?_)
              clear hK K
              refine nU_ ?_
              iterate 4 refine pU_ ?_
              refine tU_ ?_
              refine pU_ ?_
              iterate 3 refine sU_ ?_
              iterate 4 refine pU_ ?_
              refine tU_ ?_
              iterate 2 refine pU_ ?_
              refine tU_ ?_
              iterate 4 refine pU_ ?_
              refine doneU_ ?_
              try go_wp2
              go_ret
              exact ⟨retE_, belE_⟩
            ·
             replace c65 := Bool.eq_false_iff.mpr c65
             subst c65
             replace H := ifF_ H
             by_cases c79 : a0_5.toList = ([] : List UInt8)
             ·
              rw [if_pos c79] at H
              have c79b0 : (a0_5.toList == ([] : List UInt8)) = true := beq_iff_eq.mpr c79
              have c79b1 : (a0_5.toList != ([] : List UInt8)) = false := bne_eq_false_iff_eq.mpr c79
              (try (have c79b2 : a0_5.toList.isEmpty = true := by simpa using c79))
              clear c79
              by_cases c80 : a0_8 = true
              ·
               subst c80
               replace H := ifT_ H
               obtain rfl := Option.some.inj H
               obtain ⟨hcz81_0, hcz81_1, hcz81_2, hcz81_3, hcz81_4, hcz81_5, hcz81_6, hcz81_7, hcz81_8, hfz81_0, hfz81_1, hfz81_2, hfz81_3, hfz81_4, hfz81_5, hfz81_6, hfz81_7, hfz81_8⟩ := cz9_ BK203
               try go_wp2_with (first | ((with_reducible refine gate_callee (f := 69) rfl ?_); refine cU_ (some 55) Tryz.func69 #[.string a0_4, .string (⟨#[63, 35]⟩ : ByteArray)] ?_; (with_reducible refine (strings_ContainsAny.calls a0_4 (⟨#[63, 35]⟩ : ByteArray) false _ A29.out).mono ?_); rintro e w82 ⟨rfl, hb⟩; refine ⟨_, rfl, ?_⟩; replace BK203 := blkK_ BK203 hb; replace HB := belB_ hb; (try clear hb); obtain ⟨hcz83_0, hcz83_1, hcz83_2, hcz83_3, hcz83_4, hcz83_5, hcz83_6, hcz83_7, hcz83_8, hfz83_0, hfz83_1, hfz83_2, hfz83_3, hfz83_4, hfz83_5, hfz83_6, hfz83_7, hfz83_8⟩ := cz9_ BK203) | ((with_reducible refine gate_callee (f := 59) rfl ?_); refine cU_ (some 57) Tryz.func59 #[.agg #[.string a0_0, .string a0_1, .string a0_2, .int .i64 a0_3, .string a0_4, .string a0_5, .string a0_6, .bool false, .bool true]] ?_; (with_reducible refine (impl_Url_web.calls a0_0 a0_1 a0_2 a0_3 a0_4 a0_5 a0_6 false true true _ A33.out).mono ?_); rintro e w84 ⟨rfl, hb⟩; refine ⟨_, rfl, ?_⟩; replace BK203 := blkK_ BK203 hb; replace HB := belB_ hb; (try clear hb)))
               replace BK203 := Aside0.mk (blk_drew BK203.out)
               replace HB := Aside0.mk (below_drew1 HB.out)
               refine startU_ (n := 52) (S := fun w' => w'.cell? ⟨gb203, 0, none⟩ = some (.string a0_0) ∧ w'.cell? ⟨gb203, 1, none⟩ = some (.string a0_1) ∧ w'.cell? ⟨gb203, 2, none⟩ = some (.string a0_2) ∧ w'.cell? ⟨gb203, 3, none⟩ = some (.int .i64 a0_3) ∧ w'.cell? ⟨gb203, 4, none⟩ = some (.string a0_4) ∧ w'.cell? ⟨gb203, 5, none⟩ = some (.string a0_5) ∧ w'.cell? ⟨gb203, 6, none⟩ = some (.string a0_6) ∧ w'.cell? ⟨gb203, 7, none⟩ = some (.bool false) ∧ w'.cell? ⟨gb203, 8, none⟩ = some (.bool true)) (ds := []) (held9_ BK203.out) (fun hHeld => ?_); refine with_tabW impl_UrlOK.tab7 impl_UrlOK.bits7 (fun HT_ HW_ => ?_)
               generalize w84.drew = w85 at BK203 HB hHeld ⊢
               refine pU_ ?_
               refine tU_ ?_
               refine oU_ (fun K hK => ?_)
               refine gU_ Tryz.func69 #[.string a0_1, .string (⟨#[47, 63, 35, 64]⟩ : ByteArray)] ?_
               with_reducible refine (strings_ContainsAny.calls a0_1 (⟨#[47, 63, 35, 64]⟩ : ByteArray) false _ A35.out).mono ?_
               rintro e w86 ⟨rfl, hb⟩
               refine ⟨_, rfl, ?_⟩
               replace BK203 := blkK_ BK203 hb
               replace HB := belB_ hb
               (try clear hb)
               refine hK.out _ _ (held9_ BK203.out) (fun hHeld => ?_)
               clear hK K
               refine nU_ ?_
               iterate 3 refine pU_ ?_
               refine tU_ ?_
               refine oU_ (fun K hK => ?_)
               refine gU_ Tryz.func70 #[.string a0_2] ?_
               with_reducible refine (impl_isHost.calls kj1 a0_2 true _ A43.out).mono ?_
               rintro e w' ⟨rfl, ⟨nd, rfl⟩⟩
               refine ⟨_, rfl, ?_⟩
               refine hK.out _ _ (held9_ BK203.out) (fun hHeld => ?_)
               clear hK K
               refine nU_ ?_
               iterate 3 refine pU_ ?_
               refine tU_ ?_
               refine oU_ (fun K hK => ?_)
               refine gU_ Tryz.func71 #[.int .i64 a0_3, .int .i64 0, .int .i64 65535] ?_
               with_reducible refine (impl_within.calls a0_3 0 65535 true _ A45.out).mono ?_
               rintro e w' ⟨rfl, ⟨nd, rfl⟩⟩
               refine ⟨_, rfl, ?_⟩
               refine hK.out _ _ (held9_ BK203.out) (fun hHeld => ?_)
               clear hK K
               refine nU_ ?_
               iterate 3 refine pU_ ?_
               refine pUX_ 17 ?_
               refine tU_ ?_
               refine aU_ ?_
               refine tU_ ?_
               refine oU_ (fun K hK => ?_)
               refine gU_ Tryz.func72 #[.string a0_0] ?_
               with_reducible refine (impl_usual.calls a0_0 t212 _ A47.out).mono ?_
               rintro e w' ⟨rfl, ⟨nd, rfl⟩⟩
               refine ⟨_, rfl, ?_⟩
               refine hK.out _ _ (held9_ BK203.out) (fun hHeld => ?_)
               clear hK K
               refine nU_ ?_
               iterate 4 refine pU_ ?_
               refine tU_ ?_
               refine oU_ (fun K hK => ?_)
               refine gU_ Tryz.func73 #[.string a0_4, .string (⟨#[47]⟩ : ByteArray)] ?_
               with_reducible refine (strings_HasPrefix.calls a0_4 (⟨#[47]⟩ : ByteArray) true _ A55.out).mono ?_
               rintro e w' ⟨rfl, ⟨nd, rfl⟩⟩
               refine ⟨_, rfl, ?_⟩
               refine hK.out _ _ (held9_ BK203.out) (fun hHeld => ?_)
               clear hK K
               refine nU_ ?_
               iterate 3 refine pU_ ?_
               refine tU_ ?_
               refine oU_ (fun K hK => ?_)
               refine gU_ Tryz.func74 #[.string a0_5, .string (⟨#[35]⟩ : ByteArray)] ?_
               with_reducible refine (strings_Contains.calls a0_5 (⟨#[35]⟩ : ByteArray) false _ A57.out).mono ?_
               rintro e w' ⟨rfl, ⟨nd, rfl⟩⟩
               refine ⟨_, rfl, ?_⟩
               refine hK.out _ _ (held9_ BK203.out) (fun hHeld => ?_)
               clear hK K
               refine nU_ ?_
               iterate 4 refine pU_ ?_
               refine tU_ ?_
               iterate 2 refine pU_ ?_
               refine tU_ ?_
               iterate 5 refine pU_ ?_
               refine tU_ ?_
               refine pU_ ?_
               iterate 3 refine sU_ ?_
               iterate 3 refine pU_ ?_
               refine doneU_ ?_
               try go_wp2
               go_ret
               exact ⟨retE_, belE_⟩
              ·
               replace c80 := Bool.eq_false_iff.mpr c80
               subst c80
               replace H := ifF_ H
               obtain rfl := Option.some.inj H
               obtain ⟨hcz87_0, hcz87_1, hcz87_2, hcz87_3, hcz87_4, hcz87_5, hcz87_6, hcz87_7, hcz87_8, hfz87_0, hfz87_1, hfz87_2, hfz87_3, hfz87_4, hfz87_5, hfz87_6, hfz87_7, hfz87_8⟩ := cz9_ BK203
               try go_wp2_with (first | ((with_reducible refine gate_callee (f := 69) rfl ?_); refine cU_ (some 55) Tryz.func69 #[.string a0_4, .string (⟨#[63, 35]⟩ : ByteArray)] ?_; (with_reducible refine (strings_ContainsAny.calls a0_4 (⟨#[63, 35]⟩ : ByteArray) false _ A29.out).mono ?_); rintro e w88 ⟨rfl, hb⟩; refine ⟨_, rfl, ?_⟩; replace BK203 := blkK_ BK203 hb; replace HB := belB_ hb; (try clear hb); obtain ⟨hcz89_0, hcz89_1, hcz89_2, hcz89_3, hcz89_4, hcz89_5, hcz89_6, hcz89_7, hcz89_8, hfz89_0, hfz89_1, hfz89_2, hfz89_3, hfz89_4, hfz89_5, hfz89_6, hfz89_7, hfz89_8⟩ := cz9_ BK203) | ((with_reducible refine gate_callee (f := 59) rfl ?_); refine cU_ (some 57) Tryz.func59 #[.agg #[.string a0_0, .string a0_1, .string a0_2, .int .i64 a0_3, .string a0_4, .string a0_5, .string a0_6, .bool false, .bool false]] ?_; (with_reducible refine (impl_Url_web.calls a0_0 a0_1 a0_2 a0_3 a0_4 a0_5 a0_6 false false true _ A33.out).mono ?_); rintro e w90 ⟨rfl, hb⟩; refine ⟨_, rfl, ?_⟩; replace BK203 := blkK_ BK203 hb; replace HB := belB_ hb; (try clear hb)))
               replace BK203 := Aside0.mk (blk_drew BK203.out)
               replace HB := Aside0.mk (below_drew1 HB.out)
               refine startU_ (n := 52) (S := fun w' => w'.cell? ⟨gb203, 0, none⟩ = some (.string a0_0) ∧ w'.cell? ⟨gb203, 1, none⟩ = some (.string a0_1) ∧ w'.cell? ⟨gb203, 2, none⟩ = some (.string a0_2) ∧ w'.cell? ⟨gb203, 3, none⟩ = some (.int .i64 a0_3) ∧ w'.cell? ⟨gb203, 4, none⟩ = some (.string a0_4) ∧ w'.cell? ⟨gb203, 5, none⟩ = some (.string a0_5) ∧ w'.cell? ⟨gb203, 6, none⟩ = some (.string a0_6) ∧ w'.cell? ⟨gb203, 7, none⟩ = some (.bool false) ∧ w'.cell? ⟨gb203, 8, none⟩ = some (.bool false)) (ds := []) (held9_ BK203.out) (fun hHeld => ?_); refine with_tabW impl_UrlOK.tab7 impl_UrlOK.bits7 (fun HT_ HW_ => ?_)
               generalize w90.drew = w91 at BK203 HB hHeld ⊢
               refine pU_ ?_
               refine tU_ ?_
               refine oU_ (fun K hK => ?_)
               refine gU_ Tryz.func69 #[.string a0_1, .string (⟨#[47, 63, 35, 64]⟩ : ByteArray)] ?_
               with_reducible refine (strings_ContainsAny.calls a0_1 (⟨#[47, 63, 35, 64]⟩ : ByteArray) false _ A35.out).mono ?_
               rintro e w92 ⟨rfl, hb⟩
               refine ⟨_, rfl, ?_⟩
               replace BK203 := blkK_ BK203 hb
               replace HB := belB_ hb
               (try clear hb)
               refine hK.out _ _ (held9_ BK203.out) (fun hHeld => ?_)
               clear hK K
               refine nU_ ?_
               iterate 3 refine pU_ ?_
               refine tU_ ?_
               refine oU_ (fun K hK => ?_)
               refine gU_ Tryz.func70 #[.string a0_2] ?_
               with_reducible refine (impl_isHost.calls kj1 a0_2 true _ A43.out).mono ?_
               rintro e w' ⟨rfl, ⟨nd, rfl⟩⟩
               refine ⟨_, rfl, ?_⟩
               refine hK.out _ _ (held9_ BK203.out) (fun hHeld => ?_)
               clear hK K
               refine nU_ ?_
               iterate 3 refine pU_ ?_
               refine tU_ ?_
               refine oU_ (fun K hK => ?_)
               refine gU_ Tryz.func71 #[.int .i64 a0_3, .int .i64 0, .int .i64 65535] ?_
               with_reducible refine (impl_within.calls a0_3 0 65535 true _ A45.out).mono ?_
               rintro e w' ⟨rfl, ⟨nd, rfl⟩⟩
               refine ⟨_, rfl, ?_⟩
               refine hK.out _ _ (held9_ BK203.out) (fun hHeld => ?_)
               clear hK K
               refine nU_ ?_
               iterate 3 refine pU_ ?_
               refine pUX_ 17 ?_
               refine tU_ ?_
               refine aU_ ?_
               refine tU_ ?_
               refine oU_ (fun K hK => ?_)
               refine gU_ Tryz.func72 #[.string a0_0] ?_
               with_reducible refine (impl_usual.calls a0_0 t212 _ A47.out).mono ?_
               rintro e w' ⟨rfl, ⟨nd, rfl⟩⟩
               refine ⟨_, rfl, ?_⟩
               refine hK.out _ _ (held9_ BK203.out) (fun hHeld => ?_)
               clear hK K
               refine nU_ ?_
               iterate 4 refine pU_ ?_
               refine tU_ ?_
               refine oU_ (fun K hK => ?_)
               refine gU_ Tryz.func73 #[.string a0_4, .string (⟨#[47]⟩ : ByteArray)] ?_
               with_reducible refine (strings_HasPrefix.calls a0_4 (⟨#[47]⟩ : ByteArray) true _ A55.out).mono ?_
               rintro e w' ⟨rfl, ⟨nd, rfl⟩⟩
               refine ⟨_, rfl, ?_⟩
               refine hK.out _ _ (held9_ BK203.out) (fun hHeld => ?_)
               clear hK K
               refine nU_ ?_
               iterate 3 refine pU_ ?_
               refine tU_ ?_
               refine oU_ (fun K hK => ?_)
               refine gU_ Tryz.func74 #[.string a0_5, .string (⟨#[35]⟩ : ByteArray)] ?_
               with_reducible refine (strings_Contains.calls a0_5 (⟨#[35]⟩ : ByteArray) false _ A57.out).mono ?_
               rintro e w' ⟨rfl, ⟨nd, rfl⟩⟩
               refine ⟨_, rfl, ?_⟩
               refine hK.out _ _ (held9_ BK203.out) (fun hHeld => ?_)
               clear hK K
               refine nU_ ?_
               iterate 4 refine pU_ ?_
               refine tU_ ?_
               iterate 2 refine pU_ ?_
               refine tU_ ?_
               iterate 5 refine pU_ ?_
               refine tU_ ?_
               iterate 2 refine pU_ ?_
               refine tU_ ?_
               iterate 4 refine pU_ ?_
               refine doneU_ ?_
               try go_wp2
               go_ret
               exact ⟨retE_, belE_⟩
             ·
              rw [if_neg c79] at H
              have c79b0 : (a0_5.toList == ([] : List UInt8)) = false := beq_eq_false_iff_ne.mpr c79
              have c79b1 : (a0_5.toList != ([] : List UInt8)) = true := bne_iff_ne.mpr c79
              (try (have c79b2 : a0_5.toList.isEmpty = false := by simpa using c79))
              obtain rfl := Option.some.inj H
              obtain ⟨hcz93_0, hcz93_1, hcz93_2, hcz93_3, hcz93_4, hcz93_5, hcz93_6, hcz93_7, hcz93_8, hfz93_0, hfz93_1, hfz93_2, hfz93_3, hfz93_4, hfz93_5, hfz93_6, hfz93_7, hfz93_8⟩ := cz9_ BK203
              try go_wp2_with (first | ((with_reducible refine gate_callee (f := 69) rfl ?_); refine cU_ (some 55) Tryz.func69 #[.string a0_4, .string (⟨#[63, 35]⟩ : ByteArray)] ?_; (with_reducible refine (strings_ContainsAny.calls a0_4 (⟨#[63, 35]⟩ : ByteArray) false _ A29.out).mono ?_); rintro e w94 ⟨rfl, hb⟩; refine ⟨_, rfl, ?_⟩; replace BK203 := blkK_ BK203 hb; replace HB := belB_ hb; (try clear hb); obtain ⟨hcz95_0, hcz95_1, hcz95_2, hcz95_3, hcz95_4, hcz95_5, hcz95_6, hcz95_7, hcz95_8, hfz95_0, hfz95_1, hfz95_2, hfz95_3, hfz95_4, hfz95_5, hfz95_6, hfz95_7, hfz95_8⟩ := cz9_ BK203) | ((with_reducible refine gate_callee (f := 59) rfl ?_); refine cU_ (some 57) Tryz.func59 #[.agg #[.string a0_0, .string a0_1, .string a0_2, .int .i64 a0_3, .string a0_4, .string a0_5, .string a0_6, .bool false, .bool a0_8]] ?_; (with_reducible refine (impl_Url_web.calls a0_0 a0_1 a0_2 a0_3 a0_4 a0_5 a0_6 false a0_8 true _ A33.out).mono ?_); rintro e w96 ⟨rfl, hb⟩; refine ⟨_, rfl, ?_⟩; replace BK203 := blkK_ BK203 hb; replace HB := belB_ hb; (try clear hb)))
              replace BK203 := Aside0.mk (blk_drew BK203.out)
              replace HB := Aside0.mk (below_drew1 HB.out)
              refine startU_ (n := 52) (S := fun w' => w'.cell? ⟨gb203, 0, none⟩ = some (.string a0_0) ∧ w'.cell? ⟨gb203, 1, none⟩ = some (.string a0_1) ∧ w'.cell? ⟨gb203, 2, none⟩ = some (.string a0_2) ∧ w'.cell? ⟨gb203, 3, none⟩ = some (.int .i64 a0_3) ∧ w'.cell? ⟨gb203, 4, none⟩ = some (.string a0_4) ∧ w'.cell? ⟨gb203, 5, none⟩ = some (.string a0_5) ∧ w'.cell? ⟨gb203, 6, none⟩ = some (.string a0_6) ∧ w'.cell? ⟨gb203, 7, none⟩ = some (.bool false) ∧ w'.cell? ⟨gb203, 8, none⟩ = some (.bool a0_8)) (ds := []) (held9_ BK203.out) (fun hHeld => ?_); refine with_tabW impl_UrlOK.tab7 impl_UrlOK.bits7 (fun HT_ HW_ => ?_)
              generalize w96.drew = w97 at BK203 HB hHeld ⊢
              refine pU_ ?_
              refine tU_ ?_
              refine oU_ (fun K hK => ?_)
              refine gU_ Tryz.func69 #[.string a0_1, .string (⟨#[47, 63, 35, 64]⟩ : ByteArray)] ?_
              with_reducible refine (strings_ContainsAny.calls a0_1 (⟨#[47, 63, 35, 64]⟩ : ByteArray) false _ A35.out).mono ?_
              rintro e w98 ⟨rfl, hb⟩
              refine ⟨_, rfl, ?_⟩
              replace BK203 := blkK_ BK203 hb
              replace HB := belB_ hb
              (try clear hb)
              refine hK.out _ _ (held9_ BK203.out) (fun hHeld => ?_)
              clear hK K
              refine nU_ ?_
              iterate 3 refine pU_ ?_
              refine tU_ ?_
              refine oU_ (fun K hK => ?_)
              refine gU_ Tryz.func70 #[.string a0_2] ?_
              with_reducible refine (impl_isHost.calls kj1 a0_2 true _ A43.out).mono ?_
              rintro e w' ⟨rfl, ⟨nd, rfl⟩⟩
              refine ⟨_, rfl, ?_⟩
              refine hK.out _ _ (held9_ BK203.out) (fun hHeld => ?_)
              clear hK K
              refine nU_ ?_
              iterate 3 refine pU_ ?_
              refine tU_ ?_
              refine oU_ (fun K hK => ?_)
              refine gU_ Tryz.func71 #[.int .i64 a0_3, .int .i64 0, .int .i64 65535] ?_
              with_reducible refine (impl_within.calls a0_3 0 65535 true _ A45.out).mono ?_
              rintro e w' ⟨rfl, ⟨nd, rfl⟩⟩
              refine ⟨_, rfl, ?_⟩
              refine hK.out _ _ (held9_ BK203.out) (fun hHeld => ?_)
              clear hK K
              refine nU_ ?_
              iterate 3 refine pU_ ?_
              refine pUX_ 17 ?_
              refine tU_ ?_
              refine aU_ ?_
              refine tU_ ?_
              refine oU_ (fun K hK => ?_)
              refine gU_ Tryz.func72 #[.string a0_0] ?_
              with_reducible refine (impl_usual.calls a0_0 t212 _ A47.out).mono ?_
              rintro e w' ⟨rfl, ⟨nd, rfl⟩⟩
              refine ⟨_, rfl, ?_⟩
              refine hK.out _ _ (held9_ BK203.out) (fun hHeld => ?_)
              clear hK K
              refine nU_ ?_
              iterate 4 refine pU_ ?_
              refine tU_ ?_
              refine oU_ (fun K hK => ?_)
              refine gU_ Tryz.func73 #[.string a0_4, .string (⟨#[47]⟩ : ByteArray)] ?_
              with_reducible refine (strings_HasPrefix.calls a0_4 (⟨#[47]⟩ : ByteArray) true _ A55.out).mono ?_
              rintro e w' ⟨rfl, ⟨nd, rfl⟩⟩
              refine ⟨_, rfl, ?_⟩
              refine hK.out _ _ (held9_ BK203.out) (fun hHeld => ?_)
              clear hK K
              refine nU_ ?_
              iterate 3 refine pU_ ?_
              refine tU_ ?_
              refine oU_ (fun K hK => ?_)
              refine gU_ Tryz.func74 #[.string a0_5, .string (⟨#[35]⟩ : ByteArray)] ?_
              with_reducible refine (strings_Contains.calls a0_5 (⟨#[35]⟩ : ByteArray) false _ A57.out).mono ?_
              rintro e w' ⟨rfl, ⟨nd, rfl⟩⟩
              refine ⟨_, rfl, ?_⟩
              refine hK.out _ _ (held9_ BK203.out) (fun hHeld => ?_)
              clear hK K
              refine nU_ ?_
              iterate 4 refine pU_ ?_
              refine tU_ ?_
              iterate 2 refine pU_ ?_
              refine tU_ ?_
              iterate 4 refine pU_ ?_
              iterate 7 refine sU_ ?_
              iterate 2 refine pU_ ?_
              refine doneU_ ?_
              try go_wp2
              go_ret
              exact ⟨retE_, belE_⟩
          ·
           replace c56 := Bool.eq_false_iff.mpr c56
           subst c56
           replace H := ifF_ H
           obtain rfl := Option.some.inj H
           obtain ⟨hcz99_0, hcz99_1, hcz99_2, hcz99_3, hcz99_4, hcz99_5, hcz99_6, hcz99_7, hcz99_8, hfz99_0, hfz99_1, hfz99_2, hfz99_3, hfz99_4, hfz99_5, hfz99_6, hfz99_7, hfz99_8⟩ := cz9_ BK203
           try go_wp2_with (first | ((with_reducible refine gate_callee (f := 69) rfl ?_); refine cU_ (some 55) Tryz.func69 #[.string a0_4, .string (⟨#[63, 35]⟩ : ByteArray)] ?_; (with_reducible refine (strings_ContainsAny.calls a0_4 (⟨#[63, 35]⟩ : ByteArray) false _ A29.out).mono ?_); rintro e w100 ⟨rfl, hb⟩; refine ⟨_, rfl, ?_⟩; replace BK203 := blkK_ BK203 hb; replace HB := belB_ hb; (try clear hb); obtain ⟨hcz101_0, hcz101_1, hcz101_2, hcz101_3, hcz101_4, hcz101_5, hcz101_6, hcz101_7, hcz101_8, hfz101_0, hfz101_1, hfz101_2, hfz101_3, hfz101_4, hfz101_5, hfz101_6, hfz101_7, hfz101_8⟩ := cz9_ BK203) | ((with_reducible refine gate_callee (f := 59) rfl ?_); refine cU_ (some 57) Tryz.func59 #[.agg #[.string a0_0, .string a0_1, .string a0_2, .int .i64 a0_3, .string a0_4, .string a0_5, .string a0_6, .bool a0_7, .bool a0_8]] ?_; (with_reducible refine (impl_Url_web.calls a0_0 a0_1 a0_2 a0_3 a0_4 a0_5 a0_6 a0_7 a0_8 true _ A33.out).mono ?_); rintro e w102 ⟨rfl, hb⟩; refine ⟨_, rfl, ?_⟩; replace BK203 := blkK_ BK203 hb; replace HB := belB_ hb; (try clear hb)))
           replace BK203 := Aside0.mk (blk_drew BK203.out)
           replace HB := Aside0.mk (below_drew1 HB.out)
           refine startU_ (n := 52) (S := fun w' => w'.cell? ⟨gb203, 0, none⟩ = some (.string a0_0) ∧ w'.cell? ⟨gb203, 1, none⟩ = some (.string a0_1) ∧ w'.cell? ⟨gb203, 2, none⟩ = some (.string a0_2) ∧ w'.cell? ⟨gb203, 3, none⟩ = some (.int .i64 a0_3) ∧ w'.cell? ⟨gb203, 4, none⟩ = some (.string a0_4) ∧ w'.cell? ⟨gb203, 5, none⟩ = some (.string a0_5) ∧ w'.cell? ⟨gb203, 6, none⟩ = some (.string a0_6) ∧ w'.cell? ⟨gb203, 7, none⟩ = some (.bool a0_7) ∧ w'.cell? ⟨gb203, 8, none⟩ = some (.bool a0_8)) (ds := []) (held9_ BK203.out) (fun hHeld => ?_); refine with_tabW impl_UrlOK.tab7 impl_UrlOK.bits7 (fun HT_ HW_ => ?_)
           generalize w102.drew = w103 at BK203 HB hHeld ⊢
           refine pU_ ?_
           refine tU_ ?_
           refine oU_ (fun K hK => ?_)
           refine gU_ Tryz.func69 #[.string a0_1, .string (⟨#[47, 63, 35, 64]⟩ : ByteArray)] ?_
           with_reducible refine (strings_ContainsAny.calls a0_1 (⟨#[47, 63, 35, 64]⟩ : ByteArray) false _ A35.out).mono ?_
           rintro e w104 ⟨rfl, hb⟩
           refine ⟨_, rfl, ?_⟩
           replace BK203 := blkK_ BK203 hb
           replace HB := belB_ hb
           (try clear hb)
           refine hK.out _ _ (held9_ BK203.out) (fun hHeld => ?_)
           clear hK K
           refine nU_ ?_
           iterate 3 refine pU_ ?_
           refine tU_ ?_
           refine oU_ (fun K hK => ?_)
           refine gU_ Tryz.func70 #[.string a0_2] ?_
           with_reducible refine (impl_isHost.calls kj1 a0_2 true _ A43.out).mono ?_
           rintro e w' ⟨rfl, ⟨nd, rfl⟩⟩
           refine ⟨_, rfl, ?_⟩
           refine hK.out _ _ (held9_ BK203.out) (fun hHeld => ?_)
           clear hK K
           refine nU_ ?_
           iterate 3 refine pU_ ?_
           refine tU_ ?_
           refine oU_ (fun K hK => ?_)
           refine gU_ Tryz.func71 #[.int .i64 a0_3, .int .i64 0, .int .i64 65535] ?_
           with_reducible refine (impl_within.calls a0_3 0 65535 true _ A45.out).mono ?_
           rintro e w' ⟨rfl, ⟨nd, rfl⟩⟩
           refine ⟨_, rfl, ?_⟩
           refine hK.out _ _ (held9_ BK203.out) (fun hHeld => ?_)
           clear hK K
           refine nU_ ?_
           iterate 3 refine pU_ ?_
           refine pUX_ 17 ?_
           refine tU_ ?_
           refine aU_ ?_
           refine tU_ ?_
           refine oU_ (fun K hK => ?_)
           refine gU_ Tryz.func72 #[.string a0_0] ?_
           with_reducible refine (impl_usual.calls a0_0 t212 _ A47.out).mono ?_
           rintro e w' ⟨rfl, ⟨nd, rfl⟩⟩
           refine ⟨_, rfl, ?_⟩
           refine hK.out _ _ (held9_ BK203.out) (fun hHeld => ?_)
           clear hK K
           refine nU_ ?_
           iterate 4 refine pU_ ?_
           refine tU_ ?_
           refine oU_ (fun K hK => ?_)
           refine gU_ Tryz.func73 #[.string a0_4, .string (⟨#[47]⟩ : ByteArray)] ?_
           with_reducible refine (strings_HasPrefix.calls a0_4 (⟨#[47]⟩ : ByteArray) false _ A55.out).mono ?_
           rintro e w' ⟨rfl, ⟨nd, rfl⟩⟩
           refine ⟨_, rfl, ?_⟩
           refine hK.out _ _ (held9_ BK203.out) (fun hHeld => ?_)
           clear hK K
           refine nU_ ?_
           iterate 2 refine pU_ ?_
           iterate 4 refine sU_ ?_
           iterate 2 refine pU_ ?_
           iterate 7 refine sU_ ?_
           iterate 2 refine pU_ ?_
           iterate 7 refine sU_ ?_
           iterate 2 refine pU_ ?_
           refine doneU_ ?_
           try go_wp2
           go_ret
           exact ⟨retE_, belE_⟩
        ·
         replace c46 := Bool.eq_false_iff.mpr c46
         subst c46
         replace H := ifF_ H
         obtain rfl := Option.some.inj H
         obtain ⟨hcz105_0, hcz105_1, hcz105_2, hcz105_3, hcz105_4, hcz105_5, hcz105_6, hcz105_7, hcz105_8, hfz105_0, hfz105_1, hfz105_2, hfz105_3, hfz105_4, hfz105_5, hfz105_6, hfz105_7, hfz105_8⟩ := cz9_ BK203
         try go_wp2_with (first | ((with_reducible refine gate_callee (f := 69) rfl ?_); refine cU_ (some 55) Tryz.func69 #[.string a0_4, .string (⟨#[63, 35]⟩ : ByteArray)] ?_; (with_reducible refine (strings_ContainsAny.calls a0_4 (⟨#[63, 35]⟩ : ByteArray) false _ A29.out).mono ?_); rintro e w106 ⟨rfl, hb⟩; refine ⟨_, rfl, ?_⟩; replace BK203 := blkK_ BK203 hb; replace HB := belB_ hb; (try clear hb); obtain ⟨hcz107_0, hcz107_1, hcz107_2, hcz107_3, hcz107_4, hcz107_5, hcz107_6, hcz107_7, hcz107_8, hfz107_0, hfz107_1, hfz107_2, hfz107_3, hfz107_4, hfz107_5, hfz107_6, hfz107_7, hfz107_8⟩ := cz9_ BK203) | ((with_reducible refine gate_callee (f := 59) rfl ?_); refine cU_ (some 57) Tryz.func59 #[.agg #[.string a0_0, .string a0_1, .string a0_2, .int .i64 a0_3, .string a0_4, .string a0_5, .string a0_6, .bool a0_7, .bool a0_8]] ?_; (with_reducible refine (impl_Url_web.calls a0_0 a0_1 a0_2 a0_3 a0_4 a0_5 a0_6 a0_7 a0_8 true _ A33.out).mono ?_); rintro e w108 ⟨rfl, hb⟩; refine ⟨_, rfl, ?_⟩; replace BK203 := blkK_ BK203 hb; replace HB := belB_ hb; (try clear hb)))
         replace BK203 := Aside0.mk (blk_drew BK203.out)
         replace HB := Aside0.mk (below_drew1 HB.out)
         refine startU_ (n := 52) (S := fun w' => w'.cell? ⟨gb203, 0, none⟩ = some (.string a0_0) ∧ w'.cell? ⟨gb203, 1, none⟩ = some (.string a0_1) ∧ w'.cell? ⟨gb203, 2, none⟩ = some (.string a0_2) ∧ w'.cell? ⟨gb203, 3, none⟩ = some (.int .i64 a0_3) ∧ w'.cell? ⟨gb203, 4, none⟩ = some (.string a0_4) ∧ w'.cell? ⟨gb203, 5, none⟩ = some (.string a0_5) ∧ w'.cell? ⟨gb203, 6, none⟩ = some (.string a0_6) ∧ w'.cell? ⟨gb203, 7, none⟩ = some (.bool a0_7) ∧ w'.cell? ⟨gb203, 8, none⟩ = some (.bool a0_8)) (ds := []) (held9_ BK203.out) (fun hHeld => ?_); refine with_tabW impl_UrlOK.tab7 impl_UrlOK.bits7 (fun HT_ HW_ => ?_)
         generalize w108.drew = w109 at BK203 HB hHeld ⊢
         refine pU_ ?_
         refine tU_ ?_
         refine oU_ (fun K hK => ?_)
         refine gU_ Tryz.func69 #[.string a0_1, .string (⟨#[47, 63, 35, 64]⟩ : ByteArray)] ?_
         with_reducible refine (strings_ContainsAny.calls a0_1 (⟨#[47, 63, 35, 64]⟩ : ByteArray) false _ A35.out).mono ?_
         rintro e w110 ⟨rfl, hb⟩
         refine ⟨_, rfl, ?_⟩
         replace BK203 := blkK_ BK203 hb
         replace HB := belB_ hb
         (try clear hb)
         refine hK.out _ _ (held9_ BK203.out) (fun hHeld => ?_)
         clear hK K
         refine nU_ ?_
         iterate 3 refine pU_ ?_
         refine tU_ ?_
         refine oU_ (fun K hK => ?_)
         refine gU_ Tryz.func70 #[.string a0_2] ?_
         with_reducible refine (impl_isHost.calls kj1 a0_2 true _ A43.out).mono ?_
         rintro e w' ⟨rfl, ⟨nd, rfl⟩⟩
         refine ⟨_, rfl, ?_⟩
         refine hK.out _ _ (held9_ BK203.out) (fun hHeld => ?_)
         clear hK K
         refine nU_ ?_
         iterate 3 refine pU_ ?_
         refine tU_ ?_
         refine oU_ (fun K hK => ?_)
         refine gU_ Tryz.func71 #[.int .i64 a0_3, .int .i64 0, .int .i64 65535] ?_
         with_reducible refine (impl_within.calls a0_3 0 65535 false _ A45.out).mono ?_
         rintro e w' ⟨rfl, ⟨nd, rfl⟩⟩
         refine ⟨_, rfl, ?_⟩
         refine hK.out _ _ (held9_ BK203.out) (fun hHeld => ?_)
         clear hK K
         refine nU_ ?_
         iterate 2 refine pU_ ?_
         iterate 6 refine sU_ ?_
         iterate 2 refine pU_ ?_
         iterate 3 refine sU_ ?_
         iterate 2 refine pU_ ?_
         iterate 4 refine sU_ ?_
         iterate 2 refine pU_ ?_
         iterate 7 refine sU_ ?_
         iterate 2 refine pU_ ?_
         iterate 7 refine sU_ ?_
         iterate 2 refine pU_ ?_
         refine doneU_ ?_
         try go_wp2
         go_ret
         exact ⟨retE_, belE_⟩
       ·
        replace c44 := Bool.eq_false_iff.mpr c44
        subst c44
        replace H := ifF_ H
        obtain rfl := Option.some.inj H
        obtain ⟨hcz111_0, hcz111_1, hcz111_2, hcz111_3, hcz111_4, hcz111_5, hcz111_6, hcz111_7, hcz111_8, hfz111_0, hfz111_1, hfz111_2, hfz111_3, hfz111_4, hfz111_5, hfz111_6, hfz111_7, hfz111_8⟩ := cz9_ BK203
        try go_wp2_with (first | ((with_reducible refine gate_callee (f := 69) rfl ?_); refine cU_ (some 55) Tryz.func69 #[.string a0_4, .string (⟨#[63, 35]⟩ : ByteArray)] ?_; (with_reducible refine (strings_ContainsAny.calls a0_4 (⟨#[63, 35]⟩ : ByteArray) false _ A29.out).mono ?_); rintro e w112 ⟨rfl, hb⟩; refine ⟨_, rfl, ?_⟩; replace BK203 := blkK_ BK203 hb; replace HB := belB_ hb; (try clear hb); obtain ⟨hcz113_0, hcz113_1, hcz113_2, hcz113_3, hcz113_4, hcz113_5, hcz113_6, hcz113_7, hcz113_8, hfz113_0, hfz113_1, hfz113_2, hfz113_3, hfz113_4, hfz113_5, hfz113_6, hfz113_7, hfz113_8⟩ := cz9_ BK203) | ((with_reducible refine gate_callee (f := 59) rfl ?_); refine cU_ (some 57) Tryz.func59 #[.agg #[.string a0_0, .string a0_1, .string a0_2, .int .i64 a0_3, .string a0_4, .string a0_5, .string a0_6, .bool a0_7, .bool a0_8]] ?_; (with_reducible refine (impl_Url_web.calls a0_0 a0_1 a0_2 a0_3 a0_4 a0_5 a0_6 a0_7 a0_8 true _ A33.out).mono ?_); rintro e w114 ⟨rfl, hb⟩; refine ⟨_, rfl, ?_⟩; replace BK203 := blkK_ BK203 hb; replace HB := belB_ hb; (try clear hb)))
        replace BK203 := Aside0.mk (blk_drew BK203.out)
        replace HB := Aside0.mk (below_drew1 HB.out)
        refine startU_ (n := 52) (S := fun w' => w'.cell? ⟨gb203, 0, none⟩ = some (.string a0_0) ∧ w'.cell? ⟨gb203, 1, none⟩ = some (.string a0_1) ∧ w'.cell? ⟨gb203, 2, none⟩ = some (.string a0_2) ∧ w'.cell? ⟨gb203, 3, none⟩ = some (.int .i64 a0_3) ∧ w'.cell? ⟨gb203, 4, none⟩ = some (.string a0_4) ∧ w'.cell? ⟨gb203, 5, none⟩ = some (.string a0_5) ∧ w'.cell? ⟨gb203, 6, none⟩ = some (.string a0_6) ∧ w'.cell? ⟨gb203, 7, none⟩ = some (.bool a0_7) ∧ w'.cell? ⟨gb203, 8, none⟩ = some (.bool a0_8)) (ds := []) (held9_ BK203.out) (fun hHeld => ?_); refine with_tabW impl_UrlOK.tab7 impl_UrlOK.bits7 (fun HT_ HW_ => ?_)
        generalize w114.drew = w115 at BK203 HB hHeld ⊢
        refine pU_ ?_
        refine tU_ ?_
        refine oU_ (fun K hK => ?_)
        refine gU_ Tryz.func69 #[.string a0_1, .string (⟨#[47, 63, 35, 64]⟩ : ByteArray)] ?_
        with_reducible refine (strings_ContainsAny.calls a0_1 (⟨#[47, 63, 35, 64]⟩ : ByteArray) false _ A35.out).mono ?_
        rintro e w116 ⟨rfl, hb⟩
        refine ⟨_, rfl, ?_⟩
        replace BK203 := blkK_ BK203 hb
        replace HB := belB_ hb
        (try clear hb)
        refine hK.out _ _ (held9_ BK203.out) (fun hHeld => ?_)
        clear hK K
        refine nU_ ?_
        iterate 3 refine pU_ ?_
        refine tU_ ?_
        refine oU_ (fun K hK => ?_)
        refine gU_ Tryz.func70 #[.string a0_2] ?_
        with_reducible refine (impl_isHost.calls kj1 a0_2 false _ A43.out).mono ?_
        rintro e w' ⟨rfl, ⟨nd, rfl⟩⟩
        refine ⟨_, rfl, ?_⟩
        refine hK.out _ _ (held9_ BK203.out) (fun hHeld => ?_)
        clear hK K
        refine nU_ ?_
        iterate 2 refine pU_ ?_
        iterate 3 refine sU_ ?_
        iterate 2 refine pU_ ?_
        iterate 6 refine sU_ ?_
        iterate 2 refine pU_ ?_
        iterate 3 refine sU_ ?_
        iterate 2 refine pU_ ?_
        iterate 4 refine sU_ ?_
        iterate 2 refine pU_ ?_
        iterate 7 refine sU_ ?_
        iterate 2 refine pU_ ?_
        iterate 7 refine sU_ ?_
        iterate 2 refine pU_ ?_
        refine doneU_ ?_
        try go_wp2
        go_ret
        exact ⟨retE_, belE_⟩
     ·
      replace c34 := Bool.eq_false_iff.mpr c34
      subst c34
      replace H := ifF_ H
      obtain rfl := Option.some.inj H
      obtain ⟨hcz117_0, hcz117_1, hcz117_2, hcz117_3, hcz117_4, hcz117_5, hcz117_6, hcz117_7, hcz117_8, hfz117_0, hfz117_1, hfz117_2, hfz117_3, hfz117_4, hfz117_5, hfz117_6, hfz117_7, hfz117_8⟩ := cz9_ BK203
      go_wp2_with (first | ((with_reducible refine gate_callee (f := 69) rfl ?_); refine cU_ (some 55) Tryz.func69 #[.string a0_4, .string (⟨#[63, 35]⟩ : ByteArray)] ?_; (with_reducible refine (strings_ContainsAny.calls a0_4 (⟨#[63, 35]⟩ : ByteArray) false _ A29.out).mono ?_); rintro e w118 ⟨rfl, hb⟩; refine ⟨_, rfl, ?_⟩; replace BK203 := blkK_ BK203 hb; replace HB := belB_ hb; (try clear hb); obtain ⟨hcz119_0, hcz119_1, hcz119_2, hcz119_3, hcz119_4, hcz119_5, hcz119_6, hcz119_7, hcz119_8, hfz119_0, hfz119_1, hfz119_2, hfz119_3, hfz119_4, hfz119_5, hfz119_6, hfz119_7, hfz119_8⟩ := cz9_ BK203) | ((with_reducible refine gate_callee (f := 59) rfl ?_); refine cU_ (some 57) Tryz.func59 #[.agg #[.string a0_0, .string a0_1, .string a0_2, .int .i64 a0_3, .string a0_4, .string a0_5, .string a0_6, .bool a0_7, .bool a0_8]] ?_; (with_reducible refine (impl_Url_web.calls a0_0 a0_1 a0_2 a0_3 a0_4 a0_5 a0_6 a0_7 a0_8 false _ A33.out).mono ?_); rintro e w120 ⟨rfl, hb⟩; refine ⟨_, rfl, ?_⟩; replace BK203 := blkK_ BK203 hb; replace HB := belB_ hb; (try clear hb); obtain ⟨hcz121_0, hcz121_1, hcz121_2, hcz121_3, hcz121_4, hcz121_5, hcz121_6, hcz121_7, hcz121_8, hfz121_0, hfz121_1, hfz121_2, hfz121_3, hfz121_4, hfz121_5, hfz121_6, hfz121_7, hfz121_8⟩ := cz9_ BK203))
      go_ret
      exact ⟨retE_, belE_⟩

end Go.Proofs.YthifpohbdbhnlaaGreatDoor.QFnStrip
