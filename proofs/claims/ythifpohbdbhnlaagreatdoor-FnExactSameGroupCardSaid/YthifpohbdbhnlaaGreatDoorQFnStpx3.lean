/- A tool of this session wrote this text out of the translation: functions as plain Lean, and proofs that the machine's calls come to their answers. -/
import Derived.Test.YthifpohbdbhnlaaGreatDoorQShort
import Derived.Test.YthifpohbdbhnlaaGreatDoorQFnStpx0
import Derived.Test.YthifpohbdbhnlaaGreatDoorQFnStpx2
namespace Go.Proofs.YthifpohbdbhnlaaGreatDoor.QFnStp
open Go.RowKit Go.Proofs.YthifpohbdbhnlaaGreatDoorW.PrintWords Go.Proofs.YthifpohbdbhnlaaGreatDoorW.PrintLast Go.Proofs.YthifpohbdbhnlaaGreatDoorW.PrintMore
open Go.Proofs.YthifpohbdbhnlaaGreatDoor.Short
attribute [local go_sem] max2_int min2_int max_two min_two max_three min_three max_four min_four   -- for this text's walks alone
set_option linter.unusedVariables false
set_option linter.unusedSimpArgs false

/-! ### spec_l01Text: function 66 -/
def spec_l01Text.j0 : Nat → ByteArray → ByteArray → ByteArray → ByteArray → Int → ByteArray → ByteArray → ByteArray → Bool → Bool → Option (ByteArray)
  | 0, _, _, _, _, _, _, _, _, _, _ => none
  | k + 1, x3, x121000, x121001, x121002, x121003, x121004, x121005, x121006, x121007, x121008 => (spec_l01Site.f k (⟨#[]⟩ : ByteArray) (⟨#[]⟩ : ByteArray) x121002 x121003 (⟨#[]⟩ : ByteArray) (⟨#[]⟩ : ByteArray) (⟨#[]⟩ : ByteArray) false false).bind fun t122 => (if 3 ≤ (t122.size : Int) then (if (t122.extract 3 t122.size).size + x121004.size ≤ 9223372036854775807 then (if x3.size + ((t122.extract 3 t122.size) ++ x121004).size ≤ 9223372036854775807 then (if x121007 = true then (if 1 + x121005.size ≤ 9223372036854775807 then (if (x3 ++ ((t122.extract 3 t122.size) ++ x121004)).size + ((⟨#[63]⟩ : ByteArray) ++ x121005).size ≤ 9223372036854775807 then (if x121008 = true then (if 1 + x121006.size ≤ 9223372036854775807 then (if ((x3 ++ ((t122.extract 3 t122.size) ++ x121004)) ++ ((⟨#[63]⟩ : ByteArray) ++ x121005)).size + ((⟨#[35]⟩ : ByteArray) ++ x121006).size ≤ 9223372036854775807 then (some (((x3 ++ ((t122.extract 3 t122.size) ++ x121004)) ++ ((⟨#[63]⟩ : ByteArray) ++ x121005)) ++ ((⟨#[35]⟩ : ByteArray) ++ x121006))) else (none)) else (none)) else (some ((x3 ++ ((t122.extract 3 t122.size) ++ x121004)) ++ ((⟨#[63]⟩ : ByteArray) ++ x121005)))) else (none)) else (none)) else (if x121008 = true then (if 1 + x121006.size ≤ 9223372036854775807 then (if (x3 ++ ((t122.extract 3 t122.size) ++ x121004)).size + ((⟨#[35]⟩ : ByteArray) ++ x121006).size ≤ 9223372036854775807 then (some ((x3 ++ ((t122.extract 3 t122.size) ++ x121004)) ++ ((⟨#[35]⟩ : ByteArray) ++ x121006))) else (none)) else (none)) else (some (x3 ++ ((t122.extract 3 t122.size) ++ x121004))))) else (none)) else (none)) else (none))
def spec_l01Text.f (k : Nat) (a0_0 : ByteArray) (a0_1 : ByteArray) (a0_2 : ByteArray) (a0_3 : Int) (a0_4 : ByteArray) (a0_5 : ByteArray) (a0_6 : ByteArray) (a0_7 : Bool) (a0_8 : Bool) : Option (ByteArray) := (spec_l01Web.f a0_0).bind fun t121 => (if t121 = true then (if a0_0.size + 3 ≤ 9223372036854775807 then (if a0_1.toList = ([] : List UInt8) then (spec_l01Text.j0 k (a0_0 ++ (⟨#[58, 47, 47]⟩ : ByteArray)) a0_0 a0_1 a0_2 a0_3 a0_4 a0_5 a0_6 a0_7 a0_8) else (if a0_1.size + 1 ≤ 9223372036854775807 then (if (a0_0 ++ (⟨#[58, 47, 47]⟩ : ByteArray)).size + (a0_1 ++ (⟨#[64]⟩ : ByteArray)).size ≤ 9223372036854775807 then (spec_l01Text.j0 k ((a0_0 ++ (⟨#[58, 47, 47]⟩ : ByteArray)) ++ (a0_1 ++ (⟨#[64]⟩ : ByteArray))) a0_0 a0_1 a0_2 a0_3 a0_4 a0_5 a0_6 a0_7 a0_8) else (none)) else (none))) else (none)) else (if a0_0.size + 1 ≤ 9223372036854775807 then (if (a0_0 ++ (⟨#[58]⟩ : ByteArray)).size + a0_4.size ≤ 9223372036854775807 then (some ((a0_0 ++ (⟨#[58]⟩ : ByteArray)) ++ a0_4)) else (none)) else (none)))
theorem spec_l01Text.mono_l : ∀ k, (∀ y0 y1 y2 y3 y4 y5 y6 y7 y8 y9, LeO (spec_l01Text.j0 k y0 y1 y2 y3 y4 y5 y6 y7 y8 y9) (spec_l01Text.j0 (k + 1) y0 y1 y2 y3 y4 y5 y6 y7 y8 y9))
  | 0 => fun _ _ _ _ _ _ _ _ _ _ r h => by simp [spec_l01Text.j0] at h
  | k + 1 => by
    have ih0 := spec_l01Text.mono_l k
    · intro y0 y1 y2 y3 y4 y5 y6 y7 y8 y9
      unfold spec_l01Text.j0; repeat' first | (with_reducible exact ih0 _ _ _ _ _ _ _ _ _ _) | (with_reducible exact spec_l01Site.mono _ _ _ _ _ _ _ _ _ _) | (with_reducible first | exact LeO.refl _ | exact LeO.none _ | refine LeO.ite ?_ ?_ | refine LeO.bind ?_ (fun _ => ?_)) | exact ih0 _ _ _ _ _ _ _ _ _ _ | exact spec_l01Site.mono _ _ _ _ _ _ _ _ _ _ | exact LeO.none _ | refine LeO.ite ?_ ?_ | refine LeO.bind ?_ (fun _ => ?_)
theorem spec_l01Text.mono : ∀ a0 a1 a2 a3 a4 a5 a6 a7 a8 k, LeO (spec_l01Text.f k a0 a1 a2 a3 a4 a5 a6 a7 a8) (spec_l01Text.f (k + 1) a0 a1 a2 a3 a4 a5 a6 a7 a8) := by
  intro a0 a1 a2 a3 a4 a5 a6 a7 a8 k; have ih0 := spec_l01Text.mono_l k; unfold spec_l01Text.f; repeat' first | (with_reducible exact ih0 _ _ _ _ _ _ _ _ _ _) | (with_reducible exact spec_l01Site.mono _ _ _ _ _ _ _ _ _ _) | (with_reducible first | exact LeO.refl _ | exact LeO.none _ | refine LeO.ite ?_ ?_ | refine LeO.bind ?_ (fun _ => ?_)) | exact ih0 _ _ _ _ _ _ _ _ _ _ | exact spec_l01Site.mono _ _ _ _ _ _ _ _ _ _ | exact LeO.none _ | refine LeO.ite ?_ ?_ | refine LeO.bind ?_ (fun _ => ?_)
def spec_l01Text.T6 : Bool × List (List Nat × List Nat) := (true, [([], []), ([], []), ([1], [1]), ([], []), ([3], [3]), ([2, 4], [2, 4]), ([5], [5]), ([6], [6]), ([], []), ([8], [8]), ([7, 9], [7, 9]), ([0, 10], [0, 10]), ([11, 6, 0, 1, 2, 3, 4, 5, 6, 7, 8, 9, 10, 11], [0, 11])])
def spec_l01Text.B6 : List Nat := [0, 0, 2, 0, 8, 30, 62, 126, 0, 256, 1022, 2047, 4095]
theorem spec_l01Text.tab6 : rtab .any (opsOf Tryz.f66 6) = spec_l01Text.T6 := by kernel_rfl
theorem spec_l01Text.bits6 : waitsOk spec_l01Text.T6.2 spec_l01Text.B6 = true := by kernel_rfl
set_option maxHeartbeats 8000000 in
set_option maxRecDepth 100000 in
theorem spec_l01Text.calls (k : Nat) (a0_0 : ByteArray) (a0_1 : ByteArray) (a0_2 : ByteArray) (a0_3 : Int) (a0_4 : ByteArray) (a0_5 : ByteArray) (a0_6 : ByteArray) (a0_7 : Bool) (a0_8 : Bool) (r : ByteArray) (w : World) (h : spec_l01Text.f k a0_0 a0_1 a0_2 a0_3 a0_4 a0_5 a0_6 a0_7 a0_8 = some r) :
    Calls Tryz.prog 66 #[.agg #[.string a0_0, .string a0_1, .string a0_2, .int .i64 a0_3, .string a0_4, .string a0_5, .string a0_6, .bool a0_7, .bool a0_8]] w fun e w' => e = .returned (.string r) ∧ Below w.heap.size w w' := by
 have hu32 := Tryz.underlying32; have HB := Aside0.mk (Below.refl w.heap.size w); have H : ((spec_l01Web.f a0_0).bind fun t121 => (if t121 = true then (if a0_0.size + 3 ≤ 9223372036854775807 then (if a0_1.toList = ([] : List UInt8) then (spec_l01Text.j0 k (a0_0 ++ (⟨#[58, 47, 47]⟩ : ByteArray)) a0_0 a0_1 a0_2 a0_3 a0_4 a0_5 a0_6 a0_7 a0_8) else (if a0_1.size + 1 ≤ 9223372036854775807 then (if (a0_0 ++ (⟨#[58, 47, 47]⟩ : ByteArray)).size + (a0_1 ++ (⟨#[64]⟩ : ByteArray)).size ≤ 9223372036854775807 then (spec_l01Text.j0 k ((a0_0 ++ (⟨#[58, 47, 47]⟩ : ByteArray)) ++ (a0_1 ++ (⟨#[64]⟩ : ByteArray))) a0_0 a0_1 a0_2 a0_3 a0_4 a0_5 a0_6 a0_7 a0_8) else (none)) else (none))) else (none)) else (if a0_0.size + 1 ≤ 9223372036854775807 then (if (a0_0 ++ (⟨#[58]⟩ : ByteArray)).size + a0_4.size ≤ 9223372036854775807 then (some ((a0_0 ++ (⟨#[58]⟩ : ByteArray)) ++ a0_4)) else (none)) else (none)))) = some r := h; clear h; obtain ⟨t121, A2, H⟩ := bindE_ H; by_cases c3 : t121 = true
 ·
  subst c3; replace H := ifT_ H; by_cases c4 : a0_0.size + 3 ≤ 9223372036854775807
  ·
   rw [if_pos c4] at H; have c4b0 := eq_true c4; have c4b1 : decide (a0_0.size + 3 ≤ 9223372036854775807) = true := decide_eq_true c4; try have c4b2 : (9223372036854775807 < a0_0.size + 3) = False := eq_false (Nat.not_lt.2 c4)
   try (have c4b3 := c4b0; simp only [ByteArray.size_extract, ByteArray.size_append, bsize_lit, List.length_cons, List.length_nil, Nat.reduceAdd, Nat.zero_add] at c4b3)
   try (have c4b4 := c4b1; simp only [ByteArray.size_extract, ByteArray.size_append, bsize_lit, List.length_cons, List.length_nil, Nat.reduceAdd, Nat.zero_add] at c4b4)
   try (have c4b5 := c4b2; simp only [ByteArray.size_extract, ByteArray.size_append, bsize_lit, List.length_cons, List.length_nil, Nat.reduceAdd, Nat.zero_add] at c4b5)
   have HC5 := Aside0.mk H; clear H; go_enter Tryz.func66, Tryz.ntmps66; go_upto_if 19 with (first | ((with_reducible refine gate_dst (N := 1) rfl ?_); refine box_event ?hg (N := 1) ?hd (cs := #[.string a0_0, .string a0_1, .string a0_2, .int .i64 a0_3, .string a0_4, .string a0_5, .string a0_6, .bool a0_7, .bool a0_8]) (t := 32) ?hr ?_; (case hd => rfl); (case hg => rfl); (case hr => first | (go_simp; done) | (go_simp; rfl)); intro gb120 hg w6 hbox hb; have n0_ := belB_ hb; have n1_ := Aside0.mk (hbox); have n2_ := geE_ (w := w) hg; have n3_ := geE_ (w := w) hg; clear HB; have HB := n0_; have BK120 := n1_; have GW120 := n2_; have GE120 := n3_; clear n0_ n1_ n2_ n3_; clear hb hbox hg; obtain ⟨hcz7_0, hcz7_1, hcz7_2, hcz7_3, hcz7_4, hcz7_5, hcz7_6, hcz7_7, hcz7_8, hfz7_0, hfz7_1, hfz7_2, hfz7_3, hfz7_4, hfz7_5, hfz7_6, hfz7_7, hfz7_8⟩ := cz9_ BK120) | ((with_reducible refine gate_callee (f := 61) rfl ?_); refine cU_ (some 6) Tryz.func61 #[.string a0_0] ?_; (with_reducible refine (spec_l01Web.calls a0_0 true _ A2.out).mono ?_); rintro e w' ⟨rfl, ⟨nd, rfl⟩⟩; refine ⟨_, rfl, ?_⟩))
   (try simp only [Act.put, List.setIfInBounds_toArray, List.set_cons_zero, List.set_cons_succ]); go_cut [3] (fun v3 wc => ∃ (kq : Nat) (x3_4 : ByteArray), v3 = .string x3_4 ∧ Aside0 (spec_l01Text.j0 kq x3_4 a0_0 a0_1 a0_2 a0_3 a0_4 a0_5 a0_6 a0_7 a0_8 = some r) ∧ Aside0 (kq ≤ k) ∧ Aside0 (wc.heap[gb120]? = some (.cells #[.string a0_0, .string a0_1, .string a0_2, .int .i64 a0_3, .string a0_4, .string a0_5, .string a0_6, .bool a0_7, .bool a0_8] 32 (0, 0))) ∧ Aside0 (Below w.heap.size w wc))
   case first =>
    have H := HC5.out; clear HC5; by_cases c8 : a0_1.toList = ([] : List UInt8)
    ·
     rw [if_pos c8] at H; have c8b0 : (a0_1.toList == ([] : List UInt8)) = true := beq_iff_eq.mpr c8; have c8b1 : (a0_1.toList != ([] : List UInt8)) = false := bne_eq_false_iff_eq.mpr c8; (try (have c8b2 : a0_1.toList.isEmpty = true := by simpa using c8)); clear c8; (first | rw [c8b0] | rw [c8b2] | (simp only [i64_w, i32_w]; rw [c8b0]) | skip); have H' := Aside0.mk H; clear H; go_wp2; go_meet
     case rel => exact ⟨_, (a0_0 ++ (⟨#[58, 47, 47]⟩ : ByteArray)), eqE_, H', ⟨leE_⟩, ⟨blkE_⟩, ⟨belE_⟩⟩
    ·
     rw [if_neg c8] at H; have c8b0 : (a0_1.toList == ([] : List UInt8)) = false := beq_eq_false_iff_ne.mpr c8; have c8b1 : (a0_1.toList != ([] : List UInt8)) = true := bne_iff_ne.mpr c8; (try (have c8b2 : a0_1.toList.isEmpty = false := by simpa using c8)); (first | rw [c8b0] | rw [c8b2] | (simp only [i64_w, i32_w]; rw [c8b0]) | skip); by_cases c9 : a0_1.size + 1 ≤ 9223372036854775807
     ·
      rw [if_pos c9] at H; have c9b0 := eq_true c9; have c9b1 : decide (a0_1.size + 1 ≤ 9223372036854775807) = true := decide_eq_true c9; try have c9b2 : (9223372036854775807 < a0_1.size + 1) = False := eq_false (Nat.not_lt.2 c9)
      try (have c9b3 := c9b0; simp only [ByteArray.size_extract, ByteArray.size_append, bsize_lit, List.length_cons, List.length_nil, Nat.reduceAdd, Nat.zero_add] at c9b3)
      try (have c9b4 := c9b1; simp only [ByteArray.size_extract, ByteArray.size_append, bsize_lit, List.length_cons, List.length_nil, Nat.reduceAdd, Nat.zero_add] at c9b4)
      try (have c9b5 := c9b2; simp only [ByteArray.size_extract, ByteArray.size_append, bsize_lit, List.length_cons, List.length_nil, Nat.reduceAdd, Nat.zero_add] at c9b5)
      by_cases c10 : (a0_0 ++ (⟨#[58, 47, 47]⟩ : ByteArray)).size + (a0_1 ++ (⟨#[64]⟩ : ByteArray)).size ≤ 9223372036854775807
      ·
       rw [if_pos c10] at H; have c10b0 := eq_true c10; have c10b1 : decide ((a0_0 ++ (⟨#[58, 47, 47]⟩ : ByteArray)).size + (a0_1 ++ (⟨#[64]⟩ : ByteArray)).size ≤ 9223372036854775807) = true := decide_eq_true c10; try have c10b2 : (9223372036854775807 < (a0_0 ++ (⟨#[58, 47, 47]⟩ : ByteArray)).size + (a0_1 ++ (⟨#[64]⟩ : ByteArray)).size) = False := eq_false (Nat.not_lt.2 c10)
       try (have c10b3 := c10b0; simp only [ByteArray.size_extract, ByteArray.size_append, bsize_lit, List.length_cons, List.length_nil, Nat.reduceAdd, Nat.zero_add] at c10b3)
       try (have c10b4 := c10b1; simp only [ByteArray.size_extract, ByteArray.size_append, bsize_lit, List.length_cons, List.length_nil, Nat.reduceAdd, Nat.zero_add] at c10b4)
       try (have c10b5 := c10b2; simp only [ByteArray.size_extract, ByteArray.size_append, bsize_lit, List.length_cons, List.length_nil, Nat.reduceAdd, Nat.zero_add] at c10b5)
       have H' := Aside0.mk H; clear H; obtain ⟨hcz11_0, hcz11_1, hcz11_2, hcz11_3, hcz11_4, hcz11_5, hcz11_6, hcz11_7, hcz11_8, hfz11_0, hfz11_1, hfz11_2, hfz11_3, hfz11_4, hfz11_5, hfz11_6, hfz11_7, hfz11_8⟩ := cz9_ BK120; go_wp2; go_meet
       case rel => exact ⟨_, ((a0_0 ++ (⟨#[58, 47, 47]⟩ : ByteArray)) ++ (a0_1 ++ (⟨#[64]⟩ : ByteArray))), eqE_, H', ⟨leE_⟩, ⟨blkE_⟩, ⟨belE_⟩⟩
      · rw [if_neg c10] at H; exact absurd H (by simp)
     · rw [if_neg c9] at H; exact absurd H (by simp)
   case rest =>
    clear HC5; try clear c3
    try clear c4
    try clear c4b0
    try clear c4b1
    try clear c4b2
    try clear hcz7_0 hcz7_1 hcz7_2 hcz7_3 hcz7_4 hcz7_5 hcz7_6 hcz7_7 hcz7_8
    try clear hfz7_0 hfz7_1 hfz7_2 hfz7_3 hfz7_4 hfz7_5 hfz7_6 hfz7_7 hfz7_8
    obtain ⟨kq, x3_4, rfl, HA, HJ4, BK120, HB⟩ := hcut; cases kq with
    | zero => exact absurd HA.out (by simp [spec_l01Text.j0])
    | succ kj4 =>
     have H := HA.out; clear HA; simp only [spec_l01Text.j0] at H; obtain ⟨t122, A12, H⟩ := bindE_ H; by_cases c13 : 3 ≤ (t122.size : Int)
     ·
      rw [if_pos c13] at H; have c13b0 := eq_true c13; have c13b1 : decide (3 ≤ (t122.size : Int)) = true := decide_eq_true c13; clear c13; by_cases c14 : (t122.extract 3 t122.size).size + a0_4.size ≤ 9223372036854775807
      ·
       rw [if_pos c14] at H; have c14b0 := eq_true c14; have c14b1 : decide ((t122.extract 3 t122.size).size + a0_4.size ≤ 9223372036854775807) = true := decide_eq_true c14; try (have c14e1 := c14b1; simp only [ByteArray.size_extract, Nat.min_self, Nat.sub_zero] at c14e1)
       try have c14b2 : (9223372036854775807 < (t122.extract 3 t122.size).size + a0_4.size) = False := eq_false (Nat.not_lt.2 c14)
       try (have c14b3 := c14b0; simp only [ByteArray.size_extract, ByteArray.size_append, bsize_lit, List.length_cons, List.length_nil, Nat.reduceAdd, Nat.zero_add] at c14b3)
       try (have c14b4 := c14b1; simp only [ByteArray.size_extract, ByteArray.size_append, bsize_lit, List.length_cons, List.length_nil, Nat.reduceAdd, Nat.zero_add] at c14b4)
       try (have c14b5 := c14b2; simp only [ByteArray.size_extract, ByteArray.size_append, bsize_lit, List.length_cons, List.length_nil, Nat.reduceAdd, Nat.zero_add] at c14b5)
       try (have c14b6 := c14b3; rw [Nat.min_eq_left (by omega)] at c14b6)
       try (have c14b7 := c14b4; rw [Nat.min_eq_left (by omega)] at c14b7)
       try (have c14b8 := c14b5; rw [Nat.min_eq_left (by omega)] at c14b8)
       by_cases c15 : x3_4.size + ((t122.extract 3 t122.size) ++ a0_4).size ≤ 9223372036854775807
       ·
        rw [if_pos c15] at H; have c15b0 := eq_true c15; have c15b1 : decide (x3_4.size + ((t122.extract 3 t122.size) ++ a0_4).size ≤ 9223372036854775807) = true := decide_eq_true c15; try (have c15e1 := c15b1; simp only [ByteArray.size_extract, Nat.min_self, Nat.sub_zero] at c15e1)
        try have c15b2 : (9223372036854775807 < x3_4.size + ((t122.extract 3 t122.size) ++ a0_4).size) = False := eq_false (Nat.not_lt.2 c15)
        try (have c15b3 := c15b0; simp only [ByteArray.size_extract, ByteArray.size_append, bsize_lit, List.length_cons, List.length_nil, Nat.reduceAdd, Nat.zero_add] at c15b3)
        try (have c15b4 := c15b1; simp only [ByteArray.size_extract, ByteArray.size_append, bsize_lit, List.length_cons, List.length_nil, Nat.reduceAdd, Nat.zero_add] at c15b4)
        try (have c15b5 := c15b2; simp only [ByteArray.size_extract, ByteArray.size_append, bsize_lit, List.length_cons, List.length_nil, Nat.reduceAdd, Nat.zero_add] at c15b5)
        try (have c15b6 := c15b3; rw [Nat.min_eq_left (by omega)] at c15b6)
        try (have c15b7 := c15b4; rw [Nat.min_eq_left (by omega)] at c15b7)
        try (have c15b8 := c15b5; rw [Nat.min_eq_left (by omega)] at c15b8)
        by_cases c16 : a0_7 = true
        ·
         subst c16; replace H := ifT_ H; by_cases c17 : 1 + a0_5.size ≤ 9223372036854775807
         ·
          rw [if_pos c17] at H; have c17b0 := eq_true c17; have c17b1 : decide (1 + a0_5.size ≤ 9223372036854775807) = true := decide_eq_true c17; try have c17b2 : (9223372036854775807 < 1 + a0_5.size) = False := eq_false (Nat.not_lt.2 c17)
          try (have c17b3 := c17b0; simp only [ByteArray.size_extract, ByteArray.size_append, bsize_lit, List.length_cons, List.length_nil, Nat.reduceAdd, Nat.zero_add] at c17b3)
          try (have c17b4 := c17b1; simp only [ByteArray.size_extract, ByteArray.size_append, bsize_lit, List.length_cons, List.length_nil, Nat.reduceAdd, Nat.zero_add] at c17b4)
          try (have c17b5 := c17b2; simp only [ByteArray.size_extract, ByteArray.size_append, bsize_lit, List.length_cons, List.length_nil, Nat.reduceAdd, Nat.zero_add] at c17b5)
          by_cases c18 : (x3_4 ++ ((t122.extract 3 t122.size) ++ a0_4)).size + ((⟨#[63]⟩ : ByteArray) ++ a0_5).size ≤ 9223372036854775807
          ·
           rw [if_pos c18] at H; have c18b0 := eq_true c18; have c18b1 : decide ((x3_4 ++ ((t122.extract 3 t122.size) ++ a0_4)).size + ((⟨#[63]⟩ : ByteArray) ++ a0_5).size ≤ 9223372036854775807) = true := decide_eq_true c18; try (have c18e1 := c18b1; simp only [ByteArray.size_extract, Nat.min_self, Nat.sub_zero] at c18e1)
           try have c18b2 : (9223372036854775807 < (x3_4 ++ ((t122.extract 3 t122.size) ++ a0_4)).size + ((⟨#[63]⟩ : ByteArray) ++ a0_5).size) = False := eq_false (Nat.not_lt.2 c18)
           try (have c18b3 := c18b0; simp only [ByteArray.size_extract, ByteArray.size_append, bsize_lit, List.length_cons, List.length_nil, Nat.reduceAdd, Nat.zero_add] at c18b3)
           try (have c18b4 := c18b1; simp only [ByteArray.size_extract, ByteArray.size_append, bsize_lit, List.length_cons, List.length_nil, Nat.reduceAdd, Nat.zero_add] at c18b4)
           try (have c18b5 := c18b2; simp only [ByteArray.size_extract, ByteArray.size_append, bsize_lit, List.length_cons, List.length_nil, Nat.reduceAdd, Nat.zero_add] at c18b5)
           try (have c18b6 := c18b3; rw [Nat.min_eq_left (by omega)] at c18b6)
           try (have c18b7 := c18b4; rw [Nat.min_eq_left (by omega)] at c18b7)
           try (have c18b8 := c18b5; rw [Nat.min_eq_left (by omega)] at c18b8)
           by_cases c19 : a0_8 = true
           ·
            subst c19; replace H := ifT_ H; by_cases c20 : 1 + a0_6.size ≤ 9223372036854775807
            ·
             rw [if_pos c20] at H; have c20b0 := eq_true c20; have c20b1 : decide (1 + a0_6.size ≤ 9223372036854775807) = true := decide_eq_true c20; try have c20b2 : (9223372036854775807 < 1 + a0_6.size) = False := eq_false (Nat.not_lt.2 c20)
             try (have c20b3 := c20b0; simp only [ByteArray.size_extract, ByteArray.size_append, bsize_lit, List.length_cons, List.length_nil, Nat.reduceAdd, Nat.zero_add] at c20b3)
             try (have c20b4 := c20b1; simp only [ByteArray.size_extract, ByteArray.size_append, bsize_lit, List.length_cons, List.length_nil, Nat.reduceAdd, Nat.zero_add] at c20b4)
             try (have c20b5 := c20b2; simp only [ByteArray.size_extract, ByteArray.size_append, bsize_lit, List.length_cons, List.length_nil, Nat.reduceAdd, Nat.zero_add] at c20b5)
             by_cases c21 : ((x3_4 ++ ((t122.extract 3 t122.size) ++ a0_4)) ++ ((⟨#[63]⟩ : ByteArray) ++ a0_5)).size + ((⟨#[35]⟩ : ByteArray) ++ a0_6).size ≤ 9223372036854775807
             ·
              rw [if_pos c21] at H; have c21b0 := eq_true c21; have c21b1 : decide (((x3_4 ++ ((t122.extract 3 t122.size) ++ a0_4)) ++ ((⟨#[63]⟩ : ByteArray) ++ a0_5)).size + ((⟨#[35]⟩ : ByteArray) ++ a0_6).size ≤ 9223372036854775807) = true := decide_eq_true c21; try (have c21e1 := c21b1; simp only [ByteArray.size_extract, Nat.min_self, Nat.sub_zero] at c21e1)
              try have c21b2 : (9223372036854775807 < ((x3_4 ++ ((t122.extract 3 t122.size) ++ a0_4)) ++ ((⟨#[63]⟩ : ByteArray) ++ a0_5)).size + ((⟨#[35]⟩ : ByteArray) ++ a0_6).size) = False := eq_false (Nat.not_lt.2 c21)
              try (have c21b3 := c21b0; simp only [ByteArray.size_extract, ByteArray.size_append, bsize_lit, List.length_cons, List.length_nil, Nat.reduceAdd, Nat.zero_add] at c21b3)
              try (have c21b4 := c21b1; simp only [ByteArray.size_extract, ByteArray.size_append, bsize_lit, List.length_cons, List.length_nil, Nat.reduceAdd, Nat.zero_add] at c21b4)
              try (have c21b5 := c21b2; simp only [ByteArray.size_extract, ByteArray.size_append, bsize_lit, List.length_cons, List.length_nil, Nat.reduceAdd, Nat.zero_add] at c21b5)
              try (have c21b6 := c21b3; rw [Nat.min_eq_left (by omega)] at c21b6)
              try (have c21b7 := c21b4; rw [Nat.min_eq_left (by omega)] at c21b7)
              try (have c21b8 := c21b5; rw [Nat.min_eq_left (by omega)] at c21b8)
              obtain rfl := Option.some.inj H; try go_wp2
              replace BK120 := Aside0.mk (blk_drew BK120.out); replace HB := Aside0.mk (below_drew1 HB.out); refine startU_ (n := 13) (S := fun w' => w'.cell? ⟨gb120, 0, none⟩ = some (.string a0_0) ∧ w'.cell? ⟨gb120, 1, none⟩ = some (.string a0_1) ∧ w'.cell? ⟨gb120, 2, none⟩ = some (.string a0_2) ∧ w'.cell? ⟨gb120, 3, none⟩ = some (.int .i64 a0_3) ∧ w'.cell? ⟨gb120, 4, none⟩ = some (.string a0_4) ∧ w'.cell? ⟨gb120, 5, none⟩ = some (.string a0_5) ∧ w'.cell? ⟨gb120, 6, none⟩ = some (.string a0_6) ∧ w'.cell? ⟨gb120, 7, none⟩ = some (.bool true) ∧ w'.cell? ⟨gb120, 8, none⟩ = some (.bool true)) (ds := []) (held9_ BK120.out) (fun hHeld => ?_); refine with_tabW spec_l01Text.tab6 spec_l01Text.bits6 (fun HT_ HW_ => ?_); generalize wc.drew = w22 at BK120 HB hHeld ⊢; iterate 2 refine pU_ ?_
              refine pUX_ 3 ?_; refine pUX_ 8 ?_; refine tU_ ?_; refine aU_ ?_; refine tU_ ?_; refine pU_ ?_; refine tUX_ 9 ?_; refine oU_ (fun K hK => ?_); refine gU_ Tryz.func62 #[.agg #[.string ⟨#[]⟩, .string ⟨#[]⟩, .string a0_2, .int .i64 a0_3, .string ⟨#[]⟩, .string ⟨#[]⟩, .string ⟨#[]⟩, .bool false, .bool false]] ?_; with_reducible refine (spec_l01Site.calls kj4 (⟨#[]⟩ : ByteArray) (⟨#[]⟩ : ByteArray) a0_2 a0_3 (⟨#[]⟩ : ByteArray) (⟨#[]⟩ : ByteArray) (⟨#[]⟩ : ByteArray) false false t122 _ A12.out).mono ?_
              rintro e w23 ⟨rfl, hb⟩; refine ⟨_, rfl, ?_⟩; replace BK120 := blkK_ BK120 hb; replace HB := belB_ hb; (try clear hb); refine hK.out _ _ (held9_ BK120.out) (fun hHeld => ?_); clear hK K; refine nU_ ?_; refine pU_ ?_; iterate 2 refine aU_ ?_
              iterate 3 refine pU_ ?_
              refine doneU_ ?_; obtain ⟨hcz24_0, hcz24_1, hcz24_2, hcz24_3, hcz24_4, hcz24_5, hcz24_6, hcz24_7, hcz24_8, hfz24_0, hfz24_1, hfz24_2, hfz24_3, hfz24_4, hfz24_5, hfz24_6, hfz24_7, hfz24_8⟩ := cz9_ BK120; try go_wp2
              go_ret; exact ⟨retE_, belE_⟩
             · rw [if_neg c21] at H; exact absurd H (by simp)
            · rw [if_neg c20] at H; exact absurd H (by simp)
           ·
            replace c19 := Bool.eq_false_iff.mpr c19; subst c19; replace H := ifF_ H; obtain rfl := Option.some.inj H; try go_wp2
            replace BK120 := Aside0.mk (blk_drew BK120.out); replace HB := Aside0.mk (below_drew1 HB.out); refine startU_ (n := 13) (S := fun w' => w'.cell? ⟨gb120, 0, none⟩ = some (.string a0_0) ∧ w'.cell? ⟨gb120, 1, none⟩ = some (.string a0_1) ∧ w'.cell? ⟨gb120, 2, none⟩ = some (.string a0_2) ∧ w'.cell? ⟨gb120, 3, none⟩ = some (.int .i64 a0_3) ∧ w'.cell? ⟨gb120, 4, none⟩ = some (.string a0_4) ∧ w'.cell? ⟨gb120, 5, none⟩ = some (.string a0_5) ∧ w'.cell? ⟨gb120, 6, none⟩ = some (.string a0_6) ∧ w'.cell? ⟨gb120, 7, none⟩ = some (.bool true) ∧ w'.cell? ⟨gb120, 8, none⟩ = some (.bool false)) (ds := []) (held9_ BK120.out) (fun hHeld => ?_); refine with_tabW spec_l01Text.tab6 spec_l01Text.bits6 (fun HT_ HW_ => ?_); generalize wc.drew = w25 at BK120 HB hHeld ⊢; iterate 2 refine pU_ ?_
            refine pUX_ 3 ?_; refine pUX_ 8 ?_; refine tU_ ?_; refine aU_ ?_; refine tU_ ?_; refine pU_ ?_; refine tUX_ 9 ?_; refine oU_ (fun K hK => ?_); refine gU_ Tryz.func62 #[.agg #[.string ⟨#[]⟩, .string ⟨#[]⟩, .string a0_2, .int .i64 a0_3, .string ⟨#[]⟩, .string ⟨#[]⟩, .string ⟨#[]⟩, .bool false, .bool false]] ?_; with_reducible refine (spec_l01Site.calls kj4 (⟨#[]⟩ : ByteArray) (⟨#[]⟩ : ByteArray) a0_2 a0_3 (⟨#[]⟩ : ByteArray) (⟨#[]⟩ : ByteArray) (⟨#[]⟩ : ByteArray) false false t122 _ A12.out).mono ?_
            rintro e w26 ⟨rfl, hb⟩; refine ⟨_, rfl, ?_⟩; replace BK120 := blkK_ BK120 hb; replace HB := belB_ hb; (try clear hb); refine hK.out _ _ (held9_ BK120.out) (fun hHeld => ?_); clear hK K; refine nU_ ?_; refine pU_ ?_; iterate 2 refine aU_ ?_
            iterate 3 refine pU_ ?_
            refine doneU_ ?_; obtain ⟨hcz27_0, hcz27_1, hcz27_2, hcz27_3, hcz27_4, hcz27_5, hcz27_6, hcz27_7, hcz27_8, hfz27_0, hfz27_1, hfz27_2, hfz27_3, hfz27_4, hfz27_5, hfz27_6, hfz27_7, hfz27_8⟩ := cz9_ BK120; try go_wp2
            go_ret; exact ⟨retE_, belE_⟩
          · rw [if_neg c18] at H; exact absurd H (by simp)
         · rw [if_neg c17] at H; exact absurd H (by simp)
        ·
         replace c16 := Bool.eq_false_iff.mpr c16; subst c16; replace H := ifF_ H; by_cases c28 : a0_8 = true
         ·
          subst c28; replace H := ifT_ H; by_cases c29 : 1 + a0_6.size ≤ 9223372036854775807
          ·
           rw [if_pos c29] at H; have c29b0 := eq_true c29; have c29b1 : decide (1 + a0_6.size ≤ 9223372036854775807) = true := decide_eq_true c29; try have c29b2 : (9223372036854775807 < 1 + a0_6.size) = False := eq_false (Nat.not_lt.2 c29)
           try (have c29b3 := c29b0; simp only [ByteArray.size_extract, ByteArray.size_append, bsize_lit, List.length_cons, List.length_nil, Nat.reduceAdd, Nat.zero_add] at c29b3)
           try (have c29b4 := c29b1; simp only [ByteArray.size_extract, ByteArray.size_append, bsize_lit, List.length_cons, List.length_nil, Nat.reduceAdd, Nat.zero_add] at c29b4)
           try (have c29b5 := c29b2; simp only [ByteArray.size_extract, ByteArray.size_append, bsize_lit, List.length_cons, List.length_nil, Nat.reduceAdd, Nat.zero_add] at c29b5)
           by_cases c30 : (x3_4 ++ ((t122.extract 3 t122.size) ++ a0_4)).size + ((⟨#[35]⟩ : ByteArray) ++ a0_6).size ≤ 9223372036854775807
           ·
            rw [if_pos c30] at H; have c30b0 := eq_true c30; have c30b1 : decide ((x3_4 ++ ((t122.extract 3 t122.size) ++ a0_4)).size + ((⟨#[35]⟩ : ByteArray) ++ a0_6).size ≤ 9223372036854775807) = true := decide_eq_true c30; try (have c30e1 := c30b1; simp only [ByteArray.size_extract, Nat.min_self, Nat.sub_zero] at c30e1)
            try have c30b2 : (9223372036854775807 < (x3_4 ++ ((t122.extract 3 t122.size) ++ a0_4)).size + ((⟨#[35]⟩ : ByteArray) ++ a0_6).size) = False := eq_false (Nat.not_lt.2 c30)
            try (have c30b3 := c30b0; simp only [ByteArray.size_extract, ByteArray.size_append, bsize_lit, List.length_cons, List.length_nil, Nat.reduceAdd, Nat.zero_add] at c30b3)
            try (have c30b4 := c30b1; simp only [ByteArray.size_extract, ByteArray.size_append, bsize_lit, List.length_cons, List.length_nil, Nat.reduceAdd, Nat.zero_add] at c30b4)
            try (have c30b5 := c30b2; simp only [ByteArray.size_extract, ByteArray.size_append, bsize_lit, List.length_cons, List.length_nil, Nat.reduceAdd, Nat.zero_add] at c30b5)
            try (have c30b6 := c30b3; rw [Nat.min_eq_left (by omega)] at c30b6)
            try (have c30b7 := c30b4; rw [Nat.min_eq_left (by omega)] at c30b7)
            try (have c30b8 := c30b5; rw [Nat.min_eq_left (by omega)] at c30b8)
            obtain rfl := Option.some.inj H; try go_wp2
            replace BK120 := Aside0.mk (blk_drew BK120.out); replace HB := Aside0.mk (below_drew1 HB.out); refine startU_ (n := 13) (S := fun w' => w'.cell? ⟨gb120, 0, none⟩ = some (.string a0_0) ∧ w'.cell? ⟨gb120, 1, none⟩ = some (.string a0_1) ∧ w'.cell? ⟨gb120, 2, none⟩ = some (.string a0_2) ∧ w'.cell? ⟨gb120, 3, none⟩ = some (.int .i64 a0_3) ∧ w'.cell? ⟨gb120, 4, none⟩ = some (.string a0_4) ∧ w'.cell? ⟨gb120, 5, none⟩ = some (.string a0_5) ∧ w'.cell? ⟨gb120, 6, none⟩ = some (.string a0_6) ∧ w'.cell? ⟨gb120, 7, none⟩ = some (.bool false) ∧ w'.cell? ⟨gb120, 8, none⟩ = some (.bool true)) (ds := []) (held9_ BK120.out) (fun hHeld => ?_); refine with_tabW spec_l01Text.tab6 spec_l01Text.bits6 (fun HT_ HW_ => ?_); generalize wc.drew = w31 at BK120 HB hHeld ⊢; iterate 2 refine pU_ ?_
            refine pUX_ 3 ?_; refine pUX_ 8 ?_; refine tU_ ?_; refine aU_ ?_; refine tU_ ?_; refine pU_ ?_; refine tUX_ 9 ?_; refine oU_ (fun K hK => ?_); refine gU_ Tryz.func62 #[.agg #[.string ⟨#[]⟩, .string ⟨#[]⟩, .string a0_2, .int .i64 a0_3, .string ⟨#[]⟩, .string ⟨#[]⟩, .string ⟨#[]⟩, .bool false, .bool false]] ?_; with_reducible refine (spec_l01Site.calls kj4 (⟨#[]⟩ : ByteArray) (⟨#[]⟩ : ByteArray) a0_2 a0_3 (⟨#[]⟩ : ByteArray) (⟨#[]⟩ : ByteArray) (⟨#[]⟩ : ByteArray) false false t122 _ A12.out).mono ?_
            rintro e w32 ⟨rfl, hb⟩; refine ⟨_, rfl, ?_⟩; replace BK120 := blkK_ BK120 hb; replace HB := belB_ hb; (try clear hb); refine hK.out _ _ (held9_ BK120.out) (fun hHeld => ?_); clear hK K; refine nU_ ?_; refine pU_ ?_; iterate 2 refine aU_ ?_
            iterate 3 refine pU_ ?_
            refine doneU_ ?_; obtain ⟨hcz33_0, hcz33_1, hcz33_2, hcz33_3, hcz33_4, hcz33_5, hcz33_6, hcz33_7, hcz33_8, hfz33_0, hfz33_1, hfz33_2, hfz33_3, hfz33_4, hfz33_5, hfz33_6, hfz33_7, hfz33_8⟩ := cz9_ BK120; try go_wp2
            go_ret; exact ⟨retE_, belE_⟩
           · rw [if_neg c30] at H; exact absurd H (by simp)
          · rw [if_neg c29] at H; exact absurd H (by simp)
         ·
          replace c28 := Bool.eq_false_iff.mpr c28; subst c28; replace H := ifF_ H; obtain rfl := Option.some.inj H; try go_wp2
          replace BK120 := Aside0.mk (blk_drew BK120.out); replace HB := Aside0.mk (below_drew1 HB.out); refine startU_ (n := 13) (S := fun w' => w'.cell? ⟨gb120, 0, none⟩ = some (.string a0_0) ∧ w'.cell? ⟨gb120, 1, none⟩ = some (.string a0_1) ∧ w'.cell? ⟨gb120, 2, none⟩ = some (.string a0_2) ∧ w'.cell? ⟨gb120, 3, none⟩ = some (.int .i64 a0_3) ∧ w'.cell? ⟨gb120, 4, none⟩ = some (.string a0_4) ∧ w'.cell? ⟨gb120, 5, none⟩ = some (.string a0_5) ∧ w'.cell? ⟨gb120, 6, none⟩ = some (.string a0_6) ∧ w'.cell? ⟨gb120, 7, none⟩ = some (.bool false) ∧ w'.cell? ⟨gb120, 8, none⟩ = some (.bool false)) (ds := []) (held9_ BK120.out) (fun hHeld => ?_); refine with_tabW spec_l01Text.tab6 spec_l01Text.bits6 (fun HT_ HW_ => ?_); generalize wc.drew = w34 at BK120 HB hHeld ⊢; iterate 2 refine pU_ ?_
          refine pUX_ 3 ?_; refine pUX_ 8 ?_; refine tU_ ?_; refine aU_ ?_; refine tU_ ?_; refine pU_ ?_; refine tUX_ 9 ?_; refine oU_ (fun K hK => ?_); refine gU_ Tryz.func62 #[.agg #[.string ⟨#[]⟩, .string ⟨#[]⟩, .string a0_2, .int .i64 a0_3, .string ⟨#[]⟩, .string ⟨#[]⟩, .string ⟨#[]⟩, .bool false, .bool false]] ?_; with_reducible refine (spec_l01Site.calls kj4 (⟨#[]⟩ : ByteArray) (⟨#[]⟩ : ByteArray) a0_2 a0_3 (⟨#[]⟩ : ByteArray) (⟨#[]⟩ : ByteArray) (⟨#[]⟩ : ByteArray) false false t122 _ A12.out).mono ?_
          rintro e w35 ⟨rfl, hb⟩; refine ⟨_, rfl, ?_⟩; replace BK120 := blkK_ BK120 hb; replace HB := belB_ hb; (try clear hb); refine hK.out _ _ (held9_ BK120.out) (fun hHeld => ?_); clear hK K; refine nU_ ?_; refine pU_ ?_; iterate 2 refine aU_ ?_
          iterate 3 refine pU_ ?_
          refine doneU_ ?_; obtain ⟨hcz36_0, hcz36_1, hcz36_2, hcz36_3, hcz36_4, hcz36_5, hcz36_6, hcz36_7, hcz36_8, hfz36_0, hfz36_1, hfz36_2, hfz36_3, hfz36_4, hfz36_5, hfz36_6, hfz36_7, hfz36_8⟩ := cz9_ BK120; try go_wp2
          go_ret; exact ⟨retE_, belE_⟩
       · rw [if_neg c15] at H; exact absurd H (by simp)
      · rw [if_neg c14] at H; exact absurd H (by simp)
     · rw [if_neg c13] at H; exact absurd H (by simp)
  · rw [if_neg c4] at H; exact absurd H (by simp)
 ·
  replace c3 := Bool.eq_false_iff.mpr c3; subst c3; replace H := ifF_ H; by_cases c37 : a0_0.size + 1 ≤ 9223372036854775807
  ·
   rw [if_pos c37] at H; have c37b0 := eq_true c37; have c37b1 : decide (a0_0.size + 1 ≤ 9223372036854775807) = true := decide_eq_true c37; try have c37b2 : (9223372036854775807 < a0_0.size + 1) = False := eq_false (Nat.not_lt.2 c37)
   try (have c37b3 := c37b0; simp only [ByteArray.size_extract, ByteArray.size_append, bsize_lit, List.length_cons, List.length_nil, Nat.reduceAdd, Nat.zero_add] at c37b3)
   try (have c37b4 := c37b1; simp only [ByteArray.size_extract, ByteArray.size_append, bsize_lit, List.length_cons, List.length_nil, Nat.reduceAdd, Nat.zero_add] at c37b4)
   try (have c37b5 := c37b2; simp only [ByteArray.size_extract, ByteArray.size_append, bsize_lit, List.length_cons, List.length_nil, Nat.reduceAdd, Nat.zero_add] at c37b5)
   by_cases c38 : (a0_0 ++ (⟨#[58]⟩ : ByteArray)).size + a0_4.size ≤ 9223372036854775807
   ·
    rw [if_pos c38] at H; have c38b0 := eq_true c38; have c38b1 : decide ((a0_0 ++ (⟨#[58]⟩ : ByteArray)).size + a0_4.size ≤ 9223372036854775807) = true := decide_eq_true c38; try have c38b2 : (9223372036854775807 < (a0_0 ++ (⟨#[58]⟩ : ByteArray)).size + a0_4.size) = False := eq_false (Nat.not_lt.2 c38)
    try (have c38b3 := c38b0; simp only [ByteArray.size_extract, ByteArray.size_append, bsize_lit, List.length_cons, List.length_nil, Nat.reduceAdd, Nat.zero_add] at c38b3)
    try (have c38b4 := c38b1; simp only [ByteArray.size_extract, ByteArray.size_append, bsize_lit, List.length_cons, List.length_nil, Nat.reduceAdd, Nat.zero_add] at c38b4)
    try (have c38b5 := c38b2; simp only [ByteArray.size_extract, ByteArray.size_append, bsize_lit, List.length_cons, List.length_nil, Nat.reduceAdd, Nat.zero_add] at c38b5)
    obtain rfl := Option.some.inj H; go_enter Tryz.func66, Tryz.ntmps66; go_wp2_with (first | ((with_reducible refine gate_dst (N := 1) rfl ?_); refine box_event ?hg (N := 1) ?hd (cs := #[.string a0_0, .string a0_1, .string a0_2, .int .i64 a0_3, .string a0_4, .string a0_5, .string a0_6, .bool a0_7, .bool a0_8]) (t := 32) ?hr ?_; (case hd => rfl); (case hg => rfl); (case hr => first | (go_simp; done) | (go_simp; rfl)); intro gb120 hg w39 hbox hb; have n0_ := belB_ hb; have n1_ := Aside0.mk (hbox); have n2_ := geE_ (w := w) hg; have n3_ := geE_ (w := w) hg; clear HB; have HB := n0_; have BK120 := n1_; have GW120 := n2_; have GE120 := n3_; clear n0_ n1_ n2_ n3_; clear hb hbox hg; obtain ⟨hcz40_0, hcz40_1, hcz40_2, hcz40_3, hcz40_4, hcz40_5, hcz40_6, hcz40_7, hcz40_8, hfz40_0, hfz40_1, hfz40_2, hfz40_3, hfz40_4, hfz40_5, hfz40_6, hfz40_7, hfz40_8⟩ := cz9_ BK120) | ((with_reducible refine gate_callee (f := 61) rfl ?_); refine cU_ (some 6) Tryz.func61 #[.string a0_0] ?_; (with_reducible refine (spec_l01Web.calls a0_0 false _ A2.out).mono ?_); rintro e w' ⟨rfl, ⟨nd, rfl⟩⟩; refine ⟨_, rfl, ?_⟩)); go_ret; exact ⟨retE_, belE_⟩
   · rw [if_neg c38] at H; exact absurd H (by simp)
  · rw [if_neg c37] at H; exact absurd H (by simp)

/-! ### spec_l01In: function 97 -/
def spec_l01In.f (a0 : Int) (a1 : Int) (a2 : Int) : Option (Bool) := if a0 ≥ a1 then (some (decide (a0 ≤ a2))) else (some false)
set_option maxHeartbeats 8000000 in
set_option maxRecDepth 100000 in
theorem spec_l01In.calls (a0 : Int) (a1 : Int) (a2 : Int) (r : Bool) (w : World) (h : spec_l01In.f a0 a1 a2 = some r) :
    Calls Tryz.prog 97 #[.int .i64 a0, .int .i64 a1, .int .i64 a2] w fun e w' => e = .returned (.bool r) ∧ Drawn0 w w' := by
 have H : (if a0 ≥ a1 then (some (decide (a0 ≤ a2))) else (some false)) = some r := h; clear h; by_cases c4 : a0 ≥ a1
 · rw [if_pos c4] at H; have c4b0 : decide (a1 ≤ a0) = true := decide_eq_true c4; clear c4; obtain rfl := Option.some.inj H; go_enter Tryz.func97, Tryz.ntmps97; go_wp2; go_ret; exact ⟨eqE_, drE_⟩
 · rw [if_neg c4] at H; have c4b0 : decide (a1 ≤ a0) = false := decide_eq_false c4; clear c4; obtain rfl := Option.some.inj H; go_enter Tryz.func97, Tryz.ntmps97; go_wp2; go_ret; exact ⟨eqE_, drE_⟩

/-! ### spec_l00Digit: function 136 -/
def spec_l00Digit.f (a0 : Int) : Option (Bool) := if a0 ≥ 48 then (some (decide (a0 ≤ 57))) else (some false)
set_option maxHeartbeats 8000000 in
set_option maxRecDepth 100000 in
theorem spec_l00Digit.calls (a0 : Int) (r : Bool) (w : World) (h : spec_l00Digit.f a0 = some r) :
    Calls Tryz.prog 136 #[.int .u8 a0] w fun e w' => e = .returned (.bool r) ∧ Drawn0 w w' := by
 have H : (if a0 ≥ 48 then (some (decide (a0 ≤ 57))) else (some false)) = some r := h; clear h; by_cases c2 : a0 ≥ 48
 · rw [if_pos c2] at H; have c2b0 : decide (48 ≤ a0) = true := decide_eq_true c2; clear c2; obtain rfl := Option.some.inj H; go_enter Tryz.func136, Tryz.ntmps136; go_wp2; go_ret; exact ⟨eqE_, drE_⟩
 · rw [if_neg c2] at H; have c2b0 : decide (48 ≤ a0) = false := decide_eq_false c2; clear c2; obtain rfl := Option.some.inj H; go_enter Tryz.func136, Tryz.ntmps136; go_wp2; go_ret; exact ⟨eqE_, drE_⟩

end Go.Proofs.YthifpohbdbhnlaaGreatDoor.QFnStp
