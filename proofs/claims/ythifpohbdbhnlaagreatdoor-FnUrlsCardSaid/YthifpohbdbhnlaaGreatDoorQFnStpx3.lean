/- A tool of this session wrote this text out of the translation: functions as plain Lean, and proofs that the machine's calls come to their answers. -/
import Derived.Test.YthifpohbdbhnlaaGreatDoorQShort
import Derived.Test.YthifpohbdbhnlaaGreatDoorQFnStpx0
import Derived.Test.YthifpohbdbhnlaaGreatDoorQFnStpx2
namespace Go.Proofs.YthifpohbdbhnlaaGreatDoor.QFnStp
open Go.RowKit Go.Proofs.YthifpohbdbhnlaaGreatDoorW.PrintWords Go.Proofs.YthifpohbdbhnlaaGreatDoorW.PrintLast Go.Proofs.YthifpohbdbhnlaaGreatDoorW.PrintMore
open Go.Proofs.YthifpohbdbhnlaaGreatDoor.Short
attribute [local go_sem] max2_int min2_int max_two min_two max_three min_three max_four min_four   -- for this text's walks alone
set_option linter.unusedVariables false
set_option linter.unusedSimpArgs false

/-! ### spec_l01Text: function 66 -/
def spec_l01Text.j0 : Nat → ByteArray → ByteArray → ByteArray → ByteArray → Int → ByteArray → ByteArray → ByteArray → Bool → Bool → Option (ByteArray)
  | 0, _, _, _, _, _, _, _, _, _, _ => none
  | k + 1, x3, x121000, x121001, x121002, x121003, x121004, x121005, x121006, x121007, x121008 => (spec_l01Site.f k (⟨#[]⟩ : ByteArray) (⟨#[]⟩ : ByteArray) x121002 x121003 (⟨#[]⟩ : ByteArray) (⟨#[]⟩ : ByteArray) (⟨#[]⟩ : ByteArray) false false).bind fun t122 => (if 3 ≤ (t122.size : Int) then (if (t122.extract 3 t122.size).size + x121004.size ≤ 9223372036854775807 then (if x3.size + ((t122.extract 3 t122.size) ++ x121004).size ≤ 9223372036854775807 then (if x121007 = true then (if 1 + x121005.size ≤ 9223372036854775807 then (if (x3 ++ ((t122.extract 3 t122.size) ++ x121004)).size + ((⟨#[63]⟩ : ByteArray) ++ x121005).size ≤ 9223372036854775807 then (if x121008 = true then (if 1 + x121006.size ≤ 9223372036854775807 then (if ((x3 ++ ((t122.extract 3 t122.size) ++ x121004)) ++ ((⟨#[63]⟩ : ByteArray) ++ x121005)).size + ((⟨#[35]⟩ : ByteArray) ++ x121006).size ≤ 9223372036854775807 then (some (((x3 ++ ((t122.extract 3 t122.size) ++ x121004)) ++ ((⟨#[63]⟩ : ByteArray) ++ x121005)) ++ ((⟨#[35]⟩ : ByteArray) ++ x121006))) else (none)) else (none)) else (some ((x3 ++ ((t122.extract 3 t122.size) ++ x121004)) ++ ((⟨#[63]⟩ : ByteArray) ++ x121005)))) else (none)) else (none)) else (if x121008 = true then (if 1 + x121006.size ≤ 9223372036854775807 then (if (x3 ++ ((t122.extract 3 t122.size) ++ x121004)).size + ((⟨#[35]⟩ : ByteArray) ++ x121006).size ≤ 9223372036854775807 then (some ((x3 ++ ((t122.extract 3 t122.size) ++ x121004)) ++ ((⟨#[35]⟩ : ByteArray) ++ x121006))) else (none)) else (none)) else (some (x3 ++ ((t122.extract 3 t122.size) ++ x121004))))) else (none)) else (none)) else (none))
def spec_l01Text.f (k : Nat) (a0_0 : ByteArray) (a0_1 : ByteArray) (a0_2 : ByteArray) (a0_3 : Int) (a0_4 : ByteArray) (a0_5 : ByteArray) (a0_6 : ByteArray) (a0_7 : Bool) (a0_8 : Bool) : Option (ByteArray) := (spec_l01Web.f a0_0).bind fun t121 => (if t121 = true then (if a0_0.size + 3 ≤ 9223372036854775807 then (if a0_1.toList = ([] : List UInt8) then (spec_l01Text.j0 k (a0_0 ++ (⟨#[58, 47, 47]⟩ : ByteArray)) a0_0 a0_1 a0_2 a0_3 a0_4 a0_5 a0_6 a0_7 a0_8) else (if a0_1.size + 1 ≤ 9223372036854775807 then (if (a0_0 ++ (⟨#[58, 47, 47]⟩ : ByteArray)).size + (a0_1 ++ (⟨#[64]⟩ : ByteArray)).size ≤ 9223372036854775807 then (spec_l01Text.j0 k ((a0_0 ++ (⟨#[58, 47, 47]⟩ : ByteArray)) ++ (a0_1 ++ (⟨#[64]⟩ : ByteArray))) a0_0 a0_1 a0_2 a0_3 a0_4 a0_5 a0_6 a0_7 a0_8) else (none)) else (none))) else (none)) else (if a0_0.size + 1 ≤ 9223372036854775807 then (if (a0_0 ++ (⟨#[58]⟩ : ByteArray)).size + a0_4.size ≤ 9223372036854775807 then (some ((a0_0 ++ (⟨#[58]⟩ : ByteArray)) ++ a0_4)) else (none)) else (none)))
theorem spec_l01Text.mono_l : ∀ k, (∀ y0 y1 y2 y3 y4 y5 y6 y7 y8 y9, LeO (spec_l01Text.j0 k y0 y1 y2 y3 y4 y5 y6 y7 y8 y9) (spec_l01Text.j0 (k + 1) y0 y1 y2 y3 y4 y5 y6 y7 y8 y9))
  | 0 => fun _ _ _ _ _ _ _ _ _ _ r h => by simp [spec_l01Text.j0] at h
  | k + 1 => by
    have ih0 := spec_l01Text.mono_l k
    · intro y0 y1 y2 y3 y4 y5 y6 y7 y8 y9
      unfold spec_l01Text.j0; repeat' first | (with_reducible exact ih0 _ _ _ _ _ _ _ _ _ _) | (with_reducible exact spec_l01Site.mono _ _ _ _ _ _ _ _ _ _) | (with_reducible first | exact LeO.refl _ | exact LeO.none _ | refine LeO.ite ?_ ?_ | refine LeO.bind ?_ (fun _ => ?_)) | exact ih0 _ _ _ _ _ _ _ _ _ _ | exact spec_l01Site.mono _ _ _ _ _ _ _ _ _ _ | exact LeO.none _ | refine LeO.ite ?_ ?_ | refine LeO.bind ?_ (fun _ => ?_)
theorem spec_l01Text.mono : ∀ a0 a1 a2 a3 a4 a5 a6 a7 a8 k, LeO (spec_l01Text.f k a0 a1 a2 a3 a4 a5 a6 a7 a8) (spec_l01Text.f (k + 1) a0 a1 a2 a3 a4 a5 a6 a7 a8) := by
  intro a0 a1 a2 a3 a4 a5 a6 a7 a8 k; have ih0 := spec_l01Text.mono_l k; unfold spec_l01Text.f; repeat' first | (with_reducible exact ih0 _ _ _ _ _ _ _ _ _ _) | (with_reducible exact spec_l01Site.mono _ _ _ _ _ _ _ _ _ _) | (with_reducible first | exact LeO.refl _ | exact LeO.none _ | refine LeO.ite ?_ ?_ | refine LeO.bind ?_ (fun _ => ?_)) | exact ih0 _ _ _ _ _ _ _ _ _ _ | exact spec_l01Site.mono _ _ _ _ _ _ _ _ _ _ | exact LeO.none _ | refine LeO.ite ?_ ?_ | refine LeO.bind ?_ (fun _ => ?_)
def spec_l01Text.T6 : Bool × List (List Nat × List Nat) := (true, [([], []), ([], []), ([1], [1]), ([], []), ([3], [3]), ([2, 4], [2, 4]), ([5], [5]), ([6], [6]), ([], []), ([8], [8]), ([7, 9], [7, 9]), ([0, 10], [0, 10]), ([11, 6, 0, 1, 2, 3, 4, 5, 6, 7, 8, 9, 10, 11], [0, 11])])
def spec_l01Text.B6 : List Nat := [0, 0, 2, 0, 8, 30, 62, 126, 0, 256, 1022, 2047, 4095]
theorem spec_l01Text.tab6 : rtab .any (opsOf Tryz.f66 6) = spec_l01Text.T6 := by kernel_rfl
theorem spec_l01Text.bits6 : waitsOk spec_l01Text.T6.2 spec_l01Text.B6 = true := by kernel_rfl
set_option maxHeartbeats 8000000 in
set_option maxRecDepth 100000 in
theorem spec_l01Text.calls (k : Nat) (a0_0 : ByteArray) (a0_1 : ByteArray) (a0_2 : ByteArray) (a0_3 : Int) (a0_4 : ByteArray) (a0_5 : ByteArray) (a0_6 : ByteArray) (a0_7 : Bool) (a0_8 : Bool) (r : ByteArray) (w : World) (h : spec_l01Text.f k a0_0 a0_1 a0_2 a0_3 a0_4 a0_5 a0_6 a0_7 a0_8 = some r) :
    Calls Tryz.prog 66 #[.agg #[.string a0_0, .string a0_1, .string a0_2, .int .i64 a0_3, .string a0_4, .string a0_5, .string a0_6, .bool a0_7, .bool a0_8]] w fun e w' => e = .returned (.string r) ∧ Below w.heap.size w w' := by
 have hu32 := Tryz.underlying32; have HB := Aside0.mk (Below.refl w.heap.size w); have H := h; clear h; unfold spec_l01Text.f at H; obtain ⟨bd, A2, H⟩ := bindE_ H; by_cases c3 : bd = true
 ·
  subst c3; replace H := ifT_ H; by_cases c4 : a0_0.size + 3 ≤ 9223372036854775807
  ·
   rw [if_pos c4] at H; have a8 := eq_true c4; have a9 : decide (a0_0.size + 3 ≤ 9223372036854775807) = true := decide_eq_true c4; try have aa : (9223372036854775807 < a0_0.size + 3) = False := eq_false (Nat.not_lt.2 c4)
   try (have bf := a8; simp only [ByteArray.size_extract, ByteArray.size_append, bsize_lit, List.length_cons, List.length_nil, Nat.reduceAdd, Nat.zero_add] at bf)
   try (have bg := a9; simp only [ByteArray.size_extract, ByteArray.size_append, bsize_lit, List.length_cons, List.length_nil, Nat.reduceAdd, Nat.zero_add] at bg)
   try (have bh := aa; simp only [ByteArray.size_extract, ByteArray.size_append, bsize_lit, List.length_cons, List.length_nil, Nat.reduceAdd, Nat.zero_add] at bh)
   have L := Aside0.mk H; clear H; go_enter Tryz.func66, Tryz.ntmps66; go_upto_if 19 with (first | ((with_reducible refine gate_dst (N := 1) rfl ?_); refine box_event ?hg (N := 1) ?hd (cs := #[.string a0_0, .string a0_1, .string a0_2, .int .i64 a0_3, .string a0_4, .string a0_5, .string a0_6, .bool a0_7, .bool a0_8]) (t := 32) ?hr ?_; (case hd => rfl); (case hg => rfl); (case hr => first | (go_simp; done) | (go_simp; rfl)); intro a hg w6 hbox hb; have i := belB_ hb; have j := Aside0.mk (hbox); have l := geE_ (w := w) hg; have m := geE_ (w := w) hg; clear HB; have HB := i; have b := j; have ab := l; have ac := m; clear i j l m; clear hb hbox hg; obtain ⟨hcz7_0, hcz7_1, hcz7_2, hcz7_3, hcz7_4, hcz7_5, hcz7_6, hcz7_7, hcz7_8, hfz7_0, hfz7_1, hfz7_2, hfz7_3, hfz7_4, hfz7_5, hfz7_6, hfz7_7, hfz7_8⟩ := cz9_ b) | ((with_reducible refine gate_callee (f := 61) rfl ?_); refine cU_ (some 6) Tryz.func61 #[.string a0_0] ?_; (with_reducible refine (spec_l01Web.calls a0_0 true _ A2.out).mono ?_); rintro e w' ⟨rfl, ⟨nd, rfl⟩⟩; refine ⟨_, rfl, ?_⟩))
   (try simp only [Act.put, List.setIfInBounds_toArray, List.set_cons_zero, List.set_cons_succ]); go_cut [3] (fun v3 wc => ∃ (kq : Nat) (d : ByteArray), v3 = .string d ∧ Aside0 (spec_l01Text.j0 kq d a0_0 a0_1 a0_2 a0_3 a0_4 a0_5 a0_6 a0_7 a0_8 = some r) ∧ Aside0 (kq ≤ k) ∧ Aside0 (wc.heap[a]? = some (.cells #[.string a0_0, .string a0_1, .string a0_2, .int .i64 a0_3, .string a0_4, .string a0_5, .string a0_6, .bool a0_7, .bool a0_8] 32 (0, 0))) ∧ Aside0 (Below w.heap.size w wc))
   case first =>
    have H := L.out; clear L; by_cases c8 : a0_1.toList = ([] : List UInt8)
    ·
     rw [if_pos c8] at H; have g : (a0_1.toList == ([] : List UInt8)) = true := beq_iff_eq.mpr c8; have bi : (a0_1.toList != ([] : List UInt8)) = false := bne_eq_false_iff_eq.mpr c8; (try (have J : a0_1.toList.isEmpty = true := by simpa using c8)); clear c8; (first | rw [g] | rw [J] | (simp only [i64_w, i32_w]; rw [g]) | skip); have H' := Aside0.mk H; clear H; go_wp2; go_meet
     case rel => exact ⟨_, (a0_0 ++ (⟨#[58, 47, 47]⟩ : ByteArray)), eqE_, H', ⟨leE_⟩, ⟨blkE_⟩, ⟨belE_⟩⟩
    ·
     rw [if_neg c8] at H; have g : (a0_1.toList == ([] : List UInt8)) = false := beq_eq_false_iff_ne.mpr c8; have bi : (a0_1.toList != ([] : List UInt8)) = true := bne_iff_ne.mpr c8; (try (have J : a0_1.toList.isEmpty = false := by simpa using c8)); (first | rw [g] | rw [J] | (simp only [i64_w, i32_w]; rw [g]) | skip); by_cases c9 : a0_1.size + 1 ≤ 9223372036854775807
     ·
      rw [if_pos c9] at H; have bj := eq_true c9; have bk : decide (a0_1.size + 1 ≤ 9223372036854775807) = true := decide_eq_true c9; try have bl : (9223372036854775807 < a0_1.size + 1) = False := eq_false (Nat.not_lt.2 c9)
      try (have bm := bj; simp only [ByteArray.size_extract, ByteArray.size_append, bsize_lit, List.length_cons, List.length_nil, Nat.reduceAdd, Nat.zero_add] at bm)
      try (have bn := bk; simp only [ByteArray.size_extract, ByteArray.size_append, bsize_lit, List.length_cons, List.length_nil, Nat.reduceAdd, Nat.zero_add] at bn)
      try (have bo := bl; simp only [ByteArray.size_extract, ByteArray.size_append, bsize_lit, List.length_cons, List.length_nil, Nat.reduceAdd, Nat.zero_add] at bo)
      by_cases o : (a0_0 ++ (⟨#[58, 47, 47]⟩ : ByteArray)).size + (a0_1 ++ (⟨#[64]⟩ : ByteArray)).size ≤ 9223372036854775807
      ·
       rw [if_pos o] at H; have ad := eq_true o; have ae : decide ((a0_0 ++ (⟨#[58, 47, 47]⟩ : ByteArray)).size + (a0_1 ++ (⟨#[64]⟩ : ByteArray)).size ≤ 9223372036854775807) = true := decide_eq_true o; try have af : (9223372036854775807 < (a0_0 ++ (⟨#[58, 47, 47]⟩ : ByteArray)).size + (a0_1 ++ (⟨#[64]⟩ : ByteArray)).size) = False := eq_false (Nat.not_lt.2 o)
       try (have ag := ad; simp only [ByteArray.size_extract, ByteArray.size_append, bsize_lit, List.length_cons, List.length_nil, Nat.reduceAdd, Nat.zero_add] at ag)
       try (have ah := ae; simp only [ByteArray.size_extract, ByteArray.size_append, bsize_lit, List.length_cons, List.length_nil, Nat.reduceAdd, Nat.zero_add] at ah)
       try (have ai := af; simp only [ByteArray.size_extract, ByteArray.size_append, bsize_lit, List.length_cons, List.length_nil, Nat.reduceAdd, Nat.zero_add] at ai)
       have H' := Aside0.mk H; clear H; obtain ⟨hcz11_0, hcz11_1, hcz11_2, hcz11_3, hcz11_4, hcz11_5, hcz11_6, hcz11_7, hcz11_8, hfz11_0, hfz11_1, hfz11_2, hfz11_3, hfz11_4, hfz11_5, hfz11_6, hfz11_7, hfz11_8⟩ := cz9_ b; go_wp2; go_meet
       case rel => exact ⟨_, ((a0_0 ++ (⟨#[58, 47, 47]⟩ : ByteArray)) ++ (a0_1 ++ (⟨#[64]⟩ : ByteArray))), eqE_, H', ⟨leE_⟩, ⟨blkE_⟩, ⟨belE_⟩⟩
      · rw [if_neg o] at H; exact absurd H (by simp)
     · rw [if_neg c9] at H; exact absurd H (by simp)
   case rest =>
    clear L; try clear c3
    try clear c4
    try clear a8
    try clear a9
    try clear aa
    try clear hcz7_0 hcz7_1 hcz7_2 hcz7_3 hcz7_4 hcz7_5 hcz7_6 hcz7_7 hcz7_8
    try clear hfz7_0 hfz7_1 hfz7_2 hfz7_3 hfz7_4 hfz7_5 hfz7_6 hfz7_7 hfz7_8
    obtain ⟨kq, d, rfl, HA, br, b, HB⟩ := hcut; cases kq with
    | zero => exact absurd HA.out (by simp [spec_l01Text.j0])
    | succ D =>
     have H := HA.out; clear HA; simp only [spec_l01Text.j0] at H; obtain ⟨c, E, H⟩ := bindE_ H; by_cases p : 3 ≤ (c.size : Int)
     ·
      rw [if_pos p] at H; have bp := eq_true p; have bq : decide (3 ≤ (c.size : Int)) = true := decide_eq_true p; clear p; by_cases q : (c.extract 3 c.size).size + a0_4.size ≤ 9223372036854775807
      ·
       rw [if_pos q] at H; have aj := eq_true q; have M : decide ((c.extract 3 c.size).size + a0_4.size ≤ 9223372036854775807) = true := decide_eq_true q; try (have c14e1 := M; simp only [ByteArray.size_extract, Nat.min_self, Nat.sub_zero] at c14e1)
       try have ak : (9223372036854775807 < (c.extract 3 c.size).size + a0_4.size) = False := eq_false (Nat.not_lt.2 q)
       try (have O := aj; simp only [ByteArray.size_extract, ByteArray.size_append, bsize_lit, List.length_cons, List.length_nil, Nat.reduceAdd, Nat.zero_add] at O)
       try (have P := M; simp only [ByteArray.size_extract, ByteArray.size_append, bsize_lit, List.length_cons, List.length_nil, Nat.reduceAdd, Nat.zero_add] at P)
       try (have Q := ak; simp only [ByteArray.size_extract, ByteArray.size_append, bsize_lit, List.length_cons, List.length_nil, Nat.reduceAdd, Nat.zero_add] at Q)
       try (have al := O; rw [Nat.min_eq_left (by omega)] at al)
       try (have am := P; rw [Nat.min_eq_left (by omega)] at am)
       try (have an := Q; rw [Nat.min_eq_left (by omega)] at an)
       by_cases s : d.size + ((c.extract 3 c.size) ++ a0_4).size ≤ 9223372036854775807
       ·
        rw [if_pos s] at H; have ao := eq_true s; have R : decide (d.size + ((c.extract 3 c.size) ++ a0_4).size ≤ 9223372036854775807) = true := decide_eq_true s; try (have c15e1 := R; simp only [ByteArray.size_extract, Nat.min_self, Nat.sub_zero] at c15e1)
        try have ap : (9223372036854775807 < d.size + ((c.extract 3 c.size) ++ a0_4).size) = False := eq_false (Nat.not_lt.2 s)
        try (have T := ao; simp only [ByteArray.size_extract, ByteArray.size_append, bsize_lit, List.length_cons, List.length_nil, Nat.reduceAdd, Nat.zero_add] at T)
        try (have U := R; simp only [ByteArray.size_extract, ByteArray.size_append, bsize_lit, List.length_cons, List.length_nil, Nat.reduceAdd, Nat.zero_add] at U)
        try (have V := ap; simp only [ByteArray.size_extract, ByteArray.size_append, bsize_lit, List.length_cons, List.length_nil, Nat.reduceAdd, Nat.zero_add] at V)
        try (have aq := T; rw [Nat.min_eq_left (by omega)] at aq)
        try (have ar := U; rw [Nat.min_eq_left (by omega)] at ar)
        try (have au := V; rw [Nat.min_eq_left (by omega)] at au)
        by_cases F : a0_7 = true
        ·
         subst F; replace H := ifT_ H; by_cases u : 1 + a0_5.size ≤ 9223372036854775807
         ·
          rw [if_pos u] at H; have av := eq_true u; have aw : decide (1 + a0_5.size ≤ 9223372036854775807) = true := decide_eq_true u; try have ax : (9223372036854775807 < 1 + a0_5.size) = False := eq_false (Nat.not_lt.2 u)
          try (have ay := av; simp only [ByteArray.size_extract, ByteArray.size_append, bsize_lit, List.length_cons, List.length_nil, Nat.reduceAdd, Nat.zero_add] at ay)
          try (have az := aw; simp only [ByteArray.size_extract, ByteArray.size_append, bsize_lit, List.length_cons, List.length_nil, Nat.reduceAdd, Nat.zero_add] at az)
          try (have aA := ax; simp only [ByteArray.size_extract, ByteArray.size_append, bsize_lit, List.length_cons, List.length_nil, Nat.reduceAdd, Nat.zero_add] at aA)
          by_cases v : (d ++ ((c.extract 3 c.size) ++ a0_4)).size + ((⟨#[63]⟩ : ByteArray) ++ a0_5).size ≤ 9223372036854775807
          ·
           rw [if_pos v] at H; have aB := eq_true v; have W : decide ((d ++ ((c.extract 3 c.size) ++ a0_4)).size + ((⟨#[63]⟩ : ByteArray) ++ a0_5).size ≤ 9223372036854775807) = true := decide_eq_true v; try (have c18e1 := W; simp only [ByteArray.size_extract, Nat.min_self, Nat.sub_zero] at c18e1)
           try have aC : (9223372036854775807 < (d ++ ((c.extract 3 c.size) ++ a0_4)).size + ((⟨#[63]⟩ : ByteArray) ++ a0_5).size) = False := eq_false (Nat.not_lt.2 v)
           try (have X := aB; simp only [ByteArray.size_extract, ByteArray.size_append, bsize_lit, List.length_cons, List.length_nil, Nat.reduceAdd, Nat.zero_add] at X)
           try (have Y := W; simp only [ByteArray.size_extract, ByteArray.size_append, bsize_lit, List.length_cons, List.length_nil, Nat.reduceAdd, Nat.zero_add] at Y)
           try (have Z := aC; simp only [ByteArray.size_extract, ByteArray.size_append, bsize_lit, List.length_cons, List.length_nil, Nat.reduceAdd, Nat.zero_add] at Z)
           try (have aD := X; rw [Nat.min_eq_left (by omega)] at aD)
           try (have aE := Y; rw [Nat.min_eq_left (by omega)] at aE)
           try (have aF := Z; rw [Nat.min_eq_left (by omega)] at aF)
           by_cases G : a0_8 = true
           ·
            subst G; replace H := ifT_ H; by_cases x : 1 + a0_6.size ≤ 9223372036854775807
            ·
             rw [if_pos x] at H; have aG := eq_true x; have aH : decide (1 + a0_6.size ≤ 9223372036854775807) = true := decide_eq_true x; try have aI : (9223372036854775807 < 1 + a0_6.size) = False := eq_false (Nat.not_lt.2 x)
             try (have aJ := aG; simp only [ByteArray.size_extract, ByteArray.size_append, bsize_lit, List.length_cons, List.length_nil, Nat.reduceAdd, Nat.zero_add] at aJ)
             try (have aK := aH; simp only [ByteArray.size_extract, ByteArray.size_append, bsize_lit, List.length_cons, List.length_nil, Nat.reduceAdd, Nat.zero_add] at aK)
             try (have aL := aI; simp only [ByteArray.size_extract, ByteArray.size_append, bsize_lit, List.length_cons, List.length_nil, Nat.reduceAdd, Nat.zero_add] at aL)
             by_cases y : ((d ++ ((c.extract 3 c.size) ++ a0_4)) ++ ((⟨#[63]⟩ : ByteArray) ++ a0_5)).size + ((⟨#[35]⟩ : ByteArray) ++ a0_6).size ≤ 9223372036854775807
             ·
              rw [if_pos y] at H; have aM := eq_true y; have a0 : decide (((d ++ ((c.extract 3 c.size) ++ a0_4)) ++ ((⟨#[63]⟩ : ByteArray) ++ a0_5)).size + ((⟨#[35]⟩ : ByteArray) ++ a0_6).size ≤ 9223372036854775807) = true := decide_eq_true y; try (have c21e1 := a0; simp only [ByteArray.size_extract, Nat.min_self, Nat.sub_zero] at c21e1)
              try have aN : (9223372036854775807 < ((d ++ ((c.extract 3 c.size) ++ a0_4)) ++ ((⟨#[63]⟩ : ByteArray) ++ a0_5)).size + ((⟨#[35]⟩ : ByteArray) ++ a0_6).size) = False := eq_false (Nat.not_lt.2 y)
              try (have a1 := aM; simp only [ByteArray.size_extract, ByteArray.size_append, bsize_lit, List.length_cons, List.length_nil, Nat.reduceAdd, Nat.zero_add] at a1)
              try (have a2 := a0; simp only [ByteArray.size_extract, ByteArray.size_append, bsize_lit, List.length_cons, List.length_nil, Nat.reduceAdd, Nat.zero_add] at a2)
              try (have a3 := aN; simp only [ByteArray.size_extract, ByteArray.size_append, bsize_lit, List.length_cons, List.length_nil, Nat.reduceAdd, Nat.zero_add] at a3)
              try (have aO := a1; rw [Nat.min_eq_left (by omega)] at aO)
              try (have aP := a2; rw [Nat.min_eq_left (by omega)] at aP)
              try (have aQ := a3; rw [Nat.min_eq_left (by omega)] at aQ)
              obtain rfl := Option.some.inj H; try go_wp2
              replace b := Aside0.mk (blk_drew b.out); replace HB := Aside0.mk (below_drew1 HB.out); refine startU_ (n := 13) (S := fun w' => w'.cell? ⟨a, 0, none⟩ = some (.string a0_0) ∧ w'.cell? ⟨a, 1, none⟩ = some (.string a0_1) ∧ w'.cell? ⟨a, 2, none⟩ = some (.string a0_2) ∧ w'.cell? ⟨a, 3, none⟩ = some (.int .i64 a0_3) ∧ w'.cell? ⟨a, 4, none⟩ = some (.string a0_4) ∧ w'.cell? ⟨a, 5, none⟩ = some (.string a0_5) ∧ w'.cell? ⟨a, 6, none⟩ = some (.string a0_6) ∧ w'.cell? ⟨a, 7, none⟩ = some (.bool true) ∧ w'.cell? ⟨a, 8, none⟩ = some (.bool true)) (ds := []) (held9_ b.out) (fun hHeld => ?_); refine with_tabW spec_l01Text.tab6 spec_l01Text.bits6 (fun HT_ HW_ => ?_); generalize wc.drew = bs at b HB hHeld ⊢; iterate 2 refine pU_ ?_
              refine pUX_ 3 ?_; refine pUX_ 8 ?_; refine tU_ ?_; refine aU_ ?_; refine tU_ ?_; refine pU_ ?_; refine tUX_ 9 ?_; refine oU_ (fun K hK => ?_); refine gU_ Tryz.func62 #[.agg #[.string ⟨#[]⟩, .string ⟨#[]⟩, .string a0_2, .int .i64 a0_3, .string ⟨#[]⟩, .string ⟨#[]⟩, .string ⟨#[]⟩, .bool false, .bool false]] ?_; with_reducible refine (spec_l01Site.calls D (⟨#[]⟩ : ByteArray) (⟨#[]⟩ : ByteArray) a0_2 a0_3 (⟨#[]⟩ : ByteArray) (⟨#[]⟩ : ByteArray) (⟨#[]⟩ : ByteArray) false false c _ E.out).mono ?_
              rintro e bt ⟨rfl, hb⟩; refine ⟨_, rfl, ?_⟩; replace b := blkK_ b hb; replace HB := belB_ hb; (try clear hb); refine hK.out _ _ (held9_ b.out) (fun hHeld => ?_); clear hK K; refine nU_ ?_; refine pU_ ?_; iterate 2 refine aU_ ?_
              iterate 3 refine pU_ ?_
              refine doneU_ ?_; obtain ⟨hcz24_0, hcz24_1, hcz24_2, hcz24_3, hcz24_4, hcz24_5, hcz24_6, hcz24_7, hcz24_8, hfz24_0, hfz24_1, hfz24_2, hfz24_3, hfz24_4, hfz24_5, hfz24_6, hfz24_7, hfz24_8⟩ := cz9_ b; try go_wp2
              go_ret; exact ⟨retE_, belE_⟩
             · rw [if_neg y] at H; exact absurd H (by simp)
            · rw [if_neg x] at H; exact absurd H (by simp)
           ·
            replace G := Bool.eq_false_iff.mpr G; subst G; replace H := ifF_ H; obtain rfl := Option.some.inj H; try go_wp2
            replace b := Aside0.mk (blk_drew b.out); replace HB := Aside0.mk (below_drew1 HB.out); refine startU_ (n := 13) (S := fun w' => w'.cell? ⟨a, 0, none⟩ = some (.string a0_0) ∧ w'.cell? ⟨a, 1, none⟩ = some (.string a0_1) ∧ w'.cell? ⟨a, 2, none⟩ = some (.string a0_2) ∧ w'.cell? ⟨a, 3, none⟩ = some (.int .i64 a0_3) ∧ w'.cell? ⟨a, 4, none⟩ = some (.string a0_4) ∧ w'.cell? ⟨a, 5, none⟩ = some (.string a0_5) ∧ w'.cell? ⟨a, 6, none⟩ = some (.string a0_6) ∧ w'.cell? ⟨a, 7, none⟩ = some (.bool true) ∧ w'.cell? ⟨a, 8, none⟩ = some (.bool false)) (ds := []) (held9_ b.out) (fun hHeld => ?_); refine with_tabW spec_l01Text.tab6 spec_l01Text.bits6 (fun HT_ HW_ => ?_); generalize wc.drew = bu at b HB hHeld ⊢; iterate 2 refine pU_ ?_
            refine pUX_ 3 ?_; refine pUX_ 8 ?_; refine tU_ ?_; refine aU_ ?_; refine tU_ ?_; refine pU_ ?_; refine tUX_ 9 ?_; refine oU_ (fun K hK => ?_); refine gU_ Tryz.func62 #[.agg #[.string ⟨#[]⟩, .string ⟨#[]⟩, .string a0_2, .int .i64 a0_3, .string ⟨#[]⟩, .string ⟨#[]⟩, .string ⟨#[]⟩, .bool false, .bool false]] ?_; with_reducible refine (spec_l01Site.calls D (⟨#[]⟩ : ByteArray) (⟨#[]⟩ : ByteArray) a0_2 a0_3 (⟨#[]⟩ : ByteArray) (⟨#[]⟩ : ByteArray) (⟨#[]⟩ : ByteArray) false false c _ E.out).mono ?_
            rintro e bv ⟨rfl, hb⟩; refine ⟨_, rfl, ?_⟩; replace b := blkK_ b hb; replace HB := belB_ hb; (try clear hb); refine hK.out _ _ (held9_ b.out) (fun hHeld => ?_); clear hK K; refine nU_ ?_; refine pU_ ?_; iterate 2 refine aU_ ?_
            iterate 3 refine pU_ ?_
            refine doneU_ ?_; obtain ⟨hcz27_0, hcz27_1, hcz27_2, hcz27_3, hcz27_4, hcz27_5, hcz27_6, hcz27_7, hcz27_8, hfz27_0, hfz27_1, hfz27_2, hfz27_3, hfz27_4, hfz27_5, hfz27_6, hfz27_7, hfz27_8⟩ := cz9_ b; try go_wp2
            go_ret; exact ⟨retE_, belE_⟩
          · rw [if_neg v] at H; exact absurd H (by simp)
         · rw [if_neg u] at H; exact absurd H (by simp)
        ·
         replace F := Bool.eq_false_iff.mpr F; subst F; replace H := ifF_ H; by_cases I : a0_8 = true
         ·
          subst I; replace H := ifT_ H; by_cases z : 1 + a0_6.size ≤ 9223372036854775807
          ·
           rw [if_pos z] at H; have aR := eq_true z; have aS : decide (1 + a0_6.size ≤ 9223372036854775807) = true := decide_eq_true z; try have aT : (9223372036854775807 < 1 + a0_6.size) = False := eq_false (Nat.not_lt.2 z)
           try (have aU := aR; simp only [ByteArray.size_extract, ByteArray.size_append, bsize_lit, List.length_cons, List.length_nil, Nat.reduceAdd, Nat.zero_add] at aU)
           try (have aV := aS; simp only [ByteArray.size_extract, ByteArray.size_append, bsize_lit, List.length_cons, List.length_nil, Nat.reduceAdd, Nat.zero_add] at aV)
           try (have aW := aT; simp only [ByteArray.size_extract, ByteArray.size_append, bsize_lit, List.length_cons, List.length_nil, Nat.reduceAdd, Nat.zero_add] at aW)
           by_cases A : (d ++ ((c.extract 3 c.size) ++ a0_4)).size + ((⟨#[35]⟩ : ByteArray) ++ a0_6).size ≤ 9223372036854775807
           ·
            rw [if_pos A] at H; have aX := eq_true A; have a4 : decide ((d ++ ((c.extract 3 c.size) ++ a0_4)).size + ((⟨#[35]⟩ : ByteArray) ++ a0_6).size ≤ 9223372036854775807) = true := decide_eq_true A; try (have c30e1 := a4; simp only [ByteArray.size_extract, Nat.min_self, Nat.sub_zero] at c30e1)
            try have aY : (9223372036854775807 < (d ++ ((c.extract 3 c.size) ++ a0_4)).size + ((⟨#[35]⟩ : ByteArray) ++ a0_6).size) = False := eq_false (Nat.not_lt.2 A)
            try (have a5 := aX; simp only [ByteArray.size_extract, ByteArray.size_append, bsize_lit, List.length_cons, List.length_nil, Nat.reduceAdd, Nat.zero_add] at a5)
            try (have a6 := a4; simp only [ByteArray.size_extract, ByteArray.size_append, bsize_lit, List.length_cons, List.length_nil, Nat.reduceAdd, Nat.zero_add] at a6)
            try (have a7 := aY; simp only [ByteArray.size_extract, ByteArray.size_append, bsize_lit, List.length_cons, List.length_nil, Nat.reduceAdd, Nat.zero_add] at a7)
            try (have aZ := a5; rw [Nat.min_eq_left (by omega)] at aZ)
            try (have a_ := a6; rw [Nat.min_eq_left (by omega)] at a_)
            try (have b0 := a7; rw [Nat.min_eq_left (by omega)] at b0)
            obtain rfl := Option.some.inj H; try go_wp2
            replace b := Aside0.mk (blk_drew b.out); replace HB := Aside0.mk (below_drew1 HB.out); refine startU_ (n := 13) (S := fun w' => w'.cell? ⟨a, 0, none⟩ = some (.string a0_0) ∧ w'.cell? ⟨a, 1, none⟩ = some (.string a0_1) ∧ w'.cell? ⟨a, 2, none⟩ = some (.string a0_2) ∧ w'.cell? ⟨a, 3, none⟩ = some (.int .i64 a0_3) ∧ w'.cell? ⟨a, 4, none⟩ = some (.string a0_4) ∧ w'.cell? ⟨a, 5, none⟩ = some (.string a0_5) ∧ w'.cell? ⟨a, 6, none⟩ = some (.string a0_6) ∧ w'.cell? ⟨a, 7, none⟩ = some (.bool false) ∧ w'.cell? ⟨a, 8, none⟩ = some (.bool true)) (ds := []) (held9_ b.out) (fun hHeld => ?_); refine with_tabW spec_l01Text.tab6 spec_l01Text.bits6 (fun HT_ HW_ => ?_); generalize wc.drew = bw at b HB hHeld ⊢; iterate 2 refine pU_ ?_
            refine pUX_ 3 ?_; refine pUX_ 8 ?_; refine tU_ ?_; refine aU_ ?_; refine tU_ ?_; refine pU_ ?_; refine tUX_ 9 ?_; refine oU_ (fun K hK => ?_); refine gU_ Tryz.func62 #[.agg #[.string ⟨#[]⟩, .string ⟨#[]⟩, .string a0_2, .int .i64 a0_3, .string ⟨#[]⟩, .string ⟨#[]⟩, .string ⟨#[]⟩, .bool false, .bool false]] ?_; with_reducible refine (spec_l01Site.calls D (⟨#[]⟩ : ByteArray) (⟨#[]⟩ : ByteArray) a0_2 a0_3 (⟨#[]⟩ : ByteArray) (⟨#[]⟩ : ByteArray) (⟨#[]⟩ : ByteArray) false false c _ E.out).mono ?_
            rintro e bx ⟨rfl, hb⟩; refine ⟨_, rfl, ?_⟩; replace b := blkK_ b hb; replace HB := belB_ hb; (try clear hb); refine hK.out _ _ (held9_ b.out) (fun hHeld => ?_); clear hK K; refine nU_ ?_; refine pU_ ?_; iterate 2 refine aU_ ?_
            iterate 3 refine pU_ ?_
            refine doneU_ ?_; obtain ⟨hcz33_0, hcz33_1, hcz33_2, hcz33_3, hcz33_4, hcz33_5, hcz33_6, hcz33_7, hcz33_8, hfz33_0, hfz33_1, hfz33_2, hfz33_3, hfz33_4, hfz33_5, hfz33_6, hfz33_7, hfz33_8⟩ := cz9_ b; try go_wp2
            go_ret; exact ⟨retE_, belE_⟩
           · rw [if_neg A] at H; exact absurd H (by simp)
          · rw [if_neg z] at H; exact absurd H (by simp)
         ·
          replace I := Bool.eq_false_iff.mpr I; subst I; replace H := ifF_ H; obtain rfl := Option.some.inj H; try go_wp2
          replace b := Aside0.mk (blk_drew b.out); replace HB := Aside0.mk (below_drew1 HB.out); refine startU_ (n := 13) (S := fun w' => w'.cell? ⟨a, 0, none⟩ = some (.string a0_0) ∧ w'.cell? ⟨a, 1, none⟩ = some (.string a0_1) ∧ w'.cell? ⟨a, 2, none⟩ = some (.string a0_2) ∧ w'.cell? ⟨a, 3, none⟩ = some (.int .i64 a0_3) ∧ w'.cell? ⟨a, 4, none⟩ = some (.string a0_4) ∧ w'.cell? ⟨a, 5, none⟩ = some (.string a0_5) ∧ w'.cell? ⟨a, 6, none⟩ = some (.string a0_6) ∧ w'.cell? ⟨a, 7, none⟩ = some (.bool false) ∧ w'.cell? ⟨a, 8, none⟩ = some (.bool false)) (ds := []) (held9_ b.out) (fun hHeld => ?_); refine with_tabW spec_l01Text.tab6 spec_l01Text.bits6 (fun HT_ HW_ => ?_); generalize wc.drew = bz at b HB hHeld ⊢; iterate 2 refine pU_ ?_
          refine pUX_ 3 ?_; refine pUX_ 8 ?_; refine tU_ ?_; refine aU_ ?_; refine tU_ ?_; refine pU_ ?_; refine tUX_ 9 ?_; refine oU_ (fun K hK => ?_); refine gU_ Tryz.func62 #[.agg #[.string ⟨#[]⟩, .string ⟨#[]⟩, .string a0_2, .int .i64 a0_3, .string ⟨#[]⟩, .string ⟨#[]⟩, .string ⟨#[]⟩, .bool false, .bool false]] ?_; with_reducible refine (spec_l01Site.calls D (⟨#[]⟩ : ByteArray) (⟨#[]⟩ : ByteArray) a0_2 a0_3 (⟨#[]⟩ : ByteArray) (⟨#[]⟩ : ByteArray) (⟨#[]⟩ : ByteArray) false false c _ E.out).mono ?_
          rintro e bA ⟨rfl, hb⟩; refine ⟨_, rfl, ?_⟩; replace b := blkK_ b hb; replace HB := belB_ hb; (try clear hb); refine hK.out _ _ (held9_ b.out) (fun hHeld => ?_); clear hK K; refine nU_ ?_; refine pU_ ?_; iterate 2 refine aU_ ?_
          iterate 3 refine pU_ ?_
          refine doneU_ ?_; obtain ⟨hcz36_0, hcz36_1, hcz36_2, hcz36_3, hcz36_4, hcz36_5, hcz36_6, hcz36_7, hcz36_8, hfz36_0, hfz36_1, hfz36_2, hfz36_3, hfz36_4, hfz36_5, hfz36_6, hfz36_7, hfz36_8⟩ := cz9_ b; try go_wp2
          go_ret; exact ⟨retE_, belE_⟩
       · rw [if_neg s] at H; exact absurd H (by simp)
      · rw [if_neg q] at H; exact absurd H (by simp)
     · rw [if_neg p] at H; exact absurd H (by simp)
  · rw [if_neg c4] at H; exact absurd H (by simp)
 ·
  replace c3 := Bool.eq_false_iff.mpr c3; subst c3; replace H := ifF_ H; by_cases B : a0_0.size + 1 ≤ 9223372036854775807
  ·
   rw [if_pos B] at H; have b1 := eq_true B; have b2 : decide (a0_0.size + 1 ≤ 9223372036854775807) = true := decide_eq_true B; try have b3 : (9223372036854775807 < a0_0.size + 1) = False := eq_false (Nat.not_lt.2 B)
   try (have b4 := b1; simp only [ByteArray.size_extract, ByteArray.size_append, bsize_lit, List.length_cons, List.length_nil, Nat.reduceAdd, Nat.zero_add] at b4)
   try (have b5 := b2; simp only [ByteArray.size_extract, ByteArray.size_append, bsize_lit, List.length_cons, List.length_nil, Nat.reduceAdd, Nat.zero_add] at b5)
   try (have b6 := b3; simp only [ByteArray.size_extract, ByteArray.size_append, bsize_lit, List.length_cons, List.length_nil, Nat.reduceAdd, Nat.zero_add] at b6)
   by_cases C : (a0_0 ++ (⟨#[58]⟩ : ByteArray)).size + a0_4.size ≤ 9223372036854775807
   ·
    rw [if_pos C] at H; have b7 := eq_true C; have b8 : decide ((a0_0 ++ (⟨#[58]⟩ : ByteArray)).size + a0_4.size ≤ 9223372036854775807) = true := decide_eq_true C; try have b9 : (9223372036854775807 < (a0_0 ++ (⟨#[58]⟩ : ByteArray)).size + a0_4.size) = False := eq_false (Nat.not_lt.2 C)
    try (have ba := b7; simp only [ByteArray.size_extract, ByteArray.size_append, bsize_lit, List.length_cons, List.length_nil, Nat.reduceAdd, Nat.zero_add] at ba)
    try (have bb := b8; simp only [ByteArray.size_extract, ByteArray.size_append, bsize_lit, List.length_cons, List.length_nil, Nat.reduceAdd, Nat.zero_add] at bb)
    try (have bc := b9; simp only [ByteArray.size_extract, ByteArray.size_append, bsize_lit, List.length_cons, List.length_nil, Nat.reduceAdd, Nat.zero_add] at bc)
    obtain rfl := Option.some.inj H; go_enter Tryz.func66, Tryz.ntmps66; go_wp2_with (first | ((with_reducible refine gate_dst (N := 1) rfl ?_); refine box_event ?hg (N := 1) ?hd (cs := #[.string a0_0, .string a0_1, .string a0_2, .int .i64 a0_3, .string a0_4, .string a0_5, .string a0_6, .bool a0_7, .bool a0_8]) (t := 32) ?hr ?_; (case hd => rfl); (case hg => rfl); (case hr => first | (go_simp; done) | (go_simp; rfl)); intro a hg bB hbox hb; have i := belB_ hb; have j := Aside0.mk (hbox); have l := geE_ (w := w) hg; have m := geE_ (w := w) hg; clear HB; have HB := i; have b := j; have ab := l; have ac := m; clear i j l m; clear hb hbox hg; obtain ⟨hcz40_0, hcz40_1, hcz40_2, hcz40_3, hcz40_4, hcz40_5, hcz40_6, hcz40_7, hcz40_8, hfz40_0, hfz40_1, hfz40_2, hfz40_3, hfz40_4, hfz40_5, hfz40_6, hfz40_7, hfz40_8⟩ := cz9_ b) | ((with_reducible refine gate_callee (f := 61) rfl ?_); refine cU_ (some 6) Tryz.func61 #[.string a0_0] ?_; (with_reducible refine (spec_l01Web.calls a0_0 false _ A2.out).mono ?_); rintro e w' ⟨rfl, ⟨nd, rfl⟩⟩; refine ⟨_, rfl, ?_⟩)); go_ret; exact ⟨retE_, belE_⟩
   · rw [if_neg C] at H; exact absurd H (by simp)
  · rw [if_neg B] at H; exact absurd H (by simp)

/-! ### spec_l01In: function 97 -/
def spec_l01In.f (a0 : Int) (a1 : Int) (a2 : Int) : Option (Bool) := if a0 ≥ a1 then (some (decide (a0 ≤ a2))) else (some false)
set_option maxHeartbeats 8000000 in
set_option maxRecDepth 100000 in
theorem spec_l01In.calls (a0 : Int) (a1 : Int) (a2 : Int) (r : Bool) (w : World) (h : spec_l01In.f a0 a1 a2 = some r) :
    Calls Tryz.prog 97 #[.int .i64 a0, .int .i64 a1, .int .i64 a2] w fun e w' => e = .returned (.bool r) ∧ Drawn0 w w' := by
 have H : (if a0 ≥ a1 then (some (decide (a0 ≤ a2))) else (some false)) = some r := h; clear h; by_cases c4 : a0 ≥ a1
 · rw [if_pos c4] at H; have c4b0 : decide (a1 ≤ a0) = true := decide_eq_true c4; clear c4; obtain rfl := Option.some.inj H; go_enter Tryz.func97, Tryz.ntmps97; go_wp2; go_ret; exact ⟨eqE_, drE_⟩
 · rw [if_neg c4] at H; have c4b0 : decide (a1 ≤ a0) = false := decide_eq_false c4; clear c4; obtain rfl := Option.some.inj H; go_enter Tryz.func97, Tryz.ntmps97; go_wp2; go_ret; exact ⟨eqE_, drE_⟩

/-! ### spec_l00Digit: function 136 -/
def spec_l00Digit.f (a0 : Int) : Option (Bool) := if a0 ≥ 48 then (some (decide (a0 ≤ 57))) else (some false)
set_option maxHeartbeats 8000000 in
set_option maxRecDepth 100000 in
theorem spec_l00Digit.calls (a0 : Int) (r : Bool) (w : World) (h : spec_l00Digit.f a0 = some r) :
    Calls Tryz.prog 136 #[.int .u8 a0] w fun e w' => e = .returned (.bool r) ∧ Drawn0 w w' := by
 have H : (if a0 ≥ 48 then (some (decide (a0 ≤ 57))) else (some false)) = some r := h; clear h; by_cases c2 : a0 ≥ 48
 · rw [if_pos c2] at H; have c2b0 : decide (48 ≤ a0) = true := decide_eq_true c2; clear c2; obtain rfl := Option.some.inj H; go_enter Tryz.func136, Tryz.ntmps136; go_wp2; go_ret; exact ⟨eqE_, drE_⟩
 · rw [if_neg c2] at H; have c2b0 : decide (48 ≤ a0) = false := decide_eq_false c2; clear c2; obtain rfl := Option.some.inj H; go_enter Tryz.func136, Tryz.ntmps136; go_wp2; go_ret; exact ⟨eqE_, drE_⟩

end Go.Proofs.YthifpohbdbhnlaaGreatDoor.QFnStp
