/- A tool of this session wrote this text out of the translation: functions as plain Lean, and proofs that the machine's calls come to their answers. -/
import Derived.Test.YthifpohbdbhnlaaGreatDoorQShort
import Derived.Test.YthifpohbdbhnlaaGreatDoorQFnStripx0
import Derived.Test.YthifpohbdbhnlaaGreatDoorQFnStripx2
import Derived.Test.YthifpohbdbhnlaaGreatDoorQFnStripx3
import Derived.Test.YthifpohbdbhnlaaGreatDoorQFnStripx4
import Derived.Test.YthifpohbdbhnlaaGreatDoorQFnStripx5
namespace Go.Proofs.YthifpohbdbhnlaaGreatDoor.QFnStrip
open Go.RowKit Go.Proofs.YthifpohbdbhnlaaGreatDoorW.PrintWords Go.Proofs.YthifpohbdbhnlaaGreatDoorW.PrintLast Go.Proofs.YthifpohbdbhnlaaGreatDoorW.PrintMore
open Go.Proofs.YthifpohbdbhnlaaGreatDoor.Short
attribute [local go_sem] max2_int min2_int max_two min_two max_three min_three max_four min_four   -- for this text's walks alone
set_option linter.unusedVariables false
set_option linter.unusedSimpArgs false

/-! ### spec_l01OK: function 53 -/
def spec_l01OK.j0 : Nat → Bool → ByteArray → ByteArray → ByteArray → Int → ByteArray → ByteArray → ByteArray → Bool → Bool → Option (Bool)
  | 0, _, _, _, _, _, _, _, _, _, _ => none
  | k + 1, x50, x130000, x130001, x130002, x130003, x130004, x130005, x130006, x130007, x130008 => if x50 = true then (some false) else ((spec_l01Web.f x130000).bind fun t147 => (if t147 = true then ((spec_l01Only.f k x130001 (⟨#[47, 63, 35, 64]⟩ : ByteArray)).bind fun t148 => (if t148 = true then ((spec_l01Host.f k x130002).bind fun t149 => (if t149 = true then ((spec_l01In.f x130003 0 65535).bind fun t150 => (if t150 = true then ((spec_l01Usual.f x130000).bind fun t151 => (if x130003 = t151 then (some false) else (if (x130004.size : Int) > 0 then (if 0 < (x130004.size : Int) then (some ((bt x130004 0) == 47)) else (none)) else (some false)))) else (some false))) else (some false))) else (some false))) else (if x130001.toList = ([] : List UInt8) then (if x130002.toList = ([] : List UInt8) then (if x130003 = 0 then (if x130007 = true then (some false) else (some (!x130008))) else (some false)) else (some false)) else (some false))))
def spec_l01OK.f (k : Nat) (a0_0 : ByteArray) (a0_1 : ByteArray) (a0_2 : ByteArray) (a0_3 : Int) (a0_4 : ByteArray) (a0_5 : ByteArray) (a0_6 : ByteArray) (a0_7 : Bool) (a0_8 : Bool) : Option (Bool) := (spec_l01Scheme.f k a0_0).bind fun t130 => (if t130 = true then (if a0_7 = true then (if a0_8 = true then ((spec_l01Only.f k a0_4 (⟨#[63, 35]⟩ : ByteArray)).bind fun t131 => (if t131 = true then ((spec_l01Only.f k a0_5 (⟨#[35]⟩ : ByteArray)).bind fun t132 => (if t132 = true then ((spec_l01Only.f k a0_6 (⟨#[]⟩ : ByteArray)).bind fun t133 => (if t133 = true then ((spec_l01Text.f k a0_0 a0_1 a0_2 a0_3 a0_4 a0_5 a0_6 a0_7 a0_8).bind fun t134 => (spec_l01OK.j0 k (decide ((t134.size : Int) > 100)) a0_0 a0_1 a0_2 a0_3 a0_4 a0_5 a0_6 a0_7 a0_8)) else (spec_l01OK.j0 k true a0_0 a0_1 a0_2 a0_3 a0_4 a0_5 a0_6 a0_7 a0_8))) else (spec_l01OK.j0 k true a0_0 a0_1 a0_2 a0_3 a0_4 a0_5 a0_6 a0_7 a0_8))) else (spec_l01OK.j0 k true a0_0 a0_1 a0_2 a0_3 a0_4 a0_5 a0_6 a0_7 a0_8))) else (if a0_6.toList = ([] : List UInt8) then ((spec_l01Only.f k a0_4 (⟨#[63, 35]⟩ : ByteArray)).bind fun t135 => (if t135 = true then ((spec_l01Only.f k a0_5 (⟨#[35]⟩ : ByteArray)).bind fun t136 => (if t136 = true then ((spec_l01Only.f k a0_6 (⟨#[]⟩ : ByteArray)).bind fun t137 => (if t137 = true then ((spec_l01Text.f k a0_0 a0_1 a0_2 a0_3 a0_4 a0_5 a0_6 a0_7 a0_8).bind fun t138 => (spec_l01OK.j0 k (decide ((t138.size : Int) > 100)) a0_0 a0_1 a0_2 a0_3 a0_4 a0_5 a0_6 a0_7 a0_8)) else (spec_l01OK.j0 k true a0_0 a0_1 a0_2 a0_3 a0_4 a0_5 a0_6 a0_7 a0_8))) else (spec_l01OK.j0 k true a0_0 a0_1 a0_2 a0_3 a0_4 a0_5 a0_6 a0_7 a0_8))) else (spec_l01OK.j0 k true a0_0 a0_1 a0_2 a0_3 a0_4 a0_5 a0_6 a0_7 a0_8))) else (spec_l01OK.j0 k true a0_0 a0_1 a0_2 a0_3 a0_4 a0_5 a0_6 a0_7 a0_8))) else (if a0_5.toList = ([] : List UInt8) then (if a0_8 = true then ((spec_l01Only.f k a0_4 (⟨#[63, 35]⟩ : ByteArray)).bind fun t139 => (if t139 = true then ((spec_l01Only.f k a0_5 (⟨#[35]⟩ : ByteArray)).bind fun t140 => (if t140 = true then ((spec_l01Only.f k a0_6 (⟨#[]⟩ : ByteArray)).bind fun t141 => (if t141 = true then ((spec_l01Text.f k a0_0 a0_1 a0_2 a0_3 a0_4 a0_5 a0_6 a0_7 a0_8).bind fun t142 => (spec_l01OK.j0 k (decide ((t142.size : Int) > 100)) a0_0 a0_1 a0_2 a0_3 a0_4 a0_5 a0_6 a0_7 a0_8)) else (spec_l01OK.j0 k true a0_0 a0_1 a0_2 a0_3 a0_4 a0_5 a0_6 a0_7 a0_8))) else (spec_l01OK.j0 k true a0_0 a0_1 a0_2 a0_3 a0_4 a0_5 a0_6 a0_7 a0_8))) else (spec_l01OK.j0 k true a0_0 a0_1 a0_2 a0_3 a0_4 a0_5 a0_6 a0_7 a0_8))) else (if a0_6.toList = ([] : List UInt8) then ((spec_l01Only.f k a0_4 (⟨#[63, 35]⟩ : ByteArray)).bind fun t143 => (if t143 = true then ((spec_l01Only.f k a0_5 (⟨#[35]⟩ : ByteArray)).bind fun t144 => (if t144 = true then ((spec_l01Only.f k a0_6 (⟨#[]⟩ : ByteArray)).bind fun t145 => (if t145 = true then ((spec_l01Text.f k a0_0 a0_1 a0_2 a0_3 a0_4 a0_5 a0_6 a0_7 a0_8).bind fun t146 => (spec_l01OK.j0 k (decide ((t146.size : Int) > 100)) a0_0 a0_1 a0_2 a0_3 a0_4 a0_5 a0_6 a0_7 a0_8)) else (spec_l01OK.j0 k true a0_0 a0_1 a0_2 a0_3 a0_4 a0_5 a0_6 a0_7 a0_8))) else (spec_l01OK.j0 k true a0_0 a0_1 a0_2 a0_3 a0_4 a0_5 a0_6 a0_7 a0_8))) else (spec_l01OK.j0 k true a0_0 a0_1 a0_2 a0_3 a0_4 a0_5 a0_6 a0_7 a0_8))) else (spec_l01OK.j0 k true a0_0 a0_1 a0_2 a0_3 a0_4 a0_5 a0_6 a0_7 a0_8))) else (spec_l01OK.j0 k true a0_0 a0_1 a0_2 a0_3 a0_4 a0_5 a0_6 a0_7 a0_8))) else (spec_l01OK.j0 k true a0_0 a0_1 a0_2 a0_3 a0_4 a0_5 a0_6 a0_7 a0_8))
theorem spec_l01OK.mono_l : ∀ k, (∀ y0 y1 y2 y3 y4 y5 y6 y7 y8 y9, LeO (spec_l01OK.j0 k y0 y1 y2 y3 y4 y5 y6 y7 y8 y9) (spec_l01OK.j0 (k + 1) y0 y1 y2 y3 y4 y5 y6 y7 y8 y9))
  | 0 => fun _ _ _ _ _ _ _ _ _ _ r h => by simp [spec_l01OK.j0] at h
  | k + 1 => by
    have ih0 := spec_l01OK.mono_l k
    · intro y0 y1 y2 y3 y4 y5 y6 y7 y8 y9
      unfold spec_l01OK.j0
      repeat' first
      | (with_reducible exact ih0 _ _ _ _ _ _ _ _ _ _)
      | (with_reducible exact spec_l01Host.mono _ _)
      | (with_reducible exact spec_l01Only.mono _ _ _)
      | (with_reducible exact spec_l01Scheme.mono _ _)
      | (with_reducible exact spec_l01Text.mono _ _ _ _ _ _ _ _ _ _)
      | (with_reducible exact LeO.refl _)
      | (with_reducible exact LeO.none _)
      | (with_reducible refine LeO.ite ?_ ?_)
      | (with_reducible refine LeO.bind ?_ (fun _ => ?_))
      | exact ih0 _ _ _ _ _ _ _ _ _ _
      | exact spec_l01Host.mono _ _
      | exact spec_l01Only.mono _ _ _
      | exact spec_l01Scheme.mono _ _
      | exact spec_l01Text.mono _ _ _ _ _ _ _ _ _ _
      | exact LeO.none _
      | refine LeO.ite ?_ ?_
      | refine LeO.bind ?_ (fun _ => ?_)
theorem spec_l01OK.mono : ∀ a0 a1 a2 a3 a4 a5 a6 a7 a8 k, LeO (spec_l01OK.f k a0 a1 a2 a3 a4 a5 a6 a7 a8) (spec_l01OK.f (k + 1) a0 a1 a2 a3 a4 a5 a6 a7 a8) := by
  intro a0 a1 a2 a3 a4 a5 a6 a7 a8 k
  have ih0 := spec_l01OK.mono_l k
  unfold spec_l01OK.f
  repeat' first
      | (with_reducible exact ih0 _ _ _ _ _ _ _ _ _ _)
      | (with_reducible exact spec_l01Host.mono _ _)
      | (with_reducible exact spec_l01Only.mono _ _ _)
      | (with_reducible exact spec_l01Scheme.mono _ _)
      | (with_reducible exact spec_l01Text.mono _ _ _ _ _ _ _ _ _ _)
      | (with_reducible exact LeO.refl _)
      | (with_reducible exact LeO.none _)
      | (with_reducible refine LeO.ite ?_ ?_)
      | (with_reducible refine LeO.bind ?_ (fun _ => ?_))
      | exact ih0 _ _ _ _ _ _ _ _ _ _
      | exact spec_l01Host.mono _ _
      | exact spec_l01Only.mono _ _ _
      | exact spec_l01Scheme.mono _ _
      | exact spec_l01Text.mono _ _ _ _ _ _ _ _ _ _
      | exact LeO.none _
      | refine LeO.ite ?_ ?_
      | refine LeO.bind ?_ (fun _ => ?_)
def spec_l01OK.T5 : Bool × List (List Nat × List Nat) := (true, [([], []), ([0], [0]), ([1], [1]), ([2, 2], [2]), ([3], [3]), ([4, 3], [3, 4]), ([5, 3, 3], [3, 5]), ([3, 6], [3, 6]), ([7, 6], [7]), ([8], [8]), ([9, 8], [8, 9]), ([10, 8, 8], [8, 10]), ([8, 11], [8, 11]), ([12, 11], [12]), ([13], [13]), ([14, 13], [13, 14]), ([13], [13]), ([16, 13], [13, 16]), ([17, 13, 13], [13, 17]), ([15, 18, 13], [13, 15, 18]), ([13, 19], [13, 19]), ([20, 18], [20]), ([21], [21]), ([22, 21], [21, 22]), ([23, 21], [21, 23]), ([24, 21], [21, 24]), ([21, 25], [21, 25]), ([26, 21], [26]), ([27], [27]), ([28, 27], [27, 28]), ([29, 27], [27, 29]), ([30, 27], [27, 30]), ([27, 31], [27, 31]), ([32, 27, 0, 1, 2, 3, 4, 5, 6, 7, 8, 9, 10, 11, 12, 13, 14, 15, 16, 17, 18, 19, 20, 21, 22, 23, 24, 25, 26, 27, 28, 29, 30, 31, 32], [32])])
def spec_l01OK.B5 : List Nat := [0, 1, 3, 7, 15, 31, 63, 127, 255, 511, 1023, 2047, 4095, 8191, 16383, 32767, 16383, 81919, 212991, 524287, 1048575, 2097151, 4194303, 8388607, 16777215, 33554431, 67108863, 134217727, 268435455, 536870911, 1073741823, 2147483647, 4294967295, 8589934591]
theorem spec_l01OK.tab5 : rtab .any (opsOf Tryz.f53 5) = spec_l01OK.T5 := by kernel_rfl
theorem spec_l01OK.bits5 : waitsOk spec_l01OK.T5.2 spec_l01OK.B5 = true := by kernel_rfl
set_option maxHeartbeats 8000000 in
set_option maxRecDepth 100000 in
theorem spec_l01OK.calls (k : Nat) (a0_0 : ByteArray) (a0_1 : ByteArray) (a0_2 : ByteArray) (a0_3 : Int) (a0_4 : ByteArray) (a0_5 : ByteArray) (a0_6 : ByteArray) (a0_7 : Bool) (a0_8 : Bool) (r : Bool) (w : World) (h : spec_l01OK.f k a0_0 a0_1 a0_2 a0_3 a0_4 a0_5 a0_6 a0_7 a0_8 = some r) :
    Calls Tryz.prog 53 #[.agg #[.string a0_0, .string a0_1, .string a0_2, .int .i64 a0_3, .string a0_4, .string a0_5, .string a0_6, .bool a0_7, .bool a0_8]] w fun e w' => e = .returned (.bool r) ∧ Below w.heap.size w w' := by
 have hu32 := Tryz.underlying32
 have HB := Aside0.mk (Below.refl w.heap.size w)
 have H : ((spec_l01Scheme.f k a0_0).bind fun t130 => (if t130 = true then (if a0_7 = true then (if a0_8 = true then ((spec_l01Only.f k a0_4 (⟨#[63, 35]⟩ : ByteArray)).bind fun t131 => (if t131 = true then ((spec_l01Only.f k a0_5 (⟨#[35]⟩ : ByteArray)).bind fun t132 => (if t132 = true then ((spec_l01Only.f k a0_6 (⟨#[]⟩ : ByteArray)).bind fun t133 => (if t133 = true then ((spec_l01Text.f k a0_0 a0_1 a0_2 a0_3 a0_4 a0_5 a0_6 a0_7 a0_8).bind fun t134 => (spec_l01OK.j0 k (decide ((t134.size : Int) > 100)) a0_0 a0_1 a0_2 a0_3 a0_4 a0_5 a0_6 a0_7 a0_8)) else (spec_l01OK.j0 k true a0_0 a0_1 a0_2 a0_3 a0_4 a0_5 a0_6 a0_7 a0_8))) else (spec_l01OK.j0 k true a0_0 a0_1 a0_2 a0_3 a0_4 a0_5 a0_6 a0_7 a0_8))) else (spec_l01OK.j0 k true a0_0 a0_1 a0_2 a0_3 a0_4 a0_5 a0_6 a0_7 a0_8))) else (if a0_6.toList = ([] : List UInt8) then ((spec_l01Only.f k a0_4 (⟨#[63, 35]⟩ : ByteArray)).bind fun t135 => (if t135 = true then ((spec_l01Only.f k a0_5 (⟨#[35]⟩ : ByteArray)).bind fun t136 => (if t136 = true then ((spec_l01Only.f k a0_6 (⟨#[]⟩ : ByteArray)).bind fun t137 => (if t137 = true then ((spec_l01Text.f k a0_0 a0_1 a0_2 a0_3 a0_4 a0_5 a0_6 a0_7 a0_8).bind fun t138 => (spec_l01OK.j0 k (decide ((t138.size : Int) > 100)) a0_0 a0_1 a0_2 a0_3 a0_4 a0_5 a0_6 a0_7 a0_8)) else (spec_l01OK.j0 k true a0_0 a0_1 a0_2 a0_3 a0_4 a0_5 a0_6 a0_7 a0_8))) else (spec_l01OK.j0 k true a0_0 a0_1 a0_2 a0_3 a0_4 a0_5 a0_6 a0_7 a0_8))) else (spec_l01OK.j0 k true a0_0 a0_1 a0_2 a0_3 a0_4 a0_5 a0_6 a0_7 a0_8))) else (spec_l01OK.j0 k true a0_0 a0_1 a0_2 a0_3 a0_4 a0_5 a0_6 a0_7 a0_8))) else (if a0_5.toList = ([] : List UInt8) then (if a0_8 = true then ((spec_l01Only.f k a0_4 (⟨#[63, 35]⟩ : ByteArray)).bind fun t139 => (if t139 = true then ((spec_l01Only.f k a0_5 (⟨#[35]⟩ : ByteArray)).bind fun t140 => (if t140 = true then ((spec_l01Only.f k a0_6 (⟨#[]⟩ : ByteArray)).bind fun t141 => (if t141 = true then ((spec_l01Text.f k a0_0 a0_1 a0_2 a0_3 a0_4 a0_5 a0_6 a0_7 a0_8).bind fun t142 => (spec_l01OK.j0 k (decide ((t142.size : Int) > 100)) a0_0 a0_1 a0_2 a0_3 a0_4 a0_5 a0_6 a0_7 a0_8)) else (spec_l01OK.j0 k true a0_0 a0_1 a0_2 a0_3 a0_4 a0_5 a0_6 a0_7 a0_8))) else (spec_l01OK.j0 k true a0_0 a0_1 a0_2 a0_3 a0_4 a0_5 a0_6 a0_7 a0_8))) else (spec_l01OK.j0 k true a0_0 a0_1 a0_2 a0_3 a0_4 a0_5 a0_6 a0_7 a0_8))) else (if a0_6.toList = ([] : List UInt8) then ((spec_l01Only.f k a0_4 (⟨#[63, 35]⟩ : ByteArray)).bind fun t143 => (if t143 = true then ((spec_l01Only.f k a0_5 (⟨#[35]⟩ : ByteArray)).bind fun t144 => (if t144 = true then ((spec_l01Only.f k a0_6 (⟨#[]⟩ : ByteArray)).bind fun t145 => (if t145 = true then ((spec_l01Text.f k a0_0 a0_1 a0_2 a0_3 a0_4 a0_5 a0_6 a0_7 a0_8).bind fun t146 => (spec_l01OK.j0 k (decide ((t146.size : Int) > 100)) a0_0 a0_1 a0_2 a0_3 a0_4 a0_5 a0_6 a0_7 a0_8)) else (spec_l01OK.j0 k true a0_0 a0_1 a0_2 a0_3 a0_4 a0_5 a0_6 a0_7 a0_8))) else (spec_l01OK.j0 k true a0_0 a0_1 a0_2 a0_3 a0_4 a0_5 a0_6 a0_7 a0_8))) else (spec_l01OK.j0 k true a0_0 a0_1 a0_2 a0_3 a0_4 a0_5 a0_6 a0_7 a0_8))) else (spec_l01OK.j0 k true a0_0 a0_1 a0_2 a0_3 a0_4 a0_5 a0_6 a0_7 a0_8))) else (spec_l01OK.j0 k true a0_0 a0_1 a0_2 a0_3 a0_4 a0_5 a0_6 a0_7 a0_8))) else (spec_l01OK.j0 k true a0_0 a0_1 a0_2 a0_3 a0_4 a0_5 a0_6 a0_7 a0_8))) = some r := h
 clear h
 have HC2 := Aside0.mk H
 clear H
 go_enter Tryz.func53, Tryz.ntmps53
 go_upto_region 1 with (first | ((with_reducible refine gate_dst (N := 1) rfl ?_); (try (refine gate_guard (by rfl) ?_; dsimp only)); refine box_event ?hg (N := 1) ?hd (cs := #[.string a0_0, .string a0_1, .string a0_2, .int .i64 a0_3, .string a0_4, .string a0_5, .string a0_6, .bool a0_7, .bool a0_8]) (t := 32) ?hr ?_; (case hd => rfl); (case hg => rfl); (case hr => first | (go_simp; done) | (go_simp; rfl)); intro gb129 hg w3 hbox hb; have n0_ := belB_ hb; have n1_ := Aside0.mk (hbox); have n2_ := Aside0.mk ((by rw [hg]; exact (below_size belE_) : w.heap.size ≤ gb129)); have n3_ := Aside0.mk ((by rw [hg]; exact (below_size belE_) : w.heap.size ≤ gb129)); clear HB; have HB := n0_; have BK129 := n1_; have GW129 := n2_; have GE129 := n3_; clear n0_ n1_ n2_ n3_; clear hb hbox hg))
 (try simp only [Act.put, List.setIfInBounds_toArray, List.set_cons_zero, List.set_cons_succ])
 go_cut [50] (fun v50 wc => ∃ (kq : Nat) (x50_1 : Bool), v50 = .bool x50_1 ∧ Aside0 (spec_l01OK.j0 kq x50_1 a0_0 a0_1 a0_2 a0_3 a0_4 a0_5 a0_6 a0_7 a0_8 = some r) ∧ Aside0 (kq ≤ k) ∧ Aside0 (wc.heap[gb129]? = some (.cells #[.string a0_0, .string a0_1, .string a0_2, .int .i64 a0_3, .string a0_4, .string a0_5, .string a0_6, .bool a0_7, .bool a0_8] 32 (0, 0))) ∧ Aside0 (Below w.heap.size w wc))
 case first =>
  have H := HC2.out
  clear HC2
  obtain ⟨t130, A4, H⟩ := bindE_ H
  by_cases c5 : t130 = true
  ·
   subst c5
   replace H := ifT_ H
   by_cases c6 : a0_7 = true
   ·
    subst c6
    replace H := ifT_ H
    by_cases c7 : a0_8 = true
    ·
     subst c7
     replace H := ifT_ H
     obtain ⟨t131, A8, H⟩ := bindE_ H
     by_cases c9 : t131 = true
     ·
      subst c9
      replace H := ifT_ H
      obtain ⟨t132, A10, H⟩ := bindE_ H
      by_cases c11 : t132 = true
      ·
       subst c11
       replace H := ifT_ H
       obtain ⟨t133, A12, H⟩ := bindE_ H
       by_cases c13 : t133 = true
       ·
        subst c13
        replace H := ifT_ H
        obtain ⟨t134, A14, H⟩ := bindE_ H
        have H' := Aside0.mk H
        clear H
        obtain ⟨hcz15_0, hcz15_1, hcz15_2, hcz15_3, hcz15_4, hcz15_5, hcz15_6, hcz15_7, hcz15_8, hfz15_0, hfz15_1, hfz15_2, hfz15_3, hfz15_4, hfz15_5, hfz15_6, hfz15_7, hfz15_8⟩ := cz9_ BK129
        go_wp2_with (first | ((with_reducible refine gate_callee (f := 102) rfl ?_); refine cU_ (some 5) Tryz.func102 #[.string a0_0] ?_; (with_reducible refine (spec_l01Scheme.calls k a0_0 true _ A4.out).mono ?_); rintro e w' ⟨rfl, ⟨nd, rfl⟩⟩; refine ⟨_, rfl, ?_⟩) | (go_at_call 103; (with_reducible refine (spec_l01Only.calls k a0_4 (⟨#[63, 35]⟩ : ByteArray) true _ A8.out).mono ?_); rintro e w' ⟨rfl, ⟨nd, rfl⟩⟩) | (go_at_call 103; (with_reducible refine (spec_l01Only.calls k a0_5 (⟨#[35]⟩ : ByteArray) true _ A10.out).mono ?_); rintro e w' ⟨rfl, ⟨nd, rfl⟩⟩) | (go_at_call 103; (with_reducible refine (spec_l01Only.calls k a0_6 (⟨#[]⟩ : ByteArray) true _ A12.out).mono ?_); rintro e w' ⟨rfl, ⟨nd, rfl⟩⟩) | (go_at_call 66; (with_reducible refine (spec_l01Text.calls k a0_0 a0_1 a0_2 a0_3 a0_4 a0_5 a0_6 true true t134 _ A14.out).mono ?_); rintro e w16 ⟨rfl, hb⟩; replace BK129 := blkK_ BK129 hb; replace HB := belB_ hb; (try clear hb)))
        go_meet
        case rel => exact ⟨_, (decide ((t134.size : Int) > 100)), eqE_, H', ⟨leE_⟩, ⟨blkE_⟩, ⟨belE_⟩⟩
       ·
        replace c13 := Bool.eq_false_iff.mpr c13
        subst c13
        replace H := ifF_ H
        have H' := Aside0.mk H
        clear H
        obtain ⟨hcz17_0, hcz17_1, hcz17_2, hcz17_3, hcz17_4, hcz17_5, hcz17_6, hcz17_7, hcz17_8, hfz17_0, hfz17_1, hfz17_2, hfz17_3, hfz17_4, hfz17_5, hfz17_6, hfz17_7, hfz17_8⟩ := cz9_ BK129
        go_wp2_with (first | ((with_reducible refine gate_callee (f := 102) rfl ?_); refine cU_ (some 5) Tryz.func102 #[.string a0_0] ?_; (with_reducible refine (spec_l01Scheme.calls k a0_0 true _ A4.out).mono ?_); rintro e w' ⟨rfl, ⟨nd, rfl⟩⟩; refine ⟨_, rfl, ?_⟩) | (go_at_call 103; (with_reducible refine (spec_l01Only.calls k a0_4 (⟨#[63, 35]⟩ : ByteArray) true _ A8.out).mono ?_); rintro e w' ⟨rfl, ⟨nd, rfl⟩⟩) | (go_at_call 103; (with_reducible refine (spec_l01Only.calls k a0_5 (⟨#[35]⟩ : ByteArray) true _ A10.out).mono ?_); rintro e w' ⟨rfl, ⟨nd, rfl⟩⟩) | (go_at_call 103; (with_reducible refine (spec_l01Only.calls k a0_6 (⟨#[]⟩ : ByteArray) false _ A12.out).mono ?_); rintro e w' ⟨rfl, ⟨nd, rfl⟩⟩))
        go_meet
        case rel => exact ⟨_, (true), eqE_, H', ⟨leE_⟩, ⟨blkE_⟩, ⟨belE_⟩⟩
      ·
       replace c11 := Bool.eq_false_iff.mpr c11
       subst c11
       replace H := ifF_ H
       have H' := Aside0.mk H
       clear H
       obtain ⟨hcz18_0, hcz18_1, hcz18_2, hcz18_3, hcz18_4, hcz18_5, hcz18_6, hcz18_7, hcz18_8, hfz18_0, hfz18_1, hfz18_2, hfz18_3, hfz18_4, hfz18_5, hfz18_6, hfz18_7, hfz18_8⟩ := cz9_ BK129
       go_wp2_with (first | ((with_reducible refine gate_callee (f := 102) rfl ?_); refine cU_ (some 5) Tryz.func102 #[.string a0_0] ?_; (with_reducible refine (spec_l01Scheme.calls k a0_0 true _ A4.out).mono ?_); rintro e w' ⟨rfl, ⟨nd, rfl⟩⟩; refine ⟨_, rfl, ?_⟩) | (go_at_call 103; (with_reducible refine (spec_l01Only.calls k a0_4 (⟨#[63, 35]⟩ : ByteArray) true _ A8.out).mono ?_); rintro e w' ⟨rfl, ⟨nd, rfl⟩⟩) | (go_at_call 103; (with_reducible refine (spec_l01Only.calls k a0_5 (⟨#[35]⟩ : ByteArray) false _ A10.out).mono ?_); rintro e w' ⟨rfl, ⟨nd, rfl⟩⟩))
       go_meet
       case rel => exact ⟨_, (true), eqE_, H', ⟨leE_⟩, ⟨blkE_⟩, ⟨belE_⟩⟩
     ·
      replace c9 := Bool.eq_false_iff.mpr c9
      subst c9
      replace H := ifF_ H
      have H' := Aside0.mk H
      clear H
      obtain ⟨hcz19_0, hcz19_1, hcz19_2, hcz19_3, hcz19_4, hcz19_5, hcz19_6, hcz19_7, hcz19_8, hfz19_0, hfz19_1, hfz19_2, hfz19_3, hfz19_4, hfz19_5, hfz19_6, hfz19_7, hfz19_8⟩ := cz9_ BK129
      go_wp2_with (first | ((with_reducible refine gate_callee (f := 102) rfl ?_); refine cU_ (some 5) Tryz.func102 #[.string a0_0] ?_; (with_reducible refine (spec_l01Scheme.calls k a0_0 true _ A4.out).mono ?_); rintro e w' ⟨rfl, ⟨nd, rfl⟩⟩; refine ⟨_, rfl, ?_⟩) | (go_at_call 103; (with_reducible refine (spec_l01Only.calls k a0_4 (⟨#[63, 35]⟩ : ByteArray) false _ A8.out).mono ?_); rintro e w' ⟨rfl, ⟨nd, rfl⟩⟩))
      go_meet
      case rel => exact ⟨_, (true), eqE_, H', ⟨leE_⟩, ⟨blkE_⟩, ⟨belE_⟩⟩
    ·
     replace c7 := Bool.eq_false_iff.mpr c7
     subst c7
     replace H := ifF_ H
     by_cases c20 : a0_6.toList = ([] : List UInt8)
     ·
      rw [if_pos c20] at H
      have c20b0 : (a0_6.toList == ([] : List UInt8)) = true := beq_iff_eq.mpr c20
      have c20b1 : (a0_6.toList != ([] : List UInt8)) = false := bne_eq_false_iff_eq.mpr c20
      (try (have c20b2 : a0_6.toList.isEmpty = true := by simpa using c20))
      clear c20
      (first | rw [c20b0] | rw [c20b2] | (simp only [i64_w, i32_w]; rw [c20b0]) | skip)
      obtain ⟨t135, A21, H⟩ := bindE_ H
      by_cases c22 : t135 = true
      ·
       subst c22
       replace H := ifT_ H
       obtain ⟨t136, A23, H⟩ := bindE_ H
       by_cases c24 : t136 = true
       ·
        subst c24
        replace H := ifT_ H
        obtain ⟨t137, A25, H⟩ := bindE_ H
        by_cases c26 : t137 = true
        ·
         subst c26
         replace H := ifT_ H
         obtain ⟨t138, A27, H⟩ := bindE_ H
         have H' := Aside0.mk H
         clear H
         obtain ⟨hcz28_0, hcz28_1, hcz28_2, hcz28_3, hcz28_4, hcz28_5, hcz28_6, hcz28_7, hcz28_8, hfz28_0, hfz28_1, hfz28_2, hfz28_3, hfz28_4, hfz28_5, hfz28_6, hfz28_7, hfz28_8⟩ := cz9_ BK129
         go_wp2_with (first | ((with_reducible refine gate_callee (f := 102) rfl ?_); refine cU_ (some 5) Tryz.func102 #[.string a0_0] ?_; (with_reducible refine (spec_l01Scheme.calls k a0_0 true _ A4.out).mono ?_); rintro e w' ⟨rfl, ⟨nd, rfl⟩⟩; refine ⟨_, rfl, ?_⟩) | (go_at_call 103; (with_reducible refine (spec_l01Only.calls k a0_4 (⟨#[63, 35]⟩ : ByteArray) true _ A21.out).mono ?_); rintro e w' ⟨rfl, ⟨nd, rfl⟩⟩) | (go_at_call 103; (with_reducible refine (spec_l01Only.calls k a0_5 (⟨#[35]⟩ : ByteArray) true _ A23.out).mono ?_); rintro e w' ⟨rfl, ⟨nd, rfl⟩⟩) | (go_at_call 103; (with_reducible refine (spec_l01Only.calls k a0_6 (⟨#[]⟩ : ByteArray) true _ A25.out).mono ?_); rintro e w' ⟨rfl, ⟨nd, rfl⟩⟩) | (go_at_call 66; (with_reducible refine (spec_l01Text.calls k a0_0 a0_1 a0_2 a0_3 a0_4 a0_5 a0_6 true false t138 _ A27.out).mono ?_); rintro e w29 ⟨rfl, hb⟩; replace BK129 := blkK_ BK129 hb; replace HB := belB_ hb; (try clear hb)))
         go_meet
         case rel => exact ⟨_, (decide ((t138.size : Int) > 100)), eqE_, H', ⟨leE_⟩, ⟨blkE_⟩, ⟨belE_⟩⟩
        ·
         replace c26 := Bool.eq_false_iff.mpr c26
         subst c26
         replace H := ifF_ H
         have H' := Aside0.mk H
         clear H
         obtain ⟨hcz30_0, hcz30_1, hcz30_2, hcz30_3, hcz30_4, hcz30_5, hcz30_6, hcz30_7, hcz30_8, hfz30_0, hfz30_1, hfz30_2, hfz30_3, hfz30_4, hfz30_5, hfz30_6, hfz30_7, hfz30_8⟩ := cz9_ BK129
         go_wp2_with (first | ((with_reducible refine gate_callee (f := 102) rfl ?_); refine cU_ (some 5) Tryz.func102 #[.string a0_0] ?_; (with_reducible refine (spec_l01Scheme.calls k a0_0 true _ A4.out).mono ?_); rintro e w' ⟨rfl, ⟨nd, rfl⟩⟩; refine ⟨_, rfl, ?_⟩) | (go_at_call 103; (with_reducible refine (spec_l01Only.calls k a0_4 (⟨#[63, 35]⟩ : ByteArray) true _ A21.out).mono ?_); rintro e w' ⟨rfl, ⟨nd, rfl⟩⟩) | (go_at_call 103; (with_reducible refine (spec_l01Only.calls k a0_5 (⟨#[35]⟩ : ByteArray) true _ A23.out).mono ?_); rintro e w' ⟨rfl, ⟨nd, rfl⟩⟩) | (go_at_call 103; (with_reducible refine (spec_l01Only.calls k a0_6 (⟨#[]⟩ : ByteArray) false _ A25.out).mono ?_); rintro e w' ⟨rfl, ⟨nd, rfl⟩⟩))
         go_meet
         case rel => exact ⟨_, (true), eqE_, H', ⟨leE_⟩, ⟨blkE_⟩, ⟨belE_⟩⟩
       ·
        replace c24 := Bool.eq_false_iff.mpr c24
        subst c24
        replace H := ifF_ H
        have H' := Aside0.mk H
        clear H
        obtain ⟨hcz31_0, hcz31_1, hcz31_2, hcz31_3, hcz31_4, hcz31_5, hcz31_6, hcz31_7, hcz31_8, hfz31_0, hfz31_1, hfz31_2, hfz31_3, hfz31_4, hfz31_5, hfz31_6, hfz31_7, hfz31_8⟩ := cz9_ BK129
        go_wp2_with (first | ((with_reducible refine gate_callee (f := 102) rfl ?_); refine cU_ (some 5) Tryz.func102 #[.string a0_0] ?_; (with_reducible refine (spec_l01Scheme.calls k a0_0 true _ A4.out).mono ?_); rintro e w' ⟨rfl, ⟨nd, rfl⟩⟩; refine ⟨_, rfl, ?_⟩) | (go_at_call 103; (with_reducible refine (spec_l01Only.calls k a0_4 (⟨#[63, 35]⟩ : ByteArray) true _ A21.out).mono ?_); rintro e w' ⟨rfl, ⟨nd, rfl⟩⟩) | (go_at_call 103; (with_reducible refine (spec_l01Only.calls k a0_5 (⟨#[35]⟩ : ByteArray) false _ A23.out).mono ?_); rintro e w' ⟨rfl, ⟨nd, rfl⟩⟩))
        go_meet
        case rel => exact ⟨_, (true), eqE_, H', ⟨leE_⟩, ⟨blkE_⟩, ⟨belE_⟩⟩
      ·
       replace c22 := Bool.eq_false_iff.mpr c22
       subst c22
       replace H := ifF_ H
       have H' := Aside0.mk H
       clear H
       obtain ⟨hcz32_0, hcz32_1, hcz32_2, hcz32_3, hcz32_4, hcz32_5, hcz32_6, hcz32_7, hcz32_8, hfz32_0, hfz32_1, hfz32_2, hfz32_3, hfz32_4, hfz32_5, hfz32_6, hfz32_7, hfz32_8⟩ := cz9_ BK129
       go_wp2_with (first | ((with_reducible refine gate_callee (f := 102) rfl ?_); refine cU_ (some 5) Tryz.func102 #[.string a0_0] ?_; (with_reducible refine (spec_l01Scheme.calls k a0_0 true _ A4.out).mono ?_); rintro e w' ⟨rfl, ⟨nd, rfl⟩⟩; refine ⟨_, rfl, ?_⟩) | (go_at_call 103; (with_reducible refine (spec_l01Only.calls k a0_4 (⟨#[63, 35]⟩ : ByteArray) false _ A21.out).mono ?_); rintro e w' ⟨rfl, ⟨nd, rfl⟩⟩))
       go_meet
       case rel => exact ⟨_, (true), eqE_, H', ⟨leE_⟩, ⟨blkE_⟩, ⟨belE_⟩⟩
     ·
      rw [if_neg c20] at H
      have c20b0 : (a0_6.toList == ([] : List UInt8)) = false := beq_eq_false_iff_ne.mpr c20
      have c20b1 : (a0_6.toList != ([] : List UInt8)) = true := bne_iff_ne.mpr c20
      (try (have c20b2 : a0_6.toList.isEmpty = false := by simpa using c20))
      (first | rw [c20b0] | rw [c20b2] | (simp only [i64_w, i32_w]; rw [c20b0]) | skip)
      have H' := Aside0.mk H
      clear H
      obtain ⟨hcz33_0, hcz33_1, hcz33_2, hcz33_3, hcz33_4, hcz33_5, hcz33_6, hcz33_7, hcz33_8, hfz33_0, hfz33_1, hfz33_2, hfz33_3, hfz33_4, hfz33_5, hfz33_6, hfz33_7, hfz33_8⟩ := cz9_ BK129
      go_wp2_with (first | ((with_reducible refine gate_callee (f := 102) rfl ?_); refine cU_ (some 5) Tryz.func102 #[.string a0_0] ?_; (with_reducible refine (spec_l01Scheme.calls k a0_0 true _ A4.out).mono ?_); rintro e w' ⟨rfl, ⟨nd, rfl⟩⟩; refine ⟨_, rfl, ?_⟩))
      go_meet
      case rel => exact ⟨_, (true), eqE_, H', ⟨leE_⟩, ⟨blkE_⟩, ⟨belE_⟩⟩
   ·
    replace c6 := Bool.eq_false_iff.mpr c6
    subst c6
    replace H := ifF_ H
    by_cases c34 : a0_5.toList = ([] : List UInt8)
    ·
     rw [if_pos c34] at H
     have c34b0 : (a0_5.toList == ([] : List UInt8)) = true := beq_iff_eq.mpr c34
     have c34b1 : (a0_5.toList != ([] : List UInt8)) = false := bne_eq_false_iff_eq.mpr c34
     (try (have c34b2 : a0_5.toList.isEmpty = true := by simpa using c34))
     clear c34
     by_cases c35 : a0_8 = true
     ·
      subst c35
      replace H := ifT_ H
      obtain ⟨t139, A36, H⟩ := bindE_ H
      by_cases c37 : t139 = true
      ·
       subst c37
       replace H := ifT_ H
       obtain ⟨t140, A38, H⟩ := bindE_ H
       by_cases c39 : t140 = true
       ·
        subst c39
        replace H := ifT_ H
        obtain ⟨t141, A40, H⟩ := bindE_ H
        by_cases c41 : t141 = true
        ·
         subst c41
         replace H := ifT_ H
         obtain ⟨t142, A42, H⟩ := bindE_ H
         have H' := Aside0.mk H
         clear H
         obtain ⟨hcz43_0, hcz43_1, hcz43_2, hcz43_3, hcz43_4, hcz43_5, hcz43_6, hcz43_7, hcz43_8, hfz43_0, hfz43_1, hfz43_2, hfz43_3, hfz43_4, hfz43_5, hfz43_6, hfz43_7, hfz43_8⟩ := cz9_ BK129
         go_wp2_with (first | ((with_reducible refine gate_callee (f := 102) rfl ?_); refine cU_ (some 5) Tryz.func102 #[.string a0_0] ?_; (with_reducible refine (spec_l01Scheme.calls k a0_0 true _ A4.out).mono ?_); rintro e w' ⟨rfl, ⟨nd, rfl⟩⟩; refine ⟨_, rfl, ?_⟩) | (go_at_call 103; (with_reducible refine (spec_l01Only.calls k a0_4 (⟨#[63, 35]⟩ : ByteArray) true _ A36.out).mono ?_); rintro e w' ⟨rfl, ⟨nd, rfl⟩⟩) | (go_at_call 103; (with_reducible refine (spec_l01Only.calls k a0_5 (⟨#[35]⟩ : ByteArray) true _ A38.out).mono ?_); rintro e w' ⟨rfl, ⟨nd, rfl⟩⟩) | (go_at_call 103; (with_reducible refine (spec_l01Only.calls k a0_6 (⟨#[]⟩ : ByteArray) true _ A40.out).mono ?_); rintro e w' ⟨rfl, ⟨nd, rfl⟩⟩) | (go_at_call 66; (with_reducible refine (spec_l01Text.calls k a0_0 a0_1 a0_2 a0_3 a0_4 a0_5 a0_6 false true t142 _ A42.out).mono ?_); rintro e w44 ⟨rfl, hb⟩; replace BK129 := blkK_ BK129 hb; replace HB := belB_ hb; (try clear hb)))
         go_meet
         case rel => exact ⟨_, (decide ((t142.size : Int) > 100)), eqE_, H', ⟨leE_⟩, ⟨blkE_⟩, ⟨belE_⟩⟩
        ·
         replace c41 := Bool.eq_false_iff.mpr c41
         subst c41
         replace H := ifF_ H
         have H' := Aside0.mk H
         clear H
         obtain ⟨hcz45_0, hcz45_1, hcz45_2, hcz45_3, hcz45_4, hcz45_5, hcz45_6, hcz45_7, hcz45_8, hfz45_0, hfz45_1, hfz45_2, hfz45_3, hfz45_4, hfz45_5, hfz45_6, hfz45_7, hfz45_8⟩ := cz9_ BK129
         go_wp2_with (first | ((with_reducible refine gate_callee (f := 102) rfl ?_); refine cU_ (some 5) Tryz.func102 #[.string a0_0] ?_; (with_reducible refine (spec_l01Scheme.calls k a0_0 true _ A4.out).mono ?_); rintro e w' ⟨rfl, ⟨nd, rfl⟩⟩; refine ⟨_, rfl, ?_⟩) | (go_at_call 103; (with_reducible refine (spec_l01Only.calls k a0_4 (⟨#[63, 35]⟩ : ByteArray) true _ A36.out).mono ?_); rintro e w' ⟨rfl, ⟨nd, rfl⟩⟩) | (go_at_call 103; (with_reducible refine (spec_l01Only.calls k a0_5 (⟨#[35]⟩ : ByteArray) true _ A38.out).mono ?_); rintro e w' ⟨rfl, ⟨nd, rfl⟩⟩) | (go_at_call 103; (with_reducible refine (spec_l01Only.calls k a0_6 (⟨#[]⟩ : ByteArray) false _ A40.out).mono ?_); rintro e w' ⟨rfl, ⟨nd, rfl⟩⟩))
         go_meet
         case rel => exact ⟨_, (true), eqE_, H', ⟨leE_⟩, ⟨blkE_⟩, ⟨belE_⟩⟩
       ·
        replace c39 := Bool.eq_false_iff.mpr c39
        subst c39
        replace H := ifF_ H
        have H' := Aside0.mk H
        clear H
        obtain ⟨hcz46_0, hcz46_1, hcz46_2, hcz46_3, hcz46_4, hcz46_5, hcz46_6, hcz46_7, hcz46_8, hfz46_0, hfz46_1, hfz46_2, hfz46_3, hfz46_4, hfz46_5, hfz46_6, hfz46_7, hfz46_8⟩ := cz9_ BK129
        go_wp2_with (first | ((with_reducible refine gate_callee (f := 102) rfl ?_); refine cU_ (some 5) Tryz.func102 #[.string a0_0] ?_; (with_reducible refine (spec_l01Scheme.calls k a0_0 true _ A4.out).mono ?_); rintro e w' ⟨rfl, ⟨nd, rfl⟩⟩; refine ⟨_, rfl, ?_⟩) | (go_at_call 103; (with_reducible refine (spec_l01Only.calls k a0_4 (⟨#[63, 35]⟩ : ByteArray) true _ A36.out).mono ?_); rintro e w' ⟨rfl, ⟨nd, rfl⟩⟩) | (go_at_call 103; (with_reducible refine (spec_l01Only.calls k a0_5 (⟨#[35]⟩ : ByteArray) false _ A38.out).mono ?_); rintro e w' ⟨rfl, ⟨nd, rfl⟩⟩))
        go_meet
        case rel => exact ⟨_, (true), eqE_, H', ⟨leE_⟩, ⟨blkE_⟩, ⟨belE_⟩⟩
      ·
       replace c37 := Bool.eq_false_iff.mpr c37
       subst c37
       replace H := ifF_ H
       have H' := Aside0.mk H
       clear H
       obtain ⟨hcz47_0, hcz47_1, hcz47_2, hcz47_3, hcz47_4, hcz47_5, hcz47_6, hcz47_7, hcz47_8, hfz47_0, hfz47_1, hfz47_2, hfz47_3, hfz47_4, hfz47_5, hfz47_6, hfz47_7, hfz47_8⟩ := cz9_ BK129
       go_wp2_with (first | ((with_reducible refine gate_callee (f := 102) rfl ?_); refine cU_ (some 5) Tryz.func102 #[.string a0_0] ?_; (with_reducible refine (spec_l01Scheme.calls k a0_0 true _ A4.out).mono ?_); rintro e w' ⟨rfl, ⟨nd, rfl⟩⟩; refine ⟨_, rfl, ?_⟩) | (go_at_call 103; (with_reducible refine (spec_l01Only.calls k a0_4 (⟨#[63, 35]⟩ : ByteArray) false _ A36.out).mono ?_); rintro e w' ⟨rfl, ⟨nd, rfl⟩⟩))
       go_meet
       case rel => exact ⟨_, (true), eqE_, H', ⟨leE_⟩, ⟨blkE_⟩, ⟨belE_⟩⟩
     ·
      replace c35 := Bool.eq_false_iff.mpr c35
      subst c35
      replace H := ifF_ H
      by_cases c48 : a0_6.toList = ([] : List UInt8)
      ·
       rw [if_pos c48] at H
       have c48b0 : (a0_6.toList == ([] : List UInt8)) = true := beq_iff_eq.mpr c48
       have c48b1 : (a0_6.toList != ([] : List UInt8)) = false := bne_eq_false_iff_eq.mpr c48
       (try (have c48b2 : a0_6.toList.isEmpty = true := by simpa using c48))
       clear c48
       obtain ⟨t143, A49, H⟩ := bindE_ H
       by_cases c50 : t143 = true
       ·
        subst c50
        replace H := ifT_ H
        obtain ⟨t144, A51, H⟩ := bindE_ H
        by_cases c52 : t144 = true
        ·
         subst c52
         replace H := ifT_ H
         obtain ⟨t145, A53, H⟩ := bindE_ H
         by_cases c54 : t145 = true
         ·
          subst c54
          replace H := ifT_ H
          obtain ⟨t146, A55, H⟩ := bindE_ H
          have H' := Aside0.mk H
          clear H
          obtain ⟨hcz56_0, hcz56_1, hcz56_2, hcz56_3, hcz56_4, hcz56_5, hcz56_6, hcz56_7, hcz56_8, hfz56_0, hfz56_1, hfz56_2, hfz56_3, hfz56_4, hfz56_5, hfz56_6, hfz56_7, hfz56_8⟩ := cz9_ BK129
          go_wp2_with (first | ((with_reducible refine gate_callee (f := 102) rfl ?_); refine cU_ (some 5) Tryz.func102 #[.string a0_0] ?_; (with_reducible refine (spec_l01Scheme.calls k a0_0 true _ A4.out).mono ?_); rintro e w' ⟨rfl, ⟨nd, rfl⟩⟩; refine ⟨_, rfl, ?_⟩) | (go_at_call 103; (with_reducible refine (spec_l01Only.calls k a0_4 (⟨#[63, 35]⟩ : ByteArray) true _ A49.out).mono ?_); rintro e w' ⟨rfl, ⟨nd, rfl⟩⟩) | (go_at_call 103; (with_reducible refine (spec_l01Only.calls k a0_5 (⟨#[35]⟩ : ByteArray) true _ A51.out).mono ?_); rintro e w' ⟨rfl, ⟨nd, rfl⟩⟩) | (go_at_call 103; (with_reducible refine (spec_l01Only.calls k a0_6 (⟨#[]⟩ : ByteArray) true _ A53.out).mono ?_); rintro e w' ⟨rfl, ⟨nd, rfl⟩⟩) | (go_at_call 66; (with_reducible refine (spec_l01Text.calls k a0_0 a0_1 a0_2 a0_3 a0_4 a0_5 a0_6 false false t146 _ A55.out).mono ?_); rintro e w57 ⟨rfl, hb⟩; replace BK129 := blkK_ BK129 hb; replace HB := belB_ hb; (try clear hb)))
          go_meet
          case rel => exact ⟨_, (decide ((t146.size : Int) > 100)), eqE_, H', ⟨leE_⟩, ⟨blkE_⟩, ⟨belE_⟩⟩
         ·
          replace c54 := Bool.eq_false_iff.mpr c54
          subst c54
          replace H := ifF_ H
          have H' := Aside0.mk H
          clear H
          obtain ⟨hcz58_0, hcz58_1, hcz58_2, hcz58_3, hcz58_4, hcz58_5, hcz58_6, hcz58_7, hcz58_8, hfz58_0, hfz58_1, hfz58_2, hfz58_3, hfz58_4, hfz58_5, hfz58_6, hfz58_7, hfz58_8⟩ := cz9_ BK129
          go_wp2_with (first | ((with_reducible refine gate_callee (f := 102) rfl ?_); refine cU_ (some 5) Tryz.func102 #[.string a0_0] ?_; (with_reducible refine (spec_l01Scheme.calls k a0_0 true _ A4.out).mono ?_); rintro e w' ⟨rfl, ⟨nd, rfl⟩⟩; refine ⟨_, rfl, ?_⟩) | (go_at_call 103; (with_reducible refine (spec_l01Only.calls k a0_4 (⟨#[63, 35]⟩ : ByteArray) true _ A49.out).mono ?_); rintro e w' ⟨rfl, ⟨nd, rfl⟩⟩) | (go_at_call 103; (with_reducible refine (spec_l01Only.calls k a0_5 (⟨#[35]⟩ : ByteArray) true _ A51.out).mono ?_); rintro e w' ⟨rfl, ⟨nd, rfl⟩⟩) | (go_at_call 103; (with_reducible refine (spec_l01Only.calls k a0_6 (⟨#[]⟩ : ByteArray) false _ A53.out).mono ?_); rintro e w' ⟨rfl, ⟨nd, rfl⟩⟩))
          go_meet
          case rel => exact ⟨_, (true), eqE_, H', ⟨leE_⟩, ⟨blkE_⟩, ⟨belE_⟩⟩
        ·
         replace c52 := Bool.eq_false_iff.mpr c52
         subst c52
         replace H := ifF_ H
         have H' := Aside0.mk H
         clear H
         obtain ⟨hcz59_0, hcz59_1, hcz59_2, hcz59_3, hcz59_4, hcz59_5, hcz59_6, hcz59_7, hcz59_8, hfz59_0, hfz59_1, hfz59_2, hfz59_3, hfz59_4, hfz59_5, hfz59_6, hfz59_7, hfz59_8⟩ := cz9_ BK129
         go_wp2_with (first | ((with_reducible refine gate_callee (f := 102) rfl ?_); refine cU_ (some 5) Tryz.func102 #[.string a0_0] ?_; (with_reducible refine (spec_l01Scheme.calls k a0_0 true _ A4.out).mono ?_); rintro e w' ⟨rfl, ⟨nd, rfl⟩⟩; refine ⟨_, rfl, ?_⟩) | (go_at_call 103; (with_reducible refine (spec_l01Only.calls k a0_4 (⟨#[63, 35]⟩ : ByteArray) true _ A49.out).mono ?_); rintro e w' ⟨rfl, ⟨nd, rfl⟩⟩) | (go_at_call 103; (with_reducible refine (spec_l01Only.calls k a0_5 (⟨#[35]⟩ : ByteArray) false _ A51.out).mono ?_); rintro e w' ⟨rfl, ⟨nd, rfl⟩⟩))
         go_meet
         case rel => exact ⟨_, (true), eqE_, H', ⟨leE_⟩, ⟨blkE_⟩, ⟨belE_⟩⟩
       ·
        replace c50 := Bool.eq_false_iff.mpr c50
        subst c50
        replace H := ifF_ H
        have H' := Aside0.mk H
        clear H
        obtain ⟨hcz60_0, hcz60_1, hcz60_2, hcz60_3, hcz60_4, hcz60_5, hcz60_6, hcz60_7, hcz60_8, hfz60_0, hfz60_1, hfz60_2, hfz60_3, hfz60_4, hfz60_5, hfz60_6, hfz60_7, hfz60_8⟩ := cz9_ BK129
        go_wp2_with (first | ((with_reducible refine gate_callee (f := 102) rfl ?_); refine cU_ (some 5) Tryz.func102 #[.string a0_0] ?_; (with_reducible refine (spec_l01Scheme.calls k a0_0 true _ A4.out).mono ?_); rintro e w' ⟨rfl, ⟨nd, rfl⟩⟩; refine ⟨_, rfl, ?_⟩) | (go_at_call 103; (with_reducible refine (spec_l01Only.calls k a0_4 (⟨#[63, 35]⟩ : ByteArray) false _ A49.out).mono ?_); rintro e w' ⟨rfl, ⟨nd, rfl⟩⟩))
        go_meet
        case rel => exact ⟨_, (true), eqE_, H', ⟨leE_⟩, ⟨blkE_⟩, ⟨belE_⟩⟩
      ·
       rw [if_neg c48] at H
       have c48b0 : (a0_6.toList == ([] : List UInt8)) = false := beq_eq_false_iff_ne.mpr c48
       have c48b1 : (a0_6.toList != ([] : List UInt8)) = true := bne_iff_ne.mpr c48
       (try (have c48b2 : a0_6.toList.isEmpty = false := by simpa using c48))
       have H' := Aside0.mk H
       clear H
       obtain ⟨hcz61_0, hcz61_1, hcz61_2, hcz61_3, hcz61_4, hcz61_5, hcz61_6, hcz61_7, hcz61_8, hfz61_0, hfz61_1, hfz61_2, hfz61_3, hfz61_4, hfz61_5, hfz61_6, hfz61_7, hfz61_8⟩ := cz9_ BK129
       go_wp2_with (first | ((with_reducible refine gate_callee (f := 102) rfl ?_); refine cU_ (some 5) Tryz.func102 #[.string a0_0] ?_; (with_reducible refine (spec_l01Scheme.calls k a0_0 true _ A4.out).mono ?_); rintro e w' ⟨rfl, ⟨nd, rfl⟩⟩; refine ⟨_, rfl, ?_⟩))
       go_meet
       case rel => exact ⟨_, (true), eqE_, H', ⟨leE_⟩, ⟨blkE_⟩, ⟨belE_⟩⟩
    ·
     rw [if_neg c34] at H
     have c34b0 : (a0_5.toList == ([] : List UInt8)) = false := beq_eq_false_iff_ne.mpr c34
     have c34b1 : (a0_5.toList != ([] : List UInt8)) = true := bne_iff_ne.mpr c34
     (try (have c34b2 : a0_5.toList.isEmpty = false := by simpa using c34))
     have H' := Aside0.mk H
     clear H
     obtain ⟨hcz62_0, hcz62_1, hcz62_2, hcz62_3, hcz62_4, hcz62_5, hcz62_6, hcz62_7, hcz62_8, hfz62_0, hfz62_1, hfz62_2, hfz62_3, hfz62_4, hfz62_5, hfz62_6, hfz62_7, hfz62_8⟩ := cz9_ BK129
     go_wp2_with (first | ((with_reducible refine gate_callee (f := 102) rfl ?_); refine cU_ (some 5) Tryz.func102 #[.string a0_0] ?_; (with_reducible refine (spec_l01Scheme.calls k a0_0 true _ A4.out).mono ?_); rintro e w' ⟨rfl, ⟨nd, rfl⟩⟩; refine ⟨_, rfl, ?_⟩))
     go_meet
     case rel => exact ⟨_, (true), eqE_, H', ⟨leE_⟩, ⟨blkE_⟩, ⟨belE_⟩⟩
  ·
   replace c5 := Bool.eq_false_iff.mpr c5
   subst c5
   replace H := ifF_ H
   have H' := Aside0.mk H
   clear H
   obtain ⟨hcz63_0, hcz63_1, hcz63_2, hcz63_3, hcz63_4, hcz63_5, hcz63_6, hcz63_7, hcz63_8, hfz63_0, hfz63_1, hfz63_2, hfz63_3, hfz63_4, hfz63_5, hfz63_6, hfz63_7, hfz63_8⟩ := cz9_ BK129
   go_wp2_with (first | ((with_reducible refine gate_callee (f := 102) rfl ?_); refine cU_ (some 5) Tryz.func102 #[.string a0_0] ?_; (with_reducible refine (spec_l01Scheme.calls k a0_0 false _ A4.out).mono ?_); rintro e w' ⟨rfl, ⟨nd, rfl⟩⟩; refine ⟨_, rfl, ?_⟩))
   go_meet
   case rel => exact ⟨_, (true), eqE_, H', ⟨leE_⟩, ⟨blkE_⟩, ⟨belE_⟩⟩
 case rest =>
  clear HC2
  obtain ⟨kq, x50_1, rfl, HA, HJ1, BK129, HB⟩ := hcut
  cases kq with
  | zero => exact absurd HA.out (by simp [spec_l01OK.j0])
  | succ kj1 =>
   have H := HA.out
   clear HA
   simp only [spec_l01OK.j0] at H
   by_cases c64 : x50_1 = true
   ·
    subst c64
    replace H := ifT_ H
    obtain rfl := Option.some.inj H
    go_wp2
    go_ret
    exact ⟨retE_, belE_⟩
   ·
    replace c64 := Bool.eq_false_iff.mpr c64
    subst c64
    replace H := ifF_ H
    obtain ⟨t147, A65, H⟩ := bindE_ H
    by_cases c66 : t147 = true
    ·
     subst c66
     replace H := ifT_ H
     obtain ⟨t148, A67, H⟩ := bindE_ H
     by_cases c68 : t148 = true
     ·
      subst c68
      replace H := ifT_ H
      obtain ⟨t149, A69, H⟩ := bindE_ H
      by_cases c70 : t149 = true
      ·
       subst c70
       replace H := ifT_ H
       obtain ⟨t150, A71, H⟩ := bindE_ H
       by_cases c72 : t150 = true
       ·
        subst c72
        replace H := ifT_ H
        obtain ⟨t151, A73, H⟩ := bindE_ H
        by_cases c74 : a0_3 = t151
        ·
         rw [if_pos c74] at H
         have c74b0 : (a0_3 == t151) = true := beq_iff_eq.mpr c74
         have c74b1 : (a0_3 != t151) = false := bne_eq_false_iff_eq.mpr c74
         clear c74
         obtain rfl := Option.some.inj H
         obtain ⟨hcz75_0, hcz75_1, hcz75_2, hcz75_3, hcz75_4, hcz75_5, hcz75_6, hcz75_7, hcz75_8, hfz75_0, hfz75_1, hfz75_2, hfz75_3, hfz75_4, hfz75_5, hfz75_6, hfz75_7, hfz75_8⟩ := cz9_ BK129
         try go_wp2_with (first | ((with_reducible refine gate_callee (f := 61) rfl ?_); refine cU_ (some 53) Tryz.func61 #[.string a0_0] ?_; (with_reducible refine (spec_l01Web.calls a0_0 true _ A65.out).mono ?_); rintro e w' ⟨rfl, ⟨nd, rfl⟩⟩; refine ⟨_, rfl, ?_⟩))
         (try (rw [drewN_self wc]; generalize hq_ : World.drewN wc _ = wc; have n0_ : Aside0 (wc.heap[gb129]? = some (.cells #[.string a0_0, .string a0_1, .string a0_2, .int .i64 a0_3, .string a0_4, .string a0_5, .string a0_6, .bool a0_7, .bool a0_8] 32 (0, 0))) := ⟨by rw [← hq_]; exact (by (with_reducible repeat apply bd_); exact BK129.out)⟩; have n1_ : Aside0 (Below w.heap.size w wc) := ⟨by rw [← hq_]; exact belE_⟩; clear BK129 HB hq_; have BK129 := n0_; have HB := n1_; clear n0_ n1_))
         replace BK129 := Aside0.mk (blk_drew BK129.out)
         replace HB := Aside0.mk (below_drew1 HB.out)
         refine startU_ (n := 34) (S := fun w' => w'.cell? ⟨gb129, 0, none⟩ = some (.string a0_0) ∧ w'.cell? ⟨gb129, 1, none⟩ = some (.string a0_1) ∧ w'.cell? ⟨gb129, 2, none⟩ = some (.string a0_2) ∧ w'.cell? ⟨gb129, 3, none⟩ = some (.int .i64 a0_3) ∧ w'.cell? ⟨gb129, 4, none⟩ = some (.string a0_4) ∧ w'.cell? ⟨gb129, 5, none⟩ = some (.string a0_5) ∧ w'.cell? ⟨gb129, 6, none⟩ = some (.string a0_6) ∧ w'.cell? ⟨gb129, 7, none⟩ = some (.bool a0_7) ∧ w'.cell? ⟨gb129, 8, none⟩ = some (.bool a0_8)) (ds := []) (held9_ BK129.out) (fun hHeld => ?_); refine with_tabW spec_l01OK.tab5 spec_l01OK.bits5 (fun HT_ HW_ => ?_)
         generalize wc.drew = w76 at BK129 HB hHeld ⊢
         refine pU_ ?_
         refine tU_ ?_
         refine oU_ (fun K hK => ?_)
         refine gU_ Tryz.func103 #[.string a0_1, .string (⟨#[47, 63, 35, 64]⟩ : ByteArray)] ?_
         with_reducible refine (spec_l01Only.calls kj1 a0_1 (⟨#[47, 63, 35, 64]⟩ : ByteArray) true _ A67.out).mono ?_
         rintro e w' ⟨rfl, ⟨nd, rfl⟩⟩
         refine ⟨_, rfl, ?_⟩
         refine hK.out _ _ (held9_ BK129.out) (fun hHeld => ?_)
         clear hK K
         refine nU_ ?_
         iterate 2 refine pU_ ?_
         refine tU_ ?_
         refine oU_ (fun K hK => ?_)
         refine gU_ Tryz.func104 #[.string a0_2] ?_
         with_reducible refine (spec_l01Host.calls kj1 a0_2 true _ A69.out).mono ?_
         rintro e w' ⟨rfl, ⟨nd, rfl⟩⟩
         refine ⟨_, rfl, ?_⟩
         refine hK.out _ _ (held9_ BK129.out) (fun hHeld => ?_)
         clear hK K
         refine nU_ ?_
         iterate 3 refine pU_ ?_
         refine tU_ ?_
         refine oU_ (fun K hK => ?_)
         refine gU_ Tryz.func97 #[.int .i64 a0_3, .int .i64 0, .int .i64 65535] ?_
         with_reducible refine (spec_l01In.calls a0_3 0 65535 true _ A71.out).mono ?_
         rintro e w' ⟨rfl, ⟨nd, rfl⟩⟩
         refine ⟨_, rfl, ?_⟩
         refine hK.out _ _ (held9_ BK129.out) (fun hHeld => ?_)
         clear hK K
         refine nU_ ?_
         iterate 3 refine pU_ ?_
         refine pUX_ 16 ?_
         refine tU_ ?_
         refine aU_ ?_
         refine tU_ ?_
         refine oU_ (fun K hK => ?_)
         refine gU_ Tryz.func105 #[.string a0_0] ?_
         with_reducible refine (spec_l01Usual.calls a0_0 t151 _ A73.out).mono ?_
         rintro e w' ⟨rfl, ⟨nd, rfl⟩⟩
         refine ⟨_, rfl, ?_⟩
         refine hK.out _ _ (held9_ BK129.out) (fun hHeld => ?_)
         clear hK K
         refine nU_ ?_
         iterate 3 refine pU_ ?_
         iterate 4 refine sU_ ?_
         iterate 2 refine pU_ ?_
         iterate 4 refine sU_ ?_
         iterate 2 refine pU_ ?_
         refine doneU_ ?_
         try go_wp2
         go_ret
         exact ⟨retE_, belE_⟩
        ·
         rw [if_neg c74] at H
         have c74b0 : (a0_3 == t151) = false := beq_eq_false_iff_ne.mpr c74
         have c74b1 : (a0_3 != t151) = true := bne_iff_ne.mpr c74
         by_cases c77 : (a0_4.size : Int) > 0
         ·
          rw [if_pos c77] at H
          have c77b0 : decide (0 < (a0_4.size : Int)) = true := decide_eq_true c77
          have c77b1 : decide (0 < a0_4.size) = true := decide_eq_true (by omega)
          clear c77
          by_cases c78 : 0 < (a0_4.size : Int)
          ·
           rw [if_pos c78] at H
           have c78b0 : decide (0 < (a0_4.size : Int)) = true := decide_eq_true c78
           have c78b1 : decide (0 < a0_4.size) = true := decide_eq_true (by omega)
           clear c78
           obtain rfl := Option.some.inj H
           obtain ⟨hcz80_0, hcz80_1, hcz80_2, hcz80_3, hcz80_4, hcz80_5, hcz80_6, hcz80_7, hcz80_8, hfz80_0, hfz80_1, hfz80_2, hfz80_3, hfz80_4, hfz80_5, hfz80_6, hfz80_7, hfz80_8⟩ := cz9_ BK129
           try go_wp2_with (first | ((with_reducible refine gate_callee (f := 61) rfl ?_); refine cU_ (some 53) Tryz.func61 #[.string a0_0] ?_; (with_reducible refine (spec_l01Web.calls a0_0 true _ A65.out).mono ?_); rintro e w' ⟨rfl, ⟨nd, rfl⟩⟩; refine ⟨_, rfl, ?_⟩))
           (try (rw [drewN_self wc]; generalize hq_ : World.drewN wc _ = wc; have n0_ : Aside0 (wc.heap[gb129]? = some (.cells #[.string a0_0, .string a0_1, .string a0_2, .int .i64 a0_3, .string a0_4, .string a0_5, .string a0_6, .bool a0_7, .bool a0_8] 32 (0, 0))) := ⟨by rw [← hq_]; exact (by (with_reducible repeat apply bd_); exact BK129.out)⟩; have n1_ : Aside0 (Below w.heap.size w wc) := ⟨by rw [← hq_]; exact belE_⟩; clear BK129 HB hq_; have BK129 := n0_; have HB := n1_; clear n0_ n1_))
           replace BK129 := Aside0.mk (blk_drew BK129.out)
           replace HB := Aside0.mk (below_drew1 HB.out)
           refine startU_ (n := 34) (S := fun w' => w'.cell? ⟨gb129, 0, none⟩ = some (.string a0_0) ∧ w'.cell? ⟨gb129, 1, none⟩ = some (.string a0_1) ∧ w'.cell? ⟨gb129, 2, none⟩ = some (.string a0_2) ∧ w'.cell? ⟨gb129, 3, none⟩ = some (.int .i64 a0_3) ∧ w'.cell? ⟨gb129, 4, none⟩ = some (.string a0_4) ∧ w'.cell? ⟨gb129, 5, none⟩ = some (.string a0_5) ∧ w'.cell? ⟨gb129, 6, none⟩ = some (.string a0_6) ∧ w'.cell? ⟨gb129, 7, none⟩ = some (.bool a0_7) ∧ w'.cell? ⟨gb129, 8, none⟩ = some (.bool a0_8)) (ds := []) (held9_ BK129.out) (fun hHeld => ?_); refine with_tabW spec_l01OK.tab5 spec_l01OK.bits5 (fun HT_ HW_ => ?_)
           generalize wc.drew = w81 at BK129 HB hHeld ⊢
           refine pU_ ?_
           refine tU_ ?_
           refine oU_ (fun K hK => ?_)
           refine gU_ Tryz.func103 #[.string a0_1, .string (⟨#[47, 63, 35, 64]⟩ : ByteArray)] ?_
           with_reducible refine (spec_l01Only.calls kj1 a0_1 (⟨#[47, 63, 35, 64]⟩ : ByteArray) true _ A67.out).mono ?_
           rintro e w' ⟨rfl, ⟨nd, rfl⟩⟩
           refine ⟨_, rfl, ?_⟩
           refine hK.out _ _ (held9_ BK129.out) (fun hHeld => ?_)
           clear hK K
           refine nU_ ?_
           iterate 2 refine pU_ ?_
           refine tU_ ?_
           refine oU_ (fun K hK => ?_)
           refine gU_ Tryz.func104 #[.string a0_2] ?_
           with_reducible refine (spec_l01Host.calls kj1 a0_2 true _ A69.out).mono ?_
           rintro e w' ⟨rfl, ⟨nd, rfl⟩⟩
           refine ⟨_, rfl, ?_⟩
           refine hK.out _ _ (held9_ BK129.out) (fun hHeld => ?_)
           clear hK K
           refine nU_ ?_
           iterate 3 refine pU_ ?_
           refine tU_ ?_
           refine oU_ (fun K hK => ?_)
           refine gU_ Tryz.func97 #[.int .i64 a0_3, .int .i64 0, .int .i64 65535] ?_
           with_reducible refine (spec_l01In.calls a0_3 0 65535 true _ A71.out).mono ?_
           rintro e w' ⟨rfl, ⟨nd, rfl⟩⟩
           refine ⟨_, rfl, ?_⟩
           refine hK.out _ _ (held9_ BK129.out) (fun hHeld => ?_)
           clear hK K
           refine nU_ ?_
           iterate 3 refine pU_ ?_
           refine pUX_ 16 ?_
           refine tU_ ?_
           refine aU_ ?_
           refine tU_ ?_
           refine oU_ (fun K hK => ?_)
           refine gU_ Tryz.func105 #[.string a0_0] ?_
           with_reducible refine (spec_l01Usual.calls a0_0 t151 _ A73.out).mono ?_
           rintro e w' ⟨rfl, ⟨nd, rfl⟩⟩
           refine ⟨_, rfl, ?_⟩
           have p79 : 0 ≤ (0 : Int) := (by omega)
           have q79 : 0 < a0_4.size := (by have : (0 : Int) < (a0_4.size : Int) := ofd_; omega)
           have hx79 : ∀ h : 0 < a0_4.size, ((a0_4[0]'h).toNat : Int) = bt a0_4 0 := bt_at a0_4 0
           clear p79
           have qi79 : (0 < (a0_4.size : Int)) = True := eq_true (ofd_)
           replace q79 := eq_true q79
           refine hK.out _ _ (held9_ BK129.out) (fun hHeld => ?_)
           clear hK K
           refine nU_ ?_
           iterate 4 refine pU_ ?_
           refine tU_ ?_
           iterate 5 refine pU_ ?_
           iterate 2 refine tU_ ?_
           iterate 3 refine pU_ ?_
           refine doneU_ ?_
           try go_wp2
           go_ret
           exact ⟨retE_, belE_⟩
          ·
           rw [if_neg c78] at H
           exact absurd H (by simp)
         ·
          rw [if_neg c77] at H
          have c77b0 : decide (0 < (a0_4.size : Int)) = false := decide_eq_false c77
          have c77b1 : decide (0 < a0_4.size) = false := decide_eq_false (by omega)
          clear c77
          obtain rfl := Option.some.inj H
          obtain ⟨hcz82_0, hcz82_1, hcz82_2, hcz82_3, hcz82_4, hcz82_5, hcz82_6, hcz82_7, hcz82_8, hfz82_0, hfz82_1, hfz82_2, hfz82_3, hfz82_4, hfz82_5, hfz82_6, hfz82_7, hfz82_8⟩ := cz9_ BK129
          try go_wp2_with (first | ((with_reducible refine gate_callee (f := 61) rfl ?_); refine cU_ (some 53) Tryz.func61 #[.string a0_0] ?_; (with_reducible refine (spec_l01Web.calls a0_0 true _ A65.out).mono ?_); rintro e w' ⟨rfl, ⟨nd, rfl⟩⟩; refine ⟨_, rfl, ?_⟩))
          (try (rw [drewN_self wc]; generalize hq_ : World.drewN wc _ = wc; have n0_ : Aside0 (wc.heap[gb129]? = some (.cells #[.string a0_0, .string a0_1, .string a0_2, .int .i64 a0_3, .string a0_4, .string a0_5, .string a0_6, .bool a0_7, .bool a0_8] 32 (0, 0))) := ⟨by rw [← hq_]; exact (by (with_reducible repeat apply bd_); exact BK129.out)⟩; have n1_ : Aside0 (Below w.heap.size w wc) := ⟨by rw [← hq_]; exact belE_⟩; clear BK129 HB hq_; have BK129 := n0_; have HB := n1_; clear n0_ n1_))
          replace BK129 := Aside0.mk (blk_drew BK129.out)
          replace HB := Aside0.mk (below_drew1 HB.out)
          refine startU_ (n := 34) (S := fun w' => w'.cell? ⟨gb129, 0, none⟩ = some (.string a0_0) ∧ w'.cell? ⟨gb129, 1, none⟩ = some (.string a0_1) ∧ w'.cell? ⟨gb129, 2, none⟩ = some (.string a0_2) ∧ w'.cell? ⟨gb129, 3, none⟩ = some (.int .i64 a0_3) ∧ w'.cell? ⟨gb129, 4, none⟩ = some (.string a0_4) ∧ w'.cell? ⟨gb129, 5, none⟩ = some (.string a0_5) ∧ w'.cell? ⟨gb129, 6, none⟩ = some (.string a0_6) ∧ w'.cell? ⟨gb129, 7, none⟩ = some (.bool a0_7) ∧ w'.cell? ⟨gb129, 8, none⟩ = some (.bool a0_8)) (ds := []) (held9_ BK129.out) (fun hHeld => ?_); refine with_tabW spec_l01OK.tab5 spec_l01OK.bits5 (fun HT_ HW_ => ?_)
          generalize wc.drew = w83 at BK129 HB hHeld ⊢
          refine pU_ ?_
          refine tU_ ?_
          refine oU_ (fun K hK => ?_)
          refine gU_ Tryz.func103 #[.string a0_1, .string (⟨#[47, 63, 35, 64]⟩ : ByteArray)] ?_
          with_reducible refine (spec_l01Only.calls kj1 a0_1 (⟨#[47, 63, 35, 64]⟩ : ByteArray) true _ A67.out).mono ?_
          rintro e w' ⟨rfl, ⟨nd, rfl⟩⟩
          refine ⟨_, rfl, ?_⟩
          refine hK.out _ _ (held9_ BK129.out) (fun hHeld => ?_)
          clear hK K
          refine nU_ ?_
          iterate 2 refine pU_ ?_
          refine tU_ ?_
          refine oU_ (fun K hK => ?_)
          refine gU_ Tryz.func104 #[.string a0_2] ?_
          with_reducible refine (spec_l01Host.calls kj1 a0_2 true _ A69.out).mono ?_
          rintro e w' ⟨rfl, ⟨nd, rfl⟩⟩
          refine ⟨_, rfl, ?_⟩
          refine hK.out _ _ (held9_ BK129.out) (fun hHeld => ?_)
          clear hK K
          refine nU_ ?_
          iterate 3 refine pU_ ?_
          refine tU_ ?_
          refine oU_ (fun K hK => ?_)
          refine gU_ Tryz.func97 #[.int .i64 a0_3, .int .i64 0, .int .i64 65535] ?_
          with_reducible refine (spec_l01In.calls a0_3 0 65535 true _ A71.out).mono ?_
          rintro e w' ⟨rfl, ⟨nd, rfl⟩⟩
          refine ⟨_, rfl, ?_⟩
          refine hK.out _ _ (held9_ BK129.out) (fun hHeld => ?_)
          clear hK K
          refine nU_ ?_
          iterate 3 refine pU_ ?_
          refine pUX_ 16 ?_
          refine tU_ ?_
          refine aU_ ?_
          refine tU_ ?_
          refine oU_ (fun K hK => ?_)
          refine gU_ Tryz.func105 #[.string a0_0] ?_
          with_reducible refine (spec_l01Usual.calls a0_0 t151 _ A73.out).mono ?_
          rintro e w' ⟨rfl, ⟨nd, rfl⟩⟩
          refine ⟨_, rfl, ?_⟩
          refine hK.out _ _ (held9_ BK129.out) (fun hHeld => ?_)
          clear hK K
          refine nU_ ?_
          iterate 4 refine pU_ ?_
          refine tU_ ?_
          iterate 4 refine pU_ ?_
          iterate 4 refine sU_ ?_
          iterate 2 refine pU_ ?_
          refine doneU_ ?_
          try go_wp2
          go_ret
          exact ⟨retE_, belE_⟩
       ·
        replace c72 := Bool.eq_false_iff.mpr c72
        subst c72
        replace H := ifF_ H
        obtain rfl := Option.some.inj H
        obtain ⟨hcz84_0, hcz84_1, hcz84_2, hcz84_3, hcz84_4, hcz84_5, hcz84_6, hcz84_7, hcz84_8, hfz84_0, hfz84_1, hfz84_2, hfz84_3, hfz84_4, hfz84_5, hfz84_6, hfz84_7, hfz84_8⟩ := cz9_ BK129
        try go_wp2_with (first | ((with_reducible refine gate_callee (f := 61) rfl ?_); refine cU_ (some 53) Tryz.func61 #[.string a0_0] ?_; (with_reducible refine (spec_l01Web.calls a0_0 true _ A65.out).mono ?_); rintro e w' ⟨rfl, ⟨nd, rfl⟩⟩; refine ⟨_, rfl, ?_⟩))
        (try (rw [drewN_self wc]; generalize hq_ : World.drewN wc _ = wc; have n0_ : Aside0 (wc.heap[gb129]? = some (.cells #[.string a0_0, .string a0_1, .string a0_2, .int .i64 a0_3, .string a0_4, .string a0_5, .string a0_6, .bool a0_7, .bool a0_8] 32 (0, 0))) := ⟨by rw [← hq_]; exact (by (with_reducible repeat apply bd_); exact BK129.out)⟩; have n1_ : Aside0 (Below w.heap.size w wc) := ⟨by rw [← hq_]; exact belE_⟩; clear BK129 HB hq_; have BK129 := n0_; have HB := n1_; clear n0_ n1_))
        replace BK129 := Aside0.mk (blk_drew BK129.out)
        replace HB := Aside0.mk (below_drew1 HB.out)
        refine startU_ (n := 34) (S := fun w' => w'.cell? ⟨gb129, 0, none⟩ = some (.string a0_0) ∧ w'.cell? ⟨gb129, 1, none⟩ = some (.string a0_1) ∧ w'.cell? ⟨gb129, 2, none⟩ = some (.string a0_2) ∧ w'.cell? ⟨gb129, 3, none⟩ = some (.int .i64 a0_3) ∧ w'.cell? ⟨gb129, 4, none⟩ = some (.string a0_4) ∧ w'.cell? ⟨gb129, 5, none⟩ = some (.string a0_5) ∧ w'.cell? ⟨gb129, 6, none⟩ = some (.string a0_6) ∧ w'.cell? ⟨gb129, 7, none⟩ = some (.bool a0_7) ∧ w'.cell? ⟨gb129, 8, none⟩ = some (.bool a0_8)) (ds := []) (held9_ BK129.out) (fun hHeld => ?_); refine with_tabW spec_l01OK.tab5 spec_l01OK.bits5 (fun HT_ HW_ => ?_)
        generalize wc.drew = w85 at BK129 HB hHeld ⊢
        refine pU_ ?_
        refine tU_ ?_
        refine oU_ (fun K hK => ?_)
        refine gU_ Tryz.func103 #[.string a0_1, .string (⟨#[47, 63, 35, 64]⟩ : ByteArray)] ?_
        with_reducible refine (spec_l01Only.calls kj1 a0_1 (⟨#[47, 63, 35, 64]⟩ : ByteArray) true _ A67.out).mono ?_
        rintro e w' ⟨rfl, ⟨nd, rfl⟩⟩
        refine ⟨_, rfl, ?_⟩
        refine hK.out _ _ (held9_ BK129.out) (fun hHeld => ?_)
        clear hK K
        refine nU_ ?_
        iterate 2 refine pU_ ?_
        refine tU_ ?_
        refine oU_ (fun K hK => ?_)
        refine gU_ Tryz.func104 #[.string a0_2] ?_
        with_reducible refine (spec_l01Host.calls kj1 a0_2 true _ A69.out).mono ?_
        rintro e w' ⟨rfl, ⟨nd, rfl⟩⟩
        refine ⟨_, rfl, ?_⟩
        refine hK.out _ _ (held9_ BK129.out) (fun hHeld => ?_)
        clear hK K
        refine nU_ ?_
        iterate 3 refine pU_ ?_
        refine tU_ ?_
        refine oU_ (fun K hK => ?_)
        refine gU_ Tryz.func97 #[.int .i64 a0_3, .int .i64 0, .int .i64 65535] ?_
        with_reducible refine (spec_l01In.calls a0_3 0 65535 false _ A71.out).mono ?_
        rintro e w' ⟨rfl, ⟨nd, rfl⟩⟩
        refine ⟨_, rfl, ?_⟩
        refine hK.out _ _ (held9_ BK129.out) (fun hHeld => ?_)
        clear hK K
        refine nU_ ?_
        iterate 2 refine pU_ ?_
        iterate 6 refine sU_ ?_
        iterate 2 refine pU_ ?_
        iterate 4 refine sU_ ?_
        iterate 2 refine pU_ ?_
        iterate 4 refine sU_ ?_
        iterate 2 refine pU_ ?_
        refine doneU_ ?_
        try go_wp2
        go_ret
        exact ⟨retE_, belE_⟩
      ·
       replace c70 := Bool.eq_false_iff.mpr c70
       subst c70
       replace H := ifF_ H
       obtain rfl := Option.some.inj H
       obtain ⟨hcz86_0, hcz86_1, hcz86_2, hcz86_3, hcz86_4, hcz86_5, hcz86_6, hcz86_7, hcz86_8, hfz86_0, hfz86_1, hfz86_2, hfz86_3, hfz86_4, hfz86_5, hfz86_6, hfz86_7, hfz86_8⟩ := cz9_ BK129
       try go_wp2_with (first | ((with_reducible refine gate_callee (f := 61) rfl ?_); refine cU_ (some 53) Tryz.func61 #[.string a0_0] ?_; (with_reducible refine (spec_l01Web.calls a0_0 true _ A65.out).mono ?_); rintro e w' ⟨rfl, ⟨nd, rfl⟩⟩; refine ⟨_, rfl, ?_⟩))
       (try (rw [drewN_self wc]; generalize hq_ : World.drewN wc _ = wc; have n0_ : Aside0 (wc.heap[gb129]? = some (.cells #[.string a0_0, .string a0_1, .string a0_2, .int .i64 a0_3, .string a0_4, .string a0_5, .string a0_6, .bool a0_7, .bool a0_8] 32 (0, 0))) := ⟨by rw [← hq_]; exact (by (with_reducible repeat apply bd_); exact BK129.out)⟩; have n1_ : Aside0 (Below w.heap.size w wc) := ⟨by rw [← hq_]; exact belE_⟩; clear BK129 HB hq_; have BK129 := n0_; have HB := n1_; clear n0_ n1_))
       replace BK129 := Aside0.mk (blk_drew BK129.out)
       replace HB := Aside0.mk (below_drew1 HB.out)
       refine startU_ (n := 34) (S := fun w' => w'.cell? ⟨gb129, 0, none⟩ = some (.string a0_0) ∧ w'.cell? ⟨gb129, 1, none⟩ = some (.string a0_1) ∧ w'.cell? ⟨gb129, 2, none⟩ = some (.string a0_2) ∧ w'.cell? ⟨gb129, 3, none⟩ = some (.int .i64 a0_3) ∧ w'.cell? ⟨gb129, 4, none⟩ = some (.string a0_4) ∧ w'.cell? ⟨gb129, 5, none⟩ = some (.string a0_5) ∧ w'.cell? ⟨gb129, 6, none⟩ = some (.string a0_6) ∧ w'.cell? ⟨gb129, 7, none⟩ = some (.bool a0_7) ∧ w'.cell? ⟨gb129, 8, none⟩ = some (.bool a0_8)) (ds := []) (held9_ BK129.out) (fun hHeld => ?_); refine with_tabW spec_l01OK.tab5 spec_l01OK.bits5 (fun HT_ HW_ => ?_)
       generalize wc.drew = w87 at BK129 HB hHeld ⊢
       refine pU_ ?_
       refine tU_ ?_
       refine oU_ (fun K hK => ?_)
       refine gU_ Tryz.func103 #[.string a0_1, .string (⟨#[47, 63, 35, 64]⟩ : ByteArray)] ?_
       with_reducible refine (spec_l01Only.calls kj1 a0_1 (⟨#[47, 63, 35, 64]⟩ : ByteArray) true _ A67.out).mono ?_
       rintro e w' ⟨rfl, ⟨nd, rfl⟩⟩
       refine ⟨_, rfl, ?_⟩
       refine hK.out _ _ (held9_ BK129.out) (fun hHeld => ?_)
       clear hK K
       refine nU_ ?_
       iterate 2 refine pU_ ?_
       refine tU_ ?_
       refine oU_ (fun K hK => ?_)
       refine gU_ Tryz.func104 #[.string a0_2] ?_
       with_reducible refine (spec_l01Host.calls kj1 a0_2 false _ A69.out).mono ?_
       rintro e w' ⟨rfl, ⟨nd, rfl⟩⟩
       refine ⟨_, rfl, ?_⟩
       refine hK.out _ _ (held9_ BK129.out) (fun hHeld => ?_)
       clear hK K
       refine nU_ ?_
       iterate 2 refine pU_ ?_
       iterate 3 refine sU_ ?_
       iterate 2 refine pU_ ?_
       iterate 6 refine sU_ ?_
       iterate 2 refine pU_ ?_
       iterate 4 refine sU_ ?_
       iterate 2 refine pU_ ?_
       iterate 4 refine sU_ ?_
       iterate 2 refine pU_ ?_
       refine doneU_ ?_
       try go_wp2
       go_ret
       exact ⟨retE_, belE_⟩
     ·
      replace c68 := Bool.eq_false_iff.mpr c68
      subst c68
      replace H := ifF_ H
      obtain rfl := Option.some.inj H
      obtain ⟨hcz88_0, hcz88_1, hcz88_2, hcz88_3, hcz88_4, hcz88_5, hcz88_6, hcz88_7, hcz88_8, hfz88_0, hfz88_1, hfz88_2, hfz88_3, hfz88_4, hfz88_5, hfz88_6, hfz88_7, hfz88_8⟩ := cz9_ BK129
      try go_wp2_with (first | ((with_reducible refine gate_callee (f := 61) rfl ?_); refine cU_ (some 53) Tryz.func61 #[.string a0_0] ?_; (with_reducible refine (spec_l01Web.calls a0_0 true _ A65.out).mono ?_); rintro e w' ⟨rfl, ⟨nd, rfl⟩⟩; refine ⟨_, rfl, ?_⟩))
      (try (rw [drewN_self wc]; generalize hq_ : World.drewN wc _ = wc; have n0_ : Aside0 (wc.heap[gb129]? = some (.cells #[.string a0_0, .string a0_1, .string a0_2, .int .i64 a0_3, .string a0_4, .string a0_5, .string a0_6, .bool a0_7, .bool a0_8] 32 (0, 0))) := ⟨by rw [← hq_]; exact (by (with_reducible repeat apply bd_); exact BK129.out)⟩; have n1_ : Aside0 (Below w.heap.size w wc) := ⟨by rw [← hq_]; exact belE_⟩; clear BK129 HB hq_; have BK129 := n0_; have HB := n1_; clear n0_ n1_))
      replace BK129 := Aside0.mk (blk_drew BK129.out)
      replace HB := Aside0.mk (below_drew1 HB.out)
      refine startU_ (n := 34) (S := fun w' => w'.cell? ⟨gb129, 0, none⟩ = some (.string a0_0) ∧ w'.cell? ⟨gb129, 1, none⟩ = some (.string a0_1) ∧ w'.cell? ⟨gb129, 2, none⟩ = some (.string a0_2) ∧ w'.cell? ⟨gb129, 3, none⟩ = some (.int .i64 a0_3) ∧ w'.cell? ⟨gb129, 4, none⟩ = some (.string a0_4) ∧ w'.cell? ⟨gb129, 5, none⟩ = some (.string a0_5) ∧ w'.cell? ⟨gb129, 6, none⟩ = some (.string a0_6) ∧ w'.cell? ⟨gb129, 7, none⟩ = some (.bool a0_7) ∧ w'.cell? ⟨gb129, 8, none⟩ = some (.bool a0_8)) (ds := []) (held9_ BK129.out) (fun hHeld => ?_); refine with_tabW spec_l01OK.tab5 spec_l01OK.bits5 (fun HT_ HW_ => ?_)
      generalize wc.drew = w89 at BK129 HB hHeld ⊢
      refine pU_ ?_
      refine tU_ ?_
      refine oU_ (fun K hK => ?_)
      refine gU_ Tryz.func103 #[.string a0_1, .string (⟨#[47, 63, 35, 64]⟩ : ByteArray)] ?_
      with_reducible refine (spec_l01Only.calls kj1 a0_1 (⟨#[47, 63, 35, 64]⟩ : ByteArray) false _ A67.out).mono ?_
      rintro e w' ⟨rfl, ⟨nd, rfl⟩⟩
      refine ⟨_, rfl, ?_⟩
      refine hK.out _ _ (held9_ BK129.out) (fun hHeld => ?_)
      clear hK K
      refine nU_ ?_
      refine pU_ ?_
      iterate 3 refine sU_ ?_
      iterate 2 refine pU_ ?_
      iterate 3 refine sU_ ?_
      iterate 2 refine pU_ ?_
      iterate 6 refine sU_ ?_
      iterate 2 refine pU_ ?_
      iterate 4 refine sU_ ?_
      iterate 2 refine pU_ ?_
      iterate 4 refine sU_ ?_
      iterate 2 refine pU_ ?_
      refine doneU_ ?_
      try go_wp2
      go_ret
      exact ⟨retE_, belE_⟩
    ·
     replace c66 := Bool.eq_false_iff.mpr c66
     subst c66
     replace H := ifF_ H
     by_cases c90 : a0_1.toList = ([] : List UInt8)
     ·
      rw [if_pos c90] at H
      have c90b0 : (a0_1.toList == ([] : List UInt8)) = true := beq_iff_eq.mpr c90
      have c90b1 : (a0_1.toList != ([] : List UInt8)) = false := bne_eq_false_iff_eq.mpr c90
      (try (have c90b2 : a0_1.toList.isEmpty = true := by simpa using c90))
      clear c90
      by_cases c91 : a0_2.toList = ([] : List UInt8)
      ·
       rw [if_pos c91] at H
       have c91b0 : (a0_2.toList == ([] : List UInt8)) = true := beq_iff_eq.mpr c91
       have c91b1 : (a0_2.toList != ([] : List UInt8)) = false := bne_eq_false_iff_eq.mpr c91
       (try (have c91b2 : a0_2.toList.isEmpty = true := by simpa using c91))
       clear c91
       by_cases c92 : a0_3 = 0
       ·
        rw [if_pos c92] at H
        have c92b0 : (a0_3 == 0) = true := beq_iff_eq.mpr c92
        have c92b1 : (a0_3 != 0) = false := bne_eq_false_iff_eq.mpr c92
        clear c92
        by_cases c93 : a0_7 = true
        ·
         subst c93
         replace H := ifT_ H
         obtain rfl := Option.some.inj H
         obtain ⟨hcz94_0, hcz94_1, hcz94_2, hcz94_3, hcz94_4, hcz94_5, hcz94_6, hcz94_7, hcz94_8, hfz94_0, hfz94_1, hfz94_2, hfz94_3, hfz94_4, hfz94_5, hfz94_6, hfz94_7, hfz94_8⟩ := cz9_ BK129
         go_wp2_with (first | ((with_reducible refine gate_callee (f := 61) rfl ?_); refine cU_ (some 53) Tryz.func61 #[.string a0_0] ?_; (with_reducible refine (spec_l01Web.calls a0_0 false _ A65.out).mono ?_); rintro e w' ⟨rfl, ⟨nd, rfl⟩⟩; refine ⟨_, rfl, ?_⟩))
         go_ret
         exact ⟨retE_, belE_⟩
        ·
         replace c93 := Bool.eq_false_iff.mpr c93
         subst c93
         replace H := ifF_ H
         obtain rfl := Option.some.inj H
         obtain ⟨hcz95_0, hcz95_1, hcz95_2, hcz95_3, hcz95_4, hcz95_5, hcz95_6, hcz95_7, hcz95_8, hfz95_0, hfz95_1, hfz95_2, hfz95_3, hfz95_4, hfz95_5, hfz95_6, hfz95_7, hfz95_8⟩ := cz9_ BK129
         go_wp2_with (first | ((with_reducible refine gate_callee (f := 61) rfl ?_); refine cU_ (some 53) Tryz.func61 #[.string a0_0] ?_; (with_reducible refine (spec_l01Web.calls a0_0 false _ A65.out).mono ?_); rintro e w' ⟨rfl, ⟨nd, rfl⟩⟩; refine ⟨_, rfl, ?_⟩))
         go_ret
         exact ⟨retE_, belE_⟩
       ·
        rw [if_neg c92] at H
        have c92b0 : (a0_3 == 0) = false := beq_eq_false_iff_ne.mpr c92
        have c92b1 : (a0_3 != 0) = true := bne_iff_ne.mpr c92
        obtain rfl := Option.some.inj H
        obtain ⟨hcz96_0, hcz96_1, hcz96_2, hcz96_3, hcz96_4, hcz96_5, hcz96_6, hcz96_7, hcz96_8, hfz96_0, hfz96_1, hfz96_2, hfz96_3, hfz96_4, hfz96_5, hfz96_6, hfz96_7, hfz96_8⟩ := cz9_ BK129
        go_wp2_with (first | ((with_reducible refine gate_callee (f := 61) rfl ?_); refine cU_ (some 53) Tryz.func61 #[.string a0_0] ?_; (with_reducible refine (spec_l01Web.calls a0_0 false _ A65.out).mono ?_); rintro e w' ⟨rfl, ⟨nd, rfl⟩⟩; refine ⟨_, rfl, ?_⟩))
        go_ret
        exact ⟨retE_, belE_⟩
      ·
       rw [if_neg c91] at H
       have c91b0 : (a0_2.toList == ([] : List UInt8)) = false := beq_eq_false_iff_ne.mpr c91
       have c91b1 : (a0_2.toList != ([] : List UInt8)) = true := bne_iff_ne.mpr c91
       (try (have c91b2 : a0_2.toList.isEmpty = false := by simpa using c91))
       obtain rfl := Option.some.inj H
       obtain ⟨hcz97_0, hcz97_1, hcz97_2, hcz97_3, hcz97_4, hcz97_5, hcz97_6, hcz97_7, hcz97_8, hfz97_0, hfz97_1, hfz97_2, hfz97_3, hfz97_4, hfz97_5, hfz97_6, hfz97_7, hfz97_8⟩ := cz9_ BK129
       go_wp2_with (first | ((with_reducible refine gate_callee (f := 61) rfl ?_); refine cU_ (some 53) Tryz.func61 #[.string a0_0] ?_; (with_reducible refine (spec_l01Web.calls a0_0 false _ A65.out).mono ?_); rintro e w' ⟨rfl, ⟨nd, rfl⟩⟩; refine ⟨_, rfl, ?_⟩))
       go_ret
       exact ⟨retE_, belE_⟩
     ·
      rw [if_neg c90] at H
      have c90b0 : (a0_1.toList == ([] : List UInt8)) = false := beq_eq_false_iff_ne.mpr c90
      have c90b1 : (a0_1.toList != ([] : List UInt8)) = true := bne_iff_ne.mpr c90
      (try (have c90b2 : a0_1.toList.isEmpty = false := by simpa using c90))
      obtain rfl := Option.some.inj H
      obtain ⟨hcz98_0, hcz98_1, hcz98_2, hcz98_3, hcz98_4, hcz98_5, hcz98_6, hcz98_7, hcz98_8, hfz98_0, hfz98_1, hfz98_2, hfz98_3, hfz98_4, hfz98_5, hfz98_6, hfz98_7, hfz98_8⟩ := cz9_ BK129
      go_wp2_with (first | ((with_reducible refine gate_callee (f := 61) rfl ?_); refine cU_ (some 53) Tryz.func61 #[.string a0_0] ?_; (with_reducible refine (spec_l01Web.calls a0_0 false _ A65.out).mono ?_); rintro e w' ⟨rfl, ⟨nd, rfl⟩⟩; refine ⟨_, rfl, ?_⟩))
      go_ret
      exact ⟨retE_, belE_⟩

end Go.Proofs.YthifpohbdbhnlaaGreatDoor.QFnStrip
