/- A tool of this session wrote this text out of the translation: functions as plain Lean, and proofs that the machine's calls come to their answers. -/
import Derived.Test.YthifpohbdbhnlaaGreatDoorQFnStripx0
import Derived.Test.YthifpohbdbhnlaaGreatDoorQFnStripx1
import Derived.Test.YthifpohbdbhnlaaGreatDoorQFnStripx2
import Derived.Test.YthifpohbdbhnlaaGreatDoorQFnStripx3
import Derived.Test.YthifpohbdbhnlaaGreatDoorQFnStripx4
import Derived.Test.YthifpohbdbhnlaaGreatDoorQFnStripx5
import Derived.Test.YthifpohbdbhnlaaGreatDoorQFnStripx6
import Derived.Test.YthifpohbdbhnlaaGreatDoorQFnStripx7
import Derived.Test.YthifpohbdbhnlaaGreatDoorQFnStripx8
import Derived.Test.YthifpohbdbhnlaaGreatDoorQFnStripx9
import Derived.Test.YthifpohbdbhnlaaGreatDoorQFnStripx10
import Derived.Test.YthifpohbdbhnlaaGreatDoorQFnStripx11
import Derived.Test.YthifpohbdbhnlaaGreatDoorQFnStripx12
import Derived.Test.YthifpohbdbhnlaaGreatDoorQFnStripx13
import Derived.Test.YthifpohbdbhnlaaGreatDoorQFnStripx14
import Derived.Deep.RegionWith
import Derived.Lib.AtoiErrMem
import Derived.Lib.AtoiAllCases
import Derived.LoopTactic
import Derived.Lib.Hide
import Derived.Lib.SmallJoins
import Derived.Lib.SlBytesRow
import Derived.Lib.AppendIntMem
import Derived.Test.YthifpohbdbhnlaaGreatDoorShelf
import Derived.Test.YthifpohbdbhnlaaGreatDoorProg
import Derived.Below
import Derived.Deep.Draws
import Derived.Deep.AppendLies
import Derived.Maps.AppendAt
import Derived.OwnWalk
import Derived.Laws.BytesArg
import Derived.Laws.MakeOwn
import Derived.Laws.OwnMore
import Derived.Deep.OwnRows
import Derived.Tactics
import Derived.Lib.ConvBytes
import Derived.Laws.Slices
import Derived.WalkKit
import Derived.KernelRfl
import Derived.RowKit3
import Derived.Deep.LoopGhost
import Derived.Deep.QuietTactic
import Derived.BigQuiet
import Derived.WideLaws
import Derived.Deep.DeepCutAuto
import Derived.Deep.CutBlock
import Derived.Deep.RegionHeld3
import Derived.Laws.Rows
import Derived.Lib.AppendStr
import Derived.ArgAppend
import Derived.Laws.IdiomCopy
import Derived.OrdersHeld
import Derived.Laws.BitsLemmas
import Derived.RowKit
import Derived.Test.YthifpohbdbhnlaaGreatDoorTWords
import Derived.Test.YthifpohbdbhnlaaGreatDoorTLast
import Derived.Test.YthifpohbdbhnlaaGreatDoorTTab
import Derived.Test.YthifpohbdbhnlaaGreatDoorTEqStruct
import Derived.Test.YthifpohbdbhnlaaGreatDoorTRepsOne
import Derived.Test.YthifpohbdbhnlaaGreatDoorTGuard
import Derived.Test.YthifpohbdbhnlaaGreatDoorTMore
import Derived.Test.YthifpohbdbhnlaaGreatDoorQShort
namespace Go.Proofs.YthifpohbdbhnlaaGreatDoor.QFnExactSourcePart
open Go.RowKit Go.Proofs.YthifpohbdbhnlaaGreatDoorW.PrintWords Go.Proofs.YthifpohbdbhnlaaGreatDoorW.PrintLast Go.Proofs.YthifpohbdbhnlaaGreatDoorW.PrintMore
open Go.Proofs.YthifpohbdbhnlaaGreatDoor.Short
open Go.Proofs.YthifpohbdbhnlaaGreatDoor.QFnStrip
attribute [local go_sem] max2_int min2_int max_two min_two max_three min_three max_four min_four   -- for this text's walks alone
set_option linter.unusedVariables false
set_option linter.unusedSimpArgs false
attribute [local go_sem high] eqA32

theorem info9 : (Tryz.prog.info? 9).map (fun i => (i.zero, i.size, i.bytes)) = some (some (.string ⟨#[]⟩), 1, 16) := by kernel_rfl

/-! ### laws_szViolation: function 10 -/
def laws_szViolation.f (a0_0 : ByteArray) (a0_1 : ByteArray) (a0_2 : ByteArray) (a0_3 : ByteArray) (a0_4 : ByteArray) (a0_5 : ByteArray) (a0_6 : Int) (a0_7 : Int) (a0_8 : Bool) (a1 : Int) : Option (Int) := if (wrap64 (a1 - (a0_0.size : Int))) < 0 then (some (-1)) else (if (wrap64 ((wrap64 (a1 - (a0_0.size : Int))) - (a0_1.size : Int))) < 0 then (some (-1)) else (if (wrap64 ((wrap64 ((wrap64 (a1 - (a0_0.size : Int))) - (a0_1.size : Int))) - (a0_2.size : Int))) < 0 then (some (-1)) else (if (wrap64 ((wrap64 ((wrap64 ((wrap64 (a1 - (a0_0.size : Int))) - (a0_1.size : Int))) - (a0_2.size : Int))) - (a0_3.size : Int))) < 0 then (some (-1)) else (if (wrap64 ((wrap64 ((wrap64 ((wrap64 ((wrap64 (a1 - (a0_0.size : Int))) - (a0_1.size : Int))) - (a0_2.size : Int))) - (a0_3.size : Int))) - (a0_4.size : Int))) < 0 then (some (-1)) else (if (wrap64 ((wrap64 ((wrap64 ((wrap64 ((wrap64 ((wrap64 (a1 - (a0_0.size : Int))) - (a0_1.size : Int))) - (a0_2.size : Int))) - (a0_3.size : Int))) - (a0_4.size : Int))) - (a0_5.size : Int))) < 0 then (some (-1)) else (some (wrap64 ((wrap64 ((wrap64 ((wrap64 ((wrap64 ((wrap64 (a1 - (a0_0.size : Int))) - (a0_1.size : Int))) - (a0_2.size : Int))) - (a0_3.size : Int))) - (a0_4.size : Int))) - (a0_5.size : Int)))))))))
set_option maxHeartbeats 8000000 in
set_option maxRecDepth 100000 in
theorem laws_szViolation.calls (a0_0 : ByteArray) (a0_1 : ByteArray) (a0_2 : ByteArray) (a0_3 : ByteArray) (a0_4 : ByteArray) (a0_5 : ByteArray) (a0_6 : Int) (a0_7 : Int) (a0_8 : Bool) (a1 : Int) (r : Int) (w : World) (h : laws_szViolation.f a0_0 a0_1 a0_2 a0_3 a0_4 a0_5 a0_6 a0_7 a0_8 a1 = some r) :
    Calls Tryz.prog 10 #[.agg #[.string a0_0, .string a0_1, .string a0_2, .string a0_3, .string a0_4, .string a0_5, .int .i64 a0_6, .int .i64 a0_7, .bool a0_8], .int .i64 a1] w fun e w' => e = .returned (.int .i64 r) ∧ Below w.heap.size w w' := by
 have hu23 := Tryz.underlying23
 have HB := Aside0.mk (Below.refl w.heap.size w)
 have H : (if (wrap64 (a1 - (a0_0.size : Int))) < 0 then (some (-1)) else (if (wrap64 ((wrap64 (a1 - (a0_0.size : Int))) - (a0_1.size : Int))) < 0 then (some (-1)) else (if (wrap64 ((wrap64 ((wrap64 (a1 - (a0_0.size : Int))) - (a0_1.size : Int))) - (a0_2.size : Int))) < 0 then (some (-1)) else (if (wrap64 ((wrap64 ((wrap64 ((wrap64 (a1 - (a0_0.size : Int))) - (a0_1.size : Int))) - (a0_2.size : Int))) - (a0_3.size : Int))) < 0 then (some (-1)) else (if (wrap64 ((wrap64 ((wrap64 ((wrap64 ((wrap64 (a1 - (a0_0.size : Int))) - (a0_1.size : Int))) - (a0_2.size : Int))) - (a0_3.size : Int))) - (a0_4.size : Int))) < 0 then (some (-1)) else (if (wrap64 ((wrap64 ((wrap64 ((wrap64 ((wrap64 ((wrap64 (a1 - (a0_0.size : Int))) - (a0_1.size : Int))) - (a0_2.size : Int))) - (a0_3.size : Int))) - (a0_4.size : Int))) - (a0_5.size : Int))) < 0 then (some (-1)) else (some (wrap64 ((wrap64 ((wrap64 ((wrap64 ((wrap64 ((wrap64 (a1 - (a0_0.size : Int))) - (a0_1.size : Int))) - (a0_2.size : Int))) - (a0_3.size : Int))) - (a0_4.size : Int))) - (a0_5.size : Int)))))))))) = some r := h
 clear h
 by_cases c3 : (wrap64 (a1 - (a0_0.size : Int))) < 0
 ·
  rw [if_pos c3] at H
  have c3b0 : decide ((wrap64 (a1 - (a0_0.size : Int))) < 0) = true := decide_eq_true c3
  clear c3
  obtain rfl := Option.some.inj H
  go_enter Tryz.func10, Tryz.ntmps10
  go_wp2_with (first | ((with_reducible refine gate_dst (N := 2) rfl ?_); refine box_event ?hg (N := 2) ?hd (cs := #[.string a0_0, .string a0_1, .string a0_2, .string a0_3, .string a0_4, .string a0_5, .int .i64 a0_6, .int .i64 a0_7, .bool a0_8]) (t := 23) ?hr ?_; (case hd => rfl); (case hg => rfl); (case hr => first | (go_simp; done) | (go_simp; rfl)); intro gb101 hg w4 hbox hb; have n0_ := belB_ hb; have n1_ := Aside0.mk (hbox); have n2_ := Aside0.mk ((by rw [hg]; exact (below_size belE_) : w.heap.size ≤ gb101)); have n3_ := Aside0.mk ((by rw [hg]; exact (below_size belE_) : w.heap.size ≤ gb101)); clear HB; have HB := n0_; have BK101 := n1_; have GW101 := n2_; have GE101 := n3_; clear n0_ n1_ n2_ n3_; clear hb hbox hg; obtain ⟨hcz5_0, hcz5_1, hcz5_2, hcz5_3, hcz5_4, hcz5_5, hcz5_6, hcz5_7, hcz5_8, hfz5_0, hfz5_1, hfz5_2, hfz5_3, hfz5_4, hfz5_5, hfz5_6, hfz5_7, hfz5_8⟩ := cz9_ BK101))
  go_ret
  exact ⟨retE_, belE_⟩
 ·
  rw [if_neg c3] at H
  have c3b0 : decide ((wrap64 (a1 - (a0_0.size : Int))) < 0) = false := decide_eq_false c3
  clear c3
  by_cases c6 : (wrap64 ((wrap64 (a1 - (a0_0.size : Int))) - (a0_1.size : Int))) < 0
  ·
   rw [if_pos c6] at H
   have c6b0 : decide ((wrap64 ((wrap64 (a1 - (a0_0.size : Int))) - (a0_1.size : Int))) < 0) = true := decide_eq_true c6
   clear c6
   obtain rfl := Option.some.inj H
   go_enter Tryz.func10, Tryz.ntmps10
   go_wp2_with (first | ((with_reducible refine gate_dst (N := 2) rfl ?_); refine box_event ?hg (N := 2) ?hd (cs := #[.string a0_0, .string a0_1, .string a0_2, .string a0_3, .string a0_4, .string a0_5, .int .i64 a0_6, .int .i64 a0_7, .bool a0_8]) (t := 23) ?hr ?_; (case hd => rfl); (case hg => rfl); (case hr => first | (go_simp; done) | (go_simp; rfl)); intro gb101 hg w7 hbox hb; have n0_ := belB_ hb; have n1_ := Aside0.mk (hbox); have n2_ := Aside0.mk ((by rw [hg]; exact (below_size belE_) : w.heap.size ≤ gb101)); have n3_ := Aside0.mk ((by rw [hg]; exact (below_size belE_) : w.heap.size ≤ gb101)); clear HB; have HB := n0_; have BK101 := n1_; have GW101 := n2_; have GE101 := n3_; clear n0_ n1_ n2_ n3_; clear hb hbox hg; obtain ⟨hcz8_0, hcz8_1, hcz8_2, hcz8_3, hcz8_4, hcz8_5, hcz8_6, hcz8_7, hcz8_8, hfz8_0, hfz8_1, hfz8_2, hfz8_3, hfz8_4, hfz8_5, hfz8_6, hfz8_7, hfz8_8⟩ := cz9_ BK101))
   go_ret
   exact ⟨retE_, belE_⟩
  ·
   rw [if_neg c6] at H
   have c6b0 : decide ((wrap64 ((wrap64 (a1 - (a0_0.size : Int))) - (a0_1.size : Int))) < 0) = false := decide_eq_false c6
   clear c6
   by_cases c9 : (wrap64 ((wrap64 ((wrap64 (a1 - (a0_0.size : Int))) - (a0_1.size : Int))) - (a0_2.size : Int))) < 0
   ·
    rw [if_pos c9] at H
    have c9b0 : decide ((wrap64 ((wrap64 ((wrap64 (a1 - (a0_0.size : Int))) - (a0_1.size : Int))) - (a0_2.size : Int))) < 0) = true := decide_eq_true c9
    clear c9
    obtain rfl := Option.some.inj H
    go_enter Tryz.func10, Tryz.ntmps10
    go_wp2_with (first | ((with_reducible refine gate_dst (N := 2) rfl ?_); refine box_event ?hg (N := 2) ?hd (cs := #[.string a0_0, .string a0_1, .string a0_2, .string a0_3, .string a0_4, .string a0_5, .int .i64 a0_6, .int .i64 a0_7, .bool a0_8]) (t := 23) ?hr ?_; (case hd => rfl); (case hg => rfl); (case hr => first | (go_simp; done) | (go_simp; rfl)); intro gb101 hg w10 hbox hb; have n0_ := belB_ hb; have n1_ := Aside0.mk (hbox); have n2_ := Aside0.mk ((by rw [hg]; exact (below_size belE_) : w.heap.size ≤ gb101)); have n3_ := Aside0.mk ((by rw [hg]; exact (below_size belE_) : w.heap.size ≤ gb101)); clear HB; have HB := n0_; have BK101 := n1_; have GW101 := n2_; have GE101 := n3_; clear n0_ n1_ n2_ n3_; clear hb hbox hg; obtain ⟨hcz11_0, hcz11_1, hcz11_2, hcz11_3, hcz11_4, hcz11_5, hcz11_6, hcz11_7, hcz11_8, hfz11_0, hfz11_1, hfz11_2, hfz11_3, hfz11_4, hfz11_5, hfz11_6, hfz11_7, hfz11_8⟩ := cz9_ BK101))
    go_ret
    exact ⟨retE_, belE_⟩
   ·
    rw [if_neg c9] at H
    have c9b0 : decide ((wrap64 ((wrap64 ((wrap64 (a1 - (a0_0.size : Int))) - (a0_1.size : Int))) - (a0_2.size : Int))) < 0) = false := decide_eq_false c9
    clear c9
    by_cases c12 : (wrap64 ((wrap64 ((wrap64 ((wrap64 (a1 - (a0_0.size : Int))) - (a0_1.size : Int))) - (a0_2.size : Int))) - (a0_3.size : Int))) < 0
    ·
     rw [if_pos c12] at H
     have c12b0 : decide ((wrap64 ((wrap64 ((wrap64 ((wrap64 (a1 - (a0_0.size : Int))) - (a0_1.size : Int))) - (a0_2.size : Int))) - (a0_3.size : Int))) < 0) = true := decide_eq_true c12
     clear c12
     obtain rfl := Option.some.inj H
     go_enter Tryz.func10, Tryz.ntmps10
     go_wp2_with (first | ((with_reducible refine gate_dst (N := 2) rfl ?_); refine box_event ?hg (N := 2) ?hd (cs := #[.string a0_0, .string a0_1, .string a0_2, .string a0_3, .string a0_4, .string a0_5, .int .i64 a0_6, .int .i64 a0_7, .bool a0_8]) (t := 23) ?hr ?_; (case hd => rfl); (case hg => rfl); (case hr => first | (go_simp; done) | (go_simp; rfl)); intro gb101 hg w13 hbox hb; have n0_ := belB_ hb; have n1_ := Aside0.mk (hbox); have n2_ := Aside0.mk ((by rw [hg]; exact (below_size belE_) : w.heap.size ≤ gb101)); have n3_ := Aside0.mk ((by rw [hg]; exact (below_size belE_) : w.heap.size ≤ gb101)); clear HB; have HB := n0_; have BK101 := n1_; have GW101 := n2_; have GE101 := n3_; clear n0_ n1_ n2_ n3_; clear hb hbox hg; obtain ⟨hcz14_0, hcz14_1, hcz14_2, hcz14_3, hcz14_4, hcz14_5, hcz14_6, hcz14_7, hcz14_8, hfz14_0, hfz14_1, hfz14_2, hfz14_3, hfz14_4, hfz14_5, hfz14_6, hfz14_7, hfz14_8⟩ := cz9_ BK101))
     go_ret
     exact ⟨retE_, belE_⟩
    ·
     rw [if_neg c12] at H
     have c12b0 : decide ((wrap64 ((wrap64 ((wrap64 ((wrap64 (a1 - (a0_0.size : Int))) - (a0_1.size : Int))) - (a0_2.size : Int))) - (a0_3.size : Int))) < 0) = false := decide_eq_false c12
     clear c12
     by_cases c15 : (wrap64 ((wrap64 ((wrap64 ((wrap64 ((wrap64 (a1 - (a0_0.size : Int))) - (a0_1.size : Int))) - (a0_2.size : Int))) - (a0_3.size : Int))) - (a0_4.size : Int))) < 0
     ·
      rw [if_pos c15] at H
      have c15b0 : decide ((wrap64 ((wrap64 ((wrap64 ((wrap64 ((wrap64 (a1 - (a0_0.size : Int))) - (a0_1.size : Int))) - (a0_2.size : Int))) - (a0_3.size : Int))) - (a0_4.size : Int))) < 0) = true := decide_eq_true c15
      clear c15
      obtain rfl := Option.some.inj H
      go_enter Tryz.func10, Tryz.ntmps10
      go_wp2_with (first | ((with_reducible refine gate_dst (N := 2) rfl ?_); refine box_event ?hg (N := 2) ?hd (cs := #[.string a0_0, .string a0_1, .string a0_2, .string a0_3, .string a0_4, .string a0_5, .int .i64 a0_6, .int .i64 a0_7, .bool a0_8]) (t := 23) ?hr ?_; (case hd => rfl); (case hg => rfl); (case hr => first | (go_simp; done) | (go_simp; rfl)); intro gb101 hg w16 hbox hb; have n0_ := belB_ hb; have n1_ := Aside0.mk (hbox); have n2_ := Aside0.mk ((by rw [hg]; exact (below_size belE_) : w.heap.size ≤ gb101)); have n3_ := Aside0.mk ((by rw [hg]; exact (below_size belE_) : w.heap.size ≤ gb101)); clear HB; have HB := n0_; have BK101 := n1_; have GW101 := n2_; have GE101 := n3_; clear n0_ n1_ n2_ n3_; clear hb hbox hg; obtain ⟨hcz17_0, hcz17_1, hcz17_2, hcz17_3, hcz17_4, hcz17_5, hcz17_6, hcz17_7, hcz17_8, hfz17_0, hfz17_1, hfz17_2, hfz17_3, hfz17_4, hfz17_5, hfz17_6, hfz17_7, hfz17_8⟩ := cz9_ BK101))
      go_ret
      exact ⟨retE_, belE_⟩
     ·
      rw [if_neg c15] at H
      have c15b0 : decide ((wrap64 ((wrap64 ((wrap64 ((wrap64 ((wrap64 (a1 - (a0_0.size : Int))) - (a0_1.size : Int))) - (a0_2.size : Int))) - (a0_3.size : Int))) - (a0_4.size : Int))) < 0) = false := decide_eq_false c15
      clear c15
      by_cases c18 : (wrap64 ((wrap64 ((wrap64 ((wrap64 ((wrap64 ((wrap64 (a1 - (a0_0.size : Int))) - (a0_1.size : Int))) - (a0_2.size : Int))) - (a0_3.size : Int))) - (a0_4.size : Int))) - (a0_5.size : Int))) < 0
      ·
       rw [if_pos c18] at H
       have c18b0 : decide ((wrap64 ((wrap64 ((wrap64 ((wrap64 ((wrap64 ((wrap64 (a1 - (a0_0.size : Int))) - (a0_1.size : Int))) - (a0_2.size : Int))) - (a0_3.size : Int))) - (a0_4.size : Int))) - (a0_5.size : Int))) < 0) = true := decide_eq_true c18
       clear c18
       obtain rfl := Option.some.inj H
       go_enter Tryz.func10, Tryz.ntmps10
       go_wp2_with (first | ((with_reducible refine gate_dst (N := 2) rfl ?_); refine box_event ?hg (N := 2) ?hd (cs := #[.string a0_0, .string a0_1, .string a0_2, .string a0_3, .string a0_4, .string a0_5, .int .i64 a0_6, .int .i64 a0_7, .bool a0_8]) (t := 23) ?hr ?_; (case hd => rfl); (case hg => rfl); (case hr => first | (go_simp; done) | (go_simp; rfl)); intro gb101 hg w19 hbox hb; have n0_ := belB_ hb; have n1_ := Aside0.mk (hbox); have n2_ := Aside0.mk ((by rw [hg]; exact (below_size belE_) : w.heap.size ≤ gb101)); have n3_ := Aside0.mk ((by rw [hg]; exact (below_size belE_) : w.heap.size ≤ gb101)); clear HB; have HB := n0_; have BK101 := n1_; have GW101 := n2_; have GE101 := n3_; clear n0_ n1_ n2_ n3_; clear hb hbox hg; obtain ⟨hcz20_0, hcz20_1, hcz20_2, hcz20_3, hcz20_4, hcz20_5, hcz20_6, hcz20_7, hcz20_8, hfz20_0, hfz20_1, hfz20_2, hfz20_3, hfz20_4, hfz20_5, hfz20_6, hfz20_7, hfz20_8⟩ := cz9_ BK101))
       go_ret
       exact ⟨retE_, belE_⟩
      ·
       rw [if_neg c18] at H
       have c18b0 : decide ((wrap64 ((wrap64 ((wrap64 ((wrap64 ((wrap64 ((wrap64 (a1 - (a0_0.size : Int))) - (a0_1.size : Int))) - (a0_2.size : Int))) - (a0_3.size : Int))) - (a0_4.size : Int))) - (a0_5.size : Int))) < 0) = false := decide_eq_false c18
       clear c18
       obtain rfl := Option.some.inj H
       go_enter Tryz.func10, Tryz.ntmps10
       go_wp2_with (first | ((with_reducible refine gate_dst (N := 2) rfl ?_); refine box_event ?hg (N := 2) ?hd (cs := #[.string a0_0, .string a0_1, .string a0_2, .string a0_3, .string a0_4, .string a0_5, .int .i64 a0_6, .int .i64 a0_7, .bool a0_8]) (t := 23) ?hr ?_; (case hd => rfl); (case hg => rfl); (case hr => first | (go_simp; done) | (go_simp; rfl)); intro gb101 hg w21 hbox hb; have n0_ := belB_ hb; have n1_ := Aside0.mk (hbox); have n2_ := Aside0.mk ((by rw [hg]; exact (below_size belE_) : w.heap.size ≤ gb101)); have n3_ := Aside0.mk ((by rw [hg]; exact (below_size belE_) : w.heap.size ≤ gb101)); clear HB; have HB := n0_; have BK101 := n1_; have GW101 := n2_; have GE101 := n3_; clear n0_ n1_ n2_ n3_; clear hb hbox hg; obtain ⟨hcz22_0, hcz22_1, hcz22_2, hcz22_3, hcz22_4, hcz22_5, hcz22_6, hcz22_7, hcz22_8, hfz22_0, hfz22_1, hfz22_2, hfz22_3, hfz22_4, hfz22_5, hfz22_6, hfz22_7, hfz22_8⟩ := cz9_ BK101))
       go_ret
       exact ⟨retE_, belE_⟩

/-! ### spec_l04Name: function 96 -/
def spec_l04Name.l0 : Nat → ByteArray → Int → Option (Bool)
  | 0, _, _ => none
  | k + 1, x0, x3 => if x3 < (x0.size : Int) then (if 0 ≤ x3 then (if (bt x0 x3) < 97 then (if (bt x0 x3) = 45 then (if x3 = 0 then (some false) else (spec_l04Name.l0 k x0 (wrap64 (x3 + 1)))) else (some false)) else (if (bt x0 x3) > 122 then (if (bt x0 x3) = 45 then (if x3 = 0 then (some false) else (spec_l04Name.l0 k x0 (wrap64 (x3 + 1)))) else (some false)) else (spec_l04Name.l0 k x0 (wrap64 (x3 + 1))))) else (none)) else (some true)
def spec_l04Name.f (k : Nat) (a0 : ByteArray) : Option (Bool) := (spec_l01In.f (a0.size : Int) 1 24).bind fun t102 => (if t102 = true then (spec_l04Name.l0 k a0 0) else (some false))
theorem spec_l04Name.mono_l : ∀ k, (∀ y0 y1, LeO (spec_l04Name.l0 k y0 y1) (spec_l04Name.l0 (k + 1) y0 y1))
  | 0 => fun _ _ r h => by simp [spec_l04Name.l0] at h
  | k + 1 => by
    have ih0 := spec_l04Name.mono_l k
    · intro y0 y1
      unfold spec_l04Name.l0
      repeat' first
      | (with_reducible exact ih0 _ _)
      | (with_reducible exact LeO.refl _)
      | (with_reducible exact LeO.none _)
      | (with_reducible refine LeO.ite ?_ ?_)
      | (with_reducible refine LeO.bind ?_ (fun _ => ?_))
      | exact ih0 _ _
      | exact LeO.none _
      | refine LeO.ite ?_ ?_
      | refine LeO.bind ?_ (fun _ => ?_)
theorem spec_l04Name.mono : ∀ a0 k, LeO (spec_l04Name.f k a0) (spec_l04Name.f (k + 1) a0) := by
  intro a0 k
  have ih0 := spec_l04Name.mono_l k
  unfold spec_l04Name.f
  repeat' first
      | (with_reducible exact ih0 _ _)
      | (with_reducible exact LeO.refl _)
      | (with_reducible exact LeO.none _)
      | (with_reducible refine LeO.ite ?_ ?_)
      | (with_reducible refine LeO.bind ?_ (fun _ => ?_))
      | exact ih0 _ _
      | exact LeO.none _
      | refine LeO.ite ?_ ?_
      | refine LeO.bind ?_ (fun _ => ?_)
set_option maxHeartbeats 8000000 in
set_option maxRecDepth 100000 in
theorem spec_l04Name.calls (k : Nat) (a0 : ByteArray) (r : Bool) (w : World) (h : spec_l04Name.f k a0 = some r) :
    Calls Tryz.prog 96 #[.string a0] w fun e w' => e = .returned (.bool r) ∧ Drawn0 w w' := by
 have H : ((spec_l01In.f (a0.size : Int) 1 24).bind fun t102 => (if t102 = true then (spec_l04Name.l0 k a0 0) else (some false))) = some r := h
 clear h
 obtain ⟨t102, A2, H⟩ := bindE_ H
 by_cases c3 : t102 = true
 ·
  subst c3
  replace H := ifT_ H
  have H' := Aside0.mk H
  clear H
  go_enter Tryz.func96, Tryz.ntmps96
  go_wp2_with (first | ((with_reducible refine gate_callee (f := 97) rfl ?_); refine cU_ (some 6) Tryz.func97 #[.int .i64 (a0.size : Int), .int .i64 1, .int .i64 24] ?_; (with_reducible refine (spec_l01In.calls (a0.size : Int) 1 24 true _ A2.out).mono ?_); rintro e w' ⟨rfl, ⟨nd, rfl⟩⟩; refine ⟨_, rfl, ?_⟩))
  go_loopg [3] k (fun kq v3 w' => ∃ (x3_1 : Int), v3 = .int .i64 x3_1 ∧ Aside0 (spec_l04Name.l0 kq a0 x3_1 = some r) ∧ Aside0 (kq ≤ k) ∧ Drawn0 w w')
  case atStart => exact ⟨(0), eqE_, H', ⟨Nat.le_refl _⟩, by repeat (first | exact Drawn0.refl _ | apply Drawn0.step)⟩
  case round =>
   clear H'
   try clear c3
   obtain ⟨x3_1, rfl, HA, HK1, ⟨m1, rfl⟩⟩ := hrel
   cases gk with
   | zero => exact absurd HA.out (by simp [spec_l04Name.l0])
   | succ k1 =>
    have H := HA.out
    clear HA
    simp only [spec_l04Name.l0] at H
    by_cases c4 : x3_1 < (a0.size : Int)
    ·
     rw [if_pos c4] at H
     have c4b0 : decide (x3_1 < (a0.size : Int)) = true := decide_eq_true c4
     clear c4
     by_cases c5 : 0 ≤ x3_1
     ·
      rw [if_pos c5] at H
      have c5b0 : decide (0 ≤ x3_1) = true := decide_eq_true c5
      clear c5
      by_cases c7 : (bt a0 x3_1) < 97
      ·
       rw [if_pos c7] at H
       have c7b0 : decide ((bt a0 x3_1) < 97) = true := decide_eq_true c7
       clear c7
       by_cases c9 : (bt a0 x3_1) = 45
       ·
        rw [if_pos c9] at H
        have c9b0 : ((bt a0 x3_1) == 45) = true := beq_iff_eq.mpr c9
        have c9b1 : ((bt a0 x3_1) != 45) = false := bne_eq_false_iff_eq.mpr c9
        clear c9
        by_cases c10 : x3_1 = 0
        ·
         rw [if_pos c10] at H
         have c10b0 : (x3_1 == 0) = true := beq_iff_eq.mpr c10
         have c10b1 : (x3_1 != 0) = false := bne_eq_false_iff_eq.mpr c10
         clear c10
         obtain rfl := Option.some.inj H
         have p6 : 0 ≤ (x3_1 : Int) := ofd_
         have q6 : x3_1 < (a0.size : Int) := ofd_
         have hx6 := bt_at a0 x3_1
         replace p6 := eq_true p6
         replace q6 := eq_true q6
         have p8 : 0 ≤ (x3_1 : Int) := ofd_
         have q8 : x3_1 < (a0.size : Int) := ofd_
         have hx8 := bt_at a0 x3_1
         replace p8 := eq_true p8
         replace q8 := eq_true q8
         go_wp2
         go_ret
         exact ⟨by first | rfl | (simp; done) | (simp [*]; done) | (simp only [bne_empty_]; rfl), by repeat (first | exact Drawn0.refl _ | apply Drawn0.step)⟩
        ·
         rw [if_neg c10] at H
         have c10b0 : (x3_1 == 0) = false := beq_eq_false_iff_ne.mpr c10
         have c10b1 : (x3_1 != 0) = true := bne_iff_ne.mpr c10
         have H' := Aside0.mk H
         clear H
         have p6 : 0 ≤ (x3_1 : Int) := ofd_
         have q6 : x3_1 < (a0.size : Int) := ofd_
         have hx6 := bt_at a0 x3_1
         replace p6 := eq_true p6
         replace q6 := eq_true q6
         have p8 : 0 ≤ (x3_1 : Int) := ofd_
         have q8 : x3_1 < (a0.size : Int) := ofd_
         have hx8 := bt_at a0 x3_1
         replace p8 := eq_true p8
         replace q8 := eq_true q8
         go_wp2
         go_roundg k1
         case measure => have := HK1.out; omega
         case rel => exact ⟨(wrap64 (x3_1 + 1)), eqE_, H', ⟨by have := HK1.out; omega⟩, by repeat (first | exact Drawn0.refl _ | apply Drawn0.step)⟩
       ·
        rw [if_neg c9] at H
        have c9b0 : ((bt a0 x3_1) == 45) = false := beq_eq_false_iff_ne.mpr c9
        have c9b1 : ((bt a0 x3_1) != 45) = true := bne_iff_ne.mpr c9
        obtain rfl := Option.some.inj H
        have p6 : 0 ≤ (x3_1 : Int) := ofd_
        have q6 : x3_1 < (a0.size : Int) := ofd_
        have hx6 := bt_at a0 x3_1
        replace p6 := eq_true p6
        replace q6 := eq_true q6
        have p8 : 0 ≤ (x3_1 : Int) := ofd_
        have q8 : x3_1 < (a0.size : Int) := ofd_
        have hx8 := bt_at a0 x3_1
        replace p8 := eq_true p8
        replace q8 := eq_true q8
        go_wp2
        go_ret
        exact ⟨by first | rfl | (simp; done) | (simp [*]; done) | (simp only [bne_empty_]; rfl), by repeat (first | exact Drawn0.refl _ | apply Drawn0.step)⟩
      ·
       rw [if_neg c7] at H
       have c7b0 : decide ((bt a0 x3_1) < 97) = false := decide_eq_false c7
       clear c7
       by_cases c12 : (bt a0 x3_1) > 122
       ·
        rw [if_pos c12] at H
        have c12b0 : decide (122 < (bt a0 x3_1)) = true := decide_eq_true c12
        clear c12
        by_cases c14 : (bt a0 x3_1) = 45
        ·
         rw [if_pos c14] at H
         have c14b0 : ((bt a0 x3_1) == 45) = true := beq_iff_eq.mpr c14
         have c14b1 : ((bt a0 x3_1) != 45) = false := bne_eq_false_iff_eq.mpr c14
         clear c14
         by_cases c15 : x3_1 = 0
         ·
          rw [if_pos c15] at H
          have c15b0 : (x3_1 == 0) = true := beq_iff_eq.mpr c15
          have c15b1 : (x3_1 != 0) = false := bne_eq_false_iff_eq.mpr c15
          clear c15
          obtain rfl := Option.some.inj H
          have p6 : 0 ≤ (x3_1 : Int) := ofd_
          have q6 : x3_1 < (a0.size : Int) := ofd_
          have hx6 := bt_at a0 x3_1
          replace p6 := eq_true p6
          replace q6 := eq_true q6
          have p11 : 0 ≤ (x3_1 : Int) := ofd_
          have q11 : x3_1 < (a0.size : Int) := ofd_
          have hx11 := bt_at a0 x3_1
          replace p11 := eq_true p11
          replace q11 := eq_true q11
          have p13 : 0 ≤ (x3_1 : Int) := ofd_
          have q13 : x3_1 < (a0.size : Int) := ofd_
          have hx13 := bt_at a0 x3_1
          replace p13 := eq_true p13
          replace q13 := eq_true q13
          go_wp2
          go_ret
          exact ⟨by first | rfl | (simp; done) | (simp [*]; done) | (simp only [bne_empty_]; rfl), by repeat (first | exact Drawn0.refl _ | apply Drawn0.step)⟩
         ·
          rw [if_neg c15] at H
          have c15b0 : (x3_1 == 0) = false := beq_eq_false_iff_ne.mpr c15
          have c15b1 : (x3_1 != 0) = true := bne_iff_ne.mpr c15
          have H' := Aside0.mk H
          clear H
          have p6 : 0 ≤ (x3_1 : Int) := ofd_
          have q6 : x3_1 < (a0.size : Int) := ofd_
          have hx6 := bt_at a0 x3_1
          replace p6 := eq_true p6
          replace q6 := eq_true q6
          have p11 : 0 ≤ (x3_1 : Int) := ofd_
          have q11 : x3_1 < (a0.size : Int) := ofd_
          have hx11 := bt_at a0 x3_1
          replace p11 := eq_true p11
          replace q11 := eq_true q11
          have p13 : 0 ≤ (x3_1 : Int) := ofd_
          have q13 : x3_1 < (a0.size : Int) := ofd_
          have hx13 := bt_at a0 x3_1
          replace p13 := eq_true p13
          replace q13 := eq_true q13
          go_wp2
          go_roundg k1
          case measure => have := HK1.out; omega
          case rel => exact ⟨(wrap64 (x3_1 + 1)), eqE_, H', ⟨by have := HK1.out; omega⟩, by repeat (first | exact Drawn0.refl _ | apply Drawn0.step)⟩
        ·
         rw [if_neg c14] at H
         have c14b0 : ((bt a0 x3_1) == 45) = false := beq_eq_false_iff_ne.mpr c14
         have c14b1 : ((bt a0 x3_1) != 45) = true := bne_iff_ne.mpr c14
         obtain rfl := Option.some.inj H
         have p6 : 0 ≤ (x3_1 : Int) := ofd_
         have q6 : x3_1 < (a0.size : Int) := ofd_
         have hx6 := bt_at a0 x3_1
         replace p6 := eq_true p6
         replace q6 := eq_true q6
         have p11 : 0 ≤ (x3_1 : Int) := ofd_
         have q11 : x3_1 < (a0.size : Int) := ofd_
         have hx11 := bt_at a0 x3_1
         replace p11 := eq_true p11
         replace q11 := eq_true q11
         have p13 : 0 ≤ (x3_1 : Int) := ofd_
         have q13 : x3_1 < (a0.size : Int) := ofd_
         have hx13 := bt_at a0 x3_1
         replace p13 := eq_true p13
         replace q13 := eq_true q13
         go_wp2
         go_ret
         exact ⟨by first | rfl | (simp; done) | (simp [*]; done) | (simp only [bne_empty_]; rfl), by repeat (first | exact Drawn0.refl _ | apply Drawn0.step)⟩
       ·
        rw [if_neg c12] at H
        have c12b0 : decide (122 < (bt a0 x3_1)) = false := decide_eq_false c12
        clear c12
        have H' := Aside0.mk H
        clear H
        have p6 : 0 ≤ (x3_1 : Int) := ofd_
        have q6 : x3_1 < (a0.size : Int) := ofd_
        have hx6 := bt_at a0 x3_1
        replace p6 := eq_true p6
        replace q6 := eq_true q6
        have p11 : 0 ≤ (x3_1 : Int) := ofd_
        have q11 : x3_1 < (a0.size : Int) := ofd_
        have hx11 := bt_at a0 x3_1
        replace p11 := eq_true p11
        replace q11 := eq_true q11
        go_wp2
        go_roundg k1
        case measure => have := HK1.out; omega
        case rel => exact ⟨(wrap64 (x3_1 + 1)), eqE_, H', ⟨by have := HK1.out; omega⟩, by repeat (first | exact Drawn0.refl _ | apply Drawn0.step)⟩
     ·
      rw [if_neg c5] at H
      exact absurd H (by simp)
    ·
     rw [if_neg c4] at H
     have c4b0 : decide (x3_1 < (a0.size : Int)) = false := decide_eq_false c4
     clear c4
     obtain rfl := Option.some.inj H
     go_wp2
     go_ret
     exact ⟨by first | rfl | (simp; done) | (simp [*]; done) | (simp only [bne_empty_]; rfl), by repeat (first | exact Drawn0.refl _ | apply Drawn0.step)⟩
 ·
  replace c3 := Bool.eq_false_iff.mpr c3
  subst c3
  replace H := ifF_ H
  obtain rfl := Option.some.inj H
  go_enter Tryz.func96, Tryz.ntmps96
  go_wp2_with (first | ((with_reducible refine gate_callee (f := 97) rfl ?_); refine cU_ (some 6) Tryz.func97 #[.int .i64 (a0.size : Int), .int .i64 1, .int .i64 24] ?_; (with_reducible refine (spec_l01In.calls (a0.size : Int) 1 24 false _ A2.out).mono ?_); rintro e w' ⟨rfl, ⟨nd, rfl⟩⟩; refine ⟨_, rfl, ?_⟩))
  go_ret
  exact ⟨by first | rfl | (simp; done) | (simp [*]; done) | (simp only [bne_empty_]; rfl), by repeat (first | exact Drawn0.refl _ | apply Drawn0.step)⟩

/-! ### spec_l05OK: function 44 -/
def spec_l05OK.l0 : Nat → List ByteArray → Int → ByteArray → ByteArray → ByteArray → ByteArray → ByteArray → ByteArray → Int → Int → Bool → Option (Bool)
  | 0, _, _, _, _, _, _, _, _, _, _, _ => none
  | k + 1, x3, x4, x104000, x104001, x104002, x104003, x104004, x104005, x104006, x104007, x104008 => if x4 < (x3.length : Int) then (if 0 ≤ x4 then (if ((rdOf ByteArray.empty x3 x4).size : Int) > 100 then (some false) else (spec_l05OK.l0 k x3 (wrap64 (x4 + 1)) x104000 x104001 x104002 x104003 x104004 x104005 x104006 x104007 x104008)) else (none)) else ((spec_l04Name.f k x104004).bind fun t108 => (if t108 = true then (if (x104005.size : Int) ≤ 200 then ((spec_l01In.f x104006 0 9999).bind fun t109 => (if t109 = true then ((spec_l01In.f x104007 0 9999).bind fun t110 => (some t110)) else (some false))) else (some false)) else (some false)))
def spec_l05OK.f (k : Nat) (a0_0 : ByteArray) (a0_1 : ByteArray) (a0_2 : ByteArray) (a0_3 : ByteArray) (a0_4 : ByteArray) (a0_5 : ByteArray) (a0_6 : Int) (a0_7 : Int) (a0_8 : Bool) : Option (Bool) := spec_l05OK.l0 k (([a0_0, a0_1, a0_2, a0_3] : List ByteArray)) 0 a0_0 a0_1 a0_2 a0_3 a0_4 a0_5 a0_6 a0_7 a0_8
theorem spec_l05OK.mono_l : ∀ k, (∀ y0 y1 y2 y3 y4 y5 y6 y7 y8 y9 y10, LeO (spec_l05OK.l0 k y0 y1 y2 y3 y4 y5 y6 y7 y8 y9 y10) (spec_l05OK.l0 (k + 1) y0 y1 y2 y3 y4 y5 y6 y7 y8 y9 y10))
  | 0 => fun _ _ _ _ _ _ _ _ _ _ _ r h => by simp [spec_l05OK.l0] at h
  | k + 1 => by
    have ih0 := spec_l05OK.mono_l k
    · intro y0 y1 y2 y3 y4 y5 y6 y7 y8 y9 y10
      unfold spec_l05OK.l0
      repeat' first
      | (with_reducible exact ih0 _ _ _ _ _ _ _ _ _ _ _)
      | (with_reducible exact spec_l04Name.mono _ _)
      | (with_reducible exact LeO.refl _)
      | (with_reducible exact LeO.none _)
      | (with_reducible refine LeO.ite ?_ ?_)
      | (with_reducible refine LeO.bind ?_ (fun _ => ?_))
      | exact ih0 _ _ _ _ _ _ _ _ _ _ _
      | exact spec_l04Name.mono _ _
      | exact LeO.none _
      | refine LeO.ite ?_ ?_
      | refine LeO.bind ?_ (fun _ => ?_)
theorem spec_l05OK.mono : ∀ a0 a1 a2 a3 a4 a5 a6 a7 a8 k, LeO (spec_l05OK.f k a0 a1 a2 a3 a4 a5 a6 a7 a8) (spec_l05OK.f (k + 1) a0 a1 a2 a3 a4 a5 a6 a7 a8) := by
  intro a0 a1 a2 a3 a4 a5 a6 a7 a8 k
  have ih0 := spec_l05OK.mono_l k
  unfold spec_l05OK.f
  repeat' first
      | (with_reducible exact ih0 _ _ _ _ _ _ _ _ _ _ _)
      | (with_reducible exact spec_l04Name.mono _ _)
      | (with_reducible exact LeO.refl _)
      | (with_reducible exact LeO.none _)
      | (with_reducible refine LeO.ite ?_ ?_)
      | (with_reducible refine LeO.bind ?_ (fun _ => ?_))
      | exact ih0 _ _ _ _ _ _ _ _ _ _ _
      | exact spec_l04Name.mono _ _
      | exact LeO.none _
      | refine LeO.ite ?_ ?_
      | refine LeO.bind ?_ (fun _ => ?_)
set_option maxHeartbeats 8000000 in
set_option maxRecDepth 100000 in
theorem spec_l05OK.calls (k : Nat) (a0_0 : ByteArray) (a0_1 : ByteArray) (a0_2 : ByteArray) (a0_3 : ByteArray) (a0_4 : ByteArray) (a0_5 : ByteArray) (a0_6 : Int) (a0_7 : Int) (a0_8 : Bool) (r : Bool) (w : World) (h : spec_l05OK.f k a0_0 a0_1 a0_2 a0_3 a0_4 a0_5 a0_6 a0_7 a0_8 = some r) :
    Calls Tryz.prog 44 #[.agg #[.string a0_0, .string a0_1, .string a0_2, .string a0_3, .string a0_4, .string a0_5, .int .i64 a0_6, .int .i64 a0_7, .bool a0_8]] w fun e w' => e = .returned (.bool r) ∧ Below w.heap.size w w' := by
 have hu27 := Tryz.underlying27
 have HB := Aside0.mk (Below.refl w.heap.size w)
 have H : (spec_l05OK.l0 k (([a0_0, a0_1, a0_2, a0_3] : List ByteArray)) 0 a0_0 a0_1 a0_2 a0_3 a0_4 a0_5 a0_6 a0_7 a0_8) = some r := h
 clear h
 obtain ⟨y104, hy104⟩ : ∃ y_ : List ByteArray, y_ = (([a0_0, a0_1, a0_2, a0_3] : List ByteArray)) := ⟨_, rfl⟩
 replace H : (spec_l05OK.l0 k y104 0 a0_0 a0_1 a0_2 a0_3 a0_4 a0_5 a0_6 a0_7 a0_8) = some r := by first | (rw [hy104]; with_reducible exact H) | (have H2_ := (Option.bind_some _ _).symm.trans H; rw [hy104]; with_reducible exact H2_) | (have H2_ := (Option.bind_some _ _).symm.trans H; with_reducible exact H2_) | with_reducible exact H | (rw [hy104]; exact H) | exact H
 have Ny104 := Aside0.mk hy104
 clear hy104
 have H' := Aside0.mk H
 clear H
 go_enter Tryz.func44, Tryz.ntmps44
 go_wp2_with (first | ((with_reducible refine gate_dst (N := 1) rfl ?_); (try (refine gate_guard (by rfl) ?_; dsimp only)); refine box_event ?hg (N := 1) ?hd (cs := #[.string a0_0, .string a0_1, .string a0_2, .string a0_3, .string a0_4, .string a0_5, .int .i64 a0_6, .int .i64 a0_7, .bool a0_8]) (t := 27) ?hr ?_; (case hd => rfl); (case hg => rfl); (case hr => first | (go_simp; done) | (go_simp; rfl)); intro gb103 hg w2 hbox hb; have n0_ := belB_ hb; have n1_ := Aside0.mk (hbox); have n2_ := Aside0.mk ((by rw [hg]; exact (below_size belE_) : w.heap.size ≤ gb103)); have n3_ := Aside0.mk ((by rw [hg]; exact (below_size belE_) : w.heap.size ≤ gb103)); clear HB; have HB := n0_; have BK103 := n1_; have GW103 := n2_; have GE103 := n3_; clear n0_ n1_ n2_ n3_; clear hb hbox hg; obtain ⟨hcz3_0, hcz3_1, hcz3_2, hcz3_3, hcz3_4, hcz3_5, hcz3_6, hcz3_7, hcz3_8, hfz3_0, hfz3_1, hfz3_2, hfz3_3, hfz3_4, hfz3_5, hfz3_6, hfz3_7, hfz3_8⟩ := cz9_ BK103) | ((with_reducible refine gate_dst (N := 13) rfl ?_); (try (refine gate_guard (by rfl) ?_; dsimp only)); refine Kd.R_lit Kd.string _ 9 ?hg (N := 13) ?hd (xs := ([a0_0, a0_1, a0_2, a0_3] : List ByteArray)) (inner := [.string a0_0, .string a0_1, .string a0_2, .string a0_3]) (ok := fun _ => True) (okp := fun _ => True) ?hr ?hp (fun _ hk => hk) trivial (Below.refl _ _) (Nat.le_refl _) (by simp) ?_; (case hd => rfl); (case hg => rfl); (case hr => first | (go_simp; done) | (go_simp; rfl)); (case hp => exact (Reps.one (show Kd.M Kd.string _ _ _ a0_0 [.string a0_0] from rfl) (Reps.one (show Kd.M Kd.string _ _ _ a0_1 [.string a0_1] from rfl) (Reps.one (show Kd.M Kd.string _ _ _ a0_2 [.string a0_2] from rfl) (Reps.one (show Kd.M Kd.string _ _ _ a0_3 [.string a0_3] from rfl) (Reps.none _ _)))))); intro v105 w4 ho5 hb hg_ hnew_; clear hg_ hnew_; (first | rw [← Ny104.out] at ho5 | (simp only [Int.reduceToNat] at ho5; rw [← Ny104.out] at ho5)); have n0_ := Aside0.mk (Kd.R_lower ho5 (below_size belE_)); have n1_ := blkB_ (g := gb103) (o := .cells #[.string a0_0, .string a0_1, .string a0_2, .string a0_3, .string a0_4, .string a0_5, .int .i64 a0_6, .int .i64 a0_7, .bool a0_8] 27 (0, 0)) hb; have n2_ := belB_ hb; clear BK103; clear HB; have HO106 := n0_; have BK103 := n1_; have HB := n2_; clear n0_ n1_ n2_; clear hb ho5))
 go_loopg [4] k (fun kq v4 w' => ∃ (x4_1 : Int), v4 = .int .i64 x4_1 ∧ Aside0 (spec_l05OK.l0 kq y104 x4_1 a0_0 a0_1 a0_2 a0_3 a0_4 a0_5 a0_6 a0_7 a0_8 = some r) ∧ Aside0 (kq ≤ k) ∧ Aside0 (Kd.R Kd.string 9 w' w.heap.size (fun _ => True) v105 y104) ∧ Aside0 (w'.heap[gb103]? = some (.cells #[.string a0_0, .string a0_1, .string a0_2, .string a0_3, .string a0_4, .string a0_5, .int .i64 a0_6, .int .i64 a0_7, .bool a0_8] 27 (0, 0))) ∧ Aside0 (Below w.heap.size w w'))
 case atStart => exact ⟨(0), eqE_, H', ⟨Nat.le_refl _⟩, ⟨by (with_reducible repeat (first | apply Kd.R_alloc | apply Kd.R_drewN | apply Kd.R_drew)); exact HO106.out⟩, ⟨blkE_⟩, ⟨belE_⟩⟩
 case round =>
  clear H'
  try clear hcz3_0 hcz3_1 hcz3_2 hcz3_3 hcz3_4 hcz3_5 hcz3_6 hcz3_7 hcz3_8
  try clear hfz3_0 hfz3_1 hfz3_2 hfz3_3 hfz3_4 hfz3_5 hfz3_6 hfz3_7 hfz3_8
  obtain ⟨x4_1, rfl, HA, HK1, HO_3, BK103, HB⟩ := hrel
  cases gk with
  | zero => exact absurd HA.out (by simp [spec_l05OK.l0])
  | succ k1 =>
   have H := HA.out
   clear HA
   simp only [spec_l05OK.l0] at H
   by_cases c6 : x4_1 < (y104.length : Int)
   ·
    rw [if_pos c6] at H
    have c6b0 : decide (x4_1 < (y104.length : Int)) = true := decide_eq_true c6
    clear c6
    by_cases c7 : 0 ≤ x4_1
    ·
     rw [if_pos c7] at H
     have c7b0 : decide (0 ≤ x4_1) = true := decide_eq_true c7
     clear c7
     by_cases c8 : ((rdOf ByteArray.empty y104 x4_1).size : Int) > 100
     ·
      rw [if_pos c8] at H
      have c8b0 : decide (100 < ((rdOf ByteArray.empty y104 x4_1).size : Int)) = true := decide_eq_true c8
      have c8b1 : decide (100 < (rdOf ByteArray.empty y104 x4_1).size) = true := decide_eq_true (by omega)
      clear c8
      obtain rfl := Option.some.inj H
      obtain ⟨Ao9, co9, eo9⟩ := Kd.R_slice HO_3.out
      subst eo9
      have p107 : 0 ≤ (x4_1 : Int) := ofd_
      have q107 : x4_1 < (y104.length : Int) := ofd_
      obtain ⟨ad107, e107, hx107_0⟩ := Kd.at_string (Kd.R_reads' HO_3.out).2.2 x4_1 p107 q107
      cases e107
      replace p107 := eq_true p107
      replace q107 := eq_true q107
      go_wp2
      go_ret
      exact ⟨retE_, belE_⟩
     ·
      rw [if_neg c8] at H
      have c8b0 : decide (100 < ((rdOf ByteArray.empty y104 x4_1).size : Int)) = false := decide_eq_false c8
      have c8b1 : decide (100 < (rdOf ByteArray.empty y104 x4_1).size) = false := decide_eq_false (by omega)
      clear c8
      have H' := Aside0.mk H
      clear H
      obtain ⟨Ao10, co10, eo10⟩ := Kd.R_slice HO_3.out
      subst eo10
      have p107 : 0 ≤ (x4_1 : Int) := ofd_
      have q107 : x4_1 < (y104.length : Int) := ofd_
      obtain ⟨ad107, e107, hx107_0⟩ := Kd.at_string (Kd.R_reads' HO_3.out).2.2 x4_1 p107 q107
      cases e107
      replace p107 := eq_true p107
      replace q107 := eq_true q107
      go_wp2
      go_roundg k1
      case measure => have := HK1.out; omega
      case rel => exact ⟨(wrap64 (x4_1 + 1)), eqE_, H', ⟨by have := HK1.out; omega⟩, ⟨by (with_reducible repeat (first | apply Kd.R_alloc | apply Kd.R_drewN | apply Kd.R_drew)); exact HO_3.out⟩, ⟨blkE_⟩, ⟨belE_⟩⟩
    ·
     rw [if_neg c7] at H
     exact absurd H (by simp)
   ·
    rw [if_neg c6] at H
    have c6b0 : decide (x4_1 < (y104.length : Int)) = false := decide_eq_false c6
    clear c6
    obtain ⟨t108, A11, H⟩ := bindE_ H
    by_cases c12 : t108 = true
    ·
     subst c12
     replace H := ifT_ H
     by_cases c13 : (a0_5.size : Int) ≤ 200
     ·
      rw [if_pos c13] at H
      have c13b0 : decide ((a0_5.size : Int) ≤ 200) = true := decide_eq_true c13
      have c13b1 : decide (a0_5.size ≤ 200) = true := decide_eq_true (by omega)
      clear c13
      obtain ⟨t109, A14, H⟩ := bindE_ H
      by_cases c15 : t109 = true
      ·
       subst c15
       replace H := ifT_ H
       obtain ⟨t110, A16, H⟩ := bindE_ H
       obtain rfl := Option.some.inj H
       obtain ⟨Ao17, co17, eo17⟩ := Kd.R_slice HO_3.out
       subst eo17
       obtain ⟨hcz18_0, hcz18_1, hcz18_2, hcz18_3, hcz18_4, hcz18_5, hcz18_6, hcz18_7, hcz18_8, hfz18_0, hfz18_1, hfz18_2, hfz18_3, hfz18_4, hfz18_5, hfz18_6, hfz18_7, hfz18_8⟩ := cz9_ BK103
       go_wp2_with (first | ((with_reducible refine gate_callee (f := 96) rfl ?_); refine cU_ (some 28) Tryz.func96 #[.string a0_4] ?_; (with_reducible refine (spec_l04Name.calls k1 a0_4 true _ A11.out).mono ?_); rintro e w' ⟨rfl, ⟨nd, rfl⟩⟩; refine ⟨_, rfl, ?_⟩) | (go_at_call 97; (with_reducible refine (spec_l01In.calls a0_6 0 9999 true _ A14.out).mono ?_); rintro e w' ⟨rfl, ⟨nd, rfl⟩⟩) | (go_at_call 97; (with_reducible refine (spec_l01In.calls a0_7 0 9999 t110 _ A16.out).mono ?_); rintro e w' ⟨rfl, ⟨nd, rfl⟩⟩))
       go_ret
       exact ⟨retE_, belE_⟩
      ·
       replace c15 := Bool.eq_false_iff.mpr c15
       subst c15
       replace H := ifF_ H
       obtain rfl := Option.some.inj H
       obtain ⟨Ao19, co19, eo19⟩ := Kd.R_slice HO_3.out
       subst eo19
       obtain ⟨hcz20_0, hcz20_1, hcz20_2, hcz20_3, hcz20_4, hcz20_5, hcz20_6, hcz20_7, hcz20_8, hfz20_0, hfz20_1, hfz20_2, hfz20_3, hfz20_4, hfz20_5, hfz20_6, hfz20_7, hfz20_8⟩ := cz9_ BK103
       go_wp2_with (first | ((with_reducible refine gate_callee (f := 96) rfl ?_); refine cU_ (some 28) Tryz.func96 #[.string a0_4] ?_; (with_reducible refine (spec_l04Name.calls k1 a0_4 true _ A11.out).mono ?_); rintro e w' ⟨rfl, ⟨nd, rfl⟩⟩; refine ⟨_, rfl, ?_⟩) | (go_at_call 97; (with_reducible refine (spec_l01In.calls a0_6 0 9999 false _ A14.out).mono ?_); rintro e w' ⟨rfl, ⟨nd, rfl⟩⟩))
       go_ret
       exact ⟨retE_, belE_⟩
     ·
      rw [if_neg c13] at H
      have c13b0 : decide ((a0_5.size : Int) ≤ 200) = false := decide_eq_false c13
      have c13b1 : decide (a0_5.size ≤ 200) = false := decide_eq_false (by omega)
      clear c13
      obtain rfl := Option.some.inj H
      obtain ⟨Ao21, co21, eo21⟩ := Kd.R_slice HO_3.out
      subst eo21
      obtain ⟨hcz22_0, hcz22_1, hcz22_2, hcz22_3, hcz22_4, hcz22_5, hcz22_6, hcz22_7, hcz22_8, hfz22_0, hfz22_1, hfz22_2, hfz22_3, hfz22_4, hfz22_5, hfz22_6, hfz22_7, hfz22_8⟩ := cz9_ BK103
      go_wp2_with (first | ((with_reducible refine gate_callee (f := 96) rfl ?_); refine cU_ (some 28) Tryz.func96 #[.string a0_4] ?_; (with_reducible refine (spec_l04Name.calls k1 a0_4 true _ A11.out).mono ?_); rintro e w' ⟨rfl, ⟨nd, rfl⟩⟩; refine ⟨_, rfl, ?_⟩))
      go_ret
      exact ⟨retE_, belE_⟩
    ·
     replace c12 := Bool.eq_false_iff.mpr c12
     subst c12
     replace H := ifF_ H
     obtain rfl := Option.some.inj H
     obtain ⟨Ao23, co23, eo23⟩ := Kd.R_slice HO_3.out
     subst eo23
     obtain ⟨hcz24_0, hcz24_1, hcz24_2, hcz24_3, hcz24_4, hcz24_5, hcz24_6, hcz24_7, hcz24_8, hfz24_0, hfz24_1, hfz24_2, hfz24_3, hfz24_4, hfz24_5, hfz24_6, hfz24_7, hfz24_8⟩ := cz9_ BK103
     go_wp2_with (first | ((with_reducible refine gate_callee (f := 96) rfl ?_); refine cU_ (some 28) Tryz.func96 #[.string a0_4] ?_; (with_reducible refine (spec_l04Name.calls k1 a0_4 false _ A11.out).mono ?_); rintro e w' ⟨rfl, ⟨nd, rfl⟩⟩; refine ⟨_, rfl, ?_⟩))
     go_ret
     exact ⟨retE_, belE_⟩

/-! ### spec_l01SameOrigin: function 77 -/
def spec_l01SameOrigin.f (a0_0 : ByteArray) (a0_1 : ByteArray) (a0_2 : ByteArray) (a0_3 : Int) (a0_4 : ByteArray) (a0_5 : ByteArray) (a0_6 : ByteArray) (a0_7 : Bool) (a0_8 : Bool) (a1_0 : ByteArray) (a1_1 : ByteArray) (a1_2 : ByteArray) (a1_3 : Int) (a1_4 : ByteArray) (a1_5 : ByteArray) (a1_6 : ByteArray) (a1_7 : Bool) (a1_8 : Bool) : Option (Bool) := (spec_l01Web.f a0_0).bind fun t191 => (if t191 = true then (if a0_0.toList = a1_0.toList then (if a0_2.toList = a1_2.toList then (some (a0_3 == a1_3)) else (some false)) else (some false)) else (some false))
set_option maxHeartbeats 40000000 in
set_option maxRecDepth 100000 in
theorem spec_l01SameOrigin.calls (a0_0 : ByteArray) (a0_1 : ByteArray) (a0_2 : ByteArray) (a0_3 : Int) (a0_4 : ByteArray) (a0_5 : ByteArray) (a0_6 : ByteArray) (a0_7 : Bool) (a0_8 : Bool) (a1_0 : ByteArray) (a1_1 : ByteArray) (a1_2 : ByteArray) (a1_3 : Int) (a1_4 : ByteArray) (a1_5 : ByteArray) (a1_6 : ByteArray) (a1_7 : Bool) (a1_8 : Bool) (r : Bool) (w : World) (h : spec_l01SameOrigin.f a0_0 a0_1 a0_2 a0_3 a0_4 a0_5 a0_6 a0_7 a0_8 a1_0 a1_1 a1_2 a1_3 a1_4 a1_5 a1_6 a1_7 a1_8 = some r) :
    Calls Tryz.prog 77 #[.agg #[.string a0_0, .string a0_1, .string a0_2, .int .i64 a0_3, .string a0_4, .string a0_5, .string a0_6, .bool a0_7, .bool a0_8], .agg #[.string a1_0, .string a1_1, .string a1_2, .int .i64 a1_3, .string a1_4, .string a1_5, .string a1_6, .bool a1_7, .bool a1_8]] w fun e w' => e = .returned (.bool r) ∧ Below w.heap.size w w' := by
 have hu32 := Tryz.underlying32
 have HB := Aside0.mk (Below.refl w.heap.size w)
 have H : ((spec_l01Web.f a0_0).bind fun t191 => (if t191 = true then (if a0_0.toList = a1_0.toList then (if a0_2.toList = a1_2.toList then (some (a0_3 == a1_3)) else (some false)) else (some false)) else (some false))) = some r := h
 clear h
 obtain ⟨t191, A3, H⟩ := bindE_ H
 by_cases c4 : t191 = true
 ·
  subst c4
  replace H := ifT_ H
  by_cases c5 : a0_0.toList = a1_0.toList
  ·
   rw [if_pos c5] at H
   have c5b0 : (a0_0.toList == a1_0.toList) = true := beq_iff_eq.mpr c5
   have c5b1 : (a0_0.toList != a1_0.toList) = false := bne_eq_false_iff_eq.mpr c5
   clear c5
   by_cases c6 : a0_2.toList = a1_2.toList
   ·
    rw [if_pos c6] at H
    have c6b0 : (a0_2.toList == a1_2.toList) = true := beq_iff_eq.mpr c6
    have c6b1 : (a0_2.toList != a1_2.toList) = false := bne_eq_false_iff_eq.mpr c6
    clear c6
    obtain rfl := Option.some.inj H
    go_enter Tryz.func77, Tryz.ntmps77
    go_wp2_with (first | ((with_reducible refine gate_dst (N := 2) rfl ?_); refine box_event ?hg (N := 2) ?hd (cs := #[.string a0_0, .string a0_1, .string a0_2, .int .i64 a0_3, .string a0_4, .string a0_5, .string a0_6, .bool a0_7, .bool a0_8]) (t := 32) ?hr ?_; (case hd => rfl); (case hg => rfl); (case hr => first | (go_simp; done) | (go_simp; rfl)); intro gb189 hg w7 hbox hb; have n0_ := belB_ hb; have n1_ := Aside0.mk (hbox); have n2_ := Aside0.mk ((by rw [hg]; exact (below_size belE_) : w.heap.size ≤ gb189)); have n3_ := Aside0.mk ((by rw [hg]; exact (below_size belE_) : w.heap.size ≤ gb189)); clear HB; have HB := n0_; have BK189 := n1_; have GW189 := n2_; have GE189 := n3_; clear n0_ n1_ n2_ n3_; clear hb hbox hg) | ((with_reducible refine gate_dst (N := 3) rfl ?_); refine box_event ?hg (N := 3) ?hd (cs := #[.string a1_0, .string a1_1, .string a1_2, .int .i64 a1_3, .string a1_4, .string a1_5, .string a1_6, .bool a1_7, .bool a1_8]) (t := 32) ?hr ?_; (case hd => rfl); (case hg => rfl); (case hr => first | (go_simp; done) | (go_simp; rfl)); intro gb190 hg w8 hbox hb; have n0_ := blkB_ (g := gb189) (o := .cells #[.string a0_0, .string a0_1, .string a0_2, .int .i64 a0_3, .string a0_4, .string a0_5, .string a0_6, .bool a0_7, .bool a0_8] 32 (0, 0)) hb; have n1_ := belB_ hb; have n2_ := Aside0.mk (hbox); have n3_ := Aside0.mk ((by rw [hg]; exact (below_size belE_) : w.heap.size ≤ gb190)); have n4_ := Aside0.mk ((by rw [hg]; exact (below_size belE_) : w.heap.size ≤ gb190)); have n5_ := Aside0.mk ((by rw [hg]; exact Nat.ne_of_lt (blk_lt (g := gb189) (o := .cells #[.string a0_0, .string a0_1, .string a0_2, .int .i64 a0_3, .string a0_4, .string a0_5, .string a0_6, .bool a0_7, .bool a0_8] 32 (0, 0)) (by (with_reducible repeat apply bd_); exact BK189.out)) : gb189 ≠ gb190)); have n6_ := Aside0.mk ((by rw [hg]; exact Nat.ne_of_gt (blk_lt (g := gb189) (o := .cells #[.string a0_0, .string a0_1, .string a0_2, .int .i64 a0_3, .string a0_4, .string a0_5, .string a0_6, .bool a0_7, .bool a0_8] 32 (0, 0)) (by (with_reducible repeat apply bd_); exact BK189.out)) : gb190 ≠ gb189)); clear BK189; clear HB; have BK189 := n0_; have HB := n1_; have BK190 := n2_; have GW190 := n3_; have GE190 := n4_; have NB189_190 := n5_; have NB190_189 := n6_; clear n0_ n1_ n2_ n3_ n4_ n5_ n6_; clear hb hbox hg; have hnb9 := NB189_190.out; have hnc9 := NB190_189.out; obtain ⟨hcz10_0, hcz10_1, hcz10_2, hcz10_3, hcz10_4, hcz10_5, hcz10_6, hcz10_7, hcz10_8, hfz10_0, hfz10_1, hfz10_2, hfz10_3, hfz10_4, hfz10_5, hfz10_6, hfz10_7, hfz10_8⟩ := cz9_ BK189) | ((with_reducible refine gate_callee (f := 61) rfl ?_); refine cU_ (some 7) Tryz.func61 #[.string a0_0] ?_; (with_reducible refine (spec_l01Web.calls a0_0 true _ A3.out).mono ?_); rintro e w' ⟨rfl, ⟨nd, rfl⟩⟩; refine ⟨_, rfl, ?_⟩; obtain ⟨hcz11_0, hcz11_1, hcz11_2, hcz11_3, hcz11_4, hcz11_5, hcz11_6, hcz11_7, hcz11_8, hfz11_0, hfz11_1, hfz11_2, hfz11_3, hfz11_4, hfz11_5, hfz11_6, hfz11_7, hfz11_8⟩ := cz9_ BK190))
    go_ret
    exact ⟨retE_, belE_⟩
   ·
    rw [if_neg c6] at H
    have c6b0 : (a0_2.toList == a1_2.toList) = false := beq_eq_false_iff_ne.mpr c6
    have c6b1 : (a0_2.toList != a1_2.toList) = true := bne_iff_ne.mpr c6
    obtain rfl := Option.some.inj H
    go_enter Tryz.func77, Tryz.ntmps77
    go_wp2_with (first | ((with_reducible refine gate_dst (N := 2) rfl ?_); refine box_event ?hg (N := 2) ?hd (cs := #[.string a0_0, .string a0_1, .string a0_2, .int .i64 a0_3, .string a0_4, .string a0_5, .string a0_6, .bool a0_7, .bool a0_8]) (t := 32) ?hr ?_; (case hd => rfl); (case hg => rfl); (case hr => first | (go_simp; done) | (go_simp; rfl)); intro gb189 hg w12 hbox hb; have n0_ := belB_ hb; have n1_ := Aside0.mk (hbox); have n2_ := Aside0.mk ((by rw [hg]; exact (below_size belE_) : w.heap.size ≤ gb189)); have n3_ := Aside0.mk ((by rw [hg]; exact (below_size belE_) : w.heap.size ≤ gb189)); clear HB; have HB := n0_; have BK189 := n1_; have GW189 := n2_; have GE189 := n3_; clear n0_ n1_ n2_ n3_; clear hb hbox hg) | ((with_reducible refine gate_dst (N := 3) rfl ?_); refine box_event ?hg (N := 3) ?hd (cs := #[.string a1_0, .string a1_1, .string a1_2, .int .i64 a1_3, .string a1_4, .string a1_5, .string a1_6, .bool a1_7, .bool a1_8]) (t := 32) ?hr ?_; (case hd => rfl); (case hg => rfl); (case hr => first | (go_simp; done) | (go_simp; rfl)); intro gb190 hg w13 hbox hb; have n0_ := blkB_ (g := gb189) (o := .cells #[.string a0_0, .string a0_1, .string a0_2, .int .i64 a0_3, .string a0_4, .string a0_5, .string a0_6, .bool a0_7, .bool a0_8] 32 (0, 0)) hb; have n1_ := belB_ hb; have n2_ := Aside0.mk (hbox); have n3_ := Aside0.mk ((by rw [hg]; exact (below_size belE_) : w.heap.size ≤ gb190)); have n4_ := Aside0.mk ((by rw [hg]; exact (below_size belE_) : w.heap.size ≤ gb190)); have n5_ := Aside0.mk ((by rw [hg]; exact Nat.ne_of_lt (blk_lt (g := gb189) (o := .cells #[.string a0_0, .string a0_1, .string a0_2, .int .i64 a0_3, .string a0_4, .string a0_5, .string a0_6, .bool a0_7, .bool a0_8] 32 (0, 0)) (by (with_reducible repeat apply bd_); exact BK189.out)) : gb189 ≠ gb190)); have n6_ := Aside0.mk ((by rw [hg]; exact Nat.ne_of_gt (blk_lt (g := gb189) (o := .cells #[.string a0_0, .string a0_1, .string a0_2, .int .i64 a0_3, .string a0_4, .string a0_5, .string a0_6, .bool a0_7, .bool a0_8] 32 (0, 0)) (by (with_reducible repeat apply bd_); exact BK189.out)) : gb190 ≠ gb189)); clear BK189; clear HB; have BK189 := n0_; have HB := n1_; have BK190 := n2_; have GW190 := n3_; have GE190 := n4_; have NB189_190 := n5_; have NB190_189 := n6_; clear n0_ n1_ n2_ n3_ n4_ n5_ n6_; clear hb hbox hg; have hnb14 := NB189_190.out; have hnc14 := NB190_189.out; obtain ⟨hcz15_0, hcz15_1, hcz15_2, hcz15_3, hcz15_4, hcz15_5, hcz15_6, hcz15_7, hcz15_8, hfz15_0, hfz15_1, hfz15_2, hfz15_3, hfz15_4, hfz15_5, hfz15_6, hfz15_7, hfz15_8⟩ := cz9_ BK189) | ((with_reducible refine gate_callee (f := 61) rfl ?_); refine cU_ (some 7) Tryz.func61 #[.string a0_0] ?_; (with_reducible refine (spec_l01Web.calls a0_0 true _ A3.out).mono ?_); rintro e w' ⟨rfl, ⟨nd, rfl⟩⟩; refine ⟨_, rfl, ?_⟩; obtain ⟨hcz16_0, hcz16_1, hcz16_2, hcz16_3, hcz16_4, hcz16_5, hcz16_6, hcz16_7, hcz16_8, hfz16_0, hfz16_1, hfz16_2, hfz16_3, hfz16_4, hfz16_5, hfz16_6, hfz16_7, hfz16_8⟩ := cz9_ BK190))
    go_ret
    exact ⟨retE_, belE_⟩
  ·
   rw [if_neg c5] at H
   have c5b0 : (a0_0.toList == a1_0.toList) = false := beq_eq_false_iff_ne.mpr c5
   have c5b1 : (a0_0.toList != a1_0.toList) = true := bne_iff_ne.mpr c5
   obtain rfl := Option.some.inj H
   go_enter Tryz.func77, Tryz.ntmps77
   go_wp2_with (first | ((with_reducible refine gate_dst (N := 2) rfl ?_); refine box_event ?hg (N := 2) ?hd (cs := #[.string a0_0, .string a0_1, .string a0_2, .int .i64 a0_3, .string a0_4, .string a0_5, .string a0_6, .bool a0_7, .bool a0_8]) (t := 32) ?hr ?_; (case hd => rfl); (case hg => rfl); (case hr => first | (go_simp; done) | (go_simp; rfl)); intro gb189 hg w17 hbox hb; have n0_ := belB_ hb; have n1_ := Aside0.mk (hbox); have n2_ := Aside0.mk ((by rw [hg]; exact (below_size belE_) : w.heap.size ≤ gb189)); have n3_ := Aside0.mk ((by rw [hg]; exact (below_size belE_) : w.heap.size ≤ gb189)); clear HB; have HB := n0_; have BK189 := n1_; have GW189 := n2_; have GE189 := n3_; clear n0_ n1_ n2_ n3_; clear hb hbox hg) | ((with_reducible refine gate_dst (N := 3) rfl ?_); refine box_event ?hg (N := 3) ?hd (cs := #[.string a1_0, .string a1_1, .string a1_2, .int .i64 a1_3, .string a1_4, .string a1_5, .string a1_6, .bool a1_7, .bool a1_8]) (t := 32) ?hr ?_; (case hd => rfl); (case hg => rfl); (case hr => first | (go_simp; done) | (go_simp; rfl)); intro gb190 hg w18 hbox hb; have n0_ := blkB_ (g := gb189) (o := .cells #[.string a0_0, .string a0_1, .string a0_2, .int .i64 a0_3, .string a0_4, .string a0_5, .string a0_6, .bool a0_7, .bool a0_8] 32 (0, 0)) hb; have n1_ := belB_ hb; have n2_ := Aside0.mk (hbox); have n3_ := Aside0.mk ((by rw [hg]; exact (below_size belE_) : w.heap.size ≤ gb190)); have n4_ := Aside0.mk ((by rw [hg]; exact (below_size belE_) : w.heap.size ≤ gb190)); have n5_ := Aside0.mk ((by rw [hg]; exact Nat.ne_of_lt (blk_lt (g := gb189) (o := .cells #[.string a0_0, .string a0_1, .string a0_2, .int .i64 a0_3, .string a0_4, .string a0_5, .string a0_6, .bool a0_7, .bool a0_8] 32 (0, 0)) (by (with_reducible repeat apply bd_); exact BK189.out)) : gb189 ≠ gb190)); have n6_ := Aside0.mk ((by rw [hg]; exact Nat.ne_of_gt (blk_lt (g := gb189) (o := .cells #[.string a0_0, .string a0_1, .string a0_2, .int .i64 a0_3, .string a0_4, .string a0_5, .string a0_6, .bool a0_7, .bool a0_8] 32 (0, 0)) (by (with_reducible repeat apply bd_); exact BK189.out)) : gb190 ≠ gb189)); clear BK189; clear HB; have BK189 := n0_; have HB := n1_; have BK190 := n2_; have GW190 := n3_; have GE190 := n4_; have NB189_190 := n5_; have NB190_189 := n6_; clear n0_ n1_ n2_ n3_ n4_ n5_ n6_; clear hb hbox hg; have hnb19 := NB189_190.out; have hnc19 := NB190_189.out; obtain ⟨hcz20_0, hcz20_1, hcz20_2, hcz20_3, hcz20_4, hcz20_5, hcz20_6, hcz20_7, hcz20_8, hfz20_0, hfz20_1, hfz20_2, hfz20_3, hfz20_4, hfz20_5, hfz20_6, hfz20_7, hfz20_8⟩ := cz9_ BK189) | ((with_reducible refine gate_callee (f := 61) rfl ?_); refine cU_ (some 7) Tryz.func61 #[.string a0_0] ?_; (with_reducible refine (spec_l01Web.calls a0_0 true _ A3.out).mono ?_); rintro e w' ⟨rfl, ⟨nd, rfl⟩⟩; refine ⟨_, rfl, ?_⟩; obtain ⟨hcz21_0, hcz21_1, hcz21_2, hcz21_3, hcz21_4, hcz21_5, hcz21_6, hcz21_7, hcz21_8, hfz21_0, hfz21_1, hfz21_2, hfz21_3, hfz21_4, hfz21_5, hfz21_6, hfz21_7, hfz21_8⟩ := cz9_ BK190))
   go_ret
   exact ⟨retE_, belE_⟩
 ·
  replace c4 := Bool.eq_false_iff.mpr c4
  subst c4
  replace H := ifF_ H
  obtain rfl := Option.some.inj H
  go_enter Tryz.func77, Tryz.ntmps77
  go_wp2_with (first | ((with_reducible refine gate_dst (N := 2) rfl ?_); refine box_event ?hg (N := 2) ?hd (cs := #[.string a0_0, .string a0_1, .string a0_2, .int .i64 a0_3, .string a0_4, .string a0_5, .string a0_6, .bool a0_7, .bool a0_8]) (t := 32) ?hr ?_; (case hd => rfl); (case hg => rfl); (case hr => first | (go_simp; done) | (go_simp; rfl)); intro gb189 hg w22 hbox hb; have n0_ := belB_ hb; have n1_ := Aside0.mk (hbox); have n2_ := Aside0.mk ((by rw [hg]; exact (below_size belE_) : w.heap.size ≤ gb189)); have n3_ := Aside0.mk ((by rw [hg]; exact (below_size belE_) : w.heap.size ≤ gb189)); clear HB; have HB := n0_; have BK189 := n1_; have GW189 := n2_; have GE189 := n3_; clear n0_ n1_ n2_ n3_; clear hb hbox hg) | ((with_reducible refine gate_dst (N := 3) rfl ?_); refine box_event ?hg (N := 3) ?hd (cs := #[.string a1_0, .string a1_1, .string a1_2, .int .i64 a1_3, .string a1_4, .string a1_5, .string a1_6, .bool a1_7, .bool a1_8]) (t := 32) ?hr ?_; (case hd => rfl); (case hg => rfl); (case hr => first | (go_simp; done) | (go_simp; rfl)); intro gb190 hg w23 hbox hb; have n0_ := blkB_ (g := gb189) (o := .cells #[.string a0_0, .string a0_1, .string a0_2, .int .i64 a0_3, .string a0_4, .string a0_5, .string a0_6, .bool a0_7, .bool a0_8] 32 (0, 0)) hb; have n1_ := belB_ hb; have n2_ := Aside0.mk (hbox); have n3_ := Aside0.mk ((by rw [hg]; exact (below_size belE_) : w.heap.size ≤ gb190)); have n4_ := Aside0.mk ((by rw [hg]; exact (below_size belE_) : w.heap.size ≤ gb190)); have n5_ := Aside0.mk ((by rw [hg]; exact Nat.ne_of_lt (blk_lt (g := gb189) (o := .cells #[.string a0_0, .string a0_1, .string a0_2, .int .i64 a0_3, .string a0_4, .string a0_5, .string a0_6, .bool a0_7, .bool a0_8] 32 (0, 0)) (by (with_reducible repeat apply bd_); exact BK189.out)) : gb189 ≠ gb190)); have n6_ := Aside0.mk ((by rw [hg]; exact Nat.ne_of_gt (blk_lt (g := gb189) (o := .cells #[.string a0_0, .string a0_1, .string a0_2, .int .i64 a0_3, .string a0_4, .string a0_5, .string a0_6, .bool a0_7, .bool a0_8] 32 (0, 0)) (by (with_reducible repeat apply bd_); exact BK189.out)) : gb190 ≠ gb189)); clear BK189; clear HB; have BK189 := n0_; have HB := n1_; have BK190 := n2_; have GW190 := n3_; have GE190 := n4_; have NB189_190 := n5_; have NB190_189 := n6_; clear n0_ n1_ n2_ n3_ n4_ n5_ n6_; clear hb hbox hg; have hnb24 := NB189_190.out; have hnc24 := NB190_189.out; obtain ⟨hcz25_0, hcz25_1, hcz25_2, hcz25_3, hcz25_4, hcz25_5, hcz25_6, hcz25_7, hcz25_8, hfz25_0, hfz25_1, hfz25_2, hfz25_3, hfz25_4, hfz25_5, hfz25_6, hfz25_7, hfz25_8⟩ := cz9_ BK189) | ((with_reducible refine gate_callee (f := 61) rfl ?_); refine cU_ (some 7) Tryz.func61 #[.string a0_0] ?_; (with_reducible refine (spec_l01Web.calls a0_0 false _ A3.out).mono ?_); rintro e w' ⟨rfl, ⟨nd, rfl⟩⟩; refine ⟨_, rfl, ?_⟩))
  go_ret
  exact ⟨retE_, belE_⟩

/-! ### spec_l05Site: function 98 -/
def spec_l05Site.f (k : Nat) (a0 : ByteArray) : Option (ByteArray) := (spec_l01Parse.f k a0).bind fun bt192 => (if bt192.2.2.2.2.2.2.2.2.2 = true then ((spec_l01Web.f bt192.1).bind fun t203 => (if t203 = true then ((spec_l01Site.f k bt192.1 bt192.2.1 bt192.2.2.1 bt192.2.2.2.1 bt192.2.2.2.2.1 bt192.2.2.2.2.2.1 bt192.2.2.2.2.2.2.1 bt192.2.2.2.2.2.2.2.1 bt192.2.2.2.2.2.2.2.2.1).bind fun t204 => (some t204)) else (some bt192.1))) else (some (⟨#[]⟩ : ByteArray)))
theorem spec_l05Site.mono : ∀ a0 k, LeO (spec_l05Site.f k a0) (spec_l05Site.f (k + 1) a0) := by
  intro a0 k
  unfold spec_l05Site.f
  repeat' first
      | (with_reducible exact spec_l01Parse.mono _ _)
      | (with_reducible exact spec_l01Site.mono _ _ _ _ _ _ _ _ _ _)
      | (with_reducible exact LeO.refl _)
      | (with_reducible exact LeO.none _)
      | (with_reducible refine LeO.ite ?_ ?_)
      | (with_reducible refine LeO.bind ?_ (fun _ => ?_))
      | exact spec_l01Parse.mono _ _
      | exact spec_l01Site.mono _ _ _ _ _ _ _ _ _ _
      | exact LeO.none _
      | refine LeO.ite ?_ ?_
      | refine LeO.bind ?_ (fun _ => ?_)
set_option maxHeartbeats 40000000 in
set_option maxRecDepth 100000 in
theorem spec_l05Site.calls (k : Nat) (a0 : ByteArray) (r : ByteArray) (w : World) (h : spec_l05Site.f k a0 = some r) :
    Calls Tryz.prog 98 #[.string a0] w fun e w' => e = .returned (.string r) ∧ Below w.heap.size w w' := by
 have hu32 := Tryz.underlying32
 have HB := Aside0.mk (Below.refl w.heap.size w)
 have H : ((spec_l01Parse.f k a0).bind fun bt192 => (if bt192.2.2.2.2.2.2.2.2.2 = true then ((spec_l01Web.f bt192.1).bind fun t203 => (if t203 = true then ((spec_l01Site.f k bt192.1 bt192.2.1 bt192.2.2.1 bt192.2.2.2.1 bt192.2.2.2.2.1 bt192.2.2.2.2.2.1 bt192.2.2.2.2.2.2.1 bt192.2.2.2.2.2.2.2.1 bt192.2.2.2.2.2.2.2.2.1).bind fun t204 => (some t204)) else (some bt192.1))) else (some (⟨#[]⟩ : ByteArray)))) = some r := h
 clear h
 replace H := Option.bind_eq_some_iff.mp H
 obtain ⟨⟨t192, t193, t194, t195, t196, t197, t198, t199, t200, t201⟩, A20, H⟩ := H
 replace H : (if t201 = true then ((spec_l01Web.f t192).bind fun t203 => (if t203 = true then ((spec_l01Site.f k t192 t193 t194 t195 t196 t197 t198 t199 t200).bind fun t204 => (some t204)) else (some t192))) else (some (⟨#[]⟩ : ByteArray))) = some r := H
 have A2 := Aside0.mk A20
 clear A20
 by_cases c3 : t201 = true
 ·
  subst c3
  replace H := ifT_ H
  obtain ⟨t203, A4, H⟩ := bindE_ H
  by_cases c5 : t203 = true
  ·
   subst c5
   replace H := ifT_ H
   obtain ⟨t204, A6, H⟩ := bindE_ H
   obtain rfl := Option.some.inj H
   go_enter Tryz.func98, Tryz.ntmps98
   go_wp2_with (first | ((with_reducible refine gate_callee (f := 76) rfl ?_); refine cU_ (some 7) Tryz.func76 #[.string a0] ?_; (with_reducible refine (spec_l01Parse.calls k a0 t192 t193 t194 t195 t196 t197 t198 t199 t200 true _ A2.out).mono ?_); rintro e w7 ⟨rfl, hb⟩; refine ⟨_, rfl, ?_⟩; have n0_ := belB_ hb; clear HB; have HB := n0_; clear n0_; (try clear hb); (try clear hb2); (try clear hk); (try clear hi)) | ((with_reducible refine gate_dst (N := 3) rfl ?_); refine box_event ?hg (N := 3) ?hd (cs := #[.string ⟨#[]⟩, .string ⟨#[]⟩, .string ⟨#[]⟩, .int .i64 0, .string ⟨#[]⟩, .string ⟨#[]⟩, .string ⟨#[]⟩, .bool false, .bool false]) (t := 32) ?hr ?_; (case hd => rfl); (case hg => rfl); (case hr => first | (go_simp; done) | (go_simp; rfl)); intro gb202 hg w8 hbox hb; have n0_ := belB_ hb; have n1_ := Aside0.mk (hbox); have n2_ := Aside0.mk ((by rw [hg]; exact (below_size belE_) : w.heap.size ≤ gb202)); have n3_ := Aside0.mk ((by rw [hg]; exact (below_size belE_) : w.heap.size ≤ gb202)); clear HB; have HB := n0_; have BK202 := n1_; have GW202 := n2_; have GE202 := n3_; clear n0_ n1_ n2_ n3_; clear hb hbox hg; obtain ⟨hcz9_0, hcz9_1, hcz9_2, hcz9_3, hcz9_4, hcz9_5, hcz9_6, hcz9_7, hcz9_8, hfz9_0, hfz9_1, hfz9_2, hfz9_3, hfz9_4, hfz9_5, hfz9_6, hfz9_7, hfz9_8⟩ := cz9_ BK202) | ((with_reducible refine gate_callee (f := 61) rfl ?_); refine cU_ (some 14) Tryz.func61 #[.string t192] ?_; (with_reducible refine (spec_l01Web.calls t192 true _ A4.out).mono ?_); rintro e w' ⟨rfl, ⟨nd, rfl⟩⟩; refine ⟨_, rfl, ?_⟩) | ((with_reducible refine gate_callee (f := 62) rfl ?_); refine cU_ (some 19) Tryz.func62 #[.agg #[.string t192, .string t193, .string t194, .int .i64 t195, .string t196, .string t197, .string t198, .bool t199, .bool t200]] ?_; (with_reducible refine (spec_l01Site.calls k t192 t193 t194 t195 t196 t197 t198 t199 t200 t204 _ A6.out).mono ?_); rintro e w10 ⟨rfl, hb⟩; refine ⟨_, rfl, ?_⟩; have n0_ := Aside0.mk (blk_below (g := gb202) (o := .cells #[.string t192, .string t193, .string t194, .int .i64 t195, .string t196, .string t197, .string t198, .bool t199, .bool t200] 32 (0, 0)) (by (with_reducible repeat apply bd_); refine blk_put (cs := #[.string t192, .string t193, .string t194, .int .i64 t195, .string t196, .string t197, .string t198, .bool t199, .bool false]) ?_ 8 _ rfl; (with_reducible repeat apply bd_); refine blk_put (cs := #[.string t192, .string t193, .string t194, .int .i64 t195, .string t196, .string t197, .string t198, .bool false, .bool false]) ?_ 7 _ rfl; (with_reducible repeat apply bd_); refine blk_put (cs := #[.string t192, .string t193, .string t194, .int .i64 t195, .string t196, .string t197, .string ⟨#[]⟩, .bool false, .bool false]) ?_ 6 _ rfl; (with_reducible repeat apply bd_); refine blk_put (cs := #[.string t192, .string t193, .string t194, .int .i64 t195, .string t196, .string ⟨#[]⟩, .string ⟨#[]⟩, .bool false, .bool false]) ?_ 5 _ rfl; (with_reducible repeat apply bd_); refine blk_put (cs := #[.string t192, .string t193, .string t194, .int .i64 t195, .string ⟨#[]⟩, .string ⟨#[]⟩, .string ⟨#[]⟩, .bool false, .bool false]) ?_ 4 _ rfl; (with_reducible repeat apply bd_); refine blk_put (cs := #[.string t192, .string t193, .string t194, .int .i64 0, .string ⟨#[]⟩, .string ⟨#[]⟩, .string ⟨#[]⟩, .bool false, .bool false]) ?_ 3 _ rfl; (with_reducible repeat apply bd_); refine blk_put (cs := #[.string t192, .string t193, .string ⟨#[]⟩, .int .i64 0, .string ⟨#[]⟩, .string ⟨#[]⟩, .string ⟨#[]⟩, .bool false, .bool false]) ?_ 2 _ rfl; (with_reducible repeat apply bd_); refine blk_put (cs := #[.string t192, .string ⟨#[]⟩, .string ⟨#[]⟩, .int .i64 0, .string ⟨#[]⟩, .string ⟨#[]⟩, .string ⟨#[]⟩, .bool false, .bool false]) ?_ 1 _ rfl; (with_reducible repeat apply bd_); refine blk_put (cs := #[.string ⟨#[]⟩, .string ⟨#[]⟩, .string ⟨#[]⟩, .int .i64 0, .string ⟨#[]⟩, .string ⟨#[]⟩, .string ⟨#[]⟩, .bool false, .bool false]) ?_ 0 _ rfl; (with_reducible repeat apply bd_); exact BK202.out) hb); have n1_ := belB_ hb; clear BK202; clear HB; have BK202 := n0_; have HB := n1_; clear n0_ n1_; (try clear hb); (try clear hb2); (try clear hk); (try clear hi)))
   go_ret
   exact ⟨retE_, belE_⟩
  ·
   replace c5 := Bool.eq_false_iff.mpr c5
   subst c5
   replace H := ifF_ H
   obtain rfl := Option.some.inj H
   go_enter Tryz.func98, Tryz.ntmps98
   go_wp2_with (first | ((with_reducible refine gate_callee (f := 76) rfl ?_); refine cU_ (some 7) Tryz.func76 #[.string a0] ?_; (with_reducible refine (spec_l01Parse.calls k a0 t192 t193 t194 t195 t196 t197 t198 t199 t200 true _ A2.out).mono ?_); rintro e w11 ⟨rfl, hb⟩; refine ⟨_, rfl, ?_⟩; have n0_ := belB_ hb; clear HB; have HB := n0_; clear n0_; (try clear hb); (try clear hb2); (try clear hk); (try clear hi)) | ((with_reducible refine gate_dst (N := 3) rfl ?_); refine box_event ?hg (N := 3) ?hd (cs := #[.string ⟨#[]⟩, .string ⟨#[]⟩, .string ⟨#[]⟩, .int .i64 0, .string ⟨#[]⟩, .string ⟨#[]⟩, .string ⟨#[]⟩, .bool false, .bool false]) (t := 32) ?hr ?_; (case hd => rfl); (case hg => rfl); (case hr => first | (go_simp; done) | (go_simp; rfl)); intro gb202 hg w12 hbox hb; have n0_ := belB_ hb; have n1_ := Aside0.mk (hbox); have n2_ := Aside0.mk ((by rw [hg]; exact (below_size belE_) : w.heap.size ≤ gb202)); have n3_ := Aside0.mk ((by rw [hg]; exact (below_size belE_) : w.heap.size ≤ gb202)); clear HB; have HB := n0_; have BK202 := n1_; have GW202 := n2_; have GE202 := n3_; clear n0_ n1_ n2_ n3_; clear hb hbox hg; obtain ⟨hcz13_0, hcz13_1, hcz13_2, hcz13_3, hcz13_4, hcz13_5, hcz13_6, hcz13_7, hcz13_8, hfz13_0, hfz13_1, hfz13_2, hfz13_3, hfz13_4, hfz13_5, hfz13_6, hfz13_7, hfz13_8⟩ := cz9_ BK202) | ((with_reducible refine gate_callee (f := 61) rfl ?_); refine cU_ (some 14) Tryz.func61 #[.string t192] ?_; (with_reducible refine (spec_l01Web.calls t192 false _ A4.out).mono ?_); rintro e w' ⟨rfl, ⟨nd, rfl⟩⟩; refine ⟨_, rfl, ?_⟩))
   go_ret
   exact ⟨retE_, belE_⟩
 ·
  replace c3 := Bool.eq_false_iff.mpr c3
  subst c3
  replace H := ifF_ H
  obtain rfl := Option.some.inj H
  go_enter Tryz.func98, Tryz.ntmps98
  go_wp2_with (first | ((with_reducible refine gate_callee (f := 76) rfl ?_); refine cU_ (some 7) Tryz.func76 #[.string a0] ?_; (with_reducible refine (spec_l01Parse.calls k a0 t192 t193 t194 t195 t196 t197 t198 t199 t200 false _ A2.out).mono ?_); rintro e w14 ⟨rfl, hb⟩; refine ⟨_, rfl, ?_⟩; have n0_ := belB_ hb; clear HB; have HB := n0_; clear n0_; (try clear hb); (try clear hb2); (try clear hk); (try clear hi)) | ((with_reducible refine gate_dst (N := 3) rfl ?_); refine box_event ?hg (N := 3) ?hd (cs := #[.string ⟨#[]⟩, .string ⟨#[]⟩, .string ⟨#[]⟩, .int .i64 0, .string ⟨#[]⟩, .string ⟨#[]⟩, .string ⟨#[]⟩, .bool false, .bool false]) (t := 32) ?hr ?_; (case hd => rfl); (case hg => rfl); (case hr => first | (go_simp; done) | (go_simp; rfl)); intro gb202 hg w15 hbox hb; have n0_ := belB_ hb; have n1_ := Aside0.mk (hbox); have n2_ := Aside0.mk ((by rw [hg]; exact (below_size belE_) : w.heap.size ≤ gb202)); have n3_ := Aside0.mk ((by rw [hg]; exact (below_size belE_) : w.heap.size ≤ gb202)); clear HB; have HB := n0_; have BK202 := n1_; have GW202 := n2_; have GE202 := n3_; clear n0_ n1_ n2_ n3_; clear hb hbox hg; obtain ⟨hcz16_0, hcz16_1, hcz16_2, hcz16_3, hcz16_4, hcz16_5, hcz16_6, hcz16_7, hcz16_8, hfz16_0, hfz16_1, hfz16_2, hfz16_3, hfz16_4, hfz16_5, hfz16_6, hfz16_7, hfz16_8⟩ := cz9_ BK202))
  go_ret
  exact ⟨retE_, belE_⟩

/-! ### spec_l05Source: function 45 -/
def spec_l05Source.j0 : Nat → Bool → ByteArray → ByteArray → ByteArray → ByteArray → ByteArray → ByteArray → Int → Int → Bool → ByteArray → ByteArray → ByteArray → Int → ByteArray → ByteArray → ByteArray → Bool → Bool → Option (ByteArray)
  | 0, _, _, _, _, _, _, _, _, _, _, _, _, _, _, _, _, _, _, _ => none
  | k + 1, x30, x206000, x206001, x206002, x206003, x206004, x206005, x206006, x206007, x206008, x217000, x217001, x217002, x217003, x217004, x217005, x217006, x217007, x217008 => if x30 = true then ((spec_l05Site.f k x206003).bind fun t229 => (some t229)) else ((spec_l01Strip.f k x217000 x217001 x217002 x217003 x217004 x217005 x217006 x217007 x217008).bind fun t230 => (some t230))
def spec_l05Source.f (k : Nat) (a0_0 : ByteArray) (a0_1 : ByteArray) (a0_2 : ByteArray) (a0_3 : ByteArray) (a0_4 : ByteArray) (a0_5 : ByteArray) (a0_6 : Int) (a0_7 : Int) (a0_8 : Bool) : Option (ByteArray) := (spec_l01Parse.f k a0_3).bind fun bt206 => ((spec_l01Parse.f k a0_0).bind fun bt217 => (if bt206.2.2.2.2.2.2.2.2.2 = true then (if bt217.2.2.2.2.2.2.2.2.2 = true then ((spec_l01SameOrigin.f bt206.1 bt206.2.1 bt206.2.2.1 bt206.2.2.2.1 bt206.2.2.2.2.1 bt206.2.2.2.2.2.1 bt206.2.2.2.2.2.2.1 bt206.2.2.2.2.2.2.2.1 bt206.2.2.2.2.2.2.2.2.1 bt217.1 bt217.2.1 bt217.2.2.1 bt217.2.2.2.1 bt217.2.2.2.2.1 bt217.2.2.2.2.2.1 bt217.2.2.2.2.2.2.1 bt217.2.2.2.2.2.2.2.1 bt217.2.2.2.2.2.2.2.2.1).bind fun t228 => (spec_l05Source.j0 k (!t228) a0_0 a0_1 a0_2 a0_3 a0_4 a0_5 a0_6 a0_7 a0_8 bt206.1 bt206.2.1 bt206.2.2.1 bt206.2.2.2.1 bt206.2.2.2.2.1 bt206.2.2.2.2.2.1 bt206.2.2.2.2.2.2.1 bt206.2.2.2.2.2.2.2.1 bt206.2.2.2.2.2.2.2.2.1)) else (spec_l05Source.j0 k true a0_0 a0_1 a0_2 a0_3 a0_4 a0_5 a0_6 a0_7 a0_8 bt206.1 bt206.2.1 bt206.2.2.1 bt206.2.2.2.1 bt206.2.2.2.2.1 bt206.2.2.2.2.2.1 bt206.2.2.2.2.2.2.1 bt206.2.2.2.2.2.2.2.1 bt206.2.2.2.2.2.2.2.2.1)) else (spec_l05Source.j0 k true a0_0 a0_1 a0_2 a0_3 a0_4 a0_5 a0_6 a0_7 a0_8 bt206.1 bt206.2.1 bt206.2.2.1 bt206.2.2.2.1 bt206.2.2.2.2.1 bt206.2.2.2.2.2.1 bt206.2.2.2.2.2.2.1 bt206.2.2.2.2.2.2.2.1 bt206.2.2.2.2.2.2.2.2.1)))
theorem spec_l05Source.mono_l : ∀ k, (∀ y0 y1 y2 y3 y4 y5 y6 y7 y8 y9 y10 y11 y12 y13 y14 y15 y16 y17 y18, LeO (spec_l05Source.j0 k y0 y1 y2 y3 y4 y5 y6 y7 y8 y9 y10 y11 y12 y13 y14 y15 y16 y17 y18) (spec_l05Source.j0 (k + 1) y0 y1 y2 y3 y4 y5 y6 y7 y8 y9 y10 y11 y12 y13 y14 y15 y16 y17 y18))
  | 0 => fun _ _ _ _ _ _ _ _ _ _ _ _ _ _ _ _ _ _ _ r h => by simp [spec_l05Source.j0] at h
  | k + 1 => by
    have ih0 := spec_l05Source.mono_l k
    · intro y0 y1 y2 y3 y4 y5 y6 y7 y8 y9 y10 y11 y12 y13 y14 y15 y16 y17 y18
      unfold spec_l05Source.j0
      repeat' first
      | (with_reducible exact ih0 _ _ _ _ _ _ _ _ _ _ _ _ _ _ _ _ _ _ _)
      | (with_reducible exact spec_l01Parse.mono _ _)
      | (with_reducible exact spec_l01Strip.mono _ _ _ _ _ _ _ _ _ _)
      | (with_reducible exact spec_l05Site.mono _ _)
      | (with_reducible exact LeO.refl _)
      | (with_reducible exact LeO.none _)
      | (with_reducible refine LeO.ite ?_ ?_)
      | (with_reducible refine LeO.bind ?_ (fun _ => ?_))
      | exact ih0 _ _ _ _ _ _ _ _ _ _ _ _ _ _ _ _ _ _ _
      | exact spec_l01Parse.mono _ _
      | exact spec_l01Strip.mono _ _ _ _ _ _ _ _ _ _
      | exact spec_l05Site.mono _ _
      | exact LeO.none _
      | refine LeO.ite ?_ ?_
      | refine LeO.bind ?_ (fun _ => ?_)
theorem spec_l05Source.mono : ∀ a0 a1 a2 a3 a4 a5 a6 a7 a8 k, LeO (spec_l05Source.f k a0 a1 a2 a3 a4 a5 a6 a7 a8) (spec_l05Source.f (k + 1) a0 a1 a2 a3 a4 a5 a6 a7 a8) := by
  intro a0 a1 a2 a3 a4 a5 a6 a7 a8 k
  have ih0 := spec_l05Source.mono_l k
  unfold spec_l05Source.f
  repeat' first
      | (with_reducible exact ih0 _ _ _ _ _ _ _ _ _ _ _ _ _ _ _ _ _ _ _)
      | (with_reducible exact spec_l01Parse.mono _ _)
      | (with_reducible exact spec_l01Strip.mono _ _ _ _ _ _ _ _ _ _)
      | (with_reducible exact spec_l05Site.mono _ _)
      | (with_reducible exact LeO.refl _)
      | (with_reducible exact LeO.none _)
      | (with_reducible refine LeO.ite ?_ ?_)
      | (with_reducible refine LeO.bind ?_ (fun _ => ?_))
      | exact ih0 _ _ _ _ _ _ _ _ _ _ _ _ _ _ _ _ _ _ _
      | exact spec_l01Parse.mono _ _
      | exact spec_l01Strip.mono _ _ _ _ _ _ _ _ _ _
      | exact spec_l05Site.mono _ _
      | exact LeO.none _
      | refine LeO.ite ?_ ?_
      | refine LeO.bind ?_ (fun _ => ?_)
set_option maxHeartbeats 40000000 in
set_option maxRecDepth 100000 in
theorem spec_l05Source.calls (k : Nat) (a0_0 : ByteArray) (a0_1 : ByteArray) (a0_2 : ByteArray) (a0_3 : ByteArray) (a0_4 : ByteArray) (a0_5 : ByteArray) (a0_6 : Int) (a0_7 : Int) (a0_8 : Bool) (r : ByteArray) (w : World) (h : spec_l05Source.f k a0_0 a0_1 a0_2 a0_3 a0_4 a0_5 a0_6 a0_7 a0_8 = some r) :
    Calls Tryz.prog 45 #[.agg #[.string a0_0, .string a0_1, .string a0_2, .string a0_3, .string a0_4, .string a0_5, .int .i64 a0_6, .int .i64 a0_7, .bool a0_8]] w fun e w' => e = .returned (.string r) ∧ Below w.heap.size w w' := by
 have hu27 := Tryz.underlying27
 have hu32 := Tryz.underlying32
 have HB := Aside0.mk (Below.refl w.heap.size w)
 have H : ((spec_l01Parse.f k a0_3).bind fun bt206 => ((spec_l01Parse.f k a0_0).bind fun bt217 => (if bt206.2.2.2.2.2.2.2.2.2 = true then (if bt217.2.2.2.2.2.2.2.2.2 = true then ((spec_l01SameOrigin.f bt206.1 bt206.2.1 bt206.2.2.1 bt206.2.2.2.1 bt206.2.2.2.2.1 bt206.2.2.2.2.2.1 bt206.2.2.2.2.2.2.1 bt206.2.2.2.2.2.2.2.1 bt206.2.2.2.2.2.2.2.2.1 bt217.1 bt217.2.1 bt217.2.2.1 bt217.2.2.2.1 bt217.2.2.2.2.1 bt217.2.2.2.2.2.1 bt217.2.2.2.2.2.2.1 bt217.2.2.2.2.2.2.2.1 bt217.2.2.2.2.2.2.2.2.1).bind fun t228 => (spec_l05Source.j0 k (!t228) a0_0 a0_1 a0_2 a0_3 a0_4 a0_5 a0_6 a0_7 a0_8 bt206.1 bt206.2.1 bt206.2.2.1 bt206.2.2.2.1 bt206.2.2.2.2.1 bt206.2.2.2.2.2.1 bt206.2.2.2.2.2.2.1 bt206.2.2.2.2.2.2.2.1 bt206.2.2.2.2.2.2.2.2.1)) else (spec_l05Source.j0 k true a0_0 a0_1 a0_2 a0_3 a0_4 a0_5 a0_6 a0_7 a0_8 bt206.1 bt206.2.1 bt206.2.2.1 bt206.2.2.2.1 bt206.2.2.2.2.1 bt206.2.2.2.2.2.1 bt206.2.2.2.2.2.2.1 bt206.2.2.2.2.2.2.2.1 bt206.2.2.2.2.2.2.2.2.1)) else (spec_l05Source.j0 k true a0_0 a0_1 a0_2 a0_3 a0_4 a0_5 a0_6 a0_7 a0_8 bt206.1 bt206.2.1 bt206.2.2.1 bt206.2.2.2.1 bt206.2.2.2.2.1 bt206.2.2.2.2.2.1 bt206.2.2.2.2.2.2.1 bt206.2.2.2.2.2.2.2.1 bt206.2.2.2.2.2.2.2.2.1)))) = some r := h
 clear h
 replace H := Option.bind_eq_some_iff.mp H
 obtain ⟨⟨t206, t207, t208, t209, t210, t211, t212, t213, t214, t215⟩, A20, H⟩ := H
 replace H : ((spec_l01Parse.f k a0_0).bind fun bt217 => (if t215 = true then (if bt217.2.2.2.2.2.2.2.2.2 = true then ((spec_l01SameOrigin.f t206 t207 t208 t209 t210 t211 t212 t213 t214 bt217.1 bt217.2.1 bt217.2.2.1 bt217.2.2.2.1 bt217.2.2.2.2.1 bt217.2.2.2.2.2.1 bt217.2.2.2.2.2.2.1 bt217.2.2.2.2.2.2.2.1 bt217.2.2.2.2.2.2.2.2.1).bind fun t228 => (spec_l05Source.j0 k (!t228) a0_0 a0_1 a0_2 a0_3 a0_4 a0_5 a0_6 a0_7 a0_8 t206 t207 t208 t209 t210 t211 t212 t213 t214)) else (spec_l05Source.j0 k true a0_0 a0_1 a0_2 a0_3 a0_4 a0_5 a0_6 a0_7 a0_8 t206 t207 t208 t209 t210 t211 t212 t213 t214)) else (spec_l05Source.j0 k true a0_0 a0_1 a0_2 a0_3 a0_4 a0_5 a0_6 a0_7 a0_8 t206 t207 t208 t209 t210 t211 t212 t213 t214))) = some r := H
 have A2 := Aside0.mk A20
 clear A20
 replace H := Option.bind_eq_some_iff.mp H
 obtain ⟨⟨t217, t218, t219, t220, t221, t222, t223, t224, t225, t226⟩, A30, H⟩ := H
 replace H : (if t215 = true then (if t226 = true then ((spec_l01SameOrigin.f t206 t207 t208 t209 t210 t211 t212 t213 t214 t217 t218 t219 t220 t221 t222 t223 t224 t225).bind fun t228 => (spec_l05Source.j0 k (!t228) a0_0 a0_1 a0_2 a0_3 a0_4 a0_5 a0_6 a0_7 a0_8 t206 t207 t208 t209 t210 t211 t212 t213 t214)) else (spec_l05Source.j0 k true a0_0 a0_1 a0_2 a0_3 a0_4 a0_5 a0_6 a0_7 a0_8 t206 t207 t208 t209 t210 t211 t212 t213 t214)) else (spec_l05Source.j0 k true a0_0 a0_1 a0_2 a0_3 a0_4 a0_5 a0_6 a0_7 a0_8 t206 t207 t208 t209 t210 t211 t212 t213 t214)) = some r := H
 have A3 := Aside0.mk A30
 clear A30
 have HC4 := Aside0.mk H
 clear H
 go_enter Tryz.func45, Tryz.ntmps45
 go_upto_region 3 with (first | ((with_reducible refine gate_dst (N := 1) rfl ?_); refine box_event ?hg (N := 1) ?hd (cs := #[.string a0_0, .string a0_1, .string a0_2, .string a0_3, .string a0_4, .string a0_5, .int .i64 a0_6, .int .i64 a0_7, .bool a0_8]) (t := 27) ?hr ?_; (case hd => rfl); (case hg => rfl); (case hr => first | (go_simp; done) | (go_simp; rfl)); intro gb205 hg w5 hbox hb; have n0_ := belB_ hb; have n1_ := Aside0.mk (hbox); have n2_ := Aside0.mk ((by rw [hg]; exact (below_size belE_) : w.heap.size ≤ gb205)); have n3_ := Aside0.mk ((by rw [hg]; exact (below_size belE_) : w.heap.size ≤ gb205)); clear HB; have HB := n0_; have BK205 := n1_; have GW205 := n2_; have GE205 := n3_; clear n0_ n1_ n2_ n3_; clear hb hbox hg; obtain ⟨hcz6_0, hcz6_1, hcz6_2, hcz6_3, hcz6_4, hcz6_5, hcz6_6, hcz6_7, hcz6_8, hfz6_0, hfz6_1, hfz6_2, hfz6_3, hfz6_4, hfz6_5, hfz6_6, hfz6_7, hfz6_8⟩ := cz9_ BK205) | ((with_reducible refine gate_callee (f := 76) rfl ?_); refine cU_ (some 10) Tryz.func76 #[.string a0_3] ?_; (with_reducible refine (spec_l01Parse.calls k a0_3 t206 t207 t208 t209 t210 t211 t212 t213 t214 t215 _ A2.out).mono ?_); rintro e w7 ⟨rfl, hb⟩; refine ⟨_, rfl, ?_⟩; replace BK205 := blkK_ BK205 hb; replace HB := belB_ hb; (try clear hb)) | ((with_reducible refine gate_dst (N := 3) rfl ?_); refine box_event ?hg (N := 3) ?hd (cs := #[.string ⟨#[]⟩, .string ⟨#[]⟩, .string ⟨#[]⟩, .int .i64 0, .string ⟨#[]⟩, .string ⟨#[]⟩, .string ⟨#[]⟩, .bool false, .bool false]) (t := 32) ?hr ?_; (case hd => rfl); (case hg => rfl); (case hr => first | (go_simp; done) | (go_simp; rfl)); intro gb216 hg w8 hbox hb; have n0_ := blkB_ (g := gb205) (o := .cells #[.string a0_0, .string a0_1, .string a0_2, .string a0_3, .string a0_4, .string a0_5, .int .i64 a0_6, .int .i64 a0_7, .bool a0_8] 27 (0, 0)) hb; have n1_ := belB_ hb; have n2_ := Aside0.mk (hbox); have n3_ := Aside0.mk ((by rw [hg]; exact (below_size belE_) : w.heap.size ≤ gb216)); have n4_ := Aside0.mk ((by rw [hg]; exact (below_size belE_) : w.heap.size ≤ gb216)); have n5_ := Aside0.mk ((by rw [hg]; exact Nat.ne_of_lt (blk_lt (g := gb205) (o := .cells #[.string a0_0, .string a0_1, .string a0_2, .string a0_3, .string a0_4, .string a0_5, .int .i64 a0_6, .int .i64 a0_7, .bool a0_8] 27 (0, 0)) (by (with_reducible repeat apply bd_); exact BK205.out)) : gb205 ≠ gb216)); have n6_ := Aside0.mk ((by rw [hg]; exact Nat.ne_of_gt (blk_lt (g := gb205) (o := .cells #[.string a0_0, .string a0_1, .string a0_2, .string a0_3, .string a0_4, .string a0_5, .int .i64 a0_6, .int .i64 a0_7, .bool a0_8] 27 (0, 0)) (by (with_reducible repeat apply bd_); exact BK205.out)) : gb216 ≠ gb205)); clear BK205; clear HB; have BK205 := n0_; have HB := n1_; have BK216 := n2_; have GW216 := n3_; have GE216 := n4_; have NB205_216 := n5_; have NB216_205 := n6_; clear n0_ n1_ n2_ n3_ n4_ n5_ n6_; clear hb hbox hg; have hnb9 := NB216_205.out; have hnc9 := NB205_216.out; obtain ⟨hcz10_0, hcz10_1, hcz10_2, hcz10_3, hcz10_4, hcz10_5, hcz10_6, hcz10_7, hcz10_8, hfz10_0, hfz10_1, hfz10_2, hfz10_3, hfz10_4, hfz10_5, hfz10_6, hfz10_7, hfz10_8⟩ := cz9_ BK216; obtain ⟨hcz11_0, hcz11_1, hcz11_2, hcz11_3, hcz11_4, hcz11_5, hcz11_6, hcz11_7, hcz11_8, hfz11_0, hfz11_1, hfz11_2, hfz11_3, hfz11_4, hfz11_5, hfz11_6, hfz11_7, hfz11_8⟩ := cz9_ BK205) | ((with_reducible refine gate_callee (f := 76) rfl ?_); refine cU_ (some 16) Tryz.func76 #[.string a0_0] ?_; (with_reducible refine (spec_l01Parse.calls k a0_0 t217 t218 t219 t220 t221 t222 t223 t224 t225 t226 _ A3.out).mono ?_); rintro e w12 ⟨rfl, hb⟩; refine ⟨_, rfl, ?_⟩; have n0_ := Aside0.mk (blk_below (g := gb205) (o := .cells #[.string a0_0, .string a0_1, .string a0_2, .string a0_3, .string a0_4, .string a0_5, .int .i64 a0_6, .int .i64 a0_7, .bool a0_8] 27 (0, 0)) farE_ hb); have n1_ := Aside0.mk (blk_below (g := gb216) (o := .cells #[.string t206, .string t207, .string t208, .int .i64 t209, .string t210, .string t211, .string t212, .bool t213, .bool t214] 32 (0, 0)) (by (with_reducible repeat apply bd_); refine blk_put (cs := #[.string t206, .string t207, .string t208, .int .i64 t209, .string t210, .string t211, .string t212, .bool t213, .bool false]) ?_ 8 _ rfl; (with_reducible repeat apply bd_); refine blk_put (cs := #[.string t206, .string t207, .string t208, .int .i64 t209, .string t210, .string t211, .string t212, .bool false, .bool false]) ?_ 7 _ rfl; (with_reducible repeat apply bd_); refine blk_put (cs := #[.string t206, .string t207, .string t208, .int .i64 t209, .string t210, .string t211, .string ⟨#[]⟩, .bool false, .bool false]) ?_ 6 _ rfl; (with_reducible repeat apply bd_); refine blk_put (cs := #[.string t206, .string t207, .string t208, .int .i64 t209, .string t210, .string ⟨#[]⟩, .string ⟨#[]⟩, .bool false, .bool false]) ?_ 5 _ rfl; (with_reducible repeat apply bd_); refine blk_put (cs := #[.string t206, .string t207, .string t208, .int .i64 t209, .string ⟨#[]⟩, .string ⟨#[]⟩, .string ⟨#[]⟩, .bool false, .bool false]) ?_ 4 _ rfl; (with_reducible repeat apply bd_); refine blk_put (cs := #[.string t206, .string t207, .string t208, .int .i64 0, .string ⟨#[]⟩, .string ⟨#[]⟩, .string ⟨#[]⟩, .bool false, .bool false]) ?_ 3 _ rfl; (with_reducible repeat apply bd_); refine blk_put (cs := #[.string t206, .string t207, .string ⟨#[]⟩, .int .i64 0, .string ⟨#[]⟩, .string ⟨#[]⟩, .string ⟨#[]⟩, .bool false, .bool false]) ?_ 2 _ rfl; (with_reducible repeat apply bd_); refine blk_put (cs := #[.string t206, .string ⟨#[]⟩, .string ⟨#[]⟩, .int .i64 0, .string ⟨#[]⟩, .string ⟨#[]⟩, .string ⟨#[]⟩, .bool false, .bool false]) ?_ 1 _ rfl; (with_reducible repeat apply bd_); refine blk_put (cs := #[.string ⟨#[]⟩, .string ⟨#[]⟩, .string ⟨#[]⟩, .int .i64 0, .string ⟨#[]⟩, .string ⟨#[]⟩, .string ⟨#[]⟩, .bool false, .bool false]) ?_ 0 _ rfl; (with_reducible repeat apply bd_); exact BK216.out) hb); have n2_ := Aside0.mk (below_step belE_ hb); clear BK205; clear BK216; clear HB; have BK205 := n0_; have BK216 := n1_; have HB := n2_; clear n0_ n1_ n2_; (try clear hb); (try clear hb2); (try clear hk); (try clear hi)) | ((with_reducible refine gate_dst (N := 5) rfl ?_); refine box_event ?hg (N := 5) ?hd (cs := #[.string ⟨#[]⟩, .string ⟨#[]⟩, .string ⟨#[]⟩, .int .i64 0, .string ⟨#[]⟩, .string ⟨#[]⟩, .string ⟨#[]⟩, .bool false, .bool false]) (t := 32) ?hr ?_; (case hd => rfl); (case hg => rfl); (case hr => first | (go_simp; done) | (go_simp; rfl)); intro gb227 hg w13 hbox hb; have n0_ := blkB_ (g := gb205) (o := .cells #[.string a0_0, .string a0_1, .string a0_2, .string a0_3, .string a0_4, .string a0_5, .int .i64 a0_6, .int .i64 a0_7, .bool a0_8] 27 (0, 0)) hb; have n1_ := blkB_ (g := gb216) (o := .cells #[.string t206, .string t207, .string t208, .int .i64 t209, .string t210, .string t211, .string t212, .bool t213, .bool t214] 32 (0, 0)) hb; have n2_ := Aside0.mk (below_step belE_ hb); have n3_ := Aside0.mk (hbox); have n4_ := Aside0.mk ((by rw [hg]; exact (below_size belE_) : w.heap.size ≤ gb227)); have n5_ := Aside0.mk ((by rw [hg]; exact (below_size belE_) : w.heap.size ≤ gb227)); have n6_ := Aside0.mk ((by rw [hg]; exact Nat.ne_of_lt (blk_lt (g := gb205) (o := .cells #[.string a0_0, .string a0_1, .string a0_2, .string a0_3, .string a0_4, .string a0_5, .int .i64 a0_6, .int .i64 a0_7, .bool a0_8] 27 (0, 0)) (by (with_reducible repeat apply bd_); exact BK205.out)) : gb205 ≠ gb227)); have n7_ := Aside0.mk ((by rw [hg]; exact Nat.ne_of_gt (blk_lt (g := gb205) (o := .cells #[.string a0_0, .string a0_1, .string a0_2, .string a0_3, .string a0_4, .string a0_5, .int .i64 a0_6, .int .i64 a0_7, .bool a0_8] 27 (0, 0)) (by (with_reducible repeat apply bd_); exact BK205.out)) : gb227 ≠ gb205)); have n8_ := Aside0.mk ((by rw [hg]; exact Nat.ne_of_lt (blk_lt (g := gb216) (o := .cells #[.string t206, .string t207, .string t208, .int .i64 t209, .string t210, .string t211, .string t212, .bool t213, .bool t214] 32 (0, 0)) (by (with_reducible repeat apply bd_); exact BK216.out)) : gb216 ≠ gb227)); have n9_ := Aside0.mk ((by rw [hg]; exact Nat.ne_of_gt (blk_lt (g := gb216) (o := .cells #[.string t206, .string t207, .string t208, .int .i64 t209, .string t210, .string t211, .string t212, .bool t213, .bool t214] 32 (0, 0)) (by (with_reducible repeat apply bd_); exact BK216.out)) : gb227 ≠ gb216)); clear BK205; clear BK216; clear HB; have BK205 := n0_; have BK216 := n1_; have HB := n2_; have BK227 := n3_; have GW227 := n4_; have GE227 := n5_; have NB205_227 := n6_; have NB227_205 := n7_; have NB216_227 := n8_; have NB227_216 := n9_; clear n0_ n1_ n2_ n3_ n4_ n5_ n6_ n7_ n8_ n9_; clear hb hbox hg; have hnb14 := NB227_205.out; have hnc14 := NB205_227.out; have hnb15 := NB227_216.out; have hnc15 := NB216_227.out; obtain ⟨hcz16_0, hcz16_1, hcz16_2, hcz16_3, hcz16_4, hcz16_5, hcz16_6, hcz16_7, hcz16_8, hfz16_0, hfz16_1, hfz16_2, hfz16_3, hfz16_4, hfz16_5, hfz16_6, hfz16_7, hfz16_8⟩ := cz9_ BK227))
 (try simp only [Act.put, List.setIfInBounds_toArray, List.set_cons_zero, List.set_cons_succ])
 go_cut [30] (fun v30 wc => ∃ (kq : Nat) (x30_3 : Bool), v30 = .bool x30_3 ∧ Aside0 (spec_l05Source.j0 kq x30_3 a0_0 a0_1 a0_2 a0_3 a0_4 a0_5 a0_6 a0_7 a0_8 t206 t207 t208 t209 t210 t211 t212 t213 t214 = some r) ∧ Aside0 (kq ≤ k) ∧ Aside0 (wc.heap[gb205]? = some (.cells #[.string a0_0, .string a0_1, .string a0_2, .string a0_3, .string a0_4, .string a0_5, .int .i64 a0_6, .int .i64 a0_7, .bool a0_8] 27 (0, 0))) ∧ Aside0 (wc.heap[gb216]? = some (.cells #[.string t206, .string t207, .string t208, .int .i64 t209, .string t210, .string t211, .string t212, .bool t213, .bool t214] 32 (0, 0))) ∧ Aside0 (wc.heap[gb227]? = some (.cells #[.string t217, .string t218, .string t219, .int .i64 t220, .string t221, .string t222, .string t223, .bool t224, .bool t225] 32 (0, 0))) ∧ Aside0 (Below w.heap.size w wc))
 case first =>
  have H := HC4.out
  clear HC4
  by_cases c17 : t215 = true
  ·
   subst c17
   replace H := ifT_ H
   by_cases c18 : t226 = true
   ·
    subst c18
    replace H := ifT_ H
    obtain ⟨t228, A19, H⟩ := bindE_ H
    have H' := Aside0.mk H
    clear H
    have hnb20 := NB216_205.out
    have hnc20 := NB205_216.out
    have hnb21 := NB216_227.out
    have hnc21 := NB227_216.out
    obtain ⟨hcz22_0, hcz22_1, hcz22_2, hcz22_3, hcz22_4, hcz22_5, hcz22_6, hcz22_7, hcz22_8, hfz22_0, hfz22_1, hfz22_2, hfz22_3, hfz22_4, hfz22_5, hfz22_6, hfz22_7, hfz22_8⟩ := cz9_ BK216
    have hnb23 := NB227_205.out
    have hnc23 := NB205_227.out
    obtain ⟨hcz24_0, hcz24_1, hcz24_2, hcz24_3, hcz24_4, hcz24_5, hcz24_6, hcz24_7, hcz24_8, hfz24_0, hfz24_1, hfz24_2, hfz24_3, hfz24_4, hfz24_5, hfz24_6, hfz24_7, hfz24_8⟩ := cz9_ BK227
    go_wp2_with (first | (go_at_call 77; (with_reducible refine (spec_l01SameOrigin.calls t206 t207 t208 t209 t210 t211 t212 t213 t214 t217 t218 t219 t220 t221 t222 t223 t224 t225 t228 _ A19.out).mono ?_); rintro e w25 ⟨rfl, hb⟩; have n0_ := Aside0.mk (blk_below (g := gb205) (o := .cells #[.string a0_0, .string a0_1, .string a0_2, .string a0_3, .string a0_4, .string a0_5, .int .i64 a0_6, .int .i64 a0_7, .bool a0_8] 27 (0, 0)) farE_ hb); have n1_ := Aside0.mk (blk_below (g := gb216) (o := .cells #[.string t206, .string t207, .string t208, .int .i64 t209, .string t210, .string t211, .string t212, .bool t213, .bool t214] 32 (0, 0)) farE_ hb); have n2_ := Aside0.mk (blk_below (g := gb227) (o := .cells #[.string t217, .string t218, .string t219, .int .i64 t220, .string t221, .string t222, .string t223, .bool t224, .bool t225] 32 (0, 0)) (by (with_reducible repeat apply bd_); refine blk_put (cs := #[.string t217, .string t218, .string t219, .int .i64 t220, .string t221, .string t222, .string t223, .bool t224, .bool false]) ?_ 8 _ rfl; (with_reducible repeat apply bd_); refine blk_put (cs := #[.string t217, .string t218, .string t219, .int .i64 t220, .string t221, .string t222, .string t223, .bool false, .bool false]) ?_ 7 _ rfl; (with_reducible repeat apply bd_); refine blk_put (cs := #[.string t217, .string t218, .string t219, .int .i64 t220, .string t221, .string t222, .string ⟨#[]⟩, .bool false, .bool false]) ?_ 6 _ rfl; (with_reducible repeat apply bd_); refine blk_put (cs := #[.string t217, .string t218, .string t219, .int .i64 t220, .string t221, .string ⟨#[]⟩, .string ⟨#[]⟩, .bool false, .bool false]) ?_ 5 _ rfl; (with_reducible repeat apply bd_); refine blk_put (cs := #[.string t217, .string t218, .string t219, .int .i64 t220, .string ⟨#[]⟩, .string ⟨#[]⟩, .string ⟨#[]⟩, .bool false, .bool false]) ?_ 4 _ rfl; (with_reducible repeat apply bd_); refine blk_put (cs := #[.string t217, .string t218, .string t219, .int .i64 0, .string ⟨#[]⟩, .string ⟨#[]⟩, .string ⟨#[]⟩, .bool false, .bool false]) ?_ 3 _ rfl; (with_reducible repeat apply bd_); refine blk_put (cs := #[.string t217, .string t218, .string ⟨#[]⟩, .int .i64 0, .string ⟨#[]⟩, .string ⟨#[]⟩, .string ⟨#[]⟩, .bool false, .bool false]) ?_ 2 _ rfl; (with_reducible repeat apply bd_); refine blk_put (cs := #[.string t217, .string ⟨#[]⟩, .string ⟨#[]⟩, .int .i64 0, .string ⟨#[]⟩, .string ⟨#[]⟩, .string ⟨#[]⟩, .bool false, .bool false]) ?_ 1 _ rfl; (with_reducible repeat apply bd_); refine blk_put (cs := #[.string ⟨#[]⟩, .string ⟨#[]⟩, .string ⟨#[]⟩, .int .i64 0, .string ⟨#[]⟩, .string ⟨#[]⟩, .string ⟨#[]⟩, .bool false, .bool false]) ?_ 0 _ rfl; (with_reducible repeat apply bd_); exact BK227.out) hb); have n3_ := Aside0.mk (below_step belE_ hb); clear BK205; clear BK216; clear BK227; clear HB; have BK205 := n0_; have BK216 := n1_; have BK227 := n2_; have HB := n3_; clear n0_ n1_ n2_ n3_; (try clear hb); (try clear hb2); (try clear hk); (try clear hi)))
    go_meet
    case rel => exact ⟨_, (!t228), eqE_, H', ⟨leE_⟩, ⟨blkE_⟩, ⟨blkE_⟩, ⟨blkE_⟩, ⟨belE_⟩⟩
   ·
    replace c18 := Bool.eq_false_iff.mpr c18
    subst c18
    replace H := ifF_ H
    have H' := Aside0.mk H
    clear H
    go_wp2
    go_meet
    case rel => exact ⟨_, (true), eqE_, H', ⟨leE_⟩, ⟨farE_⟩, ⟨farE_⟩, ⟨by (with_reducible repeat apply bd_); refine blk_put (cs := #[.string t217, .string t218, .string t219, .int .i64 t220, .string t221, .string t222, .string t223, .bool t224, .bool false]) ?_ 8 _ rfl; (with_reducible repeat apply bd_); refine blk_put (cs := #[.string t217, .string t218, .string t219, .int .i64 t220, .string t221, .string t222, .string t223, .bool false, .bool false]) ?_ 7 _ rfl; (with_reducible repeat apply bd_); refine blk_put (cs := #[.string t217, .string t218, .string t219, .int .i64 t220, .string t221, .string t222, .string ⟨#[]⟩, .bool false, .bool false]) ?_ 6 _ rfl; (with_reducible repeat apply bd_); refine blk_put (cs := #[.string t217, .string t218, .string t219, .int .i64 t220, .string t221, .string ⟨#[]⟩, .string ⟨#[]⟩, .bool false, .bool false]) ?_ 5 _ rfl; (with_reducible repeat apply bd_); refine blk_put (cs := #[.string t217, .string t218, .string t219, .int .i64 t220, .string ⟨#[]⟩, .string ⟨#[]⟩, .string ⟨#[]⟩, .bool false, .bool false]) ?_ 4 _ rfl; (with_reducible repeat apply bd_); refine blk_put (cs := #[.string t217, .string t218, .string t219, .int .i64 0, .string ⟨#[]⟩, .string ⟨#[]⟩, .string ⟨#[]⟩, .bool false, .bool false]) ?_ 3 _ rfl; (with_reducible repeat apply bd_); refine blk_put (cs := #[.string t217, .string t218, .string ⟨#[]⟩, .int .i64 0, .string ⟨#[]⟩, .string ⟨#[]⟩, .string ⟨#[]⟩, .bool false, .bool false]) ?_ 2 _ rfl; (with_reducible repeat apply bd_); refine blk_put (cs := #[.string t217, .string ⟨#[]⟩, .string ⟨#[]⟩, .int .i64 0, .string ⟨#[]⟩, .string ⟨#[]⟩, .string ⟨#[]⟩, .bool false, .bool false]) ?_ 1 _ rfl; (with_reducible repeat apply bd_); refine blk_put (cs := #[.string ⟨#[]⟩, .string ⟨#[]⟩, .string ⟨#[]⟩, .int .i64 0, .string ⟨#[]⟩, .string ⟨#[]⟩, .string ⟨#[]⟩, .bool false, .bool false]) ?_ 0 _ rfl; (with_reducible repeat apply bd_); exact BK227.out⟩, ⟨belE_⟩⟩
  ·
   replace c17 := Bool.eq_false_iff.mpr c17
   subst c17
   replace H := ifF_ H
   have H' := Aside0.mk H
   clear H
   go_wp2
   go_meet
   case rel => exact ⟨_, (true), eqE_, H', ⟨leE_⟩, ⟨farE_⟩, ⟨farE_⟩, ⟨by (with_reducible repeat apply bd_); refine blk_put (cs := #[.string t217, .string t218, .string t219, .int .i64 t220, .string t221, .string t222, .string t223, .bool t224, .bool false]) ?_ 8 _ rfl; (with_reducible repeat apply bd_); refine blk_put (cs := #[.string t217, .string t218, .string t219, .int .i64 t220, .string t221, .string t222, .string t223, .bool false, .bool false]) ?_ 7 _ rfl; (with_reducible repeat apply bd_); refine blk_put (cs := #[.string t217, .string t218, .string t219, .int .i64 t220, .string t221, .string t222, .string ⟨#[]⟩, .bool false, .bool false]) ?_ 6 _ rfl; (with_reducible repeat apply bd_); refine blk_put (cs := #[.string t217, .string t218, .string t219, .int .i64 t220, .string t221, .string ⟨#[]⟩, .string ⟨#[]⟩, .bool false, .bool false]) ?_ 5 _ rfl; (with_reducible repeat apply bd_); refine blk_put (cs := #[.string t217, .string t218, .string t219, .int .i64 t220, .string ⟨#[]⟩, .string ⟨#[]⟩, .string ⟨#[]⟩, .bool false, .bool false]) ?_ 4 _ rfl; (with_reducible repeat apply bd_); refine blk_put (cs := #[.string t217, .string t218, .string t219, .int .i64 0, .string ⟨#[]⟩, .string ⟨#[]⟩, .string ⟨#[]⟩, .bool false, .bool false]) ?_ 3 _ rfl; (with_reducible repeat apply bd_); refine blk_put (cs := #[.string t217, .string t218, .string ⟨#[]⟩, .int .i64 0, .string ⟨#[]⟩, .string ⟨#[]⟩, .string ⟨#[]⟩, .bool false, .bool false]) ?_ 2 _ rfl; (with_reducible repeat apply bd_); refine blk_put (cs := #[.string t217, .string ⟨#[]⟩, .string ⟨#[]⟩, .int .i64 0, .string ⟨#[]⟩, .string ⟨#[]⟩, .string ⟨#[]⟩, .bool false, .bool false]) ?_ 1 _ rfl; (with_reducible repeat apply bd_); refine blk_put (cs := #[.string ⟨#[]⟩, .string ⟨#[]⟩, .string ⟨#[]⟩, .int .i64 0, .string ⟨#[]⟩, .string ⟨#[]⟩, .string ⟨#[]⟩, .bool false, .bool false]) ?_ 0 _ rfl; (with_reducible repeat apply bd_); exact BK227.out⟩, ⟨belE_⟩⟩
 case rest =>
  clear HC4
  try clear hcz10_0 hcz10_1 hcz10_2 hcz10_3 hcz10_4 hcz10_5 hcz10_6 hcz10_7 hcz10_8
  try clear hcz11_0 hcz11_1 hcz11_2 hcz11_3 hcz11_4 hcz11_5 hcz11_6 hcz11_7 hcz11_8
  try clear hcz16_0 hcz16_1 hcz16_2 hcz16_3 hcz16_4 hcz16_5 hcz16_6 hcz16_7 hcz16_8
  try clear hcz6_0 hcz6_1 hcz6_2 hcz6_3 hcz6_4 hcz6_5 hcz6_6 hcz6_7 hcz6_8
  try clear hfz10_0 hfz10_1 hfz10_2 hfz10_3 hfz10_4 hfz10_5 hfz10_6 hfz10_7 hfz10_8
  try clear hfz11_0 hfz11_1 hfz11_2 hfz11_3 hfz11_4 hfz11_5 hfz11_6 hfz11_7 hfz11_8
  try clear hfz16_0 hfz16_1 hfz16_2 hfz16_3 hfz16_4 hfz16_5 hfz16_6 hfz16_7 hfz16_8
  try clear hfz6_0 hfz6_1 hfz6_2 hfz6_3 hfz6_4 hfz6_5 hfz6_6 hfz6_7 hfz6_8
  obtain ⟨kq, x30_3, rfl, HA, HJ3, BK205, BK216, BK227, HB⟩ := hcut
  cases kq with
  | zero => exact absurd HA.out (by simp [spec_l05Source.j0])
  | succ kj3 =>
   have H := HA.out
   clear HA
   simp only [spec_l05Source.j0] at H
   by_cases c26 : x30_3 = true
   ·
    subst c26
    replace H := ifT_ H
    obtain ⟨t229, A27, H⟩ := bindE_ H
    obtain rfl := Option.some.inj H
    have hnb28 := NB205_216.out
    have hnc28 := NB216_205.out
    have hnb29 := NB205_227.out
    have hnc29 := NB227_205.out
    obtain ⟨hcz30_0, hcz30_1, hcz30_2, hcz30_3, hcz30_4, hcz30_5, hcz30_6, hcz30_7, hcz30_8, hfz30_0, hfz30_1, hfz30_2, hfz30_3, hfz30_4, hfz30_5, hfz30_6, hfz30_7, hfz30_8⟩ := cz9_ BK205
    go_wp2_with (first | ((with_reducible refine gate_callee (f := 98) rfl ?_); refine cU_ (some 33) Tryz.func98 #[.string a0_3] ?_; (with_reducible refine (spec_l05Site.calls kj3 a0_3 t229 _ A27.out).mono ?_); rintro e w31 ⟨rfl, hb⟩; refine ⟨_, rfl, ?_⟩; have n0_ := blkB_ (g := gb205) (o := .cells #[.string a0_0, .string a0_1, .string a0_2, .string a0_3, .string a0_4, .string a0_5, .int .i64 a0_6, .int .i64 a0_7, .bool a0_8] 27 (0, 0)) hb; have n1_ := blkB_ (g := gb216) (o := .cells #[.string t206, .string t207, .string t208, .int .i64 t209, .string t210, .string t211, .string t212, .bool t213, .bool t214] 32 (0, 0)) hb; have n2_ := blkB_ (g := gb227) (o := .cells #[.string t217, .string t218, .string t219, .int .i64 t220, .string t221, .string t222, .string t223, .bool t224, .bool t225] 32 (0, 0)) hb; have n3_ := Aside0.mk (below_step belE_ hb); clear BK205; clear BK216; clear BK227; clear HB; have BK205 := n0_; have BK216 := n1_; have BK227 := n2_; have HB := n3_; clear n0_ n1_ n2_ n3_; (try clear hb); (try clear hb2); (try clear hk); (try clear hi)))
    go_ret
    exact ⟨retE_, belE_⟩
   ·
    replace c26 := Bool.eq_false_iff.mpr c26
    subst c26
    replace H := ifF_ H
    obtain ⟨t230, A32, H⟩ := bindE_ H
    obtain rfl := Option.some.inj H
    have hnb33 := NB216_205.out
    have hnc33 := NB205_216.out
    have hnb34 := NB216_227.out
    have hnc34 := NB227_216.out
    obtain ⟨hcz35_0, hcz35_1, hcz35_2, hcz35_3, hcz35_4, hcz35_5, hcz35_6, hcz35_7, hcz35_8, hfz35_0, hfz35_1, hfz35_2, hfz35_3, hfz35_4, hfz35_5, hfz35_6, hfz35_7, hfz35_8⟩ := cz9_ BK216
    go_wp2_with (first | ((with_reducible refine gate_callee (f := 54) rfl ?_); refine cU_ (some 35) Tryz.func54 #[.agg #[.string t206, .string t207, .string t208, .int .i64 t209, .string t210, .string t211, .string t212, .bool t213, .bool t214]] ?_; (with_reducible refine (spec_l01Strip.calls kj3 t206 t207 t208 t209 t210 t211 t212 t213 t214 t230 _ A32.out).mono ?_); rintro e w36 ⟨rfl, hb⟩; refine ⟨_, rfl, ?_⟩; have n0_ := blkB_ (g := gb205) (o := .cells #[.string a0_0, .string a0_1, .string a0_2, .string a0_3, .string a0_4, .string a0_5, .int .i64 a0_6, .int .i64 a0_7, .bool a0_8] 27 (0, 0)) hb; have n1_ := blkB_ (g := gb216) (o := .cells #[.string t206, .string t207, .string t208, .int .i64 t209, .string t210, .string t211, .string t212, .bool t213, .bool t214] 32 (0, 0)) hb; have n2_ := blkB_ (g := gb227) (o := .cells #[.string t217, .string t218, .string t219, .int .i64 t220, .string t221, .string t222, .string t223, .bool t224, .bool t225] 32 (0, 0)) hb; have n3_ := Aside0.mk (below_step belE_ hb); clear BK205; clear BK216; clear BK227; clear HB; have BK205 := n0_; have BK216 := n1_; have BK227 := n2_; have HB := n3_; clear n0_ n1_ n2_ n3_; (try clear hb); (try clear hb2); (try clear hk); (try clear hi)))
    go_ret
    exact ⟨retE_, belE_⟩

/-! ### spec_SourcePart: function 11 -/
def spec_SourcePart.f (k : Nat) (a0_0 : ByteArray) (a0_1 : ByteArray) (a0_2 : ByteArray) (a0_3 : ByteArray) (a0_4 : ByteArray) (a0_5 : ByteArray) (a0_6 : Int) (a0_7 : Int) (a0_8 : Bool) : Option (ByteArray × Int) := (spec_l05OK.f k a0_0 a0_1 a0_2 a0_3 a0_4 a0_5 a0_6 a0_7 a0_8).bind fun t232 => (if t232 = true then ((spec_l05Source.f k a0_0 a0_1 a0_2 a0_3 a0_4 a0_5 a0_6 a0_7 a0_8).bind fun t233 => (some (t233, 0))) else (some ((⟨#[]⟩ : ByteArray), 1)))
theorem spec_SourcePart.mono : ∀ a0 a1 a2 a3 a4 a5 a6 a7 a8 k, LeO (spec_SourcePart.f k a0 a1 a2 a3 a4 a5 a6 a7 a8) (spec_SourcePart.f (k + 1) a0 a1 a2 a3 a4 a5 a6 a7 a8) := by
  intro a0 a1 a2 a3 a4 a5 a6 a7 a8 k
  unfold spec_SourcePart.f
  repeat' first
      | (with_reducible exact spec_l05OK.mono _ _ _ _ _ _ _ _ _ _)
      | (with_reducible exact spec_l05Source.mono _ _ _ _ _ _ _ _ _ _)
      | (with_reducible exact LeO.refl _)
      | (with_reducible exact LeO.none _)
      | (with_reducible refine LeO.ite ?_ ?_)
      | (with_reducible refine LeO.bind ?_ (fun _ => ?_))
      | exact spec_l05OK.mono _ _ _ _ _ _ _ _ _ _
      | exact spec_l05Source.mono _ _ _ _ _ _ _ _ _ _
      | exact LeO.none _
      | refine LeO.ite ?_ ?_
      | refine LeO.bind ?_ (fun _ => ?_)
set_option maxHeartbeats 40000000 in
set_option maxRecDepth 100000 in
theorem spec_SourcePart.calls (k : Nat) (a0_0 : ByteArray) (a0_1 : ByteArray) (a0_2 : ByteArray) (a0_3 : ByteArray) (a0_4 : ByteArray) (a0_5 : ByteArray) (a0_6 : Int) (a0_7 : Int) (a0_8 : Bool) (r1 : ByteArray) (r2 : Int) (w : World) (h : spec_SourcePart.f k a0_0 a0_1 a0_2 a0_3 a0_4 a0_5 a0_6 a0_7 a0_8 = some (r1, r2)) :
    Calls Tryz.prog 11 #[.agg #[.string a0_0, .string a0_1, .string a0_2, .string a0_3, .string a0_4, .string a0_5, .int .i64 a0_6, .int .i64 a0_7, .bool a0_8]] w fun e w' => e = .returned (.tuple #[.string r1, .int .i64 r2]) ∧ Below w.heap.size w w' := by
 have hu27 := Tryz.underlying27
 have HB := Aside0.mk (Below.refl w.heap.size w)
 have H : ((spec_l05OK.f k a0_0 a0_1 a0_2 a0_3 a0_4 a0_5 a0_6 a0_7 a0_8).bind fun t232 => (if t232 = true then ((spec_l05Source.f k a0_0 a0_1 a0_2 a0_3 a0_4 a0_5 a0_6 a0_7 a0_8).bind fun t233 => (some (t233, 0))) else (some ((⟨#[]⟩ : ByteArray), 1)))) = some (r1, r2) := h
 clear h
 obtain ⟨t232, A2, H⟩ := bindE_ H
 by_cases c3 : t232 = true
 ·
  subst c3
  replace H := ifT_ H
  obtain ⟨t233, A4, H⟩ := bindE_ H
  simp only [Option.some.injEq, Prod.mk.injEq] at H
  obtain ⟨rfl, rfl⟩ := H
  go_enter Tryz.func11, Tryz.ntmps11
  go_wp2_with (first | ((with_reducible refine gate_dst (N := 1) rfl ?_); refine box_event ?hg (N := 1) ?hd (cs := #[.string a0_0, .string a0_1, .string a0_2, .string a0_3, .string a0_4, .string a0_5, .int .i64 a0_6, .int .i64 a0_7, .bool a0_8]) (t := 27) ?hr ?_; (case hd => rfl); (case hg => rfl); (case hr => first | (go_simp; done) | (go_simp; rfl)); intro gb231 hg w5 hbox hb; have n0_ := belB_ hb; have n1_ := Aside0.mk (hbox); have n2_ := Aside0.mk ((by rw [hg]; exact (below_size belE_) : w.heap.size ≤ gb231)); have n3_ := Aside0.mk ((by rw [hg]; exact (below_size belE_) : w.heap.size ≤ gb231)); clear HB; have HB := n0_; have BK231 := n1_; have GW231 := n2_; have GE231 := n3_; clear n0_ n1_ n2_ n3_; clear hb hbox hg; obtain ⟨hcz6_0, hcz6_1, hcz6_2, hcz6_3, hcz6_4, hcz6_5, hcz6_6, hcz6_7, hcz6_8, hfz6_0, hfz6_1, hfz6_2, hfz6_3, hfz6_4, hfz6_5, hfz6_6, hfz6_7, hfz6_8⟩ := cz9_ BK231) | ((with_reducible refine gate_callee (f := 44) rfl ?_); refine cU_ (some 5) Tryz.func44 #[.agg #[.string a0_0, .string a0_1, .string a0_2, .string a0_3, .string a0_4, .string a0_5, .int .i64 a0_6, .int .i64 a0_7, .bool a0_8]] ?_; (with_reducible refine (spec_l05OK.calls k a0_0 a0_1 a0_2 a0_3 a0_4 a0_5 a0_6 a0_7 a0_8 true _ A2.out).mono ?_); rintro e w7 ⟨rfl, hb⟩; refine ⟨_, rfl, ?_⟩; replace BK231 := blkK_ BK231 hb; replace HB := belB_ hb; (try clear hb); obtain ⟨hcz8_0, hcz8_1, hcz8_2, hcz8_3, hcz8_4, hcz8_5, hcz8_6, hcz8_7, hcz8_8, hfz8_0, hfz8_1, hfz8_2, hfz8_3, hfz8_4, hfz8_5, hfz8_6, hfz8_7, hfz8_8⟩ := cz9_ BK231) | ((with_reducible refine gate_callee (f := 45) rfl ?_); refine cU_ (some 8) Tryz.func45 #[.agg #[.string a0_0, .string a0_1, .string a0_2, .string a0_3, .string a0_4, .string a0_5, .int .i64 a0_6, .int .i64 a0_7, .bool a0_8]] ?_; (with_reducible refine (spec_l05Source.calls k a0_0 a0_1 a0_2 a0_3 a0_4 a0_5 a0_6 a0_7 a0_8 t233 _ A4.out).mono ?_); rintro e w9 ⟨rfl, hb⟩; refine ⟨_, rfl, ?_⟩; replace BK231 := blkK_ BK231 hb; replace HB := belB_ hb; (try clear hb)))
  go_ret2
  exact ⟨retE_, belE_⟩
 ·
  replace c3 := Bool.eq_false_iff.mpr c3
  subst c3
  replace H := ifF_ H
  simp only [Option.some.injEq, Prod.mk.injEq] at H
  obtain ⟨rfl, rfl⟩ := H
  go_enter Tryz.func11, Tryz.ntmps11
  go_wp2_with (first | ((with_reducible refine gate_dst (N := 1) rfl ?_); refine box_event ?hg (N := 1) ?hd (cs := #[.string a0_0, .string a0_1, .string a0_2, .string a0_3, .string a0_4, .string a0_5, .int .i64 a0_6, .int .i64 a0_7, .bool a0_8]) (t := 27) ?hr ?_; (case hd => rfl); (case hg => rfl); (case hr => first | (go_simp; done) | (go_simp; rfl)); intro gb231 hg w10 hbox hb; have n0_ := belB_ hb; have n1_ := Aside0.mk (hbox); have n2_ := Aside0.mk ((by rw [hg]; exact (below_size belE_) : w.heap.size ≤ gb231)); have n3_ := Aside0.mk ((by rw [hg]; exact (below_size belE_) : w.heap.size ≤ gb231)); clear HB; have HB := n0_; have BK231 := n1_; have GW231 := n2_; have GE231 := n3_; clear n0_ n1_ n2_ n3_; clear hb hbox hg; obtain ⟨hcz11_0, hcz11_1, hcz11_2, hcz11_3, hcz11_4, hcz11_5, hcz11_6, hcz11_7, hcz11_8, hfz11_0, hfz11_1, hfz11_2, hfz11_3, hfz11_4, hfz11_5, hfz11_6, hfz11_7, hfz11_8⟩ := cz9_ BK231) | ((with_reducible refine gate_callee (f := 44) rfl ?_); refine cU_ (some 5) Tryz.func44 #[.agg #[.string a0_0, .string a0_1, .string a0_2, .string a0_3, .string a0_4, .string a0_5, .int .i64 a0_6, .int .i64 a0_7, .bool a0_8]] ?_; (with_reducible refine (spec_l05OK.calls k a0_0 a0_1 a0_2 a0_3 a0_4 a0_5 a0_6 a0_7 a0_8 false _ A2.out).mono ?_); rintro e w12 ⟨rfl, hb⟩; refine ⟨_, rfl, ?_⟩; replace BK231 := blkK_ BK231 hb; replace HB := belB_ hb; (try clear hb)))
  go_ret2
  exact ⟨retE_, belE_⟩

/-! ### laws_toViolation: function 12 -/
def laws_toViolation.f (a0_0 : ByteArray) (a0_1 : ByteArray) (a0_2 : ByteArray) (a0_3 : ByteArray) (a0_4 : ByteArray) (a0_5 : ByteArray) (a0_6 : Int) (a0_7 : Int) (a0_8 : Bool) : Option (ByteArray × ByteArray × ByteArray × ByteArray × ByteArray × ByteArray × Int × Int × Bool) := some (a0_0, a0_1, a0_2, a0_3, a0_4, a0_5, a0_6, a0_7, a0_8)
set_option maxHeartbeats 40000000 in
set_option maxRecDepth 100000 in
theorem laws_toViolation.calls (a0_0 : ByteArray) (a0_1 : ByteArray) (a0_2 : ByteArray) (a0_3 : ByteArray) (a0_4 : ByteArray) (a0_5 : ByteArray) (a0_6 : Int) (a0_7 : Int) (a0_8 : Bool) (r1 : ByteArray) (r2 : ByteArray) (r3 : ByteArray) (r4 : ByteArray) (r5 : ByteArray) (r6 : ByteArray) (r7 : Int) (r8 : Int) (r9 : Bool) (w : World) (h : laws_toViolation.f a0_0 a0_1 a0_2 a0_3 a0_4 a0_5 a0_6 a0_7 a0_8 = some (r1, r2, r3, r4, r5, r6, r7, r8, r9)) :
    Calls Tryz.prog 12 #[.agg #[.string a0_0, .string a0_1, .string a0_2, .string a0_3, .string a0_4, .string a0_5, .int .i64 a0_6, .int .i64 a0_7, .bool a0_8]] w fun e w' => e = .returned (.agg #[.string r1, .string r2, .string r3, .string r4, .string r5, .string r6, .int .i64 r7, .int .i64 r8, .bool r9]) ∧ Below w.heap.size w w' := by
 have hu23 := Tryz.underlying23
 have hu27 := Tryz.underlying27
 have HB := Aside0.mk (Below.refl w.heap.size w)
 have H : (some (a0_0, a0_1, a0_2, a0_3, a0_4, a0_5, a0_6, a0_7, a0_8)) = some (r1, r2, r3, r4, r5, r6, r7, r8, r9) := h
 clear h
 simp only [Option.some.injEq, Prod.mk.injEq] at H
 obtain ⟨rfl, rfl, rfl, rfl, rfl, rfl, rfl, rfl, rfl⟩ := H
 go_enter Tryz.func12, Tryz.ntmps12
 go_wp2_with (first | ((with_reducible refine gate_dst (N := 1) rfl ?_); refine box_event ?hg (N := 1) ?hd (cs := #[.string a0_0, .string a0_1, .string a0_2, .string a0_3, .string a0_4, .string a0_5, .int .i64 a0_6, .int .i64 a0_7, .bool a0_8]) (t := 23) ?hr ?_; (case hd => rfl); (case hg => rfl); (case hr => first | (go_simp; done) | (go_simp; rfl)); intro gb234 hg w2 hbox hb; have n0_ := belB_ hb; have n1_ := Aside0.mk (hbox); have n2_ := Aside0.mk ((by rw [hg]; exact (below_size belE_) : w.heap.size ≤ gb234)); have n3_ := Aside0.mk ((by rw [hg]; exact (below_size belE_) : w.heap.size ≤ gb234)); clear HB; have HB := n0_; have BK234 := n1_; have GW234 := n2_; have GE234 := n3_; clear n0_ n1_ n2_ n3_; clear hb hbox hg) | ((with_reducible refine gate_dst (N := 2) rfl ?_); refine box_event ?hg (N := 2) ?hd (cs := #[.string ⟨#[]⟩, .string ⟨#[]⟩, .string ⟨#[]⟩, .string ⟨#[]⟩, .string ⟨#[]⟩, .string ⟨#[]⟩, .int .i64 0, .int .i64 0, .bool false]) (t := 27) ?hr ?_; (case hd => rfl); (case hg => rfl); (case hr => first | (go_simp; done) | (go_simp; rfl)); intro gb235 hg w3 hbox hb; have n0_ := blkB_ (g := gb234) (o := .cells #[.string a0_0, .string a0_1, .string a0_2, .string a0_3, .string a0_4, .string a0_5, .int .i64 a0_6, .int .i64 a0_7, .bool a0_8] 23 (0, 0)) hb; have n1_ := belB_ hb; have n2_ := Aside0.mk (hbox); have n3_ := Aside0.mk ((by rw [hg]; exact (below_size belE_) : w.heap.size ≤ gb235)); have n4_ := Aside0.mk ((by rw [hg]; exact (below_size belE_) : w.heap.size ≤ gb235)); have n5_ := Aside0.mk ((by rw [hg]; exact Nat.ne_of_lt (blk_lt (g := gb234) (o := .cells #[.string a0_0, .string a0_1, .string a0_2, .string a0_3, .string a0_4, .string a0_5, .int .i64 a0_6, .int .i64 a0_7, .bool a0_8] 23 (0, 0)) (by (with_reducible repeat apply bd_); exact BK234.out)) : gb234 ≠ gb235)); have n6_ := Aside0.mk ((by rw [hg]; exact Nat.ne_of_gt (blk_lt (g := gb234) (o := .cells #[.string a0_0, .string a0_1, .string a0_2, .string a0_3, .string a0_4, .string a0_5, .int .i64 a0_6, .int .i64 a0_7, .bool a0_8] 23 (0, 0)) (by (with_reducible repeat apply bd_); exact BK234.out)) : gb235 ≠ gb234)); clear BK234; clear HB; have BK234 := n0_; have HB := n1_; have BK235 := n2_; have GW235 := n3_; have GE235 := n4_; have NB234_235 := n5_; have NB235_234 := n6_; clear n0_ n1_ n2_ n3_ n4_ n5_ n6_; clear hb hbox hg) | ((with_reducible refine gate_dst (N := 3) rfl ?_); refine box_event ?hg (N := 3) ?hd (cs := #[.string ⟨#[]⟩, .string ⟨#[]⟩, .string ⟨#[]⟩, .string ⟨#[]⟩, .string ⟨#[]⟩, .string ⟨#[]⟩, .int .i64 0, .int .i64 0, .bool false]) (t := 27) ?hr ?_; (case hd => rfl); (case hg => rfl); (case hr => first | (go_simp; done) | (go_simp; rfl)); intro gb236 hg w4 hbox hb; have n0_ := blkB_ (g := gb234) (o := .cells #[.string a0_0, .string a0_1, .string a0_2, .string a0_3, .string a0_4, .string a0_5, .int .i64 a0_6, .int .i64 a0_7, .bool a0_8] 23 (0, 0)) hb; have n1_ := blkB_ (g := gb235) (o := .cells #[.string ⟨#[]⟩, .string ⟨#[]⟩, .string ⟨#[]⟩, .string ⟨#[]⟩, .string ⟨#[]⟩, .string ⟨#[]⟩, .int .i64 0, .int .i64 0, .bool false] 27 (0, 0)) hb; have n2_ := Aside0.mk (below_step belE_ hb); have n3_ := Aside0.mk (hbox); have n4_ := Aside0.mk ((by rw [hg]; exact (below_size belE_) : w.heap.size ≤ gb236)); have n5_ := Aside0.mk ((by rw [hg]; exact (below_size belE_) : w.heap.size ≤ gb236)); have n6_ := Aside0.mk ((by rw [hg]; exact Nat.ne_of_lt (blk_lt (g := gb234) (o := .cells #[.string a0_0, .string a0_1, .string a0_2, .string a0_3, .string a0_4, .string a0_5, .int .i64 a0_6, .int .i64 a0_7, .bool a0_8] 23 (0, 0)) (by (with_reducible repeat apply bd_); exact BK234.out)) : gb234 ≠ gb236)); have n7_ := Aside0.mk ((by rw [hg]; exact Nat.ne_of_gt (blk_lt (g := gb234) (o := .cells #[.string a0_0, .string a0_1, .string a0_2, .string a0_3, .string a0_4, .string a0_5, .int .i64 a0_6, .int .i64 a0_7, .bool a0_8] 23 (0, 0)) (by (with_reducible repeat apply bd_); exact BK234.out)) : gb236 ≠ gb234)); have n8_ := Aside0.mk ((by rw [hg]; exact Nat.ne_of_lt (blk_lt (g := gb235) (o := .cells #[.string ⟨#[]⟩, .string ⟨#[]⟩, .string ⟨#[]⟩, .string ⟨#[]⟩, .string ⟨#[]⟩, .string ⟨#[]⟩, .int .i64 0, .int .i64 0, .bool false] 27 (0, 0)) (by (with_reducible repeat apply bd_); exact BK235.out)) : gb235 ≠ gb236)); have n9_ := Aside0.mk ((by rw [hg]; exact Nat.ne_of_gt (blk_lt (g := gb235) (o := .cells #[.string ⟨#[]⟩, .string ⟨#[]⟩, .string ⟨#[]⟩, .string ⟨#[]⟩, .string ⟨#[]⟩, .string ⟨#[]⟩, .int .i64 0, .int .i64 0, .bool false] 27 (0, 0)) (by (with_reducible repeat apply bd_); exact BK235.out)) : gb236 ≠ gb235)); clear BK234; clear BK235; clear HB; have BK234 := n0_; have BK235 := n1_; have HB := n2_; have BK236 := n3_; have GW236 := n4_; have GE236 := n5_; have NB234_236 := n6_; have NB236_234 := n7_; have NB235_236 := n8_; have NB236_235 := n9_; clear n0_ n1_ n2_ n3_ n4_ n5_ n6_ n7_ n8_ n9_; clear hb hbox hg; have hnb5 := NB234_235.out; have hnc5 := NB235_234.out; have hnb6 := NB234_236.out; have hnc6 := NB236_234.out; obtain ⟨hcz7_0, hcz7_1, hcz7_2, hcz7_3, hcz7_4, hcz7_5, hcz7_6, hcz7_7, hcz7_8, hfz7_0, hfz7_1, hfz7_2, hfz7_3, hfz7_4, hfz7_5, hfz7_6, hfz7_7, hfz7_8⟩ := cz9_ BK234; have hnb8 := NB236_235.out; have hnc8 := NB235_236.out; obtain ⟨hcz9_0, hcz9_1, hcz9_2, hcz9_3, hcz9_4, hcz9_5, hcz9_6, hcz9_7, hcz9_8, hfz9_0, hfz9_1, hfz9_2, hfz9_3, hfz9_4, hfz9_5, hfz9_6, hfz9_7, hfz9_8⟩ := cz9_ BK236; obtain ⟨hcz10_0, hcz10_1, hcz10_2, hcz10_3, hcz10_4, hcz10_5, hcz10_6, hcz10_7, hcz10_8, hfz10_0, hfz10_1, hfz10_2, hfz10_3, hfz10_4, hfz10_5, hfz10_6, hfz10_7, hfz10_8⟩ := cz9_ BK235))
 refine bodyPost_ret (results_cell_row rfl _ _ gb235 27 #[.string a0_0, .string a0_1, .string a0_2, .string a0_3, .string a0_4, .string a0_5, .int .i64 a0_6, .int .i64 a0_7, .bool a0_8] (0, 0) _ rfl (by (with_reducible repeat apply bd_); refine blk_put (cs := #[.string a0_0, .string a0_1, .string a0_2, .string a0_3, .string a0_4, .string a0_5, .int .i64 a0_6, .int .i64 a0_7, .bool false]) ?_ 8 _ rfl; (with_reducible repeat apply bd_); refine blk_put (cs := #[.string a0_0, .string a0_1, .string a0_2, .string a0_3, .string a0_4, .string a0_5, .int .i64 a0_6, .int .i64 0, .bool false]) ?_ 7 _ rfl; (with_reducible repeat apply bd_); refine blk_put (cs := #[.string a0_0, .string a0_1, .string a0_2, .string a0_3, .string a0_4, .string a0_5, .int .i64 0, .int .i64 0, .bool false]) ?_ 6 _ rfl; (with_reducible repeat apply bd_); refine blk_put (cs := #[.string a0_0, .string a0_1, .string a0_2, .string a0_3, .string a0_4, .string ⟨#[]⟩, .int .i64 0, .int .i64 0, .bool false]) ?_ 5 _ rfl; (with_reducible repeat apply bd_); refine blk_put (cs := #[.string a0_0, .string a0_1, .string a0_2, .string a0_3, .string ⟨#[]⟩, .string ⟨#[]⟩, .int .i64 0, .int .i64 0, .bool false]) ?_ 4 _ rfl; (with_reducible repeat apply bd_); refine blk_put (cs := #[.string a0_0, .string a0_1, .string a0_2, .string ⟨#[]⟩, .string ⟨#[]⟩, .string ⟨#[]⟩, .int .i64 0, .int .i64 0, .bool false]) ?_ 3 _ rfl; (with_reducible repeat apply bd_); refine blk_put (cs := #[.string a0_0, .string a0_1, .string ⟨#[]⟩, .string ⟨#[]⟩, .string ⟨#[]⟩, .string ⟨#[]⟩, .int .i64 0, .int .i64 0, .bool false]) ?_ 2 _ rfl; (with_reducible repeat apply bd_); refine blk_put (cs := #[.string a0_0, .string ⟨#[]⟩, .string ⟨#[]⟩, .string ⟨#[]⟩, .string ⟨#[]⟩, .string ⟨#[]⟩, .int .i64 0, .int .i64 0, .bool false]) ?_ 1 _ rfl; (with_reducible repeat apply bd_); refine blk_put (cs := #[.string ⟨#[]⟩, .string ⟨#[]⟩, .string ⟨#[]⟩, .string ⟨#[]⟩, .string ⟨#[]⟩, .string ⟨#[]⟩, .int .i64 0, .int .i64 0, .bool false]) ?_ 0 _ rfl; (with_reducible repeat apply bd_); refine blk_far ?_ NB235_236.out _; (with_reducible repeat apply bd_); refine blk_far ?_ NB235_236.out _; (with_reducible repeat apply bd_); refine blk_far ?_ NB235_236.out _; (with_reducible repeat apply bd_); refine blk_far ?_ NB235_236.out _; (with_reducible repeat apply bd_); refine blk_far ?_ NB235_236.out _; (with_reducible repeat apply bd_); refine blk_far ?_ NB235_236.out _; (with_reducible repeat apply bd_); refine blk_far ?_ NB235_236.out _; (with_reducible repeat apply bd_); refine blk_far ?_ NB235_236.out _; (with_reducible repeat apply bd_); refine blk_far ?_ NB235_236.out _; (with_reducible repeat apply bd_); exact BK235.out) Tryz.underlying27 rfl (by kernel_rfl)) rfl ?_
 exact ⟨retE_, belE_⟩

/-! ### impl_isRule: function 99 -/
def impl_isRule.l0 : Nat → ByteArray → Int → Int → Option (Bool)
  | 0, _, _, _ => none
  | k + 1, x0, x6, x7 => if x7 < x6 then (if 0 ≤ x7 then (if x7 < (x0.size : Int) then ((impl_isLower.f (bt x0 x7)).bind fun t237 => (if t237 = true then (impl_isRule.l0 k x0 x6 (wrap64 (x7 + 1))) else (if (bt x0 x7) = 45 then (if x7 = 0 then (some false) else (impl_isRule.l0 k x0 x6 (wrap64 (x7 + 1)))) else (some false)))) else (none)) else (none)) else ((impl_within.f (x0.size : Int) 1 24).bind fun t238 => (some t238))
def impl_isRule.f (k : Nat) (a0 : ByteArray) : Option (Bool) := impl_isRule.l0 k a0 (mn (a0.size : Int) 25) 0
theorem impl_isRule.mono_l : ∀ k, (∀ y0 y1 y2, LeO (impl_isRule.l0 k y0 y1 y2) (impl_isRule.l0 (k + 1) y0 y1 y2))
  | 0 => fun _ _ _ r h => by simp [impl_isRule.l0] at h
  | k + 1 => by
    have ih0 := impl_isRule.mono_l k
    · intro y0 y1 y2
      unfold impl_isRule.l0
      repeat' first
      | (with_reducible exact ih0 _ _ _)
      | (with_reducible exact LeO.refl _)
      | (with_reducible exact LeO.none _)
      | (with_reducible refine LeO.ite ?_ ?_)
      | (with_reducible refine LeO.bind ?_ (fun _ => ?_))
      | exact ih0 _ _ _
      | exact LeO.none _
      | refine LeO.ite ?_ ?_
      | refine LeO.bind ?_ (fun _ => ?_)
theorem impl_isRule.mono : ∀ a0 k, LeO (impl_isRule.f k a0) (impl_isRule.f (k + 1) a0) := by
  intro a0 k
  have ih0 := impl_isRule.mono_l k
  unfold impl_isRule.f
  repeat' first
      | (with_reducible exact ih0 _ _ _)
      | (with_reducible exact LeO.refl _)
      | (with_reducible exact LeO.none _)
      | (with_reducible refine LeO.ite ?_ ?_)
      | (with_reducible refine LeO.bind ?_ (fun _ => ?_))
      | exact ih0 _ _ _
      | exact LeO.none _
      | refine LeO.ite ?_ ?_
      | refine LeO.bind ?_ (fun _ => ?_)
set_option maxHeartbeats 40000000 in
set_option maxRecDepth 100000 in
theorem impl_isRule.calls (k : Nat) (a0 : ByteArray) (r : Bool) (w : World) (h : impl_isRule.f k a0 = some r) :
    Calls Tryz.prog 99 #[.string a0] w fun e w' => e = .returned (.bool r) ∧ Below w.heap.size w w' := by
 have HB := Aside0.mk (Below.refl w.heap.size w)
 have H : (impl_isRule.l0 k a0 (mn (a0.size : Int) 25) 0) = some r := h
 clear h
 obtain ⟨ji2, hji2⟩ : ∃ j_ : Int, (mn (a0.size : Int) 25) = j_ := ⟨_, rfl⟩
 replace H : (impl_isRule.l0 k a0 ji2 0) = some r := by first | (rw [hji2] at H; exact H) | (simp only [hji2] at H ⊢; exact H)
 (try (have hji2h : ji2 ≤ 25 := by (rw [← hji2]; unfold mn; (repeat' split) <;> omega)))
 (try (have hji2g : ji2 ≤ 64 := by omega))
 (try (have hji2l : 0 ≤ ji2 := by (rw [← hji2]; unfold mn; (repeat' split) <;> omega)))
 (try (have hji2m : 0 ≤ ji2 := by omega))
 have hji2_ : (if 25 < (a0.size : Int) then 25 else (a0.size : Int)) = ji2 := hji2
 (try (have hji2n_ := hji2_; simp only [Int.ofNat_lt] at hji2n_))
 have H' := Aside0.mk H
 clear H
 go_enter Tryz.func99, Tryz.ntmps99
 go_wp2
 go_loopg [7] k (fun kq v7 w' => ∃ (x7_1 : Int), v7 = .int .i64 x7_1 ∧ Aside0 (impl_isRule.l0 kq a0 ji2 x7_1 = some r) ∧ Aside0 (kq ≤ k) ∧ Aside0 (Below w.heap.size w w'))
 case atStart => exact ⟨(0), eqE_, H', ⟨Nat.le_refl _⟩, ⟨belE_⟩⟩
 case round =>
  clear H'
  obtain ⟨x7_1, rfl, HA, HK1, HB⟩ := hrel
  cases gk with
  | zero => exact absurd HA.out (by simp [impl_isRule.l0])
  | succ k1 =>
   have H := HA.out
   clear HA
   simp only [impl_isRule.l0] at H
   by_cases c3 : x7_1 < ji2
   ·
    rw [if_pos c3] at H
    have c3b0 : decide (x7_1 < ji2) = true := decide_eq_true c3
    clear c3
    by_cases c4 : 0 ≤ x7_1
    ·
     rw [if_pos c4] at H
     have c4b0 : decide (0 ≤ x7_1) = true := decide_eq_true c4
     clear c4
     by_cases c5 : x7_1 < (a0.size : Int)
     ·
      rw [if_pos c5] at H
      have c5b0 : decide (x7_1 < (a0.size : Int)) = true := decide_eq_true c5
      clear c5
      obtain ⟨t237, A7, H⟩ := bindE_ H
      by_cases c8 : t237 = true
      ·
       subst c8
       replace H := ifT_ H
       have H' := Aside0.mk H
       clear H
       have p6 : 0 ≤ (x7_1 : Int) := ofd_
       have q6 : x7_1 < (a0.size : Int) := ofd_
       have hx6 := bt_at a0 x7_1
       replace p6 := eq_true p6
       replace q6 := eq_true q6
       go_wp2_with (first | ((with_reducible refine gate_callee (f := 116) rfl ?_); refine cU_ (some 13) Tryz.func116 #[.int .u8 (bt a0 x7_1)] ?_; (with_reducible refine (impl_isLower.calls (bt a0 x7_1) true _ A7.out).mono ?_); rintro e w' ⟨rfl, ⟨nd, rfl⟩⟩; refine ⟨_, rfl, ?_⟩))
       go_roundg k1
       case measure => have := HK1.out; omega
       case rel => exact ⟨(wrap64 (x7_1 + 1)), eqE_, H', ⟨by have := HK1.out; omega⟩, ⟨belE_⟩⟩
      ·
       replace c8 := Bool.eq_false_iff.mpr c8
       subst c8
       replace H := ifF_ H
       by_cases c10 : (bt a0 x7_1) = 45
       ·
        rw [if_pos c10] at H
        have c10b0 : ((bt a0 x7_1) == 45) = true := beq_iff_eq.mpr c10
        have c10b1 : ((bt a0 x7_1) != 45) = false := bne_eq_false_iff_eq.mpr c10
        clear c10
        by_cases c11 : x7_1 = 0
        ·
         rw [if_pos c11] at H
         have c11b0 : (x7_1 == 0) = true := beq_iff_eq.mpr c11
         have c11b1 : (x7_1 != 0) = false := bne_eq_false_iff_eq.mpr c11
         clear c11
         obtain rfl := Option.some.inj H
         have p6 : 0 ≤ (x7_1 : Int) := ofd_
         have q6 : x7_1 < (a0.size : Int) := ofd_
         have hx6 := bt_at a0 x7_1
         replace p6 := eq_true p6
         replace q6 := eq_true q6
         go_wp2_with (first | ((with_reducible refine gate_callee (f := 116) rfl ?_); refine cU_ (some 13) Tryz.func116 #[.int .u8 (bt a0 x7_1)] ?_; (with_reducible refine (impl_isLower.calls (bt a0 x7_1) false _ A7.out).mono ?_); rintro e w' ⟨rfl, ⟨nd, rfl⟩⟩; refine ⟨_, rfl, ?_⟩; have p9 : 0 ≤ (x7_1 : Int) := ofd_; have q9 : x7_1 < (a0.size : Int) := ofd_; have hx9 := bt_at a0 x7_1; replace p9 := eq_true p9; replace q9 := eq_true q9))
         go_ret
         exact ⟨by first | rfl | (simp [errW_none, errW_some] <;> rfl) | (simp only [← hji2]; first | rfl | (simp [errW_none, errW_some] <;> rfl)) | (simp [*, errW_none, errW_some] <;> rfl), belE_⟩
        ·
         rw [if_neg c11] at H
         have c11b0 : (x7_1 == 0) = false := beq_eq_false_iff_ne.mpr c11
         have c11b1 : (x7_1 != 0) = true := bne_iff_ne.mpr c11
         have H' := Aside0.mk H
         clear H
         have p6 : 0 ≤ (x7_1 : Int) := ofd_
         have q6 : x7_1 < (a0.size : Int) := ofd_
         have hx6 := bt_at a0 x7_1
         replace p6 := eq_true p6
         replace q6 := eq_true q6
         go_wp2_with (first | ((with_reducible refine gate_callee (f := 116) rfl ?_); refine cU_ (some 13) Tryz.func116 #[.int .u8 (bt a0 x7_1)] ?_; (with_reducible refine (impl_isLower.calls (bt a0 x7_1) false _ A7.out).mono ?_); rintro e w' ⟨rfl, ⟨nd, rfl⟩⟩; refine ⟨_, rfl, ?_⟩; have p9 : 0 ≤ (x7_1 : Int) := ofd_; have q9 : x7_1 < (a0.size : Int) := ofd_; have hx9 := bt_at a0 x7_1; replace p9 := eq_true p9; replace q9 := eq_true q9))
         go_roundg k1
         case measure => have := HK1.out; omega
         case rel => exact ⟨(wrap64 (x7_1 + 1)), eqE_, H', ⟨by have := HK1.out; omega⟩, ⟨belE_⟩⟩
       ·
        rw [if_neg c10] at H
        have c10b0 : ((bt a0 x7_1) == 45) = false := beq_eq_false_iff_ne.mpr c10
        have c10b1 : ((bt a0 x7_1) != 45) = true := bne_iff_ne.mpr c10
        obtain rfl := Option.some.inj H
        have p6 : 0 ≤ (x7_1 : Int) := ofd_
        have q6 : x7_1 < (a0.size : Int) := ofd_
        have hx6 := bt_at a0 x7_1
        replace p6 := eq_true p6
        replace q6 := eq_true q6
        go_wp2_with (first | ((with_reducible refine gate_callee (f := 116) rfl ?_); refine cU_ (some 13) Tryz.func116 #[.int .u8 (bt a0 x7_1)] ?_; (with_reducible refine (impl_isLower.calls (bt a0 x7_1) false _ A7.out).mono ?_); rintro e w' ⟨rfl, ⟨nd, rfl⟩⟩; refine ⟨_, rfl, ?_⟩; have p9 : 0 ≤ (x7_1 : Int) := ofd_; have q9 : x7_1 < (a0.size : Int) := ofd_; have hx9 := bt_at a0 x7_1; replace p9 := eq_true p9; replace q9 := eq_true q9))
        go_ret
        exact ⟨by first | rfl | (simp [errW_none, errW_some] <;> rfl) | (simp only [← hji2]; first | rfl | (simp [errW_none, errW_some] <;> rfl)) | (simp [*, errW_none, errW_some] <;> rfl), belE_⟩
     ·
      rw [if_neg c5] at H
      exact absurd H (by simp)
    ·
     rw [if_neg c4] at H
     exact absurd H (by simp)
   ·
    rw [if_neg c3] at H
    have c3b0 : decide (x7_1 < ji2) = false := decide_eq_false c3
    clear c3
    obtain ⟨t238, A12, H⟩ := bindE_ H
    obtain rfl := Option.some.inj H
    go_wp2_with (first | ((with_reducible refine gate_callee (f := 71) rfl ?_); refine cU_ (some 28) Tryz.func71 #[.int .i64 (a0.size : Int), .int .i64 1, .int .i64 24] ?_; (with_reducible refine (impl_within.calls (a0.size : Int) 1 24 t238 _ A12.out).mono ?_); rintro e w' ⟨rfl, ⟨nd, rfl⟩⟩; refine ⟨_, rfl, ?_⟩))
    go_ret
    exact ⟨by first | rfl | (simp [errW_none, errW_some] <;> rfl) | (simp only [← hji2]; first | rfl | (simp [errW_none, errW_some] <;> rfl)) | (simp [*, errW_none, errW_some] <;> rfl), belE_⟩

/-! ### impl_ViolationOK: function 46 -/
def impl_ViolationOK.f (k : Nat) (a0_0 : ByteArray) (a0_1 : ByteArray) (a0_2 : ByteArray) (a0_3 : ByteArray) (a0_4 : ByteArray) (a0_5 : ByteArray) (a0_6 : Int) (a0_7 : Int) (a0_8 : Bool) : Option (Bool) := if (mx (mx (mx (a0_0.size : Int) (a0_1.size : Int)) (a0_2.size : Int)) (a0_3.size : Int)) ≤ 100 then ((impl_isRule.f k a0_4).bind fun t240 => (if t240 = true then (if (a0_5.size : Int) ≤ 200 then ((impl_within.f a0_6 0 9999).bind fun t241 => (if t241 = true then ((impl_within.f a0_7 0 9999).bind fun t242 => (some t242)) else (some false))) else (some false)) else (some false))) else (some false)
theorem impl_ViolationOK.mono : ∀ a0 a1 a2 a3 a4 a5 a6 a7 a8 k, LeO (impl_ViolationOK.f k a0 a1 a2 a3 a4 a5 a6 a7 a8) (impl_ViolationOK.f (k + 1) a0 a1 a2 a3 a4 a5 a6 a7 a8) := by
  intro a0 a1 a2 a3 a4 a5 a6 a7 a8 k
  unfold impl_ViolationOK.f
  repeat' first
      | (with_reducible exact impl_isRule.mono _ _)
      | (with_reducible exact LeO.refl _)
      | (with_reducible exact LeO.none _)
      | (with_reducible refine LeO.ite ?_ ?_)
      | (with_reducible refine LeO.bind ?_ (fun _ => ?_))
      | exact impl_isRule.mono _ _
      | exact LeO.none _
      | refine LeO.ite ?_ ?_
      | refine LeO.bind ?_ (fun _ => ?_)
set_option maxHeartbeats 40000000 in
set_option maxRecDepth 100000 in
theorem impl_ViolationOK.calls (k : Nat) (a0_0 : ByteArray) (a0_1 : ByteArray) (a0_2 : ByteArray) (a0_3 : ByteArray) (a0_4 : ByteArray) (a0_5 : ByteArray) (a0_6 : Int) (a0_7 : Int) (a0_8 : Bool) (r : Bool) (w : World) (h : impl_ViolationOK.f k a0_0 a0_1 a0_2 a0_3 a0_4 a0_5 a0_6 a0_7 a0_8 = some r) :
    Calls Tryz.prog 46 #[.agg #[.string a0_0, .string a0_1, .string a0_2, .string a0_3, .string a0_4, .string a0_5, .int .i64 a0_6, .int .i64 a0_7, .bool a0_8]] w fun e w' => e = .returned (.bool r) ∧ Below w.heap.size w w' := by
 have hu27 := Tryz.underlying27
 have HB := Aside0.mk (Below.refl w.heap.size w)
 have H : (if (mx (mx (mx (a0_0.size : Int) (a0_1.size : Int)) (a0_2.size : Int)) (a0_3.size : Int)) ≤ 100 then ((impl_isRule.f k a0_4).bind fun t240 => (if t240 = true then (if (a0_5.size : Int) ≤ 200 then ((impl_within.f a0_6 0 9999).bind fun t241 => (if t241 = true then ((impl_within.f a0_7 0 9999).bind fun t242 => (some t242)) else (some false))) else (some false)) else (some false))) else (some false)) = some r := h
 clear h
 obtain ⟨ji2, hji2⟩ : ∃ j_ : Int, (mx (a0_0.size : Int) (a0_1.size : Int)) = j_ := ⟨_, rfl⟩
 replace H : (if (mx (mx (ji2) (a0_2.size : Int)) (a0_3.size : Int)) ≤ 100 then ((impl_isRule.f k a0_4).bind fun t240 => (if t240 = true then (if (a0_5.size : Int) ≤ 200 then ((impl_within.f a0_6 0 9999).bind fun t241 => (if t241 = true then ((impl_within.f a0_7 0 9999).bind fun t242 => (some t242)) else (some false))) else (some false)) else (some false))) else (some false)) = some r := by first | (rw [hji2] at H; exact H) | (simp only [hji2] at H ⊢; exact H)
 (try (have hji2l : 0 ≤ ji2 := by (rw [← hji2]; unfold mx; (repeat' split) <;> omega)))
 (try (have hji2m : 0 ≤ ji2 := by omega))
 have hji2_ : (if (a0_0.size : Int) < (a0_1.size : Int) then (a0_1.size : Int) else (a0_0.size : Int)) = ji2 := hji2
 (try (have hji2n_ := hji2_; simp only [Int.ofNat_lt] at hji2n_))
 obtain ⟨ji3, hji3⟩ : ∃ j_ : Int, (mx (ji2) (a0_2.size : Int)) = j_ := ⟨_, rfl⟩
 replace H : (if (mx (ji3) (a0_3.size : Int)) ≤ 100 then ((impl_isRule.f k a0_4).bind fun t240 => (if t240 = true then (if (a0_5.size : Int) ≤ 200 then ((impl_within.f a0_6 0 9999).bind fun t241 => (if t241 = true then ((impl_within.f a0_7 0 9999).bind fun t242 => (some t242)) else (some false))) else (some false)) else (some false))) else (some false)) = some r := by first | (rw [hji3] at H; exact H) | (simp only [hji3] at H ⊢; exact H)
 have hji3_ : (if (ji2) < (a0_2.size : Int) then (a0_2.size : Int) else (ji2)) = ji3 := hji3
 (try (have hji3n_ := hji3_; simp only [Int.ofNat_lt] at hji3n_))
 obtain ⟨ji4, hji4⟩ : ∃ j_ : Int, (mx (ji3) (a0_3.size : Int)) = j_ := ⟨_, rfl⟩
 replace H : (if (ji4) ≤ 100 then ((impl_isRule.f k a0_4).bind fun t240 => (if t240 = true then (if (a0_5.size : Int) ≤ 200 then ((impl_within.f a0_6 0 9999).bind fun t241 => (if t241 = true then ((impl_within.f a0_7 0 9999).bind fun t242 => (some t242)) else (some false))) else (some false)) else (some false))) else (some false)) = some r := by first | (rw [hji4] at H; exact H) | (simp only [hji4] at H ⊢; exact H)
 have hji4_ : (if (ji3) < (a0_3.size : Int) then (a0_3.size : Int) else (ji3)) = ji4 := hji4
 (try (have hji4n_ := hji4_; simp only [Int.ofNat_lt] at hji4n_))
 by_cases c5 : (ji4) ≤ 100
 ·
  rw [if_pos c5] at H
  have c5b0 : decide ((ji4) ≤ 100) = true := decide_eq_true c5
  clear c5
  obtain ⟨t240, A6, H⟩ := bindE_ H
  by_cases c7 : t240 = true
  ·
   subst c7
   replace H := ifT_ H
   by_cases c8 : (a0_5.size : Int) ≤ 200
   ·
    rw [if_pos c8] at H
    have c8b0 : decide ((a0_5.size : Int) ≤ 200) = true := decide_eq_true c8
    have c8b1 : decide (a0_5.size ≤ 200) = true := decide_eq_true (by omega)
    clear c8
    obtain ⟨t241, A9, H⟩ := bindE_ H
    by_cases c10 : t241 = true
    ·
     subst c10
     replace H := ifT_ H
     obtain ⟨t242, A11, H⟩ := bindE_ H
     obtain rfl := Option.some.inj H
     go_enter Tryz.func46, Tryz.ntmps46
     go_wp2_with (first | ((with_reducible refine gate_dst (N := 1) rfl ?_); (try (refine gate_guard (by rfl) ?_; dsimp only)); refine box_event ?hg (N := 1) ?hd (cs := #[.string a0_0, .string a0_1, .string a0_2, .string a0_3, .string a0_4, .string a0_5, .int .i64 a0_6, .int .i64 a0_7, .bool a0_8]) (t := 27) ?hr ?_; (case hd => rfl); (case hg => rfl); (case hr => first | (go_simp; done) | (go_simp; rfl)); intro gb239 hg w12 hbox hb; have n0_ := belB_ hb; have n1_ := Aside0.mk (hbox); have n2_ := Aside0.mk ((by rw [hg]; exact (below_size belE_) : w.heap.size ≤ gb239)); have n3_ := Aside0.mk ((by rw [hg]; exact (below_size belE_) : w.heap.size ≤ gb239)); clear HB; have HB := n0_; have BK239 := n1_; have GW239 := n2_; have GE239 := n3_; clear n0_ n1_ n2_ n3_; clear hb hbox hg; obtain ⟨hcz13_0, hcz13_1, hcz13_2, hcz13_3, hcz13_4, hcz13_5, hcz13_6, hcz13_7, hcz13_8, hfz13_0, hfz13_1, hfz13_2, hfz13_3, hfz13_4, hfz13_5, hfz13_6, hfz13_7, hfz13_8⟩ := cz9_ BK239) | (go_at_call 99; (with_reducible refine (impl_isRule.calls k a0_4 true _ A6.out).mono ?_); rintro e w14 ⟨rfl, hb⟩; replace BK239 := blkK_ BK239 hb; replace HB := belB_ hb; (try clear hb); obtain ⟨hcz15_0, hcz15_1, hcz15_2, hcz15_3, hcz15_4, hcz15_5, hcz15_6, hcz15_7, hcz15_8, hfz15_0, hfz15_1, hfz15_2, hfz15_3, hfz15_4, hfz15_5, hfz15_6, hfz15_7, hfz15_8⟩ := cz9_ BK239) | (go_at_call 71; (with_reducible refine (impl_within.calls a0_6 0 9999 true _ A9.out).mono ?_); rintro e w' ⟨rfl, ⟨nd, rfl⟩⟩) | (go_at_call 71; (with_reducible refine (impl_within.calls a0_7 0 9999 t242 _ A11.out).mono ?_); rintro e w' ⟨rfl, ⟨nd, rfl⟩⟩))
     go_ret
     exact ⟨by first | rfl | (simp [errW_none, errW_some] <;> rfl) | (simp only [← hji2, ← hji3, ← hji4]; first | rfl | (simp [errW_none, errW_some] <;> rfl)) | (simp [*, errW_none, errW_some] <;> rfl), belE_⟩
    ·
     replace c10 := Bool.eq_false_iff.mpr c10
     subst c10
     replace H := ifF_ H
     obtain rfl := Option.some.inj H
     go_enter Tryz.func46, Tryz.ntmps46
     go_wp2_with (first | ((with_reducible refine gate_dst (N := 1) rfl ?_); (try (refine gate_guard (by rfl) ?_; dsimp only)); refine box_event ?hg (N := 1) ?hd (cs := #[.string a0_0, .string a0_1, .string a0_2, .string a0_3, .string a0_4, .string a0_5, .int .i64 a0_6, .int .i64 a0_7, .bool a0_8]) (t := 27) ?hr ?_; (case hd => rfl); (case hg => rfl); (case hr => first | (go_simp; done) | (go_simp; rfl)); intro gb239 hg w16 hbox hb; have n0_ := belB_ hb; have n1_ := Aside0.mk (hbox); have n2_ := Aside0.mk ((by rw [hg]; exact (below_size belE_) : w.heap.size ≤ gb239)); have n3_ := Aside0.mk ((by rw [hg]; exact (below_size belE_) : w.heap.size ≤ gb239)); clear HB; have HB := n0_; have BK239 := n1_; have GW239 := n2_; have GE239 := n3_; clear n0_ n1_ n2_ n3_; clear hb hbox hg; obtain ⟨hcz17_0, hcz17_1, hcz17_2, hcz17_3, hcz17_4, hcz17_5, hcz17_6, hcz17_7, hcz17_8, hfz17_0, hfz17_1, hfz17_2, hfz17_3, hfz17_4, hfz17_5, hfz17_6, hfz17_7, hfz17_8⟩ := cz9_ BK239) | (go_at_call 99; (with_reducible refine (impl_isRule.calls k a0_4 true _ A6.out).mono ?_); rintro e w18 ⟨rfl, hb⟩; replace BK239 := blkK_ BK239 hb; replace HB := belB_ hb; (try clear hb); obtain ⟨hcz19_0, hcz19_1, hcz19_2, hcz19_3, hcz19_4, hcz19_5, hcz19_6, hcz19_7, hcz19_8, hfz19_0, hfz19_1, hfz19_2, hfz19_3, hfz19_4, hfz19_5, hfz19_6, hfz19_7, hfz19_8⟩ := cz9_ BK239) | (go_at_call 71; (with_reducible refine (impl_within.calls a0_6 0 9999 false _ A9.out).mono ?_); rintro e w' ⟨rfl, ⟨nd, rfl⟩⟩))
     go_ret
     exact ⟨by first | rfl | (simp [errW_none, errW_some] <;> rfl) | (simp only [← hji2, ← hji3, ← hji4]; first | rfl | (simp [errW_none, errW_some] <;> rfl)) | (simp [*, errW_none, errW_some] <;> rfl), belE_⟩
   ·
    rw [if_neg c8] at H
    have c8b0 : decide ((a0_5.size : Int) ≤ 200) = false := decide_eq_false c8
    have c8b1 : decide (a0_5.size ≤ 200) = false := decide_eq_false (by omega)
    clear c8
    obtain rfl := Option.some.inj H
    go_enter Tryz.func46, Tryz.ntmps46
    go_wp2_with (first | ((with_reducible refine gate_dst (N := 1) rfl ?_); (try (refine gate_guard (by rfl) ?_; dsimp only)); refine box_event ?hg (N := 1) ?hd (cs := #[.string a0_0, .string a0_1, .string a0_2, .string a0_3, .string a0_4, .string a0_5, .int .i64 a0_6, .int .i64 a0_7, .bool a0_8]) (t := 27) ?hr ?_; (case hd => rfl); (case hg => rfl); (case hr => first | (go_simp; done) | (go_simp; rfl)); intro gb239 hg w20 hbox hb; have n0_ := belB_ hb; have n1_ := Aside0.mk (hbox); have n2_ := Aside0.mk ((by rw [hg]; exact (below_size belE_) : w.heap.size ≤ gb239)); have n3_ := Aside0.mk ((by rw [hg]; exact (below_size belE_) : w.heap.size ≤ gb239)); clear HB; have HB := n0_; have BK239 := n1_; have GW239 := n2_; have GE239 := n3_; clear n0_ n1_ n2_ n3_; clear hb hbox hg; obtain ⟨hcz21_0, hcz21_1, hcz21_2, hcz21_3, hcz21_4, hcz21_5, hcz21_6, hcz21_7, hcz21_8, hfz21_0, hfz21_1, hfz21_2, hfz21_3, hfz21_4, hfz21_5, hfz21_6, hfz21_7, hfz21_8⟩ := cz9_ BK239) | (go_at_call 99; (with_reducible refine (impl_isRule.calls k a0_4 true _ A6.out).mono ?_); rintro e w22 ⟨rfl, hb⟩; replace BK239 := blkK_ BK239 hb; replace HB := belB_ hb; (try clear hb); obtain ⟨hcz23_0, hcz23_1, hcz23_2, hcz23_3, hcz23_4, hcz23_5, hcz23_6, hcz23_7, hcz23_8, hfz23_0, hfz23_1, hfz23_2, hfz23_3, hfz23_4, hfz23_5, hfz23_6, hfz23_7, hfz23_8⟩ := cz9_ BK239))
    go_ret
    exact ⟨by first | rfl | (simp [errW_none, errW_some] <;> rfl) | (simp only [← hji2, ← hji3, ← hji4]; first | rfl | (simp [errW_none, errW_some] <;> rfl)) | (simp [*, errW_none, errW_some] <;> rfl), belE_⟩
  ·
   replace c7 := Bool.eq_false_iff.mpr c7
   subst c7
   replace H := ifF_ H
   obtain rfl := Option.some.inj H
   go_enter Tryz.func46, Tryz.ntmps46
   go_wp2_with (first | ((with_reducible refine gate_dst (N := 1) rfl ?_); (try (refine gate_guard (by rfl) ?_; dsimp only)); refine box_event ?hg (N := 1) ?hd (cs := #[.string a0_0, .string a0_1, .string a0_2, .string a0_3, .string a0_4, .string a0_5, .int .i64 a0_6, .int .i64 a0_7, .bool a0_8]) (t := 27) ?hr ?_; (case hd => rfl); (case hg => rfl); (case hr => first | (go_simp; done) | (go_simp; rfl)); intro gb239 hg w24 hbox hb; have n0_ := belB_ hb; have n1_ := Aside0.mk (hbox); have n2_ := Aside0.mk ((by rw [hg]; exact (below_size belE_) : w.heap.size ≤ gb239)); have n3_ := Aside0.mk ((by rw [hg]; exact (below_size belE_) : w.heap.size ≤ gb239)); clear HB; have HB := n0_; have BK239 := n1_; have GW239 := n2_; have GE239 := n3_; clear n0_ n1_ n2_ n3_; clear hb hbox hg; obtain ⟨hcz25_0, hcz25_1, hcz25_2, hcz25_3, hcz25_4, hcz25_5, hcz25_6, hcz25_7, hcz25_8, hfz25_0, hfz25_1, hfz25_2, hfz25_3, hfz25_4, hfz25_5, hfz25_6, hfz25_7, hfz25_8⟩ := cz9_ BK239) | (go_at_call 99; (with_reducible refine (impl_isRule.calls k a0_4 false _ A6.out).mono ?_); rintro e w26 ⟨rfl, hb⟩; replace BK239 := blkK_ BK239 hb; replace HB := belB_ hb; (try clear hb)))
   go_ret
   exact ⟨by first | rfl | (simp [errW_none, errW_some] <;> rfl) | (simp only [← hji2, ← hji3, ← hji4]; first | rfl | (simp [errW_none, errW_some] <;> rfl)) | (simp [*, errW_none, errW_some] <;> rfl), belE_⟩
 ·
  rw [if_neg c5] at H
  have c5b0 : decide ((ji4) ≤ 100) = false := decide_eq_false c5
  clear c5
  obtain rfl := Option.some.inj H
  go_enter Tryz.func46, Tryz.ntmps46
  go_wp2_with (first | ((with_reducible refine gate_dst (N := 1) rfl ?_); (try (refine gate_guard (by rfl) ?_; dsimp only)); refine box_event ?hg (N := 1) ?hd (cs := #[.string a0_0, .string a0_1, .string a0_2, .string a0_3, .string a0_4, .string a0_5, .int .i64 a0_6, .int .i64 a0_7, .bool a0_8]) (t := 27) ?hr ?_; (case hd => rfl); (case hg => rfl); (case hr => first | (go_simp; done) | (go_simp; rfl)); intro gb239 hg w27 hbox hb; have n0_ := belB_ hb; have n1_ := Aside0.mk (hbox); have n2_ := Aside0.mk ((by rw [hg]; exact (below_size belE_) : w.heap.size ≤ gb239)); have n3_ := Aside0.mk ((by rw [hg]; exact (below_size belE_) : w.heap.size ≤ gb239)); clear HB; have HB := n0_; have BK239 := n1_; have GW239 := n2_; have GE239 := n3_; clear n0_ n1_ n2_ n3_; clear hb hbox hg; obtain ⟨hcz28_0, hcz28_1, hcz28_2, hcz28_3, hcz28_4, hcz28_5, hcz28_6, hcz28_7, hcz28_8, hfz28_0, hfz28_1, hfz28_2, hfz28_3, hfz28_4, hfz28_5, hfz28_6, hfz28_7, hfz28_8⟩ := cz9_ BK239))
  go_ret
  exact ⟨by first | rfl | (simp [errW_none, errW_some] <;> rfl) | (simp only [← hji2, ← hji3, ← hji4]; first | rfl | (simp [errW_none, errW_some] <;> rfl)) | (simp [*, errW_none, errW_some] <;> rfl), belE_⟩

/-! ### impl_SameOrigin: function 30 -/
def impl_SameOrigin.f (k : Nat) (a0_0 : ByteArray) (a0_1 : ByteArray) (a0_2 : ByteArray) (a0_3 : Int) (a0_4 : ByteArray) (a0_5 : ByteArray) (a0_6 : ByteArray) (a0_7 : Bool) (a0_8 : Bool) (a1_0 : ByteArray) (a1_1 : ByteArray) (a1_2 : ByteArray) (a1_3 : Int) (a1_4 : ByteArray) (a1_5 : ByteArray) (a1_6 : ByteArray) (a1_7 : Bool) (a1_8 : Bool) : Option (Bool) := (impl_UrlOK.f k a0_0 a0_1 a0_2 a0_3 a0_4 a0_5 a0_6 a0_7 a0_8).bind fun t271 => (if t271 = true then ((impl_UrlOK.f k a1_0 a1_1 a1_2 a1_3 a1_4 a1_5 a1_6 a1_7 a1_8).bind fun t272 => (if t272 = true then ((impl_Url_web.f a0_0 a0_1 a0_2 a0_3 a0_4 a0_5 a0_6 a0_7 a0_8).bind fun t273 => (if t273 = true then ((impl_Url_web.f a1_0 a1_1 a1_2 a1_3 a1_4 a1_5 a1_6 a1_7 a1_8).bind fun t274 => (if t274 = true then ((impl_Url_origin.f k a0_0 a0_1 a0_2 a0_3 a0_4 a0_5 a0_6 a0_7 a0_8).bind fun t275 => ((impl_Url_origin.f k a1_0 a1_1 a1_2 a1_3 a1_4 a1_5 a1_6 a1_7 a1_8).bind fun t276 => (some (t275.toList == t276.toList)))) else (some false))) else (some false))) else (some false))) else (some false))
theorem impl_SameOrigin.mono : ∀ a0 a1 a2 a3 a4 a5 a6 a7 a8 a9 a10 a11 a12 a13 a14 a15 a16 a17 k, LeO (impl_SameOrigin.f k a0 a1 a2 a3 a4 a5 a6 a7 a8 a9 a10 a11 a12 a13 a14 a15 a16 a17) (impl_SameOrigin.f (k + 1) a0 a1 a2 a3 a4 a5 a6 a7 a8 a9 a10 a11 a12 a13 a14 a15 a16 a17) := by
  intro a0 a1 a2 a3 a4 a5 a6 a7 a8 a9 a10 a11 a12 a13 a14 a15 a16 a17 k
  unfold impl_SameOrigin.f
  repeat' first
      | (with_reducible exact impl_UrlOK.mono _ _ _ _ _ _ _ _ _ _)
      | (with_reducible exact impl_Url_origin.mono _ _ _ _ _ _ _ _ _ _)
      | (with_reducible exact LeO.refl _)
      | (with_reducible exact LeO.none _)
      | (with_reducible refine LeO.ite ?_ ?_)
      | (with_reducible refine LeO.bind ?_ (fun _ => ?_))
      | exact impl_UrlOK.mono _ _ _ _ _ _ _ _ _ _
      | exact impl_Url_origin.mono _ _ _ _ _ _ _ _ _ _
      | exact LeO.none _
      | refine LeO.ite ?_ ?_
      | refine LeO.bind ?_ (fun _ => ?_)
def impl_SameOrigin.T1 : Bool × List (List Nat × List Nat) := (true, [([], []), ([0], [0]), ([1, 1], [1]), ([2], [2]), ([3, 2, 2], [2, 3]), ([2, 4], [2, 4]), ([5, 4], [5]), ([6], [6]), ([7, 6, 6], [6, 7]), ([6, 8], [6, 8]), ([9, 8], [9]), ([10], [10]), ([11, 10, 10], [10, 11]), ([10, 12], [10, 12]), ([13, 12], [13]), ([14], [14]), ([15, 14, 14], [14, 15]), ([14], [14]), ([17, 16, 14], [14, 17]), ([16, 18, 14], [14, 16, 18]), ([14, 19], [14, 19]), ([20, 18, 0, 1, 2, 3, 4, 5, 6, 7, 8, 9, 10, 11, 12, 13, 14, 15, 16, 17, 18, 19, 20], [20])])
def impl_SameOrigin.B1 : List Nat := [0, 1, 3, 7, 15, 31, 63, 127, 255, 511, 1023, 2047, 4095, 8191, 16383, 32767, 65535, 32767, 262143, 524287, 1048575, 2097151]
theorem impl_SameOrigin.tab1 : rtab .any (opsOf Tryz.f30 1) = impl_SameOrigin.T1 := by kernel_rfl
theorem impl_SameOrigin.bits1 : waitsOk impl_SameOrigin.T1.2 impl_SameOrigin.B1 = true := by kernel_rfl
set_option maxHeartbeats 8000000 in
set_option maxRecDepth 100000 in
theorem impl_SameOrigin.calls (k : Nat) (a0_0 : ByteArray) (a0_1 : ByteArray) (a0_2 : ByteArray) (a0_3 : Int) (a0_4 : ByteArray) (a0_5 : ByteArray) (a0_6 : ByteArray) (a0_7 : Bool) (a0_8 : Bool) (a1_0 : ByteArray) (a1_1 : ByteArray) (a1_2 : ByteArray) (a1_3 : Int) (a1_4 : ByteArray) (a1_5 : ByteArray) (a1_6 : ByteArray) (a1_7 : Bool) (a1_8 : Bool) (r : Bool) (w : World) (hM : Amb w) (h : impl_SameOrigin.f k a0_0 a0_1 a0_2 a0_3 a0_4 a0_5 a0_6 a0_7 a0_8 a1_0 a1_1 a1_2 a1_3 a1_4 a1_5 a1_6 a1_7 a1_8 = some r) :
    Calls Tryz.prog 30 #[.agg #[.string a0_0, .string a0_1, .string a0_2, .int .i64 a0_3, .string a0_4, .string a0_5, .string a0_6, .bool a0_7, .bool a0_8], .agg #[.string a1_0, .string a1_1, .string a1_2, .int .i64 a1_3, .string a1_4, .string a1_5, .string a1_6, .bool a1_7, .bool a1_8]] w fun e w' => e = .returned (.bool r) ∧ Below w.heap.size w w' := by
 have hu32 := Tryz.underlying32
 have HB := Aside0.mk (Below.refl w.heap.size w)
 have HM := Aside0.mk hM
 clear hM
 have H : ((impl_UrlOK.f k a0_0 a0_1 a0_2 a0_3 a0_4 a0_5 a0_6 a0_7 a0_8).bind fun t271 => (if t271 = true then ((impl_UrlOK.f k a1_0 a1_1 a1_2 a1_3 a1_4 a1_5 a1_6 a1_7 a1_8).bind fun t272 => (if t272 = true then ((impl_Url_web.f a0_0 a0_1 a0_2 a0_3 a0_4 a0_5 a0_6 a0_7 a0_8).bind fun t273 => (if t273 = true then ((impl_Url_web.f a1_0 a1_1 a1_2 a1_3 a1_4 a1_5 a1_6 a1_7 a1_8).bind fun t274 => (if t274 = true then ((impl_Url_origin.f k a0_0 a0_1 a0_2 a0_3 a0_4 a0_5 a0_6 a0_7 a0_8).bind fun t275 => ((impl_Url_origin.f k a1_0 a1_1 a1_2 a1_3 a1_4 a1_5 a1_6 a1_7 a1_8).bind fun t276 => (some (t275.toList == t276.toList)))) else (some false))) else (some false))) else (some false))) else (some false))) = some r := h
 clear h
 obtain ⟨t271, A3, H⟩ := bindE_ H
 by_cases c4 : t271 = true
 ·
  subst c4
  replace H := ifT_ H
  obtain ⟨t272, A5, H⟩ := bindE_ H
  by_cases c6 : t272 = true
  ·
   subst c6
   replace H := ifT_ H
   obtain ⟨t273, A7, H⟩ := bindE_ H
   by_cases c8 : t273 = true
   ·
    subst c8
    replace H := ifT_ H
    obtain ⟨t274, A9, H⟩ := bindE_ H
    by_cases c10 : t274 = true
    ·
     subst c10
     replace H := ifT_ H
     obtain ⟨t275, A11, H⟩ := bindE_ H
     obtain ⟨t276, A12, H⟩ := bindE_ H
     obtain rfl := Option.some.inj H
     go_enter Tryz.func30, Tryz.ntmps30
     try go_wp2_with (first | ((with_reducible refine gate_dst (N := 2) rfl ?_); refine box_event ?hg (N := 2) ?hd (cs := #[.string a0_0, .string a0_1, .string a0_2, .int .i64 a0_3, .string a0_4, .string a0_5, .string a0_6, .bool a0_7, .bool a0_8]) (t := 32) ?hr ?_; (case hd => rfl); (case hg => rfl); (case hr => first | (go_simp; done) | (go_simp; rfl)); intro gb269 hg w13 hbox hb; have n0_ := belB_ hb; have n1_ := Aside0.mk (hbox); have n2_ := Aside0.mk ((by rw [hg]; exact (below_size belE_) : w.heap.size ≤ gb269)); have n3_ := Aside0.mk ((by rw [hg]; exact (below_size belE_) : w.heap.size ≤ gb269)); clear HB; have HB := n0_; have BK269 := n1_; have GW269 := n2_; have GE269 := n3_; clear n0_ n1_ n2_ n3_; clear hb hbox hg) | ((with_reducible refine gate_dst (N := 3) rfl ?_); refine box_event ?hg (N := 3) ?hd (cs := #[.string a1_0, .string a1_1, .string a1_2, .int .i64 a1_3, .string a1_4, .string a1_5, .string a1_6, .bool a1_7, .bool a1_8]) (t := 32) ?hr ?_; (case hd => rfl); (case hg => rfl); (case hr => first | (go_simp; done) | (go_simp; rfl)); intro gb270 hg w14 hbox hb; have n0_ := blkB_ (g := gb269) (o := .cells #[.string a0_0, .string a0_1, .string a0_2, .int .i64 a0_3, .string a0_4, .string a0_5, .string a0_6, .bool a0_7, .bool a0_8] 32 (0, 0)) hb; have n1_ := belB_ hb; have n2_ := Aside0.mk (hbox); have n3_ := Aside0.mk ((by rw [hg]; exact (below_size belE_) : w.heap.size ≤ gb270)); have n4_ := Aside0.mk ((by rw [hg]; exact (below_size belE_) : w.heap.size ≤ gb270)); have n5_ := Aside0.mk ((by rw [hg]; exact Nat.ne_of_lt (blk_lt (g := gb269) (o := .cells #[.string a0_0, .string a0_1, .string a0_2, .int .i64 a0_3, .string a0_4, .string a0_5, .string a0_6, .bool a0_7, .bool a0_8] 32 (0, 0)) (by (with_reducible repeat apply bd_); exact BK269.out)) : gb269 ≠ gb270)); have n6_ := Aside0.mk ((by rw [hg]; exact Nat.ne_of_gt (blk_lt (g := gb269) (o := .cells #[.string a0_0, .string a0_1, .string a0_2, .int .i64 a0_3, .string a0_4, .string a0_5, .string a0_6, .bool a0_7, .bool a0_8] 32 (0, 0)) (by (with_reducible repeat apply bd_); exact BK269.out)) : gb270 ≠ gb269)); clear BK269; clear HB; have BK269 := n0_; have HB := n1_; have BK270 := n2_; have GW270 := n3_; have GE270 := n4_; have NB269_270 := n5_; have NB270_269 := n6_; clear n0_ n1_ n2_ n3_ n4_ n5_ n6_; clear hb hbox hg))
     replace BK269 := Aside0.mk (blk_drew BK269.out)
     replace BK270 := Aside0.mk (blk_drew BK270.out)
     replace HB := Aside0.mk (below_drew1 HB.out)
     refine startU_ (n := 22) (S := fun w' => w'.cell? ⟨gb269, 0, none⟩ = some (.string a0_0) ∧ w'.cell? ⟨gb269, 1, none⟩ = some (.string a0_1) ∧ w'.cell? ⟨gb269, 2, none⟩ = some (.string a0_2) ∧ w'.cell? ⟨gb269, 3, none⟩ = some (.int .i64 a0_3) ∧ w'.cell? ⟨gb269, 4, none⟩ = some (.string a0_4) ∧ w'.cell? ⟨gb269, 5, none⟩ = some (.string a0_5) ∧ w'.cell? ⟨gb269, 6, none⟩ = some (.string a0_6) ∧ w'.cell? ⟨gb269, 7, none⟩ = some (.bool a0_7) ∧ w'.cell? ⟨gb269, 8, none⟩ = some (.bool a0_8) ∧ w'.cell? ⟨gb270, 0, none⟩ = some (.string a1_0) ∧ w'.cell? ⟨gb270, 1, none⟩ = some (.string a1_1) ∧ w'.cell? ⟨gb270, 2, none⟩ = some (.string a1_2) ∧ w'.cell? ⟨gb270, 3, none⟩ = some (.int .i64 a1_3) ∧ w'.cell? ⟨gb270, 4, none⟩ = some (.string a1_4) ∧ w'.cell? ⟨gb270, 5, none⟩ = some (.string a1_5) ∧ w'.cell? ⟨gb270, 6, none⟩ = some (.string a1_6) ∧ w'.cell? ⟨gb270, 7, none⟩ = some (.bool a1_7) ∧ w'.cell? ⟨gb270, 8, none⟩ = some (.bool a1_8)) (ds := []) ⟨(blk_cell BK269.out 0).trans rfl, (blk_cell BK269.out 1).trans rfl, (blk_cell BK269.out 2).trans rfl, (blk_cell BK269.out 3).trans rfl, (blk_cell BK269.out 4).trans rfl, (blk_cell BK269.out 5).trans rfl, (blk_cell BK269.out 6).trans rfl, (blk_cell BK269.out 7).trans rfl, (blk_cell BK269.out 8).trans rfl, (blk_cell BK270.out 0).trans rfl, (blk_cell BK270.out 1).trans rfl, (blk_cell BK270.out 2).trans rfl, (blk_cell BK270.out 3).trans rfl, (blk_cell BK270.out 4).trans rfl, (blk_cell BK270.out 5).trans rfl, (blk_cell BK270.out 6).trans rfl, (blk_cell BK270.out 7).trans rfl, (blk_cell BK270.out 8).trans rfl⟩ (fun hHeld => ?_); refine with_tabW impl_SameOrigin.tab1 impl_SameOrigin.bits1 (fun HT_ HW_ => ?_)
     generalize w14.drew = w15 at BK269 BK270 HB hHeld ⊢
     refine tU_ ?_
     refine oU_ (fun K hK => ?_)
     refine gU_ Tryz.func27 #[.agg #[.string a0_0, .string a0_1, .string a0_2, .int .i64 a0_3, .string a0_4, .string a0_5, .string a0_6, .bool a0_7, .bool a0_8]] ?_
     with_reducible refine (impl_UrlOK.calls k a0_0 a0_1 a0_2 a0_3 a0_4 a0_5 a0_6 a0_7 a0_8 true _ ?side1 A3.out).mono ?_
     (case side1 => exact Amb.on HM.out belE_)
     rintro e w16 ⟨rfl, hb⟩
     refine ⟨_, rfl, ?_⟩
     replace BK269 := blkB_ (g := gb269) (o := .cells #[.string a0_0, .string a0_1, .string a0_2, .int .i64 a0_3, .string a0_4, .string a0_5, .string a0_6, .bool a0_7, .bool a0_8] 32 (0, 0)) hb
     replace BK270 := blkB_ (g := gb270) (o := .cells #[.string a1_0, .string a1_1, .string a1_2, .int .i64 a1_3, .string a1_4, .string a1_5, .string a1_6, .bool a1_7, .bool a1_8] 32 (0, 0)) hb
     replace HB := Aside0.mk (below_step belE_ hb)
     (try clear hb)
     (try clear hb2)
     (try clear hk)
     (try clear hi)
     refine hK.out _ _ ⟨(blk_cell BK269.out 0).trans rfl, (blk_cell BK269.out 1).trans rfl, (blk_cell BK269.out 2).trans rfl, (blk_cell BK269.out 3).trans rfl, (blk_cell BK269.out 4).trans rfl, (blk_cell BK269.out 5).trans rfl, (blk_cell BK269.out 6).trans rfl, (blk_cell BK269.out 7).trans rfl, (blk_cell BK269.out 8).trans rfl, (blk_cell BK270.out 0).trans rfl, (blk_cell BK270.out 1).trans rfl, (blk_cell BK270.out 2).trans rfl, (blk_cell BK270.out 3).trans rfl, (blk_cell BK270.out 4).trans rfl, (blk_cell BK270.out 5).trans rfl, (blk_cell BK270.out 6).trans rfl, (blk_cell BK270.out 7).trans rfl, (blk_cell BK270.out 8).trans rfl⟩ (fun hHeld => ?_)
     clear hK K
     refine nU_ ?_
     refine pU_ ?_
     refine tU_ ?_
     refine oU_ (fun K hK => ?_)
     refine gU_ Tryz.func27 #[.agg #[.string a1_0, .string a1_1, .string a1_2, .int .i64 a1_3, .string a1_4, .string a1_5, .string a1_6, .bool a1_7, .bool a1_8]] ?_
     with_reducible refine (impl_UrlOK.calls k a1_0 a1_1 a1_2 a1_3 a1_4 a1_5 a1_6 a1_7 a1_8 true _ ?side1 A5.out).mono ?_
     (case side1 => exact Amb.on HM.out belE_)
     rintro e w17 ⟨rfl, hb⟩
     refine ⟨_, rfl, ?_⟩
     replace BK269 := blkB_ (g := gb269) (o := .cells #[.string a0_0, .string a0_1, .string a0_2, .int .i64 a0_3, .string a0_4, .string a0_5, .string a0_6, .bool a0_7, .bool a0_8] 32 (0, 0)) hb
     replace BK270 := blkB_ (g := gb270) (o := .cells #[.string a1_0, .string a1_1, .string a1_2, .int .i64 a1_3, .string a1_4, .string a1_5, .string a1_6, .bool a1_7, .bool a1_8] 32 (0, 0)) hb
     replace HB := Aside0.mk (below_step belE_ hb)
     (try clear hb)
     (try clear hb2)
     (try clear hk)
     (try clear hi)
     refine hK.out _ _ ⟨(blk_cell BK269.out 0).trans rfl, (blk_cell BK269.out 1).trans rfl, (blk_cell BK269.out 2).trans rfl, (blk_cell BK269.out 3).trans rfl, (blk_cell BK269.out 4).trans rfl, (blk_cell BK269.out 5).trans rfl, (blk_cell BK269.out 6).trans rfl, (blk_cell BK269.out 7).trans rfl, (blk_cell BK269.out 8).trans rfl, (blk_cell BK270.out 0).trans rfl, (blk_cell BK270.out 1).trans rfl, (blk_cell BK270.out 2).trans rfl, (blk_cell BK270.out 3).trans rfl, (blk_cell BK270.out 4).trans rfl, (blk_cell BK270.out 5).trans rfl, (blk_cell BK270.out 6).trans rfl, (blk_cell BK270.out 7).trans rfl, (blk_cell BK270.out 8).trans rfl⟩ (fun hHeld => ?_)
     clear hK K
     refine nU_ ?_
     iterate 2 refine pU_ ?_
     refine tU_ ?_
     refine oU_ (fun K hK => ?_)
     refine gU_ Tryz.func59 #[.agg #[.string a0_0, .string a0_1, .string a0_2, .int .i64 a0_3, .string a0_4, .string a0_5, .string a0_6, .bool a0_7, .bool a0_8]] ?_
     with_reducible refine (impl_Url_web.calls a0_0 a0_1 a0_2 a0_3 a0_4 a0_5 a0_6 a0_7 a0_8 true _ A7.out).mono ?_
     rintro e w18 ⟨rfl, hb⟩
     refine ⟨_, rfl, ?_⟩
     replace BK269 := blkB_ (g := gb269) (o := .cells #[.string a0_0, .string a0_1, .string a0_2, .int .i64 a0_3, .string a0_4, .string a0_5, .string a0_6, .bool a0_7, .bool a0_8] 32 (0, 0)) hb
     replace BK270 := blkB_ (g := gb270) (o := .cells #[.string a1_0, .string a1_1, .string a1_2, .int .i64 a1_3, .string a1_4, .string a1_5, .string a1_6, .bool a1_7, .bool a1_8] 32 (0, 0)) hb
     replace HB := Aside0.mk (below_step belE_ hb)
     (try clear hb)
     (try clear hb2)
     (try clear hk)
     (try clear hi)
     refine hK.out _ _ ⟨(blk_cell BK269.out 0).trans rfl, (blk_cell BK269.out 1).trans rfl, (blk_cell BK269.out 2).trans rfl, (blk_cell BK269.out 3).trans rfl, (blk_cell BK269.out 4).trans rfl, (blk_cell BK269.out 5).trans rfl, (blk_cell BK269.out 6).trans rfl, (blk_cell BK269.out 7).trans rfl, (blk_cell BK269.out 8).trans rfl, (blk_cell BK270.out 0).trans rfl, (blk_cell BK270.out 1).trans rfl, (blk_cell BK270.out 2).trans rfl, (blk_cell BK270.out 3).trans rfl, (blk_cell BK270.out 4).trans rfl, (blk_cell BK270.out 5).trans rfl, (blk_cell BK270.out 6).trans rfl, (blk_cell BK270.out 7).trans rfl, (blk_cell BK270.out 8).trans rfl⟩ (fun hHeld => ?_)
     clear hK K
     refine nU_ ?_
     iterate 2 refine pU_ ?_
     refine tU_ ?_
     refine oU_ (fun K hK => ?_)
     refine gU_ Tryz.func59 #[.agg #[.string a1_0, .string a1_1, .string a1_2, .int .i64 a1_3, .string a1_4, .string a1_5, .string a1_6, .bool a1_7, .bool a1_8]] ?_
     with_reducible refine (impl_Url_web.calls a1_0 a1_1 a1_2 a1_3 a1_4 a1_5 a1_6 a1_7 a1_8 true _ A9.out).mono ?_
     rintro e w19 ⟨rfl, hb⟩
     refine ⟨_, rfl, ?_⟩
     replace BK269 := blkB_ (g := gb269) (o := .cells #[.string a0_0, .string a0_1, .string a0_2, .int .i64 a0_3, .string a0_4, .string a0_5, .string a0_6, .bool a0_7, .bool a0_8] 32 (0, 0)) hb
     replace BK270 := blkB_ (g := gb270) (o := .cells #[.string a1_0, .string a1_1, .string a1_2, .int .i64 a1_3, .string a1_4, .string a1_5, .string a1_6, .bool a1_7, .bool a1_8] 32 (0, 0)) hb
     replace HB := Aside0.mk (below_step belE_ hb)
     (try clear hb)
     (try clear hb2)
     (try clear hk)
     (try clear hi)
     refine hK.out _ _ ⟨(blk_cell BK269.out 0).trans rfl, (blk_cell BK269.out 1).trans rfl, (blk_cell BK269.out 2).trans rfl, (blk_cell BK269.out 3).trans rfl, (blk_cell BK269.out 4).trans rfl, (blk_cell BK269.out 5).trans rfl, (blk_cell BK269.out 6).trans rfl, (blk_cell BK269.out 7).trans rfl, (blk_cell BK269.out 8).trans rfl, (blk_cell BK270.out 0).trans rfl, (blk_cell BK270.out 1).trans rfl, (blk_cell BK270.out 2).trans rfl, (blk_cell BK270.out 3).trans rfl, (blk_cell BK270.out 4).trans rfl, (blk_cell BK270.out 5).trans rfl, (blk_cell BK270.out 6).trans rfl, (blk_cell BK270.out 7).trans rfl, (blk_cell BK270.out 8).trans rfl⟩ (fun hHeld => ?_)
     clear hK K
     refine nU_ ?_
     iterate 2 refine pU_ ?_
     refine tU_ ?_
     refine tUX_ 17 ?_
     refine oU_ (fun K hK => ?_)
     refine gU_ Tryz.func60 #[.agg #[.string a0_0, .string a0_1, .string a0_2, .int .i64 a0_3, .string a0_4, .string a0_5, .string a0_6, .bool a0_7, .bool a0_8]] ?_
     with_reducible refine (impl_Url_origin.calls k a0_0 a0_1 a0_2 a0_3 a0_4 a0_5 a0_6 a0_7 a0_8 t275 _ ?side1 A11.out).mono ?_
     (case side1 => exact Amb.on HM.out belE_)
     rintro e w20 ⟨rfl, hb⟩
     refine ⟨_, rfl, ?_⟩
     replace BK269 := blkB_ (g := gb269) (o := .cells #[.string a0_0, .string a0_1, .string a0_2, .int .i64 a0_3, .string a0_4, .string a0_5, .string a0_6, .bool a0_7, .bool a0_8] 32 (0, 0)) hb
     replace BK270 := blkB_ (g := gb270) (o := .cells #[.string a1_0, .string a1_1, .string a1_2, .int .i64 a1_3, .string a1_4, .string a1_5, .string a1_6, .bool a1_7, .bool a1_8] 32 (0, 0)) hb
     replace HB := Aside0.mk (below_step belE_ hb)
     (try clear hb)
     (try clear hb2)
     (try clear hk)
     (try clear hi)
     refine hK.out _ _ ⟨(blk_cell BK269.out 0).trans rfl, (blk_cell BK269.out 1).trans rfl, (blk_cell BK269.out 2).trans rfl, (blk_cell BK269.out 3).trans rfl, (blk_cell BK269.out 4).trans rfl, (blk_cell BK269.out 5).trans rfl, (blk_cell BK269.out 6).trans rfl, (blk_cell BK269.out 7).trans rfl, (blk_cell BK269.out 8).trans rfl, (blk_cell BK270.out 0).trans rfl, (blk_cell BK270.out 1).trans rfl, (blk_cell BK270.out 2).trans rfl, (blk_cell BK270.out 3).trans rfl, (blk_cell BK270.out 4).trans rfl, (blk_cell BK270.out 5).trans rfl, (blk_cell BK270.out 6).trans rfl, (blk_cell BK270.out 7).trans rfl, (blk_cell BK270.out 8).trans rfl⟩ (fun hHeld => ?_)
     clear hK K
     refine nU_ ?_
     refine aU_ ?_
     refine oU_ (fun K hK => ?_)
     refine gU_ Tryz.func60 #[.agg #[.string a1_0, .string a1_1, .string a1_2, .int .i64 a1_3, .string a1_4, .string a1_5, .string a1_6, .bool a1_7, .bool a1_8]] ?_
     with_reducible refine (impl_Url_origin.calls k a1_0 a1_1 a1_2 a1_3 a1_4 a1_5 a1_6 a1_7 a1_8 t276 _ ?side1 A12.out).mono ?_
     (case side1 => exact Amb.on HM.out belE_)
     rintro e w21 ⟨rfl, hb⟩
     refine ⟨_, rfl, ?_⟩
     replace BK269 := blkB_ (g := gb269) (o := .cells #[.string a0_0, .string a0_1, .string a0_2, .int .i64 a0_3, .string a0_4, .string a0_5, .string a0_6, .bool a0_7, .bool a0_8] 32 (0, 0)) hb
     replace BK270 := blkB_ (g := gb270) (o := .cells #[.string a1_0, .string a1_1, .string a1_2, .int .i64 a1_3, .string a1_4, .string a1_5, .string a1_6, .bool a1_7, .bool a1_8] 32 (0, 0)) hb
     replace HB := Aside0.mk (below_step belE_ hb)
     (try clear hb)
     (try clear hb2)
     (try clear hk)
     (try clear hi)
     refine hK.out _ _ ⟨(blk_cell BK269.out 0).trans rfl, (blk_cell BK269.out 1).trans rfl, (blk_cell BK269.out 2).trans rfl, (blk_cell BK269.out 3).trans rfl, (blk_cell BK269.out 4).trans rfl, (blk_cell BK269.out 5).trans rfl, (blk_cell BK269.out 6).trans rfl, (blk_cell BK269.out 7).trans rfl, (blk_cell BK269.out 8).trans rfl, (blk_cell BK270.out 0).trans rfl, (blk_cell BK270.out 1).trans rfl, (blk_cell BK270.out 2).trans rfl, (blk_cell BK270.out 3).trans rfl, (blk_cell BK270.out 4).trans rfl, (blk_cell BK270.out 5).trans rfl, (blk_cell BK270.out 6).trans rfl, (blk_cell BK270.out 7).trans rfl, (blk_cell BK270.out 8).trans rfl⟩ (fun hHeld => ?_)
     clear hK K
     refine nU_ ?_
     iterate 3 refine pU_ ?_
     refine doneU_ ?_
     try go_wp2
     go_ret
     exact ⟨retE_, belE_⟩
    ·
     replace c10 := Bool.eq_false_iff.mpr c10
     subst c10
     replace H := ifF_ H
     obtain rfl := Option.some.inj H
     go_enter Tryz.func30, Tryz.ntmps30
     try go_wp2_with (first | ((with_reducible refine gate_dst (N := 2) rfl ?_); refine box_event ?hg (N := 2) ?hd (cs := #[.string a0_0, .string a0_1, .string a0_2, .int .i64 a0_3, .string a0_4, .string a0_5, .string a0_6, .bool a0_7, .bool a0_8]) (t := 32) ?hr ?_; (case hd => rfl); (case hg => rfl); (case hr => first | (go_simp; done) | (go_simp; rfl)); intro gb269 hg w22 hbox hb; have n0_ := belB_ hb; have n1_ := Aside0.mk (hbox); have n2_ := Aside0.mk ((by rw [hg]; exact (below_size belE_) : w.heap.size ≤ gb269)); have n3_ := Aside0.mk ((by rw [hg]; exact (below_size belE_) : w.heap.size ≤ gb269)); clear HB; have HB := n0_; have BK269 := n1_; have GW269 := n2_; have GE269 := n3_; clear n0_ n1_ n2_ n3_; clear hb hbox hg) | ((with_reducible refine gate_dst (N := 3) rfl ?_); refine box_event ?hg (N := 3) ?hd (cs := #[.string a1_0, .string a1_1, .string a1_2, .int .i64 a1_3, .string a1_4, .string a1_5, .string a1_6, .bool a1_7, .bool a1_8]) (t := 32) ?hr ?_; (case hd => rfl); (case hg => rfl); (case hr => first | (go_simp; done) | (go_simp; rfl)); intro gb270 hg w23 hbox hb; have n0_ := blkB_ (g := gb269) (o := .cells #[.string a0_0, .string a0_1, .string a0_2, .int .i64 a0_3, .string a0_4, .string a0_5, .string a0_6, .bool a0_7, .bool a0_8] 32 (0, 0)) hb; have n1_ := belB_ hb; have n2_ := Aside0.mk (hbox); have n3_ := Aside0.mk ((by rw [hg]; exact (below_size belE_) : w.heap.size ≤ gb270)); have n4_ := Aside0.mk ((by rw [hg]; exact (below_size belE_) : w.heap.size ≤ gb270)); have n5_ := Aside0.mk ((by rw [hg]; exact Nat.ne_of_lt (blk_lt (g := gb269) (o := .cells #[.string a0_0, .string a0_1, .string a0_2, .int .i64 a0_3, .string a0_4, .string a0_5, .string a0_6, .bool a0_7, .bool a0_8] 32 (0, 0)) (by (with_reducible repeat apply bd_); exact BK269.out)) : gb269 ≠ gb270)); have n6_ := Aside0.mk ((by rw [hg]; exact Nat.ne_of_gt (blk_lt (g := gb269) (o := .cells #[.string a0_0, .string a0_1, .string a0_2, .int .i64 a0_3, .string a0_4, .string a0_5, .string a0_6, .bool a0_7, .bool a0_8] 32 (0, 0)) (by (with_reducible repeat apply bd_); exact BK269.out)) : gb270 ≠ gb269)); clear BK269; clear HB; have BK269 := n0_; have HB := n1_; have BK270 := n2_; have GW270 := n3_; have GE270 := n4_; have NB269_270 := n5_; have NB270_269 := n6_; clear n0_ n1_ n2_ n3_ n4_ n5_ n6_; clear hb hbox hg))
     replace BK269 := Aside0.mk (blk_drew BK269.out)
     replace BK270 := Aside0.mk (blk_drew BK270.out)
     replace HB := Aside0.mk (below_drew1 HB.out)
     refine startU_ (n := 22) (S := fun w' => w'.cell? ⟨gb269, 0, none⟩ = some (.string a0_0) ∧ w'.cell? ⟨gb269, 1, none⟩ = some (.string a0_1) ∧ w'.cell? ⟨gb269, 2, none⟩ = some (.string a0_2) ∧ w'.cell? ⟨gb269, 3, none⟩ = some (.int .i64 a0_3) ∧ w'.cell? ⟨gb269, 4, none⟩ = some (.string a0_4) ∧ w'.cell? ⟨gb269, 5, none⟩ = some (.string a0_5) ∧ w'.cell? ⟨gb269, 6, none⟩ = some (.string a0_6) ∧ w'.cell? ⟨gb269, 7, none⟩ = some (.bool a0_7) ∧ w'.cell? ⟨gb269, 8, none⟩ = some (.bool a0_8) ∧ w'.cell? ⟨gb270, 0, none⟩ = some (.string a1_0) ∧ w'.cell? ⟨gb270, 1, none⟩ = some (.string a1_1) ∧ w'.cell? ⟨gb270, 2, none⟩ = some (.string a1_2) ∧ w'.cell? ⟨gb270, 3, none⟩ = some (.int .i64 a1_3) ∧ w'.cell? ⟨gb270, 4, none⟩ = some (.string a1_4) ∧ w'.cell? ⟨gb270, 5, none⟩ = some (.string a1_5) ∧ w'.cell? ⟨gb270, 6, none⟩ = some (.string a1_6) ∧ w'.cell? ⟨gb270, 7, none⟩ = some (.bool a1_7) ∧ w'.cell? ⟨gb270, 8, none⟩ = some (.bool a1_8)) (ds := []) ⟨(blk_cell BK269.out 0).trans rfl, (blk_cell BK269.out 1).trans rfl, (blk_cell BK269.out 2).trans rfl, (blk_cell BK269.out 3).trans rfl, (blk_cell BK269.out 4).trans rfl, (blk_cell BK269.out 5).trans rfl, (blk_cell BK269.out 6).trans rfl, (blk_cell BK269.out 7).trans rfl, (blk_cell BK269.out 8).trans rfl, (blk_cell BK270.out 0).trans rfl, (blk_cell BK270.out 1).trans rfl, (blk_cell BK270.out 2).trans rfl, (blk_cell BK270.out 3).trans rfl, (blk_cell BK270.out 4).trans rfl, (blk_cell BK270.out 5).trans rfl, (blk_cell BK270.out 6).trans rfl, (blk_cell BK270.out 7).trans rfl, (blk_cell BK270.out 8).trans rfl⟩ (fun hHeld => ?_); refine with_tabW impl_SameOrigin.tab1 impl_SameOrigin.bits1 (fun HT_ HW_ => ?_)
     generalize w23.drew = w24 at BK269 BK270 HB hHeld ⊢
     refine tU_ ?_
     refine oU_ (fun K hK => ?_)
     refine gU_ Tryz.func27 #[.agg #[.string a0_0, .string a0_1, .string a0_2, .int .i64 a0_3, .string a0_4, .string a0_5, .string a0_6, .bool a0_7, .bool a0_8]] ?_
     with_reducible refine (impl_UrlOK.calls k a0_0 a0_1 a0_2 a0_3 a0_4 a0_5 a0_6 a0_7 a0_8 true _ ?side1 A3.out).mono ?_
     (case side1 => exact Amb.on HM.out belE_)
     rintro e w25 ⟨rfl, hb⟩
     refine ⟨_, rfl, ?_⟩
     replace BK269 := blkB_ (g := gb269) (o := .cells #[.string a0_0, .string a0_1, .string a0_2, .int .i64 a0_3, .string a0_4, .string a0_5, .string a0_6, .bool a0_7, .bool a0_8] 32 (0, 0)) hb
     replace BK270 := blkB_ (g := gb270) (o := .cells #[.string a1_0, .string a1_1, .string a1_2, .int .i64 a1_3, .string a1_4, .string a1_5, .string a1_6, .bool a1_7, .bool a1_8] 32 (0, 0)) hb
     replace HB := Aside0.mk (below_step belE_ hb)
     (try clear hb)
     (try clear hb2)
     (try clear hk)
     (try clear hi)
     refine hK.out _ _ ⟨(blk_cell BK269.out 0).trans rfl, (blk_cell BK269.out 1).trans rfl, (blk_cell BK269.out 2).trans rfl, (blk_cell BK269.out 3).trans rfl, (blk_cell BK269.out 4).trans rfl, (blk_cell BK269.out 5).trans rfl, (blk_cell BK269.out 6).trans rfl, (blk_cell BK269.out 7).trans rfl, (blk_cell BK269.out 8).trans rfl, (blk_cell BK270.out 0).trans rfl, (blk_cell BK270.out 1).trans rfl, (blk_cell BK270.out 2).trans rfl, (blk_cell BK270.out 3).trans rfl, (blk_cell BK270.out 4).trans rfl, (blk_cell BK270.out 5).trans rfl, (blk_cell BK270.out 6).trans rfl, (blk_cell BK270.out 7).trans rfl, (blk_cell BK270.out 8).trans rfl⟩ (fun hHeld => ?_)
     clear hK K
     refine nU_ ?_
     refine pU_ ?_
     refine tU_ ?_
     refine oU_ (fun K hK => ?_)
     refine gU_ Tryz.func27 #[.agg #[.string a1_0, .string a1_1, .string a1_2, .int .i64 a1_3, .string a1_4, .string a1_5, .string a1_6, .bool a1_7, .bool a1_8]] ?_
     with_reducible refine (impl_UrlOK.calls k a1_0 a1_1 a1_2 a1_3 a1_4 a1_5 a1_6 a1_7 a1_8 true _ ?side1 A5.out).mono ?_
     (case side1 => exact Amb.on HM.out belE_)
     rintro e w26 ⟨rfl, hb⟩
     refine ⟨_, rfl, ?_⟩
     replace BK269 := blkB_ (g := gb269) (o := .cells #[.string a0_0, .string a0_1, .string a0_2, .int .i64 a0_3, .string a0_4, .string a0_5, .string a0_6, .bool a0_7, .bool a0_8] 32 (0, 0)) hb
     replace BK270 := blkB_ (g := gb270) (o := .cells #[.string a1_0, .string a1_1, .string a1_2, .int .i64 a1_3, .string a1_4, .string a1_5, .string a1_6, .bool a1_7, .bool a1_8] 32 (0, 0)) hb
     replace HB := Aside0.mk (below_step belE_ hb)
     (try clear hb)
     (try clear hb2)
     (try clear hk)
     (try clear hi)
     refine hK.out _ _ ⟨(blk_cell BK269.out 0).trans rfl, (blk_cell BK269.out 1).trans rfl, (blk_cell BK269.out 2).trans rfl, (blk_cell BK269.out 3).trans rfl, (blk_cell BK269.out 4).trans rfl, (blk_cell BK269.out 5).trans rfl, (blk_cell BK269.out 6).trans rfl, (blk_cell BK269.out 7).trans rfl, (blk_cell BK269.out 8).trans rfl, (blk_cell BK270.out 0).trans rfl, (blk_cell BK270.out 1).trans rfl, (blk_cell BK270.out 2).trans rfl, (blk_cell BK270.out 3).trans rfl, (blk_cell BK270.out 4).trans rfl, (blk_cell BK270.out 5).trans rfl, (blk_cell BK270.out 6).trans rfl, (blk_cell BK270.out 7).trans rfl, (blk_cell BK270.out 8).trans rfl⟩ (fun hHeld => ?_)
     clear hK K
     refine nU_ ?_
     iterate 2 refine pU_ ?_
     refine tU_ ?_
     refine oU_ (fun K hK => ?_)
     refine gU_ Tryz.func59 #[.agg #[.string a0_0, .string a0_1, .string a0_2, .int .i64 a0_3, .string a0_4, .string a0_5, .string a0_6, .bool a0_7, .bool a0_8]] ?_
     with_reducible refine (impl_Url_web.calls a0_0 a0_1 a0_2 a0_3 a0_4 a0_5 a0_6 a0_7 a0_8 true _ A7.out).mono ?_
     rintro e w27 ⟨rfl, hb⟩
     refine ⟨_, rfl, ?_⟩
     replace BK269 := blkB_ (g := gb269) (o := .cells #[.string a0_0, .string a0_1, .string a0_2, .int .i64 a0_3, .string a0_4, .string a0_5, .string a0_6, .bool a0_7, .bool a0_8] 32 (0, 0)) hb
     replace BK270 := blkB_ (g := gb270) (o := .cells #[.string a1_0, .string a1_1, .string a1_2, .int .i64 a1_3, .string a1_4, .string a1_5, .string a1_6, .bool a1_7, .bool a1_8] 32 (0, 0)) hb
     replace HB := Aside0.mk (below_step belE_ hb)
     (try clear hb)
     (try clear hb2)
     (try clear hk)
     (try clear hi)
     refine hK.out _ _ ⟨(blk_cell BK269.out 0).trans rfl, (blk_cell BK269.out 1).trans rfl, (blk_cell BK269.out 2).trans rfl, (blk_cell BK269.out 3).trans rfl, (blk_cell BK269.out 4).trans rfl, (blk_cell BK269.out 5).trans rfl, (blk_cell BK269.out 6).trans rfl, (blk_cell BK269.out 7).trans rfl, (blk_cell BK269.out 8).trans rfl, (blk_cell BK270.out 0).trans rfl, (blk_cell BK270.out 1).trans rfl, (blk_cell BK270.out 2).trans rfl, (blk_cell BK270.out 3).trans rfl, (blk_cell BK270.out 4).trans rfl, (blk_cell BK270.out 5).trans rfl, (blk_cell BK270.out 6).trans rfl, (blk_cell BK270.out 7).trans rfl, (blk_cell BK270.out 8).trans rfl⟩ (fun hHeld => ?_)
     clear hK K
     refine nU_ ?_
     iterate 2 refine pU_ ?_
     refine tU_ ?_
     refine oU_ (fun K hK => ?_)
     refine gU_ Tryz.func59 #[.agg #[.string a1_0, .string a1_1, .string a1_2, .int .i64 a1_3, .string a1_4, .string a1_5, .string a1_6, .bool a1_7, .bool a1_8]] ?_
     with_reducible refine (impl_Url_web.calls a1_0 a1_1 a1_2 a1_3 a1_4 a1_5 a1_6 a1_7 a1_8 false _ A9.out).mono ?_
     rintro e w28 ⟨rfl, hb⟩
     refine ⟨_, rfl, ?_⟩
     replace BK269 := blkB_ (g := gb269) (o := .cells #[.string a0_0, .string a0_1, .string a0_2, .int .i64 a0_3, .string a0_4, .string a0_5, .string a0_6, .bool a0_7, .bool a0_8] 32 (0, 0)) hb
     replace BK270 := blkB_ (g := gb270) (o := .cells #[.string a1_0, .string a1_1, .string a1_2, .int .i64 a1_3, .string a1_4, .string a1_5, .string a1_6, .bool a1_7, .bool a1_8] 32 (0, 0)) hb
     replace HB := Aside0.mk (below_step belE_ hb)
     (try clear hb)
     (try clear hb2)
     (try clear hk)
     (try clear hi)
     refine hK.out _ _ ⟨(blk_cell BK269.out 0).trans rfl, (blk_cell BK269.out 1).trans rfl, (blk_cell BK269.out 2).trans rfl, (blk_cell BK269.out 3).trans rfl, (blk_cell BK269.out 4).trans rfl, (blk_cell BK269.out 5).trans rfl, (blk_cell BK269.out 6).trans rfl, (blk_cell BK269.out 7).trans rfl, (blk_cell BK269.out 8).trans rfl, (blk_cell BK270.out 0).trans rfl, (blk_cell BK270.out 1).trans rfl, (blk_cell BK270.out 2).trans rfl, (blk_cell BK270.out 3).trans rfl, (blk_cell BK270.out 4).trans rfl, (blk_cell BK270.out 5).trans rfl, (blk_cell BK270.out 6).trans rfl, (blk_cell BK270.out 7).trans rfl, (blk_cell BK270.out 8).trans rfl⟩ (fun hHeld => ?_)
     clear hK K
     refine nU_ ?_
     iterate 2 refine pU_ ?_
     iterate 5 refine sU_ ?_
     iterate 2 refine pU_ ?_
     refine doneU_ ?_
     try go_wp2
     go_ret
     exact ⟨retE_, belE_⟩
   ·
    replace c8 := Bool.eq_false_iff.mpr c8
    subst c8
    replace H := ifF_ H
    obtain rfl := Option.some.inj H
    go_enter Tryz.func30, Tryz.ntmps30
    try go_wp2_with (first | ((with_reducible refine gate_dst (N := 2) rfl ?_); refine box_event ?hg (N := 2) ?hd (cs := #[.string a0_0, .string a0_1, .string a0_2, .int .i64 a0_3, .string a0_4, .string a0_5, .string a0_6, .bool a0_7, .bool a0_8]) (t := 32) ?hr ?_; (case hd => rfl); (case hg => rfl); (case hr => first | (go_simp; done) | (go_simp; rfl)); intro gb269 hg w29 hbox hb; have n0_ := belB_ hb; have n1_ := Aside0.mk (hbox); have n2_ := Aside0.mk ((by rw [hg]; exact (below_size belE_) : w.heap.size ≤ gb269)); have n3_ := Aside0.mk ((by rw [hg]; exact (below_size belE_) : w.heap.size ≤ gb269)); clear HB; have HB := n0_; have BK269 := n1_; have GW269 := n2_; have GE269 := n3_; clear n0_ n1_ n2_ n3_; clear hb hbox hg) | ((with_reducible refine gate_dst (N := 3) rfl ?_); refine box_event ?hg (N := 3) ?hd (cs := #[.string a1_0, .string a1_1, .string a1_2, .int .i64 a1_3, .string a1_4, .string a1_5, .string a1_6, .bool a1_7, .bool a1_8]) (t := 32) ?hr ?_; (case hd => rfl); (case hg => rfl); (case hr => first | (go_simp; done) | (go_simp; rfl)); intro gb270 hg w30 hbox hb; have n0_ := blkB_ (g := gb269) (o := .cells #[.string a0_0, .string a0_1, .string a0_2, .int .i64 a0_3, .string a0_4, .string a0_5, .string a0_6, .bool a0_7, .bool a0_8] 32 (0, 0)) hb; have n1_ := belB_ hb; have n2_ := Aside0.mk (hbox); have n3_ := Aside0.mk ((by rw [hg]; exact (below_size belE_) : w.heap.size ≤ gb270)); have n4_ := Aside0.mk ((by rw [hg]; exact (below_size belE_) : w.heap.size ≤ gb270)); have n5_ := Aside0.mk ((by rw [hg]; exact Nat.ne_of_lt (blk_lt (g := gb269) (o := .cells #[.string a0_0, .string a0_1, .string a0_2, .int .i64 a0_3, .string a0_4, .string a0_5, .string a0_6, .bool a0_7, .bool a0_8] 32 (0, 0)) (by (with_reducible repeat apply bd_); exact BK269.out)) : gb269 ≠ gb270)); have n6_ := Aside0.mk ((by rw [hg]; exact Nat.ne_of_gt (blk_lt (g := gb269) (o := .cells #[.string a0_0, .string a0_1, .string a0_2, .int .i64 a0_3, .string a0_4, .string a0_5, .string a0_6, .bool a0_7, .bool a0_8] 32 (0, 0)) (by (with_reducible repeat apply bd_); exact BK269.out)) : gb270 ≠ gb269)); clear BK269; clear HB; have BK269 := n0_; have HB := n1_; have BK270 := n2_; have GW270 := n3_; have GE270 := n4_; have NB269_270 := n5_; have NB270_269 := n6_; clear n0_ n1_ n2_ n3_ n4_ n5_ n6_; clear hb hbox hg))
    replace BK269 := Aside0.mk (blk_drew BK269.out)
    replace BK270 := Aside0.mk (blk_drew BK270.out)
    replace HB := Aside0.mk (below_drew1 HB.out)
    refine startU_ (n := 22) (S := fun w' => w'.cell? ⟨gb269, 0, none⟩ = some (.string a0_0) ∧ w'.cell? ⟨gb269, 1, none⟩ = some (.string a0_1) ∧ w'.cell? ⟨gb269, 2, none⟩ = some (.string a0_2) ∧ w'.cell? ⟨gb269, 3, none⟩ = some (.int .i64 a0_3) ∧ w'.cell? ⟨gb269, 4, none⟩ = some (.string a0_4) ∧ w'.cell? ⟨gb269, 5, none⟩ = some (.string a0_5) ∧ w'.cell? ⟨gb269, 6, none⟩ = some (.string a0_6) ∧ w'.cell? ⟨gb269, 7, none⟩ = some (.bool a0_7) ∧ w'.cell? ⟨gb269, 8, none⟩ = some (.bool a0_8) ∧ w'.cell? ⟨gb270, 0, none⟩ = some (.string a1_0) ∧ w'.cell? ⟨gb270, 1, none⟩ = some (.string a1_1) ∧ w'.cell? ⟨gb270, 2, none⟩ = some (.string a1_2) ∧ w'.cell? ⟨gb270, 3, none⟩ = some (.int .i64 a1_3) ∧ w'.cell? ⟨gb270, 4, none⟩ = some (.string a1_4) ∧ w'.cell? ⟨gb270, 5, none⟩ = some (.string a1_5) ∧ w'.cell? ⟨gb270, 6, none⟩ = some (.string a1_6) ∧ w'.cell? ⟨gb270, 7, none⟩ = some (.bool a1_7) ∧ w'.cell? ⟨gb270, 8, none⟩ = some (.bool a1_8)) (ds := []) ⟨(blk_cell BK269.out 0).trans rfl, (blk_cell BK269.out 1).trans rfl, (blk_cell BK269.out 2).trans rfl, (blk_cell BK269.out 3).trans rfl, (blk_cell BK269.out 4).trans rfl, (blk_cell BK269.out 5).trans rfl, (blk_cell BK269.out 6).trans rfl, (blk_cell BK269.out 7).trans rfl, (blk_cell BK269.out 8).trans rfl, (blk_cell BK270.out 0).trans rfl, (blk_cell BK270.out 1).trans rfl, (blk_cell BK270.out 2).trans rfl, (blk_cell BK270.out 3).trans rfl, (blk_cell BK270.out 4).trans rfl, (blk_cell BK270.out 5).trans rfl, (blk_cell BK270.out 6).trans rfl, (blk_cell BK270.out 7).trans rfl, (blk_cell BK270.out 8).trans rfl⟩ (fun hHeld => ?_); refine with_tabW impl_SameOrigin.tab1 impl_SameOrigin.bits1 (fun HT_ HW_ => ?_)
    generalize w30.drew = w31 at BK269 BK270 HB hHeld ⊢
    refine tU_ ?_
    refine oU_ (fun K hK => ?_)
    refine gU_ Tryz.func27 #[.agg #[.string a0_0, .string a0_1, .string a0_2, .int .i64 a0_3, .string a0_4, .string a0_5, .string a0_6, .bool a0_7, .bool a0_8]] ?_
    with_reducible refine (impl_UrlOK.calls k a0_0 a0_1 a0_2 a0_3 a0_4 a0_5 a0_6 a0_7 a0_8 true _ ?side1 A3.out).mono ?_
    (case side1 => exact Amb.on HM.out belE_)
    rintro e w32 ⟨rfl, hb⟩
    refine ⟨_, rfl, ?_⟩
    replace BK269 := blkB_ (g := gb269) (o := .cells #[.string a0_0, .string a0_1, .string a0_2, .int .i64 a0_3, .string a0_4, .string a0_5, .string a0_6, .bool a0_7, .bool a0_8] 32 (0, 0)) hb
    replace BK270 := blkB_ (g := gb270) (o := .cells #[.string a1_0, .string a1_1, .string a1_2, .int .i64 a1_3, .string a1_4, .string a1_5, .string a1_6, .bool a1_7, .bool a1_8] 32 (0, 0)) hb
    replace HB := Aside0.mk (below_step belE_ hb)
    (try clear hb)
    (try clear hb2)
    (try clear hk)
    (try clear hi)
    refine hK.out _ _ ⟨(blk_cell BK269.out 0).trans rfl, (blk_cell BK269.out 1).trans rfl, (blk_cell BK269.out 2).trans rfl, (blk_cell BK269.out 3).trans rfl, (blk_cell BK269.out 4).trans rfl, (blk_cell BK269.out 5).trans rfl, (blk_cell BK269.out 6).trans rfl, (blk_cell BK269.out 7).trans rfl, (blk_cell BK269.out 8).trans rfl, (blk_cell BK270.out 0).trans rfl, (blk_cell BK270.out 1).trans rfl, (blk_cell BK270.out 2).trans rfl, (blk_cell BK270.out 3).trans rfl, (blk_cell BK270.out 4).trans rfl, (blk_cell BK270.out 5).trans rfl, (blk_cell BK270.out 6).trans rfl, (blk_cell BK270.out 7).trans rfl, (blk_cell BK270.out 8).trans rfl⟩ (fun hHeld => ?_)
    clear hK K
    refine nU_ ?_
    refine pU_ ?_
    refine tU_ ?_
    refine oU_ (fun K hK => ?_)
    refine gU_ Tryz.func27 #[.agg #[.string a1_0, .string a1_1, .string a1_2, .int .i64 a1_3, .string a1_4, .string a1_5, .string a1_6, .bool a1_7, .bool a1_8]] ?_
    with_reducible refine (impl_UrlOK.calls k a1_0 a1_1 a1_2 a1_3 a1_4 a1_5 a1_6 a1_7 a1_8 true _ ?side1 A5.out).mono ?_
    (case side1 => exact Amb.on HM.out belE_)
    rintro e w33 ⟨rfl, hb⟩
    refine ⟨_, rfl, ?_⟩
    replace BK269 := blkB_ (g := gb269) (o := .cells #[.string a0_0, .string a0_1, .string a0_2, .int .i64 a0_3, .string a0_4, .string a0_5, .string a0_6, .bool a0_7, .bool a0_8] 32 (0, 0)) hb
    replace BK270 := blkB_ (g := gb270) (o := .cells #[.string a1_0, .string a1_1, .string a1_2, .int .i64 a1_3, .string a1_4, .string a1_5, .string a1_6, .bool a1_7, .bool a1_8] 32 (0, 0)) hb
    replace HB := Aside0.mk (below_step belE_ hb)
    (try clear hb)
    (try clear hb2)
    (try clear hk)
    (try clear hi)
    refine hK.out _ _ ⟨(blk_cell BK269.out 0).trans rfl, (blk_cell BK269.out 1).trans rfl, (blk_cell BK269.out 2).trans rfl, (blk_cell BK269.out 3).trans rfl, (blk_cell BK269.out 4).trans rfl, (blk_cell BK269.out 5).trans rfl, (blk_cell BK269.out 6).trans rfl, (blk_cell BK269.out 7).trans rfl, (blk_cell BK269.out 8).trans rfl, (blk_cell BK270.out 0).trans rfl, (blk_cell BK270.out 1).trans rfl, (blk_cell BK270.out 2).trans rfl, (blk_cell BK270.out 3).trans rfl, (blk_cell BK270.out 4).trans rfl, (blk_cell BK270.out 5).trans rfl, (blk_cell BK270.out 6).trans rfl, (blk_cell BK270.out 7).trans rfl, (blk_cell BK270.out 8).trans rfl⟩ (fun hHeld => ?_)
    clear hK K
    refine nU_ ?_
    iterate 2 refine pU_ ?_
    refine tU_ ?_
    refine oU_ (fun K hK => ?_)
    refine gU_ Tryz.func59 #[.agg #[.string a0_0, .string a0_1, .string a0_2, .int .i64 a0_3, .string a0_4, .string a0_5, .string a0_6, .bool a0_7, .bool a0_8]] ?_
    with_reducible refine (impl_Url_web.calls a0_0 a0_1 a0_2 a0_3 a0_4 a0_5 a0_6 a0_7 a0_8 false _ A7.out).mono ?_
    rintro e w34 ⟨rfl, hb⟩
    refine ⟨_, rfl, ?_⟩
    replace BK269 := blkB_ (g := gb269) (o := .cells #[.string a0_0, .string a0_1, .string a0_2, .int .i64 a0_3, .string a0_4, .string a0_5, .string a0_6, .bool a0_7, .bool a0_8] 32 (0, 0)) hb
    replace BK270 := blkB_ (g := gb270) (o := .cells #[.string a1_0, .string a1_1, .string a1_2, .int .i64 a1_3, .string a1_4, .string a1_5, .string a1_6, .bool a1_7, .bool a1_8] 32 (0, 0)) hb
    replace HB := Aside0.mk (below_step belE_ hb)
    (try clear hb)
    (try clear hb2)
    (try clear hk)
    (try clear hi)
    refine hK.out _ _ ⟨(blk_cell BK269.out 0).trans rfl, (blk_cell BK269.out 1).trans rfl, (blk_cell BK269.out 2).trans rfl, (blk_cell BK269.out 3).trans rfl, (blk_cell BK269.out 4).trans rfl, (blk_cell BK269.out 5).trans rfl, (blk_cell BK269.out 6).trans rfl, (blk_cell BK269.out 7).trans rfl, (blk_cell BK269.out 8).trans rfl, (blk_cell BK270.out 0).trans rfl, (blk_cell BK270.out 1).trans rfl, (blk_cell BK270.out 2).trans rfl, (blk_cell BK270.out 3).trans rfl, (blk_cell BK270.out 4).trans rfl, (blk_cell BK270.out 5).trans rfl, (blk_cell BK270.out 6).trans rfl, (blk_cell BK270.out 7).trans rfl, (blk_cell BK270.out 8).trans rfl⟩ (fun hHeld => ?_)
    clear hK K
    refine nU_ ?_
    iterate 2 refine pU_ ?_
    iterate 2 refine sU_ ?_
    iterate 2 refine pU_ ?_
    iterate 5 refine sU_ ?_
    iterate 2 refine pU_ ?_
    refine doneU_ ?_
    try go_wp2
    go_ret
    exact ⟨retE_, belE_⟩
  ·
   replace c6 := Bool.eq_false_iff.mpr c6
   subst c6
   replace H := ifF_ H
   obtain rfl := Option.some.inj H
   go_enter Tryz.func30, Tryz.ntmps30
   try go_wp2_with (first | ((with_reducible refine gate_dst (N := 2) rfl ?_); refine box_event ?hg (N := 2) ?hd (cs := #[.string a0_0, .string a0_1, .string a0_2, .int .i64 a0_3, .string a0_4, .string a0_5, .string a0_6, .bool a0_7, .bool a0_8]) (t := 32) ?hr ?_; (case hd => rfl); (case hg => rfl); (case hr => first | (go_simp; done) | (go_simp; rfl)); intro gb269 hg w35 hbox hb; have n0_ := belB_ hb; have n1_ := Aside0.mk (hbox); have n2_ := Aside0.mk ((by rw [hg]; exact (below_size belE_) : w.heap.size ≤ gb269)); have n3_ := Aside0.mk ((by rw [hg]; exact (below_size belE_) : w.heap.size ≤ gb269)); clear HB; have HB := n0_; have BK269 := n1_; have GW269 := n2_; have GE269 := n3_; clear n0_ n1_ n2_ n3_; clear hb hbox hg) | ((with_reducible refine gate_dst (N := 3) rfl ?_); refine box_event ?hg (N := 3) ?hd (cs := #[.string a1_0, .string a1_1, .string a1_2, .int .i64 a1_3, .string a1_4, .string a1_5, .string a1_6, .bool a1_7, .bool a1_8]) (t := 32) ?hr ?_; (case hd => rfl); (case hg => rfl); (case hr => first | (go_simp; done) | (go_simp; rfl)); intro gb270 hg w36 hbox hb; have n0_ := blkB_ (g := gb269) (o := .cells #[.string a0_0, .string a0_1, .string a0_2, .int .i64 a0_3, .string a0_4, .string a0_5, .string a0_6, .bool a0_7, .bool a0_8] 32 (0, 0)) hb; have n1_ := belB_ hb; have n2_ := Aside0.mk (hbox); have n3_ := Aside0.mk ((by rw [hg]; exact (below_size belE_) : w.heap.size ≤ gb270)); have n4_ := Aside0.mk ((by rw [hg]; exact (below_size belE_) : w.heap.size ≤ gb270)); have n5_ := Aside0.mk ((by rw [hg]; exact Nat.ne_of_lt (blk_lt (g := gb269) (o := .cells #[.string a0_0, .string a0_1, .string a0_2, .int .i64 a0_3, .string a0_4, .string a0_5, .string a0_6, .bool a0_7, .bool a0_8] 32 (0, 0)) (by (with_reducible repeat apply bd_); exact BK269.out)) : gb269 ≠ gb270)); have n6_ := Aside0.mk ((by rw [hg]; exact Nat.ne_of_gt (blk_lt (g := gb269) (o := .cells #[.string a0_0, .string a0_1, .string a0_2, .int .i64 a0_3, .string a0_4, .string a0_5, .string a0_6, .bool a0_7, .bool a0_8] 32 (0, 0)) (by (with_reducible repeat apply bd_); exact BK269.out)) : gb270 ≠ gb269)); clear BK269; clear HB; have BK269 := n0_; have HB := n1_; have BK270 := n2_; have GW270 := n3_; have GE270 := n4_; have NB269_270 := n5_; have NB270_269 := n6_; clear n0_ n1_ n2_ n3_ n4_ n5_ n6_; clear hb hbox hg))
   replace BK269 := Aside0.mk (blk_drew BK269.out)
   replace BK270 := Aside0.mk (blk_drew BK270.out)
   replace HB := Aside0.mk (below_drew1 HB.out)
   refine startU_ (n := 22) (S := fun w' => w'.cell? ⟨gb269, 0, none⟩ = some (.string a0_0) ∧ w'.cell? ⟨gb269, 1, none⟩ = some (.string a0_1) ∧ w'.cell? ⟨gb269, 2, none⟩ = some (.string a0_2) ∧ w'.cell? ⟨gb269, 3, none⟩ = some (.int .i64 a0_3) ∧ w'.cell? ⟨gb269, 4, none⟩ = some (.string a0_4) ∧ w'.cell? ⟨gb269, 5, none⟩ = some (.string a0_5) ∧ w'.cell? ⟨gb269, 6, none⟩ = some (.string a0_6) ∧ w'.cell? ⟨gb269, 7, none⟩ = some (.bool a0_7) ∧ w'.cell? ⟨gb269, 8, none⟩ = some (.bool a0_8) ∧ w'.cell? ⟨gb270, 0, none⟩ = some (.string a1_0) ∧ w'.cell? ⟨gb270, 1, none⟩ = some (.string a1_1) ∧ w'.cell? ⟨gb270, 2, none⟩ = some (.string a1_2) ∧ w'.cell? ⟨gb270, 3, none⟩ = some (.int .i64 a1_3) ∧ w'.cell? ⟨gb270, 4, none⟩ = some (.string a1_4) ∧ w'.cell? ⟨gb270, 5, none⟩ = some (.string a1_5) ∧ w'.cell? ⟨gb270, 6, none⟩ = some (.string a1_6) ∧ w'.cell? ⟨gb270, 7, none⟩ = some (.bool a1_7) ∧ w'.cell? ⟨gb270, 8, none⟩ = some (.bool a1_8)) (ds := []) ⟨(blk_cell BK269.out 0).trans rfl, (blk_cell BK269.out 1).trans rfl, (blk_cell BK269.out 2).trans rfl, (blk_cell BK269.out 3).trans rfl, (blk_cell BK269.out 4).trans rfl, (blk_cell BK269.out 5).trans rfl, (blk_cell BK269.out 6).trans rfl, (blk_cell BK269.out 7).trans rfl, (blk_cell BK269.out 8).trans rfl, (blk_cell BK270.out 0).trans rfl, (blk_cell BK270.out 1).trans rfl, (blk_cell BK270.out 2).trans rfl, (blk_cell BK270.out 3).trans rfl, (blk_cell BK270.out 4).trans rfl, (blk_cell BK270.out 5).trans rfl, (blk_cell BK270.out 6).trans rfl, (blk_cell BK270.out 7).trans rfl, (blk_cell BK270.out 8).trans rfl⟩ (fun hHeld => ?_); refine with_tabW impl_SameOrigin.tab1 impl_SameOrigin.bits1 (fun HT_ HW_ => ?_)
   generalize w36.drew = w37 at BK269 BK270 HB hHeld ⊢
   refine tU_ ?_
   refine oU_ (fun K hK => ?_)
   refine gU_ Tryz.func27 #[.agg #[.string a0_0, .string a0_1, .string a0_2, .int .i64 a0_3, .string a0_4, .string a0_5, .string a0_6, .bool a0_7, .bool a0_8]] ?_
   with_reducible refine (impl_UrlOK.calls k a0_0 a0_1 a0_2 a0_3 a0_4 a0_5 a0_6 a0_7 a0_8 true _ ?side1 A3.out).mono ?_
   (case side1 => exact Amb.on HM.out belE_)
   rintro e w38 ⟨rfl, hb⟩
   refine ⟨_, rfl, ?_⟩
   replace BK269 := blkB_ (g := gb269) (o := .cells #[.string a0_0, .string a0_1, .string a0_2, .int .i64 a0_3, .string a0_4, .string a0_5, .string a0_6, .bool a0_7, .bool a0_8] 32 (0, 0)) hb
   replace BK270 := blkB_ (g := gb270) (o := .cells #[.string a1_0, .string a1_1, .string a1_2, .int .i64 a1_3, .string a1_4, .string a1_5, .string a1_6, .bool a1_7, .bool a1_8] 32 (0, 0)) hb
   replace HB := Aside0.mk (below_step belE_ hb)
   (try clear hb)
   (try clear hb2)
   (try clear hk)
   (try clear hi)
   refine hK.out _ _ ⟨(blk_cell BK269.out 0).trans rfl, (blk_cell BK269.out 1).trans rfl, (blk_cell BK269.out 2).trans rfl, (blk_cell BK269.out 3).trans rfl, (blk_cell BK269.out 4).trans rfl, (blk_cell BK269.out 5).trans rfl, (blk_cell BK269.out 6).trans rfl, (blk_cell BK269.out 7).trans rfl, (blk_cell BK269.out 8).trans rfl, (blk_cell BK270.out 0).trans rfl, (blk_cell BK270.out 1).trans rfl, (blk_cell BK270.out 2).trans rfl, (blk_cell BK270.out 3).trans rfl, (blk_cell BK270.out 4).trans rfl, (blk_cell BK270.out 5).trans rfl, (blk_cell BK270.out 6).trans rfl, (blk_cell BK270.out 7).trans rfl, (blk_cell BK270.out 8).trans rfl⟩ (fun hHeld => ?_)
   clear hK K
   refine nU_ ?_
   refine pU_ ?_
   refine tU_ ?_
   refine oU_ (fun K hK => ?_)
   refine gU_ Tryz.func27 #[.agg #[.string a1_0, .string a1_1, .string a1_2, .int .i64 a1_3, .string a1_4, .string a1_5, .string a1_6, .bool a1_7, .bool a1_8]] ?_
   with_reducible refine (impl_UrlOK.calls k a1_0 a1_1 a1_2 a1_3 a1_4 a1_5 a1_6 a1_7 a1_8 false _ ?side1 A5.out).mono ?_
   (case side1 => exact Amb.on HM.out belE_)
   rintro e w39 ⟨rfl, hb⟩
   refine ⟨_, rfl, ?_⟩
   replace BK269 := blkB_ (g := gb269) (o := .cells #[.string a0_0, .string a0_1, .string a0_2, .int .i64 a0_3, .string a0_4, .string a0_5, .string a0_6, .bool a0_7, .bool a0_8] 32 (0, 0)) hb
   replace BK270 := blkB_ (g := gb270) (o := .cells #[.string a1_0, .string a1_1, .string a1_2, .int .i64 a1_3, .string a1_4, .string a1_5, .string a1_6, .bool a1_7, .bool a1_8] 32 (0, 0)) hb
   replace HB := Aside0.mk (below_step belE_ hb)
   (try clear hb)
   (try clear hb2)
   (try clear hk)
   (try clear hi)
   refine hK.out _ _ ⟨(blk_cell BK269.out 0).trans rfl, (blk_cell BK269.out 1).trans rfl, (blk_cell BK269.out 2).trans rfl, (blk_cell BK269.out 3).trans rfl, (blk_cell BK269.out 4).trans rfl, (blk_cell BK269.out 5).trans rfl, (blk_cell BK269.out 6).trans rfl, (blk_cell BK269.out 7).trans rfl, (blk_cell BK269.out 8).trans rfl, (blk_cell BK270.out 0).trans rfl, (blk_cell BK270.out 1).trans rfl, (blk_cell BK270.out 2).trans rfl, (blk_cell BK270.out 3).trans rfl, (blk_cell BK270.out 4).trans rfl, (blk_cell BK270.out 5).trans rfl, (blk_cell BK270.out 6).trans rfl, (blk_cell BK270.out 7).trans rfl, (blk_cell BK270.out 8).trans rfl⟩ (fun hHeld => ?_)
   clear hK K
   refine nU_ ?_
   iterate 2 refine pU_ ?_
   iterate 2 refine sU_ ?_
   iterate 2 refine pU_ ?_
   iterate 2 refine sU_ ?_
   iterate 2 refine pU_ ?_
   iterate 5 refine sU_ ?_
   iterate 2 refine pU_ ?_
   refine doneU_ ?_
   try go_wp2
   go_ret
   exact ⟨retE_, belE_⟩
 ·
  replace c4 := Bool.eq_false_iff.mpr c4
  subst c4
  replace H := ifF_ H
  obtain rfl := Option.some.inj H
  go_enter Tryz.func30, Tryz.ntmps30
  try go_wp2_with (first | ((with_reducible refine gate_dst (N := 2) rfl ?_); refine box_event ?hg (N := 2) ?hd (cs := #[.string a0_0, .string a0_1, .string a0_2, .int .i64 a0_3, .string a0_4, .string a0_5, .string a0_6, .bool a0_7, .bool a0_8]) (t := 32) ?hr ?_; (case hd => rfl); (case hg => rfl); (case hr => first | (go_simp; done) | (go_simp; rfl)); intro gb269 hg w40 hbox hb; have n0_ := belB_ hb; have n1_ := Aside0.mk (hbox); have n2_ := Aside0.mk ((by rw [hg]; exact (below_size belE_) : w.heap.size ≤ gb269)); have n3_ := Aside0.mk ((by rw [hg]; exact (below_size belE_) : w.heap.size ≤ gb269)); clear HB; have HB := n0_; have BK269 := n1_; have GW269 := n2_; have GE269 := n3_; clear n0_ n1_ n2_ n3_; clear hb hbox hg) | ((with_reducible refine gate_dst (N := 3) rfl ?_); refine box_event ?hg (N := 3) ?hd (cs := #[.string a1_0, .string a1_1, .string a1_2, .int .i64 a1_3, .string a1_4, .string a1_5, .string a1_6, .bool a1_7, .bool a1_8]) (t := 32) ?hr ?_; (case hd => rfl); (case hg => rfl); (case hr => first | (go_simp; done) | (go_simp; rfl)); intro gb270 hg w41 hbox hb; have n0_ := blkB_ (g := gb269) (o := .cells #[.string a0_0, .string a0_1, .string a0_2, .int .i64 a0_3, .string a0_4, .string a0_5, .string a0_6, .bool a0_7, .bool a0_8] 32 (0, 0)) hb; have n1_ := belB_ hb; have n2_ := Aside0.mk (hbox); have n3_ := Aside0.mk ((by rw [hg]; exact (below_size belE_) : w.heap.size ≤ gb270)); have n4_ := Aside0.mk ((by rw [hg]; exact (below_size belE_) : w.heap.size ≤ gb270)); have n5_ := Aside0.mk ((by rw [hg]; exact Nat.ne_of_lt (blk_lt (g := gb269) (o := .cells #[.string a0_0, .string a0_1, .string a0_2, .int .i64 a0_3, .string a0_4, .string a0_5, .string a0_6, .bool a0_7, .bool a0_8] 32 (0, 0)) (by (with_reducible repeat apply bd_); exact BK269.out)) : gb269 ≠ gb270)); have n6_ := Aside0.mk ((by rw [hg]; exact Nat.ne_of_gt (blk_lt (g := gb269) (o := .cells #[.string a0_0, .string a0_1, .string a0_2, .int .i64 a0_3, .string a0_4, .string a0_5, .string a0_6, .bool a0_7, .bool a0_8] 32 (0, 0)) (by (with_reducible repeat apply bd_); exact BK269.out)) : gb270 ≠ gb269)); clear BK269; clear HB; have BK269 := n0_; have HB := n1_; have BK270 := n2_; have GW270 := n3_; have GE270 := n4_; have NB269_270 := n5_; have NB270_269 := n6_; clear n0_ n1_ n2_ n3_ n4_ n5_ n6_; clear hb hbox hg))
  replace BK269 := Aside0.mk (blk_drew BK269.out)
  replace BK270 := Aside0.mk (blk_drew BK270.out)
  replace HB := Aside0.mk (below_drew1 HB.out)
  refine startU_ (n := 22) (S := fun w' => w'.cell? ⟨gb269, 0, none⟩ = some (.string a0_0) ∧ w'.cell? ⟨gb269, 1, none⟩ = some (.string a0_1) ∧ w'.cell? ⟨gb269, 2, none⟩ = some (.string a0_2) ∧ w'.cell? ⟨gb269, 3, none⟩ = some (.int .i64 a0_3) ∧ w'.cell? ⟨gb269, 4, none⟩ = some (.string a0_4) ∧ w'.cell? ⟨gb269, 5, none⟩ = some (.string a0_5) ∧ w'.cell? ⟨gb269, 6, none⟩ = some (.string a0_6) ∧ w'.cell? ⟨gb269, 7, none⟩ = some (.bool a0_7) ∧ w'.cell? ⟨gb269, 8, none⟩ = some (.bool a0_8)) (ds := []) (held9_ BK269.out) (fun hHeld => ?_); refine with_tabW impl_SameOrigin.tab1 impl_SameOrigin.bits1 (fun HT_ HW_ => ?_)
  generalize w41.drew = w42 at BK269 BK270 HB hHeld ⊢
  refine tU_ ?_
  refine oU_ (fun K hK => ?_)
  refine gU_ Tryz.func27 #[.agg #[.string a0_0, .string a0_1, .string a0_2, .int .i64 a0_3, .string a0_4, .string a0_5, .string a0_6, .bool a0_7, .bool a0_8]] ?_
  with_reducible refine (impl_UrlOK.calls k a0_0 a0_1 a0_2 a0_3 a0_4 a0_5 a0_6 a0_7 a0_8 false _ ?side1 A3.out).mono ?_
  (case side1 => exact Amb.on HM.out belE_)
  rintro e w43 ⟨rfl, hb⟩
  refine ⟨_, rfl, ?_⟩
  replace BK269 := blkB_ (g := gb269) (o := .cells #[.string a0_0, .string a0_1, .string a0_2, .int .i64 a0_3, .string a0_4, .string a0_5, .string a0_6, .bool a0_7, .bool a0_8] 32 (0, 0)) hb
  replace BK270 := blkB_ (g := gb270) (o := .cells #[.string a1_0, .string a1_1, .string a1_2, .int .i64 a1_3, .string a1_4, .string a1_5, .string a1_6, .bool a1_7, .bool a1_8] 32 (0, 0)) hb
  replace HB := Aside0.mk (below_step belE_ hb)
  (try clear hb)
  (try clear hb2)
  (try clear hk)
  (try clear hi)
  refine hK.out _ _ (held9_ BK269.out) (fun hHeld => ?_)
  clear hK K
  refine nU_ ?_
  refine pU_ ?_
  iterate 2 refine sU_ ?_
  iterate 2 refine pU_ ?_
  iterate 2 refine sU_ ?_
  iterate 2 refine pU_ ?_
  iterate 2 refine sU_ ?_
  iterate 2 refine pU_ ?_
  iterate 5 refine sU_ ?_
  iterate 2 refine pU_ ?_
  refine doneU_ ?_
  try go_wp2
  go_ret
  exact ⟨retE_, belE_⟩

/-! ### impl_site: function 100 -/
def impl_site.f (k : Nat) (a0 : ByteArray) : Option (ByteArray) := (impl_parse.f k a0).bind fun bt327 => (if bt327.2.2.2.2.2.2.2.2.2 = true then ((impl_Url_web.f bt327.1 bt327.2.1 bt327.2.2.1 bt327.2.2.2.1 bt327.2.2.2.2.1 bt327.2.2.2.2.2.1 bt327.2.2.2.2.2.2.1 bt327.2.2.2.2.2.2.2.1 bt327.2.2.2.2.2.2.2.2.1).bind fun t338 => (if t338 = true then ((impl_Url_origin.f k bt327.1 bt327.2.1 bt327.2.2.1 bt327.2.2.2.1 bt327.2.2.2.2.1 bt327.2.2.2.2.2.1 bt327.2.2.2.2.2.2.1 bt327.2.2.2.2.2.2.2.1 bt327.2.2.2.2.2.2.2.2.1).bind fun t339 => (some t339)) else (some bt327.1))) else (some (⟨#[]⟩ : ByteArray)))
theorem impl_site.mono : ∀ a0 k, LeO (impl_site.f k a0) (impl_site.f (k + 1) a0) := by
  intro a0 k
  unfold impl_site.f
  repeat' first
      | (with_reducible exact impl_Url_origin.mono _ _ _ _ _ _ _ _ _ _)
      | (with_reducible exact impl_parse.mono _ _)
      | (with_reducible exact LeO.refl _)
      | (with_reducible exact LeO.none _)
      | (with_reducible refine LeO.ite ?_ ?_)
      | (with_reducible refine LeO.bind ?_ (fun _ => ?_))
      | exact impl_Url_origin.mono _ _ _ _ _ _ _ _ _ _
      | exact impl_parse.mono _ _
      | exact LeO.none _
      | refine LeO.ite ?_ ?_
      | refine LeO.bind ?_ (fun _ => ?_)
set_option maxHeartbeats 8000000 in
set_option maxRecDepth 100000 in
theorem impl_site.calls (k : Nat) (a0 : ByteArray) (r : ByteArray) (w : World) (hM : Amb w) (h : impl_site.f k a0 = some r) :
    Calls Tryz.prog 100 #[.string a0] w fun e w' => e = .returned (.string r) ∧ Below w.heap.size w w' := by
 have hu32 := Tryz.underlying32
 have HB := Aside0.mk (Below.refl w.heap.size w)
 have HM := Aside0.mk hM
 clear hM
 have H : ((impl_parse.f k a0).bind fun bt327 => (if bt327.2.2.2.2.2.2.2.2.2 = true then ((impl_Url_web.f bt327.1 bt327.2.1 bt327.2.2.1 bt327.2.2.2.1 bt327.2.2.2.2.1 bt327.2.2.2.2.2.1 bt327.2.2.2.2.2.2.1 bt327.2.2.2.2.2.2.2.1 bt327.2.2.2.2.2.2.2.2.1).bind fun t338 => (if t338 = true then ((impl_Url_origin.f k bt327.1 bt327.2.1 bt327.2.2.1 bt327.2.2.2.1 bt327.2.2.2.2.1 bt327.2.2.2.2.2.1 bt327.2.2.2.2.2.2.1 bt327.2.2.2.2.2.2.2.1 bt327.2.2.2.2.2.2.2.2.1).bind fun t339 => (some t339)) else (some bt327.1))) else (some (⟨#[]⟩ : ByteArray)))) = some r := h
 clear h
 replace H := Option.bind_eq_some_iff.mp H
 obtain ⟨⟨t327, t328, t329, t330, t331, t332, t333, t334, t335, t336⟩, A20, H⟩ := H
 replace H : (if t336 = true then ((impl_Url_web.f t327 t328 t329 t330 t331 t332 t333 t334 t335).bind fun t338 => (if t338 = true then ((impl_Url_origin.f k t327 t328 t329 t330 t331 t332 t333 t334 t335).bind fun t339 => (some t339)) else (some t327))) else (some (⟨#[]⟩ : ByteArray))) = some r := H
 have A2 := Aside0.mk A20
 clear A20
 by_cases c3 : t336 = true
 ·
  subst c3
  replace H := ifT_ H
  obtain ⟨t338, A4, H⟩ := bindE_ H
  by_cases c5 : t338 = true
  ·
   subst c5
   replace H := ifT_ H
   obtain ⟨t339, A6, H⟩ := bindE_ H
   obtain rfl := Option.some.inj H
   go_enter Tryz.func100, Tryz.ntmps100
   go_wp2_with (first | ((with_reducible refine gate_callee (f := 64) rfl ?_); refine cU_ (some 7) Tryz.func64 #[.string a0] ?_; (with_reducible refine (impl_parse.calls k a0 t327 t328 t329 t330 t331 t332 t333 t334 t335 true _ ?side1 A2.out).mono ?_); (case side1 => exact Amb.on HM.out belE_); rintro e w7 ⟨rfl, hb⟩; refine ⟨_, rfl, ?_⟩; have n0_ := belB_ hb; clear HB; have HB := n0_; clear n0_; (try clear hb); (try clear hb2); (try clear hk); (try clear hi)) | ((with_reducible refine gate_dst (N := 3) rfl ?_); refine box_event ?hg (N := 3) ?hd (cs := #[.string ⟨#[]⟩, .string ⟨#[]⟩, .string ⟨#[]⟩, .int .i64 0, .string ⟨#[]⟩, .string ⟨#[]⟩, .string ⟨#[]⟩, .bool false, .bool false]) (t := 32) ?hr ?_; (case hd => rfl); (case hg => rfl); (case hr => first | (go_simp; done) | (go_simp; rfl)); intro gb337 hg w8 hbox hb; have n0_ := belB_ hb; have n1_ := Aside0.mk (hbox); have n2_ := Aside0.mk ((by rw [hg]; exact (below_size belE_) : w.heap.size ≤ gb337)); have n3_ := Aside0.mk ((by rw [hg]; exact (below_size belE_) : w.heap.size ≤ gb337)); clear HB; have HB := n0_; have BK337 := n1_; have GW337 := n2_; have GE337 := n3_; clear n0_ n1_ n2_ n3_; clear hb hbox hg; obtain ⟨hcz9_0, hcz9_1, hcz9_2, hcz9_3, hcz9_4, hcz9_5, hcz9_6, hcz9_7, hcz9_8, hfz9_0, hfz9_1, hfz9_2, hfz9_3, hfz9_4, hfz9_5, hfz9_6, hfz9_7, hfz9_8⟩ := cz9_ BK337) | ((with_reducible refine gate_callee (f := 59) rfl ?_); refine cU_ (some 15) Tryz.func59 #[.agg #[.string t327, .string t328, .string t329, .int .i64 t330, .string t331, .string t332, .string t333, .bool t334, .bool t335]] ?_; (with_reducible refine (impl_Url_web.calls t327 t328 t329 t330 t331 t332 t333 t334 t335 true _ A4.out).mono ?_); rintro e w10 ⟨rfl, hb⟩; refine ⟨_, rfl, ?_⟩; have n0_ := Aside0.mk (blk_below (g := gb337) (o := .cells #[.string t327, .string t328, .string t329, .int .i64 t330, .string t331, .string t332, .string t333, .bool t334, .bool t335] 32 (0, 0)) (by (with_reducible repeat apply bd_); refine blk_put (cs := #[.string t327, .string t328, .string t329, .int .i64 t330, .string t331, .string t332, .string t333, .bool t334, .bool false]) ?_ 8 _ rfl; (with_reducible repeat apply bd_); refine blk_put (cs := #[.string t327, .string t328, .string t329, .int .i64 t330, .string t331, .string t332, .string t333, .bool false, .bool false]) ?_ 7 _ rfl; (with_reducible repeat apply bd_); refine blk_put (cs := #[.string t327, .string t328, .string t329, .int .i64 t330, .string t331, .string t332, .string ⟨#[]⟩, .bool false, .bool false]) ?_ 6 _ rfl; (with_reducible repeat apply bd_); refine blk_put (cs := #[.string t327, .string t328, .string t329, .int .i64 t330, .string t331, .string ⟨#[]⟩, .string ⟨#[]⟩, .bool false, .bool false]) ?_ 5 _ rfl; (with_reducible repeat apply bd_); refine blk_put (cs := #[.string t327, .string t328, .string t329, .int .i64 t330, .string ⟨#[]⟩, .string ⟨#[]⟩, .string ⟨#[]⟩, .bool false, .bool false]) ?_ 4 _ rfl; (with_reducible repeat apply bd_); refine blk_put (cs := #[.string t327, .string t328, .string t329, .int .i64 0, .string ⟨#[]⟩, .string ⟨#[]⟩, .string ⟨#[]⟩, .bool false, .bool false]) ?_ 3 _ rfl; (with_reducible repeat apply bd_); refine blk_put (cs := #[.string t327, .string t328, .string ⟨#[]⟩, .int .i64 0, .string ⟨#[]⟩, .string ⟨#[]⟩, .string ⟨#[]⟩, .bool false, .bool false]) ?_ 2 _ rfl; (with_reducible repeat apply bd_); refine blk_put (cs := #[.string t327, .string ⟨#[]⟩, .string ⟨#[]⟩, .int .i64 0, .string ⟨#[]⟩, .string ⟨#[]⟩, .string ⟨#[]⟩, .bool false, .bool false]) ?_ 1 _ rfl; (with_reducible repeat apply bd_); refine blk_put (cs := #[.string ⟨#[]⟩, .string ⟨#[]⟩, .string ⟨#[]⟩, .int .i64 0, .string ⟨#[]⟩, .string ⟨#[]⟩, .string ⟨#[]⟩, .bool false, .bool false]) ?_ 0 _ rfl; (with_reducible repeat apply bd_); exact BK337.out) hb); have n1_ := belB_ hb; clear BK337; clear HB; have BK337 := n0_; have HB := n1_; clear n0_ n1_; (try clear hb); (try clear hb2); (try clear hk); (try clear hi); obtain ⟨hcz11_0, hcz11_1, hcz11_2, hcz11_3, hcz11_4, hcz11_5, hcz11_6, hcz11_7, hcz11_8, hfz11_0, hfz11_1, hfz11_2, hfz11_3, hfz11_4, hfz11_5, hfz11_6, hfz11_7, hfz11_8⟩ := cz9_ BK337) | ((with_reducible refine gate_callee (f := 60) rfl ?_); refine cU_ (some 17) Tryz.func60 #[.agg #[.string t327, .string t328, .string t329, .int .i64 t330, .string t331, .string t332, .string t333, .bool t334, .bool t335]] ?_; (with_reducible refine (impl_Url_origin.calls k t327 t328 t329 t330 t331 t332 t333 t334 t335 t339 _ ?side1 A6.out).mono ?_); (case side1 => exact Amb.on HM.out belE_); rintro e w12 ⟨rfl, hb⟩; refine ⟨_, rfl, ?_⟩; replace BK337 := blkK_ BK337 hb; replace HB := belB_ hb; (try clear hb)))
   go_ret
   exact ⟨retE_, belE_⟩
  ·
   replace c5 := Bool.eq_false_iff.mpr c5
   subst c5
   replace H := ifF_ H
   obtain rfl := Option.some.inj H
   go_enter Tryz.func100, Tryz.ntmps100
   go_wp2_with (first | ((with_reducible refine gate_callee (f := 64) rfl ?_); refine cU_ (some 7) Tryz.func64 #[.string a0] ?_; (with_reducible refine (impl_parse.calls k a0 t327 t328 t329 t330 t331 t332 t333 t334 t335 true _ ?side1 A2.out).mono ?_); (case side1 => exact Amb.on HM.out belE_); rintro e w13 ⟨rfl, hb⟩; refine ⟨_, rfl, ?_⟩; have n0_ := belB_ hb; clear HB; have HB := n0_; clear n0_; (try clear hb); (try clear hb2); (try clear hk); (try clear hi)) | ((with_reducible refine gate_dst (N := 3) rfl ?_); refine box_event ?hg (N := 3) ?hd (cs := #[.string ⟨#[]⟩, .string ⟨#[]⟩, .string ⟨#[]⟩, .int .i64 0, .string ⟨#[]⟩, .string ⟨#[]⟩, .string ⟨#[]⟩, .bool false, .bool false]) (t := 32) ?hr ?_; (case hd => rfl); (case hg => rfl); (case hr => first | (go_simp; done) | (go_simp; rfl)); intro gb337 hg w14 hbox hb; have n0_ := belB_ hb; have n1_ := Aside0.mk (hbox); have n2_ := Aside0.mk ((by rw [hg]; exact (below_size belE_) : w.heap.size ≤ gb337)); have n3_ := Aside0.mk ((by rw [hg]; exact (below_size belE_) : w.heap.size ≤ gb337)); clear HB; have HB := n0_; have BK337 := n1_; have GW337 := n2_; have GE337 := n3_; clear n0_ n1_ n2_ n3_; clear hb hbox hg; obtain ⟨hcz15_0, hcz15_1, hcz15_2, hcz15_3, hcz15_4, hcz15_5, hcz15_6, hcz15_7, hcz15_8, hfz15_0, hfz15_1, hfz15_2, hfz15_3, hfz15_4, hfz15_5, hfz15_6, hfz15_7, hfz15_8⟩ := cz9_ BK337) | ((with_reducible refine gate_callee (f := 59) rfl ?_); refine cU_ (some 15) Tryz.func59 #[.agg #[.string t327, .string t328, .string t329, .int .i64 t330, .string t331, .string t332, .string t333, .bool t334, .bool t335]] ?_; (with_reducible refine (impl_Url_web.calls t327 t328 t329 t330 t331 t332 t333 t334 t335 false _ A4.out).mono ?_); rintro e w16 ⟨rfl, hb⟩; refine ⟨_, rfl, ?_⟩; have n0_ := Aside0.mk (blk_below (g := gb337) (o := .cells #[.string t327, .string t328, .string t329, .int .i64 t330, .string t331, .string t332, .string t333, .bool t334, .bool t335] 32 (0, 0)) (by (with_reducible repeat apply bd_); refine blk_put (cs := #[.string t327, .string t328, .string t329, .int .i64 t330, .string t331, .string t332, .string t333, .bool t334, .bool false]) ?_ 8 _ rfl; (with_reducible repeat apply bd_); refine blk_put (cs := #[.string t327, .string t328, .string t329, .int .i64 t330, .string t331, .string t332, .string t333, .bool false, .bool false]) ?_ 7 _ rfl; (with_reducible repeat apply bd_); refine blk_put (cs := #[.string t327, .string t328, .string t329, .int .i64 t330, .string t331, .string t332, .string ⟨#[]⟩, .bool false, .bool false]) ?_ 6 _ rfl; (with_reducible repeat apply bd_); refine blk_put (cs := #[.string t327, .string t328, .string t329, .int .i64 t330, .string t331, .string ⟨#[]⟩, .string ⟨#[]⟩, .bool false, .bool false]) ?_ 5 _ rfl; (with_reducible repeat apply bd_); refine blk_put (cs := #[.string t327, .string t328, .string t329, .int .i64 t330, .string ⟨#[]⟩, .string ⟨#[]⟩, .string ⟨#[]⟩, .bool false, .bool false]) ?_ 4 _ rfl; (with_reducible repeat apply bd_); refine blk_put (cs := #[.string t327, .string t328, .string t329, .int .i64 0, .string ⟨#[]⟩, .string ⟨#[]⟩, .string ⟨#[]⟩, .bool false, .bool false]) ?_ 3 _ rfl; (with_reducible repeat apply bd_); refine blk_put (cs := #[.string t327, .string t328, .string ⟨#[]⟩, .int .i64 0, .string ⟨#[]⟩, .string ⟨#[]⟩, .string ⟨#[]⟩, .bool false, .bool false]) ?_ 2 _ rfl; (with_reducible repeat apply bd_); refine blk_put (cs := #[.string t327, .string ⟨#[]⟩, .string ⟨#[]⟩, .int .i64 0, .string ⟨#[]⟩, .string ⟨#[]⟩, .string ⟨#[]⟩, .bool false, .bool false]) ?_ 1 _ rfl; (with_reducible repeat apply bd_); refine blk_put (cs := #[.string ⟨#[]⟩, .string ⟨#[]⟩, .string ⟨#[]⟩, .int .i64 0, .string ⟨#[]⟩, .string ⟨#[]⟩, .string ⟨#[]⟩, .bool false, .bool false]) ?_ 0 _ rfl; (with_reducible repeat apply bd_); exact BK337.out) hb); have n1_ := belB_ hb; clear BK337; clear HB; have BK337 := n0_; have HB := n1_; clear n0_ n1_; (try clear hb); (try clear hb2); (try clear hk); (try clear hi); obtain ⟨hcz17_0, hcz17_1, hcz17_2, hcz17_3, hcz17_4, hcz17_5, hcz17_6, hcz17_7, hcz17_8, hfz17_0, hfz17_1, hfz17_2, hfz17_3, hfz17_4, hfz17_5, hfz17_6, hfz17_7, hfz17_8⟩ := cz9_ BK337))
   go_ret
   exact ⟨retE_, belE_⟩
 ·
  replace c3 := Bool.eq_false_iff.mpr c3
  subst c3
  replace H := ifF_ H
  obtain rfl := Option.some.inj H
  go_enter Tryz.func100, Tryz.ntmps100
  go_wp2_with (first | ((with_reducible refine gate_callee (f := 64) rfl ?_); refine cU_ (some 7) Tryz.func64 #[.string a0] ?_; (with_reducible refine (impl_parse.calls k a0 t327 t328 t329 t330 t331 t332 t333 t334 t335 false _ ?side1 A2.out).mono ?_); (case side1 => exact Amb.on HM.out belE_); rintro e w18 ⟨rfl, hb⟩; refine ⟨_, rfl, ?_⟩; have n0_ := belB_ hb; clear HB; have HB := n0_; clear n0_; (try clear hb); (try clear hb2); (try clear hk); (try clear hi)) | ((with_reducible refine gate_dst (N := 3) rfl ?_); refine box_event ?hg (N := 3) ?hd (cs := #[.string ⟨#[]⟩, .string ⟨#[]⟩, .string ⟨#[]⟩, .int .i64 0, .string ⟨#[]⟩, .string ⟨#[]⟩, .string ⟨#[]⟩, .bool false, .bool false]) (t := 32) ?hr ?_; (case hd => rfl); (case hg => rfl); (case hr => first | (go_simp; done) | (go_simp; rfl)); intro gb337 hg w19 hbox hb; have n0_ := belB_ hb; have n1_ := Aside0.mk (hbox); have n2_ := Aside0.mk ((by rw [hg]; exact (below_size belE_) : w.heap.size ≤ gb337)); have n3_ := Aside0.mk ((by rw [hg]; exact (below_size belE_) : w.heap.size ≤ gb337)); clear HB; have HB := n0_; have BK337 := n1_; have GW337 := n2_; have GE337 := n3_; clear n0_ n1_ n2_ n3_; clear hb hbox hg; obtain ⟨hcz20_0, hcz20_1, hcz20_2, hcz20_3, hcz20_4, hcz20_5, hcz20_6, hcz20_7, hcz20_8, hfz20_0, hfz20_1, hfz20_2, hfz20_3, hfz20_4, hfz20_5, hfz20_6, hfz20_7, hfz20_8⟩ := cz9_ BK337))
  go_ret
  exact ⟨retE_, belE_⟩

/-! ### impl_Violation_source: function 47 -/
def impl_Violation_source.j0 : Nat → Bool → ByteArray → ByteArray → ByteArray → ByteArray → ByteArray → ByteArray → Int → Int → Bool → ByteArray → ByteArray → ByteArray → Int → ByteArray → ByteArray → ByteArray → Bool → Bool → Option (ByteArray)
  | 0, _, _, _, _, _, _, _, _, _, _, _, _, _, _, _, _, _, _, _ => none
  | k + 1, x27, x341000, x341001, x341002, x341003, x341004, x341005, x341006, x341007, x341008, x352000, x352001, x352002, x352003, x352004, x352005, x352006, x352007, x352008 => if x27 = true then ((impl_Url_strip.f k x352000 x352001 x352002 x352003 x352004 x352005 x352006 x352007 x352008).bind fun t364 => (some t364)) else ((impl_site.f k x341003).bind fun t365 => (some t365))
def impl_Violation_source.f (k : Nat) (a0_0 : ByteArray) (a0_1 : ByteArray) (a0_2 : ByteArray) (a0_3 : ByteArray) (a0_4 : ByteArray) (a0_5 : ByteArray) (a0_6 : Int) (a0_7 : Int) (a0_8 : Bool) : Option (ByteArray) := (impl_parse.f k a0_3).bind fun bt341 => ((impl_parse.f k a0_0).bind fun bt352 => (if bt341.2.2.2.2.2.2.2.2.2 = true then (if bt352.2.2.2.2.2.2.2.2.2 = true then ((impl_SameOrigin.f k bt341.1 bt341.2.1 bt341.2.2.1 bt341.2.2.2.1 bt341.2.2.2.2.1 bt341.2.2.2.2.2.1 bt341.2.2.2.2.2.2.1 bt341.2.2.2.2.2.2.2.1 bt341.2.2.2.2.2.2.2.2.1 bt352.1 bt352.2.1 bt352.2.2.1 bt352.2.2.2.1 bt352.2.2.2.2.1 bt352.2.2.2.2.2.1 bt352.2.2.2.2.2.2.1 bt352.2.2.2.2.2.2.2.1 bt352.2.2.2.2.2.2.2.2.1).bind fun t363 => (impl_Violation_source.j0 k t363 a0_0 a0_1 a0_2 a0_3 a0_4 a0_5 a0_6 a0_7 a0_8 bt341.1 bt341.2.1 bt341.2.2.1 bt341.2.2.2.1 bt341.2.2.2.2.1 bt341.2.2.2.2.2.1 bt341.2.2.2.2.2.2.1 bt341.2.2.2.2.2.2.2.1 bt341.2.2.2.2.2.2.2.2.1)) else (impl_Violation_source.j0 k false a0_0 a0_1 a0_2 a0_3 a0_4 a0_5 a0_6 a0_7 a0_8 bt341.1 bt341.2.1 bt341.2.2.1 bt341.2.2.2.1 bt341.2.2.2.2.1 bt341.2.2.2.2.2.1 bt341.2.2.2.2.2.2.1 bt341.2.2.2.2.2.2.2.1 bt341.2.2.2.2.2.2.2.2.1)) else (impl_Violation_source.j0 k false a0_0 a0_1 a0_2 a0_3 a0_4 a0_5 a0_6 a0_7 a0_8 bt341.1 bt341.2.1 bt341.2.2.1 bt341.2.2.2.1 bt341.2.2.2.2.1 bt341.2.2.2.2.2.1 bt341.2.2.2.2.2.2.1 bt341.2.2.2.2.2.2.2.1 bt341.2.2.2.2.2.2.2.2.1)))
theorem impl_Violation_source.mono_l : ∀ k, (∀ y0 y1 y2 y3 y4 y5 y6 y7 y8 y9 y10 y11 y12 y13 y14 y15 y16 y17 y18, LeO (impl_Violation_source.j0 k y0 y1 y2 y3 y4 y5 y6 y7 y8 y9 y10 y11 y12 y13 y14 y15 y16 y17 y18) (impl_Violation_source.j0 (k + 1) y0 y1 y2 y3 y4 y5 y6 y7 y8 y9 y10 y11 y12 y13 y14 y15 y16 y17 y18))
  | 0 => fun _ _ _ _ _ _ _ _ _ _ _ _ _ _ _ _ _ _ _ r h => by simp [impl_Violation_source.j0] at h
  | k + 1 => by
    have ih0 := impl_Violation_source.mono_l k
    · intro y0 y1 y2 y3 y4 y5 y6 y7 y8 y9 y10 y11 y12 y13 y14 y15 y16 y17 y18
      unfold impl_Violation_source.j0
      repeat' first
      | (with_reducible exact ih0 _ _ _ _ _ _ _ _ _ _ _ _ _ _ _ _ _ _ _)
      | (with_reducible exact impl_SameOrigin.mono _ _ _ _ _ _ _ _ _ _ _ _ _ _ _ _ _ _ _)
      | (with_reducible exact impl_Url_strip.mono _ _ _ _ _ _ _ _ _ _)
      | (with_reducible exact impl_parse.mono _ _)
      | (with_reducible exact impl_site.mono _ _)
      | (with_reducible exact LeO.refl _)
      | (with_reducible exact LeO.none _)
      | (with_reducible refine LeO.ite ?_ ?_)
      | (with_reducible refine LeO.bind ?_ (fun _ => ?_))
      | exact ih0 _ _ _ _ _ _ _ _ _ _ _ _ _ _ _ _ _ _ _
      | exact impl_SameOrigin.mono _ _ _ _ _ _ _ _ _ _ _ _ _ _ _ _ _ _ _
      | exact impl_Url_strip.mono _ _ _ _ _ _ _ _ _ _
      | exact impl_parse.mono _ _
      | exact impl_site.mono _ _
      | exact LeO.none _
      | refine LeO.ite ?_ ?_
      | refine LeO.bind ?_ (fun _ => ?_)
theorem impl_Violation_source.mono : ∀ a0 a1 a2 a3 a4 a5 a6 a7 a8 k, LeO (impl_Violation_source.f k a0 a1 a2 a3 a4 a5 a6 a7 a8) (impl_Violation_source.f (k + 1) a0 a1 a2 a3 a4 a5 a6 a7 a8) := by
  intro a0 a1 a2 a3 a4 a5 a6 a7 a8 k
  have ih0 := impl_Violation_source.mono_l k
  unfold impl_Violation_source.f
  repeat' first
      | (with_reducible exact ih0 _ _ _ _ _ _ _ _ _ _ _ _ _ _ _ _ _ _ _)
      | (with_reducible exact impl_SameOrigin.mono _ _ _ _ _ _ _ _ _ _ _ _ _ _ _ _ _ _ _)
      | (with_reducible exact impl_Url_strip.mono _ _ _ _ _ _ _ _ _ _)
      | (with_reducible exact impl_parse.mono _ _)
      | (with_reducible exact impl_site.mono _ _)
      | (with_reducible exact LeO.refl _)
      | (with_reducible exact LeO.none _)
      | (with_reducible refine LeO.ite ?_ ?_)
      | (with_reducible refine LeO.bind ?_ (fun _ => ?_))
      | exact ih0 _ _ _ _ _ _ _ _ _ _ _ _ _ _ _ _ _ _ _
      | exact impl_SameOrigin.mono _ _ _ _ _ _ _ _ _ _ _ _ _ _ _ _ _ _ _
      | exact impl_Url_strip.mono _ _ _ _ _ _ _ _ _ _
      | exact impl_parse.mono _ _
      | exact impl_site.mono _ _
      | exact LeO.none _
      | refine LeO.ite ?_ ?_
      | refine LeO.bind ?_ (fun _ => ?_)
set_option maxHeartbeats 8000000 in
set_option maxRecDepth 100000 in
theorem impl_Violation_source.calls (k : Nat) (a0_0 : ByteArray) (a0_1 : ByteArray) (a0_2 : ByteArray) (a0_3 : ByteArray) (a0_4 : ByteArray) (a0_5 : ByteArray) (a0_6 : Int) (a0_7 : Int) (a0_8 : Bool) (r : ByteArray) (w : World) (hM : Amb w) (h : impl_Violation_source.f k a0_0 a0_1 a0_2 a0_3 a0_4 a0_5 a0_6 a0_7 a0_8 = some r) :
    Calls Tryz.prog 47 #[.agg #[.string a0_0, .string a0_1, .string a0_2, .string a0_3, .string a0_4, .string a0_5, .int .i64 a0_6, .int .i64 a0_7, .bool a0_8]] w fun e w' => e = .returned (.string r) ∧ Below w.heap.size w w' := by
 have hu27 := Tryz.underlying27
 have hu32 := Tryz.underlying32
 have HB := Aside0.mk (Below.refl w.heap.size w)
 have HM := Aside0.mk hM
 clear hM
 have H : ((impl_parse.f k a0_3).bind fun bt341 => ((impl_parse.f k a0_0).bind fun bt352 => (if bt341.2.2.2.2.2.2.2.2.2 = true then (if bt352.2.2.2.2.2.2.2.2.2 = true then ((impl_SameOrigin.f k bt341.1 bt341.2.1 bt341.2.2.1 bt341.2.2.2.1 bt341.2.2.2.2.1 bt341.2.2.2.2.2.1 bt341.2.2.2.2.2.2.1 bt341.2.2.2.2.2.2.2.1 bt341.2.2.2.2.2.2.2.2.1 bt352.1 bt352.2.1 bt352.2.2.1 bt352.2.2.2.1 bt352.2.2.2.2.1 bt352.2.2.2.2.2.1 bt352.2.2.2.2.2.2.1 bt352.2.2.2.2.2.2.2.1 bt352.2.2.2.2.2.2.2.2.1).bind fun t363 => (impl_Violation_source.j0 k t363 a0_0 a0_1 a0_2 a0_3 a0_4 a0_5 a0_6 a0_7 a0_8 bt341.1 bt341.2.1 bt341.2.2.1 bt341.2.2.2.1 bt341.2.2.2.2.1 bt341.2.2.2.2.2.1 bt341.2.2.2.2.2.2.1 bt341.2.2.2.2.2.2.2.1 bt341.2.2.2.2.2.2.2.2.1)) else (impl_Violation_source.j0 k false a0_0 a0_1 a0_2 a0_3 a0_4 a0_5 a0_6 a0_7 a0_8 bt341.1 bt341.2.1 bt341.2.2.1 bt341.2.2.2.1 bt341.2.2.2.2.1 bt341.2.2.2.2.2.1 bt341.2.2.2.2.2.2.1 bt341.2.2.2.2.2.2.2.1 bt341.2.2.2.2.2.2.2.2.1)) else (impl_Violation_source.j0 k false a0_0 a0_1 a0_2 a0_3 a0_4 a0_5 a0_6 a0_7 a0_8 bt341.1 bt341.2.1 bt341.2.2.1 bt341.2.2.2.1 bt341.2.2.2.2.1 bt341.2.2.2.2.2.1 bt341.2.2.2.2.2.2.1 bt341.2.2.2.2.2.2.2.1 bt341.2.2.2.2.2.2.2.2.1)))) = some r := h
 clear h
 replace H := Option.bind_eq_some_iff.mp H
 obtain ⟨⟨t341, t342, t343, t344, t345, t346, t347, t348, t349, t350⟩, A20, H⟩ := H
 replace H : ((impl_parse.f k a0_0).bind fun bt352 => (if t350 = true then (if bt352.2.2.2.2.2.2.2.2.2 = true then ((impl_SameOrigin.f k t341 t342 t343 t344 t345 t346 t347 t348 t349 bt352.1 bt352.2.1 bt352.2.2.1 bt352.2.2.2.1 bt352.2.2.2.2.1 bt352.2.2.2.2.2.1 bt352.2.2.2.2.2.2.1 bt352.2.2.2.2.2.2.2.1 bt352.2.2.2.2.2.2.2.2.1).bind fun t363 => (impl_Violation_source.j0 k t363 a0_0 a0_1 a0_2 a0_3 a0_4 a0_5 a0_6 a0_7 a0_8 t341 t342 t343 t344 t345 t346 t347 t348 t349)) else (impl_Violation_source.j0 k false a0_0 a0_1 a0_2 a0_3 a0_4 a0_5 a0_6 a0_7 a0_8 t341 t342 t343 t344 t345 t346 t347 t348 t349)) else (impl_Violation_source.j0 k false a0_0 a0_1 a0_2 a0_3 a0_4 a0_5 a0_6 a0_7 a0_8 t341 t342 t343 t344 t345 t346 t347 t348 t349))) = some r := H
 have A2 := Aside0.mk A20
 clear A20
 replace H := Option.bind_eq_some_iff.mp H
 obtain ⟨⟨t352, t353, t354, t355, t356, t357, t358, t359, t360, t361⟩, A30, H⟩ := H
 replace H : (if t350 = true then (if t361 = true then ((impl_SameOrigin.f k t341 t342 t343 t344 t345 t346 t347 t348 t349 t352 t353 t354 t355 t356 t357 t358 t359 t360).bind fun t363 => (impl_Violation_source.j0 k t363 a0_0 a0_1 a0_2 a0_3 a0_4 a0_5 a0_6 a0_7 a0_8 t341 t342 t343 t344 t345 t346 t347 t348 t349)) else (impl_Violation_source.j0 k false a0_0 a0_1 a0_2 a0_3 a0_4 a0_5 a0_6 a0_7 a0_8 t341 t342 t343 t344 t345 t346 t347 t348 t349)) else (impl_Violation_source.j0 k false a0_0 a0_1 a0_2 a0_3 a0_4 a0_5 a0_6 a0_7 a0_8 t341 t342 t343 t344 t345 t346 t347 t348 t349)) = some r := H
 have A3 := Aside0.mk A30
 clear A30
 have HC4 := Aside0.mk H
 clear H
 go_enter Tryz.func47, Tryz.ntmps47
 go_upto_region 3 with (first | ((with_reducible refine gate_dst (N := 1) rfl ?_); refine box_event ?hg (N := 1) ?hd (cs := #[.string a0_0, .string a0_1, .string a0_2, .string a0_3, .string a0_4, .string a0_5, .int .i64 a0_6, .int .i64 a0_7, .bool a0_8]) (t := 27) ?hr ?_; (case hd => rfl); (case hg => rfl); (case hr => first | (go_simp; done) | (go_simp; rfl)); intro gb340 hg w5 hbox hb; have n0_ := belB_ hb; have n1_ := Aside0.mk (hbox); have n2_ := Aside0.mk ((by rw [hg]; exact (below_size belE_) : w.heap.size ≤ gb340)); have n3_ := Aside0.mk ((by rw [hg]; exact (below_size belE_) : w.heap.size ≤ gb340)); clear HB; have HB := n0_; have BK340 := n1_; have GW340 := n2_; have GE340 := n3_; clear n0_ n1_ n2_ n3_; clear hb hbox hg; obtain ⟨hcz6_0, hcz6_1, hcz6_2, hcz6_3, hcz6_4, hcz6_5, hcz6_6, hcz6_7, hcz6_8, hfz6_0, hfz6_1, hfz6_2, hfz6_3, hfz6_4, hfz6_5, hfz6_6, hfz6_7, hfz6_8⟩ := cz9_ BK340) | ((with_reducible refine gate_callee (f := 64) rfl ?_); refine cU_ (some 10) Tryz.func64 #[.string a0_3] ?_; (with_reducible refine (impl_parse.calls k a0_3 t341 t342 t343 t344 t345 t346 t347 t348 t349 t350 _ ?side1 A2.out).mono ?_); (case side1 => exact Amb.on HM.out belE_); rintro e w7 ⟨rfl, hb⟩; refine ⟨_, rfl, ?_⟩; replace BK340 := blkK_ BK340 hb; replace HB := belB_ hb; (try clear hb)) | ((with_reducible refine gate_dst (N := 3) rfl ?_); refine box_event ?hg (N := 3) ?hd (cs := #[.string ⟨#[]⟩, .string ⟨#[]⟩, .string ⟨#[]⟩, .int .i64 0, .string ⟨#[]⟩, .string ⟨#[]⟩, .string ⟨#[]⟩, .bool false, .bool false]) (t := 32) ?hr ?_; (case hd => rfl); (case hg => rfl); (case hr => first | (go_simp; done) | (go_simp; rfl)); intro gb351 hg w8 hbox hb; have n0_ := blkB_ (g := gb340) (o := .cells #[.string a0_0, .string a0_1, .string a0_2, .string a0_3, .string a0_4, .string a0_5, .int .i64 a0_6, .int .i64 a0_7, .bool a0_8] 27 (0, 0)) hb; have n1_ := belB_ hb; have n2_ := Aside0.mk (hbox); have n3_ := Aside0.mk ((by rw [hg]; exact (below_size belE_) : w.heap.size ≤ gb351)); have n4_ := Aside0.mk ((by rw [hg]; exact (below_size belE_) : w.heap.size ≤ gb351)); have n5_ := Aside0.mk ((by rw [hg]; exact Nat.ne_of_lt (blk_lt (g := gb340) (o := .cells #[.string a0_0, .string a0_1, .string a0_2, .string a0_3, .string a0_4, .string a0_5, .int .i64 a0_6, .int .i64 a0_7, .bool a0_8] 27 (0, 0)) (by (with_reducible repeat apply bd_); exact BK340.out)) : gb340 ≠ gb351)); have n6_ := Aside0.mk ((by rw [hg]; exact Nat.ne_of_gt (blk_lt (g := gb340) (o := .cells #[.string a0_0, .string a0_1, .string a0_2, .string a0_3, .string a0_4, .string a0_5, .int .i64 a0_6, .int .i64 a0_7, .bool a0_8] 27 (0, 0)) (by (with_reducible repeat apply bd_); exact BK340.out)) : gb351 ≠ gb340)); clear BK340; clear HB; have BK340 := n0_; have HB := n1_; have BK351 := n2_; have GW351 := n3_; have GE351 := n4_; have NB340_351 := n5_; have NB351_340 := n6_; clear n0_ n1_ n2_ n3_ n4_ n5_ n6_; clear hb hbox hg; have hnb9 := NB351_340.out; have hnc9 := NB340_351.out; obtain ⟨hcz10_0, hcz10_1, hcz10_2, hcz10_3, hcz10_4, hcz10_5, hcz10_6, hcz10_7, hcz10_8, hfz10_0, hfz10_1, hfz10_2, hfz10_3, hfz10_4, hfz10_5, hfz10_6, hfz10_7, hfz10_8⟩ := cz9_ BK351; obtain ⟨hcz11_0, hcz11_1, hcz11_2, hcz11_3, hcz11_4, hcz11_5, hcz11_6, hcz11_7, hcz11_8, hfz11_0, hfz11_1, hfz11_2, hfz11_3, hfz11_4, hfz11_5, hfz11_6, hfz11_7, hfz11_8⟩ := cz9_ BK340) | ((with_reducible refine gate_callee (f := 64) rfl ?_); refine cU_ (some 16) Tryz.func64 #[.string a0_0] ?_; (with_reducible refine (impl_parse.calls k a0_0 t352 t353 t354 t355 t356 t357 t358 t359 t360 t361 _ ?side1 A3.out).mono ?_); (case side1 => exact Amb.on HM.out belE_); rintro e w12 ⟨rfl, hb⟩; refine ⟨_, rfl, ?_⟩; have n0_ := Aside0.mk (blk_below (g := gb340) (o := .cells #[.string a0_0, .string a0_1, .string a0_2, .string a0_3, .string a0_4, .string a0_5, .int .i64 a0_6, .int .i64 a0_7, .bool a0_8] 27 (0, 0)) farE_ hb); have n1_ := Aside0.mk (blk_below (g := gb351) (o := .cells #[.string t341, .string t342, .string t343, .int .i64 t344, .string t345, .string t346, .string t347, .bool t348, .bool t349] 32 (0, 0)) (by (with_reducible repeat apply bd_); refine blk_put (cs := #[.string t341, .string t342, .string t343, .int .i64 t344, .string t345, .string t346, .string t347, .bool t348, .bool false]) ?_ 8 _ rfl; (with_reducible repeat apply bd_); refine blk_put (cs := #[.string t341, .string t342, .string t343, .int .i64 t344, .string t345, .string t346, .string t347, .bool false, .bool false]) ?_ 7 _ rfl; (with_reducible repeat apply bd_); refine blk_put (cs := #[.string t341, .string t342, .string t343, .int .i64 t344, .string t345, .string t346, .string ⟨#[]⟩, .bool false, .bool false]) ?_ 6 _ rfl; (with_reducible repeat apply bd_); refine blk_put (cs := #[.string t341, .string t342, .string t343, .int .i64 t344, .string t345, .string ⟨#[]⟩, .string ⟨#[]⟩, .bool false, .bool false]) ?_ 5 _ rfl; (with_reducible repeat apply bd_); refine blk_put (cs := #[.string t341, .string t342, .string t343, .int .i64 t344, .string ⟨#[]⟩, .string ⟨#[]⟩, .string ⟨#[]⟩, .bool false, .bool false]) ?_ 4 _ rfl; (with_reducible repeat apply bd_); refine blk_put (cs := #[.string t341, .string t342, .string t343, .int .i64 0, .string ⟨#[]⟩, .string ⟨#[]⟩, .string ⟨#[]⟩, .bool false, .bool false]) ?_ 3 _ rfl; (with_reducible repeat apply bd_); refine blk_put (cs := #[.string t341, .string t342, .string ⟨#[]⟩, .int .i64 0, .string ⟨#[]⟩, .string ⟨#[]⟩, .string ⟨#[]⟩, .bool false, .bool false]) ?_ 2 _ rfl; (with_reducible repeat apply bd_); refine blk_put (cs := #[.string t341, .string ⟨#[]⟩, .string ⟨#[]⟩, .int .i64 0, .string ⟨#[]⟩, .string ⟨#[]⟩, .string ⟨#[]⟩, .bool false, .bool false]) ?_ 1 _ rfl; (with_reducible repeat apply bd_); refine blk_put (cs := #[.string ⟨#[]⟩, .string ⟨#[]⟩, .string ⟨#[]⟩, .int .i64 0, .string ⟨#[]⟩, .string ⟨#[]⟩, .string ⟨#[]⟩, .bool false, .bool false]) ?_ 0 _ rfl; (with_reducible repeat apply bd_); exact BK351.out) hb); have n2_ := Aside0.mk (below_step belE_ hb); clear BK340; clear BK351; clear HB; have BK340 := n0_; have BK351 := n1_; have HB := n2_; clear n0_ n1_ n2_; (try clear hb); (try clear hb2); (try clear hk); (try clear hi)) | ((with_reducible refine gate_dst (N := 5) rfl ?_); refine box_event ?hg (N := 5) ?hd (cs := #[.string ⟨#[]⟩, .string ⟨#[]⟩, .string ⟨#[]⟩, .int .i64 0, .string ⟨#[]⟩, .string ⟨#[]⟩, .string ⟨#[]⟩, .bool false, .bool false]) (t := 32) ?hr ?_; (case hd => rfl); (case hg => rfl); (case hr => first | (go_simp; done) | (go_simp; rfl)); intro gb362 hg w13 hbox hb; have n0_ := blkB_ (g := gb340) (o := .cells #[.string a0_0, .string a0_1, .string a0_2, .string a0_3, .string a0_4, .string a0_5, .int .i64 a0_6, .int .i64 a0_7, .bool a0_8] 27 (0, 0)) hb; have n1_ := blkB_ (g := gb351) (o := .cells #[.string t341, .string t342, .string t343, .int .i64 t344, .string t345, .string t346, .string t347, .bool t348, .bool t349] 32 (0, 0)) hb; have n2_ := Aside0.mk (below_step belE_ hb); have n3_ := Aside0.mk (hbox); have n4_ := Aside0.mk ((by rw [hg]; exact (below_size belE_) : w.heap.size ≤ gb362)); have n5_ := Aside0.mk ((by rw [hg]; exact (below_size belE_) : w.heap.size ≤ gb362)); have n6_ := Aside0.mk ((by rw [hg]; exact Nat.ne_of_lt (blk_lt (g := gb340) (o := .cells #[.string a0_0, .string a0_1, .string a0_2, .string a0_3, .string a0_4, .string a0_5, .int .i64 a0_6, .int .i64 a0_7, .bool a0_8] 27 (0, 0)) (by (with_reducible repeat apply bd_); exact BK340.out)) : gb340 ≠ gb362)); have n7_ := Aside0.mk ((by rw [hg]; exact Nat.ne_of_gt (blk_lt (g := gb340) (o := .cells #[.string a0_0, .string a0_1, .string a0_2, .string a0_3, .string a0_4, .string a0_5, .int .i64 a0_6, .int .i64 a0_7, .bool a0_8] 27 (0, 0)) (by (with_reducible repeat apply bd_); exact BK340.out)) : gb362 ≠ gb340)); have n8_ := Aside0.mk ((by rw [hg]; exact Nat.ne_of_lt (blk_lt (g := gb351) (o := .cells #[.string t341, .string t342, .string t343, .int .i64 t344, .string t345, .string t346, .string t347, .bool t348, .bool t349] 32 (0, 0)) (by (with_reducible repeat apply bd_); exact BK351.out)) : gb351 ≠ gb362)); have n9_ := Aside0.mk ((by rw [hg]; exact Nat.ne_of_gt (blk_lt (g := gb351) (o := .cells #[.string t341, .string t342, .string t343, .int .i64 t344, .string t345, .string t346, .string t347, .bool t348, .bool t349] 32 (0, 0)) (by (with_reducible repeat apply bd_); exact BK351.out)) : gb362 ≠ gb351)); clear BK340; clear BK351; clear HB; have BK340 := n0_; have BK351 := n1_; have HB := n2_; have BK362 := n3_; have GW362 := n4_; have GE362 := n5_; have NB340_362 := n6_; have NB362_340 := n7_; have NB351_362 := n8_; have NB362_351 := n9_; clear n0_ n1_ n2_ n3_ n4_ n5_ n6_ n7_ n8_ n9_; clear hb hbox hg; have hnb14 := NB362_340.out; have hnc14 := NB340_362.out; have hnb15 := NB362_351.out; have hnc15 := NB351_362.out; obtain ⟨hcz16_0, hcz16_1, hcz16_2, hcz16_3, hcz16_4, hcz16_5, hcz16_6, hcz16_7, hcz16_8, hfz16_0, hfz16_1, hfz16_2, hfz16_3, hfz16_4, hfz16_5, hfz16_6, hfz16_7, hfz16_8⟩ := cz9_ BK362))
 (try simp only [Act.put, List.setIfInBounds_toArray, List.set_cons_zero, List.set_cons_succ])
 go_cut [27] (fun v27 wc => ∃ (kq : Nat) (x27_3 : Bool), v27 = .bool x27_3 ∧ Aside0 (impl_Violation_source.j0 kq x27_3 a0_0 a0_1 a0_2 a0_3 a0_4 a0_5 a0_6 a0_7 a0_8 t341 t342 t343 t344 t345 t346 t347 t348 t349 = some r) ∧ Aside0 (kq ≤ k) ∧ Aside0 (wc.heap[gb340]? = some (.cells #[.string a0_0, .string a0_1, .string a0_2, .string a0_3, .string a0_4, .string a0_5, .int .i64 a0_6, .int .i64 a0_7, .bool a0_8] 27 (0, 0))) ∧ Aside0 (wc.heap[gb351]? = some (.cells #[.string t341, .string t342, .string t343, .int .i64 t344, .string t345, .string t346, .string t347, .bool t348, .bool t349] 32 (0, 0))) ∧ Aside0 (wc.heap[gb362]? = some (.cells #[.string t352, .string t353, .string t354, .int .i64 t355, .string t356, .string t357, .string t358, .bool t359, .bool t360] 32 (0, 0))) ∧ Aside0 (Below w.heap.size w wc))
 case first =>
  have H := HC4.out
  clear HC4
  by_cases c17 : t350 = true
  ·
   subst c17
   replace H := ifT_ H
   by_cases c18 : t361 = true
   ·
    subst c18
    replace H := ifT_ H
    obtain ⟨t363, A19, H⟩ := bindE_ H
    have H' := Aside0.mk H
    clear H
    have hnb20 := NB351_340.out
    have hnc20 := NB340_351.out
    have hnb21 := NB351_362.out
    have hnc21 := NB362_351.out
    obtain ⟨hcz22_0, hcz22_1, hcz22_2, hcz22_3, hcz22_4, hcz22_5, hcz22_6, hcz22_7, hcz22_8, hfz22_0, hfz22_1, hfz22_2, hfz22_3, hfz22_4, hfz22_5, hfz22_6, hfz22_7, hfz22_8⟩ := cz9_ BK351
    have hnb23 := NB362_340.out
    have hnc23 := NB340_362.out
    obtain ⟨hcz24_0, hcz24_1, hcz24_2, hcz24_3, hcz24_4, hcz24_5, hcz24_6, hcz24_7, hcz24_8, hfz24_0, hfz24_1, hfz24_2, hfz24_3, hfz24_4, hfz24_5, hfz24_6, hfz24_7, hfz24_8⟩ := cz9_ BK362
    go_wp2_with (first | (go_at_call 30; (with_reducible refine (impl_SameOrigin.calls k t341 t342 t343 t344 t345 t346 t347 t348 t349 t352 t353 t354 t355 t356 t357 t358 t359 t360 t363 _ ?side1 A19.out).mono ?_); (case side1 => exact Amb.on HM.out belE_); rintro e w25 ⟨rfl, hb⟩; have n0_ := Aside0.mk (blk_below (g := gb340) (o := .cells #[.string a0_0, .string a0_1, .string a0_2, .string a0_3, .string a0_4, .string a0_5, .int .i64 a0_6, .int .i64 a0_7, .bool a0_8] 27 (0, 0)) farE_ hb); have n1_ := Aside0.mk (blk_below (g := gb351) (o := .cells #[.string t341, .string t342, .string t343, .int .i64 t344, .string t345, .string t346, .string t347, .bool t348, .bool t349] 32 (0, 0)) farE_ hb); have n2_ := Aside0.mk (blk_below (g := gb362) (o := .cells #[.string t352, .string t353, .string t354, .int .i64 t355, .string t356, .string t357, .string t358, .bool t359, .bool t360] 32 (0, 0)) (by (with_reducible repeat apply bd_); refine blk_put (cs := #[.string t352, .string t353, .string t354, .int .i64 t355, .string t356, .string t357, .string t358, .bool t359, .bool false]) ?_ 8 _ rfl; (with_reducible repeat apply bd_); refine blk_put (cs := #[.string t352, .string t353, .string t354, .int .i64 t355, .string t356, .string t357, .string t358, .bool false, .bool false]) ?_ 7 _ rfl; (with_reducible repeat apply bd_); refine blk_put (cs := #[.string t352, .string t353, .string t354, .int .i64 t355, .string t356, .string t357, .string ⟨#[]⟩, .bool false, .bool false]) ?_ 6 _ rfl; (with_reducible repeat apply bd_); refine blk_put (cs := #[.string t352, .string t353, .string t354, .int .i64 t355, .string t356, .string ⟨#[]⟩, .string ⟨#[]⟩, .bool false, .bool false]) ?_ 5 _ rfl; (with_reducible repeat apply bd_); refine blk_put (cs := #[.string t352, .string t353, .string t354, .int .i64 t355, .string ⟨#[]⟩, .string ⟨#[]⟩, .string ⟨#[]⟩, .bool false, .bool false]) ?_ 4 _ rfl; (with_reducible repeat apply bd_); refine blk_put (cs := #[.string t352, .string t353, .string t354, .int .i64 0, .string ⟨#[]⟩, .string ⟨#[]⟩, .string ⟨#[]⟩, .bool false, .bool false]) ?_ 3 _ rfl; (with_reducible repeat apply bd_); refine blk_put (cs := #[.string t352, .string t353, .string ⟨#[]⟩, .int .i64 0, .string ⟨#[]⟩, .string ⟨#[]⟩, .string ⟨#[]⟩, .bool false, .bool false]) ?_ 2 _ rfl; (with_reducible repeat apply bd_); refine blk_put (cs := #[.string t352, .string ⟨#[]⟩, .string ⟨#[]⟩, .int .i64 0, .string ⟨#[]⟩, .string ⟨#[]⟩, .string ⟨#[]⟩, .bool false, .bool false]) ?_ 1 _ rfl; (with_reducible repeat apply bd_); refine blk_put (cs := #[.string ⟨#[]⟩, .string ⟨#[]⟩, .string ⟨#[]⟩, .int .i64 0, .string ⟨#[]⟩, .string ⟨#[]⟩, .string ⟨#[]⟩, .bool false, .bool false]) ?_ 0 _ rfl; (with_reducible repeat apply bd_); exact BK362.out) hb); have n3_ := Aside0.mk (below_step belE_ hb); clear BK340; clear BK351; clear BK362; clear HB; have BK340 := n0_; have BK351 := n1_; have BK362 := n2_; have HB := n3_; clear n0_ n1_ n2_ n3_; (try clear hb); (try clear hb2); (try clear hk); (try clear hi)))
    go_meet
    case rel => exact ⟨_, (t363), eqE_, H', ⟨leE_⟩, ⟨blkE_⟩, ⟨blkE_⟩, ⟨blkE_⟩, ⟨belE_⟩⟩
   ·
    replace c18 := Bool.eq_false_iff.mpr c18
    subst c18
    replace H := ifF_ H
    have H' := Aside0.mk H
    clear H
    go_wp2
    go_meet
    case rel => exact ⟨_, (false), eqE_, H', ⟨leE_⟩, ⟨farE_⟩, ⟨farE_⟩, ⟨by (with_reducible repeat apply bd_); refine blk_put (cs := #[.string t352, .string t353, .string t354, .int .i64 t355, .string t356, .string t357, .string t358, .bool t359, .bool false]) ?_ 8 _ rfl; (with_reducible repeat apply bd_); refine blk_put (cs := #[.string t352, .string t353, .string t354, .int .i64 t355, .string t356, .string t357, .string t358, .bool false, .bool false]) ?_ 7 _ rfl; (with_reducible repeat apply bd_); refine blk_put (cs := #[.string t352, .string t353, .string t354, .int .i64 t355, .string t356, .string t357, .string ⟨#[]⟩, .bool false, .bool false]) ?_ 6 _ rfl; (with_reducible repeat apply bd_); refine blk_put (cs := #[.string t352, .string t353, .string t354, .int .i64 t355, .string t356, .string ⟨#[]⟩, .string ⟨#[]⟩, .bool false, .bool false]) ?_ 5 _ rfl; (with_reducible repeat apply bd_); refine blk_put (cs := #[.string t352, .string t353, .string t354, .int .i64 t355, .string ⟨#[]⟩, .string ⟨#[]⟩, .string ⟨#[]⟩, .bool false, .bool false]) ?_ 4 _ rfl; (with_reducible repeat apply bd_); refine blk_put (cs := #[.string t352, .string t353, .string t354, .int .i64 0, .string ⟨#[]⟩, .string ⟨#[]⟩, .string ⟨#[]⟩, .bool false, .bool false]) ?_ 3 _ rfl; (with_reducible repeat apply bd_); refine blk_put (cs := #[.string t352, .string t353, .string ⟨#[]⟩, .int .i64 0, .string ⟨#[]⟩, .string ⟨#[]⟩, .string ⟨#[]⟩, .bool false, .bool false]) ?_ 2 _ rfl; (with_reducible repeat apply bd_); refine blk_put (cs := #[.string t352, .string ⟨#[]⟩, .string ⟨#[]⟩, .int .i64 0, .string ⟨#[]⟩, .string ⟨#[]⟩, .string ⟨#[]⟩, .bool false, .bool false]) ?_ 1 _ rfl; (with_reducible repeat apply bd_); refine blk_put (cs := #[.string ⟨#[]⟩, .string ⟨#[]⟩, .string ⟨#[]⟩, .int .i64 0, .string ⟨#[]⟩, .string ⟨#[]⟩, .string ⟨#[]⟩, .bool false, .bool false]) ?_ 0 _ rfl; (with_reducible repeat apply bd_); exact BK362.out⟩, ⟨belE_⟩⟩
  ·
   replace c17 := Bool.eq_false_iff.mpr c17
   subst c17
   replace H := ifF_ H
   have H' := Aside0.mk H
   clear H
   go_wp2
   go_meet
   case rel => exact ⟨_, (false), eqE_, H', ⟨leE_⟩, ⟨farE_⟩, ⟨farE_⟩, ⟨by (with_reducible repeat apply bd_); refine blk_put (cs := #[.string t352, .string t353, .string t354, .int .i64 t355, .string t356, .string t357, .string t358, .bool t359, .bool false]) ?_ 8 _ rfl; (with_reducible repeat apply bd_); refine blk_put (cs := #[.string t352, .string t353, .string t354, .int .i64 t355, .string t356, .string t357, .string t358, .bool false, .bool false]) ?_ 7 _ rfl; (with_reducible repeat apply bd_); refine blk_put (cs := #[.string t352, .string t353, .string t354, .int .i64 t355, .string t356, .string t357, .string ⟨#[]⟩, .bool false, .bool false]) ?_ 6 _ rfl; (with_reducible repeat apply bd_); refine blk_put (cs := #[.string t352, .string t353, .string t354, .int .i64 t355, .string t356, .string ⟨#[]⟩, .string ⟨#[]⟩, .bool false, .bool false]) ?_ 5 _ rfl; (with_reducible repeat apply bd_); refine blk_put (cs := #[.string t352, .string t353, .string t354, .int .i64 t355, .string ⟨#[]⟩, .string ⟨#[]⟩, .string ⟨#[]⟩, .bool false, .bool false]) ?_ 4 _ rfl; (with_reducible repeat apply bd_); refine blk_put (cs := #[.string t352, .string t353, .string t354, .int .i64 0, .string ⟨#[]⟩, .string ⟨#[]⟩, .string ⟨#[]⟩, .bool false, .bool false]) ?_ 3 _ rfl; (with_reducible repeat apply bd_); refine blk_put (cs := #[.string t352, .string t353, .string ⟨#[]⟩, .int .i64 0, .string ⟨#[]⟩, .string ⟨#[]⟩, .string ⟨#[]⟩, .bool false, .bool false]) ?_ 2 _ rfl; (with_reducible repeat apply bd_); refine blk_put (cs := #[.string t352, .string ⟨#[]⟩, .string ⟨#[]⟩, .int .i64 0, .string ⟨#[]⟩, .string ⟨#[]⟩, .string ⟨#[]⟩, .bool false, .bool false]) ?_ 1 _ rfl; (with_reducible repeat apply bd_); refine blk_put (cs := #[.string ⟨#[]⟩, .string ⟨#[]⟩, .string ⟨#[]⟩, .int .i64 0, .string ⟨#[]⟩, .string ⟨#[]⟩, .string ⟨#[]⟩, .bool false, .bool false]) ?_ 0 _ rfl; (with_reducible repeat apply bd_); exact BK362.out⟩, ⟨belE_⟩⟩
 case rest =>
  clear HC4
  try clear hcz10_0 hcz10_1 hcz10_2 hcz10_3 hcz10_4 hcz10_5 hcz10_6 hcz10_7 hcz10_8
  try clear hcz11_0 hcz11_1 hcz11_2 hcz11_3 hcz11_4 hcz11_5 hcz11_6 hcz11_7 hcz11_8
  try clear hcz16_0 hcz16_1 hcz16_2 hcz16_3 hcz16_4 hcz16_5 hcz16_6 hcz16_7 hcz16_8
  try clear hcz6_0 hcz6_1 hcz6_2 hcz6_3 hcz6_4 hcz6_5 hcz6_6 hcz6_7 hcz6_8
  try clear hfz10_0 hfz10_1 hfz10_2 hfz10_3 hfz10_4 hfz10_5 hfz10_6 hfz10_7 hfz10_8
  try clear hfz11_0 hfz11_1 hfz11_2 hfz11_3 hfz11_4 hfz11_5 hfz11_6 hfz11_7 hfz11_8
  try clear hfz16_0 hfz16_1 hfz16_2 hfz16_3 hfz16_4 hfz16_5 hfz16_6 hfz16_7 hfz16_8
  try clear hfz6_0 hfz6_1 hfz6_2 hfz6_3 hfz6_4 hfz6_5 hfz6_6 hfz6_7 hfz6_8
  obtain ⟨kq, x27_3, rfl, HA, HJ3, BK340, BK351, BK362, HB⟩ := hcut
  cases kq with
  | zero => exact absurd HA.out (by simp [impl_Violation_source.j0])
  | succ kj3 =>
   have H := HA.out
   clear HA
   simp only [impl_Violation_source.j0] at H
   by_cases c26 : x27_3 = true
   ·
    subst c26
    replace H := ifT_ H
    obtain ⟨t364, A27, H⟩ := bindE_ H
    obtain rfl := Option.some.inj H
    have hnb28 := NB351_340.out
    have hnc28 := NB340_351.out
    have hnb29 := NB351_362.out
    have hnc29 := NB362_351.out
    obtain ⟨hcz30_0, hcz30_1, hcz30_2, hcz30_3, hcz30_4, hcz30_5, hcz30_6, hcz30_7, hcz30_8, hfz30_0, hfz30_1, hfz30_2, hfz30_3, hfz30_4, hfz30_5, hfz30_6, hfz30_7, hfz30_8⟩ := cz9_ BK351
    go_wp2_with (first | ((with_reducible refine gate_callee (f := 52) rfl ?_); refine cU_ (some 29) Tryz.func52 #[.agg #[.string t341, .string t342, .string t343, .int .i64 t344, .string t345, .string t346, .string t347, .bool t348, .bool t349]] ?_; (with_reducible refine (impl_Url_strip.calls kj3 t341 t342 t343 t344 t345 t346 t347 t348 t349 t364 _ ?side1 A27.out).mono ?_); (case side1 => exact Amb.on HM.out belE_); rintro e w31 ⟨rfl, hb⟩; refine ⟨_, rfl, ?_⟩; have n0_ := blkB_ (g := gb340) (o := .cells #[.string a0_0, .string a0_1, .string a0_2, .string a0_3, .string a0_4, .string a0_5, .int .i64 a0_6, .int .i64 a0_7, .bool a0_8] 27 (0, 0)) hb; have n1_ := blkB_ (g := gb351) (o := .cells #[.string t341, .string t342, .string t343, .int .i64 t344, .string t345, .string t346, .string t347, .bool t348, .bool t349] 32 (0, 0)) hb; have n2_ := blkB_ (g := gb362) (o := .cells #[.string t352, .string t353, .string t354, .int .i64 t355, .string t356, .string t357, .string t358, .bool t359, .bool t360] 32 (0, 0)) hb; have n3_ := Aside0.mk (below_step belE_ hb); clear BK340; clear BK351; clear BK362; clear HB; have BK340 := n0_; have BK351 := n1_; have BK362 := n2_; have HB := n3_; clear n0_ n1_ n2_ n3_; (try clear hb); (try clear hb2); (try clear hk); (try clear hi)))
    go_ret
    exact ⟨retE_, belE_⟩
   ·
    replace c26 := Bool.eq_false_iff.mpr c26
    subst c26
    replace H := ifF_ H
    obtain ⟨t365, A32, H⟩ := bindE_ H
    obtain rfl := Option.some.inj H
    have hnb33 := NB340_351.out
    have hnc33 := NB351_340.out
    have hnb34 := NB340_362.out
    have hnc34 := NB362_340.out
    obtain ⟨hcz35_0, hcz35_1, hcz35_2, hcz35_3, hcz35_4, hcz35_5, hcz35_6, hcz35_7, hcz35_8, hfz35_0, hfz35_1, hfz35_2, hfz35_3, hfz35_4, hfz35_5, hfz35_6, hfz35_7, hfz35_8⟩ := cz9_ BK340
    go_wp2_with (first | ((with_reducible refine gate_callee (f := 100) rfl ?_); refine cU_ (some 32) Tryz.func100 #[.string a0_3] ?_; (with_reducible refine (impl_site.calls kj3 a0_3 t365 _ ?side1 A32.out).mono ?_); (case side1 => exact Amb.on HM.out belE_); rintro e w36 ⟨rfl, hb⟩; refine ⟨_, rfl, ?_⟩; have n0_ := blkB_ (g := gb340) (o := .cells #[.string a0_0, .string a0_1, .string a0_2, .string a0_3, .string a0_4, .string a0_5, .int .i64 a0_6, .int .i64 a0_7, .bool a0_8] 27 (0, 0)) hb; have n1_ := blkB_ (g := gb351) (o := .cells #[.string t341, .string t342, .string t343, .int .i64 t344, .string t345, .string t346, .string t347, .bool t348, .bool t349] 32 (0, 0)) hb; have n2_ := blkB_ (g := gb362) (o := .cells #[.string t352, .string t353, .string t354, .int .i64 t355, .string t356, .string t357, .string t358, .bool t359, .bool t360] 32 (0, 0)) hb; have n3_ := Aside0.mk (below_step belE_ hb); clear BK340; clear BK351; clear BK362; clear HB; have BK340 := n0_; have BK351 := n1_; have BK362 := n2_; have HB := n3_; clear n0_ n1_ n2_ n3_; (try clear hb); (try clear hb2); (try clear hk); (try clear hi)))
    go_ret
    exact ⟨retE_, belE_⟩

/-! ### impl_SourcePart: function 13 -/
def impl_SourcePart.f (k : Nat) (a0_0 : ByteArray) (a0_1 : ByteArray) (a0_2 : ByteArray) (a0_3 : ByteArray) (a0_4 : ByteArray) (a0_5 : ByteArray) (a0_6 : Int) (a0_7 : Int) (a0_8 : Bool) : Option (ByteArray × Int) := (impl_ViolationOK.f k a0_0 a0_1 a0_2 a0_3 a0_4 a0_5 a0_6 a0_7 a0_8).bind fun t367 => (if t367 = true then ((impl_Violation_source.f k a0_0 a0_1 a0_2 a0_3 a0_4 a0_5 a0_6 a0_7 a0_8).bind fun t368 => (some (t368, 0))) else (some ((⟨#[]⟩ : ByteArray), 1)))
theorem impl_SourcePart.mono : ∀ a0 a1 a2 a3 a4 a5 a6 a7 a8 k, LeO (impl_SourcePart.f k a0 a1 a2 a3 a4 a5 a6 a7 a8) (impl_SourcePart.f (k + 1) a0 a1 a2 a3 a4 a5 a6 a7 a8) := by
  intro a0 a1 a2 a3 a4 a5 a6 a7 a8 k
  unfold impl_SourcePart.f
  repeat' first
      | (with_reducible exact impl_ViolationOK.mono _ _ _ _ _ _ _ _ _ _)
      | (with_reducible exact impl_Violation_source.mono _ _ _ _ _ _ _ _ _ _)
      | (with_reducible exact LeO.refl _)
      | (with_reducible exact LeO.none _)
      | (with_reducible refine LeO.ite ?_ ?_)
      | (with_reducible refine LeO.bind ?_ (fun _ => ?_))
      | exact impl_ViolationOK.mono _ _ _ _ _ _ _ _ _ _
      | exact impl_Violation_source.mono _ _ _ _ _ _ _ _ _ _
      | exact LeO.none _
      | refine LeO.ite ?_ ?_
      | refine LeO.bind ?_ (fun _ => ?_)
set_option maxHeartbeats 8000000 in
set_option maxRecDepth 100000 in
theorem impl_SourcePart.calls (k : Nat) (a0_0 : ByteArray) (a0_1 : ByteArray) (a0_2 : ByteArray) (a0_3 : ByteArray) (a0_4 : ByteArray) (a0_5 : ByteArray) (a0_6 : Int) (a0_7 : Int) (a0_8 : Bool) (r1 : ByteArray) (r2 : Int) (w : World) (hM : Amb w) (h : impl_SourcePart.f k a0_0 a0_1 a0_2 a0_3 a0_4 a0_5 a0_6 a0_7 a0_8 = some (r1, r2)) :
    Calls Tryz.prog 13 #[.agg #[.string a0_0, .string a0_1, .string a0_2, .string a0_3, .string a0_4, .string a0_5, .int .i64 a0_6, .int .i64 a0_7, .bool a0_8]] w fun e w' => e = .returned (.tuple #[.string r1, .int .i64 r2]) ∧ Below w.heap.size w w' := by
 have hu27 := Tryz.underlying27
 have HB := Aside0.mk (Below.refl w.heap.size w)
 have HM := Aside0.mk hM
 clear hM
 have H : ((impl_ViolationOK.f k a0_0 a0_1 a0_2 a0_3 a0_4 a0_5 a0_6 a0_7 a0_8).bind fun t367 => (if t367 = true then ((impl_Violation_source.f k a0_0 a0_1 a0_2 a0_3 a0_4 a0_5 a0_6 a0_7 a0_8).bind fun t368 => (some (t368, 0))) else (some ((⟨#[]⟩ : ByteArray), 1)))) = some (r1, r2) := h
 clear h
 obtain ⟨t367, A2, H⟩ := bindE_ H
 by_cases c3 : t367 = true
 ·
  subst c3
  replace H := ifT_ H
  obtain ⟨t368, A4, H⟩ := bindE_ H
  simp only [Option.some.injEq, Prod.mk.injEq] at H
  obtain ⟨rfl, rfl⟩ := H
  go_enter Tryz.func13, Tryz.ntmps13
  go_wp2_with (first | ((with_reducible refine gate_dst (N := 1) rfl ?_); refine box_event ?hg (N := 1) ?hd (cs := #[.string a0_0, .string a0_1, .string a0_2, .string a0_3, .string a0_4, .string a0_5, .int .i64 a0_6, .int .i64 a0_7, .bool a0_8]) (t := 27) ?hr ?_; (case hd => rfl); (case hg => rfl); (case hr => first | (go_simp; done) | (go_simp; rfl)); intro gb366 hg w5 hbox hb; have n0_ := belB_ hb; have n1_ := Aside0.mk (hbox); have n2_ := Aside0.mk ((by rw [hg]; exact (below_size belE_) : w.heap.size ≤ gb366)); have n3_ := Aside0.mk ((by rw [hg]; exact (below_size belE_) : w.heap.size ≤ gb366)); clear HB; have HB := n0_; have BK366 := n1_; have GW366 := n2_; have GE366 := n3_; clear n0_ n1_ n2_ n3_; clear hb hbox hg; obtain ⟨hcz6_0, hcz6_1, hcz6_2, hcz6_3, hcz6_4, hcz6_5, hcz6_6, hcz6_7, hcz6_8, hfz6_0, hfz6_1, hfz6_2, hfz6_3, hfz6_4, hfz6_5, hfz6_6, hfz6_7, hfz6_8⟩ := cz9_ BK366) | ((with_reducible refine gate_callee (f := 46) rfl ?_); refine cU_ (some 5) Tryz.func46 #[.agg #[.string a0_0, .string a0_1, .string a0_2, .string a0_3, .string a0_4, .string a0_5, .int .i64 a0_6, .int .i64 a0_7, .bool a0_8]] ?_; (with_reducible refine (impl_ViolationOK.calls k a0_0 a0_1 a0_2 a0_3 a0_4 a0_5 a0_6 a0_7 a0_8 true _ A2.out).mono ?_); rintro e w7 ⟨rfl, hb⟩; refine ⟨_, rfl, ?_⟩; replace BK366 := blkK_ BK366 hb; replace HB := belB_ hb; (try clear hb); obtain ⟨hcz8_0, hcz8_1, hcz8_2, hcz8_3, hcz8_4, hcz8_5, hcz8_6, hcz8_7, hcz8_8, hfz8_0, hfz8_1, hfz8_2, hfz8_3, hfz8_4, hfz8_5, hfz8_6, hfz8_7, hfz8_8⟩ := cz9_ BK366) | ((with_reducible refine gate_callee (f := 47) rfl ?_); refine cU_ (some 8) Tryz.func47 #[.agg #[.string a0_0, .string a0_1, .string a0_2, .string a0_3, .string a0_4, .string a0_5, .int .i64 a0_6, .int .i64 a0_7, .bool a0_8]] ?_; (with_reducible refine (impl_Violation_source.calls k a0_0 a0_1 a0_2 a0_3 a0_4 a0_5 a0_6 a0_7 a0_8 t368 _ ?side1 A4.out).mono ?_); (case side1 => exact Amb.on HM.out belE_); rintro e w9 ⟨rfl, hb⟩; refine ⟨_, rfl, ?_⟩; replace BK366 := blkK_ BK366 hb; replace HB := belB_ hb; (try clear hb)))
  go_ret2
  exact ⟨retE_, belE_⟩
 ·
  replace c3 := Bool.eq_false_iff.mpr c3
  subst c3
  replace H := ifF_ H
  simp only [Option.some.injEq, Prod.mk.injEq] at H
  obtain ⟨rfl, rfl⟩ := H
  go_enter Tryz.func13, Tryz.ntmps13
  go_wp2_with (first | ((with_reducible refine gate_dst (N := 1) rfl ?_); refine box_event ?hg (N := 1) ?hd (cs := #[.string a0_0, .string a0_1, .string a0_2, .string a0_3, .string a0_4, .string a0_5, .int .i64 a0_6, .int .i64 a0_7, .bool a0_8]) (t := 27) ?hr ?_; (case hd => rfl); (case hg => rfl); (case hr => first | (go_simp; done) | (go_simp; rfl)); intro gb366 hg w10 hbox hb; have n0_ := belB_ hb; have n1_ := Aside0.mk (hbox); have n2_ := Aside0.mk ((by rw [hg]; exact (below_size belE_) : w.heap.size ≤ gb366)); have n3_ := Aside0.mk ((by rw [hg]; exact (below_size belE_) : w.heap.size ≤ gb366)); clear HB; have HB := n0_; have BK366 := n1_; have GW366 := n2_; have GE366 := n3_; clear n0_ n1_ n2_ n3_; clear hb hbox hg; obtain ⟨hcz11_0, hcz11_1, hcz11_2, hcz11_3, hcz11_4, hcz11_5, hcz11_6, hcz11_7, hcz11_8, hfz11_0, hfz11_1, hfz11_2, hfz11_3, hfz11_4, hfz11_5, hfz11_6, hfz11_7, hfz11_8⟩ := cz9_ BK366) | ((with_reducible refine gate_callee (f := 46) rfl ?_); refine cU_ (some 5) Tryz.func46 #[.agg #[.string a0_0, .string a0_1, .string a0_2, .string a0_3, .string a0_4, .string a0_5, .int .i64 a0_6, .int .i64 a0_7, .bool a0_8]] ?_; (with_reducible refine (impl_ViolationOK.calls k a0_0 a0_1 a0_2 a0_3 a0_4 a0_5 a0_6 a0_7 a0_8 false _ A2.out).mono ?_); rintro e w12 ⟨rfl, hb⟩; refine ⟨_, rfl, ?_⟩; replace BK366 := blkK_ BK366 hb; replace HB := belB_ hb; (try clear hb)))
  go_ret2
  exact ⟨retE_, belE_⟩

/-! ### laws_FnExactSourcePart: function 3 -/
def laws_FnExactSourcePart.f (k : Nat) (a0_0 : ByteArray) (a0_1 : ByteArray) (a0_2 : ByteArray) (a0_3 : ByteArray) (a0_4 : ByteArray) (a0_5 : ByteArray) (a0_6 : Int) (a0_7 : Int) (a0_8 : Bool) : Option (Bool) := (laws_szViolation.f a0_0 a0_1 a0_2 a0_3 a0_4 a0_5 a0_6 a0_7 a0_8 1048576).bind fun t370 => (if t370 < 0 then (some true) else ((laws_toViolation.f a0_0 a0_1 a0_2 a0_3 a0_4 a0_5 a0_6 a0_7 a0_8).bind fun bt371 => ((spec_SourcePart.f k bt371.1 bt371.2.1 bt371.2.2.1 bt371.2.2.2.1 bt371.2.2.2.2.1 bt371.2.2.2.2.2.1 bt371.2.2.2.2.2.2.1 bt371.2.2.2.2.2.2.2.1 bt371.2.2.2.2.2.2.2.2).bind fun bt380 => ((laws_toViolation.f a0_0 a0_1 a0_2 a0_3 a0_4 a0_5 a0_6 a0_7 a0_8).bind fun bt382 => ((impl_SourcePart.f k bt382.1 bt382.2.1 bt382.2.2.1 bt382.2.2.2.1 bt382.2.2.2.2.1 bt382.2.2.2.2.2.1 bt382.2.2.2.2.2.2.1 bt382.2.2.2.2.2.2.2.1 bt382.2.2.2.2.2.2.2.2).bind fun bt391 => (if bt391.1.toList = bt380.1.toList then (if bt391.2 = bt380.2 then (some true) else (some false)) else (some false)))))))
theorem laws_FnExactSourcePart.mono : ∀ a0 a1 a2 a3 a4 a5 a6 a7 a8 k, LeO (laws_FnExactSourcePart.f k a0 a1 a2 a3 a4 a5 a6 a7 a8) (laws_FnExactSourcePart.f (k + 1) a0 a1 a2 a3 a4 a5 a6 a7 a8) := by
  intro a0 a1 a2 a3 a4 a5 a6 a7 a8 k
  unfold laws_FnExactSourcePart.f
  repeat' first
      | (with_reducible exact impl_SourcePart.mono _ _ _ _ _ _ _ _ _ _)
      | (with_reducible exact spec_SourcePart.mono _ _ _ _ _ _ _ _ _ _)
      | (with_reducible exact LeO.refl _)
      | (with_reducible exact LeO.none _)
      | (with_reducible refine LeO.ite ?_ ?_)
      | (with_reducible refine LeO.bind ?_ (fun _ => ?_))
      | exact impl_SourcePart.mono _ _ _ _ _ _ _ _ _ _
      | exact spec_SourcePart.mono _ _ _ _ _ _ _ _ _ _
      | exact LeO.none _
      | refine LeO.ite ?_ ?_
      | refine LeO.bind ?_ (fun _ => ?_)
set_option maxHeartbeats 8000000 in
set_option maxRecDepth 100000 in
theorem laws_FnExactSourcePart.calls (k : Nat) (a0_0 : ByteArray) (a0_1 : ByteArray) (a0_2 : ByteArray) (a0_3 : ByteArray) (a0_4 : ByteArray) (a0_5 : ByteArray) (a0_6 : Int) (a0_7 : Int) (a0_8 : Bool) (r : Bool) (w : World) (hM : Amb w) (h : laws_FnExactSourcePart.f k a0_0 a0_1 a0_2 a0_3 a0_4 a0_5 a0_6 a0_7 a0_8 = some r) (hr_ : r = true) :
    Calls Tryz.prog 3 #[.agg #[.string a0_0, .string a0_1, .string a0_2, .string a0_3, .string a0_4, .string a0_5, .int .i64 a0_6, .int .i64 a0_7, .bool a0_8]] w fun e w' => e = .returned (.bool r) ∧ Below w.heap.size w w' := by
 have hu23 := Tryz.underlying23
 have HB := Aside0.mk (Below.refl w.heap.size w)
 have HM := Aside0.mk hM
 clear hM
 have H : ((laws_szViolation.f a0_0 a0_1 a0_2 a0_3 a0_4 a0_5 a0_6 a0_7 a0_8 1048576).bind fun t370 => (if t370 < 0 then (some true) else ((laws_toViolation.f a0_0 a0_1 a0_2 a0_3 a0_4 a0_5 a0_6 a0_7 a0_8).bind fun bt371 => ((spec_SourcePart.f k bt371.1 bt371.2.1 bt371.2.2.1 bt371.2.2.2.1 bt371.2.2.2.2.1 bt371.2.2.2.2.2.1 bt371.2.2.2.2.2.2.1 bt371.2.2.2.2.2.2.2.1 bt371.2.2.2.2.2.2.2.2).bind fun bt380 => ((laws_toViolation.f a0_0 a0_1 a0_2 a0_3 a0_4 a0_5 a0_6 a0_7 a0_8).bind fun bt382 => ((impl_SourcePart.f k bt382.1 bt382.2.1 bt382.2.2.1 bt382.2.2.2.1 bt382.2.2.2.2.1 bt382.2.2.2.2.2.1 bt382.2.2.2.2.2.2.1 bt382.2.2.2.2.2.2.2.1 bt382.2.2.2.2.2.2.2.2).bind fun bt391 => (if bt391.1.toList = bt380.1.toList then (if bt391.2 = bt380.2 then (some true) else (some false)) else (some false)))))))) = some r := h
 clear h
 obtain ⟨t370, A2, H⟩ := bindE_ H
 by_cases c3 : t370 < 0
 ·
  rw [if_pos c3] at H
  have c3b0 : decide (t370 < 0) = true := decide_eq_true c3
  clear c3
  obtain rfl := Option.some.inj H
  go_enter Tryz.func3, Tryz.ntmps3
  go_wp2_with (first | ((with_reducible refine gate_dst (N := 1) rfl ?_); refine box_event ?hg (N := 1) ?hd (cs := #[.string a0_0, .string a0_1, .string a0_2, .string a0_3, .string a0_4, .string a0_5, .int .i64 a0_6, .int .i64 a0_7, .bool a0_8]) (t := 23) ?hr ?_; (case hd => rfl); (case hg => rfl); (case hr => first | (go_simp; done) | (go_simp; rfl)); intro gb369 hg w4 hbox hb; have n0_ := belB_ hb; have n1_ := Aside0.mk (hbox); have n2_ := Aside0.mk ((by rw [hg]; exact (below_size belE_) : w.heap.size ≤ gb369)); have n3_ := Aside0.mk ((by rw [hg]; exact (below_size belE_) : w.heap.size ≤ gb369)); clear HB; have HB := n0_; have BK369 := n1_; have GW369 := n2_; have GE369 := n3_; clear n0_ n1_ n2_ n3_; clear hb hbox hg; obtain ⟨hcz5_0, hcz5_1, hcz5_2, hcz5_3, hcz5_4, hcz5_5, hcz5_6, hcz5_7, hcz5_8, hfz5_0, hfz5_1, hfz5_2, hfz5_3, hfz5_4, hfz5_5, hfz5_6, hfz5_7, hfz5_8⟩ := cz9_ BK369) | ((with_reducible refine gate_callee (f := 10) rfl ?_); refine cU_ (some 10) Tryz.func10 #[.agg #[.string a0_0, .string a0_1, .string a0_2, .string a0_3, .string a0_4, .string a0_5, .int .i64 a0_6, .int .i64 a0_7, .bool a0_8], .int .i64 1048576] ?_; (with_reducible refine (laws_szViolation.calls a0_0 a0_1 a0_2 a0_3 a0_4 a0_5 a0_6 a0_7 a0_8 1048576 t370 _ A2.out).mono ?_); rintro e w6 ⟨rfl, hb⟩; refine ⟨_, rfl, ?_⟩; replace BK369 := blkK_ BK369 hb; replace HB := belB_ hb; (try clear hb)))
  go_ret
  exact ⟨retE_, belE_⟩
 ·
  rw [if_neg c3] at H
  have c3b0 : decide (t370 < 0) = false := decide_eq_false c3
  clear c3
  replace H := Option.bind_eq_some_iff.mp H
  obtain ⟨⟨t371, t372, t373, t374, t375, t376, t377, t378, t379⟩, A70, H⟩ := H
  replace H : ((spec_SourcePart.f k t371 t372 t373 t374 t375 t376 t377 t378 t379).bind fun bt380 => ((laws_toViolation.f a0_0 a0_1 a0_2 a0_3 a0_4 a0_5 a0_6 a0_7 a0_8).bind fun bt382 => ((impl_SourcePart.f k bt382.1 bt382.2.1 bt382.2.2.1 bt382.2.2.2.1 bt382.2.2.2.2.1 bt382.2.2.2.2.2.1 bt382.2.2.2.2.2.2.1 bt382.2.2.2.2.2.2.2.1 bt382.2.2.2.2.2.2.2.2).bind fun bt391 => (if bt391.1.toList = bt380.1.toList then (if bt391.2 = bt380.2 then (some true) else (some false)) else (some false))))) = some r := H
  have A7 := Aside0.mk A70
  clear A70
  replace H := Option.bind_eq_some_iff.mp H
  obtain ⟨⟨t380, t381⟩, A80, H⟩ := H
  replace H : ((laws_toViolation.f a0_0 a0_1 a0_2 a0_3 a0_4 a0_5 a0_6 a0_7 a0_8).bind fun bt382 => ((impl_SourcePart.f k bt382.1 bt382.2.1 bt382.2.2.1 bt382.2.2.2.1 bt382.2.2.2.2.1 bt382.2.2.2.2.2.1 bt382.2.2.2.2.2.2.1 bt382.2.2.2.2.2.2.2.1 bt382.2.2.2.2.2.2.2.2).bind fun bt391 => (if bt391.1.toList = t380.toList then (if bt391.2 = t381 then (some true) else (some false)) else (some false)))) = some r := H
  have A8 := Aside0.mk A80
  clear A80
  replace H := Option.bind_eq_some_iff.mp H
  obtain ⟨⟨t382, t383, t384, t385, t386, t387, t388, t389, t390⟩, A90, H⟩ := H
  replace H : ((impl_SourcePart.f k t382 t383 t384 t385 t386 t387 t388 t389 t390).bind fun bt391 => (if bt391.1.toList = t380.toList then (if bt391.2 = t381 then (some true) else (some false)) else (some false))) = some r := H
  have A9 := Aside0.mk A90
  clear A90
  replace H := Option.bind_eq_some_iff.mp H
  obtain ⟨⟨t391, t392⟩, A100, H⟩ := H
  replace H : (if t391.toList = t380.toList then (if t392 = t381 then (some true) else (some false)) else (some false)) = some r := H
  have A10 := Aside0.mk A100
  clear A100
  by_cases c11 : t391.toList = t380.toList
  ·
   rw [if_pos c11] at H
   have c11b0 : (t391.toList == t380.toList) = true := beq_iff_eq.mpr c11
   have c11b1 : (t391.toList != t380.toList) = false := bne_eq_false_iff_eq.mpr c11
   clear c11
   by_cases c12 : t392 = t381
   ·
    rw [if_pos c12] at H
    have c12b0 : (t392 == t381) = true := beq_iff_eq.mpr c12
    have c12b1 : (t392 != t381) = false := bne_eq_false_iff_eq.mpr c12
    clear c12
    obtain rfl := Option.some.inj H
    go_enter Tryz.func3, Tryz.ntmps3
    go_wp2_with (first | ((with_reducible refine gate_dst (N := 1) rfl ?_); refine box_event ?hg (N := 1) ?hd (cs := #[.string a0_0, .string a0_1, .string a0_2, .string a0_3, .string a0_4, .string a0_5, .int .i64 a0_6, .int .i64 a0_7, .bool a0_8]) (t := 23) ?hr ?_; (case hd => rfl); (case hg => rfl); (case hr => first | (go_simp; done) | (go_simp; rfl)); intro gb369 hg w13 hbox hb; have n0_ := belB_ hb; have n1_ := Aside0.mk (hbox); have n2_ := Aside0.mk ((by rw [hg]; exact (below_size belE_) : w.heap.size ≤ gb369)); have n3_ := Aside0.mk ((by rw [hg]; exact (below_size belE_) : w.heap.size ≤ gb369)); clear HB; have HB := n0_; have BK369 := n1_; have GW369 := n2_; have GE369 := n3_; clear n0_ n1_ n2_ n3_; clear hb hbox hg; obtain ⟨hcz14_0, hcz14_1, hcz14_2, hcz14_3, hcz14_4, hcz14_5, hcz14_6, hcz14_7, hcz14_8, hfz14_0, hfz14_1, hfz14_2, hfz14_3, hfz14_4, hfz14_5, hfz14_6, hfz14_7, hfz14_8⟩ := cz9_ BK369) | ((with_reducible refine gate_callee (f := 10) rfl ?_); refine cU_ (some 10) Tryz.func10 #[.agg #[.string a0_0, .string a0_1, .string a0_2, .string a0_3, .string a0_4, .string a0_5, .int .i64 a0_6, .int .i64 a0_7, .bool a0_8], .int .i64 1048576] ?_; (with_reducible refine (laws_szViolation.calls a0_0 a0_1 a0_2 a0_3 a0_4 a0_5 a0_6 a0_7 a0_8 1048576 t370 _ A2.out).mono ?_); rintro e w15 ⟨rfl, hb⟩; refine ⟨_, rfl, ?_⟩; replace BK369 := blkK_ BK369 hb; replace HB := belB_ hb; (try clear hb); obtain ⟨hcz16_0, hcz16_1, hcz16_2, hcz16_3, hcz16_4, hcz16_5, hcz16_6, hcz16_7, hcz16_8, hfz16_0, hfz16_1, hfz16_2, hfz16_3, hfz16_4, hfz16_5, hfz16_6, hfz16_7, hfz16_8⟩ := cz9_ BK369) | ((with_reducible refine gate_callee (f := 12) rfl ?_); refine cU_ (some 15) Tryz.func12 #[.agg #[.string a0_0, .string a0_1, .string a0_2, .string a0_3, .string a0_4, .string a0_5, .int .i64 a0_6, .int .i64 a0_7, .bool a0_8]] ?_; (with_reducible refine (laws_toViolation.calls a0_0 a0_1 a0_2 a0_3 a0_4 a0_5 a0_6 a0_7 a0_8 t371 t372 t373 t374 t375 t376 t377 t378 t379 _ A7.out).mono ?_); rintro e w17 ⟨rfl, hb⟩; refine ⟨_, rfl, ?_⟩; replace BK369 := blkK_ BK369 hb; replace HB := belB_ hb; (try clear hb)) | ((with_reducible refine gate_callee (f := 11) rfl ?_); refine cU_ (some 16) Tryz.func11 #[.agg #[.string t371, .string t372, .string t373, .string t374, .string t375, .string t376, .int .i64 t377, .int .i64 t378, .bool t379]] ?_; (with_reducible refine (spec_SourcePart.calls k t371 t372 t373 t374 t375 t376 t377 t378 t379 t380 t381 _ A8.out).mono ?_); rintro e w18 ⟨rfl, hb⟩; refine ⟨_, rfl, ?_⟩; replace BK369 := blkK_ BK369 hb; replace HB := belB_ hb; (try clear hb); obtain ⟨hcz19_0, hcz19_1, hcz19_2, hcz19_3, hcz19_4, hcz19_5, hcz19_6, hcz19_7, hcz19_8, hfz19_0, hfz19_1, hfz19_2, hfz19_3, hfz19_4, hfz19_5, hfz19_6, hfz19_7, hfz19_8⟩ := cz9_ BK369) | ((with_reducible refine gate_callee (f := 12) rfl ?_); refine cU_ (some 21) Tryz.func12 #[.agg #[.string a0_0, .string a0_1, .string a0_2, .string a0_3, .string a0_4, .string a0_5, .int .i64 a0_6, .int .i64 a0_7, .bool a0_8]] ?_; (with_reducible refine (laws_toViolation.calls a0_0 a0_1 a0_2 a0_3 a0_4 a0_5 a0_6 a0_7 a0_8 t382 t383 t384 t385 t386 t387 t388 t389 t390 _ A9.out).mono ?_); rintro e w20 ⟨rfl, hb⟩; refine ⟨_, rfl, ?_⟩; replace BK369 := blkK_ BK369 hb; replace HB := belB_ hb; (try clear hb)) | ((with_reducible refine gate_callee (f := 13) rfl ?_); refine cU_ (some 22) Tryz.func13 #[.agg #[.string t382, .string t383, .string t384, .string t385, .string t386, .string t387, .int .i64 t388, .int .i64 t389, .bool t390]] ?_; (with_reducible refine (impl_SourcePart.calls k t382 t383 t384 t385 t386 t387 t388 t389 t390 t391 t392 _ ?side1 A10.out).mono ?_); (case side1 => exact Amb.on HM.out belE_); rintro e w21 ⟨rfl, hb⟩; refine ⟨_, rfl, ?_⟩; replace BK369 := blkK_ BK369 hb; replace HB := belB_ hb; (try clear hb)))
    go_ret
    exact ⟨retE_, belE_⟩
   ·
    rw [if_neg c12] at H
    have c12b0 : (t392 == t381) = false := beq_eq_false_iff_ne.mpr c12
    have c12b1 : (t392 != t381) = true := bne_iff_ne.mpr c12
    exact absurd (Option.some.inj H) (by rw [hr_]; decide)
  ·
   rw [if_neg c11] at H
   have c11b0 : (t391.toList == t380.toList) = false := beq_eq_false_iff_ne.mpr c11
   have c11b1 : (t391.toList != t380.toList) = true := bne_iff_ne.mpr c11
   exact absurd (Option.some.inj H) (by rw [hr_]; decide)
end Go.Proofs.YthifpohbdbhnlaaGreatDoor.QFnExactSourcePart
