/- A tool of this session wrote this text out of the translation: functions as plain Lean, and proofs that the machine's calls come to their answers. -/
import Derived.Test.YthifpohbdbhnlaaGreatDoorQShort
import Derived.Test.YthifpohbdbhnlaaGreatDoorQFnStripx0
import Derived.Test.YthifpohbdbhnlaaGreatDoorQFnStripx2
import Derived.Test.YthifpohbdbhnlaaGreatDoorQFnStripx6
import Derived.Test.YthifpohbdbhnlaaGreatDoorQFnStripx8
import Derived.Test.YthifpohbdbhnlaaGreatDoorQFnStripx9
import Derived.Test.YthifpohbdbhnlaaGreatDoorQFnStripx11
import Derived.Test.YthifpohbdbhnlaaGreatDoorQFnStripx12
import Derived.Test.YthifpohbdbhnlaaGreatDoorQFnStripx13
namespace Go.Proofs.YthifpohbdbhnlaaGreatDoor.QFnStrip
open Go.RowKit Go.Proofs.YthifpohbdbhnlaaGreatDoorW.PrintWords Go.Proofs.YthifpohbdbhnlaaGreatDoorW.PrintLast Go.Proofs.YthifpohbdbhnlaaGreatDoorW.PrintMore
open Go.Proofs.YthifpohbdbhnlaaGreatDoor.Short
attribute [local go_sem] max2_int min2_int max_two min_two max_three min_three max_four min_four   -- for this text's walks alone
set_option linter.unusedVariables false
set_option linter.unusedSimpArgs false

/-! ### impl_ParseUrl: function 24 -/
def impl_ParseUrl.f (k : Nat) (a0 : ByteArray) : Option (ByteArray × ByteArray × ByteArray × Int × ByteArray × ByteArray × ByteArray × Bool × Bool × Int) := (impl_long.f a0).bind fun t276 => (if t276 = 0 then ((impl_parse.f k a0).bind fun bt277 => (if bt277.2.2.2.2.2.2.2.2.2 = true then (some (bt277.1, bt277.2.1, bt277.2.2.1, bt277.2.2.2.1, bt277.2.2.2.2.1, bt277.2.2.2.2.2.1, bt277.2.2.2.2.2.2.1, bt277.2.2.2.2.2.2.2.1, bt277.2.2.2.2.2.2.2.2.1, 0)) else (some ((⟨#[]⟩ : ByteArray), (⟨#[]⟩ : ByteArray), (⟨#[]⟩ : ByteArray), 0, (⟨#[]⟩ : ByteArray), (⟨#[]⟩ : ByteArray), (⟨#[]⟩ : ByteArray), false, false, 3)))) else (some ((⟨#[]⟩ : ByteArray), (⟨#[]⟩ : ByteArray), (⟨#[]⟩ : ByteArray), 0, (⟨#[]⟩ : ByteArray), (⟨#[]⟩ : ByteArray), (⟨#[]⟩ : ByteArray), false, false, t276)))
theorem impl_ParseUrl.mono : ∀ a0 k, LeO (impl_ParseUrl.f k a0) (impl_ParseUrl.f (k + 1) a0) := by
  intro a0 k
  unfold impl_ParseUrl.f
  repeat' first
      | (with_reducible exact impl_parse.mono _ _)
      | (with_reducible exact LeO.refl _)
      | (with_reducible exact LeO.none _)
      | (with_reducible refine LeO.ite ?_ ?_)
      | (with_reducible refine LeO.bind ?_ (fun _ => ?_))
      | exact impl_parse.mono _ _
      | exact LeO.none _
      | refine LeO.ite ?_ ?_
      | refine LeO.bind ?_ (fun _ => ?_)
set_option maxHeartbeats 8000000 in
set_option maxRecDepth 100000 in
theorem impl_ParseUrl.calls (k : Nat) (a0 : ByteArray) (r1 : ByteArray) (r2 : ByteArray) (r3 : ByteArray) (r4 : Int) (r5 : ByteArray) (r6 : ByteArray) (r7 : ByteArray) (r8 : Bool) (r9 : Bool) (r10 : Int) (w : World) (hM : Amb w) (h : impl_ParseUrl.f k a0 = some (r1, r2, r3, r4, r5, r6, r7, r8, r9, r10)) :
    Calls Tryz.prog 24 #[.string a0] w fun e w' => e = .returned (.tuple #[.agg #[.string r1, .string r2, .string r3, .int .i64 r4, .string r5, .string r6, .string r7, .bool r8, .bool r9], .int .i64 r10]) ∧ Below w.heap.size w w' := by
 have hu32 := Tryz.underlying32
 have HB := Aside0.mk (Below.refl w.heap.size w)
 have HM := Aside0.mk hM
 clear hM
 have H : ((impl_long.f a0).bind fun t276 => (if t276 = 0 then ((impl_parse.f k a0).bind fun bt277 => (if bt277.2.2.2.2.2.2.2.2.2 = true then (some (bt277.1, bt277.2.1, bt277.2.2.1, bt277.2.2.2.1, bt277.2.2.2.2.1, bt277.2.2.2.2.2.1, bt277.2.2.2.2.2.2.1, bt277.2.2.2.2.2.2.2.1, bt277.2.2.2.2.2.2.2.2.1, 0)) else (some ((⟨#[]⟩ : ByteArray), (⟨#[]⟩ : ByteArray), (⟨#[]⟩ : ByteArray), 0, (⟨#[]⟩ : ByteArray), (⟨#[]⟩ : ByteArray), (⟨#[]⟩ : ByteArray), false, false, 3)))) else (some ((⟨#[]⟩ : ByteArray), (⟨#[]⟩ : ByteArray), (⟨#[]⟩ : ByteArray), 0, (⟨#[]⟩ : ByteArray), (⟨#[]⟩ : ByteArray), (⟨#[]⟩ : ByteArray), false, false, t276)))) = some (r1, r2, r3, r4, r5, r6, r7, r8, r9, r10) := h
 clear h
 obtain ⟨t276, A2, H⟩ := bindE_ H
 by_cases c3 : t276 = 0
 ·
  rw [if_pos c3] at H
  have c3b0 : (t276 == 0) = true := beq_iff_eq.mpr c3
  have c3b1 : (t276 != 0) = false := bne_eq_false_iff_eq.mpr c3
  clear c3
  replace H := Option.bind_eq_some_iff.mp H
  obtain ⟨⟨t277, t278, t279, t280, t281, t282, t283, t284, t285, t286⟩, A40, H⟩ := H
  replace H : (if t286 = true then (some (t277, t278, t279, t280, t281, t282, t283, t284, t285, 0)) else (some ((⟨#[]⟩ : ByteArray), (⟨#[]⟩ : ByteArray), (⟨#[]⟩ : ByteArray), 0, (⟨#[]⟩ : ByteArray), (⟨#[]⟩ : ByteArray), (⟨#[]⟩ : ByteArray), false, false, 3))) = some (r1, r2, r3, r4, r5, r6, r7, r8, r9, r10) := H
  have A4 := Aside0.mk A40
  clear A40
  by_cases c5 : t286 = true
  ·
   subst c5
   replace H := ifT_ H
   simp only [Option.some.injEq, Prod.mk.injEq] at H
   obtain ⟨rfl, rfl, rfl, rfl, rfl, rfl, rfl, rfl, rfl, rfl⟩ := H
   go_enter Tryz.func24, Tryz.ntmps24
   go_wp2_with (first | ((with_reducible refine gate_dst (N := 2) rfl ?_); refine box_event ?hg (N := 2) ?hd (cs := #[.string ⟨#[]⟩, .string ⟨#[]⟩, .string ⟨#[]⟩, .int .i64 0, .string ⟨#[]⟩, .string ⟨#[]⟩, .string ⟨#[]⟩, .bool false, .bool false]) (t := 32) ?hr ?_; (case hd => rfl); (case hg => rfl); (case hr => first | (go_simp; done) | (go_simp; rfl)); intro gb275 hg w6 hbox hb; have n0_ := belB_ hb; have n1_ := Aside0.mk (hbox); have n2_ := Aside0.mk ((by rw [hg]; exact (below_size belE_) : w.heap.size ≤ gb275)); have n3_ := Aside0.mk ((by rw [hg]; exact (below_size belE_) : w.heap.size ≤ gb275)); clear HB; have HB := n0_; have BK275 := n1_; have GW275 := n2_; have GE275 := n3_; clear n0_ n1_ n2_ n3_; clear hb hbox hg) | ((with_reducible refine gate_callee (f := 63) rfl ?_); refine cU_ (some 8) Tryz.func63 #[.string a0] ?_; (with_reducible refine (impl_long.calls a0 t276 _ A2.out).mono ?_); rintro e w' ⟨rfl, ⟨nd, rfl⟩⟩; refine ⟨_, rfl, ?_⟩; (try (rw [drewN_self w6]; generalize hq_ : World.drewN w6 _ = w6; have n0_ : Aside0 (w6.heap[gb275]? = some (.cells #[.string ⟨#[]⟩, .string ⟨#[]⟩, .string ⟨#[]⟩, .int .i64 0, .string ⟨#[]⟩, .string ⟨#[]⟩, .string ⟨#[]⟩, .bool false, .bool false] 32 (0, 0))) := ⟨by rw [← hq_]; exact (by (with_reducible repeat apply bd_); exact BK275.out)⟩; have n1_ : Aside0 (Below w.heap.size w w6) := ⟨by rw [← hq_]; exact belE_⟩; clear BK275 HB hq_; have BK275 := n0_; have HB := n1_; clear n0_ n1_))) | ((with_reducible refine gate_callee (f := 64) rfl ?_); refine cU_ (some 15) Tryz.func64 #[.string a0] ?_; (with_reducible refine (impl_parse.calls k a0 t277 t278 t279 t280 t281 t282 t283 t284 t285 true _ ?side1 A4.out).mono ?_); (case side1 => exact Amb.on HM.out belE_); rintro e w7 ⟨rfl, hb⟩; refine ⟨_, rfl, ?_⟩; replace BK275 := blkK_ BK275 hb; replace HB := belB_ hb; (try clear hb)) | ((with_reducible refine gate_dst (N := 5) rfl ?_); refine box_event ?hg (N := 5) ?hd (cs := #[.string ⟨#[]⟩, .string ⟨#[]⟩, .string ⟨#[]⟩, .int .i64 0, .string ⟨#[]⟩, .string ⟨#[]⟩, .string ⟨#[]⟩, .bool false, .bool false]) (t := 32) ?hr ?_; (case hd => rfl); (case hg => rfl); (case hr => first | (go_simp; done) | (go_simp; rfl)); intro gb287 hg w8 hbox hb; have n0_ := blkB_ (g := gb275) (o := .cells #[.string ⟨#[]⟩, .string ⟨#[]⟩, .string ⟨#[]⟩, .int .i64 0, .string ⟨#[]⟩, .string ⟨#[]⟩, .string ⟨#[]⟩, .bool false, .bool false] 32 (0, 0)) hb; have n1_ := belB_ hb; have n2_ := Aside0.mk (hbox); have n3_ := Aside0.mk ((by rw [hg]; exact (below_size belE_) : w.heap.size ≤ gb287)); have n4_ := Aside0.mk ((by rw [hg]; exact (below_size belE_) : w.heap.size ≤ gb287)); have n5_ := Aside0.mk ((by rw [hg]; exact Nat.ne_of_lt (blk_lt (g := gb275) (o := .cells #[.string ⟨#[]⟩, .string ⟨#[]⟩, .string ⟨#[]⟩, .int .i64 0, .string ⟨#[]⟩, .string ⟨#[]⟩, .string ⟨#[]⟩, .bool false, .bool false] 32 (0, 0)) (by (with_reducible repeat apply bd_); exact BK275.out)) : gb275 ≠ gb287)); have n6_ := Aside0.mk ((by rw [hg]; exact Nat.ne_of_gt (blk_lt (g := gb275) (o := .cells #[.string ⟨#[]⟩, .string ⟨#[]⟩, .string ⟨#[]⟩, .int .i64 0, .string ⟨#[]⟩, .string ⟨#[]⟩, .string ⟨#[]⟩, .bool false, .bool false] 32 (0, 0)) (by (with_reducible repeat apply bd_); exact BK275.out)) : gb287 ≠ gb275)); clear BK275; clear HB; have BK275 := n0_; have HB := n1_; have BK287 := n2_; have GW287 := n3_; have GE287 := n4_; have NB275_287 := n5_; have NB287_275 := n6_; clear n0_ n1_ n2_ n3_ n4_ n5_ n6_; clear hb hbox hg; have hnb9 := NB287_275.out; have hnc9 := NB275_287.out; obtain ⟨hcz10_0, hcz10_1, hcz10_2, hcz10_3, hcz10_4, hcz10_5, hcz10_6, hcz10_7, hcz10_8, hfz10_0, hfz10_1, hfz10_2, hfz10_3, hfz10_4, hfz10_5, hfz10_6, hfz10_7, hfz10_8⟩ := cz9_ BK287; obtain ⟨hcz11_0, hcz11_1, hcz11_2, hcz11_3, hcz11_4, hcz11_5, hcz11_6, hcz11_7, hcz11_8, hfz11_0, hfz11_1, hfz11_2, hfz11_3, hfz11_4, hfz11_5, hfz11_6, hfz11_7, hfz11_8⟩ := cz9_ BK275))
   refine bodyPost_ret (results_ct rfl _ _ gb275 32 #[.string t277, .string t278, .string t279, .int .i64 t280, .string t281, .string t282, .string t283, .bool t284, .bool t285] (0, 0) _ rfl (by (with_reducible repeat apply bd_); refine blk_put (cs := #[.string t277, .string t278, .string t279, .int .i64 t280, .string t281, .string t282, .string t283, .bool t284, .bool false]) ?_ 8 _ rfl; (with_reducible repeat apply bd_); refine blk_put (cs := #[.string t277, .string t278, .string t279, .int .i64 t280, .string t281, .string t282, .string t283, .bool false, .bool false]) ?_ 7 _ rfl; (with_reducible repeat apply bd_); refine blk_put (cs := #[.string t277, .string t278, .string t279, .int .i64 t280, .string t281, .string t282, .string ⟨#[]⟩, .bool false, .bool false]) ?_ 6 _ rfl; (with_reducible repeat apply bd_); refine blk_put (cs := #[.string t277, .string t278, .string t279, .int .i64 t280, .string t281, .string ⟨#[]⟩, .string ⟨#[]⟩, .bool false, .bool false]) ?_ 5 _ rfl; (with_reducible repeat apply bd_); refine blk_put (cs := #[.string t277, .string t278, .string t279, .int .i64 t280, .string ⟨#[]⟩, .string ⟨#[]⟩, .string ⟨#[]⟩, .bool false, .bool false]) ?_ 4 _ rfl; (with_reducible repeat apply bd_); refine blk_put (cs := #[.string t277, .string t278, .string t279, .int .i64 0, .string ⟨#[]⟩, .string ⟨#[]⟩, .string ⟨#[]⟩, .bool false, .bool false]) ?_ 3 _ rfl; (with_reducible repeat apply bd_); refine blk_put (cs := #[.string t277, .string t278, .string ⟨#[]⟩, .int .i64 0, .string ⟨#[]⟩, .string ⟨#[]⟩, .string ⟨#[]⟩, .bool false, .bool false]) ?_ 2 _ rfl; (with_reducible repeat apply bd_); refine blk_put (cs := #[.string t277, .string ⟨#[]⟩, .string ⟨#[]⟩, .int .i64 0, .string ⟨#[]⟩, .string ⟨#[]⟩, .string ⟨#[]⟩, .bool false, .bool false]) ?_ 1 _ rfl; (with_reducible repeat apply bd_); refine blk_put (cs := #[.string ⟨#[]⟩, .string ⟨#[]⟩, .string ⟨#[]⟩, .int .i64 0, .string ⟨#[]⟩, .string ⟨#[]⟩, .string ⟨#[]⟩, .bool false, .bool false]) ?_ 0 _ rfl; (with_reducible repeat apply bd_); refine blk_far ?_ NB275_287.out _; (with_reducible repeat apply bd_); refine blk_far ?_ NB275_287.out _; (with_reducible repeat apply bd_); refine blk_far ?_ NB275_287.out _; (with_reducible repeat apply bd_); refine blk_far ?_ NB275_287.out _; (with_reducible repeat apply bd_); refine blk_far ?_ NB275_287.out _; (with_reducible repeat apply bd_); refine blk_far ?_ NB275_287.out _; (with_reducible repeat apply bd_); refine blk_far ?_ NB275_287.out _; (with_reducible repeat apply bd_); refine blk_far ?_ NB275_287.out _; (with_reducible repeat apply bd_); refine blk_far ?_ NB275_287.out _; (with_reducible repeat apply bd_); exact BK275.out) Tryz.underlying32 rfl (by kernel_rfl)) rfl ?_
   exact ⟨retE_, belE_⟩
  ·
   replace c5 := Bool.eq_false_iff.mpr c5
   subst c5
   replace H := ifF_ H
   simp only [Option.some.injEq, Prod.mk.injEq] at H
   obtain ⟨rfl, rfl, rfl, rfl, rfl, rfl, rfl, rfl, rfl, rfl⟩ := H
   go_enter Tryz.func24, Tryz.ntmps24
   go_wp2_with (first | ((with_reducible refine gate_dst (N := 2) rfl ?_); refine box_event ?hg (N := 2) ?hd (cs := #[.string ⟨#[]⟩, .string ⟨#[]⟩, .string ⟨#[]⟩, .int .i64 0, .string ⟨#[]⟩, .string ⟨#[]⟩, .string ⟨#[]⟩, .bool false, .bool false]) (t := 32) ?hr ?_; (case hd => rfl); (case hg => rfl); (case hr => first | (go_simp; done) | (go_simp; rfl)); intro gb275 hg w12 hbox hb; have n0_ := belB_ hb; have n1_ := Aside0.mk (hbox); have n2_ := Aside0.mk ((by rw [hg]; exact (below_size belE_) : w.heap.size ≤ gb275)); have n3_ := Aside0.mk ((by rw [hg]; exact (below_size belE_) : w.heap.size ≤ gb275)); clear HB; have HB := n0_; have BK275 := n1_; have GW275 := n2_; have GE275 := n3_; clear n0_ n1_ n2_ n3_; clear hb hbox hg) | ((with_reducible refine gate_callee (f := 63) rfl ?_); refine cU_ (some 8) Tryz.func63 #[.string a0] ?_; (with_reducible refine (impl_long.calls a0 t276 _ A2.out).mono ?_); rintro e w' ⟨rfl, ⟨nd, rfl⟩⟩; refine ⟨_, rfl, ?_⟩; (try (rw [drewN_self w12]; generalize hq_ : World.drewN w12 _ = w12; have n0_ : Aside0 (w12.heap[gb275]? = some (.cells #[.string ⟨#[]⟩, .string ⟨#[]⟩, .string ⟨#[]⟩, .int .i64 0, .string ⟨#[]⟩, .string ⟨#[]⟩, .string ⟨#[]⟩, .bool false, .bool false] 32 (0, 0))) := ⟨by rw [← hq_]; exact (by (with_reducible repeat apply bd_); exact BK275.out)⟩; have n1_ : Aside0 (Below w.heap.size w w12) := ⟨by rw [← hq_]; exact belE_⟩; clear BK275 HB hq_; have BK275 := n0_; have HB := n1_; clear n0_ n1_))) | ((with_reducible refine gate_callee (f := 64) rfl ?_); refine cU_ (some 15) Tryz.func64 #[.string a0] ?_; (with_reducible refine (impl_parse.calls k a0 t277 t278 t279 t280 t281 t282 t283 t284 t285 false _ ?side1 A4.out).mono ?_); (case side1 => exact Amb.on HM.out belE_); rintro e w13 ⟨rfl, hb⟩; refine ⟨_, rfl, ?_⟩; replace BK275 := blkK_ BK275 hb; replace HB := belB_ hb; (try clear hb)) | ((with_reducible refine gate_dst (N := 5) rfl ?_); refine box_event ?hg (N := 5) ?hd (cs := #[.string ⟨#[]⟩, .string ⟨#[]⟩, .string ⟨#[]⟩, .int .i64 0, .string ⟨#[]⟩, .string ⟨#[]⟩, .string ⟨#[]⟩, .bool false, .bool false]) (t := 32) ?hr ?_; (case hd => rfl); (case hg => rfl); (case hr => first | (go_simp; done) | (go_simp; rfl)); intro gb287 hg w14 hbox hb; have n0_ := blkB_ (g := gb275) (o := .cells #[.string ⟨#[]⟩, .string ⟨#[]⟩, .string ⟨#[]⟩, .int .i64 0, .string ⟨#[]⟩, .string ⟨#[]⟩, .string ⟨#[]⟩, .bool false, .bool false] 32 (0, 0)) hb; have n1_ := belB_ hb; have n2_ := Aside0.mk (hbox); have n3_ := Aside0.mk ((by rw [hg]; exact (below_size belE_) : w.heap.size ≤ gb287)); have n4_ := Aside0.mk ((by rw [hg]; exact (below_size belE_) : w.heap.size ≤ gb287)); have n5_ := Aside0.mk ((by rw [hg]; exact Nat.ne_of_lt (blk_lt (g := gb275) (o := .cells #[.string ⟨#[]⟩, .string ⟨#[]⟩, .string ⟨#[]⟩, .int .i64 0, .string ⟨#[]⟩, .string ⟨#[]⟩, .string ⟨#[]⟩, .bool false, .bool false] 32 (0, 0)) (by (with_reducible repeat apply bd_); exact BK275.out)) : gb275 ≠ gb287)); have n6_ := Aside0.mk ((by rw [hg]; exact Nat.ne_of_gt (blk_lt (g := gb275) (o := .cells #[.string ⟨#[]⟩, .string ⟨#[]⟩, .string ⟨#[]⟩, .int .i64 0, .string ⟨#[]⟩, .string ⟨#[]⟩, .string ⟨#[]⟩, .bool false, .bool false] 32 (0, 0)) (by (with_reducible repeat apply bd_); exact BK275.out)) : gb287 ≠ gb275)); clear BK275; clear HB; have BK275 := n0_; have HB := n1_; have BK287 := n2_; have GW287 := n3_; have GE287 := n4_; have NB275_287 := n5_; have NB287_275 := n6_; clear n0_ n1_ n2_ n3_ n4_ n5_ n6_; clear hb hbox hg; have hnb15 := NB287_275.out; have hnc15 := NB275_287.out; obtain ⟨hcz16_0, hcz16_1, hcz16_2, hcz16_3, hcz16_4, hcz16_5, hcz16_6, hcz16_7, hcz16_8, hfz16_0, hfz16_1, hfz16_2, hfz16_3, hfz16_4, hfz16_5, hfz16_6, hfz16_7, hfz16_8⟩ := cz9_ BK287; obtain ⟨hcz17_0, hcz17_1, hcz17_2, hcz17_3, hcz17_4, hcz17_5, hcz17_6, hcz17_7, hcz17_8, hfz17_0, hfz17_1, hfz17_2, hfz17_3, hfz17_4, hfz17_5, hfz17_6, hfz17_7, hfz17_8⟩ := cz9_ BK275))
   refine bodyPost_ret (results_ct rfl _ _ gb275 32 #[.string ⟨#[]⟩, .string ⟨#[]⟩, .string ⟨#[]⟩, .int .i64 0, .string ⟨#[]⟩, .string ⟨#[]⟩, .string ⟨#[]⟩, .bool false, .bool false] (0, 0) _ rfl (by (with_reducible repeat apply bd_); refine blk_put (cs := #[.string ⟨#[]⟩, .string ⟨#[]⟩, .string ⟨#[]⟩, .int .i64 0, .string ⟨#[]⟩, .string ⟨#[]⟩, .string ⟨#[]⟩, .bool false, .bool false]) ?_ 8 _ rfl; (with_reducible repeat apply bd_); refine blk_put (cs := #[.string ⟨#[]⟩, .string ⟨#[]⟩, .string ⟨#[]⟩, .int .i64 0, .string ⟨#[]⟩, .string ⟨#[]⟩, .string ⟨#[]⟩, .bool false, .bool false]) ?_ 7 _ rfl; (with_reducible repeat apply bd_); refine blk_put (cs := #[.string ⟨#[]⟩, .string ⟨#[]⟩, .string ⟨#[]⟩, .int .i64 0, .string ⟨#[]⟩, .string ⟨#[]⟩, .string ⟨#[]⟩, .bool false, .bool false]) ?_ 6 _ rfl; (with_reducible repeat apply bd_); refine blk_put (cs := #[.string ⟨#[]⟩, .string ⟨#[]⟩, .string ⟨#[]⟩, .int .i64 0, .string ⟨#[]⟩, .string ⟨#[]⟩, .string ⟨#[]⟩, .bool false, .bool false]) ?_ 5 _ rfl; (with_reducible repeat apply bd_); refine blk_put (cs := #[.string ⟨#[]⟩, .string ⟨#[]⟩, .string ⟨#[]⟩, .int .i64 0, .string ⟨#[]⟩, .string ⟨#[]⟩, .string ⟨#[]⟩, .bool false, .bool false]) ?_ 4 _ rfl; (with_reducible repeat apply bd_); refine blk_put (cs := #[.string ⟨#[]⟩, .string ⟨#[]⟩, .string ⟨#[]⟩, .int .i64 0, .string ⟨#[]⟩, .string ⟨#[]⟩, .string ⟨#[]⟩, .bool false, .bool false]) ?_ 3 _ rfl; (with_reducible repeat apply bd_); refine blk_put (cs := #[.string ⟨#[]⟩, .string ⟨#[]⟩, .string ⟨#[]⟩, .int .i64 0, .string ⟨#[]⟩, .string ⟨#[]⟩, .string ⟨#[]⟩, .bool false, .bool false]) ?_ 2 _ rfl; (with_reducible repeat apply bd_); refine blk_put (cs := #[.string ⟨#[]⟩, .string ⟨#[]⟩, .string ⟨#[]⟩, .int .i64 0, .string ⟨#[]⟩, .string ⟨#[]⟩, .string ⟨#[]⟩, .bool false, .bool false]) ?_ 1 _ rfl; (with_reducible repeat apply bd_); refine blk_put (cs := #[.string ⟨#[]⟩, .string ⟨#[]⟩, .string ⟨#[]⟩, .int .i64 0, .string ⟨#[]⟩, .string ⟨#[]⟩, .string ⟨#[]⟩, .bool false, .bool false]) ?_ 0 _ rfl; (with_reducible repeat apply bd_); refine blk_far ?_ NB275_287.out _; (with_reducible repeat apply bd_); refine blk_far ?_ NB275_287.out _; (with_reducible repeat apply bd_); refine blk_far ?_ NB275_287.out _; (with_reducible repeat apply bd_); refine blk_far ?_ NB275_287.out _; (with_reducible repeat apply bd_); refine blk_far ?_ NB275_287.out _; (with_reducible repeat apply bd_); refine blk_far ?_ NB275_287.out _; (with_reducible repeat apply bd_); refine blk_far ?_ NB275_287.out _; (with_reducible repeat apply bd_); refine blk_far ?_ NB275_287.out _; (with_reducible repeat apply bd_); refine blk_far ?_ NB275_287.out _; (with_reducible repeat apply bd_); exact BK275.out) Tryz.underlying32 rfl (by kernel_rfl)) rfl ?_
   exact ⟨retE_, belE_⟩
 ·
  rw [if_neg c3] at H
  have c3b0 : (t276 == 0) = false := beq_eq_false_iff_ne.mpr c3
  have c3b1 : (t276 != 0) = true := bne_iff_ne.mpr c3
  simp only [Option.some.injEq, Prod.mk.injEq] at H
  obtain ⟨rfl, rfl, rfl, rfl, rfl, rfl, rfl, rfl, rfl, rfl⟩ := H
  go_enter Tryz.func24, Tryz.ntmps24
  go_wp2_with (first | ((with_reducible refine gate_dst (N := 2) rfl ?_); refine box_event ?hg (N := 2) ?hd (cs := #[.string ⟨#[]⟩, .string ⟨#[]⟩, .string ⟨#[]⟩, .int .i64 0, .string ⟨#[]⟩, .string ⟨#[]⟩, .string ⟨#[]⟩, .bool false, .bool false]) (t := 32) ?hr ?_; (case hd => rfl); (case hg => rfl); (case hr => first | (go_simp; done) | (go_simp; rfl)); intro gb275 hg w18 hbox hb; have n0_ := belB_ hb; have n1_ := Aside0.mk (hbox); have n2_ := Aside0.mk ((by rw [hg]; exact (below_size belE_) : w.heap.size ≤ gb275)); have n3_ := Aside0.mk ((by rw [hg]; exact (below_size belE_) : w.heap.size ≤ gb275)); clear HB; have HB := n0_; have BK275 := n1_; have GW275 := n2_; have GE275 := n3_; clear n0_ n1_ n2_ n3_; clear hb hbox hg) | ((with_reducible refine gate_callee (f := 63) rfl ?_); refine cU_ (some 8) Tryz.func63 #[.string a0] ?_; (with_reducible refine (impl_long.calls a0 t276 _ A2.out).mono ?_); rintro e w' ⟨rfl, ⟨nd, rfl⟩⟩; refine ⟨_, rfl, ?_⟩; (try (rw [drewN_self w18]; generalize hq_ : World.drewN w18 _ = w18; have n0_ : Aside0 (w18.heap[gb275]? = some (.cells #[.string ⟨#[]⟩, .string ⟨#[]⟩, .string ⟨#[]⟩, .int .i64 0, .string ⟨#[]⟩, .string ⟨#[]⟩, .string ⟨#[]⟩, .bool false, .bool false] 32 (0, 0))) := ⟨by rw [← hq_]; exact (by (with_reducible repeat apply bd_); exact BK275.out)⟩; have n1_ : Aside0 (Below w.heap.size w w18) := ⟨by rw [← hq_]; exact belE_⟩; clear BK275 HB hq_; have BK275 := n0_; have HB := n1_; clear n0_ n1_; obtain ⟨hcz19_0, hcz19_1, hcz19_2, hcz19_3, hcz19_4, hcz19_5, hcz19_6, hcz19_7, hcz19_8, hfz19_0, hfz19_1, hfz19_2, hfz19_3, hfz19_4, hfz19_5, hfz19_6, hfz19_7, hfz19_8⟩ := cz9_ BK275)); obtain ⟨hcz19_0, hcz19_1, hcz19_2, hcz19_3, hcz19_4, hcz19_5, hcz19_6, hcz19_7, hcz19_8, hfz19_0, hfz19_1, hfz19_2, hfz19_3, hfz19_4, hfz19_5, hfz19_6, hfz19_7, hfz19_8⟩ := cz9_ BK275))
  refine bodyPost_ret (results_ct rfl _ _ gb275 32 #[.string ⟨#[]⟩, .string ⟨#[]⟩, .string ⟨#[]⟩, .int .i64 0, .string ⟨#[]⟩, .string ⟨#[]⟩, .string ⟨#[]⟩, .bool false, .bool false] (0, 0) _ rfl (by (with_reducible repeat apply bd_); refine blk_put (cs := #[.string ⟨#[]⟩, .string ⟨#[]⟩, .string ⟨#[]⟩, .int .i64 0, .string ⟨#[]⟩, .string ⟨#[]⟩, .string ⟨#[]⟩, .bool false, .bool false]) ?_ 8 _ rfl; (with_reducible repeat apply bd_); refine blk_put (cs := #[.string ⟨#[]⟩, .string ⟨#[]⟩, .string ⟨#[]⟩, .int .i64 0, .string ⟨#[]⟩, .string ⟨#[]⟩, .string ⟨#[]⟩, .bool false, .bool false]) ?_ 7 _ rfl; (with_reducible repeat apply bd_); refine blk_put (cs := #[.string ⟨#[]⟩, .string ⟨#[]⟩, .string ⟨#[]⟩, .int .i64 0, .string ⟨#[]⟩, .string ⟨#[]⟩, .string ⟨#[]⟩, .bool false, .bool false]) ?_ 6 _ rfl; (with_reducible repeat apply bd_); refine blk_put (cs := #[.string ⟨#[]⟩, .string ⟨#[]⟩, .string ⟨#[]⟩, .int .i64 0, .string ⟨#[]⟩, .string ⟨#[]⟩, .string ⟨#[]⟩, .bool false, .bool false]) ?_ 5 _ rfl; (with_reducible repeat apply bd_); refine blk_put (cs := #[.string ⟨#[]⟩, .string ⟨#[]⟩, .string ⟨#[]⟩, .int .i64 0, .string ⟨#[]⟩, .string ⟨#[]⟩, .string ⟨#[]⟩, .bool false, .bool false]) ?_ 4 _ rfl; (with_reducible repeat apply bd_); refine blk_put (cs := #[.string ⟨#[]⟩, .string ⟨#[]⟩, .string ⟨#[]⟩, .int .i64 0, .string ⟨#[]⟩, .string ⟨#[]⟩, .string ⟨#[]⟩, .bool false, .bool false]) ?_ 3 _ rfl; (with_reducible repeat apply bd_); refine blk_put (cs := #[.string ⟨#[]⟩, .string ⟨#[]⟩, .string ⟨#[]⟩, .int .i64 0, .string ⟨#[]⟩, .string ⟨#[]⟩, .string ⟨#[]⟩, .bool false, .bool false]) ?_ 2 _ rfl; (with_reducible repeat apply bd_); refine blk_put (cs := #[.string ⟨#[]⟩, .string ⟨#[]⟩, .string ⟨#[]⟩, .int .i64 0, .string ⟨#[]⟩, .string ⟨#[]⟩, .string ⟨#[]⟩, .bool false, .bool false]) ?_ 1 _ rfl; (with_reducible repeat apply bd_); refine blk_put (cs := #[.string ⟨#[]⟩, .string ⟨#[]⟩, .string ⟨#[]⟩, .int .i64 0, .string ⟨#[]⟩, .string ⟨#[]⟩, .string ⟨#[]⟩, .bool false, .bool false]) ?_ 0 _ rfl; (with_reducible repeat apply bd_); exact BK275.out) Tryz.underlying32 rfl (by kernel_rfl)) rfl ?_
  exact ⟨retE_, belE_⟩

/-! ### impl_StripText: function 19 -/
def impl_StripText.f (k : Nat) (a0 : ByteArray) : Option (ByteArray) := (impl_ParseUrl.f k a0).bind fun bt288 => (if bt288.2.2.2.2.2.2.2.2.2 = 0 then ((impl_Url_strip.f k bt288.1 bt288.2.1 bt288.2.2.1 bt288.2.2.2.1 bt288.2.2.2.2.1 bt288.2.2.2.2.2.1 bt288.2.2.2.2.2.2.1 bt288.2.2.2.2.2.2.2.1 bt288.2.2.2.2.2.2.2.2.1).bind fun t299 => (some t299)) else (some (⟨#[]⟩ : ByteArray)))
theorem impl_StripText.mono : ∀ a0 k, LeO (impl_StripText.f k a0) (impl_StripText.f (k + 1) a0) := by
  intro a0 k
  unfold impl_StripText.f
  repeat' first
      | (with_reducible exact impl_ParseUrl.mono _ _)
      | (with_reducible exact impl_Url_strip.mono _ _ _ _ _ _ _ _ _ _)
      | (with_reducible exact LeO.refl _)
      | (with_reducible exact LeO.none _)
      | (with_reducible refine LeO.ite ?_ ?_)
      | (with_reducible refine LeO.bind ?_ (fun _ => ?_))
      | exact impl_ParseUrl.mono _ _
      | exact impl_Url_strip.mono _ _ _ _ _ _ _ _ _ _
      | exact LeO.none _
      | refine LeO.ite ?_ ?_
      | refine LeO.bind ?_ (fun _ => ?_)
set_option maxHeartbeats 8000000 in
set_option maxRecDepth 100000 in
theorem impl_StripText.calls (k : Nat) (a0 : ByteArray) (r : ByteArray) (w : World) (hM : Amb w) (h : impl_StripText.f k a0 = some r) :
    Calls Tryz.prog 19 #[.string a0] w fun e w' => e = .returned (.string r) ∧ Below w.heap.size w w' := by
 have hu32 := Tryz.underlying32
 have HB := Aside0.mk (Below.refl w.heap.size w)
 have HM := Aside0.mk hM
 clear hM
 have H : ((impl_ParseUrl.f k a0).bind fun bt288 => (if bt288.2.2.2.2.2.2.2.2.2 = 0 then ((impl_Url_strip.f k bt288.1 bt288.2.1 bt288.2.2.1 bt288.2.2.2.1 bt288.2.2.2.2.1 bt288.2.2.2.2.2.1 bt288.2.2.2.2.2.2.1 bt288.2.2.2.2.2.2.2.1 bt288.2.2.2.2.2.2.2.2.1).bind fun t299 => (some t299)) else (some (⟨#[]⟩ : ByteArray)))) = some r := h
 clear h
 replace H := Option.bind_eq_some_iff.mp H
 obtain ⟨⟨t288, t289, t290, t291, t292, t293, t294, t295, t296, t297⟩, A20, H⟩ := H
 replace H : (if t297 = 0 then ((impl_Url_strip.f k t288 t289 t290 t291 t292 t293 t294 t295 t296).bind fun t299 => (some t299)) else (some (⟨#[]⟩ : ByteArray))) = some r := H
 have A2 := Aside0.mk A20
 clear A20
 by_cases c3 : t297 = 0
 ·
  rw [if_pos c3] at H
  have c3b0 : (t297 == 0) = true := beq_iff_eq.mpr c3
  have c3b1 : (t297 != 0) = false := bne_eq_false_iff_eq.mpr c3
  clear c3
  obtain ⟨t299, A4, H⟩ := bindE_ H
  obtain rfl := Option.some.inj H
  go_enter Tryz.func19, Tryz.ntmps19
  go_wp2_with (first | ((with_reducible refine gate_callee (f := 24) rfl ?_); refine cU_ (some 7) Tryz.func24 #[.string a0] ?_; (with_reducible refine (impl_ParseUrl.calls k a0 t288 t289 t290 t291 t292 t293 t294 t295 t296 t297 _ ?side1 A2.out).mono ?_); (case side1 => exact Amb.on HM.out belE_); rintro e w5 ⟨rfl, hb⟩; refine ⟨_, rfl, ?_⟩; have n0_ := belB_ hb; clear HB; have HB := n0_; clear n0_; (try clear hb); (try clear hb2); (try clear hk); (try clear hi)) | ((with_reducible refine gate_dst (N := 3) rfl ?_); refine box_event ?hg (N := 3) ?hd (cs := #[.string ⟨#[]⟩, .string ⟨#[]⟩, .string ⟨#[]⟩, .int .i64 0, .string ⟨#[]⟩, .string ⟨#[]⟩, .string ⟨#[]⟩, .bool false, .bool false]) (t := 32) ?hr ?_; (case hd => rfl); (case hg => rfl); (case hr => first | (go_simp; done) | (go_simp; rfl)); intro gb298 hg w6 hbox hb; have n0_ := belB_ hb; have n1_ := Aside0.mk (hbox); have n2_ := Aside0.mk ((by rw [hg]; exact (below_size belE_) : w.heap.size ≤ gb298)); have n3_ := Aside0.mk ((by rw [hg]; exact (below_size belE_) : w.heap.size ≤ gb298)); clear HB; have HB := n0_; have BK298 := n1_; have GW298 := n2_; have GE298 := n3_; clear n0_ n1_ n2_ n3_; clear hb hbox hg; obtain ⟨hcz7_0, hcz7_1, hcz7_2, hcz7_3, hcz7_4, hcz7_5, hcz7_6, hcz7_7, hcz7_8, hfz7_0, hfz7_1, hfz7_2, hfz7_3, hfz7_4, hfz7_5, hfz7_6, hfz7_7, hfz7_8⟩ := cz9_ BK298) | ((with_reducible refine gate_callee (f := 52) rfl ?_); refine cU_ (some 13) Tryz.func52 #[.agg #[.string t288, .string t289, .string t290, .int .i64 t291, .string t292, .string t293, .string t294, .bool t295, .bool t296]] ?_; (with_reducible refine (impl_Url_strip.calls k t288 t289 t290 t291 t292 t293 t294 t295 t296 t299 _ ?side1 A4.out).mono ?_); (case side1 => exact Amb.on HM.out belE_); rintro e w8 ⟨rfl, hb⟩; refine ⟨_, rfl, ?_⟩; have n0_ := Aside0.mk (blk_below (g := gb298) (o := .cells #[.string t288, .string t289, .string t290, .int .i64 t291, .string t292, .string t293, .string t294, .bool t295, .bool t296] 32 (0, 0)) (by (with_reducible repeat apply bd_); refine blk_put (cs := #[.string t288, .string t289, .string t290, .int .i64 t291, .string t292, .string t293, .string t294, .bool t295, .bool false]) ?_ 8 _ rfl; (with_reducible repeat apply bd_); refine blk_put (cs := #[.string t288, .string t289, .string t290, .int .i64 t291, .string t292, .string t293, .string t294, .bool false, .bool false]) ?_ 7 _ rfl; (with_reducible repeat apply bd_); refine blk_put (cs := #[.string t288, .string t289, .string t290, .int .i64 t291, .string t292, .string t293, .string ⟨#[]⟩, .bool false, .bool false]) ?_ 6 _ rfl; (with_reducible repeat apply bd_); refine blk_put (cs := #[.string t288, .string t289, .string t290, .int .i64 t291, .string t292, .string ⟨#[]⟩, .string ⟨#[]⟩, .bool false, .bool false]) ?_ 5 _ rfl; (with_reducible repeat apply bd_); refine blk_put (cs := #[.string t288, .string t289, .string t290, .int .i64 t291, .string ⟨#[]⟩, .string ⟨#[]⟩, .string ⟨#[]⟩, .bool false, .bool false]) ?_ 4 _ rfl; (with_reducible repeat apply bd_); refine blk_put (cs := #[.string t288, .string t289, .string t290, .int .i64 0, .string ⟨#[]⟩, .string ⟨#[]⟩, .string ⟨#[]⟩, .bool false, .bool false]) ?_ 3 _ rfl; (with_reducible repeat apply bd_); refine blk_put (cs := #[.string t288, .string t289, .string ⟨#[]⟩, .int .i64 0, .string ⟨#[]⟩, .string ⟨#[]⟩, .string ⟨#[]⟩, .bool false, .bool false]) ?_ 2 _ rfl; (with_reducible repeat apply bd_); refine blk_put (cs := #[.string t288, .string ⟨#[]⟩, .string ⟨#[]⟩, .int .i64 0, .string ⟨#[]⟩, .string ⟨#[]⟩, .string ⟨#[]⟩, .bool false, .bool false]) ?_ 1 _ rfl; (with_reducible repeat apply bd_); refine blk_put (cs := #[.string ⟨#[]⟩, .string ⟨#[]⟩, .string ⟨#[]⟩, .int .i64 0, .string ⟨#[]⟩, .string ⟨#[]⟩, .string ⟨#[]⟩, .bool false, .bool false]) ?_ 0 _ rfl; (with_reducible repeat apply bd_); exact BK298.out) hb); have n1_ := belB_ hb; clear BK298; clear HB; have BK298 := n0_; have HB := n1_; clear n0_ n1_; (try clear hb); (try clear hb2); (try clear hk); (try clear hi)))
  go_ret
  exact ⟨retE_, belE_⟩
 ·
  rw [if_neg c3] at H
  have c3b0 : (t297 == 0) = false := beq_eq_false_iff_ne.mpr c3
  have c3b1 : (t297 != 0) = true := bne_iff_ne.mpr c3
  obtain rfl := Option.some.inj H
  go_enter Tryz.func19, Tryz.ntmps19
  go_wp2_with (first | ((with_reducible refine gate_callee (f := 24) rfl ?_); refine cU_ (some 7) Tryz.func24 #[.string a0] ?_; (with_reducible refine (impl_ParseUrl.calls k a0 t288 t289 t290 t291 t292 t293 t294 t295 t296 t297 _ ?side1 A2.out).mono ?_); (case side1 => exact Amb.on HM.out belE_); rintro e w9 ⟨rfl, hb⟩; refine ⟨_, rfl, ?_⟩; have n0_ := belB_ hb; clear HB; have HB := n0_; clear n0_; (try clear hb); (try clear hb2); (try clear hk); (try clear hi)) | ((with_reducible refine gate_dst (N := 3) rfl ?_); refine box_event ?hg (N := 3) ?hd (cs := #[.string ⟨#[]⟩, .string ⟨#[]⟩, .string ⟨#[]⟩, .int .i64 0, .string ⟨#[]⟩, .string ⟨#[]⟩, .string ⟨#[]⟩, .bool false, .bool false]) (t := 32) ?hr ?_; (case hd => rfl); (case hg => rfl); (case hr => first | (go_simp; done) | (go_simp; rfl)); intro gb298 hg w10 hbox hb; have n0_ := belB_ hb; have n1_ := Aside0.mk (hbox); have n2_ := Aside0.mk ((by rw [hg]; exact (below_size belE_) : w.heap.size ≤ gb298)); have n3_ := Aside0.mk ((by rw [hg]; exact (below_size belE_) : w.heap.size ≤ gb298)); clear HB; have HB := n0_; have BK298 := n1_; have GW298 := n2_; have GE298 := n3_; clear n0_ n1_ n2_ n3_; clear hb hbox hg; obtain ⟨hcz11_0, hcz11_1, hcz11_2, hcz11_3, hcz11_4, hcz11_5, hcz11_6, hcz11_7, hcz11_8, hfz11_0, hfz11_1, hfz11_2, hfz11_3, hfz11_4, hfz11_5, hfz11_6, hfz11_7, hfz11_8⟩ := cz9_ BK298))
  go_ret
  exact ⟨retE_, belE_⟩

-- NOT PRINTED: function 20 (spec_UrlDrawn)

/-! ### spec_l01StripText: function 56 -/
def spec_l01StripText.f (k : Nat) (a0 : ByteArray) : Option (ByteArray) := (spec_l01Parse.f k a0).bind fun bt304 => (if bt304.2.2.2.2.2.2.2.2.2 = true then ((spec_l01Strip.f k bt304.1 bt304.2.1 bt304.2.2.1 bt304.2.2.2.1 bt304.2.2.2.2.1 bt304.2.2.2.2.2.1 bt304.2.2.2.2.2.2.1 bt304.2.2.2.2.2.2.2.1 bt304.2.2.2.2.2.2.2.2.1).bind fun t315 => (some t315)) else (some (⟨#[]⟩ : ByteArray)))
theorem spec_l01StripText.mono : ∀ a0 k, LeO (spec_l01StripText.f k a0) (spec_l01StripText.f (k + 1) a0) := by
  intro a0 k
  unfold spec_l01StripText.f
  repeat' first
      | (with_reducible exact spec_l01Parse.mono _ _)
      | (with_reducible exact spec_l01Strip.mono _ _ _ _ _ _ _ _ _ _)
      | (with_reducible exact LeO.refl _)
      | (with_reducible exact LeO.none _)
      | (with_reducible refine LeO.ite ?_ ?_)
      | (with_reducible refine LeO.bind ?_ (fun _ => ?_))
      | exact spec_l01Parse.mono _ _
      | exact spec_l01Strip.mono _ _ _ _ _ _ _ _ _ _
      | exact LeO.none _
      | refine LeO.ite ?_ ?_
      | refine LeO.bind ?_ (fun _ => ?_)
set_option maxHeartbeats 8000000 in
set_option maxRecDepth 100000 in
theorem spec_l01StripText.calls (k : Nat) (a0 : ByteArray) (r : ByteArray) (w : World) (h : spec_l01StripText.f k a0 = some r) :
    Calls Tryz.prog 56 #[.string a0] w fun e w' => e = .returned (.string r) ∧ Below w.heap.size w w' := by
 have hu32 := Tryz.underlying32
 have HB := Aside0.mk (Below.refl w.heap.size w)
 have H : ((spec_l01Parse.f k a0).bind fun bt304 => (if bt304.2.2.2.2.2.2.2.2.2 = true then ((spec_l01Strip.f k bt304.1 bt304.2.1 bt304.2.2.1 bt304.2.2.2.1 bt304.2.2.2.2.1 bt304.2.2.2.2.2.1 bt304.2.2.2.2.2.2.1 bt304.2.2.2.2.2.2.2.1 bt304.2.2.2.2.2.2.2.2.1).bind fun t315 => (some t315)) else (some (⟨#[]⟩ : ByteArray)))) = some r := h
 clear h
 replace H := Option.bind_eq_some_iff.mp H
 obtain ⟨⟨t304, t305, t306, t307, t308, t309, t310, t311, t312, t313⟩, A20, H⟩ := H
 replace H : (if t313 = true then ((spec_l01Strip.f k t304 t305 t306 t307 t308 t309 t310 t311 t312).bind fun t315 => (some t315)) else (some (⟨#[]⟩ : ByteArray))) = some r := H
 have A2 := Aside0.mk A20
 clear A20
 by_cases c3 : t313 = true
 ·
  subst c3
  replace H := ifT_ H
  obtain ⟨t315, A4, H⟩ := bindE_ H
  obtain rfl := Option.some.inj H
  go_enter Tryz.func56, Tryz.ntmps56
  go_wp2_with (first | ((with_reducible refine gate_callee (f := 76) rfl ?_); refine cU_ (some 7) Tryz.func76 #[.string a0] ?_; (with_reducible refine (spec_l01Parse.calls k a0 t304 t305 t306 t307 t308 t309 t310 t311 t312 true _ A2.out).mono ?_); rintro e w5 ⟨rfl, hb⟩; refine ⟨_, rfl, ?_⟩; have n0_ := belB_ hb; clear HB; have HB := n0_; clear n0_; (try clear hb); (try clear hb2); (try clear hk); (try clear hi)) | ((with_reducible refine gate_dst (N := 3) rfl ?_); refine box_event ?hg (N := 3) ?hd (cs := #[.string ⟨#[]⟩, .string ⟨#[]⟩, .string ⟨#[]⟩, .int .i64 0, .string ⟨#[]⟩, .string ⟨#[]⟩, .string ⟨#[]⟩, .bool false, .bool false]) (t := 32) ?hr ?_; (case hd => rfl); (case hg => rfl); (case hr => first | (go_simp; done) | (go_simp; rfl)); intro gb314 hg w6 hbox hb; have n0_ := belB_ hb; have n1_ := Aside0.mk (hbox); have n2_ := Aside0.mk ((by rw [hg]; exact (below_size belE_) : w.heap.size ≤ gb314)); have n3_ := Aside0.mk ((by rw [hg]; exact (below_size belE_) : w.heap.size ≤ gb314)); clear HB; have HB := n0_; have BK314 := n1_; have GW314 := n2_; have GE314 := n3_; clear n0_ n1_ n2_ n3_; clear hb hbox hg; obtain ⟨hcz7_0, hcz7_1, hcz7_2, hcz7_3, hcz7_4, hcz7_5, hcz7_6, hcz7_7, hcz7_8, hfz7_0, hfz7_1, hfz7_2, hfz7_3, hfz7_4, hfz7_5, hfz7_6, hfz7_7, hfz7_8⟩ := cz9_ BK314) | ((with_reducible refine gate_callee (f := 54) rfl ?_); refine cU_ (some 13) Tryz.func54 #[.agg #[.string t304, .string t305, .string t306, .int .i64 t307, .string t308, .string t309, .string t310, .bool t311, .bool t312]] ?_; (with_reducible refine (spec_l01Strip.calls k t304 t305 t306 t307 t308 t309 t310 t311 t312 t315 _ A4.out).mono ?_); rintro e w8 ⟨rfl, hb⟩; refine ⟨_, rfl, ?_⟩; have n0_ := Aside0.mk (blk_below (g := gb314) (o := .cells #[.string t304, .string t305, .string t306, .int .i64 t307, .string t308, .string t309, .string t310, .bool t311, .bool t312] 32 (0, 0)) (by (with_reducible repeat apply bd_); refine blk_put (cs := #[.string t304, .string t305, .string t306, .int .i64 t307, .string t308, .string t309, .string t310, .bool t311, .bool false]) ?_ 8 _ rfl; (with_reducible repeat apply bd_); refine blk_put (cs := #[.string t304, .string t305, .string t306, .int .i64 t307, .string t308, .string t309, .string t310, .bool false, .bool false]) ?_ 7 _ rfl; (with_reducible repeat apply bd_); refine blk_put (cs := #[.string t304, .string t305, .string t306, .int .i64 t307, .string t308, .string t309, .string ⟨#[]⟩, .bool false, .bool false]) ?_ 6 _ rfl; (with_reducible repeat apply bd_); refine blk_put (cs := #[.string t304, .string t305, .string t306, .int .i64 t307, .string t308, .string ⟨#[]⟩, .string ⟨#[]⟩, .bool false, .bool false]) ?_ 5 _ rfl; (with_reducible repeat apply bd_); refine blk_put (cs := #[.string t304, .string t305, .string t306, .int .i64 t307, .string ⟨#[]⟩, .string ⟨#[]⟩, .string ⟨#[]⟩, .bool false, .bool false]) ?_ 4 _ rfl; (with_reducible repeat apply bd_); refine blk_put (cs := #[.string t304, .string t305, .string t306, .int .i64 0, .string ⟨#[]⟩, .string ⟨#[]⟩, .string ⟨#[]⟩, .bool false, .bool false]) ?_ 3 _ rfl; (with_reducible repeat apply bd_); refine blk_put (cs := #[.string t304, .string t305, .string ⟨#[]⟩, .int .i64 0, .string ⟨#[]⟩, .string ⟨#[]⟩, .string ⟨#[]⟩, .bool false, .bool false]) ?_ 2 _ rfl; (with_reducible repeat apply bd_); refine blk_put (cs := #[.string t304, .string ⟨#[]⟩, .string ⟨#[]⟩, .int .i64 0, .string ⟨#[]⟩, .string ⟨#[]⟩, .string ⟨#[]⟩, .bool false, .bool false]) ?_ 1 _ rfl; (with_reducible repeat apply bd_); refine blk_put (cs := #[.string ⟨#[]⟩, .string ⟨#[]⟩, .string ⟨#[]⟩, .int .i64 0, .string ⟨#[]⟩, .string ⟨#[]⟩, .string ⟨#[]⟩, .bool false, .bool false]) ?_ 0 _ rfl; (with_reducible repeat apply bd_); exact BK314.out) hb); have n1_ := belB_ hb; clear BK314; clear HB; have BK314 := n0_; have HB := n1_; clear n0_ n1_; (try clear hb); (try clear hb2); (try clear hk); (try clear hi)))
  go_ret
  exact ⟨retE_, belE_⟩
 ·
  replace c3 := Bool.eq_false_iff.mpr c3
  subst c3
  replace H := ifF_ H
  obtain rfl := Option.some.inj H
  go_enter Tryz.func56, Tryz.ntmps56
  go_wp2_with (first | ((with_reducible refine gate_callee (f := 76) rfl ?_); refine cU_ (some 7) Tryz.func76 #[.string a0] ?_; (with_reducible refine (spec_l01Parse.calls k a0 t304 t305 t306 t307 t308 t309 t310 t311 t312 false _ A2.out).mono ?_); rintro e w9 ⟨rfl, hb⟩; refine ⟨_, rfl, ?_⟩; have n0_ := belB_ hb; clear HB; have HB := n0_; clear n0_; (try clear hb); (try clear hb2); (try clear hk); (try clear hi)) | ((with_reducible refine gate_dst (N := 3) rfl ?_); refine box_event ?hg (N := 3) ?hd (cs := #[.string ⟨#[]⟩, .string ⟨#[]⟩, .string ⟨#[]⟩, .int .i64 0, .string ⟨#[]⟩, .string ⟨#[]⟩, .string ⟨#[]⟩, .bool false, .bool false]) (t := 32) ?hr ?_; (case hd => rfl); (case hg => rfl); (case hr => first | (go_simp; done) | (go_simp; rfl)); intro gb314 hg w10 hbox hb; have n0_ := belB_ hb; have n1_ := Aside0.mk (hbox); have n2_ := Aside0.mk ((by rw [hg]; exact (below_size belE_) : w.heap.size ≤ gb314)); have n3_ := Aside0.mk ((by rw [hg]; exact (below_size belE_) : w.heap.size ≤ gb314)); clear HB; have HB := n0_; have BK314 := n1_; have GW314 := n2_; have GE314 := n3_; clear n0_ n1_ n2_ n3_; clear hb hbox hg; obtain ⟨hcz11_0, hcz11_1, hcz11_2, hcz11_3, hcz11_4, hcz11_5, hcz11_6, hcz11_7, hcz11_8, hfz11_0, hfz11_1, hfz11_2, hfz11_3, hfz11_4, hfz11_5, hfz11_6, hfz11_7, hfz11_8⟩ := cz9_ BK314))
  go_ret
  exact ⟨retE_, belE_⟩

/-! ### impl_Url_origin: function 60 -/
def impl_Url_origin.f (k : Nat) (a0_0 : ByteArray) (a0_1 : ByteArray) (a0_2 : ByteArray) (a0_3 : Int) (a0_4 : ByteArray) (a0_5 : ByteArray) (a0_6 : ByteArray) (a0_7 : Bool) (a0_8 : Bool) : Option (ByteArray) := (impl_Url_text.f k a0_0 (⟨#[]⟩ : ByteArray) a0_2 a0_3 (⟨#[]⟩ : ByteArray) (⟨#[]⟩ : ByteArray) (⟨#[]⟩ : ByteArray) false false).bind fun t319 => (some t319)
theorem impl_Url_origin.mono : ∀ a0 a1 a2 a3 a4 a5 a6 a7 a8 k, LeO (impl_Url_origin.f k a0 a1 a2 a3 a4 a5 a6 a7 a8) (impl_Url_origin.f (k + 1) a0 a1 a2 a3 a4 a5 a6 a7 a8) := by
  intro a0 a1 a2 a3 a4 a5 a6 a7 a8 k
  unfold impl_Url_origin.f
  repeat' first
      | (with_reducible exact impl_Url_text.mono _ _ _ _ _ _ _ _ _ _)
      | (with_reducible exact LeO.refl _)
      | (with_reducible exact LeO.none _)
      | (with_reducible refine LeO.ite ?_ ?_)
      | (with_reducible refine LeO.bind ?_ (fun _ => ?_))
      | exact impl_Url_text.mono _ _ _ _ _ _ _ _ _ _
      | exact LeO.none _
      | refine LeO.ite ?_ ?_
      | refine LeO.bind ?_ (fun _ => ?_)
set_option maxHeartbeats 8000000 in
set_option maxRecDepth 100000 in
theorem impl_Url_origin.calls (k : Nat) (a0_0 : ByteArray) (a0_1 : ByteArray) (a0_2 : ByteArray) (a0_3 : Int) (a0_4 : ByteArray) (a0_5 : ByteArray) (a0_6 : ByteArray) (a0_7 : Bool) (a0_8 : Bool) (r : ByteArray) (w : World) (hM : Amb w) (h : impl_Url_origin.f k a0_0 a0_1 a0_2 a0_3 a0_4 a0_5 a0_6 a0_7 a0_8 = some r) :
    Calls Tryz.prog 60 #[.agg #[.string a0_0, .string a0_1, .string a0_2, .int .i64 a0_3, .string a0_4, .string a0_5, .string a0_6, .bool a0_7, .bool a0_8]] w fun e w' => e = .returned (.string r) ∧ Below w.heap.size w w' := by
 have hu32 := Tryz.underlying32
 have HB := Aside0.mk (Below.refl w.heap.size w)
 have HM := Aside0.mk hM
 clear hM
 have H : ((impl_Url_text.f k a0_0 (⟨#[]⟩ : ByteArray) a0_2 a0_3 (⟨#[]⟩ : ByteArray) (⟨#[]⟩ : ByteArray) (⟨#[]⟩ : ByteArray) false false).bind fun t319 => (some t319)) = some r := h
 clear h
 obtain ⟨t319, A2, H⟩ := bindE_ H
 obtain rfl := Option.some.inj H
 go_enter Tryz.func60, Tryz.ntmps60
 go_wp2_with (first | ((with_reducible refine gate_dst (N := 1) rfl ?_); refine box_event ?hg (N := 1) ?hd (cs := #[.string a0_0, .string a0_1, .string a0_2, .int .i64 a0_3, .string a0_4, .string a0_5, .string a0_6, .bool a0_7, .bool a0_8]) (t := 32) ?hr ?_; (case hd => rfl); (case hg => rfl); (case hr => first | (go_simp; done) | (go_simp; rfl)); intro gb318 hg w3 hbox hb; have n0_ := belB_ hb; have n1_ := Aside0.mk (hbox); have n2_ := Aside0.mk ((by rw [hg]; exact (below_size belE_) : w.heap.size ≤ gb318)); have n3_ := Aside0.mk ((by rw [hg]; exact (below_size belE_) : w.heap.size ≤ gb318)); clear HB; have HB := n0_; have BK318 := n1_; have GW318 := n2_; have GE318 := n3_; clear n0_ n1_ n2_ n3_; clear hb hbox hg; obtain ⟨hcz4_0, hcz4_1, hcz4_2, hcz4_3, hcz4_4, hcz4_5, hcz4_6, hcz4_7, hcz4_8, hfz4_0, hfz4_1, hfz4_2, hfz4_3, hfz4_4, hfz4_5, hfz4_6, hfz4_7, hfz4_8⟩ := cz9_ BK318) | ((with_reducible refine gate_callee (f := 65) rfl ?_); refine cU_ (some 10) Tryz.func65 #[.agg #[.string a0_0, .string ⟨#[]⟩, .string a0_2, .int .i64 a0_3, .string ⟨#[]⟩, .string ⟨#[]⟩, .string ⟨#[]⟩, .bool false, .bool false]] ?_; (with_reducible refine (impl_Url_text.calls k a0_0 (⟨#[]⟩ : ByteArray) a0_2 a0_3 (⟨#[]⟩ : ByteArray) (⟨#[]⟩ : ByteArray) (⟨#[]⟩ : ByteArray) false false t319 _ ?side1 A2.out).mono ?_); (case side1 => exact Amb.on HM.out belE_); rintro e w5 ⟨rfl, hb⟩; refine ⟨_, rfl, ?_⟩; replace BK318 := blkK_ BK318 hb; replace HB := belB_ hb; (try clear hb)))
 go_ret
 exact ⟨retE_, belE_⟩

end Go.Proofs.YthifpohbdbhnlaaGreatDoor.QFnStrip
