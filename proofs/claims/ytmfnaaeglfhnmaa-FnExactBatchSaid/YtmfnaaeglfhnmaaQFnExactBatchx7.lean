/- A tool of this session wrote this text out of the translation: functions as plain Lean, and proofs that the machine's calls come to their answers. -/
import Derived.Test.YtmfnaaeglfhnmaaQShort
import Derived.Test.YtmfnaaeglfhnmaaQFnExactBatchx0
import Derived.Test.YtmfnaaeglfhnmaaQFnExactBatchx1
import Derived.Test.YtmfnaaeglfhnmaaQFnExactBatchx2
import Derived.Test.YtmfnaaeglfhnmaaQFnExactBatchx4
import Derived.Test.YtmfnaaeglfhnmaaQFnExactBatchx6
namespace Go.Proofs.Ytmfnaaeglfhnmaa.QFnExactBatch
open Go.RowKit Go.Proofs.YtmfnaaeglfhnmaaW.PrintWords Go.Proofs.YtmfnaaeglfhnmaaW.PrintLast Go.Proofs.YtmfnaaeglfhnmaaW.PrintMore
open Go.Proofs.Ytmfnaaeglfhnmaa.Short
attribute [local go_sem] max2_int min2_int max_two min_two max_three min_three max_four min_four   -- for this text's walks alone
set_option linter.unusedVariables false
set_option linter.unusedSimpArgs false

/-! ### laws_FnExactBatch: function 7 -/
mutual
def laws_FnExactBatch.j0 : Nat → List (S64) → Int → List (S64) → Int → Bool → List (S60) → List ByteArray → List (S64) → List ByteArray → Option (Bool)
  | 0, _, _, _, _, _, _, _, _, _ => none
  | k + 1, x4, x5, x7, x8, x40, x233000, x233001, x251000, x251001 => if x40 = true then (some false) else ((laws_toQueue.f k x233000 x233001).bind fun bt256 => ((laws_eqQueue.f k x251000 x251001 bt256.1 bt256.2).bind fun t262 => (if t262 = true then ((laws_markQueue.f k x251000 x251001 1).bind fun bt263 => (if bt263.1 < 0 then (laws_FnExactBatch.j1 k x4 x5 x7 true x233000 x233001) else ((laws_eqReportS.f k x7 x4).bind fun t266 => (if t266 = true then (laws_FnExactBatch.j1 k x4 x5 x7 (x8 != x5) x233000 x233001) else (laws_FnExactBatch.j1 k x4 x5 x7 true x233000 x233001))))) else (some false))))
def laws_FnExactBatch.j1 : Nat → List (S64) → Int → List (S64) → Bool → List (S60) → List ByteArray → Option (Bool)
  | 0, _, _, _, _, _, _ => none
  | k + 1, x4, x5, x7, x61, x233000, x233001 => if x61 = true then (some false) else ((laws_markReportS.f k x7 1).bind fun bt267 => ((laws_heldReportS.f k bt267.2 1).bind fun t269 => (if t269 < 0 then (some false) else (if t269 = bt267.1 then ((laws_toQueue.f k x233000 x233001).bind fun bt270 => ((impl_Batch.f k bt270.1 bt270.2).bind fun bt276 => ((laws_eqReportS.f k bt276.1 x4).bind fun t280 => (if t280 = true then (laws_FnExactBatch.j2 k bt267.2 bt267.1 (bt276.2 != x5)) else (laws_FnExactBatch.j2 k bt267.2 bt267.1 true))))) else (some false)))))
def laws_FnExactBatch.j2 : Nat → List (S64) → Int → Bool → Option (Bool)
  | 0, _, _, _ => none
  | k + 1, x7, x10, x87 => if x87 = true then (some false) else ((laws_heldReportS.f k x7 1).bind fun t281 => (if t281 < 0 then (some false) else (if t281 = x10 then (some true) else (some false))))
end
def laws_FnExactBatch.f (k : Nat) (l0_0 : List (S60)) (l0_1 : List ByteArray) : Option (Bool) := (laws_szQueue.f k l0_0 l0_1 1048576).bind fun t233 => (if t233 < 0 then (some true) else ((laws_toQueue.f k l0_0 l0_1).bind fun bt234 => ((spec_Batch.f k bt234.1 bt234.2).bind fun bt240 => ((laws_toQueue.f k l0_0 l0_1).bind fun bt244 => ((impl_Batch.f k bt244.1 bt244.2).bind fun bt251 => ((laws_eqReportS.f k bt251.1 bt240.1).bind fun t255 => (if t255 = true then (laws_FnExactBatch.j0 k bt240.1 bt240.2 bt251.1 bt251.2 (bt251.2 != bt240.2) l0_0 l0_1 bt244.1 bt244.2) else (laws_FnExactBatch.j0 k bt240.1 bt240.2 bt251.1 bt251.2 true l0_0 l0_1 bt244.1 bt244.2))))))))
theorem laws_FnExactBatch.mono_l : ∀ k, (∀ y0 y1 y2 y3 y4 y5 y6 y7 y8, LeO (laws_FnExactBatch.j0 k y0 y1 y2 y3 y4 y5 y6 y7 y8) (laws_FnExactBatch.j0 (k + 1) y0 y1 y2 y3 y4 y5 y6 y7 y8)) ∧ (∀ y0 y1 y2 y3 y4 y5, LeO (laws_FnExactBatch.j1 k y0 y1 y2 y3 y4 y5) (laws_FnExactBatch.j1 (k + 1) y0 y1 y2 y3 y4 y5)) ∧ (∀ y0 y1 y2, LeO (laws_FnExactBatch.j2 k y0 y1 y2) (laws_FnExactBatch.j2 (k + 1) y0 y1 y2))
  | 0 => ⟨fun _ _ _ _ _ _ _ _ _ r h => by simp [laws_FnExactBatch.j0] at h, fun _ _ _ _ _ _ r h => by simp [laws_FnExactBatch.j1] at h, fun _ _ _ r h => by simp [laws_FnExactBatch.j2] at h⟩
  | k + 1 => by
    obtain ⟨ih0, ih1, ih2⟩ := laws_FnExactBatch.mono_l k
    refine ⟨?_, ?_, ?_⟩
    · intro y0 y1 y2 y3 y4 y5 y6 y7 y8
      unfold laws_FnExactBatch.j0
      repeat' first
      | (with_reducible exact ih0 _ _ _ _ _ _ _ _ _)
      | (with_reducible exact ih1 _ _ _ _ _ _)
      | (with_reducible exact ih2 _ _ _)
      | (with_reducible exact impl_Batch.mono _ _ _)
      | (with_reducible exact laws_eqQueue.mono _ _ _ _ _)
      | (with_reducible exact laws_eqReportS.mono _ _ _)
      | (with_reducible exact laws_heldReportS.mono _ _ _)
      | (with_reducible exact laws_markQueue.mono _ _ _ _)
      | (with_reducible exact laws_markReportS.mono _ _ _)
      | (with_reducible exact laws_szQueue.mono _ _ _ _)
      | (with_reducible exact laws_toQueue.mono _ _ _)
      | (with_reducible exact spec_Batch.mono _ _ _)
      | (with_reducible exact LeO.refl _)
      | (with_reducible exact LeO.none _)
      | (with_reducible refine LeO.ite ?_ ?_)
      | (with_reducible refine LeO.bind ?_ (fun _ => ?_))
      | exact ih0 _ _ _ _ _ _ _ _ _
      | exact ih1 _ _ _ _ _ _
      | exact ih2 _ _ _
      | exact impl_Batch.mono _ _ _
      | exact laws_eqQueue.mono _ _ _ _ _
      | exact laws_eqReportS.mono _ _ _
      | exact laws_heldReportS.mono _ _ _
      | exact laws_markQueue.mono _ _ _ _
      | exact laws_markReportS.mono _ _ _
      | exact laws_szQueue.mono _ _ _ _
      | exact laws_toQueue.mono _ _ _
      | exact spec_Batch.mono _ _ _
      | exact LeO.none _
      | refine LeO.ite ?_ ?_
      | refine LeO.bind ?_ (fun _ => ?_)
    · intro y0 y1 y2 y3 y4 y5
      unfold laws_FnExactBatch.j1
      repeat' first
      | (with_reducible exact ih0 _ _ _ _ _ _ _ _ _)
      | (with_reducible exact ih1 _ _ _ _ _ _)
      | (with_reducible exact ih2 _ _ _)
      | (with_reducible exact impl_Batch.mono _ _ _)
      | (with_reducible exact laws_eqQueue.mono _ _ _ _ _)
      | (with_reducible exact laws_eqReportS.mono _ _ _)
      | (with_reducible exact laws_heldReportS.mono _ _ _)
      | (with_reducible exact laws_markQueue.mono _ _ _ _)
      | (with_reducible exact laws_markReportS.mono _ _ _)
      | (with_reducible exact laws_szQueue.mono _ _ _ _)
      | (with_reducible exact laws_toQueue.mono _ _ _)
      | (with_reducible exact spec_Batch.mono _ _ _)
      | (with_reducible exact LeO.refl _)
      | (with_reducible exact LeO.none _)
      | (with_reducible refine LeO.ite ?_ ?_)
      | (with_reducible refine LeO.bind ?_ (fun _ => ?_))
      | exact ih0 _ _ _ _ _ _ _ _ _
      | exact ih1 _ _ _ _ _ _
      | exact ih2 _ _ _
      | exact impl_Batch.mono _ _ _
      | exact laws_eqQueue.mono _ _ _ _ _
      | exact laws_eqReportS.mono _ _ _
      | exact laws_heldReportS.mono _ _ _
      | exact laws_markQueue.mono _ _ _ _
      | exact laws_markReportS.mono _ _ _
      | exact laws_szQueue.mono _ _ _ _
      | exact laws_toQueue.mono _ _ _
      | exact spec_Batch.mono _ _ _
      | exact LeO.none _
      | refine LeO.ite ?_ ?_
      | refine LeO.bind ?_ (fun _ => ?_)
    · intro y0 y1 y2
      unfold laws_FnExactBatch.j2
      repeat' first
      | (with_reducible exact ih0 _ _ _ _ _ _ _ _ _)
      | (with_reducible exact ih1 _ _ _ _ _ _)
      | (with_reducible exact ih2 _ _ _)
      | (with_reducible exact impl_Batch.mono _ _ _)
      | (with_reducible exact laws_eqQueue.mono _ _ _ _ _)
      | (with_reducible exact laws_eqReportS.mono _ _ _)
      | (with_reducible exact laws_heldReportS.mono _ _ _)
      | (with_reducible exact laws_markQueue.mono _ _ _ _)
      | (with_reducible exact laws_markReportS.mono _ _ _)
      | (with_reducible exact laws_szQueue.mono _ _ _ _)
      | (with_reducible exact laws_toQueue.mono _ _ _)
      | (with_reducible exact spec_Batch.mono _ _ _)
      | (with_reducible exact LeO.refl _)
      | (with_reducible exact LeO.none _)
      | (with_reducible refine LeO.ite ?_ ?_)
      | (with_reducible refine LeO.bind ?_ (fun _ => ?_))
      | exact ih0 _ _ _ _ _ _ _ _ _
      | exact ih1 _ _ _ _ _ _
      | exact ih2 _ _ _
      | exact impl_Batch.mono _ _ _
      | exact laws_eqQueue.mono _ _ _ _ _
      | exact laws_eqReportS.mono _ _ _
      | exact laws_heldReportS.mono _ _ _
      | exact laws_markQueue.mono _ _ _ _
      | exact laws_markReportS.mono _ _ _
      | exact laws_szQueue.mono _ _ _ _
      | exact laws_toQueue.mono _ _ _
      | exact spec_Batch.mono _ _ _
      | exact LeO.none _
      | refine LeO.ite ?_ ?_
      | refine LeO.bind ?_ (fun _ => ?_)
theorem laws_FnExactBatch.mono : ∀ a0 a1 k, LeO (laws_FnExactBatch.f k a0 a1) (laws_FnExactBatch.f (k + 1) a0 a1) := by
  intro a0 a1 k
  obtain ⟨ih0, ih1, ih2⟩ := laws_FnExactBatch.mono_l k
  unfold laws_FnExactBatch.f
  repeat' first
      | (with_reducible exact ih0 _ _ _ _ _ _ _ _ _)
      | (with_reducible exact ih1 _ _ _ _ _ _)
      | (with_reducible exact ih2 _ _ _)
      | (with_reducible exact impl_Batch.mono _ _ _)
      | (with_reducible exact laws_eqQueue.mono _ _ _ _ _)
      | (with_reducible exact laws_eqReportS.mono _ _ _)
      | (with_reducible exact laws_heldReportS.mono _ _ _)
      | (with_reducible exact laws_markQueue.mono _ _ _ _)
      | (with_reducible exact laws_markReportS.mono _ _ _)
      | (with_reducible exact laws_szQueue.mono _ _ _ _)
      | (with_reducible exact laws_toQueue.mono _ _ _)
      | (with_reducible exact spec_Batch.mono _ _ _)
      | (with_reducible exact LeO.refl _)
      | (with_reducible exact LeO.none _)
      | (with_reducible refine LeO.ite ?_ ?_)
      | (with_reducible refine LeO.bind ?_ (fun _ => ?_))
      | exact ih0 _ _ _ _ _ _ _ _ _
      | exact ih1 _ _ _ _ _ _
      | exact ih2 _ _ _
      | exact impl_Batch.mono _ _ _
      | exact laws_eqQueue.mono _ _ _ _ _
      | exact laws_eqReportS.mono _ _ _
      | exact laws_heldReportS.mono _ _ _
      | exact laws_markQueue.mono _ _ _ _
      | exact laws_markReportS.mono _ _ _
      | exact laws_szQueue.mono _ _ _ _
      | exact laws_toQueue.mono _ _ _
      | exact spec_Batch.mono _ _ _
      | exact LeO.none _
      | refine LeO.ite ?_ ?_
      | refine LeO.bind ?_ (fun _ => ?_)
set_option maxHeartbeats 8000000 in
set_option maxRecDepth 100000 in
theorem laws_FnExactBatch.calls (k : Nat) (A0_0 : Option Addr) (c0_0 : Nat) (l0_0 : List (S60)) (A0_1 : Option Addr) (c0_1 : Nat) (l0_1 : List ByteArray) (r : Bool) (w : World) (hr0_0 : Kd.C k60 w A0_0 l0_0.length l0_0) (hc0_0 : l0_0.length ≤ c0_0) (hr0_1 : Kd.C Kd.string w A0_1 l0_1.length l0_1) (hc0_1 : l0_1.length ≤ c0_1) (h : laws_FnExactBatch.f k l0_0 l0_1 = some r) (hr_ : r = true) :
    Calls Try.prog 7 #[.agg #[.slice A0_0 l0_0.length c0_0, .slice A0_1 l0_1.length c0_1]] w fun e w' => e = .returned (.bool r) ∧ Below w.heap.size w w' := by
 have hu44 := Try.underlying44
 have hu49 := Try.underlying49
 have HR0_0 := Aside0.mk hr0_0
 have HC0_0 := Aside0.mk hc0_0
 clear hr0_0 hc0_0
 have HR0_1 := Aside0.mk hr0_1
 have HC0_1 := Aside0.mk hc0_1
 clear hr0_1 hc0_1
 have HB := Aside0.mk (Below.refl w.heap.size w)
 have H : ((laws_szQueue.f k l0_0 l0_1 1048576).bind fun t233 => (if t233 < 0 then (some true) else ((laws_toQueue.f k l0_0 l0_1).bind fun bt234 => ((spec_Batch.f k bt234.1 bt234.2).bind fun bt240 => ((laws_toQueue.f k l0_0 l0_1).bind fun bt244 => ((impl_Batch.f k bt244.1 bt244.2).bind fun bt251 => ((laws_eqReportS.f k bt251.1 bt240.1).bind fun t255 => (if t255 = true then (laws_FnExactBatch.j0 k bt240.1 bt240.2 bt251.1 bt251.2 (bt251.2 != bt240.2) l0_0 l0_1 bt244.1 bt244.2) else (laws_FnExactBatch.j0 k bt240.1 bt240.2 bt251.1 bt251.2 true l0_0 l0_1 bt244.1 bt244.2))))))))) = some r := h
 clear h
 obtain ⟨t233, A2, H⟩ := bindE_ H
 by_cases c3 : t233 < 0
 ·
  rw [if_pos c3] at H
  have c3b0 : decide (t233 < 0) = true := decide_eq_true c3
  clear c3
  obtain rfl := Option.some.inj H
  go_enter Try.func7, Try.ntmps7
  go_wp2_with (first | ((with_reducible refine gate_dst (N := 1) rfl ?_); refine box_event ?hg (N := 1) ?hd (cs := #[.slice A0_0 l0_0.length c0_0, .slice A0_1 l0_1.length c0_1]) (t := 44) ?hr ?_; (case hd => rfl); (case hg => rfl); (case hr => first | (go_simp; done) | (go_simp; rfl)); intro gb232 hg w4 hbox hb; have n0_ := belB_ hb; have n1_ := Aside0.mk (hbox); have n2_ := Aside0.mk ((by rw [hg]; exact (below_size (by repeat (first | (with_reducible first | exact HB.out | apply below_alloc | apply pw_below_drewN | apply below_drew1) | exact HB.out))) : w.heap.size ≤ gb232)); have n3_ := Aside0.mk ((by rw [hg]; exact (below_size (by repeat (first | (with_reducible first | exact HB.out | apply below_alloc | apply pw_below_drewN | apply below_drew1) | exact HB.out))) : w.heap.size ≤ gb232)); clear HB; have HB := n0_; have BK232 := n1_; have GW232 := n2_; have GE232 := n3_; clear n0_ n1_ n2_ n3_; clear hb hbox hg; obtain ⟨hcz5_0, hcz5_1, hfz5_0, hfz5_1⟩ := cz2_ BK232) | ((with_reducible refine gate_callee (f := 24) rfl ?_); refine cU_ (some 16) Try.func24 #[.agg #[.slice A0_0 l0_0.length c0_0, .slice A0_1 l0_1.length c0_1], .int .i64 1048576] ?_; (with_reducible refine (laws_szQueue.calls k _ _ l0_0 _ _ l0_1 1048576 t233 _ ?side1 ?side2 ?side3 ?side4 A2.out).mono ?_); (case side1 => repeat (first | exact (Kd.C_below HR0_0.out HB.out) | (with_reducible refine Kd.C_alloc ?_ _) | (with_reducible refine Kd.C_drewN ?_ _) | (with_reducible refine Kd.C_drew ?_))); (case side2 => exact HC0_0.out); (case side3 => repeat (first | exact (Kd.C_below HR0_1.out HB.out) | (with_reducible refine Kd.C_alloc ?_ _) | (with_reducible refine Kd.C_drewN ?_ _) | (with_reducible refine Kd.C_drew ?_))); (case side4 => exact HC0_1.out); rintro e w6 ⟨rfl, hb⟩; refine ⟨_, rfl, ?_⟩; replace BK232 := blkK_ BK232 hb; replace HB := belB_ hb; (try clear hb)))
  go_ret
  exact ⟨retE_, belE_⟩
 ·
  rw [if_neg c3] at H
  have c3b0 : decide (t233 < 0) = false := decide_eq_false c3
  clear c3
  replace H := Option.bind_eq_some_iff.mp H
  obtain ⟨⟨t234, t237⟩, A70, H⟩ := H
  replace H : ((spec_Batch.f k t234 t237).bind fun bt240 => ((laws_toQueue.f k l0_0 l0_1).bind fun bt244 => ((impl_Batch.f k bt244.1 bt244.2).bind fun bt251 => ((laws_eqReportS.f k bt251.1 bt240.1).bind fun t255 => (if t255 = true then (laws_FnExactBatch.j0 k bt240.1 bt240.2 bt251.1 bt251.2 (bt251.2 != bt240.2) l0_0 l0_1 bt244.1 bt244.2) else (laws_FnExactBatch.j0 k bt240.1 bt240.2 bt251.1 bt251.2 true l0_0 l0_1 bt244.1 bt244.2)))))) = some r := H
  have A7 := Aside0.mk A70
  clear A70
  replace H := Option.bind_eq_some_iff.mp H
  obtain ⟨⟨t240, t243⟩, A80, H⟩ := H
  replace H : ((laws_toQueue.f k l0_0 l0_1).bind fun bt244 => ((impl_Batch.f k bt244.1 bt244.2).bind fun bt251 => ((laws_eqReportS.f k bt251.1 t240).bind fun t255 => (if t255 = true then (laws_FnExactBatch.j0 k t240 t243 bt251.1 bt251.2 (bt251.2 != t243) l0_0 l0_1 bt244.1 bt244.2) else (laws_FnExactBatch.j0 k t240 t243 bt251.1 bt251.2 true l0_0 l0_1 bt244.1 bt244.2))))) = some r := H
  have A8 := Aside0.mk A80
  clear A80
  replace H := Option.bind_eq_some_iff.mp H
  obtain ⟨⟨t244, t247⟩, A90, H⟩ := H
  replace H : ((impl_Batch.f k t244 t247).bind fun bt251 => ((laws_eqReportS.f k bt251.1 t240).bind fun t255 => (if t255 = true then (laws_FnExactBatch.j0 k t240 t243 bt251.1 bt251.2 (bt251.2 != t243) l0_0 l0_1 t244 t247) else (laws_FnExactBatch.j0 k t240 t243 bt251.1 bt251.2 true l0_0 l0_1 t244 t247)))) = some r := H
  have A9 := Aside0.mk A90
  clear A90
  replace H := Option.bind_eq_some_iff.mp H
  obtain ⟨⟨t251, t254⟩, A100, H⟩ := H
  replace H : ((laws_eqReportS.f k t251 t240).bind fun t255 => (if t255 = true then (laws_FnExactBatch.j0 k t240 t243 t251 t254 (t254 != t243) l0_0 l0_1 t244 t247) else (laws_FnExactBatch.j0 k t240 t243 t251 t254 true l0_0 l0_1 t244 t247))) = some r := H
  have A10 := Aside0.mk A100
  clear A100
  have HC11 := Aside0.mk H
  clear H
  go_enter Try.func7, Try.ntmps7
  go_upto_region 8 with (first | ((with_reducible refine gate_dst (N := 1) rfl ?_); refine box_event ?hg (N := 1) ?hd (cs := #[.slice A0_0 l0_0.length c0_0, .slice A0_1 l0_1.length c0_1]) (t := 44) ?hr ?_; (case hd => rfl); (case hg => rfl); (case hr => first | (go_simp; done) | (go_simp; rfl)); intro gb232 hg w12 hbox hb; have n0_ := belB_ hb; have n1_ := Aside0.mk (hbox); have n2_ := Aside0.mk ((by rw [hg]; exact (below_size (by repeat (first | (with_reducible first | exact HB.out | apply below_alloc | apply pw_below_drewN | apply below_drew1) | exact HB.out))) : w.heap.size ≤ gb232)); have n3_ := Aside0.mk ((by rw [hg]; exact (below_size (by repeat (first | (with_reducible first | exact HB.out | apply below_alloc | apply pw_below_drewN | apply below_drew1) | exact HB.out))) : w.heap.size ≤ gb232)); clear HB; have HB := n0_; have BK232 := n1_; have GW232 := n2_; have GE232 := n3_; clear n0_ n1_ n2_ n3_; clear hb hbox hg; obtain ⟨hcz13_0, hcz13_1, hfz13_0, hfz13_1⟩ := cz2_ BK232) | ((with_reducible refine gate_callee (f := 24) rfl ?_); refine cU_ (some 16) Try.func24 #[.agg #[.slice A0_0 l0_0.length c0_0, .slice A0_1 l0_1.length c0_1], .int .i64 1048576] ?_; (with_reducible refine (laws_szQueue.calls k _ _ l0_0 _ _ l0_1 1048576 t233 _ ?side1 ?side2 ?side3 ?side4 A2.out).mono ?_); (case side1 => repeat (first | exact (Kd.C_below HR0_0.out HB.out) | (with_reducible refine Kd.C_alloc ?_ _) | (with_reducible refine Kd.C_drewN ?_ _) | (with_reducible refine Kd.C_drew ?_))); (case side2 => exact HC0_0.out); (case side3 => repeat (first | exact (Kd.C_below HR0_1.out HB.out) | (with_reducible refine Kd.C_alloc ?_ _) | (with_reducible refine Kd.C_drewN ?_ _) | (with_reducible refine Kd.C_drew ?_))); (case side4 => exact HC0_1.out); rintro e w14 ⟨rfl, hb⟩; refine ⟨_, rfl, ?_⟩; replace BK232 := blkK_ BK232 hb; replace HB := belB_ hb; (try clear hb); obtain ⟨hcz15_0, hcz15_1, hfz15_0, hfz15_1⟩ := cz2_ BK232) | ((with_reducible refine gate_callee (f := 26) rfl ?_); refine cU_ (some 21) Try.func26 #[.agg #[.slice A0_0 l0_0.length c0_0, .slice A0_1 l0_1.length c0_1]] ?_; (with_reducible refine (laws_toQueue.calls k _ _ l0_0 _ _ l0_1 t234 t237 _ ?side1 ?side2 ?side3 ?side4 A7.out).mono ?_); (case side1 => repeat (first | exact (Kd.C_below HR0_0.out HB.out) | (with_reducible refine Kd.C_alloc ?_ _) | (with_reducible refine Kd.C_drewN ?_ _) | (with_reducible refine Kd.C_drew ?_))); (case side2 => exact HC0_0.out); (case side3 => repeat (first | exact (Kd.C_below HR0_1.out HB.out) | (with_reducible refine Kd.C_alloc ?_ _) | (with_reducible refine Kd.C_drewN ?_ _) | (with_reducible refine Kd.C_drew ?_))); (case side4 => exact HC0_1.out); rintro e w16 ⟨v235, v238, rfl, ho0, ho1, hb⟩; refine ⟨_, rfl, ?_⟩; have n0_ := Aside0.mk (Kd.R_lower ho0 (below_size (by repeat (first | (with_reducible first | exact HB.out | apply below_alloc | apply pw_below_drewN | apply below_drew1 | refine below_set ?_ GE232.out) | exact HB.out)))); have n1_ := Aside0.mk (Kd.R_lower ho1 (below_size (by repeat (first | (with_reducible first | exact HB.out | apply below_alloc | apply pw_below_drewN | apply below_drew1 | refine below_set ?_ GE232.out) | exact HB.out)))); have n2_ := blkB_ (g := gb232) (o := .cells #[.slice A0_0 l0_0.length c0_0, .slice A0_1 l0_1.length c0_1] 44 (0, 0)) hb; have n3_ := belB_ hb; clear BK232; clear HB; have HO236 := n0_; have HO239 := n1_; have BK232 := n2_; have HB := n3_; clear n0_ n1_ n2_ n3_; (try clear hb); (try clear hb2); (try clear hk); (try clear hi); (try clear ho0); (try clear ho1); obtain ⟨Ao17, co17, eo17⟩ := Kd.R_slice HO236.out; subst eo17; obtain ⟨Ao18, co18, eo18⟩ := Kd.R_slice HO239.out; subst eo18) | ((with_reducible refine gate_callee (f := 31) rfl ?_); refine cU_ (some 22) Try.func31 #[.agg #[.slice Ao17 t234.length co17, .slice Ao18 t237.length co18]] ?_; (with_reducible refine (spec_Batch.calls k (fun k_ => some k_ = (.slice Ao17 t234.length co17 : Value).ownBlock) (.slice Ao17 t234.length co17) t234 _ _ t237 t240 t243 w _ ?side1 ?side2 ?side3 ?side4 A8.out).mono ?_); (case side1 => repeat (first | (with_reducible first | exact HB.out | apply below_alloc | apply pw_below_drewN | apply below_drew1 | refine below_set ?_ GE232.out) | exact HB.out)); (case side2 => exact Kd.R_tight rfl HO236.out); (case side3 => exact Kd.C_kept_own ((Kd.R_apart' HO239.out (Kd.R_typed HO236.out) (by decide))) (fun k_ hk_ hs_ => (hk_.2) hs_)); (case side4 => exact (Kd.R_reads' HO239.out).2.1); rintro e w19 ⟨v241, rfl, ho0, hb, hkp⟩; refine ⟨_, rfl, ?_⟩; have n0_ := Aside0.mk (blk_kept (by (with_reducible repeat (first | refine blk_drewN ?_ _ | refine blk_drew ?_ | refine blk_alloc ?_ _)); exact BK232.out) hkp (fun hs_ => (fun e_ => (Kd.R_ne HO236.out BK232.out (by decide)) e_) hs_)); have n1_ := Aside0.mk (Kd.R_mono (ok' := fun k_ => True) (Kd.R_keptB ((Kd.R_apart' HO239.out (Kd.R_typed HO236.out) (by decide))) hkp (fun k_ hk_ hs_ => (hk_.2) hs_)) (fun k_ hk_ => trivial)); have n2_ := Aside0.mk (Kd.R_mono (ok' := fun k_ => True) ho0 (fun k_ hk_ => trivial)); have n3_ := Aside0.mk (hb); clear BK232; clear HO239; clear HB; clear HO236; have BK232 := n0_; have HO239 := n1_; have HO242 := n2_; have HB := n3_; clear n0_ n1_ n2_ n3_; (try clear hb); (try clear hkp); (try clear ho0); obtain ⟨hcz20_0, hcz20_1, hfz20_0, hfz20_1⟩ := cz2_ BK232) | ((with_reducible refine gate_callee (f := 26) rfl ?_); refine cU_ (some 26) Try.func26 #[.agg #[.slice A0_0 l0_0.length c0_0, .slice A0_1 l0_1.length c0_1]] ?_; (with_reducible refine (laws_toQueue.calls k _ _ l0_0 _ _ l0_1 t244 t247 _ ?side1 ?side2 ?side3 ?side4 A9.out).mono ?_); (case side1 => repeat (first | exact (Kd.C_below HR0_0.out HB.out) | (with_reducible refine Kd.C_alloc ?_ _) | (with_reducible refine Kd.C_drewN ?_ _) | (with_reducible refine Kd.C_drew ?_))); (case side2 => exact HC0_0.out); (case side3 => repeat (first | exact (Kd.C_below HR0_1.out HB.out) | (with_reducible refine Kd.C_alloc ?_ _) | (with_reducible refine Kd.C_drewN ?_ _) | (with_reducible refine Kd.C_drew ?_))); (case side4 => exact HC0_1.out); rintro e w21 ⟨v245, v248, rfl, ho0, ho1, hb⟩; refine ⟨_, rfl, ?_⟩; have n0_ := Aside0.mk (Kd.R_elder' (by (with_reducible repeat (first | apply Kd.R_alloc | apply Kd.R_drewN | apply Kd.R_drew)); exact HO239.out) (Kd.R_base ho1) hb); have n1_ := Aside0.mk (Kd.R_elder' (by (with_reducible repeat (first | apply Kd.R_alloc | apply Kd.R_drewN | apply Kd.R_drew)); exact HO242.out) (Kd.R_base ho0) hb); have n2_ := Aside0.mk (Kd.R_lower (Kd.R_new' ho0 (Kd.R_lt (by (with_reducible repeat (first | apply Kd.R_alloc | apply Kd.R_drewN | apply Kd.R_drew)); exact HO242.out))) (below_size (by repeat (first | (with_reducible first | exact HB.out | apply below_alloc | apply pw_below_drewN | apply below_drew1 | refine below_set ?_ GE232.out) | exact HB.out)))); have n3_ := Aside0.mk (Kd.R_lower (Kd.R_new' ho1 (Kd.R_lt (by (with_reducible repeat (first | apply Kd.R_alloc | apply Kd.R_drewN | apply Kd.R_drew)); exact HO239.out))) (below_size (by repeat (first | (with_reducible first | exact HB.out | apply below_alloc | apply pw_below_drewN | apply below_drew1 | refine below_set ?_ GE232.out) | exact HB.out)))); have n4_ := blkB_ (g := gb232) (o := .cells #[.slice A0_0 l0_0.length c0_0, .slice A0_1 l0_1.length c0_1] 44 (0, 0)) hb; have n5_ := belB_ hb; clear HO239; clear HO242; clear BK232; clear HB; have HO239 := n0_; have HO242 := n1_; have HO246 := n2_; have HO249 := n3_; have BK232 := n4_; have HB := n5_; clear n0_ n1_ n2_ n3_ n4_ n5_; (try clear hb); (try clear hb2); (try clear hk); (try clear hi); (try clear ho0); (try clear ho1)) | ((with_reducible refine gate_dst (N := 6) rfl ?_); refine box_event ?hg (N := 6) ?hd (cs := #[.slice none 0 0, .slice none 0 0]) (t := 49) ?hr ?_; (case hd => rfl); (case hg => rfl); (case hr => first | (go_simp; done) | (go_simp; rfl)); intro gb250 hg w22 hbox hb; have n0_ := Aside0.mk (Kd.R_below (by (with_reducible repeat (first | apply Kd.R_alloc | apply Kd.R_drewN | apply Kd.R_drew)); exact HO239.out) hb); have n1_ := Aside0.mk (Kd.R_below (by (with_reducible repeat (first | apply Kd.R_alloc | apply Kd.R_drewN | apply Kd.R_drew)); exact HO242.out) hb); have n2_ := Aside0.mk (Kd.R_below (by (with_reducible repeat (first | apply Kd.R_alloc | apply Kd.R_drewN | apply Kd.R_drew)); exact HO246.out) hb); have n3_ := Aside0.mk (Kd.R_below (by (with_reducible repeat (first | apply Kd.R_alloc | apply Kd.R_drewN | apply Kd.R_drew)); exact HO249.out) hb); have n4_ := blkB_ (g := gb232) (o := .cells #[.slice A0_0 l0_0.length c0_0, .slice A0_1 l0_1.length c0_1] 44 (0, 0)) hb; have n5_ := belB_ hb; have n6_ := Aside0.mk (hbox); have n7_ := Aside0.mk ((by rw [hg]; exact (below_size (by repeat (first | (with_reducible first | exact HB.out | apply below_alloc | apply pw_below_drewN | apply below_drew1 | refine below_set ?_ GE232.out) | exact HB.out))) : w.heap.size ≤ gb250)); have n8_ := Aside0.mk ((by rw [hg]; exact (below_size (by repeat (first | (with_reducible first | exact HB.out | apply below_alloc | apply pw_below_drewN | apply below_drew1 | refine below_set ?_ GE232.out) | exact HB.out))) : w.heap.size ≤ gb250)); have n9_ := Aside0.mk ((by rw [hg]; exact Nat.ne_of_lt (blk_lt (g := gb232) (o := .cells #[.slice A0_0 l0_0.length c0_0, .slice A0_1 l0_1.length c0_1] 44 (0, 0)) (by (with_reducible repeat (first | refine blk_drewN ?_ _ | refine blk_drew ?_ | refine blk_alloc ?_ _)); exact BK232.out)) : gb232 ≠ gb250)); have n10_ := Aside0.mk ((by rw [hg]; exact Nat.ne_of_gt (blk_lt (g := gb232) (o := .cells #[.slice A0_0 l0_0.length c0_0, .slice A0_1 l0_1.length c0_1] 44 (0, 0)) (by (with_reducible repeat (first | refine blk_drewN ?_ _ | refine blk_drew ?_ | refine blk_alloc ?_ _)); exact BK232.out)) : gb250 ≠ gb232)); clear HO239; clear HO242; clear HO246; clear HO249; clear BK232; clear HB; have HO239 := n0_; have HO242 := n1_; have HO246 := n2_; have HO249 := n3_; have BK232 := n4_; have HB := n5_; have BK250 := n6_; have GW250 := n7_; have GE250 := n8_; have NB232_250 := n9_; have NB250_232 := n10_; clear n0_ n1_ n2_ n3_ n4_ n5_ n6_ n7_ n8_ n9_ n10_; clear hb hbox hg; obtain ⟨Ao23, co23, eo23⟩ := Kd.R_slice HO246.out; subst eo23; have hnb24 := NB250_232.out; have hnc24 := NB232_250.out; obtain ⟨hcz25_0, hcz25_1, hfz25_0, hfz25_1⟩ := cz2_ BK250; obtain ⟨Ao26, co26, eo26⟩ := Kd.R_slice HO249.out; subst eo26) | ((with_reducible refine gate_callee (f := 32) rfl ?_); refine cU_ (some 29) Try.func32 #[.agg #[.slice Ao23 t244.length co23, .slice Ao26 t247.length co26]] ?_; (with_reducible refine (impl_Batch.calls k _ _ t244 _ _ t247 t251 t254 _ ?side1 ?side2 ?side3 ?side4 A10.out).mono ?_); (case side1 => refine (Kd.R_reads' (e := 64) (base := w.heap.size) (ok := fun k_ => (True ∧ some k_ ≠ (v241 : Value).ownBlock)) (n := t244.length) (c := co23) ?_).2.2; exact (by (with_reducible repeat (first | apply Kd.R_alloc | apply Kd.R_drewN | apply Kd.R_drew)); exact (Kd.R_mono (Kd.R_far (p := ⟨gb250, 1, none⟩) (Kd.R_far (p := ⟨gb250, 0, none⟩) (Kd.R_types HO246.out BK250.out (by decide)) (fun _ hk => hk.2) (.slice Ao23 t244.length co23)) (fun _ hk => hk.2) (.slice Ao26 t247.length co26)) (fun _ h_ => h_.1)))); (case side2 => exact (Kd.R_reads' HO246.out).2.1); (case side3 => refine (Kd.R_reads' (e := 9) (base := w.heap.size) (ok := fun k_ => (True ∧ some k_ ≠ (.slice Ao18 t237.length co18 : Value).ownBlock)) (n := t247.length) (c := co26) ?_).2.2; exact (by (with_reducible repeat (first | apply Kd.R_alloc | apply Kd.R_drewN | apply Kd.R_drew)); exact (Kd.R_mono (Kd.R_far (p := ⟨gb250, 1, none⟩) (Kd.R_far (p := ⟨gb250, 0, none⟩) (Kd.R_types HO249.out BK250.out (by decide)) (fun _ hk => hk.2) (.slice Ao23 t244.length co23)) (fun _ hk => hk.2) (.slice Ao26 t247.length co26)) (fun _ h_ => h_.1)))); (case side4 => exact (Kd.R_reads' HO249.out).2.1); rintro e w27 ⟨v252, rfl, ho0, hb⟩; refine ⟨_, rfl, ?_⟩; have n0_ := Aside0.mk (Kd.R_below (by (with_reducible repeat (first | apply Kd.R_alloc | apply Kd.R_drewN | apply Kd.R_drew)); exact (Kd.R_mono (Kd.R_far (p := ⟨gb250, 1, none⟩) (Kd.R_far (p := ⟨gb250, 0, none⟩) (Kd.R_types HO239.out BK250.out (by decide)) (fun _ hk => hk.2) (.slice Ao23 t244.length co23)) (fun _ hk => hk.2) (.slice Ao26 t247.length co26)) (fun _ h_ => h_.1))) hb); have n1_ := Aside0.mk (Kd.R_elder' (by (with_reducible repeat (first | apply Kd.R_alloc | apply Kd.R_drewN | apply Kd.R_drew)); exact (Kd.R_mono (Kd.R_far (p := ⟨gb250, 1, none⟩) (Kd.R_far (p := ⟨gb250, 0, none⟩) (Kd.R_types HO242.out BK250.out (by decide)) (fun _ hk => hk.2) (.slice Ao23 t244.length co23)) (fun _ hk => hk.2) (.slice Ao26 t247.length co26)) (fun _ h_ => h_.1))) (Kd.R_base ho0) hb); have n2_ := Aside0.mk (Kd.R_elder' (by (with_reducible repeat (first | apply Kd.R_alloc | apply Kd.R_drewN | apply Kd.R_drew)); exact (Kd.R_mono (Kd.R_far (p := ⟨gb250, 1, none⟩) (Kd.R_far (p := ⟨gb250, 0, none⟩) (Kd.R_types HO246.out BK250.out (by decide)) (fun _ hk => hk.2) (.slice Ao23 t244.length co23)) (fun _ hk => hk.2) (.slice Ao26 t247.length co26)) (fun _ h_ => h_.1))) (Kd.R_base ho0) hb); have n3_ := Aside0.mk (Kd.R_below (by (with_reducible repeat (first | apply Kd.R_alloc | apply Kd.R_drewN | apply Kd.R_drew)); exact (Kd.R_mono (Kd.R_far (p := ⟨gb250, 1, none⟩) (Kd.R_far (p := ⟨gb250, 0, none⟩) (Kd.R_types HO249.out BK250.out (by decide)) (fun _ hk => hk.2) (.slice Ao23 t244.length co23)) (fun _ hk => hk.2) (.slice Ao26 t247.length co26)) (fun _ h_ => h_.1))) hb); have n4_ := Aside0.mk (Kd.R_lower (Kd.R_new' (Kd.R_new' ho0 (Kd.R_lt (by (with_reducible repeat (first | apply Kd.R_alloc | apply Kd.R_drewN | apply Kd.R_drew)); exact (Kd.R_mono (Kd.R_far (p := ⟨gb250, 1, none⟩) (Kd.R_far (p := ⟨gb250, 0, none⟩) (Kd.R_types HO242.out BK250.out (by decide)) (fun _ hk => hk.2) (.slice Ao23 t244.length co23)) (fun _ hk => hk.2) (.slice Ao26 t247.length co26)) (fun _ h_ => h_.1))))) (Kd.R_lt (by (with_reducible repeat (first | apply Kd.R_alloc | apply Kd.R_drewN | apply Kd.R_drew)); exact (Kd.R_mono (Kd.R_far (p := ⟨gb250, 1, none⟩) (Kd.R_far (p := ⟨gb250, 0, none⟩) (Kd.R_types HO246.out BK250.out (by decide)) (fun _ hk => hk.2) (.slice Ao23 t244.length co23)) (fun _ hk => hk.2) (.slice Ao26 t247.length co26)) (fun _ h_ => h_.1))))) (below_size (by repeat (first | (with_reducible first | exact HB.out | apply below_alloc | apply pw_below_drewN | apply below_drew1 | refine below_set ?_ GE232.out | refine below_set ?_ GE250.out) | exact HB.out)))); have n5_ := Aside0.mk (blk_below (g := gb232) (o := .cells #[.slice A0_0 l0_0.length c0_0, .slice A0_1 l0_1.length c0_1] 44 (0, 0)) farE_ hb); have n6_ := Aside0.mk (blk_below (g := gb250) (o := .cells #[.slice Ao23 t244.length co23, .slice Ao26 t247.length co26] 49 (0, 0)) (by (with_reducible repeat (first | refine blk_drewN ?_ _ | refine blk_drew ?_ | refine blk_alloc ?_ _)); refine blk_put (cs := #[.slice Ao23 t244.length co23, .slice none 0 0]) ?_ 1 _ rfl; (with_reducible repeat (first | refine blk_drewN ?_ _ | refine blk_drew ?_ | refine blk_alloc ?_ _)); refine blk_put (cs := #[.slice none 0 0, .slice none 0 0]) ?_ 0 _ rfl; (with_reducible repeat (first | refine blk_drewN ?_ _ | refine blk_drew ?_ | refine blk_alloc ?_ _)); exact BK250.out) hb); have n7_ := Aside0.mk (below_step (by repeat (first | (with_reducible first | exact HB.out | apply below_alloc | apply pw_below_drewN | apply below_drew1 | refine below_set ?_ GE232.out | refine below_set ?_ GE250.out) | exact HB.out)) hb); clear HO239; clear HO242; clear HO246; clear HO249; clear BK232; clear BK250; clear HB; have HO239 := n0_; have HO242 := n1_; have HO246 := n2_; have HO249 := n3_; have HO253 := n4_; have BK232 := n5_; have BK250 := n6_; have HB := n7_; clear n0_ n1_ n2_ n3_ n4_ n5_ n6_ n7_; (try clear hb); (try clear hb2); (try clear hk); (try clear hi); (try clear ho0)))
  (try simp only [Act.put, List.setIfInBounds_toArray, List.set_cons_zero, List.set_cons_succ])
  go_cut [40] (fun v40 wc => ∃ (kq : Nat) (x40_10 : Bool), v40 = .bool x40_10 ∧ Aside0 (laws_FnExactBatch.j0 kq t240 t243 t251 t254 x40_10 l0_0 l0_1 t244 t247 = some r) ∧ Aside0 (kq ≤ k) ∧ Aside0 (Kd.R k64 64 wc w.heap.size (fun k_ => some k_ ≠ (v252 : Value).ownBlock ∧ some k_ ≠ ((.slice Ao23 t244.length co23) : Value).ownBlock) v241 t240) ∧ Aside0 (Kd.R k64 64 wc w.heap.size (fun k_ => some k_ ≠ (v241 : Value).ownBlock ∧ some k_ ≠ ((.slice Ao23 t244.length co23) : Value).ownBlock) v252 t251) ∧ Aside0 (Kd.R k64 64 wc w.heap.size (fun k_ => some k_ ≠ (v241 : Value).ownBlock ∧ some k_ ≠ (v252 : Value).ownBlock) (.slice Ao23 t244.length co23) t244) ∧ Aside0 (Kd.R Kd.string 9 wc w.heap.size (fun _ => True) (.slice Ao26 t247.length co26) t247) ∧ Aside0 (wc.heap[gb232]? = some (.cells #[(.slice A0_0 l0_0.length c0_0), (.slice A0_1 l0_1.length c0_1)] 44 (0, 0))) ∧ Aside0 (wc.heap[gb250]? = some (.cells #[(.slice Ao23 t244.length co23), (.slice Ao26 t247.length co26)] 49 (0, 0))) ∧ Aside0 (Below w.heap.size w wc))
  case first =>
   have H := HC11.out
   clear HC11
   obtain ⟨t255, A28, H⟩ := bindE_ H
   by_cases c29 : t255 = true
   ·
    subst c29
    replace H := ifT_ H
    have H' := Aside0.mk H
    clear H
    obtain ⟨Ao30, co30, eo30⟩ := Kd.R_slice HO253.out
    subst eo30
    obtain ⟨Ao31, co31, eo31⟩ := Kd.R_slice HO242.out
    subst eo31
    go_wp2_with (first | ((with_reducible refine gate_callee (f := 33) rfl ?_); refine cU_ (some 34) Try.func33 #[.slice Ao30 t251.length co30, .slice Ao31 t240.length co31] ?_; (with_reducible refine (laws_eqReportS.calls k _ _ t251 _ _ t240 true _ ?side1 ?side2 ?side3 ?side4 A28.out).mono ?_); (case side1 => repeat (first | exact (Kd.R_reads' HO253.out).2.2 | (with_reducible refine Kd.C_alloc ?_ _) | (with_reducible refine Kd.C_drewN ?_ _) | (with_reducible refine Kd.C_drew ?_))); (case side2 => exact (Kd.R_reads' HO253.out).2.1); (case side3 => repeat (first | exact (Kd.R_reads' HO242.out).2.2 | (with_reducible refine Kd.C_alloc ?_ _) | (with_reducible refine Kd.C_drewN ?_ _) | (with_reducible refine Kd.C_drew ?_))); (case side4 => exact (Kd.R_reads' HO242.out).2.1); rintro e w32 ⟨rfl, hb⟩; refine ⟨_, rfl, ?_⟩; have n0_ := Aside0.mk (Kd.R_below (by (with_reducible repeat (first | apply Kd.R_alloc | apply Kd.R_drewN | apply Kd.R_drew)); exact HO239.out) hb); have n1_ := Aside0.mk (Kd.R_below (by (with_reducible repeat (first | apply Kd.R_alloc | apply Kd.R_drewN | apply Kd.R_drew)); exact HO242.out) hb); have n2_ := Aside0.mk (Kd.R_below (by (with_reducible repeat (first | apply Kd.R_alloc | apply Kd.R_drewN | apply Kd.R_drew)); exact HO246.out) hb); have n3_ := Aside0.mk (Kd.R_below (by (with_reducible repeat (first | apply Kd.R_alloc | apply Kd.R_drewN | apply Kd.R_drew)); exact HO249.out) hb); have n4_ := Aside0.mk (Kd.R_below (by (with_reducible repeat (first | apply Kd.R_alloc | apply Kd.R_drewN | apply Kd.R_drew)); exact HO253.out) hb); have n5_ := blkB_ (g := gb232) (o := .cells #[.slice A0_0 l0_0.length c0_0, .slice A0_1 l0_1.length c0_1] 44 (0, 0)) hb; have n6_ := blkB_ (g := gb250) (o := .cells #[.slice Ao23 t244.length co23, .slice Ao26 t247.length co26] 49 (0, 0)) hb; have n7_ := Aside0.mk (below_step (by repeat (first | (with_reducible first | exact HB.out | apply below_alloc | apply pw_below_drewN | apply below_drew1 | refine below_set ?_ GE232.out | refine below_set ?_ GE250.out) | exact HB.out)) hb); clear HO239; clear HO242; clear HO246; clear HO249; clear HO253; clear BK232; clear BK250; clear HB; have HO239 := n0_; have HO242 := n1_; have HO246 := n2_; have HO249 := n3_; have HO253 := n4_; have BK232 := n5_; have BK250 := n6_; have HB := n7_; clear n0_ n1_ n2_ n3_ n4_ n5_ n6_ n7_; (try clear hb); (try clear hb2); (try clear hk); (try clear hi)))
    go_meet
    case rel => exact ⟨_, ((t254 != t243)), eqE_, H', ⟨leE_⟩, ⟨by (with_reducible repeat (first | apply Kd.R_alloc | apply Kd.R_drewN | apply Kd.R_drew)); exact Kd.R_mono HO242.out (fun _ hk => ⟨hk.2, hk.1.2⟩)⟩, ⟨by (with_reducible repeat (first | apply Kd.R_alloc | apply Kd.R_drewN | apply Kd.R_drew)); exact Kd.R_mono HO253.out (fun _ hk => ⟨hk.1.2, hk.2⟩)⟩, ⟨by (with_reducible repeat (first | apply Kd.R_alloc | apply Kd.R_drewN | apply Kd.R_drew)); exact Kd.R_mono HO246.out (fun _ hk => ⟨hk.1.2, hk.2⟩)⟩, ⟨by (with_reducible repeat (first | apply Kd.R_alloc | apply Kd.R_drewN | apply Kd.R_drew)); exact Kd.R_mono HO249.out (fun _ hk => trivial)⟩, ⟨blkE_⟩, ⟨blkE_⟩, ⟨by repeat (first | (with_reducible first | exact HB.out | apply below_alloc | apply pw_below_drewN | apply below_drew1 | refine below_set ?_ GE232.out | refine below_set ?_ GE250.out) | exact HB.out)⟩⟩
   ·
    replace c29 := Bool.eq_false_iff.mpr c29
    subst c29
    replace H := ifF_ H
    have H' := Aside0.mk H
    clear H
    obtain ⟨Ao33, co33, eo33⟩ := Kd.R_slice HO253.out
    subst eo33
    obtain ⟨Ao34, co34, eo34⟩ := Kd.R_slice HO242.out
    subst eo34
    go_wp2_with (first | ((with_reducible refine gate_callee (f := 33) rfl ?_); refine cU_ (some 34) Try.func33 #[.slice Ao33 t251.length co33, .slice Ao34 t240.length co34] ?_; (with_reducible refine (laws_eqReportS.calls k _ _ t251 _ _ t240 false _ ?side1 ?side2 ?side3 ?side4 A28.out).mono ?_); (case side1 => repeat (first | exact (Kd.R_reads' HO253.out).2.2 | (with_reducible refine Kd.C_alloc ?_ _) | (with_reducible refine Kd.C_drewN ?_ _) | (with_reducible refine Kd.C_drew ?_))); (case side2 => exact (Kd.R_reads' HO253.out).2.1); (case side3 => repeat (first | exact (Kd.R_reads' HO242.out).2.2 | (with_reducible refine Kd.C_alloc ?_ _) | (with_reducible refine Kd.C_drewN ?_ _) | (with_reducible refine Kd.C_drew ?_))); (case side4 => exact (Kd.R_reads' HO242.out).2.1); rintro e w35 ⟨rfl, hb⟩; refine ⟨_, rfl, ?_⟩; have n0_ := Aside0.mk (Kd.R_below (by (with_reducible repeat (first | apply Kd.R_alloc | apply Kd.R_drewN | apply Kd.R_drew)); exact HO239.out) hb); have n1_ := Aside0.mk (Kd.R_below (by (with_reducible repeat (first | apply Kd.R_alloc | apply Kd.R_drewN | apply Kd.R_drew)); exact HO242.out) hb); have n2_ := Aside0.mk (Kd.R_below (by (with_reducible repeat (first | apply Kd.R_alloc | apply Kd.R_drewN | apply Kd.R_drew)); exact HO246.out) hb); have n3_ := Aside0.mk (Kd.R_below (by (with_reducible repeat (first | apply Kd.R_alloc | apply Kd.R_drewN | apply Kd.R_drew)); exact HO249.out) hb); have n4_ := Aside0.mk (Kd.R_below (by (with_reducible repeat (first | apply Kd.R_alloc | apply Kd.R_drewN | apply Kd.R_drew)); exact HO253.out) hb); have n5_ := blkB_ (g := gb232) (o := .cells #[.slice A0_0 l0_0.length c0_0, .slice A0_1 l0_1.length c0_1] 44 (0, 0)) hb; have n6_ := blkB_ (g := gb250) (o := .cells #[.slice Ao23 t244.length co23, .slice Ao26 t247.length co26] 49 (0, 0)) hb; have n7_ := Aside0.mk (below_step (by repeat (first | (with_reducible first | exact HB.out | apply below_alloc | apply pw_below_drewN | apply below_drew1 | refine below_set ?_ GE232.out | refine below_set ?_ GE250.out) | exact HB.out)) hb); clear HO239; clear HO242; clear HO246; clear HO249; clear HO253; clear BK232; clear BK250; clear HB; have HO239 := n0_; have HO242 := n1_; have HO246 := n2_; have HO249 := n3_; have HO253 := n4_; have BK232 := n5_; have BK250 := n6_; have HB := n7_; clear n0_ n1_ n2_ n3_ n4_ n5_ n6_ n7_; (try clear hb); (try clear hb2); (try clear hk); (try clear hi)))
    go_meet
    case rel => exact ⟨_, (true), eqE_, H', ⟨leE_⟩, ⟨by (with_reducible repeat (first | apply Kd.R_alloc | apply Kd.R_drewN | apply Kd.R_drew)); exact Kd.R_mono HO242.out (fun _ hk => ⟨hk.2, hk.1.2⟩)⟩, ⟨by (with_reducible repeat (first | apply Kd.R_alloc | apply Kd.R_drewN | apply Kd.R_drew)); exact Kd.R_mono HO253.out (fun _ hk => ⟨hk.1.2, hk.2⟩)⟩, ⟨by (with_reducible repeat (first | apply Kd.R_alloc | apply Kd.R_drewN | apply Kd.R_drew)); exact Kd.R_mono HO246.out (fun _ hk => ⟨hk.1.2, hk.2⟩)⟩, ⟨by (with_reducible repeat (first | apply Kd.R_alloc | apply Kd.R_drewN | apply Kd.R_drew)); exact Kd.R_mono HO249.out (fun _ hk => trivial)⟩, ⟨blkE_⟩, ⟨blkE_⟩, ⟨by repeat (first | (with_reducible first | exact HB.out | apply below_alloc | apply pw_below_drewN | apply below_drew1 | refine below_set ?_ GE232.out | refine below_set ?_ GE250.out) | exact HB.out)⟩⟩
  case rest =>
   clear HC11
   try clear c3
   try clear c3b0
   try clear hcz13_0 hcz13_1
   try clear hcz15_0 hcz15_1
   try clear hcz20_0 hcz20_1
   try clear hcz25_0 hcz25_1
   try clear hcz5_0 hcz5_1
   try clear hfz13_0 hfz13_1
   try clear hfz15_0 hfz15_1
   try clear hfz20_0 hfz20_1
   try clear hfz25_0 hfz25_1
   try clear hfz5_0 hfz5_1
   obtain ⟨kq, x40_10, rfl, HA, HJ10, HO_4, HO_7, HO_251000, HO_251001, BK232, BK250, HB⟩ := hcut
   cases kq with
   | zero => exact absurd HA.out (by simp [laws_FnExactBatch.j0])
   | succ kj10 =>
    have H := HA.out
    clear HA
    simp only [laws_FnExactBatch.j0] at H
    by_cases c36 : x40_10 = true
    ·
     subst c36
     replace H := ifT_ H
     exact absurd (Option.some.inj H) (by rw [hr_]; decide)
    ·
     replace c36 := Bool.eq_false_iff.mpr c36
     subst c36
     replace H := ifF_ H
     replace H := Option.bind_eq_some_iff.mp H
     obtain ⟨⟨t256, t259⟩, A370, H⟩ := H
     replace H : ((laws_eqQueue.f kj10 t244 t247 t256 t259).bind fun t262 => (if t262 = true then ((laws_markQueue.f kj10 t244 t247 1).bind fun bt263 => (if bt263.1 < 0 then (laws_FnExactBatch.j1 kj10 t240 t243 t251 true l0_0 l0_1) else ((laws_eqReportS.f kj10 t251 t240).bind fun t266 => (if t266 = true then (laws_FnExactBatch.j1 kj10 t240 t243 t251 (t254 != t243) l0_0 l0_1) else (laws_FnExactBatch.j1 kj10 t240 t243 t251 true l0_0 l0_1))))) else (some false))) = some r := H
     have A37 := Aside0.mk A370
     clear A370
     obtain ⟨t262, A38, H⟩ := bindE_ H
     by_cases c39 : t262 = true
     ·
      subst c39
      replace H := ifT_ H
      replace H := Option.bind_eq_some_iff.mp H
      obtain ⟨⟨t263, t264, t265⟩, A400, H⟩ := H
      replace H : (if t263 < 0 then (laws_FnExactBatch.j1 kj10 t240 t243 t251 true l0_0 l0_1) else ((laws_eqReportS.f kj10 t251 t240).bind fun t266 => (if t266 = true then (laws_FnExactBatch.j1 kj10 t240 t243 t251 (t254 != t243) l0_0 l0_1) else (laws_FnExactBatch.j1 kj10 t240 t243 t251 true l0_0 l0_1)))) = some r := H
      have A40 := Aside0.mk A400
      clear A400
      have HC41 := Aside0.mk H
      clear H
      try go_wp2
      replace HO_4 := Aside0.mk (Kd.R_drew HO_4.out)
      replace HO_7 := Aside0.mk (Kd.R_drew HO_7.out)
      replace HO_251000 := Aside0.mk (Kd.R_drew HO_251000.out)
      replace HO_251001 := Aside0.mk (Kd.R_drew HO_251001.out)
      replace BK232 := Aside0.mk (blk_drew BK232.out)
      replace BK250 := Aside0.mk (blk_drew BK250.out)
      replace HB := Aside0.mk (below_drew1 HB.out)
      refine start_ (n := 5) (S := fun w' => w'.cell? ⟨gb250, 0, none⟩ = some (.slice Ao23 t244.length co23) ∧ w'.cell? ⟨gb250, 1, none⟩ = some (.slice Ao26 t247.length co26) ∧ w'.cell? ⟨gb232, 0, none⟩ = some (.slice A0_0 l0_0.length c0_0) ∧ w'.cell? ⟨gb232, 1, none⟩ = some (.slice A0_1 l0_1.length c0_1)) (ds := []) #[false, false, false, false, false] (by kernel_rfl) rfl rfl ⟨(blk_cell BK250.out 0).trans rfl, (blk_cell BK250.out 1).trans rfl, (blk_cell BK232.out 0).trans rfl, (blk_cell BK232.out 1).trans rfl⟩ (fun hHeld => ?_)
      generalize wc.drew = w42 at HO_4 HO_7 HO_251000 HO_251001 BK232 BK250 HB hHeld ⊢
      refine take_ (i := 0) (N := some 41) (v := ?_) (a' := ?_) #[true, false, false, false, false] rfl rfl (by kernel_rfl) (fun _ _ _ h => h) (Or.inl ⟨by rfl, ?_⟩) hHeld ?_ ?_
      rotate_left
      ·
       rintro w' ⟨s0, s1, s2, s3⟩
       go_simp
       with_reducible rfl
      rotate_left
      ·
       simp only [Act.put, List.setIfInBounds_toArray, List.set_cons_zero, List.set_cons_succ, i64_w, i32_w]
       rfl
      refine take_ (i := 1) (N := some 42) (v := ?_) (a' := ?_) #[true, true, false, false, false] rfl rfl (by kernel_rfl) (fun _ _ _ h => h) (Or.inl ⟨by rfl, ?_⟩) hHeld ?_ ?_
      rotate_left
      ·
       rintro w' ⟨s0, s1, s2, s3⟩
       go_simp
       with_reducible rfl
      rotate_left
      ·
       simp only [Act.put, List.setIfInBounds_toArray, List.set_cons_zero, List.set_cons_succ, i64_w, i32_w]
       rfl
      refine one_ (i := 2) (N := some 43) #[true, true, true, false, false] rfl rfl (by kernel_rfl) (by decide) (fun K hK => ?_)
      refine goes_ Try.func26 (by kernel_rfl) rfl #[.agg #[.slice A0_0 l0_0.length c0_0, .slice A0_1 l0_1.length c0_1]] (by rfl) rfl rfl (by (try simp only [List.map_toArray, List.map_cons, List.map_nil]); first | done | rfl | (simp only [List.length_drop, List.length_take]; rfl)) ?_
      with_reducible refine (laws_toQueue.calls kj10 _ _ l0_0 _ _ l0_1 t256 t259 _ ?side1 ?side2 ?side3 ?side4 A37.out).mono ?_
      (case side1 => repeat (first | exact (Kd.C_below HR0_0.out HB.out) | (with_reducible refine Kd.C_alloc ?_ _) | (with_reducible refine Kd.C_drewN ?_ _) | (with_reducible refine Kd.C_drew ?_)))
      (case side2 => exact HC0_0.out)
      (case side3 => repeat (first | exact (Kd.C_below HR0_1.out HB.out) | (with_reducible refine Kd.C_alloc ?_ _) | (with_reducible refine Kd.C_drewN ?_ _) | (with_reducible refine Kd.C_drew ?_)))
      (case side4 => exact HC0_1.out)
      rintro e w43 ⟨v257, v260, rfl, ho0, ho1, hb⟩
      refine ⟨_, rfl, ?_⟩
      have n0_ := Aside0.mk (Kd.R_elder' (by (with_reducible repeat (first | apply Kd.R_alloc | apply Kd.R_drewN | apply Kd.R_drew)); exact HO_4.out) (Kd.R_base ho0) hb)
      have n1_ := Aside0.mk (Kd.R_elder' (by (with_reducible repeat (first | apply Kd.R_alloc | apply Kd.R_drewN | apply Kd.R_drew)); exact HO_7.out) (Kd.R_base ho0) hb)
      have n2_ := Aside0.mk (Kd.R_elder' (by (with_reducible repeat (first | apply Kd.R_alloc | apply Kd.R_drewN | apply Kd.R_drew)); exact HO_251000.out) (Kd.R_base ho0) hb)
      have n3_ := Aside0.mk (Kd.R_elder' (by (with_reducible repeat (first | apply Kd.R_alloc | apply Kd.R_drewN | apply Kd.R_drew)); exact HO_251001.out) (Kd.R_base ho1) hb)
      have n4_ := Aside0.mk (Kd.R_lower (Kd.R_new' (Kd.R_new' (Kd.R_new' ho0 (Kd.R_lt (by (with_reducible repeat (first | apply Kd.R_alloc | apply Kd.R_drewN | apply Kd.R_drew)); exact HO_4.out))) (Kd.R_lt (by (with_reducible repeat (first | apply Kd.R_alloc | apply Kd.R_drewN | apply Kd.R_drew)); exact HO_7.out))) (Kd.R_lt (by (with_reducible repeat (first | apply Kd.R_alloc | apply Kd.R_drewN | apply Kd.R_drew)); exact HO_251000.out))) (below_size (by repeat (first | (with_reducible first | exact HB.out | apply below_alloc | apply pw_below_drewN | apply below_drew1 | refine below_set ?_ GE232.out | refine below_set ?_ GE250.out) | exact HB.out))))
      have n5_ := Aside0.mk (Kd.R_lower (Kd.R_new' ho1 (Kd.R_lt (by (with_reducible repeat (first | apply Kd.R_alloc | apply Kd.R_drewN | apply Kd.R_drew)); exact HO_251001.out))) (below_size (by repeat (first | (with_reducible first | exact HB.out | apply below_alloc | apply pw_below_drewN | apply below_drew1 | refine below_set ?_ GE232.out | refine below_set ?_ GE250.out) | exact HB.out))))
      have n6_ := blkB_ (g := gb232) (o := .cells #[.slice A0_0 l0_0.length c0_0, .slice A0_1 l0_1.length c0_1] 44 (0, 0)) hb
      have n7_ := blkB_ (g := gb250) (o := .cells #[.slice Ao23 t244.length co23, .slice Ao26 t247.length co26] 49 (0, 0)) hb
      have n8_ := Aside0.mk (below_step (by repeat (first | (with_reducible first | exact HB.out | apply below_alloc | apply pw_below_drewN | apply below_drew1 | refine below_set ?_ GE232.out | refine below_set ?_ GE250.out) | exact HB.out)) hb)
      clear HO_4
      clear HO_7
      clear HO_251000
      clear HO_251001
      clear BK232
      clear BK250
      clear HB
      have HO_4 := n0_
      have HO_7 := n1_
      have HO_251000 := n2_
      have HO_251001 := n3_
      have HO258 := n4_
      have HO261 := n5_
      have BK232 := n6_
      have BK250 := n7_
      have HB := n8_
      clear n0_ n1_ n2_ n3_ n4_ n5_ n6_ n7_ n8_
      (try clear hb)
      (try clear hb2)
      (try clear hk)
      (try clear hi)
      (try clear ho0)
      (try clear ho1)
      obtain ⟨Ao44, co44, eo44⟩ := Kd.R_slice HO258.out
      (first | subst eo44 | (injection eo44 with f1_ f2_ f3_; have f4_ := f1_.symm; have f5_ := f3_.symm; clear f1_ f2_ f3_; subst f4_; subst f5_))
      obtain ⟨Ao45, co45, eo45⟩ := Kd.R_slice HO261.out
      (first | subst eo45 | (injection eo45 with f1_ f2_ f3_; have f4_ := f1_.symm; have f5_ := f3_.symm; clear f1_ f2_ f3_; subst f4_; subst f5_))
      refine hK.out _ _ ⟨(blk_cell BK250.out 0).trans rfl, (blk_cell BK250.out 1).trans rfl, (blk_cell BK232.out 0).trans rfl, (blk_cell BK232.out 1).trans rfl⟩ (fun hHeld => ?_)
      clear hK K
      refine norm_ (a' := ?_) ?_ ?_
      rotate_left
      ·
       show Act.put _ (some 43) _ = _
       simp only [Act.put, List.setIfInBounds_toArray, List.set_cons_zero, List.set_cons_succ, i64_w, i32_w]
       rfl
      refine one_ (i := 3) (N := some 44) #[true, true, true, true, false] rfl rfl (by kernel_rfl) (by decide) (fun K hK => ?_)
      refine goes_ Try.func28 (by kernel_rfl) rfl #[.agg #[.slice Ao23 t244.length co23, .slice Ao26 t247.length co26], .agg #[.slice Ao44 t256.length co44, .slice Ao45 t259.length co45]] (by rfl) rfl rfl (by (try simp only [List.map_toArray, List.map_cons, List.map_nil]); first | done | rfl | (simp only [List.length_drop, List.length_take]; rfl)) ?_
      with_reducible refine (laws_eqQueue.calls kj10 _ _ t244 _ _ t247 _ _ t256 _ _ t259 true _ ?side1 ?side2 ?side3 ?side4 ?side5 ?side6 ?side7 ?side8 A38.out).mono ?_
      (case side1 => repeat (first | exact (Kd.R_reads' HO_251000.out).2.2 | (with_reducible refine Kd.C_alloc ?_ _) | (with_reducible refine Kd.C_drewN ?_ _) | (with_reducible refine Kd.C_drew ?_)))
      (case side2 => exact (Kd.R_reads' HO_251000.out).2.1)
      (case side3 => repeat (first | exact (Kd.R_reads' HO_251001.out).2.2 | (with_reducible refine Kd.C_alloc ?_ _) | (with_reducible refine Kd.C_drewN ?_ _) | (with_reducible refine Kd.C_drew ?_)))
      (case side4 => exact (Kd.R_reads' HO_251001.out).2.1)
      (case side5 => repeat (first | exact (Kd.R_reads' HO258.out).2.2 | (with_reducible refine Kd.C_alloc ?_ _) | (with_reducible refine Kd.C_drewN ?_ _) | (with_reducible refine Kd.C_drew ?_)))
      (case side6 => exact (Kd.R_reads' HO258.out).2.1)
      (case side7 => repeat (first | exact (Kd.R_reads' HO261.out).2.2 | (with_reducible refine Kd.C_alloc ?_ _) | (with_reducible refine Kd.C_drewN ?_ _) | (with_reducible refine Kd.C_drew ?_)))
      (case side8 => exact (Kd.R_reads' HO261.out).2.1)
      rintro e w46 ⟨rfl, hb⟩
      refine ⟨_, rfl, ?_⟩
      have n0_ := Aside0.mk (Kd.R_below (by (with_reducible repeat (first | apply Kd.R_alloc | apply Kd.R_drewN | apply Kd.R_drew)); exact HO_4.out) hb)
      have n1_ := Aside0.mk (Kd.R_below (by (with_reducible repeat (first | apply Kd.R_alloc | apply Kd.R_drewN | apply Kd.R_drew)); exact HO_7.out) hb)
      have n2_ := Aside0.mk (Kd.R_below (by (with_reducible repeat (first | apply Kd.R_alloc | apply Kd.R_drewN | apply Kd.R_drew)); exact HO_251000.out) hb)
      have n3_ := Aside0.mk (Kd.R_below (by (with_reducible repeat (first | apply Kd.R_alloc | apply Kd.R_drewN | apply Kd.R_drew)); exact HO_251001.out) hb)
      have n4_ := Aside0.mk (Kd.R_below (by (with_reducible repeat (first | apply Kd.R_alloc | apply Kd.R_drewN | apply Kd.R_drew)); exact HO258.out) hb)
      have n5_ := Aside0.mk (Kd.R_below (by (with_reducible repeat (first | apply Kd.R_alloc | apply Kd.R_drewN | apply Kd.R_drew)); exact HO261.out) hb)
      have n6_ := blkB_ (g := gb232) (o := .cells #[.slice A0_0 l0_0.length c0_0, .slice A0_1 l0_1.length c0_1] 44 (0, 0)) hb
      have n7_ := blkB_ (g := gb250) (o := .cells #[.slice Ao23 t244.length co23, .slice Ao26 t247.length co26] 49 (0, 0)) hb
      have n8_ := Aside0.mk (below_step (by repeat (first | (with_reducible first | exact HB.out | apply below_alloc | apply pw_below_drewN | apply below_drew1 | refine below_set ?_ GE232.out | refine below_set ?_ GE250.out) | exact HB.out)) hb)
      clear HO_4
      clear HO_7
      clear HO_251000
      clear HO_251001
      clear HO258
      clear HO261
      clear BK232
      clear BK250
      clear HB
      have HO_4 := n0_
      have HO_7 := n1_
      have HO_251000 := n2_
      have HO_251001 := n3_
      have HO258 := n4_
      have HO261 := n5_
      have BK232 := n6_
      have BK250 := n7_
      have HB := n8_
      clear n0_ n1_ n2_ n3_ n4_ n5_ n6_ n7_ n8_
      (try clear hb)
      (try clear hb2)
      (try clear hk)
      (try clear hi)
      refine hK.out _ _ ⟨(blk_cell BK250.out 0).trans rfl, (blk_cell BK250.out 1).trans rfl, (blk_cell BK232.out 0).trans rfl, (blk_cell BK232.out 1).trans rfl⟩ (fun hHeld => ?_)
      clear hK K
      refine norm_ (a' := ?_) ?_ ?_
      rotate_left
      ·
       show Act.put _ (some 44) _ = _
       simp only [Act.put, List.setIfInBounds_toArray, List.set_cons_zero, List.set_cons_succ, i64_w, i32_w]
       rfl
      refine pure_ (i := 4) (N := some 45) (v := ?_) (a' := ?_) #[true, true, true, true, true] rfl rfl (by kernel_rfl) (fun _ _ _ h => h) (Or.inl ⟨by rfl, ?_⟩) ?_ ?_
      rotate_left
      ·
       intro w'
       go_simp
       with_reducible rfl
      rotate_left
      ·
       simp only [Act.put, List.setIfInBounds_toArray, List.set_cons_zero, List.set_cons_succ, i64_w, i32_w]
       rfl
      refine done_ (by kernel_rfl) ?_
      have hnb47 := NB250_232.out
      have hnc47 := NB232_250.out
      obtain ⟨hcz48_0, hcz48_1, hfz48_0, hfz48_1⟩ := cz2_ BK250
      go_upto_region 14 with (first | ((with_reducible refine gate_callee (f := 34) rfl ?_); refine cU_ (some 48) Try.func34 #[.agg #[.slice Ao23 t244.length co23, .slice Ao26 t247.length co26], .int .i64 1] ?_; (with_reducible refine (laws_markQueue.calls kj10 (fun k_ => some k_ = (.slice Ao23 t244.length co23 : Value).ownBlock) (.slice Ao23 t244.length co23) t244 (fun k_ => some k_ = (.slice Ao26 t247.length co26 : Value).ownBlock) (.slice Ao26 t247.length co26) t247 1 t263 t264 t265 w _ ?side1 ?side2 ?side3 A40.out).mono ?_); (case side1 => repeat (first | (with_reducible first | exact HB.out | apply below_alloc | apply pw_below_drewN | apply below_drew1 | refine below_set ?_ GE232.out | refine below_set ?_ GE250.out) | exact HB.out)); (case side2 => exact Kd.R_tight rfl HO_251000.out); (case side3 => exact Kd.R_tight rfl HO_251001.out); rintro e w49 ⟨rfl, hy0, hy1, hb, hkp⟩; refine ⟨_, rfl, ?_⟩; have n0_ := Aside0.mk (Kd.R_mono (ok' := fun k_ => some k_ ≠ (v252 : Value).ownBlock ∧ some k_ ≠ (.slice Ao23 t244.length co23 : Value).ownBlock ∧ some k_ ≠ (.slice Ao44 t256.length co44 : Value).ownBlock) (Kd.R_keptB ((Kd.R_apart' HO_4.out (Kd.R_typed HO_251001.out) (by decide))) hkp (fun k_ hk_ hs_ => Or.elim hs_ (fun e_ => (hk_.1.1.2) e_) (fun e_ => (hk_.2) e_))) (fun k_ hk_ => ⟨hk_.1.1.1.1, hk_.1.1.1.2, hk_.1.1.2⟩)); have n1_ := Aside0.mk (Kd.R_mono (ok' := fun k_ => some k_ ≠ (v241 : Value).ownBlock ∧ some k_ ≠ (.slice Ao23 t244.length co23 : Value).ownBlock ∧ some k_ ≠ (.slice Ao44 t256.length co44 : Value).ownBlock) (Kd.R_keptB ((Kd.R_apart' HO_7.out (Kd.R_typed HO_251001.out) (by decide))) hkp (fun k_ hk_ hs_ => Or.elim hs_ (fun e_ => (hk_.1.1.2) e_) (fun e_ => (hk_.2) e_))) (fun k_ hk_ => ⟨hk_.1.1.1.1, hk_.1.1.1.2, hk_.1.1.2⟩)); have n2_ := Aside0.mk (Kd.R_reok rfl hy0 (fun k_ e_ => HO_251000.out.1 k_ e_)); have n3_ := Aside0.mk (Kd.R_reok rfl hy1 (fun k_ e_ => HO_251001.out.1 k_ e_)); have n4_ := Aside0.mk (blk_kept (by (with_reducible repeat (first | refine blk_drewN ?_ _ | refine blk_drew ?_ | refine blk_alloc ?_ _)); exact BK232.out) hkp (fun hs_ => Or.elim hs_ (fun e_ => (fun e_ => (Kd.R_ne HO_251000.out BK232.out (by decide)) e_) e_) (fun e_ => (fun e_ => (Kd.R_ne HO_251001.out BK232.out (by decide)) e_) e_))); have n5_ := Aside0.mk (blk_kept (by (with_reducible repeat (first | refine blk_drewN ?_ _ | refine blk_drew ?_ | refine blk_alloc ?_ _)); exact BK250.out) hkp (fun hs_ => Or.elim hs_ (fun e_ => (fun e_ => (Kd.R_ne HO_251000.out BK250.out (by decide)) e_) e_) (fun e_ => (fun e_ => (Kd.R_ne HO_251001.out BK250.out (by decide)) e_) e_))); have n6_ := Aside0.mk (Kd.R_mono (ok' := fun k_ => some k_ ≠ (v241 : Value).ownBlock ∧ some k_ ≠ (v252 : Value).ownBlock ∧ some k_ ≠ (.slice Ao23 t244.length co23 : Value).ownBlock) (Kd.R_keptB ((Kd.R_apart' HO258.out (Kd.R_typed HO_251001.out) (by decide))) hkp (fun k_ hk_ hs_ => Or.elim hs_ (fun e_ => (hk_.1.2) e_) (fun e_ => (hk_.2) e_))) (fun k_ hk_ => ⟨hk_.1.1.1.1.2, hk_.1.1.1.2, hk_.1.1.2⟩)); have n7_ := Aside0.mk (Kd.R_mono (ok' := fun k_ => some k_ ≠ (.slice Ao26 t247.length co26 : Value).ownBlock) (Kd.R_keptB ((Kd.R_apart' HO261.out (Kd.R_typed HO_251000.out) (by decide))) hkp (fun k_ hk_ hs_ => Or.elim hs_ (fun e_ => (hk_.2) e_) (fun e_ => (hk_.1.2) e_))) (fun k_ hk_ => hk_.1.1.2)); have n8_ := Aside0.mk (hb); clear HO_4; clear HO_7; clear HO_251000; clear HO_251001; clear BK232; clear BK250; clear HO258; clear HO261; clear HB; have HO_4 := n0_; have HO_7 := n1_; have HO_251000 := n2_; have HO_251001 := n3_; have BK232 := n4_; have BK250 := n5_; have HO258 := n6_; have HO261 := n7_; have HB := n8_; clear n0_ n1_ n2_ n3_ n4_ n5_ n6_ n7_ n8_; (try clear hb); (try clear hkp); (try clear hy0); (try clear hy1)))
      (try simp only [Act.put, List.setIfInBounds_toArray, List.set_cons_zero, List.set_cons_succ])
      go_cut [61] (fun v61 wc => ∃ (kq : Nat) (x61_40 : Bool), v61 = .bool x61_40 ∧ Aside0 (laws_FnExactBatch.j1 kq t240 t243 t251 x61_40 l0_0 l0_1 = some r) ∧ Aside0 (kq ≤ kj10) ∧ Aside0 (Kd.R k64 64 wc w.heap.size (fun k_ => some k_ ≠ (v252 : Value).ownBlock ∧ some k_ ≠ ((.slice Ao23 t244.length co23) : Value).ownBlock) v241 t240) ∧ Aside0 (Kd.R k64 64 wc w.heap.size (fun k_ => some k_ ≠ (v241 : Value).ownBlock ∧ some k_ ≠ ((.slice Ao23 t244.length co23) : Value).ownBlock) v252 t251) ∧ Aside0 (Kd.R k64 64 wc w.heap.size (fun k_ => some k_ ≠ (v241 : Value).ownBlock ∧ some k_ ≠ (v252 : Value).ownBlock) (.slice Ao23 t244.length co23) t264) ∧ Aside0 (Kd.R Kd.string 9 wc w.heap.size (fun _ => True) (.slice Ao26 t247.length co26) t265) ∧ Aside0 (wc.heap[gb232]? = some (.cells #[(.slice A0_0 l0_0.length c0_0), (.slice A0_1 l0_1.length c0_1)] 44 (0, 0))) ∧ Aside0 (wc.heap[gb250]? = some (.cells #[(.slice Ao23 t244.length co23), (.slice Ao26 t247.length co26)] 49 (0, 0))) ∧ Aside0 (Below w.heap.size w wc))
      case first =>
       have H := HC41.out
       clear HC41
       by_cases c50 : t263 < 0
       ·
        rw [if_pos c50] at H
        have c50b0 : decide (t263 < 0) = true := decide_eq_true c50
        clear c50
        (first | rw [c50b0] | (simp only [i64_w, i32_w]; rw [c50b0]) | skip)
        have H' := Aside0.mk H
        clear H
        go_wp2
        go_meet
        case rel => exact ⟨_, (true), eqE_, H', ⟨by have := HJ10.out; first | omega | exact Nat.le_refl _⟩, ⟨by (with_reducible repeat (first | apply Kd.R_alloc | apply Kd.R_drewN | apply Kd.R_drew)); exact Kd.R_mono HO_4.out (fun _ hk => ⟨hk.1, hk.2.1⟩)⟩, ⟨by (with_reducible repeat (first | apply Kd.R_alloc | apply Kd.R_drewN | apply Kd.R_drew)); exact Kd.R_mono HO_7.out (fun _ hk => ⟨hk.1, hk.2.1⟩)⟩, ⟨by (with_reducible repeat (first | apply Kd.R_alloc | apply Kd.R_drewN | apply Kd.R_drew)); exact Kd.R_mono HO_251000.out (fun _ hk => ⟨hk.1.1, hk.1.2⟩)⟩, ⟨by (with_reducible repeat (first | apply Kd.R_alloc | apply Kd.R_drewN | apply Kd.R_drew)); exact Kd.R_mono HO_251001.out (fun _ hk => trivial)⟩, ⟨blkE_⟩, ⟨blkE_⟩, ⟨by repeat (first | (with_reducible first | exact HB.out | apply below_alloc | apply pw_below_drewN | apply below_drew1 | refine below_set ?_ GE232.out | refine below_set ?_ GE250.out) | exact HB.out)⟩⟩
       ·
        rw [if_neg c50] at H
        have c50b0 : decide (t263 < 0) = false := decide_eq_false c50
        clear c50
        (first | rw [c50b0] | (simp only [i64_w, i32_w]; rw [c50b0]) | skip)
        obtain ⟨t266, A51, H⟩ := bindE_ H
        by_cases c52 : t266 = true
        ·
         subst c52
         replace H := ifT_ H
         have H' := Aside0.mk H
         clear H
         obtain ⟨Ao53, co53, eo53⟩ := Kd.R_slice HO_7.out
         subst eo53
         obtain ⟨Ao54, co54, eo54⟩ := Kd.R_slice HO_4.out
         subst eo54
         go_wp2_with (first | (go_at_call 33; (with_reducible refine (laws_eqReportS.calls kj10 _ _ t251 _ _ t240 true _ ?side1 ?side2 ?side3 ?side4 A51.out).mono ?_); (case side1 => repeat (first | exact (Kd.R_reads' HO_7.out).2.2 | (with_reducible refine Kd.C_alloc ?_ _) | (with_reducible refine Kd.C_drewN ?_ _) | (with_reducible refine Kd.C_drew ?_))); (case side2 => exact (Kd.R_reads' HO_7.out).2.1); (case side3 => repeat (first | exact (Kd.R_reads' HO_4.out).2.2 | (with_reducible refine Kd.C_alloc ?_ _) | (with_reducible refine Kd.C_drewN ?_ _) | (with_reducible refine Kd.C_drew ?_))); (case side4 => exact (Kd.R_reads' HO_4.out).2.1); rintro e w55 ⟨rfl, hb⟩; have n0_ := Aside0.mk (Kd.R_below (by (with_reducible repeat (first | apply Kd.R_alloc | apply Kd.R_drewN | apply Kd.R_drew)); exact HO_4.out) hb); have n1_ := Aside0.mk (Kd.R_below (by (with_reducible repeat (first | apply Kd.R_alloc | apply Kd.R_drewN | apply Kd.R_drew)); exact HO_7.out) hb); have n2_ := Aside0.mk (Kd.R_below (by (with_reducible repeat (first | apply Kd.R_alloc | apply Kd.R_drewN | apply Kd.R_drew)); exact HO_251000.out) hb); have n3_ := Aside0.mk (Kd.R_below (by (with_reducible repeat (first | apply Kd.R_alloc | apply Kd.R_drewN | apply Kd.R_drew)); exact HO_251001.out) hb); have n4_ := Aside0.mk (Kd.R_below (by (with_reducible repeat (first | apply Kd.R_alloc | apply Kd.R_drewN | apply Kd.R_drew)); exact HO258.out) hb); have n5_ := Aside0.mk (Kd.R_below (by (with_reducible repeat (first | apply Kd.R_alloc | apply Kd.R_drewN | apply Kd.R_drew)); exact HO261.out) hb); have n6_ := blkB_ (g := gb232) (o := .cells #[.slice A0_0 l0_0.length c0_0, .slice A0_1 l0_1.length c0_1] 44 (0, 0)) hb; have n7_ := blkB_ (g := gb250) (o := .cells #[.slice Ao23 t244.length co23, .slice Ao26 t247.length co26] 49 (0, 0)) hb; have n8_ := Aside0.mk (below_step (by repeat (first | (with_reducible first | exact HB.out | apply below_alloc | apply pw_below_drewN | apply below_drew1 | refine below_set ?_ GE232.out | refine below_set ?_ GE250.out) | exact HB.out)) hb); clear HO_4; clear HO_7; clear HO_251000; clear HO_251001; clear HO258; clear HO261; clear BK232; clear BK250; clear HB; have HO_4 := n0_; have HO_7 := n1_; have HO_251000 := n2_; have HO_251001 := n3_; have HO258 := n4_; have HO261 := n5_; have BK232 := n6_; have BK250 := n7_; have HB := n8_; clear n0_ n1_ n2_ n3_ n4_ n5_ n6_ n7_ n8_; (try clear hb); (try clear hb2); (try clear hk); (try clear hi)))
         go_meet
         case rel => exact ⟨_, ((t254 != t243)), eqE_, H', ⟨by have := HJ10.out; first | omega | exact Nat.le_refl _⟩, ⟨by (with_reducible repeat (first | apply Kd.R_alloc | apply Kd.R_drewN | apply Kd.R_drew)); exact Kd.R_mono HO_4.out (fun _ hk => ⟨hk.1, hk.2.1⟩)⟩, ⟨by (with_reducible repeat (first | apply Kd.R_alloc | apply Kd.R_drewN | apply Kd.R_drew)); exact Kd.R_mono HO_7.out (fun _ hk => ⟨hk.1, hk.2.1⟩)⟩, ⟨by (with_reducible repeat (first | apply Kd.R_alloc | apply Kd.R_drewN | apply Kd.R_drew)); exact Kd.R_mono HO_251000.out (fun _ hk => ⟨hk.1.1, hk.1.2⟩)⟩, ⟨by (with_reducible repeat (first | apply Kd.R_alloc | apply Kd.R_drewN | apply Kd.R_drew)); exact Kd.R_mono HO_251001.out (fun _ hk => trivial)⟩, ⟨blkE_⟩, ⟨blkE_⟩, ⟨by repeat (first | (with_reducible first | exact HB.out | apply below_alloc | apply pw_below_drewN | apply below_drew1 | refine below_set ?_ GE232.out | refine below_set ?_ GE250.out) | exact HB.out)⟩⟩
        ·
         replace c52 := Bool.eq_false_iff.mpr c52
         subst c52
         replace H := ifF_ H
         have H' := Aside0.mk H
         clear H
         obtain ⟨Ao56, co56, eo56⟩ := Kd.R_slice HO_7.out
         subst eo56
         obtain ⟨Ao57, co57, eo57⟩ := Kd.R_slice HO_4.out
         subst eo57
         go_wp2_with (first | (go_at_call 33; (with_reducible refine (laws_eqReportS.calls kj10 _ _ t251 _ _ t240 false _ ?side1 ?side2 ?side3 ?side4 A51.out).mono ?_); (case side1 => repeat (first | exact (Kd.R_reads' HO_7.out).2.2 | (with_reducible refine Kd.C_alloc ?_ _) | (with_reducible refine Kd.C_drewN ?_ _) | (with_reducible refine Kd.C_drew ?_))); (case side2 => exact (Kd.R_reads' HO_7.out).2.1); (case side3 => repeat (first | exact (Kd.R_reads' HO_4.out).2.2 | (with_reducible refine Kd.C_alloc ?_ _) | (with_reducible refine Kd.C_drewN ?_ _) | (with_reducible refine Kd.C_drew ?_))); (case side4 => exact (Kd.R_reads' HO_4.out).2.1); rintro e w58 ⟨rfl, hb⟩; have n0_ := Aside0.mk (Kd.R_below (by (with_reducible repeat (first | apply Kd.R_alloc | apply Kd.R_drewN | apply Kd.R_drew)); exact HO_4.out) hb); have n1_ := Aside0.mk (Kd.R_below (by (with_reducible repeat (first | apply Kd.R_alloc | apply Kd.R_drewN | apply Kd.R_drew)); exact HO_7.out) hb); have n2_ := Aside0.mk (Kd.R_below (by (with_reducible repeat (first | apply Kd.R_alloc | apply Kd.R_drewN | apply Kd.R_drew)); exact HO_251000.out) hb); have n3_ := Aside0.mk (Kd.R_below (by (with_reducible repeat (first | apply Kd.R_alloc | apply Kd.R_drewN | apply Kd.R_drew)); exact HO_251001.out) hb); have n4_ := Aside0.mk (Kd.R_below (by (with_reducible repeat (first | apply Kd.R_alloc | apply Kd.R_drewN | apply Kd.R_drew)); exact HO258.out) hb); have n5_ := Aside0.mk (Kd.R_below (by (with_reducible repeat (first | apply Kd.R_alloc | apply Kd.R_drewN | apply Kd.R_drew)); exact HO261.out) hb); have n6_ := blkB_ (g := gb232) (o := .cells #[.slice A0_0 l0_0.length c0_0, .slice A0_1 l0_1.length c0_1] 44 (0, 0)) hb; have n7_ := blkB_ (g := gb250) (o := .cells #[.slice Ao23 t244.length co23, .slice Ao26 t247.length co26] 49 (0, 0)) hb; have n8_ := Aside0.mk (below_step (by repeat (first | (with_reducible first | exact HB.out | apply below_alloc | apply pw_below_drewN | apply below_drew1 | refine below_set ?_ GE232.out | refine below_set ?_ GE250.out) | exact HB.out)) hb); clear HO_4; clear HO_7; clear HO_251000; clear HO_251001; clear HO258; clear HO261; clear BK232; clear BK250; clear HB; have HO_4 := n0_; have HO_7 := n1_; have HO_251000 := n2_; have HO_251001 := n3_; have HO258 := n4_; have HO261 := n5_; have BK232 := n6_; have BK250 := n7_; have HB := n8_; clear n0_ n1_ n2_ n3_ n4_ n5_ n6_ n7_ n8_; (try clear hb); (try clear hb2); (try clear hk); (try clear hi)))
         go_meet
         case rel => exact ⟨_, (true), eqE_, H', ⟨by have := HJ10.out; first | omega | exact Nat.le_refl _⟩, ⟨by (with_reducible repeat (first | apply Kd.R_alloc | apply Kd.R_drewN | apply Kd.R_drew)); exact Kd.R_mono HO_4.out (fun _ hk => ⟨hk.1, hk.2.1⟩)⟩, ⟨by (with_reducible repeat (first | apply Kd.R_alloc | apply Kd.R_drewN | apply Kd.R_drew)); exact Kd.R_mono HO_7.out (fun _ hk => ⟨hk.1, hk.2.1⟩)⟩, ⟨by (with_reducible repeat (first | apply Kd.R_alloc | apply Kd.R_drewN | apply Kd.R_drew)); exact Kd.R_mono HO_251000.out (fun _ hk => ⟨hk.1.1, hk.1.2⟩)⟩, ⟨by (with_reducible repeat (first | apply Kd.R_alloc | apply Kd.R_drewN | apply Kd.R_drew)); exact Kd.R_mono HO_251001.out (fun _ hk => trivial)⟩, ⟨blkE_⟩, ⟨blkE_⟩, ⟨by repeat (first | (with_reducible first | exact HB.out | apply below_alloc | apply pw_below_drewN | apply below_drew1 | refine below_set ?_ GE232.out | refine below_set ?_ GE250.out) | exact HB.out)⟩⟩
      case rest =>
       clear HC41
       try clear c3
       try clear c3b0
       try clear c36
       try clear c39
       try clear hcz13_0 hcz13_1
       try clear hcz15_0 hcz15_1
       try clear hcz20_0 hcz20_1
       try clear hcz25_0 hcz25_1
       try clear hcz48_0 hcz48_1
       try clear hcz5_0 hcz5_1
       try clear hfz13_0 hfz13_1
       try clear hfz15_0 hfz15_1
       try clear hfz20_0 hfz20_1
       try clear hfz25_0 hfz25_1
       try clear hfz48_0 hfz48_1
       try clear hfz5_0 hfz5_1
       obtain ⟨kq, x61_40, rfl, HA, HJ40, HO_4, HO_7, HO_251000, HO_251001, BK232, BK250, HB⟩ := hcut
       have hl251000_40 := (Kd.R_reads' HO_251000.out).1
       rw [hl251000_40] at HO_251000
       (try simp only [hl251000_40])
       (try simp only [hl251000_40] at BK232)
       (try simp only [hl251000_40] at BK250)
       (try simp only [hl251000_40] at HO_4)
       (try simp only [hl251000_40] at HO_7)
       (try simp only [hl251000_40] at HO_251001)
       have hl251001_40 := (Kd.R_reads' HO_251001.out).1
       rw [hl251001_40] at HO_251001
       (try simp only [hl251001_40])
       (try simp only [hl251001_40] at BK232)
       (try simp only [hl251001_40] at BK250)
       (try simp only [hl251001_40] at HO_4)
       (try simp only [hl251001_40] at HO_7)
       (try simp only [hl251001_40] at HO_251000)
       cases kq with
       | zero => exact absurd HA.out (by simp [laws_FnExactBatch.j1])
       | succ kj40 =>
        have H := HA.out
        clear HA
        simp only [laws_FnExactBatch.j1] at H
        by_cases c59 : x61_40 = true
        ·
         subst c59
         replace H := ifT_ H
         exact absurd (Option.some.inj H) (by rw [hr_]; decide)
        ·
         replace c59 := Bool.eq_false_iff.mpr c59
         subst c59
         replace H := ifF_ H
         replace H := Option.bind_eq_some_iff.mp H
         obtain ⟨⟨t267, t268⟩, A600, H⟩ := H
         replace H : ((laws_heldReportS.f kj40 t268 1).bind fun t269 => (if t269 < 0 then (some false) else (if t269 = t267 then ((laws_toQueue.f kj40 l0_0 l0_1).bind fun bt270 => ((impl_Batch.f kj40 bt270.1 bt270.2).bind fun bt276 => ((laws_eqReportS.f kj40 bt276.1 t240).bind fun t280 => (if t280 = true then (laws_FnExactBatch.j2 kj40 t268 t267 (bt276.2 != t243)) else (laws_FnExactBatch.j2 kj40 t268 t267 true))))) else (some false)))) = some r := H
         have A60 := Aside0.mk A600
         clear A600
         obtain ⟨t269, A61, H⟩ := bindE_ H
         by_cases c62 : t269 < 0
         ·
          rw [if_pos c62] at H
          have c62b0 : decide (t269 < 0) = true := decide_eq_true c62
          clear c62
          exact absurd (Option.some.inj H) (by rw [hr_]; decide)
         ·
          rw [if_neg c62] at H
          have c62b0 : decide (t269 < 0) = false := decide_eq_false c62
          clear c62
          by_cases c63 : t269 = t267
          ·
           rw [if_pos c63] at H
           have c63b0 : (t269 == t267) = true := beq_iff_eq.mpr c63
           have c63b1 : (t269 != t267) = false := bne_eq_false_iff_eq.mpr c63
           clear c63
           replace H := Option.bind_eq_some_iff.mp H
           obtain ⟨⟨t270, t273⟩, A640, H⟩ := H
           replace H : ((impl_Batch.f kj40 t270 t273).bind fun bt276 => ((laws_eqReportS.f kj40 bt276.1 t240).bind fun t280 => (if t280 = true then (laws_FnExactBatch.j2 kj40 t268 t267 (bt276.2 != t243)) else (laws_FnExactBatch.j2 kj40 t268 t267 true)))) = some r := H
           have A64 := Aside0.mk A640
           clear A640
           replace H := Option.bind_eq_some_iff.mp H
           obtain ⟨⟨t276, t279⟩, A650, H⟩ := H
           replace H : ((laws_eqReportS.f kj40 t276 t240).bind fun t280 => (if t280 = true then (laws_FnExactBatch.j2 kj40 t268 t267 (t279 != t243)) else (laws_FnExactBatch.j2 kj40 t268 t267 true))) = some r := H
           have A65 := Aside0.mk A650
           clear A650
           have HC66 := Aside0.mk H
           clear H
           obtain ⟨Ao67, co67, eo67⟩ := Kd.R_slice HO_7.out
           subst eo67
           go_upto_region 25 with (first | ((with_reducible refine gate_callee (f := 35) rfl ?_); refine cU_ (some 64) Try.func35 #[.slice Ao67 t251.length co67, .int .i64 1] ?_; (with_reducible refine (laws_markReportS.calls kj40 (fun k_ => some k_ = (.slice Ao67 t251.length co67 : Value).ownBlock) (.slice Ao67 t251.length co67) t251 1 t267 t268 w _ ?side1 ?side2 A60.out).mono ?_); (case side1 => repeat (first | (with_reducible first | exact HB.out | apply below_alloc | apply pw_below_drewN | apply below_drew1 | refine below_set ?_ GE232.out | refine below_set ?_ GE250.out) | exact HB.out)); (case side2 => exact Kd.R_tight rfl HO_7.out); rintro e w68 ⟨rfl, hy0, hb, hkp⟩; refine ⟨_, rfl, ?_⟩; have n0_ := Aside0.mk (Kd.R_mono (ok' := fun k_ => some k_ ≠ (.slice Ao67 t251.length co67 : Value).ownBlock ∧ some k_ ≠ (.slice Ao23 t264.length co23 : Value).ownBlock) (Kd.R_keptB (HO_4.out) hkp (fun k_ hk_ hs_ => (hk_.1) hs_)) (fun k_ hk_ => ⟨hk_.1.1, hk_.1.2⟩)); have n1_ := Aside0.mk (Kd.R_reok rfl hy0 (fun k_ e_ => HO_7.out.1 k_ e_)); have n2_ := Aside0.mk (Kd.R_mono (ok' := fun k_ => some k_ ≠ (v241 : Value).ownBlock ∧ some k_ ≠ (.slice Ao67 t251.length co67 : Value).ownBlock) (Kd.R_keptB (HO_251000.out) hkp (fun k_ hk_ hs_ => (hk_.2) hs_)) (fun k_ hk_ => ⟨hk_.1.1, hk_.1.2⟩)); have n3_ := Aside0.mk (Kd.R_mono (ok' := fun k_ => True) (Kd.R_keptB ((Kd.R_apart' HO_251001.out (Kd.R_typed HO_7.out) (by decide))) hkp (fun k_ hk_ hs_ => (hk_.2) hs_)) (fun k_ hk_ => trivial)); have n4_ := Aside0.mk (blk_kept (by (with_reducible repeat (first | refine blk_drewN ?_ _ | refine blk_drew ?_ | refine blk_alloc ?_ _)); exact BK232.out) hkp (fun hs_ => (fun e_ => (Kd.R_ne HO_7.out BK232.out (by decide)) e_) hs_)); have n5_ := Aside0.mk (blk_kept (by (with_reducible repeat (first | refine blk_drewN ?_ _ | refine blk_drew ?_ | refine blk_alloc ?_ _)); exact BK250.out) hkp (fun hs_ => (fun e_ => (Kd.R_ne HO_7.out BK250.out (by decide)) e_) hs_)); have n6_ := Aside0.mk (hb); clear HO_4; clear HO_7; clear HO_251000; clear HO_251001; clear BK232; clear BK250; clear HB; have HO_4 := n0_; have HO_7 := n1_; have HO_251000 := n2_; have HO_251001 := n3_; have BK232 := n4_; have BK250 := n5_; have HB := n6_; clear n0_ n1_ n2_ n3_ n4_ n5_ n6_; (try clear hb); (try clear hkp); (try clear hy0)) | ((with_reducible refine gate_callee (f := 36) rfl ?_); refine goesL_ (some 67) rfl rfl Try.func36 (by kernel_rfl) rfl #[.slice Ao67 t268.length co67, .int .i64 1] rfl (by (try simp only [List.map_toArray, List.map_cons, List.map_nil]); first | done | (rw [show t268.length = t251.length from (Kd.R_reads' HO_7.out).1.symm] <;> rfl) | rfl | (simp only [List.length_drop, List.length_take]; rfl)) ?_; (with_reducible refine (laws_heldReportS.calls kj40 _ _ t268 1 t269 _ ?side1 ?side2 A61.out).mono ?_); (case side1 => repeat (first | exact (Kd.R_reads' HO_7.out).2.2 | (with_reducible refine Kd.C_alloc ?_ _) | (with_reducible refine Kd.C_drewN ?_ _) | (with_reducible refine Kd.C_drew ?_))); (case side2 => rw [show t268.length = t251.length from (Kd.R_reads' HO_7.out).1.symm]; exact (Kd.R_reads' HO_7.out).2.1); rintro e w69 ⟨rfl, hb⟩; refine ⟨_, rfl, ?_⟩; have n0_ := Aside0.mk (Kd.R_below (by (with_reducible repeat (first | apply Kd.R_alloc | apply Kd.R_drewN | apply Kd.R_drew)); exact HO_4.out) hb); have n1_ := Aside0.mk (Kd.R_below (by (with_reducible repeat (first | apply Kd.R_alloc | apply Kd.R_drewN | apply Kd.R_drew)); exact HO_7.out) hb); have n2_ := Aside0.mk (Kd.R_below (by (with_reducible repeat (first | apply Kd.R_alloc | apply Kd.R_drewN | apply Kd.R_drew)); exact HO_251000.out) hb); have n3_ := Aside0.mk (Kd.R_below (by (with_reducible repeat (first | apply Kd.R_alloc | apply Kd.R_drewN | apply Kd.R_drew)); exact HO_251001.out) hb); have n4_ := blkB_ (g := gb232) (o := .cells #[.slice A0_0 l0_0.length c0_0, .slice A0_1 l0_1.length c0_1] 44 (0, 0)) hb; have n5_ := blkB_ (g := gb250) (o := .cells #[.slice Ao23 t264.length co23, .slice Ao26 t265.length co26] 49 (0, 0)) hb; have n6_ := Aside0.mk (below_step (by repeat (first | (with_reducible first | exact HB.out | apply below_alloc | apply pw_below_drewN | apply below_drew1 | refine below_set ?_ GE232.out | refine below_set ?_ GE250.out) | exact HB.out)) hb); clear HO_4; clear HO_7; clear HO_251000; clear HO_251001; clear BK232; clear BK250; clear HB; have HO_4 := n0_; have HO_7 := n1_; have HO_251000 := n2_; have HO_251001 := n3_; have BK232 := n4_; have BK250 := n5_; have HB := n6_; clear n0_ n1_ n2_ n3_ n4_ n5_ n6_; (try clear hb); (try clear hb2); (try clear hk); (try clear hi); have hnb70 := NB232_250.out; have hnc70 := NB250_232.out; obtain ⟨hcz71_0, hcz71_1, hfz71_0, hfz71_1⟩ := cz2_ BK232) | ((with_reducible refine gate_callee (f := 26) rfl ?_); refine cU_ (some 75) Try.func26 #[.agg #[.slice A0_0 l0_0.length c0_0, .slice A0_1 l0_1.length c0_1]] ?_; (with_reducible refine (laws_toQueue.calls kj40 _ _ l0_0 _ _ l0_1 t270 t273 _ ?side1 ?side2 ?side3 ?side4 A64.out).mono ?_); (case side1 => repeat (first | exact (Kd.C_below HR0_0.out HB.out) | (with_reducible refine Kd.C_alloc ?_ _) | (with_reducible refine Kd.C_drewN ?_ _) | (with_reducible refine Kd.C_drew ?_))); (case side2 => exact HC0_0.out); (case side3 => repeat (first | exact (Kd.C_below HR0_1.out HB.out) | (with_reducible refine Kd.C_alloc ?_ _) | (with_reducible refine Kd.C_drewN ?_ _) | (with_reducible refine Kd.C_drew ?_))); (case side4 => exact HC0_1.out); rintro e w72 ⟨v271, v274, rfl, ho0, ho1, hb⟩; refine ⟨_, rfl, ?_⟩; have n0_ := Aside0.mk (Kd.R_elder' (by (with_reducible repeat (first | apply Kd.R_alloc | apply Kd.R_drewN | apply Kd.R_drew)); exact HO_4.out) (Kd.R_base ho0) hb); have n1_ := Aside0.mk (Kd.R_elder' (by (with_reducible repeat (first | apply Kd.R_alloc | apply Kd.R_drewN | apply Kd.R_drew)); exact HO_7.out) (Kd.R_base ho0) hb); have n2_ := Aside0.mk (Kd.R_elder' (by (with_reducible repeat (first | apply Kd.R_alloc | apply Kd.R_drewN | apply Kd.R_drew)); exact HO_251000.out) (Kd.R_base ho0) hb); have n3_ := Aside0.mk (Kd.R_elder' (by (with_reducible repeat (first | apply Kd.R_alloc | apply Kd.R_drewN | apply Kd.R_drew)); exact HO_251001.out) (Kd.R_base ho1) hb); have n4_ := Aside0.mk (Kd.R_lower (Kd.R_new' (Kd.R_new' (Kd.R_new' ho0 (Kd.R_lt (by (with_reducible repeat (first | apply Kd.R_alloc | apply Kd.R_drewN | apply Kd.R_drew)); exact HO_4.out))) (Kd.R_lt (by (with_reducible repeat (first | apply Kd.R_alloc | apply Kd.R_drewN | apply Kd.R_drew)); exact HO_7.out))) (Kd.R_lt (by (with_reducible repeat (first | apply Kd.R_alloc | apply Kd.R_drewN | apply Kd.R_drew)); exact HO_251000.out))) (below_size (by repeat (first | (with_reducible first | exact HB.out | apply below_alloc | apply pw_below_drewN | apply below_drew1 | refine below_set ?_ GE232.out | refine below_set ?_ GE250.out) | exact HB.out)))); have n5_ := Aside0.mk (Kd.R_lower (Kd.R_new' ho1 (Kd.R_lt (by (with_reducible repeat (first | apply Kd.R_alloc | apply Kd.R_drewN | apply Kd.R_drew)); exact HO_251001.out))) (below_size (by repeat (first | (with_reducible first | exact HB.out | apply below_alloc | apply pw_below_drewN | apply below_drew1 | refine below_set ?_ GE232.out | refine below_set ?_ GE250.out) | exact HB.out)))); have n6_ := blkB_ (g := gb232) (o := .cells #[.slice A0_0 l0_0.length c0_0, .slice A0_1 l0_1.length c0_1] 44 (0, 0)) hb; have n7_ := blkB_ (g := gb250) (o := .cells #[.slice Ao23 t264.length co23, .slice Ao26 t265.length co26] 49 (0, 0)) hb; have n8_ := Aside0.mk (below_step (by repeat (first | (with_reducible first | exact HB.out | apply below_alloc | apply pw_below_drewN | apply below_drew1 | refine below_set ?_ GE232.out | refine below_set ?_ GE250.out) | exact HB.out)) hb); clear HO_4; clear HO_7; clear HO_251000; clear HO_251001; clear BK232; clear BK250; clear HB; have HO_4 := n0_; have HO_7 := n1_; have HO_251000 := n2_; have HO_251001 := n3_; have HO272 := n4_; have HO275 := n5_; have BK232 := n6_; have BK250 := n7_; have HB := n8_; clear n0_ n1_ n2_ n3_ n4_ n5_ n6_ n7_ n8_; (try clear hb); (try clear hb2); (try clear hk); (try clear hi); (try clear ho0); (try clear ho1); obtain ⟨Ao73, co73, eo73⟩ := Kd.R_slice HO272.out; subst eo73; obtain ⟨Ao74, co74, eo74⟩ := Kd.R_slice HO275.out; subst eo74) | ((with_reducible refine gate_callee (f := 32) rfl ?_); refine cU_ (some 76) Try.func32 #[.agg #[.slice Ao73 t270.length co73, .slice Ao74 t273.length co74]] ?_; (with_reducible refine (impl_Batch.calls kj40 _ _ t270 _ _ t273 t276 t279 _ ?side1 ?side2 ?side3 ?side4 A65.out).mono ?_); (case side1 => repeat (first | exact (Kd.R_reads' HO272.out).2.2 | (with_reducible refine Kd.C_alloc ?_ _) | (with_reducible refine Kd.C_drewN ?_ _) | (with_reducible refine Kd.C_drew ?_))); (case side2 => exact (Kd.R_reads' HO272.out).2.1); (case side3 => repeat (first | exact (Kd.R_reads' HO275.out).2.2 | (with_reducible refine Kd.C_alloc ?_ _) | (with_reducible refine Kd.C_drewN ?_ _) | (with_reducible refine Kd.C_drew ?_))); (case side4 => exact (Kd.R_reads' HO275.out).2.1); rintro e w75 ⟨v277, rfl, ho0, hb⟩; refine ⟨_, rfl, ?_⟩; have n0_ := Aside0.mk (Kd.R_elder' (by (with_reducible repeat (first | apply Kd.R_alloc | apply Kd.R_drewN | apply Kd.R_drew)); exact HO_4.out) (Kd.R_base ho0) hb); have n1_ := Aside0.mk (Kd.R_elder' (by (with_reducible repeat (first | apply Kd.R_alloc | apply Kd.R_drewN | apply Kd.R_drew)); exact HO_7.out) (Kd.R_base ho0) hb); have n2_ := Aside0.mk (Kd.R_elder' (by (with_reducible repeat (first | apply Kd.R_alloc | apply Kd.R_drewN | apply Kd.R_drew)); exact HO_251000.out) (Kd.R_base ho0) hb); have n3_ := Aside0.mk (Kd.R_below (by (with_reducible repeat (first | apply Kd.R_alloc | apply Kd.R_drewN | apply Kd.R_drew)); exact HO_251001.out) hb); have n4_ := Aside0.mk (Kd.R_elder' (by (with_reducible repeat (first | apply Kd.R_alloc | apply Kd.R_drewN | apply Kd.R_drew)); exact HO272.out) (Kd.R_base ho0) hb); have n5_ := Aside0.mk (Kd.R_below (by (with_reducible repeat (first | apply Kd.R_alloc | apply Kd.R_drewN | apply Kd.R_drew)); exact HO275.out) hb); have n6_ := Aside0.mk (Kd.R_lower (Kd.R_new' (Kd.R_new' (Kd.R_new' (Kd.R_new' ho0 (Kd.R_lt (by (with_reducible repeat (first | apply Kd.R_alloc | apply Kd.R_drewN | apply Kd.R_drew)); exact HO_4.out))) (Kd.R_lt (by (with_reducible repeat (first | apply Kd.R_alloc | apply Kd.R_drewN | apply Kd.R_drew)); exact HO_7.out))) (Kd.R_lt (by (with_reducible repeat (first | apply Kd.R_alloc | apply Kd.R_drewN | apply Kd.R_drew)); exact HO_251000.out))) (Kd.R_lt (by (with_reducible repeat (first | apply Kd.R_alloc | apply Kd.R_drewN | apply Kd.R_drew)); exact HO272.out))) (below_size (by repeat (first | (with_reducible first | exact HB.out | apply below_alloc | apply pw_below_drewN | apply below_drew1 | refine below_set ?_ GE232.out | refine below_set ?_ GE250.out) | exact HB.out)))); have n7_ := blkB_ (g := gb232) (o := .cells #[.slice A0_0 l0_0.length c0_0, .slice A0_1 l0_1.length c0_1] 44 (0, 0)) hb; have n8_ := blkB_ (g := gb250) (o := .cells #[.slice Ao23 t264.length co23, .slice Ao26 t265.length co26] 49 (0, 0)) hb; have n9_ := Aside0.mk (below_step (by repeat (first | (with_reducible first | exact HB.out | apply below_alloc | apply pw_below_drewN | apply below_drew1 | refine below_set ?_ GE232.out | refine below_set ?_ GE250.out) | exact HB.out)) hb); clear HO_4; clear HO_7; clear HO_251000; clear HO_251001; clear HO272; clear HO275; clear BK232; clear BK250; clear HB; have HO_4 := n0_; have HO_7 := n1_; have HO_251000 := n2_; have HO_251001 := n3_; have HO272 := n4_; have HO275 := n5_; have HO278 := n6_; have BK232 := n7_; have BK250 := n8_; have HB := n9_; clear n0_ n1_ n2_ n3_ n4_ n5_ n6_ n7_ n8_ n9_; (try clear hb); (try clear hb2); (try clear hk); (try clear hi); (try clear ho0)))
           (try simp only [Act.put, List.setIfInBounds_toArray, List.set_cons_zero, List.set_cons_succ])
           go_cut [87] (fun v87 wc => ∃ (kq : Nat) (x87_65 : Bool), v87 = .bool x87_65 ∧ Aside0 (laws_FnExactBatch.j2 kq t268 t267 x87_65 = some r) ∧ Aside0 (kq ≤ kj40) ∧ Aside0 (Kd.R k64 64 wc w.heap.size (fun k_ => some k_ ≠ ((.slice Ao23 t264.length co23) : Value).ownBlock) (.slice Ao67 t251.length co67) t268) ∧ Aside0 (Kd.R k64 64 wc w.heap.size (fun k_ => some k_ ≠ ((.slice Ao67 t251.length co67) : Value).ownBlock) (.slice Ao23 t264.length co23) t264) ∧ Aside0 (Kd.R Kd.string 9 wc w.heap.size (fun _ => True) (.slice Ao26 t265.length co26) t265) ∧ Aside0 (wc.heap[gb232]? = some (.cells #[(.slice A0_0 l0_0.length c0_0), (.slice A0_1 l0_1.length c0_1)] 44 (0, 0))) ∧ Aside0 (wc.heap[gb250]? = some (.cells #[(.slice Ao23 t264.length co23), (.slice Ao26 t265.length co26)] 49 (0, 0))) ∧ Aside0 (Below w.heap.size w wc))
           case first =>
            have H := HC66.out
            clear HC66
            obtain ⟨t280, A76, H⟩ := bindE_ H
            by_cases c77 : t280 = true
            ·
             subst c77
             replace H := ifT_ H
             have H' := Aside0.mk H
             clear H
             obtain ⟨Ao78, co78, eo78⟩ := Kd.R_slice HO278.out
             subst eo78
             obtain ⟨Ao79, co79, eo79⟩ := Kd.R_slice HO_4.out
             subst eo79
             go_wp2_with (first | ((with_reducible refine gate_callee (f := 33) rfl ?_); refine cU_ (some 81) Try.func33 #[.slice Ao78 t276.length co78, .slice Ao79 t240.length co79] ?_; (with_reducible refine (laws_eqReportS.calls kj40 _ _ t276 _ _ t240 true _ ?side1 ?side2 ?side3 ?side4 A76.out).mono ?_); (case side1 => repeat (first | exact (Kd.R_reads' HO278.out).2.2 | (with_reducible refine Kd.C_alloc ?_ _) | (with_reducible refine Kd.C_drewN ?_ _) | (with_reducible refine Kd.C_drew ?_))); (case side2 => exact (Kd.R_reads' HO278.out).2.1); (case side3 => repeat (first | exact (Kd.R_reads' HO_4.out).2.2 | (with_reducible refine Kd.C_alloc ?_ _) | (with_reducible refine Kd.C_drewN ?_ _) | (with_reducible refine Kd.C_drew ?_))); (case side4 => exact (Kd.R_reads' HO_4.out).2.1); rintro e w80 ⟨rfl, hb⟩; refine ⟨_, rfl, ?_⟩; have n0_ := Aside0.mk (Kd.R_below (by (with_reducible repeat (first | apply Kd.R_alloc | apply Kd.R_drewN | apply Kd.R_drew)); exact HO_4.out) hb); have n1_ := Aside0.mk (Kd.R_below (by (with_reducible repeat (first | apply Kd.R_alloc | apply Kd.R_drewN | apply Kd.R_drew)); exact HO_7.out) hb); have n2_ := Aside0.mk (Kd.R_below (by (with_reducible repeat (first | apply Kd.R_alloc | apply Kd.R_drewN | apply Kd.R_drew)); exact HO_251000.out) hb); have n3_ := Aside0.mk (Kd.R_below (by (with_reducible repeat (first | apply Kd.R_alloc | apply Kd.R_drewN | apply Kd.R_drew)); exact HO_251001.out) hb); have n4_ := Aside0.mk (Kd.R_below (by (with_reducible repeat (first | apply Kd.R_alloc | apply Kd.R_drewN | apply Kd.R_drew)); exact HO272.out) hb); have n5_ := Aside0.mk (Kd.R_below (by (with_reducible repeat (first | apply Kd.R_alloc | apply Kd.R_drewN | apply Kd.R_drew)); exact HO275.out) hb); have n6_ := Aside0.mk (Kd.R_below (by (with_reducible repeat (first | apply Kd.R_alloc | apply Kd.R_drewN | apply Kd.R_drew)); exact HO278.out) hb); have n7_ := blkB_ (g := gb232) (o := .cells #[.slice A0_0 l0_0.length c0_0, .slice A0_1 l0_1.length c0_1] 44 (0, 0)) hb; have n8_ := blkB_ (g := gb250) (o := .cells #[.slice Ao23 t264.length co23, .slice Ao26 t265.length co26] 49 (0, 0)) hb; have n9_ := Aside0.mk (below_step (by repeat (first | (with_reducible first | exact HB.out | apply below_alloc | apply pw_below_drewN | apply below_drew1 | refine below_set ?_ GE232.out | refine below_set ?_ GE250.out) | exact HB.out)) hb); clear HO_4; clear HO_7; clear HO_251000; clear HO_251001; clear HO272; clear HO275; clear HO278; clear BK232; clear BK250; clear HB; have HO_4 := n0_; have HO_7 := n1_; have HO_251000 := n2_; have HO_251001 := n3_; have HO272 := n4_; have HO275 := n5_; have HO278 := n6_; have BK232 := n7_; have BK250 := n8_; have HB := n9_; clear n0_ n1_ n2_ n3_ n4_ n5_ n6_ n7_ n8_ n9_; (try clear hb); (try clear hb2); (try clear hk); (try clear hi)))
             go_meet
             case rel => exact ⟨_, ((t279 != t243)), eqE_, H', ⟨by have := HJ10.out; have := HJ40.out; first | omega | exact Nat.le_refl _⟩, ⟨by (try simp only [hl251000_40]); (try simp only [hl251001_40]); (with_reducible repeat (first | apply Kd.R_alloc | apply Kd.R_drewN | apply Kd.R_drew)); exact Kd.R_mono HO_7.out (fun _ hk => hk.1.1.2)⟩, ⟨by (try simp only [hl251000_40]); (try simp only [hl251001_40]); (with_reducible repeat (first | apply Kd.R_alloc | apply Kd.R_drewN | apply Kd.R_drew)); exact Kd.R_mono HO_251000.out (fun _ hk => hk.1.1.2)⟩, ⟨by (try simp only [hl251000_40]); (try simp only [hl251001_40]); (with_reducible repeat (first | apply Kd.R_alloc | apply Kd.R_drewN | apply Kd.R_drew)); exact Kd.R_mono HO_251001.out (fun _ hk => trivial)⟩, ⟨by (try simp only [hl251000_40]); (try simp only [hl251001_40]); (with_reducible repeat (first | refine blk_drewN ?_ _ | refine blk_drew ?_ | refine blk_alloc ?_ _)); exact BK232.out⟩, ⟨by (try simp only [hl251000_40]); (try simp only [hl251001_40]); (with_reducible repeat (first | refine blk_drewN ?_ _ | refine blk_drew ?_ | refine blk_alloc ?_ _)); exact BK250.out⟩, ⟨by repeat (first | (with_reducible first | exact HB.out | apply below_alloc | apply pw_below_drewN | apply below_drew1 | refine below_set ?_ GE232.out | refine below_set ?_ GE250.out) | exact HB.out)⟩⟩
            ·
             replace c77 := Bool.eq_false_iff.mpr c77
             subst c77
             replace H := ifF_ H
             have H' := Aside0.mk H
             clear H
             obtain ⟨Ao81, co81, eo81⟩ := Kd.R_slice HO278.out
             subst eo81
             obtain ⟨Ao82, co82, eo82⟩ := Kd.R_slice HO_4.out
             subst eo82
             go_wp2_with (first | ((with_reducible refine gate_callee (f := 33) rfl ?_); refine cU_ (some 81) Try.func33 #[.slice Ao81 t276.length co81, .slice Ao82 t240.length co82] ?_; (with_reducible refine (laws_eqReportS.calls kj40 _ _ t276 _ _ t240 false _ ?side1 ?side2 ?side3 ?side4 A76.out).mono ?_); (case side1 => repeat (first | exact (Kd.R_reads' HO278.out).2.2 | (with_reducible refine Kd.C_alloc ?_ _) | (with_reducible refine Kd.C_drewN ?_ _) | (with_reducible refine Kd.C_drew ?_))); (case side2 => exact (Kd.R_reads' HO278.out).2.1); (case side3 => repeat (first | exact (Kd.R_reads' HO_4.out).2.2 | (with_reducible refine Kd.C_alloc ?_ _) | (with_reducible refine Kd.C_drewN ?_ _) | (with_reducible refine Kd.C_drew ?_))); (case side4 => exact (Kd.R_reads' HO_4.out).2.1); rintro e w83 ⟨rfl, hb⟩; refine ⟨_, rfl, ?_⟩; have n0_ := Aside0.mk (Kd.R_below (by (with_reducible repeat (first | apply Kd.R_alloc | apply Kd.R_drewN | apply Kd.R_drew)); exact HO_4.out) hb); have n1_ := Aside0.mk (Kd.R_below (by (with_reducible repeat (first | apply Kd.R_alloc | apply Kd.R_drewN | apply Kd.R_drew)); exact HO_7.out) hb); have n2_ := Aside0.mk (Kd.R_below (by (with_reducible repeat (first | apply Kd.R_alloc | apply Kd.R_drewN | apply Kd.R_drew)); exact HO_251000.out) hb); have n3_ := Aside0.mk (Kd.R_below (by (with_reducible repeat (first | apply Kd.R_alloc | apply Kd.R_drewN | apply Kd.R_drew)); exact HO_251001.out) hb); have n4_ := Aside0.mk (Kd.R_below (by (with_reducible repeat (first | apply Kd.R_alloc | apply Kd.R_drewN | apply Kd.R_drew)); exact HO272.out) hb); have n5_ := Aside0.mk (Kd.R_below (by (with_reducible repeat (first | apply Kd.R_alloc | apply Kd.R_drewN | apply Kd.R_drew)); exact HO275.out) hb); have n6_ := Aside0.mk (Kd.R_below (by (with_reducible repeat (first | apply Kd.R_alloc | apply Kd.R_drewN | apply Kd.R_drew)); exact HO278.out) hb); have n7_ := blkB_ (g := gb232) (o := .cells #[.slice A0_0 l0_0.length c0_0, .slice A0_1 l0_1.length c0_1] 44 (0, 0)) hb; have n8_ := blkB_ (g := gb250) (o := .cells #[.slice Ao23 t264.length co23, .slice Ao26 t265.length co26] 49 (0, 0)) hb; have n9_ := Aside0.mk (below_step (by repeat (first | (with_reducible first | exact HB.out | apply below_alloc | apply pw_below_drewN | apply below_drew1 | refine below_set ?_ GE232.out | refine below_set ?_ GE250.out) | exact HB.out)) hb); clear HO_4; clear HO_7; clear HO_251000; clear HO_251001; clear HO272; clear HO275; clear HO278; clear BK232; clear BK250; clear HB; have HO_4 := n0_; have HO_7 := n1_; have HO_251000 := n2_; have HO_251001 := n3_; have HO272 := n4_; have HO275 := n5_; have HO278 := n6_; have BK232 := n7_; have BK250 := n8_; have HB := n9_; clear n0_ n1_ n2_ n3_ n4_ n5_ n6_ n7_ n8_ n9_; (try clear hb); (try clear hb2); (try clear hk); (try clear hi)))
             go_meet
             case rel => exact ⟨_, (true), eqE_, H', ⟨by have := HJ10.out; have := HJ40.out; first | omega | exact Nat.le_refl _⟩, ⟨by (try simp only [hl251000_40]); (try simp only [hl251001_40]); (with_reducible repeat (first | apply Kd.R_alloc | apply Kd.R_drewN | apply Kd.R_drew)); exact Kd.R_mono HO_7.out (fun _ hk => hk.1.1.2)⟩, ⟨by (try simp only [hl251000_40]); (try simp only [hl251001_40]); (with_reducible repeat (first | apply Kd.R_alloc | apply Kd.R_drewN | apply Kd.R_drew)); exact Kd.R_mono HO_251000.out (fun _ hk => hk.1.1.2)⟩, ⟨by (try simp only [hl251000_40]); (try simp only [hl251001_40]); (with_reducible repeat (first | apply Kd.R_alloc | apply Kd.R_drewN | apply Kd.R_drew)); exact Kd.R_mono HO_251001.out (fun _ hk => trivial)⟩, ⟨by (try simp only [hl251000_40]); (try simp only [hl251001_40]); (with_reducible repeat (first | refine blk_drewN ?_ _ | refine blk_drew ?_ | refine blk_alloc ?_ _)); exact BK232.out⟩, ⟨by (try simp only [hl251000_40]); (try simp only [hl251001_40]); (with_reducible repeat (first | refine blk_drewN ?_ _ | refine blk_drew ?_ | refine blk_alloc ?_ _)); exact BK250.out⟩, ⟨by repeat (first | (with_reducible first | exact HB.out | apply below_alloc | apply pw_below_drewN | apply below_drew1 | refine below_set ?_ GE232.out | refine below_set ?_ GE250.out) | exact HB.out)⟩⟩
           case rest =>
            clear HC66
            try clear c3
            try clear c3b0
            try clear c36
            try clear c39
            try clear c59
            try clear c62
            try clear c62b0
            try clear c63
            try clear c63b0
            try clear c63b1
            try clear hcz13_0 hcz13_1
            try clear hcz15_0 hcz15_1
            try clear hcz20_0 hcz20_1
            try clear hcz25_0 hcz25_1
            try clear hcz48_0 hcz48_1
            try clear hcz5_0 hcz5_1
            try clear hcz71_0 hcz71_1
            try clear hfz13_0 hfz13_1
            try clear hfz15_0 hfz15_1
            try clear hfz20_0 hfz20_1
            try clear hfz25_0 hfz25_1
            try clear hfz48_0 hfz48_1
            try clear hfz5_0 hfz5_1
            try clear hfz71_0 hfz71_1
            obtain ⟨kq, x87_65, rfl, HA, HJ65, HO_7, HO_251000, HO_251001, BK232, BK250, HB⟩ := hcut
            have hl7_65 := (Kd.R_reads' HO_7.out).1
            rw [hl7_65] at HO_7
            (try simp only [hl7_65])
            (try simp only [hl7_65] at BK232)
            (try simp only [hl7_65] at BK250)
            (try simp only [hl7_65] at HO_251000)
            (try simp only [hl7_65] at HO_251001)
            cases kq with
            | zero => exact absurd HA.out (by simp [laws_FnExactBatch.j2])
            | succ kj65 =>
             have H := HA.out
             clear HA
             simp only [laws_FnExactBatch.j2] at H
             by_cases c84 : x87_65 = true
             ·
              subst c84
              replace H := ifT_ H
              exact absurd (Option.some.inj H) (by rw [hr_]; decide)
             ·
              replace c84 := Bool.eq_false_iff.mpr c84
              subst c84
              replace H := ifF_ H
              obtain ⟨t281, A85, H⟩ := bindE_ H
              by_cases c86 : t281 < 0
              ·
               rw [if_pos c86] at H
               have c86b0 : decide (t281 < 0) = true := decide_eq_true c86
               clear c86
               exact absurd (Option.some.inj H) (by rw [hr_]; decide)
              ·
               rw [if_neg c86] at H
               have c86b0 : decide (t281 < 0) = false := decide_eq_false c86
               clear c86
               by_cases c87 : t281 = t267
               ·
                rw [if_pos c87] at H
                have c87b0 : (t281 == t267) = true := beq_iff_eq.mpr c87
                have c87b1 : (t281 != t267) = false := bne_eq_false_iff_eq.mpr c87
                clear c87
                obtain rfl := Option.some.inj H
                go_wp2_with (first | ((with_reducible refine gate_callee (f := 36) rfl ?_); refine cU_ (some 90) Try.func36 #[.slice Ao67 t268.length co67, .int .i64 1] ?_; (with_reducible refine (laws_heldReportS.calls kj65 _ _ t268 1 t281 _ ?side1 ?side2 A85.out).mono ?_); (case side1 => repeat (first | exact (Kd.R_reads' HO_7.out).2.2 | (with_reducible refine Kd.C_alloc ?_ _) | (with_reducible refine Kd.C_drewN ?_ _) | (with_reducible refine Kd.C_drew ?_))); (case side2 => exact (Kd.R_reads' HO_7.out).2.1); rintro e w88 ⟨rfl, hb⟩; refine ⟨_, rfl, ?_⟩; have n0_ := Aside0.mk (Kd.R_below (by (with_reducible repeat (first | apply Kd.R_alloc | apply Kd.R_drewN | apply Kd.R_drew)); exact HO_7.out) hb); have n1_ := Aside0.mk (Kd.R_below (by (with_reducible repeat (first | apply Kd.R_alloc | apply Kd.R_drewN | apply Kd.R_drew)); exact HO_251000.out) hb); have n2_ := Aside0.mk (Kd.R_below (by (with_reducible repeat (first | apply Kd.R_alloc | apply Kd.R_drewN | apply Kd.R_drew)); exact HO_251001.out) hb); have n3_ := blkB_ (g := gb232) (o := .cells #[.slice A0_0 l0_0.length c0_0, .slice A0_1 l0_1.length c0_1] 44 (0, 0)) hb; have n4_ := blkB_ (g := gb250) (o := .cells #[.slice Ao23 t264.length co23, .slice Ao26 t265.length co26] 49 (0, 0)) hb; have n5_ := Aside0.mk (below_step (by repeat (first | (with_reducible first | exact HB.out | apply below_alloc | apply pw_below_drewN | apply below_drew1 | refine below_set ?_ GE232.out | refine below_set ?_ GE250.out) | exact HB.out)) hb); clear HO_7; clear HO_251000; clear HO_251001; clear BK232; clear BK250; clear HB; have HO_7 := n0_; have HO_251000 := n1_; have HO_251001 := n2_; have BK232 := n3_; have BK250 := n4_; have HB := n5_; clear n0_ n1_ n2_ n3_ n4_ n5_; (try clear hb); (try clear hb2); (try clear hk); (try clear hi)))
                go_ret
                exact ⟨retE_, by repeat (first | (with_reducible first | exact HB.out | apply below_alloc | apply pw_below_drewN | apply below_drew1 | refine below_set ?_ GE232.out | refine below_set ?_ GE250.out) | exact HB.out)⟩
               ·
                rw [if_neg c87] at H
                have c87b0 : (t281 == t267) = false := beq_eq_false_iff_ne.mpr c87
                have c87b1 : (t281 != t267) = true := bne_iff_ne.mpr c87
                exact absurd (Option.some.inj H) (by rw [hr_]; decide)
          ·
           rw [if_neg c63] at H
           have c63b0 : (t269 == t267) = false := beq_eq_false_iff_ne.mpr c63
           have c63b1 : (t269 != t267) = true := bne_iff_ne.mpr c63
           exact absurd (Option.some.inj H) (by rw [hr_]; decide)
     ·
      replace c39 := Bool.eq_false_iff.mpr c39
      subst c39
      replace H := ifF_ H
      exact absurd (Option.some.inj H) (by rw [hr_]; decide)

end Go.Proofs.Ytmfnaaeglfhnmaa.QFnExactBatch
