/- A tool of this session wrote this text out of the translation: functions as plain Lean, and proofs that the machine's calls come to their answers. -/
import Derived.Test.YtmfnaaeglfhnmaaRows
import Derived.Test.YtmfnaaeglfhnmaaQFnExactSameQueuex10
import Derived.Test.YtmfnaaeglfhnmaaQOpen
import Derived.Test.YtmfnaaeglfhnmaaPureFnExactSameQueue
import Derived.WalkKit
import Derived.ProofKit
import Derived.OpenShut
import Derived.ShutString
import Derived.ChangeOld
import Derived.Below
import Derived.SizedLaws
namespace Go.Proofs.Ytmfnaaeglfhnmaa.fnExactSameQueue
open Go.ChangeShapes Go.WideShapes Go.ChangeAt Go.RowKit
open Go.ChangeMaps (open_string shut_string)
open Go.Proofs.YtmfnaaeglfhnmaaW.PrintWords Go.Proofs.Ytmfnaaeglfhnmaa.QFnExactSameQueue Go.Proofs.Ytmfnaaeglfhnmaa.Opening
set_option linter.unusedVariables false
set_option linter.unusedSimpArgs false
theorem own : ownKnob Try.prog.godebug = none := by kernel_rfl
theorem laidOut : laidOutB Try.prog = true := by kernel_rfl
theorem opens60 : ∀ m, OpensTo Try.prog m 60 k60 ok60 := by
  have h : ∀ m, OpensTo Try.prog m 60 (Kd.pair (Kd.int .i64) (Kd.pair (Kd.int .i64) (Kd.pair (Kd.int .i64) Kd.string))) (OkPair (fun y_ => (Lit.int .i64 y_).wf = true) (OkPair (fun y_ => (Lit.int .i64 y_).wf = true) (OkPair (fun y_ => (Lit.int .i64 y_).wf = true) (fun y_ => y_.size ≤ 9223372036854775807)))) := by
    refine opens_struct_all Try.underlying60 (by kernel_rfl) (fun m => ?_)
    apply opens_more
    · rfl
    · kernel_rfl
    · decide
    · exact ((fun _ => opens_int Try.underlying3) m)
    apply opens_more
    · rfl
    · kernel_rfl
    · decide
    · exact ((fun _ => opens_int Try.underlying3) m)
    apply opens_more
    · rfl
    · kernel_rfl
    · decide
    · exact ((fun _ => opens_int Try.underlying3) m)
    apply opens_last
    · rfl
    · kernel_rfl
    · exact ((fun _ => opens_string Try.underlying9) m)
  exact opens_iso_all (f := (fun x : S60 => (x.f0, x.f1, x.f2, x.f3))) (fun p : (Int) × (Int) × (Int) × (ByteArray) => (⟨p.1, p.2.1, p.2.2.1, p.2.2.2⟩ : S60)) (fun _ => rfl) (fun _ h => h) h
set_option maxRecDepth 100000 in
theorem lifted (os : Os) (started : os.Started) (H : Type) (enc : TypeId × Value → H) :
    ReturnsInHanded {} Try.checked os 6 .any (Rows.fnExactSameQueueSpec.pre6 enc Try.prog Try.f6 Rows.fnExactSameQueueRow.domain false) (Rows.fnExactSameQueueSpec.post enc Try.prog Try.f6 false true false false) := by
  refine returnsInHanded_of_change_sized (C := Try.checked) own started (by kernel_rfl) Try.func6
    (ChangeSpec.witness6 (enc := enc) (C := Try.checked) false ⟨#[], #[.agg #[.slice none 0 0, .slice none 0 0], .agg #[.slice none 0 0, .slice none 0 0]], []⟩ 8 (by kernel_rfl) (by kernel_rfl) (by kernel_rfl) (by kernel_rfl)) ?_
  intro W base args ds gs before hval0 hW hcnd hsz0 _
  have hval : ∀ (j : Nat) t v, Try.f6.params[j]? = some t → args[j]? = some v → Value.okWide Try.prog W .any base t v := hval0
  have hW' := hW
  obtain ⟨p, q, hA0, hV, rfl, hfz, hnd⟩ := hW
  have hA : DataW.TrodAll enc Try.prog W 0 (fun _ => true) true Try.f6.params.toList args.toList ds p := hA0
  rw [Try.params6] at hA hval
  obtain ⟨v0, vs0, d0, ds0, p0, q0, hargs, rfl, rfl, h0, r0⟩ := trodAll_cons hA
  obtain ⟨v1, vs1, d1, ds1, p1, q1, rfl, rfl, rfl, h1, r1⟩ := trodAll_cons r0
  obtain ⟨rfl, rfl, rfl⟩ := trodAll_nil r1
  obtain rfl : args = #[v0, v1] := by cases args; simp_all
  obtain ⟨rfl, rfl⟩ := trodVars_none hV
  have j0 := h0
  have lt0 : ∀ x ∈ p0, x.block < W.heap.size := by obtain ⟨m, hm⟩ := j0; exact DataW.trod_lt m _ _ _ hm
  have op0 : ∀ m, OpensTo Try.prog m 44 (Kd.pair (Kd.slice 60 k60) (Kd.slice 9 Kd.string)) (OkPair (fun ys_ => ys_.length ≤ 9223372036854775807 ∧ ∀ y_, y_ ∈ ys_ → ok60 y_) (fun ys_ => ys_.length ≤ 9223372036854775807 ∧ ∀ y_, y_ ∈ ys_ → (fun y_ => y_.size ≤ 9223372036854775807) y_)) := by
    refine opens_struct_all Try.underlying44 (by kernel_rfl) (fun m => ?_)
    apply opens_more
    · rfl
    · kernel_rfl
    · decide
    · exact ((opens_slice_all Try.underlying42 (by kernel_rfl) opens60) m)
    apply opens_last
    · rfl
    · kernel_rfl
    · exact ((opens_slice_all Try.underlying34 (by kernel_rfl) (fun _ => opens_string Try.underlying9)) m)
  obtain ⟨cs0, rfl, _⟩ := okWide_struct Try.underlying44 (hval 0 44 v0 rfl rfl)
  obtain ⟨fu0, hf0⟩ := h0
  obtain ⟨L0, hL0⟩ : ∃ L, (Value.cells (.agg cs0)).toList = L := ⟨_, rfl⟩
  rw [hL0] at hf0
  obtain ⟨⟨l0_0, l0_1⟩, hK0, ⟨o0_0, o0_1⟩⟩ := op0 _ _ _ _ _ _ _ (Nat.le_refl _) hf0
  obtain ⟨_, _, rfl, ⟨A0_0, c0_0, rfl, hc0_0, hr0_0⟩, ⟨A0_1, c0_1, rfl, hc0_1, hr0_1⟩⟩ := hK0
  obtain rfl : cs0 = #[.slice A0_0 l0_0.length c0_0, .slice A0_1 l0_1.length c0_1] := by apply Array.toList_inj.1; simpa [Value.cells] using hL0
  have j1 := h1
  have lt1 : ∀ x ∈ p1, x.block < W.heap.size := by obtain ⟨m, hm⟩ := j1; exact DataW.trod_lt m _ _ _ hm
  have op1 : ∀ m, OpensTo Try.prog m 44 (Kd.pair (Kd.slice 60 k60) (Kd.slice 9 Kd.string)) (OkPair (fun ys_ => ys_.length ≤ 9223372036854775807 ∧ ∀ y_, y_ ∈ ys_ → ok60 y_) (fun ys_ => ys_.length ≤ 9223372036854775807 ∧ ∀ y_, y_ ∈ ys_ → (fun y_ => y_.size ≤ 9223372036854775807) y_)) := by
    refine opens_struct_all Try.underlying44 (by kernel_rfl) (fun m => ?_)
    apply opens_more
    · rfl
    · kernel_rfl
    · decide
    · exact ((opens_slice_all Try.underlying42 (by kernel_rfl) opens60) m)
    apply opens_last
    · rfl
    · kernel_rfl
    · exact ((opens_slice_all Try.underlying34 (by kernel_rfl) (fun _ => opens_string Try.underlying9)) m)
  obtain ⟨cs1, rfl, _⟩ := okWide_struct Try.underlying44 (hval 1 44 v1 rfl rfl)
  obtain ⟨fu1, hf1⟩ := h1
  obtain ⟨L1, hL1⟩ : ∃ L, (Value.cells (.agg cs1)).toList = L := ⟨_, rfl⟩
  rw [hL1] at hf1
  obtain ⟨⟨l1_0, l1_1⟩, hK1, ⟨o1_0, o1_1⟩⟩ := op1 _ _ _ _ _ _ _ (Nat.le_refl _) hf1
  obtain ⟨_, _, rfl, ⟨A1_0, c1_0, rfl, hc1_0, hr1_0⟩, ⟨A1_1, c1_1, rfl, hc1_1, hr1_1⟩⟩ := hK1
  obtain rfl : cs1 = #[.slice A1_0 l1_0.length c1_0, .slice A1_1 l1_1.length c1_1] := by apply Array.toList_inj.1; simpa [Value.cells] using hL1
  clear hA0 hval0 hsz0
  obtain ⟨k, h⟩ := Pure.FnExactSameQueue l0_0 l0_1 l1_0 l1_1 o0_0 o0_1 o1_0 o1_1
  refine (laws_FnExactSameQueue.calls k A0_0 c0_0 l0_0 A0_1 c0_1 l0_1 A1_0 c1_0 l1_0 A1_1 c1_1 l1_1 true W hr0_0 hc0_0 hr0_1 hc0_1 hr1_0 hc1_0 hr1_1 hc1_1 h rfl).mono fun e W' ⟨he, bel0⟩ => ?_
  have bel : Below W.heap.size W W' := bel0
  subst he
  exact ⟨_, rfl, _, _, _, [], _, [], hW', trodAll_mk1 (shut_bool Try.underlying4 _), (trodAll_cons_mk (Below.trod laidOut (by kernel_rfl) (of_decide_eq_true (by kernel_rfl)) j0 bel lt0) (trodAll_cons_mk (Below.trod laidOut (by kernel_rfl) (of_decide_eq_true (by kernel_rfl)) j1 bel lt1) trodAll_mk0)), rfl, bel.frame _, fun h => by cases h⟩
theorem over : Rows.fnExactSameQueueRow.holds Try.pinned (OpenSpec.ofChange Rows.fnExactSameQueueSpec) :=
  OpenClaim.holds_of_wide 6 Try.f6 rfl rfl rfl rfl rfl rfl rfl ⟨rfl, rfl, rfl, rfl, rfl⟩ rfl rfl rfl rfl rfl (by kernel_rfl) Try.func6 (by kernel_rfl)
    (of_decide_eq_true (by kernel_rfl)) (by unfold Func.isWrapper; first | (rw [if_pos (by decide +kernel)]; kernel_rfl) | (rw [if_neg (by decide +kernel)]; exact ⟨rfl, rfl⟩))
    (fun os started H enc _ => lifted os started H enc)
theorem proved : Rows.FnExactSameQueueSaid := over
#print axioms proved
end Go.Proofs.Ytmfnaaeglfhnmaa.fnExactSameQueue
namespace Go.Proofs.Ytmfnaaeglfhnmaa
/-- The row, under a short name, for the claim. -/
theorem fnExactSameQueue_holds : Rows.FnExactSameQueueSaid := fnExactSameQueue.proved
end Go.Proofs.Ytmfnaaeglfhnmaa
