/- A tool of this session wrote this text out of the translation: functions as plain Lean, and proofs that the machine's calls come to their answers. -/
import Derived.Test.YtmfnaaeglfhnmaaRows
import Derived.Test.YtmfnaaeglfhnmaaQFnExactMissedx10
import Derived.Test.YtmfnaaeglfhnmaaQOpen
import Derived.Test.YtmfnaaeglfhnmaaPureFnExactMissed
import Derived.WalkKit
import Derived.ProofKit
import Derived.OpenShut
import Derived.ShutString
import Derived.ChangeOld
import Derived.Below
import Derived.SizedLaws
namespace Go.Proofs.Ytmfnaaeglfhnmaa.fnExactMissed
open Go.ChangeShapes Go.WideShapes Go.ChangeAt Go.RowKit
open Go.ChangeMaps (open_string shut_string)
open Go.Proofs.YtmfnaaeglfhnmaaW.PrintWords Go.Proofs.Ytmfnaaeglfhnmaa.QFnExactMissed Go.Proofs.Ytmfnaaeglfhnmaa.Opening
set_option linter.unusedVariables false
set_option linter.unusedSimpArgs false
theorem own : ownKnob Try.prog.godebug = none := by kernel_rfl
theorem laidOut : laidOutB Try.prog = true := by kernel_rfl
theorem opens60 : ∀ m, OpensTo Try.prog m 60 k60 ok60 := by
  have h : ∀ m, OpensTo Try.prog m 60 (Kd.pair (Kd.int .i64) (Kd.pair (Kd.int .i64) (Kd.pair (Kd.int .i64) Kd.string))) (OkPair (fun y_ => (Lit.int .i64 y_).wf = true) (OkPair (fun y_ => (Lit.int .i64 y_).wf = true) (OkPair (fun y_ => (Lit.int .i64 y_).wf = true) (fun y_ => y_.size ≤ 9223372036854775807)))) := by
    refine opens_struct_all Try.underlying60 (by kernel_rfl) (fun m => ?_)
    apply opens_more
    · rfl
    · kernel_rfl
    · decide
    · exact ((fun _ => opens_int Try.underlying3) m)
    apply opens_more
    · rfl
    · kernel_rfl
    · decide
    · exact ((fun _ => opens_int Try.underlying3) m)
    apply opens_more
    · rfl
    · kernel_rfl
    · decide
    · exact ((fun _ => opens_int Try.underlying3) m)
    apply opens_last
    · rfl
    · kernel_rfl
    · exact ((fun _ => opens_string Try.underlying9) m)
  exact opens_iso_all (f := (fun x : S60 => (x.f0, x.f1, x.f2, x.f3))) (fun p : (Int) × (Int) × (Int) × (ByteArray) => (⟨p.1, p.2.1, p.2.2.1, p.2.2.2⟩ : S60)) (fun _ => rfl) (fun _ h => h) h
set_option maxRecDepth 100000 in
theorem lifted (os : Os) (started : os.Started) (H : Type) (enc : TypeId × Value → H) :
    ReturnsInHanded {} Try.checked os 11 .any (Rows.fnExactMissedSpec.pre6 enc Try.prog Try.f11 Rows.fnExactMissedRow.domain false) (Rows.fnExactMissedSpec.post enc Try.prog Try.f11 false true false false) := by
  refine returnsInHanded_of_change_sized (C := Try.checked) own started (by kernel_rfl) Try.func11
    (ChangeSpec.witness6 (enc := enc) (C := Try.checked) false ⟨#[], #[.agg #[.slice none 0 0, .slice none 0 0], .int .i64 0], []⟩ 8 (by kernel_rfl) (by kernel_rfl) (by kernel_rfl) (by kernel_rfl)) ?_
  intro W base args ds gs before hval0 hW hcnd hsz0 _
  have hval : ∀ (j : Nat) t v, Try.f11.params[j]? = some t → args[j]? = some v → Value.okWide Try.prog W .any base t v := hval0
  have hW' := hW
  obtain ⟨p, q, hA0, hV, rfl, hfz, hnd⟩ := hW
  have hA : DataW.TrodAll enc Try.prog W 0 (fun _ => true) true Try.f11.params.toList args.toList ds p := hA0
  rw [Try.params11] at hA hval
  obtain ⟨v0, vs0, d0, ds0, p0, q0, hargs, rfl, rfl, h0, r0⟩ := trodAll_cons hA
  obtain ⟨v1, vs1, d1, ds1, p1, q1, rfl, rfl, rfl, h1, r1⟩ := trodAll_cons r0
  obtain ⟨rfl, rfl, rfl⟩ := trodAll_nil r1
  obtain rfl : args = #[v0, v1] := by cases args; simp_all
  obtain ⟨rfl, rfl⟩ := trodVars_none hV
  have j0 := h0
  have lt0 : ∀ x ∈ p0, x.block < W.heap.size := by obtain ⟨m, hm⟩ := j0; exact DataW.trod_lt m _ _ _ hm
  have op0 : ∀ m, OpensTo Try.prog m 44 (Kd.pair (Kd.slice 60 k60) (Kd.slice 9 Kd.string)) (OkPair (fun ys_ => ys_.length ≤ 9223372036854775807 ∧ ∀ y_, y_ ∈ ys_ → ok60 y_) (fun ys_ => ys_.length ≤ 9223372036854775807 ∧ ∀ y_, y_ ∈ ys_ → (fun y_ => y_.size ≤ 9223372036854775807) y_)) := by
    refine opens_struct_all Try.underlying44 (by kernel_rfl) (fun m => ?_)
    apply opens_more
    · rfl
    · kernel_rfl
    · decide
    · exact ((opens_slice_all Try.underlying42 (by kernel_rfl) opens60) m)
    apply opens_last
    · rfl
    · kernel_rfl
    · exact ((opens_slice_all Try.underlying34 (by kernel_rfl) (fun _ => opens_string Try.underlying9)) m)
  obtain ⟨cs0, rfl, _⟩ := okWide_struct Try.underlying44 (hval 0 44 v0 rfl rfl)
  obtain ⟨fu0, hf0⟩ := h0
  obtain ⟨L0, hL0⟩ : ∃ L, (Value.cells (.agg cs0)).toList = L := ⟨_, rfl⟩
  rw [hL0] at hf0
  obtain ⟨⟨l0_0, l0_1⟩, hK0, ⟨o0_0, o0_1⟩⟩ := op0 _ _ _ _ _ _ _ (Nat.le_refl _) hf0
  obtain ⟨_, _, rfl, ⟨A0_0, c0_0, rfl, hc0_0, hr0_0⟩, ⟨A0_1, c0_1, rfl, hc0_1, hr0_1⟩⟩ := hK0
  obtain rfl : cs0 = #[.slice A0_0 l0_0.length c0_0, .slice A0_1 l0_1.length c0_1] := by apply Array.toList_inj.1; simpa [Value.cells] using hL0
  have j1 := h1
  have lt1 : ∀ x ∈ p1, x.block < W.heap.size := by obtain ⟨m, hm⟩ := j1; exact DataW.trod_lt m _ _ _ hm
  have op1 : ∀ m, OpensTo Try.prog m 3 (Kd.int .i64) (fun y_ => (Lit.int .i64 y_).wf = true) := by
    exact (fun _ => opens_int Try.underlying3)
  obtain ⟨fu1, hf1⟩ := h1
  obtain ⟨L1, hL1⟩ : ∃ L, (Value.cells v1).toList = L := ⟨_, rfl⟩
  rw [hL1] at hf1
  obtain ⟨a1, hK1, o1⟩ := op1 _ _ _ _ _ _ _ (Nat.le_refl _) hf1
  obtain rfl := hK1
  obtain ⟨b1, rfl, _⟩ := okWide_int Try.underlying3 (hval 1 3 v1 rfl rfl)
  obtain rfl : a1 = b1 := (show b1 = a1 by simpa [Value.cells] using hL1).symm
  clear hA0 hval0 hsz0
  obtain ⟨k, h⟩ := Pure.FnExactMissed l0_0 l0_1 a1 o0_0 o0_1 o1
  refine (laws_FnExactMissed.calls k A0_0 c0_0 l0_0 A0_1 c0_1 l0_1 a1 true W hr0_0 hc0_0 hr0_1 hc0_1 h rfl).mono fun e W' ⟨he, bel0⟩ => ?_
  have bel : Below W.heap.size W W' := bel0
  subst he
  exact ⟨_, rfl, _, _, _, [], _, [], hW', trodAll_mk1 (shut_bool Try.underlying4 _), (trodAll_cons_mk (Below.trod laidOut (by kernel_rfl) (of_decide_eq_true (by kernel_rfl)) j0 bel lt0) (trodAll_cons_mk (Below.trod laidOut (by kernel_rfl) (of_decide_eq_true (by kernel_rfl)) j1 bel lt1) trodAll_mk0)), rfl, bel.frame _, fun h => by cases h⟩
theorem over : Rows.fnExactMissedRow.holds Try.pinned (OpenSpec.ofChange Rows.fnExactMissedSpec) :=
  OpenClaim.holds_of_wide 11 Try.f11 rfl rfl rfl rfl rfl rfl rfl ⟨rfl, rfl, rfl, rfl, rfl⟩ rfl rfl rfl rfl rfl (by kernel_rfl) Try.func11 (by kernel_rfl)
    (of_decide_eq_true (by kernel_rfl)) (by unfold Func.isWrapper; first | (rw [if_pos (by decide +kernel)]; kernel_rfl) | (rw [if_neg (by decide +kernel)]; exact ⟨rfl, rfl⟩))
    (fun os started H enc _ => lifted os started H enc)
theorem proved : Rows.FnExactMissedSaid := over
#print axioms proved
end Go.Proofs.Ytmfnaaeglfhnmaa.fnExactMissed
namespace Go.Proofs.Ytmfnaaeglfhnmaa
/-- The row, under a short name, for the claim. -/
theorem fnExactMissed_holds : Rows.FnExactMissedSaid := fnExactMissed.proved
end Go.Proofs.Ytmfnaaeglfhnmaa
