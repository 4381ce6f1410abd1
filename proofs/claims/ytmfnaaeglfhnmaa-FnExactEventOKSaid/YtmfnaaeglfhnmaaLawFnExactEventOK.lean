/- A tool of this session wrote this text out of the translation: functions as plain Lean, and proofs that the machine's calls come to their answers. -/
import Derived.Test.YtmfnaaeglfhnmaaRows
import Derived.Test.YtmfnaaeglfhnmaaQFnExactEventOKx7
import Derived.Test.YtmfnaaeglfhnmaaQOpen
import Derived.Test.YtmfnaaeglfhnmaaPureFnExactEventOK
import Derived.WalkKit
import Derived.ProofKit
import Derived.OpenShut
import Derived.ShutString
import Derived.ChangeOld
import Derived.Below
import Derived.SizedLaws
namespace Go.Proofs.Ytmfnaaeglfhnmaa.fnExactEventOK
open Go.ChangeShapes Go.WideShapes Go.ChangeAt Go.RowKit
open Go.ChangeMaps (open_string shut_string)
open Go.Proofs.YtmfnaaeglfhnmaaW.PrintWords Go.Proofs.Ytmfnaaeglfhnmaa.QFnExactEventOK Go.Proofs.Ytmfnaaeglfhnmaa.Opening
set_option linter.unusedVariables false
set_option linter.unusedSimpArgs false
theorem own : ownKnob Try.prog.godebug = none := by kernel_rfl
theorem laidOut : laidOutB Try.prog = true := by kernel_rfl

set_option maxRecDepth 100000 in
theorem lifted (os : Os) (started : os.Started) (H : Type) (enc : TypeId × Value → H) :
    ReturnsInHanded {} Try.checked os 3 .any (Rows.fnExactEventOKSpec.pre6 enc Try.prog Try.f3 Rows.fnExactEventOKRow.domain false) (Rows.fnExactEventOKSpec.post enc Try.prog Try.f3 false true false false) := by
  refine returnsInHanded_of_change_sized (C := Try.checked) own started (by kernel_rfl) Try.func3
    (ChangeSpec.witness6 (enc := enc) (C := Try.checked) false ⟨#[], #[.agg #[.int .i64 0, .int .i64 0, .int .i64 0, .int .i64 0, .string ByteArray.empty, .string ByteArray.empty, .string ByteArray.empty, .string ByteArray.empty, .string ByteArray.empty, .string ByteArray.empty, .string ByteArray.empty, .string ByteArray.empty, .int .i64 0, .int .i64 0, .bool false, .bool false]], []⟩ 8 (by kernel_rfl) (by kernel_rfl) (by kernel_rfl) (by kernel_rfl)) ?_
  intro W base args ds gs before hval0 hW hcnd hsz0 _
  have hval : ∀ (j : Nat) t v, Try.f3.params[j]? = some t → args[j]? = some v → Value.okWide Try.prog W .any base t v := hval0
  have hW' := hW
  obtain ⟨p, q, hA0, hV, rfl, hfz, hnd⟩ := hW
  have hA : DataW.TrodAll enc Try.prog W 0 (fun _ => true) true Try.f3.params.toList args.toList ds p := hA0
  rw [Try.params3] at hA hval
  obtain ⟨v0, vs0, d0, ds0, p0, q0, hargs, rfl, rfl, h0, r0⟩ := trodAll_cons hA
  obtain ⟨rfl, rfl, rfl⟩ := trodAll_nil r0
  obtain rfl : args = #[v0] := by cases args; simp_all
  obtain ⟨rfl, rfl⟩ := trodVars_none hV
  have j0 := h0
  have lt0 : ∀ x ∈ p0, x.block < W.heap.size := by obtain ⟨m, hm⟩ := j0; exact DataW.trod_lt m _ _ _ hm
  have op0_6 : ∀ m, OpensTo Try.prog m 23 (Kd.pair Kd.string (Kd.pair Kd.string (Kd.pair Kd.string (Kd.pair Kd.string (Kd.pair Kd.string (Kd.pair Kd.string (Kd.pair (Kd.int .i64) (Kd.pair (Kd.int .i64) Kd.bool)))))))) (OkPair (fun y_ => y_.size ≤ 9223372036854775807) (OkPair (fun y_ => y_.size ≤ 9223372036854775807) (OkPair (fun y_ => y_.size ≤ 9223372036854775807) (OkPair (fun y_ => y_.size ≤ 9223372036854775807) (OkPair (fun y_ => y_.size ≤ 9223372036854775807) (OkPair (fun y_ => y_.size ≤ 9223372036854775807) (OkPair (fun y_ => (Lit.int .i64 y_).wf = true) (OkPair (fun y_ => (Lit.int .i64 y_).wf = true) (fun _ => True))))))))) := by
    refine opens_struct_all Try.underlying23 (by kernel_rfl) (fun m => ?_)
    apply opens_more
    · rfl
    · kernel_rfl
    · decide
    · exact ((fun _ => opens_string Try.underlying9) m)
    apply opens_more
    · rfl
    · kernel_rfl
    · decide
    · exact ((fun _ => opens_string Try.underlying9) m)
    apply opens_more
    · rfl
    · kernel_rfl
    · decide
    · exact ((fun _ => opens_string Try.underlying9) m)
    apply opens_more
    · rfl
    · kernel_rfl
    · decide
    · exact ((fun _ => opens_string Try.underlying9) m)
    apply opens_more
    · rfl
    · kernel_rfl
    · decide
    · exact ((fun _ => opens_string Try.underlying9) m)
    apply opens_more
    · rfl
    · kernel_rfl
    · decide
    · exact ((fun _ => opens_string Try.underlying9) m)
    apply opens_more
    · rfl
    · kernel_rfl
    · decide
    · exact ((fun _ => opens_int Try.underlying3) m)
    apply opens_more
    · rfl
    · kernel_rfl
    · decide
    · exact ((fun _ => opens_int Try.underlying3) m)
    apply opens_last
    · rfl
    · kernel_rfl
    · exact ((fun _ => opens_bool Try.underlying4) m)
  have op0 : ∀ m, OpensTo Try.prog m 25 (Kd.pair (Kd.int .i64) (Kd.pair (Kd.int .i64) (Kd.pair (Kd.int .i64) (Kd.pair (Kd.int .i64) (Kd.pair Kd.string (Kd.pair Kd.string (Kd.pair (Kd.pair Kd.string (Kd.pair Kd.string (Kd.pair Kd.string (Kd.pair Kd.string (Kd.pair Kd.string (Kd.pair Kd.string (Kd.pair (Kd.int .i64) (Kd.pair (Kd.int .i64) Kd.bool)))))))) Kd.bool))))))) (OkPair (fun y_ => (Lit.int .i64 y_).wf = true) (OkPair (fun y_ => (Lit.int .i64 y_).wf = true) (OkPair (fun y_ => (Lit.int .i64 y_).wf = true) (OkPair (fun y_ => (Lit.int .i64 y_).wf = true) (OkPair (fun y_ => y_.size ≤ 9223372036854775807) (OkPair (fun y_ => y_.size ≤ 9223372036854775807) (OkPair (OkPair (fun y_ => y_.size ≤ 9223372036854775807) (OkPair (fun y_ => y_.size ≤ 9223372036854775807) (OkPair (fun y_ => y_.size ≤ 9223372036854775807) (OkPair (fun y_ => y_.size ≤ 9223372036854775807) (OkPair (fun y_ => y_.size ≤ 9223372036854775807) (OkPair (fun y_ => y_.size ≤ 9223372036854775807) (OkPair (fun y_ => (Lit.int .i64 y_).wf = true) (OkPair (fun y_ => (Lit.int .i64 y_).wf = true) (fun _ => True))))))))) (fun _ => True)))))))) := by
    refine opens_struct_all Try.underlying25 (by kernel_rfl) (fun m => ?_)
    apply opens_more
    · rfl
    · kernel_rfl
    · decide
    · exact ((fun _ => opens_int Try.underlying3) m)
    apply opens_more
    · rfl
    · kernel_rfl
    · decide
    · exact ((fun _ => opens_int Try.underlying3) m)
    apply opens_more
    · rfl
    · kernel_rfl
    · decide
    · exact ((fun _ => opens_int Try.underlying3) m)
    apply opens_more
    · rfl
    · kernel_rfl
    · decide
    · exact ((fun _ => opens_int Try.underlying3) m)
    apply opens_more
    · rfl
    · kernel_rfl
    · decide
    · exact ((fun _ => opens_string Try.underlying9) m)
    apply opens_more
    · rfl
    · kernel_rfl
    · decide
    · exact ((fun _ => opens_string Try.underlying9) m)
    apply opens_more
    · rfl
    · kernel_rfl
    · decide
    · exact (op0_6 m)
    apply opens_last
    · rfl
    · kernel_rfl
    · exact ((fun _ => opens_bool Try.underlying4) m)
  obtain ⟨cs0, rfl, _⟩ := okWide_struct Try.underlying25 (hval 0 25 v0 rfl rfl)
  obtain ⟨fu0, hf0⟩ := h0
  obtain ⟨L0, hL0⟩ : ∃ L, (Value.cells (.agg cs0)).toList = L := ⟨_, rfl⟩
  rw [hL0] at hf0
  obtain ⟨⟨a0_0, a0_1, a0_2, a0_3, a0_4, a0_5, ⟨a0_6, a0_7, a0_8, a0_9, a0_10, a0_11, a0_12, a0_13, a0_14⟩, a0_15⟩, hK0, ⟨o0_0, o0_1, o0_2, o0_3, o0_4, o0_5, ⟨o0_6, o0_7, o0_8, o0_9, o0_10, o0_11, o0_12, o0_13, o0_14⟩, o0_15⟩⟩ := op0 _ _ _ _ _ _ _ (Nat.le_refl _) hf0
  obtain ⟨_, _, rfl, rfl, ⟨_, _, rfl, rfl, ⟨_, _, rfl, rfl, ⟨_, _, rfl, rfl, ⟨_, _, rfl, rfl, ⟨_, _, rfl, rfl, ⟨_, _, rfl, ⟨_, _, rfl, rfl, ⟨_, _, rfl, rfl, ⟨_, _, rfl, rfl, ⟨_, _, rfl, rfl, ⟨_, _, rfl, rfl, ⟨_, _, rfl, rfl, ⟨_, _, rfl, rfl, ⟨_, _, rfl, rfl, rfl⟩⟩⟩⟩⟩⟩⟩⟩, rfl⟩⟩⟩⟩⟩⟩⟩ := hK0
  obtain rfl : cs0 = #[.int .i64 a0_0, .int .i64 a0_1, .int .i64 a0_2, .int .i64 a0_3, .string a0_4, .string a0_5, .string a0_6, .string a0_7, .string a0_8, .string a0_9, .string a0_10, .string a0_11, .int .i64 a0_12, .int .i64 a0_13, .bool a0_14, .bool a0_15] := by apply Array.toList_inj.1; simpa [Value.cells] using hL0
  clear hA0 hval0 hsz0
  obtain ⟨k, h⟩ := Pure.FnExactEventOK a0_0 a0_1 a0_2 a0_3 a0_4 a0_5 a0_6 a0_7 a0_8 a0_9 a0_10 a0_11 a0_12 a0_13 a0_14 a0_15 o0_0 o0_1 o0_2 o0_3 o0_4 o0_5 o0_6 o0_7 o0_8 o0_9 o0_10 o0_11 o0_12 o0_13
  refine (laws_FnExactEventOK.calls k a0_0 a0_1 a0_2 a0_3 a0_4 a0_5 a0_6 a0_7 a0_8 a0_9 a0_10 a0_11 a0_12 a0_13 a0_14 a0_15 true W  h rfl).mono fun e W' ⟨he, bel0⟩ => ?_
  have bel : Below W.heap.size W W' := bel0
  subst he
  exact ⟨_, rfl, _, _, _, [], _, [], hW', trodAll_mk1 (shut_bool Try.underlying4 _), (trodAll_cons_mk (Below.trod laidOut (by kernel_rfl) (of_decide_eq_true (by kernel_rfl)) j0 bel lt0) trodAll_mk0), rfl, bel.frame _, fun h => by cases h⟩
theorem over : Rows.fnExactEventOKRow.holds Try.pinned (OpenSpec.ofChange Rows.fnExactEventOKSpec) :=
  OpenClaim.holds_of_wide 3 Try.f3 rfl rfl rfl rfl rfl rfl rfl ⟨rfl, rfl, rfl, rfl, rfl⟩ rfl rfl rfl rfl rfl (by kernel_rfl) Try.func3 (by kernel_rfl)
    (of_decide_eq_true (by kernel_rfl)) (by unfold Func.isWrapper; first | (rw [if_pos (by decide +kernel)]; kernel_rfl) | (rw [if_neg (by decide +kernel)]; exact ⟨rfl, rfl⟩))
    (fun os started H enc _ => lifted os started H enc)
theorem proved : Rows.FnExactEventOKSaid := over
#print axioms proved
end Go.Proofs.Ytmfnaaeglfhnmaa.fnExactEventOK
namespace Go.Proofs.Ytmfnaaeglfhnmaa
/-- The row, under a short name, for the claim. -/
theorem fnExactEventOK_holds : Rows.FnExactEventOKSaid := fnExactEventOK.proved
end Go.Proofs.Ytmfnaaeglfhnmaa
