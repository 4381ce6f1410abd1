/- The program's Member returns what the reference's Member returns, for every value and name, leaves its argument as it was, and its result's rows are its own; no condition. -/
import Derived.Test.YtljpmdeobmmhlaaRows
import Derived.Test.YtljpmdeobmmhlaaQOpen
import Derived.Test.YtljpmdeobmmhlaaQJoin
import Derived.WalkKit
import Derived.ProofKit
import Derived.OpenShut
import Derived.ShutString
import Derived.ChangeOld
import Derived.Below
import Derived.SizedLaws
namespace Go.Proofs.Ytljpmdeobmmhlaa.fnExactMember
open Go.ChangeShapes Go.WideShapes Go.ChangeAt Go.RowKit
open Go.ChangeMaps (open_string shut_string)
open Go.Proofs.YtljpmdeobmmhlaaW.PrintWords Go.Proofs.Ytljpmdeobmmhlaa.QFnExactMember Go.Proofs.Ytljpmdeobmmhlaa.Opening
set_option linter.unusedVariables false
set_option linter.unusedSimpArgs false
theorem own : ownKnob Try.prog.godebug = none := by kernel_rfl
theorem laidOut : laidOutB Try.prog = true := by kernel_rfl
theorem conv25 {m : Nat} (h : OpensTo Try.prog m 25 (Kd.pair (Kd.int .i64) (Kd.pair (Kd.int .i64) (Kd.pair Kd.string (Kd.pair (Kd.slice 9 Kd.string) (Kd.slice 25 k25))))) (OkPair (fun y_ => (Lit.int .i64 y_).wf = true) (OkPair (fun y_ => (Lit.int .i64 y_).wf = true) (OkPair (fun y_ => y_.size ≤ 9223372036854775807) (OkPair (fun ys_ => ys_.length ≤ 9223372036854775807 ∧ ∀ y_, y_ ∈ ys_ → (fun y_ => y_.size ≤ 9223372036854775807) y_) (fun ys_ => ys_.length ≤ 9223372036854775807 ∧ ∀ y_, y_ ∈ ys_ → ok25 y_)))))) : OpensTo Try.prog m 25 k25 ok25 := by
  intro H enc w fuel cs x hm hx
  obtain ⟨⟨a0, a1, a2, a3, a4⟩, hK, ⟨o0, o1, o2, o3, ⟨ol4, o4⟩⟩⟩ := h _ _ _ _ _ _ hm hx
  obtain ⟨_, _, rfl, rfl, ⟨_, _, rfl, rfl, ⟨_, _, rfl, rfl, ⟨_, _, rfl, ⟨A3, c3, rfl, l3, g3⟩, ⟨A4, c4, rfl, l4, g4⟩⟩⟩⟩⟩ := hK
  exact ⟨⟨a0, a1, a2, a3, a4⟩, k25_mk w ⟨a0, a1, a2, a3, a4⟩ l3 g3 l4 g4, ok25.mk _ o0 o1 o2 o3 ol4 o4⟩
theorem opens25 : ∀ m, OpensTo Try.prog m 25 k25 ok25 := by
  intro m
  induction m using Nat.strongRecOn with
  | _ m ih =>
  match m, ih with
  | 0, _ => exact opens_zero
  | 1, _ =>
    refine conv25 (opens_struct Try.underlying25 (by kernel_rfl) ?_)
    apply opens_more
    · rfl
    · kernel_rfl
    · decide
    · exact ((fun _ => opens_int Try.underlying3) _)
    apply opens_more
    · rfl
    · kernel_rfl
    · decide
    · exact ((fun _ => opens_int Try.underlying3) _)
    apply opens_more
    · rfl
    · kernel_rfl
    · decide
    · exact ((fun _ => opens_string Try.underlying9) _)
    apply opens_more
    · rfl
    · kernel_rfl
    · decide
    · exact ((opens_slice_all Try.underlying22 (by kernel_rfl) (fun _ => opens_string Try.underlying9)) _)
    apply opens_last
    · rfl
    · kernel_rfl
    · exact opens_zero
  | m + 2, ih =>
    refine conv25 (opens_struct Try.underlying25 (by kernel_rfl) ?_)
    apply opens_more
    · rfl
    · kernel_rfl
    · decide
    · exact ((fun _ => opens_int Try.underlying3) _)
    apply opens_more
    · rfl
    · kernel_rfl
    · decide
    · exact ((fun _ => opens_int Try.underlying3) _)
    apply opens_more
    · rfl
    · kernel_rfl
    · decide
    · exact ((fun _ => opens_string Try.underlying9) _)
    apply opens_more
    · rfl
    · kernel_rfl
    · decide
    · exact ((opens_slice_all Try.underlying22 (by kernel_rfl) (fun _ => opens_string Try.underlying9)) _)
    apply opens_last
    · rfl
    · kernel_rfl
    · exact (opens_slice Try.underlying23 (by kernel_rfl) (ih m (by omega)))
set_option maxRecDepth 100000 in
theorem lifted (os : Os) (started : os.Started) (H : Type) (enc : TypeId × Value → H) :
    ReturnsInHanded {} Try.checked os 3 .any (Rows.fnExactMemberSpec.pre6 enc Try.prog Try.f3 Rows.fnExactMemberRow.domain false) (Rows.fnExactMemberSpec.post enc Try.prog Try.f3 false true false false) := by
  refine returnsInHanded_of_change_sized (C := Try.checked) own started (by kernel_rfl) Try.func3
    (ChangeSpec.witness6 (enc := enc) (C := Try.checked) false ⟨#[], #[.agg #[.int .i64 0, .int .i64 0, .string ByteArray.empty, .slice none 0 0, .slice none 0 0], .string ByteArray.empty], []⟩ 8 (by kernel_rfl) (by kernel_rfl) (by kernel_rfl) (by kernel_rfl)) ?_
  intro W base args ds gs before hval0 hW hcnd hsz0 _
  have hval : ∀ (j : Nat) t v, Try.f3.params[j]? = some t → args[j]? = some v → Value.okWide Try.prog W .any base t v := hval0
  have hW' := hW
  obtain ⟨p, q, hA0, hV, rfl, hfz, hnd⟩ := hW
  have hA : DataW.TrodAll enc Try.prog W 0 (fun _ => true) true Try.f3.params.toList args.toList ds p := hA0
  rw [Try.params3] at hA hval
  obtain ⟨v0, vs0, d0, ds0, p0, q0, hargs, rfl, rfl, h0, r0⟩ := trodAll_cons hA
  obtain ⟨v1, vs1, d1, ds1, p1, q1, rfl, rfl, rfl, h1, r1⟩ := trodAll_cons r0
  obtain ⟨rfl, rfl, rfl⟩ := trodAll_nil r1
  obtain rfl : args = #[v0, v1] := by cases args; simp_all
  obtain ⟨rfl, rfl⟩ := trodVars_none hV
  have j0 := h0
  have lt0 : ∀ x ∈ p0, x.block < W.heap.size := by obtain ⟨m, hm⟩ := j0; exact DataW.trod_lt m _ _ _ hm
  have op0 : ∀ m, OpensTo Try.prog m 25 (Kd.pair (Kd.int .i64) (Kd.pair (Kd.int .i64) (Kd.pair Kd.string (Kd.pair (Kd.slice 9 Kd.string) (Kd.slice 25 k25))))) (OkPair (fun y_ => (Lit.int .i64 y_).wf = true) (OkPair (fun y_ => (Lit.int .i64 y_).wf = true) (OkPair (fun y_ => y_.size ≤ 9223372036854775807) (OkPair (fun ys_ => ys_.length ≤ 9223372036854775807 ∧ ∀ y_, y_ ∈ ys_ → (fun y_ => y_.size ≤ 9223372036854775807) y_) (fun ys_ => ys_.length ≤ 9223372036854775807 ∧ ∀ y_, y_ ∈ ys_ → ok25 y_))))) := by
    refine opens_struct_all Try.underlying25 (by kernel_rfl) (fun m => ?_)
    apply opens_more
    · rfl
    · kernel_rfl
    · decide
    · exact ((fun _ => opens_int Try.underlying3) m)
    apply opens_more
    · rfl
    · kernel_rfl
    · decide
    · exact ((fun _ => opens_int Try.underlying3) m)
    apply opens_more
    · rfl
    · kernel_rfl
    · decide
    · exact ((fun _ => opens_string Try.underlying9) m)
    apply opens_more
    · rfl
    · kernel_rfl
    · decide
    · exact ((opens_slice_all Try.underlying22 (by kernel_rfl) (fun _ => opens_string Try.underlying9)) m)
    apply opens_last
    · rfl
    · kernel_rfl
    · exact ((opens_slice_all Try.underlying23 (by kernel_rfl) opens25) m)
  obtain ⟨cs0, rfl, _⟩ := okWide_struct Try.underlying25 (hval 0 25 v0 rfl rfl)
  obtain ⟨fu0, hf0⟩ := h0
  obtain ⟨L0, hL0⟩ : ∃ L, (Value.cells (.agg cs0)).toList = L := ⟨_, rfl⟩
  rw [hL0] at hf0
  obtain ⟨⟨a0_0, a0_1, a0_2, l0_3, l0_4⟩, hK0, ⟨o0_0, o0_1, o0_2, o0_3, o0_4⟩⟩ := op0 _ _ _ _ _ _ _ (Nat.le_refl _) hf0
  obtain ⟨_, _, rfl, rfl, ⟨_, _, rfl, rfl, ⟨_, _, rfl, rfl, ⟨_, _, rfl, ⟨A0_3, c0_3, rfl, hc0_3, hr0_3⟩, ⟨A0_4, c0_4, rfl, hc0_4, hr0_4⟩⟩⟩⟩⟩ := hK0
  obtain rfl : cs0 = #[.int .i64 a0_0, .int .i64 a0_1, .string a0_2, .slice A0_3 l0_3.length c0_3, .slice A0_4 l0_4.length c0_4] := by apply Array.toList_inj.1; simpa [Value.cells] using hL0
  have j1 := h1
  have lt1 : ∀ x ∈ p1, x.block < W.heap.size := by obtain ⟨m, hm⟩ := j1; exact DataW.trod_lt m _ _ _ hm
  obtain ⟨b1, rfl⟩ := okWide_string Try.underlying9 (hval 1 9 v1 rfl rfl)
  clear hA0 hval0 hsz0
  refine (law_all a0_0 a0_1 a0_2 A0_3 c0_3 l0_3 A0_4 c0_4 l0_4 b1 W hr0_3 hc0_3 hr0_4 hc0_4 (ok25.mk _ o0_0 o0_1 o0_2 o0_3 o0_4.1 o0_4.2)).mono fun e W' ⟨he, bel0⟩ => ?_
  have bel : Below W.heap.size W W' := bel0
  subst he
  exact ⟨_, rfl, _, _, _, [], _, [], hW', trodAll_mk1 (shut_bool Try.underlying4 _), (trodAll_cons_mk (Below.trod laidOut (by kernel_rfl) (of_decide_eq_true (by kernel_rfl)) j0 bel lt0) (trodAll_cons_mk (Below.trod laidOut (by kernel_rfl) (of_decide_eq_true (by kernel_rfl)) j1 bel lt1) trodAll_mk0)), rfl, bel.frame _, fun h => by cases h⟩
theorem over : Rows.fnExactMemberRow.holds Try.pinned (OpenSpec.ofChange Rows.fnExactMemberSpec) :=
  OpenClaim.holds_of_wide 3 Try.f3 rfl rfl rfl rfl rfl rfl rfl ⟨rfl, rfl, rfl, rfl, rfl⟩ rfl rfl rfl rfl rfl (by kernel_rfl) Try.func3 (by kernel_rfl)
    (of_decide_eq_true (by kernel_rfl)) (by unfold Func.isWrapper; first | (rw [if_pos (by decide +kernel)]; kernel_rfl) | (rw [if_neg (by decide +kernel)]; exact ⟨rfl, rfl⟩))
    (fun os started H enc _ => lifted os started H enc)
theorem proved : Rows.FnExactMemberSaid := over
#print axioms proved
end Go.Proofs.Ytljpmdeobmmhlaa.fnExactMember
namespace Go.Proofs.Ytljpmdeobmmhlaa
/-- The row, under a short name, for the claim. -/
theorem fnExactMember_holds : Rows.FnExactMemberSaid := fnExactMember.proved
end Go.Proofs.Ytljpmdeobmmhlaa
