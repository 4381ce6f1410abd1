/- A tool of this session wrote this text out of the translation: functions as plain Lean, and proofs that the machine's calls come to their answers. -/
import Derived.Test.YtljpmdeobmmhlaaDoorRows
import Derived.Test.YtljpmdeobmmhlaaDoorQFnExactJsonTextx9
import Derived.Test.YtljpmdeobmmhlaaDoorQOpen
import Derived.Test.YtljpmdeobmmhlaaDoorPureFnExactJsonText
import Derived.Test.YtljpmdeobmmhlaaDoorCards
import Derived.Test.YtljpmdeobmmhlaaDoorTie
import Derived.WalkKit
import Derived.ProofKit
import Derived.OpenShut
import Derived.ShutString
import Derived.ChangeOld
import Derived.Below
import Derived.SizedLaws
import Derived.Handed
import Derived.LaidMore
import Derived.Stop.LaidErr
import Derived.SevenTiedAt
import Derived.Lib.LaidTab
import Derived.MakeChecks
import Derived.Stop.Joined
import Derived.LaidHandle
namespace Go.Proofs.YtljpmdeobmmhlaaDoor.fnExactJsonText
open Go.ChangeShapes Go.WideShapes Go.ChangeAt Go.RowKit
open Go.ChangeMaps (open_string shut_string)
open Go.Proofs.YtljpmdeobmmhlaaDoorW.PrintWords Go.Proofs.YtljpmdeobmmhlaaDoor.QFnExactJsonText Go.Proofs.YtljpmdeobmmhlaaDoor.Opening
set_option linter.unusedVariables false
set_option linter.unusedSimpArgs false
theorem own : ownKnob Tryd.prog.godebug = none := by kernel_rfl
theorem laidOut : laidOutB Tryd.prog = true := by kernel_rfl
theorem conv25 {m : Nat} (h : OpensTo Tryd.prog m 25 (Kd.pair (Kd.int .i64) (Kd.pair (Kd.int .i64) (Kd.pair Kd.string (Kd.pair (Kd.slice 9 Kd.string) (Kd.slice 25 k25))))) (OkPair (fun y_ => (Lit.int .i64 y_).wf = true) (OkPair (fun y_ => (Lit.int .i64 y_).wf = true) (OkPair (fun y_ => y_.size ≤ 9223372036854775807) (OkPair (fun ys_ => ys_.length ≤ 9223372036854775807 ∧ ∀ y_, y_ ∈ ys_ → (fun y_ => y_.size ≤ 9223372036854775807) y_) (fun ys_ => ys_.length ≤ 9223372036854775807 ∧ ∀ y_, y_ ∈ ys_ → ok25 y_)))))) : OpensTo Tryd.prog m 25 k25 ok25 := by
  intro H enc w fuel cs x hm hx
  obtain ⟨⟨a0, a1, a2, a3, a4⟩, hK, ⟨o0, o1, o2, o3, ⟨ol4, o4⟩⟩⟩ := h _ _ _ _ _ _ hm hx
  obtain ⟨_, _, rfl, rfl, ⟨_, _, rfl, rfl, ⟨_, _, rfl, rfl, ⟨_, _, rfl, ⟨A3, c3, rfl, l3, g3⟩, ⟨A4, c4, rfl, l4, g4⟩⟩⟩⟩⟩ := hK
  exact ⟨⟨a0, a1, a2, a3, a4⟩, k25_mk w ⟨a0, a1, a2, a3, a4⟩ l3 g3 l4 g4, ok25.mk _ o0 o1 o2 o3 ol4 o4⟩
theorem opens25 : ∀ m, OpensTo Tryd.prog m 25 k25 ok25 := by
  intro m
  induction m using Nat.strongRecOn with
  | _ m ih =>
  match m, ih with
  | 0, _ => exact opens_zero
  | 1, _ =>
    refine conv25 (opens_struct Tryd.underlying25 (by kernel_rfl) ?_)
    apply opens_more
    · rfl
    · kernel_rfl
    · decide
    · exact ((fun _ => opens_int Tryd.underlying3) _)
    apply opens_more
    · rfl
    · kernel_rfl
    · decide
    · exact ((fun _ => opens_int Tryd.underlying3) _)
    apply opens_more
    · rfl
    · kernel_rfl
    · decide
    · exact ((fun _ => opens_string Tryd.underlying9) _)
    apply opens_more
    · rfl
    · kernel_rfl
    · decide
    · exact ((opens_slice_all Tryd.underlying22 (by kernel_rfl) (fun _ => opens_string Tryd.underlying9)) _)
    apply opens_last
    · rfl
    · kernel_rfl
    · exact opens_zero
  | m + 2, ih =>
    refine conv25 (opens_struct Tryd.underlying25 (by kernel_rfl) ?_)
    apply opens_more
    · rfl
    · kernel_rfl
    · decide
    · exact ((fun _ => opens_int Tryd.underlying3) _)
    apply opens_more
    · rfl
    · kernel_rfl
    · decide
    · exact ((fun _ => opens_int Tryd.underlying3) _)
    apply opens_more
    · rfl
    · kernel_rfl
    · decide
    · exact ((fun _ => opens_string Tryd.underlying9) _)
    apply opens_more
    · rfl
    · kernel_rfl
    · decide
    · exact ((opens_slice_all Tryd.underlying22 (by kernel_rfl) (fun _ => opens_string Tryd.underlying9)) _)
    apply opens_last
    · rfl
    · kernel_rfl
    · exact (opens_slice Tryd.underlying23 (by kernel_rfl) (ih m (by omega)))
theorem gPow : Tryd.prog.globalNamed "internal/strconv.uint64pow10" = some 1 := by kernel_rfl
theorem tPow : (Tryd.prog.globals[1]?).map (·.type) = some 76 := by kernel_rfl
theorem amb_of {W : World} (h : laidMetH Tryd.prog Rows.fnExactJsonTextRow.laid W) : Amb W := by
  rw [MakeChecks.laidMetH_plain _ _ _ (by kernel_rfl)] at h
  have h2 := h.tail.tail
  have e2 : (Rows.laid_internal_strconv_uint64pow10 : DataW Unit) = Lib.tabData .u64 Lib.pow10Tab := by kernel_rfl
  refine Lib.tabIs_of_head (rest := _) gPow tPow Tryd.underlying76 Tryd.underlying69 (by kernel_rfl) (by kernel_rfl) (e2 ▸ h2)
set_option maxRecDepth 100000
theorem door_met (os : Os) (args : Array Value) : laidMetH Tryd.prog Rows.fnExactJsonTextRow.laid ((World.doorLaid Tryd.prog 400 os).forCall (fun _ _ => 0) ⟨#[], args, []⟩).memory := by
  rw [MakeChecks.laidMetH_plain _ _ _ (by kernel_rfl)]
  exact laidMet_of_run' 8 (by kernel_rfl) (by kernel_rfl)
theorem lifted (os : Os) (started : os.Started) (H : Type) (enc : TypeId × Value → H) :
    ReturnsInHanded {} Tryd.checked os 3 .any (fun w args => (Rows.fnExactJsonTextSpec.pre enc Tryd.prog Tryd.f3 [] false w args ∧ laidMetH Tryd.prog Rows.fnExactJsonTextRow.laid w) ∧ sizedMet enc Tryd.prog Tryd.f3 (OpenSpec.ofChange Rows.fnExactJsonTextSpec) false w args) (Rows.fnExactJsonTextSpec.post enc Tryd.prog Tryd.f3 false true false false) := by
  refine returnsInHanded_of_change_and (C := Tryd.checked) (X := fun w _ => laidMetH Tryd.prog Rows.fnExactJsonTextRow.laid w) (fun _ _ _ hh h => h.of_heap hh) own started (by kernel_rfl) Tryd.func3
    (ChangeSpec.witness_shaped (enc := enc) (C := Tryd.checked) (os := os) (X := fun w _ => laidMetH Tryd.prog Rows.fnExactJsonTextRow.laid w) false (World.doorLaid Tryd.prog 400 os) #[.agg #[.int .i64 0, .int .i64 0, .string ByteArray.empty, .slice none 0 0, .slice none 0 0]] 8 rfl (World.shaped_of_RefB (by kernel_rfl) (by kernel_rfl)) (by kernel_rfl) (by kernel_rfl) (by kernel_rfl) (door_met os _)) ?_
  intro W base args ds gs before hval0 hW hcnd hsz0 hL _
  have hM := amb_of hL
  have hval : ∀ (j : Nat) t v, Tryd.f3.params[j]? = some t → args[j]? = some v → Value.okWide Tryd.prog W .any base t v := hval0
  have hW' := hW
  obtain ⟨p, q, hA0, hV, rfl, hfz, hnd⟩ := hW
  have hA : DataW.TrodAll enc Tryd.prog W 0 (fun _ => true) true Tryd.f3.params.toList args.toList ds p := hA0
  rw [Tryd.params3] at hA hval
  obtain ⟨v0, vs0, d0, ds0, p0, q0, hargs, rfl, rfl, h0, r0⟩ := trodAll_cons hA
  obtain ⟨rfl, rfl, rfl⟩ := trodAll_nil r0
  obtain rfl : args = #[v0] := by cases args; simp_all
  obtain ⟨rfl, rfl⟩ := trodVars_none hV
  have j0 := h0
  have lt0 : ∀ x ∈ p0, x.block < W.heap.size := by obtain ⟨m, hm⟩ := j0; exact DataW.trod_lt m _ _ _ hm
  have op0 : ∀ m, OpensTo Tryd.prog m 25 (Kd.pair (Kd.int .i64) (Kd.pair (Kd.int .i64) (Kd.pair Kd.string (Kd.pair (Kd.slice 9 Kd.string) (Kd.slice 25 k25))))) (OkPair (fun y_ => (Lit.int .i64 y_).wf = true) (OkPair (fun y_ => (Lit.int .i64 y_).wf = true) (OkPair (fun y_ => y_.size ≤ 9223372036854775807) (OkPair (fun ys_ => ys_.length ≤ 9223372036854775807 ∧ ∀ y_, y_ ∈ ys_ → (fun y_ => y_.size ≤ 9223372036854775807) y_) (fun ys_ => ys_.length ≤ 9223372036854775807 ∧ ∀ y_, y_ ∈ ys_ → ok25 y_))))) := by
    refine opens_struct_all Tryd.underlying25 (by kernel_rfl) (fun m => ?_)
    apply opens_more
    · rfl
    · kernel_rfl
    · decide
    · exact ((fun _ => opens_int Tryd.underlying3) m)
    apply opens_more
    · rfl
    · kernel_rfl
    · decide
    · exact ((fun _ => opens_int Tryd.underlying3) m)
    apply opens_more
    · rfl
    · kernel_rfl
    · decide
    · exact ((fun _ => opens_string Tryd.underlying9) m)
    apply opens_more
    · rfl
    · kernel_rfl
    · decide
    · exact ((opens_slice_all Tryd.underlying22 (by kernel_rfl) (fun _ => opens_string Tryd.underlying9)) m)
    apply opens_last
    · rfl
    · kernel_rfl
    · exact ((opens_slice_all Tryd.underlying23 (by kernel_rfl) opens25) m)
  obtain ⟨cs0, rfl, _⟩ := okWide_struct Tryd.underlying25 (hval 0 25 v0 rfl rfl)
  obtain ⟨fu0, hf0⟩ := h0
  obtain ⟨L0, hL0⟩ : ∃ L, (Value.cells (.agg cs0)).toList = L := ⟨_, rfl⟩
  rw [hL0] at hf0
  obtain ⟨⟨a0_0, a0_1, a0_2, l0_3, l0_4⟩, hK0, ⟨o0_0, o0_1, o0_2, o0_3, o0_4⟩⟩ := op0 _ _ _ _ _ _ _ (Nat.le_refl _) hf0
  obtain ⟨_, _, rfl, rfl, ⟨_, _, rfl, rfl, ⟨_, _, rfl, rfl, ⟨_, _, rfl, ⟨A0_3, c0_3, rfl, hc0_3, hr0_3⟩, ⟨A0_4, c0_4, rfl, hc0_4, hr0_4⟩⟩⟩⟩⟩ := hK0
  obtain rfl : cs0 = #[.int .i64 a0_0, .int .i64 a0_1, .string a0_2, .slice A0_3 l0_3.length c0_3, .slice A0_4 l0_4.length c0_4] := by apply Array.toList_inj.1; simpa [Value.cells] using hL0
  clear hA0 hval0 hsz0
  obtain ⟨k, h⟩ := Pure.FnExactJsonText a0_0 a0_1 a0_2 l0_3 l0_4 o0_0 o0_1 o0_2 o0_3 o0_4
  refine (laws_FnExactJsonText.calls k a0_0 a0_1 a0_2 A0_3 c0_3 l0_3 A0_4 c0_4 l0_4 true W hr0_3 hc0_3 hr0_4 hc0_4 hM h rfl).mono fun e W' ⟨he, bel0⟩ => ?_
  have bel : Below W.heap.size W W' := bel0
  subst he
  exact ⟨_, rfl, _, _, _, [], _, [], hW', trodAll_mk1 (shut_bool Tryd.underlying4 _), (trodAll_cons_mk (Below.trod laidOut (by kernel_rfl) (of_decide_eq_true (by kernel_rfl)) j0 bel lt0) trodAll_mk0), rfl, bel.frame _, fun h => by cases h⟩
theorem over : Rows.fnExactJsonTextRow.holds Tryd.pinned (OpenSpec.ofChange Rows.fnExactJsonTextSpec) :=
  OpenClaim.holds_of_wide 3 Tryd.f3 rfl rfl rfl rfl rfl rfl rfl ⟨rfl, rfl, rfl, rfl, rfl⟩ rfl rfl rfl rfl rfl (by kernel_rfl) Tryd.func3 (by kernel_rfl)
    (of_decide_eq_true (by kernel_rfl)) (by unfold Func.isWrapper; first | (rw [if_pos (by decide +kernel)]; kernel_rfl) | (rw [if_neg (by decide +kernel)]; exact ⟨rfl, rfl⟩))
    (fun os started H enc _ => lifted os started H enc)
theorem proved : Rows.FnExactJsonTextCardSaid :=
  Claim7.holds_tied_plain_at .later [] [.data, .data, .data] true (true, "77f0b5a634389545837ce9db3bcb8c8645cd1b87000a15fd7df15c913ed5d8f6") false
    over (fun _ h => by cases h) (by kernel_rfl) (fun _ h => by cases h) fnExactJsonText_row_tie rfl ⟨rfl, rfl⟩ (by kernel_rfl) rfl
    (fun f fn hf hfn => by
      obtain rfl : f = 3 := Option.some.inj ((show Tryd.prog.funcNamed Rows.fnExactJsonTextRow.func = some 3 by kernel_rfl).symm.trans hf) |>.symm
      obtain rfl : fn = Tryd.f3 := (Option.some.inj (Tryd.func3.symm.trans hfn)).symm
      exact ⟨by kernel_rfl, fun j t ht => by
        rw [Tryd.params3] at ht
        have hm : t ∈ ([25] : List TypeId) := by simpa using Array.mem_of_getElem? ht
        have hall : (([25] : List TypeId).all fun u => !Tryd.prog.wantsStandIn u) = true := by kernel_rfl
        exact (show Tryd.prog.wantsStandIn t = false by simpa using List.all_eq_true.1 hall t hm)⟩)
    (by kernel_rfl)
#print axioms proved
end Go.Proofs.YtljpmdeobmmhlaaDoor.fnExactJsonText
namespace Go.Proofs.YtljpmdeobmmhlaaDoor
/-- The row, under a short name, for the claim. -/
theorem fnExactJsonText_holds : Rows.FnExactJsonTextCardSaid := fnExactJsonText.proved
end Go.Proofs.YtljpmdeobmmhlaaDoor
