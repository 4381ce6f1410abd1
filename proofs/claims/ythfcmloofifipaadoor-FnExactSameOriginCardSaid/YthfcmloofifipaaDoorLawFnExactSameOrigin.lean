/- A tool of this session wrote this text out of the translation: functions as plain Lean, and proofs that the machine's calls come to their answers. -/
import Derived.Test.YthfcmloofifipaaDoorRows
import Derived.Test.YthfcmloofifipaaDoorQFnExactSameOriginx0
import Derived.Test.YthfcmloofifipaaDoorQOpen
import Derived.Test.YthfcmloofifipaaDoorPureFnExactSameOrigin
import Derived.Test.YthfcmloofifipaaDoorCards
import Derived.Test.YthfcmloofifipaaDoorTie
import Derived.WalkKit
import Derived.ProofKit
import Derived.OpenShut
import Derived.ShutString
import Derived.ChangeOld
import Derived.Below
import Derived.SizedLaws
import Derived.Handed
import Derived.LaidMore
import Derived.Stop.LaidErr
import Derived.SevenTiedAt
import Derived.Lib.LaidTab
import Derived.MakeChecks
import Derived.Stop.Joined
import Derived.LaidHandle
namespace Go.Proofs.YthfcmloofifipaaDoor.fnExactSameOrigin
open Go.ChangeShapes Go.WideShapes Go.ChangeAt Go.RowKit
open Go.ChangeMaps (open_string shut_string)
open Go.Proofs.YthfcmloofifipaaDoorW.PrintWords Go.Proofs.YthfcmloofifipaaDoor.QFnExactSameOrigin Go.Proofs.YthfcmloofifipaaDoor.QFnExactUrlOK Go.Proofs.YthfcmloofifipaaDoor.Opening
set_option linter.unusedVariables false
set_option linter.unusedSimpArgs false
theorem own : ownKnob Tryd.prog.godebug = none := by kernel_rfl
theorem laidOut : laidOutB Tryd.prog = true := by kernel_rfl

theorem gPow : Tryd.prog.globalNamed "internal/strconv.uint64pow10" = some 3 := by kernel_rfl
theorem tPow : (Tryd.prog.globals[3]?).map (·.type) = some 96 := by kernel_rfl
theorem amb_of {W : World} (h : laidMetH Tryd.prog Rows.fnExactSameOriginRow.laid W) : Amb W := by
  rw [MakeChecks.laidMetH_plain _ _ _ (by kernel_rfl)] at h
  have h2 := h.tail.tail
  have e2 : (Rows.laid_internal_strconv_uint64pow10 : DataW Unit) = Lib.tabData .u64 Lib.pow10Tab := by kernel_rfl
  refine Lib.tabIs_of_head (rest := _) gPow tPow Tryd.underlying96 Tryd.underlying85 (by kernel_rfl) (by kernel_rfl) (e2 ▸ h2)
set_option maxRecDepth 100000
theorem door_met (os : Os) (args : Array Value) : laidMetH Tryd.prog Rows.fnExactSameOriginRow.laid ((World.doorLaid Tryd.prog 400 os).forCall (fun _ _ => 0) ⟨#[], args, []⟩).memory := by
  rw [MakeChecks.laidMetH_plain _ _ _ (by kernel_rfl)]
  exact laidMet_of_run' 8 (by kernel_rfl) (by kernel_rfl)
theorem lifted (os : Os) (started : os.Started) (H : Type) (enc : TypeId × Value → H) :
    ReturnsInHanded {} Tryd.checked os 4 .any (fun w args => (Rows.fnExactSameOriginSpec.pre enc Tryd.prog Tryd.f4 [] false w args ∧ laidMetH Tryd.prog Rows.fnExactSameOriginRow.laid w) ∧ sizedMet enc Tryd.prog Tryd.f4 (OpenSpec.ofChange Rows.fnExactSameOriginSpec) false w args) (Rows.fnExactSameOriginSpec.post enc Tryd.prog Tryd.f4 false true false false) := by
  refine returnsInHanded_of_change_and (C := Tryd.checked) (X := fun w _ => laidMetH Tryd.prog Rows.fnExactSameOriginRow.laid w) (fun _ _ _ hh h => h.of_heap hh) own started (by kernel_rfl) Tryd.func4
    (ChangeSpec.witness_shaped (enc := enc) (C := Tryd.checked) (os := os) (X := fun w _ => laidMetH Tryd.prog Rows.fnExactSameOriginRow.laid w) false (World.doorLaid Tryd.prog 400 os) #[.agg #[.string ByteArray.empty, .string ByteArray.empty, .string ByteArray.empty, .int .i64 0, .string ByteArray.empty, .string ByteArray.empty, .string ByteArray.empty, .bool false, .bool false], .agg #[.string ByteArray.empty, .string ByteArray.empty, .string ByteArray.empty, .int .i64 0, .string ByteArray.empty, .string ByteArray.empty, .string ByteArray.empty, .bool false, .bool false]] 8 rfl (World.shaped_of_RefB (by kernel_rfl) (by kernel_rfl)) (by kernel_rfl) (by kernel_rfl) (by kernel_rfl) (door_met os _)) ?_
  intro W base args ds gs before hval0 hW hcnd hsz0 hL _
  have hM := amb_of hL
  have hval : ∀ (j : Nat) t v, Tryd.f4.params[j]? = some t → args[j]? = some v → Value.okWide Tryd.prog W .any base t v := hval0
  have hW' := hW
  obtain ⟨p, q, hA0, hV, rfl, hfz, hnd⟩ := hW
  have hA : DataW.TrodAll enc Tryd.prog W 0 (fun _ => true) true Tryd.f4.params.toList args.toList ds p := hA0
  rw [Tryd.params4] at hA hval
  obtain ⟨v0, vs0, d0, ds0, p0, q0, hargs, rfl, rfl, h0, r0⟩ := trodAll_cons hA
  obtain ⟨v1, vs1, d1, ds1, p1, q1, rfl, rfl, rfl, h1, r1⟩ := trodAll_cons r0
  obtain ⟨rfl, rfl, rfl⟩ := trodAll_nil r1
  obtain rfl : args = #[v0, v1] := by cases args; simp_all
  obtain ⟨rfl, rfl⟩ := trodVars_none hV
  have j0 := h0
  have lt0 : ∀ x ∈ p0, x.block < W.heap.size := by obtain ⟨m, hm⟩ := j0; exact DataW.trod_lt m _ _ _ hm
  have op0 : ∀ m, OpensTo Tryd.prog m 23 (Kd.pair Kd.string (Kd.pair Kd.string (Kd.pair Kd.string (Kd.pair (Kd.int .i64) (Kd.pair Kd.string (Kd.pair Kd.string (Kd.pair Kd.string (Kd.pair Kd.bool Kd.bool)))))))) (OkPair (fun y_ => y_.size ≤ 9223372036854775807) (OkPair (fun y_ => y_.size ≤ 9223372036854775807) (OkPair (fun y_ => y_.size ≤ 9223372036854775807) (OkPair (fun y_ => (Lit.int .i64 y_).wf = true) (OkPair (fun y_ => y_.size ≤ 9223372036854775807) (OkPair (fun y_ => y_.size ≤ 9223372036854775807) (OkPair (fun y_ => y_.size ≤ 9223372036854775807) (OkPair (fun _ => True) (fun _ => True))))))))) := by
    refine opens_struct_all Tryd.underlying23 (by kernel_rfl) (fun m => ?_)
    apply opens_more
    · rfl
    · kernel_rfl
    · decide
    · exact ((fun _ => opens_string Tryd.underlying9) m)
    apply opens_more
    · rfl
    · kernel_rfl
    · decide
    · exact ((fun _ => opens_string Tryd.underlying9) m)
    apply opens_more
    · rfl
    · kernel_rfl
    · decide
    · exact ((fun _ => opens_string Tryd.underlying9) m)
    apply opens_more
    · rfl
    · kernel_rfl
    · decide
    · exact ((fun _ => opens_int Tryd.underlying3) m)
    apply opens_more
    · rfl
    · kernel_rfl
    · decide
    · exact ((fun _ => opens_string Tryd.underlying9) m)
    apply opens_more
    · rfl
    · kernel_rfl
    · decide
    · exact ((fun _ => opens_string Tryd.underlying9) m)
    apply opens_more
    · rfl
    · kernel_rfl
    · decide
    · exact ((fun _ => opens_string Tryd.underlying9) m)
    apply opens_more
    · rfl
    · kernel_rfl
    · decide
    · exact ((fun _ => opens_bool Tryd.underlying4) m)
    apply opens_last
    · rfl
    · kernel_rfl
    · exact ((fun _ => opens_bool Tryd.underlying4) m)
  obtain ⟨cs0, rfl, _⟩ := okWide_struct Tryd.underlying23 (hval 0 23 v0 rfl rfl)
  obtain ⟨fu0, hf0⟩ := h0
  obtain ⟨L0, hL0⟩ : ∃ L, (Value.cells (.agg cs0)).toList = L := ⟨_, rfl⟩
  rw [hL0] at hf0
  obtain ⟨⟨a0_0, a0_1, a0_2, a0_3, a0_4, a0_5, a0_6, a0_7, a0_8⟩, hK0, ⟨o0_0, o0_1, o0_2, o0_3, o0_4, o0_5, o0_6, o0_7, o0_8⟩⟩ := op0 _ _ _ _ _ _ _ (Nat.le_refl _) hf0
  obtain ⟨_, _, rfl, rfl, ⟨_, _, rfl, rfl, ⟨_, _, rfl, rfl, ⟨_, _, rfl, rfl, ⟨_, _, rfl, rfl, ⟨_, _, rfl, rfl, ⟨_, _, rfl, rfl, ⟨_, _, rfl, rfl, rfl⟩⟩⟩⟩⟩⟩⟩⟩ := hK0
  obtain rfl : cs0 = #[.string a0_0, .string a0_1, .string a0_2, .int .i64 a0_3, .string a0_4, .string a0_5, .string a0_6, .bool a0_7, .bool a0_8] := by apply Array.toList_inj.1; simpa [Value.cells] using hL0
  have j1 := h1
  have lt1 : ∀ x ∈ p1, x.block < W.heap.size := by obtain ⟨m, hm⟩ := j1; exact DataW.trod_lt m _ _ _ hm
  have op1 : ∀ m, OpensTo Tryd.prog m 23 (Kd.pair Kd.string (Kd.pair Kd.string (Kd.pair Kd.string (Kd.pair (Kd.int .i64) (Kd.pair Kd.string (Kd.pair Kd.string (Kd.pair Kd.string (Kd.pair Kd.bool Kd.bool)))))))) (OkPair (fun y_ => y_.size ≤ 9223372036854775807) (OkPair (fun y_ => y_.size ≤ 9223372036854775807) (OkPair (fun y_ => y_.size ≤ 9223372036854775807) (OkPair (fun y_ => (Lit.int .i64 y_).wf = true) (OkPair (fun y_ => y_.size ≤ 9223372036854775807) (OkPair (fun y_ => y_.size ≤ 9223372036854775807) (OkPair (fun y_ => y_.size ≤ 9223372036854775807) (OkPair (fun _ => True) (fun _ => True))))))))) := by
    refine opens_struct_all Tryd.underlying23 (by kernel_rfl) (fun m => ?_)
    apply opens_more
    · rfl
    · kernel_rfl
    · decide
    · exact ((fun _ => opens_string Tryd.underlying9) m)
    apply opens_more
    · rfl
    · kernel_rfl
    · decide
    · exact ((fun _ => opens_string Tryd.underlying9) m)
    apply opens_more
    · rfl
    · kernel_rfl
    · decide
    · exact ((fun _ => opens_string Tryd.underlying9) m)
    apply opens_more
    · rfl
    · kernel_rfl
    · decide
    · exact ((fun _ => opens_int Tryd.underlying3) m)
    apply opens_more
    · rfl
    · kernel_rfl
    · decide
    · exact ((fun _ => opens_string Tryd.underlying9) m)
    apply opens_more
    · rfl
    · kernel_rfl
    · decide
    · exact ((fun _ => opens_string Tryd.underlying9) m)
    apply opens_more
    · rfl
    · kernel_rfl
    · decide
    · exact ((fun _ => opens_string Tryd.underlying9) m)
    apply opens_more
    · rfl
    · kernel_rfl
    · decide
    · exact ((fun _ => opens_bool Tryd.underlying4) m)
    apply opens_last
    · rfl
    · kernel_rfl
    · exact ((fun _ => opens_bool Tryd.underlying4) m)
  obtain ⟨cs1, rfl, _⟩ := okWide_struct Tryd.underlying23 (hval 1 23 v1 rfl rfl)
  obtain ⟨fu1, hf1⟩ := h1
  obtain ⟨L1, hL1⟩ : ∃ L, (Value.cells (.agg cs1)).toList = L := ⟨_, rfl⟩
  rw [hL1] at hf1
  obtain ⟨⟨a1_0, a1_1, a1_2, a1_3, a1_4, a1_5, a1_6, a1_7, a1_8⟩, hK1, ⟨o1_0, o1_1, o1_2, o1_3, o1_4, o1_5, o1_6, o1_7, o1_8⟩⟩ := op1 _ _ _ _ _ _ _ (Nat.le_refl _) hf1
  obtain ⟨_, _, rfl, rfl, ⟨_, _, rfl, rfl, ⟨_, _, rfl, rfl, ⟨_, _, rfl, rfl, ⟨_, _, rfl, rfl, ⟨_, _, rfl, rfl, ⟨_, _, rfl, rfl, ⟨_, _, rfl, rfl, rfl⟩⟩⟩⟩⟩⟩⟩⟩ := hK1
  obtain rfl : cs1 = #[.string a1_0, .string a1_1, .string a1_2, .int .i64 a1_3, .string a1_4, .string a1_5, .string a1_6, .bool a1_7, .bool a1_8] := by apply Array.toList_inj.1; simpa [Value.cells] using hL1
  clear hA0 hval0 hsz0
  obtain ⟨k, h⟩ := Pure.FnExactSameOrigin a0_0 a0_1 a0_2 a0_3 a0_4 a0_5 a0_6 a0_7 a0_8 a1_0 a1_1 a1_2 a1_3 a1_4 a1_5 a1_6 a1_7 a1_8 o0_0 o0_1 o0_2 o0_3 o0_4 o0_5 o0_6 o1_0 o1_1 o1_2 o1_3 o1_4 o1_5 o1_6
  refine (laws_FnExactSameOrigin.calls k a0_0 a0_1 a0_2 a0_3 a0_4 a0_5 a0_6 a0_7 a0_8 a1_0 a1_1 a1_2 a1_3 a1_4 a1_5 a1_6 a1_7 a1_8 true W  hM h rfl).mono fun e W' ⟨he, bel0⟩ => ?_
  have bel : Below W.heap.size W W' := bel0
  subst he
  exact ⟨_, rfl, _, _, _, [], _, [], hW', trodAll_mk1 (shut_bool Tryd.underlying4 _), (trodAll_cons_mk (Below.trod laidOut (by kernel_rfl) (of_decide_eq_true (by kernel_rfl)) j0 bel lt0) (trodAll_cons_mk (Below.trod laidOut (by kernel_rfl) (of_decide_eq_true (by kernel_rfl)) j1 bel lt1) trodAll_mk0)), rfl, bel.frame _, fun h => by cases h⟩
theorem over : Rows.fnExactSameOriginRow.holds Tryd.pinned (OpenSpec.ofChange Rows.fnExactSameOriginSpec) :=
  OpenClaim.holds_of_wide 4 Tryd.f4 rfl rfl rfl rfl rfl rfl rfl ⟨rfl, rfl, rfl, rfl, rfl⟩ rfl rfl rfl rfl rfl (by kernel_rfl) Tryd.func4 (by kernel_rfl)
    (of_decide_eq_true (by kernel_rfl)) (by unfold Func.isWrapper; first | (rw [if_pos (by decide +kernel)]; kernel_rfl) | (rw [if_neg (by decide +kernel)]; exact ⟨rfl, rfl⟩))
    (fun os started H enc _ => lifted os started H enc)
theorem proved : Rows.FnExactSameOriginCardSaid :=
  Claim7.holds_tied_plain_at .later [] [.data, .data, .data] true (true, "6787d2359c30850c5a322824f5a62ae537dab5e6b556567aa8054ebcc0c25c03") true
    over (fun _ h => by cases h) (by kernel_rfl) (fun _ h => by cases h) fnExactSameOrigin_row_tie rfl ⟨rfl, rfl⟩ (by kernel_rfl) rfl
    (fun f fn hf hfn => by
      obtain rfl : f = 4 := Option.some.inj ((show Tryd.prog.funcNamed Rows.fnExactSameOriginRow.func = some 4 by kernel_rfl).symm.trans hf) |>.symm
      obtain rfl : fn = Tryd.f4 := (Option.some.inj (Tryd.func4.symm.trans hfn)).symm
      exact ⟨by kernel_rfl, fun j t ht => by
        rw [Tryd.params4] at ht
        have hm : t ∈ ([23, 23] : List TypeId) := by simpa using Array.mem_of_getElem? ht
        have hall : (([23, 23] : List TypeId).all fun u => !Tryd.prog.wantsStandIn u) = true := by kernel_rfl
        exact (show Tryd.prog.wantsStandIn t = false by simpa using List.all_eq_true.1 hall t hm)⟩)
    (by kernel_rfl)
#print axioms proved
end Go.Proofs.YthfcmloofifipaaDoor.fnExactSameOrigin
namespace Go.Proofs.YthfcmloofifipaaDoor
/-- The row, under a short name, for the claim. -/
theorem fnExactSameOrigin_holds : Rows.FnExactSameOriginCardSaid := fnExactSameOrigin.proved
end Go.Proofs.YthfcmloofifipaaDoor
