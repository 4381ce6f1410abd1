/- A tool of this session wrote this text out of the translation: functions as plain Lean, and proofs that the machine's calls come to their answers. -/
import Derived.Test.YthifpohbdbhnlaaGreatDoorRows
import Derived.Test.YthifpohbdbhnlaaGreatDoorQFnExactSameGroupx3
import Derived.Test.YthifpohbdbhnlaaGreatDoorQOpen
import Derived.Test.YthifpohbdbhnlaaGreatDoorPureFnExactSameGroup
import Derived.Test.YthifpohbdbhnlaaGreatDoorCards
import Derived.Test.YthifpohbdbhnlaaGreatDoorTie
import Derived.WalkKit
import Derived.ProofKit
import Derived.OpenShut
import Derived.ShutString
import Derived.ChangeOld
import Derived.Below
import Derived.SizedLaws
import Derived.Handed
import Derived.LaidMore
import Derived.Stop.LaidErr
import Derived.SevenTiedAt
import Derived.Lib.LaidTab
import Derived.MakeChecks
import Derived.Stop.Joined
import Derived.LaidHandle
namespace Go.Proofs.YthifpohbdbhnlaaGreatDoor.fnExactSameGroup
open Go.ChangeShapes Go.WideShapes Go.ChangeAt Go.RowKit
open Go.ChangeMaps (open_string shut_string)
open Go.Proofs.YthifpohbdbhnlaaGreatDoorW.PrintWords Go.Proofs.YthifpohbdbhnlaaGreatDoor.QFnExactSameGroup Go.Proofs.YthifpohbdbhnlaaGreatDoor.QFnStp Go.Proofs.YthifpohbdbhnlaaGreatDoor.Opening
set_option linter.unusedVariables false
set_option linter.unusedSimpArgs false
theorem own : ownKnob Tryz.prog.godebug = none := by kernel_rfl
theorem laidOut : laidOutB Tryz.prog = true := by kernel_rfl
theorem opens87 : ∀ m, OpensTo Tryz.prog m 87 k87 ok87 := by
  have h : ∀ m, OpensTo Tryz.prog m 87 (Kd.pair Kd.string (Kd.pair (Kd.int .i64) (Kd.int .i64))) (OkPair (fun y_ => y_.size ≤ 9223372036854775807) (OkPair (fun y_ => (Lit.int .i64 y_).wf = true) (fun y_ => (Lit.int .i64 y_).wf = true))) := by
    refine opens_struct_all Tryz.underlying87 (by kernel_rfl) (fun m => ?_)
    apply opens_more
    · rfl
    · kernel_rfl
    · decide
    · exact ((fun _ => opens_string Tryz.underlying9) m)
    apply opens_more
    · rfl
    · kernel_rfl
    · decide
    · exact ((fun _ => opens_int Tryz.underlying3) m)
    apply opens_last
    · rfl
    · kernel_rfl
    · exact ((fun _ => opens_int Tryz.underlying3) m)
  exact opens_iso_all (f := (fun x : S87 => (x.f0, x.f1, x.f2))) (fun p : (ByteArray) × (Int) × (Int) => (⟨p.1, p.2.1, p.2.2⟩ : S87)) (fun _ => rfl) (fun _ h => h) h
theorem gPow : Tryz.prog.globalNamed "internal/strconv.uint64pow10" = some 3 := by kernel_rfl
theorem tPow : (Tryz.prog.globals[3]?).map (·.type) = some 163 := by kernel_rfl
theorem amb_tab {W : World} (h : laidMetH Tryz.prog Rows.fnExactSameGroupRow.laid W) : Lib.TabIs Tryz.prog W "internal/strconv.uint64pow10" .u64 Lib.pow10Tab := by
  rw [MakeChecks.laidMetH_plain _ _ _ (by kernel_rfl)] at h
  have h2 := h.tail.tail
  have e2 : (Rows.laid_internal_strconv_uint64pow10 : DataW Unit) = Lib.tabData .u64 Lib.pow10Tab := by kernel_rfl
  refine Lib.tabIs_of_head (rest := _) gPow tPow Tryz.underlying163 Tryz.underlying146 (by kernel_rfl) (by kernel_rfl) (e2 ▸ h2)
theorem star : "*" ++ "errors.errorString" = "*errors.errorString" := by decide
theorem rowErr (u : TypeId) (h : Tryz.prog.typeName? 3 u = some "*errors.errorString") : u = 159 :=
  typeName_ptr_named (nm := "errors.errorString") (by rw [star]; kernel_rfl) (by kernel_rfl) (by decide) u (by rw [star]; exact h)
theorem ambErrSyntax {W : World} (h : laidMetH Tryz.prog Rows.fnExactSameGroupRow.laid W) : IsErr W 1 := by
  rw [MakeChecks.laidMetH_plain _ _ _ (by kernel_rfl)] at h
  have h2 := h.tail.tail.tail.tail
  have hg : Tryz.prog.globalNamed "strconv.ErrSyntax" = some 1 := by kernel_rfl
  obtain ⟨a1, s1, hv1, _, _, _⟩ := laid_sentinel h2 hg (by kernel_rfl : (Tryz.prog.globals[1]?).map (·.type) = some 123) Tryz.underlying123 rowErr Tryz.underlying159 Tryz.underlying161 rfl rfl Tryz.underlying9 (by kernel_rfl) (by kernel_rfl)
  exact ⟨_, _, (World.var?_cell hg hv1 0).trans rfl⟩
theorem ambErrRange {W : World} (h : laidMetH Tryz.prog Rows.fnExactSameGroupRow.laid W) : IsErr W 2 := by
  rw [MakeChecks.laidMetH_plain _ _ _ (by kernel_rfl)] at h
  have h2 := h.tail.tail.tail
  have hg : Tryz.prog.globalNamed "strconv.ErrRange" = some 2 := by kernel_rfl
  obtain ⟨a1, s1, hv1, _, _, _⟩ := laid_sentinel h2 hg (by kernel_rfl : (Tryz.prog.globals[2]?).map (·.type) = some 123) Tryz.underlying123 rowErr Tryz.underlying159 Tryz.underlying161 rfl rfl Tryz.underlying9 (by kernel_rfl) (by kernel_rfl)
  exact ⟨_, _, (World.var?_cell hg hv1 0).trans rfl⟩
theorem amb_of {W : World} (h : laidMetH Tryz.prog Rows.fnExactSameGroupRow.laid W) : Amb W := ⟨amb_tab h, ambErrSyntax h, ambErrRange h⟩
set_option maxRecDepth 100000
theorem door_met (os : Os) (args : Array Value) : laidMetH Tryz.prog Rows.fnExactSameGroupRow.laid ((World.doorLaid Tryz.prog 400 os).forCall (fun _ _ => 0) ⟨#[], args, []⟩).memory := by
  rw [MakeChecks.laidMetH_plain _ _ _ (by kernel_rfl)]
  exact laidMet_of_run' 8 (by kernel_rfl) (by kernel_rfl)
theorem lifted (os : Os) (started : os.Started) (H : Type) (enc : TypeId × Value → H) :
    ReturnsInHanded {} Tryz.checked os 8 .any (fun w args => (Rows.fnExactSameGroupSpec.pre enc Tryz.prog Tryz.f8 [] false w args ∧ laidMetH Tryz.prog Rows.fnExactSameGroupRow.laid w) ∧ sizedMet enc Tryz.prog Tryz.f8 (OpenSpec.ofChange Rows.fnExactSameGroupSpec) false w args) (Rows.fnExactSameGroupSpec.post enc Tryz.prog Tryz.f8 false true false false) := by
  refine returnsInHanded_of_change_and (C := Tryz.checked) (X := fun w _ => laidMetH Tryz.prog Rows.fnExactSameGroupRow.laid w) (fun _ _ _ hh h => h.of_heap hh) own started (by kernel_rfl) Tryz.func8
    (ChangeSpec.witness_shaped (enc := enc) (C := Tryz.checked) (os := os) (X := fun w _ => laidMetH Tryz.prog Rows.fnExactSameGroupRow.laid w) false (World.doorLaid Tryz.prog 400 os) #[.agg #[.string ByteArray.empty, .int .i64 0, .slice none 0 0], .agg #[.string ByteArray.empty, .int .i64 0, .slice none 0 0]] 8 rfl (World.shaped_of_RefB (by kernel_rfl) (by kernel_rfl)) (by kernel_rfl) (by kernel_rfl) (by kernel_rfl) (door_met os _)) ?_
  intro W base args ds gs before hval0 hW hcnd hsz0 hL _
  have hM := amb_of hL
  have hval : ∀ (j : Nat) t v, Tryz.f8.params[j]? = some t → args[j]? = some v → Value.okWide Tryz.prog W .any base t v := hval0
  have hW' := hW
  obtain ⟨p, q, hA0, hV, rfl, hfz, hnd⟩ := hW
  have hA : DataW.TrodAll enc Tryz.prog W 0 (fun _ => true) true Tryz.f8.params.toList args.toList ds p := hA0
  rw [Tryz.params8] at hA hval
  obtain ⟨v0, vs0, d0, ds0, p0, q0, hargs, rfl, rfl, h0, r0⟩ := trodAll_cons hA
  obtain ⟨v1, vs1, d1, ds1, p1, q1, rfl, rfl, rfl, h1, r1⟩ := trodAll_cons r0
  obtain ⟨rfl, rfl, rfl⟩ := trodAll_nil r1
  obtain rfl : args = #[v0, v1] := by cases args; simp_all
  obtain ⟨rfl, rfl⟩ := trodVars_none hV
  have j0 := h0
  have lt0 : ∀ x ∈ p0, x.block < W.heap.size := by obtain ⟨m, hm⟩ := j0; exact DataW.trod_lt m _ _ _ hm
  have op0 : ∀ m, OpensTo Tryz.prog m 45 (Kd.pair Kd.string (Kd.pair (Kd.int .i64) (Kd.slice 87 k87))) (OkPair (fun y_ => y_.size ≤ 9223372036854775807) (OkPair (fun y_ => (Lit.int .i64 y_).wf = true) (fun ys_ => ys_.length ≤ 9223372036854775807 ∧ ∀ y_, y_ ∈ ys_ → ok87 y_))) := by
    refine opens_struct_all Tryz.underlying45 (by kernel_rfl) (fun m => ?_)
    apply opens_more
    · rfl
    · kernel_rfl
    · decide
    · exact ((fun _ => opens_string Tryz.underlying9) m)
    apply opens_more
    · rfl
    · kernel_rfl
    · decide
    · exact ((fun _ => opens_int Tryz.underlying3) m)
    apply opens_last
    · rfl
    · kernel_rfl
    · exact ((opens_slice_all Tryz.underlying43 (by kernel_rfl) opens87) m)
  obtain ⟨cs0, rfl, _⟩ := okWide_struct Tryz.underlying45 (hval 0 45 v0 rfl rfl)
  obtain ⟨fu0, hf0⟩ := h0
  obtain ⟨L0, hL0⟩ : ∃ L, (Value.cells (.agg cs0)).toList = L := ⟨_, rfl⟩
  rw [hL0] at hf0
  obtain ⟨⟨a0_0, a0_1, l0_2⟩, hK0, ⟨o0_0, o0_1, o0_2⟩⟩ := op0 _ _ _ _ _ _ _ (Nat.le_refl _) hf0
  obtain ⟨_, _, rfl, rfl, ⟨_, _, rfl, rfl, ⟨A0_2, c0_2, rfl, hc0_2, hr0_2⟩⟩⟩ := hK0
  obtain rfl : cs0 = #[.string a0_0, .int .i64 a0_1, .slice A0_2 l0_2.length c0_2] := by apply Array.toList_inj.1; simpa [Value.cells] using hL0
  have j1 := h1
  have lt1 : ∀ x ∈ p1, x.block < W.heap.size := by obtain ⟨m, hm⟩ := j1; exact DataW.trod_lt m _ _ _ hm
  have op1 : ∀ m, OpensTo Tryz.prog m 45 (Kd.pair Kd.string (Kd.pair (Kd.int .i64) (Kd.slice 87 k87))) (OkPair (fun y_ => y_.size ≤ 9223372036854775807) (OkPair (fun y_ => (Lit.int .i64 y_).wf = true) (fun ys_ => ys_.length ≤ 9223372036854775807 ∧ ∀ y_, y_ ∈ ys_ → ok87 y_))) := by
    refine opens_struct_all Tryz.underlying45 (by kernel_rfl) (fun m => ?_)
    apply opens_more
    · rfl
    · kernel_rfl
    · decide
    · exact ((fun _ => opens_string Tryz.underlying9) m)
    apply opens_more
    · rfl
    · kernel_rfl
    · decide
    · exact ((fun _ => opens_int Tryz.underlying3) m)
    apply opens_last
    · rfl
    · kernel_rfl
    · exact ((opens_slice_all Tryz.underlying43 (by kernel_rfl) opens87) m)
  obtain ⟨cs1, rfl, _⟩ := okWide_struct Tryz.underlying45 (hval 1 45 v1 rfl rfl)
  obtain ⟨fu1, hf1⟩ := h1
  obtain ⟨L1, hL1⟩ : ∃ L, (Value.cells (.agg cs1)).toList = L := ⟨_, rfl⟩
  rw [hL1] at hf1
  obtain ⟨⟨a1_0, a1_1, l1_2⟩, hK1, ⟨o1_0, o1_1, o1_2⟩⟩ := op1 _ _ _ _ _ _ _ (Nat.le_refl _) hf1
  obtain ⟨_, _, rfl, rfl, ⟨_, _, rfl, rfl, ⟨A1_2, c1_2, rfl, hc1_2, hr1_2⟩⟩⟩ := hK1
  obtain rfl : cs1 = #[.string a1_0, .int .i64 a1_1, .slice A1_2 l1_2.length c1_2] := by apply Array.toList_inj.1; simpa [Value.cells] using hL1
  clear hA0 hval0 hsz0
  obtain ⟨k, h⟩ := Pure.FnExactSameGroup a0_0 a0_1 l0_2 a1_0 a1_1 l1_2 o0_0 o0_1 o0_2 o1_0 o1_1 o1_2
  refine (laws_FnExactSameGroup.calls k a0_0 a0_1 A0_2 c0_2 l0_2 a1_0 a1_1 A1_2 c1_2 l1_2 true W hr0_2 hc0_2 hr1_2 hc1_2 hM h rfl).mono fun e W' ⟨he, bel0⟩ => ?_
  have bel : Below W.heap.size W W' := bel0
  subst he
  exact ⟨_, rfl, _, _, _, [], _, [], hW', trodAll_mk1 (shut_bool Tryz.underlying4 _), (trodAll_cons_mk (Below.trod laidOut (by kernel_rfl) (of_decide_eq_true (by kernel_rfl)) j0 bel lt0) (trodAll_cons_mk (Below.trod laidOut (by kernel_rfl) (of_decide_eq_true (by kernel_rfl)) j1 bel lt1) trodAll_mk0)), rfl, bel.frame _, fun h => by cases h⟩
theorem over : Rows.fnExactSameGroupRow.holds Tryz.pinned (OpenSpec.ofChange Rows.fnExactSameGroupSpec) :=
  OpenClaim.holds_of_wide 8 Tryz.f8 rfl rfl rfl rfl rfl rfl rfl ⟨rfl, rfl, rfl, rfl, rfl⟩ rfl rfl rfl rfl rfl (by kernel_rfl) Tryz.func8 (by kernel_rfl)
    (of_decide_eq_true (by kernel_rfl)) (by unfold Func.isWrapper; first | (rw [if_pos (by decide +kernel)]; kernel_rfl) | (rw [if_neg (by decide +kernel)]; exact ⟨rfl, rfl⟩))
    (fun os started H enc _ => lifted os started H enc)
theorem proved : Rows.FnExactSameGroupCardSaid :=
  Claim7.holds_tied_plain_at .later [] [.data, .data, .data, .sentinel, .sentinel] true (true, "2b33a734da8885788ba332ba9488e9852b31c110b2adea9ded11976d9122e4b0") true
    over (fun _ h => by cases h) (by kernel_rfl) (fun _ h => by cases h) fnExactSameGroup_row_tie rfl ⟨rfl, rfl⟩ (by kernel_rfl) rfl
    (fun f fn hf hfn => by
      obtain rfl : f = 8 := Option.some.inj ((show Tryz.prog.funcNamed Rows.fnExactSameGroupRow.func = some 8 by kernel_rfl).symm.trans hf) |>.symm
      obtain rfl : fn = Tryz.f8 := (Option.some.inj (Tryz.func8.symm.trans hfn)).symm
      exact ⟨by kernel_rfl, fun j t ht => by
        rw [Tryz.params8] at ht
        have hm : t ∈ ([45, 45] : List TypeId) := by simpa using Array.mem_of_getElem? ht
        have hall : (([45, 45] : List TypeId).all fun u => !Tryz.prog.wantsStandIn u) = true := by kernel_rfl
        exact (show Tryz.prog.wantsStandIn t = false by simpa using List.all_eq_true.1 hall t hm)⟩)
    (by kernel_rfl)
#print axioms proved
end Go.Proofs.YthifpohbdbhnlaaGreatDoor.fnExactSameGroup
namespace Go.Proofs.YthifpohbdbhnlaaGreatDoor
/-- The row, under a short name, for the claim. -/
theorem fnExactSameGroup_holds : Rows.FnExactSameGroupCardSaid := fnExactSameGroup.proved
end Go.Proofs.YthifpohbdbhnlaaGreatDoor
