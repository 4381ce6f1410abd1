/- A tool of this session wrote this text out of the translation: functions as plain Lean, and proofs that the machine's calls come to their answers. -/
import Derived.Test.YthifpohbdbhnlaaGreatDoorRows
import Derived.Test.YthifpohbdbhnlaaGreatDoorQFnUrlsx4
import Derived.Test.YthifpohbdbhnlaaGreatDoorQOpen
import Derived.Test.YthifpohbdbhnlaaGreatDoorPureFnUrls
import Derived.Test.YthifpohbdbhnlaaGreatDoorCards
import Derived.Test.YthifpohbdbhnlaaGreatDoorTie
import Derived.WalkKit
import Derived.ProofKit
import Derived.OpenShut
import Derived.ShutString
import Derived.ChangeOld
import Derived.Below
import Derived.SizedLaws
import Derived.Handed
import Derived.LaidMore
import Derived.Stop.LaidErr
import Derived.SevenTiedAt
import Derived.Lib.LaidTab
import Derived.MakeChecks
import Derived.Stop.Joined
import Derived.LaidHandle
namespace Go.Proofs.YthifpohbdbhnlaaGreatDoor.fnUrls
open Go.ChangeShapes Go.WideShapes Go.ChangeAt Go.RowKit
open Go.ChangeMaps (open_string shut_string)
open Go.Proofs.YthifpohbdbhnlaaGreatDoorW.PrintWords Go.Proofs.YthifpohbdbhnlaaGreatDoor.QFnUrls Go.Proofs.YthifpohbdbhnlaaGreatDoor.QFnStp Go.Proofs.YthifpohbdbhnlaaGreatDoor.Opening
set_option linter.unusedVariables false
set_option linter.unusedSimpArgs false
theorem own : ownKnob Tryz.prog.godebug = none := by kernel_rfl
theorem laidOut : laidOutB Tryz.prog = true := by kernel_rfl

theorem gPow : Tryz.prog.globalNamed "internal/strconv.uint64pow10" = some 3 := by kernel_rfl
theorem tPow : (Tryz.prog.globals[3]?).map (·.type) = some 163 := by kernel_rfl
theorem amb_tab {W : World} (h : laidMetH Tryz.prog Rows.fnUrlsRow.laid W) : Lib.TabIs Tryz.prog W "internal/strconv.uint64pow10" .u64 Lib.pow10Tab := by
  rw [MakeChecks.laidMetH_plain _ _ _ (by kernel_rfl)] at h
  have h2 := h.tail.tail
  have e2 : (Rows.laid_internal_strconv_uint64pow10 : DataW Unit) = Lib.tabData .u64 Lib.pow10Tab := by kernel_rfl
  refine Lib.tabIs_of_head (rest := _) gPow tPow Tryz.underlying163 Tryz.underlying146 (by kernel_rfl) (by kernel_rfl) (e2 ▸ h2)
theorem star : "*" ++ "errors.errorString" = "*errors.errorString" := by decide
theorem rowErr (u : TypeId) (h : Tryz.prog.typeName? 3 u = some "*errors.errorString") : u = 159 :=
  typeName_ptr_named (nm := "errors.errorString") (by rw [star]; kernel_rfl) (by kernel_rfl) (by decide) u (by rw [star]; exact h)
theorem ambErrSyntax {W : World} (h : laidMetH Tryz.prog Rows.fnUrlsRow.laid W) : IsErr W 1 := by
  rw [MakeChecks.laidMetH_plain _ _ _ (by kernel_rfl)] at h
  have h2 := h.tail.tail.tail.tail
  have hg : Tryz.prog.globalNamed "strconv.ErrSyntax" = some 1 := by kernel_rfl
  obtain ⟨a1, s1, hv1, _, _, _⟩ := laid_sentinel h2 hg (by kernel_rfl : (Tryz.prog.globals[1]?).map (·.type) = some 123) Tryz.underlying123 rowErr Tryz.underlying159 Tryz.underlying161 rfl rfl Tryz.underlying9 (by kernel_rfl) (by kernel_rfl)
  exact ⟨_, _, (World.var?_cell hg hv1 0).trans rfl⟩
theorem ambErrRange {W : World} (h : laidMetH Tryz.prog Rows.fnUrlsRow.laid W) : IsErr W 2 := by
  rw [MakeChecks.laidMetH_plain _ _ _ (by kernel_rfl)] at h
  have h2 := h.tail.tail.tail
  have hg : Tryz.prog.globalNamed "strconv.ErrRange" = some 2 := by kernel_rfl
  obtain ⟨a1, s1, hv1, _, _, _⟩ := laid_sentinel h2 hg (by kernel_rfl : (Tryz.prog.globals[2]?).map (·.type) = some 123) Tryz.underlying123 rowErr Tryz.underlying159 Tryz.underlying161 rfl rfl Tryz.underlying9 (by kernel_rfl) (by kernel_rfl)
  exact ⟨_, _, (World.var?_cell hg hv1 0).trans rfl⟩
theorem amb_of {W : World} (h : laidMetH Tryz.prog Rows.fnUrlsRow.laid W) : Amb W := ⟨amb_tab h, ambErrSyntax h, ambErrRange h⟩
set_option maxRecDepth 100000
theorem door_met (os : Os) (args : Array Value) : laidMetH Tryz.prog Rows.fnUrlsRow.laid ((World.doorLaid Tryz.prog 400 os).forCall (fun _ _ => 0) ⟨#[], args, []⟩).memory := by
  rw [MakeChecks.laidMetH_plain _ _ _ (by kernel_rfl)]
  exact laidMet_of_run' 8 (by kernel_rfl) (by kernel_rfl)
theorem lifted (os : Os) (started : os.Started) (H : Type) (enc : TypeId × Value → H) :
    ReturnsInHanded {} Tryz.checked os 6 .any (fun w args => (Rows.fnUrlsSpec.pre enc Tryz.prog Tryz.f6 [] false w args ∧ laidMetH Tryz.prog Rows.fnUrlsRow.laid w) ∧ sizedMet enc Tryz.prog Tryz.f6 (OpenSpec.ofChange Rows.fnUrlsSpec) false w args) (Rows.fnUrlsSpec.post enc Tryz.prog Tryz.f6 false true false false) := by
  refine returnsInHanded_of_change_and (C := Tryz.checked) (X := fun w _ => laidMetH Tryz.prog Rows.fnUrlsRow.laid w) (fun _ _ _ hh h => h.of_heap hh) own started (by kernel_rfl) Tryz.func6
    (ChangeSpec.witness_shaped (enc := enc) (C := Tryz.checked) (os := os) (X := fun w _ => laidMetH Tryz.prog Rows.fnUrlsRow.laid w) false (World.doorLaid Tryz.prog 400 os) #[.slice none 0 0, .slice none 0 0] 8 rfl (World.shaped_of_RefB (by kernel_rfl) (by kernel_rfl)) (by kernel_rfl) (by kernel_rfl) (by kernel_rfl) (door_met os _)) ?_
  intro W base args ds gs before hval0 hW hcnd hsz0 hL _
  have hM := amb_of hL
  have hval : ∀ (j : Nat) t v, Tryz.f6.params[j]? = some t → args[j]? = some v → Value.okWide Tryz.prog W .any base t v := hval0
  have hW' := hW
  obtain ⟨p, q, hA0, hV, rfl, hfz, hnd⟩ := hW
  have hA : DataW.TrodAll enc Tryz.prog W 0 (fun _ => true) true Tryz.f6.params.toList args.toList ds p := hA0
  rw [Tryz.params6] at hA hval
  obtain ⟨v0, vs0, d0, ds0, p0, q0, hargs, rfl, rfl, h0, r0⟩ := trodAll_cons hA
  obtain ⟨v1, vs1, d1, ds1, p1, q1, rfl, rfl, rfl, h1, r1⟩ := trodAll_cons r0
  obtain ⟨rfl, rfl, rfl⟩ := trodAll_nil r1
  obtain rfl : args = #[v0, v1] := by cases args; simp_all
  obtain ⟨rfl, rfl⟩ := trodVars_none hV
  have j0 := h0
  have lt0 : ∀ x ∈ p0, x.block < W.heap.size := by obtain ⟨m, hm⟩ := j0; exact DataW.trod_lt m _ _ _ hm
  have op0 : ∀ m, OpensTo Tryz.prog m 30 (Kd.slice 5 (Kd.int .u8)) (fun ys_ => ys_.length ≤ 9223372036854775807 ∧ ∀ y_, y_ ∈ ys_ → (fun y_ => (Lit.int .u8 y_).wf = true) y_) := by
    exact (opens_slice_all Tryz.underlying30 (by kernel_rfl) (fun _ => opens_int Tryz.underlying5))
  obtain ⟨fu0, hf0⟩ := h0
  obtain ⟨L0, hL0⟩ : ∃ L, (Value.cells v0).toList = L := ⟨_, rfl⟩
  rw [hL0] at hf0
  obtain ⟨l0, hK0, o0⟩ := op0 _ _ _ _ _ _ _ (Nat.le_refl _) hf0
  obtain ⟨A0, c0, rfl, hc0, hr0⟩ := hK0
  obtain ⟨b0, bn0, bc0, rfl⟩ := okWide_slice Tryz.underlying30 (hval 0 30 v0 rfl rfl)
  have e0_ : b0 = A0 ∧ bn0 = l0.length ∧ bc0 = c0 := by simpa [Value.cells] using hL0
  obtain ⟨rfl, rfl, rfl⟩ := (⟨e0_.1.symm, e0_.2.1.symm, e0_.2.2.symm⟩ : A0 = b0 ∧ l0.length = bn0 ∧ c0 = bc0)
  have j1 := h1
  have lt1 : ∀ x ∈ p1, x.block < W.heap.size := by obtain ⟨m, hm⟩ := j1; exact DataW.trod_lt m _ _ _ hm
  have op1 : ∀ m, OpensTo Tryz.prog m 30 (Kd.slice 5 (Kd.int .u8)) (fun ys_ => ys_.length ≤ 9223372036854775807 ∧ ∀ y_, y_ ∈ ys_ → (fun y_ => (Lit.int .u8 y_).wf = true) y_) := by
    exact (opens_slice_all Tryz.underlying30 (by kernel_rfl) (fun _ => opens_int Tryz.underlying5))
  obtain ⟨fu1, hf1⟩ := h1
  obtain ⟨L1, hL1⟩ : ∃ L, (Value.cells v1).toList = L := ⟨_, rfl⟩
  rw [hL1] at hf1
  obtain ⟨l1, hK1, o1⟩ := op1 _ _ _ _ _ _ _ (Nat.le_refl _) hf1
  obtain ⟨A1, c1, rfl, hc1, hr1⟩ := hK1
  obtain ⟨b1, bn1, bc1, rfl⟩ := okWide_slice Tryz.underlying30 (hval 1 30 v1 rfl rfl)
  have e1_ : b1 = A1 ∧ bn1 = l1.length ∧ bc1 = c1 := by simpa [Value.cells] using hL1
  obtain ⟨rfl, rfl, rfl⟩ := (⟨e1_.1.symm, e1_.2.1.symm, e1_.2.2.symm⟩ : A1 = b1 ∧ l1.length = bn1 ∧ c1 = bc1)
  clear hA0 hval0 hsz0
  obtain ⟨k, h⟩ := Pure.FnUrls l0 l1 o0 o1
  refine (laws_FnUrls.calls k A0 c0 l0 A1 c1 l1 true W hr0 hc0 hr1 hc1 hM h rfl).mono fun e W' ⟨he, bel0⟩ => ?_
  have bel : Below W.heap.size W W' := bel0
  subst he
  exact ⟨_, rfl, _, _, _, [], _, [], hW', trodAll_mk1 (shut_bool Tryz.underlying4 _), (trodAll_cons_mk (Below.trod laidOut (by kernel_rfl) (of_decide_eq_true (by kernel_rfl)) j0 bel lt0) (trodAll_cons_mk (Below.trod laidOut (by kernel_rfl) (of_decide_eq_true (by kernel_rfl)) j1 bel lt1) trodAll_mk0)), rfl, bel.frame _, fun h => by cases h⟩
theorem over : Rows.fnUrlsRow.holds Tryz.pinned (OpenSpec.ofChange Rows.fnUrlsSpec) :=
  OpenClaim.holds_of_wide 6 Tryz.f6 rfl rfl rfl rfl rfl rfl rfl ⟨rfl, rfl, rfl, rfl, rfl⟩ rfl rfl rfl rfl rfl (by kernel_rfl) Tryz.func6 (by kernel_rfl)
    (of_decide_eq_true (by kernel_rfl)) (by unfold Func.isWrapper; first | (rw [if_pos (by decide +kernel)]; kernel_rfl) | (rw [if_neg (by decide +kernel)]; exact ⟨rfl, rfl⟩))
    (fun os started H enc _ => lifted os started H enc)
theorem proved : Rows.FnUrlsCardSaid :=
  Claim7.holds_tied_plain_at .later [] [.data, .data, .data, .sentinel, .sentinel] true (true, "2b33a734da8885788ba332ba9488e9852b31c110b2adea9ded11976d9122e4b0") true
    over (fun _ h => by cases h) (by kernel_rfl) (fun _ h => by cases h) fnUrls_row_tie rfl ⟨rfl, rfl⟩ (by kernel_rfl) rfl
    (fun f fn hf hfn => by
      obtain rfl : f = 6 := Option.some.inj ((show Tryz.prog.funcNamed Rows.fnUrlsRow.func = some 6 by kernel_rfl).symm.trans hf) |>.symm
      obtain rfl : fn = Tryz.f6 := (Option.some.inj (Tryz.func6.symm.trans hfn)).symm
      exact ⟨by kernel_rfl, fun j t ht => by
        rw [Tryz.params6] at ht
        have hm : t ∈ ([30, 30] : List TypeId) := by simpa using Array.mem_of_getElem? ht
        have hall : (([30, 30] : List TypeId).all fun u => !Tryz.prog.wantsStandIn u) = true := by kernel_rfl
        exact (show Tryz.prog.wantsStandIn t = false by simpa using List.all_eq_true.1 hall t hm)⟩)
    (by kernel_rfl)
#print axioms proved
end Go.Proofs.YthifpohbdbhnlaaGreatDoor.fnUrls
namespace Go.Proofs.YthifpohbdbhnlaaGreatDoor
/-- The row, under a short name, for the claim. -/
theorem fnUrls_holds : Rows.FnUrlsCardSaid := fnUrls.proved
end Go.Proofs.YthifpohbdbhnlaaGreatDoor
