/- The program's Wait answers the same number as the reference's at every number of fails; every int64 is allowed. -/
import Derived.Test.YtgjeefjmcmionaaPFnExactWaitx1
set_option linter.unusedVariables false
set_option linter.unusedSimpArgs false
namespace Go.Proofs.Ytgjeefjmcmionaa.Pure
open Go.RowKit Go.Proofs.Ytgjeefjmcmionaa.PFnExactWait Go.Proofs.YtgjeefjmcmionaaW.PrintWords Go.Proofs.YtgjeefjmcmionaaW.PrintLast

theorem wr {x : Int} (h0 : -9223372036854775808 ≤ x) (h1 : x ≤ 9223372036854775807) : wrap64 x = x := by unfold wrap64; omega

theorem wait_end (k : Nat) (a0 x4 : Int) : spec_l07Wait.l0 (k + 1) a0 32 x4 = some 32 ∧ impl_Wait.l0 (k + 1) a0 32 x4 = some 32 := by
  unfold spec_l07Wait.l0 impl_Wait.l0 mn
  split <;> simp
theorem wait_step (k : Nat) (a0 x x4 : Int) (hx : x ≤ 32) (h0 : 0 ≤ x4) (h1 : x4 < 1000)
    (ih : ∃ r, spec_l07Wait.l0 k a0 (x * 2) (x4 + 1) = some r ∧ impl_Wait.l0 k a0 (x * 2) (x4 + 1) = some r) (hx0 : 0 ≤ x) (hx1 : x < 32) :
    ∃ r, spec_l07Wait.l0 (k + 1) a0 x x4 = some r ∧ impl_Wait.l0 (k + 1) a0 x x4 = some r := by
  unfold spec_l07Wait.l0 impl_Wait.l0 mn
  rw [wr (x := x * 2) (by omega) (by omega), wr (x := x4 + 1) (by omega) (by omega)]
  rw [if_pos hx1, if_pos hx1, if_neg (by omega : ¬ 32 < x)]
  split
  · exact ih
  · exact ⟨x, rfl, rfl⟩
theorem wait_same (a0 : Int) : ∃ r, spec_l07Wait.l0 5 a0 2 1 = some r ∧ impl_Wait.l0 5 a0 2 1 = some r := by
  refine wait_step 4 a0 2 1 (by omega) (by omega) (by omega) ?_ (by omega) (by omega)
  refine wait_step 3 a0 4 2 (by omega) (by omega) (by omega) ?_ (by omega) (by omega)
  refine wait_step 2 a0 8 3 (by omega) (by omega) (by omega) ?_ (by omega) (by omega)
  refine wait_step 1 a0 16 4 (by omega) (by omega) (by omega) ?_ (by omega) (by omega)
  exact ⟨32, wait_end 0 a0 5⟩
theorem FnExactWait : laws_FnExactWait.Pure := by
  intro a0 _
  refine ⟨5, ?_⟩
  unfold laws_FnExactWait.f spec_Wait.f impl_Wait.f spec_l07Wait.f
  obtain ⟨r, h1, h2⟩ := wait_same a0
  split
  · simp
  · rw [h1, h2]; simp

end Go.Proofs.Ytgjeefjmcmionaa.Pure
