/- The program's CodeOf answers the same code as the reference's at every text; every string is allowed. -/
import Derived.Test.YtgjeefjmcmionaaPFnExactCodeOfx1
set_option linter.unusedVariables false
set_option linter.unusedSimpArgs false
namespace Go.Proofs.Ytgjeefjmcmionaa.Pure
open Go.RowKit Go.Proofs.Ytgjeefjmcmionaa.PFnExactCodeOf Go.Proofs.YtgjeefjmcmionaaW.PrintWords Go.Proofs.YtgjeefjmcmionaaW.PrintLast

theorem wr {x : Int} (h0 : -9223372036854775808 ≤ x) (h1 : x ≤ 9223372036854775807) : wrap64 x = x := by unfold wrap64; omega

def theWords : List ByteArray := impl_codeWords.f.getD []
theorem theWords_some : impl_codeWords.f = some theWords := rfl
theorem theWords_length : theWords.length = 19 := rfl
theorem codeWord_at (i : Int) (h0 : 0 ≤ i) (h1 : i ≤ 18) : spec_CodeWord.f i = some (rdOf ByteArray.empty theWords i) := by
  unfold spec_CodeWord.f
  simp only [Option.bind_some, List.length_cons, List.length_nil]
  rw [if_neg (by omega), if_neg (by omega), if_pos h0, if_pos (by omega)]
  rfl
theorem codeWord_no (i : Int) (h : i < 0 ∨ 18 < i) : spec_CodeWord.f i = some (⟨#[]⟩ : ByteArray) := by
  unfold spec_CodeWord.f
  simp only [Option.bind_some, List.length_cons, List.length_nil]
  by_cases h0 : i < 0
  · rw [if_pos h0]
  · rw [if_neg h0, if_pos (by omega)]

theorem codeOf_same (a0 : ByteArray) (d : Nat) : ∀ i : Int, 0 ≤ i → i + d = 19 →
    ∃ r, spec_CodeOf.l0 (d + 1) a0 i = some r ∧ impl_CodeOf.l0 (d + 1) a0 theWords 19 i = some r := by
  induction d with
  | zero =>
    intro i h0 h1
    unfold spec_CodeOf.l0 impl_CodeOf.l0
    rw [if_neg (by omega), if_neg (by omega)]
    exact ⟨_, rfl, rfl⟩
  | succ d ih =>
    intro i h0 h1
    unfold spec_CodeOf.l0 impl_CodeOf.l0
    rw [if_pos (by omega), if_pos (by omega), if_pos h0, theWords_length, if_pos (by omega), codeWord_at i h0 (by omega), wr (by omega) (by omega)]
    simp only [Option.bind_some]
    split
    · exact ⟨_, rfl, rfl⟩
    · exact ih (i + 1) (by omega) (by omega)
theorem FnExactCodeOf : laws_FnExactCodeOf.Pure := by
  intro a0 _
  refine ⟨20, ?_⟩
  obtain ⟨r, h1, h2⟩ := codeOf_same a0 19 0 (by omega) (by omega)
  unfold laws_FnExactCodeOf.f spec_CodeOf.f impl_CodeOf.f
  rw [theWords_some, h1]
  simp only [Option.bind_some, theWords_length]
  rw [show ((19 : Nat) : Int) = 19 from rfl, h2]
  split <;> simp

end Go.Proofs.Ytgjeefjmcmionaa.Pure
