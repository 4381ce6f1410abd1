/- The program's CodeWord answers the same text as the reference's at every code; every int64 is allowed. -/
import Derived.Test.YtgjeefjmcmionaaPFnExactCodeWordx1
set_option linter.unusedVariables false
set_option linter.unusedSimpArgs false
namespace Go.Proofs.Ytgjeefjmcmionaa.Pure
open Go.RowKit Go.Proofs.Ytgjeefjmcmionaa.PFnExactCodeWord Go.Proofs.YtgjeefjmcmionaaW.PrintWords Go.Proofs.YtgjeefjmcmionaaW.PrintLast

theorem wr {x : Int} (h0 : -9223372036854775808 ≤ x) (h1 : x ≤ 9223372036854775807) : wrap64 x = x := by unfold wrap64; omega

def theWords : List ByteArray := impl_codeWords.f.getD []
theorem theWords_some : impl_codeWords.f = some theWords := rfl
theorem theWords_length : theWords.length = 19 := rfl
theorem codeWord_at (i : Int) (h0 : 0 ≤ i) (h1 : i ≤ 18) : spec_CodeWord.f i = some (rdOf ByteArray.empty theWords i) := by
  unfold spec_CodeWord.f
  simp only [Option.bind_some, List.length_cons, List.length_nil]
  rw [if_neg (by omega), if_neg (by omega), if_pos h0, if_pos (by omega)]
  rfl
theorem codeWord_no (i : Int) (h : i < 0 ∨ 18 < i) : spec_CodeWord.f i = some (⟨#[]⟩ : ByteArray) := by
  unfold spec_CodeWord.f
  simp only [Option.bind_some, List.length_cons, List.length_nil]
  by_cases h0 : i < 0
  · rw [if_pos h0]
  · rw [if_neg h0, if_pos (by omega)]

theorem FnExactCodeWord : laws_FnExactCodeWord.Pure := by
  intro a0 _
  unfold laws_FnExactCodeWord.f impl_CodeWord.f impl_within.f
  rw [theWords_some, Option.bind_some, theWords_length, wr (by omega) (by omega)]
  by_cases h : 0 ≤ a0 ∧ a0 ≤ 18
  · rw [codeWord_at a0 h.1 h.2, if_pos h.1, decide_eq_true (by omega)]
    simp only [Option.bind_some, if_true]
    rw [if_pos h.1, if_pos (by omega)]
    simp
  · rw [codeWord_no a0 (by omega)]
    by_cases h0 : 0 ≤ a0
    · rw [if_pos h0, decide_eq_false (by omega)]; simp
    · rw [if_neg h0]; simp

end Go.Proofs.Ytgjeefjmcmionaa.Pure
