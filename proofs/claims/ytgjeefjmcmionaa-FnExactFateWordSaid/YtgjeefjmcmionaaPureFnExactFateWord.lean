/- The program's FateWord answers the same text as the reference's at every kind; every int64 is allowed. -/
import Derived.Test.YtgjeefjmcmionaaPFnExactFateWordx1
set_option linter.unusedVariables false
set_option linter.unusedSimpArgs false
namespace Go.Proofs.Ytgjeefjmcmionaa.Pure
open Go.RowKit Go.Proofs.Ytgjeefjmcmionaa.PFnExactFateWord Go.Proofs.YtgjeefjmcmionaaW.PrintWords Go.Proofs.YtgjeefjmcmionaaW.PrintLast

theorem wr {x : Int} (h0 : -9223372036854775808 ≤ x) (h1 : x ≤ 9223372036854775807) : wrap64 x = x := by unfold wrap64; omega

theorem FnExactFateWord : laws_FnExactFateWord.Pure := by
  intro a0 _
  unfold laws_FnExactFateWord.f spec_FateWord.f impl_FateWord.f spec_l13Fates.f impl_within.f spec_l01In.f
  simp only [Option.bind_some, List.length_cons, List.length_nil]
  by_cases h0 : 1 ≤ a0
  · by_cases h1 : a0 ≤ 7
    · rw [wr (by omega) (by omega)]
      have h2 : 0 ≤ a0 - 1 := by omega
      have h3 : a0 - 1 < 7 := by omega
      have h4 : a0 < 8 := by omega
      simp [h0, h1, h2, h3, h4]
    · simp [h0, h1]
  · simp [h0]

end Go.Proofs.Ytgjeefjmcmionaa.Pure
