/- The program's NameOK answers as the reference's at every text; every string is allowed. -/
import Derived.Test.YtgjeefjmcmionaaPFnExactNameOKx2
set_option linter.unusedVariables false
set_option linter.unusedSimpArgs false
namespace Go.Proofs.Ytgjeefjmcmionaa.Pure
open Go.RowKit Go.Proofs.Ytgjeefjmcmionaa.PFnExactNameOK Go.Proofs.YtgjeefjmcmionaaW.PrintWords Go.Proofs.YtgjeefjmcmionaaW.PrintLast

theorem wr {x : Int} (h0 : -9223372036854775808 ≤ x) (h1 : x ≤ 9223372036854775807) : wrap64 x = x := by unfold wrap64; omega

def letterB (c : Int) : Bool := (decide (97 ≤ c) && decide (c ≤ 122)) || (decide (65 ≤ c) && decide (c ≤ 90)) || (c == 95)
def digitB (c : Int) : Bool := decide (48 ≤ c) && decide (c ≤ 57)
theorem letter_is (c : Int) : spec_l00Letter.f c = some (letterB c) := by
  unfold spec_l00Letter.f letterB
  by_cases a : 97 ≤ c <;> by_cases b : c ≤ 122 <;> by_cases d : 65 ≤ c <;> by_cases e : c ≤ 90 <;> first | (exfalso; omega) | simp [a, b, d, e]
theorem digit_is (c : Int) : spec_l00Digit.f c = some (digitB c) := by
  unfold spec_l00Digit.f digitB
  by_cases a : 48 ≤ c <;> simp [a]
theorem name_spec_step (k : Nat) (s : ByteArray) (i : Int) (h0 : 0 ≤ i) (h1 : i < (s.size : Int)) (h2 : i < 1000) :
    spec_l00Word.l0 (k + 1) s i = if letterB (bt s i) = true then spec_l00Word.l0 k s (i + 1) else if digitB (bt s i) = true then spec_l00Word.l0 k s (i + 1) else some false := by
  rw [spec_l00Word.l0, if_pos h1, if_pos h0, letter_is, digit_is, wr (by omega) (by omega)]
  simp only [Option.bind_some]
theorem name_impl_step (k : Nat) (s : ByteArray) (n i : Int) (h0 : 0 ≤ i) (h1 : i < n) (h3 : i < (s.size : Int)) (h2 : i < 1000) :
    impl_NameOK.l0 (k + 1) s n i = if letterB (bt s i) = true then impl_NameOK.l0 k s n (i + 1) else if i = 0 then some false else if digitB (bt s i) = true then impl_NameOK.l0 k s n (i + 1) else some false := by
  rw [impl_NameOK.l0, if_pos h1, if_pos h0, if_pos h3, wr (by omega) (by omega)]
  generalize bt s i = c
  generalize impl_NameOK.l0 k s n (i + 1) = R
  unfold letterB digitB
  by_cases a : 97 ≤ c <;> by_cases b : c ≤ 122 <;> by_cases d : 65 ≤ c <;> by_cases e : c ≤ 90 <;> by_cases f : c = 95 <;> first | (exfalso; omega) | skip
  all_goals
    by_cases x : c < 48 <;> by_cases y : c > 57 <;> first | (exfalso; omega) | simp [a, b, d, e, f, x, y, show (48 ≤ c) = ¬ (c < 48) by simp, show (c ≤ 57) = ¬ (c > 57) by simp]
theorem name_loops (s : ByteArray) (hs : s.size ≤ 12) (d : Nat) : ∀ i : Int, 1 ≤ i → i + d = s.size →
    ∃ r, spec_l00Word.l0 (d + 1) s i = some r ∧ impl_NameOK.l0 (d + 1) s s.size i = some r := by
  induction d with
  | zero =>
    intro i h0 h1
    rw [spec_l00Word.l0, impl_NameOK.l0, if_neg (by omega), if_neg (by omega)]
    exact ⟨_, rfl, rfl⟩
  | succ d ih =>
    intro i h0 h1
    rw [name_spec_step _ _ _ (by omega) (by omega) (by omega), name_impl_step _ _ _ _ (by omega) (by omega) (by omega) (by omega), if_neg (by omega : ¬ i = 0)]
    have z := ih (i + 1) (by omega) (by omega)
    split
    · exact z
    · split
      · exact z
      · exact ⟨_, rfl, rfl⟩
theorem name_same (s : ByteArray) : ∃ r, Ev (fun k => spec_l00Word.f k s) r ∧ Ev (fun k => impl_NameOK.f k s) r := by
  suffices h : ∃ r k, spec_l00Word.f k s = some r ∧ impl_NameOK.f k s = some r by
    obtain ⟨r, k, h1, h2⟩ := h
    exact ⟨r, Ev.of (spec_l00Word.mono s) h1, Ev.of (impl_NameOK.mono s) h2⟩
  by_cases h0 : (s.size : Int) < 1
  · refine ⟨false, 1, ?_, ?_⟩
    · unfold spec_l00Word.f; rw [if_pos h0]; simp [spec_l00Word.j0]
    · unfold impl_NameOK.f impl_within.f; rw [if_neg (by omega)]; simp
  · by_cases h1 : (s.size : Int) > 12
    · refine ⟨false, 1, ?_, ?_⟩
      · unfold spec_l00Word.f; rw [if_neg h0, if_pos h1]; simp [spec_l00Word.j0]
      · unfold impl_NameOK.f impl_within.f; rw [if_pos (by omega), decide_eq_false (by omega)]; simp
    · obtain ⟨d, hd⟩ : ∃ d : Nat, (1 : Int) + d = s.size := ⟨s.size - 1, by omega⟩
      obtain ⟨r, h2, h3⟩ := name_loops s (by omega) d 1 (by omega) hd
      cases hl : letterB (bt s 0) with
      | true =>
        refine ⟨r, d + 2, ?_, ?_⟩
        · unfold spec_l00Word.f
          rw [if_neg h0, if_neg h1, if_pos (by omega), letter_is, hl, Option.bind_some, spec_l00Word.j0]
          rw [if_neg (by decide)]
          rw [← h2]
        · unfold impl_NameOK.f impl_within.f
          rw [if_pos (by omega), decide_eq_true (by omega), Option.bind_some, if_pos rfl, name_impl_step _ _ _ _ (by omega) (by omega) (by omega) (by omega), hl, if_pos rfl]
          exact h3
      | false =>
        refine ⟨false, d + 2, ?_, ?_⟩
        · unfold spec_l00Word.f
          rw [if_neg h0, if_neg h1, if_pos (by omega), letter_is, hl, Option.bind_some, spec_l00Word.j0]
          rfl
        · unfold impl_NameOK.f impl_within.f
          rw [if_pos (by omega), decide_eq_true (by omega), Option.bind_some, if_pos rfl, name_impl_step _ _ _ _ (by omega) (by omega) (by omega) (by omega), hl]
          simp

theorem FnExactNameOK : laws_FnExactNameOK.Pure := by
  intro a0 _
  obtain ⟨r, h1, h2⟩ := name_same a0
  refine Ev.rounds ?_
  unfold laws_FnExactNameOK.f spec_NameOK.f
  split
  · exact Ev.now true
  · refine Ev.bind (Ev.bind h1 (Ev.now r)) (Ev.bind h2 ?_)
    simpa using Ev.now true

end Go.Proofs.Ytgjeefjmcmionaa.Pure
