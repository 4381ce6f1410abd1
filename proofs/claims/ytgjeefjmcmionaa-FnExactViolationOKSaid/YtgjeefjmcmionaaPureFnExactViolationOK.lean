/- The program's ViolationOK answers as the reference's at every violation; no condition. -/
import Derived.Test.YtgjeefjmcmionaaQFnExactViolationOKx2
set_option linter.unusedVariables false
set_option linter.unusedSimpArgs false
namespace Go.Proofs.Ytgjeefjmcmionaa.Pure
open Go.RowKit Go.Proofs.Ytgjeefjmcmionaa.QFnExactViolationOK Go.Proofs.YtgjeefjmcmionaaW.PrintWords Go.Proofs.YtgjeefjmcmionaaW.PrintLast

theorem wr {x : Int} (h0 : -9223372036854775808 ≤ x) (h1 : x ≤ 9223372036854775807) : wrap64 x = x := by unfold wrap64; omega

def inB (n lo hi : Int) : Bool := decide (lo ≤ n) && decide (n ≤ hi)
theorem within_is (n lo hi : Int) : impl_within.f n lo hi = some (inB n lo hi) := by
  unfold impl_within.f inB
  by_cases h : lo ≤ n <;> simp [h]

theorem in_is (n lo hi : Int) : spec_l01In.f n lo hi = some (inB n lo hi) := by
  unfold spec_l01In.f inB
  by_cases h : lo ≤ n
  · rw [if_pos h]; simp [h]
  · rw [if_neg h]; simp [h]

theorem isLower_is (c : Int) : impl_isLower.f c = some (decide (97 ≤ c) && decide (c ≤ 122)) := by
  unfold impl_isLower.f
  by_cases h : 97 ≤ c <;> simp [h]
def ruleFrom (s : ByteArray) : Int → Nat → Bool
  | _, 0 => true
  | i, d + 1 => if (97 ≤ bt s i ∧ bt s i ≤ 122) ∨ (bt s i = 45 ∧ i ≠ 0) then ruleFrom s (i + 1) d else false
theorem ruleFrom_succ (s : ByteArray) (i : Int) (d : Nat) : ruleFrom s i (d + 1) = if (97 ≤ bt s i ∧ bt s i ≤ 122) ∨ (bt s i = 45 ∧ i ≠ 0) then ruleFrom s (i + 1) d else false := rfl
theorem rule_spec_loop (s : ByteArray) (hs : s.size ≤ 24) (d : Nat) : ∀ i : Int, 0 ≤ i → i + d = s.size → spec_l04Name.l0 (d + 1) s i = some (ruleFrom s i d) := by
  induction d with
  | zero => intro i h0 h1; rw [spec_l04Name.l0, if_neg (by omega)]; rfl
  | succ d ih =>
    intro i h0 h1
    rw [spec_l04Name.l0, if_pos (by omega), if_pos h0, wr (by omega) (by omega), ih (i + 1) (by omega) (by omega), ruleFrom_succ]
    generalize ruleFrom s (i + 1) d = R
    generalize bt s i = c
    by_cases g : (97 ≤ c ∧ c ≤ 122) ∨ (c = 45 ∧ i ≠ 0)
    · rw [if_pos g]; (repeat' split) <;> first | rfl | (exfalso; omega)
    · rw [if_neg g]; (repeat' split) <;> first | rfl | (exfalso; omega)
theorem rule_impl_loop (s : ByteArray) (n : Int) (hn : n ≤ s.size) (hn' : n ≤ 1000) (d : Nat) : ∀ i : Int, 0 ≤ i → i + d = n → impl_isRule.l0 (d + 1) s n i = some (if ruleFrom s i d then inB s.size 1 24 else false) := by
  induction d with
  | zero => intro i h0 h1; rw [impl_isRule.l0, if_neg (by omega), within_is]; simp [ruleFrom]
  | succ d ih =>
    intro i h0 h1
    rw [impl_isRule.l0, if_pos (by omega), if_pos h0, if_pos (by omega), wr (by omega) (by omega), ih (i + 1) (by omega) (by omega), isLower_is, ruleFrom_succ]
    generalize ruleFrom s (i + 1) d = R
    generalize bt s i = c
    simp only [Option.bind_some]
    by_cases g : 97 ≤ c ∧ c ≤ 122
    · rw [if_pos (by simpa using g), if_pos (show (97 ≤ c ∧ c ≤ 122) ∨ (c = 45 ∧ i ≠ 0) from Or.inl g)]
    · rw [if_neg (by simpa using g)]
      by_cases h : c = 45 ∧ i ≠ 0
      · rw [if_pos h.1, if_neg h.2, if_pos (show (97 ≤ c ∧ c ≤ 122) ∨ (c = 45 ∧ i ≠ 0) from Or.inr h)]
      · rw [if_neg (show ¬ ((97 ≤ c ∧ c ≤ 122) ∨ (c = 45 ∧ i ≠ 0)) by omega)]
        (repeat' split) <;> first | rfl | (exfalso; omega) | simp_all
def ruleB (s : ByteArray) : Bool := inB s.size 1 24 && ruleFrom s 0 s.size
theorem rule_spec (s : ByteArray) : Ev (fun k => spec_l04Name.f k s) (ruleB s) := by
  unfold spec_l04Name.f ruleB
  simp only [in_is, Option.bind_some]
  cases h : inB s.size 1 24 with
  | false => simpa using Ev.now false
  | true =>
    have hs : s.size ≤ 24 := by simp [inB] at h; omega
    simp only [if_true, Bool.true_and]
    exact Ev.of (fun k => spec_l04Name.mono_l k s 0) (rule_spec_loop s hs s.size 0 (by omega) (by omega))
theorem rule_impl (s : ByteArray) : Ev (fun k => impl_isRule.f k s) (ruleB s) := by
  unfold impl_isRule.f
  by_cases hs : s.size ≤ 24
  · have h1 := rule_impl_loop s s.size (by omega) (by omega) s.size 0 (by omega) (by omega)
    have e : mn (s.size : Int) 25 = s.size := by unfold mn; rw [if_neg (by omega)]
    rw [e]
    have e2 : (if ruleFrom s 0 s.size then inB s.size 1 24 else false) = ruleB s := by unfold ruleB; cases ruleFrom s 0 s.size <;> simp
    rw [e2] at h1
    exact Ev.of (fun k => impl_isRule.mono_l k s s.size 0) h1
  · have e : mn (s.size : Int) 25 = 25 := by unfold mn; split <;> omega
    rw [e]
    have h1 := rule_impl_loop s 25 (by omega) (by omega) 25 0 (by omega) (by omega)
    have e2 : (if ruleFrom s 0 25 then inB s.size 1 24 else false) = ruleB s := by
      have : inB s.size 1 24 = false := by unfold inB; simp; omega
      unfold ruleB; rw [this]; simp
    rw [e2] at h1
    exact Ev.of (fun k => impl_isRule.mono_l k s 25 0) h1

def violB (a0 a1 a2 a3 a4 a5 : ByteArray) (l c : Int) : Bool :=
  decide (a0.size ≤ 100 ∧ a1.size ≤ 100 ∧ a2.size ≤ 100 ∧ a3.size ≤ 100) && (ruleB a4 && (decide ((a5.size : Int) ≤ 200) && (inB l 0 9999 && inB c 0 9999)))
theorem viol_impl (a0 a1 a2 a3 a4 a5 : ByteArray) (l c : Int) (b : Bool) : Ev (fun k => impl_ViolationOK.f k a0 a1 a2 a3 a4 a5 l c b) (violB a0 a1 a2 a3 a4 a5 l c) := by
  unfold impl_ViolationOK.f violB
  have hm : (mx (mx (mx (a0.size : Int) (a1.size : Int)) (a2.size : Int)) (a3.size : Int) ≤ 100) ↔ (a0.size ≤ 100 ∧ a1.size ≤ 100 ∧ a2.size ≤ 100 ∧ a3.size ≤ 100) := by
    unfold mx; (repeat' split) <;> omega
  by_cases h : a0.size ≤ 100 ∧ a1.size ≤ 100 ∧ a2.size ≤ 100 ∧ a3.size ≤ 100
  · simp only [if_pos (hm.2 h), decide_eq_true h, Bool.true_and]
    refine Ev.bind (rule_impl a4) ?_
    simp only [within_is, Option.bind_some]
    cases ruleB a4 with
    | false => simpa using Ev.now false
    | true =>
      by_cases h5 : (a5.size : Int) ≤ 200
      · simp only [if_true, if_pos h5, decide_eq_true h5, Bool.true_and]
        cases inB l 0 9999 <;> simpa using Ev.now _
      · simp only [if_true, if_neg h5, decide_eq_false h5, Bool.false_and, Bool.and_false]
        exact Ev.now false
  · simp only [if_neg (fun e => h (hm.1 e)), decide_eq_false h, Bool.false_and]
    exact Ev.now false
theorem viol_spec (a0 a1 a2 a3 a4 a5 : ByteArray) (l c : Int) (b : Bool) : Ev (fun k => spec_l05OK.f k a0 a1 a2 a3 a4 a5 l c b) (violB a0 a1 a2 a3 a4 a5 l c) := by
  unfold spec_l05OK.f
  have step : ∀ (i : Int) (x : ByteArray) (r : Bool), 0 ≤ i → i < 4 → rdOf ByteArray.empty [a0, a1, a2, a3] i = x →
      (x.size ≤ 100 → Ev (fun k => spec_l05OK.l0 k [a0, a1, a2, a3] (i + 1) a0 a1 a2 a3 a4 a5 l c b) r) → (¬ x.size ≤ 100 → r = false) →
      Ev (fun k => spec_l05OK.l0 k [a0, a1, a2, a3] i a0 a1 a2 a3 a4 a5 l c b) r := by
    intro i x r h0 h1 hx hy hn
    refine Ev.step (f := fun k => if (x.size : Int) > 100 then some false else spec_l05OK.l0 k [a0, a1, a2, a3] (i + 1) a0 a1 a2 a3 a4 a5 l c b) (fun k => ?_) ?_
    · rw [spec_l05OK.l0, if_pos (by simp only [List.length_cons, List.length_nil]; omega), if_pos h0, hx, wr (by omega) (by omega)]
    · by_cases h : x.size ≤ 100
      · simp only [if_neg (show ¬ (x.size : Int) > 100 by omega)]; exact hy h
      · simp only [if_pos (show (x.size : Int) > 100 by omega)]; rw [hn h]; exact Ev.now false
  have last : Ev (fun k => spec_l05OK.l0 k [a0, a1, a2, a3] 4 a0 a1 a2 a3 a4 a5 l c b) (ruleB a4 && (decide ((a5.size : Int) ≤ 200) && (inB l 0 9999 && inB c 0 9999))) := by
    refine Ev.step (f := fun k => (spec_l04Name.f k a4).bind fun t => if t = true then (if (a5.size : Int) ≤ 200 then some (inB l 0 9999 && inB c 0 9999) else some false) else some false) (fun k => ?_) ?_
    · rw [spec_l05OK.l0, if_neg (by simp)]
      simp only [in_is, Option.bind_some]
      congr 1
      funext t
      cases inB l 0 9999 <;> simp
    · refine Ev.bind (rule_spec a4) ?_
      cases ruleB a4 with
      | false => simpa using Ev.now false
      | true =>
        by_cases h5 : (a5.size : Int) ≤ 200
        · simpa [h5] using Ev.now _
        · simpa [h5] using Ev.now _
  unfold violB
  refine step 0 a0 _ (by omega) (by omega) rfl (fun h0 => ?_) (fun h => by simp [h])
  refine step 1 a1 _ (by omega) (by omega) rfl (fun h1 => ?_) (fun h => by simp [h])
  refine step 2 a2 _ (by omega) (by omega) rfl (fun h2 => ?_) (fun h => by simp [h])
  refine step 3 a3 _ (by omega) (by omega) rfl (fun h3 => ?_) (fun h => by simp [h])
  rw [decide_eq_true ⟨h0, h1, h2, h3⟩, Bool.true_and]
  exact last

theorem FnExactViolationOK : (∀ (a0_0 : ByteArray) (a0_1 : ByteArray) (a0_2 : ByteArray) (a0_3 : ByteArray) (a0_4 : ByteArray) (a0_5 : ByteArray) (a0_6 : Int) (a0_7 : Int) (a0_8 : Bool), (a0_0.size ≤ 9223372036854775807) → (a0_1.size ≤ 9223372036854775807) → (a0_2.size ≤ 9223372036854775807) → (a0_3.size ≤ 9223372036854775807) → (a0_4.size ≤ 9223372036854775807) → (a0_5.size ≤ 9223372036854775807) → ((Lit.int .i64 a0_6).wf = true) → ((Lit.int .i64 a0_7).wf = true) → ∃ k, laws_FnExactViolationOK.f k a0_0 a0_1 a0_2 a0_3 a0_4 a0_5 a0_6 a0_7 a0_8 = some true) := by
  intro a0 a1 a2 a3 a4 a5 l c b _ _ _ _ _ _ _ _
  refine Ev.rounds ?_
  unfold laws_FnExactViolationOK.f laws_toViolation.f spec_ViolationOK.f
  cases h : laws_szViolation.f a0 a1 a2 a3 a4 a5 l c b 1048576 with
  | none => exact absurd h (by unfold laws_szViolation.f; (repeat' split) <;> simp)
  | some t =>
    simp only [Option.bind_some]
    split
    · exact Ev.now true
    · refine Ev.bind (Ev.bind (viol_spec a0 a1 a2 a3 a4 a5 l c b) (Ev.now _)) (Ev.bind (viol_impl a0 a1 a2 a3 a4 a5 l c b) ?_)
      simpa using Ev.now true

end Go.Proofs.Ytgjeefjmcmionaa.Pure
