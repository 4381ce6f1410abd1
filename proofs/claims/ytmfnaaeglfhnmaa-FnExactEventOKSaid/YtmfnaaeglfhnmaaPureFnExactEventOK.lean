/- The program's EventOK answers as the reference's at every event; no condition. -/
import Derived.Test.YtmfnaaeglfhnmaaQFnExactEventOKx7
set_option linter.unusedVariables false
set_option linter.unusedSimpArgs false
namespace Go.Proofs.Ytmfnaaeglfhnmaa.Pure
open Go.RowKit Go.Proofs.Ytmfnaaeglfhnmaa.QFnExactEventOK Go.Proofs.YtmfnaaeglfhnmaaW.PrintWords Go.Proofs.YtmfnaaeglfhnmaaW.PrintLast

theorem wr {x : Int} (h0 : -9223372036854775808 ≤ x) (h1 : x ≤ 9223372036854775807) : wrap64 x = x := by unfold wrap64; omega

def inB (n lo hi : Int) : Bool := decide (lo ≤ n) && decide (n ≤ hi)
theorem within_is (n lo hi : Int) : impl_within.f n lo hi = some (inB n lo hi) := by
  unfold impl_within.f inB
  by_cases h : lo ≤ n <;> simp [h]

theorem in_is (n lo hi : Int) : spec_l01In.f n lo hi = some (inB n lo hi) := by
  unfold spec_l01In.f inB
  by_cases h : lo ≤ n
  · rw [if_pos h]; simp [h]
  · rw [if_neg h]; simp [h]

theorem isLower_is (c : Int) : impl_isLower.f c = some (decide (97 ≤ c) && decide (c ≤ 122)) := by
  unfold impl_isLower.f
  by_cases h : 97 ≤ c <;> simp [h]
def ruleFrom (s : ByteArray) : Int → Nat → Bool
  | _, 0 => true
  | i, d + 1 => if (97 ≤ bt s i ∧ bt s i ≤ 122) ∨ (bt s i = 45 ∧ i ≠ 0) then ruleFrom s (i + 1) d else false
theorem ruleFrom_succ (s : ByteArray) (i : Int) (d : Nat) : ruleFrom s i (d + 1) = if (97 ≤ bt s i ∧ bt s i ≤ 122) ∨ (bt s i = 45 ∧ i ≠ 0) then ruleFrom s (i + 1) d else false := rfl
theorem rule_spec_loop (s : ByteArray) (hs : s.size ≤ 24) (d : Nat) : ∀ i : Int, 0 ≤ i → i + d = s.size → spec_l04Name.l0 (d + 1) s i = some (ruleFrom s i d) := by
  induction d with
  | zero => intro i h0 h1; rw [spec_l04Name.l0, if_neg (by omega)]; rfl
  | succ d ih =>
    intro i h0 h1
    rw [spec_l04Name.l0, if_pos (by omega), if_pos h0, wr (by omega) (by omega), ih (i + 1) (by omega) (by omega), ruleFrom_succ]
    generalize ruleFrom s (i + 1) d = R
    generalize bt s i = c
    by_cases g : (97 ≤ c ∧ c ≤ 122) ∨ (c = 45 ∧ i ≠ 0)
    · rw [if_pos g]; (repeat' split) <;> first | rfl | (exfalso; omega)
    · rw [if_neg g]; (repeat' split) <;> first | rfl | (exfalso; omega)
theorem rule_impl_loop (s : ByteArray) (n : Int) (hn : n ≤ s.size) (hn' : n ≤ 1000) (d : Nat) : ∀ i : Int, 0 ≤ i → i + d = n → impl_isRule.l0 (d + 1) s n i = some (if ruleFrom s i d then inB s.size 1 24 else false) := by
  induction d with
  | zero => intro i h0 h1; rw [impl_isRule.l0, if_neg (by omega), within_is]; simp [ruleFrom]
  | succ d ih =>
    intro i h0 h1
    rw [impl_isRule.l0, if_pos (by omega), if_pos h0, if_pos (by omega), wr (by omega) (by omega), ih (i + 1) (by omega) (by omega), isLower_is, ruleFrom_succ]
    generalize ruleFrom s (i + 1) d = R
    generalize bt s i = c
    simp only [Option.bind_some]
    by_cases g : 97 ≤ c ∧ c ≤ 122
    · rw [if_pos (by simpa using g), if_pos (show (97 ≤ c ∧ c ≤ 122) ∨ (c = 45 ∧ i ≠ 0) from Or.inl g)]
    · rw [if_neg (by simpa using g)]
      by_cases h : c = 45 ∧ i ≠ 0
      · rw [if_pos h.1, if_neg h.2, if_pos (show (97 ≤ c ∧ c ≤ 122) ∨ (c = 45 ∧ i ≠ 0) from Or.inr h)]
      · rw [if_neg (show ¬ ((97 ≤ c ∧ c ≤ 122) ∨ (c = 45 ∧ i ≠ 0)) by omega)]
        (repeat' split) <;> first | rfl | (exfalso; omega) | simp_all
def ruleB (s : ByteArray) : Bool := inB s.size 1 24 && ruleFrom s 0 s.size
theorem rule_spec (s : ByteArray) : Ev (fun k => spec_l04Name.f k s) (ruleB s) := by
  unfold spec_l04Name.f ruleB
  simp only [in_is, Option.bind_some]
  cases h : inB s.size 1 24 with
  | false => simpa using Ev.now false
  | true =>
    have hs : s.size ≤ 24 := by simp [inB] at h; omega
    simp only [if_true, Bool.true_and]
    exact Ev.of (fun k => spec_l04Name.mono_l k s 0) (rule_spec_loop s hs s.size 0 (by omega) (by omega))
theorem rule_impl (s : ByteArray) : Ev (fun k => impl_isRule.f k s) (ruleB s) := by
  unfold impl_isRule.f
  by_cases hs : s.size ≤ 24
  · have h1 := rule_impl_loop s s.size (by omega) (by omega) s.size 0 (by omega) (by omega)
    have e : mn (s.size : Int) 25 = s.size := by unfold mn; rw [if_neg (by omega)]
    rw [e]
    have e2 : (if ruleFrom s 0 s.size then inB s.size 1 24 else false) = ruleB s := by unfold ruleB; cases ruleFrom s 0 s.size <;> simp
    rw [e2] at h1
    exact Ev.of (fun k => impl_isRule.mono_l k s s.size 0) h1
  · have e : mn (s.size : Int) 25 = 25 := by unfold mn; split <;> omega
    rw [e]
    have h1 := rule_impl_loop s 25 (by omega) (by omega) 25 0 (by omega) (by omega)
    have e2 : (if ruleFrom s 0 25 then inB s.size 1 24 else false) = ruleB s := by
      have : inB s.size 1 24 = false := by unfold inB; simp; omega
      unfold ruleB; rw [this]; simp
    rw [e2] at h1
    exact Ev.of (fun k => impl_isRule.mono_l k s 25 0) h1

def violB (a0 a1 a2 a3 a4 a5 : ByteArray) (l c : Int) : Bool :=
  decide (a0.size ≤ 100 ∧ a1.size ≤ 100 ∧ a2.size ≤ 100 ∧ a3.size ≤ 100) && (ruleB a4 && (decide ((a5.size : Int) ≤ 200) && (inB l 0 9999 && inB c 0 9999)))
theorem viol_impl (a0 a1 a2 a3 a4 a5 : ByteArray) (l c : Int) (b : Bool) : Ev (fun k => impl_ViolationOK.f k a0 a1 a2 a3 a4 a5 l c b) (violB a0 a1 a2 a3 a4 a5 l c) := by
  unfold impl_ViolationOK.f violB
  have hm : (mx (mx (mx (a0.size : Int) (a1.size : Int)) (a2.size : Int)) (a3.size : Int) ≤ 100) ↔ (a0.size ≤ 100 ∧ a1.size ≤ 100 ∧ a2.size ≤ 100 ∧ a3.size ≤ 100) := by
    unfold mx; (repeat' split) <;> omega
  by_cases h : a0.size ≤ 100 ∧ a1.size ≤ 100 ∧ a2.size ≤ 100 ∧ a3.size ≤ 100
  · simp only [if_pos (hm.2 h), decide_eq_true h, Bool.true_and]
    refine Ev.bind (rule_impl a4) ?_
    simp only [within_is, Option.bind_some]
    cases ruleB a4 with
    | false => simpa using Ev.now false
    | true =>
      by_cases h5 : (a5.size : Int) ≤ 200
      · simp only [if_true, if_pos h5, decide_eq_true h5, Bool.true_and]
        cases inB l 0 9999 <;> simpa using Ev.now _
      · simp only [if_true, if_neg h5, decide_eq_false h5, Bool.false_and, Bool.and_false]
        exact Ev.now false
  · simp only [if_neg (fun e => h (hm.1 e)), decide_eq_false h, Bool.false_and]
    exact Ev.now false
theorem viol_spec (a0 a1 a2 a3 a4 a5 : ByteArray) (l c : Int) (b : Bool) : Ev (fun k => spec_l05OK.f k a0 a1 a2 a3 a4 a5 l c b) (violB a0 a1 a2 a3 a4 a5 l c) := by
  unfold spec_l05OK.f
  have step : ∀ (i : Int) (x : ByteArray) (r : Bool), 0 ≤ i → i < 4 → rdOf ByteArray.empty [a0, a1, a2, a3] i = x →
      (x.size ≤ 100 → Ev (fun k => spec_l05OK.l0 k [a0, a1, a2, a3] (i + 1) a0 a1 a2 a3 a4 a5 l c b) r) → (¬ x.size ≤ 100 → r = false) →
      Ev (fun k => spec_l05OK.l0 k [a0, a1, a2, a3] i a0 a1 a2 a3 a4 a5 l c b) r := by
    intro i x r h0 h1 hx hy hn
    refine Ev.step (f := fun k => if (x.size : Int) > 100 then some false else spec_l05OK.l0 k [a0, a1, a2, a3] (i + 1) a0 a1 a2 a3 a4 a5 l c b) (fun k => ?_) ?_
    · rw [spec_l05OK.l0, if_pos (by simp only [List.length_cons, List.length_nil]; omega), if_pos h0, hx, wr (by omega) (by omega)]
    · by_cases h : x.size ≤ 100
      · simp only [if_neg (show ¬ (x.size : Int) > 100 by omega)]; exact hy h
      · simp only [if_pos (show (x.size : Int) > 100 by omega)]; rw [hn h]; exact Ev.now false
  have last : Ev (fun k => spec_l05OK.l0 k [a0, a1, a2, a3] 4 a0 a1 a2 a3 a4 a5 l c b) (ruleB a4 && (decide ((a5.size : Int) ≤ 200) && (inB l 0 9999 && inB c 0 9999))) := by
    refine Ev.step (f := fun k => (spec_l04Name.f k a4).bind fun t => if t = true then (if (a5.size : Int) ≤ 200 then some (inB l 0 9999 && inB c 0 9999) else some false) else some false) (fun k => ?_) ?_
    · rw [spec_l05OK.l0, if_neg (by simp)]
      simp only [in_is, Option.bind_some]
      congr 1
      funext t
      cases inB l 0 9999 <;> simp
    · refine Ev.bind (rule_spec a4) ?_
      cases ruleB a4 with
      | false => simpa using Ev.now false
      | true =>
        by_cases h5 : (a5.size : Int) ≤ 200
        · simpa [h5] using Ev.now _
        · simpa [h5] using Ev.now _
  unfold violB
  refine step 0 a0 _ (by omega) (by omega) rfl (fun h0 => ?_) (fun h => by simp [h])
  refine step 1 a1 _ (by omega) (by omega) rfl (fun h1 => ?_) (fun h => by simp [h])
  refine step 2 a2 _ (by omega) (by omega) rfl (fun h2 => ?_) (fun h => by simp [h])
  refine step 3 a3 _ (by omega) (by omega) rfl (fun h3 => ?_) (fun h => by simp [h])
  rw [decide_eq_true ⟨h0, h1, h2, h3⟩, Bool.true_and]
  exact last

def letterB (c : Int) : Bool := (decide (97 ≤ c) && decide (c ≤ 122)) || (decide (65 ≤ c) && decide (c ≤ 90)) || (c == 95)
def digitB (c : Int) : Bool := decide (48 ≤ c) && decide (c ≤ 57)
theorem letter_is (c : Int) : spec_l00Letter.f c = some (letterB c) := by
  unfold spec_l00Letter.f letterB
  by_cases a : 97 ≤ c <;> by_cases b : c ≤ 122 <;> by_cases d : 65 ≤ c <;> by_cases e : c ≤ 90 <;> first | (exfalso; omega) | simp [a, b, d, e]
theorem digit_is (c : Int) : spec_l00Digit.f c = some (digitB c) := by
  unfold spec_l00Digit.f digitB
  by_cases a : 48 ≤ c <;> simp [a]
theorem name_spec_step (k : Nat) (s : ByteArray) (i : Int) (h0 : 0 ≤ i) (h1 : i < (s.size : Int)) (h2 : i < 1000) :
    spec_l00Word.l0 (k + 1) s i = if letterB (bt s i) = true then spec_l00Word.l0 k s (i + 1) else if digitB (bt s i) = true then spec_l00Word.l0 k s (i + 1) else some false := by
  rw [spec_l00Word.l0, if_pos h1, if_pos h0, letter_is, digit_is, wr (by omega) (by omega)]
  simp only [Option.bind_some]
theorem name_impl_step (k : Nat) (s : ByteArray) (n i : Int) (h0 : 0 ≤ i) (h1 : i < n) (h3 : i < (s.size : Int)) (h2 : i < 1000) :
    impl_NameOK.l0 (k + 1) s n i = if letterB (bt s i) = true then impl_NameOK.l0 k s n (i + 1) else if i = 0 then some false else if digitB (bt s i) = true then impl_NameOK.l0 k s n (i + 1) else some false := by
  rw [impl_NameOK.l0, if_pos h1, if_pos h0, if_pos h3, wr (by omega) (by omega)]
  generalize bt s i = c
  generalize impl_NameOK.l0 k s n (i + 1) = R
  unfold letterB digitB
  by_cases a : 97 ≤ c <;> by_cases b : c ≤ 122 <;> by_cases d : 65 ≤ c <;> by_cases e : c ≤ 90 <;> by_cases f : c = 95 <;> first | (exfalso; omega) | skip
  all_goals
    by_cases x : c < 48 <;> by_cases y : c > 57 <;> first | (exfalso; omega) | simp [a, b, d, e, f, x, y, show (48 ≤ c) = ¬ (c < 48) by simp, show (c ≤ 57) = ¬ (c > 57) by simp]
theorem name_loops (s : ByteArray) (hs : s.size ≤ 12) (d : Nat) : ∀ i : Int, 1 ≤ i → i + d = s.size →
    ∃ r, spec_l00Word.l0 (d + 1) s i = some r ∧ impl_NameOK.l0 (d + 1) s s.size i = some r := by
  induction d with
  | zero =>
    intro i h0 h1
    rw [spec_l00Word.l0, impl_NameOK.l0, if_neg (by omega), if_neg (by omega)]
    exact ⟨_, rfl, rfl⟩
  | succ d ih =>
    intro i h0 h1
    rw [name_spec_step _ _ _ (by omega) (by omega) (by omega), name_impl_step _ _ _ _ (by omega) (by omega) (by omega) (by omega), if_neg (by omega : ¬ i = 0)]
    have z := ih (i + 1) (by omega) (by omega)
    split
    · exact z
    · split
      · exact z
      · exact ⟨_, rfl, rfl⟩
theorem name_same (s : ByteArray) : ∃ r, Ev (fun k => spec_l00Word.f k s) r ∧ Ev (fun k => impl_NameOK.f k s) r := by
  suffices h : ∃ r k, spec_l00Word.f k s = some r ∧ impl_NameOK.f k s = some r by
    obtain ⟨r, k, h1, h2⟩ := h
    exact ⟨r, Ev.of (spec_l00Word.mono s) h1, Ev.of (impl_NameOK.mono s) h2⟩
  by_cases h0 : (s.size : Int) < 1
  · refine ⟨false, 1, ?_, ?_⟩
    · unfold spec_l00Word.f; rw [if_pos h0]; simp [spec_l00Word.j0]
    · unfold impl_NameOK.f impl_within.f; rw [if_neg (by omega)]; simp
  · by_cases h1 : (s.size : Int) > 12
    · refine ⟨false, 1, ?_, ?_⟩
      · unfold spec_l00Word.f; rw [if_neg h0, if_pos h1]; simp [spec_l00Word.j0]
      · unfold impl_NameOK.f impl_within.f; rw [if_pos (by omega), decide_eq_false (by omega)]; simp
    · obtain ⟨d, hd⟩ : ∃ d : Nat, (1 : Int) + d = s.size := ⟨s.size - 1, by omega⟩
      obtain ⟨r, h2, h3⟩ := name_loops s (by omega) d 1 (by omega) hd
      cases hl : letterB (bt s 0) with
      | true =>
        refine ⟨r, d + 2, ?_, ?_⟩
        · unfold spec_l00Word.f
          rw [if_neg h0, if_neg h1, if_pos (by omega), letter_is, hl, Option.bind_some, spec_l00Word.j0]
          rw [if_neg (by decide)]
          rw [← h2]
        · unfold impl_NameOK.f impl_within.f
          rw [if_pos (by omega), decide_eq_true (by omega), Option.bind_some, if_pos rfl, name_impl_step _ _ _ _ (by omega) (by omega) (by omega) (by omega), hl, if_pos rfl]
          exact h3
      | false =>
        refine ⟨false, d + 2, ?_, ?_⟩
        · unfold spec_l00Word.f
          rw [if_neg h0, if_neg h1, if_pos (by omega), letter_is, hl, Option.bind_some, spec_l00Word.j0]
          rfl
        · unfold impl_NameOK.f impl_within.f
          rw [if_pos (by omega), decide_eq_true (by omega), Option.bind_some, if_pos rfl, name_impl_step _ _ _ _ (by omega) (by omega) (by omega) (by omega), hl]
          simp

theorem noBytes : (⟨#[]⟩ : ByteArray).toList = ([] : List UInt8) := by unfold ByteArray.toList ByteArray.toList.loop; rfl
def zeroV (a6 a7 a8 a9 a10 a11 : ByteArray) (l c : Int) (r : Bool) : Bool :=
  a6.toList == ([] : List UInt8) && (a7.toList == ([] : List UInt8) && (a8.toList == ([] : List UInt8) && (a9.toList == ([] : List UInt8) && (a10.toList == ([] : List UInt8) && (a11.toList == ([] : List UInt8) && (l == 0 && (c == 0 && !r)))))))
theorem zeroV_spec (a6 a7 a8 a9 a10 a11 : ByteArray) (l c : Int) (r : Bool) :
    (!(a6.toList == ([] : List UInt8)) || (!(a7.toList == ([] : List UInt8)) || (!(a8.toList == ([] : List UInt8)) || (!(a9.toList == ([] : List UInt8)) || (!(a10.toList == ([] : List UInt8)) || (!(a11.toList == ([] : List UInt8)) || (!(l == 0) || (!(c == 0) || r)))))))) = !zeroV a6 a7 a8 a9 a10 a11 l c r := by
  simp [zeroV, Bool.not_and]
theorem zeroV_impl (a6 a7 a8 a9 a10 a11 : ByteArray) (l c : Int) (r : Bool) :
    (([] : List UInt8) == a6.toList && (([] : List UInt8) == a7.toList && (([] : List UInt8) == a8.toList && (([] : List UInt8) == a9.toList && (([] : List UInt8) == a10.toList && (([] : List UInt8) == a11.toList && ((0 : Int) == l && ((0 : Int) == c && (false == r))))))))) = zeroV a6 a7 a8 a9 a10 a11 l c r := by
  unfold zeroV
  rw [BEq.comm (a := ([] : List UInt8)) (b := a6.toList), BEq.comm (a := ([] : List UInt8)) (b := a7.toList), BEq.comm (a := ([] : List UInt8)) (b := a8.toList), BEq.comm (a := ([] : List UInt8)) (b := a9.toList), BEq.comm (a := ([] : List UInt8)) (b := a10.toList), BEq.comm (a := ([] : List UInt8)) (b := a11.toList), BEq.comm (a := (0 : Int)) (b := l), BEq.comm (a := (0 : Int)) (b := c)]
  cases r <;> rfl
def eR3 (draw status : Int) (name : ByteArray) (lost nm six bad : Bool) : Bool :=
  if bad = true then false else if six = true then nm && (inB draw 0 1000000 && inB status 100 599) else name.toList == ([] : List UInt8) && (draw == 0 && (status == 0 && !lost))
theorem ev_j3 (kind draw status ticks : Int) (text name a6 a7 a8 a9 a10 a11 : ByteArray) (l c : Int) (r lost : Bool) {nm : Bool} (hn : Ev (fun k => spec_l00Word.f k name) nm) (six bad : Bool) :
    Ev (fun k => spec_l08Event.j3 k six bad kind draw status ticks text name a6 a7 a8 a9 a10 a11 l c r lost) (eR3 draw status name lost nm six bad) := by
  unfold eR3
  cases bad
  · cases six
    · simp only [Bool.false_eq_true, if_false]
      refine Ev.step (f := fun _ => some (name.toList == ([] : List UInt8) && (draw == 0 && (status == 0 && !lost)))) (fun k => ?_) (Ev.now _)
      rw [spec_l08Event.j3]
      simp only [Bool.false_eq_true, if_false]
      by_cases h1 : name.toList = ([] : List UInt8)
      · by_cases h2 : draw = 0
        · by_cases h3 : status = 0
          · simp [h1, h2, h3]
          · simp [h1, h2, h3]
        · simp [h1, h2]
      · simp [h1]
    · simp only [Bool.false_eq_true, if_false, if_true]
      refine Ev.step (f := fun k => (spec_l00Word.f k name).bind fun t => if t = true then some (inB draw 0 1000000 && inB status 100 599) else some false) (fun k => ?_) (Ev.bind hn ?_)
      · rw [spec_l08Event.j3]
        simp only [Bool.false_eq_true, if_false, if_true, in_is, Option.bind_some]
        congr 1
        funext t
        cases inB draw 0 1000000 <;> simp
      · cases nm
        · simp only [Bool.false_eq_true, if_false, Bool.false_and]; exact Ev.now _
        · simp only [if_true, Bool.true_and]; exact Ev.now _
  · simp only [if_true]
    exact Ev.step (f := fun _ => some false) (fun k => by rw [spec_l08Event.j3]; simp) (Ev.now _)
def eR2 (kind draw status ticks : Int) (name : ByteArray) (lost nm six bad : Bool) : Bool :=
  if bad = true then false else eR3 draw status name lost nm six (if kind = 5 then !inB ticks 1 1000 else ticks != 0)
theorem ev_j2 (kind draw status ticks : Int) (text name a6 a7 a8 a9 a10 a11 : ByteArray) (l c : Int) (r lost : Bool) {nm : Bool} (hn : Ev (fun k => spec_l00Word.f k name) nm) (six bad : Bool) :
    Ev (fun k => spec_l08Event.j2 k six bad kind draw status ticks text name a6 a7 a8 a9 a10 a11 l c r lost) (eR2 kind draw status ticks name lost nm six bad) := by
  unfold eR2
  cases bad
  · simp only [Bool.false_eq_true, if_false]
    refine Ev.step (f := fun k => spec_l08Event.j3 k six (if kind = 5 then !inB ticks 1 1000 else ticks != 0) kind draw status ticks text name a6 a7 a8 a9 a10 a11 l c r lost) (fun k => ?_) (ev_j3 kind draw status ticks text name a6 a7 a8 a9 a10 a11 l c r lost hn six _)
    rw [spec_l08Event.j2]
    simp only [Bool.false_eq_true, if_false]
    by_cases h : kind = 5
    · simp only [if_pos h, in_is, Option.bind_some]
      cases inB ticks 1 1000 <;> simp
    · simp only [if_neg h]
  · simp only [if_true]
    exact Ev.step (f := fun _ => some false) (fun k => by rw [spec_l08Event.j2]; simp) (Ev.now _)
def eR1 (kind draw status ticks : Int) (name : ByteArray) (lost nm six bad v z : Bool) : Bool :=
  if bad = true then false else eR2 kind draw status ticks name lost nm six (if kind = 4 then !v else !z)
theorem ev_j1 (kind draw status ticks : Int) (text name a6 a7 a8 a9 a10 a11 : ByteArray) (l c : Int) (r lost : Bool) {nm : Bool} (hn : Ev (fun k => spec_l00Word.f k name) nm) (six bad : Bool) :
    Ev (fun k => spec_l08Event.j1 k six bad kind draw status ticks text name a6 a7 a8 a9 a10 a11 l c r lost) (eR1 kind draw status ticks name lost nm six bad (violB a6 a7 a8 a9 a10 a11 l c) (zeroV a6 a7 a8 a9 a10 a11 l c r)) := by
  unfold eR1
  cases bad
  · simp only [Bool.false_eq_true, if_false]
    by_cases h : kind = 4
    · simp only [if_pos h]
      refine Ev.step (f := fun k => (spec_l05OK.f k a6 a7 a8 a9 a10 a11 l c r).bind fun t => if t = true then spec_l08Event.j2 k six false kind draw status ticks text name a6 a7 a8 a9 a10 a11 l c r lost else spec_l08Event.j2 k six true kind draw status ticks text name a6 a7 a8 a9 a10 a11 l c r lost) (fun k => ?_) (Ev.bind (viol_spec a6 a7 a8 a9 a10 a11 l c r) ?_)
      · rw [spec_l08Event.j1]
        simp only [Bool.false_eq_true, if_false, if_pos h]
      · cases violB a6 a7 a8 a9 a10 a11 l c
        · simp only [Bool.false_eq_true, if_false]; exact ev_j2 kind draw status ticks text name a6 a7 a8 a9 a10 a11 l c r lost hn six true
        · simp only [if_true]; exact ev_j2 kind draw status ticks text name a6 a7 a8 a9 a10 a11 l c r lost hn six false
    · simp only [if_neg h]
      refine Ev.step (f := fun k => spec_l08Event.j2 k six (!zeroV a6 a7 a8 a9 a10 a11 l c r) kind draw status ticks text name a6 a7 a8 a9 a10 a11 l c r lost) (fun k => ?_) (ev_j2 kind draw status ticks text name a6 a7 a8 a9 a10 a11 l c r lost hn six _)
      rw [spec_l08Event.j1]
      simp only [Bool.false_eq_true, if_false, if_neg h, zeroV_spec]
  · simp only [if_true]
    exact Ev.step (f := fun _ => some false) (fun k => by rw [spec_l08Event.j1]; simp) (Ev.now _)
theorem ev_j0 (kind draw status ticks : Int) (text name a6 a7 a8 a9 a10 a11 : ByteArray) (l c : Int) (r lost : Bool) {nm : Bool} (hn : Ev (fun k => spec_l00Word.f k name) nm) (t3 : Bool) :
    Ev (fun k => spec_l08Event.j0 k t3 kind draw status ticks text name a6 a7 a8 a9 a10 a11 l c r lost) (eR1 kind draw status ticks name lost nm (kind == 6) (if inB kind 1 6 = true then if t3 = true then decide ((text.size : Int) > 4096) else if text.toList = ([] : List UInt8) then decide ((text.size : Int) > 4096) else true else true) (violB a6 a7 a8 a9 a10 a11 l c) (zeroV a6 a7 a8 a9 a10 a11 l c r)) := by
  refine Ev.step (f := fun k => spec_l08Event.j1 k (kind == 6) (if inB kind 1 6 = true then if t3 = true then decide ((text.size : Int) > 4096) else if text.toList = ([] : List UInt8) then decide ((text.size : Int) > 4096) else true else true) kind draw status ticks text name a6 a7 a8 a9 a10 a11 l c r lost) (fun k => ?_) (ev_j1 kind draw status ticks text name a6 a7 a8 a9 a10 a11 l c r lost hn _ _)
  rw [spec_l08Event.j0]
  simp only [in_is, Option.bind_some]
  by_cases h1 : inB kind 1 6 = true
  · simp only [if_pos h1]
    by_cases h2 : t3 = true
    · simp only [if_pos h2]
    · simp only [if_neg h2]
      by_cases h3 : text.toList = ([] : List UInt8)
      · simp only [if_pos h3]
      · simp only [if_neg h3]
  · simp only [if_neg h1]
/-- What the reference comes to. -/
def eventB (kind draw status ticks : Int) (text name a6 a7 a8 a9 a10 a11 : ByteArray) (l c : Int) (r lost : Bool) (nm : Bool) : Bool :=
  eR1 kind draw status ticks name lost nm (kind == 6) (if inB kind 1 6 = true then if (kind == 1 || (kind == 2 || kind == 3)) = true then decide ((text.size : Int) > 4096) else if text.toList = ([] : List UInt8) then decide ((text.size : Int) > 4096) else true else true) (violB a6 a7 a8 a9 a10 a11 l c) (zeroV a6 a7 a8 a9 a10 a11 l c r)
theorem event_spec (kind draw status ticks : Int) (text name a6 a7 a8 a9 a10 a11 : ByteArray) (l c : Int) (r lost : Bool) {nm : Bool} (hn : Ev (fun k => spec_l00Word.f k name) nm) :
    Ev (fun k => spec_l08Event.f k kind draw status ticks text name a6 a7 a8 a9 a10 a11 l c r lost) (eventB kind draw status ticks text name a6 a7 a8 a9 a10 a11 l c r lost nm) := by
  refine Ev.congr (f := fun k => spec_l08Event.j0 k (kind == 1 || (kind == 2 || kind == 3)) kind draw status ticks text name a6 a7 a8 a9 a10 a11 l c r lost) (fun k => ?_) (ev_j0 kind draw status ticks text name a6 a7 a8 a9 a10 a11 l c r lost hn _)
  unfold spec_l08Event.f
  by_cases k1 : kind = 1
  · simp [k1]
  by_cases k2 : kind = 2
  · simp [k2]
  · have e1 : (kind == 1) = false := by simpa using k1
    have e2 : (kind == 2) = false := by simpa using k2
    simp only [if_neg k1, if_neg k2, e1, e2, Bool.false_or]
theorem text_empty {t : ByteArray} (h : t.toList = ([] : List UInt8)) : t.size = 0 := by
  rw [ByteArray.toList_eq] at h
  show t.data.size = 0
  rw [← Array.length_toList, h]; rfl
theorem nowB (n : Int) : impl_isNow.f n = some (inB n 0 1000000) := by unfold impl_isNow.f; simp [within_is]
theorem statusB (n : Int) : impl_isStatus.f n = some (inB n 100 599) := by unfold impl_isStatus.f; simp [within_is]
theorem event_impl (kind draw status ticks : Int) (text name a6 a7 a8 a9 a10 a11 : ByteArray) (l c : Int) (r lost : Bool) {nm : Bool} (hn : Ev (fun k => impl_NameOK.f k name) nm) :
    Ev (fun k => impl_EventOK.f k kind draw status ticks text name a6 a7 a8 a9 a10 a11 l c r lost) (eventB kind draw status ticks text name a6 a7 a8 a9 a10 a11 l c r lost nm) := by
  have E : (⟨#[]⟩ : ByteArray).toList = ([] : List UInt8) := noBytes
  refine Ev.congr (f := fun k => impl_EventOK.j0 k false kind (kind == 1 || (kind == 2 || kind == 3)) kind draw status ticks text name a6 a7 a8 a9 a10 a11 l c r lost kind 0 0 0 (⟨#[]⟩ : ByteArray) (⟨#[]⟩ : ByteArray) (⟨#[]⟩ : ByteArray) (⟨#[]⟩ : ByteArray) (⟨#[]⟩ : ByteArray) (⟨#[]⟩ : ByteArray) (⟨#[]⟩ : ByteArray) (⟨#[]⟩ : ByteArray) 0 0 false false) (fun k => ?_) ?_
  · unfold impl_EventOK.f
    by_cases k1 : kind = 1
    · simp [k1]
    by_cases k2 : kind = 2
    · simp [k2]
    · have e1 : (kind == 1) = false := by simpa using k1
      have e2 : (kind == 2) = false := by simpa using k2
      simp only [if_neg k1, if_neg k2, e1, e2, Bool.false_or]
  have c1 : (([] : List UInt8) == name.toList) = (name.toList == ([] : List UInt8)) := BEq.comm
  have c2 : (([] : List UInt8) == text.toList) = (text.toList == ([] : List UInt8)) := BEq.comm
  have c3 : ((0 : Int) == draw) = (draw == 0) := BEq.comm
  have c4 : ((0 : Int) == status) = (status == 0) := BEq.comm
  have c5 : ((0 : Int) == ticks) = (ticks == 0) := BEq.comm
  have c6 : (false == lost) = !lost := by cases lost <;> rfl
  have hsz : text.toList = ([] : List UInt8) → text.size = 0 := text_empty
  by_cases h3 : (kind == 1 || (kind == 2 || kind == 3)) = true
  · have hk : kind = 1 ∨ kind = 2 ∨ kind = 3 := by simpa using h3
    have e6 : (kind == 6) = false := by simp; omega
    have e4 : ¬ kind = 4 := by omega
    have e5 : ¬ kind = 5 := by omega
    have ein : inB kind 1 6 = true := by unfold inB; simp; omega
    rw [h3]
    refine Ev.step (f := fun _ => some (decide ((text.size : Int) ≤ 4096) && (draw == 0 && (status == 0 && (ticks == 0 && (name.toList == ([] : List UInt8) && (zeroV a6 a7 a8 a9 a10 a11 l c r && !lost))))))) (fun k => ?_) ?_
    · rw [impl_EventOK.j0]
      simp only [if_true, E, zeroV_impl, c1, c3, c4, c5, c6, beq_self_eq_true, Bool.true_and]
      by_cases hs : (text.size : Int) ≤ 4096
      · simp only [if_pos hs, decide_eq_true hs, Bool.true_and]
      · simp only [if_neg hs, decide_eq_false hs, Bool.false_and]
    · have : (decide ((text.size : Int) ≤ 4096) && (draw == 0 && (status == 0 && (ticks == 0 && (name.toList == ([] : List UInt8) && (zeroV a6 a7 a8 a9 a10 a11 l c r && !lost)))))) = eventB kind draw status ticks text name a6 a7 a8 a9 a10 a11 l c r lost nm := by
        unfold eventB eR1 eR2 eR3
        simp only [h3, ein, e6, if_true, if_neg e4, if_neg e5, Bool.false_eq_true, if_false]
        have hd : decide ((text.size : Int) > 4096) = !decide ((text.size : Int) ≤ 4096) := by
          by_cases hs : (text.size : Int) ≤ 4096
          · rw [decide_eq_true hs, decide_eq_false (by omega)]; rfl
          · rw [decide_eq_false hs, decide_eq_true (by omega)]; rfl
        have ht : (ticks != 0) = !(ticks == 0) := rfl
        rw [hd, ht]
        generalize decide ((text.size : Int) ≤ 4096) = x1
        generalize (draw == 0) = x2
        generalize (status == 0) = x3
        generalize (ticks == 0) = x4
        generalize (name.toList == ([] : List UInt8)) = x5
        generalize zeroV a6 a7 a8 a9 a10 a11 l c r = x6
        revert x1 x2 x3 x4 x5 x6 lost
        decide
      rw [← this]; exact Ev.now _
  have h3' : (kind == 1 || (kind == 2 || kind == 3)) = false := by simpa using h3
  have hk : ¬ (kind = 1 ∨ kind = 2 ∨ kind = 3) := by intro c; apply h3; simpa using c
  rw [h3']
  by_cases k4 : kind = 4
  · subst k4
    have ein : inB 4 1 6 = true := by decide
    refine Ev.step (f := fun k => (impl_ViolationOK.f k a6 a7 a8 a9 a10 a11 l c r).bind fun t => if t = true then some (draw == 0 && (status == 0 && (ticks == 0 && (text.toList == ([] : List UInt8) && (name.toList == ([] : List UInt8) && !lost))))) else some false) (fun k => ?_) (Ev.bind (viol_impl a6 a7 a8 a9 a10 a11 l c r) ?_)
    · rw [impl_EventOK.j0]
      simp only [Bool.false_eq_true, if_false, if_true, E, c1, c2, c3, c4, c5, c6, beq_self_eq_true, Bool.true_and]
    · unfold eventB eR1 eR2 eR3
      simp only [h3', ein, if_true, Bool.false_eq_true, if_false, show ((4 : Int) == 6) = false by decide, show ¬ ((4 : Int) = 5) by decide]
      have ht : (ticks != 0) = !(ticks == 0) := rfl
      rw [ht]
      by_cases hs : text.toList = ([] : List UInt8)
      · simp only [hs, hsz hs, if_true, beq_self_eq_true, Bool.true_and]
        generalize violB a6 a7 a8 a9 a10 a11 l c = v
        generalize (draw == 0) = x2
        generalize (status == 0) = x3
        generalize (ticks == 0) = x4
        generalize (name.toList == ([] : List UInt8)) = x5
        have : ∀ v x2 x3 x4 x5 lost : Bool, (if v = true then some (x2 && (x3 && (x4 && (x5 && !lost)))) else some false) = some (if decide (((0 : Nat) : Int) > 4096) = true then false else if (!v) = true then false else if (!x4) = true then false else (x5 && (x2 && (x3 && !lost)))) := by decide
        simp only [this]
        exact Ev.now _
      · have hb : (text.toList == ([] : List UInt8)) = false := by simpa using hs
        simp only [if_neg hs, hb, if_true, Bool.false_and, Bool.and_false, ite_self]
        exact Ev.now _
  by_cases k5 : kind = 5
  · subst k5
    have ein : inB 5 1 6 = true := by decide
    refine Ev.step (f := fun _ => if inB ticks 1 1000 = true then some (draw == 0 && (status == 0 && (text.toList == ([] : List UInt8) && (name.toList == ([] : List UInt8) && (zeroV a6 a7 a8 a9 a10 a11 l c r && !lost))))) else some false) (fun k => ?_) ?_
    · rw [impl_EventOK.j0]
      simp only [Bool.false_eq_true, if_false, if_true, E, within_is, Option.bind_some, zeroV_impl, c1, c2, c3, c4, c5, c6, beq_self_eq_true, Bool.true_and, show ¬ ((5 : Int) = 4) by decide]
    · unfold eventB eR1 eR2 eR3
      simp only [h3', ein, if_true, Bool.false_eq_true, if_false, show ((5 : Int) == 6) = false by decide, show ¬ ((5 : Int) = 4) by decide]
      by_cases hs : text.toList = ([] : List UInt8)
      · simp only [hs, hsz hs, if_true, beq_self_eq_true, Bool.true_and]
        generalize inB ticks 1 1000 = v
        generalize (draw == 0) = x2
        generalize (status == 0) = x3
        generalize zeroV a6 a7 a8 a9 a10 a11 l c r = x4
        generalize (name.toList == ([] : List UInt8)) = x5
        have : ∀ v x2 x3 x4 x5 lost : Bool, (if v = true then some (x2 && (x3 && (x5 && (x4 && !lost)))) else some false) = some (if decide (((0 : Nat) : Int) > 4096) = true then false else if (!x4) = true then false else if (!v) = true then false else (x5 && (x2 && (x3 && !lost)))) := by decide
        simp only [this]
        exact Ev.now _
      · have hb : (text.toList == ([] : List UInt8)) = false := by simpa using hs
        simp only [if_neg hs, hb, if_true, Bool.false_and, Bool.and_false, ite_self]
        exact Ev.now _
  by_cases k6 : kind = 6
  · subst k6
    have ein : inB 6 1 6 = true := by decide
    refine Ev.step (f := fun k => (impl_NameOK.f k name).bind fun t => if t = true then (if inB draw 0 1000000 = true then (if inB status 100 599 = true then some (ticks == 0 && (text.toList == ([] : List UInt8) && zeroV a6 a7 a8 a9 a10 a11 l c r)) else some false) else some false) else some false) (fun k => ?_) (Ev.bind hn ?_)
    · rw [impl_EventOK.j0]
      simp only [Bool.false_eq_true, if_false, if_true, E, nowB, statusB, Option.bind_some, zeroV_impl, c1, c2, c3, c4, c5, c6, beq_self_eq_true, Bool.true_and, show ¬ ((6 : Int) = 4) by decide, show ¬ ((6 : Int) = 5) by decide]
    · unfold eventB eR1 eR2 eR3
      simp only [h3', ein, if_true, Bool.false_eq_true, if_false, show ((6 : Int) == 6) = true by decide, show ¬ ((6 : Int) = 4) by decide, show ¬ ((6 : Int) = 5) by decide]
      have ht : (ticks != 0) = !(ticks == 0) := rfl
      rw [ht]
      by_cases hs : text.toList = ([] : List UInt8)
      · simp only [hs, hsz hs, if_true, beq_self_eq_true, Bool.true_and]
        generalize inB draw 0 1000000 = x2
        generalize inB status 100 599 = x3
        generalize zeroV a6 a7 a8 a9 a10 a11 l c r = x4
        generalize (ticks == 0) = x5
        have : ∀ v x2 x3 x4 x5 : Bool, (if v = true then (if x2 = true then (if x3 = true then some (x5 && x4) else some false) else some false) else some false) = some (if decide (((0 : Nat) : Int) > 4096) = true then false else if (!x4) = true then false else if (!x5) = true then false else (v && (x2 && x3))) := by decide
        simp only [this]
        exact Ev.now _
      · have hb : (text.toList == ([] : List UInt8)) = false := by simpa using hs
        simp only [if_neg hs, hb, if_true, Bool.false_and, Bool.and_false, ite_self]
        exact Ev.now _
  · have ein : inB kind 1 6 = false := by unfold inB; simp; omega
    refine Ev.step (f := fun _ => some false) (fun k => ?_) ?_
    · rw [impl_EventOK.j0]
      simp only [Bool.false_eq_true, if_false, if_neg k4, if_neg k5, if_neg k6]
    · unfold eventB eR1
      simp only [ein, Bool.false_eq_true, if_false, if_true]
      exact Ev.now _

theorem FnExactEventOK : (∀ (a0_0 : Int) (a0_1 : Int) (a0_2 : Int) (a0_3 : Int) (a0_4 : ByteArray) (a0_5 : ByteArray) (a0_6 : ByteArray) (a0_7 : ByteArray) (a0_8 : ByteArray) (a0_9 : ByteArray) (a0_10 : ByteArray) (a0_11 : ByteArray) (a0_12 : Int) (a0_13 : Int) (a0_14 : Bool) (a0_15 : Bool), ((Lit.int .i64 a0_0).wf = true) → ((Lit.int .i64 a0_1).wf = true) → ((Lit.int .i64 a0_2).wf = true) → ((Lit.int .i64 a0_3).wf = true) → (a0_4.size ≤ 9223372036854775807) → (a0_5.size ≤ 9223372036854775807) → (a0_6.size ≤ 9223372036854775807) → (a0_7.size ≤ 9223372036854775807) → (a0_8.size ≤ 9223372036854775807) → (a0_9.size ≤ 9223372036854775807) → (a0_10.size ≤ 9223372036854775807) → (a0_11.size ≤ 9223372036854775807) → ((Lit.int .i64 a0_12).wf = true) → ((Lit.int .i64 a0_13).wf = true) → ∃ k, laws_FnExactEventOK.f k a0_0 a0_1 a0_2 a0_3 a0_4 a0_5 a0_6 a0_7 a0_8 a0_9 a0_10 a0_11 a0_12 a0_13 a0_14 a0_15 = some true) := by
  intro kind draw status ticks text name a6 a7 a8 a9 a10 a11 l c r lost _ _ _ _ _ _ _ _ _ _ _ _ _ _
  obtain ⟨nm, NMS, NMI⟩ := name_same name
  refine Ev.rounds ?_
  unfold laws_FnExactEventOK.f laws_toEvent.f laws_toViolation.f
  simp only [Option.bind_some]
  cases h : laws_szEvent.f kind draw status ticks text name a6 a7 a8 a9 a10 a11 l c r lost 1048576 with
  | none => exact absurd h (by unfold laws_szEvent.f laws_szViolation.f; (repeat' split) <;> first | (simp; done) | (simp only [Option.bind_some]; split <;> simp) | (split <;> simp only [Option.bind_some] <;> split <;> simp))
  | some t =>
    simp only [Option.bind_some]
    by_cases hneg : t < 0
    · simp only [if_pos hneg]; exact Ev.now true
    · simp only [if_neg hneg]
      refine Ev.bind (by unfold spec_EventOK.f; exact Ev.bind (event_spec kind draw status ticks text name a6 a7 a8 a9 a10 a11 l c r lost NMS) (Ev.now _)) (Ev.bind (event_impl kind draw status ticks text name a6 a7 a8 a9 a10 a11 l c r lost NMI) ?_)
      simp only [bne_self_eq_false, Bool.false_eq_true, if_false]
      exact Ev.now true

end Go.Proofs.Ytmfnaaeglfhnmaa.Pure
