/- The program's EventText answers as the reference's at every event; no condition. -/
import Derived.Test.YtagbjmjfelggmaaDoorQFnExactEventTextx11
import Derived.Lib.ItoaLen
import Derived.Lib.IndexAny
set_option linter.unusedVariables false
set_option linter.unusedSimpArgs false
namespace Go.Proofs.YtagbjmjfelggmaaDoor.Pure
open Go.RowKit Go.Proofs.YtagbjmjfelggmaaDoor.QFnExactEventText Go.Proofs.YtagbjmjfelggmaaDoorW.PrintWords Go.Proofs.YtagbjmjfelggmaaDoorW.PrintLast

theorem wr {x : Int} (h0 : -9223372036854775808 ≤ x) (h1 : x ≤ 9223372036854775807) : wrap64 x = x := by unfold wrap64; omega

def inB (n lo hi : Int) : Bool := decide (lo ≤ n) && decide (n ≤ hi)
theorem within_is (n lo hi : Int) : impl_within.f n lo hi = some (inB n lo hi) := by
  unfold impl_within.f inB
  by_cases h : lo ≤ n <;> simp [h]

theorem in_is (n lo hi : Int) : spec_l01In.f n lo hi = some (inB n lo hi) := by
  unfold spec_l01In.f inB
  by_cases h : lo ≤ n
  · rw [if_pos h]; simp [h]
  · rw [if_neg h]; simp [h]

theorem isLower_is (c : Int) : impl_isLower.f c = some (decide (97 ≤ c) && decide (c ≤ 122)) := by
  unfold impl_isLower.f
  by_cases h : 97 ≤ c <;> simp [h]
def ruleFrom (s : ByteArray) : Int → Nat → Bool
  | _, 0 => true
  | i, d + 1 => if (97 ≤ bt s i ∧ bt s i ≤ 122) ∨ (bt s i = 45 ∧ i ≠ 0) then ruleFrom s (i + 1) d else false
theorem ruleFrom_succ (s : ByteArray) (i : Int) (d : Nat) : ruleFrom s i (d + 1) = if (97 ≤ bt s i ∧ bt s i ≤ 122) ∨ (bt s i = 45 ∧ i ≠ 0) then ruleFrom s (i + 1) d else false := rfl
theorem rule_spec_loop (s : ByteArray) (hs : s.size ≤ 24) (d : Nat) : ∀ i : Int, 0 ≤ i → i + d = s.size → spec_l04Name.l0 (d + 1) s i = some (ruleFrom s i d) := by
  induction d with
  | zero => intro i h0 h1; rw [spec_l04Name.l0, if_neg (by omega)]; rfl
  | succ d ih =>
    intro i h0 h1
    rw [spec_l04Name.l0, if_pos (by omega), if_pos h0, wr (by omega) (by omega), ih (i + 1) (by omega) (by omega), ruleFrom_succ]
    generalize ruleFrom s (i + 1) d = R
    generalize bt s i = c
    by_cases g : (97 ≤ c ∧ c ≤ 122) ∨ (c = 45 ∧ i ≠ 0)
    · rw [if_pos g]; (repeat' split) <;> first | rfl | (exfalso; omega)
    · rw [if_neg g]; (repeat' split) <;> first | rfl | (exfalso; omega)
theorem rule_impl_loop (s : ByteArray) (n : Int) (hn : n ≤ s.size) (hn' : n ≤ 1000) (d : Nat) : ∀ i : Int, 0 ≤ i → i + d = n → impl_isRule.l0 (d + 1) s n i = some (if ruleFrom s i d then inB s.size 1 24 else false) := by
  induction d with
  | zero => intro i h0 h1; rw [impl_isRule.l0, if_neg (by omega), within_is]; simp [ruleFrom]
  | succ d ih =>
    intro i h0 h1
    rw [impl_isRule.l0, if_pos (by omega), if_pos h0, if_pos (by omega), wr (by omega) (by omega), ih (i + 1) (by omega) (by omega), isLower_is, ruleFrom_succ]
    generalize ruleFrom s (i + 1) d = R
    generalize bt s i = c
    simp only [Option.bind_some]
    by_cases g : 97 ≤ c ∧ c ≤ 122
    · rw [if_pos (by simpa using g), if_pos (show (97 ≤ c ∧ c ≤ 122) ∨ (c = 45 ∧ i ≠ 0) from Or.inl g)]
    · rw [if_neg (by simpa using g)]
      by_cases h : c = 45 ∧ i ≠ 0
      · rw [if_pos h.1, if_neg h.2, if_pos (show (97 ≤ c ∧ c ≤ 122) ∨ (c = 45 ∧ i ≠ 0) from Or.inr h)]
      · rw [if_neg (show ¬ ((97 ≤ c ∧ c ≤ 122) ∨ (c = 45 ∧ i ≠ 0)) by omega)]
        (repeat' split) <;> first | rfl | (exfalso; omega) | simp_all
def ruleB (s : ByteArray) : Bool := inB s.size 1 24 && ruleFrom s 0 s.size
theorem rule_spec (s : ByteArray) : Ev (fun k => spec_l04Name.f k s) (ruleB s) := by
  unfold spec_l04Name.f ruleB
  simp only [in_is, Option.bind_some]
  cases h : inB s.size 1 24 with
  | false => simpa using Ev.now false
  | true =>
    have hs : s.size ≤ 24 := by simp [inB] at h; omega
    simp only [if_true, Bool.true_and]
    exact Ev.of (fun k => spec_l04Name.mono_l k s 0) (rule_spec_loop s hs s.size 0 (by omega) (by omega))
theorem rule_impl (s : ByteArray) : Ev (fun k => impl_isRule.f k s) (ruleB s) := by
  unfold impl_isRule.f
  by_cases hs : s.size ≤ 24
  · have h1 := rule_impl_loop s s.size (by omega) (by omega) s.size 0 (by omega) (by omega)
    have e : mn (s.size : Int) 25 = s.size := by unfold mn; rw [if_neg (by omega)]
    rw [e]
    have e2 : (if ruleFrom s 0 s.size then inB s.size 1 24 else false) = ruleB s := by unfold ruleB; cases ruleFrom s 0 s.size <;> simp
    rw [e2] at h1
    exact Ev.of (fun k => impl_isRule.mono_l k s s.size 0) h1
  · have e : mn (s.size : Int) 25 = 25 := by unfold mn; split <;> omega
    rw [e]
    have h1 := rule_impl_loop s 25 (by omega) (by omega) 25 0 (by omega) (by omega)
    have e2 : (if ruleFrom s 0 25 then inB s.size 1 24 else false) = ruleB s := by
      have : inB s.size 1 24 = false := by unfold inB; simp; omega
      unfold ruleB; rw [this]; simp
    rw [e2] at h1
    exact Ev.of (fun k => impl_isRule.mono_l k s 25 0) h1

def violB (a0 a1 a2 a3 a4 a5 : ByteArray) (l c : Int) : Bool :=
  decide (a0.size ≤ 100 ∧ a1.size ≤ 100 ∧ a2.size ≤ 100 ∧ a3.size ≤ 100) && (ruleB a4 && (decide ((a5.size : Int) ≤ 200) && (inB l 0 9999 && inB c 0 9999)))
theorem viol_impl (a0 a1 a2 a3 a4 a5 : ByteArray) (l c : Int) (b : Bool) : Ev (fun k => impl_ViolationOK.f k a0 a1 a2 a3 a4 a5 l c b) (violB a0 a1 a2 a3 a4 a5 l c) := by
  unfold impl_ViolationOK.f violB
  have hm : (mx (mx (mx (a0.size : Int) (a1.size : Int)) (a2.size : Int)) (a3.size : Int) ≤ 100) ↔ (a0.size ≤ 100 ∧ a1.size ≤ 100 ∧ a2.size ≤ 100 ∧ a3.size ≤ 100) := by
    unfold mx; (repeat' split) <;> omega
  by_cases h : a0.size ≤ 100 ∧ a1.size ≤ 100 ∧ a2.size ≤ 100 ∧ a3.size ≤ 100
  · simp only [if_pos (hm.2 h), decide_eq_true h, Bool.true_and]
    refine Ev.bind (rule_impl a4) ?_
    simp only [within_is, Option.bind_some]
    cases ruleB a4 with
    | false => simpa using Ev.now false
    | true =>
      by_cases h5 : (a5.size : Int) ≤ 200
      · simp only [if_true, if_pos h5, decide_eq_true h5, Bool.true_and]
        cases inB l 0 9999 <;> simpa using Ev.now _
      · simp only [if_true, if_neg h5, decide_eq_false h5, Bool.false_and, Bool.and_false]
        exact Ev.now false
  · simp only [if_neg (fun e => h (hm.1 e)), decide_eq_false h, Bool.false_and]
    exact Ev.now false
theorem viol_spec (a0 a1 a2 a3 a4 a5 : ByteArray) (l c : Int) (b : Bool) : Ev (fun k => spec_l05OK.f k a0 a1 a2 a3 a4 a5 l c b) (violB a0 a1 a2 a3 a4 a5 l c) := by
  unfold spec_l05OK.f
  have step : ∀ (i : Int) (x : ByteArray) (r : Bool), 0 ≤ i → i < 4 → rdOf ByteArray.empty [a0, a1, a2, a3] i = x →
      (x.size ≤ 100 → Ev (fun k => spec_l05OK.l0 k [a0, a1, a2, a3] (i + 1) a0 a1 a2 a3 a4 a5 l c b) r) → (¬ x.size ≤ 100 → r = false) →
      Ev (fun k => spec_l05OK.l0 k [a0, a1, a2, a3] i a0 a1 a2 a3 a4 a5 l c b) r := by
    intro i x r h0 h1 hx hy hn
    refine Ev.step (f := fun k => if (x.size : Int) > 100 then some false else spec_l05OK.l0 k [a0, a1, a2, a3] (i + 1) a0 a1 a2 a3 a4 a5 l c b) (fun k => ?_) ?_
    · rw [spec_l05OK.l0, if_pos (by simp only [List.length_cons, List.length_nil]; omega), if_pos h0, hx, wr (by omega) (by omega)]
    · by_cases h : x.size ≤ 100
      · simp only [if_neg (show ¬ (x.size : Int) > 100 by omega)]; exact hy h
      · simp only [if_pos (show (x.size : Int) > 100 by omega)]; rw [hn h]; exact Ev.now false
  have last : Ev (fun k => spec_l05OK.l0 k [a0, a1, a2, a3] 4 a0 a1 a2 a3 a4 a5 l c b) (ruleB a4 && (decide ((a5.size : Int) ≤ 200) && (inB l 0 9999 && inB c 0 9999))) := by
    refine Ev.step (f := fun k => (spec_l04Name.f k a4).bind fun t => if t = true then (if (a5.size : Int) ≤ 200 then some (inB l 0 9999 && inB c 0 9999) else some false) else some false) (fun k => ?_) ?_
    · rw [spec_l05OK.l0, if_neg (by simp)]
      simp only [in_is, Option.bind_some]
      congr 1
      funext t
      cases inB l 0 9999 <;> simp
    · refine Ev.bind (rule_spec a4) ?_
      cases ruleB a4 with
      | false => simpa using Ev.now false
      | true =>
        by_cases h5 : (a5.size : Int) ≤ 200
        · simpa [h5] using Ev.now _
        · simpa [h5] using Ev.now _
  unfold violB
  refine step 0 a0 _ (by omega) (by omega) rfl (fun h0 => ?_) (fun h => by simp [h])
  refine step 1 a1 _ (by omega) (by omega) rfl (fun h1 => ?_) (fun h => by simp [h])
  refine step 2 a2 _ (by omega) (by omega) rfl (fun h2 => ?_) (fun h => by simp [h])
  refine step 3 a3 _ (by omega) (by omega) rfl (fun h3 => ?_) (fun h => by simp [h])
  rw [decide_eq_true ⟨h0, h1, h2, h3⟩, Bool.true_and]
  exact last

def letterB (c : Int) : Bool := (decide (97 ≤ c) && decide (c ≤ 122)) || (decide (65 ≤ c) && decide (c ≤ 90)) || (c == 95)
def digitB (c : Int) : Bool := decide (48 ≤ c) && decide (c ≤ 57)
theorem letter_is (c : Int) : spec_l00Letter.f c = some (letterB c) := by
  unfold spec_l00Letter.f letterB
  by_cases a : 97 ≤ c <;> by_cases b : c ≤ 122 <;> by_cases d : 65 ≤ c <;> by_cases e : c ≤ 90 <;> first | (exfalso; omega) | simp [a, b, d, e]
theorem digit_is (c : Int) : spec_l00Digit.f c = some (digitB c) := by
  unfold spec_l00Digit.f digitB
  by_cases a : 48 ≤ c <;> simp [a]
theorem name_spec_step (k : Nat) (s : ByteArray) (i : Int) (h0 : 0 ≤ i) (h1 : i < (s.size : Int)) (h2 : i < 1000) :
    spec_l00Word.l0 (k + 1) s i = if letterB (bt s i) = true then spec_l00Word.l0 k s (i + 1) else if digitB (bt s i) = true then spec_l00Word.l0 k s (i + 1) else some false := by
  rw [spec_l00Word.l0, if_pos h1, if_pos h0, letter_is, digit_is, wr (by omega) (by omega)]
  simp only [Option.bind_some]
theorem name_impl_step (k : Nat) (s : ByteArray) (n i : Int) (h0 : 0 ≤ i) (h1 : i < n) (h3 : i < (s.size : Int)) (h2 : i < 1000) :
    impl_NameOK.l0 (k + 1) s n i = if letterB (bt s i) = true then impl_NameOK.l0 k s n (i + 1) else if i = 0 then some false else if digitB (bt s i) = true then impl_NameOK.l0 k s n (i + 1) else some false := by
  rw [impl_NameOK.l0, if_pos h1, if_pos h0, if_pos h3, wr (by omega) (by omega)]
  generalize bt s i = c
  generalize impl_NameOK.l0 k s n (i + 1) = R
  unfold letterB digitB
  by_cases a : 97 ≤ c <;> by_cases b : c ≤ 122 <;> by_cases d : 65 ≤ c <;> by_cases e : c ≤ 90 <;> by_cases f : c = 95 <;> first | (exfalso; omega) | skip
  all_goals
    by_cases x : c < 48 <;> by_cases y : c > 57 <;> first | (exfalso; omega) | simp [a, b, d, e, f, x, y, show (48 ≤ c) = ¬ (c < 48) by simp, show (c ≤ 57) = ¬ (c > 57) by simp]
theorem name_loops (s : ByteArray) (hs : s.size ≤ 12) (d : Nat) : ∀ i : Int, 1 ≤ i → i + d = s.size →
    ∃ r, spec_l00Word.l0 (d + 1) s i = some r ∧ impl_NameOK.l0 (d + 1) s s.size i = some r := by
  induction d with
  | zero =>
    intro i h0 h1
    rw [spec_l00Word.l0, impl_NameOK.l0, if_neg (by omega), if_neg (by omega)]
    exact ⟨_, rfl, rfl⟩
  | succ d ih =>
    intro i h0 h1
    rw [name_spec_step _ _ _ (by omega) (by omega) (by omega), name_impl_step _ _ _ _ (by omega) (by omega) (by omega) (by omega), if_neg (by omega : ¬ i = 0)]
    have z := ih (i + 1) (by omega) (by omega)
    split
    · exact z
    · split
      · exact z
      · exact ⟨_, rfl, rfl⟩
theorem name_same (s : ByteArray) : ∃ r, Ev (fun k => spec_l00Word.f k s) r ∧ Ev (fun k => impl_NameOK.f k s) r := by
  suffices h : ∃ r k, spec_l00Word.f k s = some r ∧ impl_NameOK.f k s = some r by
    obtain ⟨r, k, h1, h2⟩ := h
    exact ⟨r, Ev.of (spec_l00Word.mono s) h1, Ev.of (impl_NameOK.mono s) h2⟩
  by_cases h0 : (s.size : Int) < 1
  · refine ⟨false, 1, ?_, ?_⟩
    · unfold spec_l00Word.f; rw [if_pos h0]; simp [spec_l00Word.j0]
    · unfold impl_NameOK.f impl_within.f; rw [if_neg (by omega)]; simp
  · by_cases h1 : (s.size : Int) > 12
    · refine ⟨false, 1, ?_, ?_⟩
      · unfold spec_l00Word.f; rw [if_neg h0, if_pos h1]; simp [spec_l00Word.j0]
      · unfold impl_NameOK.f impl_within.f; rw [if_pos (by omega), decide_eq_false (by omega)]; simp
    · obtain ⟨d, hd⟩ : ∃ d : Nat, (1 : Int) + d = s.size := ⟨s.size - 1, by omega⟩
      obtain ⟨r, h2, h3⟩ := name_loops s (by omega) d 1 (by omega) hd
      cases hl : letterB (bt s 0) with
      | true =>
        refine ⟨r, d + 2, ?_, ?_⟩
        · unfold spec_l00Word.f
          rw [if_neg h0, if_neg h1, if_pos (by omega), letter_is, hl, Option.bind_some, spec_l00Word.j0]
          rw [if_neg (by decide)]
          rw [← h2]
        · unfold impl_NameOK.f impl_within.f
          rw [if_pos (by omega), decide_eq_true (by omega), Option.bind_some, if_pos rfl, name_impl_step _ _ _ _ (by omega) (by omega) (by omega) (by omega), hl, if_pos rfl]
          exact h3
      | false =>
        refine ⟨false, d + 2, ?_, ?_⟩
        · unfold spec_l00Word.f
          rw [if_neg h0, if_neg h1, if_pos (by omega), letter_is, hl, Option.bind_some, spec_l00Word.j0]
          rfl
        · unfold impl_NameOK.f impl_within.f
          rw [if_pos (by omega), decide_eq_true (by omega), Option.bind_some, if_pos rfl, name_impl_step _ _ _ _ (by omega) (by omega) (by omega) (by omega), hl]
          simp

theorem noBytes : (⟨#[]⟩ : ByteArray).toList = ([] : List UInt8) := by unfold ByteArray.toList ByteArray.toList.loop; rfl
def zeroV (a6 a7 a8 a9 a10 a11 : ByteArray) (l c : Int) (r : Bool) : Bool :=
  a6.toList == ([] : List UInt8) && (a7.toList == ([] : List UInt8) && (a8.toList == ([] : List UInt8) && (a9.toList == ([] : List UInt8) && (a10.toList == ([] : List UInt8) && (a11.toList == ([] : List UInt8) && (l == 0 && (c == 0 && !r)))))))
theorem zeroV_spec (a6 a7 a8 a9 a10 a11 : ByteArray) (l c : Int) (r : Bool) :
    (!(a6.toList == ([] : List UInt8)) || (!(a7.toList == ([] : List UInt8)) || (!(a8.toList == ([] : List UInt8)) || (!(a9.toList == ([] : List UInt8)) || (!(a10.toList == ([] : List UInt8)) || (!(a11.toList == ([] : List UInt8)) || (!(l == 0) || (!(c == 0) || r)))))))) = !zeroV a6 a7 a8 a9 a10 a11 l c r := by
  simp [zeroV, Bool.not_and]
theorem zeroV_impl (a6 a7 a8 a9 a10 a11 : ByteArray) (l c : Int) (r : Bool) :
    (([] : List UInt8) == a6.toList && (([] : List UInt8) == a7.toList && (([] : List UInt8) == a8.toList && (([] : List UInt8) == a9.toList && (([] : List UInt8) == a10.toList && (([] : List UInt8) == a11.toList && ((0 : Int) == l && ((0 : Int) == c && (false == r))))))))) = zeroV a6 a7 a8 a9 a10 a11 l c r := by
  unfold zeroV
  rw [BEq.comm (a := ([] : List UInt8)) (b := a6.toList), BEq.comm (a := ([] : List UInt8)) (b := a7.toList), BEq.comm (a := ([] : List UInt8)) (b := a8.toList), BEq.comm (a := ([] : List UInt8)) (b := a9.toList), BEq.comm (a := ([] : List UInt8)) (b := a10.toList), BEq.comm (a := ([] : List UInt8)) (b := a11.toList), BEq.comm (a := (0 : Int)) (b := l), BEq.comm (a := (0 : Int)) (b := c)]
  cases r <;> rfl
def eR3 (draw status : Int) (name : ByteArray) (lost nm six bad : Bool) : Bool :=
  if bad = true then false else if six = true then nm && (inB draw 0 1000000 && inB status 100 599) else name.toList == ([] : List UInt8) && (draw == 0 && (status == 0 && !lost))
theorem ev_j3 (kind draw status ticks : Int) (text name a6 a7 a8 a9 a10 a11 : ByteArray) (l c : Int) (r lost : Bool) {nm : Bool} (hn : Ev (fun k => spec_l00Word.f k name) nm) (six bad : Bool) :
    Ev (fun k => spec_l08Event.j3 k six bad kind draw status ticks text name a6 a7 a8 a9 a10 a11 l c r lost) (eR3 draw status name lost nm six bad) := by
  unfold eR3
  cases bad
  · cases six
    · simp only [Bool.false_eq_true, if_false]
      refine Ev.step (f := fun _ => some (name.toList == ([] : List UInt8) && (draw == 0 && (status == 0 && !lost)))) (fun k => ?_) (Ev.now _)
      rw [spec_l08Event.j3]
      simp only [Bool.false_eq_true, if_false]
      by_cases h1 : name.toList = ([] : List UInt8)
      · by_cases h2 : draw = 0
        · by_cases h3 : status = 0
          · simp [h1, h2, h3]
          · simp [h1, h2, h3]
        · simp [h1, h2]
      · simp [h1]
    · simp only [Bool.false_eq_true, if_false, if_true]
      refine Ev.step (f := fun k => (spec_l00Word.f k name).bind fun t => if t = true then some (inB draw 0 1000000 && inB status 100 599) else some false) (fun k => ?_) (Ev.bind hn ?_)
      · rw [spec_l08Event.j3]
        simp only [Bool.false_eq_true, if_false, if_true, in_is, Option.bind_some]
        congr 1
        funext t
        cases inB draw 0 1000000 <;> simp
      · cases nm
        · simp only [Bool.false_eq_true, if_false, Bool.false_and]; exact Ev.now _
        · simp only [if_true, Bool.true_and]; exact Ev.now _
  · simp only [if_true]
    exact Ev.step (f := fun _ => some false) (fun k => by rw [spec_l08Event.j3]; simp) (Ev.now _)
def eR2 (kind draw status ticks : Int) (name : ByteArray) (lost nm six bad : Bool) : Bool :=
  if bad = true then false else eR3 draw status name lost nm six (if kind = 5 then !inB ticks 1 1000 else ticks != 0)
theorem ev_j2 (kind draw status ticks : Int) (text name a6 a7 a8 a9 a10 a11 : ByteArray) (l c : Int) (r lost : Bool) {nm : Bool} (hn : Ev (fun k => spec_l00Word.f k name) nm) (six bad : Bool) :
    Ev (fun k => spec_l08Event.j2 k six bad kind draw status ticks text name a6 a7 a8 a9 a10 a11 l c r lost) (eR2 kind draw status ticks name lost nm six bad) := by
  unfold eR2
  cases bad
  · simp only [Bool.false_eq_true, if_false]
    refine Ev.step (f := fun k => spec_l08Event.j3 k six (if kind = 5 then !inB ticks 1 1000 else ticks != 0) kind draw status ticks text name a6 a7 a8 a9 a10 a11 l c r lost) (fun k => ?_) (ev_j3 kind draw status ticks text name a6 a7 a8 a9 a10 a11 l c r lost hn six _)
    rw [spec_l08Event.j2]
    simp only [Bool.false_eq_true, if_false]
    by_cases h : kind = 5
    · simp only [if_pos h, in_is, Option.bind_some]
      cases inB ticks 1 1000 <;> simp
    · simp only [if_neg h]
  · simp only [if_true]
    exact Ev.step (f := fun _ => some false) (fun k => by rw [spec_l08Event.j2]; simp) (Ev.now _)
def eR1 (kind draw status ticks : Int) (name : ByteArray) (lost nm six bad v z : Bool) : Bool :=
  if bad = true then false else eR2 kind draw status ticks name lost nm six (if kind = 4 then !v else !z)
theorem ev_j1 (kind draw status ticks : Int) (text name a6 a7 a8 a9 a10 a11 : ByteArray) (l c : Int) (r lost : Bool) {nm : Bool} (hn : Ev (fun k => spec_l00Word.f k name) nm) (six bad : Bool) :
    Ev (fun k => spec_l08Event.j1 k six bad kind draw status ticks text name a6 a7 a8 a9 a10 a11 l c r lost) (eR1 kind draw status ticks name lost nm six bad (violB a6 a7 a8 a9 a10 a11 l c) (zeroV a6 a7 a8 a9 a10 a11 l c r)) := by
  unfold eR1
  cases bad
  · simp only [Bool.false_eq_true, if_false]
    by_cases h : kind = 4
    · simp only [if_pos h]
      refine Ev.step (f := fun k => (spec_l05OK.f k a6 a7 a8 a9 a10 a11 l c r).bind fun t => if t = true then spec_l08Event.j2 k six false kind draw status ticks text name a6 a7 a8 a9 a10 a11 l c r lost else spec_l08Event.j2 k six true kind draw status ticks text name a6 a7 a8 a9 a10 a11 l c r lost) (fun k => ?_) (Ev.bind (viol_spec a6 a7 a8 a9 a10 a11 l c r) ?_)
      · rw [spec_l08Event.j1]
        simp only [Bool.false_eq_true, if_false, if_pos h]
      · cases violB a6 a7 a8 a9 a10 a11 l c
        · simp only [Bool.false_eq_true, if_false]; exact ev_j2 kind draw status ticks text name a6 a7 a8 a9 a10 a11 l c r lost hn six true
        · simp only [if_true]; exact ev_j2 kind draw status ticks text name a6 a7 a8 a9 a10 a11 l c r lost hn six false
    · simp only [if_neg h]
      refine Ev.step (f := fun k => spec_l08Event.j2 k six (!zeroV a6 a7 a8 a9 a10 a11 l c r) kind draw status ticks text name a6 a7 a8 a9 a10 a11 l c r lost) (fun k => ?_) (ev_j2 kind draw status ticks text name a6 a7 a8 a9 a10 a11 l c r lost hn six _)
      rw [spec_l08Event.j1]
      simp only [Bool.false_eq_true, if_false, if_neg h, zeroV_spec]
  · simp only [if_true]
    exact Ev.step (f := fun _ => some false) (fun k => by rw [spec_l08Event.j1]; simp) (Ev.now _)
theorem ev_j0 (kind draw status ticks : Int) (text name a6 a7 a8 a9 a10 a11 : ByteArray) (l c : Int) (r lost : Bool) {nm : Bool} (hn : Ev (fun k => spec_l00Word.f k name) nm) (t3 : Bool) :
    Ev (fun k => spec_l08Event.j0 k t3 kind draw status ticks text name a6 a7 a8 a9 a10 a11 l c r lost) (eR1 kind draw status ticks name lost nm (kind == 6) (if inB kind 1 6 = true then if t3 = true then decide ((text.size : Int) > 4096) else if text.toList = ([] : List UInt8) then decide ((text.size : Int) > 4096) else true else true) (violB a6 a7 a8 a9 a10 a11 l c) (zeroV a6 a7 a8 a9 a10 a11 l c r)) := by
  refine Ev.step (f := fun k => spec_l08Event.j1 k (kind == 6) (if inB kind 1 6 = true then if t3 = true then decide ((text.size : Int) > 4096) else if text.toList = ([] : List UInt8) then decide ((text.size : Int) > 4096) else true else true) kind draw status ticks text name a6 a7 a8 a9 a10 a11 l c r lost) (fun k => ?_) (ev_j1 kind draw status ticks text name a6 a7 a8 a9 a10 a11 l c r lost hn _ _)
  rw [spec_l08Event.j0]
  simp only [in_is, Option.bind_some]
  by_cases h1 : inB kind 1 6 = true
  · simp only [if_pos h1]
    by_cases h2 : t3 = true
    · simp only [if_pos h2]
    · simp only [if_neg h2]
      by_cases h3 : text.toList = ([] : List UInt8)
      · simp only [if_pos h3]
      · simp only [if_neg h3]
  · simp only [if_neg h1]
/-- What the reference comes to. -/
def eventB (kind draw status ticks : Int) (text name a6 a7 a8 a9 a10 a11 : ByteArray) (l c : Int) (r lost : Bool) (nm : Bool) : Bool :=
  eR1 kind draw status ticks name lost nm (kind == 6) (if inB kind 1 6 = true then if (kind == 1 || (kind == 2 || kind == 3)) = true then decide ((text.size : Int) > 4096) else if text.toList = ([] : List UInt8) then decide ((text.size : Int) > 4096) else true else true) (violB a6 a7 a8 a9 a10 a11 l c) (zeroV a6 a7 a8 a9 a10 a11 l c r)
theorem event_spec (kind draw status ticks : Int) (text name a6 a7 a8 a9 a10 a11 : ByteArray) (l c : Int) (r lost : Bool) {nm : Bool} (hn : Ev (fun k => spec_l00Word.f k name) nm) :
    Ev (fun k => spec_l08Event.f k kind draw status ticks text name a6 a7 a8 a9 a10 a11 l c r lost) (eventB kind draw status ticks text name a6 a7 a8 a9 a10 a11 l c r lost nm) := by
  refine Ev.congr (f := fun k => spec_l08Event.j0 k (kind == 1 || (kind == 2 || kind == 3)) kind draw status ticks text name a6 a7 a8 a9 a10 a11 l c r lost) (fun k => ?_) (ev_j0 kind draw status ticks text name a6 a7 a8 a9 a10 a11 l c r lost hn _)
  unfold spec_l08Event.f
  by_cases k1 : kind = 1
  · simp [k1]
  by_cases k2 : kind = 2
  · simp [k2]
  · have e1 : (kind == 1) = false := by simpa using k1
    have e2 : (kind == 2) = false := by simpa using k2
    simp only [if_neg k1, if_neg k2, e1, e2, Bool.false_or]
theorem text_empty {t : ByteArray} (h : t.toList = ([] : List UInt8)) : t.size = 0 := by
  rw [ByteArray.toList_eq] at h
  show t.data.size = 0
  rw [← Array.length_toList, h]; rfl
theorem nowB (n : Int) : impl_isNow.f n = some (inB n 0 1000000) := by unfold impl_isNow.f; simp [within_is]
theorem statusB (n : Int) : impl_isStatus.f n = some (inB n 100 599) := by unfold impl_isStatus.f; simp [within_is]
theorem event_impl (kind draw status ticks : Int) (text name a6 a7 a8 a9 a10 a11 : ByteArray) (l c : Int) (r lost : Bool) {nm : Bool} (hn : Ev (fun k => impl_NameOK.f k name) nm) :
    Ev (fun k => impl_EventOK.f k kind draw status ticks text name a6 a7 a8 a9 a10 a11 l c r lost) (eventB kind draw status ticks text name a6 a7 a8 a9 a10 a11 l c r lost nm) := by
  have E : (⟨#[]⟩ : ByteArray).toList = ([] : List UInt8) := noBytes
  refine Ev.congr (f := fun k => impl_EventOK.j0 k false kind (kind == 1 || (kind == 2 || kind == 3)) kind draw status ticks text name a6 a7 a8 a9 a10 a11 l c r lost kind 0 0 0 (⟨#[]⟩ : ByteArray) (⟨#[]⟩ : ByteArray) (⟨#[]⟩ : ByteArray) (⟨#[]⟩ : ByteArray) (⟨#[]⟩ : ByteArray) (⟨#[]⟩ : ByteArray) (⟨#[]⟩ : ByteArray) (⟨#[]⟩ : ByteArray) 0 0 false false) (fun k => ?_) ?_
  · unfold impl_EventOK.f
    by_cases k1 : kind = 1
    · simp [k1]
    by_cases k2 : kind = 2
    · simp [k2]
    · have e1 : (kind == 1) = false := by simpa using k1
      have e2 : (kind == 2) = false := by simpa using k2
      simp only [if_neg k1, if_neg k2, e1, e2, Bool.false_or]
  have c1 : (([] : List UInt8) == name.toList) = (name.toList == ([] : List UInt8)) := BEq.comm
  have c2 : (([] : List UInt8) == text.toList) = (text.toList == ([] : List UInt8)) := BEq.comm
  have c3 : ((0 : Int) == draw) = (draw == 0) := BEq.comm
  have c4 : ((0 : Int) == status) = (status == 0) := BEq.comm
  have c5 : ((0 : Int) == ticks) = (ticks == 0) := BEq.comm
  have c6 : (false == lost) = !lost := by cases lost <;> rfl
  have hsz : text.toList = ([] : List UInt8) → text.size = 0 := text_empty
  by_cases h3 : (kind == 1 || (kind == 2 || kind == 3)) = true
  · have hk : kind = 1 ∨ kind = 2 ∨ kind = 3 := by simpa using h3
    have e6 : (kind == 6) = false := by simp; omega
    have e4 : ¬ kind = 4 := by omega
    have e5 : ¬ kind = 5 := by omega
    have ein : inB kind 1 6 = true := by unfold inB; simp; omega
    rw [h3]
    refine Ev.step (f := fun _ => some (decide ((text.size : Int) ≤ 4096) && (draw == 0 && (status == 0 && (ticks == 0 && (name.toList == ([] : List UInt8) && (zeroV a6 a7 a8 a9 a10 a11 l c r && !lost))))))) (fun k => ?_) ?_
    · rw [impl_EventOK.j0]
      simp only [if_true, E, zeroV_impl, c1, c3, c4, c5, c6, beq_self_eq_true, Bool.true_and]
      by_cases hs : (text.size : Int) ≤ 4096
      · simp only [if_pos hs, decide_eq_true hs, Bool.true_and]
      · simp only [if_neg hs, decide_eq_false hs, Bool.false_and]
    · have : (decide ((text.size : Int) ≤ 4096) && (draw == 0 && (status == 0 && (ticks == 0 && (name.toList == ([] : List UInt8) && (zeroV a6 a7 a8 a9 a10 a11 l c r && !lost)))))) = eventB kind draw status ticks text name a6 a7 a8 a9 a10 a11 l c r lost nm := by
        unfold eventB eR1 eR2 eR3
        simp only [h3, ein, e6, if_true, if_neg e4, if_neg e5, Bool.false_eq_true, if_false]
        have hd : decide ((text.size : Int) > 4096) = !decide ((text.size : Int) ≤ 4096) := by
          by_cases hs : (text.size : Int) ≤ 4096
          · rw [decide_eq_true hs, decide_eq_false (by omega)]; rfl
          · rw [decide_eq_false hs, decide_eq_true (by omega)]; rfl
        have ht : (ticks != 0) = !(ticks == 0) := rfl
        rw [hd, ht]
        generalize decide ((text.size : Int) ≤ 4096) = x1
        generalize (draw == 0) = x2
        generalize (status == 0) = x3
        generalize (ticks == 0) = x4
        generalize (name.toList == ([] : List UInt8)) = x5
        generalize zeroV a6 a7 a8 a9 a10 a11 l c r = x6
        revert x1 x2 x3 x4 x5 x6 lost
        decide
      rw [← this]; exact Ev.now _
  have h3' : (kind == 1 || (kind == 2 || kind == 3)) = false := by simpa using h3
  have hk : ¬ (kind = 1 ∨ kind = 2 ∨ kind = 3) := by intro c; apply h3; simpa using c
  rw [h3']
  by_cases k4 : kind = 4
  · subst k4
    have ein : inB 4 1 6 = true := by decide
    refine Ev.step (f := fun k => (impl_ViolationOK.f k a6 a7 a8 a9 a10 a11 l c r).bind fun t => if t = true then some (draw == 0 && (status == 0 && (ticks == 0 && (text.toList == ([] : List UInt8) && (name.toList == ([] : List UInt8) && !lost))))) else some false) (fun k => ?_) (Ev.bind (viol_impl a6 a7 a8 a9 a10 a11 l c r) ?_)
    · rw [impl_EventOK.j0]
      simp only [Bool.false_eq_true, if_false, if_true, E, c1, c2, c3, c4, c5, c6, beq_self_eq_true, Bool.true_and]
    · unfold eventB eR1 eR2 eR3
      simp only [h3', ein, if_true, Bool.false_eq_true, if_false, show ((4 : Int) == 6) = false by decide, show ¬ ((4 : Int) = 5) by decide]
      have ht : (ticks != 0) = !(ticks == 0) := rfl
      rw [ht]
      by_cases hs : text.toList = ([] : List UInt8)
      · simp only [hs, hsz hs, if_true, beq_self_eq_true, Bool.true_and]
        generalize violB a6 a7 a8 a9 a10 a11 l c = v
        generalize (draw == 0) = x2
        generalize (status == 0) = x3
        generalize (ticks == 0) = x4
        generalize (name.toList == ([] : List UInt8)) = x5
        have : ∀ v x2 x3 x4 x5 lost : Bool, (if v = true then some (x2 && (x3 && (x4 && (x5 && !lost)))) else some false) = some (if decide (((0 : Nat) : Int) > 4096) = true then false else if (!v) = true then false else if (!x4) = true then false else (x5 && (x2 && (x3 && !lost)))) := by decide
        simp only [this]
        exact Ev.now _
      · have hb : (text.toList == ([] : List UInt8)) = false := by simpa using hs
        simp only [if_neg hs, hb, if_true, Bool.false_and, Bool.and_false, ite_self]
        exact Ev.now _
  by_cases k5 : kind = 5
  · subst k5
    have ein : inB 5 1 6 = true := by decide
    refine Ev.step (f := fun _ => if inB ticks 1 1000 = true then some (draw == 0 && (status == 0 && (text.toList == ([] : List UInt8) && (name.toList == ([] : List UInt8) && (zeroV a6 a7 a8 a9 a10 a11 l c r && !lost))))) else some false) (fun k => ?_) ?_
    · rw [impl_EventOK.j0]
      simp only [Bool.false_eq_true, if_false, if_true, E, within_is, Option.bind_some, zeroV_impl, c1, c2, c3, c4, c5, c6, beq_self_eq_true, Bool.true_and, show ¬ ((5 : Int) = 4) by decide]
    · unfold eventB eR1 eR2 eR3
      simp only [h3', ein, if_true, Bool.false_eq_true, if_false, show ((5 : Int) == 6) = false by decide, show ¬ ((5 : Int) = 4) by decide]
      by_cases hs : text.toList = ([] : List UInt8)
      · simp only [hs, hsz hs, if_true, beq_self_eq_true, Bool.true_and]
        generalize inB ticks 1 1000 = v
        generalize (draw == 0) = x2
        generalize (status == 0) = x3
        generalize zeroV a6 a7 a8 a9 a10 a11 l c r = x4
        generalize (name.toList == ([] : List UInt8)) = x5
        have : ∀ v x2 x3 x4 x5 lost : Bool, (if v = true then some (x2 && (x3 && (x5 && (x4 && !lost)))) else some false) = some (if decide (((0 : Nat) : Int) > 4096) = true then false else if (!x4) = true then false else if (!v) = true then false else (x5 && (x2 && (x3 && !lost)))) := by decide
        simp only [this]
        exact Ev.now _
      · have hb : (text.toList == ([] : List UInt8)) = false := by simpa using hs
        simp only [if_neg hs, hb, if_true, Bool.false_and, Bool.and_false, ite_self]
        exact Ev.now _
  by_cases k6 : kind = 6
  · subst k6
    have ein : inB 6 1 6 = true := by decide
    refine Ev.step (f := fun k => (impl_NameOK.f k name).bind fun t => if t = true then (if inB draw 0 1000000 = true then (if inB status 100 599 = true then some (ticks == 0 && (text.toList == ([] : List UInt8) && zeroV a6 a7 a8 a9 a10 a11 l c r)) else some false) else some false) else some false) (fun k => ?_) (Ev.bind hn ?_)
    · rw [impl_EventOK.j0]
      simp only [Bool.false_eq_true, if_false, if_true, E, nowB, statusB, Option.bind_some, zeroV_impl, c1, c2, c3, c4, c5, c6, beq_self_eq_true, Bool.true_and, show ¬ ((6 : Int) = 4) by decide, show ¬ ((6 : Int) = 5) by decide]
    · unfold eventB eR1 eR2 eR3
      simp only [h3', ein, if_true, Bool.false_eq_true, if_false, show ((6 : Int) == 6) = true by decide, show ¬ ((6 : Int) = 4) by decide, show ¬ ((6 : Int) = 5) by decide]
      have ht : (ticks != 0) = !(ticks == 0) := rfl
      rw [ht]
      by_cases hs : text.toList = ([] : List UInt8)
      · simp only [hs, hsz hs, if_true, beq_self_eq_true, Bool.true_and]
        generalize inB draw 0 1000000 = x2
        generalize inB status 100 599 = x3
        generalize zeroV a6 a7 a8 a9 a10 a11 l c r = x4
        generalize (ticks == 0) = x5
        have : ∀ v x2 x3 x4 x5 : Bool, (if v = true then (if x2 = true then (if x3 = true then some (x5 && x4) else some false) else some false) else some false) = some (if decide (((0 : Nat) : Int) > 4096) = true then false else if (!x4) = true then false else if (!x5) = true then false else (v && (x2 && x3))) := by decide
        simp only [this]
        exact Ev.now _
      · have hb : (text.toList == ([] : List UInt8)) = false := by simpa using hs
        simp only [if_neg hs, hb, if_true, Bool.false_and, Bool.and_false, ite_self]
        exact Ev.now _
  · have ein : inB kind 1 6 = false := by unfold inB; simp; omega
    refine Ev.step (f := fun _ => some false) (fun k => ?_) ?_
    · rw [impl_EventOK.j0]
      simp only [Bool.false_eq_true, if_false, if_neg k4, if_neg k5, if_neg k6]
    · unfold eventB eR1
      simp only [ein, Bool.false_eq_true, if_false, if_true]
      exact Ev.now _

theorem strOfNums_append (a b : List Int) : strOfNums (a ++ b) = strOfNums a ++ strOfNums b := by
  apply ByteArray.ext
  rw [ByteArray.data_append]
  apply Array.toList_inj.1
  simp [strOfNums]
theorem strOfNums_size (a : List Int) : (strOfNums a).size = a.length := by
  simp [strOfNums, ByteArray.size]
theorem bt_lt (s : ByteArray) (i : Int) (h : i.toNat < s.size) : bt s i = ((s[i.toNat]'h).toNat : Int) := by simp [bt, h]
theorem extract_one (s : ByteArray) (i : Int) (h0 : 0 ≤ i) (h1 : i < s.size) : s.extract i.toNat (i + 1).toNat = strOfNums [bt s i] := by
  have hl : i.toNat < s.size := by omega
  apply ByteArray.ext
  apply Array.toList_inj.1
  rw [ByteArray.data_extract, Array.toList_extract, List.extract_eq_take_drop, show (i + 1).toNat - i.toNat = 1 by omega]
  have hl' : i.toNat < s.data.toList.length := by simpa using hl
  rw [List.drop_eq_getElem_cons hl', List.take_succ_cons, List.take_zero, bt_lt s i hl]
  simp [strOfNums]
  rfl

/-- The decimal text of a number, as the library writes it. -/
def itoaB (n : Int) : ByteArray := ⟨(Lib.itoa n).toArray⟩
theorem itoa_is (n : Int) (h0 : -9223372036854775808 ≤ n) (h1 : n ≤ 9223372036854775807) : strconv_Itoa.f n = some (itoaB n) := by
  unfold strconv_Itoa.f itoaB
  rw [if_pos ⟨h0, h1⟩]
theorem itoaB_size (n : Int) (h0 : -9223372036854775808 ≤ n) (h1 : n ≤ 9223372036854775807) : (itoaB n).size ≤ 21 := by
  have := Lib.itoa_length_le n h0 h1
  simpa [itoaB, ByteArray.size] using this
theorem bytes_join (a b : List UInt8) : (⟨(a ++ b).toArray⟩ : ByteArray) = (⟨a.toArray⟩ : ByteArray) ++ (⟨b.toArray⟩ : ByteArray) := by
  apply ByteArray.ext
  rw [ByteArray.data_append]
  simp
theorem nDigits_mono (u : Nat) (h : u < 18446744073709551616) : (Lib.decDigits u).length ≤ 20 := by
  rw [Lib.decDigits_length]; exact Lib.nDigits_le20 u h
theorem digits_nat : ∀ (u : Nat), u ≤ 9223372036854775807 → Ev (fun k => spec_l00Digits.f k (u : Int)) (⟨(Lib.decDigits u).toArray⟩ : ByteArray) := by
  intro u
  induction u using Nat.strongRecOn with
  | _ u ih =>
  intro hu
  by_cases h : u < 10
  · refine Ev.step (f := fun _ => some (⟨(Lib.decDigits u).toArray⟩ : ByteArray)) (fun k => ?_) (Ev.now _)
    rw [spec_l00Digits.f, if_neg (by omega), if_neg (by omega), if_pos (by omega), wr (by omega) (by omega), Lib.decDigits_one h]
    have e : ((48 + (u : Int)) % 256).toNat = 48 + u := by omega
    simp [strOfNums, e]
  · have hd : Int.tdiv (u : Int) 10 = ((u / 10 : Nat) : Int) := by rw [Int.tdiv_eq_ediv_of_nonneg (by omega)]; omega
    have hm : Int.tmod (u : Int) 10 = ((u % 10 : Nat) : Int) := by rw [Int.tmod_eq_emod_of_nonneg (by omega)]; omega
    have hl := nDigits_mono (u / 10) (by omega)
    refine Ev.step (f := fun k => (spec_l00Digits.f k ((u / 10 : Nat) : Int)).bind fun t => if t.size + 1 ≤ 9223372036854775807 then some (t ++ (⟨#[UInt8.ofNat (48 + u % 10)]⟩ : ByteArray)) else none) (fun k => ?_) (Ev.bind (ih (u / 10) (by omega) (by omega)) ?_)
    · rw [spec_l00Digits.f, if_neg (by omega), if_neg (by omega), if_neg (by omega), hd, hm, wr (x := ((u / 10 : Nat) : Int)) (by omega) (by omega), wr (x := 48 + ((u % 10 : Nat) : Int)) (by omega) (by omega)]
      have e : ((48 + ((u % 10 : Nat) : Int)) % 256).toNat = 48 + u % 10 := by omega
      have e2 : strOfNums [(48 + ((u % 10 : Nat) : Int)) % 256] = (⟨#[UInt8.ofNat (48 + u % 10)]⟩ : ByteArray) := by simp only [strOfNums, List.map_cons, List.map_nil, e]
      simp only [Option.bind_some, e2]
      rfl
    · have hs : (⟨(Lib.decDigits (u / 10)).toArray⟩ : ByteArray).size + 1 ≤ 9223372036854775807 := by simp only [ByteArray.size, List.size_toArray]; omega
      simp only [if_pos hs]
      have : (⟨(Lib.decDigits u).toArray⟩ : ByteArray) = (⟨(Lib.decDigits (u / 10)).toArray⟩ : ByteArray) ++ (⟨#[UInt8.ofNat (48 + u % 10)]⟩ : ByteArray) := by
        conv => lhs; rw [Lib.decDigits, dif_neg h]
        exact bytes_join _ _
      rw [this]
      exact Ev.now _
theorem digits_is (n : Int) (h0 : -9223372036854775808 ≤ n) (h1 : n ≤ 9223372036854775807) : Ev (fun k => spec_l00Digits.f k n) (itoaB n) := by
  unfold itoaB
  by_cases hm : n = -9223372036854775808
  · subst hm
    refine Ev.step (f := fun _ => some (⟨(Lib.itoa (-9223372036854775808)).toArray⟩ : ByteArray)) (fun k => ?_) (Ev.now _)
    rw [spec_l00Digits.f, if_pos rfl]
    have : Lib.itoa (-9223372036854775808) = [45, 57, 50, 50, 51, 51, 55, 50, 48, 51, 54, 56, 53, 52, 55, 55, 53, 56, 48, 56] := by
      unfold Lib.itoa
      rw [if_pos (by omega)]
      simp [Lib.decDigits]
    rw [this]
  by_cases hn : n < 0
  · obtain ⟨u, rfl⟩ : ∃ u : Nat, n = -(u : Int) := ⟨n.natAbs, by omega⟩
    rw [Lib.itoa_neg u (by omega)]
    refine Ev.step (f := fun k => (spec_l00Digits.f k (u : Int)).bind fun t => if 1 + t.size ≤ 9223372036854775807 then some ((⟨#[45]⟩ : ByteArray) ++ t) else none) (fun k => ?_) (Ev.bind (digits_nat u (by omega)) ?_)
    · rw [spec_l00Digits.f, if_neg hm, if_pos hn, Int.neg_neg, wr (by omega) (by omega)]
    · have hl := nDigits_mono u (by omega)
      have hs : 1 + (⟨(Lib.decDigits u).toArray⟩ : ByteArray).size ≤ 9223372036854775807 := by simp only [ByteArray.size, List.size_toArray]; omega
      simp only [if_pos hs]
      have : (⟨(45 :: Lib.decDigits u).toArray⟩ : ByteArray) = (⟨#[45]⟩ : ByteArray) ++ (⟨(Lib.decDigits u).toArray⟩ : ByteArray) := bytes_join [45] _
      rw [this]
      exact Ev.now _
  · obtain ⟨u, rfl⟩ : ∃ u : Nat, n = u := ⟨n.toNat, by omega⟩
    rw [Lib.itoa_nonneg]
    exact digits_nat u (by omega)
theorem decimal_is (n : Int) (h0 : -9223372036854775808 ≤ n) (h1 : n ≤ 9223372036854775807) : impl_decimal.f n = some (itoaB n) := by
  unfold impl_decimal.f
  rw [itoa_is n h0 h1]; rfl
theorem wf_range {n : Int} (h : (Lit.int .i64 n).wf = true) : -9223372036854775808 ≤ n ∧ n ≤ 9223372036854775807 := by
  have e : IntKind.i64.min = -9223372036854775808 := by decide
  have h' : IntKind.i64.min ≤ n ∧ n ≤ 9223372036854775807 := by simpa [Lit.wf] using h
  rw [e] at h'
  exact h'

/-! Bytes of a text, one behind the other. -/
theorem size_len (s : ByteArray) : s.size = s.data.toList.length := by rw [Array.length_toList]; rfl
theorem drop_cons {s : ByteArray} {i : Nat} {b : UInt8} {l : List UInt8} (h : s.data.toList.drop i = b :: l) : i < s.size ∧ bt s (i : Int) = (b.toNat : Int) ∧ s.data.toList.drop (i + 1) = l := by
  have hi : i < s.data.toList.length := by
    rcases Nat.lt_or_ge i s.data.toList.length with h1 | h1
    · exact h1
    · rw [List.drop_eq_nil_of_le h1] at h; cases h
  rw [List.drop_eq_getElem_cons hi] at h
  injection h with h1 h2
  have hs : i < s.size := by rw [size_len]; exact hi
  refine ⟨hs, ?_, h2⟩
  rw [← h1]
  have e : (i : Int).toNat = i := by omega
  simp only [bt, e, dif_pos hs]
  rfl
theorem drop_nil {s : ByteArray} {i : Nat} (h : s.data.toList.drop i = []) : s.size ≤ i := by
  rw [size_len]
  exact List.drop_eq_nil_iff.1 h
def goodB (b : UInt8) : Bool := decide (33 ≤ b.toNat) && decide (b.toNat ≤ 126)
def onlyB (l W : List UInt8) : Bool := l.all fun b => goodB b && !W.contains b
theorem find_spec (wo : ByteArray) (c : UInt8) (hw : wo.size ≤ 1000) : ∀ (l : List UInt8) (i : Nat), wo.data.toList.drop i = l → ∃ t, Ev (fun k => spec_l01Find.l0 k wo (c.toNat : Int) (i : Int)) t ∧ (t < (wo.size : Int) ↔ l.contains c = true)
  | [], i, h => by
    have := drop_nil h
    exact ⟨(wo.size : Int), Ev.step (f := fun _ => some (wo.size : Int)) (fun k => by rw [spec_l01Find.l0, if_neg (by omega)]) (Ev.now _), by simp⟩
  | b :: l, i, h => by
    obtain ⟨h1, h2, h3⟩ := drop_cons h
    by_cases e : b = c
    · subst e
      refine ⟨(i : Int), Ev.step (f := fun _ => some (i : Int)) (fun k => by rw [spec_l01Find.l0, if_pos (by omega), if_pos (by omega), if_pos h2]) (Ev.now _), ?_⟩
      simp; omega
    · obtain ⟨t, ht, hi⟩ := find_spec wo c hw l (i + 1) h3
      refine ⟨t, Ev.step (f := fun k => spec_l01Find.l0 k wo (c.toNat : Int) ((i + 1 : Nat) : Int)) (fun k => ?_) ht, ?_⟩
      · have hne : ¬ bt wo (i : Int) = (c.toNat : Int) := by
          rw [h2]; intro hh; apply e; apply UInt8.toNat_inj.1; omega
        rw [spec_l01Find.l0, if_pos (by omega), if_pos (by omega), if_neg hne, wr (by omega) (by omega)]; rfl
      · rw [hi]
        have : (b :: l).contains c = l.contains c := by
          rw [List.contains_cons]
          have : (c == b) = false := by rw [beq_eq_false_iff_ne]; exact fun hh => e hh.symm
          rw [this, Bool.false_or]
        rw [this]
theorem only_loop (s wo : ByteArray) (hs : s.size ≤ 2000000) (hw : wo.size ≤ 1000) : ∀ (l : List UInt8) (i : Nat), s.data.toList.drop i = l → Ev (fun k => spec_l01Only.l0 k s wo (i : Int)) (onlyB l wo.data.toList)
  | [], i, h => by
    have := drop_nil h
    exact Ev.step (f := fun _ => some true) (fun k => by rw [spec_l01Only.l0, if_neg (by omega)]) (Ev.now _)
  | b :: l, i, h => by
    obtain ⟨h1, h2, h3⟩ := drop_cons h
    have e0 : onlyB (b :: l) wo.data.toList = ((goodB b && !wo.data.toList.contains b) && onlyB l wo.data.toList) := by simp [onlyB]
    by_cases c1 : b.toNat < 33
    · rw [show onlyB (b :: l) wo.data.toList = false by rw [e0]; simp [goodB]; omega]
      exact Ev.step (f := fun _ => some false) (fun k => by rw [spec_l01Only.l0, if_pos (by omega), if_pos (by omega), if_pos (by omega)]) (Ev.now _)
    by_cases c2 : b.toNat > 126
    · rw [show onlyB (b :: l) wo.data.toList = false by rw [e0]; simp [goodB]; omega]
      exact Ev.step (f := fun _ => some false) (fun k => by rw [spec_l01Only.l0, if_pos (by omega), if_pos (by omega), if_neg (by omega), if_pos (by omega)]) (Ev.now _)
    have hg : goodB b = true := by simp [goodB]; omega
    obtain ⟨t, ht, hi⟩ := find_spec wo b hw wo.data.toList 0 (by simp)
    refine Ev.step (f := fun k => (spec_l01Find.f k wo (bt s (i : Int))).bind fun t => if t < (wo.size : Int) then some false else spec_l01Only.l0 k s wo ((i + 1 : Nat) : Int)) (fun k => ?_) (Ev.bind (show Ev (fun k => spec_l01Find.f k wo (bt s (i : Int))) t from ?_) ?_)
    · rw [spec_l01Only.l0, if_pos (by omega), if_pos (by omega), if_neg (by omega), if_neg (by omega), wr (by omega) (by omega)]; rfl
    · unfold spec_l01Find.f; rw [h2]; exact ht
    · by_cases hc : wo.data.toList.contains b = true
      · simp only [if_pos (hi.2 hc)]
        rw [show onlyB (b :: l) wo.data.toList = false by rw [e0, hc]; simp]
        exact Ev.now _
      · have hc' : wo.data.toList.contains b = false := by simpa using hc
        simp only [if_neg (fun x => hc (hi.1 x))]
        rw [show onlyB (b :: l) wo.data.toList = onlyB l wo.data.toList by rw [e0, hg, hc']; simp]
        exact only_loop s wo hs hw l (i + 1) h3
theorem only_spec (s wo : ByteArray) (hs : s.size ≤ 2000000) (hw : wo.size ≤ 1000) : Ev (fun k => spec_l01Only.f k s wo) (onlyB s.data.toList wo.data.toList) := by
  unfold spec_l01Only.f
  exact only_loop s wo hs hw s.data.toList 0 (by simp)

theorem shown_loop (s : ByteArray) (hs : s.size ≤ 20000000) : ∀ (l : List UInt8) (i : Nat), s.data.toList.drop i = l → Ev (fun k => impl_areShown.l0 k s (s.size : Int) (i : Int)) (l.all goodB)
  | [], i, h => by
    have := drop_nil h
    exact Ev.step (f := fun _ => some true) (fun k => by rw [impl_areShown.l0, if_neg (by omega)]) (Ev.now _)
  | b :: l, i, h => by
    obtain ⟨h1, h2, h3⟩ := drop_cons h
    have hb : b.toNat < 256 := b.toNat_lt
    have hg : inB (b.toNat : Int) 33 126 = goodB b := by unfold inB goodB; congr 1 <;> simp <;> omega
    refine Ev.step (f := fun k => if goodB b = true then impl_areShown.l0 k s (s.size : Int) ((i + 1 : Nat) : Int) else some false) (fun k => ?_) ?_
    · rw [impl_areShown.l0, if_pos (by omega), if_pos (by omega), if_pos (by omega), h2, wr (x := (b.toNat : Int)) (by omega) (by omega), within_is, hg, wr (x := (i : Int) + 1) (by omega) (by omega)]; rfl
    · rw [List.all_cons]
      cases goodB b
      · simp only [Bool.false_eq_true, if_false, Bool.false_and]; exact Ev.now _
      · simp only [if_true, Bool.true_and]; exact shown_loop s hs l (i + 1) h3
theorem shown_impl (s : ByteArray) (hs : s.size ≤ 20000000) : Ev (fun k => impl_areShown.f k s) (s.data.toList.all goodB) := by
  unfold impl_areShown.f
  exact shown_loop s hs s.data.toList 0 (by simp)

theorem toList_data (s : ByteArray) : s.toList = s.data.toList := ByteArray.toList_eq s
theorem b_assoc (a b c : ByteArray) : a ++ b ++ c = a ++ (b ++ c) := by
  apply ByteArray.ext
  simp only [ByteArray.data_append, Array.append_assoc]
theorem szV6 {b0 b1 b2 b3 b4 b5 : ByteArray} {l c : Int} {r : Bool} {left t : Int} (s0 : b0.size ≤ 9223372036854775807) (s1 : b1.size ≤ 9223372036854775807) (s2 : b2.size ≤ 9223372036854775807) (s3 : b3.size ≤ 9223372036854775807) (s4 : b4.size ≤ 9223372036854775807) (s5 : b5.size ≤ 9223372036854775807)
    (h0 : 0 ≤ left) (h1 : left ≤ 1048576) (h : laws_szViolation.f b0 b1 b2 b3 b4 b5 l c r left = some t) (ht : 0 ≤ t) : b0.size ≤ 1048576 ∧ b1.size ≤ 1048576 ∧ b2.size ≤ 1048576 ∧ b3.size ≤ 1048576 ∧ b4.size ≤ 1048576 ∧ b5.size ≤ 1048576 := by
  unfold laws_szViolation.f at h
  have bad : ∀ {t : Int}, 0 ≤ t → some (-1 : Int) = some t → False := fun h e => by injection e with e; omega
  rw [wr (x := left - (b0.size : Int)) (by omega) (by omega)] at h
  by_cases n0 : left - (b0.size : Int) < 0
  · rw [if_pos n0] at h; exact (bad ht h).elim
  rw [if_neg n0, wr (x := left - (b0.size : Int) - (b1.size : Int)) (by omega) (by omega)] at h
  by_cases n1 : left - (b0.size : Int) - (b1.size : Int) < 0
  · rw [if_pos n1] at h; exact (bad ht h).elim
  rw [if_neg n1, wr (x := left - (b0.size : Int) - (b1.size : Int) - (b2.size : Int)) (by omega) (by omega)] at h
  by_cases n2 : left - (b0.size : Int) - (b1.size : Int) - (b2.size : Int) < 0
  · rw [if_pos n2] at h; exact (bad ht h).elim
  rw [if_neg n2, wr (x := left - (b0.size : Int) - (b1.size : Int) - (b2.size : Int) - (b3.size : Int)) (by omega) (by omega)] at h
  by_cases n3 : left - (b0.size : Int) - (b1.size : Int) - (b2.size : Int) - (b3.size : Int) < 0
  · rw [if_pos n3] at h; exact (bad ht h).elim
  rw [if_neg n3, wr (x := left - (b0.size : Int) - (b1.size : Int) - (b2.size : Int) - (b3.size : Int) - (b4.size : Int)) (by omega) (by omega)] at h
  by_cases n4 : left - (b0.size : Int) - (b1.size : Int) - (b2.size : Int) - (b3.size : Int) - (b4.size : Int) < 0
  · rw [if_pos n4] at h; exact (bad ht h).elim
  rw [if_neg n4, wr (x := left - (b0.size : Int) - (b1.size : Int) - (b2.size : Int) - (b3.size : Int) - (b4.size : Int) - (b5.size : Int)) (by omega) (by omega)] at h
  by_cases n5 : left - (b0.size : Int) - (b1.size : Int) - (b2.size : Int) - (b3.size : Int) - (b4.size : Int) - (b5.size : Int) < 0
  · rw [if_pos n5] at h; exact (bad ht h).elim
  omega
theorem szE {kind draw status ticks : Int} {text name a6 a7 a8 a9 a10 a11 : ByteArray} {l c : Int} {r lost : Bool} {t : Int} (s4 : text.size ≤ 9223372036854775807) (s5 : name.size ≤ 9223372036854775807) (s6 : a6.size ≤ 9223372036854775807) (s7 : a7.size ≤ 9223372036854775807) (s8 : a8.size ≤ 9223372036854775807) (s9 : a9.size ≤ 9223372036854775807) (s10 : a10.size ≤ 9223372036854775807) (s11 : a11.size ≤ 9223372036854775807)
    (h : laws_szEvent.f kind draw status ticks text name a6 a7 a8 a9 a10 a11 l c r lost 1048576 = some t) (ht : 0 ≤ t) : text.size ≤ 1048576 ∧ name.size ≤ 1048576 ∧ a6.size ≤ 1048576 ∧ a7.size ≤ 1048576 ∧ a8.size ≤ 1048576 ∧ a9.size ≤ 1048576 ∧ a10.size ≤ 1048576 ∧ a11.size ≤ 1048576 := by
  unfold laws_szEvent.f at h
  have bad : ∀ {t : Int}, 0 ≤ t → some (-1 : Int) = some t → False := fun h e => by injection e with e; omega
  rw [wr (x := 1048576 - (text.size : Int)) (by omega) (by omega)] at h
  by_cases n0 : 1048576 - (text.size : Int) < 0
  · rw [if_pos n0] at h; exact (bad ht h).elim
  rw [if_neg n0, wr (x := 1048576 - (text.size : Int) - (name.size : Int)) (by omega) (by omega)] at h
  by_cases n1 : 1048576 - (text.size : Int) - (name.size : Int) < 0
  · rw [if_pos n1] at h; exact (bad ht h).elim
  rw [if_neg n1] at h
  obtain ⟨t', e, h⟩ := Option.bind_eq_some_iff.1 h
  by_cases n2 : t' < 0
  · rw [if_pos n2] at h; exact (bad ht h).elim
  obtain ⟨z0, z1, z2, z3, z4, z5⟩ := szV6 s6 s7 s8 s9 s10 s11 (by omega) (by omega) e (by omega)
  exact ⟨by omega, by omega, z0, z1, z2, z3, z4, z5⟩
theorem only_none (l : List UInt8) : onlyB l ([] : List UInt8) = l.all goodB := by
  unfold onlyB
  congr 1
  funext b
  simp
section
variable (a6 a7 a8 a9 a10 a11 : ByteArray) (l c : Int) (r : Bool)
/-- The two loops from a place on come to one answer. -/
def vtP (i : Int) (acc : ByteArray) : Prop := ∃ R : ByteArray × Bool, Ev (fun k => spec_l13Violation.l0 k acc [a6, a7, a8, a9] i a6 a7 a8 a9 a10 a11 l c r) R ∧
  Ev (fun k => impl_eventText.l0 k (if r = true then (⟨#[121, 101, 115]⟩ : ByteArray) else (⟨#[110, 111]⟩ : ByteArray)) acc [a6, a7, a8, a9] 4 i a6 a7 a8 a9 a10 a11 l c r) R
theorem vt_last (acc : ByteArray) (ha : acc.size ≤ 100000000) (hs : a11.size ≤ 1048576) : vtP a6 a7 a8 a9 a10 a11 l c r 4 acc := by
  have y3 : (⟨#[121, 101, 115]⟩ : ByteArray).size = 3 := rfl
  have y2 : (⟨#[110, 111]⟩ : ByteArray).size = 2 := rfl
  have y1 : (⟨#[32]⟩ : ByteArray).size = 1 := rfl
  have y5 : (⟨#[32, 121, 101, 115, 32]⟩ : ByteArray).size = 5 := rfl
  have y4 : (⟨#[32, 110, 111, 32]⟩ : ByteArray).size = 4 := rfl
  cases r with
  | true =>
    refine ⟨((acc ++ (⟨#[32, 121, 101, 115, 32]⟩ : ByteArray)) ++ a11, true), ?_, ?_⟩
    · refine Ev.step (f := fun _ => some ((acc ++ (⟨#[32, 121, 101, 115, 32]⟩ : ByteArray)) ++ a11, true)) (fun k => ?_) (Ev.now _)
      rw [spec_l13Violation.l0, if_neg (by simp), if_pos rfl, if_pos (by omega), if_pos (by rw [ByteArray.size_append, y5]; omega)]
    · refine Ev.step (f := fun _ => some ((acc ++ (⟨#[32, 121, 101, 115, 32]⟩ : ByteArray)) ++ a11, true)) (fun k => ?_) (Ev.now _)
      rw [impl_eventText.l0, if_neg (by omega), if_pos (by omega), if_pos rfl, if_pos (by rw [ByteArray.size_append, y1, y3]; omega), if_pos (by simp only [ByteArray.size_append, y1, y3]; omega), if_pos (by simp only [ByteArray.size_append, y1, y3]; omega), b_assoc acc, b_assoc acc]
      rfl
  | false =>
    refine ⟨((acc ++ (⟨#[32, 110, 111, 32]⟩ : ByteArray)) ++ a11, true), ?_, ?_⟩
    · refine Ev.step (f := fun _ => some ((acc ++ (⟨#[32, 110, 111, 32]⟩ : ByteArray)) ++ a11, true)) (fun k => ?_) (Ev.now _)
      rw [spec_l13Violation.l0, if_neg (by simp), if_neg Bool.false_ne_true, if_pos (by omega), if_pos (by rw [ByteArray.size_append, y4]; omega)]
    · refine Ev.step (f := fun _ => some ((acc ++ (⟨#[32, 110, 111, 32]⟩ : ByteArray)) ++ a11, true)) (fun k => ?_) (Ev.now _)
      rw [impl_eventText.l0, if_neg (by omega), if_pos (by omega), if_neg Bool.false_ne_true, if_pos (by rw [ByteArray.size_append, y1, y2]; omega), if_pos (by simp only [ByteArray.size_append, y1, y2]; omega), if_pos (by simp only [ByteArray.size_append, y1, y2]; omega), b_assoc acc, b_assoc acc]
      rfl
theorem vt_step (i : Int) (x acc : ByteArray) (h0 : 0 ≤ i) (h1 : i < 4) (hx : rdOf ByteArray.empty [a6, a7, a8, a9] i = x) (sx : x.size ≤ 1048576) (ha : acc.size ≤ 50000000)
    (hn : ∀ w : ByteArray, w.size ≤ 1048576 → vtP a6 a7 a8 a9 a10 a11 l c r (i + 1) (acc ++ ((⟨#[32]⟩ : ByteArray) ++ w))) : vtP a6 a7 a8 a9 a10 a11 l c r i acc := by
  have y1 : (⟨#[32]⟩ : ByteArray).size = 1 := rfl
  have yd : (⟨#[45]⟩ : ByteArray).size = 1 := rfl
  have len : i < (([a6, a7, a8, a9] : List ByteArray).length : Int) := by simp only [List.length_cons, List.length_nil]; omega
  have sh := shown_impl x (by omega)
  by_cases e : x.toList = ([] : List UInt8)
  · obtain ⟨R, hs, hi⟩ := hn (⟨#[45]⟩ : ByteArray) (by rw [yd]; omega)
    have d : ¬ x.toList = ([45] : List UInt8) := by rw [e]; simp
    have e' : x.data.toList = [] := by rw [← toList_data]; exact e
    rw [e'] at sh
    refine ⟨R, ?_, ?_⟩
    · refine Ev.step (f := fun k => spec_l13Violation.l0 k (acc ++ ((⟨#[32]⟩ : ByteArray) ++ (⟨#[45]⟩ : ByteArray))) [a6, a7, a8, a9] (i + 1) a6 a7 a8 a9 a10 a11 l c r) (fun k => ?_) hs
      rw [spec_l13Violation.l0, if_pos len, if_pos h0, hx]
      unfold spec_l13Word.f
      rw [if_pos e]
      simp only [Option.bind_some, if_true]
      rw [if_pos (by rw [yd]; omega), if_pos (by simp only [ByteArray.size_append, y1, yd]; omega), wr (x := i + 1) (by omega) (by omega)]
    · refine Ev.step (f := fun k => (impl_areShown.f k x).bind fun t => if t = true then impl_eventText.l0 k (if r = true then (⟨#[121, 101, 115]⟩ : ByteArray) else (⟨#[110, 111]⟩ : ByteArray)) (acc ++ ((⟨#[32]⟩ : ByteArray) ++ (⟨#[45]⟩ : ByteArray))) [a6, a7, a8, a9] 4 (i + 1) a6 a7 a8 a9 a10 a11 l c r else some ((⟨#[]⟩ : ByteArray), false)) (fun k => ?_) (Ev.bind sh (by simp only [List.all_nil, if_true]; exact hi))
      rw [impl_eventText.l0, if_pos h1, if_pos h0, if_pos len, hx, if_neg d]
      unfold impl_dash.f
      simp only [if_pos e, Option.bind_some]
      rw [if_pos (by rw [yd]; omega), if_pos (by simp only [ByteArray.size_append, y1, yd]; omega), wr (x := i + 1) (by omega) (by omega)]
  by_cases d : x.toList = ([45] : List UInt8)
  · refine ⟨((⟨#[]⟩ : ByteArray), false), ?_, ?_⟩
    · refine Ev.step (f := fun _ => some ((⟨#[]⟩ : ByteArray), false)) (fun k => ?_) (Ev.now _)
      rw [spec_l13Violation.l0, if_pos len, if_pos h0, hx]
      unfold spec_l13Word.f
      rw [if_neg e, if_pos d]
      simp only [Option.bind_some, Bool.false_eq_true, if_false]
    · refine Ev.step (f := fun _ => some ((⟨#[]⟩ : ByteArray), false)) (fun k => ?_) (Ev.now _)
      rw [impl_eventText.l0, if_pos h1, if_pos h0, if_pos len, hx, if_pos d]
  have ow := only_spec x (⟨#[]⟩ : ByteArray) (by omega) (by show (0 : Nat) ≤ 1000; omega)
  have nn : (⟨#[]⟩ : ByteArray).data.toList = ([] : List UInt8) := rfl
  rw [nn, only_none] at ow
  have sw : Ev (fun k => spec_l13Word.f k x) (x, x.data.toList.all goodB) := by
    unfold spec_l13Word.f
    simp only [if_neg e, if_neg d]
    exact Ev.bind ow (Ev.now _)
  have si : ∀ k, spec_l13Violation.l0 (k + 1) acc [a6, a7, a8, a9] i a6 a7 a8 a9 a10 a11 l c r = (spec_l13Word.f k x).bind fun bt => if bt.2 = true then (if 1 + bt.1.size ≤ 9223372036854775807 then (if acc.size + ((⟨#[32]⟩ : ByteArray) ++ bt.1).size ≤ 9223372036854775807 then spec_l13Violation.l0 k (acc ++ ((⟨#[32]⟩ : ByteArray) ++ bt.1)) [a6, a7, a8, a9] (i + 1) a6 a7 a8 a9 a10 a11 l c r else none) else none) else some ((⟨#[]⟩ : ByteArray), false) := fun k => by
    rw [spec_l13Violation.l0, if_pos len, if_pos h0, hx, wr (x := i + 1) (by omega) (by omega)]
  have ii : ∀ k, impl_eventText.l0 (k + 1) (if r = true then (⟨#[121, 101, 115]⟩ : ByteArray) else (⟨#[110, 111]⟩ : ByteArray)) acc [a6, a7, a8, a9] 4 i a6 a7 a8 a9 a10 a11 l c r = (impl_areShown.f k x).bind fun t => if t = true then impl_eventText.l0 k (if r = true then (⟨#[121, 101, 115]⟩ : ByteArray) else (⟨#[110, 111]⟩ : ByteArray)) (acc ++ ((⟨#[32]⟩ : ByteArray) ++ x)) [a6, a7, a8, a9] 4 (i + 1) a6 a7 a8 a9 a10 a11 l c r else some ((⟨#[]⟩ : ByteArray), false) := fun k => by
    rw [impl_eventText.l0, if_pos h1, if_pos h0, if_pos len, hx, if_neg d]
    unfold impl_dash.f
    simp only [if_neg e, Option.bind_some]
    rw [if_pos (by omega), if_pos (by simp only [ByteArray.size_append, y1]; omega), wr (x := i + 1) (by omega) (by omega)]
  cases g : x.data.toList.all goodB with
  | true =>
    rw [g] at sh sw
    obtain ⟨R, hs, hi⟩ := hn x (by omega)
    refine ⟨R, Ev.step si (Ev.bind sw ?_), Ev.step ii (Ev.bind sh ?_)⟩
    · simp only [if_true]
      simp only [if_pos (show 1 + x.size ≤ 9223372036854775807 by omega), if_pos (show acc.size + ((⟨#[32]⟩ : ByteArray) ++ x).size ≤ 9223372036854775807 by simp only [ByteArray.size_append, y1]; omega)]
      exact hs
    · simp only [if_true]; exact hi
  | false =>
    rw [g] at sh sw
    refine ⟨((⟨#[]⟩ : ByteArray), false), Ev.step si (Ev.bind sw ?_), Ev.step ii (Ev.bind sh ?_)⟩
    · simp only [Bool.false_eq_true, if_false]; exact Ev.now _
    · simp only [Bool.false_eq_true, if_false]; exact Ev.now _
theorem vt_all (acc : ByteArray) (ha : acc.size ≤ 40000000) (s6 : a6.size ≤ 1048576) (s7 : a7.size ≤ 1048576) (s8 : a8.size ≤ 1048576) (s9 : a9.size ≤ 1048576) (s11 : a11.size ≤ 1048576) : vtP a6 a7 a8 a9 a10 a11 l c r 0 acc := by
  have y1 : (⟨#[32]⟩ : ByteArray).size = 1 := rfl
  refine vt_step a6 a7 a8 a9 a10 a11 l c r 0 a6 acc (by omega) (by omega) rfl s6 (by omega) (fun w0 z0 => ?_)
  refine vt_step a6 a7 a8 a9 a10 a11 l c r 1 a7 _ (by omega) (by omega) rfl s7 (by simp only [ByteArray.size_append, y1]; omega) (fun w1 z1 => ?_)
  refine vt_step a6 a7 a8 a9 a10 a11 l c r 2 a8 _ (by omega) (by omega) rfl s8 (by simp only [ByteArray.size_append, y1]; omega) (fun w2 z2 => ?_)
  refine vt_step a6 a7 a8 a9 a10 a11 l c r 3 a9 _ (by omega) (by omega) rfl s9 (by simp only [ByteArray.size_append, y1]; omega) (fun w3 z3 => ?_)
  exact vt_last a6 a7 a8 a9 a10 a11 l c r _ (by simp only [ByteArray.size_append, y1]; omega) s11
theorem viol_both (s6 : a6.size ≤ 1048576) (s7 : a7.size ≤ 1048576) (s8 : a8.size ≤ 1048576) (s9 : a9.size ≤ 1048576) (s10 : a10.size ≤ 1048576) (s11 : a11.size ≤ 1048576) (l0 : -9223372036854775808 ≤ l) (l1 : l ≤ 9223372036854775807) (c0 : -9223372036854775808 ≤ c) (c1 : c ≤ 9223372036854775807) :
    ∃ R : ByteArray × Bool, Ev (fun k => spec_l13Violation.f k a6 a7 a8 a9 a10 a11 l c r) R ∧ Ev (fun k => impl_eventText.j0 k (if r = true then (⟨#[121, 101, 115]⟩ : ByteArray) else (⟨#[110, 111]⟩ : ByteArray)) a6 a7 a8 a9 a10 a11 l c r) R := by
  have d1 := itoaB_size l l0 l1
  have d2 := itoaB_size c c0 c1
  have e1 := digits_is l l0 l1
  have e2 := digits_is c c0 c1
  have qs1 : (⟨#[118, 105, 111, 108, 97, 116, 105, 111, 110, 32]⟩ : ByteArray).size = 10 := rfl
  have qs2 : (⟨#[32]⟩ : ByteArray).size = 1 := rfl
  have q1 : 10 + a10.size ≤ 9223372036854775807 := by (try simp only [ByteArray.size_append, qs1, qs2]); omega
  have q2 : ((⟨#[118, 105, 111, 108, 97, 116, 105, 111, 110, 32]⟩ : ByteArray) ++ a10).size + 1 ≤ 9223372036854775807 := by (try simp only [ByteArray.size_append, qs1, qs2]); omega
  have q3 : (((⟨#[118, 105, 111, 108, 97, 116, 105, 111, 110, 32]⟩ : ByteArray) ++ a10) ++ (⟨#[32]⟩ : ByteArray)).size + (itoaB l).size ≤ 9223372036854775807 := by (try simp only [ByteArray.size_append, qs1, qs2]); omega
  have q4 : ((((⟨#[118, 105, 111, 108, 97, 116, 105, 111, 110, 32]⟩ : ByteArray) ++ a10) ++ (⟨#[32]⟩ : ByteArray)) ++ (itoaB l)).size + 1 ≤ 9223372036854775807 := by (try simp only [ByteArray.size_append, qs1, qs2]); omega
  have q5 : (((((⟨#[118, 105, 111, 108, 97, 116, 105, 111, 110, 32]⟩ : ByteArray) ++ a10) ++ (⟨#[32]⟩ : ByteArray)) ++ (itoaB l)) ++ (⟨#[32]⟩ : ByteArray)).size + (itoaB c).size ≤ 9223372036854775807 := by (try simp only [ByteArray.size_append, qs1, qs2]); omega
  have y1 : (⟨#[32]⟩ : ByteArray).size = 1 := rfl
  have y10 : (⟨#[118, 105, 111, 108, 97, 116, 105, 111, 110, 32]⟩ : ByteArray).size = 10 := rfl
  obtain ⟨R, hs, hi⟩ := vt_all a6 a7 a8 a9 a10 a11 l c r (((((((⟨#[118, 105, 111, 108, 97, 116, 105, 111, 110, 32]⟩ : ByteArray) ++ a10) ++ (⟨#[32]⟩ : ByteArray)) ++ itoaB l) ++ (⟨#[32]⟩ : ByteArray)) ++ itoaB c)) (by simp only [ByteArray.size_append, y1, y10]; omega) s6 s7 s8 s9 s11
  refine ⟨R, ?_, ?_⟩
  · unfold spec_l13Violation.f
    simp only [if_pos q1, if_pos q2, if_pos q3, if_pos q4, if_pos q5]
    refine Ev.bind e1 ?_
    simp only [if_pos q1, if_pos q2, if_pos q3, if_pos q4, if_pos q5]
    refine Ev.bind e2 ?_
    simp only [if_pos q1, if_pos q2, if_pos q3, if_pos q4, if_pos q5]
    exact hs
  · refine Ev.step (f := fun k => impl_eventText.l0 k (if r = true then (⟨#[121, 101, 115]⟩ : ByteArray) else (⟨#[110, 111]⟩ : ByteArray)) (((((((⟨#[118, 105, 111, 108, 97, 116, 105, 111, 110, 32]⟩ : ByteArray) ++ a10) ++ (⟨#[32]⟩ : ByteArray)) ++ itoaB l) ++ (⟨#[32]⟩ : ByteArray)) ++ itoaB c)) [a6, a7, a8, a9] 4 0 a6 a7 a8 a9 a10 a11 l c r) (fun k => ?_) hi
    rw [impl_eventText.j0]
    simp only [if_pos q1, if_pos q2, if_pos q3, if_pos q4, if_pos q5, decimal_is l l0 l1, decimal_is c c0 c1, Option.bind_some]
    rfl
end
theorem event_kind {kind draw status ticks : Int} {text name a6 a7 a8 a9 a10 a11 : ByteArray} {l c : Int} {r lost nm : Bool} (h : eventB kind draw status ticks text name a6 a7 a8 a9 a10 a11 l c r lost nm = true) : 1 ≤ kind ∧ kind ≤ 6 := by
  have hk : inB kind 1 6 = true := by
    cases hk : inB kind 1 6 with
    | true => rfl
    | false =>
      unfold eventB eR1 at h
      rw [hk] at h
      simp at h
  unfold inB at hk
  simpa using hk
theorem eventT_both (kind draw status ticks : Int) (text name a6 a7 a8 a9 a10 a11 : ByteArray) (l c : Int) (r lost : Bool) (k1 : 1 ≤ kind) (k6 : kind ≤ 6) (s4 : text.size ≤ 1048576) (s5 : name.size ≤ 1048576) (s6 : a6.size ≤ 1048576) (s7 : a7.size ≤ 1048576) (s8 : a8.size ≤ 1048576) (s9 : a9.size ≤ 1048576) (s10 : a10.size ≤ 1048576) (s11 : a11.size ≤ 1048576)
    (l0 : -9223372036854775808 ≤ l) (l1 : l ≤ 9223372036854775807) (c0 : -9223372036854775808 ≤ c) (c1 : c ≤ 9223372036854775807) (d0 : -9223372036854775808 ≤ draw) (d1 : draw ≤ 9223372036854775807) (u0 : -9223372036854775808 ≤ status) (u1 : status ≤ 9223372036854775807) (t0 : -9223372036854775808 ≤ ticks) (t1 : ticks ≤ 9223372036854775807) :
    ∃ R : ByteArray × Bool, Ev (fun k => spec_l13Event.f k kind draw status ticks text name a6 a7 a8 a9 a10 a11 l c r lost) R ∧ Ev (fun k => impl_eventText.f k kind draw status ticks text name a6 a7 a8 a9 a10 a11 l c r lost) R := by
  have z1 := itoaB_size draw d0 d1
  have z2 := itoaB_size status u0 u1
  have z3 := itoaB_size ticks t0 t1
  have e1 := digits_is draw d0 d1
  have e2 := digits_is status u0 u1
  have e3 := digits_is ticks t0 t1
  have qs1 : (⟨#[115, 101, 110, 100, 32]⟩ : ByteArray).size = 5 := rfl
  have qs2 : (⟨#[32]⟩ : ByteArray).size = 1 := rfl
  have q1 : 10 + text.size ≤ 9223372036854775807 := by (try simp only [ByteArray.size_append, qs1, qs2]); omega
  have q2 : 9 + text.size ≤ 9223372036854775807 := by (try simp only [ByteArray.size_append, qs1, qs2]); omega
  have q3 : 7 + text.size ≤ 9223372036854775807 := by (try simp only [ByteArray.size_append, qs1, qs2]); omega
  have q4 : 5 + (itoaB ticks).size ≤ 9223372036854775807 := by (try simp only [ByteArray.size_append, qs1, qs2]); omega
  have q5 : 5 + name.size ≤ 9223372036854775807 := by (try simp only [ByteArray.size_append, qs1, qs2]); omega
  have q6 : ((⟨#[115, 101, 110, 100, 32]⟩ : ByteArray) ++ name).size + 1 ≤ 9223372036854775807 := by (try simp only [ByteArray.size_append, qs1, qs2]); omega
  have q7 : (((⟨#[115, 101, 110, 100, 32]⟩ : ByteArray) ++ name) ++ (⟨#[32]⟩ : ByteArray)).size + (itoaB draw).size ≤ 9223372036854775807 := by (try simp only [ByteArray.size_append, qs1, qs2]); omega
  have q8 : ((((⟨#[115, 101, 110, 100, 32]⟩ : ByteArray) ++ name) ++ (⟨#[32]⟩ : ByteArray)) ++ (itoaB draw)).size + 1 ≤ 9223372036854775807 := by (try simp only [ByteArray.size_append, qs1, qs2]); omega
  have q9 : (((((⟨#[115, 101, 110, 100, 32]⟩ : ByteArray) ++ name) ++ (⟨#[32]⟩ : ByteArray)) ++ (itoaB draw)) ++ (⟨#[32]⟩ : ByteArray)).size + (itoaB status).size ≤ 9223372036854775807 := by (try simp only [ByteArray.size_append, qs1, qs2]); omega
  have q10 : ((((((⟨#[115, 101, 110, 100, 32]⟩ : ByteArray) ++ name) ++ (⟨#[32]⟩ : ByteArray)) ++ (itoaB draw)) ++ (⟨#[32]⟩ : ByteArray)) ++ (itoaB status)).size + 5 ≤ 9223372036854775807 := by (try simp only [ByteArray.size_append, qs1, qs2]); omega
  unfold spec_l13Event.f impl_eventText.f
  by_cases h1 : kind = 1
  · simp only [if_pos h1, if_pos q1, if_pos q2, if_pos q3, if_pos q4, if_pos q5, if_pos q6, if_pos q7, if_pos q8, if_pos q9, if_pos q10]; exact ⟨_, Ev.now _, Ev.now _⟩
  by_cases h2 : kind = 2
  · simp only [if_neg h1, if_pos h2, if_pos q1, if_pos q2, if_pos q3, if_pos q4, if_pos q5, if_pos q6, if_pos q7, if_pos q8, if_pos q9, if_pos q10]; exact ⟨_, Ev.now _, Ev.now _⟩
  by_cases h3 : kind = 3
  · simp only [if_neg h1, if_neg h2, if_pos h3, if_pos q1, if_pos q2, if_pos q3, if_pos q4, if_pos q5, if_pos q6, if_pos q7, if_pos q8, if_pos q9, if_pos q10]; exact ⟨_, Ev.now _, Ev.now _⟩
  by_cases h5 : kind = 5
  · simp only [if_neg h1, if_neg h2, if_neg h3, if_pos h5, decimal_is ticks t0 t1, Option.bind_some, if_pos q1, if_pos q2, if_pos q3, if_pos q4, if_pos q5, if_pos q6, if_pos q7, if_pos q8, if_pos q9, if_pos q10]
    exact ⟨_, Ev.bind e3 (by simp only [if_pos q1, if_pos q2, if_pos q3, if_pos q4, if_pos q5, if_pos q6, if_pos q7, if_pos q8, if_pos q9, if_pos q10]; exact Ev.now _), Ev.now _⟩
  by_cases h4 : kind = 4
  · have h6 : ¬ kind = 6 := by omega
    obtain ⟨R, hs, hi⟩ := viol_both a6 a7 a8 a9 a10 a11 l c r s6 s7 s8 s9 s10 s11 l0 l1 c0 c1
    simp only [if_neg h1, if_neg h2, if_neg h3, if_neg h5, if_pos h4, if_neg h6]
    refine ⟨R, Ev.bind hs (Ev.now _), ?_⟩
    cases r with
    | true => simp only [if_true] at hi ⊢; exact hi
    | false => simp only [Bool.false_eq_true, if_false] at hi ⊢; exact hi
  have h6 : kind = 6 := by omega
  simp only [if_neg h1, if_neg h2, if_neg h3, if_neg h5, if_neg h4, if_pos h6, decimal_is draw d0 d1, decimal_is status u0 u1, Option.bind_some, if_pos q1, if_pos q2, if_pos q3, if_pos q4, if_pos q5, if_pos q6, if_pos q7, if_pos q8, if_pos q9, if_pos q10]
  cases lost with
  | true =>
    simp only [if_true]
    exact ⟨_, Ev.bind e1 (by simp only [if_pos q1, if_pos q2, if_pos q3, if_pos q4, if_pos q5, if_pos q6, if_pos q7, if_pos q8, if_pos q9, if_pos q10]; exact Ev.bind e2 (by simp only [if_pos q1, if_pos q2, if_pos q3, if_pos q4, if_pos q5, if_pos q6, if_pos q7, if_pos q8, if_pos q9, if_pos q10]; exact Ev.now _)), Ev.now _⟩
  | false =>
    simp only [Bool.false_eq_true, if_false]
    exact ⟨_, Ev.bind e1 (by simp only [if_pos q1, if_pos q2, if_pos q3, if_pos q4, if_pos q5, if_pos q6, if_pos q7, if_pos q8, if_pos q9, if_pos q10]; exact Ev.bind e2 (by simp only [if_pos q1, if_pos q2, if_pos q3, if_pos q4, if_pos q5, if_pos q6, if_pos q7, if_pos q8, if_pos q9, if_pos q10]; exact Ev.now _)), Ev.now _⟩
theorem ev_rounds {α : Type} {f : Nat → Option α} {r : α} (h : Ev f r) : ∃ k, f k = some r := by
  obtain ⟨k, hk⟩ := h
  exact ⟨k, hk k (Nat.le_refl k)⟩
theorem FnExactEventText : (∀ (a0_0 : Int) (a0_1 : Int) (a0_2 : Int) (a0_3 : Int) (a0_4 : ByteArray) (a0_5 : ByteArray) (a0_6 : ByteArray) (a0_7 : ByteArray) (a0_8 : ByteArray) (a0_9 : ByteArray) (a0_10 : ByteArray) (a0_11 : ByteArray) (a0_12 : Int) (a0_13 : Int) (a0_14 : Bool) (a0_15 : Bool), ((Lit.int .i64 a0_0).wf = true) → ((Lit.int .i64 a0_1).wf = true) → ((Lit.int .i64 a0_2).wf = true) → ((Lit.int .i64 a0_3).wf = true) → (a0_4.size ≤ 9223372036854775807) → (a0_5.size ≤ 9223372036854775807) → (a0_6.size ≤ 9223372036854775807) → (a0_7.size ≤ 9223372036854775807) → (a0_8.size ≤ 9223372036854775807) → (a0_9.size ≤ 9223372036854775807) → (a0_10.size ≤ 9223372036854775807) → (a0_11.size ≤ 9223372036854775807) → ((Lit.int .i64 a0_12).wf = true) → ((Lit.int .i64 a0_13).wf = true) → ∃ k, laws_FnExactEventText.f k a0_0 a0_1 a0_2 a0_3 a0_4 a0_5 a0_6 a0_7 a0_8 a0_9 a0_10 a0_11 a0_12 a0_13 a0_14 a0_15 = some true) := by
  intro kind draw status ticks text name a6 a7 a8 a9 a10 a11 l c r lost w0 w1 w2 w3 s4 s5 s6 s7 s8 s9 s10 s11 w12 w13
  obtain ⟨nm, NMS, NMI⟩ := name_same name
  refine ev_rounds ?_
  unfold laws_FnExactEventText.f laws_toEvent.f laws_toViolation.f
  simp only [Option.bind_some]
  cases h : laws_szEvent.f kind draw status ticks text name a6 a7 a8 a9 a10 a11 l c r lost 1048576 with
  | none => exact absurd h (by unfold laws_szEvent.f laws_szViolation.f; (repeat' split) <;> first | (simp; done) | (simp only [Option.bind_some]; split <;> simp) | (split <;> simp only [Option.bind_some] <;> split <;> simp))
  | some t =>
    simp only [Option.bind_some]
    by_cases hneg : t < 0
    · simp only [if_pos hneg]; exact Ev.now true
    · simp only [if_neg hneg]
      obtain ⟨z4, z5, z6, z7, z8, z9, z10, z11⟩ := szE s4 s5 s6 s7 s8 s9 s10 s11 h (by omega)
      have r1 := wf_range w1
      have r2 := wf_range w2
      have r3 := wf_range w3
      have r12 := wf_range w12
      have r13 := wf_range w13
      have es := event_spec kind draw status ticks text name a6 a7 a8 a9 a10 a11 l c r lost NMS
      have ei := event_impl kind draw status ticks text name a6 a7 a8 a9 a10 a11 l c r lost NMI
      cases hb : eventB kind draw status ticks text name a6 a7 a8 a9 a10 a11 l c r lost nm with
      | false =>
        rw [hb] at es ei
        unfold spec_EventText.f impl_EventText.f
        refine Ev.bind (a := ((⟨#[]⟩ : ByteArray), (1 : Int))) (Ev.bind es (by simp only [Bool.false_eq_true, if_false]; exact Ev.now _)) (Ev.bind (a := ((⟨#[]⟩ : ByteArray), (1 : Int))) (Ev.bind ei (by simp only [Bool.false_eq_true, if_false]; exact Ev.now _)) ?_)
        simp only [if_true]
        exact Ev.now true
      | true =>
        obtain ⟨k1, k6⟩ := event_kind hb
        rw [hb] at es ei
        obtain ⟨⟨u, ok⟩, p, q⟩ := eventT_both kind draw status ticks text name a6 a7 a8 a9 a10 a11 l c r lost k1 k6 z4 z5 z6 z7 z8 z9 z10 z11 r12.1 r12.2 r13.1 r13.2 r1.1 r1.2 r2.1 r2.2 r3.1 r3.2
        unfold spec_EventText.f impl_EventText.f
        cases ok with
        | true =>
          refine Ev.bind (a := (u, (0 : Int))) (Ev.bind es (by simp only [if_true]; exact Ev.bind p (by simp only [if_true]; exact Ev.now _))) (Ev.bind (a := (u, (0 : Int))) (Ev.bind ei (by simp only [if_true]; exact Ev.bind q (by simp only [if_true]; exact Ev.now _))) ?_)
          simp only [if_true]
          exact Ev.now true
        | false =>
          refine Ev.bind (a := ((⟨#[]⟩ : ByteArray), (3 : Int))) (Ev.bind es (by simp only [if_true]; exact Ev.bind p (by simp only [Bool.false_eq_true, if_false]; exact Ev.now _))) (Ev.bind (a := ((⟨#[]⟩ : ByteArray), (3 : Int))) (Ev.bind ei (by simp only [if_true]; exact Ev.bind q (by simp only [Bool.false_eq_true, if_false]; exact Ev.now _))) ?_)
          simp only [if_true]
          exact Ev.now true

end Go.Proofs.YtagbjmjfelggmaaDoor.Pure
