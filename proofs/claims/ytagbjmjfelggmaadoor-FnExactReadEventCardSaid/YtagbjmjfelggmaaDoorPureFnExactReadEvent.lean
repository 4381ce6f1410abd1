/- The program's ReadEvent answers as the reference's at every text; no condition. -/
import Derived.Test.YtagbjmjfelggmaaDoorQFnExactReadEventx15
import Derived.Lib.IndexAny
import Derived.Lib.ItoaLen
set_option linter.unusedVariables false
set_option linter.unusedSimpArgs false
namespace Go.Proofs.YtagbjmjfelggmaaDoor.Pure
open Go.RowKit Go.Proofs.YtagbjmjfelggmaaDoor.QFnExactReadEvent Go.Proofs.YtagbjmjfelggmaaDoorW.PrintWords Go.Proofs.YtagbjmjfelggmaaDoorW.PrintLast
theorem wr {x : Int} (h0 : -9223372036854775808 ≤ x) (h1 : x ≤ 9223372036854775807) : wrap64 x = x := by unfold wrap64; omega
theorem size_len (s : ByteArray) : s.size = s.data.toList.length := by rw [Array.length_toList]; rfl
theorem drop_cons {s : ByteArray} {i : Nat} {b : UInt8} {l : List UInt8} (h : s.data.toList.drop i = b :: l) : i < s.size ∧ bt s (i : Int) = (b.toNat : Int) ∧ s.data.toList.drop (i + 1) = l := by
  have hi : i < s.data.toList.length := by
    rcases Nat.lt_or_ge i s.data.toList.length with h1 | h1
    · exact h1
    · rw [List.drop_eq_nil_of_le h1] at h; cases h
  rw [List.drop_eq_getElem_cons hi] at h
  injection h with h1 h2
  have hs : i < s.size := by rw [size_len]; exact hi
  refine ⟨hs, ?_, h2⟩
  rw [← h1]
  have e : (i : Int).toNat = i := by omega
  simp only [bt, e, dif_pos hs]
  rfl
theorem drop_nil {s : ByteArray} {i : Nat} (h : s.data.toList.drop i = []) : s.size ≤ i := by
  rw [size_len]
  exact List.drop_eq_nil_iff.1 h
def goodB (b : UInt8) : Bool := decide (33 ≤ b.toNat) && decide (b.toNat ≤ 126)
def onlyB (l W : List UInt8) : Bool := l.all fun b => goodB b && !W.contains b
theorem find_spec (wo : ByteArray) (c : UInt8) (hw : wo.size ≤ 1000) : ∀ (l : List UInt8) (i : Nat), wo.data.toList.drop i = l → ∃ t, Ev (fun k => spec_l01Find.l0 k wo (c.toNat : Int) (i : Int)) t ∧ (t < (wo.size : Int) ↔ l.contains c = true)
  | [], i, h => by
    have := drop_nil h
    exact ⟨(wo.size : Int), Ev.step (f := fun _ => some (wo.size : Int)) (fun k => by rw [spec_l01Find.l0, if_neg (by omega)]) (Ev.now _), by simp⟩
  | b :: l, i, h => by
    obtain ⟨h1, h2, h3⟩ := drop_cons h
    by_cases e : b = c
    · subst e
      refine ⟨(i : Int), Ev.step (f := fun _ => some (i : Int)) (fun k => by rw [spec_l01Find.l0, if_pos (by omega), if_pos (by omega), if_pos h2]) (Ev.now _), ?_⟩
      simp; omega
    · obtain ⟨t, ht, hi⟩ := find_spec wo c hw l (i + 1) h3
      refine ⟨t, Ev.step (f := fun k => spec_l01Find.l0 k wo (c.toNat : Int) ((i + 1 : Nat) : Int)) (fun k => ?_) ht, ?_⟩
      · have hne : ¬ bt wo (i : Int) = (c.toNat : Int) := by
          rw [h2]; intro hh; apply e; apply UInt8.toNat_inj.1; omega
        rw [spec_l01Find.l0, if_pos (by omega), if_pos (by omega), if_neg hne, wr (by omega) (by omega)]; rfl
      · rw [hi]
        have : (b :: l).contains c = l.contains c := by
          rw [List.contains_cons]
          have : (c == b) = false := by rw [beq_eq_false_iff_ne]; exact fun hh => e hh.symm
          rw [this, Bool.false_or]
        rw [this]
theorem only_loop (s wo : ByteArray) (hs : s.size ≤ 2000000) (hw : wo.size ≤ 1000) : ∀ (l : List UInt8) (i : Nat), s.data.toList.drop i = l → Ev (fun k => spec_l01Only.l0 k s wo (i : Int)) (onlyB l wo.data.toList)
  | [], i, h => by
    have := drop_nil h
    exact Ev.step (f := fun _ => some true) (fun k => by rw [spec_l01Only.l0, if_neg (by omega)]) (Ev.now _)
  | b :: l, i, h => by
    obtain ⟨h1, h2, h3⟩ := drop_cons h
    have e0 : onlyB (b :: l) wo.data.toList = ((goodB b && !wo.data.toList.contains b) && onlyB l wo.data.toList) := by simp [onlyB]
    by_cases c1 : b.toNat < 33
    · rw [show onlyB (b :: l) wo.data.toList = false by rw [e0]; simp [goodB]; omega]
      exact Ev.step (f := fun _ => some false) (fun k => by rw [spec_l01Only.l0, if_pos (by omega), if_pos (by omega), if_pos (by omega)]) (Ev.now _)
    by_cases c2 : b.toNat > 126
    · rw [show onlyB (b :: l) wo.data.toList = false by rw [e0]; simp [goodB]; omega]
      exact Ev.step (f := fun _ => some false) (fun k => by rw [spec_l01Only.l0, if_pos (by omega), if_pos (by omega), if_neg (by omega), if_pos (by omega)]) (Ev.now _)
    have hg : goodB b = true := by simp [goodB]; omega
    obtain ⟨t, ht, hi⟩ := find_spec wo b hw wo.data.toList 0 (by simp)
    refine Ev.step (f := fun k => (spec_l01Find.f k wo (bt s (i : Int))).bind fun t => if t < (wo.size : Int) then some false else spec_l01Only.l0 k s wo ((i + 1 : Nat) : Int)) (fun k => ?_) (Ev.bind (show Ev (fun k => spec_l01Find.f k wo (bt s (i : Int))) t from ?_) ?_)
    · rw [spec_l01Only.l0, if_pos (by omega), if_pos (by omega), if_neg (by omega), if_neg (by omega), wr (by omega) (by omega)]; rfl
    · unfold spec_l01Find.f; rw [h2]; exact ht
    · by_cases hc : wo.data.toList.contains b = true
      · simp only [if_pos (hi.2 hc)]
        rw [show onlyB (b :: l) wo.data.toList = false by rw [e0, hc]; simp]
        exact Ev.now _
      · have hc' : wo.data.toList.contains b = false := by simpa using hc
        simp only [if_neg (fun x => hc (hi.1 x))]
        rw [show onlyB (b :: l) wo.data.toList = onlyB l wo.data.toList by rw [e0, hg, hc']; simp]
        exact only_loop s wo hs hw l (i + 1) h3
theorem only_spec (s wo : ByteArray) (hs : s.size ≤ 2000000) (hw : wo.size ≤ 1000) : Ev (fun k => spec_l01Only.f k s wo) (onlyB s.data.toList wo.data.toList) := by
  unfold spec_l01Only.f
  exact only_loop s wo hs hw s.data.toList 0 (by simp)
def inB (n lo hi : Int) : Bool := decide (lo ≤ n) && decide (n ≤ hi)
theorem within_is (n lo hi : Int) : impl_within.f n lo hi = some (inB n lo hi) := by
  unfold impl_within.f inB
  by_cases h : lo ≤ n <;> simp [h]
theorem in_is (n lo hi : Int) : spec_l01In.f n lo hi = some (inB n lo hi) := by
  unfold spec_l01In.f inB
  by_cases h : lo ≤ n
  · rw [if_pos h]; simp [h]
  · rw [if_neg h]; simp [h]
theorem isLower_is (c : Int) : impl_isLower.f c = some (decide (97 ≤ c) && decide (c ≤ 122)) := by
  unfold impl_isLower.f
  by_cases h : 97 ≤ c <;> simp [h]
def ruleFrom (s : ByteArray) : Int → Nat → Bool
  | _, 0 => true
  | i, d + 1 => if (97 ≤ bt s i ∧ bt s i ≤ 122) ∨ (bt s i = 45 ∧ i ≠ 0) then ruleFrom s (i + 1) d else false
theorem ruleFrom_succ (s : ByteArray) (i : Int) (d : Nat) : ruleFrom s i (d + 1) = if (97 ≤ bt s i ∧ bt s i ≤ 122) ∨ (bt s i = 45 ∧ i ≠ 0) then ruleFrom s (i + 1) d else false := rfl
theorem rule_spec_loop (s : ByteArray) (hs : s.size ≤ 24) (d : Nat) : ∀ i : Int, 0 ≤ i → i + d = s.size → spec_l04Name.l0 (d + 1) s i = some (ruleFrom s i d) := by
  induction d with
  | zero => intro i h0 h1; rw [spec_l04Name.l0, if_neg (by omega)]; rfl
  | succ d ih =>
    intro i h0 h1
    rw [spec_l04Name.l0, if_pos (by omega), if_pos h0, wr (by omega) (by omega), ih (i + 1) (by omega) (by omega), ruleFrom_succ]
    generalize ruleFrom s (i + 1) d = R
    generalize bt s i = c
    by_cases g : (97 ≤ c ∧ c ≤ 122) ∨ (c = 45 ∧ i ≠ 0)
    · rw [if_pos g]; (repeat' split) <;> first | rfl | (exfalso; omega)
    · rw [if_neg g]; (repeat' split) <;> first | rfl | (exfalso; omega)
theorem rule_impl_loop (s : ByteArray) (n : Int) (hn : n ≤ s.size) (hn' : n ≤ 1000) (d : Nat) : ∀ i : Int, 0 ≤ i → i + d = n → impl_isRule.l0 (d + 1) s n i = some (if ruleFrom s i d then inB s.size 1 24 else false) := by
  induction d with
  | zero => intro i h0 h1; rw [impl_isRule.l0, if_neg (by omega), within_is]; simp [ruleFrom]
  | succ d ih =>
    intro i h0 h1
    rw [impl_isRule.l0, if_pos (by omega), if_pos h0, if_pos (by omega), wr (by omega) (by omega), ih (i + 1) (by omega) (by omega), isLower_is, ruleFrom_succ]
    generalize ruleFrom s (i + 1) d = R
    generalize bt s i = c
    simp only [Option.bind_some]
    by_cases g : 97 ≤ c ∧ c ≤ 122
    · rw [if_pos (by simpa using g), if_pos (show (97 ≤ c ∧ c ≤ 122) ∨ (c = 45 ∧ i ≠ 0) from Or.inl g)]
    · rw [if_neg (by simpa using g)]
      by_cases h : c = 45 ∧ i ≠ 0
      · rw [if_pos h.1, if_neg h.2, if_pos (show (97 ≤ c ∧ c ≤ 122) ∨ (c = 45 ∧ i ≠ 0) from Or.inr h)]
      · rw [if_neg (show ¬ ((97 ≤ c ∧ c ≤ 122) ∨ (c = 45 ∧ i ≠ 0)) by omega)]
        (repeat' split) <;> first | rfl | (exfalso; omega) | simp_all
def ruleB (s : ByteArray) : Bool := inB s.size 1 24 && ruleFrom s 0 s.size
theorem rule_spec (s : ByteArray) : Ev (fun k => spec_l04Name.f k s) (ruleB s) := by
  unfold spec_l04Name.f ruleB
  simp only [in_is, Option.bind_some]
  cases h : inB s.size 1 24 with
  | false => simpa using Ev.now false
  | true =>
    have hs : s.size ≤ 24 := by simp [inB] at h; omega
    simp only [if_true, Bool.true_and]
    exact Ev.of (fun k => spec_l04Name.mono_l k s 0) (rule_spec_loop s hs s.size 0 (by omega) (by omega))
theorem rule_impl (s : ByteArray) : Ev (fun k => impl_isRule.f k s) (ruleB s) := by
  unfold impl_isRule.f
  by_cases hs : s.size ≤ 24
  · have h1 := rule_impl_loop s s.size (by omega) (by omega) s.size 0 (by omega) (by omega)
    have e : mn (s.size : Int) 25 = s.size := by unfold mn; rw [if_neg (by omega)]
    rw [e]
    have e2 : (if ruleFrom s 0 s.size then inB s.size 1 24 else false) = ruleB s := by unfold ruleB; cases ruleFrom s 0 s.size <;> simp
    rw [e2] at h1
    exact Ev.of (fun k => impl_isRule.mono_l k s s.size 0) h1
  · have e : mn (s.size : Int) 25 = 25 := by unfold mn; split <;> omega
    rw [e]
    have h1 := rule_impl_loop s 25 (by omega) (by omega) 25 0 (by omega) (by omega)
    have e2 : (if ruleFrom s 0 25 then inB s.size 1 24 else false) = ruleB s := by
      have : inB s.size 1 24 = false := by unfold inB; simp; omega
      unfold ruleB; rw [this]; simp
    rw [e2] at h1
    exact Ev.of (fun k => impl_isRule.mono_l k s 25 0) h1
def violB (a0 a1 a2 a3 a4 a5 : ByteArray) (l c : Int) : Bool :=
  decide (a0.size ≤ 100 ∧ a1.size ≤ 100 ∧ a2.size ≤ 100 ∧ a3.size ≤ 100) && (ruleB a4 && (decide ((a5.size : Int) ≤ 200) && (inB l 0 9999 && inB c 0 9999)))
theorem viol_impl (a0 a1 a2 a3 a4 a5 : ByteArray) (l c : Int) (b : Bool) : Ev (fun k => impl_ViolationOK.f k a0 a1 a2 a3 a4 a5 l c b) (violB a0 a1 a2 a3 a4 a5 l c) := by
  unfold impl_ViolationOK.f violB
  have hm : (mx (mx (mx (a0.size : Int) (a1.size : Int)) (a2.size : Int)) (a3.size : Int) ≤ 100) ↔ (a0.size ≤ 100 ∧ a1.size ≤ 100 ∧ a2.size ≤ 100 ∧ a3.size ≤ 100) := by
    unfold mx; (repeat' split) <;> omega
  by_cases h : a0.size ≤ 100 ∧ a1.size ≤ 100 ∧ a2.size ≤ 100 ∧ a3.size ≤ 100
  · simp only [if_pos (hm.2 h), decide_eq_true h, Bool.true_and]
    refine Ev.bind (rule_impl a4) ?_
    simp only [within_is, Option.bind_some]
    cases ruleB a4 with
    | false => simpa using Ev.now false
    | true =>
      by_cases h5 : (a5.size : Int) ≤ 200
      · simp only [if_true, if_pos h5, decide_eq_true h5, Bool.true_and]
        cases inB l 0 9999 <;> simpa using Ev.now _
      · simp only [if_true, if_neg h5, decide_eq_false h5, Bool.false_and, Bool.and_false]
        exact Ev.now false
  · simp only [if_neg (fun e => h (hm.1 e)), decide_eq_false h, Bool.false_and]
    exact Ev.now false
theorem viol_spec (a0 a1 a2 a3 a4 a5 : ByteArray) (l c : Int) (b : Bool) : Ev (fun k => spec_l05OK.f k a0 a1 a2 a3 a4 a5 l c b) (violB a0 a1 a2 a3 a4 a5 l c) := by
  unfold spec_l05OK.f
  have step : ∀ (i : Int) (x : ByteArray) (r : Bool), 0 ≤ i → i < 4 → rdOf ByteArray.empty [a0, a1, a2, a3] i = x →
      (x.size ≤ 100 → Ev (fun k => spec_l05OK.l0 k [a0, a1, a2, a3] (i + 1) a0 a1 a2 a3 a4 a5 l c b) r) → (¬ x.size ≤ 100 → r = false) →
      Ev (fun k => spec_l05OK.l0 k [a0, a1, a2, a3] i a0 a1 a2 a3 a4 a5 l c b) r := by
    intro i x r h0 h1 hx hy hn
    refine Ev.step (f := fun k => if (x.size : Int) > 100 then some false else spec_l05OK.l0 k [a0, a1, a2, a3] (i + 1) a0 a1 a2 a3 a4 a5 l c b) (fun k => ?_) ?_
    · rw [spec_l05OK.l0, if_pos (by simp only [List.length_cons, List.length_nil]; omega), if_pos h0, hx, wr (by omega) (by omega)]
    · by_cases h : x.size ≤ 100
      · simp only [if_neg (show ¬ (x.size : Int) > 100 by omega)]; exact hy h
      · simp only [if_pos (show (x.size : Int) > 100 by omega)]; rw [hn h]; exact Ev.now false
  have last : Ev (fun k => spec_l05OK.l0 k [a0, a1, a2, a3] 4 a0 a1 a2 a3 a4 a5 l c b) (ruleB a4 && (decide ((a5.size : Int) ≤ 200) && (inB l 0 9999 && inB c 0 9999))) := by
    refine Ev.step (f := fun k => (spec_l04Name.f k a4).bind fun t => if t = true then (if (a5.size : Int) ≤ 200 then some (inB l 0 9999 && inB c 0 9999) else some false) else some false) (fun k => ?_) ?_
    · rw [spec_l05OK.l0, if_neg (by simp)]
      simp only [in_is, Option.bind_some]
      congr 1
      funext t
      cases inB l 0 9999 <;> simp
    · refine Ev.bind (rule_spec a4) ?_
      cases ruleB a4 with
      | false => simpa using Ev.now false
      | true =>
        by_cases h5 : (a5.size : Int) ≤ 200
        · simpa [h5] using Ev.now _
        · simpa [h5] using Ev.now _
  unfold violB
  refine step 0 a0 _ (by omega) (by omega) rfl (fun h0 => ?_) (fun h => by simp [h])
  refine step 1 a1 _ (by omega) (by omega) rfl (fun h1 => ?_) (fun h => by simp [h])
  refine step 2 a2 _ (by omega) (by omega) rfl (fun h2 => ?_) (fun h => by simp [h])
  refine step 3 a3 _ (by omega) (by omega) rfl (fun h3 => ?_) (fun h => by simp [h])
  rw [decide_eq_true ⟨h0, h1, h2, h3⟩, Bool.true_and]
  exact last
def letterB (c : Int) : Bool := (decide (97 ≤ c) && decide (c ≤ 122)) || (decide (65 ≤ c) && decide (c ≤ 90)) || (c == 95)
def digitB (c : Int) : Bool := decide (48 ≤ c) && decide (c ≤ 57)
theorem letter_is (c : Int) : spec_l00Letter.f c = some (letterB c) := by
  unfold spec_l00Letter.f letterB
  by_cases a : 97 ≤ c <;> by_cases b : c ≤ 122 <;> by_cases d : 65 ≤ c <;> by_cases e : c ≤ 90 <;> first | (exfalso; omega) | simp [a, b, d, e]
theorem digit_is (c : Int) : spec_l00Digit.f c = some (digitB c) := by
  unfold spec_l00Digit.f digitB
  by_cases a : 48 ≤ c <;> simp [a]
theorem name_spec_step (k : Nat) (s : ByteArray) (i : Int) (h0 : 0 ≤ i) (h1 : i < (s.size : Int)) (h2 : i < 1000) :
    spec_l00Word.l0 (k + 1) s i = if letterB (bt s i) = true then spec_l00Word.l0 k s (i + 1) else if digitB (bt s i) = true then spec_l00Word.l0 k s (i + 1) else some false := by
  rw [spec_l00Word.l0, if_pos h1, if_pos h0, letter_is, digit_is, wr (by omega) (by omega)]
  simp only [Option.bind_some]
theorem name_impl_step (k : Nat) (s : ByteArray) (n i : Int) (h0 : 0 ≤ i) (h1 : i < n) (h3 : i < (s.size : Int)) (h2 : i < 1000) :
    impl_NameOK.l0 (k + 1) s n i = if letterB (bt s i) = true then impl_NameOK.l0 k s n (i + 1) else if i = 0 then some false else if digitB (bt s i) = true then impl_NameOK.l0 k s n (i + 1) else some false := by
  rw [impl_NameOK.l0, if_pos h1, if_pos h0, if_pos h3, wr (by omega) (by omega)]
  generalize bt s i = c
  generalize impl_NameOK.l0 k s n (i + 1) = R
  unfold letterB digitB
  by_cases a : 97 ≤ c <;> by_cases b : c ≤ 122 <;> by_cases d : 65 ≤ c <;> by_cases e : c ≤ 90 <;> by_cases f : c = 95 <;> first | (exfalso; omega) | skip
  all_goals
    by_cases x : c < 48 <;> by_cases y : c > 57 <;> first | (exfalso; omega) | simp [a, b, d, e, f, x, y, show (48 ≤ c) = ¬ (c < 48) by simp, show (c ≤ 57) = ¬ (c > 57) by simp]
theorem name_loops (s : ByteArray) (hs : s.size ≤ 12) (d : Nat) : ∀ i : Int, 1 ≤ i → i + d = s.size →
    ∃ r, spec_l00Word.l0 (d + 1) s i = some r ∧ impl_NameOK.l0 (d + 1) s s.size i = some r := by
  induction d with
  | zero =>
    intro i h0 h1
    rw [spec_l00Word.l0, impl_NameOK.l0, if_neg (by omega), if_neg (by omega)]
    exact ⟨_, rfl, rfl⟩
  | succ d ih =>
    intro i h0 h1
    rw [name_spec_step _ _ _ (by omega) (by omega) (by omega), name_impl_step _ _ _ _ (by omega) (by omega) (by omega) (by omega), if_neg (by omega : ¬ i = 0)]
    have z := ih (i + 1) (by omega) (by omega)
    split
    · exact z
    · split
      · exact z
      · exact ⟨_, rfl, rfl⟩
theorem name_same (s : ByteArray) : ∃ r, Ev (fun k => spec_l00Word.f k s) r ∧ Ev (fun k => impl_NameOK.f k s) r := by
  suffices h : ∃ r k, spec_l00Word.f k s = some r ∧ impl_NameOK.f k s = some r by
    obtain ⟨r, k, h1, h2⟩ := h
    exact ⟨r, Ev.of (spec_l00Word.mono s) h1, Ev.of (impl_NameOK.mono s) h2⟩
  by_cases h0 : (s.size : Int) < 1
  · refine ⟨false, 1, ?_, ?_⟩
    · unfold spec_l00Word.f; rw [if_pos h0]; simp [spec_l00Word.j0]
    · unfold impl_NameOK.f impl_within.f; rw [if_neg (by omega)]; simp
  · by_cases h1 : (s.size : Int) > 12
    · refine ⟨false, 1, ?_, ?_⟩
      · unfold spec_l00Word.f; rw [if_neg h0, if_pos h1]; simp [spec_l00Word.j0]
      · unfold impl_NameOK.f impl_within.f; rw [if_pos (by omega), decide_eq_false (by omega)]; simp
    · obtain ⟨d, hd⟩ : ∃ d : Nat, (1 : Int) + d = s.size := ⟨s.size - 1, by omega⟩
      obtain ⟨r, h2, h3⟩ := name_loops s (by omega) d 1 (by omega) hd
      cases hl : letterB (bt s 0) with
      | true =>
        refine ⟨r, d + 2, ?_, ?_⟩
        · unfold spec_l00Word.f
          rw [if_neg h0, if_neg h1, if_pos (by omega), letter_is, hl, Option.bind_some, spec_l00Word.j0]
          rw [if_neg (by decide)]
          rw [← h2]
        · unfold impl_NameOK.f impl_within.f
          rw [if_pos (by omega), decide_eq_true (by omega), Option.bind_some, if_pos rfl, name_impl_step _ _ _ _ (by omega) (by omega) (by omega) (by omega), hl, if_pos rfl]
          exact h3
      | false =>
        refine ⟨false, d + 2, ?_, ?_⟩
        · unfold spec_l00Word.f
          rw [if_neg h0, if_neg h1, if_pos (by omega), letter_is, hl, Option.bind_some, spec_l00Word.j0]
          rfl
        · unfold impl_NameOK.f impl_within.f
          rw [if_pos (by omega), decide_eq_true (by omega), Option.bind_some, if_pos rfl, name_impl_step _ _ _ _ (by omega) (by omega) (by omega) (by omega), hl]
          simp
theorem noBytes : (⟨#[]⟩ : ByteArray).toList = ([] : List UInt8) := by unfold ByteArray.toList ByteArray.toList.loop; rfl
def zeroV (a6 a7 a8 a9 a10 a11 : ByteArray) (l c : Int) (r : Bool) : Bool :=
  a6.toList == ([] : List UInt8) && (a7.toList == ([] : List UInt8) && (a8.toList == ([] : List UInt8) && (a9.toList == ([] : List UInt8) && (a10.toList == ([] : List UInt8) && (a11.toList == ([] : List UInt8) && (l == 0 && (c == 0 && !r)))))))
theorem zeroV_spec (a6 a7 a8 a9 a10 a11 : ByteArray) (l c : Int) (r : Bool) :
    (!(a6.toList == ([] : List UInt8)) || (!(a7.toList == ([] : List UInt8)) || (!(a8.toList == ([] : List UInt8)) || (!(a9.toList == ([] : List UInt8)) || (!(a10.toList == ([] : List UInt8)) || (!(a11.toList == ([] : List UInt8)) || (!(l == 0) || (!(c == 0) || r)))))))) = !zeroV a6 a7 a8 a9 a10 a11 l c r := by
  simp [zeroV, Bool.not_and]
theorem zeroV_impl (a6 a7 a8 a9 a10 a11 : ByteArray) (l c : Int) (r : Bool) :
    (([] : List UInt8) == a6.toList && (([] : List UInt8) == a7.toList && (([] : List UInt8) == a8.toList && (([] : List UInt8) == a9.toList && (([] : List UInt8) == a10.toList && (([] : List UInt8) == a11.toList && ((0 : Int) == l && ((0 : Int) == c && (false == r))))))))) = zeroV a6 a7 a8 a9 a10 a11 l c r := by
  unfold zeroV
  rw [BEq.comm (a := ([] : List UInt8)) (b := a6.toList), BEq.comm (a := ([] : List UInt8)) (b := a7.toList), BEq.comm (a := ([] : List UInt8)) (b := a8.toList), BEq.comm (a := ([] : List UInt8)) (b := a9.toList), BEq.comm (a := ([] : List UInt8)) (b := a10.toList), BEq.comm (a := ([] : List UInt8)) (b := a11.toList), BEq.comm (a := (0 : Int)) (b := l), BEq.comm (a := (0 : Int)) (b := c)]
  cases r <;> rfl
def eR3 (draw status : Int) (name : ByteArray) (lost nm six bad : Bool) : Bool :=
  if bad = true then false else if six = true then nm && (inB draw 0 1000000 && inB status 100 599) else name.toList == ([] : List UInt8) && (draw == 0 && (status == 0 && !lost))
theorem ev_j3 (kind draw status ticks : Int) (text name a6 a7 a8 a9 a10 a11 : ByteArray) (l c : Int) (r lost : Bool) {nm : Bool} (hn : Ev (fun k => spec_l00Word.f k name) nm) (six bad : Bool) :
    Ev (fun k => spec_l08Event.j3 k six bad kind draw status ticks text name a6 a7 a8 a9 a10 a11 l c r lost) (eR3 draw status name lost nm six bad) := by
  unfold eR3
  cases bad
  · cases six
    · simp only [Bool.false_eq_true, if_false]
      refine Ev.step (f := fun _ => some (name.toList == ([] : List UInt8) && (draw == 0 && (status == 0 && !lost)))) (fun k => ?_) (Ev.now _)
      rw [spec_l08Event.j3]
      simp only [Bool.false_eq_true, if_false]
      by_cases h1 : name.toList = ([] : List UInt8)
      · by_cases h2 : draw = 0
        · by_cases h3 : status = 0
          · simp [h1, h2, h3]
          · simp [h1, h2, h3]
        · simp [h1, h2]
      · simp [h1]
    · simp only [Bool.false_eq_true, if_false, if_true]
      refine Ev.step (f := fun k => (spec_l00Word.f k name).bind fun t => if t = true then some (inB draw 0 1000000 && inB status 100 599) else some false) (fun k => ?_) (Ev.bind hn ?_)
      · rw [spec_l08Event.j3]
        simp only [Bool.false_eq_true, if_false, if_true, in_is, Option.bind_some]
        congr 1
        funext t
        cases inB draw 0 1000000 <;> simp
      · cases nm
        · simp only [Bool.false_eq_true, if_false, Bool.false_and]; exact Ev.now _
        · simp only [if_true, Bool.true_and]; exact Ev.now _
  · simp only [if_true]
    exact Ev.step (f := fun _ => some false) (fun k => by rw [spec_l08Event.j3]; simp) (Ev.now _)
def eR2 (kind draw status ticks : Int) (name : ByteArray) (lost nm six bad : Bool) : Bool :=
  if bad = true then false else eR3 draw status name lost nm six (if kind = 5 then !inB ticks 1 1000 else ticks != 0)
theorem ev_j2 (kind draw status ticks : Int) (text name a6 a7 a8 a9 a10 a11 : ByteArray) (l c : Int) (r lost : Bool) {nm : Bool} (hn : Ev (fun k => spec_l00Word.f k name) nm) (six bad : Bool) :
    Ev (fun k => spec_l08Event.j2 k six bad kind draw status ticks text name a6 a7 a8 a9 a10 a11 l c r lost) (eR2 kind draw status ticks name lost nm six bad) := by
  unfold eR2
  cases bad
  · simp only [Bool.false_eq_true, if_false]
    refine Ev.step (f := fun k => spec_l08Event.j3 k six (if kind = 5 then !inB ticks 1 1000 else ticks != 0) kind draw status ticks text name a6 a7 a8 a9 a10 a11 l c r lost) (fun k => ?_) (ev_j3 kind draw status ticks text name a6 a7 a8 a9 a10 a11 l c r lost hn six _)
    rw [spec_l08Event.j2]
    simp only [Bool.false_eq_true, if_false]
    by_cases h : kind = 5
    · simp only [if_pos h, in_is, Option.bind_some]
      cases inB ticks 1 1000 <;> simp
    · simp only [if_neg h]
  · simp only [if_true]
    exact Ev.step (f := fun _ => some false) (fun k => by rw [spec_l08Event.j2]; simp) (Ev.now _)
def eR1 (kind draw status ticks : Int) (name : ByteArray) (lost nm six bad v z : Bool) : Bool :=
  if bad = true then false else eR2 kind draw status ticks name lost nm six (if kind = 4 then !v else !z)
theorem ev_j1 (kind draw status ticks : Int) (text name a6 a7 a8 a9 a10 a11 : ByteArray) (l c : Int) (r lost : Bool) {nm : Bool} (hn : Ev (fun k => spec_l00Word.f k name) nm) (six bad : Bool) :
    Ev (fun k => spec_l08Event.j1 k six bad kind draw status ticks text name a6 a7 a8 a9 a10 a11 l c r lost) (eR1 kind draw status ticks name lost nm six bad (violB a6 a7 a8 a9 a10 a11 l c) (zeroV a6 a7 a8 a9 a10 a11 l c r)) := by
  unfold eR1
  cases bad
  · simp only [Bool.false_eq_true, if_false]
    by_cases h : kind = 4
    · simp only [if_pos h]
      refine Ev.step (f := fun k => (spec_l05OK.f k a6 a7 a8 a9 a10 a11 l c r).bind fun t => if t = true then spec_l08Event.j2 k six false kind draw status ticks text name a6 a7 a8 a9 a10 a11 l c r lost else spec_l08Event.j2 k six true kind draw status ticks text name a6 a7 a8 a9 a10 a11 l c r lost) (fun k => ?_) (Ev.bind (viol_spec a6 a7 a8 a9 a10 a11 l c r) ?_)
      · rw [spec_l08Event.j1]
        simp only [Bool.false_eq_true, if_false, if_pos h]
      · cases violB a6 a7 a8 a9 a10 a11 l c
        · simp only [Bool.false_eq_true, if_false]; exact ev_j2 kind draw status ticks text name a6 a7 a8 a9 a10 a11 l c r lost hn six true
        · simp only [if_true]; exact ev_j2 kind draw status ticks text name a6 a7 a8 a9 a10 a11 l c r lost hn six false
    · simp only [if_neg h]
      refine Ev.step (f := fun k => spec_l08Event.j2 k six (!zeroV a6 a7 a8 a9 a10 a11 l c r) kind draw status ticks text name a6 a7 a8 a9 a10 a11 l c r lost) (fun k => ?_) (ev_j2 kind draw status ticks text name a6 a7 a8 a9 a10 a11 l c r lost hn six _)
      rw [spec_l08Event.j1]
      simp only [Bool.false_eq_true, if_false, if_neg h, zeroV_spec]
  · simp only [if_true]
    exact Ev.step (f := fun _ => some false) (fun k => by rw [spec_l08Event.j1]; simp) (Ev.now _)
theorem ev_j0 (kind draw status ticks : Int) (text name a6 a7 a8 a9 a10 a11 : ByteArray) (l c : Int) (r lost : Bool) {nm : Bool} (hn : Ev (fun k => spec_l00Word.f k name) nm) (t3 : Bool) :
    Ev (fun k => spec_l08Event.j0 k t3 kind draw status ticks text name a6 a7 a8 a9 a10 a11 l c r lost) (eR1 kind draw status ticks name lost nm (kind == 6) (if inB kind 1 6 = true then if t3 = true then decide ((text.size : Int) > 4096) else if text.toList = ([] : List UInt8) then decide ((text.size : Int) > 4096) else true else true) (violB a6 a7 a8 a9 a10 a11 l c) (zeroV a6 a7 a8 a9 a10 a11 l c r)) := by
  refine Ev.step (f := fun k => spec_l08Event.j1 k (kind == 6) (if inB kind 1 6 = true then if t3 = true then decide ((text.size : Int) > 4096) else if text.toList = ([] : List UInt8) then decide ((text.size : Int) > 4096) else true else true) kind draw status ticks text name a6 a7 a8 a9 a10 a11 l c r lost) (fun k => ?_) (ev_j1 kind draw status ticks text name a6 a7 a8 a9 a10 a11 l c r lost hn _ _)
  rw [spec_l08Event.j0]
  simp only [in_is, Option.bind_some]
  by_cases h1 : inB kind 1 6 = true
  · simp only [if_pos h1]
    by_cases h2 : t3 = true
    · simp only [if_pos h2]
    · simp only [if_neg h2]
      by_cases h3 : text.toList = ([] : List UInt8)
      · simp only [if_pos h3]
      · simp only [if_neg h3]
  · simp only [if_neg h1]
def eventB (kind draw status ticks : Int) (text name a6 a7 a8 a9 a10 a11 : ByteArray) (l c : Int) (r lost : Bool) (nm : Bool) : Bool :=
  eR1 kind draw status ticks name lost nm (kind == 6) (if inB kind 1 6 = true then if (kind == 1 || (kind == 2 || kind == 3)) = true then decide ((text.size : Int) > 4096) else if text.toList = ([] : List UInt8) then decide ((text.size : Int) > 4096) else true else true) (violB a6 a7 a8 a9 a10 a11 l c) (zeroV a6 a7 a8 a9 a10 a11 l c r)
theorem event_spec (kind draw status ticks : Int) (text name a6 a7 a8 a9 a10 a11 : ByteArray) (l c : Int) (r lost : Bool) {nm : Bool} (hn : Ev (fun k => spec_l00Word.f k name) nm) :
    Ev (fun k => spec_l08Event.f k kind draw status ticks text name a6 a7 a8 a9 a10 a11 l c r lost) (eventB kind draw status ticks text name a6 a7 a8 a9 a10 a11 l c r lost nm) := by
  refine Ev.congr (f := fun k => spec_l08Event.j0 k (kind == 1 || (kind == 2 || kind == 3)) kind draw status ticks text name a6 a7 a8 a9 a10 a11 l c r lost) (fun k => ?_) (ev_j0 kind draw status ticks text name a6 a7 a8 a9 a10 a11 l c r lost hn _)
  unfold spec_l08Event.f
  by_cases k1 : kind = 1
  · simp [k1]
  by_cases k2 : kind = 2
  · simp [k2]
  · have e1 : (kind == 1) = false := by simpa using k1
    have e2 : (kind == 2) = false := by simpa using k2
    simp only [if_neg k1, if_neg k2, e1, e2, Bool.false_or]
theorem text_empty {t : ByteArray} (h : t.toList = ([] : List UInt8)) : t.size = 0 := by
  rw [ByteArray.toList_eq] at h
  show t.data.size = 0
  rw [← Array.length_toList, h]; rfl
theorem nowB (n : Int) : impl_isNow.f n = some (inB n 0 1000000) := by unfold impl_isNow.f; simp [within_is]
theorem statusB (n : Int) : impl_isStatus.f n = some (inB n 100 599) := by unfold impl_isStatus.f; simp [within_is]
theorem event_impl (kind draw status ticks : Int) (text name a6 a7 a8 a9 a10 a11 : ByteArray) (l c : Int) (r lost : Bool) {nm : Bool} (hn : Ev (fun k => impl_NameOK.f k name) nm) :
    Ev (fun k => impl_EventOK.f k kind draw status ticks text name a6 a7 a8 a9 a10 a11 l c r lost) (eventB kind draw status ticks text name a6 a7 a8 a9 a10 a11 l c r lost nm) := by
  have E : (⟨#[]⟩ : ByteArray).toList = ([] : List UInt8) := noBytes
  refine Ev.congr (f := fun k => impl_EventOK.j0 k false kind (kind == 1 || (kind == 2 || kind == 3)) kind draw status ticks text name a6 a7 a8 a9 a10 a11 l c r lost kind 0 0 0 (⟨#[]⟩ : ByteArray) (⟨#[]⟩ : ByteArray) (⟨#[]⟩ : ByteArray) (⟨#[]⟩ : ByteArray) (⟨#[]⟩ : ByteArray) (⟨#[]⟩ : ByteArray) (⟨#[]⟩ : ByteArray) (⟨#[]⟩ : ByteArray) 0 0 false false) (fun k => ?_) ?_
  · unfold impl_EventOK.f
    by_cases k1 : kind = 1
    · simp [k1]
    by_cases k2 : kind = 2
    · simp [k2]
    · have e1 : (kind == 1) = false := by simpa using k1
      have e2 : (kind == 2) = false := by simpa using k2
      simp only [if_neg k1, if_neg k2, e1, e2, Bool.false_or]
  have c1 : (([] : List UInt8) == name.toList) = (name.toList == ([] : List UInt8)) := BEq.comm
  have c2 : (([] : List UInt8) == text.toList) = (text.toList == ([] : List UInt8)) := BEq.comm
  have c3 : ((0 : Int) == draw) = (draw == 0) := BEq.comm
  have c4 : ((0 : Int) == status) = (status == 0) := BEq.comm
  have c5 : ((0 : Int) == ticks) = (ticks == 0) := BEq.comm
  have c6 : (false == lost) = !lost := by cases lost <;> rfl
  have hsz : text.toList = ([] : List UInt8) → text.size = 0 := text_empty
  by_cases h3 : (kind == 1 || (kind == 2 || kind == 3)) = true
  · have hk : kind = 1 ∨ kind = 2 ∨ kind = 3 := by simpa using h3
    have e6 : (kind == 6) = false := by simp; omega
    have e4 : ¬ kind = 4 := by omega
    have e5 : ¬ kind = 5 := by omega
    have ein : inB kind 1 6 = true := by unfold inB; simp; omega
    rw [h3]
    refine Ev.step (f := fun _ => some (decide ((text.size : Int) ≤ 4096) && (draw == 0 && (status == 0 && (ticks == 0 && (name.toList == ([] : List UInt8) && (zeroV a6 a7 a8 a9 a10 a11 l c r && !lost))))))) (fun k => ?_) ?_
    · rw [impl_EventOK.j0]
      simp only [if_true, E, zeroV_impl, c1, c3, c4, c5, c6, beq_self_eq_true, Bool.true_and]
      by_cases hs : (text.size : Int) ≤ 4096
      · simp only [if_pos hs, decide_eq_true hs, Bool.true_and]
      · simp only [if_neg hs, decide_eq_false hs, Bool.false_and]
    · have : (decide ((text.size : Int) ≤ 4096) && (draw == 0 && (status == 0 && (ticks == 0 && (name.toList == ([] : List UInt8) && (zeroV a6 a7 a8 a9 a10 a11 l c r && !lost)))))) = eventB kind draw status ticks text name a6 a7 a8 a9 a10 a11 l c r lost nm := by
        unfold eventB eR1 eR2 eR3
        simp only [h3, ein, e6, if_true, if_neg e4, if_neg e5, Bool.false_eq_true, if_false]
        have hd : decide ((text.size : Int) > 4096) = !decide ((text.size : Int) ≤ 4096) := by
          by_cases hs : (text.size : Int) ≤ 4096
          · rw [decide_eq_true hs, decide_eq_false (by omega)]; rfl
          · rw [decide_eq_false hs, decide_eq_true (by omega)]; rfl
        have ht : (ticks != 0) = !(ticks == 0) := rfl
        rw [hd, ht]
        generalize decide ((text.size : Int) ≤ 4096) = x1
        generalize (draw == 0) = x2
        generalize (status == 0) = x3
        generalize (ticks == 0) = x4
        generalize (name.toList == ([] : List UInt8)) = x5
        generalize zeroV a6 a7 a8 a9 a10 a11 l c r = x6
        revert x1 x2 x3 x4 x5 x6 lost
        decide
      rw [← this]; exact Ev.now _
  have h3' : (kind == 1 || (kind == 2 || kind == 3)) = false := by simpa using h3
  have hk : ¬ (kind = 1 ∨ kind = 2 ∨ kind = 3) := by intro c; apply h3; simpa using c
  rw [h3']
  by_cases k4 : kind = 4
  · subst k4
    have ein : inB 4 1 6 = true := by decide
    refine Ev.step (f := fun k => (impl_ViolationOK.f k a6 a7 a8 a9 a10 a11 l c r).bind fun t => if t = true then some (draw == 0 && (status == 0 && (ticks == 0 && (text.toList == ([] : List UInt8) && (name.toList == ([] : List UInt8) && !lost))))) else some false) (fun k => ?_) (Ev.bind (viol_impl a6 a7 a8 a9 a10 a11 l c r) ?_)
    · rw [impl_EventOK.j0]
      simp only [Bool.false_eq_true, if_false, if_true, E, c1, c2, c3, c4, c5, c6, beq_self_eq_true, Bool.true_and]
    · unfold eventB eR1 eR2 eR3
      simp only [h3', ein, if_true, Bool.false_eq_true, if_false, show ((4 : Int) == 6) = false by decide, show ¬ ((4 : Int) = 5) by decide]
      have ht : (ticks != 0) = !(ticks == 0) := rfl
      rw [ht]
      by_cases hs : text.toList = ([] : List UInt8)
      · simp only [hs, hsz hs, if_true, beq_self_eq_true, Bool.true_and]
        generalize violB a6 a7 a8 a9 a10 a11 l c = v
        generalize (draw == 0) = x2
        generalize (status == 0) = x3
        generalize (ticks == 0) = x4
        generalize (name.toList == ([] : List UInt8)) = x5
        have : ∀ v x2 x3 x4 x5 lost : Bool, (if v = true then some (x2 && (x3 && (x4 && (x5 && !lost)))) else some false) = some (if decide (((0 : Nat) : Int) > 4096) = true then false else if (!v) = true then false else if (!x4) = true then false else (x5 && (x2 && (x3 && !lost)))) := by decide
        simp only [this]
        exact Ev.now _
      · have hb : (text.toList == ([] : List UInt8)) = false := by simpa using hs
        simp only [if_neg hs, hb, if_true, Bool.false_and, Bool.and_false, ite_self]
        exact Ev.now _
  by_cases k5 : kind = 5
  · subst k5
    have ein : inB 5 1 6 = true := by decide
    refine Ev.step (f := fun _ => if inB ticks 1 1000 = true then some (draw == 0 && (status == 0 && (text.toList == ([] : List UInt8) && (name.toList == ([] : List UInt8) && (zeroV a6 a7 a8 a9 a10 a11 l c r && !lost))))) else some false) (fun k => ?_) ?_
    · rw [impl_EventOK.j0]
      simp only [Bool.false_eq_true, if_false, if_true, E, within_is, Option.bind_some, zeroV_impl, c1, c2, c3, c4, c5, c6, beq_self_eq_true, Bool.true_and, show ¬ ((5 : Int) = 4) by decide]
    · unfold eventB eR1 eR2 eR3
      simp only [h3', ein, if_true, Bool.false_eq_true, if_false, show ((5 : Int) == 6) = false by decide, show ¬ ((5 : Int) = 4) by decide]
      by_cases hs : text.toList = ([] : List UInt8)
      · simp only [hs, hsz hs, if_true, beq_self_eq_true, Bool.true_and]
        generalize inB ticks 1 1000 = v
        generalize (draw == 0) = x2
        generalize (status == 0) = x3
        generalize zeroV a6 a7 a8 a9 a10 a11 l c r = x4
        generalize (name.toList == ([] : List UInt8)) = x5
        have : ∀ v x2 x3 x4 x5 lost : Bool, (if v = true then some (x2 && (x3 && (x5 && (x4 && !lost)))) else some false) = some (if decide (((0 : Nat) : Int) > 4096) = true then false else if (!x4) = true then false else if (!v) = true then false else (x5 && (x2 && (x3 && !lost)))) := by decide
        simp only [this]
        exact Ev.now _
      · have hb : (text.toList == ([] : List UInt8)) = false := by simpa using hs
        simp only [if_neg hs, hb, if_true, Bool.false_and, Bool.and_false, ite_self]
        exact Ev.now _
  by_cases k6 : kind = 6
  · subst k6
    have ein : inB 6 1 6 = true := by decide
    refine Ev.step (f := fun k => (impl_NameOK.f k name).bind fun t => if t = true then (if inB draw 0 1000000 = true then (if inB status 100 599 = true then some (ticks == 0 && (text.toList == ([] : List UInt8) && zeroV a6 a7 a8 a9 a10 a11 l c r)) else some false) else some false) else some false) (fun k => ?_) (Ev.bind hn ?_)
    · rw [impl_EventOK.j0]
      simp only [Bool.false_eq_true, if_false, if_true, E, nowB, statusB, Option.bind_some, zeroV_impl, c1, c2, c3, c4, c5, c6, beq_self_eq_true, Bool.true_and, show ¬ ((6 : Int) = 4) by decide, show ¬ ((6 : Int) = 5) by decide]
    · unfold eventB eR1 eR2 eR3
      simp only [h3', ein, if_true, Bool.false_eq_true, if_false, show ((6 : Int) == 6) = true by decide, show ¬ ((6 : Int) = 4) by decide, show ¬ ((6 : Int) = 5) by decide]
      have ht : (ticks != 0) = !(ticks == 0) := rfl
      rw [ht]
      by_cases hs : text.toList = ([] : List UInt8)
      · simp only [hs, hsz hs, if_true, beq_self_eq_true, Bool.true_and]
        generalize inB draw 0 1000000 = x2
        generalize inB status 100 599 = x3
        generalize zeroV a6 a7 a8 a9 a10 a11 l c r = x4
        generalize (ticks == 0) = x5
        have : ∀ v x2 x3 x4 x5 : Bool, (if v = true then (if x2 = true then (if x3 = true then some (x5 && x4) else some false) else some false) else some false) = some (if decide (((0 : Nat) : Int) > 4096) = true then false else if (!x4) = true then false else if (!x5) = true then false else (v && (x2 && x3))) := by decide
        simp only [this]
        exact Ev.now _
      · have hb : (text.toList == ([] : List UInt8)) = false := by simpa using hs
        simp only [if_neg hs, hb, if_true, Bool.false_and, Bool.and_false, ite_self]
        exact Ev.now _
  · have ein : inB kind 1 6 = false := by unfold inB; simp; omega
    refine Ev.step (f := fun _ => some false) (fun k => ?_) ?_
    · rw [impl_EventOK.j0]
      simp only [Bool.false_eq_true, if_false, if_neg k4, if_neg k5, if_neg k6]
    · unfold eventB eR1
      simp only [ein, Bool.false_eq_true, if_false, if_true]
      exact Ev.now _
def itoaB (n : Int) : ByteArray := ⟨(Lib.itoa n).toArray⟩
theorem itoa_is (n : Int) (h0 : -9223372036854775808 ≤ n) (h1 : n ≤ 9223372036854775807) : strconv_Itoa.f n = some (itoaB n) := by
  unfold strconv_Itoa.f itoaB
  rw [if_pos ⟨h0, h1⟩]
theorem itoaB_size (n : Int) (h0 : -9223372036854775808 ≤ n) (h1 : n ≤ 9223372036854775807) : (itoaB n).size ≤ 21 := by
  have := Lib.itoa_length_le n h0 h1
  simpa [itoaB, ByteArray.size] using this
theorem decimal_is (n : Int) (h0 : -9223372036854775808 ≤ n) (h1 : n ≤ 9223372036854775807) : impl_decimal.f n = some (itoaB n) := by
  unfold impl_decimal.f
  rw [itoa_is n h0 h1]; rfl
theorem shown_loop (s : ByteArray) (hs : s.size ≤ 20000000) : ∀ (l : List UInt8) (i : Nat), s.data.toList.drop i = l → Ev (fun k => impl_areShown.l0 k s (s.size : Int) (i : Int)) (l.all goodB)
  | [], i, h => by
    have := drop_nil h
    exact Ev.step (f := fun _ => some true) (fun k => by rw [impl_areShown.l0, if_neg (by omega)]) (Ev.now _)
  | b :: l, i, h => by
    obtain ⟨h1, h2, h3⟩ := drop_cons h
    have hb : b.toNat < 256 := b.toNat_lt
    have hg : inB (b.toNat : Int) 33 126 = goodB b := by unfold inB goodB; congr 1 <;> simp <;> omega
    refine Ev.step (f := fun k => if goodB b = true then impl_areShown.l0 k s (s.size : Int) ((i + 1 : Nat) : Int) else some false) (fun k => ?_) ?_
    · rw [impl_areShown.l0, if_pos (by omega), if_pos (by omega), if_pos (by omega), h2, wr (x := (b.toNat : Int)) (by omega) (by omega), within_is, hg, wr (x := (i : Int) + 1) (by omega) (by omega)]; rfl
    · rw [List.all_cons]
      cases goodB b
      · simp only [Bool.false_eq_true, if_false, Bool.false_and]; exact Ev.now _
      · simp only [if_true, Bool.true_and]; exact shown_loop s hs l (i + 1) h3
theorem shown_impl (s : ByteArray) (hs : s.size ≤ 20000000) : Ev (fun k => impl_areShown.f k s) (s.data.toList.all goodB) := by
  unfold impl_areShown.f
  exact shown_loop s hs s.data.toList 0 (by simp)
theorem c0_size : (⟨#[]⟩ : ByteArray).size = 0 := rfl
theorem toList_data (s : ByteArray) : s.toList = s.data.toList := ByteArray.toList_eq s
theorem ba_eq {a b : ByteArray} (h : a.data.toList = b.data.toList) : a = b := by
  apply ByteArray.ext; exact Array.toList_inj.1 h
theorem app_l (a b : ByteArray) : (a ++ b).data.toList = a.data.toList ++ b.data.toList := by
  rw [ByteArray.data_append, Array.toList_append]
def fnd (s : ByteArray) (c : UInt8) : Nat := s.data.toList.findIdx (· == c)
def cutL (s : ByteArray) (c : UInt8) : ByteArray := s.extract 0 (fnd s c)
def cutH (s : ByteArray) (c : UInt8) : Bool := decide (fnd s c < s.size)
def cutR (s : ByteArray) (c : UInt8) : ByteArray := if fnd s c < s.size then s.extract (fnd s c + 1) s.size else (⟨#[]⟩ : ByteArray)
theorem fnd_le (s : ByteArray) (c : UInt8) : fnd s c ≤ s.size := by
  unfold fnd; rw [size_len]; exact List.findIdx_le_length
theorem ext_size (s : ByteArray) (i j : Nat) : (s.extract i j).size = min j s.size - i := ByteArray.size_extract
theorem ext_all (s : ByteArray) : s.extract 0 s.size = s := by
  apply ByteArray.ext
  apply Array.toList_inj.1
  rw [ByteArray.data_extract, Array.toList_extract, List.extract_eq_take_drop, List.drop_zero, Nat.sub_zero]
  exact List.take_of_length_le (by rw [size_len]; exact Nat.le_refl _)
theorem cutL_none {s : ByteArray} {c : UInt8} (h : ¬ fnd s c < s.size) : cutL s c = s := by
  have := fnd_le s c
  unfold cutL
  rw [show fnd s c = s.size by omega, ext_all]
theorem cutR_size (s : ByteArray) (c : UInt8) : (cutR s c).size ≤ s.size := by
  unfold cutR
  split
  · rw [ext_size]; omega
  · rw [c0_size]; omega
theorem fnd_loop (t : ByteArray) (c : UInt8) (ht : t.size ≤ 2000000) : ∀ (l : List UInt8) (i : Nat), i ≤ t.size → t.data.toList.drop i = l → Ev (fun k => spec_l01Find.l0 k t (c.toNat : Int) (i : Int)) (((i + l.findIdx (· == c) : Nat)) : Int)
  | [], i, hi, h => by
    have := drop_nil h
    exact Ev.step (f := fun _ => some (t.size : Int)) (fun k => by rw [spec_l01Find.l0, if_neg (by omega)]) (by rw [List.findIdx_nil, show i + 0 = t.size by omega]; exact Ev.now _)
  | b :: l, i, hi, h => by
    obtain ⟨h1, h2, h3⟩ := drop_cons h
    by_cases e : b = c
    · subst e
      rw [List.findIdx_cons]
      simp only [beq_self_eq_true, cond_true]
      exact Ev.step (f := fun _ => some (i : Int)) (fun k => by rw [spec_l01Find.l0, if_pos (by omega), if_pos (by omega), if_pos h2]) (Ev.now _)
    · have hb : (b == c) = false := by rw [beq_eq_false_iff_ne]; exact e
      have ih := fnd_loop t c ht l (i + 1) (by omega) h3
      rw [List.findIdx_cons, hb, cond_false, show i + (List.findIdx (· == c) l + 1) = i + 1 + List.findIdx (· == c) l by omega]
      refine Ev.step (f := fun k => spec_l01Find.l0 k t (c.toNat : Int) ((i + 1 : Nat) : Int)) (fun k => ?_) ih
      have hne : ¬ bt t (i : Int) = (c.toNat : Int) := by
        rw [h2]; intro hh; apply e; apply UInt8.toNat_inj.1; omega
      rw [spec_l01Find.l0, if_pos (by omega), if_pos (by omega), if_neg hne, wr (by omega) (by omega)]; rfl
theorem find_is (t : ByteArray) (c : UInt8) (ht : t.size ≤ 2000000) : Ev (fun k => spec_l01Find.f k t (c.toNat : Int)) (fnd t c : Int) := by
  have := fnd_loop t c ht t.data.toList 0 (Nat.zero_le _) (by simp)
  rw [Nat.zero_add] at this
  exact this
theorem index_list (c : UInt8) : ∀ l : List UInt8, Lib.indexByte l c = if l.findIdx (· == c) < l.length then ((l.findIdx (· == c) : Nat) : Int) else -1
  | [] => by simp [Lib.indexByte]
  | b :: l => by
    have ih := index_list c l
    rw [Lib.indexByte, List.findIdx_cons]
    by_cases e : (b == c) = true
    · rw [if_pos e, e, cond_true, if_pos (by simp)]; rfl
    · have e' : (b == c) = false := by simpa using e
      rw [if_neg e, e', cond_false, ih]
      by_cases h : l.findIdx (· == c) < l.length
      · have : ((((l.findIdx (· == c) : Nat) : Int)) == -1) = false := by rw [beq_eq_false_iff_ne]; omega
        rw [if_pos h, this, if_neg Bool.false_ne_true, if_pos (by rw [List.length_cons]; omega)]; omega
      · rw [if_neg h, if_pos (by decide), if_neg (by rw [List.length_cons]; omega)]
theorem index_is (s : ByteArray) (c : UInt8) : Lib.indexByte s.data.toList c = if fnd s c < s.size then ((fnd s c : Nat) : Int) else -1 := by
  rw [index_list]; unfold fnd; rw [size_len]
theorem cut_is (s : ByteArray) (c : UInt8) (hs : s.size ≤ 2000000) : strings_Cut.f s (⟨#[c]⟩ : ByteArray) = some (cutL s c, cutR s c, cutH s c) := by
  have hle := fnd_le s c
  have h1 : (⟨#[c]⟩ : ByteArray).size = 1 := rfl
  have e : (⟨#[c]⟩ : ByteArray).data.toList.getD 0 0 = c := rfl
  unfold strings_Cut.f stringslite_Cut.f stringslite_Index.f
  rw [if_pos h1, e, index_is, h1]
  simp only [Option.bind_some]
  by_cases h : fnd s c < s.size
  · have w : wrap64 ((fnd s c : Int) + ((1 : Nat) : Int)) = ((fnd s c + 1 : Nat) : Int) := by rw [wr (by omega) (by omega)]; omega
    simp only [if_pos h, w]
    rw [if_pos (by omega), if_pos (by omega), if_pos (by omega), if_pos (by omega), if_pos (by omega)]
    unfold cutL cutR cutH
    rw [if_pos h, decide_eq_true h]
    rfl
  · simp only [if_neg h]
    rw [if_neg (by omega), cutL_none h]
    unfold cutR cutH
    rw [if_neg h, decide_eq_false h]
    rfl
def nb (s : ByteArray) : Prop := (32 : UInt8) ∉ s.data.toList
theorem uniq32 : ∀ {a b x y : List UInt8}, (32 : UInt8) ∉ a → (32 : UInt8) ∉ b → a ++ 32 :: x = b ++ 32 :: y → a = b ∧ x = y
  | [], [], x, y, _, _, h => ⟨rfl, by simpa using h⟩
  | [], c :: b, x, y, _, hb, h => by
    simp only [List.nil_append, List.cons_append, List.cons.injEq] at h
    exact absurd (by rw [h.1]; exact List.mem_cons_self) hb
  | d :: a, [], x, y, ha, _, h => by
    simp only [List.nil_append, List.cons_append, List.cons.injEq] at h
    exact absurd (by rw [h.1]; exact List.mem_cons_self) ha
  | d :: a, c :: b, x, y, ha, hb, h => by
    simp only [List.cons_append, List.cons.injEq] at h
    obtain ⟨h1, h2⟩ := uniq32 (fun m => ha (List.mem_cons_of_mem _ m)) (fun m => hb (List.mem_cons_of_mem _ m)) h.2
    exact ⟨by rw [h.1, h1], h2⟩
def jn : List ByteArray → List UInt8
  | [] => []
  | [a] => a.data.toList
  | a :: b :: r => a.data.toList ++ 32 :: jn (b :: r)
theorem jn_cons (a : ByteArray) : ∀ {p : List ByteArray}, p ≠ [] → jn (a :: p) = a.data.toList ++ 32 :: jn p
  | [], h => absurd rfl h
  | _ :: _, _ => rfl
theorem jn_same : ∀ (p q : List ByteArray), p.length = q.length → (∀ a, a ∈ p.dropLast → nb a) → (∀ a, a ∈ q.dropLast → nb a) → jn p = jn q → p = q
  | [], [], _, _, _, _ => rfl
  | [], _ :: _, h, _, _, _ => by simp at h
  | _ :: _, [], h, _, _, _ => by simp at h
  | [a], [b], _, _, _, h => by rw [ba_eq (show a.data.toList = b.data.toList from h)]
  | [_], _ :: _ :: _, h, _, _, _ => by simp at h
  | _ :: _ :: _, [_], h, _, _, _ => by simp at h
  | a :: c :: r, b :: d :: s, hl, hp, hq, h => by
    obtain ⟨h1, h2⟩ := uniq32 (hp a (by simp [List.dropLast])) (hq b (by simp [List.dropLast])) (show a.data.toList ++ 32 :: jn (c :: r) = b.data.toList ++ 32 :: jn (d :: s) from h)
    rw [ba_eq h1, jn_same (c :: r) (d :: s) (by simpa using hl) (fun x hx => hp x (by rw [List.dropLast_cons_of_ne_nil (by simp)]; exact List.mem_cons_of_mem _ hx)) (fun x hx => hq x (by rw [List.dropLast_cons_of_ne_nil (by simp)]; exact List.mem_cons_of_mem _ hx)) h2]
theorem mem32 {a b x : List UInt8} (h : a = b ++ 32 :: x) : (32 : UInt8) ∈ a := by rw [h]; simp
theorem jn_uniq : ∀ (p q : List ByteArray), p ≠ [] → q ≠ [] → (∀ a, a ∈ p → nb a) → (∀ a, a ∈ q → nb a) → jn p = jn q → p = q
  | [], _, h, _, _, _, _ => absurd rfl h
  | _ :: _, [], _, h, _, _, _ => absurd rfl h
  | [a], [b], _, _, _, _, h => by rw [ba_eq (show a.data.toList = b.data.toList from h)]
  | [a], b :: c :: r, _, _, hp, _, h => absurd (mem32 (show a.data.toList = b.data.toList ++ 32 :: jn (c :: r) from h)) (hp a (by simp))
  | a :: c :: r, [b], _, _, _, hq, h => absurd (mem32 (show b.data.toList = a.data.toList ++ 32 :: jn (c :: r) from h.symm)) (hq b (by simp))
  | a :: c :: r, b :: d :: s, _, _, hp, hq, h => by
    obtain ⟨h1, h2⟩ := uniq32 (hp a (by simp)) (hq b (by simp)) (show a.data.toList ++ 32 :: jn (c :: r) = b.data.toList ++ 32 :: jn (d :: s) from h)
    rw [ba_eq h1, jn_uniq (c :: r) (d :: s) (by simp) (by simp) (fun x hx => hp x (List.mem_cons_of_mem _ hx)) (fun x hx => hq x (List.mem_cons_of_mem _ hx)) h2]
theorem ext_list (s : ByteArray) (i j : Nat) : (s.extract i j).data.toList = (s.data.toList.drop i).take (j - i) := by
  rw [ByteArray.data_extract, Array.toList_extract, List.extract_eq_take_drop]
theorem cut_list {s : ByteArray} (h : cutH s 32 = true) : s.data.toList = (cutL s 32).data.toList ++ 32 :: (cutR s 32).data.toList ∧ nb (cutL s 32) := by
  have hf : fnd s 32 < s.size := of_decide_eq_true h
  have hl : s.data.toList.findIdx (· == (32 : UInt8)) < s.data.toList.length := by rw [← size_len]; exact hf
  have e1 : (cutL s 32).data.toList = s.data.toList.take (fnd s 32) := by unfold cutL; rw [ext_list]; simp
  have e2 : (cutR s 32).data.toList = s.data.toList.drop (fnd s 32 + 1) := by
    unfold cutR; rw [if_pos hf, ext_list, List.take_of_length_le (by rw [List.length_drop, size_len]; exact Nat.le_refl _)]
  have hg : s.data.toList[s.data.toList.findIdx (· == (32 : UInt8))]'hl = 32 := by simpa using List.findIdx_getElem (p := (· == (32 : UInt8))) (xs := s.data.toList) (w := hl)
  have h3 : s.data.toList.drop (fnd s 32) = 32 :: s.data.toList.drop (fnd s 32 + 1) := by
    unfold fnd
    rw [List.drop_eq_getElem_cons hl, hg]
  refine ⟨?_, ?_⟩
  · rw [e1, e2, ← h3, List.take_append_drop]
  · unfold nb
    rw [e1]
    intro hm
    obtain ⟨i, hi, he⟩ := List.getElem_of_mem hm
    rw [List.getElem_take] at he
    have hi' : i < s.data.toList.findIdx (· == (32 : UInt8)) := by
      have := hi; rw [List.length_take] at this; unfold fnd at this; omega
    have := List.not_of_lt_findIdx hi'
    rw [he] at this
    simp at this
theorem cut_no {s : ByteArray} (h : cutH s 32 = false) : nb s := by
  have hf : ¬ fnd s 32 < s.size := of_decide_eq_false h
  unfold nb
  intro hm
  apply hf
  unfold fnd
  rw [size_len]
  exact List.findIdx_lt_length_of_exists ⟨32, hm, by simp⟩
theorem empty_sz {s : ByteArray} (h : s.size = 0) : s = (⟨#[]⟩ : ByteArray) := by
  apply ba_eq
  rw [size_len] at h
  rw [List.length_eq_zero_iff.1 h]
def pc : Nat → ByteArray → List ByteArray
  | 0, s => [s]
  | k + 1, s => if cutH s 32 = true then cutL s 32 :: pc k (cutR s 32) else [s]
theorem pc_ne : ∀ (k : Nat) (s : ByteArray), pc k s ≠ []
  | 0, _ => by simp [pc]
  | k + 1, s => by unfold pc; split <;> simp
theorem pc_jn : ∀ (k : Nat) (s : ByteArray), jn (pc k s) = s.data.toList
  | 0, _ => rfl
  | k + 1, s => by
    unfold pc
    split
    · rename_i h
      rw [jn_cons _ (pc_ne _ _), pc_jn k, ← (cut_list h).1]
    · rfl
theorem pc_len : ∀ (k : Nat) (s : ByteArray), (pc k s).length ≤ k + 1
  | 0, _ => Nat.le_refl _
  | k + 1, s => by
    unfold pc
    split
    · have := pc_len k (cutR s 32); rw [List.length_cons]; omega
    · simp
theorem pc_init : ∀ (k : Nat) (s : ByteArray) (a : ByteArray), a ∈ (pc k s).dropLast → nb a
  | 0, s, a, h => by simp [pc] at h
  | k + 1, s, a, h => by
    unfold pc at h
    by_cases hc : cutH s 32 = true
    · rw [if_pos hc, List.dropLast_cons_of_ne_nil (pc_ne _ _), List.mem_cons] at h
      rcases h with rfl | h
      · exact (cut_list hc).2
      · exact pc_init k _ a h
    · rw [if_neg hc] at h; simp at h
theorem pc_all : ∀ (k : Nat) (s : ByteArray), s.data.toList.count 32 ≤ k → ∀ a, a ∈ pc k s → nb a
  | 0, s, h, a, ha => by
    have e : a = s := by simpa [pc] using ha
    rw [e]
    exact List.count_eq_zero.1 (Nat.le_zero.1 h)
  | k + 1, s, h, a, ha => by
    unfold pc at ha
    by_cases hc : cutH s 32 = true
    · rw [if_pos hc, List.mem_cons] at ha
      obtain ⟨h1, h2⟩ := cut_list hc
      rcases ha with rfl | ha
      · exact h2
      · refine pc_all k _ ?_ a ha
        rw [h1, List.count_append, List.count_cons_self] at h
        omega
    · rw [if_neg hc] at ha
      have e : a = s := by simpa using ha
      rw [e]
      exact cut_no (by simpa using hc)
theorem pc_stay : ∀ (k j : Nat) (s : ByteArray), s.data.toList.count 32 ≤ k → s.data.toList.count 32 ≤ j → pc k s = pc j s := fun k j s hk hj =>
  jn_uniq _ _ (pc_ne _ _) (pc_ne _ _) (pc_all k s hk) (pc_all j s hj) (by rw [pc_jn, pc_jn])
theorem split_pc : ∀ (k : Nat) (s : ByteArray), Lib.splitB (⟨#[32]⟩ : ByteArray) 0 k s = pc k s
  | 0, _ => rfl
  | k + 1, s => by
    have hi := (indexB_one s 32).trans (index_is s 32)
    unfold pc
    by_cases hf : fnd s 32 < s.size
    · rw [if_pos hf] at hi
      rw [Lib.splitB_hit _ _ _ _ (fnd s 32) hi, if_pos (show cutH s 32 = true from decide_eq_true hf), split_pc k]
      unfold cutL cutR
      rw [if_pos hf]; rfl
    · rw [if_neg hf] at hi
      rw [Lib.splitB_miss _ _ _ _ hi, if_neg (by unfold cutH; simpa using hf)]
def hd : Nat → ByteArray → List ByteArray × ByteArray × Bool
  | 0, s => ([], s, true)
  | k + 1, s => if cutH s 32 = true ∧ (cutL s 32).size ≠ 0 then (cutL s 32 :: (hd k (cutR s 32)).1, (hd k (cutR s 32)).2.1, (hd k (cutR s 32)).2.2) else ([], (⟨#[]⟩ : ByteArray), false)
theorem hd_pc : ∀ (n : Nat) (s : ByteArray), (hd n s).2.2 = true → pc n s = (hd n s).1 ++ [(hd n s).2.1] ∧ (hd n s).1.length = n ∧ ∀ a, a ∈ (hd n s).1 → a.size ≠ 0
  | 0, s, _ => ⟨rfl, rfl, fun a h => by simp [hd] at h⟩
  | n + 1, s, h => by
    unfold hd at h ⊢
    unfold pc
    by_cases hc : cutH s 32 = true ∧ (cutL s 32).size ≠ 0
    · rw [if_pos hc] at h ⊢
      obtain ⟨h1, h2, h3⟩ := hd_pc n (cutR s 32) h
      rw [if_pos hc.1]
      refine ⟨by rw [h1]; rfl, by simp only [List.length_cons, h2], fun a ha => ?_⟩
      rcases List.mem_cons.1 ha with rfl | ha
      · exact hc.2
      · exact h3 a ha
    · rw [if_neg hc] at h; cases h
theorem hd_bad : ∀ (n : Nat) (s : ByteArray), (hd n s).2.2 = false → (pc n s).length ≤ n ∨ ∃ a, a ∈ (pc n s).dropLast ∧ a.size = 0
  | 0, s, h => by cases h
  | n + 1, s, h => by
    unfold hd at h
    unfold pc
    by_cases hc : cutH s 32 = true
    · rw [if_pos hc]
      by_cases hz : (cutL s 32).size = 0
      · right; exact ⟨cutL s 32, by rw [List.dropLast_cons_of_ne_nil (pc_ne _ _)]; exact List.mem_cons_self, hz⟩
      · rw [if_pos ⟨hc, hz⟩] at h
        rcases hd_bad n _ h with h1 | ⟨a, h1, h2⟩
        · left; rw [List.length_cons]; omega
        · right; exact ⟨a, by rw [List.dropLast_cons_of_ne_nil (pc_ne _ _)]; exact List.mem_cons_of_mem _ h1, h2⟩
    · rw [if_neg hc]; left; simp
theorem head_loop : ∀ (d : Nat) (s : ByteArray) (n : Int) (acc : List ByteArray), s.size ≤ 2000000 → acc.length + d ≤ 100 → (acc.length : Int) + d = n → Ev (fun k => spec_l13Head.l0 k s n acc) (acc ++ (hd d s).1, (hd d s).2.1, (hd d s).2.2)
  | 0, s, n, acc, hs, ha, he => by
    refine Ev.step (f := fun _ => some (acc, s, true)) (fun k => by rw [spec_l13Head.l0, if_neg (by omega)]) ?_
    unfold hd
    rw [List.append_nil]
    exact Ev.now _
  | d + 1, s, n, acc, hs, ha, he => by
    have hle := fnd_le s 32
    have hF := find_is s 32 hs
    rw [show (((32 : UInt8).toNat : Nat) : Int) = 32 from rfl] at hF
    refine Ev.step (fun k => by rw [spec_l13Head.l0, if_pos (by omega)]) ?_
    refine Ev.bind hF ?_
    unfold hd
    by_cases h0 : fnd s 32 = 0
    · have hb : ¬ (cutH s 32 = true ∧ (cutL s 32).size ≠ 0) := fun h => h.2 (by unfold cutL; rw [ext_size, h0]; omega)
      rw [if_neg hb, List.append_nil]
      simp only [h0]
      exact Ev.now _
    by_cases h1 : fnd s 32 = s.size
    · have hb : ¬ (cutH s 32 = true ∧ (cutL s 32).size ≠ 0) := fun h => by have := of_decide_eq_true h.1; omega
      rw [if_neg hb, List.append_nil]
      simp only [if_neg (show ¬ ((fnd s 32 : Nat) : Int) = 0 by omega), if_pos (show ((fnd s 32 : Nat) : Int) = (s.size : Int) by omega)]
      exact Ev.now _
    have hlt : fnd s 32 < s.size := by omega
    have hg : cutH s 32 = true ∧ (cutL s 32).size ≠ 0 := ⟨decide_eq_true hlt, by unfold cutL; rw [ext_size]; omega⟩
    have w : wrap64 ((fnd s 32 : Int) + 1) = ((fnd s 32 + 1 : Nat) : Int) := by rw [wr (by omega) (by omega)]; omega
    rw [if_pos hg]
    simp only [if_neg (show ¬ ((fnd s 32 : Nat) : Int) = 0 by omega), if_neg (show ¬ ((fnd s 32 : Nat) : Int) = (s.size : Int) by omega), if_pos (show (0 : Int) ≤ ((fnd s 32 : Nat) : Int) by omega), if_pos (show ((fnd s 32 : Nat) : Int) ≤ (s.size : Int) by omega), if_pos (show acc.length < 8796093022208 by omega), w, if_pos (show (0 : Int) ≤ ((fnd s 32 + 1 : Nat) : Int) by omega), if_pos (show ((fnd s 32 + 1 : Nat) : Int) ≤ (s.size : Int) by omega), Int.toNat_natCast]
    have eR : s.extract (fnd s 32 + 1) s.size = cutR s 32 := by unfold cutR; rw [if_pos hlt]
    have ih := head_loop d (cutR s 32) n (acc ++ [cutL s 32]) (by have := cutR_size s 32; omega) (by rw [List.length_append, List.length_singleton]; omega) (by rw [List.length_append, List.length_singleton]; omega)
    rw [eR]
    rw [List.append_assoc] at ih
    exact ih
theorem cut_loop (s : ByteArray) (hs : s.size ≤ 2000000) : ∀ (l : List UInt8) (i j : Nat) (acc : List ByteArray), i ≤ j → j ≤ s.size → s.data.toList.drop j = l → (32 : UInt8) ∉ (s.data.toList.drop i).take (j - i) → acc.length ≤ j →
    ∃ q : List ByteArray, Ev (fun k => spec_l00Cut.l0 k s 32 acc (i : Int) (j : Int)) (acc ++ q) ∧ q ≠ [] ∧ (∀ a, a ∈ q → nb a) ∧ jn q = s.data.toList.drop i
  | [], i, j, acc, hij, hj, hd, hn, ha => by
    have hz := drop_nil hd
    have e : (s.extract i s.size).data.toList = s.data.toList.drop i := by rw [ext_list, List.take_of_length_le (by rw [List.length_drop, size_len]; exact Nat.le_refl _)]
    refine ⟨[s.extract i s.size], ?_, by simp, fun a h => ?_, e⟩
    · refine Ev.step (f := fun _ => some (acc ++ [s.extract i s.size])) (fun k => ?_) (Ev.now _)
      rw [spec_l00Cut.l0, if_neg (by omega), if_pos (by omega), if_pos (by omega), if_pos (by omega)]; rfl
    · have h' : a = s.extract i s.size := by simpa using h
      unfold nb
      rw [h', e]
      rw [List.take_of_length_le (by rw [List.length_drop, ← size_len]; omega)] at hn
      exact hn
  | b :: l, i, j, acc, hij, hj, hd, hn, ha => by
    obtain ⟨h1, h2, h3⟩ := drop_cons hd
    by_cases e : b = 32
    · subst e
      obtain ⟨q, p1, p2, p3, p4⟩ := cut_loop s hs l (j + 1) (j + 1) (acc ++ [s.extract i j]) (Nat.le_refl _) (by omega) h3 (by simp) (by rw [List.length_append, List.length_singleton]; omega)
      refine ⟨s.extract i j :: q, ?_, by simp, fun a h => ?_, ?_⟩
      · have hw : wrap64 ((j : Int) + 1) = ((j + 1 : Nat) : Int) := by rw [wr (by omega) (by omega)]; omega
        refine Ev.step (f := fun k => spec_l00Cut.l0 k s 32 (acc ++ [s.extract i j]) ((j + 1 : Nat) : Int) ((j + 1 : Nat) : Int)) (fun k => ?_) (by rw [List.append_assoc] at p1; exact p1)
        rw [spec_l00Cut.l0, if_pos (by omega), if_pos (by omega), if_pos (by rw [h2]; rfl), if_pos (by omega), if_pos (by omega), if_pos (by omega), if_pos (by omega), hw]; rfl
      · rcases List.mem_cons.1 h with rfl | h
        · unfold nb; rw [ext_list]; exact hn
        · exact p3 a h
      · rw [jn_cons _ p2, p4, ext_list]
        have := List.take_append_drop (j - i) (s.data.toList.drop i)
        rw [List.drop_drop, show i + (j - i) = j by omega, hd, ← h3] at this
        exact this
    · have hn2 : (32 : UInt8) ∉ (s.data.toList.drop i).take (j + 1 - i) := by
        have hx : (s.data.toList.drop i)[j - i]? = some b := by
          rw [List.getElem?_drop, show i + (j - i) = j by omega, ← List.head?_drop, hd]; rfl
        rw [show j + 1 - i = (j - i) + 1 by omega, List.take_add_one, hx]
        intro hm
        rcases List.mem_append.1 hm with hm | hm
        · exact hn hm
        · simp at hm; exact e hm.symm
      obtain ⟨q, p1, p2, p3, p4⟩ := cut_loop s hs l i (j + 1) acc (by omega) (by omega) h3 hn2 (by omega)
      refine ⟨q, ?_, p2, p3, p4⟩
      refine Ev.step (f := fun k => spec_l00Cut.l0 k s 32 acc (i : Int) ((j + 1 : Nat) : Int)) (fun k => ?_) p1
      have hne : ¬ bt s (j : Int) = 32 := by rw [h2]; intro hh; apply e; apply UInt8.toNat_inj.1; rw [show (32 : UInt8).toNat = 32 from rfl]; omega
      have hw : wrap64 ((j : Int) + 1) = ((j + 1 : Nat) : Int) := by rw [wr (by omega) (by omega)]; omega
      rw [spec_l00Cut.l0, if_pos (by omega), if_pos (by omega), if_neg hne, hw]
theorem cut_all (s : ByteArray) (hs : s.size ≤ 2000000) : ∃ q : List ByteArray, Ev (fun k => spec_l00Cut.f k s 32) q ∧ q ≠ [] ∧ (∀ a, a ∈ q → nb a) ∧ jn q = s.data.toList := by
  obtain ⟨q, h1, h2, h3, h4⟩ := cut_loop s hs s.data.toList 0 0 [] (Nat.le_refl _) (Nat.zero_le _) rfl (by simp) (Nat.zero_le _)
  exact ⟨q, h1, h2, h3, h4⟩
theorem split_is (s : ByteArray) (hs : s.size ≤ 2000000) : ∃ q : List ByteArray, strings_Split.f s (⟨#[32]⟩ : ByteArray) = some q ∧ Ev (fun k => spec_l00Cut.f k s 32) q ∧ q ≠ [] ∧ (∀ a, a ∈ q → nb a) ∧ jn q = s.data.toList := by
  obtain ⟨q, h1, h2, h3, h4⟩ := cut_all s hs
  have hc : Lib.countB s (⟨#[32]⟩ : ByteArray) = s.data.toList.count 32 := Lib.count_one 32 s.data.toList
  refine ⟨q, ?_, h1, h2, h3, h4⟩
  unfold strings_Split.f
  rw [if_pos ⟨rfl, by omega⟩, split_pc, hc]
  congr 1
  exact jn_uniq _ _ (pc_ne _ _) h2 (pc_all _ _ (Nat.le_refl _)) h3 (by rw [pc_jn, h4])
theorem splitN_is (s : ByteArray) (hs : s.size ≤ 2000000) : strings_SplitN.f s (⟨#[32]⟩ : ByteArray) 9 = some (pc 8 s) := by
  unfold strings_SplitN.f
  rw [if_pos ⟨rfl, by omega, by omega, by omega⟩, split_pc]
  congr 1
  have hc : s.data.toList.count 32 ≤ s.size := by rw [size_len]; exact List.count_le_length
  by_cases h : 8 ≤ s.size
  · rw [show min (9 : Int).toNat (s.size + 1) - 1 = 8 by rw [show (9 : Int).toNat = 9 from rfl]; omega]
  · exact pc_stay _ _ _ (by rw [show (9 : Int).toNat = 9 from rfl]; omega) (by omega)
def isDig (b : UInt8) : Bool := decide (48 ≤ b.toNat) && decide (b.toNat ≤ 57)
def valFrom (acc : Nat) (l : List UInt8) : Nat := l.foldl (fun a b => a * 10 + (b.toNat - 48)) acc
theorem valFrom_cons (acc : Nat) (b : UInt8) (l : List UInt8) : valFrom acc (b :: l) = valFrom (acc * 10 + (b.toNat - 48)) l := by unfold valFrom; rw [List.foldl_cons]
theorem isDig_iff {b : UInt8} : isDig b = true ↔ 48 ≤ b.toNat ∧ b.toNat ≤ 57 := by simp [isDig]
theorem valFrom_lt : ∀ (l : List UInt8) (acc j : Nat), l.all isDig = true → acc < 10 ^ j → valFrom acc l < 10 ^ (j + l.length)
  | [], acc, j, _, h => h
  | b :: l, acc, j, hd, h => by
    rw [List.all_cons, Bool.and_eq_true] at hd
    have hb := isDig_iff.1 hd.1
    have e : 10 ^ (j + 1) = 10 ^ j * 10 := Nat.pow_succ 10 j
    rw [valFrom_cons, List.length_cons, show j + (l.length + 1) = j + 1 + l.length by omega]
    exact valFrom_lt l _ (j + 1) hd.2 (by omega)
theorem valFrom_ge : ∀ (l : List UInt8) (acc : Nat), acc ≤ valFrom acc l
  | [], _ => Nat.le_refl _
  | b :: l, acc => Nat.le_trans (by omega) (valFrom_ge l (acc * 10 + (b.toNat - 48)))
theorem p18 : (10 : Nat) ^ 18 = 1000000000000000000 := by decide
theorem pow_le {j : Nat} (h : j ≤ 18) : (10 : Nat) ^ j ≤ 1000000000000000000 := by rw [← p18]; exact Nat.pow_le_pow_right (by omega) h
theorem parse_digits : ∀ (l : List UInt8) (acc j : Nat), l.all isDig = true → acc < 10 ^ j → j + l.length ≤ 18 → Lib.parseUint10 acc l = .ok (valFrom acc l)
  | [], acc, j, _, _, _ => rfl
  | b :: l, acc, j, hd, h, hj => by
    rw [List.all_cons, Bool.and_eq_true] at hd
    have hb := isDig_iff.1 hd.1
    rw [List.length_cons] at hj
    have e : 10 ^ (j + 1) = 10 ^ j * 10 := Nat.pow_succ 10 j
    have hp := pow_le (show j + 1 ≤ 18 by omega)
    rw [Lib.parseUint10, if_pos hb, if_neg (by omega), if_neg (by omega), valFrom_cons]
    exact parse_digits l _ (j + 1) hd.2 (by omega) (by omega)
theorem ofNat_dig {b : UInt8} (h : isDig b = true) : UInt8.ofNat (48 + (b.toNat - 48)) = b := by
  have := isDig_iff.1 h
  rw [show 48 + (b.toNat - 48) = b.toNat by omega]
  exact UInt8.ofNat_toNat
theorem dec_of_val : ∀ (n : Nat) (l : List UInt8), l.length = n → l ≠ [] → l.all isDig = true → (∀ r, l ≠ 48 :: r ∨ r = []) → Lib.decDigits (valFrom 0 l) = l := by
  intro n
  induction n with
  | zero => intro l h hne; exact absurd (List.length_eq_zero_iff.1 h) hne
  | succ n ih =>
    intro l hl hne hd hz
    obtain ⟨l', b, rfl⟩ : ∃ l' b, l = l' ++ [b] := ⟨l.dropLast, l.getLast hne, (List.dropLast_concat_getLast hne).symm⟩
    rw [List.all_append, Bool.and_eq_true] at hd
    have hb : isDig b = true := by simpa using hd.2
    have hb' := isDig_iff.1 hb
    have ev : valFrom 0 (l' ++ [b]) = valFrom 0 l' * 10 + (b.toNat - 48) := by unfold valFrom; rw [List.foldl_append]; rfl
    rw [ev]
    by_cases he : l' = []
    · subst he
      show Lib.decDigits (0 * 10 + (b.toNat - 48)) = [b]
      rw [show 0 * 10 + (b.toNat - 48) = b.toNat - 48 by omega, Lib.decDigits_one (by omega), ofNat_dig hb]
    · have hlen : l'.length = n := by rw [List.length_append] at hl; simpa using hl
      have hz' : ∀ r, l' ≠ 48 :: r ∨ r = [] := by
        intro r
        by_cases e : l' = 48 :: r
        · rcases hz (r ++ [b]) with h | h
          · exact absurd (by rw [e]; rfl) h
          · exact absurd h (by simp)
        · exact .inl e
      have hpos : 1 ≤ valFrom 0 l' := by
        cases l' with
        | nil => exact absurd rfl he
        | cons c r =>
          have hc : c ≠ 48 := by
            rintro rfl
            rcases hz (r ++ [b]) with h | h
            · exact h rfl
            · exact absurd h (by simp)
          rw [List.all_cons, Bool.and_eq_true] at hd
          have := isDig_iff.1 hd.1.1
          have hc' : c.toNat ≠ 48 := fun h => hc (UInt8.toNat_inj.1 h)
          rw [valFrom_cons]
          have := valFrom_ge r (0 * 10 + (c.toNat - 48))
          omega
      have e10 : ¬ valFrom 0 l' * 10 + (b.toNat - 48) < 10 := by omega
      have i := ih l' hlen he hd.1 hz'
      rw [Lib.decDigits, dif_neg e10, show (valFrom 0 l' * 10 + (b.toNat - 48)) / 10 = valFrom 0 l' by omega, i, show (valFrom 0 l' * 10 + (b.toNat - 48)) % 10 = b.toNat - 48 by omega, ofNat_dig hb]
theorem dec_digits : ∀ u : Nat, (Lib.decDigits u).all isDig = true ∧ Lib.decDigits u ≠ [] ∧ (∀ r, Lib.decDigits u = 48 :: r → u = 0 ∧ r = []) := by
  intro u
  induction u using Nat.strongRecOn with
  | _ u ih =>
  by_cases h : u < 10
  · have e : (UInt8.ofNat (48 + u)).toNat = 48 + u := by rw [UInt8.toNat_ofNat']; omega
    rw [Lib.decDigits_one h]
    refine ⟨?_, by simp, ?_⟩
    · simp [isDig, e]; omega
    · intro r hr
      injection hr with h1 h2
      have : (UInt8.ofNat (48 + u)).toNat = (48 : UInt8).toNat := by rw [h1]
      rw [e] at this
      exact ⟨by have e48 : (48 : UInt8).toNat = 48 := rfl; omega, h2.symm⟩
  · have e : Lib.decDigits u = Lib.decDigits (u / 10) ++ [UInt8.ofNat (48 + u % 10)] := by rw [Lib.decDigits, dif_neg h]
    have i := ih (u / 10) (by omega)
    have en : (UInt8.ofNat (48 + u % 10)).toNat = 48 + u % 10 := by rw [UInt8.toNat_ofNat']; omega
    rw [e]
    refine ⟨?_, by simp, ?_⟩
    · rw [List.all_append, i.1, Bool.true_and]
      simp [isDig, en]; omega
    · intro r hr
      cases hc : Lib.decDigits (u / 10) with
      | nil => exact absurd hc i.2.1
      | cons c q =>
        rw [hc] at hr
        injection hr with h1 _
        have := (i.2.2 q (by rw [hc, h1])).1
        omega
def canon (neg : Bool) (l : List UInt8) : Bool := decide (l ≠ []) && (decide (l.length ≤ 18) && (!(decide (l.head? = some 48) && (decide (1 < l.length) || neg)) && l.all isDig))
theorem digits_loop (x : ByteArray) (s : Int) (hs : s = 1 ∨ s = -1) (hx : x.size ≤ 18) : ∀ (l : List UInt8) (i acc : Nat), x.data.toList.drop i = l → i + l.length = x.size → acc < 10 ^ i →
    Ev (fun k => spec_l00Number.l0 k x s (acc : Int) (i : Int)) (if l.all isDig = true then (s * (valFrom acc l : Int), true) else (0, false))
  | [], i, acc, h, hi, ha => by
    have hb := pow_le (show i ≤ 18 by rw [List.length_nil] at hi; omega)
    rw [if_pos (show ([] : List UInt8).all isDig = true from rfl)]
    rw [List.length_nil] at hi
    refine Ev.step (f := fun _ => some (s * (acc : Int), true)) (fun k => ?_) (Ev.now _)
    rw [spec_l00Number.l0, if_neg (by omega)]
    rcases hs with rfl | rfl <;> rw [wr (by omega) (by omega)]
  | b :: l, i, acc, h, hi, ha => by
    obtain ⟨h1, h2, h3⟩ := drop_cons h
    rw [List.length_cons] at hi
    have hb := pow_le (show i + 1 ≤ 18 by omega)
    have e10 : 10 ^ (i + 1) = 10 ^ i * 10 := Nat.pow_succ 10 i
    have hbt := b.toNat_lt
    by_cases c : isDig b = true
    · have hc := isDig_iff.1 c
      have ih := digits_loop x s hs hx l (i + 1) (acc * 10 + (b.toNat - 48)) h3 (by omega) (by omega)
      rw [List.all_cons, c, Bool.true_and, valFrom_cons]
      refine Ev.step (f := fun k => spec_l00Number.l0 k x s ((acc * 10 + (b.toNat - 48) : Nat) : Int) ((i + 1 : Nat) : Int)) (fun k => ?_) ih
      rw [spec_l00Number.l0, if_pos (by omega), if_pos (by omega), h2, if_neg (by omega), if_neg (by omega), wr (x := (acc : Int) * 10) (by omega) (by omega), wr (x := (b.toNat : Int)) (by omega) (by omega), wr (x := (acc : Int) * 10 + (b.toNat : Int)) (by omega) (by omega), wr (x := (acc : Int) * 10 + (b.toNat : Int) - 48) (by omega) (by omega), wr (x := (i : Int) + 1) (by omega) (by omega)]
      congr 1
      omega
    · have c' : isDig b = false := by simpa using c
      rw [List.all_cons, c', Bool.false_and, if_neg Bool.false_ne_true]
      have hn : ¬ (48 ≤ b.toNat ∧ b.toNat ≤ 57) := fun h => c (isDig_iff.2 h)
      refine Ev.step (f := fun _ => some (0, false)) (fun k => ?_) (Ev.now _)
      rw [spec_l00Number.l0, if_pos (by omega), if_pos (by omega), h2]
      by_cases d : b.toNat < 48
      · rw [if_pos (by omega)]
      · rw [if_neg (by omega), if_pos (by omega)]
theorem first_bt {t : ByteArray} {b : UInt8} {r : List UInt8} (h : t.data.toList = b :: r) : 0 < t.size ∧ bt t 0 = (b.toNat : Int) := by
  have := drop_cons (s := t) (i := 0) (b := b) (l := r) (by rw [List.drop_zero]; exact h)
  exact ⟨this.1, this.2.1⟩
theorem j2_bad (x : ByteArray) (s : Int) : Ev (fun k => spec_l00Number.j2 k x s true) (0, false) :=
  Ev.step (f := fun _ => some (0, false)) (fun k => by rw [spec_l00Number.j2]; simp) (Ev.now _)
theorem j2_good (x : ByteArray) (s : Int) (hs : s = 1 ∨ s = -1) (hx : x.size ≤ 18) : Ev (fun k => spec_l00Number.j2 k x s false) (if x.data.toList.all isDig = true then (s * (valFrom 0 x.data.toList : Int), true) else (0, false)) := by
  refine Ev.step (f := fun k => spec_l00Number.l0 k x s ((0 : Nat) : Int) ((0 : Nat) : Int)) (fun k => by rw [spec_l00Number.j2]; simp) ?_
  exact digits_loop x s hs hx x.data.toList 0 0 (by simp) (by rw [Nat.zero_add, size_len]) (by decide)
theorem j1_is (x : ByteArray) (neg : Bool) (s : Int) (hs : s = if neg = true then -1 else 1) (hx : x.size ≤ 2000000) : Ev (fun k => spec_l00Number.j1 k x s) (if canon neg x.data.toList = true then (s * (valFrom 0 x.data.toList : Int), true) else (0, false)) := by
  have hs' : s = 1 ∨ s = -1 := by cases neg <;> simp at hs <;> omega
  have hl := size_len x
  cases hc : x.data.toList with
  | nil =>
    rw [hc, List.length_nil] at hl
    have e : canon neg [] = false := by simp [canon]
    rw [e, if_neg Bool.false_ne_true]
    exact Ev.step (f := fun k => spec_l00Number.j2 k x s true) (fun k => by rw [spec_l00Number.j1, if_pos (by omega)]) (j2_bad x s)
  | cons b r =>
    obtain ⟨h0, hb⟩ := first_bt hc
    rw [hc] at hl
    by_cases h18 : x.size ≤ 18
    · have e1 : decide ((b :: r) ≠ []) = true := by simp
      have e2 : decide ((b :: r).length ≤ 18) = true := decide_eq_true (by omega)
      have ec : canon neg (b :: r) = (!(decide (b = 48) && (decide (1 < (b :: r).length) || neg)) && (b :: r).all isDig) := by
        unfold canon
        rw [e1, e2, Bool.true_and, Bool.true_and]
        congr 4
        simp
      have good := j2_good x s hs' h18
      rw [hc] at good
      rw [ec]
      by_cases h48 : b = 48
      · have hb48 : bt x 0 = 48 := by rw [hb, h48]; rfl
        rw [decide_eq_true h48, Bool.true_and]
        by_cases h1 : 1 < (b :: r).length
        · rw [decide_eq_true h1, Bool.true_or, Bool.not_true, Bool.false_and, if_neg Bool.false_ne_true]
          exact Ev.step (f := fun k => spec_l00Number.j2 k x s true) (fun k => by rw [spec_l00Number.j1, if_neg (by omega), if_neg (by omega), if_pos (by omega), if_pos hb48, if_pos (by omega)]) (j2_bad x s)
        · rw [decide_eq_false h1, Bool.false_or]
          cases neg with
          | true =>
            have hs1 : s = -1 := hs
            rw [Bool.not_true, Bool.false_and, if_neg Bool.false_ne_true]
            exact Ev.step (f := fun k => spec_l00Number.j2 k x s true) (fun k => by rw [spec_l00Number.j1, if_neg (by omega), if_neg (by omega), if_pos (by omega), if_pos hb48, if_neg (by omega), decide_eq_true (by omega)]) (j2_bad x s)
          | false =>
            have hs1 : s = 1 := hs
            rw [Bool.not_false, Bool.true_and]
            exact Ev.step (f := fun k => spec_l00Number.j2 k x s false) (fun k => by rw [spec_l00Number.j1, if_neg (by omega), if_neg (by omega), if_pos (by omega), if_pos hb48, if_neg (by omega), decide_eq_false (by omega)]) good
      · have hb48 : ¬ bt x 0 = 48 := by
          rw [hb]; intro h; apply h48; apply UInt8.toNat_inj.1; show b.toNat = 48; omega
        rw [decide_eq_false h48, Bool.false_and, Bool.not_false, Bool.true_and]
        exact Ev.step (f := fun k => spec_l00Number.j2 k x s false) (fun k => by rw [spec_l00Number.j1, if_neg (by omega), if_neg (by omega), if_pos (by omega), if_neg hb48]) good
    · have e : canon neg (b :: r) = false := by
        unfold canon
        rw [decide_eq_false (show ¬ (b :: r).length ≤ 18 by omega), Bool.false_and, Bool.and_false]
      rw [e, if_neg Bool.false_ne_true]
      exact Ev.step (f := fun k => spec_l00Number.j2 k x s true) (fun k => by rw [spec_l00Number.j1, if_neg (by omega), if_pos (by omega)]) (j2_bad x s)
theorem canon_iff {neg : Bool} {l : List UInt8} : canon neg l = true ↔ l ≠ [] ∧ l.length ≤ 18 ∧ (∀ r, l = 48 :: r → r = [] ∧ neg = false) ∧ l.all isDig = true := by
  unfold canon
  simp only [Bool.and_eq_true, decide_eq_true_eq, Bool.not_eq_true', Bool.and_eq_false_iff, decide_eq_false_iff_not, Bool.or_eq_false_iff]
  cases l with
  | nil => simp
  | cons b r =>
    simp only [List.head?_cons, Option.some.injEq, List.length_cons]
    constructor
    · rintro ⟨h1, h2, h3, h4⟩
      refine ⟨h1, h2, fun q hq => ?_, h4⟩
      injection hq with hb hr
      subst hr
      rcases h3 with h3 | ⟨h3, h5⟩
      · exact absurd hb h3
      · exact ⟨List.length_eq_zero_iff.1 (by omega), h5⟩
    · rintro ⟨h1, h2, h3, h4⟩
      refine ⟨h1, h2, ?_, h4⟩
      by_cases hb : b = 48
      · obtain ⟨e1, e2⟩ := h3 r (by rw [hb])
        subst e1
        exact .inr ⟨by simp, e2⟩
      · exact .inl hb
theorem atoi_canon {l : List UInt8} (h : canon false l = true) : Lib.atoiAll l = .ok (valFrom 0 l : Int) ∧ Lib.itoa (valFrom 0 l : Int) = l := by
  obtain ⟨h1, h2, h3, h4⟩ := canon_iff.1 h
  have hd : Lib.decDigits (valFrom 0 l) = l := dec_of_val _ l rfl h1 h4 fun r => by
    by_cases e : l = 48 :: r
    · exact .inr (h3 r e).1
    · exact .inl e
  have hv := valFrom_lt l 0 0 h4 (by decide)
  rw [Nat.zero_add] at hv
  have hp := pow_le h2
  refine ⟨?_, by rw [Lib.itoa_nonneg, hd]⟩
  cases l with
  | nil => exact absurd rfl h1
  | cons c r =>
    have hc : isDig c = true := by rw [List.all_cons, Bool.and_eq_true] at h4; exact h4.1
    have hc' := isDig_iff.1 hc
    have hm : Lib.parseMag (c :: r) = .ok (valFrom 0 (c :: r)) := by
      unfold Lib.parseMag
      rw [if_neg (by simp)]
      exact parse_digits _ 0 0 h4 (by decide) (by omega)
    rw [Lib.atoiAll_plain c r (by omega) (by omega), hm]
    show (if 9223372036854775808 ≤ valFrom 0 (c :: r) then Lib.NumEnd.range else .ok ((valFrom 0 (c :: r) : Nat) : Int)) = _
    rw [if_neg (by omega)]
theorem atoi_canon_neg {l : List UInt8} (h : canon true l = true) : Lib.atoiAll (45 :: l) = .ok (-(valFrom 0 l : Int)) ∧ Lib.itoa (-(valFrom 0 l : Int)) = 45 :: l := by
  obtain ⟨h1, h2, h3, h4⟩ := canon_iff.1 h
  have hd : Lib.decDigits (valFrom 0 l) = l := dec_of_val _ l rfl h1 h4 fun r => by
    by_cases e : l = 48 :: r
    · exact .inr (h3 r e).1
    · exact .inl e
  have hv := valFrom_lt l 0 0 h4 (by decide)
  rw [Nat.zero_add] at hv
  have hp := pow_le h2
  have hpos : 1 ≤ valFrom 0 l := by
    rcases Nat.eq_zero_or_pos (valFrom 0 l) with h0 | h0
    · rw [h0] at hd
      have : l = 48 :: [] := by rw [← hd]; exact Lib.decDigits_one (by omega)
      exact absurd (h3 [] this).2 (by decide)
    · exact h0
  refine ⟨?_, by rw [Lib.itoa_neg _ hpos, hd]⟩
  have hm : Lib.parseMag l = .ok (valFrom 0 l) := by
    unfold Lib.parseMag
    rw [if_neg h1]
    exact parse_digits _ 0 0 h4 (by decide) (by omega)
  rw [Lib.atoiAll_minus, hm]
  show (if 9223372036854775808 < valFrom 0 l then Lib.NumEnd.range else .ok (-((valFrom 0 l : Nat) : Int))) = _
  rw [if_neg (by omega)]
theorem canon_dec {u : Nat} (h : (Lib.decDigits u).length ≤ 18) : canon false (Lib.decDigits u) = true := by
  obtain ⟨h1, h2, h3⟩ := dec_digits u
  exact canon_iff.2 ⟨h2, h, fun r hr => ⟨(h3 r hr).2, rfl⟩, h1⟩
theorem canon_dec_neg {u : Nat} (hu : 1 ≤ u) (h : (Lib.decDigits u).length ≤ 18) : canon true (Lib.decDigits u) = true := by
  obtain ⟨h1, h2, h3⟩ := dec_digits u
  exact canon_iff.2 ⟨h2, h, fun r hr => by have := (h3 r hr).1; omega, h1⟩
theorem dec_head (u : Nat) (r : List UInt8) : Lib.decDigits u ≠ 45 :: r := by
  intro h
  have := (dec_digits u).1
  rw [h, List.all_cons, Bool.and_eq_true] at this
  exact absurd this.1 (by decide)
theorem ext_tail {t : ByteArray} {b : UInt8} {r : List UInt8} (h : t.data.toList = b :: r) : (t.extract 1 t.size).data.toList = r := by
  rw [ByteArray.data_extract, Array.toList_extract, List.extract_eq_take_drop, h]
  have hl := size_len t
  rw [h, List.length_cons] at hl
  show (List.drop 0 r).take (t.size - 1) = r
  rw [List.drop_zero]
  exact List.take_of_length_le (by omega)
theorem num_same (t : ByteArray) (ht : t.size ≤ 2000000) : ∃ n, Ev (fun k => spec_l00Number.f k t) (n, impl_number.ok t) ∧ (impl_number.ok t = true → n = impl_number.val t) := by
  have hl := size_len t
  -- the program's side
  have okOf : ∀ v, Lib.atoiAll t.data.toList = .ok v → impl_number.ok t = (decide (impl_number.dig t ≤ 18) && (Lib.itoa v == t.data.toList)) ∧ impl_number.val t = v := fun v e => by
    constructor
    · unfold impl_number.ok; rw [e]
    · unfold impl_number.val; rw [e]
  have okTo : impl_number.ok t = true → ∃ v, Lib.atoiAll t.data.toList = .ok v ∧ impl_number.dig t ≤ 18 ∧ Lib.itoa v = t.data.toList := fun h => by
    unfold impl_number.ok at h
    cases e : Lib.atoiAll t.data.toList with
    | ok v =>
      rw [e] at h
      simp only [Bool.and_eq_true, decide_eq_true_eq, beq_iff_eq] at h
      exact ⟨v, rfl, h.1, h.2⟩
    | «syntax» => rw [e] at h; cases h
    | range => rw [e] at h; cases h
  by_cases hneg : ∃ r, t.data.toList = 45 :: r
  · obtain ⟨r, hr⟩ := hneg
    obtain ⟨h0, hb⟩ := first_bt hr
    have hb45 : bt t 0 = 45 := hb
    have hdig : impl_number.dig t = (t.size : Int) - 1 := by unfold impl_number.dig; rw [if_pos ⟨h0, hb45⟩]
    rw [hr, List.length_cons] at hl
    have hx := ext_tail hr
    have hxs : (t.extract 1 t.size).size ≤ 2000000 := by rw [ext_size]; omega
    have j := j1_is (t.extract 1 t.size) true (-1) rfl hxs
    rw [hx] at j
    have sp : Ev (fun k => spec_l00Number.f k t) (if canon true r = true then (-1 * (valFrom 0 r : Int), true) else (0, false)) := by
      unfold spec_l00Number.f
      refine Ev.step (f := fun k => spec_l00Number.j1 k (t.extract 1 t.size) (-1)) (fun k => ?_) j
      rw [if_pos (by omega), if_pos (by omega), hb45, spec_l00Number.j0]
      simp only [beq_self_eq_true, if_true]
      rw [if_pos (by omega)]
    by_cases hc : canon true r = true
    · obtain ⟨a1, a2⟩ := atoi_canon_neg hc
      have hlen := (canon_iff.1 hc).2.1
      obtain ⟨o1, o2⟩ := okOf _ (by rw [hr]; exact a1)
      rw [a2, hdig, hr, decide_eq_true (by omega), Bool.true_and, beq_self_eq_true] at o1
      rw [if_pos hc] at sp
      exact ⟨_, by rw [o1]; exact sp, fun _ => by rw [o2]; omega⟩
    · have ho : impl_number.ok t = false := by
        cases h : impl_number.ok t with
        | false => rfl
        | true =>
          exfalso
          obtain ⟨v, _, hd, hi⟩ := okTo h
          apply hc
          rw [hr] at hi
          by_cases hv : 0 ≤ v
          · obtain ⟨u, rfl⟩ : ∃ u : Nat, v = u := ⟨v.toNat, by omega⟩
            rw [Lib.itoa_nonneg] at hi
            exact absurd hi (dec_head u r)
          · obtain ⟨u, rfl⟩ : ∃ u : Nat, v = -(u : Int) := ⟨v.natAbs, by omega⟩
            rw [Lib.itoa_neg u (by omega)] at hi
            injection hi with _ hi
            rw [← hi]
            exact canon_dec_neg (by omega) (by rw [hi]; omega)
      rw [if_neg hc] at sp
      exact ⟨_, by rw [ho]; exact sp, fun h => by rw [ho] at h; cases h⟩
  · have hb45 : ¬ (0 < t.size ∧ bt t 0 = 45) := by
      rintro ⟨h0, hb⟩
      cases hc : t.data.toList with
      | nil => rw [hc, List.length_nil] at hl; omega
      | cons b r =>
        have := (first_bt hc).2
        rw [hb] at this
        exact hneg ⟨r, by rw [hc, show b = 45 from UInt8.toNat_inj.1 (by show b.toNat = 45; omega)]⟩
    have hdig : impl_number.dig t = (t.size : Int) := by unfold impl_number.dig; rw [if_neg hb45]
    have j := j1_is t false 1 rfl ht
    have sp : Ev (fun k => spec_l00Number.f k t) (if canon false t.data.toList = true then (1 * (valFrom 0 t.data.toList : Int), true) else (0, false)) := by
      unfold spec_l00Number.f
      refine Ev.step (f := fun k => spec_l00Number.j1 k t 1) (fun k => ?_) j
      by_cases h0 : 0 < t.size
      · have hne : (bt t 0 == 45) = false := by rw [beq_eq_false_iff_ne]; exact fun h => hb45 ⟨h0, h⟩
        rw [if_pos (by omega), if_pos (by omega), hne, spec_l00Number.j0]
        simp
      · rw [if_neg (by omega), spec_l00Number.j0]
        simp
    by_cases hc : canon false t.data.toList = true
    · obtain ⟨a1, a2⟩ := atoi_canon hc
      have hlen := (canon_iff.1 hc).2.1
      obtain ⟨o1, o2⟩ := okOf _ a1
      rw [a2, hdig, decide_eq_true (by omega), Bool.true_and, beq_self_eq_true] at o1
      rw [if_pos hc] at sp
      exact ⟨_, by rw [o1]; exact sp, fun _ => by rw [o2]; omega⟩
    · have ho : impl_number.ok t = false := by
        cases h : impl_number.ok t with
        | false => rfl
        | true =>
          exfalso
          obtain ⟨v, _, hd, hi⟩ := okTo h
          apply hc
          by_cases hv : 0 ≤ v
          · obtain ⟨u, rfl⟩ : ∃ u : Nat, v = u := ⟨v.toNat, by omega⟩
            rw [Lib.itoa_nonneg] at hi
            rw [← hi]
            exact canon_dec (by rw [hi]; omega)
          · obtain ⟨u, rfl⟩ : ∃ u : Nat, v = -(u : Int) := ⟨v.natAbs, by omega⟩
            rw [Lib.itoa_neg u (by omega)] at hi
            exact absurd ⟨_, hi.symm⟩ hneg
      rw [if_neg hc] at sp
      exact ⟨_, by rw [ho]; exact sp, fun h => by rw [ho] at h; cases h⟩
theorem number_impl (t : ByteArray) (ht : t.size ≤ 2000000) : impl_number.f t = some (impl_number.val t, impl_number.ok t) := by
  unfold impl_number.f
  rw [if_pos (by omega)]
structure Evt where
  k : Int
  d : Int
  s : Int
  t : Int
  x : ByteArray
  n : ByteArray
  v0 : ByteArray
  v1 : ByteArray
  v2 : ByteArray
  v3 : ByteArray
  v4 : ByteArray
  v5 : ByteArray
  l : Int
  c : Int
  r : Bool
  z : Bool
abbrev R17 := Int × Int × Int × Int × ByteArray × ByteArray × ByteArray × ByteArray × ByteArray × ByteArray × ByteArray × ByteArray × Int × Int × Bool × Bool × Bool
def Evt.tup (e : Evt) (b : Bool) : R17 := (e.k, e.d, e.s, e.t, e.x, e.n, e.v0, e.v1, e.v2, e.v3, e.v4, e.v5, e.l, e.c, e.r, e.z, b)
def zE : Evt := ⟨0, 0, 0, 0, (⟨#[]⟩ : ByteArray), (⟨#[]⟩ : ByteArray), (⟨#[]⟩ : ByteArray), (⟨#[]⟩ : ByteArray), (⟨#[]⟩ : ByteArray), (⟨#[]⟩ : ByteArray), (⟨#[]⟩ : ByteArray), (⟨#[]⟩ : ByteArray), 0, 0, false, false⟩
def sJ (k : Nat) (b : Bool) (e : Evt) : Option R17 := spec_l13Read.j0 k b e.k e.d e.s e.t e.x e.n e.v0 e.v1 e.v2 e.v3 e.v4 e.v5 e.l e.c e.r e.z
def iJ (k : Nat) (t : ByteArray) (e : Evt) : Option R17 := impl_readEvent.j0 k t e.k e.d e.s e.t e.x e.n e.v0 e.v1 e.v2 e.v3 e.v4 e.v5 e.l e.c e.r e.z
def eT (k : Nat) (e : Evt) : Option (ByteArray × Bool) := impl_eventText.f k e.k e.d e.s e.t e.x e.n e.v0 e.v1 e.v2 e.v3 e.v4 e.v5 e.l e.c e.r e.z
def eB (e : Evt) (nm : Bool) : Bool := eventB e.k e.d e.s e.t e.x e.n e.v0 e.v1 e.v2 e.v3 e.v4 e.v5 e.l e.c e.r e.z nm
theorem ev_uniq {α : Type} {f : Nat → Option α} {a b : α} (h1 : Ev f a) (h2 : Ev f b) : a = b := by
  obtain ⟨K, hK⟩ := h1
  obtain ⟨J, hJ⟩ := h2
  exact Option.some.inj ((hK (max K J) (Nat.le_max_left _ _)).symm.trans (hJ (max K J) (Nat.le_max_right _ _)))
theorem tailS (b : Bool) (e : Evt) {nm : Bool} (hn : Ev (fun k => spec_l00Word.f k e.n) nm) : Ev (fun k => sJ k b e) (e.tup (b && eB e nm)) := by
  unfold sJ
  cases b with
  | false => exact Ev.step (f := fun _ => some (e.tup false)) (fun k => by rw [spec_l13Read.j0, if_neg Bool.false_ne_true]; rfl) (Ev.now _)
  | true =>
    refine Ev.step (fun k => by rw [spec_l13Read.j0, if_pos rfl]) ?_
    refine Ev.bind (event_spec e.k e.d e.s e.t e.x e.n e.v0 e.v1 e.v2 e.v3 e.v4 e.v5 e.l e.c e.r e.z hn) ?_
    exact Ev.now _
theorem tailI (t : ByteArray) (e : Evt) {nm : Bool} (hn : Ev (fun k => impl_NameOK.f k e.n) nm) {u : ByteArray} {tk : Bool} (ht : eB e nm = true → Ev (fun k => eT k e) (u, tk)) :
    Ev (fun k => iJ k t e) (if (eB e nm && (tk && decide (u = t))) = true then e.tup true else zE.tup false) := by
  unfold iJ
  refine Ev.step (fun k => by rw [impl_readEvent.j0]) ?_
  refine Ev.bind (event_impl e.k e.d e.s e.t e.x e.n e.v0 e.v1 e.v2 e.v3 e.v4 e.v5 e.l e.c e.r e.z hn) ?_
  cases h : eB e nm with
  | false =>
    have h' := h
    unfold eB at h'
    simp only [h', Bool.false_eq_true, if_false, Bool.false_and]
    exact Ev.now _
  | true =>
    have ht' := ht h
    have h' := h
    unfold eB at h'
    simp only [h', if_true, Bool.true_and]
    refine Ev.bind ht' ?_
    cases tk with
    | false => simp only [Bool.false_eq_true, if_false, Bool.false_and]; exact Ev.now _
    | true =>
      by_cases hu : u = t
      · subst hu
        simp only [if_true, decide_true, Bool.true_and]
        exact Ev.now _
      · have hu' : ¬ u.toList = t.toList := fun hh => hu (ba_eq (by rw [← toList_data, ← toList_data]; exact hh))
        simp only [if_true, decide_eq_false hu, Bool.true_and, if_neg hu', Bool.false_eq_true, if_false]
        exact Ev.now _
theorem both (t : ByteArray) (b : Bool) (e e2 : Evt) {u : ByteArray} {tk : Bool} (ht : ∀ nm, eB e2 nm = true → Ev (fun k => eT k e2) (u, tk))
    (h1 : b = true → ∀ nm, eB e nm = true → e2 = e ∧ tk = true ∧ u = t) (h2 : ∀ nm, eB e2 nm = true → tk = true → u = t → b = true ∧ e = e2) :
    ∃ ok : Bool, Ev (fun k => sJ k b e) (e.tup ok) ∧ Ev (fun k => iJ k t e2) (if ok = true then e.tup true else zE.tup false) := by
  obtain ⟨nm, n1, n2⟩ := name_same e.n
  obtain ⟨nm', m1, m2⟩ := name_same e2.n
  have S := tailS b e n1
  have I := tailI t e2 m2 (ht nm')
  refine ⟨b && eB e nm, S, ?_⟩
  cases hb : (b && eB e nm) with
  | true =>
    rw [Bool.and_eq_true] at hb
    obtain ⟨q1, q2, q3⟩ := h1 hb.1 nm hb.2
    subst q1
    have hnm := ev_uniq m1 n1
    subst hnm
    rw [hb.2, q2, decide_eq_true q3] at I
    exact I
  | false =>
    have hz : (eB e2 nm' && (tk && decide (u = t))) = false := by
      cases hx : (eB e2 nm' && (tk && decide (u = t))) with
      | false => rfl
      | true =>
        exfalso
        simp only [Bool.and_eq_true, decide_eq_true_eq] at hx
        obtain ⟨q1, q2⟩ := h2 nm' hx.1 hx.2.1 hx.2.2
        subst q2
        have hnm := ev_uniq m1 n1
        subst hnm
        rw [q1, hx.1] at hb
        cases hb
    rw [hz] at I
    exact I
theorem none_I (t : ByteArray) (e2 : Evt) {u : ByteArray} {tk : Bool} (ht : ∀ nm, eB e2 nm = true → Ev (fun k => eT k e2) (u, tk)) (h2 : ∀ nm, eB e2 nm = true → tk = true → u = t → False) :
    Ev (fun k => iJ k t e2) (zE.tup false) := by
  obtain ⟨nm', m1, m2⟩ := name_same e2.n
  have I := tailI t e2 m2 (ht nm')
  have hz : (eB e2 nm' && (tk && decide (u = t))) = false := by
    cases hx : (eB e2 nm' && (tk && decide (u = t))) with
    | false => rfl
    | true =>
      exfalso
      simp only [Bool.and_eq_true, decide_eq_true_eq] at hx
      exact h2 nm' hx.1 hx.2.1 hx.2.2
  rw [hz] at I
  exact I
theorem eB_k {e : Evt} {nm : Bool} (h : eB e nm = true) : 1 ≤ e.k ∧ e.k ≤ 6 := by
  have hk : inB e.k 1 6 = true := by
    cases hk : inB e.k 1 6 with
    | true => rfl
    | false =>
      unfold eB eventB eR1 at h
      rw [hk] at h
      simp at h
  unfold inB at hk
  simpa using hk
theorem ifF_eq {b x : Bool} (h : (if b = true then false else x) = true) : b = false ∧ x = true := by
  cases b with
  | true => simp at h
  | false => exact ⟨rfl, by simpa using h⟩
theorem eB_3 {e : Evt} {nm : Bool} (h : eB e nm = true) : ∃ six bad, eR3 e.d e.s e.n e.z nm (e.k == 6) bad = true ∧ bad = (if e.k = 5 then !inB e.t 1 1000 else e.t != 0) ∧ six = (if e.k = 4 then !violB e.v0 e.v1 e.v2 e.v3 e.v4 e.v5 e.l e.c else !zeroV e.v0 e.v1 e.v2 e.v3 e.v4 e.v5 e.l e.c e.r) ∧ six = false := by
  unfold eB eventB eR1 at h
  obtain ⟨_, h⟩ := ifF_eq h
  unfold eR2 at h
  obtain ⟨h2, h⟩ := ifF_eq h
  exact ⟨_, _, h, rfl, rfl, h2⟩
theorem eR3_bad {d s : Int} {n : ByteArray} {z nm six bad : Bool} (h : eR3 d s n z nm six bad = true) : bad = false := by
  unfold eR3 at h
  split at h
  · cases h
  · rename_i h2; simpa using h2
theorem eB_t {e : Evt} {nm : Bool} (hk : e.k = 5) (h : eB e nm = true) : 1 ≤ e.t ∧ e.t ≤ 1000 := by
  obtain ⟨six, bad, h3, hb, _, _⟩ := eB_3 h
  rw [eR3_bad h3, if_pos hk] at hb
  have : inB e.t 1 1000 = true := by simpa using hb.symm
  unfold inB at this
  simpa using this
theorem eB_s {e : Evt} {nm : Bool} (hk : e.k = 6) (h : eB e nm = true) : (0 ≤ e.d ∧ e.d ≤ 1000000) ∧ 100 ≤ e.s ∧ e.s ≤ 599 := by
  obtain ⟨six, bad, h3, hb, _, _⟩ := eB_3 h
  have hz := eR3_bad h3
  subst hz
  unfold eR3 at h3
  rw [if_neg Bool.false_ne_true, if_pos (by simpa using hk)] at h3
  unfold inB at h3
  simp at h3
  exact h3.2
theorem eB_v {e : Evt} {nm : Bool} (hk : e.k = 4) (h : eB e nm = true) : (0 ≤ e.l ∧ e.l ≤ 9999) ∧ (0 ≤ e.c ∧ e.c ≤ 9999) ∧ 1 ≤ e.v4.size := by
  obtain ⟨six, bad, h3, _, hv, h6⟩ := eB_3 h
  rw [h6, if_pos hk] at hv
  have hv' : violB e.v0 e.v1 e.v2 e.v3 e.v4 e.v5 e.l e.c = true := by simpa using hv.symm
  unfold violB ruleB inB at hv'
  simp at hv'
  obtain ⟨_, ⟨⟨a1, a2⟩, _⟩, _, ⟨b1, b2⟩, c1, c2⟩ := hv'
  exact ⟨⟨b1, b2⟩, ⟨c1, c2⟩, by omega⟩
theorem itoa_list (u : Nat) : (itoaB (u : Int)).data.toList = Lib.decDigits u := by
  unfold itoaB
  show (Lib.itoa (u : Int)) = _
  rw [Lib.itoa_nonneg]
theorem nd_lt : ∀ (k u : Nat), u < 10 ^ (k + 1) → Lib.nDigits u ≤ k + 1
  | 0, u, h => by rw [Lib.nDigits_small (by simpa using h)]; omega
  | k + 1, u, h => by
    by_cases z : u < 10
    · rw [Lib.nDigits_small z]; omega
    · rw [Lib.nDigits_big z]
      have h1 : u / 10 < 10 ^ (k + 1) := Nat.div_lt_of_lt_mul (by rw [Nat.pow_succ, Nat.mul_comm] at h; exact h)
      have := nd_lt k (u / 10) h1
      omega
theorem num_own (p : Int) (h0 : 0 ≤ p) (h1 : p ≤ 1000000) : impl_number.ok (itoaB p) = true := by
  obtain ⟨u, rfl⟩ : ∃ u : Nat, p = (u : Int) := ⟨p.toNat, by omega⟩
  have hl := itoa_list u
  have hs : (Lib.decDigits u).length ≤ 18 := by rw [Lib.decDigits_length]; have := nd_lt 6 u (by omega); omega
  obtain ⟨a1, a2⟩ := atoi_canon (canon_dec hs)
  have hsz := size_len (itoaB (u : Int))
  rw [hl] at hsz
  unfold impl_number.ok
  rw [hl, a1]
  have hd : impl_number.dig (itoaB (u : Int)) ≤ 18 := by unfold impl_number.dig; split <;> omega
  show (decide (impl_number.dig (itoaB (u : Int)) ≤ 18) && (Lib.itoa (valFrom 0 (Lib.decDigits u) : Int) == Lib.decDigits u)) = true
  rw [decide_eq_true hd, a2, Bool.true_and, beq_self_eq_true]
theorem nb_itoa (p : Int) (h0 : 0 ≤ p) : nb (itoaB p) := by
  obtain ⟨u, rfl⟩ : ∃ u : Nat, p = (u : Int) := ⟨p.toNat, by omega⟩
  unfold nb
  rw [itoa_list]
  intro hm
  have := isDig_iff.1 (List.all_eq_true.1 (dec_digits u).1 _ hm)
  have h2 : (32 : UInt8).toNat = 32 := rfl
  omega
theorem itoa_ne (p : Int) (h0 : 0 ≤ p) : (itoaB p).size ≠ 0 := by
  obtain ⟨u, rfl⟩ : ∃ u : Nat, p = (u : Int) := ⟨p.toNat, by omega⟩
  rw [size_len, itoa_list]
  intro h
  exact (dec_digits u).2.1 (List.length_eq_zero_iff.1 h)
theorem num_okE (s : ByteArray) (h : impl_number.ok s = true) : itoaB (impl_number.val s) = s := by
  unfold impl_number.ok at h
  unfold impl_number.val
  cases hA : Lib.atoiAll s.data.toList with
  | ok v =>
    rw [hA] at h
    simp only [Bool.and_eq_true, beq_iff_eq] at h
    apply ba_eq
    exact h.2
  | _ => rw [hA] at h; simp at h
theorem b_assoc (a b c : ByteArray) : a ++ b ++ c = a ++ (b ++ c) := by
  apply ByteArray.ext
  simp only [ByteArray.data_append, Array.append_assoc]
theorem behind {t w rest y p : ByteArray} (hl : t.data.toList = w.data.toList ++ 32 :: rest.data.toList) (hp : p.data.toList = w.data.toList ++ [32]) : p ++ y = t ↔ y.data.toList = rest.data.toList := by
  constructor
  · intro h
    rw [← h, app_l, hp, List.append_assoc] at hl
    have := List.append_cancel_left hl
    simpa using this
  · intro h
    apply ba_eq
    rw [app_l, hp, hl, h, List.append_assoc]; rfl
def dashB (x : ByteArray) : ByteArray := if x.toList = ([] : List UInt8) then (⟨#[45]⟩ : ByteArray) else x
def un (x : ByteArray) : ByteArray := if x.toList = ([45] : List UInt8) then (⟨#[]⟩ : ByteArray) else x
def gd (x : ByteArray) : Bool := decide (¬ x.toList = ([45] : List UInt8)) && x.data.toList.all goodB
def yn (r : Bool) : ByteArray := if r = true then (⟨#[121, 101, 115]⟩ : ByteArray) else (⟨#[110, 111]⟩ : ByteArray)
theorem dash_is (x : ByteArray) : impl_dash.f x = some (dashB x) := by
  unfold impl_dash.f dashB
  split <;> rfl
theorem un_spec (x : ByteArray) : spec_l13Unword.f x = some (un x) := by
  unfold spec_l13Unword.f un
  split <;> rfl
theorem un_impl (x : ByteArray) : impl_undash.f x = some (un x) := by
  unfold impl_undash.f un
  split <;> rfl
theorem dash_size (x : ByteArray) : (dashB x).size ≤ x.size + 1 := by
  unfold dashB
  split
  · show 1 ≤ _; omega
  · omega
theorem un_size (x : ByteArray) : (un x).size ≤ x.size := by
  unfold un
  split
  · rw [c0_size]; omega
  · omega
theorem size_nil {x : ByteArray} (h : x.size ≠ 0) : ¬ x.toList = ([] : List UInt8) := fun e => h (text_empty e)
theorem dash_un {x : ByteArray} (h : x.size ≠ 0) : dashB (un x) = x := by
  unfold un
  split
  · rename_i e
    unfold dashB
    rw [if_pos noBytes]
    exact ba_eq (by rw [← toList_data x, e])
  · unfold dashB
    rw [if_neg (size_nil h)]
theorem dash_ne (x : ByteArray) : (dashB x).size ≠ 0 := by
  unfold dashB
  split
  · show (1 : Nat) ≠ 0; omega
  · rename_i e
    intro h
    exact e (by rw [toList_data]; rw [size_len] at h; exact List.length_eq_zero_iff.1 h)
theorem good_nb {l : List UInt8} (h : l.all goodB = true) : (32 : UInt8) ∉ l := by
  intro hm
  have := List.all_eq_true.1 h _ hm
  exact absurd this (by decide)
theorem gd_dash {x : ByteArray} (h : gd x = true) : (dashB x).data.toList.all goodB = true := by
  unfold gd at h
  rw [Bool.and_eq_true] at h
  unfold dashB
  split
  · decide
  · exact h.2
theorem gd_un {x : ByteArray} (h : x.data.toList.all goodB = true) : gd (un x) = true := by
  unfold gd un
  split
  · rw [noBytes]; decide
  · rename_i e
    rw [h, decide_eq_true e]; rfl
theorem nb_yn (r : Bool) : nb (yn r) := by
  unfold nb yn
  cases r <;> decide
section
variable (a6 a7 a8 a9 a10 a11 : ByteArray) (l c : Int) (r : Bool)
def vr (y s : ByteArray) : List ByteArray → ByteArray → ByteArray × Bool
  | [], acc => ((((acc ++ (⟨#[32]⟩ : ByteArray)) ++ y) ++ (⟨#[32]⟩ : ByteArray)) ++ s, true)
  | x :: xs, acc => if gd x = true then vr y s xs (acc ++ ((⟨#[32]⟩ : ByteArray) ++ dashB x)) else ((⟨#[]⟩ : ByteArray), false)
theorem vr_last (acc : ByteArray) (ha : acc.size ≤ 100000000) (hs : a11.size ≤ 1048576) : Ev (fun k => impl_eventText.l0 k (yn r) acc [a6, a7, a8, a9] 4 4 a6 a7 a8 a9 a10 a11 l c r) (vr (yn r) a11 [] acc) := by
  have y1 : (⟨#[32]⟩ : ByteArray).size = 1 := rfl
  have y2 : (yn r).size ≤ 3 := by unfold yn; cases r <;> decide
  refine Ev.step (f := fun _ => some (vr (yn r) a11 [] acc)) (fun k => ?_) (Ev.now _)
  rw [impl_eventText.l0, if_neg (by omega), if_pos (by omega), if_pos (by rw [ByteArray.size_append, y1]; omega), if_pos (by simp only [ByteArray.size_append, y1]; omega), if_pos (by simp only [ByteArray.size_append, y1]; omega)]
  rfl
theorem vr_step (i : Int) (x acc : ByteArray) (xs : List ByteArray) (h0 : 0 ≤ i) (h1 : i < 4) (hx : rdOf ByteArray.empty [a6, a7, a8, a9] i = x) (sx : x.size ≤ 1048576) (ha : acc.size ≤ 50000000)
    (hn : Ev (fun k => impl_eventText.l0 k (yn r) (acc ++ ((⟨#[32]⟩ : ByteArray) ++ dashB x)) [a6, a7, a8, a9] 4 (i + 1) a6 a7 a8 a9 a10 a11 l c r) (vr (yn r) a11 xs (acc ++ ((⟨#[32]⟩ : ByteArray) ++ dashB x)))) :
    Ev (fun k => impl_eventText.l0 k (yn r) acc [a6, a7, a8, a9] 4 i a6 a7 a8 a9 a10 a11 l c r) (vr (yn r) a11 (x :: xs) acc) := by
  have y1 : (⟨#[32]⟩ : ByteArray).size = 1 := rfl
  have len : i < (([a6, a7, a8, a9] : List ByteArray).length : Int) := by simp only [List.length_cons, List.length_nil]; omega
  have sh := shown_impl x (by omega)
  have ds := dash_size x
  by_cases d : x.toList = ([45] : List UInt8)
  · refine Ev.step (f := fun _ => some ((⟨#[]⟩ : ByteArray), false)) (fun k => ?_) ?_
    · rw [impl_eventText.l0, if_pos h1, if_pos h0, if_pos len, hx, if_pos d]
    · have hg : gd x = false := by unfold gd; rw [decide_eq_false (by simpa using d)]; rfl
      unfold vr
      rw [hg, if_neg Bool.false_ne_true]
      exact Ev.now _
  have hg : gd x = x.data.toList.all goodB := by unfold gd; rw [decide_eq_true d, Bool.true_and]
  refine Ev.step (f := fun k => (impl_areShown.f k x).bind fun t => if t = true then impl_eventText.l0 k (yn r) (acc ++ ((⟨#[32]⟩ : ByteArray) ++ dashB x)) [a6, a7, a8, a9] 4 (i + 1) a6 a7 a8 a9 a10 a11 l c r else some ((⟨#[]⟩ : ByteArray), false)) (fun k => ?_) (Ev.bind sh ?_)
  · rw [impl_eventText.l0, if_pos h1, if_pos h0, if_pos len, hx, if_neg d, dash_is]
    simp only [Option.bind_some]
    rw [if_pos (by omega), if_pos (by simp only [ByteArray.size_append, y1]; omega), wr (x := i + 1) (by omega) (by omega)]
  · unfold vr
    rw [hg]
    cases x.data.toList.all goodB with
    | true => simp only [if_true]; exact hn
    | false => simp only [Bool.false_eq_true, if_false]; exact Ev.now _
def vHead : ByteArray := (((((⟨#[118, 105, 111, 108, 97, 116, 105, 111, 110, 32]⟩ : ByteArray) ++ a10) ++ (⟨#[32]⟩ : ByteArray)) ++ itoaB l) ++ (⟨#[32]⟩ : ByteArray)) ++ itoaB c
theorem vr_all (s6 : a6.size ≤ 1048576) (s7 : a7.size ≤ 1048576) (s8 : a8.size ≤ 1048576) (s9 : a9.size ≤ 1048576) (s10 : a10.size ≤ 1048576) (s11 : a11.size ≤ 1048576) (l0 : -9223372036854775808 ≤ l) (l1 : l ≤ 9223372036854775807) (c0 : -9223372036854775808 ≤ c) (c1 : c ≤ 9223372036854775807) :
    Ev (fun k => impl_eventText.j0 k (yn r) a6 a7 a8 a9 a10 a11 l c r) (vr (yn r) a11 [a6, a7, a8, a9] (vHead a10 l c)) := by
  have d1 := itoaB_size l l0 l1
  have d2 := itoaB_size c c0 c1
  have y1 : (⟨#[32]⟩ : ByteArray).size = 1 := rfl
  have y10 : (⟨#[118, 105, 111, 108, 97, 116, 105, 111, 110, 32]⟩ : ByteArray).size = 10 := rfl
  have hh : (vHead a10 l c).size ≤ 1048676 := by unfold vHead; simp only [ByteArray.size_append, y1, y10]; omega
  have z6 := dash_size a6
  have z7 := dash_size a7
  have z8 := dash_size a8
  have z9 := dash_size a9
  refine Ev.step (f := fun k => impl_eventText.l0 k (yn r) (vHead a10 l c) [a6, a7, a8, a9] 4 0 a6 a7 a8 a9 a10 a11 l c r) (fun k => ?_) ?_
  · rw [impl_eventText.j0]
    simp only [decimal_is l l0 l1, decimal_is c c0 c1, Option.bind_some]
    rw [if_pos (by omega), if_pos (by simp only [ByteArray.size_append, y10]; omega), if_pos (by simp only [ByteArray.size_append, y1, y10]; omega), if_pos (by simp only [ByteArray.size_append, y1, y10]; omega), if_pos (by simp only [ByteArray.size_append, y1, y10]; omega)]
    rfl
  · refine vr_step a6 a7 a8 a9 a10 a11 l c r 0 a6 _ _ (by omega) (by omega) rfl s6 (by omega) ?_
    refine vr_step a6 a7 a8 a9 a10 a11 l c r 1 a7 _ _ (by omega) (by omega) rfl s7 (by simp only [ByteArray.size_append, y1]; omega) ?_
    refine vr_step a6 a7 a8 a9 a10 a11 l c r 2 a8 _ _ (by omega) (by omega) rfl s8 (by simp only [ByteArray.size_append, y1]; omega) ?_
    refine vr_step a6 a7 a8 a9 a10 a11 l c r 3 a9 _ _ (by omega) (by omega) rfl s9 (by simp only [ByteArray.size_append, y1]; omega) ?_
    exact vr_last a6 a7 a8 a9 a10 a11 l c r _ (by simp only [ByteArray.size_append, y1]; omega) s11
def vJ : List ByteArray := [a10, itoaB l, itoaB c, dashB a6, dashB a7, dashB a8, dashB a9, yn r, a11]
def vRest : ByteArray := a10 ++ ((⟨#[32]⟩ : ByteArray) ++ (itoaB l ++ ((⟨#[32]⟩ : ByteArray) ++ (itoaB c ++ ((⟨#[32]⟩ : ByteArray) ++ (dashB a6 ++ ((⟨#[32]⟩ : ByteArray) ++ (dashB a7 ++ ((⟨#[32]⟩ : ByteArray) ++ (dashB a8 ++ ((⟨#[32]⟩ : ByteArray) ++ (dashB a9 ++ ((⟨#[32]⟩ : ByteArray) ++ (yn r ++ ((⟨#[32]⟩ : ByteArray) ++ a11)))))))))))))))
theorem vRest_is : (vRest a6 a7 a8 a9 a10 a11 l c r).data.toList = jn (vJ a6 a7 a8 a9 a10 a11 l c r) := by
  have h : ∀ (x y : ByteArray), (x ++ ((⟨#[32]⟩ : ByteArray) ++ y)).data.toList = x.data.toList ++ 32 :: y.data.toList := fun x y => by rw [app_l, app_l]; rfl
  unfold vRest vJ
  simp only [h, jn]
def vG : Bool := gd a6 && (gd a7 && (gd a8 && gd a9))
theorem vr_is (acc y : ByteArray) : vr y a11 [a6, a7, a8, a9] acc = if vG a6 a7 a8 a9 = true then (acc ++ ((⟨#[32]⟩ : ByteArray) ++ (dashB a6 ++ ((⟨#[32]⟩ : ByteArray) ++ (dashB a7 ++ ((⟨#[32]⟩ : ByteArray) ++ (dashB a8 ++ ((⟨#[32]⟩ : ByteArray) ++ (dashB a9 ++ ((⟨#[32]⟩ : ByteArray) ++ (y ++ ((⟨#[32]⟩ : ByteArray) ++ a11))))))))))), true) else ((⟨#[]⟩ : ByteArray), false) := by
  unfold vG
  simp only [vr]
  cases gd a6 <;> cases gd a7 <;> cases gd a8 <;> cases gd a9 <;> simp [b_assoc]
end
theorem eT_v (e : Evt) (k1 : ¬ e.k = 1) (k2 : ¬ e.k = 2) (k3 : ¬ e.k = 3) (k5 : ¬ e.k = 5) (k6 : ¬ e.k = 6) (s6 : e.v0.size ≤ 1048576) (s7 : e.v1.size ≤ 1048576) (s8 : e.v2.size ≤ 1048576) (s9 : e.v3.size ≤ 1048576) (s10 : e.v4.size ≤ 1048576) (s11 : e.v5.size ≤ 1048576) (l0 : -9223372036854775808 ≤ e.l) (l1 : e.l ≤ 9223372036854775807) (c0 : -9223372036854775808 ≤ e.c) (c1 : e.c ≤ 9223372036854775807) :
    Ev (fun k => eT k e) (if vG e.v0 e.v1 e.v2 e.v3 = true then (⟨#[118, 105, 111, 108, 97, 116, 105, 111, 110, 32]⟩ : ByteArray) ++ vRest e.v0 e.v1 e.v2 e.v3 e.v4 e.v5 e.l e.c e.r else (⟨#[]⟩ : ByteArray), vG e.v0 e.v1 e.v2 e.v3) := by
  have h := vr_all e.v0 e.v1 e.v2 e.v3 e.v4 e.v5 e.l e.c e.r s6 s7 s8 s9 s10 s11 l0 l1 c0 c1
  rw [vr_is] at h
  have hr : (if vG e.v0 e.v1 e.v2 e.v3 = true then (⟨#[118, 105, 111, 108, 97, 116, 105, 111, 110, 32]⟩ : ByteArray) ++ vRest e.v0 e.v1 e.v2 e.v3 e.v4 e.v5 e.l e.c e.r else (⟨#[]⟩ : ByteArray), vG e.v0 e.v1 e.v2 e.v3) = (if vG e.v0 e.v1 e.v2 e.v3 = true then (vHead e.v4 e.l e.c ++ ((⟨#[32]⟩ : ByteArray) ++ (dashB e.v0 ++ ((⟨#[32]⟩ : ByteArray) ++ (dashB e.v1 ++ ((⟨#[32]⟩ : ByteArray) ++ (dashB e.v2 ++ ((⟨#[32]⟩ : ByteArray) ++ (dashB e.v3 ++ ((⟨#[32]⟩ : ByteArray) ++ (yn e.r ++ ((⟨#[32]⟩ : ByteArray) ++ e.v5))))))))))), true) else ((⟨#[]⟩ : ByteArray), false)) := by
    cases vG e.v0 e.v1 e.v2 e.v3 with
    | false => simp
    | true => simp only [if_true]; unfold vRest vHead; simp only [b_assoc]
  rw [hr]
  refine Ev.congr (fun k => ?_) h
  unfold eT impl_eventText.f
  simp only [if_neg k1, if_neg k2, if_neg k3, if_neg k5, if_neg k6]
  cases e.r <;> rfl
theorem eT_5 (e : Evt) (hk : e.k = 5) (t0 : 0 ≤ e.t) (t1 : e.t ≤ 1000000) : Ev (fun k => eT k e) ((⟨#[116, 105, 99, 107, 32]⟩ : ByteArray) ++ itoaB e.t, true) := by
  have d1 := itoaB_size e.t (by omega) (by omega)
  unfold eT impl_eventText.f
  simp only [hk, if_neg (show ¬ (5 : Int) = 1 by omega), if_neg (show ¬ (5 : Int) = 2 by omega), if_neg (show ¬ (5 : Int) = 3 by omega), if_true, decimal_is e.t (by omega) (by omega), Option.bind_some, if_pos (show 5 + (itoaB e.t).size ≤ 9223372036854775807 by omega)]
  exact Ev.now _
theorem eT_6 (e : Evt) (hk : e.k = 6) (hn : e.n.size ≤ 1048576) (d0 : 0 ≤ e.d) (d1 : e.d ≤ 1000000) (s0 : 0 ≤ e.s) (s1 : e.s ≤ 1000000) :
    Ev (fun k => eT k e) ((⟨#[115, 101, 110, 100, 32]⟩ : ByteArray) ++ (e.n ++ ((⟨#[32]⟩ : ByteArray) ++ (itoaB e.d ++ ((⟨#[32]⟩ : ByteArray) ++ (itoaB e.s ++ (if e.z = true then (⟨#[32, 108, 111, 115, 116]⟩ : ByteArray) else (⟨#[]⟩ : ByteArray))))))), true) := by
  have z1 := itoaB_size e.d (by omega) (by omega)
  have z2 := itoaB_size e.s (by omega) (by omega)
  have y1 : (⟨#[32]⟩ : ByteArray).size = 1 := rfl
  have y5 : (⟨#[115, 101, 110, 100, 32]⟩ : ByteArray).size = 5 := rfl
  unfold eT impl_eventText.f
  simp only [hk, if_neg (show ¬ (6 : Int) = 1 by omega), if_neg (show ¬ (6 : Int) = 2 by omega), if_neg (show ¬ (6 : Int) = 3 by omega), if_neg (show ¬ (6 : Int) = 5 by omega), if_true, decimal_is e.d (by omega) (by omega), decimal_is e.s (by omega) (by omega), Option.bind_some]
  rw [if_pos (by omega), if_pos (by simp only [ByteArray.size_append, y5]; omega), if_pos (by simp only [ByteArray.size_append, y1, y5]; omega), if_pos (by simp only [ByteArray.size_append, y1, y5]; omega), if_pos (by simp only [ByteArray.size_append, y1, y5]; omega)]
  have ez : ∀ x : ByteArray, x ++ (⟨#[]⟩ : ByteArray) = x := fun x => ba_eq (by rw [app_l]; simp)
  cases e.z with
  | true =>
    simp only [if_true]
    rw [if_pos (by simp only [ByteArray.size_append, y1, y5]; omega)]
    simp only [b_assoc]
    exact Ev.now _
  | false =>
    simp only [Bool.false_eq_true, if_false, ez, b_assoc]
    exact Ev.now _
def pE (p0 p1 p2 p3 p4 p5 p6 p7 p8 : ByteArray) (n1 n2 : Int) : Evt := ⟨4, 0, 0, 0, (⟨#[]⟩ : ByteArray), (⟨#[]⟩ : ByteArray), un p3, un p4, un p5, un p6, p0, p8, n1, n2, (p7.toList == ([121, 101, 115] : List UInt8)), false⟩
def pG (p3 p4 p5 p6 : ByteArray) : Bool := p3.data.toList.all goodB && (p4.data.toList.all goodB && (p5.data.toList.all goodB && p6.data.toList.all goodB))
theorem rl_end (q0 q1 q2 q3 q4 q5 q6 q7 rest : ByteArray) (f b1 b2 : Bool) (n1 n2 : Int) : Ev (fun k => spec_l13ReadViolation.l0 k [q0, q1, q2, q3, q4, q5, q6, q7] rest f n1 b1 n2 b2 7) ((pE q0 q1 q2 q3 q4 q5 q6 q7 rest n1 n2).tup (f && (b1 && b2))) := by
  refine Ev.step (f := fun _ => some ((pE q0 q1 q2 q3 q4 q5 q6 q7 rest n1 n2).tup (f && (b1 && b2)))) (fun k => ?_) (Ev.now _)
  have r0 : rdOf ByteArray.empty [q0, q1, q2, q3, q4, q5, q6, q7] 0 = q0 := rfl
  have r3 : rdOf ByteArray.empty [q0, q1, q2, q3, q4, q5, q6, q7] 3 = q3 := rfl
  have r4 : rdOf ByteArray.empty [q0, q1, q2, q3, q4, q5, q6, q7] 4 = q4 := rfl
  have r5 : rdOf ByteArray.empty [q0, q1, q2, q3, q4, q5, q6, q7] 5 = q5 := rfl
  have r6 : rdOf ByteArray.empty [q0, q1, q2, q3, q4, q5, q6, q7] 6 = q6 := rfl
  have r7 : rdOf ByteArray.empty [q0, q1, q2, q3, q4, q5, q6, q7] 7 = q7 := rfl
  have ln : (([q0, q1, q2, q3, q4, q5, q6, q7] : List ByteArray).length : Int) = 8 := rfl
  rw [spec_l13ReadViolation.l0, if_neg (by omega)]
  simp only [ln, r0, r3, r4, r5, r6, r7, un_spec, Option.bind_some]
  rw [if_pos (by omega), if_pos (by omega), if_pos (by omega), if_pos (by omega), if_pos (by omega), if_pos (by omega)]
  unfold Evt.tup pE
  cases f <;> cases b1 <;> simp
theorem rl_step (q0 q1 q2 q3 q4 q5 q6 q7 rest x : ByteArray) (f b1 b2 : Bool) (n1 n2 i : Int) (R : Bool → R17) (h0 : 0 ≤ i) (h1 : i < 7) (hx : rdOf ByteArray.empty [q0, q1, q2, q3, q4, q5, q6, q7] i = x) (sx : x.size ≤ 1048576)
    (hn : ∀ g, Ev (fun k => spec_l13ReadViolation.l0 k [q0, q1, q2, q3, q4, q5, q6, q7] rest g n1 b1 n2 b2 (i + 1)) (R g)) : Ev (fun k => spec_l13ReadViolation.l0 k [q0, q1, q2, q3, q4, q5, q6, q7] rest f n1 b1 n2 b2 i) (R (f && x.data.toList.all goodB)) := by
  have len : i < (([q0, q1, q2, q3, q4, q5, q6, q7] : List ByteArray).length : Int) := by simp only [List.length_cons, List.length_nil]; omega
  have w := wr (x := i + 1) (by omega) (by omega)
  cases f with
  | false =>
    refine Ev.step (fun k => by rw [spec_l13ReadViolation.l0, if_pos h1, if_neg Bool.false_ne_true, w]) ?_
    exact hn false
  | true =>
    have ow := only_spec x (⟨#[]⟩ : ByteArray) (by omega) (by show (0 : Nat) ≤ 1000; omega)
    have e0 : onlyB x.data.toList (⟨#[]⟩ : ByteArray).data.toList = x.data.toList.all goodB := by
      unfold onlyB
      congr 1
      funext b
      simp
    rw [e0] at ow
    refine Ev.step (fun k => by rw [spec_l13ReadViolation.l0, if_pos h1, if_pos rfl, if_pos h0, if_pos len, hx, w]) ?_
    refine Ev.bind ow ?_
    rw [Bool.true_and]
    exact hn _
theorem rl_all (q0 q1 q2 q3 q4 q5 q6 q7 rest : ByteArray) (b1 b2 : Bool) (n1 n2 : Int) (s3 : q3.size ≤ 1048576) (s4 : q4.size ≤ 1048576) (s5 : q5.size ≤ 1048576) (s6 : q6.size ≤ 1048576) :
    Ev (fun k => spec_l13ReadViolation.l0 k [q0, q1, q2, q3, q4, q5, q6, q7] rest true n1 b1 n2 b2 3) ((pE q0 q1 q2 q3 q4 q5 q6 q7 rest n1 n2).tup (pG q3 q4 q5 q6 && (b1 && b2))) := by
  have h := rl_step q0 q1 q2 q3 q4 q5 q6 q7 rest q3 true b1 b2 n1 n2 3 (fun g => (pE q0 q1 q2 q3 q4 q5 q6 q7 rest n1 n2).tup ((((g && q4.data.toList.all goodB) && q5.data.toList.all goodB) && q6.data.toList.all goodB) && (b1 && b2))) (by omega) (by omega) rfl s3 (fun g =>
    rl_step q0 q1 q2 q3 q4 q5 q6 q7 rest q4 g b1 b2 n1 n2 4 (fun g => (pE q0 q1 q2 q3 q4 q5 q6 q7 rest n1 n2).tup (((g && q5.data.toList.all goodB) && q6.data.toList.all goodB) && (b1 && b2))) (by omega) (by omega) rfl s4 (fun g =>
      rl_step q0 q1 q2 q3 q4 q5 q6 q7 rest q5 g b1 b2 n1 n2 5 (fun g => (pE q0 q1 q2 q3 q4 q5 q6 q7 rest n1 n2).tup ((g && q6.data.toList.all goodB) && (b1 && b2))) (by omega) (by omega) rfl s5 (fun g =>
        rl_step q0 q1 q2 q3 q4 q5 q6 q7 rest q6 g b1 b2 n1 n2 6 (fun g => (pE q0 q1 q2 q3 q4 q5 q6 q7 rest n1 n2).tup (g && (b1 && b2))) (by omega) (by omega) rfl s6 (fun g => rl_end q0 q1 q2 q3 q4 q5 q6 q7 rest g b1 b2 n1 n2))))
  have e : ((((true && q3.data.toList.all goodB) && q4.data.toList.all goodB) && q5.data.toList.all goodB) && q6.data.toList.all goodB) = pG q3 q4 q5 q6 := by unfold pG; simp [Bool.and_assoc]
  simp only [e] at h
  exact h
theorem nine {p : List ByteArray} (h : p.length = 9) : ∃ p0 p1 p2 p3 p4 p5 p6 p7 p8, p = [p0, p1, p2, p3, p4, p5, p6, p7, p8] := by
  match p, h with
  | [p0, p1, p2, p3, p4, p5, p6, p7, p8], _ => exact ⟨p0, p1, p2, p3, p4, p5, p6, p7, p8, rfl⟩
theorem eight {p : List ByteArray} (h : p.length = 8) : ∃ p0 p1 p2 p3 p4 p5 p6 p7, p = [p0, p1, p2, p3, p4, p5, p6, p7] := by
  match p, h with
  | [p0, p1, p2, p3, p4, p5, p6, p7], _ => exact ⟨p0, p1, p2, p3, p4, p5, p6, p7, rfl⟩
theorem yes_is {p : ByteArray} (h : p.toList = ([121, 101, 115] : List UInt8)) : p = yn true := ba_eq (by rw [← toList_data, h]; rfl)
theorem no_is {p : ByteArray} (h : p.toList = ([110, 111] : List UInt8)) : p = yn false := ba_eq (by rw [← toList_data, h]; rfl)
theorem yn_list (r : Bool) : (yn r).toList = if r = true then ([121, 101, 115] : List UInt8) else [110, 111] := by rw [toList_data]; cases r <;> rfl
theorem nine_own {p0 p1 p2 p3 p4 p5 p6 p7 p8 : ByteArray} (hp : ∀ a, a ∈ [p0, p1, p2, p3, p4, p5, p6, p7] → nb a) {l c : Int} {r : Bool} (l0 : 0 ≤ l) (c0 : 0 ≤ c) (hg : vG (un p3) (un p4) (un p5) (un p6) = true)
    (h : jn [p0, p1, p2, p3, p4, p5, p6, p7, p8] = jn (vJ (un p3) (un p4) (un p5) (un p6) p0 p8 l c r)) :
    p1 = itoaB l ∧ p2 = itoaB c ∧ p3 = dashB (un p3) ∧ p4 = dashB (un p4) ∧ p5 = dashB (un p5) ∧ p6 = dashB (un p6) ∧ p7 = yn r := by
  unfold vG at hg
  simp only [Bool.and_eq_true] at hg
  obtain ⟨g3, g4, g5, g6⟩ := hg
  have e := jn_same [p0, p1, p2, p3, p4, p5, p6, p7, p8] (vJ (un p3) (un p4) (un p5) (un p6) p0 p8 l c r) (by rfl) (fun a ha => hp a ha) (fun a ha => by
    have ha' : a ∈ [p0, itoaB l, itoaB c, dashB (un p3), dashB (un p4), dashB (un p5), dashB (un p6), yn r] := ha
    simp only [List.mem_cons, List.not_mem_nil, or_false] at ha'
    rcases ha' with rfl | rfl | rfl | rfl | rfl | rfl | rfl | rfl
    · exact hp _ (by simp)
    · exact nb_itoa _ l0
    · exact nb_itoa _ c0
    · exact good_nb (gd_dash g3)
    · exact good_nb (gd_dash g4)
    · exact good_nb (gd_dash g5)
    · exact good_nb (gd_dash g6)
    · exact nb_yn r) h
  unfold vJ at e
  simp only [List.cons.injEq, and_true, true_and] at e
  obtain ⟨e1, e2, e3, e4, e5, e6, e7⟩ := e
  exact ⟨e1, e2, e3, e4, e5, e6, e7⟩
theorem un_of {p : ByteArray} (hg : gd (un p) = true) (h : p = dashB (un p)) : p.data.toList.all goodB = true := by
  rw [h]; exact gd_dash hg
theorem viol_both (t w rest : ByteArray) (ht : t.size ≤ 65536) (hr : rest.size ≤ 65536) (hl : t.data.toList = w.data.toList ++ 32 :: rest.data.toList) (hw : w.data.toList = ([118, 105, 111, 108, 97, 116, 105, 111, 110] : List UInt8)) :
    ∃ (e : Evt) (b ok : Bool), Ev (fun k => spec_l13ReadViolation.f k rest) (e.tup b) ∧ Ev (fun k => sJ k b e) (e.tup ok) ∧
      Ev (fun k => (strings_SplitN.f rest (⟨#[32]⟩ : ByteArray) 9).bind fun t293 => (if (t293.length : Int) < 9 then (some (zE.tup false)) else (if 1 < (t293.length : Int) then ((impl_number.f (rdOf ByteArray.empty t293 1)).bind fun bt297 => (if 2 < (t293.length : Int) then ((impl_number.f (rdOf ByteArray.empty t293 2)).bind fun bt300 => (if 0 < (t293.length : Int) then (if 3 < (t293.length : Int) then ((impl_undash.f (rdOf ByteArray.empty t293 3)).bind fun t304 => (if 4 < (t293.length : Int) then ((impl_undash.f (rdOf ByteArray.empty t293 4)).bind fun t306 => (if 5 < (t293.length : Int) then ((impl_undash.f (rdOf ByteArray.empty t293 5)).bind fun t308 => (if 6 < (t293.length : Int) then ((impl_undash.f (rdOf ByteArray.empty t293 6)).bind fun t310 => (if 7 < (t293.length : Int) then (if 8 < (t293.length : Int) then (impl_readEvent.j0 k t 4 0 0 0 (⟨#[]⟩ : ByteArray) (⟨#[]⟩ : ByteArray) t304 t306 t308 t310 (rdOf ByteArray.empty t293 0) (rdOf ByteArray.empty t293 8) bt297.1 bt300.1 ((rdOf ByteArray.empty t293 7).toList == ([121, 101, 115] : List UInt8)) false) else (none)) else (none))) else (none))) else (none))) else (none))) else (none)) else (none))) else (none))) else (none)))) (if ok = true then e.tup true else zE.tup false) := by
  have hH : Ev (fun k => spec_l13Head.f k rest 8) ((hd 8 rest).1, (hd 8 rest).2.1, (hd 8 rest).2.2) := head_loop 8 rest 8 [] (by omega) (by simp) (by simp)
  obtain ⟨nm0, z1, z2⟩ := name_same zE.n
  have zS := tailS false zE z1
  have zR : ∀ ws re b, Ev (fun k => spec_l13ReadViolation.j0 k ws re b true) (zE.tup false) := fun ws re b => Ev.step (f := fun _ => some (zE.tup false)) (fun k => by rw [spec_l13ReadViolation.j0, if_pos rfl]; rfl) (Ev.now _)
  have hlen := pc_len 8 rest
  simp only [splitN_is rest (by omega), Option.bind_some]
  by_cases h9 : (pc 8 rest).length < 9
  · -- too few words: neither takes them
    have hb : (hd 8 rest).2.2 = false := by
      cases hh : (hd 8 rest).2.2 with
      | false => rfl
      | true =>
        obtain ⟨p1, p2, _⟩ := hd_pc 8 rest hh
        rw [p1, List.length_append, p2] at h9
        simp at h9
    refine ⟨zE, false, false, ?_, zS, ?_⟩
    · unfold spec_l13ReadViolation.f
      refine Ev.bind hH ?_
      simp only [hb, Bool.false_eq_true, if_false]
      exact zR _ _ _
    · simp only [if_pos (show ((pc 8 rest).length : Int) < 9 by omega), Bool.false_eq_true, if_false]
      exact Ev.now _
  obtain ⟨p0, p1, p2, p3, p4, p5, p6, p7, p8, hp⟩ := nine (p := pc 8 rest) (by omega)
  have hj := pc_jn 8 rest
  have hi := pc_init 8 rest
  have hbad := hd_bad 8 rest
  have hok := hd_pc 8 rest
  rw [hp] at hj hi hbad hok
  have hi' : ∀ a, a ∈ [p0, p1, p2, p3, p4, p5, p6, p7] → nb a := fun a ha => hi a ha
  have hsz : ∀ a, a ∈ [p0, p1, p2, p3, p4, p5, p6, p7, p8] → a.size ≤ rest.size := by
    intro a ha
    have hJ : ∀ (q : List ByteArray), a ∈ q → a.size ≤ (jn q).length := by
      intro q
      induction q with
      | nil => intro h; cases h
      | cons b q ih =>
        intro h
        by_cases hq : q = []
        · subst hq
          rw [List.mem_singleton.1 h, size_len]
          exact Nat.le_refl _
        · rw [jn_cons b hq, List.length_append, List.length_cons]
          rcases List.mem_cons.1 h with rfl | h
          · rw [size_len]; omega
          · have := ih h; omega
    have := hJ _ ha
    rw [hj, ← size_len] at this
    exact this
  have s0 := hsz p0 (by simp)
  have s1 := hsz p1 (by simp)
  have s2 := hsz p2 (by simp)
  have s3 := hsz p3 (by simp)
  have s4 := hsz p4 (by simp)
  have s5 := hsz p5 (by simp)
  have s6 := hsz p6 (by simp)
  have s8 := hsz p8 (by simp)
  have u3 := un_size p3
  have u4 := un_size p4
  have u5 := un_size p5
  have u6 := un_size p6
  have N1 := number_impl p1 (by omega)
  have N2 := number_impl p2 (by omega)
  have ln : (([p0, p1, p2, p3, p4, p5, p6, p7, p8] : List ByteArray).length : Int) = 9 := rfl
  have r0 : rdOf ByteArray.empty [p0, p1, p2, p3, p4, p5, p6, p7, p8] 0 = p0 := rfl
  have r1 : rdOf ByteArray.empty [p0, p1, p2, p3, p4, p5, p6, p7, p8] 1 = p1 := rfl
  have r2 : rdOf ByteArray.empty [p0, p1, p2, p3, p4, p5, p6, p7, p8] 2 = p2 := rfl
  have r3 : rdOf ByteArray.empty [p0, p1, p2, p3, p4, p5, p6, p7, p8] 3 = p3 := rfl
  have r4 : rdOf ByteArray.empty [p0, p1, p2, p3, p4, p5, p6, p7, p8] 4 = p4 := rfl
  have r5 : rdOf ByteArray.empty [p0, p1, p2, p3, p4, p5, p6, p7, p8] 5 = p5 := rfl
  have r6 : rdOf ByteArray.empty [p0, p1, p2, p3, p4, p5, p6, p7, p8] 6 = p6 := rfl
  have r7 : rdOf ByteArray.empty [p0, p1, p2, p3, p4, p5, p6, p7, p8] 7 = p7 := rfl
  have r8 : rdOf ByteArray.empty [p0, p1, p2, p3, p4, p5, p6, p7, p8] 8 = p8 := rfl
  rw [hp]
  simp only [ln, r0, r1, r2, r3, r4, r5, r6, r7, r8, N1, N2, un_impl, Option.bind_some, if_neg (show ¬ (9 : Int) < 9 by omega), if_pos (show (0 : Int) < 9 by omega), if_pos (show (1 : Int) < 9 by omega), if_pos (show (2 : Int) < 9 by omega), if_pos (show (3 : Int) < 9 by omega), if_pos (show (4 : Int) < 9 by omega), if_pos (show (5 : Int) < 9 by omega), if_pos (show (6 : Int) < 9 by omega), if_pos (show (7 : Int) < 9 by omega), if_pos (show (8 : Int) < 9 by omega)]
  -- the event that the program reads
  have goalI : ∀ (e : Evt) (ok : Bool), Ev (fun k => iJ k t (pE p0 p1 p2 p3 p4 p5 p6 p7 p8 (impl_number.val p1) (impl_number.val p2))) (if ok = true then e.tup true else zE.tup false) →
      Ev (fun k => impl_readEvent.j0 k t 4 0 0 0 (⟨#[]⟩ : ByteArray) (⟨#[]⟩ : ByteArray) (un p3) (un p4) (un p5) (un p6) p0 p8 (impl_number.val p1) (impl_number.val p2) (p7.toList == ([121, 101, 115] : List UInt8)) false) (if ok = true then e.tup true else zE.tup false) := fun e ok h => h
  have hT : ∀ nm, eB (pE p0 p1 p2 p3 p4 p5 p6 p7 p8 (impl_number.val p1) (impl_number.val p2)) nm = true → Ev (fun k => eT k (pE p0 p1 p2 p3 p4 p5 p6 p7 p8 (impl_number.val p1) (impl_number.val p2))) _ := fun nm h => by
    obtain ⟨⟨a1, a2⟩, ⟨a3, a4⟩, _⟩ := eB_v rfl h
    exact eT_v (pE p0 p1 p2 p3 p4 p5 p6 p7 p8 (impl_number.val p1) (impl_number.val p2)) (by show ¬ (4 : Int) = 1; omega) (by show ¬ (4 : Int) = 2; omega) (by show ¬ (4 : Int) = 3; omega) (by show ¬ (4 : Int) = 5; omega) (by show ¬ (4 : Int) = 6; omega) (by show (un p3).size ≤ 1048576; omega) (by show (un p4).size ≤ 1048576; omega) (by show (un p5).size ≤ 1048576; omega) (by show (un p6).size ≤ 1048576; omega) (by show p0.size ≤ 1048576; omega) (by show p8.size ≤ 1048576; omega) (by omega) (by omega) (by omega) (by omega)
  have hpre : (⟨#[118, 105, 111, 108, 97, 116, 105, 111, 110, 32]⟩ : ByteArray).data.toList = w.data.toList ++ [32] := by rw [hw]; rfl
  -- what its own text says
  have own : ∀ nm, eB (pE p0 p1 p2 p3 p4 p5 p6 p7 p8 (impl_number.val p1) (impl_number.val p2)) nm = true → vG (un p3) (un p4) (un p5) (un p6) = true →
      (if vG (un p3) (un p4) (un p5) (un p6) = true then (⟨#[118, 105, 111, 108, 97, 116, 105, 111, 110, 32]⟩ : ByteArray) ++ vRest (un p3) (un p4) (un p5) (un p6) p0 p8 (impl_number.val p1) (impl_number.val p2) (p7.toList == ([121, 101, 115] : List UInt8)) else (⟨#[]⟩ : ByteArray)) = t →
      (p1 = itoaB (impl_number.val p1) ∧ p2 = itoaB (impl_number.val p2) ∧ p3 = dashB (un p3) ∧ p4 = dashB (un p4) ∧ p5 = dashB (un p5) ∧ p6 = dashB (un p6) ∧ p7 = yn (p7.toList == ([121, 101, 115] : List UInt8))) ∧ impl_number.ok p1 = true ∧ impl_number.ok p2 = true ∧ 1 ≤ p0.size ∧ p1.size ≠ 0 ∧ p2.size ≠ 0 := by
    intro nm h hg hu
    obtain ⟨⟨a1, a2⟩, ⟨a3, a4⟩, a5⟩ := eB_v rfl h
    change 0 ≤ impl_number.val p1 at a1
    change impl_number.val p1 ≤ 9999 at a2
    change 0 ≤ impl_number.val p2 at a3
    change impl_number.val p2 ≤ 9999 at a4
    rw [if_pos hg] at hu
    have hv := (behind hl hpre).1 hu
    rw [vRest_is, ← hj] at hv
    have O := nine_own hi' a1 a3 hg hv.symm
    refine ⟨O, ?_, ?_, a5, ?_, ?_⟩
    · rw [O.1]; exact num_own _ a1 (by omega)
    · rw [O.2.1]; exact num_own _ a3 (by omega)
    · rw [O.1]; exact itoa_ne _ a1
    · rw [O.2.1]; exact itoa_ne _ a3
  by_cases hh : (hd 8 rest).2.2 = true
  rotate_left
  · -- an empty word: neither takes it
    have hh' : (hd 8 rest).2.2 = false := by simpa using hh
    have S : Ev (fun k => spec_l13ReadViolation.f k rest) (zE.tup false) := by
      unfold spec_l13ReadViolation.f
      refine Ev.bind hH ?_
      simp only [hh', Bool.false_eq_true, if_false]
      exact zR _ _ _
    obtain ⟨ok, q1, q2⟩ := both t false zE _ hT (fun h => by cases h) (fun nm h htk hu => by
      exfalso
      obtain ⟨⟨o1, o2, o3, o4, o5, o6, o7⟩, _, _, z0, z1, z2⟩ := own nm h htk hu
      rcases hbad hh' with hb | ⟨a, ha, hz⟩
      · simp at hb
      · have ha' : a ∈ [p0, p1, p2, p3, p4, p5, p6, p7] := ha
        simp only [List.mem_cons, List.not_mem_nil, or_false] at ha'
        rcases ha' with rfl | rfl | rfl | rfl | rfl | rfl | rfl | rfl
        · omega
        · exact z1 hz
        · exact z2 hz
        · exact dash_ne _ (o3 ▸ hz)
        · exact dash_ne _ (o4 ▸ hz)
        · exact dash_ne _ (o5 ▸ hz)
        · exact dash_ne _ (o6 ▸ hz)
        · rw [o7] at hz
          revert hz
          cases (a.toList == ([121, 101, 115] : List UInt8)) <;> decide)
    exact ⟨zE, false, ok, S, q1, goalI _ _ q2⟩
  obtain ⟨g1, g2, g3⟩ := hok hh
  obtain ⟨q0, q1, q2, q3, q4, q5, q6, q7, hq⟩ := eight g2
  rw [hq] at g1 g3
  simp only [List.cons_append, List.nil_append, List.cons.injEq, and_true] at g1
  obtain ⟨e0, e1, e2, e3, e4, e5, e6, e7, e8⟩ := g1
  subst e0; subst e1; subst e2; subst e3; subst e4; subst e5; subst e6; subst e7
  have n3 := g3 p3 (by simp)
  have n4 := g3 p4 (by simp)
  have n5 := g3 p5 (by simp)
  have n6 := g3 p6 (by simp)
  rw [hq, hh, ← e8] at hH
  have l8 : (([p0, p1, p2, p3, p4, p5, p6, p7] : List ByteArray).length : Int) = 8 := rfl
  have w1 : rdOf ByteArray.empty [p0, p1, p2, p3, p4, p5, p6, p7] 1 = p1 := rfl
  have w2 : rdOf ByteArray.empty [p0, p1, p2, p3, p4, p5, p6, p7] 2 = p2 := rfl
  have w7 : rdOf ByteArray.empty [p0, p1, p2, p3, p4, p5, p6, p7] 7 = p7 := rfl
  by_cases hyn : p7.toList = ([121, 101, 115] : List UInt8) ∨ p7.toList = ([110, 111] : List UInt8)
  rotate_left
  · have S : Ev (fun k => spec_l13ReadViolation.f k rest) (zE.tup false) := by
      unfold spec_l13ReadViolation.f
      refine Ev.bind hH ?_
      have hy : ¬ p7.toList = ([121, 101, 115] : List UInt8) := fun h => hyn (Or.inl h)
      have hno : (p7.toList != ([110, 111] : List UInt8)) = true := by simpa using fun h => hyn (Or.inr h)
      simp only [if_true, l8, w7, if_pos (show (7 : Int) < 8 by omega), if_neg hy, hno]
      exact zR _ _ _
    obtain ⟨ok, q1, q2⟩ := both t false zE _ hT (fun h => by cases h) (fun nm h htk hu => by
      exfalso
      obtain ⟨⟨o1, o2, o3, o4, o5, o6, o7⟩, _⟩ := own nm h htk hu
      apply hyn
      rw [o7, yn_list]
      cases (p7.toList == ([121, 101, 115] : List UInt8)) <;> simp)
    exact ⟨zE, false, ok, S, q1, goalI _ _ q2⟩
  obtain ⟨m1, M1, V1⟩ := num_same p1 (by omega)
  obtain ⟨m2, M2, V2⟩ := num_same p2 (by omega)
  have S : Ev (fun k => spec_l13ReadViolation.f k rest) ((pE p0 p1 p2 p3 p4 p5 p6 p7 p8 m1 m2).tup (pG p3 p4 p5 p6 && (impl_number.ok p1 && impl_number.ok p2))) := by
    have J : Ev (fun k => spec_l13ReadViolation.j0 k [p0, p1, p2, p3, p4, p5, p6, p7] p8 true false) ((pE p0 p1 p2 p3 p4 p5 p6 p7 p8 m1 m2).tup (pG p3 p4 p5 p6 && (impl_number.ok p1 && impl_number.ok p2))) := by
      refine Ev.step (fun k => by rw [spec_l13ReadViolation.j0, if_neg Bool.false_ne_true, l8, if_pos (by omega), w1, w2]) ?_
      refine Ev.bind M1 ?_
      simp only [if_pos (show (2 : Int) < 8 by omega)]
      refine Ev.bind M2 ?_
      exact rl_all p0 p1 p2 p3 p4 p5 p6 p7 p8 _ _ m1 m2 (by omega) (by omega) (by omega) (by omega)
    unfold spec_l13ReadViolation.f
    refine Ev.bind hH ?_
    simp only [if_true, l8, w7, if_pos (show (7 : Int) < 8 by omega)]
    rcases hyn with hy | hno
    · simp only [if_pos hy]
      exact J
    · have hy : ¬ p7.toList = ([121, 101, 115] : List UInt8) := by rw [hno]; decide
      have hno' : (p7.toList != ([110, 111] : List UInt8)) = false := by simpa using hno
      simp only [if_neg hy, hno']
      exact J
  have hy7 : p7 = yn (p7.toList == ([121, 101, 115] : List UInt8)) := by
    rcases hyn with hy | hno
    · rw [hy]; exact yes_is hy
    · rw [hno]; exact no_is hno
  obtain ⟨ok, c1, c2⟩ := both t (pG p3 p4 p5 p6 && (impl_number.ok p1 && impl_number.ok p2)) (pE p0 p1 p2 p3 p4 p5 p6 p7 p8 m1 m2) _ hT
    (fun hb nm h => by
      simp only [Bool.and_eq_true] at hb
      obtain ⟨hg, k1, k2⟩ := hb
      have d1 := V1 k1
      have d2 := V2 k2
      unfold pG at hg
      simp only [Bool.and_eq_true] at hg
      obtain ⟨x3, x4, x5, x6⟩ := hg
      have hG : vG (un p3) (un p4) (un p5) (un p6) = true := by
        unfold vG
        rw [gd_un x3, gd_un x4, gd_un x5, gd_un x6]; rfl
      refine ⟨by rw [d1, d2], hG, ?_⟩
      show (if vG (un p3) (un p4) (un p5) (un p6) = true then (⟨#[118, 105, 111, 108, 97, 116, 105, 111, 110, 32]⟩ : ByteArray) ++ vRest (un p3) (un p4) (un p5) (un p6) p0 p8 (impl_number.val p1) (impl_number.val p2) (p7.toList == ([121, 101, 115] : List UInt8)) else (⟨#[]⟩ : ByteArray)) = t
      rw [if_pos hG]
      refine (behind hl hpre).2 ?_
      rw [vRest_is, ← hj]
      unfold vJ
      rw [num_okE p1 k1, num_okE p2 k2, dash_un n3, dash_un n4, dash_un n5, dash_un n6, ← hy7])
    (fun nm h htk hu => by
      obtain ⟨⟨o1, o2, o3, o4, o5, o6, o7⟩, k1, k2, _⟩ := own nm h htk hu
      have htk' : vG (un p3) (un p4) (un p5) (un p6) = true := htk
      unfold vG at htk'
      simp only [Bool.and_eq_true] at htk'
      obtain ⟨x3, x4, x5, x6⟩ := htk'
      refine ⟨?_, by rw [V1 k1, V2 k2]⟩
      unfold pG
      rw [un_of x3 o3, un_of x4 o4, un_of x5 o5, un_of x6 o6, k1, k2]; rfl)
  exact ⟨_, _, ok, S, c1, goalI _ _ c2⟩
def sE (q0 : ByteArray) (n1 n2 : Int) (z : Bool) : Evt := ⟨6, n1, n2, 0, (⟨#[]⟩ : ByteArray), q0, (⟨#[]⟩ : ByteArray), (⟨#[]⟩ : ByteArray), (⟨#[]⟩ : ByteArray), (⟨#[]⟩ : ByteArray), (⟨#[]⟩ : ByteArray), (⟨#[]⟩ : ByteArray), 0, 0, false, z⟩
theorem lost_nb : nb (⟨#[108, 111, 115, 116]⟩ : ByteArray) := by unfold nb; decide
theorem jn_size {a : ByteArray} : ∀ (q : List ByteArray), a ∈ q → a.size ≤ (jn q).length
  | [], h => by cases h
  | b :: q, h => by
    by_cases hq : q = []
    · subst hq
      rw [List.mem_singleton.1 h, size_len]
      exact Nat.le_refl _
    · rw [jn_cons b hq, List.length_append, List.length_cons]
      rcases List.mem_cons.1 h with rfl | h
      · rw [size_len]; omega
      · have := jn_size q h; omega
theorem send_both (t w rest : ByteArray) (ht : t.size ≤ 65536) (hr : rest.size ≤ 65536) (hl : t.data.toList = w.data.toList ++ 32 :: rest.data.toList) (hw : w.data.toList = ([115, 101, 110, 100] : List UInt8)) :
    ∃ (e : Evt) (b ok : Bool), Ev (fun k => spec_l13ReadSend.f k rest) (e.tup b) ∧ Ev (fun k => sJ k b e) (e.tup ok) ∧
      Ev (fun k => (strings_Split.f rest (⟨#[32]⟩ : ByteArray)).bind fun t283 => (if (t283.length : Int) < 3 then (some (zE.tup false)) else (if 1 < (t283.length : Int) then ((impl_number.f (rdOf ByteArray.empty t283 1)).bind fun bt287 => (if 2 < (t283.length : Int) then ((impl_number.f (rdOf ByteArray.empty t283 2)).bind fun bt290 => (if 0 < (t283.length : Int) then (impl_readEvent.j0 k t 6 bt287.1 bt290.1 0 (⟨#[]⟩ : ByteArray) (rdOf ByteArray.empty t283 0) (⟨#[]⟩ : ByteArray) (⟨#[]⟩ : ByteArray) (⟨#[]⟩ : ByteArray) (⟨#[]⟩ : ByteArray) (⟨#[]⟩ : ByteArray) (⟨#[]⟩ : ByteArray) 0 0 false (decide ((t283.length : Int) > 3))) else (none))) else (none))) else (none)))) (if ok = true then e.tup true else zE.tup false) := by
  obtain ⟨q, h1, h2, h3, h4, h5⟩ := split_is rest (by omega)
  obtain ⟨nm0, z1, z2⟩ := name_same zE.n
  have zS := tailS false zE z1
  have zR : ∀ ws, Ev (fun k => spec_l13ReadSend.j0 k ws true) (zE.tup false) := fun ws => Ev.step (f := fun _ => some (zE.tup false)) (fun k => by rw [spec_l13ReadSend.j0, if_pos rfl]; rfl) (Ev.now _)
  simp only [h1, Option.bind_some]
  by_cases hs : q.length < 3
  · refine ⟨zE, false, false, ?_, zS, ?_⟩
    · unfold spec_l13ReadSend.f
      refine Ev.bind h2 ?_
      simp only [if_neg (show ¬ (q.length : Int) = 3 by omega), if_neg (show ¬ (q.length : Int) = 4 by omega)]
      exact zR _
    · simp only [if_pos (show (q.length : Int) < 3 by omega), Bool.false_eq_true, if_false]
      exact Ev.now _
  obtain ⟨q0, q1, q2, qs, rfl⟩ : ∃ q0 q1 q2 qs, q = q0 :: q1 :: q2 :: qs := by
    match q, hs with
    | q0 :: q1 :: q2 :: qs, _ => exact ⟨q0, q1, q2, qs, rfl⟩
    | [], h => exact absurd (by simp) h
    | [_], h => exact absurd (by simp) h
    | [_, _], h => exact absurd (by simp) h
  have hsz : ∀ a, a ∈ q0 :: q1 :: q2 :: qs → a.size ≤ rest.size := fun a ha => by
    have := jn_size _ ha
    rw [h5, ← size_len] at this
    exact this
  have s0 := hsz q0 (by simp)
  have s1 := hsz q1 (by simp)
  have s2 := hsz q2 (by simp)
  have N1 := number_impl q1 (by omega)
  have N2 := number_impl q2 (by omega)
  obtain ⟨m1, M1, V1⟩ := num_same q1 (by omega)
  obtain ⟨m2, M2, V2⟩ := num_same q2 (by omega)
  have r0 : rdOf ByteArray.empty (q0 :: q1 :: q2 :: qs) 0 = q0 := rfl
  have r1 : rdOf ByteArray.empty (q0 :: q1 :: q2 :: qs) 1 = q1 := rfl
  have r2 : rdOf ByteArray.empty (q0 :: q1 :: q2 :: qs) 2 = q2 := rfl
  have ln : ((q0 :: q1 :: q2 :: qs).length : Int) = (qs.length : Int) + 3 := by simp only [List.length_cons]; omega
  simp only [ln, r0, r1, r2, N1, N2, Option.bind_some, if_neg (show ¬ (qs.length : Int) + 3 < 3 by omega), if_pos (show (0 : Int) < (qs.length : Int) + 3 by omega), if_pos (show (1 : Int) < (qs.length : Int) + 3 by omega), if_pos (show (2 : Int) < (qs.length : Int) + 3 by omega)]
  have goalI : ∀ (e : Evt) (ok : Bool), Ev (fun k => iJ k t (sE q0 (impl_number.val q1) (impl_number.val q2) (decide ((qs.length : Int) + 3 > 3)))) (if ok = true then e.tup true else zE.tup false) →
      Ev (fun k => impl_readEvent.j0 k t 6 (impl_number.val q1) (impl_number.val q2) 0 (⟨#[]⟩ : ByteArray) q0 (⟨#[]⟩ : ByteArray) (⟨#[]⟩ : ByteArray) (⟨#[]⟩ : ByteArray) (⟨#[]⟩ : ByteArray) (⟨#[]⟩ : ByteArray) (⟨#[]⟩ : ByteArray) 0 0 false (decide ((qs.length : Int) + 3 > 3))) (if ok = true then e.tup true else zE.tup false) := fun e ok h => h
  have hT : ∀ nm, eB (sE q0 (impl_number.val q1) (impl_number.val q2) (decide ((qs.length : Int) + 3 > 3))) nm = true → Ev (fun k => eT k (sE q0 (impl_number.val q1) (impl_number.val q2) (decide ((qs.length : Int) + 3 > 3)))) _ := fun nm h => by
    obtain ⟨⟨a1, a2⟩, a3, a4⟩ := eB_s rfl h
    exact eT_6 (sE q0 (impl_number.val q1) (impl_number.val q2) (decide ((qs.length : Int) + 3 > 3))) rfl (by show q0.size ≤ 1048576; omega) a1 a2 (by omega) (by omega)
  have hpre : (⟨#[115, 101, 110, 100, 32]⟩ : ByteArray).data.toList = w.data.toList ++ [32] := by rw [hw]; rfl
  have hcat : ∀ (x y : ByteArray), (x ++ ((⟨#[32]⟩ : ByteArray) ++ y)).data.toList = x.data.toList ++ 32 :: y.data.toList := fun x y => by rw [app_l, app_l]; rfl
  have ez : ∀ x : ByteArray, x ++ (⟨#[]⟩ : ByteArray) = x := fun x => ba_eq (by rw [app_l]; simp)
  -- the own text's words
  have words : ∀ (a b : ByteArray) (z : Bool), (q0 ++ ((⟨#[32]⟩ : ByteArray) ++ (a ++ ((⟨#[32]⟩ : ByteArray) ++ (b ++ (if z = true then (⟨#[32, 108, 111, 115, 116]⟩ : ByteArray) else (⟨#[]⟩ : ByteArray))))))).data.toList = jn (if z = true then [q0, a, b, (⟨#[108, 111, 115, 116]⟩ : ByteArray)] else [q0, a, b]) := by
    intro a b z
    cases z with
    | false => simp only [Bool.false_eq_true, if_false, ez, hcat, jn]
    | true =>
      have e4 : (⟨#[32, 108, 111, 115, 116]⟩ : ByteArray) = (⟨#[32]⟩ : ByteArray) ++ (⟨#[108, 111, 115, 116]⟩ : ByteArray) := rfl
      simp only [if_true, e4, hcat, jn]
  have own : ∀ nm, eB (sE q0 (impl_number.val q1) (impl_number.val q2) (decide ((qs.length : Int) + 3 > 3))) nm = true →
      (⟨#[115, 101, 110, 100, 32]⟩ : ByteArray) ++ (q0 ++ ((⟨#[32]⟩ : ByteArray) ++ (itoaB (impl_number.val q1) ++ ((⟨#[32]⟩ : ByteArray) ++ (itoaB (impl_number.val q2) ++ (if decide ((qs.length : Int) + 3 > 3) = true then (⟨#[32, 108, 111, 115, 116]⟩ : ByteArray) else (⟨#[]⟩ : ByteArray))))))) = t →
      impl_number.ok q1 = true ∧ impl_number.ok q2 = true ∧ (qs = [] ∨ qs = [(⟨#[108, 111, 115, 116]⟩ : ByteArray)]) := by
    intro nm h hu
    obtain ⟨⟨a1, a2⟩, a3, a4⟩ := eB_s rfl h
    change 0 ≤ impl_number.val q1 at a1
    change impl_number.val q1 ≤ 1000000 at a2
    change 100 ≤ impl_number.val q2 at a3
    change impl_number.val q2 ≤ 599 at a4
    have hv := (behind hl hpre).1 hu
    rw [words, ← h5] at hv
    have i1 := nb_itoa _ a1
    have i2 := nb_itoa (impl_number.val q2) (by omega)
    have i0 := h4 q0 (by simp)
    by_cases hz : qs = []
    · subst hz
      rw [if_neg (by simp)] at hv
      have e := jn_uniq _ _ (by simp) (by simp) (fun a ha => by
        simp only [List.mem_cons, List.not_mem_nil, or_false] at ha
        rcases ha with rfl | rfl | rfl
        · exact i0
        · exact i1
        · exact i2) h4 hv
      simp only [List.cons.injEq, and_true, true_and] at e
      exact ⟨by rw [← e.1]; exact num_own _ a1 a2, by rw [← e.2]; exact num_own _ (by omega) (by omega), Or.inl rfl⟩
    · have hp : decide ((qs.length : Int) + 3 > 3) = true := by
        have : qs.length ≠ 0 := fun h => hz (List.length_eq_zero_iff.1 h)
        exact decide_eq_true (by omega)
      rw [hp, if_pos rfl] at hv
      have e := jn_uniq _ _ (by simp) (by simp) (fun a ha => by
        simp only [List.mem_cons, List.not_mem_nil, or_false] at ha
        rcases ha with rfl | rfl | rfl | rfl
        · exact i0
        · exact i1
        · exact i2
        · exact lost_nb) h4 hv
      simp only [List.cons.injEq, true_and] at e
      exact ⟨by rw [← e.1]; exact num_own _ a1 a2, by rw [← e.2.1]; exact num_own _ (by omega) (by omega), Or.inr e.2.2.symm⟩
  have hlost : ∀ p : ByteArray, p.toList = ([108, 111, 115, 116] : List UInt8) ↔ p = (⟨#[108, 111, 115, 116]⟩ : ByteArray) := fun p => ⟨fun h => ba_eq (by rw [← toList_data, h]), fun h => by rw [h, toList_data]⟩
  by_cases hq : qs = [] ∨ qs = [(⟨#[108, 111, 115, 116]⟩ : ByteArray)]
  rotate_left
  · -- another ending: neither takes it
    have S : Ev (fun k => spec_l13ReadSend.f k rest) (zE.tup false) := by
      unfold spec_l13ReadSend.f
      refine Ev.bind h2 ?_
      have n0 : qs.length ≠ 0 := fun h => hq (Or.inl (List.length_eq_zero_iff.1 h))
      by_cases n4 : qs.length = 1
      · obtain ⟨q3, rfl⟩ := List.length_eq_one_iff.1 n4
        have r3 : rdOf ByteArray.empty [q0, q1, q2, q3] 3 = q3 := rfl
        have hne : (q3.toList != ([108, 111, 115, 116] : List UInt8)) = true := by
          have : ¬ q3.toList = ([108, 111, 115, 116] : List UInt8) := fun h => hq (Or.inr (by rw [(hlost q3).1 h]))
          simpa using this
        simp only [ln, r3, hne, List.length_singleton]
        exact zR _
      · simp only [ln, if_neg (show ¬ (qs.length : Int) + 3 = 3 by omega), if_neg (show ¬ (qs.length : Int) + 3 = 4 by omega)]
        exact zR _
    obtain ⟨ok, c1, c2⟩ := both t false zE _ hT (fun h => by cases h) (fun nm h htk hu => absurd (own nm h hu).2.2 hq)
    exact ⟨zE, false, ok, S, c1, goalI _ _ c2⟩
  have J : Ev (fun k => spec_l13ReadSend.j0 k (q0 :: q1 :: q2 :: qs) false) ((sE q0 m1 m2 ((qs.length : Int) + 3 == 4)).tup (impl_number.ok q1 && impl_number.ok q2)) := by
    refine Ev.step (fun k => by rw [spec_l13ReadSend.j0, if_neg Bool.false_ne_true, ln, if_pos (by omega), r1, r2]) ?_
    refine Ev.bind M1 ?_
    simp only [if_pos (show (2 : Int) < (qs.length : Int) + 3 by omega)]
    refine Ev.bind M2 ?_
    simp only [if_pos (show (0 : Int) < (qs.length : Int) + 3 by omega), r0]
    cases impl_number.ok q1 with
    | true => simp only [if_true, Bool.true_and]; exact Ev.now _
    | false => simp only [Bool.false_eq_true, if_false, Bool.false_and]; exact Ev.now _
  have S : Ev (fun k => spec_l13ReadSend.f k rest) ((sE q0 m1 m2 ((qs.length : Int) + 3 == 4)).tup (impl_number.ok q1 && impl_number.ok q2)) := by
    unfold spec_l13ReadSend.f
    refine Ev.bind h2 ?_
    rcases hq with rfl | rfl
    · simp only [ln, List.length_nil]
      exact J
    · have r3 : rdOf ByteArray.empty [q0, q1, q2, (⟨#[108, 111, 115, 116]⟩ : ByteArray)] 3 = (⟨#[108, 111, 115, 116]⟩ : ByteArray) := rfl
      have hne : ((⟨#[108, 111, 115, 116]⟩ : ByteArray).toList != ([108, 111, 115, 116] : List UInt8)) = false := by rw [(hlost _).2 rfl]; rfl
      simp only [ln, r3, hne, List.length_singleton]
      exact J
  have hz : ((qs.length : Int) + 3 == 4) = decide ((qs.length : Int) + 3 > 3) := by
    rcases hq with rfl | rfl
    · rfl
    · rfl
  rw [hz] at S
  obtain ⟨ok, c1, c2⟩ := both t (impl_number.ok q1 && impl_number.ok q2) (sE q0 m1 m2 (decide ((qs.length : Int) + 3 > 3))) _ hT
    (fun hb nm h => by
      simp only [Bool.and_eq_true] at hb
      obtain ⟨k1, k2⟩ := hb
      refine ⟨by rw [V1 k1, V2 k2], rfl, ?_⟩
      show (⟨#[115, 101, 110, 100, 32]⟩ : ByteArray) ++ (q0 ++ ((⟨#[32]⟩ : ByteArray) ++ (itoaB (impl_number.val q1) ++ ((⟨#[32]⟩ : ByteArray) ++ (itoaB (impl_number.val q2) ++ (if decide ((qs.length : Int) + 3 > 3) = true then (⟨#[32, 108, 111, 115, 116]⟩ : ByteArray) else (⟨#[]⟩ : ByteArray))))))) = t
      refine (behind hl hpre).2 ?_
      rw [words, ← h5, num_okE q1 k1, num_okE q2 k2]
      rcases hq with rfl | rfl
      · rw [if_neg (by simp)]
      · rw [if_pos (by simp)])
    (fun nm h htk hu => by
      obtain ⟨k1, k2, _⟩ := own nm h hu
      exact ⟨by rw [k1, k2]; rfl, by rw [V1 k1, V2 k2]⟩)
  exact ⟨_, _, ok, S, c1, goalI _ _ c2⟩
def xE (n : Int) (x : ByteArray) : Evt := ⟨n, 0, 0, 0, x, (⟨#[]⟩ : ByteArray), (⟨#[]⟩ : ByteArray), (⟨#[]⟩ : ByteArray), (⟨#[]⟩ : ByteArray), (⟨#[]⟩ : ByteArray), (⟨#[]⟩ : ByteArray), (⟨#[]⟩ : ByteArray), 0, 0, false, false⟩
def tE (n : Int) : Evt := ⟨5, 0, 0, n, (⟨#[]⟩ : ByteArray), (⟨#[]⟩ : ByteArray), (⟨#[]⟩ : ByteArray), (⟨#[]⟩ : ByteArray), (⟨#[]⟩ : ByteArray), (⟨#[]⟩ : ByteArray), (⟨#[]⟩ : ByteArray), (⟨#[]⟩ : ByteArray), 0, 0, false, false⟩
theorem eT_1 (x : ByteArray) (hx : x.size ≤ 1048576) : Ev (fun k => eT k (xE 1 x)) ((⟨#[101, 110, 100, 112, 111, 105, 110, 116, 115, 32]⟩ : ByteArray) ++ x, true) := by
  unfold eT impl_eventText.f xE
  simp only [if_true, if_pos (show 10 + x.size ≤ 9223372036854775807 by omega)]
  exact Ev.now _
theorem eT_2 (x : ByteArray) (hx : x.size ≤ 1048576) : Ev (fun k => eT k (xE 2 x)) ((⟨#[114, 101, 112, 111, 114, 116, 116, 111, 32]⟩ : ByteArray) ++ x, true) := by
  unfold eT impl_eventText.f xE
  simp only [if_true, if_neg (show ¬ (2 : Int) = 1 by omega), if_pos (show 9 + x.size ≤ 9223372036854775807 by omega)]
  exact Ev.now _
theorem eT_3 (x : ByteArray) (hx : x.size ≤ 1048576) : Ev (fun k => eT k (xE 3 x)) ((⟨#[112, 111, 108, 105, 99, 121, 32]⟩ : ByteArray) ++ x, true) := by
  unfold eT impl_eventText.f xE
  simp only [if_true, if_neg (show ¬ (3 : Int) = 1 by omega), if_neg (show ¬ (3 : Int) = 2 by omega), if_pos (show 7 + x.size ≤ 9223372036854775807 by omega)]
  exact Ev.now _
theorem has32 {p y t : ByteArray} (hp : (32 : UInt8) ∈ p.data.toList) (h : p ++ y = t) : ¬ nb t := fun hn => hn (by rw [← h, app_l]; exact List.mem_append_left _ hp)
theorem zero_bad {nm : Bool} (h : eB zE nm = true) : False := by
  have := (eB_k h).1
  revert this
  decide
theorem text_both (t w rest : ByteArray) (n : Int) (p : ByteArray) (hT : Ev (fun k => eT k (xE n rest)) (p ++ rest, true)) (hp : p ++ rest = t) :
    ∃ ok : Bool, Ev (fun k => sJ k true (xE n rest)) ((xE n rest).tup ok) ∧ Ev (fun k => iJ k t (xE n rest)) (if ok = true then (xE n rest).tup true else zE.tup false) :=
  both t true (xE n rest) (xE n rest) (fun _ _ => hT) (fun _ _ _ => ⟨rfl, rfl, hp⟩) (fun _ _ _ _ => ⟨rfl, rfl⟩)
theorem read_both (t : ByteArray) (ht : t.size ≤ 65536) : ∃ (e : Evt) (ok : Bool), Ev (fun k => spec_l13Read.f k t) (e.tup ok) ∧ Ev (fun k => impl_readEvent.f k t) (if ok = true then e.tup true else zE.tup false) := by
  have hH : Ev (fun k => spec_l13Head.f k t 1) ((hd 1 t).1, (hd 1 t).2.1, (hd 1 t).2.2) := head_loop 1 t 1 [] (by omega) (by simp) (by simp)
  have hC : strings_Cut.f t (⟨#[32]⟩ : ByteArray) = some (cutL t 32, cutR t 32, cutH t 32) := cut_is t 32 (by omega)
  have hrs := cutR_size t 32
  have zI : Ev (fun k => impl_readEvent.j0 k t 0 0 0 0 (⟨#[]⟩ : ByteArray) (⟨#[]⟩ : ByteArray) (⟨#[]⟩ : ByteArray) (⟨#[]⟩ : ByteArray) (⟨#[]⟩ : ByteArray) (⟨#[]⟩ : ByteArray) (⟨#[]⟩ : ByteArray) (⟨#[]⟩ : ByteArray) 0 0 false false) (zE.tup false) :=
    none_I t zE (u := (⟨#[]⟩ : ByteArray)) (tk := false) (fun nm h => (zero_bad h).elim) (fun nm h => (zero_bad h).elim)
  by_cases hb : cutH t 32 = true ∧ (cutL t 32).size ≠ 0
  rotate_left
  · -- the reference takes none
    have h1 : hd 1 t = ([], (⟨#[]⟩ : ByteArray), false) := by unfold hd; rw [if_neg hb]
    refine ⟨zE, false, ?_, ?_⟩
    · unfold spec_l13Read.f
      refine Ev.bind hH ?_
      simp only [h1, Bool.false_eq_true, if_false]
      exact Ev.now _
    · unfold impl_readEvent.f
      simp only [hC, Option.bind_some, Bool.false_eq_true, if_false]
      by_cases hc : cutH t 32 = true
      · have hz : (cutL t 32).toList = ([] : List UInt8) := by
          have : (cutL t 32).size = 0 := by
            by_cases h : (cutL t 32).size = 0
            · exact h
            · exact absurd ⟨hc, h⟩ hb
          rw [empty_sz this]; exact noBytes
        simp only [hz, if_neg (show ¬ ([] : List UInt8) = [101, 110, 100, 112, 111, 105, 110, 116, 115] by decide), if_neg (show ¬ ([] : List UInt8) = [114, 101, 112, 111, 114, 116, 116, 111] by decide), if_neg (show ¬ ([] : List UInt8) = [112, 111, 108, 105, 99, 121] by decide), if_neg (show ¬ ([] : List UInt8) = [116, 105, 99, 107] by decide), if_neg (show ¬ ([] : List UInt8) = [115, 101, 110, 100] by decide), if_neg (show ¬ ([] : List UInt8) = [118, 105, 111, 108, 97, 116, 105, 111, 110] by decide)]
        exact zI
      · have hc' : cutH t 32 = false := by simpa using hc
        have hnb := cut_no hc'
        have hR : cutR t 32 = (⟨#[]⟩ : ByteArray) := by
          unfold cutR
          rw [if_neg (of_decide_eq_false hc')]
        rw [hR]
        by_cases c1 : (cutL t 32).toList = ([101, 110, 100, 112, 111, 105, 110, 116, 115] : List UInt8)
        · simp only [if_pos c1]
          exact none_I t (xE 1 (⟨#[]⟩ : ByteArray)) (fun _ _ => eT_1 _ (by rw [c0_size]; omega)) (fun _ _ _ hu => has32 (by decide) hu hnb)
        by_cases c2 : (cutL t 32).toList = ([114, 101, 112, 111, 114, 116, 116, 111] : List UInt8)
        · simp only [if_neg c1, if_pos c2]
          exact none_I t (xE 2 (⟨#[]⟩ : ByteArray)) (fun _ _ => eT_2 _ (by rw [c0_size]; omega)) (fun _ _ _ hu => has32 (by decide) hu hnb)
        by_cases c3 : (cutL t 32).toList = ([112, 111, 108, 105, 99, 121] : List UInt8)
        · simp only [if_neg c1, if_neg c2, if_pos c3]
          exact none_I t (xE 3 (⟨#[]⟩ : ByteArray)) (fun _ _ => eT_3 _ (by rw [c0_size]; omega)) (fun _ _ _ hu => has32 (by decide) hu hnb)
        by_cases c4 : (cutL t 32).toList = ([116, 105, 99, 107] : List UInt8)
        · simp only [if_neg c1, if_neg c2, if_neg c3, if_pos c4, number_impl (⟨#[]⟩ : ByteArray) (by rw [c0_size]; omega), Option.bind_some]
          exact none_I t (tE (impl_number.val (⟨#[]⟩ : ByteArray))) (fun nm h => by
            obtain ⟨a1, a2⟩ := eB_t rfl h
            exact eT_5 (tE (impl_number.val (⟨#[]⟩ : ByteArray))) rfl (by omega) (by omega)) (fun _ _ _ hu => has32 (by decide) hu hnb)
        by_cases c6 : (cutL t 32).toList = ([115, 101, 110, 100] : List UInt8)
        · obtain ⟨q, p1, _, p3, p4, p5⟩ := split_is (⟨#[]⟩ : ByteArray) (by rw [c0_size]; omega)
          have hq : q = [(⟨#[]⟩ : ByteArray)] := jn_uniq _ _ p3 (by simp) p4 (fun a ha => by rw [List.mem_singleton.1 ha]; unfold nb; decide) p5
          subst hq
          simp only [if_neg c1, if_neg c2, if_neg c3, if_neg c4, if_pos c6, p1, Option.bind_some, List.length_singleton, if_pos (show ((1 : Nat) : Int) < 3 by omega)]
          exact Ev.now _
        by_cases c5 : (cutL t 32).toList = ([118, 105, 111, 108, 97, 116, 105, 111, 110] : List UInt8)
        · have hp : (pc 8 (⟨#[]⟩ : ByteArray)).length = 1 := by
            have hcut : ¬ cutH (⟨#[]⟩ : ByteArray) 32 = true := by decide
            unfold pc
            rw [if_neg hcut]; rfl
          simp only [if_neg c1, if_neg c2, if_neg c3, if_neg c4, if_neg c6, if_pos c5, splitN_is (⟨#[]⟩ : ByteArray) (by rw [c0_size]; omega), Option.bind_some, hp, if_pos (show ((1 : Nat) : Int) < 9 by omega)]
          exact Ev.now _
        simp only [if_neg c1, if_neg c2, if_neg c3, if_neg c4, if_neg c6, if_neg c5]
        exact zI
  have h1 : hd 1 t = ([cutL t 32], cutR t 32, true) := by unfold hd; rw [if_pos hb]; rfl
  obtain ⟨hl, hnb⟩ := cut_list hb.1
  rw [h1] at hH
  have ln : (([cutL t 32] : List ByteArray).length : Int) = 1 := rfl
  have r0 : rdOf ByteArray.empty [cutL t 32] 0 = cutL t 32 := rfl
  have pre : ∀ {p : ByteArray} {W : List UInt8}, (cutL t 32).toList = W → p.data.toList = W ++ [32] → p.data.toList = (cutL t 32).data.toList ++ [32] := fun h1 h2 => by rw [h2, ← h1, toList_data]
  by_cases c1 : (cutL t 32).toList = ([101, 110, 100, 112, 111, 105, 110, 116, 115] : List UInt8)
  · obtain ⟨ok, s1, s2⟩ := text_both t (cutL t 32) (cutR t 32) 1 _ (eT_1 _ (by omega)) ((behind hl (pre c1 rfl)).2 rfl)
    refine ⟨xE 1 (cutR t 32), ok, ?_, ?_⟩
    · unfold spec_l13Read.f
      refine Ev.bind hH ?_
      simp only [if_true, ln, r0, if_pos (show (0 : Int) < 1 by omega), if_pos c1]
      exact s1
    · unfold impl_readEvent.f
      simp only [hC, Option.bind_some, if_pos c1]
      exact s2
  by_cases c2 : (cutL t 32).toList = ([114, 101, 112, 111, 114, 116, 116, 111] : List UInt8)
  · obtain ⟨ok, s1, s2⟩ := text_both t (cutL t 32) (cutR t 32) 2 _ (eT_2 _ (by omega)) ((behind hl (pre c2 rfl)).2 rfl)
    refine ⟨xE 2 (cutR t 32), ok, ?_, ?_⟩
    · unfold spec_l13Read.f
      refine Ev.bind hH ?_
      simp only [if_true, ln, r0, if_pos (show (0 : Int) < 1 by omega), if_neg c1, if_pos c2]
      exact s1
    · unfold impl_readEvent.f
      simp only [hC, Option.bind_some, if_neg c1, if_pos c2]
      exact s2
  by_cases c3 : (cutL t 32).toList = ([112, 111, 108, 105, 99, 121] : List UInt8)
  · obtain ⟨ok, s1, s2⟩ := text_both t (cutL t 32) (cutR t 32) 3 _ (eT_3 _ (by omega)) ((behind hl (pre c3 rfl)).2 rfl)
    refine ⟨xE 3 (cutR t 32), ok, ?_, ?_⟩
    · unfold spec_l13Read.f
      refine Ev.bind hH ?_
      simp only [if_true, ln, r0, if_pos (show (0 : Int) < 1 by omega), if_neg c1, if_neg c2, if_pos c3]
      exact s1
    · unfold impl_readEvent.f
      simp only [hC, Option.bind_some, if_neg c1, if_neg c2, if_pos c3]
      exact s2
  by_cases c4 : (cutL t 32).toList = ([116, 105, 99, 107] : List UInt8)
  · obtain ⟨m, M, V⟩ := num_same (cutR t 32) (by omega)
    have hpre : (⟨#[116, 105, 99, 107, 32]⟩ : ByteArray).data.toList = (cutL t 32).data.toList ++ [32] := pre c4 rfl
    obtain ⟨ok, s1, s2⟩ := both t (impl_number.ok (cutR t 32)) (tE m) (tE (impl_number.val (cutR t 32))) (u := (⟨#[116, 105, 99, 107, 32]⟩ : ByteArray) ++ itoaB (impl_number.val (cutR t 32))) (tk := true) (fun nm h => by
        obtain ⟨a1, a2⟩ := eB_t rfl h
        exact eT_5 (tE (impl_number.val (cutR t 32))) rfl (by omega) (by omega))
      (fun h nm _ => ⟨by rw [V h], rfl, (behind hl hpre).2 (by rw [num_okE _ h])⟩)
      (fun nm h _ hu => by
        obtain ⟨a1, a2⟩ := eB_t rfl h
        change 1 ≤ impl_number.val (cutR t 32) at a1
        change impl_number.val (cutR t 32) ≤ 1000 at a2
        have hv := ba_eq ((behind hl hpre).1 hu)
        have ho : impl_number.ok (cutR t 32) = true := by rw [← hv]; exact num_own _ (by omega) (by omega)
        exact ⟨ho, by rw [V ho]⟩)
    refine ⟨tE m, ok, ?_, ?_⟩
    · unfold spec_l13Read.f
      refine Ev.bind hH ?_
      simp only [if_true, ln, r0, if_pos (show (0 : Int) < 1 by omega), if_neg c1, if_neg c2, if_neg c3, if_pos c4]
      exact Ev.bind M s1
    · unfold impl_readEvent.f
      simp only [hC, Option.bind_some, if_neg c1, if_neg c2, if_neg c3, if_pos c4, number_impl (cutR t 32) (by omega)]
      exact s2
  by_cases c6 : (cutL t 32).toList = ([115, 101, 110, 100] : List UInt8)
  · have c5 : ¬ (cutL t 32).toList = ([118, 105, 111, 108, 97, 116, 105, 111, 110] : List UInt8) := by rw [c6]; decide
    obtain ⟨e, b, ok, q1, q2, q3⟩ := send_both t (cutL t 32) (cutR t 32) ht (by omega) hl (by rw [← toList_data]; exact c6)
    refine ⟨e, ok, ?_, ?_⟩
    · unfold spec_l13Read.f
      refine Ev.bind hH ?_
      simp only [if_true, ln, r0, if_pos (show (0 : Int) < 1 by omega), if_neg c1, if_neg c2, if_neg c3, if_neg c4, if_neg c5, if_pos c6]
      exact Ev.bind q1 q2
    · unfold impl_readEvent.f
      simp only [hC, Option.bind_some, if_neg c1, if_neg c2, if_neg c3, if_neg c4, if_pos c6]
      exact q3
  by_cases c5 : (cutL t 32).toList = ([118, 105, 111, 108, 97, 116, 105, 111, 110] : List UInt8)
  · obtain ⟨e, b, ok, q1, q2, q3⟩ := viol_both t (cutL t 32) (cutR t 32) ht (by omega) hl (by rw [← toList_data]; exact c5)
    refine ⟨e, ok, ?_, ?_⟩
    · unfold spec_l13Read.f
      refine Ev.bind hH ?_
      simp only [if_true, ln, r0, if_pos (show (0 : Int) < 1 by omega), if_neg c1, if_neg c2, if_neg c3, if_neg c4, if_pos c5]
      exact Ev.bind q1 q2
    · unfold impl_readEvent.f
      simp only [hC, Option.bind_some, if_neg c1, if_neg c2, if_neg c3, if_neg c4, if_neg c6, if_pos c5]
      exact q3
  obtain ⟨nm0, z1, z2⟩ := name_same zE.n
  have zS := tailS true zE z1
  have hz : eB zE nm0 = false := by
    cases h : eB zE nm0 with
    | false => rfl
    | true => exact (zero_bad h).elim
  rw [hz] at zS
  refine ⟨zE, false, ?_, ?_⟩
  · unfold spec_l13Read.f
    refine Ev.bind hH ?_
    simp only [if_true, ln, r0, if_pos (show (0 : Int) < 1 by omega), if_neg c1, if_neg c2, if_neg c3, if_neg c4, if_neg c5, if_neg c6]
    exact zS
  · unfold impl_readEvent.f
    simp only [hC, Option.bind_some, if_neg c1, if_neg c2, if_neg c3, if_neg c4, if_neg c6, if_neg c5, Bool.false_eq_true, if_false]
    exact zI
def Evt.tupN (e : Evt) (n : Int) : Int × Int × Int × Int × ByteArray × ByteArray × ByteArray × ByteArray × ByteArray × ByteArray × ByteArray × ByteArray × Int × Int × Bool × Bool × Int := (e.k, e.d, e.s, e.t, e.x, e.n, e.v0, e.v1, e.v2, e.v3, e.v4, e.v5, e.l, e.c, e.r, e.z, n)
theorem event_both (t : ByteArray) : ∃ (e : Evt) (n : Int), Ev (fun k => spec_ReadEvent.f k t) (e.tupN n) ∧ Ev (fun k => impl_ReadEvent.f k t) (e.tupN n) := by
  have hlong : impl_long.f t = some (if (t.size : Int) ≤ 65536 then 0 else 2) := by
    unfold impl_long.f impl_unless.f
    by_cases h : (t.size : Int) ≤ 65536
    · rw [if_pos (decide_eq_true h), if_pos h]; rfl
    · rw [if_neg (by simpa using h), if_neg h]; rfl
  by_cases h : (t.size : Int) ≤ 65536
  · obtain ⟨e, ok, s1, s2⟩ := read_both t (by omega)
    cases ok with
    | true =>
      refine ⟨e, 0, ?_, ?_⟩
      · unfold spec_ReadEvent.f
        simp only [if_neg (show ¬ (t.size : Int) > 65536 by omega)]
        refine Ev.bind s1 ?_
        simp only [Evt.tup, if_true]
        exact Ev.now _
      · unfold impl_ReadEvent.f
        simp only [hlong, if_pos h, Option.bind_some, if_true]
        refine Ev.bind s2 ?_
        simp only [Evt.tup, if_true]
        exact Ev.now _
    | false =>
      refine ⟨zE, 3, ?_, ?_⟩
      · unfold spec_ReadEvent.f
        simp only [if_neg (show ¬ (t.size : Int) > 65536 by omega)]
        refine Ev.bind s1 ?_
        simp only [Evt.tup, Bool.false_eq_true, if_false]
        exact Ev.now _
      · unfold impl_ReadEvent.f
        simp only [hlong, if_pos h, Option.bind_some, if_true]
        refine Ev.bind s2 ?_
        simp only [Evt.tup, Bool.false_eq_true, if_false]
        exact Ev.now _
  · refine ⟨zE, 2, ?_, ?_⟩
    · unfold spec_ReadEvent.f
      simp only [if_pos (show (t.size : Int) > 65536 by omega)]
      exact Ev.now _
    · unfold impl_ReadEvent.f
      simp only [hlong, if_neg h, Option.bind_some, if_neg (show ¬ (2 : Int) = 0 by omega)]
      exact Ev.now _
theorem FnExactReadEvent : (∀ (a0 : ByteArray), (a0.size ≤ 9223372036854775807) → ∃ k, laws_FnExactReadEvent.f k a0 = some true) := by
  intro t _
  refine Ev.rounds ?_
  unfold laws_FnExactReadEvent.f
  by_cases h : (t.size : Int) > 1048576
  · simp only [if_pos h]; exact Ev.now _
  obtain ⟨e, n, s1, s2⟩ := event_both t
  simp only [if_neg h]
  refine Ev.bind s1 (Ev.bind s2 ?_)
  have he : laws_eqEvent.f e.k e.d e.s e.t e.x e.n e.v0 e.v1 e.v2 e.v3 e.v4 e.v5 e.l e.c e.r e.z e.k e.d e.s e.t e.x e.n e.v0 e.v1 e.v2 e.v3 e.v4 e.v5 e.l e.c e.r e.z = some true := by
    unfold laws_eqEvent.f laws_eqViolation.f
    simp
  simp only [Evt.tupN, he, Option.bind_some, if_true]
  exact Ev.now _
end Go.Proofs.YtagbjmjfelggmaaDoor.Pure
