/- The program's SameGroup answers as the reference's at every two groups; no condition. -/
import Derived.Test.YthifpohbdbhnlaaGreatDoorQFnExactSameGroupx3
import Derived.Lib.IndexAny
import Derived.Lib.ItoaLen
set_option linter.unusedVariables false
set_option linter.unusedSimpArgs false
namespace Go.Proofs.YthifpohbdbhnlaaGreatDoor.Pure
open Go.RowKit Go.Proofs.YthifpohbdbhnlaaGreatDoor.QFnExactSameGroup Go.Proofs.YthifpohbdbhnlaaGreatDoor.QFnStp Go.Proofs.YthifpohbdbhnlaaGreatDoorW.PrintWords Go.Proofs.YthifpohbdbhnlaaGreatDoorW.PrintLast
theorem wr {x : Int} (h0 : -9223372036854775808 ≤ x) (h1 : x ≤ 9223372036854775807) : wrap64 x = x := by unfold wrap64; omega
theorem size_len (s : ByteArray) : s.size = s.data.toList.length := by rw [Array.length_toList]; rfl
theorem drop_cons {s : ByteArray} {i : Nat} {b : UInt8} {l : List UInt8} (h : s.data.toList.drop i = b :: l) : i < s.size ∧ bt s (i : Int) = (b.toNat : Int) ∧ s.data.toList.drop (i + 1) = l := by
  have hi : i < s.data.toList.length := by
    rcases Nat.lt_or_ge i s.data.toList.length with h1 | h1
    · exact h1
    · rw [List.drop_eq_nil_of_le h1] at h; cases h
  rw [List.drop_eq_getElem_cons hi] at h
  injection h with h1 h2
  have hs : i < s.size := by rw [size_len]; exact hi
  refine ⟨hs, ?_, h2⟩
  rw [← h1]
  have e : (i : Int).toNat = i := by omega
  simp only [bt, e, dif_pos hs]
  rfl
theorem drop_nil {s : ByteArray} {i : Nat} (h : s.data.toList.drop i = []) : s.size ≤ i := by
  rw [size_len]
  exact List.drop_eq_nil_iff.1 h
def goodB (b : UInt8) : Bool := decide (33 ≤ b.toNat) && decide (b.toNat ≤ 126)
def onlyB (l W : List UInt8) : Bool := l.all fun b => goodB b && !W.contains b
theorem find_spec (wo : ByteArray) (c : UInt8) (hw : wo.size ≤ 1000) : ∀ (l : List UInt8) (i : Nat), wo.data.toList.drop i = l → ∃ t, Ev (fun k => spec_l01Find.l0 k wo (c.toNat : Int) (i : Int)) t ∧ (t < (wo.size : Int) ↔ l.contains c = true)
  | [], i, h => by
    have := drop_nil h
    exact ⟨(wo.size : Int), Ev.step (f := fun _ => some (wo.size : Int)) (fun k => by rw [spec_l01Find.l0, if_neg (by omega)]) (Ev.now _), by simp⟩
  | b :: l, i, h => by
    obtain ⟨h1, h2, h3⟩ := drop_cons h
    by_cases e : b = c
    · subst e
      refine ⟨(i : Int), Ev.step (f := fun _ => some (i : Int)) (fun k => by rw [spec_l01Find.l0, if_pos (by omega), if_pos (by omega), if_pos h2]) (Ev.now _), ?_⟩
      simp; omega
    · obtain ⟨t, ht, hi⟩ := find_spec wo c hw l (i + 1) h3
      refine ⟨t, Ev.step (f := fun k => spec_l01Find.l0 k wo (c.toNat : Int) ((i + 1 : Nat) : Int)) (fun k => ?_) ht, ?_⟩
      · have hne : ¬ bt wo (i : Int) = (c.toNat : Int) := by
          rw [h2]; intro hh; apply e; apply UInt8.toNat_inj.1; omega
        rw [spec_l01Find.l0, if_pos (by omega), if_pos (by omega), if_neg hne, wr (by omega) (by omega)]; rfl
      · rw [hi]
        have : (b :: l).contains c = l.contains c := by
          rw [List.contains_cons]
          have : (c == b) = false := by rw [beq_eq_false_iff_ne]; exact fun hh => e hh.symm
          rw [this, Bool.false_or]
        rw [this]
theorem only_loop (s wo : ByteArray) (hs : s.size ≤ 2000000) (hw : wo.size ≤ 1000) : ∀ (l : List UInt8) (i : Nat), s.data.toList.drop i = l → Ev (fun k => spec_l01Only.l0 k s wo (i : Int)) (onlyB l wo.data.toList)
  | [], i, h => by
    have := drop_nil h
    exact Ev.step (f := fun _ => some true) (fun k => by rw [spec_l01Only.l0, if_neg (by omega)]) (Ev.now _)
  | b :: l, i, h => by
    obtain ⟨h1, h2, h3⟩ := drop_cons h
    have e0 : onlyB (b :: l) wo.data.toList = ((goodB b && !wo.data.toList.contains b) && onlyB l wo.data.toList) := by simp [onlyB]
    by_cases c1 : b.toNat < 33
    · rw [show onlyB (b :: l) wo.data.toList = false by rw [e0]; simp [goodB]; omega]
      exact Ev.step (f := fun _ => some false) (fun k => by rw [spec_l01Only.l0, if_pos (by omega), if_pos (by omega), if_pos (by omega)]) (Ev.now _)
    by_cases c2 : b.toNat > 126
    · rw [show onlyB (b :: l) wo.data.toList = false by rw [e0]; simp [goodB]; omega]
      exact Ev.step (f := fun _ => some false) (fun k => by rw [spec_l01Only.l0, if_pos (by omega), if_pos (by omega), if_neg (by omega), if_pos (by omega)]) (Ev.now _)
    have hg : goodB b = true := by simp [goodB]; omega
    obtain ⟨t, ht, hi⟩ := find_spec wo b hw wo.data.toList 0 (by simp)
    refine Ev.step (f := fun k => (spec_l01Find.f k wo (bt s (i : Int))).bind fun t => if t < (wo.size : Int) then some false else spec_l01Only.l0 k s wo ((i + 1 : Nat) : Int)) (fun k => ?_) (Ev.bind (show Ev (fun k => spec_l01Find.f k wo (bt s (i : Int))) t from ?_) ?_)
    · rw [spec_l01Only.l0, if_pos (by omega), if_pos (by omega), if_neg (by omega), if_neg (by omega), wr (by omega) (by omega)]; rfl
    · unfold spec_l01Find.f; rw [h2]; exact ht
    · by_cases hc : wo.data.toList.contains b = true
      · simp only [if_pos (hi.2 hc)]
        rw [show onlyB (b :: l) wo.data.toList = false by rw [e0, hc]; simp]
        exact Ev.now _
      · have hc' : wo.data.toList.contains b = false := by simpa using hc
        simp only [if_neg (fun x => hc (hi.1 x))]
        rw [show onlyB (b :: l) wo.data.toList = onlyB l wo.data.toList by rw [e0, hg, hc']; simp]
        exact only_loop s wo hs hw l (i + 1) h3
theorem only_spec (s wo : ByteArray) (hs : s.size ≤ 2000000) (hw : wo.size ≤ 1000) : Ev (fun k => spec_l01Only.f k s wo) (onlyB s.data.toList wo.data.toList) := by
  unfold spec_l01Only.f
  exact only_loop s wo hs hw s.data.toList 0 (by simp)
def inB (n lo hi : Int) : Bool := decide (lo ≤ n) && decide (n ≤ hi)
theorem within_is (n lo hi : Int) : impl_within.f n lo hi = some (inB n lo hi) := by
  unfold impl_within.f inB
  by_cases h : lo ≤ n <;> simp [h]
theorem shown_loop (s : ByteArray) (hs : s.size ≤ 20000000) : ∀ (l : List UInt8) (i : Nat), s.data.toList.drop i = l → Ev (fun k => impl_areShown.l0 k s (s.size : Int) (i : Int)) (l.all goodB)
  | [], i, h => by
    have := drop_nil h
    exact Ev.step (f := fun _ => some true) (fun k => by rw [impl_areShown.l0, if_neg (by omega)]) (Ev.now _)
  | b :: l, i, h => by
    obtain ⟨h1, h2, h3⟩ := drop_cons h
    have hb : b.toNat < 256 := b.toNat_lt
    have hg : inB (b.toNat : Int) 33 126 = goodB b := by unfold inB goodB; congr 1 <;> simp <;> omega
    refine Ev.step (f := fun k => if goodB b = true then impl_areShown.l0 k s (s.size : Int) ((i + 1 : Nat) : Int) else some false) (fun k => ?_) ?_
    · rw [impl_areShown.l0, if_pos (by omega), if_pos (by omega), if_pos (by omega), h2, wr (x := (b.toNat : Int)) (by omega) (by omega), within_is, hg, wr (x := (i : Int) + 1) (by omega) (by omega)]; rfl
    · rw [List.all_cons]
      cases goodB b
      · simp only [Bool.false_eq_true, if_false, Bool.false_and]; exact Ev.now _
      · simp only [if_true, Bool.true_and]; exact shown_loop s hs l (i + 1) h3
theorem shown_impl (s : ByteArray) (hs : s.size ≤ 20000000) : Ev (fun k => impl_areShown.f k s) (s.data.toList.all goodB) := by
  unfold impl_areShown.f
  exact shown_loop s hs s.data.toList 0 (by simp)
theorem containsAny_eq (W : List UInt8) : ∀ l : List UInt8, Lib.containsAny l W = l.any fun b => W.contains b
  | [] => by simp [Lib.containsAny, Lib.indexAny]
  | b :: l => by
    have ih := containsAny_eq W l
    have g := Lib.indexAny_ge W l
    unfold Lib.containsAny at ih ⊢
    rw [List.any_cons, ← ih, Lib.indexAny]
    by_cases c : W.contains b = true
    · rw [if_pos c, c]; simp
    · have c' : W.contains b = false := by simpa using c
      rw [if_neg c, c', Bool.false_or]
      by_cases e : Lib.indexAny l W = -1
      · simp [e]
      · have e1 : (Lib.indexAny l W == -1) = false := by simpa using e
        rw [e1]
        simp only [Bool.false_eq_true, if_false]
        congr 1
        apply propext
        omega
theorem only_split (l W : List UInt8) : onlyB l W = (l.all goodB && !Lib.containsAny l W) := by
  rw [containsAny_eq]
  induction l with
  | nil => rfl
  | cons b l ih =>
    have e0 : onlyB (b :: l) W = ((goodB b && !W.contains b) && onlyB l W) := by simp [onlyB]
    rw [e0, ih, List.all_cons, List.any_cons]
    cases goodB b <;> cases W.contains b <;> simp
theorem shown_ok {s : ByteArray} (h : s.data.toList.all goodB = true) : strings_ContainsAny.ok s = true := by
  unfold strings_ContainsAny.ok
  rw [List.all_eq_true] at h ⊢
  intro b hb
  have := h b hb
  simp [goodB] at this
  simp; omega
theorem contains_impl (s wo : ByteArray) (hs : s.size ≤ 2000000) (hw : wo.size ≤ 1000) (hg : s.data.toList.all goodB = true) (ho : strings_ContainsAny.ok wo = true) : strings_ContainsAny.f s wo = some (!onlyB s.data.toList wo.data.toList) := by
  unfold strings_ContainsAny.f
  rw [if_pos ⟨by omega, by omega, shown_ok hg, ho⟩, only_split, hg]
  simp
theorem in_is (n lo hi : Int) : spec_l01In.f n lo hi = some (inB n lo hi) := by
  unfold spec_l01In.f inB
  by_cases h : lo ≤ n
  · rw [if_pos h]; simp [h]
  · rw [if_neg h]; simp [h]
def lowB (b : UInt8) : Bool := decide (97 ≤ b.toNat) && decide (b.toNat ≤ 122)
def digB (b : UInt8) : Bool := decide (48 ≤ b.toNat) && decide (b.toNat ≤ 57)
theorem low_is (b : UInt8) : impl_isLower.f (b.toNat : Int) = some (lowB b) := by
  unfold impl_isLower.f lowB
  by_cases h : 97 ≤ b.toNat
  · rw [if_pos (by omega)]; simp [h]; omega
  · rw [if_neg (by omega)]; simp [h]
theorem dig_is (b : UInt8) : impl_isDigit.f (b.toNat : Int) = some (digB b) := by
  unfold impl_isDigit.f digB
  by_cases h : 48 ≤ b.toNat
  · rw [if_pos (by omega)]; simp [h]; omega
  · rw [if_neg (by omega)]; simp [h]
theorem digS_is (b : UInt8) : spec_l00Digit.f (b.toNat : Int) = some (digB b) := by
  unfold spec_l00Digit.f digB
  by_cases h : 48 ≤ b.toNat
  · rw [if_pos (by omega)]; simp [h]; omega
  · rw [if_neg (by omega)]; simp [h]
def schemeB : Bool → List UInt8 → Bool
  | _, [] => true
  | first, b :: l => if lowB b = true then schemeB false l else if first = true then false else if digB b = true ∨ b.toNat = 45 ∨ b.toNat = 43 ∨ b.toNat = 46 then schemeB false l else false
theorem scheme_spec_loop (s : ByteArray) (hs : s.size ≤ 2000000) : ∀ (l : List UInt8) (i : Nat), s.data.toList.drop i = l → Ev (fun k => spec_l01Scheme.l0 k s (i : Int)) (schemeB (decide (i = 0)) l)
  | [], i, h => by
    have := drop_nil h
    exact Ev.step (f := fun _ => some true) (fun k => by rw [spec_l01Scheme.l0, if_neg (by omega)]) (Ev.now _)
  | b :: l, i, h => by
    obtain ⟨h1, h2, h3⟩ := drop_cons h
    have rcu := scheme_spec_loop s hs l (i + 1) h3
    rw [show decide (i + 1 = 0) = false by simp] at rcu
    have w1 : wrap64 ((i : Int) + 1) = ((i + 1 : Nat) : Int) := by rw [wr (by omega) (by omega)]; rfl
    refine Ev.step (f := fun k => if lowB b = true then spec_l01Scheme.l0 k s ((i + 1 : Nat) : Int) else if i = 0 then some false else if digB b = true ∨ b.toNat = 45 ∨ b.toNat = 43 ∨ b.toNat = 46 then spec_l01Scheme.l0 k s ((i + 1 : Nat) : Int) else some false) (fun k => ?_) ?_
    · rw [spec_l01Scheme.l0, if_pos (by omega), if_pos (by omega), h2, digS_is, w1]
      simp only [Option.bind_some]
      have z : ((i : Int) = 0) = (i = 0) := propext (by omega)
      have z1 : ((b.toNat : Int) = 45) = (b.toNat = 45) := propext (by omega)
      have z2 : ((b.toNat : Int) = 43) = (b.toNat = 43) := propext (by omega)
      have z3 : ((b.toNat : Int) = 46) = (b.toNat = 46) := propext (by omega)
      by_cases a : 97 ≤ b.toNat
      · rw [if_pos (by omega)]
        by_cases c : b.toNat ≤ 122
        · rw [if_pos (by omega), if_pos (by simp [lowB, a, c])]
        · rw [if_neg (by omega), if_neg (show ¬ lowB b = true by simp [lowB, c])]
          simp only [z, z1, z2, z3]
          by_cases i0 : i = 0
          · rw [if_pos i0, if_pos i0]
          · rw [if_neg i0, if_neg i0]
            by_cases d : digB b = true
            · rw [if_pos d, if_pos (.inl d)]
            · rw [if_neg d]
              by_cases e1 : b.toNat = 45
              · rw [if_pos e1, if_pos (.inr (.inl e1))]
              · rw [if_neg e1]
                by_cases e2 : b.toNat = 43
                · rw [if_pos e2, if_pos (.inr (.inr (.inl e2)))]
                · rw [if_neg e2]
                  by_cases e3 : b.toNat = 46
                  · rw [if_pos e3, if_pos (.inr (.inr (.inr e3)))]
                  · rw [if_neg e3, if_neg]; rintro (h | h | h | h) <;> contradiction
      · rw [if_neg (by omega), if_neg (show ¬ lowB b = true by simp [lowB, a])]
        simp only [z, z1, z2, z3]
        by_cases i0 : i = 0
        · rw [if_pos i0, if_pos i0]
        · rw [if_neg i0, if_neg i0]
          by_cases d : digB b = true
          · rw [if_pos d, if_pos (.inl d)]
          · rw [if_neg d]
            by_cases e1 : b.toNat = 45
            · rw [if_pos e1, if_pos (.inr (.inl e1))]
            · rw [if_neg e1]
              by_cases e2 : b.toNat = 43
              · rw [if_pos e2, if_pos (.inr (.inr (.inl e2)))]
              · rw [if_neg e2]
                by_cases e3 : b.toNat = 46
                · rw [if_pos e3, if_pos (.inr (.inr (.inr e3)))]
                · rw [if_neg e3, if_neg]; rintro (h | h | h | h) <;> contradiction
    · rw [schemeB]
      by_cases a : lowB b = true
      · simp only [if_pos a]; exact rcu
      · simp only [if_neg a]
        by_cases i0 : i = 0
        · simp only [i0, if_true, decide_true]; exact Ev.now _
        · simp only [if_neg i0, decide_eq_false i0, Bool.false_eq_true, if_false]
          by_cases d : digB b = true ∨ b.toNat = 45 ∨ b.toNat = 43 ∨ b.toNat = 46
          · simp only [if_pos d]; exact rcu
          · simp only [if_neg d]; exact Ev.now _
theorem scheme_spec (s : ByteArray) (hs : s.size ≤ 2000000) : Ev (fun k => spec_l01Scheme.f k s) (inB (s.size : Int) 1 12 && schemeB true s.data.toList) := by
  unfold spec_l01Scheme.f
  simp only [in_is, Option.bind_some]
  cases inB (s.size : Int) 1 12
  · simp only [Bool.false_eq_true, if_false, Bool.false_and]; exact Ev.now _
  · simp only [if_true, Bool.true_and]
    have := scheme_spec_loop s hs s.data.toList 0 (by simp)
    exact this
theorem scheme_impl_loop (s : ByteArray) (hs : s.size ≤ 2000000) (n : Nat) (hn : n ≤ s.size) : ∀ (l : List UInt8) (i : Nat), i ≤ n → s.data.toList.drop i = l → Ev (fun k => impl_isScheme.l0 k s (n : Int) (i : Int)) (schemeB (decide (i = 0)) (l.take (n - i)) && inB (s.size : Int) 1 12)
  | [], i, hi, h => by
    have := drop_nil h
    have e : i = n := by omega
    subst e
    refine Ev.step (f := fun _ => some (inB (s.size : Int) 1 12)) (fun k => by rw [impl_isScheme.l0, if_neg (by omega), within_is]; rfl) ?_
    simp only [List.take_nil, schemeB, Bool.true_and]
    exact Ev.now _
  | b :: l, i, hi, h => by
    obtain ⟨h1, h2, h3⟩ := drop_cons h
    by_cases e : i = n
    · subst e
      refine Ev.step (f := fun _ => some (inB (s.size : Int) 1 12)) (fun k => by rw [impl_isScheme.l0, if_neg (by omega), within_is]; rfl) ?_
      simp only [Nat.sub_self, List.take_zero, schemeB, Bool.true_and]
      exact Ev.now _
    have rcu := scheme_impl_loop s hs n hn l (i + 1) (by omega) h3
    rw [show decide (i + 1 = 0) = false by simp] at rcu
    have w1 : wrap64 ((i : Int) + 1) = ((i + 1 : Nat) : Int) := by rw [wr (by omega) (by omega)]; rfl
    have tk : (b :: l).take (n - i) = b :: l.take (n - (i + 1)) := by rw [show n - i = (n - (i + 1)) + 1 by omega, List.take_succ_cons]
    rw [tk]
    refine Ev.step (f := fun k => if lowB b = true then impl_isScheme.l0 k s (n : Int) ((i + 1 : Nat) : Int) else if i = 0 then some false else if digB b = true ∨ b.toNat = 45 ∨ b.toNat = 43 ∨ b.toNat = 46 then impl_isScheme.l0 k s (n : Int) ((i + 1 : Nat) : Int) else some false) (fun k => ?_) ?_
    · rw [impl_isScheme.l0, if_pos (by omega), if_pos (by omega), if_pos (by omega), h2, low_is, dig_is, w1]
      simp only [Option.bind_some]
      have z : ((i : Int) = 0) = (i = 0) := propext (by omega)
      have z1 : ((b.toNat : Int) = 45) = (b.toNat = 45) := propext (by omega)
      have z2 : ((b.toNat : Int) = 43) = (b.toNat = 43) := propext (by omega)
      have z3 : ((b.toNat : Int) = 46) = (b.toNat = 46) := propext (by omega)
      simp only [z, z1, z2, z3]
      by_cases a : lowB b = true
      · rw [if_pos a, if_pos a]
      · rw [if_neg a, if_neg a]
        by_cases i0 : i = 0
        · rw [if_pos i0, if_pos i0]
        · rw [if_neg i0, if_neg i0]
          by_cases d : digB b = true
          · rw [if_pos d, if_pos (.inl d)]
          · rw [if_neg d]
            by_cases e1 : b.toNat = 45
            · rw [if_pos e1, if_pos (.inr (.inl e1))]
            · rw [if_neg e1]
              by_cases e2 : b.toNat = 43
              · rw [if_pos e2, if_pos (.inr (.inr (.inl e2)))]
              · rw [if_neg e2]
                by_cases e3 : b.toNat = 46
                · rw [if_pos e3, if_pos (.inr (.inr (.inr e3)))]
                · rw [if_neg e3, if_neg]; rintro (h | h | h | h) <;> contradiction
    · rw [schemeB]
      by_cases a : lowB b = true
      · simp only [if_pos a]; exact rcu
      · simp only [if_neg a]
        by_cases i0 : i = 0
        · simp only [i0, if_true, decide_true, Bool.false_and]; exact Ev.now _
        · simp only [if_neg i0, decide_eq_false i0, Bool.false_eq_true, if_false]
          by_cases d : digB b = true ∨ b.toNat = 45 ∨ b.toNat = 43 ∨ b.toNat = 46
          · simp only [if_pos d]; exact rcu
          · simp only [if_neg d, Bool.false_and]; exact Ev.now _
theorem scheme_impl (s : ByteArray) (hs : s.size ≤ 2000000) : Ev (fun k => impl_isScheme.f k s) (inB (s.size : Int) 1 12 && schemeB true s.data.toList) := by
  unfold impl_isScheme.f
  by_cases h : s.size ≤ 12
  · have e : mn (s.size : Int) 13 = ((s.size : Nat) : Int) := by unfold mn; rw [if_neg (by omega)]
    rw [e]
    have := scheme_impl_loop s hs s.size (Nat.le_refl _) s.data.toList 0 (by omega) (by simp)
    rw [List.take_of_length_le (by rw [← size_len]; omega)] at this
    rw [Bool.and_comm]
    exact this
  · have e : mn (s.size : Int) 13 = ((13 : Nat) : Int) := by unfold mn; split <;> omega
    rw [e]
    have := scheme_impl_loop s hs 13 (by omega) s.data.toList 0 (by omega) (by simp)
    have z : inB (s.size : Int) 1 12 = false := by unfold inB; simp; omega
    rw [z, Bool.and_false] at this
    rw [z, Bool.false_and]
    exact this
def sepB (b : UInt8) : Bool := decide (b.toNat = 45) || decide (b.toNat = 46)
def hostB : Bool → List UInt8 → Bool
  | last, [] => !last
  | last, b :: l => if lowB b = true ∨ digB b = true then hostB false l else if last = true then false else if sepB b = true then hostB true l else false
theorem host_spec_loop (s : ByteArray) (hs : s.size ≤ 2000000) : ∀ (l : List UInt8) (i : Nat) (last : Bool), s.data.toList.drop i = l → Ev (fun k => spec_l01Host.l0 k s last (i : Int)) (hostB last l)
  | [], i, last, h => by
    have := drop_nil h
    exact Ev.step (f := fun _ => some (!last)) (fun k => by rw [spec_l01Host.l0, if_neg (by omega)]) (Ev.now _)
  | b :: l, i, last, h => by
    obtain ⟨h1, h2, h3⟩ := drop_cons h
    have r0 := host_spec_loop s hs l (i + 1) false h3
    have r1 := host_spec_loop s hs l (i + 1) true h3
    have w1 : wrap64 ((i : Int) + 1) = ((i + 1 : Nat) : Int) := by rw [wr (by omega) (by omega)]; rfl
    have z1 : ((b.toNat : Int) = 45) = (b.toNat = 45) := propext (by omega)
    have z3 : ((b.toNat : Int) = 46) = (b.toNat = 46) := propext (by omega)
    refine Ev.step (f := fun k => if lowB b = true ∨ digB b = true then spec_l01Host.l0 k s false ((i + 1 : Nat) : Int) else if last = true then some false else if sepB b = true then spec_l01Host.l0 k s true ((i + 1 : Nat) : Int) else some false) (fun k => ?_) ?_
    · rw [spec_l01Host.l0, if_pos (by omega), if_pos (by omega), h2, digS_is, w1]
      simp only [Option.bind_some, z1, z3]
      have tail : ∀ hd : ¬ lowB b = true, (if digB b = true then spec_l01Host.l0 k s (!digB b) ((i + 1 : Nat) : Int) else if last = true then some false else if b.toNat = 45 then spec_l01Host.l0 k s (!digB b) ((i + 1 : Nat) : Int) else if b.toNat = 46 then spec_l01Host.l0 k s (!digB b) ((i + 1 : Nat) : Int) else some false) = (if lowB b = true ∨ digB b = true then spec_l01Host.l0 k s false ((i + 1 : Nat) : Int) else if last = true then some false else if sepB b = true then spec_l01Host.l0 k s true ((i + 1 : Nat) : Int) else some false) := fun hd => by
        by_cases d : digB b = true
        · rw [if_pos d, if_pos (.inr d), d]; rfl
        · have d' : digB b = false := by simpa using d
          rw [if_neg d, if_neg (show ¬ (lowB b = true ∨ digB b = true) from fun x => x.elim hd d), d']
          by_cases hl : last = true
          · rw [if_pos hl, if_pos hl]
          · rw [if_neg hl, if_neg hl]
            by_cases e1 : b.toNat = 45
            · rw [if_pos e1, if_pos (by simp [sepB, e1])]; rfl
            · rw [if_neg e1]
              by_cases e2 : b.toNat = 46
              · rw [if_pos e2, if_pos (by simp [sepB, e2])]; rfl
              · rw [if_neg e2, if_neg (by simp [sepB, e1, e2])]
      by_cases a : 97 ≤ b.toNat
      · rw [if_pos (by omega)]
        by_cases c : b.toNat ≤ 122
        · rw [if_pos (by omega), if_pos (.inl (by simp [lowB, a, c]))]; rfl
        · rw [if_neg (by omega)]; exact tail (by simp [lowB, c])
      · rw [if_neg (by omega)]; exact tail (by simp [lowB, a])
    · rw [hostB]
      by_cases a : lowB b = true ∨ digB b = true
      · simp only [if_pos a]; exact r0
      · simp only [if_neg a]
        by_cases hl : last = true
        · simp only [if_pos hl]; exact Ev.now _
        · simp only [if_neg hl]
          by_cases d : sepB b = true
          · simp only [if_pos d]; exact r1
          · simp only [if_neg d]; exact Ev.now _
theorem host_spec (s : ByteArray) (hs : s.size ≤ 2000000) : Ev (fun k => spec_l01Host.f k s) (hostB true s.data.toList) := by
  unfold spec_l01Host.f
  exact host_spec_loop s hs s.data.toList 0 true (by simp)
def lastOf (s : ByteArray) (i : Nat) : Prop := i = 0 ∨ bt s ((i - 1 : Nat) : Int) = 45 ∨ bt s ((i - 1 : Nat) : Int) = 46
theorem host_impl_loop (s : ByteArray) (hs : s.size ≤ 2000000) : ∀ (l : List UInt8) (i : Nat) (last : Bool), s.data.toList.drop i = l → (last = true ↔ lastOf s i) → (l = [] → i = 0 ∨ last = false) → i ≤ s.size → Ev (fun k => impl_isHost.l0 k s (s.size : Int) (i : Int)) (hostB last l)
  | [], i, last, h, hl, he, hi => by
    have hn := drop_nil h
    refine Ev.step (f := fun _ => some (!last)) (fun k => ?_) (Ev.now _)
    rw [impl_isHost.l0, if_neg (by omega)]
    congr 1
    rcases he rfl with h0 | h0
    · subst h0
      have : last = true := hl.2 (.inl rfl)
      subst this
      have e : s.data.toList = [] := by simpa using h
      have e2 : s.toList = [] := by rw [ByteArray.toList_eq]; exact e
      rw [e2]; rfl
    · subst h0
      have e2 : ¬ s.toList = [] := by
        intro c
        rw [ByteArray.toList_eq] at c
        have : s.size = 0 := by rw [size_len, c]; rfl
        have hi0 : i = 0 := by omega
        have := hl.2 (.inl hi0)
        cases this
      have : (s.toList != ([] : List UInt8)) = true := bne_iff_ne.mpr e2
      rw [this]; rfl
  | b :: l, i, last, h, hl, he, hi => by
    obtain ⟨h1, h2, h3⟩ := drop_cons h
    have w1 : wrap64 ((i : Int) + 1) = ((i + 1 : Nat) : Int) := by rw [wr (by omega) (by omega)]; rfl
    have z1 : ((b.toNat : Int) = 45) = (b.toNat = 45) := propext (by omega)
    have z3 : ((b.toNat : Int) = 46) = (b.toNat = 46) := propext (by omega)
    have hb : bt s (((i + 1) - 1 : Nat) : Int) = (b.toNat : Int) := by rw [Nat.add_sub_cancel]; exact h2
    by_cases a : lowB b = true ∨ digB b = true
    · have hp : ¬ lastOf s (i + 1) := by
        rintro (h0 | h0 | h0)
        · omega
        · rw [hb] at h0; have : b.toNat = 45 := by omega
          simp [lowB, digB, this] at a
        · rw [hb] at h0; have : b.toNat = 46 := by omega
          simp [lowB, digB, this] at a
      have r0 := host_impl_loop s hs l (i + 1) false h3 ⟨fun c => (by cases c), fun c => absurd c hp⟩ (fun _ => .inr rfl) (by omega)
      rw [hostB, if_pos a]
      refine Ev.step (f := fun k => impl_isHost.j1 k s (i : Int) (b.toNat : Int) (s.size : Int) (i : Int) true) (fun k => ?_) ?_
      · rw [impl_isHost.l0, if_pos (by omega), if_pos (by omega), if_pos (by omega), h2, low_is, dig_is]
        simp only [Option.bind_some]
        by_cases c : lowB b = true
        · rw [if_pos c]
        · rw [if_neg c]
          have : digB b = true := by rcases a with a | a; exact absurd a c; exact a
          rw [this]
      · exact Ev.step (f := fun k => impl_isHost.l0 k s (s.size : Int) ((i + 1 : Nat) : Int)) (fun k => by rw [impl_isHost.j1, if_pos rfl, w1]) r0
    · have c1 : lowB b = false := by cases e : lowB b; rfl; exact absurd (.inl e) a
      have c2 : digB b = false := by cases e : digB b; rfl; exact absurd (.inr e) a
      rw [hostB, if_neg a]
      refine Ev.step (f := fun k => impl_isHost.j1 k s (i : Int) (b.toNat : Int) (s.size : Int) (i : Int) false) (fun k => ?_) ?_
      · rw [impl_isHost.l0, if_pos (by omega), if_pos (by omega), if_pos (by omega), h2, low_is, dig_is]
        simp only [Option.bind_some, c1, c2, Bool.false_eq_true, if_false]
      by_cases sp : sepB b = true
      · -- a point or a stroke
        have hw : wrap64 ((s.size : Int) - 1) = (s.size : Int) - 1 := wr (by omega) (by omega)
        have core : ∀ k, impl_isHost.j1 (k + 1) s (i : Int) (b.toNat : Int) (s.size : Int) (i : Int) false = (if i = 0 then some false else if i + 1 = s.size then some false else if bt s ((i - 1 : Nat) : Int) = 45 ∨ bt s ((i - 1 : Nat) : Int) = 46 then some false else impl_isHost.l0 k s (s.size : Int) ((i + 1 : Nat) : Int)) := fun k => by
          have body : ∀ i0 : ¬ i = 0, (if 0 ≤ wrap64 ((i : Int) - 1) then (if wrap64 ((i : Int) - 1) < (s.size : Int) then (if bt s (wrap64 ((i : Int) - 1)) = 45 then some false else (if bt s (wrap64 ((i : Int) - 1)) = 46 then some false else impl_isHost.l0 k s (s.size : Int) (wrap64 ((i : Int) + 1)))) else none) else none) = (if bt s ((i - 1 : Nat) : Int) = 45 ∨ bt s ((i - 1 : Nat) : Int) = 46 then some false else impl_isHost.l0 k s (s.size : Int) ((i + 1 : Nat) : Int)) := fun i0 => by
            have e : wrap64 ((i : Int) - 1) = ((i - 1 : Nat) : Int) := by rw [wr (by omega) (by omega)]; omega
            rw [e, if_pos (by omega), if_pos (by omega), w1]
            by_cases p : bt s ((i - 1 : Nat) : Int) = 45
            · rw [if_pos p, if_pos (.inl p)]
            · rw [if_neg p]
              by_cases q : bt s ((i - 1 : Nat) : Int) = 46
              · rw [if_pos q, if_pos (.inr q)]
              · rw [if_neg q, if_neg (by rintro (h | h) <;> contradiction)]
          rw [impl_isHost.j1]
          simp only [Bool.false_eq_true, if_false, z1, z3, hw]
          have arm : (if (i : Int) = 0 then some false else (if (i : Int) = (s.size : Int) - 1 then some false else (if 0 ≤ wrap64 ((i : Int) - 1) then (if wrap64 ((i : Int) - 1) < (s.size : Int) then (if bt s (wrap64 ((i : Int) - 1)) = 45 then some false else (if bt s (wrap64 ((i : Int) - 1)) = 46 then some false else impl_isHost.l0 k s (s.size : Int) (wrap64 ((i : Int) + 1)))) else none) else none))) = (if i = 0 then some false else if i + 1 = s.size then some false else if bt s ((i - 1 : Nat) : Int) = 45 ∨ bt s ((i - 1 : Nat) : Int) = 46 then some false else impl_isHost.l0 k s (s.size : Int) ((i + 1 : Nat) : Int)) := by
            by_cases i0 : i = 0
            · rw [if_pos (by omega), if_pos i0]
            · rw [if_neg (by omega), if_neg i0]
              by_cases i1 : i + 1 = s.size
              · rw [if_pos (by omega), if_pos i1]
              · rw [if_neg (by omega), if_neg i1]; exact body i0
          by_cases e1 : b.toNat = 45
          · rw [if_pos e1]; exact arm
          · have e2 : b.toNat = 46 := by simpa [sepB, e1] using sp
            rw [if_neg e1, if_pos e2]; exact arm
        have hlast : lastOf s (i + 1) := by
          right; rw [hb]
          have : b.toNat = 45 ∨ b.toNat = 46 := by simpa [sepB] using sp
          omega
        by_cases hp : last = true
        · rw [if_pos hp]
          refine Ev.step (f := fun _ => some false) (fun k => ?_) (Ev.now _)
          rw [core]
          by_cases i0 : i = 0
          · rw [if_pos i0]
          · rw [if_neg i0]
            by_cases i1 : i + 1 = s.size
            · rw [if_pos i1]
            · rw [if_neg i1]
              have : bt s ((i - 1 : Nat) : Int) = 45 ∨ bt s ((i - 1 : Nat) : Int) = 46 := by
                rcases hl.1 hp with h | h
                · exact absurd h i0
                · exact h
              rw [if_pos this]
        · rw [if_neg hp, if_pos sp]
          have i0 : ¬ i = 0 := fun c => hp (hl.2 (.inl c))
          have np : ¬ (bt s ((i - 1 : Nat) : Int) = 45 ∨ bt s ((i - 1 : Nat) : Int) = 46) := fun c => hp (hl.2 (.inr c))
          by_cases i1 : i + 1 = s.size
          · have hle : l = [] := by
              rw [← h3]; exact List.drop_eq_nil_of_le (by rw [← size_len]; omega)
            subst hle
            exact Ev.step (f := fun _ => some false) (fun k => by rw [core, if_neg i0, if_pos i1]) (Ev.now _)
          · have hne : l = [] → i + 1 = 0 ∨ true = false := fun c => by
              subst c
              have := drop_nil h3
              omega
            have r1 := host_impl_loop s hs l (i + 1) true h3 ⟨fun _ => hlast, fun _ => rfl⟩ hne (by omega)
            exact Ev.step (f := fun k => impl_isHost.l0 k s (s.size : Int) ((i + 1 : Nat) : Int)) (fun k => by rw [core, if_neg i0, if_neg i1, if_neg np]) r1
      · have e1 : ¬ b.toNat = 45 := fun c => sp (by simp [sepB, c])
        have e2 : ¬ b.toNat = 46 := fun c => sp (by simp [sepB, c])
        have : (if last = true then false else if sepB b = true then hostB true l else false) = false := by rw [if_neg sp]; split <;> rfl
        rw [this]
        refine Ev.step (f := fun _ => some false) (fun k => ?_) (Ev.now _)
        rw [impl_isHost.j1]
        simp only [Bool.false_eq_true, if_false, z1, z3, if_neg e1, if_neg e2]
theorem host_impl (s : ByteArray) (hs : s.size ≤ 2000000) : Ev (fun k => impl_isHost.f k s) (hostB true s.data.toList) := by
  unfold impl_isHost.f
  exact host_impl_loop s hs s.data.toList 0 true (by simp) ⟨fun _ => .inl rfl, fun _ => rfl⟩ (fun _ => .inl rfl) (by omega)
def itoaB (n : Int) : ByteArray := ⟨(Lib.itoa n).toArray⟩
theorem itoa_is (n : Int) (h0 : -9223372036854775808 ≤ n) (h1 : n ≤ 9223372036854775807) : strconv_Itoa.f n = some (itoaB n) := by
  unfold strconv_Itoa.f itoaB
  rw [if_pos ⟨h0, h1⟩]
theorem itoaB_size (n : Int) (h0 : -9223372036854775808 ≤ n) (h1 : n ≤ 9223372036854775807) : (itoaB n).size ≤ 21 := by
  have := Lib.itoa_length_le n h0 h1
  simpa [itoaB, ByteArray.size] using this
theorem bytes_join (a b : List UInt8) : (⟨(a ++ b).toArray⟩ : ByteArray) = (⟨a.toArray⟩ : ByteArray) ++ (⟨b.toArray⟩ : ByteArray) := by
  apply ByteArray.ext
  rw [ByteArray.data_append]
  simp
theorem nDigits_mono (u : Nat) (h : u < 18446744073709551616) : (Lib.decDigits u).length ≤ 20 := by
  rw [Lib.decDigits_length]; exact Lib.nDigits_le20 u h
theorem digits_nat : ∀ (u : Nat), u ≤ 9223372036854775807 → Ev (fun k => spec_l00Digits.f k (u : Int)) (⟨(Lib.decDigits u).toArray⟩ : ByteArray) := by
  intro u
  induction u using Nat.strongRecOn with
  | _ u ih =>
  intro hu
  by_cases h : u < 10
  · refine Ev.step (f := fun _ => some (⟨(Lib.decDigits u).toArray⟩ : ByteArray)) (fun k => ?_) (Ev.now _)
    rw [spec_l00Digits.f, if_neg (by omega), if_neg (by omega), if_pos (by omega), wr (by omega) (by omega), Lib.decDigits_one h]
    have e : ((48 + (u : Int)) % 256).toNat = 48 + u := by omega
    simp [strOfNums, e]
  · have hd : Int.tdiv (u : Int) 10 = ((u / 10 : Nat) : Int) := by rw [Int.tdiv_eq_ediv_of_nonneg (by omega)]; omega
    have hm : Int.tmod (u : Int) 10 = ((u % 10 : Nat) : Int) := by rw [Int.tmod_eq_emod_of_nonneg (by omega)]; omega
    have hl := nDigits_mono (u / 10) (by omega)
    refine Ev.step (f := fun k => (spec_l00Digits.f k ((u / 10 : Nat) : Int)).bind fun t => if t.size + 1 ≤ 9223372036854775807 then some (t ++ (⟨#[UInt8.ofNat (48 + u % 10)]⟩ : ByteArray)) else none) (fun k => ?_) (Ev.bind (ih (u / 10) (by omega) (by omega)) ?_)
    · rw [spec_l00Digits.f, if_neg (by omega), if_neg (by omega), if_neg (by omega), hd, hm, wr (x := ((u / 10 : Nat) : Int)) (by omega) (by omega), wr (x := 48 + ((u % 10 : Nat) : Int)) (by omega) (by omega)]
      have e : ((48 + ((u % 10 : Nat) : Int)) % 256).toNat = 48 + u % 10 := by omega
      have e2 : strOfNums [(48 + ((u % 10 : Nat) : Int)) % 256] = (⟨#[UInt8.ofNat (48 + u % 10)]⟩ : ByteArray) := by simp only [strOfNums, List.map_cons, List.map_nil, e]
      simp only [Option.bind_some, e2]
      rfl
    · have hs : (⟨(Lib.decDigits (u / 10)).toArray⟩ : ByteArray).size + 1 ≤ 9223372036854775807 := by simp only [ByteArray.size, List.size_toArray]; omega
      simp only [if_pos hs]
      have : (⟨(Lib.decDigits u).toArray⟩ : ByteArray) = (⟨(Lib.decDigits (u / 10)).toArray⟩ : ByteArray) ++ (⟨#[UInt8.ofNat (48 + u % 10)]⟩ : ByteArray) := by
        conv => lhs; rw [Lib.decDigits, dif_neg h]
        exact bytes_join _ _
      rw [this]
      exact Ev.now _
theorem digits_is (n : Int) (h0 : -9223372036854775808 ≤ n) (h1 : n ≤ 9223372036854775807) : Ev (fun k => spec_l00Digits.f k n) (itoaB n) := by
  unfold itoaB
  by_cases hm : n = -9223372036854775808
  · subst hm
    refine Ev.step (f := fun _ => some (⟨(Lib.itoa (-9223372036854775808)).toArray⟩ : ByteArray)) (fun k => ?_) (Ev.now _)
    rw [spec_l00Digits.f, if_pos rfl]
    have : Lib.itoa (-9223372036854775808) = [45, 57, 50, 50, 51, 51, 55, 50, 48, 51, 54, 56, 53, 52, 55, 55, 53, 56, 48, 56] := by
      unfold Lib.itoa
      rw [if_pos (by omega)]
      simp [Lib.decDigits]
    rw [this]
  by_cases hn : n < 0
  · obtain ⟨u, rfl⟩ : ∃ u : Nat, n = -(u : Int) := ⟨n.natAbs, by omega⟩
    rw [Lib.itoa_neg u (by omega)]
    refine Ev.step (f := fun k => (spec_l00Digits.f k (u : Int)).bind fun t => if 1 + t.size ≤ 9223372036854775807 then some ((⟨#[45]⟩ : ByteArray) ++ t) else none) (fun k => ?_) (Ev.bind (digits_nat u (by omega)) ?_)
    · rw [spec_l00Digits.f, if_neg hm, if_pos hn, Int.neg_neg, wr (by omega) (by omega)]
    · have hl := nDigits_mono u (by omega)
      have hs : 1 + (⟨(Lib.decDigits u).toArray⟩ : ByteArray).size ≤ 9223372036854775807 := by simp only [ByteArray.size, List.size_toArray]; omega
      simp only [if_pos hs]
      have : (⟨(45 :: Lib.decDigits u).toArray⟩ : ByteArray) = (⟨#[45]⟩ : ByteArray) ++ (⟨(Lib.decDigits u).toArray⟩ : ByteArray) := bytes_join [45] _
      rw [this]
      exact Ev.now _
  · obtain ⟨u, rfl⟩ : ∃ u : Nat, n = u := ⟨n.toNat, by omega⟩
    rw [Lib.itoa_nonneg]
    exact digits_nat u (by omega)
theorem decimal_is (n : Int) (h0 : -9223372036854775808 ≤ n) (h1 : n ≤ 9223372036854775807) : impl_decimal.f n = some (itoaB n) := by
  unfold impl_decimal.f
  rw [itoa_is n h0 h1]; rfl
def webB (s : ByteArray) : Bool := decide (s.toList = ([104, 116, 116, 112] : List UInt8)) || (s.toList == ([104, 116, 116, 112, 115] : List UInt8))
theorem web_spec (s : ByteArray) : spec_l01Web.f s = some (webB s) := by
  unfold spec_l01Web.f webB
  by_cases h : s.toList = ([104, 116, 116, 112] : List UInt8)
  · rw [if_pos h, decide_eq_true h]; rfl
  · rw [if_neg h, decide_eq_false h, Bool.false_or]
theorem web_impl (s a b : ByteArray) (p : Int) (c d e : ByteArray) (f g : Bool) : impl_Url_web.f s a b p c d e f g = some (webB s) := by
  unfold impl_Url_web.f webB
  by_cases h : s.toList = ([104, 116, 116, 112] : List UInt8)
  · rw [if_pos h, decide_eq_true h]; rfl
  · rw [if_neg h, decide_eq_false h, Bool.false_or]
theorem b_assoc (a b c : ByteArray) : a ++ b ++ c = a ++ (b ++ c) := by
  apply ByteArray.ext
  simp only [ByteArray.data_append, Array.append_assoc]
theorem b_nil (a : ByteArray) : a ++ (⟨#[]⟩ : ByteArray) = a := by
  apply ByteArray.ext
  simp only [ByteArray.data_append, Array.append_empty]
theorem b_extract (a b : ByteArray) (n : Nat) (h : a.size = n) : (a ++ b).extract n (a ++ b).size = b := by
  subst h
  apply ByteArray.ext
  apply Array.toList_inj.1
  rw [ByteArray.data_extract, Array.toList_extract, ByteArray.data_append, Array.toList_append, List.extract_eq_take_drop]
  have h1 : a.size = a.data.toList.length := size_len a
  have h2 : (a ++ b).size = a.data.toList.length + b.data.toList.length := by rw [ByteArray.size_append, size_len a, size_len b]
  rw [h1, h2, List.drop_left, Nat.add_sub_cancel_left, List.take_length]
def tailB (hq : Bool) (q : ByteArray) (hf : Bool) (fr x : ByteArray) : ByteArray :=
  if hq = true then (if hf = true then x ++ ((⟨#[63]⟩ : ByteArray) ++ q) ++ ((⟨#[35]⟩ : ByteArray) ++ fr) else x ++ ((⟨#[63]⟩ : ByteArray) ++ q)) else (if hf = true then x ++ ((⟨#[35]⟩ : ByteArray) ++ fr) else x)
def headB (sch user : ByteArray) : ByteArray :=
  if user.toList = ([] : List UInt8) then sch ++ (⟨#[58, 47, 47]⟩ : ByteArray) else sch ++ (⟨#[58, 47, 47]⟩ : ByteArray) ++ (user ++ (⟨#[64]⟩ : ByteArray))
def urlT (sch user host P path q fr : ByteArray) (hq hf : Bool) : ByteArray :=
  if webB sch = true then tailB hq q hf fr (headB sch user ++ (host ++ P ++ path)) else sch ++ (⟨#[58]⟩ : ByteArray) ++ path
def portS (p : Int) : ByteArray := if p > 0 then (⟨#[58]⟩ : ByteArray) ++ itoaB p else ⟨#[]⟩
def portI (p : Int) : ByteArray := if p = 0 then ⟨#[]⟩ else (⟨#[58]⟩ : ByteArray) ++ itoaB p
theorem c3_size : (⟨#[58, 47, 47]⟩ : ByteArray).size = 3 := rfl
theorem c1_size (b : UInt8) : (⟨#[b]⟩ : ByteArray).size = 1 := rfl
theorem c0_size : (⟨#[]⟩ : ByteArray).size = 0 := rfl
theorem portS_size (p : Int) (h0 : -9223372036854775808 ≤ p) (h1 : p ≤ 9223372036854775807) : (portS p).size ≤ 22 := by
  unfold portS
  split
  · have := itoaB_size p h0 h1; rw [ByteArray.size_append, c1_size]; omega
  · rw [c0_size]; omega
theorem site_spec (host : ByteArray) (p : Int) (hh : host.size ≤ 2000000) (h0 : -9223372036854775808 ≤ p) (h1 : p ≤ 9223372036854775807) : Ev (fun k => spec_l01Site.f k (⟨#[]⟩ : ByteArray) (⟨#[]⟩ : ByteArray) host p (⟨#[]⟩ : ByteArray) (⟨#[]⟩ : ByteArray) (⟨#[]⟩ : ByteArray) false false) (((⟨#[]⟩ : ByteArray) ++ (⟨#[58, 47, 47]⟩ : ByteArray)) ++ (host ++ portS p)) := by
  have d := itoaB_size p h0 h1
  have e := digits_is p h0 h1
  have cs1 : (⟨#[]⟩ : ByteArray).size = 0 := rfl
  have cs2 : (⟨#[58, 47, 47]⟩ : ByteArray).size = 3 := rfl
  have cs3 : (⟨#[58]⟩ : ByteArray).size = 1 := rfl
  have c1 : (⟨#[]⟩ : ByteArray).size + 3 ≤ 9223372036854775807 := by (try simp only [ByteArray.size_append, cs1, cs2, cs3]); omega
  have c2 : ((⟨#[]⟩ : ByteArray) ++ (⟨#[58, 47, 47]⟩ : ByteArray)).size + host.size ≤ 9223372036854775807 := by (try simp only [ByteArray.size_append, cs1, cs2, cs3]); omega
  have c3 : 1 + (itoaB p).size ≤ 9223372036854775807 := by (try simp only [ByteArray.size_append, cs1, cs2, cs3]); omega
  have c4 : (((⟨#[]⟩ : ByteArray) ++ (⟨#[58, 47, 47]⟩ : ByteArray)) ++ host).size + ((⟨#[58]⟩ : ByteArray) ++ (itoaB p)).size ≤ 9223372036854775807 := by (try simp only [ByteArray.size_append, cs1, cs2, cs3]); omega
  unfold spec_l01Site.f portS
  simp only [if_pos c1, if_pos c2, if_pos c3, if_pos c4]
  by_cases hpos : p > 0
  · simp only [if_pos hpos]
    refine Ev.bind e ?_
    simp only [if_pos c1, if_pos c2, if_pos c3, if_pos c4]
    rw [← b_assoc _ host]
    exact Ev.now _
  · simp only [if_neg hpos, b_nil]
    exact Ev.now _
theorem text_impl_j1 (sch user host path q fr : ByteArray) (p : Int) (hq hf : Bool) (hp : path.size ≤ 2000000) (hqs : q.size ≤ 2000000) (hfs : fr.size ≤ 2000000) (x3 : ByteArray) (hx : x3.size ≤ 20000000) : Ev (fun k => impl_Url_text.j1 k x3 sch user host p path q fr hq hf) (tailB hq q hf fr (x3 ++ path)) := by
  have cs1 : (⟨#[63]⟩ : ByteArray).size = 1 := rfl
  have cs2 : (⟨#[35]⟩ : ByteArray).size = 1 := rfl
  have c1 : x3.size + path.size ≤ 9223372036854775807 := by (try simp only [ByteArray.size_append, cs1, cs2]); omega
  have c2 : 1 + q.size ≤ 9223372036854775807 := by (try simp only [ByteArray.size_append, cs1, cs2]); omega
  have c3 : (x3 ++ path).size + ((⟨#[63]⟩ : ByteArray) ++ q).size ≤ 9223372036854775807 := by (try simp only [ByteArray.size_append, cs1, cs2]); omega
  have c4 : 1 + fr.size ≤ 9223372036854775807 := by (try simp only [ByteArray.size_append, cs1, cs2]); omega
  have c5 : ((x3 ++ path) ++ ((⟨#[63]⟩ : ByteArray) ++ q)).size + ((⟨#[35]⟩ : ByteArray) ++ fr).size ≤ 9223372036854775807 := by (try simp only [ByteArray.size_append, cs1, cs2]); omega
  have c6 : (x3 ++ path).size + ((⟨#[35]⟩ : ByteArray) ++ fr).size ≤ 9223372036854775807 := by (try simp only [ByteArray.size_append, cs1, cs2]); omega
  refine Ev.step (f := fun _ => some (tailB hq q hf fr (x3 ++ path))) (fun k => ?_) (Ev.now _)
  rw [impl_Url_text.j1]
  unfold tailB
  cases hq <;> cases hf <;> simp only [Bool.false_eq_true, if_false, if_true, if_pos c1, if_pos c2, if_pos c3, if_pos c4, if_pos c5, if_pos c6]
theorem text_spec_j0 (sch user host path q fr : ByteArray) (p : Int) (hq hf : Bool) (hh : host.size ≤ 2000000) (hp : path.size ≤ 2000000) (hqs : q.size ≤ 2000000) (hfs : fr.size ≤ 2000000) (h0 : -9223372036854775808 ≤ p) (h1 : p ≤ 9223372036854775807) (x3 : ByteArray) (hx : x3.size ≤ 8000000) : Ev (fun k => spec_l01Text.j0 k x3 sch user host p path q fr hq hf) (tailB hq q hf fr (x3 ++ (host ++ portS p ++ path))) := by
  have d := portS_size p h0 h1
  have ex : ((((⟨#[]⟩ : ByteArray) ++ (⟨#[58, 47, 47]⟩ : ByteArray)) ++ (host ++ portS p)).extract 3 (((⟨#[]⟩ : ByteArray) ++ (⟨#[58, 47, 47]⟩ : ByteArray)) ++ (host ++ portS p)).size) = host ++ portS p := b_extract _ _ 3 rfl
  have g3 : (3 : Int) ≤ ((((⟨#[]⟩ : ByteArray) ++ (⟨#[58, 47, 47]⟩ : ByteArray)) ++ (host ++ portS p)).size : Int) := by simp only [ByteArray.size_append, c3_size, c0_size]; omega
  have cs1 : (⟨#[63]⟩ : ByteArray).size = 1 := rfl
  have cs2 : (⟨#[35]⟩ : ByteArray).size = 1 := rfl
  have c1 : (host ++ portS p).size + path.size ≤ 9223372036854775807 := by (try simp only [ByteArray.size_append, cs1, cs2]); omega
  have c2 : x3.size + ((host ++ portS p) ++ path).size ≤ 9223372036854775807 := by (try simp only [ByteArray.size_append, cs1, cs2]); omega
  have c3 : 1 + q.size ≤ 9223372036854775807 := by (try simp only [ByteArray.size_append, cs1, cs2]); omega
  have c4 : (x3 ++ ((host ++ portS p) ++ path)).size + ((⟨#[63]⟩ : ByteArray) ++ q).size ≤ 9223372036854775807 := by (try simp only [ByteArray.size_append, cs1, cs2]); omega
  have c5 : 1 + fr.size ≤ 9223372036854775807 := by (try simp only [ByteArray.size_append, cs1, cs2]); omega
  have c6 : ((x3 ++ ((host ++ portS p) ++ path)) ++ ((⟨#[63]⟩ : ByteArray) ++ q)).size + ((⟨#[35]⟩ : ByteArray) ++ fr).size ≤ 9223372036854775807 := by (try simp only [ByteArray.size_append, cs1, cs2]); omega
  have c7 : (x3 ++ ((host ++ portS p) ++ path)).size + ((⟨#[35]⟩ : ByteArray) ++ fr).size ≤ 9223372036854775807 := by (try simp only [ByteArray.size_append, cs1, cs2]); omega
  refine Ev.step (f := fun k => spec_l01Text.j0 (k + 1) x3 sch user host p path q fr hq hf) (fun k => rfl) ?_
  simp only [spec_l01Text.j0]
  refine Ev.bind (site_spec host p hh h0 h1) ?_
  simp only [if_pos g3, ex, if_pos c1, if_pos c2, if_pos c3, if_pos c4, if_pos c5, if_pos c6, if_pos c7]
  unfold tailB
  cases hq <;> cases hf <;> simp only [Bool.false_eq_true, if_false, if_true, if_pos c1, if_pos c2, if_pos c3, if_pos c4, if_pos c5, if_pos c6, if_pos c7] <;> exact Ev.now _
theorem text_impl_j0 (sch user host path q fr : ByteArray) (p : Int) (hq hf : Bool) (hh : host.size ≤ 2000000) (hp : path.size ≤ 2000000) (hqs : q.size ≤ 2000000) (hfs : fr.size ≤ 2000000) (h0 : -9223372036854775808 ≤ p) (h1 : p ≤ 9223372036854775807) (x3 : ByteArray) (hx : x3.size ≤ 8000000) : Ev (fun k => impl_Url_text.j0 k x3 sch user host p path q fr hq hf) (tailB hq q hf fr (x3 ++ (host ++ portI p ++ path))) := by
  have d := itoaB_size p h0 h1
  have cs1 : (⟨#[58]⟩ : ByteArray).size = 1 := rfl
  have c1 : x3.size + host.size ≤ 9223372036854775807 := by (try simp only [ByteArray.size_append, cs1]); omega
  have c2 : 1 + (itoaB p).size ≤ 9223372036854775807 := by (try simp only [ByteArray.size_append, cs1]); omega
  have c3 : (x3 ++ host).size + ((⟨#[58]⟩ : ByteArray) ++ (itoaB p)).size ≤ 9223372036854775807 := by (try simp only [ByteArray.size_append, cs1]); omega
  by_cases z : p = 0
  · refine Ev.step (f := fun k => impl_Url_text.j1 k (x3 ++ host) sch user host p path q fr hq hf) (fun k => ?_) ?_
    · rw [impl_Url_text.j0]; simp only [if_pos z, if_pos c1, if_pos c2, if_pos c3]
    · have := text_impl_j1 sch user host path q fr p hq hf hp hqs hfs (x3 ++ host) (by rw [ByteArray.size_append]; omega)
      unfold portI
      rw [if_pos z, b_nil, ← b_assoc]
      exact this
  · refine Ev.step (f := fun k => impl_Url_text.j1 k (x3 ++ host ++ ((⟨#[58]⟩ : ByteArray) ++ itoaB p)) sch user host p path q fr hq hf) (fun k => ?_) ?_
    · rw [impl_Url_text.j0]; simp only [if_neg z, decimal_is p h0 h1, Option.bind_some, if_pos c1, if_pos c2, if_pos c3]
    · have := text_impl_j1 sch user host path q fr p hq hf hp hqs hfs (x3 ++ host ++ ((⟨#[58]⟩ : ByteArray) ++ itoaB p)) (by simp only [ByteArray.size_append, c1_size]; omega)
      unfold portI
      rw [if_neg z, ← b_assoc x3, ← b_assoc x3]
      exact this
section
variable (sch user host path q fr : ByteArray) (p : Int) (hq hf : Bool) (hs : sch.size ≤ 2000000) (hu : user.size ≤ 2000000) (hh : host.size ≤ 2000000) (hp : path.size ≤ 2000000) (hqs : q.size ≤ 2000000) (hfs : fr.size ≤ 2000000) (h0 : -9223372036854775808 ≤ p) (h1 : p ≤ 9223372036854775807)
include hs hu hh hp hqs hfs h0 h1
theorem text_spec : Ev (fun k => spec_l01Text.f k sch user host p path q fr hq hf) (urlT sch user host (portS p) path q fr hq hf) := by
  have cs1 : (⟨#[58, 47, 47]⟩ : ByteArray).size = 3 := rfl
  have cs2 : (⟨#[64]⟩ : ByteArray).size = 1 := rfl
  have cs3 : (⟨#[58]⟩ : ByteArray).size = 1 := rfl
  have c1 : sch.size + 3 ≤ 9223372036854775807 := by (try simp only [ByteArray.size_append, cs1, cs2, cs3]); omega
  have c2 : user.size + 1 ≤ 9223372036854775807 := by (try simp only [ByteArray.size_append, cs1, cs2, cs3]); omega
  have c3 : (sch ++ (⟨#[58, 47, 47]⟩ : ByteArray)).size + (user ++ (⟨#[64]⟩ : ByteArray)).size ≤ 9223372036854775807 := by (try simp only [ByteArray.size_append, cs1, cs2, cs3]); omega
  have c4 : sch.size + 1 ≤ 9223372036854775807 := by (try simp only [ByteArray.size_append, cs1, cs2, cs3]); omega
  have c5 : (sch ++ (⟨#[58]⟩ : ByteArray)).size + path.size ≤ 9223372036854775807 := by (try simp only [ByteArray.size_append, cs1, cs2, cs3]); omega
  unfold spec_l01Text.f urlT
  rw [web_spec]
  simp only [Option.bind_some]
  by_cases w : webB sch = true
  · simp only [if_pos w, if_pos c1, if_pos c2, if_pos c3, if_pos c4, if_pos c5]
    unfold headB
    by_cases u : user.toList = ([] : List UInt8)
    · simp only [if_pos u]
      exact text_spec_j0 sch user host path q fr p hq hf hh hp hqs hfs h0 h1 _ (by simp only [ByteArray.size_append, c3_size]; omega)
    · simp only [if_neg u, if_pos c1, if_pos c2, if_pos c3, if_pos c4, if_pos c5]
      exact text_spec_j0 sch user host path q fr p hq hf hh hp hqs hfs h0 h1 _ (by simp only [ByteArray.size_append, c3_size, c1_size]; omega)
  · simp only [if_neg w, if_pos c1, if_pos c2, if_pos c3, if_pos c4, if_pos c5]
    exact Ev.now _
theorem text_impl : Ev (fun k => impl_Url_text.f k sch user host p path q fr hq hf) (urlT sch user host (portI p) path q fr hq hf) := by
  have cs1 : (⟨#[58, 47, 47]⟩ : ByteArray).size = 3 := rfl
  have cs2 : (⟨#[64]⟩ : ByteArray).size = 1 := rfl
  have cs3 : (⟨#[58]⟩ : ByteArray).size = 1 := rfl
  have c1 : sch.size + 3 ≤ 9223372036854775807 := by (try simp only [ByteArray.size_append, cs1, cs2, cs3]); omega
  have c2 : user.size + 1 ≤ 9223372036854775807 := by (try simp only [ByteArray.size_append, cs1, cs2, cs3]); omega
  have c3 : (sch ++ (⟨#[58, 47, 47]⟩ : ByteArray)).size + (user ++ (⟨#[64]⟩ : ByteArray)).size ≤ 9223372036854775807 := by (try simp only [ByteArray.size_append, cs1, cs2, cs3]); omega
  have c4 : sch.size + 1 ≤ 9223372036854775807 := by (try simp only [ByteArray.size_append, cs1, cs2, cs3]); omega
  have c5 : (sch ++ (⟨#[58]⟩ : ByteArray)).size + path.size ≤ 9223372036854775807 := by (try simp only [ByteArray.size_append, cs1, cs2, cs3]); omega
  unfold impl_Url_text.f urlT
  rw [web_impl]
  simp only [Option.bind_some]
  by_cases w : webB sch = true
  · simp only [if_pos w, if_pos c1, if_pos c2, if_pos c3, if_pos c4, if_pos c5]
    unfold headB
    by_cases u : user.toList = ([] : List UInt8)
    · simp only [if_pos u]
      exact text_impl_j0 sch user host path q fr p hq hf hh hp hqs hfs h0 h1 _ (by simp only [ByteArray.size_append, c3_size]; omega)
    · simp only [if_neg u, if_pos c1, if_pos c2, if_pos c3, if_pos c4, if_pos c5]
      exact text_impl_j0 sch user host path q fr p hq hf hh hp hqs hfs h0 h1 _ (by simp only [ByteArray.size_append, c3_size, c1_size]; omega)
  · simp only [if_neg w, if_pos c1, if_pos c2, if_pos c3, if_pos c4, if_pos c5]
    exact Ev.now _
end
def shownB (s : ByteArray) : Bool := s.data.toList.all goodB
theorem toList_data (s : ByteArray) : s.toList = s.data.toList := ByteArray.toList_eq s
theorem emptyB (s : ByteArray) : (s.toList = ([] : List UInt8)) ↔ s.size = 0 := by
  rw [toList_data, size_len]; exact List.length_eq_zero_iff.symm
theorem beq_nil (s : ByteArray) : (s.toList == ([] : List UInt8)) = decide (s.size = 0) := by
  by_cases h : s.size = 0
  · rw [decide_eq_true h, beq_iff_eq]; exact (emptyB s).2 h
  · rw [decide_eq_false h, beq_eq_false_iff_ne]; exact fun c => h ((emptyB s).1 c)
theorem prefix_is (s : ByteArray) (hs : s.size ≤ 2000000) : strings_HasPrefix.f s (⟨#[47]⟩ : ByteArray) = some (decide (0 < s.size) && (bt s 0 == 47)) := by
  have c1 : (⟨#[47]⟩ : ByteArray).size = 1 := rfl
  unfold strings_HasPrefix.f stringslite_HasPrefix.f
  rw [c1]
  by_cases h : 0 < s.size
  · rw [if_pos (by omega), if_pos (by omega), if_pos (by omega)]
    simp only [Option.bind_some, decide_eq_true h, Bool.true_and]
    congr 1
    have e1 : (s.extract 0 (((1 : Nat) : Int)).toNat).toList = [s.data.toList[0]'(by rw [← size_len]; exact h)] := by
      rw [toList_data, ByteArray.data_extract, Array.toList_extract, List.extract_eq_take_drop]
      show (s.data.toList.drop 0).take 1 = _
      rw [List.drop_zero, List.take_one, List.head?_eq_getElem?, List.getElem?_eq_getElem (by rw [← size_len]; exact h)]
      rfl
    have e2 : (⟨#[47]⟩ : ByteArray).toList = [47] := by rw [toList_data]
    have e3 : bt s 0 = ((s.data.toList[0]'(by rw [← size_len]; exact h)).toNat : Int) := by
      have : s.data.toList.drop 0 = (s.data.toList[0]'(by rw [← size_len]; exact h)) :: s.data.toList.drop 1 := List.drop_eq_getElem_cons (by rw [← size_len]; exact h)
      exact (drop_cons this).2.1
    rw [e1, e2, e3]
    generalize s.data.toList[0]'(by rw [← size_len]; exact h) = b
    by_cases hb : b = 47
    · subst hb; rfl
    · have n1 : ([b] == ([47] : List UInt8)) = false := by rw [beq_eq_false_iff_ne]; intro c; apply hb; simpa using c
      have n2 : ((b.toNat : Int) == 47) = false := by
        rw [beq_eq_false_iff_ne]; intro c; apply hb; apply UInt8.toNat_inj.1; show b.toNat = 47; omega
      rw [n1, n2]
  · rw [if_neg (by omega)]
    simp [h]
theorem hash_is (s : ByteArray) (hg : shownB s = true) : strings_Contains.f s (⟨#[35]⟩ : ByteArray) = some (!onlyB s.data.toList (⟨#[35]⟩ : ByteArray).data.toList) := by
  unfold strings_Contains.f
  rw [if_pos (show (⟨#[35]⟩ : ByteArray).size = 1 from rfl)]
  congr 1
  have e : (⟨#[35]⟩ : ByteArray).data.toList.getD 0 0 = 35 := rfl
  rw [e, ← Lib.contains_iff_indexByte, only_split, show s.data.toList.all goodB = true from hg, Bool.true_and, Bool.not_not, containsAny_eq]
  show s.data.toList.contains 35 = s.data.toList.any fun b => [35].contains b
  rw [List.contains_eq_any_beq]
  congr 1
  funext b
  rw [List.contains_cons, List.contains_nil, Bool.or_false]
  exact BEq.comm
theorem all_append (a b : ByteArray) : shownB (a ++ b) = (shownB a && shownB b) := by
  unfold shownB
  rw [ByteArray.data_append, Array.toList_append, List.all_append]
def urlB (sch user host : ByteArray) (p : Int) (path q fr : ByteArray) (hq hf : Bool) (u : Int) : Bool :=
  (inB (sch.size : Int) 1 12 && schemeB true sch.data.toList) && ((hq || decide (q.size = 0)) && ((hf || decide (fr.size = 0)) && (onlyB path.data.toList [63, 35] && (onlyB q.data.toList [35] && (onlyB fr.data.toList [] && (decide ((urlT sch user host (portS p) path q fr hq hf).size ≤ 100) &&
    (if webB sch = true then onlyB user.data.toList [47, 63, 35, 64] && (hostB true host.data.toList && (inB p 0 65535 && (!decide (p = u) && (decide (0 < path.size) && (bt path 0 == 47))))) else decide (user.size = 0) && (decide (host.size = 0) && (decide (p = 0) && (!hq && !hf))))))))))
section
variable (sch user host path q fr : ByteArray) (p : Int) (hq hf : Bool) (hs : sch.size ≤ 1048576) (hu : user.size ≤ 1048576) (hh : host.size ≤ 1048576) (hp : path.size ≤ 1048576) (hqs : q.size ≤ 1048576) (hfs : fr.size ≤ 1048576) (h0 : -9223372036854775808 ≤ p) (h1 : p ≤ 9223372036854775807)
include hs hu hh hp hqs hfs h0 h1
theorem url_spec (u : Int) (hus : spec_l01Usual.f sch = some u) : Ev (fun k => spec_l01OK.f k sch user host p path q fr hq hf) (urlB sch user host p path q fr hq hf u) := by
  have t := text_spec sch user host path q fr p hq hf (by omega) (by omega) (by omega) (by omega) (by omega) (by omega) h0 h1
  have o1 := only_spec path (⟨#[63, 35]⟩ : ByteArray) (by omega) (by decide)
  have o2 := only_spec q (⟨#[35]⟩ : ByteArray) (by omega) (by decide)
  have o3 := only_spec fr (⟨#[]⟩ : ByteArray) (by omega) (by decide)
  have o4 := only_spec user (⟨#[47, 63, 35, 64]⟩ : ByteArray) (by omega) (by decide)
  have sc := scheme_spec sch (by omega)
  have ho := host_spec host (by omega)
  have dead : ∀ r : Bool, r = false → Ev (fun k => spec_l01OK.j0 k true sch user host p path q fr hq hf) r := fun r hr => by
    subst hr
    exact Ev.step (f := fun _ => some false) (fun k => by rw [spec_l01OK.j0]; simp) (Ev.now _)
  -- behind the text
  have last : ∀ r : Bool, r = (decide ((urlT sch user host (portS p) path q fr hq hf).size ≤ 100) && (if webB sch = true then onlyB user.data.toList [47, 63, 35, 64] && (hostB true host.data.toList && (inB p 0 65535 && (!decide (p = u) && (decide (0 < path.size) && (bt path 0 == 47))))) else decide (user.size = 0) && (decide (host.size = 0) && (decide (p = 0) && (!hq && !hf))))) →
      Ev (fun k => spec_l01OK.j0 k (decide (((urlT sch user host (portS p) path q fr hq hf).size : Int) > 100)) sch user host p path q fr hq hf) r := fun r hr => by
    by_cases hlen : (urlT sch user host (portS p) path q fr hq hf).size ≤ 100
    · rw [decide_eq_true hlen, Bool.true_and] at hr
      rw [show decide (((urlT sch user host (portS p) path q fr hq hf).size : Int) > 100) = false from decide_eq_false (by omega)]
      refine Ev.step (f := fun k => spec_l01OK.j0 (k + 1) false sch user host p path q fr hq hf) (fun k => rfl) ?_
      simp only [spec_l01OK.j0, Bool.false_eq_true, if_false, web_spec, Option.bind_some]
      by_cases w : webB sch = true
      · simp only [if_pos w] at hr ⊢
        refine Ev.bind o4 ?_
        cases hx : onlyB user.data.toList [47, 63, 35, 64]
        · rw [hx] at hr
          subst hr
          have : onlyB user.data.toList (⟨#[47, 63, 35, 64]⟩ : ByteArray).data.toList = false := hx
          simp only [this, Bool.false_eq_true, if_false, Bool.false_and]; exact Ev.now _
        · rw [hx, Bool.true_and] at hr
          have : onlyB user.data.toList (⟨#[47, 63, 35, 64]⟩ : ByteArray).data.toList = true := hx
          simp only [this, if_true]
          refine Ev.bind ho ?_
          cases hy : hostB true host.data.toList
          · rw [hy] at hr; subst hr
            simp only [Bool.false_eq_true, if_false, Bool.false_and]; exact Ev.now _
          · rw [hy, Bool.true_and] at hr
            simp only [if_true, in_is, Option.bind_some, hus]
            cases hz : inB p 0 65535
            · rw [hz] at hr; subst hr
              simp only [Bool.false_eq_true, if_false, Bool.false_and]; exact Ev.now _
            · rw [hz, Bool.true_and] at hr
              simp only [if_true]
              by_cases e : p = u
              · rw [decide_eq_true e] at hr; subst hr
                simp only [if_pos e, Bool.not_true, Bool.false_and]; exact Ev.now _
              · rw [decide_eq_false e, Bool.not_false, Bool.true_and] at hr
                simp only [if_neg e]
                by_cases l : 0 < path.size
                · rw [decide_eq_true l, Bool.true_and] at hr; subst hr
                  have l1 : (path.size : Int) > 0 := by omega
                  have l2 : 0 < (path.size : Int) := by omega
                  simp only [if_pos l1, if_pos l2]; exact Ev.now _
                · rw [decide_eq_false l, Bool.false_and] at hr; subst hr
                  have l1 : ¬ (path.size : Int) > 0 := by omega
                  simp only [if_neg l1]; exact Ev.now _
      · simp only [if_neg w] at hr ⊢
        simp only [emptyB]
        by_cases a : user.size = 0
        · simp only [if_pos a, decide_eq_true a, Bool.true_and] at hr ⊢
          by_cases b : host.size = 0
          · simp only [if_pos b, decide_eq_true b, Bool.true_and] at hr ⊢
            by_cases c : p = 0
            · simp only [if_pos c, decide_eq_true c, Bool.true_and] at hr ⊢
              subst hr
              cases hq <;> simp only [Bool.false_eq_true, if_false, if_true, Bool.not_true, Bool.not_false, Bool.true_and, Bool.false_and] <;> exact Ev.now _
            · simp only [if_neg c, decide_eq_false c, Bool.false_and] at hr ⊢
              subst hr; exact Ev.now _
          · simp only [if_neg b, decide_eq_false b, Bool.false_and] at hr ⊢
            subst hr; exact Ev.now _
        · simp only [if_neg a, decide_eq_false a, Bool.false_and] at hr ⊢
          subst hr; exact Ev.now _
    · rw [decide_eq_false hlen, Bool.false_and] at hr
      rw [show decide (((urlT sch user host (portS p) path q fr hq hf).size : Int) > 100) = true from decide_eq_true (by omega)]
      exact dead r hr
  -- the three parts that are shown
  have mid : ∀ r : Bool, r = (onlyB path.data.toList [63, 35] && (onlyB q.data.toList [35] && (onlyB fr.data.toList [] && (decide ((urlT sch user host (portS p) path q fr hq hf).size ≤ 100) && (if webB sch = true then onlyB user.data.toList [47, 63, 35, 64] && (hostB true host.data.toList && (inB p 0 65535 && (!decide (p = u) && (decide (0 < path.size) && (bt path 0 == 47))))) else decide (user.size = 0) && (decide (host.size = 0) && (decide (p = 0) && (!hq && !hf)))))))) →
      Ev (fun k => (spec_l01Only.f k path (⟨#[63, 35]⟩ : ByteArray)).bind fun t1 => (if t1 = true then ((spec_l01Only.f k q (⟨#[35]⟩ : ByteArray)).bind fun t2 => (if t2 = true then ((spec_l01Only.f k fr (⟨#[]⟩ : ByteArray)).bind fun t3 => (if t3 = true then ((spec_l01Text.f k sch user host p path q fr hq hf).bind fun t4 => (spec_l01OK.j0 k (decide ((t4.size : Int) > 100)) sch user host p path q fr hq hf)) else (spec_l01OK.j0 k true sch user host p path q fr hq hf))) else (spec_l01OK.j0 k true sch user host p path q fr hq hf))) else (spec_l01OK.j0 k true sch user host p path q fr hq hf))) r := fun r hr => by
    refine Ev.bind o1 ?_
    have e1 : onlyB path.data.toList (⟨#[63, 35]⟩ : ByteArray).data.toList = onlyB path.data.toList [63, 35] := rfl
    have e2 : onlyB q.data.toList (⟨#[35]⟩ : ByteArray).data.toList = onlyB q.data.toList [35] := rfl
    have e3 : onlyB fr.data.toList (⟨#[]⟩ : ByteArray).data.toList = onlyB fr.data.toList [] := rfl
    rw [e1]
    cases x1 : onlyB path.data.toList [63, 35]
    · rw [x1, Bool.false_and] at hr
      simp only [Bool.false_eq_true, if_false]; exact dead r hr
    · rw [x1, Bool.true_and] at hr
      simp only [if_true]
      refine Ev.bind o2 ?_
      rw [e2]
      cases x2 : onlyB q.data.toList [35]
      · rw [x2, Bool.false_and] at hr
        simp only [Bool.false_eq_true, if_false]; exact dead r hr
      · rw [x2, Bool.true_and] at hr
        simp only [if_true]
        refine Ev.bind o3 ?_
        rw [e3]
        cases x3 : onlyB fr.data.toList []
        · rw [x3, Bool.false_and] at hr
          simp only [Bool.false_eq_true, if_false]; exact dead r hr
        · rw [x3, Bool.true_and] at hr
          simp only [if_true]
          exact Ev.bind t (last r hr)
  unfold spec_l01OK.f urlB
  refine Ev.bind sc ?_
  cases inB (sch.size : Int) 1 12 && schemeB true sch.data.toList
  · simp only [Bool.false_eq_true, if_false, Bool.false_and]; exact dead _ rfl
  simp only [if_true, Bool.true_and, emptyB]
  cases hq
  · simp only [Bool.false_eq_true, if_false, Bool.false_or]
    by_cases z : q.size = 0
    · simp only [if_pos z, decide_eq_true z, Bool.true_and]
      cases hf
      · simp only [Bool.false_eq_true, if_false, Bool.false_or]
        by_cases y : fr.size = 0
        · simp only [if_pos y, decide_eq_true y, Bool.true_and]; exact mid _ rfl
        · simp only [if_neg y, decide_eq_false y, Bool.false_and]; exact dead _ rfl
      · simp only [if_true, Bool.true_or, Bool.true_and]; exact mid _ rfl
    · simp only [if_neg z, decide_eq_false z, Bool.false_and]; exact dead _ rfl
  · simp only [if_true, Bool.true_or, Bool.true_and]
    cases hf
    · simp only [Bool.false_eq_true, if_false, Bool.false_or]
      by_cases y : fr.size = 0
      · simp only [if_pos y, decide_eq_true y, Bool.true_and]; exact mid _ rfl
      · simp only [if_neg y, decide_eq_false y, Bool.false_and]; exact dead _ rfl
    · simp only [if_true, Bool.true_or, Bool.true_and]; exact mid _ rfl
def implB (sch user host : ByteArray) (p : Int) (path q fr : ByteArray) (hq hf : Bool) (u : Int) : Bool :=
  (inB (sch.size : Int) 1 12 && schemeB true sch.data.toList) && (decide (user.size + host.size + path.size + q.size + fr.size ≤ 100) && (decide ((urlT sch user host (portI p) path q fr hq hf).size ≤ 100) && ((shownB user && shownB host && shownB path && shownB q && shownB fr) && (onlyB path.data.toList [63, 35] &&
    (if webB sch = true then onlyB user.data.toList [47, 63, 35, 64] && (hostB true host.data.toList && (inB p 0 65535 && (!decide (p = u) && ((decide (0 < path.size) && (bt path 0 == 47)) && (onlyB q.data.toList [35] && ((hq || decide (q.size = 0)) && (hf || decide (fr.size = 0)))))))) else decide (user.size = 0) && (decide (host.size = 0) && (decide (p = 0) && (decide (q.size = 0) && (decide (fr.size = 0) && (!hq && !hf))))))))))
theorem url_impl (u : Int) (hus : impl_usual.f sch = some u) : Ev (fun k => impl_UrlOK.f k sch user host p path q fr hq hf) (implB sch user host p path q fr hq hf u) := by
  have t := text_impl sch user host path q fr p hq hf (by omega) (by omega) (by omega) (by omega) (by omega) (by omega) h0 h1
  have sc := scheme_impl sch (by omega)
  have ho := host_impl host (by omega)
  have dead : ∀ r : Bool, r = false → Ev (fun k => impl_UrlOK.j0 k true sch user host p path q fr hq hf) r := fun r hr => by
    subst hr
    exact Ev.step (f := fun _ => some false) (fun k => by rw [impl_UrlOK.j0]; simp) (Ev.now _)
  have last : (shownB user && shownB host && shownB path && shownB q && shownB fr) = true → ∀ r : Bool, r = (onlyB path.data.toList [63, 35] &&
    (if webB sch = true then onlyB user.data.toList [47, 63, 35, 64] && (hostB true host.data.toList && (inB p 0 65535 && (!decide (p = u) && ((decide (0 < path.size) && (bt path 0 == 47)) && (onlyB q.data.toList [35] && ((hq || decide (q.size = 0)) && (hf || decide (fr.size = 0)))))))) else decide (user.size = 0) && (decide (host.size = 0) && (decide (p = 0) && (decide (q.size = 0) && (decide (fr.size = 0) && (!hq && !hf))))))) →
      Ev (fun k => impl_UrlOK.j0 k false sch user host p path q fr hq hf) r := fun hsh r hr => by
    simp only [Bool.and_eq_true] at hsh
    obtain ⟨⟨⟨⟨g1, g2⟩, g3⟩, g4⟩, g5⟩ := hsh
    have ca1 := contains_impl path (⟨#[63, 35]⟩ : ByteArray) (by omega) (by decide) g3 (by decide)
    have ca2 := contains_impl user (⟨#[47, 63, 35, 64]⟩ : ByteArray) (by omega) (by decide) g1 (by decide)
    have ca3 := hash_is q g4
    have px := prefix_is path (by omega)
    have e1 : onlyB path.data.toList (⟨#[63, 35]⟩ : ByteArray).data.toList = onlyB path.data.toList [63, 35] := rfl
    have e2 : onlyB user.data.toList (⟨#[47, 63, 35, 64]⟩ : ByteArray).data.toList = onlyB user.data.toList [47, 63, 35, 64] := rfl
    have e3 : onlyB q.data.toList (⟨#[35]⟩ : ByteArray).data.toList = onlyB q.data.toList [35] := rfl
    rw [e1] at ca1
    rw [e2] at ca2
    rw [e3] at ca3
    refine Ev.step (f := fun k => impl_UrlOK.j0 (k + 1) false sch user host p path q fr hq hf) (fun k => rfl) ?_
    simp only [impl_UrlOK.j0, Bool.false_eq_true, if_false, ca1, web_impl, Option.bind_some]
    cases x1 : onlyB path.data.toList [63, 35]
    · rw [x1, Bool.false_and] at hr; subst hr
      simp only [Bool.not_false, if_true]; exact Ev.now _
    rw [x1, Bool.true_and] at hr
    simp only [Bool.not_true, Bool.false_eq_true, if_false]
    by_cases w : webB sch = true
    · simp only [if_pos w] at hr ⊢
      simp only [ca2, Option.bind_some]
      cases x2 : onlyB user.data.toList [47, 63, 35, 64]
      · rw [x2, Bool.false_and] at hr; subst hr
        simp only [Bool.not_false, if_true]; exact Ev.now _
      rw [x2, Bool.true_and] at hr
      simp only [Bool.not_true, Bool.false_eq_true, if_false]
      refine Ev.bind ho ?_
      cases x3 : hostB true host.data.toList
      · rw [x3, Bool.false_and] at hr; subst hr
        simp only [Bool.false_eq_true, if_false]; exact Ev.now _
      rw [x3, Bool.true_and] at hr
      simp only [if_true, within_is, Option.bind_some, hus]
      cases x4 : inB p 0 65535
      · rw [x4, Bool.false_and] at hr; subst hr
        simp only [Bool.false_eq_true, if_false]; exact Ev.now _
      rw [x4, Bool.true_and] at hr
      simp only [if_true]
      by_cases e : p = u
      · rw [decide_eq_true e, Bool.not_true, Bool.false_and] at hr; subst hr
        simp only [if_pos e]; exact Ev.now _
      rw [decide_eq_false e, Bool.not_false, Bool.true_and] at hr
      simp only [if_neg e, px, Option.bind_some]
      cases x5 : (decide (0 < path.size) && (bt path 0 == 47))
      · rw [x5, Bool.false_and] at hr; subst hr
        simp only [Bool.false_eq_true, if_false]; exact Ev.now _
      rw [x5, Bool.true_and] at hr
      simp only [if_true, ca3, Option.bind_some]
      cases x6 : onlyB q.data.toList [35]
      · rw [x6, Bool.false_and] at hr; subst hr
        simp only [Bool.not_false, if_true]; exact Ev.now _
      rw [x6, Bool.true_and] at hr
      simp only [Bool.not_true, Bool.false_eq_true, if_false, emptyB, beq_nil]
      cases hq
      · simp only [Bool.false_eq_true, if_false]
        by_cases z : q.size = 0
        · rw [decide_eq_true z] at hr
          simp only [if_pos z]
          cases hf
          · simp only [Bool.false_eq_true, if_false]; simp only [Bool.or_true, Bool.true_and, Bool.false_or] at hr; subst hr; exact Ev.now _
          · simp only [if_true]; simp only [Bool.or_true, Bool.true_and, Bool.true_or] at hr; subst hr; exact Ev.now _
        · rw [decide_eq_false z] at hr
          simp only [if_neg z]; simp only [Bool.or_self, Bool.false_and] at hr; subst hr; exact Ev.now _
      · simp only [if_true]
        cases hf
        · simp only [Bool.false_eq_true, if_false]; simp only [Bool.true_or, Bool.true_and, Bool.false_or] at hr; subst hr; exact Ev.now _
        · simp only [if_true]; simp only [Bool.true_or, Bool.true_and] at hr; subst hr; exact Ev.now _
    · simp only [if_neg w] at hr ⊢
      simp only [beq_nil]
      have e0 : (p == 0) = decide (p = 0) := rfl
      rw [e0]
      subst hr; exact Ev.now _
  have total : wrap64 ((wrap64 ((wrap64 ((wrap64 ((user.size : Int) + (host.size : Int))) + (path.size : Int))) + (q.size : Int))) + (fr.size : Int)) = ((user.size + host.size + path.size + q.size + fr.size : Nat) : Int) := by
    rw [wr (x := (user.size : Int) + (host.size : Int)) (by omega) (by omega), wr (x := (user.size : Int) + (host.size : Int) + (path.size : Int)) (by omega) (by omega), wr (x := (user.size : Int) + (host.size : Int) + (path.size : Int) + (q.size : Int)) (by omega) (by omega), wr (by omega) (by omega)]
    omega
  unfold impl_UrlOK.f implB
  refine Ev.bind sc ?_
  cases inB (sch.size : Int) 1 12 && schemeB true sch.data.toList
  · simp only [Bool.false_eq_true, if_false, Bool.false_and]; exact dead _ rfl
  simp only [if_true, Bool.true_and, total]
  by_cases s1 : user.size + host.size + path.size + q.size + fr.size ≤ 100
  rotate_left
  · have : ((user.size + host.size + path.size + q.size + fr.size : Nat) : Int) > 100 := by omega
    simp only [if_pos this, decide_eq_false s1, Bool.false_and]; exact dead _ rfl
  have s1' : ¬ ((user.size + host.size + path.size + q.size + fr.size : Nat) : Int) > 100 := by omega
  simp only [if_neg s1', decide_eq_true s1, Bool.true_and]
  refine Ev.bind t ?_
  by_cases s2 : (urlT sch user host (portI p) path q fr hq hf).size ≤ 100
  rotate_left
  · have : ((urlT sch user host (portI p) path q fr hq hf).size : Int) > 100 := by omega
    simp only [if_pos this, decide_eq_false s2, Bool.false_and]; exact dead _ rfl
  have s2' : ¬ ((urlT sch user host (portI p) path q fr hq hf).size : Int) > 100 := by omega
  simp only [if_neg s2', decide_eq_true s2, Bool.true_and]
  have k1 : user.size + host.size ≤ 9223372036854775807 := by omega
  have k2 : (user ++ host).size + path.size ≤ 9223372036854775807 := by simp only [ByteArray.size_append]; omega
  have k3 : ((user ++ host) ++ path).size + q.size ≤ 9223372036854775807 := by simp only [ByteArray.size_append]; omega
  have k4 : (((user ++ host) ++ path) ++ q).size + fr.size ≤ 9223372036854775807 := by simp only [ByteArray.size_append]; omega
  simp only [if_pos k1, if_pos k2, if_pos k3, if_pos k4]
  have sh := shown_impl ((((user ++ host) ++ path) ++ q) ++ fr) (by simp only [ByteArray.size_append]; omega)
  have se : ((((user ++ host) ++ path) ++ q) ++ fr).data.toList.all goodB = (shownB user && shownB host && shownB path && shownB q && shownB fr) := by
    show shownB ((((user ++ host) ++ path) ++ q) ++ fr) = _
    simp only [all_append]
  rw [se] at sh
  refine Ev.bind sh ?_
  cases hx : (shownB user && shownB host && shownB path && shownB q && shownB fr)
  · simp only [Bool.not_false, Bool.false_and]; exact dead _ rfl
  · simp only [Bool.not_true, Bool.true_and]; exact last hx _ rfl
end
theorem shown_of_only {s : ByteArray} {W : List UInt8} (h : onlyB s.data.toList W = true) : shownB s = true := by
  rw [only_split] at h
  simp only [Bool.and_eq_true] at h
  exact h.1
theorem shown_empty {s : ByteArray} (h : s.size = 0) : shownB s = true := by
  have : s.data.toList = [] := by rw [size_len] at h; exact List.length_eq_zero_iff.1 h
  unfold shownB; rw [this]; rfl
theorem only_empty {s : ByteArray} (W : List UInt8) (h : s.size = 0) : onlyB s.data.toList W = true := by
  have : s.data.toList = [] := by rw [size_len] at h; exact List.length_eq_zero_iff.1 h
  rw [this]; rfl
theorem only_nil {s : ByteArray} (h : shownB s = true) : onlyB s.data.toList [] = true := by
  have e : (s.data.toList.any fun b => ([] : List UInt8).contains b) = false := by rw [List.any_eq_false]; intro x _; simp
  rw [only_split, containsAny_eq, e, show s.data.toList.all goodB = true from h]; rfl
theorem host_good : ∀ (l : List UInt8) (last : Bool), hostB last l = true → l.all goodB = true
  | [], _, _ => rfl
  | b :: l, last, h => by
    rw [hostB] at h
    rw [List.all_cons]
    by_cases a : lowB b = true ∨ digB b = true
    · rw [if_pos a] at h
      have g : goodB b = true := by
        rcases a with a | a <;> simp [lowB, digB, goodB] at a ⊢ <;> omega
      rw [g, host_good l false h]; rfl
    · rw [if_neg a] at h
      by_cases hl : last = true
      · rw [if_pos hl] at h; cases h
      · rw [if_neg hl] at h
        by_cases sp : sepB b = true
        · rw [if_pos sp] at h
          have g : goodB b = true := by simp [sepB] at sp; simp [goodB]; omega
          rw [g, host_good l true h]; rfl
        · rw [if_neg sp] at h; cases h
theorem tail_size (hq : Bool) (q : ByteArray) (hf : Bool) (fr x : ByteArray) : x.size ≤ (tailB hq q hf fr x).size ∧ (hq = true → x.size + q.size ≤ (tailB hq q hf fr x).size) ∧ (hf = true → x.size + fr.size ≤ (tailB hq q hf fr x).size) ∧ (hq = true → hf = true → x.size + q.size + fr.size ≤ (tailB hq q hf fr x).size) := by
  unfold tailB
  cases hq <;> cases hf <;> simp only [Bool.false_eq_true, if_false, if_true, ByteArray.size_append, c1_size, false_implies, true_implies, and_true, true_and] <;> omega
theorem head_size (sch user : ByteArray) : sch.size + user.size ≤ (headB sch user).size := by
  unfold headB
  by_cases h : user.toList = ([] : List UInt8)
  · rw [if_pos h]
    have := (emptyB user).1 h
    simp only [ByteArray.size_append]; omega
  · rw [if_neg h]
    simp only [ByteArray.size_append]; omega
theorem ports_eq {p : Int} (h : 0 ≤ p) : portI p = portS p := by
  unfold portI portS
  by_cases z : p = 0
  · rw [if_pos z, if_neg (by omega)]
  · rw [if_neg z, if_pos (by omega)]
theorem url_eq (sch user host : ByteArray) (p : Int) (path q fr : ByteArray) (hq hf : Bool) (u : Int) : urlB sch user host p path q fr hq hf u = implB sch user host p path q fr hq hf u := by
  apply Bool.eq_iff_iff.2
  unfold urlB implB
  by_cases w : webB sch = true
  · simp only [if_pos w, Bool.and_eq_true, Bool.or_eq_true, decide_eq_true_eq]
    have ts := fun P => tail_size hq q hf fr (headB sch user ++ (host ++ P ++ path))
    have hs := head_size sch user
    constructor
    · rintro ⟨h1, h2, h3, h4, h5, h6, h7, h8, h9, h10, h11, h12, h13⟩
      have hp0 : 0 ≤ p := by simp [inB] at h10; exact h10.1
      rw [ports_eq hp0]
      have h7' := h7
      unfold urlT at h7'
      rw [if_pos w] at h7'
      have t := ts (portS p)
      simp only [ByteArray.size_append] at t
      refine ⟨h1, ?_, h7, ⟨⟨⟨⟨shown_of_only h8, host_good _ _ h9⟩, shown_of_only h4⟩, shown_of_only h5⟩, shown_of_only h6⟩, h4, h8, h9, h10, h11, ⟨h12, h13⟩, h5, h2, h3⟩
      rcases h2 with h2 | h2 <;> rcases h3 with h3 | h3
      · have := t.2.2.2 h2 h3; omega
      · have := t.2.1 h2; omega
      · have := t.2.2.1 h3; omega
      · have := t.1; omega
    · rintro ⟨h1, _, h3, ⟨⟨⟨⟨g1, g2⟩, g3⟩, g4⟩, g5⟩, h4, h5, h6, h7, h8, ⟨h9, h10⟩, h11, h12, h13⟩
      have hp0 : 0 ≤ p := by simp [inB] at h7; exact h7.1
      rw [ports_eq hp0] at h3
      exact ⟨h1, h12, h13, h4, h11, only_nil g5, h3, h5, h6, h7, h8, h9, h10⟩
  · simp only [if_neg w, Bool.and_eq_true, Bool.or_eq_true, decide_eq_true_eq, Bool.not_eq_true']
    have e : ∀ P, urlT sch user host P path q fr hq hf = sch ++ (⟨#[58]⟩ : ByteArray) ++ path := fun P => by unfold urlT; rw [if_neg w]
    simp only [e, ByteArray.size_append, c1_size]
    constructor
    · rintro ⟨h1, h2, h3, h4, h5, h6, h7, h8, h9, h10, h11, h12⟩
      have hq0 : q.size = 0 := by rcases h2 with h2 | h2; (rw [h11] at h2; cases h2); exact h2
      have hf0 : fr.size = 0 := by rcases h3 with h3 | h3; (rw [h12] at h3; cases h3); exact h3
      exact ⟨h1, by omega, h7, ⟨⟨⟨⟨shown_empty h8, shown_empty h9⟩, shown_of_only h4⟩, shown_empty hq0⟩, shown_empty hf0⟩, h4, h8, h9, h10, hq0, hf0, h11, h12⟩
    · rintro ⟨h1, _, h3, _, h4, h8, h9, h10, hq0, hf0, h11, h12⟩
      exact ⟨h1, .inr hq0, .inr hf0, h4, only_empty _ hq0, only_empty _ hf0, h3, h8, h9, h10, h11, h12⟩
theorem urlT_ports {sch user host path q fr : ByteArray} {p : Int} {hq hf : Bool} (h : webB sch = true → 0 ≤ p) : urlT sch user host (portI p) path q fr hq hf = urlT sch user host (portS p) path q fr hq hf := by
  by_cases w : webB sch = true
  · rw [ports_eq (h w)]
  · unfold urlT
    rw [if_neg w, if_neg w]
def fnd (s : ByteArray) (c : UInt8) : Nat := s.data.toList.findIdx (· == c)
def cutL (s : ByteArray) (c : UInt8) : ByteArray := s.extract 0 (fnd s c)
def cutH (s : ByteArray) (c : UInt8) : Bool := decide (fnd s c < s.size)
def cutR (s : ByteArray) (c : UInt8) : ByteArray := if fnd s c < s.size then s.extract (fnd s c + 1) s.size else (⟨#[]⟩ : ByteArray)
theorem fnd_le (s : ByteArray) (c : UInt8) : fnd s c ≤ s.size := by
  unfold fnd; rw [size_len]; exact List.findIdx_le_length
theorem ext_size (s : ByteArray) (i j : Nat) : (s.extract i j).size = min j s.size - i := ByteArray.size_extract
theorem ext_all (s : ByteArray) : s.extract 0 s.size = s := by
  apply ByteArray.ext
  apply Array.toList_inj.1
  rw [ByteArray.data_extract, Array.toList_extract, List.extract_eq_take_drop, List.drop_zero, Nat.sub_zero]
  exact List.take_of_length_le (by rw [size_len]; exact Nat.le_refl _)
theorem cutL_none {s : ByteArray} {c : UInt8} (h : ¬ fnd s c < s.size) : cutL s c = s := by
  have := fnd_le s c
  unfold cutL
  rw [show fnd s c = s.size by omega, ext_all]
theorem cutL_size (s : ByteArray) (c : UInt8) : (cutL s c).size ≤ s.size := by unfold cutL; rw [ext_size]; omega
theorem cutR_size (s : ByteArray) (c : UInt8) : (cutR s c).size ≤ s.size := by
  unfold cutR
  split
  · rw [ext_size]; omega
  · rw [c0_size]; omega
theorem fnd_loop (t : ByteArray) (c : UInt8) (ht : t.size ≤ 2000000) : ∀ (l : List UInt8) (i : Nat), i ≤ t.size → t.data.toList.drop i = l → Ev (fun k => spec_l01Find.l0 k t (c.toNat : Int) (i : Int)) (((i + l.findIdx (· == c) : Nat)) : Int)
  | [], i, hi, h => by
    have := drop_nil h
    exact Ev.step (f := fun _ => some (t.size : Int)) (fun k => by rw [spec_l01Find.l0, if_neg (by omega)]) (by rw [List.findIdx_nil, show i + 0 = t.size by omega]; exact Ev.now _)
  | b :: l, i, hi, h => by
    obtain ⟨h1, h2, h3⟩ := drop_cons h
    by_cases e : b = c
    · subst e
      rw [List.findIdx_cons]
      simp only [beq_self_eq_true, cond_true]
      exact Ev.step (f := fun _ => some (i : Int)) (fun k => by rw [spec_l01Find.l0, if_pos (by omega), if_pos (by omega), if_pos h2]) (Ev.now _)
    · have hb : (b == c) = false := by rw [beq_eq_false_iff_ne]; exact e
      have ih := fnd_loop t c ht l (i + 1) (by omega) h3
      rw [List.findIdx_cons, hb, cond_false, show i + (List.findIdx (· == c) l + 1) = i + 1 + List.findIdx (· == c) l by omega]
      refine Ev.step (f := fun k => spec_l01Find.l0 k t (c.toNat : Int) ((i + 1 : Nat) : Int)) (fun k => ?_) ih
      have hne : ¬ bt t (i : Int) = (c.toNat : Int) := by
        rw [h2]; intro hh; apply e; apply UInt8.toNat_inj.1; omega
      rw [spec_l01Find.l0, if_pos (by omega), if_pos (by omega), if_neg hne, wr (by omega) (by omega)]; rfl
theorem find_is (t : ByteArray) (c : UInt8) (ht : t.size ≤ 2000000) : Ev (fun k => spec_l01Find.f k t (c.toNat : Int)) (fnd t c : Int) := by
  have := fnd_loop t c ht t.data.toList 0 (Nat.zero_le _) (by simp)
  rw [Nat.zero_add] at this
  exact this
theorem index_list (c : UInt8) : ∀ l : List UInt8, Lib.indexByte l c = if l.findIdx (· == c) < l.length then ((l.findIdx (· == c) : Nat) : Int) else -1
  | [] => by simp [Lib.indexByte]
  | b :: l => by
    have ih := index_list c l
    rw [Lib.indexByte, List.findIdx_cons]
    by_cases e : (b == c) = true
    · rw [if_pos e, e, cond_true, if_pos (by simp)]; rfl
    · have e' : (b == c) = false := by simpa using e
      rw [if_neg e, e', cond_false, ih]
      by_cases h : l.findIdx (· == c) < l.length
      · have : ((((l.findIdx (· == c) : Nat) : Int)) == -1) = false := by rw [beq_eq_false_iff_ne]; omega
        rw [if_pos h, this, if_neg Bool.false_ne_true, if_pos (by rw [List.length_cons]; omega)]; omega
      · rw [if_neg h, if_pos (by decide), if_neg (by rw [List.length_cons]; omega)]
theorem index_is (s : ByteArray) (c : UInt8) : Lib.indexByte s.data.toList c = if fnd s c < s.size then ((fnd s c : Nat) : Int) else -1 := by
  rw [index_list]; unfold fnd; rw [size_len]
theorem cut_is (s : ByteArray) (c : UInt8) (hs : s.size ≤ 2000000) : strings_Cut.f s (⟨#[c]⟩ : ByteArray) = some (cutL s c, cutR s c, cutH s c) := by
  have hle := fnd_le s c
  have h1 : (⟨#[c]⟩ : ByteArray).size = 1 := rfl
  have e : (⟨#[c]⟩ : ByteArray).data.toList.getD 0 0 = c := rfl
  unfold strings_Cut.f stringslite_Cut.f stringslite_Index.f
  rw [if_pos h1, e, index_is, h1]
  simp only [Option.bind_some]
  by_cases h : fnd s c < s.size
  · have w : wrap64 ((fnd s c : Int) + ((1 : Nat) : Int)) = ((fnd s c + 1 : Nat) : Int) := by rw [wr (by omega) (by omega)]; omega
    simp only [if_pos h, w]
    rw [if_pos (by omega), if_pos (by omega), if_pos (by omega), if_pos (by omega), if_pos (by omega)]
    unfold cutL cutR cutH
    rw [if_pos h, decide_eq_true h]
    rfl
  · simp only [if_neg h]
    rw [if_neg (by omega), cutL_none h]
    unfold cutR cutH
    rw [if_neg h, decide_eq_false h]
    rfl
theorem indexByte_is (s : ByteArray) (c : UInt8) (n : Int) (hn : n = (c.toNat : Int)) : strings_IndexByte.f s n = some (if fnd s c < s.size then ((fnd s c : Nat) : Int) else -1) := by
  subst hn
  unfold strings_IndexByte.f stringslite_IndexByte.f
  have e : ((c.toNat : Int)).toNat.toUInt8 = c := by
    rw [Int.toNat_natCast]; exact UInt8.ofNat_toNat
  rw [e, index_is]
  rfl
theorem strOf_bytes (l : List UInt8) : strOfNums (l.map fun b => (b.toNat : Int)) = (⟨l.toArray⟩ : ByteArray) := by
  have e : (l.map fun b => (b.toNat : Int)).map (fun x : Int => UInt8.ofNat x.toNat) = l := by
    rw [List.map_map]
    conv => rhs; rw [← List.map_id l]
    apply List.map_congr_left
    intro b _
    simp
  unfold strOfNums
  first
  | rw [e]
  | (apply ByteArray.ext; apply Array.toList_inj.1; simpa using e)
theorem lower_loop (t : ByteArray) (ht : t.size ≤ 2000000) : ∀ (l acc : List UInt8) (i : Nat), acc.length = i → t.data.toList.drop i = l → i ≤ t.size → Ev (fun k => spec_l01Lower.l0 k t (acc.map fun b => (b.toNat : Int)) (i : Int)) (⟨(acc ++ l.map low1).toArray⟩ : ByteArray)
  | [], acc, i, ha, h, hi => by
    have := drop_nil h
    rw [List.map_nil, List.append_nil, ← strOf_bytes acc]
    exact Ev.step (f := fun _ => some (strOfNums (acc.map fun b => (b.toNat : Int)))) (fun k => by rw [spec_l01Lower.l0, if_neg (by omega)]) (Ev.now _)
  | b :: l, acc, i, ha, h, hi => by
    obtain ⟨h1, h2, h3⟩ := drop_cons h
    have ih := lower_loop t ht l (acc ++ [low1 b]) (i + 1) (by rw [List.length_append, ha]; rfl) h3 (by omega)
    have hl : (acc.map fun b => (b.toNat : Int)).length = i := by rw [List.length_map, ha]
    have hb := b.toNat_lt
    have e1 : (acc.map fun b => (b.toNat : Int)) ++ [((low1 b).toNat : Int)] = (acc ++ [low1 b]).map fun b => (b.toNat : Int) := by simp
    rw [List.append_assoc] at ih
    have e2 : acc ++ (b :: l).map low1 = acc ++ ([low1 b] ++ l.map low1) := rfl
    rw [e2]
    refine Ev.step (f := fun k => spec_l01Lower.l0 k t ((acc ++ [low1 b]).map fun b => (b.toNat : Int)) ((i + 1 : Nat) : Int)) (fun k => ?_) ih
    have w1 : wrap64 ((i : Int) + 1) = ((i + 1 : Nat) : Int) := by rw [wr (by omega) (by omega)]; rfl
    rw [spec_l01Lower.l0, if_pos (by omega), if_pos (by omega), h2, w1, ← e1]
    by_cases c1 : 65 ≤ b.toNat
    · by_cases c2 : b.toNat ≤ 90
      · have e : ((b.toNat : Int) + 32) % 256 = ((low1 b).toNat : Int) := by
          unfold low1
          rw [if_pos ⟨c1, c2⟩, UInt8.toNat_ofNat']
          omega
        rw [if_pos (by omega), if_pos (by omega), if_pos (by omega), e]
      · have e : low1 b = b := by unfold low1; rw [if_neg (by omega)]
        rw [if_pos (by omega), if_neg (by omega), if_pos (by omega), e]
    · have e : low1 b = b := by unfold low1; rw [if_neg (by omega)]
      rw [if_neg (by omega), if_pos (by omega), e]
theorem lower_spec (t : ByteArray) (ht : t.size ≤ 2000000) : Ev (fun k => spec_l01Lower.f k t) (lowAt t t.size) := by
  have h := lower_loop t ht t.data.toList [] 0 rfl (by simp) (Nat.zero_le _)
  have e : lowAt t t.size = (⟨([] ++ t.data.toList.map low1).toArray⟩ : ByteArray) := by
    unfold lowAt lowL
    rw [List.take_of_length_le (by rw [size_len]; exact Nat.le_refl _), List.drop_eq_nil_of_le (by rw [size_len]; exact Nat.le_refl _), List.append_nil, List.nil_append]
  rw [e]
  exact h
theorem lower_impl (t : ByteArray) (ht : t.size ≤ 2000000) : impl_lower.f t = some (lowAt t t.size) := by
  unfold impl_lower.f
  rw [if_pos (by omega)]
def isDig (b : UInt8) : Bool := decide (48 ≤ b.toNat) && decide (b.toNat ≤ 57)
def valFrom (acc : Nat) (l : List UInt8) : Nat := l.foldl (fun a b => a * 10 + (b.toNat - 48)) acc
theorem valFrom_cons (acc : Nat) (b : UInt8) (l : List UInt8) : valFrom acc (b :: l) = valFrom (acc * 10 + (b.toNat - 48)) l := by unfold valFrom; rw [List.foldl_cons]
theorem isDig_iff {b : UInt8} : isDig b = true ↔ 48 ≤ b.toNat ∧ b.toNat ≤ 57 := by simp [isDig]
theorem valFrom_lt : ∀ (l : List UInt8) (acc j : Nat), l.all isDig = true → acc < 10 ^ j → valFrom acc l < 10 ^ (j + l.length)
  | [], acc, j, _, h => h
  | b :: l, acc, j, hd, h => by
    rw [List.all_cons, Bool.and_eq_true] at hd
    have hb := isDig_iff.1 hd.1
    have e : 10 ^ (j + 1) = 10 ^ j * 10 := Nat.pow_succ 10 j
    rw [valFrom_cons, List.length_cons, show j + (l.length + 1) = j + 1 + l.length by omega]
    exact valFrom_lt l _ (j + 1) hd.2 (by omega)
theorem valFrom_ge : ∀ (l : List UInt8) (acc : Nat), acc ≤ valFrom acc l
  | [], _ => Nat.le_refl _
  | b :: l, acc => Nat.le_trans (by omega) (valFrom_ge l (acc * 10 + (b.toNat - 48)))
theorem p18 : (10 : Nat) ^ 18 = 1000000000000000000 := by decide
theorem pow_le {j : Nat} (h : j ≤ 18) : (10 : Nat) ^ j ≤ 1000000000000000000 := by rw [← p18]; exact Nat.pow_le_pow_right (by omega) h
theorem parse_digits : ∀ (l : List UInt8) (acc j : Nat), l.all isDig = true → acc < 10 ^ j → j + l.length ≤ 18 → Lib.parseUint10 acc l = .ok (valFrom acc l)
  | [], acc, j, _, _, _ => rfl
  | b :: l, acc, j, hd, h, hj => by
    rw [List.all_cons, Bool.and_eq_true] at hd
    have hb := isDig_iff.1 hd.1
    rw [List.length_cons] at hj
    have e : 10 ^ (j + 1) = 10 ^ j * 10 := Nat.pow_succ 10 j
    have hp := pow_le (show j + 1 ≤ 18 by omega)
    rw [Lib.parseUint10, if_pos hb, if_neg (by omega), if_neg (by omega), valFrom_cons]
    exact parse_digits l _ (j + 1) hd.2 (by omega) (by omega)
theorem ofNat_dig {b : UInt8} (h : isDig b = true) : UInt8.ofNat (48 + (b.toNat - 48)) = b := by
  have := isDig_iff.1 h
  rw [show 48 + (b.toNat - 48) = b.toNat by omega]
  exact UInt8.ofNat_toNat
theorem dec_of_val : ∀ (n : Nat) (l : List UInt8), l.length = n → l ≠ [] → l.all isDig = true → (∀ r, l ≠ 48 :: r ∨ r = []) → Lib.decDigits (valFrom 0 l) = l := by
  intro n
  induction n with
  | zero => intro l h hne; exact absurd (List.length_eq_zero_iff.1 h) hne
  | succ n ih =>
    intro l hl hne hd hz
    obtain ⟨l', b, rfl⟩ : ∃ l' b, l = l' ++ [b] := ⟨l.dropLast, l.getLast hne, (List.dropLast_concat_getLast hne).symm⟩
    rw [List.all_append, Bool.and_eq_true] at hd
    have hb : isDig b = true := by simpa using hd.2
    have hb' := isDig_iff.1 hb
    have ev : valFrom 0 (l' ++ [b]) = valFrom 0 l' * 10 + (b.toNat - 48) := by unfold valFrom; rw [List.foldl_append]; rfl
    rw [ev]
    by_cases he : l' = []
    · subst he
      show Lib.decDigits (0 * 10 + (b.toNat - 48)) = [b]
      rw [show 0 * 10 + (b.toNat - 48) = b.toNat - 48 by omega, Lib.decDigits_one (by omega), ofNat_dig hb]
    · have hlen : l'.length = n := by rw [List.length_append] at hl; simpa using hl
      have hz' : ∀ r, l' ≠ 48 :: r ∨ r = [] := by
        intro r
        by_cases e : l' = 48 :: r
        · rcases hz (r ++ [b]) with h | h
          · exact absurd (by rw [e]; rfl) h
          · exact absurd h (by simp)
        · exact .inl e
      have hpos : 1 ≤ valFrom 0 l' := by
        cases l' with
        | nil => exact absurd rfl he
        | cons c r =>
          have hc : c ≠ 48 := by
            rintro rfl
            rcases hz (r ++ [b]) with h | h
            · exact h rfl
            · exact absurd h (by simp)
          rw [List.all_cons, Bool.and_eq_true] at hd
          have := isDig_iff.1 hd.1.1
          have hc' : c.toNat ≠ 48 := fun h => hc (UInt8.toNat_inj.1 h)
          rw [valFrom_cons]
          have := valFrom_ge r (0 * 10 + (c.toNat - 48))
          omega
      have e10 : ¬ valFrom 0 l' * 10 + (b.toNat - 48) < 10 := by omega
      have i := ih l' hlen he hd.1 hz'
      rw [Lib.decDigits, dif_neg e10, show (valFrom 0 l' * 10 + (b.toNat - 48)) / 10 = valFrom 0 l' by omega, i, show (valFrom 0 l' * 10 + (b.toNat - 48)) % 10 = b.toNat - 48 by omega, ofNat_dig hb]
theorem dec_digits : ∀ u : Nat, (Lib.decDigits u).all isDig = true ∧ Lib.decDigits u ≠ [] ∧ (∀ r, Lib.decDigits u = 48 :: r → u = 0 ∧ r = []) := by
  intro u
  induction u using Nat.strongRecOn with
  | _ u ih =>
  by_cases h : u < 10
  · have e : (UInt8.ofNat (48 + u)).toNat = 48 + u := by rw [UInt8.toNat_ofNat']; omega
    rw [Lib.decDigits_one h]
    refine ⟨?_, by simp, ?_⟩
    · simp [isDig, e]; omega
    · intro r hr
      injection hr with h1 h2
      have : (UInt8.ofNat (48 + u)).toNat = (48 : UInt8).toNat := by rw [h1]
      rw [e] at this
      exact ⟨by have e48 : (48 : UInt8).toNat = 48 := rfl; omega, h2.symm⟩
  · have e : Lib.decDigits u = Lib.decDigits (u / 10) ++ [UInt8.ofNat (48 + u % 10)] := by rw [Lib.decDigits, dif_neg h]
    have i := ih (u / 10) (by omega)
    have en : (UInt8.ofNat (48 + u % 10)).toNat = 48 + u % 10 := by rw [UInt8.toNat_ofNat']; omega
    rw [e]
    refine ⟨?_, by simp, ?_⟩
    · rw [List.all_append, i.1, Bool.true_and]
      simp [isDig, en]; omega
    · intro r hr
      cases hc : Lib.decDigits (u / 10) with
      | nil => exact absurd hc i.2.1
      | cons c q =>
        rw [hc] at hr
        injection hr with h1 _
        have := (i.2.2 q (by rw [hc, h1])).1
        omega
def canon (neg : Bool) (l : List UInt8) : Bool := decide (l ≠ []) && (decide (l.length ≤ 18) && (!(decide (l.head? = some 48) && (decide (1 < l.length) || neg)) && l.all isDig))
theorem digits_loop (x : ByteArray) (s : Int) (hs : s = 1 ∨ s = -1) (hx : x.size ≤ 18) : ∀ (l : List UInt8) (i acc : Nat), x.data.toList.drop i = l → i + l.length = x.size → acc < 10 ^ i →
    Ev (fun k => spec_l00Number.l0 k x s (acc : Int) (i : Int)) (if l.all isDig = true then (s * (valFrom acc l : Int), true) else (0, false))
  | [], i, acc, h, hi, ha => by
    have hb := pow_le (show i ≤ 18 by rw [List.length_nil] at hi; omega)
    rw [if_pos (show ([] : List UInt8).all isDig = true from rfl)]
    rw [List.length_nil] at hi
    refine Ev.step (f := fun _ => some (s * (acc : Int), true)) (fun k => ?_) (Ev.now _)
    rw [spec_l00Number.l0, if_neg (by omega)]
    rcases hs with rfl | rfl <;> rw [wr (by omega) (by omega)]
  | b :: l, i, acc, h, hi, ha => by
    obtain ⟨h1, h2, h3⟩ := drop_cons h
    rw [List.length_cons] at hi
    have hb := pow_le (show i + 1 ≤ 18 by omega)
    have e10 : 10 ^ (i + 1) = 10 ^ i * 10 := Nat.pow_succ 10 i
    have hbt := b.toNat_lt
    by_cases c : isDig b = true
    · have hc := isDig_iff.1 c
      have ih := digits_loop x s hs hx l (i + 1) (acc * 10 + (b.toNat - 48)) h3 (by omega) (by omega)
      rw [List.all_cons, c, Bool.true_and, valFrom_cons]
      refine Ev.step (f := fun k => spec_l00Number.l0 k x s ((acc * 10 + (b.toNat - 48) : Nat) : Int) ((i + 1 : Nat) : Int)) (fun k => ?_) ih
      rw [spec_l00Number.l0, if_pos (by omega), if_pos (by omega), h2, if_neg (by omega), if_neg (by omega), wr (x := (acc : Int) * 10) (by omega) (by omega), wr (x := (b.toNat : Int)) (by omega) (by omega), wr (x := (acc : Int) * 10 + (b.toNat : Int)) (by omega) (by omega), wr (x := (acc : Int) * 10 + (b.toNat : Int) - 48) (by omega) (by omega), wr (x := (i : Int) + 1) (by omega) (by omega)]
      congr 1
      omega
    · have c' : isDig b = false := by simpa using c
      rw [List.all_cons, c', Bool.false_and, if_neg Bool.false_ne_true]
      have hn : ¬ (48 ≤ b.toNat ∧ b.toNat ≤ 57) := fun h => c (isDig_iff.2 h)
      refine Ev.step (f := fun _ => some (0, false)) (fun k => ?_) (Ev.now _)
      rw [spec_l00Number.l0, if_pos (by omega), if_pos (by omega), h2]
      by_cases d : b.toNat < 48
      · rw [if_pos (by omega)]
      · rw [if_neg (by omega), if_pos (by omega)]
theorem first_bt {t : ByteArray} {b : UInt8} {r : List UInt8} (h : t.data.toList = b :: r) : 0 < t.size ∧ bt t 0 = (b.toNat : Int) := by
  have := drop_cons (s := t) (i := 0) (b := b) (l := r) (by rw [List.drop_zero]; exact h)
  exact ⟨this.1, this.2.1⟩
theorem j2_bad (x : ByteArray) (s : Int) : Ev (fun k => spec_l00Number.j2 k x s true) (0, false) :=
  Ev.step (f := fun _ => some (0, false)) (fun k => by rw [spec_l00Number.j2]; simp) (Ev.now _)
theorem j2_good (x : ByteArray) (s : Int) (hs : s = 1 ∨ s = -1) (hx : x.size ≤ 18) : Ev (fun k => spec_l00Number.j2 k x s false) (if x.data.toList.all isDig = true then (s * (valFrom 0 x.data.toList : Int), true) else (0, false)) := by
  refine Ev.step (f := fun k => spec_l00Number.l0 k x s ((0 : Nat) : Int) ((0 : Nat) : Int)) (fun k => by rw [spec_l00Number.j2]; simp) ?_
  exact digits_loop x s hs hx x.data.toList 0 0 (by simp) (by rw [Nat.zero_add, size_len]) (by decide)
theorem j1_is (x : ByteArray) (neg : Bool) (s : Int) (hs : s = if neg = true then -1 else 1) (hx : x.size ≤ 2000000) : Ev (fun k => spec_l00Number.j1 k x s) (if canon neg x.data.toList = true then (s * (valFrom 0 x.data.toList : Int), true) else (0, false)) := by
  have hs' : s = 1 ∨ s = -1 := by cases neg <;> simp at hs <;> omega
  have hl := size_len x
  cases hc : x.data.toList with
  | nil =>
    rw [hc, List.length_nil] at hl
    have e : canon neg [] = false := by simp [canon]
    rw [e, if_neg Bool.false_ne_true]
    exact Ev.step (f := fun k => spec_l00Number.j2 k x s true) (fun k => by rw [spec_l00Number.j1, if_pos (by omega)]) (j2_bad x s)
  | cons b r =>
    obtain ⟨h0, hb⟩ := first_bt hc
    rw [hc] at hl
    by_cases h18 : x.size ≤ 18
    · have e1 : decide ((b :: r) ≠ []) = true := by simp
      have e2 : decide ((b :: r).length ≤ 18) = true := decide_eq_true (by omega)
      have ec : canon neg (b :: r) = (!(decide (b = 48) && (decide (1 < (b :: r).length) || neg)) && (b :: r).all isDig) := by
        unfold canon
        rw [e1, e2, Bool.true_and, Bool.true_and]
        congr 4
        simp
      have good := j2_good x s hs' h18
      rw [hc] at good
      rw [ec]
      by_cases h48 : b = 48
      · have hb48 : bt x 0 = 48 := by rw [hb, h48]; rfl
        rw [decide_eq_true h48, Bool.true_and]
        by_cases h1 : 1 < (b :: r).length
        · rw [decide_eq_true h1, Bool.true_or, Bool.not_true, Bool.false_and, if_neg Bool.false_ne_true]
          exact Ev.step (f := fun k => spec_l00Number.j2 k x s true) (fun k => by rw [spec_l00Number.j1, if_neg (by omega), if_neg (by omega), if_pos (by omega), if_pos hb48, if_pos (by omega)]) (j2_bad x s)
        · rw [decide_eq_false h1, Bool.false_or]
          cases neg with
          | true =>
            have hs1 : s = -1 := hs
            rw [Bool.not_true, Bool.false_and, if_neg Bool.false_ne_true]
            exact Ev.step (f := fun k => spec_l00Number.j2 k x s true) (fun k => by rw [spec_l00Number.j1, if_neg (by omega), if_neg (by omega), if_pos (by omega), if_pos hb48, if_neg (by omega), decide_eq_true (by omega)]) (j2_bad x s)
          | false =>
            have hs1 : s = 1 := hs
            rw [Bool.not_false, Bool.true_and]
            exact Ev.step (f := fun k => spec_l00Number.j2 k x s false) (fun k => by rw [spec_l00Number.j1, if_neg (by omega), if_neg (by omega), if_pos (by omega), if_pos hb48, if_neg (by omega), decide_eq_false (by omega)]) good
      · have hb48 : ¬ bt x 0 = 48 := by
          rw [hb]; intro h; apply h48; apply UInt8.toNat_inj.1; show b.toNat = 48; omega
        rw [decide_eq_false h48, Bool.false_and, Bool.not_false, Bool.true_and]
        exact Ev.step (f := fun k => spec_l00Number.j2 k x s false) (fun k => by rw [spec_l00Number.j1, if_neg (by omega), if_neg (by omega), if_pos (by omega), if_neg hb48]) good
    · have e : canon neg (b :: r) = false := by
        unfold canon
        rw [decide_eq_false (show ¬ (b :: r).length ≤ 18 by omega), Bool.false_and, Bool.and_false]
      rw [e, if_neg Bool.false_ne_true]
      exact Ev.step (f := fun k => spec_l00Number.j2 k x s true) (fun k => by rw [spec_l00Number.j1, if_neg (by omega), if_pos (by omega)]) (j2_bad x s)
theorem canon_iff {neg : Bool} {l : List UInt8} : canon neg l = true ↔ l ≠ [] ∧ l.length ≤ 18 ∧ (∀ r, l = 48 :: r → r = [] ∧ neg = false) ∧ l.all isDig = true := by
  unfold canon
  simp only [Bool.and_eq_true, decide_eq_true_eq, Bool.not_eq_true', Bool.and_eq_false_iff, decide_eq_false_iff_not, Bool.or_eq_false_iff]
  cases l with
  | nil => simp
  | cons b r =>
    simp only [List.head?_cons, Option.some.injEq, List.length_cons]
    constructor
    · rintro ⟨h1, h2, h3, h4⟩
      refine ⟨h1, h2, fun q hq => ?_, h4⟩
      injection hq with hb hr
      subst hr
      rcases h3 with h3 | ⟨h3, h5⟩
      · exact absurd hb h3
      · exact ⟨List.length_eq_zero_iff.1 (by omega), h5⟩
    · rintro ⟨h1, h2, h3, h4⟩
      refine ⟨h1, h2, ?_, h4⟩
      by_cases hb : b = 48
      · obtain ⟨e1, e2⟩ := h3 r (by rw [hb])
        subst e1
        exact .inr ⟨by simp, e2⟩
      · exact .inl hb
theorem atoi_canon {l : List UInt8} (h : canon false l = true) : Lib.atoiAll l = .ok (valFrom 0 l : Int) ∧ Lib.itoa (valFrom 0 l : Int) = l := by
  obtain ⟨h1, h2, h3, h4⟩ := canon_iff.1 h
  have hd : Lib.decDigits (valFrom 0 l) = l := dec_of_val _ l rfl h1 h4 fun r => by
    by_cases e : l = 48 :: r
    · exact .inr (h3 r e).1
    · exact .inl e
  have hv := valFrom_lt l 0 0 h4 (by decide)
  rw [Nat.zero_add] at hv
  have hp := pow_le h2
  refine ⟨?_, by rw [Lib.itoa_nonneg, hd]⟩
  cases l with
  | nil => exact absurd rfl h1
  | cons c r =>
    have hc : isDig c = true := by rw [List.all_cons, Bool.and_eq_true] at h4; exact h4.1
    have hc' := isDig_iff.1 hc
    have hm : Lib.parseMag (c :: r) = .ok (valFrom 0 (c :: r)) := by
      unfold Lib.parseMag
      rw [if_neg (by simp)]
      exact parse_digits _ 0 0 h4 (by decide) (by omega)
    rw [Lib.atoiAll_plain c r (by omega) (by omega), hm]
    show (if 9223372036854775808 ≤ valFrom 0 (c :: r) then Lib.NumEnd.range else .ok ((valFrom 0 (c :: r) : Nat) : Int)) = _
    rw [if_neg (by omega)]
theorem atoi_canon_neg {l : List UInt8} (h : canon true l = true) : Lib.atoiAll (45 :: l) = .ok (-(valFrom 0 l : Int)) ∧ Lib.itoa (-(valFrom 0 l : Int)) = 45 :: l := by
  obtain ⟨h1, h2, h3, h4⟩ := canon_iff.1 h
  have hd : Lib.decDigits (valFrom 0 l) = l := dec_of_val _ l rfl h1 h4 fun r => by
    by_cases e : l = 48 :: r
    · exact .inr (h3 r e).1
    · exact .inl e
  have hv := valFrom_lt l 0 0 h4 (by decide)
  rw [Nat.zero_add] at hv
  have hp := pow_le h2
  have hpos : 1 ≤ valFrom 0 l := by
    rcases Nat.eq_zero_or_pos (valFrom 0 l) with h0 | h0
    · rw [h0] at hd
      have : l = 48 :: [] := by rw [← hd]; exact Lib.decDigits_one (by omega)
      exact absurd (h3 [] this).2 (by decide)
    · exact h0
  refine ⟨?_, by rw [Lib.itoa_neg _ hpos, hd]⟩
  have hm : Lib.parseMag l = .ok (valFrom 0 l) := by
    unfold Lib.parseMag
    rw [if_neg h1]
    exact parse_digits _ 0 0 h4 (by decide) (by omega)
  rw [Lib.atoiAll_minus, hm]
  show (if 9223372036854775808 < valFrom 0 l then Lib.NumEnd.range else .ok (-((valFrom 0 l : Nat) : Int))) = _
  rw [if_neg (by omega)]
theorem canon_dec {u : Nat} (h : (Lib.decDigits u).length ≤ 18) : canon false (Lib.decDigits u) = true := by
  obtain ⟨h1, h2, h3⟩ := dec_digits u
  exact canon_iff.2 ⟨h2, h, fun r hr => ⟨(h3 r hr).2, rfl⟩, h1⟩
theorem canon_dec_neg {u : Nat} (hu : 1 ≤ u) (h : (Lib.decDigits u).length ≤ 18) : canon true (Lib.decDigits u) = true := by
  obtain ⟨h1, h2, h3⟩ := dec_digits u
  exact canon_iff.2 ⟨h2, h, fun r hr => by have := (h3 r hr).1; omega, h1⟩
theorem dec_head (u : Nat) (r : List UInt8) : Lib.decDigits u ≠ 45 :: r := by
  intro h
  have := (dec_digits u).1
  rw [h, List.all_cons, Bool.and_eq_true] at this
  exact absurd this.1 (by decide)
theorem ext_tail {t : ByteArray} {b : UInt8} {r : List UInt8} (h : t.data.toList = b :: r) : (t.extract 1 t.size).data.toList = r := by
  rw [ByteArray.data_extract, Array.toList_extract, List.extract_eq_take_drop, h]
  have hl := size_len t
  rw [h, List.length_cons] at hl
  show (List.drop 0 r).take (t.size - 1) = r
  rw [List.drop_zero]
  exact List.take_of_length_le (by omega)
theorem num_same (t : ByteArray) (ht : t.size ≤ 2000000) : ∃ n, Ev (fun k => spec_l00Number.f k t) (n, impl_number.ok t) ∧ (impl_number.ok t = true → n = impl_number.val t) := by
  have hl := size_len t
  -- the program's side
  have okOf : ∀ v, Lib.atoiAll t.data.toList = .ok v → impl_number.ok t = (decide (impl_number.dig t ≤ 18) && (Lib.itoa v == t.data.toList)) ∧ impl_number.val t = v := fun v e => by
    constructor
    · unfold impl_number.ok; rw [e]
    · unfold impl_number.val; rw [e]
  have okTo : impl_number.ok t = true → ∃ v, Lib.atoiAll t.data.toList = .ok v ∧ impl_number.dig t ≤ 18 ∧ Lib.itoa v = t.data.toList := fun h => by
    unfold impl_number.ok at h
    cases e : Lib.atoiAll t.data.toList with
    | ok v =>
      rw [e] at h
      simp only [Bool.and_eq_true, decide_eq_true_eq, beq_iff_eq] at h
      exact ⟨v, rfl, h.1, h.2⟩
    | «syntax» => rw [e] at h; cases h
    | range => rw [e] at h; cases h
  by_cases hneg : ∃ r, t.data.toList = 45 :: r
  · obtain ⟨r, hr⟩ := hneg
    obtain ⟨h0, hb⟩ := first_bt hr
    have hb45 : bt t 0 = 45 := hb
    have hdig : impl_number.dig t = (t.size : Int) - 1 := by unfold impl_number.dig; rw [if_pos ⟨h0, hb45⟩]
    rw [hr, List.length_cons] at hl
    have hx := ext_tail hr
    have hxs : (t.extract 1 t.size).size ≤ 2000000 := by rw [ext_size]; omega
    have j := j1_is (t.extract 1 t.size) true (-1) rfl hxs
    rw [hx] at j
    have sp : Ev (fun k => spec_l00Number.f k t) (if canon true r = true then (-1 * (valFrom 0 r : Int), true) else (0, false)) := by
      unfold spec_l00Number.f
      refine Ev.step (f := fun k => spec_l00Number.j1 k (t.extract 1 t.size) (-1)) (fun k => ?_) j
      rw [if_pos (by omega), if_pos (by omega), hb45, spec_l00Number.j0]
      simp only [beq_self_eq_true, if_true]
      rw [if_pos (by omega)]
    by_cases hc : canon true r = true
    · obtain ⟨a1, a2⟩ := atoi_canon_neg hc
      have hlen := (canon_iff.1 hc).2.1
      obtain ⟨o1, o2⟩ := okOf _ (by rw [hr]; exact a1)
      rw [a2, hdig, hr, decide_eq_true (by omega), Bool.true_and, beq_self_eq_true] at o1
      rw [if_pos hc] at sp
      exact ⟨_, by rw [o1]; exact sp, fun _ => by rw [o2]; omega⟩
    · have ho : impl_number.ok t = false := by
        cases h : impl_number.ok t with
        | false => rfl
        | true =>
          exfalso
          obtain ⟨v, _, hd, hi⟩ := okTo h
          apply hc
          rw [hr] at hi
          by_cases hv : 0 ≤ v
          · obtain ⟨u, rfl⟩ : ∃ u : Nat, v = u := ⟨v.toNat, by omega⟩
            rw [Lib.itoa_nonneg] at hi
            exact absurd hi (dec_head u r)
          · obtain ⟨u, rfl⟩ : ∃ u : Nat, v = -(u : Int) := ⟨v.natAbs, by omega⟩
            rw [Lib.itoa_neg u (by omega)] at hi
            injection hi with _ hi
            rw [← hi]
            exact canon_dec_neg (by omega) (by rw [hi]; omega)
      rw [if_neg hc] at sp
      exact ⟨_, by rw [ho]; exact sp, fun h => by rw [ho] at h; cases h⟩
  · have hb45 : ¬ (0 < t.size ∧ bt t 0 = 45) := by
      rintro ⟨h0, hb⟩
      cases hc : t.data.toList with
      | nil => rw [hc, List.length_nil] at hl; omega
      | cons b r =>
        have := (first_bt hc).2
        rw [hb] at this
        exact hneg ⟨r, by rw [hc, show b = 45 from UInt8.toNat_inj.1 (by show b.toNat = 45; omega)]⟩
    have hdig : impl_number.dig t = (t.size : Int) := by unfold impl_number.dig; rw [if_neg hb45]
    have j := j1_is t false 1 rfl ht
    have sp : Ev (fun k => spec_l00Number.f k t) (if canon false t.data.toList = true then (1 * (valFrom 0 t.data.toList : Int), true) else (0, false)) := by
      unfold spec_l00Number.f
      refine Ev.step (f := fun k => spec_l00Number.j1 k t 1) (fun k => ?_) j
      by_cases h0 : 0 < t.size
      · have hne : (bt t 0 == 45) = false := by rw [beq_eq_false_iff_ne]; exact fun h => hb45 ⟨h0, h⟩
        rw [if_pos (by omega), if_pos (by omega), hne, spec_l00Number.j0]
        simp
      · rw [if_neg (by omega), spec_l00Number.j0]
        simp
    by_cases hc : canon false t.data.toList = true
    · obtain ⟨a1, a2⟩ := atoi_canon hc
      have hlen := (canon_iff.1 hc).2.1
      obtain ⟨o1, o2⟩ := okOf _ a1
      rw [a2, hdig, decide_eq_true (by omega), Bool.true_and, beq_self_eq_true] at o1
      rw [if_pos hc] at sp
      exact ⟨_, by rw [o1]; exact sp, fun _ => by rw [o2]; omega⟩
    · have ho : impl_number.ok t = false := by
        cases h : impl_number.ok t with
        | false => rfl
        | true =>
          exfalso
          obtain ⟨v, _, hd, hi⟩ := okTo h
          apply hc
          by_cases hv : 0 ≤ v
          · obtain ⟨u, rfl⟩ : ∃ u : Nat, v = u := ⟨v.toNat, by omega⟩
            rw [Lib.itoa_nonneg] at hi
            rw [← hi]
            exact canon_dec (by rw [hi]; omega)
          · obtain ⟨u, rfl⟩ : ∃ u : Nat, v = -(u : Int) := ⟨v.natAbs, by omega⟩
            rw [Lib.itoa_neg u (by omega)] at hi
            exact absurd ⟨_, hi.symm⟩ hneg
      rw [if_neg hc] at sp
      exact ⟨_, by rw [ho]; exact sp, fun h => by rw [ho] at h; cases h⟩
theorem number_impl (t : ByteArray) (ht : t.size ≤ 2000000) : impl_number.f t = some (impl_number.val t, impl_number.ok t) := by
  unfold impl_number.f
  rw [if_pos (by omega)]
abbrev Parsed := ByteArray × ByteArray × ByteArray × Int × ByteArray × ByteArray × ByteArray × Bool × Bool × Bool
def usualN (s : ByteArray) : Int := if s.toList = ([104, 116, 116, 112] : List UInt8) then 80 else 443
def noneU : Parsed := ((⟨#[]⟩ : ByteArray), (⟨#[]⟩ : ByteArray), (⟨#[]⟩ : ByteArray), 0, (⟨#[]⟩ : ByteArray), (⟨#[]⟩ : ByteArray), (⟨#[]⟩ : ByteArray), false, false, false)
def endU (sch user host : ByteArray) (p : Int) (path q fr : ByteArray) (hq hf : Bool) : Parsed := (sch, user, host, p, path, q, fr, hq, hf, urlB sch user host p path q fr hq hf (usualN sch))
def lowF (s : ByteArray) : ByteArray := lowAt s s.size
def portB (t : ByteArray) : Bool := impl_number.ok t && inB (impl_number.val t) 1 65535
def portU (sch user host t path q fr : ByteArray) (hq hf : Bool) : Parsed :=
  if portB t = true then (if impl_number.val t = usualN sch then endU sch user host 0 path q fr hq hf else endU sch user host (impl_number.val t) path q fr hq hf) else noneU
def siteU (sch user x path q fr : ByteArray) (hq hf : Bool) : Parsed :=
  if cutH x 58 = true then portU sch user (lowF (cutL x 58)) (cutR x 58) path q fr hq hf else endU sch user (lowF (cutL x 58)) 0 path q fr hq hf
def userU (sch x path q fr : ByteArray) (hq hf : Bool) : Parsed :=
  if cutH x 64 = true then siteU sch (cutL x 64) (cutR x 64) path q fr hq hf else siteU sch (⟨#[]⟩ : ByteArray) x path q fr hq hf
def pathU (sch x q fr : ByteArray) (hq hf : Bool) : Parsed :=
  if cutH x 47 = true then userU sch (cutL x 47) (x.extract (fnd x 47) x.size) q fr hq hf else userU sch x (⟨#[47]⟩ : ByteArray) q fr hq hf
def twoS (s : ByteArray) : Bool := decide (2 ≤ s.size) && ((s.extract 0 2).toList == ([47, 47] : List UInt8))
def webU (sch r : ByteArray) : Parsed :=
  if twoS r = true then pathU sch (cutL (cutL (r.extract 2 r.size) 35) 63) (cutR (cutL (r.extract 2 r.size) 35) 63) (cutR (r.extract 2 r.size) 35) (cutH (cutL (r.extract 2 r.size) 35) 63) (cutH (r.extract 2 r.size) 35) else noneU
def parseU (t : ByteArray) : Parsed :=
  if cutH t 58 = true then (if webB (lowF (cutL t 58)) = true then webU (lowF (cutL t 58)) (cutR t 58) else endU (lowF (cutL t 58)) (⟨#[]⟩ : ByteArray) (⟨#[]⟩ : ByteArray) 0 (cutL (cutL (cutR t 58) 35) 63) (⟨#[]⟩ : ByteArray) (⟨#[]⟩ : ByteArray) false false) else noneU
theorem usual_is (s : ByteArray) : spec_l01Usual.f s = some (usualN s) ∧ impl_usual.f s = some (usualN s) := by
  unfold spec_l01Usual.f impl_usual.f usualN
  by_cases h : s.toList = ([104, 116, 116, 112] : List UInt8)
  · exact ⟨by rw [if_pos h, if_pos h], by rw [if_pos h, if_pos h]⟩
  · exact ⟨by rw [if_neg h, if_neg h], by rw [if_neg h, if_neg h]⟩
theorem end_spec (sch user host path q fr : ByteArray) (p : Int) (hq hf : Bool) (hs : sch.size ≤ 1048576) (hu : user.size ≤ 1048576) (hh : host.size ≤ 1048576) (hp : path.size ≤ 1048576) (hqs : q.size ≤ 1048576) (hfs : fr.size ≤ 1048576) (h0 : -9223372036854775808 ≤ p) (h1 : p ≤ 9223372036854775807) :
    Ev (fun k => (spec_l01OK.f k sch user host p path q fr hq hf).bind fun t => some (sch, user, host, p, path, q, fr, hq, hf, t)) (endU sch user host p path q fr hq hf) :=
  Ev.bind (url_spec sch user host path q fr p hq hf (by omega) (by omega) (by omega) (by omega) (by omega) (by omega) h0 h1 _ (usual_is sch).1) (Ev.now _)
theorem end_impl (sch user host path q fr : ByteArray) (p : Int) (hq hf : Bool) (hs : sch.size ≤ 1048576) (hu : user.size ≤ 1048576) (hh : host.size ≤ 1048576) (hp : path.size ≤ 1048576) (hqs : q.size ≤ 1048576) (hfs : fr.size ≤ 1048576) (h0 : -9223372036854775808 ≤ p) (h1 : p ≤ 9223372036854775807) :
    Ev (fun k => (impl_UrlOK.f k sch user host p path q fr hq hf).bind fun t => some (sch, user, host, p, path, q, fr, hq, hf, t)) (endU sch user host p path q fr hq hf) := by
  have h := url_impl sch user host path q fr p hq hf (by omega) (by omega) (by omega) (by omega) (by omega) (by omega) h0 h1 _ (usual_is sch).2
  rw [← url_eq] at h
  exact Ev.bind h (Ev.now _)
theorem low_size (s : ByteArray) : (lowF s).size = s.size := lowAt_size s _
section
variable (sch user host path q fr : ByteArray) (hq hf : Bool) (hs : sch.size ≤ 1048576) (hu : user.size ≤ 1048576) (hp : path.size ≤ 1048576) (hqs : q.size ≤ 1048576) (hfs : fr.size ≤ 1048576)
include hs hu hp hqs hfs
theorem st5 (hh : host.size ≤ 1048576) (n : Int) (bad : Bool) (hn : bad = false → 1 ≤ n ∧ n ≤ 65535) : Ev (fun k => spec_l01Parse.j5 k n bad sch user host 0 path q fr hq hf) (if bad = true then noneU else if n = usualN sch then endU sch user host 0 path q fr hq hf else endU sch user host n path q fr hq hf) := by
  cases bad with
  | true => exact Ev.step (f := fun _ => some noneU) (fun k => by rw [spec_l01Parse.j5, if_pos rfl]; rfl) (by rw [if_pos rfl]; exact Ev.now _)
  | false =>
    obtain ⟨n1, n2⟩ := hn rfl
    rw [if_neg Bool.false_ne_true]
    by_cases e : n = usualN sch
    · rw [if_pos e]
      refine Ev.step (f := fun k => (spec_l01OK.f k sch user host 0 path q fr hq hf).bind fun t => some (sch, user, host, 0, path, q, fr, hq, hf, t)) (fun k => ?_) (end_spec sch user host path q fr 0 hq hf hs hu hh hp hqs hfs (by omega) (by omega))
      rw [spec_l01Parse.j5, if_neg Bool.false_ne_true, (usual_is sch).1, Option.bind_some, if_pos e]
    · rw [if_neg e]
      refine Ev.step (f := fun k => (spec_l01OK.f k sch user host n path q fr hq hf).bind fun t => some (sch, user, host, n, path, q, fr, hq, hf, t)) (fun k => ?_) (end_spec sch user host path q fr n hq hf hs hu hh hp hqs hfs (by omega) (by omega))
      rw [spec_l01Parse.j5, if_neg Bool.false_ne_true, (usual_is sch).1, Option.bind_some, if_neg e]
theorem st4 (h0 x : ByteArray) (hx : x.size ≤ 1048576) : Ev (fun k => spec_l01Parse.j4 k x sch user h0 0 path q fr hq hf) (siteU sch user x path q fr hq hf) := by
  have hle := fnd_le x 58
  have hw : wrap64 ((fnd x 58 : Int) + 1) = ((fnd x 58 + 1 : Nat) : Int) := by rw [wr (by omega) (by omega)]; rfl
  have hl := cutL_size x 58
  have e1 : x.extract 0 (fnd x 58) = cutL x 58 := rfl
  have f1 : Ev (fun k => spec_l01Find.f k x 58) (fnd x 58 : Int) := find_is x 58 (by omega)
  have p1 : (0 : Int) ≤ (fnd x 58 : Int) := by omega
  have p2 : (fnd x 58 : Int) ≤ (x.size : Int) := by omega
  have lo : Ev (fun k => spec_l01Lower.f k (cutL x 58)) (lowF (cutL x 58)) := lower_spec (cutL x 58) (by omega)
  have ls := low_size (cutL x 58)
  unfold siteU
  refine Ev.step (f := fun k => spec_l01Parse.j4 (k + 1) x sch user h0 0 path q fr hq hf) (fun k => rfl) ?_
  simp only [spec_l01Parse.j4]
  refine Ev.bind f1 ?_
  simp only [if_pos p1, if_pos p2, Int.toNat_natCast, e1, hw]
  refine Ev.bind lo ?_
  by_cases h : fnd x 58 < x.size
  · have hr : x.extract (fnd x 58 + 1) x.size = cutR x 58 := by unfold cutR; rw [if_pos h]
    have hrs := cutR_size x 58
    have p3 : (fnd x 58 : Int) < (x.size : Int) := by omega
    have p4 : (0 : Int) ≤ ((fnd x 58 + 1 : Nat) : Int) := by omega
    have p5 : ((fnd x 58 + 1 : Nat) : Int) ≤ (x.size : Int) := by omega
    obtain ⟨n, n1, n2⟩ := num_same (cutR x 58) (by omega)
    rw [if_pos (show cutH x 58 = true from decide_eq_true h)]
    simp only [if_pos p3, if_pos p4, if_pos p5, hr]
    refine Ev.bind n1 ?_
    unfold portU portB
    cases ho : impl_number.ok (cutR x 58) with
    | false =>
      simp only [Bool.false_eq_true, if_false, Bool.false_and]
      exact st5 sch user (lowF (cutL x 58)) path q fr hq hf hs hu hp hqs hfs (by omega) n true (fun h => by cases h)
    | true =>
      have e := n2 ho
      subst e
      simp only [if_true, Bool.true_and, in_is, Option.bind_some]
      have s5 := st5 sch user (lowF (cutL x 58)) path q fr hq hf hs hu hp hqs hfs (by omega) (impl_number.val (cutR x 58)) (!inB (impl_number.val (cutR x 58)) 1 65535) (fun h => by
        have h' : inB (impl_number.val (cutR x 58)) 1 65535 = true := by simpa using h
        simp [inB] at h'
        exact h')
      cases hi : inB (impl_number.val (cutR x 58)) 1 65535 <;> rw [hi] at s5 <;> simpa using s5
  · have p3 : ¬ (fnd x 58 : Int) < (x.size : Int) := by omega
    rw [if_neg (show ¬ cutH x 58 = true by unfold cutH; rw [decide_eq_false h]; exact Bool.false_ne_true)]
    simp only [if_neg p3]
    exact end_spec sch user (lowF (cutL x 58)) path q fr 0 hq hf hs hu (by omega) hp hqs hfs (by omega) (by omega)
end
section
variable (sch q fr : ByteArray) (hq hf : Bool) (hs : sch.size ≤ 1048576) (hqs : q.size ≤ 1048576) (hfs : fr.size ≤ 1048576)
include hs hqs hfs
theorem st3 (path X : ByteArray) (hp : path.size ≤ 1048576) (hX : X.size ≤ 1048576) (i : Nat) (hi : i ≤ X.size) : Ev (fun k => spec_l01Parse.j3 k (i : Int) X sch (⟨#[]⟩ : ByteArray) (⟨#[]⟩ : ByteArray) 0 path q fr hq hf) (userU sch (X.extract 0 i) path q fr hq hf) := by
  have hx : (X.extract 0 i).size ≤ 1048576 := by rw [ext_size]; omega
  generalize hxx : X.extract 0 i = x at hx
  have hle := fnd_le x 64
  have hw : wrap64 ((fnd x 64 : Int) + 1) = ((fnd x 64 + 1 : Nat) : Int) := by rw [wr (by omega) (by omega)]; rfl
  have hl := cutL_size x 64
  have hrs := cutR_size x 64
  have e1 : x.extract 0 (fnd x 64) = cutL x 64 := rfl
  have f1 : Ev (fun k => spec_l01Find.f k x 64) (fnd x 64 : Int) := find_is x 64 (by omega)
  have p1 : (0 : Int) ≤ (i : Int) := by omega
  have p2 : (i : Int) ≤ (X.size : Int) := by omega
  unfold userU
  refine Ev.step (f := fun k => spec_l01Parse.j3 (k + 1) (i : Int) X sch (⟨#[]⟩ : ByteArray) (⟨#[]⟩ : ByteArray) 0 path q fr hq hf) (fun k => rfl) ?_
  simp only [spec_l01Parse.j3, if_pos p1, if_pos p2, Int.toNat_natCast, hxx]
  refine Ev.bind f1 ?_
  simp only [Int.toNat_natCast, hw, e1]
  by_cases h : fnd x 64 < x.size
  · have hr : x.extract (fnd x 64 + 1) x.size = cutR x 64 := by unfold cutR; rw [if_pos h]
    have p3 : (fnd x 64 : Int) < (x.size : Int) := by omega
    have p4 : (0 : Int) ≤ ((fnd x 64 + 1 : Nat) : Int) := by omega
    have p5 : ((fnd x 64 + 1 : Nat) : Int) ≤ (x.size : Int) := by omega
    have p6 : (0 : Int) ≤ (fnd x 64 : Int) := by omega
    have p7 : (fnd x 64 : Int) ≤ (x.size : Int) := by omega
    rw [if_pos (show cutH x 64 = true from decide_eq_true h)]
    simp only [if_pos p3, if_pos p4, if_pos p5, if_pos p6, if_pos p7, hr]
    exact st4 sch (cutL x 64) path q fr hq hf hs (by omega) hp hqs hfs _ _ (by omega)
  · have p3 : ¬ (fnd x 64 : Int) < (x.size : Int) := by omega
    rw [if_neg (show ¬ cutH x 64 = true by unfold cutH; rw [decide_eq_false h]; exact Bool.false_ne_true)]
    simp only [if_neg p3]
    exact st4 sch (⟨#[]⟩ : ByteArray) path q fr hq hf hs (by rw [c0_size]; omega) hp hqs hfs _ _ hx
theorem st2 (p0 x : ByteArray) (hx : x.size ≤ 1048576) : Ev (fun k => spec_l01Parse.j2 k x sch (⟨#[]⟩ : ByteArray) (⟨#[]⟩ : ByteArray) 0 p0 q fr hq hf) (pathU sch x q fr hq hf) := by
  have hle := fnd_le x 47
  have f1 : Ev (fun k => spec_l01Find.f k x 47) (fnd x 47 : Int) := find_is x 47 (by omega)
  have p1 : (0 : Int) ≤ (fnd x 47 : Int) := by omega
  have p2 : (fnd x 47 : Int) ≤ (x.size : Int) := by omega
  have es : (x.extract (fnd x 47) x.size).size = x.size - fnd x 47 := by rw [ext_size]; omega
  unfold pathU
  refine Ev.step (f := fun k => spec_l01Parse.j2 (k + 1) x sch (⟨#[]⟩ : ByteArray) (⟨#[]⟩ : ByteArray) 0 p0 q fr hq hf) (fun k => rfl) ?_
  simp only [spec_l01Parse.j2]
  refine Ev.bind f1 ?_
  simp only [if_pos p1, if_pos p2, Int.toNat_natCast]
  by_cases h : fnd x 47 < x.size
  · have hne : ¬ (x.extract (fnd x 47) x.size).toList = ([] : List UInt8) := fun c => by have := (emptyB _).1 c; omega
    rw [if_pos (show cutH x 47 = true from decide_eq_true h)]
    simp only [if_neg hne]
    exact st3 sch q fr hq hf hs hqs hfs _ x (by omega) hx (fnd x 47) hle
  · have he : (x.extract (fnd x 47) x.size).toList = ([] : List UInt8) := (emptyB _).2 (by omega)
    rw [if_neg (show ¬ cutH x 47 = true by unfold cutH; rw [decide_eq_false h]; exact Bool.false_ne_true)]
    simp only [if_pos he]
    have s3 := st3 sch q fr hq hf hs hqs hfs (⟨#[47]⟩ : ByteArray) x (by rw [c1_size]; omega) hx (fnd x 47) hle
    have e : x.extract 0 (fnd x 47) = x := cutL_none h
    rw [e] at s3
    exact s3
end
theorem st1 (sch fr x : ByteArray) (hf : Bool) (p0 : ByteArray) (hs : sch.size ≤ 1048576) (hfs : fr.size ≤ 1048576) (hx : x.size ≤ 1048576) : Ev (fun k => spec_l01Parse.j1 k x sch (⟨#[]⟩ : ByteArray) (⟨#[]⟩ : ByteArray) 0 p0 (⟨#[]⟩ : ByteArray) fr false hf) (pathU sch (cutL x 63) (cutR x 63) fr (cutH x 63) hf) := by
  have hle := fnd_le x 63
  have hw : wrap64 ((fnd x 63 : Int) + 1) = ((fnd x 63 + 1 : Nat) : Int) := by rw [wr (by omega) (by omega)]; rfl
  have hl := cutL_size x 63
  have hrs := cutR_size x 63
  have e1 : x.extract 0 (fnd x 63) = cutL x 63 := rfl
  have f1 : Ev (fun k => spec_l01Find.f k x 63) (fnd x 63 : Int) := find_is x 63 (by omega)
  refine Ev.step (f := fun k => spec_l01Parse.j1 (k + 1) x sch (⟨#[]⟩ : ByteArray) (⟨#[]⟩ : ByteArray) 0 p0 (⟨#[]⟩ : ByteArray) fr false hf) (fun k => rfl) ?_
  simp only [spec_l01Parse.j1]
  refine Ev.bind f1 ?_
  simp only [Int.toNat_natCast, hw, e1]
  by_cases h : fnd x 63 < x.size
  · have hr : x.extract (fnd x 63 + 1) x.size = cutR x 63 := by unfold cutR; rw [if_pos h]
    have p3 : (fnd x 63 : Int) < (x.size : Int) := by omega
    have p4 : (0 : Int) ≤ ((fnd x 63 + 1 : Nat) : Int) := by omega
    have p5 : ((fnd x 63 + 1 : Nat) : Int) ≤ (x.size : Int) := by omega
    have p6 : (0 : Int) ≤ (fnd x 63 : Int) := by omega
    have p7 : (fnd x 63 : Int) ≤ (x.size : Int) := by omega
    rw [show cutH x 63 = true from decide_eq_true h]
    simp only [if_pos p3, if_pos p4, if_pos p5, if_pos p6, if_pos p7, hr]
    exact st2 sch (cutR x 63) fr true hf hs (by omega) hfs p0 (cutL x 63) (by omega)
  · have p3 : ¬ (fnd x 63 : Int) < (x.size : Int) := by omega
    have er : cutR x 63 = (⟨#[]⟩ : ByteArray) := by unfold cutR; rw [if_neg h]
    rw [show cutH x 63 = false from decide_eq_false h, er, cutL_none h]
    simp only [if_neg p3]
    exact st2 sch (⟨#[]⟩ : ByteArray) fr false hf hs (by rw [c0_size]; omega) hfs p0 x hx
theorem st0 (sch r : ByteArray) (bad : Bool) (hb : bad = !twoS r) (hs : sch.size ≤ 1048576) (hr : r.size ≤ 1048576) : Ev (fun k => spec_l01Parse.j0 k r bad sch (⟨#[]⟩ : ByteArray) (⟨#[]⟩ : ByteArray) 0 (⟨#[]⟩ : ByteArray) (⟨#[]⟩ : ByteArray) (⟨#[]⟩ : ByteArray) false false) (webU sch r) := by
  unfold webU
  refine Ev.step (f := fun k => spec_l01Parse.j0 (k + 1) r bad sch (⟨#[]⟩ : ByteArray) (⟨#[]⟩ : ByteArray) 0 (⟨#[]⟩ : ByteArray) (⟨#[]⟩ : ByteArray) (⟨#[]⟩ : ByteArray) false false) (fun k => rfl) ?_
  simp only [spec_l01Parse.j0]
  cases ht : twoS r with
  | false =>
    rw [ht] at hb
    subst hb
    simp only [Bool.not_false, if_true, Bool.false_eq_true, if_false]
    exact Ev.now _
  | true =>
    rw [ht] at hb
    subst hb
    have h2 : 2 ≤ r.size := by unfold twoS at ht; rw [Bool.and_eq_true, decide_eq_true_eq] at ht; exact ht.1
    have p2 : (2 : Int) ≤ (r.size : Int) := by omega
    simp only [Bool.not_true, Bool.false_eq_true, if_false, if_true, if_pos p2]
    have hx : (r.extract 2 r.size).size ≤ 1048576 := by rw [ext_size]; omega
    generalize r.extract 2 r.size = x at hx
    have hle := fnd_le x 35
    have hw : wrap64 ((fnd x 35 : Int) + 1) = ((fnd x 35 + 1 : Nat) : Int) := by rw [wr (by omega) (by omega)]; rfl
    have hl := cutL_size x 35
    have hrs := cutR_size x 35
    have e1 : x.extract 0 (fnd x 35) = cutL x 35 := rfl
    have f1 : Ev (fun k => spec_l01Find.f k x 35) (fnd x 35 : Int) := find_is x 35 (by omega)
    refine Ev.bind f1 ?_
    simp only [Int.toNat_natCast, hw, e1]
    by_cases h : fnd x 35 < x.size
    · have hr' : x.extract (fnd x 35 + 1) x.size = cutR x 35 := by unfold cutR; rw [if_pos h]
      have p3 : (fnd x 35 : Int) < (x.size : Int) := by omega
      have p4 : (0 : Int) ≤ ((fnd x 35 + 1 : Nat) : Int) := by omega
      have p5 : ((fnd x 35 + 1 : Nat) : Int) ≤ (x.size : Int) := by omega
      have p6 : (0 : Int) ≤ (fnd x 35 : Int) := by omega
      have p7 : (fnd x 35 : Int) ≤ (x.size : Int) := by omega
      rw [show cutH x 35 = true from decide_eq_true h]
      simp only [if_pos p3, if_pos p4, if_pos p5, if_pos p6, if_pos p7, hr']
      exact st1 sch (cutR x 35) (cutL x 35) true _ hs (by omega) (by omega)
    · have p3 : ¬ (fnd x 35 : Int) < (x.size : Int) := by omega
      have er : cutR x 35 = (⟨#[]⟩ : ByteArray) := by unfold cutR; rw [if_neg h]
      rw [show cutH x 35 = false from decide_eq_false h, er, cutL_none h]
      simp only [if_neg p3]
      exact st1 sch (⟨#[]⟩ : ByteArray) x false _ hs (by rw [c0_size]; omega) hx
theorem parse_spec (t : ByteArray) (ht : t.size ≤ 1048576) : Ev (fun k => spec_l01Parse.f k t) (parseU t) := by
  have hle := fnd_le t 58
  have hw : wrap64 ((fnd t 58 : Int) + 1) = ((fnd t 58 + 1 : Nat) : Int) := by rw [wr (by omega) (by omega)]; rfl
  have hl := cutL_size t 58
  have hrs := cutR_size t 58
  have e1 : t.extract 0 (fnd t 58) = cutL t 58 := rfl
  have f1 : Ev (fun k => spec_l01Find.f k t 58) (fnd t 58 : Int) := find_is t 58 (by omega)
  unfold spec_l01Parse.f parseU
  refine Ev.bind f1 ?_
  simp only [Int.toNat_natCast, hw, e1]
  by_cases h : fnd t 58 < t.size
  · have hr : t.extract (fnd t 58 + 1) t.size = cutR t 58 := by unfold cutR; rw [if_pos h]
    have p3 : ¬ (fnd t 58 : Int) = (t.size : Int) := by omega
    have p4 : (0 : Int) ≤ ((fnd t 58 + 1 : Nat) : Int) := by omega
    have p5 : ((fnd t 58 + 1 : Nat) : Int) ≤ (t.size : Int) := by omega
    have p6 : (0 : Int) ≤ (fnd t 58 : Int) := by omega
    have p7 : (fnd t 58 : Int) ≤ (t.size : Int) := by omega
    rw [show cutH t 58 = true from decide_eq_true h]
    simp only [if_neg p3, if_pos p4, if_pos p5, if_pos p6, if_pos p7, hr, if_true]
    have lo : Ev (fun k => spec_l01Lower.f k (cutL t 58)) (lowF (cutL t 58)) := lower_spec (cutL t 58) (by omega)
    have ls := low_size (cutL t 58)
    refine Ev.bind lo ?_
    generalize lowF (cutL t 58) = sch at ls
    have hR : (cutR t 58).size ≤ 1048576 := by omega
    generalize cutR t 58 = r at hR
    simp only [web_spec, Option.bind_some]
    by_cases w : webB sch = true
    · simp only [if_pos w]
      by_cases h2 : (r.size : Int) < 2
      · simp only [if_pos h2]
        exact st0 sch r true (by unfold twoS; rw [decide_eq_false (by omega)]; rfl) (by omega) (by omega)
      · have q1 : (0 : Int) ≤ 2 := by omega
        have q2 : (2 : Int) ≤ (r.size : Int) := by omega
        simp only [if_neg h2, if_pos q1, if_pos q2]
        exact st0 sch r _ (by unfold twoS; rw [decide_eq_true (by omega), Bool.true_and]; rfl) (by omega) (by omega)
    · simp only [if_neg w]
      have hl1 := fnd_le r 35
      have f2 : Ev (fun k => spec_l01Find.f k r 35) (fnd r 35 : Int) := find_is r 35 (by omega)
      have a1 : (0 : Int) ≤ (fnd r 35 : Int) := by omega
      have a2 : (fnd r 35 : Int) ≤ (r.size : Int) := by omega
      have b1 : r.extract 0 (fnd r 35) = cutL r 35 := rfl
      refine Ev.bind f2 ?_
      simp only [Int.toNat_natCast, if_pos a1, if_pos a2, b1]
      have hx := cutL_size r 35
      generalize cutL r 35 = x at hx
      have hl2 := fnd_le x 63
      have f3 : Ev (fun k => spec_l01Find.f k x 63) (fnd x 63 : Int) := find_is x 63 (by omega)
      have c1 : (0 : Int) ≤ (fnd x 63 : Int) := by omega
      have c2 : (fnd x 63 : Int) ≤ (x.size : Int) := by omega
      have d1 : x.extract 0 (fnd x 63) = cutL x 63 := rfl
      have hy := cutL_size x 63
      refine Ev.bind f3 ?_
      simp only [Int.toNat_natCast, if_pos c1, if_pos c2, d1]
      exact end_spec sch (⟨#[]⟩ : ByteArray) (⟨#[]⟩ : ByteArray) (cutL x 63) (⟨#[]⟩ : ByteArray) (⟨#[]⟩ : ByteArray) 0 false false (by omega) (by rw [c0_size]; omega) (by rw [c0_size]; omega) (by omega) (by rw [c0_size]; omega) (by rw [c0_size]; omega) (by omega) (by omega)
  · have p3 : (fnd t 58 : Int) = (t.size : Int) := by omega
    rw [show cutH t 58 = false from decide_eq_false h]
    simp only [if_pos p3, Bool.false_eq_true, if_false]
    exact Ev.now _
section
variable (sch user path q fr : ByteArray) (hq hf : Bool) (hs : sch.size ≤ 1048576) (hu : user.size ≤ 1048576) (hp : path.size ≤ 1048576) (hqs : q.size ≤ 1048576) (hfs : fr.size ≤ 1048576)
include hs hu hp hqs hfs
theorem im2 (h0 host : ByteArray) (hh : host.size ≤ 1048576) (n : Int) (bad : Bool) (hn : bad = false → 1 ≤ n ∧ n ≤ 65535) : Ev (fun k => impl_parse.j2 k host n bad sch user h0 0 path q fr hq hf) (if bad = true then noneU else if n = usualN sch then endU sch user (lowF host) 0 path q fr hq hf else endU sch user (lowF host) n path q fr hq hf) := by
  have lo : impl_lower.f host = some (lowF host) := lower_impl host (by omega)
  have ls := low_size host
  cases bad with
  | true => exact Ev.step (f := fun _ => some noneU) (fun k => by rw [impl_parse.j2, if_pos rfl]; rfl) (by rw [if_pos rfl]; exact Ev.now _)
  | false =>
    obtain ⟨n1, n2⟩ := hn rfl
    rw [if_neg Bool.false_ne_true]
    by_cases e : n = usualN sch
    · rw [if_pos e]
      refine Ev.step (f := fun k => (impl_UrlOK.f k sch user (lowF host) 0 path q fr hq hf).bind fun t => some (sch, user, lowF host, 0, path, q, fr, hq, hf, t)) (fun k => ?_) (end_impl sch user (lowF host) path q fr 0 hq hf hs hu (by omega) hp hqs hfs (by omega) (by omega))
      rw [impl_parse.j2, if_neg Bool.false_ne_true, (usual_is sch).2, Option.bind_some, if_pos e, lo, Option.bind_some]
    · rw [if_neg e]
      refine Ev.step (f := fun k => (impl_UrlOK.f k sch user (lowF host) n path q fr hq hf).bind fun t => some (sch, user, lowF host, n, path, q, fr, hq, hf, t)) (fun k => ?_) (end_impl sch user (lowF host) path q fr n hq hf hs hu (by omega) hp hqs hfs (by omega) (by omega))
      rw [impl_parse.j2, if_neg Bool.false_ne_true, (usual_is sch).2, Option.bind_some, if_neg e, lo, Option.bind_some]
theorem im1 (h0 x : ByteArray) (hx : x.size ≤ 1048576) : Ev (fun k => impl_parse.j1 k x sch user h0 0 path q fr hq hf) (siteU sch user x path q fr hq hf) := by
  have hl := cutL_size x 58
  have hrs := cutR_size x 58
  have lo : impl_lower.f (cutL x 58) = some (lowF (cutL x 58)) := lower_impl (cutL x 58) (by omega)
  have ls := low_size (cutL x 58)
  unfold siteU
  refine Ev.step (f := fun k => impl_parse.j1 (k + 1) x sch user h0 0 path q fr hq hf) (fun k => rfl) ?_
  simp only [impl_parse.j1, cut_is x 58 (by omega), Option.bind_some]
  cases hc : cutH x 58 with
  | true =>
    simp only [if_true, number_impl (cutR x 58) (by omega), Option.bind_some]
    unfold portU portB
    cases ho : impl_number.ok (cutR x 58) with
    | false =>
      simp only [Bool.false_eq_true, if_false, Bool.false_and]
      exact im2 sch user path q fr hq hf hs hu hp hqs hfs _ (cutL x 58) (by omega) _ true (fun h => by cases h)
    | true =>
      simp only [if_true, Bool.true_and, within_is, Option.bind_some]
      have s5 := im2 sch user path q fr hq hf hs hu hp hqs hfs h0 (cutL x 58) (by omega) (impl_number.val (cutR x 58)) (!inB (impl_number.val (cutR x 58)) 1 65535) (fun h => by
        have h' : inB (impl_number.val (cutR x 58)) 1 65535 = true := by simpa using h
        simp [inB] at h'
        exact h')
      cases hi : inB (impl_number.val (cutR x 58)) 1 65535 <;> rw [hi] at s5 <;> simpa using s5
  | false =>
    simp only [Bool.false_eq_true, if_false, lo, Option.bind_some]
    exact end_impl sch user (lowF (cutL x 58)) path q fr 0 hq hf hs hu (by omega) hp hqs hfs (by omega) (by omega)
end
theorem im0 (sch x path q fr : ByteArray) (hq hf : Bool) (hs : sch.size ≤ 1048576) (hx : x.size ≤ 1048576) (hp : path.size ≤ 1048576) (hqs : q.size ≤ 1048576) (hfs : fr.size ≤ 1048576) : Ev (fun k => impl_parse.j0 k x sch (⟨#[]⟩ : ByteArray) (⟨#[]⟩ : ByteArray) 0 path q fr hq hf) (userU sch x path q fr hq hf) := by
  have hl := cutL_size x 64
  have hrs := cutR_size x 64
  unfold userU
  refine Ev.step (f := fun k => impl_parse.j0 (k + 1) x sch (⟨#[]⟩ : ByteArray) (⟨#[]⟩ : ByteArray) 0 path q fr hq hf) (fun k => rfl) ?_
  simp only [impl_parse.j0, cut_is x 64 (by omega), Option.bind_some]
  cases hc : cutH x 64 with
  | true =>
    simp only [if_true]
    exact im1 sch (cutL x 64) path q fr hq hf hs (by omega) hp hqs hfs _ (cutR x 64) (by omega)
  | false =>
    simp only [Bool.false_eq_true, if_false]
    exact im1 sch (⟨#[]⟩ : ByteArray) path q fr hq hf hs (by rw [c0_size]; omega) hp hqs hfs _ x hx
theorem prefix2 (r : ByteArray) (hr : r.size ≤ 2000000) : strings_CutPrefix.f r (⟨#[47, 47]⟩ : ByteArray) = some (if twoS r = true then (r.extract 2 r.size, true) else (r, false)) := by
  have c2 : (⟨#[47, 47]⟩ : ByteArray).size = 2 := rfl
  have e2 : (⟨#[47, 47]⟩ : ByteArray).toList = [47, 47] := by rw [toList_data]
  unfold strings_CutPrefix.f stringslite_CutPrefix.f stringslite_HasPrefix.f
  rw [c2]
  by_cases h : 2 ≤ r.size
  · have et : twoS r = ((r.extract 0 2).toList == ([47, 47] : List UInt8)) := by unfold twoS; rw [decide_eq_true h, Bool.true_and]
    have q1 : (0 : Int) ≤ ((2 : Nat) : Int) := by omega
    have q2 : ((2 : Nat) : Int) ≤ (r.size : Int) := by omega
    have q3 : (r.size : Int) ≥ ((2 : Nat) : Int) := by omega
    have q4 : ((2 : Nat) : Int).toNat = 2 := rfl
    rw [et]
    simp only [if_pos q1, if_pos q2, if_pos q3, q4, e2, Option.bind_some]
    cases ((r.extract 0 2).toList == ([47, 47] : List UInt8)) <;> simp
  · have et : twoS r = false := by unfold twoS; rw [decide_eq_false h, Bool.false_and]
    have q3 : ¬ (r.size : Int) ≥ ((2 : Nat) : Int) := by omega
    rw [et]
    simp only [if_neg q3, Option.bind_some, Bool.false_eq_true, if_false]
theorem parse_impl (t : ByteArray) (ht : t.size ≤ 1048576) : Ev (fun k => impl_parse.f k t) (parseU t) := by
  have hl := cutL_size t 58
  have hrs := cutR_size t 58
  have lo : impl_lower.f (cutL t 58) = some (lowF (cutL t 58)) := lower_impl (cutL t 58) (by omega)
  have ls := low_size (cutL t 58)
  unfold impl_parse.f parseU
  simp only [cut_is t 58 (by omega), Option.bind_some, lo]
  generalize lowF (cutL t 58) = sch at ls
  generalize cutR t 58 = r at hrs
  cases cutH t 58 with
  | false =>
    simp only [Bool.false_eq_true, if_false]
    exact Ev.now _
  | true =>
    simp only [if_true, web_impl, Option.bind_some]
    by_cases w : webB sch = true
    · simp only [if_pos w, prefix2 r (by omega), Option.bind_some]
      unfold webU
      cases twoS r with
      | false =>
        simp only [Bool.false_eq_true, if_false]
        exact Ev.now _
      | true =>
        have hx : (r.extract 2 r.size).size ≤ 1048576 := by rw [ext_size]; omega
        simp only [if_true]
        generalize r.extract 2 r.size = x at hx
        have h1 := cutL_size x 35
        have h2 := cutR_size x 35
        simp only [cut_is x 35 (by omega), Option.bind_some]
        generalize cutR x 35 = fr at h2
        generalize cutL x 35 = y at h1
        have h3 := cutL_size y 63
        have h4 := cutR_size y 63
        simp only [cut_is y 63 (by omega), Option.bind_some]
        generalize cutR y 63 = q at h4
        generalize cutL y 63 = z at h3
        have hle := fnd_le z 47
        have hzl := cutL_size z 47
        simp only [indexByte_is z 47 47 rfl, Option.bind_some]
        unfold pathU
        by_cases h : fnd z 47 < z.size
        · have a1 : ((fnd z 47 : Nat) : Int) ≥ 0 := by omega
          have a2 : (0 : Int) ≤ ((fnd z 47 : Nat) : Int) := by omega
          have a3 : ((fnd z 47 : Nat) : Int) ≤ (z.size : Int) := by omega
          have e1 : z.extract 0 (fnd z 47) = cutL z 47 := rfl
          rw [if_pos (show cutH z 47 = true from decide_eq_true h)]
          simp only [if_pos h, if_pos a1, if_pos a2, if_pos a3, Int.toNat_natCast, e1]
          exact im0 sch (cutL z 47) _ q fr _ _ (by omega) (by omega) (by rw [ext_size]; omega) (by omega) (by omega)
        · have a1 : ¬ ((-1 : Int) ≥ 0) := by omega
          rw [if_neg (show ¬ cutH z 47 = true by unfold cutH; rw [decide_eq_false h]; exact Bool.false_ne_true)]
          simp only [if_neg h, if_neg a1]
          exact im0 sch z (⟨#[47]⟩ : ByteArray) q fr _ _ (by omega) (by omega) (by rw [c1_size]; omega) (by omega) (by omega)
    · simp only [if_neg w]
      have h1 := cutL_size r 35
      simp only [cut_is r 35 (by omega), Option.bind_some]
      generalize cutL r 35 = y at h1
      have h3 := cutL_size y 63
      simp only [cut_is y 63 (by omega), Option.bind_some]
      exact end_impl sch (⟨#[]⟩ : ByteArray) (⟨#[]⟩ : ByteArray) (cutL y 63) (⟨#[]⟩ : ByteArray) (⟨#[]⟩ : ByteArray) 0 false false (by omega) (by rw [c0_size]; omega) (by rw [c0_size]; omega) (by omega) (by rw [c0_size]; omega) (by rw [c0_size]; omega) (by omega) (by omega)
def Bounded (r : Parsed) : Prop := r = noneU ∨ ∃ sch user host p path q fr hq hf, r = endU sch user host p path q fr hq hf ∧ sch.size ≤ 1048576 ∧ user.size ≤ 1048576 ∧ host.size ≤ 1048576 ∧ path.size ≤ 1048576 ∧ q.size ≤ 1048576 ∧ fr.size ≤ 1048576 ∧ 0 ≤ p ∧ p ≤ 65535
theorem bd_site {sch user x path q fr : ByteArray} {hq hf : Bool} (hs : sch.size ≤ 1048576) (hu : user.size ≤ 1048576) (hx : x.size ≤ 1048576) (hp : path.size ≤ 1048576) (hqs : q.size ≤ 1048576) (hfs : fr.size ≤ 1048576) : Bounded (siteU sch user x path q fr hq hf) := by
  have hl := cutL_size x 58
  have ls := low_size (cutL x 58)
  unfold siteU
  split
  · unfold portU
    split
    · rename_i hb
      unfold portB at hb
      rw [Bool.and_eq_true] at hb
      have hi := hb.2
      simp [inB] at hi
      split
      · exact .inr ⟨_, _, _, _, _, _, _, _, _, rfl, hs, hu, by omega, hp, hqs, hfs, by omega, by omega⟩
      · exact .inr ⟨_, _, _, _, _, _, _, _, _, rfl, hs, hu, by omega, hp, hqs, hfs, by omega, by omega⟩
    · exact .inl rfl
  · exact .inr ⟨_, _, _, _, _, _, _, _, _, rfl, hs, hu, by omega, hp, hqs, hfs, by omega, by omega⟩
theorem bd_user {sch x path q fr : ByteArray} {hq hf : Bool} (hs : sch.size ≤ 1048576) (hx : x.size ≤ 1048576) (hp : path.size ≤ 1048576) (hqs : q.size ≤ 1048576) (hfs : fr.size ≤ 1048576) : Bounded (userU sch x path q fr hq hf) := by
  have hl := cutL_size x 64
  have hr := cutR_size x 64
  unfold userU
  split
  · exact bd_site hs (by omega) (by omega) hp hqs hfs
  · exact bd_site hs (by rw [c0_size]; omega) hx hp hqs hfs
theorem parse_end (t : ByteArray) (ht : t.size ≤ 1048576) : Bounded (parseU t) := by
  have hl := cutL_size t 58
  have hr := cutR_size t 58
  have ls := low_size (cutL t 58)
  unfold parseU
  split
  · split
    · unfold webU
      split
      · have h0 : ((cutR t 58).extract 2 (cutR t 58).size).size ≤ 1048576 := by rw [ext_size]; omega
        generalize (cutR t 58).extract 2 (cutR t 58).size = x at h0
        have h1 := cutL_size x 35
        have h2 := cutR_size x 35
        generalize cutR x 35 = fr at h2
        generalize cutL x 35 = y at h1
        have h3 := cutL_size y 63
        have h4 := cutR_size y 63
        generalize cutR y 63 = q at h4
        generalize cutL y 63 = z at h3
        have h5 := cutL_size z 47
        unfold pathU
        split
        · exact bd_user (by omega) (by omega) (by rw [ext_size]; omega) (by omega) (by omega)
        · exact bd_user (by omega) (by omega) (by rw [c1_size]; omega) (by omega) (by omega)
      · exact .inl rfl
    · have h1 := cutL_size (cutR t 58) 35
      have h2 := cutL_size (cutL (cutR t 58) 35) 63
      exact .inr ⟨_, _, _, _, _, _, _, _, _, rfl, by omega, by rw [c0_size]; omega, by rw [c0_size]; omega, by omega, by rw [c0_size]; omega, by rw [c0_size]; omega, by omega, by omega⟩
  · exact .inl rfl
theorem app_l (a b : ByteArray) : (a ++ b).data.toList = a.data.toList ++ b.data.toList := by
  rw [ByteArray.data_append, Array.toList_append]
theorem long_is (t : ByteArray) : impl_long.f t = some (if (t.size : Int) ≤ 65536 then 0 else 2) := by
  unfold impl_long.f impl_unless.f
  by_cases h : (t.size : Int) ≤ 65536
  · rw [decide_eq_true h, if_pos rfl, if_pos h]; rfl
  · rw [decide_eq_false h, if_neg Bool.false_ne_true, if_neg h]; rfl
theorem only_not {l W : List UInt8} (h : onlyB l W = true) {c : UInt8} (hc : c ∈ W) : c ∉ l := by
  intro hh
  unfold onlyB at h
  have h1 := List.all_eq_true.1 h c hh
  rw [Bool.and_eq_true] at h1
  have h2 := h1.2
  rw [show W.contains c = true from List.contains_iff_mem.2 hc] at h2
  cases h2
theorem host_no35 : ∀ (l : List UInt8) (last : Bool), hostB last l = true → (35 : UInt8) ∉ l
  | [], _, _ => fun hb => by cases hb
  | c :: l, last, h => by
    have hc : c ≠ 35 ∧ (∃ x, hostB x l = true) := by
      rw [hostB] at h
      by_cases a : lowB c = true ∨ digB c = true
      · rw [if_pos a] at h
        refine ⟨?_, _, h⟩
        rintro rfl
        rcases a with a | a <;> simp [lowB, digB] at a
      · rw [if_neg a] at h
        by_cases hl : last = true
        · rw [if_pos hl] at h; cases h
        · rw [if_neg hl] at h
          by_cases sp : sepB c = true
          · rw [if_pos sp] at h
            refine ⟨?_, _, h⟩
            rintro rfl
            simp [sepB] at sp
          · rw [if_neg sp] at h; cases h
    obtain ⟨h1, x, h2⟩ := hc
    intro hb
    rcases List.mem_cons.1 hb with hb | hb
    · exact h1 hb.symm
    · exact host_no35 l x h2 hb
theorem port_no35 (p : Int) (h0 : 0 ≤ p) : (35 : UInt8) ∉ (portS p).data.toList := by
  obtain ⟨u, rfl⟩ : ∃ u : Nat, p = (u : Int) := ⟨p.toNat, by omega⟩
  have hl : (itoaB (u : Int)).data.toList = Lib.decDigits u := by
    unfold itoaB
    show Lib.itoa (u : Int) = _
    rw [Lib.itoa_nonneg]
  intro h
  unfold portS at h
  split at h
  · rw [app_l, hl] at h
    rcases List.mem_append.1 h with h | h
    · exact absurd (List.mem_singleton.1 h) (by decide)
    · have := isDig_iff.1 (List.all_eq_true.1 (dec_digits u).1 _ h)
      exact absurd this (by decide)
  · cases h
theorem text_no35 {sch user host path q fr : ByteArray} {p : Int} {hq hf : Bool} (w : webB sch = true) (h0 : 0 ≤ p) (hv : urlB sch user host p path q fr hq hf (usualN sch) = true) :
    (35 : UInt8) ∉ (urlT sch user host (portS p) path q (⟨#[]⟩ : ByteArray) hq false).data.toList := by
  unfold urlB at hv
  simp only [Bool.and_eq_true, Bool.or_eq_true, decide_eq_true_eq, if_pos w] at hv
  obtain ⟨_, _, _, hpo, hqo, _, _, huo, hho, _⟩ := hv
  have hs : (35 : UInt8) ∉ sch.data.toList := by
    have hw : sch.data.toList = ([104, 116, 116, 112] : List UInt8) ∨ sch.data.toList = ([104, 116, 116, 112, 115] : List UInt8) := by
      unfold webB at w
      rw [toList_data] at w
      simpa using w
    rcases hw with h | h <;> rw [h] <;> decide
  have hx : (35 : UInt8) ∉ (headB sch user ++ (host ++ portS p ++ path)).data.toList := by
    intro h
    rw [app_l, app_l, app_l, List.mem_append, List.mem_append, List.mem_append] at h
    rcases h with h | (h | h) | h
    · unfold headB at h
      split at h
      · rw [app_l, List.mem_append] at h
        rcases h with h | h
        · exact hs h
        · exact absurd h (by decide)
      · rw [app_l, app_l, app_l, List.mem_append, List.mem_append, List.mem_append] at h
        rcases h with (h | h) | h | h
        · exact hs h
        · exact absurd h (by decide)
        · exact only_not huo (by simp) h
        · exact absurd h (by decide)
    · exact host_no35 _ _ hho h
    · exact port_no35 p h0 h
    · exact only_not hpo (by simp) h
  unfold urlT tailB
  rw [if_pos w, if_neg Bool.false_ne_true, if_neg Bool.false_ne_true]
  split
  · intro h
    rw [app_l] at h
    rcases List.mem_append.1 h with h | h
    · exact hx h
    · rw [app_l] at h
      rcases List.mem_append.1 h with h | h
      · exact absurd h (by decide)
      · exact only_not hqo (by simp) h
  · exact hx
theorem cut_has {x : ByteArray} {c : UInt8} (h : cutH x c = true) : c ∈ x.data.toList := by
  unfold cutH fnd at h
  have h1 := of_decide_eq_true h
  rw [size_len] at h1
  obtain ⟨y, hy, e⟩ := List.findIdx_lt_length.1 h1
  exact (beq_iff_eq.1 e) ▸ hy
theorem ext_mem {x : ByteArray} {i j : Nat} {c : UInt8} (h : c ∈ (x.extract i j).data.toList) : c ∈ x.data.toList := by
  rw [ByteArray.data_extract, Array.toList_extract, List.extract_eq_take_drop] at h
  exact List.mem_of_mem_drop (List.mem_of_mem_take h)
theorem hf_end {sch user host path q fr : ByteArray} {p : Int} {hq hf : Bool} (h : (endU sch user host p path q fr hq hf).2.2.2.2.2.2.2.2.1 = true) : hf = true := h
theorem hf_site {sch user x path q fr : ByteArray} {hq hf : Bool} (h : (siteU sch user x path q fr hq hf).2.2.2.2.2.2.2.2.1 = true) : hf = true := by
  unfold siteU portU at h
  split at h
  · split at h
    · split at h <;> exact hf_end h
    · cases h
  · exact hf_end h
theorem hf_path {sch x q fr : ByteArray} {hq hf : Bool} (h : (pathU sch x q fr hq hf).2.2.2.2.2.2.2.2.1 = true) : hf = true := by
  unfold pathU userU at h
  split at h <;> split at h <;> exact hf_site h
theorem parse_hf {t : ByteArray} (h : (parseU t).2.2.2.2.2.2.2.2.1 = true) : (35 : UInt8) ∈ t.data.toList := by
  unfold parseU at h
  split at h
  · split at h
    · unfold webU at h
      split at h
      · have h1 := ext_mem (cut_has (hf_path h))
        unfold cutR at h1
        split at h1
        · exact ext_mem h1
        · cases h1
      · cases h
    · cases hf_end h
  · cases h
theorem parse_four (t : ByteArray) (ht : t.size ≤ 1048576) : (∃ x : Parsed, x.2.2.2.2.2.2.2.2.2 = false ∧ Ev (fun k => spec_l01Parse.f k t) x ∧ Ev (fun k => impl_parse.f k t) x) ∨
    ∃ sch user host p path q fr hq hf, sch.size ≤ 1048576 ∧ user.size ≤ 1048576 ∧ host.size ≤ 1048576 ∧ path.size ≤ 1048576 ∧ q.size ≤ 1048576 ∧ fr.size ≤ 1048576 ∧ 0 ≤ p ∧ p ≤ 65535 ∧ urlB sch user host p path q fr hq hf (usualN sch) = true ∧
      (hf = true → (35 : UInt8) ∈ t.data.toList) ∧ Ev (fun k => spec_l01Parse.f k t) (sch, user, host, p, path, q, fr, hq, hf, true) ∧ Ev (fun k => impl_parse.f k t) (sch, user, host, p, path, q, fr, hq, hf, true) := by
  have a := parse_spec t (by omega)
  have b := parse_impl t (by omega)
  have bd := parse_end t (by omega)
  have hh := @parse_hf t
  generalize parseU t = u at a b bd hh
  rcases bd with rfl | ⟨sch, user, host, p, path, q, fr, hq, hf, rfl, s1, s2, s3, s4, s5, s6, p0, p1⟩
  · exact .inl ⟨_, rfl, a, b⟩
  · cases ho : urlB sch user host p path q fr hq hf (usualN sch) with
    | false => exact .inl ⟨_, ho, a, b⟩
    | true =>
      unfold endU at a b
      rw [ho] at a b
      exact .inr ⟨sch, user, host, p, path, q, fr, hq, hf, s1, s2, s3, s4, s5, s6, p0, p1, ho, hh, a, b⟩
theorem tgt_both (t : ByteArray) (x y : Int) (ht : t.size ≤ 1048576) : ∃ b, Ev (fun k => spec_l03Target.f k t x y) b ∧ Ev (fun k => impl_targetOK.f k t x y) b := by
  unfold spec_l03Target.f impl_targetOK.f impl_clean.f impl_ParseUrl.f
  rw [long_is]
  simp only [Option.bind_some, in_is, within_is]
  have no : ∀ z : ByteArray × ByteArray × ByteArray × Int × ByteArray × ByteArray × ByteArray × Bool × Bool × Bool, z.2.2.2.2.2.2.2.2.2 = false → True := fun _ _ => trivial
  have h2 : ¬ ((2 : Int) = 0) := by omega
  have h3 : ¬ ((3 : Int) = 0) := by omega
  rcases parse_four t ht with ⟨z, hz, a, b⟩ | ⟨sch, user, host, p, path, q, fr, hq, hf, s1, s2, s3, s4, s5, s6, p0, p1, ho, h35, a, b⟩
  · obtain ⟨u1, u2, u3, u4, u5, u6, u7, u8, u9, u10⟩ := z
    have hz' : u10 = false := hz
    subst hz'
    refine ⟨false, Ev.bind a (by simp only [Bool.false_eq_true, if_false]; exact Ev.now _), ?_⟩
    by_cases hs : (t.size : Int) ≤ 65536
    · simp only [if_pos hs, if_true]
      refine Ev.bind (a := ((⟨#[]⟩ : ByteArray), false)) (Ev.bind (Ev.bind b (by simp only [Bool.false_eq_true, if_false]; exact Ev.now _)) ?_) (by simp only [Bool.false_eq_true, if_false]; exact Ev.now _)
      simp only [if_neg h3]; exact Ev.now _
    · simp only [if_neg hs, if_neg h2, Option.bind_some, Bool.false_eq_true, if_false]
      exact Ev.now _
  · by_cases w : webB sch = true
    · have t1 := text_spec sch user host path q fr p hq hf (by omega) (by omega) (by omega) (by omega) (by omega) (by omega) (by omega) (by omega)
      have t2 := text_impl sch user host path q (⟨#[]⟩ : ByteArray) p hq false (by omega) (by omega) (by omega) (by omega) (by omega) (by rw [c0_size]; omega) (by omega) (by omega)
      rw [urlT_ports (fun _ => p0)] at t2
      have n35 := text_no35 w p0 ho
      -- the program's answer: the text without the fragment is the one that came in
      have sz : hf = false → (urlT sch user host (portS p) path q fr hq false).size ≤ 100 := by
        intro e
        have ho' := ho
        unfold urlB at ho'
        simp only [Bool.and_eq_true, Bool.or_eq_true, decide_eq_true_eq] at ho'
        rw [← e]
        exact ho'.2.2.2.2.2.2.1
      have ef : ∀ g : ByteArray, urlT sch user host (portS p) path q g hq false = urlT sch user host (portS p) path q (⟨#[]⟩ : ByteArray) hq false := by
        intro g; unfold urlT tailB; simp only [Bool.false_eq_true, if_false]
      refine ⟨(decide ((urlT sch user host (portS p) path q (⟨#[]⟩ : ByteArray) hq false).toList = t.toList) && (inB x 1 9 && inB y 1 9)), Ev.bind a ?_, ?_⟩
      · simp only [if_true, web_spec, Option.bind_some, if_pos w]
        cases hf with
        | true =>
          have e : decide ((urlT sch user host (portS p) path q (⟨#[]⟩ : ByteArray) hq false).toList = t.toList) = false := decide_eq_false (fun e => by
            rw [toList_data, toList_data] at e
            exact n35 (by rw [e]; exact h35 rfl))
          simp only [if_true, e, Bool.false_and]; exact Ev.now _
        | false =>
          simp only [Bool.false_eq_true, if_false]
          rw [ef fr] at t1
          refine Ev.bind t1 ?_
          by_cases e : (urlT sch user host (portS p) path q (⟨#[]⟩ : ByteArray) hq false).toList = t.toList
          · simp only [if_pos e, decide_eq_true e, Bool.true_and]
            cases inB x 1 9 <;> simp <;> exact Ev.now _
          · simp only [if_neg e, decide_eq_false e, Bool.false_and]; exact Ev.now _
      · by_cases hs : (t.size : Int) ≤ 65536
        · simp only [if_pos hs, if_true]
          refine Ev.bind (a := (urlT sch user host (portS p) path q (⟨#[]⟩ : ByteArray) hq false, true)) (Ev.bind (Ev.bind b (by simp only [if_true]; exact Ev.now _)) ?_) ?_
          · simp only [if_true, web_impl, Option.bind_some, if_pos w]
            exact Ev.bind t2 (Ev.now _)
          · simp only [if_true]
            by_cases e : (urlT sch user host (portS p) path q (⟨#[]⟩ : ByteArray) hq false).toList = t.toList
            · simp only [if_pos e, decide_eq_true e, Bool.true_and]
              cases inB x 1 9 <;> simp <;> exact Ev.now _
            · simp only [if_neg e, decide_eq_false e, Bool.false_and]; exact Ev.now _
        · have e : decide ((urlT sch user host (portS p) path q (⟨#[]⟩ : ByteArray) hq false).toList = t.toList) = false := decide_eq_false (fun e => by
            rw [toList_data, toList_data] at e
            cases hf with
            | true => exact n35 (by rw [e]; exact h35 rfl)
            | false =>
              have h := sz rfl
              rw [ef fr, size_len, e, ← size_len] at h
              omega)
          simp only [if_neg hs, if_neg h2, Option.bind_some, Bool.false_eq_true, if_false, e, Bool.false_and]
          exact Ev.now _
    · refine ⟨false, Ev.bind a (by simp only [if_true, web_spec, Option.bind_some, if_neg w]; exact Ev.now _), ?_⟩
      by_cases hs : (t.size : Int) ≤ 65536
      · simp only [if_pos hs, if_true]
        refine Ev.bind (a := ((⟨#[]⟩ : ByteArray), false)) (Ev.bind (Ev.bind b (by simp only [if_true]; exact Ev.now _)) ?_) (by simp only [Bool.false_eq_true, if_false]; exact Ev.now _)
        simp only [if_true, web_impl, Option.bind_some, if_neg w]; exact Ev.now _
      · simp only [if_neg hs, if_neg h2, Option.bind_some, Bool.false_eq_true, if_false]
        exact Ev.now _
theorem getD_mem {α : Type} (z : α) (l : List α) (i : Int) (h0 : 0 ≤ i) (h1 : i < l.length) : l.getD i.toNat z ∈ l := by
  rw [List.getD_eq_getElem?_getD, List.getElem?_eq_getElem (by omega)]; exact List.getElem_mem _
theorem set_take {α : Type} (l m : List α) (z : α) (i : Nat) (hi : i < l.length) (hm : m.length = l.length) (h : m.take i = l.take i) :
    (m.set i (l.getD i z)).take (i + 1) = l.take (i + 1) := by
  apply List.ext_getElem?
  intro j
  rw [List.getElem?_take, List.getElem?_take]
  by_cases hj : j < i + 1
  · rw [if_pos hj, if_pos hj]
    by_cases e : j = i
    · subst e
      rw [List.getElem?_set_self (by omega), List.getD_eq_getElem?_getD, List.getElem?_eq_getElem hi]; rfl
    · rw [List.getElem?_set_ne (by omega)]
      have := congrArg (fun t => t[j]?) h
      simp only [List.getElem?_take] at this
      rwa [if_pos (by omega), if_pos (by omega)] at this
  · rw [if_neg hj, if_neg hj]
theorem szTarget_is (b : ByteArray) (x1 x2 : Int) (left : Int) (h2 : 0 ≤ left) (h3 : left ≤ 1048576) (hb : b.size ≤ 9223372036854775807) :
    laws_szTarget.f b x1 x2 left = some (if left - (b.size : Int) < 0 then -1 else left - (b.size : Int)) := by
  unfold laws_szTarget.f
  rw [wr (by omega) (by omega)]
  split <;> rfl
theorem szT_loop (l : List S87) (hl : l.length ≤ 9223372036854775807) (hy : ∀ y, y ∈ l → ok87 y) (d : Nat) : ∀ (i left : Int), 0 ≤ i → i + d = l.length → 0 ≤ left → left ≤ 1048576 →
    ∃ r, Ev (fun k => laws_szTargetS.l0 k l left i) r ∧ r ≤ left ∧ -1 ≤ r ∧ (0 ≤ r → ∀ j : Int, i ≤ j → j < l.length → ((rd_T87 l j).f0.size : Int) ≤ 1048576) := by
  induction d with
  | zero =>
    intro i left h0 h1 h2 h3
    exact ⟨left, Ev.step (f := fun _ => some left) (fun k => by rw [laws_szTargetS.l0, if_neg (by omega)]) (Ev.now _), by omega, by omega, fun _ j hj hj' => by omega⟩
  | succ d ih =>
    intro i left h0 h1 h2 h3
    have hm := (hy _ (getD_mem z87 l i h0 (by omega))).1
    have hs := szTarget_is ((rd_T87 l i).f0) ((rd_T87 l i).f1) ((rd_T87 l i).f2) left h2 h3 hm
    by_cases hneg : left - (((rd_T87 l i).f0).size : Int) < 0
    · refine ⟨-1, Ev.step (f := fun _ => some (-1)) (fun k => ?_) (Ev.now _), by omega, by omega, fun h => by omega⟩
      rw [laws_szTargetS.l0, if_pos (by omega), if_pos h0, hs, if_pos hneg, Option.bind_some, if_pos (by omega)]
    · obtain ⟨r, hr, ha, hb, hc⟩ := ih (i + 1) (left - (((rd_T87 l i).f0).size : Int)) (by omega) (by omega) (by omega) (by omega)
      refine ⟨r, Ev.step (f := fun k => laws_szTargetS.l0 k l (left - (((rd_T87 l i).f0).size : Int)) (i + 1)) (fun k => ?_) hr, by omega, hb, fun h j hj hj' => ?_⟩
      · rw [laws_szTargetS.l0, if_pos (by omega), if_pos h0, hs, if_neg hneg, Option.bind_some, if_neg hneg, wr (by omega) (by omega)]
      · by_cases e : j = i
        · subst e; omega
        · exact hc h j (by omega) hj'
theorem szT (l : List S87) (hl : l.length ≤ 9223372036854775807) (hy : ∀ y, y ∈ l → ok87 y) (left : Int) (h2 : 0 ≤ left) (h3 : left ≤ 1048576) :
    ∃ r, Ev (fun k => laws_szTargetS.f k l left) r ∧ r ≤ left ∧ -1 ≤ r ∧ (0 ≤ r → (l.length : Int) ≤ left ∧ ∀ y, y ∈ l → y.f0.size ≤ 1048576) := by
  have hw : wrap64 (left - (l.length : Int)) = left - (l.length : Int) := wr (by omega) (by omega)
  by_cases hneg : left - (l.length : Int) < 0
  · exact ⟨-1, Ev.congr (f := fun _ => some (-1)) (fun k => by unfold laws_szTargetS.f; rw [hw, if_pos hneg]) (Ev.now _), by omega, by omega, fun h => by omega⟩
  · obtain ⟨r, hr, ha, hb, hc⟩ := szT_loop l hl hy l.length 0 (left - (l.length : Int)) (by omega) (by omega) (by omega) (by omega)
    refine ⟨r, Ev.congr (f := fun k => laws_szTargetS.l0 k l (left - (l.length : Int)) 0) (fun k => by unfold laws_szTargetS.f; rw [hw, if_neg hneg]) hr, by omega, hb, fun h => ⟨by omega, fun y hy' => ?_⟩⟩
    obtain ⟨i, hi⟩ := List.mem_iff_getElem?.1 hy'
    have hi' := (List.getElem?_eq_some_iff.1 hi).1
    have h4 := hc h (i : Int) (by omega) (by omega)
    unfold rd_T87 at h4
    rw [Int.toNat_natCast, List.getD_eq_getElem?_getD, hi] at h4
    simp only [Option.getD_some] at h4
    omega
def toTgt (x : S87) : S83 := ⟨x.f0, x.f1, x.f2⟩
theorem toT_loop (l : List S87) (hl : l.length ≤ 1048576) (d : Nat) : ∀ (i : Int) (m : List S83), 0 ≤ i → i + d = l.length → m.length = l.length → m.take i.toNat = (l.map toTgt).take i.toNat →
    Ev (fun k => laws_toTargetS.l0 k l m i) (l.map toTgt) := by
  induction d with
  | zero =>
    intro i m h0 h1 hm ht
    have : m = l.map toTgt := by rw [List.take_of_length_le (by omega), List.take_of_length_le (by rw [List.length_map]; omega)] at ht; exact ht
    subst this
    exact Ev.step (f := fun _ => some (l.map toTgt)) (fun k => by rw [laws_toTargetS.l0, if_neg (by omega)]) (Ev.now _)
  | succ d ih =>
    intro i m h0 h1 hm ht
    refine Ev.step (f := fun k => laws_toTargetS.l0 k l (m.set i.toNat (toTgt (rd_T87 l i))) (i + 1)) (fun k => ?_) (ih (i + 1) _ (by omega) (by omega) (by rw [List.length_set]; exact hm) ?_)
    · rw [laws_toTargetS.l0, if_pos (by omega), if_pos h0]
      unfold laws_toTarget.f
      rw [Option.bind_some, if_pos (by omega), wr (by omega) (by omega)]
      rfl
    · rw [show (i + 1).toNat = i.toNat + 1 by omega]
      have := set_take (l.map toTgt) m (toTgt z87) i.toNat (by rw [List.length_map]; omega) (by rw [List.length_map]; exact hm) ht
      rw [List.getD_eq_getElem?_getD, List.getElem?_map, List.getElem?_eq_getElem (by omega)] at this
      unfold rd_T87
      rw [List.getD_eq_getElem?_getD, List.getElem?_eq_getElem (by omega)]
      exact this
theorem toT (l : List S87) (hl : l.length ≤ 1048576) : Ev (fun k => laws_toTargetS.f k l) (l.map toTgt) := by
  refine Ev.congr (f := fun k => laws_toTargetS.l0 k l (List.replicate ((l.length : Int) : Int).toNat z83) 0) (fun k => ?_) (toT_loop l hl l.length 0 _ (by omega) (by omega) (by simp) (by simp))
  unfold laws_toTargetS.f
  rw [if_pos (by omega), if_pos (by omega)]
theorem eqTarget_refl (s : ByteArray) (b c : Int) : laws_eqTarget.f s b c s b c = some true := by unfold laws_eqTarget.f; simp
theorem eqT_loop (l : List S83) (hl : l.length ≤ 1048576) (d : Nat) : ∀ i : Int, 0 ≤ i → i + d = l.length → Ev (fun k => laws_eqTargetS.l0 k l l i) true := by
  induction d with
  | zero => intro i h0 h1; exact Ev.step (f := fun _ => some true) (fun k => by rw [laws_eqTargetS.l0, if_neg (by omega)]) (Ev.now _)
  | succ d ih =>
    intro i h0 h1
    refine Ev.step (f := fun k => laws_eqTargetS.l0 k l l (i + 1)) (fun k => ?_) (ih (i + 1) (by omega) (by omega))
    rw [laws_eqTargetS.l0, if_pos (by omega), if_pos h0, if_pos (by omega), eqTarget_refl, Option.bind_some, if_pos rfl, wr (by omega) (by omega)]
theorem eqT (l : List S83) (hl : l.length ≤ 1048576) : Ev (fun k => laws_eqTargetS.f k l l) true :=
  Ev.congr (f := fun k => laws_eqTargetS.l0 k l l 0) (fun k => by unfold laws_eqTargetS.f; rw [if_pos rfl]) (eqT_loop l hl l.length 0 (by omega) (by omega))
def letterB (c : Int) : Bool := (decide (97 ≤ c) && decide (c ≤ 122)) || (decide (65 ≤ c) && decide (c ≤ 90)) || (c == 95)
def digitB (c : Int) : Bool := decide (48 ≤ c) && decide (c ≤ 57)
theorem letter_is (c : Int) : spec_l00Letter.f c = some (letterB c) := by
  unfold spec_l00Letter.f letterB
  by_cases a : 97 ≤ c <;> by_cases b : c ≤ 122 <;> by_cases d : 65 ≤ c <;> by_cases e : c ≤ 90 <;> first | (exfalso; omega) | simp [a, b, d, e]
theorem digit_is (c : Int) : spec_l00Digit.f c = some (digitB c) := by
  unfold spec_l00Digit.f digitB
  by_cases a : 48 ≤ c <;> simp [a]
theorem name_spec_step (k : Nat) (s : ByteArray) (i : Int) (h0 : 0 ≤ i) (h1 : i < (s.size : Int)) (h2 : i < 1000) :
    spec_l00Word.l0 (k + 1) s i = if letterB (bt s i) = true then spec_l00Word.l0 k s (i + 1) else if digitB (bt s i) = true then spec_l00Word.l0 k s (i + 1) else some false := by
  rw [spec_l00Word.l0, if_pos h1, if_pos h0, letter_is, digit_is, wr (by omega) (by omega)]
  simp only [Option.bind_some]
theorem name_impl_step (k : Nat) (s : ByteArray) (n i : Int) (h0 : 0 ≤ i) (h1 : i < n) (h3 : i < (s.size : Int)) (h2 : i < 1000) :
    impl_NameOK.l0 (k + 1) s n i = if letterB (bt s i) = true then impl_NameOK.l0 k s n (i + 1) else if i = 0 then some false else if digitB (bt s i) = true then impl_NameOK.l0 k s n (i + 1) else some false := by
  rw [impl_NameOK.l0, if_pos h1, if_pos h0, if_pos h3, wr (by omega) (by omega)]
  generalize bt s i = c
  generalize impl_NameOK.l0 k s n (i + 1) = R
  unfold letterB digitB
  by_cases a : 97 ≤ c <;> by_cases b : c ≤ 122 <;> by_cases d : 65 ≤ c <;> by_cases e : c ≤ 90 <;> by_cases f : c = 95 <;> first | (exfalso; omega) | skip
  all_goals
    by_cases x : c < 48 <;> by_cases y : c > 57 <;> first | (exfalso; omega) | simp [a, b, d, e, f, x, y, show (48 ≤ c) = ¬ (c < 48) by simp, show (c ≤ 57) = ¬ (c > 57) by simp]
theorem name_loops (s : ByteArray) (hs : s.size ≤ 12) (d : Nat) : ∀ i : Int, 1 ≤ i → i + d = s.size →
    ∃ r, spec_l00Word.l0 (d + 1) s i = some r ∧ impl_NameOK.l0 (d + 1) s s.size i = some r := by
  induction d with
  | zero =>
    intro i h0 h1
    rw [spec_l00Word.l0, impl_NameOK.l0, if_neg (by omega), if_neg (by omega)]
    exact ⟨_, rfl, rfl⟩
  | succ d ih =>
    intro i h0 h1
    rw [name_spec_step _ _ _ (by omega) (by omega) (by omega), name_impl_step _ _ _ _ (by omega) (by omega) (by omega) (by omega), if_neg (by omega : ¬ i = 0)]
    have z := ih (i + 1) (by omega) (by omega)
    split
    · exact z
    · split
      · exact z
      · exact ⟨_, rfl, rfl⟩
theorem name_same (s : ByteArray) : ∃ r, Ev (fun k => spec_l00Word.f k s) r ∧ Ev (fun k => impl_NameOK.f k s) r := by
  suffices h : ∃ r k, spec_l00Word.f k s = some r ∧ impl_NameOK.f k s = some r by
    obtain ⟨r, k, h1, h2⟩ := h
    exact ⟨r, Ev.of (spec_l00Word.mono s) h1, Ev.of (impl_NameOK.mono s) h2⟩
  by_cases h0 : (s.size : Int) < 1
  · refine ⟨false, 1, ?_, ?_⟩
    · unfold spec_l00Word.f; rw [if_pos h0]; simp [spec_l00Word.j0]
    · unfold impl_NameOK.f impl_within.f; rw [if_neg (by omega)]; simp
  · by_cases h1 : (s.size : Int) > 12
    · refine ⟨false, 1, ?_, ?_⟩
      · unfold spec_l00Word.f; rw [if_neg h0, if_pos h1]; simp [spec_l00Word.j0]
      · unfold impl_NameOK.f impl_within.f; rw [if_pos (by omega), decide_eq_false (by omega)]; simp
    · obtain ⟨d, hd⟩ : ∃ d : Nat, (1 : Int) + d = s.size := ⟨s.size - 1, by omega⟩
      obtain ⟨r, h2, h3⟩ := name_loops s (by omega) d 1 (by omega) hd
      cases hl : letterB (bt s 0) with
      | true =>
        refine ⟨r, d + 2, ?_, ?_⟩
        · unfold spec_l00Word.f
          rw [if_neg h0, if_neg h1, if_pos (by omega), letter_is, hl, Option.bind_some, spec_l00Word.j0]
          rw [if_neg (by decide)]
          rw [← h2]
        · unfold impl_NameOK.f impl_within.f
          rw [if_pos (by omega), decide_eq_true (by omega), Option.bind_some, if_pos rfl, name_impl_step _ _ _ _ (by omega) (by omega) (by omega) (by omega), hl, if_pos rfl]
          exact h3
      | false =>
        refine ⟨false, d + 2, ?_, ?_⟩
        · unfold spec_l00Word.f
          rw [if_neg h0, if_neg h1, if_pos (by omega), letter_is, hl, Option.bind_some, spec_l00Word.j0]
          rfl
        · unfold impl_NameOK.f impl_within.f
          rw [if_pos (by omega), decide_eq_true (by omega), Option.bind_some, if_pos rfl, name_impl_step _ _ _ _ (by omega) (by omega) (by omega) (by omega), hl]
          simp
theorem ev_rounds {α : Type} {f : Nat → Option α} {r : α} (h : Ev f r) : ∃ k, f k = some r := by
  obtain ⟨k, hk⟩ := h
  exact ⟨k, hk k (Nat.le_refl k)⟩
theorem idx_ge (b : Nat → Bool) : ∀ d i, 0 ≤ impl_hasUrl.idxB b d i ↔ ∃ j, i ≤ j ∧ j < i + d ∧ b j = true
  | 0, i => by
    rw [impl_hasUrl.idxB]
    exact ⟨fun h => absurd h (by omega), fun ⟨j, h1, h2, _⟩ => by omega⟩
  | d + 1, i => by
    rw [impl_hasUrl.idxB]
    by_cases h : b i = true
    · rw [if_pos h]
      exact ⟨fun _ => ⟨i, Nat.le_refl _, by omega, h⟩, fun _ => by omega⟩
    · rw [if_neg h, idx_ge b d (i + 1)]
      constructor
      · rintro ⟨j, h1, h2, h3⟩; exact ⟨j, by omega, by omega, h3⟩
      · rintro ⟨j, h1, h2, h3⟩
        have : j ≠ i := fun e => h (e ▸ h3)
        exact ⟨j, by omega, by omega, h3⟩
theorem idx_at (b : Nat → Bool) : ∀ d i n, i ≤ n → n < i + d → b n = true → (impl_hasUrl.idxB b d i = (n : Int) ↔ ∀ j, i ≤ j → j < n → b j = false)
  | 0, i, n, h1, h2, _ => by omega
  | d + 1, i, n, h1, h2, hn => by
    rw [impl_hasUrl.idxB]
    by_cases h : b i = true
    · rw [if_pos h]
      constructor
      · intro e j h3 h4; omega
      · intro f
        by_cases e : i = n
        · rw [e]
        · have := f i (Nat.le_refl _) (by omega); rw [h] at this; cases this
    · rw [if_neg h]
      have e : i ≠ n := fun e => h (e ▸ hn)
      rw [idx_at b d (i + 1) n (by omega) (by omega) hn]
      constructor
      · intro f j h3 h4
        by_cases e2 : j = i
        · subst e2; simpa using h
        · exact f j (by omega) h4
      · intro f j h3 h4; exact f j (by omega) h4
theorem rd_take (m : List S83) (n i : Nat) (h : i < n) : rd_T83 (m.take n) (i : Int) = rd_T83 m (i : Int) := by
  unfold rd_T83
  rw [Int.toNat_natCast, List.getD_eq_getElem?_getD, List.getD_eq_getElem?_getD, List.getElem?_take, if_pos h]
section
variable (m : List S83) (hm : m.length ≤ 1048576)
def urlAt (i : Nat) : ByteArray := (rd_T83 m (i : Int)).f0
include hm
def newAt (n : Nat) : Bool := decide (∀ j, j < n → ¬ (urlAt m j).toList = (urlAt m n).toList)
omit hm in
theorem has_is (n : Nat) (hn : n ≤ m.length) : impl_hasUrl.f (m.take n) (urlAt m n) = some (!newAt m n) := by
  unfold impl_hasUrl.f
  have hl : (m.take n).length = n := by rw [List.length_take]; omega
  rw [hl]
  congr 1
  rw [Bool.eq_iff_iff]
  unfold newAt
  simp only [decide_eq_true_eq, Bool.not_eq_true', decide_eq_false_iff_not, idx_ge]
  constructor
  · rintro ⟨j, _, h2, h3⟩ f
    rw [rd_take m n j (by omega)] at h3
    exact f j (by omega) (beq_iff_eq.1 h3)
  · intro f
    exact Classical.byContradiction fun h => f fun j h1 h2 => h ⟨j, by omega, by omega, by rw [rd_take m n j h1]; exact beq_iff_eq.2 h2⟩
def allNew : Nat → Nat → Bool
  | 0, _ => true
  | d + 1, i => newAt m i && allNew d (i + 1)
theorem unlike_loop : ∀ (d i : Nat), i + d = m.length → Ev (fun k => impl_areUnlike.l0 k m m (m.length : Int) (i : Int)) (allNew m d i)
  | 0, i, h => Ev.step (f := fun _ => some true) (fun k => by rw [impl_areUnlike.l0, if_neg (by omega)]) (Ev.now _)
  | d + 1, i, h => by
    have e := has_is m i (by omega)
    have hi : ((i : Int)).toNat = i := by omega
    have hu : (rd_T83 m (i : Int)).f0 = urlAt m i := rfl
    rw [allNew]
    cases hn : newAt m i with
    | true =>
      rw [hn] at e
      refine Ev.step (f := fun k => impl_areUnlike.l0 k m m (m.length : Int) ((i + 1 : Nat) : Int)) (fun k => ?_) (unlike_loop d (i + 1) (by omega))
      rw [impl_areUnlike.l0, if_pos (by omega), if_pos (by omega), if_pos (by omega), if_pos (by omega), hi, hu, e, Option.bind_some, if_neg (by decide), wr (by omega) (by omega)]; rfl
    | false =>
      rw [hn] at e
      refine Ev.step (f := fun _ => some false) (fun k => ?_) (Ev.now _)
      rw [impl_areUnlike.l0, if_pos (by omega), if_pos (by omega), if_pos (by omega), if_pos (by omega), hi, hu, e, Option.bind_some, if_pos (by decide)]
theorem unlike_is : Ev (fun k => impl_areUnlike.f k m) (allNew m m.length 0) := by
  unfold impl_areUnlike.f
  exact unlike_loop m hm m.length 0 (by omega)
end
theorem allNew_iff (m : List S83) : ∀ d i, allNew m d i = true ↔ ∀ j, i ≤ j → j < i + d → newAt m j = true
  | 0, i => ⟨fun _ j h1 h2 => by omega, fun _ => rfl⟩
  | d + 1, i => by
    rw [allNew, Bool.and_eq_true, allNew_iff m d (i + 1)]
    constructor
    · rintro ⟨a, b⟩ j h1 h2
      by_cases e : j = i
      · subst e; exact a
      · exact b j (by omega) (by omega)
    · intro f; exact ⟨f i (Nat.le_refl _) (by omega), fun j h1 h2 => f j (by omega) (by omega)⟩
noncomputable def tgtB (x : S83) : Bool := if h : x.f0.size ≤ 1048576 then Classical.choose (tgt_both x.f0 x.f1 x.f2 h) else false
theorem tgtB_is (x : S83) (h : x.f0.size ≤ 1048576) : Ev (fun k => spec_l03Target.f k x.f0 x.f1 x.f2) (tgtB x) ∧ Ev (fun k => impl_targetOK.f k x.f0 x.f1 x.f2) (tgtB x) := by
  unfold tgtB; rw [dif_pos h]; exact Classical.choose_spec (tgt_both x.f0 x.f1 x.f2 h)
section
variable (m : List S83) (hm : m.length ≤ 1048576)
include hm
theorem at_loop (u : ByteArray) : ∀ (d i : Nat), i + d = m.length → Ev (fun k => spec_l03At.l0 k m u (i : Int)) (impl_hasUrl.idxB (fun j => (urlAt m j).toList == u.toList) d i)
  | 0, i, h => Ev.step (f := fun _ => some (-1)) (fun k => by rw [spec_l03At.l0, if_neg (by omega)]) (Ev.now _)
  | d + 1, i, h => by
    rw [impl_hasUrl.idxB]
    by_cases e : ((urlAt m i).toList == u.toList) = true
    · rw [if_pos e]
      have e' : (rd_T83 m (i : Int)).f0.toList = u.toList := beq_iff_eq.1 e
      exact Ev.step (f := fun _ => some (i : Int)) (fun k => by rw [spec_l03At.l0, if_pos (by omega), if_pos (by omega), if_pos e']) (Ev.now _)
    · rw [if_neg e]
      have e' : ¬ (rd_T83 m (i : Int)).f0.toList = u.toList := fun h => e (beq_iff_eq.2 h)
      refine Ev.step (f := fun k => spec_l03At.l0 k m u ((i + 1 : Nat) : Int)) (fun k => ?_) (at_loop u d (i + 1) (by omega))
      rw [spec_l03At.l0, if_pos (by omega), if_pos (by omega), if_neg e', wr (by omega) (by omega)]; rfl
theorem at_is (u : ByteArray) : Ev (fun k => spec_l03At.f k m u) (impl_hasUrl.idxB (fun j => (urlAt m j).toList == u.toList) m.length 0) := by
  unfold spec_l03At.f
  exact at_loop m hm u m.length 0 (by omega)
end
theorem bs_is : ∀ (m : List S83), (∀ y, y ∈ m → y.f0.size ≤ 1048576) → Ev (fun k => impl_GroupOK.bs k m) (m.map tgtB)
  | [], _ => Ev.now _
  | x :: m, h => Ev.bind (tgtB_is x (h x (List.mem_cons_self ..))).2 (Ev.bind (bs_is m (fun y hy => h y (List.mem_cons_of_mem _ hy))) (Ev.now _))
noncomputable def okB (m : List S83) : Nat → Nat → Bool
  | 0, _ => true
  | d + 1, i => tgtB (rd_T83 m (i : Int)) && (newAt m i && okB m d (i + 1))
theorem okB_iff (m : List S83) : ∀ d i, okB m d i = true ↔ ∀ j, i ≤ j → j < i + d → tgtB (rd_T83 m (j : Int)) = true ∧ newAt m j = true
  | 0, i => ⟨fun _ j h1 h2 => by omega, fun _ => rfl⟩
  | d + 1, i => by
    rw [okB, Bool.and_eq_true, Bool.and_eq_true, okB_iff m d (i + 1)]
    constructor
    · rintro ⟨a, a', b⟩ j h1 h2
      by_cases e : j = i
      · subst e; exact ⟨a, a'⟩
      · exact b j (by omega) (by omega)
    · intro f; exact ⟨(f i (Nat.le_refl _) (by omega)).1, (f i (Nat.le_refl _) (by omega)).2, fun j h1 h2 => f j (by omega) (by omega)⟩
theorem rd_mem (m : List S83) (i : Nat) (h : i < m.length) : rd_T83 m (i : Int) ∈ m := getD_mem z83 m (i : Int) (by omega) (by omega)
theorem idx_self (m : List S83) (i : Nat) (h : i < m.length) : impl_hasUrl.idxB (fun j => (urlAt m j).toList == (urlAt m i).toList) m.length 0 = (i : Int) ↔ newAt m i = true := by
  rw [idx_at (fun j => (urlAt m j).toList == (urlAt m i).toList) m.length 0 i (by omega) (by omega) (beq_self_eq_true _)]
  unfold newAt
  rw [decide_eq_true_eq]
  exact ⟨fun f j hj => beq_eq_false_iff_ne.1 (f j (Nat.zero_le _) hj), fun f j _ hj => beq_eq_false_iff_ne.2 (f j hj)⟩
theorem ok_loop (m : List S83) (hm : m.length ≤ 1048576) (hu : ∀ y, y ∈ m → y.f0.size ≤ 1048576) (a0 : ByteArray) (a1 : Int) : ∀ (d i : Nat), i + d = m.length → Ev (fun k => spec_l03OK.l0 k (i : Int) a0 a1 m) (okB m d i)
  | 0, i, h => Ev.step (f := fun _ => some true) (fun k => by rw [spec_l03OK.l0, if_neg (by omega)]) (Ev.now _)
  | d + 1, i, h => by
    have t := (tgtB_is _ (hu _ (rd_mem m i (by omega)))).1
    have a := at_is m hm (urlAt m i)
    have hi := idx_self m i (by omega)
    rw [okB]
    refine Ev.step (f := fun k => (spec_l03Target.f k (rd_T83 m (i : Int)).f0 (rd_T83 m (i : Int)).f1 (rd_T83 m (i : Int)).f2).bind fun t206 => (if t206 = true then ((spec_l03At.f k m (urlAt m i)).bind fun t208 => (if t208 = (i : Int) then (spec_l03OK.l0 k ((i + 1 : Nat) : Int) a0 a1 m) else (some false))) else (some false))) (fun k => ?_) (Ev.bind t ?_)
    · rw [spec_l03OK.l0, if_pos (by omega), if_pos (by omega), wr (by omega) (by omega)]; rfl
    · cases tgtB (rd_T83 m (i : Int)) with
      | false => simp only [Bool.false_eq_true, if_false, Bool.false_and]; exact Ev.now _
      | true =>
        simp only [if_true, Bool.true_and]
        refine Ev.bind a ?_
        cases hn : newAt m i with
        | true =>
          simp only [if_pos (hi.2 hn), Bool.true_and]
          exact ok_loop m hm hu a0 a1 d (i + 1) (by omega)
        | false =>
          have : ¬ impl_hasUrl.idxB (fun j => (urlAt m j).toList == (urlAt m i).toList) m.length 0 = (i : Int) := fun e => by rw [hi.1 e] at hn; cases hn
          simp only [if_neg this, Bool.false_and]
          exact Ev.now _
theorem group_both (a0 : ByteArray) (a1 : Int) (m : List S83) (hm : m.length ≤ 1048576) (hu : ∀ y, y ∈ m → y.f0.size ≤ 1048576) :
    ∃ b, Ev (fun k => spec_l03OK.f k a0 a1 m) b ∧ Ev (fun k => impl_GroupOK.f k a0 a1 m) b := by
  obtain ⟨n, n1, n2⟩ := name_same a0
  have sj' : Ev (fun k => spec_l03OK.j0 k true a0 a1 m) false := Ev.step (f := fun _ => some false) (fun k => by rw [spec_l03OK.j0, if_pos rfl]) (Ev.now _)
  unfold spec_l03OK.f impl_GroupOK.f
  simp only [in_is, within_is, Option.bind_some]
  cases n with
  | false =>
    exact ⟨false, Ev.bind n1 (by simp only [Bool.false_eq_true, if_false]; exact sj'), Ev.bind n2 (by simp only [Bool.false_eq_true, if_false]; exact Ev.now _)⟩
  | true =>
    by_cases h1 : inB a1 1 100 = true
    · by_cases h2 : inB (m.length : Int) 1 4 = true
      · have u := unlike_is m hm
        have b := bs_is m hu
        have o := ok_loop m hm hu a0 a1 m.length 0 (by omega)
        have key : okB m m.length 0 = (allNew m m.length 0 && !decide (0 ≤ impl_hasUrl.idxB (fun i => !(m.map tgtB).getD i false) m.length 0)) := by
          rw [Bool.eq_iff_iff, okB_iff, Bool.and_eq_true, allNew_iff, Bool.not_eq_true', decide_eq_false_iff_not, idx_ge]
          have g : ∀ j, j < m.length → (m.map tgtB).getD j false = tgtB (rd_T83 m (j : Int)) := by
            intro j hj
            unfold rd_T83
            rw [Int.toNat_natCast, List.getD_eq_getElem?_getD, List.getD_eq_getElem?_getD, List.getElem?_map, List.getElem?_eq_getElem hj]; rfl
          constructor
          · intro f
            refine ⟨fun j x y => (f j x y).2, ?_⟩
            rintro ⟨j, x, y, z⟩
            rw [g j (by omega), (f j x y).1] at z
            cases z
          · rintro ⟨f1, f2⟩ j x y
            refine ⟨?_, f1 j x y⟩
            cases e : tgtB (rd_T83 m (j : Int)) with
            | true => rfl
            | false => exact absurd ⟨j, x, y, by rw [g j (by omega), e]; rfl⟩ f2
        refine ⟨okB m m.length 0, Ev.bind n1 ?_, Ev.bind n2 ?_⟩
        · simp only [if_true, h1, h2, Bool.not_true]
          exact Ev.step (f := fun k => spec_l03OK.l0 k ((0 : Nat) : Int) a0 a1 m) (fun k => by rw [spec_l03OK.j0, if_neg Bool.false_ne_true]; rfl) o
        · simp only [if_true, h1, h2]
          refine Ev.bind u ?_
          rw [key]
          cases allNew m m.length 0 with
          | false => simp only [Bool.false_eq_true, if_false, Bool.false_and]; exact Ev.now _
          | true =>
            simp only [if_true, Bool.true_and]
            exact Ev.bind b (Ev.now _)
      · have h2' : inB (m.length : Int) 1 4 = false := by simpa using h2
        exact ⟨false, Ev.bind n1 (by simp only [if_true, h1, h2', Bool.not_false]; exact sj'), Ev.bind n2 (by simp only [if_true, h1, h2', Bool.false_eq_true, if_false]; exact Ev.now _)⟩
    · have h1' : inB a1 1 100 = false := by simpa using h1
      exact ⟨false, Ev.bind n1 (by simp only [if_true, h1', Bool.false_eq_true, if_false]; exact sj'), Ev.bind n2 (by simp only [if_true, h1', Bool.false_eq_true, if_false]; exact Ev.now _)⟩
theorem szG (a0 : ByteArray) (a1 : Int) (l : List S87) (left : Int) (h0 : a0.size ≤ 9223372036854775807) (hl : l.length ≤ 9223372036854775807) (hy : ∀ y, y ∈ l → ok87 y) (h2 : 0 ≤ left) (h3 : left ≤ 1048576) :
    ∃ r, Ev (fun k => laws_szGroup.f k a0 a1 l left) r ∧ r ≤ left ∧ -1 ≤ r ∧ (0 ≤ r → a0.size ≤ 1048576 ∧ (l.length : Int) ≤ left ∧ ∀ y, y ∈ l → y.f0.size ≤ 1048576) := by
  unfold laws_szGroup.f
  rw [wr (by omega) (by omega)]
  by_cases hneg : left - (a0.size : Int) < 0
  · refine ⟨-1, ?_, by omega, by omega, fun h => by omega⟩
    simp only [if_pos hneg]; exact Ev.now _
  · obtain ⟨r, hr, ha, hb, hc⟩ := szT l hl hy (left - (a0.size : Int)) (by omega) (by omega)
    refine ⟨r, ?_, by omega, hb, fun h => ⟨by omega, by have := (hc h).1; omega, (hc h).2⟩⟩
    simp only [if_neg hneg]
    refine Ev.bind hr ?_
    by_cases h4 : r < 0
    · have : r = -1 := by omega
      subst this; simp only [if_pos h4]; exact Ev.now _
    · simp only [if_neg h4]; exact Ev.now _
theorem toG (a0 : ByteArray) (a1 : Int) (l : List S87) (hl : l.length ≤ 1048576) : Ev (fun k => laws_toGroup.f k a0 a1 l) (a0, a1, l.map toTgt) := by
  unfold laws_toGroup.f
  exact Ev.bind (toT l hl) (Ev.now _)
theorem eqG (a0 : ByteArray) (a1 : Int) (m : List S83) (hm : m.length ≤ 1048576) : Ev (fun k => laws_eqGroup.f k a0 a1 m a0 a1 m) true := by
  unfold laws_eqGroup.f
  simp only [if_true]
  exact Ev.bind (eqT m hm) (by simp only [if_true]; exact Ev.now _)
theorem tgt_sizes {l : List S87} (h : ∀ y, y ∈ l → y.f0.size ≤ 1048576) : ∀ y, y ∈ l.map toTgt → y.f0.size ≤ 1048576 := by
  intro y hy
  obtain ⟨x, hx, rfl⟩ := List.mem_map.1 hy
  exact h x hx
section
variable (m n : List S83) (hm : m.length ≤ 1048576) (hn : m.length = n.length)
def difAt (i : Nat) : Bool := !((rd_T83 m (i : Int)).f0.toList == (rd_T83 n (i : Int)).f0.toList) || (!((rd_T83 m (i : Int)).f1 == (rd_T83 n (i : Int)).f1) || !((rd_T83 m (i : Int)).f2 == (rd_T83 n (i : Int)).f2))
def allSame : Nat → Nat → Bool
  | 0, _ => true
  | d + 1, i => if difAt m n i = true then false else allSame d (i + 1)
include hm hn
theorem same_spec (a0 b0 : ByteArray) (a1 b1 : Int) : ∀ (d i : Nat), i + d = m.length → Ev (fun k => spec_l03Same.l0 k (i : Int) a0 a1 m b0 b1 n) (allSame m n d i)
  | 0, i, h => Ev.step (f := fun _ => some true) (fun k => by rw [spec_l03Same.l0, if_neg (by omega)]) (Ev.now _)
  | d + 1, i, h => by
    rw [allSame]
    by_cases e : difAt m n i = true
    · rw [if_pos e]
      refine Ev.step (f := fun _ => some false) (fun k => ?_) (Ev.now _)
      rw [spec_l03Same.l0, if_pos (by omega), if_pos (by omega), if_pos (by omega)]
      exact if_pos e
    · rw [if_neg e]
      refine Ev.step (f := fun k => spec_l03Same.l0 k ((i + 1 : Nat) : Int) a0 a1 m b0 b1 n) (fun k => ?_) (same_spec a0 b0 a1 b1 d (i + 1) (by omega))
      rw [spec_l03Same.l0, if_pos (by omega), if_pos (by omega), if_pos (by omega), wr (by omega) (by omega)]
      exact if_neg e
theorem same_impl : ∀ (d i : Nat), i + d = m.length → Ev (fun k => impl_Target.l0 k m n (m.length : Int) (i : Int)) (allSame m n d i)
  | 0, i, h => Ev.step (f := fun _ => some true) (fun k => by rw [impl_Target.l0, if_neg (by omega)]) (Ev.now _)
  | d + 1, i, h => by
    rw [allSame]
    by_cases e : difAt m n i = true
    · rw [if_pos e]
      refine Ev.step (f := fun _ => some false) (fun k => ?_) (Ev.now _)
      rw [impl_Target.l0, if_pos (by omega), if_pos (by omega), if_pos (by omega), if_pos (by omega)]
      exact if_pos e
    · rw [if_neg e]
      refine Ev.step (f := fun k => impl_Target.l0 k m n (m.length : Int) ((i + 1 : Nat) : Int)) (fun k => ?_) (same_impl d (i + 1) (by omega))
      rw [impl_Target.l0, if_pos (by omega), if_pos (by omega), if_pos (by omega), if_pos (by omega), wr (by omega) (by omega)]
      exact if_neg e
end
theorem same_both (a0 b0 : ByteArray) (a1 b1 : Int) (m n : List S83) (hm : m.length ≤ 1048576) : ∃ b, Ev (fun k => spec_l03Same.f k a0 a1 m b0 b1 n) b ∧ Ev (fun k => impl_Group_same.f k a0 a1 m b0 b1 n) b := by
  have jt : Ev (fun k => spec_l03Same.j0 k true a0 a1 m b0 b1 n) false := Ev.step (f := fun _ => some false) (fun k => by rw [spec_l03Same.j0, if_pos rfl]) (Ev.now _)
  unfold spec_l03Same.f impl_Group_same.f impl_Target.f
  by_cases c1 : a0.toList = b0.toList
  · by_cases c2 : a1 = b1
    · by_cases c3 : m.length = n.length
      · have e : ((m.length : Int) != (n.length : Int)) = false := bne_eq_false_iff_eq.2 (by omega)
        have c3' : (m.length : Int) = (n.length : Int) := by omega
        refine ⟨allSame m n m.length 0, ?_, ?_⟩
        · simp only [if_pos c1, if_pos c2, e]
          exact Ev.step (f := fun k => spec_l03Same.l0 k ((0 : Nat) : Int) a0 a1 m b0 b1 n) (fun k => by rw [spec_l03Same.j0, if_neg Bool.false_ne_true]; rfl) (same_spec m n hm c3 a0 b0 a1 b1 m.length 0 (by omega))
        · simp only [if_pos c1, if_pos c2, if_pos c3']
          exact Ev.bind (same_impl m n hm c3 m.length 0 (by omega)) (Ev.now _)
      · have e : ((m.length : Int) != (n.length : Int)) = true := bne_iff_ne.2 (by omega)
        have c3' : ¬ (m.length : Int) = (n.length : Int) := by omega
        refine ⟨false, ?_, ?_⟩
        · simp only [if_pos c1, if_pos c2, e]; exact jt
        · simp only [if_pos c1, if_pos c2, if_neg c3', Option.bind_some]; exact Ev.now _
    · refine ⟨false, ?_, ?_⟩
      · simp only [if_pos c1, if_neg c2]; exact jt
      · simp only [if_pos c1, if_neg c2]; exact Ev.now _
  · refine ⟨false, ?_, ?_⟩
    · simp only [if_neg c1]; exact jt
    · simp only [if_neg c1]; exact Ev.now _
theorem sameGroup_both (a0 b0 : ByteArray) (a1 b1 : Int) (m n : List S83) (hm : m.length ≤ 1048576) (hn : n.length ≤ 1048576) (hu : ∀ y, y ∈ m → y.f0.size ≤ 1048576) (hv : ∀ y, y ∈ n → y.f0.size ≤ 1048576) :
    ∃ b, Ev (fun k => spec_SameGroup.f k a0 a1 m b0 b1 n) b ∧ Ev (fun k => impl_SameGroup.f k a0 a1 m b0 b1 n) b := by
  obtain ⟨x, x1, x2⟩ := group_both a0 a1 m hm hu
  obtain ⟨y, y1, y2⟩ := group_both b0 b1 n hn hv
  obtain ⟨z, z1, z2⟩ := same_both a0 b0 a1 b1 m n hm
  unfold spec_SameGroup.f impl_SameGroup.f
  cases x with
  | false => exact ⟨false, Ev.bind x1 (by simp only [Bool.false_eq_true, if_false]; exact Ev.now _), Ev.bind x2 (by simp only [Bool.false_eq_true, if_false]; exact Ev.now _)⟩
  | true =>
    cases y with
    | false => exact ⟨false, Ev.bind x1 (by simp only [if_true]; exact Ev.bind y1 (by simp only [Bool.false_eq_true, if_false]; exact Ev.now _)), Ev.bind x2 (by simp only [if_true]; exact Ev.bind y2 (by simp only [Bool.false_eq_true, if_false]; exact Ev.now _))⟩
    | true => exact ⟨z, Ev.bind x1 (by simp only [if_true]; exact Ev.bind y1 (by simp only [if_true]; exact Ev.bind z1 (Ev.now _))), Ev.bind x2 (by simp only [if_true]; exact Ev.bind y2 (by simp only [if_true]; exact Ev.bind z2 (Ev.now _)))⟩
theorem FnExactSameGroup : (∀ (a0_0 : ByteArray) (a0_1 : Int) (l0_2 : List (S87)) (a1_0 : ByteArray) (a1_1 : Int) (l1_2 : List (S87)), (a0_0.size ≤ 9223372036854775807) → ((Lit.int .i64 a0_1).wf = true) → (l0_2.length ≤ 9223372036854775807 ∧ ∀ y_, y_ ∈ l0_2 → ok87 y_) → (a1_0.size ≤ 9223372036854775807) → ((Lit.int .i64 a1_1).wf = true) → (l1_2.length ≤ 9223372036854775807 ∧ ∀ y_, y_ ∈ l1_2 → ok87 y_) → ∃ k, laws_FnExactSameGroup.f k a0_0 a0_1 l0_2 a1_0 a1_1 l1_2 = some true) := by
  intro a0 a1 l b0 b1 m h0 _ ⟨hl, hy⟩ k0 _ ⟨km, ky⟩
  refine ev_rounds ?_
  unfold laws_FnExactSameGroup.f
  obtain ⟨r, hr, h1, h2, h3⟩ := szG a0 a1 l 1048576 h0 hl hy (by omega) (by omega)
  refine Ev.bind hr ?_
  by_cases h4 : r < 0
  · simp only [if_pos h4]; exact Ev.now _
  · simp only [if_neg h4]
    obtain ⟨_, h6, h7⟩ := h3 (by omega)
    obtain ⟨s, hs, g1, g2, g3⟩ := szG b0 b1 m r k0 km ky (by omega) (by omega)
    refine Ev.bind hs ?_
    by_cases g4 : s < 0
    · simp only [if_pos g4]; exact Ev.now _
    · simp only [if_neg g4]
      obtain ⟨_, g6, g7⟩ := g3 (by omega)
      have t := toG a0 a1 l (by omega)
      have u := toG b0 b1 m (by omega)
      have hm : (l.map toTgt).length ≤ 1048576 := by rw [List.length_map]; omega
      have hn : (m.map toTgt).length ≤ 1048576 := by rw [List.length_map]; omega
      obtain ⟨b, p, i⟩ := sameGroup_both a0 b0 a1 b1 (l.map toTgt) (m.map toTgt) hm hn (tgt_sizes h7) (tgt_sizes g7)
      refine Ev.bind t (Ev.bind u (Ev.bind p (Ev.bind t (Ev.bind u (Ev.bind i ?_)))))
      have e : ¬ ((b != b) = true) := by simp
      simp only [if_neg e]
      refine Ev.bind t (Ev.bind (eqG a0 a1 _ hm) ?_)
      simp only [if_true]
      refine Ev.bind u (Ev.bind (eqG b0 b1 _ hn) ?_)
      simp only [if_true]; exact Ev.now _
end Go.Proofs.YthifpohbdbhnlaaGreatDoor.Pure
