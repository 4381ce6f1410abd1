/- An address is recovered from its text, and every text is parsed, stripped and compared as the reference's: for all codes; no condition. -/
import Derived.Test.YthifpohbdbhnlaaGreatDoorQFnUrlsx4
import Derived.Lib.IndexAny
import Derived.Lib.ItoaLen
set_option linter.unusedVariables false
set_option linter.unusedSimpArgs false
namespace Go.Proofs.YthifpohbdbhnlaaGreatDoor.Pure
open Go.RowKit Go.Proofs.YthifpohbdbhnlaaGreatDoor.QFnUrls Go.Proofs.YthifpohbdbhnlaaGreatDoor.QFnStp Go.Proofs.YthifpohbdbhnlaaGreatDoorW.PrintWords Go.Proofs.YthifpohbdbhnlaaGreatDoorW.PrintLast
theorem wr {x : Int} (h0 : -9223372036854775808 ≤ x) (h1 : x ≤ 9223372036854775807) : wrap64 x = x := by unfold wrap64; omega
theorem size_len (s : ByteArray) : s.size = s.data.toList.length := by rw [Array.length_toList]; rfl
theorem drop_cons {s : ByteArray} {i : Nat} {b : UInt8} {l : List UInt8} (h : s.data.toList.drop i = b :: l) : i < s.size ∧ bt s (i : Int) = (b.toNat : Int) ∧ s.data.toList.drop (i + 1) = l := by
  have hi : i < s.data.toList.length := by
    rcases Nat.lt_or_ge i s.data.toList.length with h1 | h1
    · exact h1
    · rw [List.drop_eq_nil_of_le h1] at h; cases h
  rw [List.drop_eq_getElem_cons hi] at h
  injection h with h1 h2
  have hs : i < s.size := by rw [size_len]; exact hi
  refine ⟨hs, ?_, h2⟩
  rw [← h1]
  have e : (i : Int).toNat = i := by omega
  simp only [bt, e, dif_pos hs]
  rfl
theorem drop_nil {s : ByteArray} {i : Nat} (h : s.data.toList.drop i = []) : s.size ≤ i := by
  rw [size_len]
  exact List.drop_eq_nil_iff.1 h
def goodB (b : UInt8) : Bool := decide (33 ≤ b.toNat) && decide (b.toNat ≤ 126)
def onlyB (l W : List UInt8) : Bool := l.all fun b => goodB b && !W.contains b
theorem find_spec (wo : ByteArray) (c : UInt8) (hw : wo.size ≤ 1000) : ∀ (l : List UInt8) (i : Nat), wo.data.toList.drop i = l → ∃ t, Ev (fun k => spec_l01Find.l0 k wo (c.toNat : Int) (i : Int)) t ∧ (t < (wo.size : Int) ↔ l.contains c = true)
  | [], i, h => by
    have := drop_nil h
    exact ⟨(wo.size : Int), Ev.step (f := fun _ => some (wo.size : Int)) (fun k => by rw [spec_l01Find.l0, if_neg (by omega)]) (Ev.now _), by simp⟩
  | b :: l, i, h => by
    obtain ⟨h1, h2, h3⟩ := drop_cons h
    by_cases e : b = c
    · subst e
      refine ⟨(i : Int), Ev.step (f := fun _ => some (i : Int)) (fun k => by rw [spec_l01Find.l0, if_pos (by omega), if_pos (by omega), if_pos h2]) (Ev.now _), ?_⟩
      simp; omega
    · obtain ⟨t, ht, hi⟩ := find_spec wo c hw l (i + 1) h3
      refine ⟨t, Ev.step (f := fun k => spec_l01Find.l0 k wo (c.toNat : Int) ((i + 1 : Nat) : Int)) (fun k => ?_) ht, ?_⟩
      · have hne : ¬ bt wo (i : Int) = (c.toNat : Int) := by
          rw [h2]; intro hh; apply e; apply UInt8.toNat_inj.1; omega
        rw [spec_l01Find.l0, if_pos (by omega), if_pos (by omega), if_neg hne, wr (by omega) (by omega)]; rfl
      · rw [hi]
        have : (b :: l).contains c = l.contains c := by
          rw [List.contains_cons]
          have : (c == b) = false := by rw [beq_eq_false_iff_ne]; exact fun hh => e hh.symm
          rw [this, Bool.false_or]
        rw [this]
theorem only_loop (s wo : ByteArray) (hs : s.size ≤ 2000000) (hw : wo.size ≤ 1000) : ∀ (l : List UInt8) (i : Nat), s.data.toList.drop i = l → Ev (fun k => spec_l01Only.l0 k s wo (i : Int)) (onlyB l wo.data.toList)
  | [], i, h => by
    have := drop_nil h
    exact Ev.step (f := fun _ => some true) (fun k => by rw [spec_l01Only.l0, if_neg (by omega)]) (Ev.now _)
  | b :: l, i, h => by
    obtain ⟨h1, h2, h3⟩ := drop_cons h
    have e0 : onlyB (b :: l) wo.data.toList = ((goodB b && !wo.data.toList.contains b) && onlyB l wo.data.toList) := by simp [onlyB]
    by_cases c1 : b.toNat < 33
    · rw [show onlyB (b :: l) wo.data.toList = false by rw [e0]; simp [goodB]; omega]
      exact Ev.step (f := fun _ => some false) (fun k => by rw [spec_l01Only.l0, if_pos (by omega), if_pos (by omega), if_pos (by omega)]) (Ev.now _)
    by_cases c2 : b.toNat > 126
    · rw [show onlyB (b :: l) wo.data.toList = false by rw [e0]; simp [goodB]; omega]
      exact Ev.step (f := fun _ => some false) (fun k => by rw [spec_l01Only.l0, if_pos (by omega), if_pos (by omega), if_neg (by omega), if_pos (by omega)]) (Ev.now _)
    have hg : goodB b = true := by simp [goodB]; omega
    obtain ⟨t, ht, hi⟩ := find_spec wo b hw wo.data.toList 0 (by simp)
    refine Ev.step (f := fun k => (spec_l01Find.f k wo (bt s (i : Int))).bind fun t => if t < (wo.size : Int) then some false else spec_l01Only.l0 k s wo ((i + 1 : Nat) : Int)) (fun k => ?_) (Ev.bind (show Ev (fun k => spec_l01Find.f k wo (bt s (i : Int))) t from ?_) ?_)
    · rw [spec_l01Only.l0, if_pos (by omega), if_pos (by omega), if_neg (by omega), if_neg (by omega), wr (by omega) (by omega)]; rfl
    · unfold spec_l01Find.f; rw [h2]; exact ht
    · by_cases hc : wo.data.toList.contains b = true
      · simp only [if_pos (hi.2 hc)]
        rw [show onlyB (b :: l) wo.data.toList = false by rw [e0, hc]; simp]
        exact Ev.now _
      · have hc' : wo.data.toList.contains b = false := by simpa using hc
        simp only [if_neg (fun x => hc (hi.1 x))]
        rw [show onlyB (b :: l) wo.data.toList = onlyB l wo.data.toList by rw [e0, hg, hc']; simp]
        exact only_loop s wo hs hw l (i + 1) h3
theorem only_spec (s wo : ByteArray) (hs : s.size ≤ 2000000) (hw : wo.size ≤ 1000) : Ev (fun k => spec_l01Only.f k s wo) (onlyB s.data.toList wo.data.toList) := by
  unfold spec_l01Only.f
  exact only_loop s wo hs hw s.data.toList 0 (by simp)
def inB (n lo hi : Int) : Bool := decide (lo ≤ n) && decide (n ≤ hi)
theorem within_is (n lo hi : Int) : impl_within.f n lo hi = some (inB n lo hi) := by
  unfold impl_within.f inB
  by_cases h : lo ≤ n <;> simp [h]
theorem shown_loop (s : ByteArray) (hs : s.size ≤ 20000000) : ∀ (l : List UInt8) (i : Nat), s.data.toList.drop i = l → Ev (fun k => impl_areShown.l0 k s (s.size : Int) (i : Int)) (l.all goodB)
  | [], i, h => by
    have := drop_nil h
    exact Ev.step (f := fun _ => some true) (fun k => by rw [impl_areShown.l0, if_neg (by omega)]) (Ev.now _)
  | b :: l, i, h => by
    obtain ⟨h1, h2, h3⟩ := drop_cons h
    have hb : b.toNat < 256 := b.toNat_lt
    have hg : inB (b.toNat : Int) 33 126 = goodB b := by unfold inB goodB; congr 1 <;> simp <;> omega
    refine Ev.step (f := fun k => if goodB b = true then impl_areShown.l0 k s (s.size : Int) ((i + 1 : Nat) : Int) else some false) (fun k => ?_) ?_
    · rw [impl_areShown.l0, if_pos (by omega), if_pos (by omega), if_pos (by omega), h2, wr (x := (b.toNat : Int)) (by omega) (by omega), within_is, hg, wr (x := (i : Int) + 1) (by omega) (by omega)]; rfl
    · rw [List.all_cons]
      cases goodB b
      · simp only [Bool.false_eq_true, if_false, Bool.false_and]; exact Ev.now _
      · simp only [if_true, Bool.true_and]; exact shown_loop s hs l (i + 1) h3
theorem shown_impl (s : ByteArray) (hs : s.size ≤ 20000000) : Ev (fun k => impl_areShown.f k s) (s.data.toList.all goodB) := by
  unfold impl_areShown.f
  exact shown_loop s hs s.data.toList 0 (by simp)
theorem containsAny_eq (W : List UInt8) : ∀ l : List UInt8, Lib.containsAny l W = l.any fun b => W.contains b
  | [] => by simp [Lib.containsAny, Lib.indexAny]
  | b :: l => by
    have ih := containsAny_eq W l
    have g := Lib.indexAny_ge W l
    unfold Lib.containsAny at ih ⊢
    rw [List.any_cons, ← ih, Lib.indexAny]
    by_cases c : W.contains b = true
    · rw [if_pos c, c]; simp
    · have c' : W.contains b = false := by simpa using c
      rw [if_neg c, c', Bool.false_or]
      by_cases e : Lib.indexAny l W = -1
      · simp [e]
      · have e1 : (Lib.indexAny l W == -1) = false := by simpa using e
        rw [e1]
        simp only [Bool.false_eq_true, if_false]
        congr 1
        apply propext
        omega
theorem only_split (l W : List UInt8) : onlyB l W = (l.all goodB && !Lib.containsAny l W) := by
  rw [containsAny_eq]
  induction l with
  | nil => rfl
  | cons b l ih =>
    have e0 : onlyB (b :: l) W = ((goodB b && !W.contains b) && onlyB l W) := by simp [onlyB]
    rw [e0, ih, List.all_cons, List.any_cons]
    cases goodB b <;> cases W.contains b <;> simp
theorem shown_ok {s : ByteArray} (h : s.data.toList.all goodB = true) : strings_ContainsAny.ok s = true := by
  unfold strings_ContainsAny.ok
  rw [List.all_eq_true] at h ⊢
  intro b hb
  have := h b hb
  simp [goodB] at this
  simp; omega
theorem contains_impl (s wo : ByteArray) (hs : s.size ≤ 2000000) (hw : wo.size ≤ 1000) (hg : s.data.toList.all goodB = true) (ho : strings_ContainsAny.ok wo = true) : strings_ContainsAny.f s wo = some (!onlyB s.data.toList wo.data.toList) := by
  unfold strings_ContainsAny.f
  rw [if_pos ⟨by omega, by omega, shown_ok hg, ho⟩, only_split, hg]
  simp
theorem in_is (n lo hi : Int) : spec_l01In.f n lo hi = some (inB n lo hi) := by
  unfold spec_l01In.f inB
  by_cases h : lo ≤ n
  · rw [if_pos h]; simp [h]
  · rw [if_neg h]; simp [h]
def lowB (b : UInt8) : Bool := decide (97 ≤ b.toNat) && decide (b.toNat ≤ 122)
def digB (b : UInt8) : Bool := decide (48 ≤ b.toNat) && decide (b.toNat ≤ 57)
theorem low_is (b : UInt8) : impl_isLower.f (b.toNat : Int) = some (lowB b) := by
  unfold impl_isLower.f lowB
  by_cases h : 97 ≤ b.toNat
  · rw [if_pos (by omega)]; simp [h]; omega
  · rw [if_neg (by omega)]; simp [h]
theorem dig_is (b : UInt8) : impl_isDigit.f (b.toNat : Int) = some (digB b) := by
  unfold impl_isDigit.f digB
  by_cases h : 48 ≤ b.toNat
  · rw [if_pos (by omega)]; simp [h]; omega
  · rw [if_neg (by omega)]; simp [h]
theorem digS_is (b : UInt8) : spec_l00Digit.f (b.toNat : Int) = some (digB b) := by
  unfold spec_l00Digit.f digB
  by_cases h : 48 ≤ b.toNat
  · rw [if_pos (by omega)]; simp [h]; omega
  · rw [if_neg (by omega)]; simp [h]
def schemeB : Bool → List UInt8 → Bool
  | _, [] => true
  | first, b :: l => if lowB b = true then schemeB false l else if first = true then false else if digB b = true ∨ b.toNat = 45 ∨ b.toNat = 43 ∨ b.toNat = 46 then schemeB false l else false
theorem scheme_spec_loop (s : ByteArray) (hs : s.size ≤ 2000000) : ∀ (l : List UInt8) (i : Nat), s.data.toList.drop i = l → Ev (fun k => spec_l01Scheme.l0 k s (i : Int)) (schemeB (decide (i = 0)) l)
  | [], i, h => by
    have := drop_nil h
    exact Ev.step (f := fun _ => some true) (fun k => by rw [spec_l01Scheme.l0, if_neg (by omega)]) (Ev.now _)
  | b :: l, i, h => by
    obtain ⟨h1, h2, h3⟩ := drop_cons h
    have rcu := scheme_spec_loop s hs l (i + 1) h3
    rw [show decide (i + 1 = 0) = false by simp] at rcu
    have w1 : wrap64 ((i : Int) + 1) = ((i + 1 : Nat) : Int) := by rw [wr (by omega) (by omega)]; rfl
    refine Ev.step (f := fun k => if lowB b = true then spec_l01Scheme.l0 k s ((i + 1 : Nat) : Int) else if i = 0 then some false else if digB b = true ∨ b.toNat = 45 ∨ b.toNat = 43 ∨ b.toNat = 46 then spec_l01Scheme.l0 k s ((i + 1 : Nat) : Int) else some false) (fun k => ?_) ?_
    · rw [spec_l01Scheme.l0, if_pos (by omega), if_pos (by omega), h2, digS_is, w1]
      simp only [Option.bind_some]
      have z : ((i : Int) = 0) = (i = 0) := propext (by omega)
      have z1 : ((b.toNat : Int) = 45) = (b.toNat = 45) := propext (by omega)
      have z2 : ((b.toNat : Int) = 43) = (b.toNat = 43) := propext (by omega)
      have z3 : ((b.toNat : Int) = 46) = (b.toNat = 46) := propext (by omega)
      by_cases a : 97 ≤ b.toNat
      · rw [if_pos (by omega)]
        by_cases c : b.toNat ≤ 122
        · rw [if_pos (by omega), if_pos (by simp [lowB, a, c])]
        · rw [if_neg (by omega), if_neg (show ¬ lowB b = true by simp [lowB, c])]
          simp only [z, z1, z2, z3]
          by_cases i0 : i = 0
          · rw [if_pos i0, if_pos i0]
          · rw [if_neg i0, if_neg i0]
            by_cases d : digB b = true
            · rw [if_pos d, if_pos (.inl d)]
            · rw [if_neg d]
              by_cases e1 : b.toNat = 45
              · rw [if_pos e1, if_pos (.inr (.inl e1))]
              · rw [if_neg e1]
                by_cases e2 : b.toNat = 43
                · rw [if_pos e2, if_pos (.inr (.inr (.inl e2)))]
                · rw [if_neg e2]
                  by_cases e3 : b.toNat = 46
                  · rw [if_pos e3, if_pos (.inr (.inr (.inr e3)))]
                  · rw [if_neg e3, if_neg]; rintro (h | h | h | h) <;> contradiction
      · rw [if_neg (by omega), if_neg (show ¬ lowB b = true by simp [lowB, a])]
        simp only [z, z1, z2, z3]
        by_cases i0 : i = 0
        · rw [if_pos i0, if_pos i0]
        · rw [if_neg i0, if_neg i0]
          by_cases d : digB b = true
          · rw [if_pos d, if_pos (.inl d)]
          · rw [if_neg d]
            by_cases e1 : b.toNat = 45
            · rw [if_pos e1, if_pos (.inr (.inl e1))]
            · rw [if_neg e1]
              by_cases e2 : b.toNat = 43
              · rw [if_pos e2, if_pos (.inr (.inr (.inl e2)))]
              · rw [if_neg e2]
                by_cases e3 : b.toNat = 46
                · rw [if_pos e3, if_pos (.inr (.inr (.inr e3)))]
                · rw [if_neg e3, if_neg]; rintro (h | h | h | h) <;> contradiction
    · rw [schemeB]
      by_cases a : lowB b = true
      · simp only [if_pos a]; exact rcu
      · simp only [if_neg a]
        by_cases i0 : i = 0
        · simp only [i0, if_true, decide_true]; exact Ev.now _
        · simp only [if_neg i0, decide_eq_false i0, Bool.false_eq_true, if_false]
          by_cases d : digB b = true ∨ b.toNat = 45 ∨ b.toNat = 43 ∨ b.toNat = 46
          · simp only [if_pos d]; exact rcu
          · simp only [if_neg d]; exact Ev.now _
theorem scheme_spec (s : ByteArray) (hs : s.size ≤ 2000000) : Ev (fun k => spec_l01Scheme.f k s) (inB (s.size : Int) 1 12 && schemeB true s.data.toList) := by
  unfold spec_l01Scheme.f
  simp only [in_is, Option.bind_some]
  cases inB (s.size : Int) 1 12
  · simp only [Bool.false_eq_true, if_false, Bool.false_and]; exact Ev.now _
  · simp only [if_true, Bool.true_and]
    have := scheme_spec_loop s hs s.data.toList 0 (by simp)
    exact this
theorem scheme_impl_loop (s : ByteArray) (hs : s.size ≤ 2000000) (n : Nat) (hn : n ≤ s.size) : ∀ (l : List UInt8) (i : Nat), i ≤ n → s.data.toList.drop i = l → Ev (fun k => impl_isScheme.l0 k s (n : Int) (i : Int)) (schemeB (decide (i = 0)) (l.take (n - i)) && inB (s.size : Int) 1 12)
  | [], i, hi, h => by
    have := drop_nil h
    have e : i = n := by omega
    subst e
    refine Ev.step (f := fun _ => some (inB (s.size : Int) 1 12)) (fun k => by rw [impl_isScheme.l0, if_neg (by omega), within_is]; rfl) ?_
    simp only [List.take_nil, schemeB, Bool.true_and]
    exact Ev.now _
  | b :: l, i, hi, h => by
    obtain ⟨h1, h2, h3⟩ := drop_cons h
    by_cases e : i = n
    · subst e
      refine Ev.step (f := fun _ => some (inB (s.size : Int) 1 12)) (fun k => by rw [impl_isScheme.l0, if_neg (by omega), within_is]; rfl) ?_
      simp only [Nat.sub_self, List.take_zero, schemeB, Bool.true_and]
      exact Ev.now _
    have rcu := scheme_impl_loop s hs n hn l (i + 1) (by omega) h3
    rw [show decide (i + 1 = 0) = false by simp] at rcu
    have w1 : wrap64 ((i : Int) + 1) = ((i + 1 : Nat) : Int) := by rw [wr (by omega) (by omega)]; rfl
    have tk : (b :: l).take (n - i) = b :: l.take (n - (i + 1)) := by rw [show n - i = (n - (i + 1)) + 1 by omega, List.take_succ_cons]
    rw [tk]
    refine Ev.step (f := fun k => if lowB b = true then impl_isScheme.l0 k s (n : Int) ((i + 1 : Nat) : Int) else if i = 0 then some false else if digB b = true ∨ b.toNat = 45 ∨ b.toNat = 43 ∨ b.toNat = 46 then impl_isScheme.l0 k s (n : Int) ((i + 1 : Nat) : Int) else some false) (fun k => ?_) ?_
    · rw [impl_isScheme.l0, if_pos (by omega), if_pos (by omega), if_pos (by omega), h2, low_is, dig_is, w1]
      simp only [Option.bind_some]
      have z : ((i : Int) = 0) = (i = 0) := propext (by omega)
      have z1 : ((b.toNat : Int) = 45) = (b.toNat = 45) := propext (by omega)
      have z2 : ((b.toNat : Int) = 43) = (b.toNat = 43) := propext (by omega)
      have z3 : ((b.toNat : Int) = 46) = (b.toNat = 46) := propext (by omega)
      simp only [z, z1, z2, z3]
      by_cases a : lowB b = true
      · rw [if_pos a, if_pos a]
      · rw [if_neg a, if_neg a]
        by_cases i0 : i = 0
        · rw [if_pos i0, if_pos i0]
        · rw [if_neg i0, if_neg i0]
          by_cases d : digB b = true
          · rw [if_pos d, if_pos (.inl d)]
          · rw [if_neg d]
            by_cases e1 : b.toNat = 45
            · rw [if_pos e1, if_pos (.inr (.inl e1))]
            · rw [if_neg e1]
              by_cases e2 : b.toNat = 43
              · rw [if_pos e2, if_pos (.inr (.inr (.inl e2)))]
              · rw [if_neg e2]
                by_cases e3 : b.toNat = 46
                · rw [if_pos e3, if_pos (.inr (.inr (.inr e3)))]
                · rw [if_neg e3, if_neg]; rintro (h | h | h | h) <;> contradiction
    · rw [schemeB]
      by_cases a : lowB b = true
      · simp only [if_pos a]; exact rcu
      · simp only [if_neg a]
        by_cases i0 : i = 0
        · simp only [i0, if_true, decide_true, Bool.false_and]; exact Ev.now _
        · simp only [if_neg i0, decide_eq_false i0, Bool.false_eq_true, if_false]
          by_cases d : digB b = true ∨ b.toNat = 45 ∨ b.toNat = 43 ∨ b.toNat = 46
          · simp only [if_pos d]; exact rcu
          · simp only [if_neg d, Bool.false_and]; exact Ev.now _
theorem scheme_impl (s : ByteArray) (hs : s.size ≤ 2000000) : Ev (fun k => impl_isScheme.f k s) (inB (s.size : Int) 1 12 && schemeB true s.data.toList) := by
  unfold impl_isScheme.f
  by_cases h : s.size ≤ 12
  · have e : mn (s.size : Int) 13 = ((s.size : Nat) : Int) := by unfold mn; rw [if_neg (by omega)]
    rw [e]
    have := scheme_impl_loop s hs s.size (Nat.le_refl _) s.data.toList 0 (by omega) (by simp)
    rw [List.take_of_length_le (by rw [← size_len]; omega)] at this
    rw [Bool.and_comm]
    exact this
  · have e : mn (s.size : Int) 13 = ((13 : Nat) : Int) := by unfold mn; split <;> omega
    rw [e]
    have := scheme_impl_loop s hs 13 (by omega) s.data.toList 0 (by omega) (by simp)
    have z : inB (s.size : Int) 1 12 = false := by unfold inB; simp; omega
    rw [z, Bool.and_false] at this
    rw [z, Bool.false_and]
    exact this
def sepB (b : UInt8) : Bool := decide (b.toNat = 45) || decide (b.toNat = 46)
def hostB : Bool → List UInt8 → Bool
  | last, [] => !last
  | last, b :: l => if lowB b = true ∨ digB b = true then hostB false l else if last = true then false else if sepB b = true then hostB true l else false
theorem host_spec_loop (s : ByteArray) (hs : s.size ≤ 2000000) : ∀ (l : List UInt8) (i : Nat) (last : Bool), s.data.toList.drop i = l → Ev (fun k => spec_l01Host.l0 k s last (i : Int)) (hostB last l)
  | [], i, last, h => by
    have := drop_nil h
    exact Ev.step (f := fun _ => some (!last)) (fun k => by rw [spec_l01Host.l0, if_neg (by omega)]) (Ev.now _)
  | b :: l, i, last, h => by
    obtain ⟨h1, h2, h3⟩ := drop_cons h
    have r0 := host_spec_loop s hs l (i + 1) false h3
    have r1 := host_spec_loop s hs l (i + 1) true h3
    have w1 : wrap64 ((i : Int) + 1) = ((i + 1 : Nat) : Int) := by rw [wr (by omega) (by omega)]; rfl
    have z1 : ((b.toNat : Int) = 45) = (b.toNat = 45) := propext (by omega)
    have z3 : ((b.toNat : Int) = 46) = (b.toNat = 46) := propext (by omega)
    refine Ev.step (f := fun k => if lowB b = true ∨ digB b = true then spec_l01Host.l0 k s false ((i + 1 : Nat) : Int) else if last = true then some false else if sepB b = true then spec_l01Host.l0 k s true ((i + 1 : Nat) : Int) else some false) (fun k => ?_) ?_
    · rw [spec_l01Host.l0, if_pos (by omega), if_pos (by omega), h2, digS_is, w1]
      simp only [Option.bind_some, z1, z3]
      have tail : ∀ hd : ¬ lowB b = true, (if digB b = true then spec_l01Host.l0 k s (!digB b) ((i + 1 : Nat) : Int) else if last = true then some false else if b.toNat = 45 then spec_l01Host.l0 k s (!digB b) ((i + 1 : Nat) : Int) else if b.toNat = 46 then spec_l01Host.l0 k s (!digB b) ((i + 1 : Nat) : Int) else some false) = (if lowB b = true ∨ digB b = true then spec_l01Host.l0 k s false ((i + 1 : Nat) : Int) else if last = true then some false else if sepB b = true then spec_l01Host.l0 k s true ((i + 1 : Nat) : Int) else some false) := fun hd => by
        by_cases d : digB b = true
        · rw [if_pos d, if_pos (.inr d), d]; rfl
        · have d' : digB b = false := by simpa using d
          rw [if_neg d, if_neg (show ¬ (lowB b = true ∨ digB b = true) from fun x => x.elim hd d), d']
          by_cases hl : last = true
          · rw [if_pos hl, if_pos hl]
          · rw [if_neg hl, if_neg hl]
            by_cases e1 : b.toNat = 45
            · rw [if_pos e1, if_pos (by simp [sepB, e1])]; rfl
            · rw [if_neg e1]
              by_cases e2 : b.toNat = 46
              · rw [if_pos e2, if_pos (by simp [sepB, e2])]; rfl
              · rw [if_neg e2, if_neg (by simp [sepB, e1, e2])]
      by_cases a : 97 ≤ b.toNat
      · rw [if_pos (by omega)]
        by_cases c : b.toNat ≤ 122
        · rw [if_pos (by omega), if_pos (.inl (by simp [lowB, a, c]))]; rfl
        · rw [if_neg (by omega)]; exact tail (by simp [lowB, c])
      · rw [if_neg (by omega)]; exact tail (by simp [lowB, a])
    · rw [hostB]
      by_cases a : lowB b = true ∨ digB b = true
      · simp only [if_pos a]; exact r0
      · simp only [if_neg a]
        by_cases hl : last = true
        · simp only [if_pos hl]; exact Ev.now _
        · simp only [if_neg hl]
          by_cases d : sepB b = true
          · simp only [if_pos d]; exact r1
          · simp only [if_neg d]; exact Ev.now _
theorem host_spec (s : ByteArray) (hs : s.size ≤ 2000000) : Ev (fun k => spec_l01Host.f k s) (hostB true s.data.toList) := by
  unfold spec_l01Host.f
  exact host_spec_loop s hs s.data.toList 0 true (by simp)
def lastOf (s : ByteArray) (i : Nat) : Prop := i = 0 ∨ bt s ((i - 1 : Nat) : Int) = 45 ∨ bt s ((i - 1 : Nat) : Int) = 46
theorem host_impl_loop (s : ByteArray) (hs : s.size ≤ 2000000) : ∀ (l : List UInt8) (i : Nat) (last : Bool), s.data.toList.drop i = l → (last = true ↔ lastOf s i) → (l = [] → i = 0 ∨ last = false) → i ≤ s.size → Ev (fun k => impl_isHost.l0 k s (s.size : Int) (i : Int)) (hostB last l)
  | [], i, last, h, hl, he, hi => by
    have hn := drop_nil h
    refine Ev.step (f := fun _ => some (!last)) (fun k => ?_) (Ev.now _)
    rw [impl_isHost.l0, if_neg (by omega)]
    congr 1
    rcases he rfl with h0 | h0
    · subst h0
      have : last = true := hl.2 (.inl rfl)
      subst this
      have e : s.data.toList = [] := by simpa using h
      have e2 : s.toList = [] := by rw [ByteArray.toList_eq]; exact e
      rw [e2]; rfl
    · subst h0
      have e2 : ¬ s.toList = [] := by
        intro c
        rw [ByteArray.toList_eq] at c
        have : s.size = 0 := by rw [size_len, c]; rfl
        have hi0 : i = 0 := by omega
        have := hl.2 (.inl hi0)
        cases this
      have : (s.toList != ([] : List UInt8)) = true := bne_iff_ne.mpr e2
      rw [this]; rfl
  | b :: l, i, last, h, hl, he, hi => by
    obtain ⟨h1, h2, h3⟩ := drop_cons h
    have w1 : wrap64 ((i : Int) + 1) = ((i + 1 : Nat) : Int) := by rw [wr (by omega) (by omega)]; rfl
    have z1 : ((b.toNat : Int) = 45) = (b.toNat = 45) := propext (by omega)
    have z3 : ((b.toNat : Int) = 46) = (b.toNat = 46) := propext (by omega)
    have hb : bt s (((i + 1) - 1 : Nat) : Int) = (b.toNat : Int) := by rw [Nat.add_sub_cancel]; exact h2
    by_cases a : lowB b = true ∨ digB b = true
    · have hp : ¬ lastOf s (i + 1) := by
        rintro (h0 | h0 | h0)
        · omega
        · rw [hb] at h0; have : b.toNat = 45 := by omega
          simp [lowB, digB, this] at a
        · rw [hb] at h0; have : b.toNat = 46 := by omega
          simp [lowB, digB, this] at a
      have r0 := host_impl_loop s hs l (i + 1) false h3 ⟨fun c => (by cases c), fun c => absurd c hp⟩ (fun _ => .inr rfl) (by omega)
      rw [hostB, if_pos a]
      refine Ev.step (f := fun k => impl_isHost.j1 k s (i : Int) (b.toNat : Int) (s.size : Int) (i : Int) true) (fun k => ?_) ?_
      · rw [impl_isHost.l0, if_pos (by omega), if_pos (by omega), if_pos (by omega), h2, low_is, dig_is]
        simp only [Option.bind_some]
        by_cases c : lowB b = true
        · rw [if_pos c]
        · rw [if_neg c]
          have : digB b = true := by rcases a with a | a; exact absurd a c; exact a
          rw [this]
      · exact Ev.step (f := fun k => impl_isHost.l0 k s (s.size : Int) ((i + 1 : Nat) : Int)) (fun k => by rw [impl_isHost.j1, if_pos rfl, w1]) r0
    · have c1 : lowB b = false := by cases e : lowB b; rfl; exact absurd (.inl e) a
      have c2 : digB b = false := by cases e : digB b; rfl; exact absurd (.inr e) a
      rw [hostB, if_neg a]
      refine Ev.step (f := fun k => impl_isHost.j1 k s (i : Int) (b.toNat : Int) (s.size : Int) (i : Int) false) (fun k => ?_) ?_
      · rw [impl_isHost.l0, if_pos (by omega), if_pos (by omega), if_pos (by omega), h2, low_is, dig_is]
        simp only [Option.bind_some, c1, c2, Bool.false_eq_true, if_false]
      by_cases sp : sepB b = true
      · -- a point or a stroke
        have hw : wrap64 ((s.size : Int) - 1) = (s.size : Int) - 1 := wr (by omega) (by omega)
        have core : ∀ k, impl_isHost.j1 (k + 1) s (i : Int) (b.toNat : Int) (s.size : Int) (i : Int) false = (if i = 0 then some false else if i + 1 = s.size then some false else if bt s ((i - 1 : Nat) : Int) = 45 ∨ bt s ((i - 1 : Nat) : Int) = 46 then some false else impl_isHost.l0 k s (s.size : Int) ((i + 1 : Nat) : Int)) := fun k => by
          have body : ∀ i0 : ¬ i = 0, (if 0 ≤ wrap64 ((i : Int) - 1) then (if wrap64 ((i : Int) - 1) < (s.size : Int) then (if bt s (wrap64 ((i : Int) - 1)) = 45 then some false else (if bt s (wrap64 ((i : Int) - 1)) = 46 then some false else impl_isHost.l0 k s (s.size : Int) (wrap64 ((i : Int) + 1)))) else none) else none) = (if bt s ((i - 1 : Nat) : Int) = 45 ∨ bt s ((i - 1 : Nat) : Int) = 46 then some false else impl_isHost.l0 k s (s.size : Int) ((i + 1 : Nat) : Int)) := fun i0 => by
            have e : wrap64 ((i : Int) - 1) = ((i - 1 : Nat) : Int) := by rw [wr (by omega) (by omega)]; omega
            rw [e, if_pos (by omega), if_pos (by omega), w1]
            by_cases p : bt s ((i - 1 : Nat) : Int) = 45
            · rw [if_pos p, if_pos (.inl p)]
            · rw [if_neg p]
              by_cases q : bt s ((i - 1 : Nat) : Int) = 46
              · rw [if_pos q, if_pos (.inr q)]
              · rw [if_neg q, if_neg (by rintro (h | h) <;> contradiction)]
          rw [impl_isHost.j1]
          simp only [Bool.false_eq_true, if_false, z1, z3, hw]
          have arm : (if (i : Int) = 0 then some false else (if (i : Int) = (s.size : Int) - 1 then some false else (if 0 ≤ wrap64 ((i : Int) - 1) then (if wrap64 ((i : Int) - 1) < (s.size : Int) then (if bt s (wrap64 ((i : Int) - 1)) = 45 then some false else (if bt s (wrap64 ((i : Int) - 1)) = 46 then some false else impl_isHost.l0 k s (s.size : Int) (wrap64 ((i : Int) + 1)))) else none) else none))) = (if i = 0 then some false else if i + 1 = s.size then some false else if bt s ((i - 1 : Nat) : Int) = 45 ∨ bt s ((i - 1 : Nat) : Int) = 46 then some false else impl_isHost.l0 k s (s.size : Int) ((i + 1 : Nat) : Int)) := by
            by_cases i0 : i = 0
            · rw [if_pos (by omega), if_pos i0]
            · rw [if_neg (by omega), if_neg i0]
              by_cases i1 : i + 1 = s.size
              · rw [if_pos (by omega), if_pos i1]
              · rw [if_neg (by omega), if_neg i1]; exact body i0
          by_cases e1 : b.toNat = 45
          · rw [if_pos e1]; exact arm
          · have e2 : b.toNat = 46 := by simpa [sepB, e1] using sp
            rw [if_neg e1, if_pos e2]; exact arm
        have hlast : lastOf s (i + 1) := by
          right; rw [hb]
          have : b.toNat = 45 ∨ b.toNat = 46 := by simpa [sepB] using sp
          omega
        by_cases hp : last = true
        · rw [if_pos hp]
          refine Ev.step (f := fun _ => some false) (fun k => ?_) (Ev.now _)
          rw [core]
          by_cases i0 : i = 0
          · rw [if_pos i0]
          · rw [if_neg i0]
            by_cases i1 : i + 1 = s.size
            · rw [if_pos i1]
            · rw [if_neg i1]
              have : bt s ((i - 1 : Nat) : Int) = 45 ∨ bt s ((i - 1 : Nat) : Int) = 46 := by
                rcases hl.1 hp with h | h
                · exact absurd h i0
                · exact h
              rw [if_pos this]
        · rw [if_neg hp, if_pos sp]
          have i0 : ¬ i = 0 := fun c => hp (hl.2 (.inl c))
          have np : ¬ (bt s ((i - 1 : Nat) : Int) = 45 ∨ bt s ((i - 1 : Nat) : Int) = 46) := fun c => hp (hl.2 (.inr c))
          by_cases i1 : i + 1 = s.size
          · have hle : l = [] := by
              rw [← h3]; exact List.drop_eq_nil_of_le (by rw [← size_len]; omega)
            subst hle
            exact Ev.step (f := fun _ => some false) (fun k => by rw [core, if_neg i0, if_pos i1]) (Ev.now _)
          · have hne : l = [] → i + 1 = 0 ∨ true = false := fun c => by
              subst c
              have := drop_nil h3
              omega
            have r1 := host_impl_loop s hs l (i + 1) true h3 ⟨fun _ => hlast, fun _ => rfl⟩ hne (by omega)
            exact Ev.step (f := fun k => impl_isHost.l0 k s (s.size : Int) ((i + 1 : Nat) : Int)) (fun k => by rw [core, if_neg i0, if_neg i1, if_neg np]) r1
      · have e1 : ¬ b.toNat = 45 := fun c => sp (by simp [sepB, c])
        have e2 : ¬ b.toNat = 46 := fun c => sp (by simp [sepB, c])
        have : (if last = true then false else if sepB b = true then hostB true l else false) = false := by rw [if_neg sp]; split <;> rfl
        rw [this]
        refine Ev.step (f := fun _ => some false) (fun k => ?_) (Ev.now _)
        rw [impl_isHost.j1]
        simp only [Bool.false_eq_true, if_false, z1, z3, if_neg e1, if_neg e2]
theorem host_impl (s : ByteArray) (hs : s.size ≤ 2000000) : Ev (fun k => impl_isHost.f k s) (hostB true s.data.toList) := by
  unfold impl_isHost.f
  exact host_impl_loop s hs s.data.toList 0 true (by simp) ⟨fun _ => .inl rfl, fun _ => rfl⟩ (fun _ => .inl rfl) (by omega)
theorem strOfNums_size (a : List Int) : (strOfNums a).size = a.length := by
  simp [strOfNums, ByteArray.size]
def itoaB (n : Int) : ByteArray := ⟨(Lib.itoa n).toArray⟩
theorem itoa_is (n : Int) (h0 : -9223372036854775808 ≤ n) (h1 : n ≤ 9223372036854775807) : strconv_Itoa.f n = some (itoaB n) := by
  unfold strconv_Itoa.f itoaB
  rw [if_pos ⟨h0, h1⟩]
theorem itoaB_size (n : Int) (h0 : -9223372036854775808 ≤ n) (h1 : n ≤ 9223372036854775807) : (itoaB n).size ≤ 21 := by
  have := Lib.itoa_length_le n h0 h1
  simpa [itoaB, ByteArray.size] using this
theorem bytes_join (a b : List UInt8) : (⟨(a ++ b).toArray⟩ : ByteArray) = (⟨a.toArray⟩ : ByteArray) ++ (⟨b.toArray⟩ : ByteArray) := by
  apply ByteArray.ext
  rw [ByteArray.data_append]
  simp
theorem nDigits_mono (u : Nat) (h : u < 18446744073709551616) : (Lib.decDigits u).length ≤ 20 := by
  rw [Lib.decDigits_length]; exact Lib.nDigits_le20 u h
theorem digits_nat : ∀ (u : Nat), u ≤ 9223372036854775807 → Ev (fun k => spec_l00Digits.f k (u : Int)) (⟨(Lib.decDigits u).toArray⟩ : ByteArray) := by
  intro u
  induction u using Nat.strongRecOn with
  | _ u ih =>
  intro hu
  by_cases h : u < 10
  · refine Ev.step (f := fun _ => some (⟨(Lib.decDigits u).toArray⟩ : ByteArray)) (fun k => ?_) (Ev.now _)
    rw [spec_l00Digits.f, if_neg (by omega), if_neg (by omega), if_pos (by omega), wr (by omega) (by omega), Lib.decDigits_one h]
    have e : ((48 + (u : Int)) % 256).toNat = 48 + u := by omega
    simp [strOfNums, e]
  · have hd : Int.tdiv (u : Int) 10 = ((u / 10 : Nat) : Int) := by rw [Int.tdiv_eq_ediv_of_nonneg (by omega)]; omega
    have hm : Int.tmod (u : Int) 10 = ((u % 10 : Nat) : Int) := by rw [Int.tmod_eq_emod_of_nonneg (by omega)]; omega
    have hl := nDigits_mono (u / 10) (by omega)
    refine Ev.step (f := fun k => (spec_l00Digits.f k ((u / 10 : Nat) : Int)).bind fun t => if t.size + 1 ≤ 9223372036854775807 then some (t ++ (⟨#[UInt8.ofNat (48 + u % 10)]⟩ : ByteArray)) else none) (fun k => ?_) (Ev.bind (ih (u / 10) (by omega) (by omega)) ?_)
    · rw [spec_l00Digits.f, if_neg (by omega), if_neg (by omega), if_neg (by omega), hd, hm, wr (x := ((u / 10 : Nat) : Int)) (by omega) (by omega), wr (x := 48 + ((u % 10 : Nat) : Int)) (by omega) (by omega)]
      have e : ((48 + ((u % 10 : Nat) : Int)) % 256).toNat = 48 + u % 10 := by omega
      have e2 : strOfNums [(48 + ((u % 10 : Nat) : Int)) % 256] = (⟨#[UInt8.ofNat (48 + u % 10)]⟩ : ByteArray) := by simp only [strOfNums, List.map_cons, List.map_nil, e]
      simp only [Option.bind_some, e2]
      rfl
    · have hs : (⟨(Lib.decDigits (u / 10)).toArray⟩ : ByteArray).size + 1 ≤ 9223372036854775807 := by simp only [ByteArray.size, List.size_toArray]; omega
      simp only [if_pos hs]
      have : (⟨(Lib.decDigits u).toArray⟩ : ByteArray) = (⟨(Lib.decDigits (u / 10)).toArray⟩ : ByteArray) ++ (⟨#[UInt8.ofNat (48 + u % 10)]⟩ : ByteArray) := by
        conv => lhs; rw [Lib.decDigits, dif_neg h]
        exact bytes_join _ _
      rw [this]
      exact Ev.now _
theorem digits_is (n : Int) (h0 : -9223372036854775808 ≤ n) (h1 : n ≤ 9223372036854775807) : Ev (fun k => spec_l00Digits.f k n) (itoaB n) := by
  unfold itoaB
  by_cases hm : n = -9223372036854775808
  · subst hm
    refine Ev.step (f := fun _ => some (⟨(Lib.itoa (-9223372036854775808)).toArray⟩ : ByteArray)) (fun k => ?_) (Ev.now _)
    rw [spec_l00Digits.f, if_pos rfl]
    have : Lib.itoa (-9223372036854775808) = [45, 57, 50, 50, 51, 51, 55, 50, 48, 51, 54, 56, 53, 52, 55, 55, 53, 56, 48, 56] := by
      unfold Lib.itoa
      rw [if_pos (by omega)]
      simp [Lib.decDigits]
    rw [this]
  by_cases hn : n < 0
  · obtain ⟨u, rfl⟩ : ∃ u : Nat, n = -(u : Int) := ⟨n.natAbs, by omega⟩
    rw [Lib.itoa_neg u (by omega)]
    refine Ev.step (f := fun k => (spec_l00Digits.f k (u : Int)).bind fun t => if 1 + t.size ≤ 9223372036854775807 then some ((⟨#[45]⟩ : ByteArray) ++ t) else none) (fun k => ?_) (Ev.bind (digits_nat u (by omega)) ?_)
    · rw [spec_l00Digits.f, if_neg hm, if_pos hn, Int.neg_neg, wr (by omega) (by omega)]
    · have hl := nDigits_mono u (by omega)
      have hs : 1 + (⟨(Lib.decDigits u).toArray⟩ : ByteArray).size ≤ 9223372036854775807 := by simp only [ByteArray.size, List.size_toArray]; omega
      simp only [if_pos hs]
      have : (⟨(45 :: Lib.decDigits u).toArray⟩ : ByteArray) = (⟨#[45]⟩ : ByteArray) ++ (⟨(Lib.decDigits u).toArray⟩ : ByteArray) := bytes_join [45] _
      rw [this]
      exact Ev.now _
  · obtain ⟨u, rfl⟩ : ∃ u : Nat, n = u := ⟨n.toNat, by omega⟩
    rw [Lib.itoa_nonneg]
    exact digits_nat u (by omega)
theorem decimal_is (n : Int) (h0 : -9223372036854775808 ≤ n) (h1 : n ≤ 9223372036854775807) : impl_decimal.f n = some (itoaB n) := by
  unfold impl_decimal.f
  rw [itoa_is n h0 h1]; rfl
def webB (s : ByteArray) : Bool := decide (s.toList = ([104, 116, 116, 112] : List UInt8)) || (s.toList == ([104, 116, 116, 112, 115] : List UInt8))
theorem web_spec (s : ByteArray) : spec_l01Web.f s = some (webB s) := by
  unfold spec_l01Web.f webB
  by_cases h : s.toList = ([104, 116, 116, 112] : List UInt8)
  · rw [if_pos h, decide_eq_true h]; rfl
  · rw [if_neg h, decide_eq_false h, Bool.false_or]
theorem web_impl (s a b : ByteArray) (p : Int) (c d e : ByteArray) (f g : Bool) : impl_Url_web.f s a b p c d e f g = some (webB s) := by
  unfold impl_Url_web.f webB
  by_cases h : s.toList = ([104, 116, 116, 112] : List UInt8)
  · rw [if_pos h, decide_eq_true h]; rfl
  · rw [if_neg h, decide_eq_false h, Bool.false_or]
theorem b_assoc (a b c : ByteArray) : a ++ b ++ c = a ++ (b ++ c) := by
  apply ByteArray.ext
  simp only [ByteArray.data_append, Array.append_assoc]
theorem b_nil (a : ByteArray) : a ++ (⟨#[]⟩ : ByteArray) = a := by
  apply ByteArray.ext
  simp only [ByteArray.data_append, Array.append_empty]
theorem b_extract (a b : ByteArray) (n : Nat) (h : a.size = n) : (a ++ b).extract n (a ++ b).size = b := by
  subst h
  apply ByteArray.ext
  apply Array.toList_inj.1
  rw [ByteArray.data_extract, Array.toList_extract, ByteArray.data_append, Array.toList_append, List.extract_eq_take_drop]
  have h1 : a.size = a.data.toList.length := size_len a
  have h2 : (a ++ b).size = a.data.toList.length + b.data.toList.length := by rw [ByteArray.size_append, size_len a, size_len b]
  rw [h1, h2, List.drop_left, Nat.add_sub_cancel_left, List.take_length]
def tailB (hq : Bool) (q : ByteArray) (hf : Bool) (fr x : ByteArray) : ByteArray :=
  if hq = true then (if hf = true then x ++ ((⟨#[63]⟩ : ByteArray) ++ q) ++ ((⟨#[35]⟩ : ByteArray) ++ fr) else x ++ ((⟨#[63]⟩ : ByteArray) ++ q)) else (if hf = true then x ++ ((⟨#[35]⟩ : ByteArray) ++ fr) else x)
def headB (sch user : ByteArray) : ByteArray :=
  if user.toList = ([] : List UInt8) then sch ++ (⟨#[58, 47, 47]⟩ : ByteArray) else sch ++ (⟨#[58, 47, 47]⟩ : ByteArray) ++ (user ++ (⟨#[64]⟩ : ByteArray))
def urlT (sch user host P path q fr : ByteArray) (hq hf : Bool) : ByteArray :=
  if webB sch = true then tailB hq q hf fr (headB sch user ++ (host ++ P ++ path)) else sch ++ (⟨#[58]⟩ : ByteArray) ++ path
def portS (p : Int) : ByteArray := if p > 0 then (⟨#[58]⟩ : ByteArray) ++ itoaB p else ⟨#[]⟩
def portI (p : Int) : ByteArray := if p = 0 then ⟨#[]⟩ else (⟨#[58]⟩ : ByteArray) ++ itoaB p
theorem c3_size : (⟨#[58, 47, 47]⟩ : ByteArray).size = 3 := rfl
theorem c1_size (b : UInt8) : (⟨#[b]⟩ : ByteArray).size = 1 := rfl
theorem c0_size : (⟨#[]⟩ : ByteArray).size = 0 := rfl
theorem portS_size (p : Int) (h0 : -9223372036854775808 ≤ p) (h1 : p ≤ 9223372036854775807) : (portS p).size ≤ 22 := by
  unfold portS
  split
  · have := itoaB_size p h0 h1; rw [ByteArray.size_append, c1_size]; omega
  · rw [c0_size]; omega
theorem site_spec (host : ByteArray) (p : Int) (hh : host.size ≤ 2000000) (h0 : -9223372036854775808 ≤ p) (h1 : p ≤ 9223372036854775807) : Ev (fun k => spec_l01Site.f k (⟨#[]⟩ : ByteArray) (⟨#[]⟩ : ByteArray) host p (⟨#[]⟩ : ByteArray) (⟨#[]⟩ : ByteArray) (⟨#[]⟩ : ByteArray) false false) (((⟨#[]⟩ : ByteArray) ++ (⟨#[58, 47, 47]⟩ : ByteArray)) ++ (host ++ portS p)) := by
  have d := itoaB_size p h0 h1
  have e := digits_is p h0 h1
  have cs1 : (⟨#[]⟩ : ByteArray).size = 0 := rfl
  have cs2 : (⟨#[58, 47, 47]⟩ : ByteArray).size = 3 := rfl
  have cs3 : (⟨#[58]⟩ : ByteArray).size = 1 := rfl
  have c1 : (⟨#[]⟩ : ByteArray).size + 3 ≤ 9223372036854775807 := by (try simp only [ByteArray.size_append, cs1, cs2, cs3]); omega
  have c2 : ((⟨#[]⟩ : ByteArray) ++ (⟨#[58, 47, 47]⟩ : ByteArray)).size + host.size ≤ 9223372036854775807 := by (try simp only [ByteArray.size_append, cs1, cs2, cs3]); omega
  have c3 : 1 + (itoaB p).size ≤ 9223372036854775807 := by (try simp only [ByteArray.size_append, cs1, cs2, cs3]); omega
  have c4 : (((⟨#[]⟩ : ByteArray) ++ (⟨#[58, 47, 47]⟩ : ByteArray)) ++ host).size + ((⟨#[58]⟩ : ByteArray) ++ (itoaB p)).size ≤ 9223372036854775807 := by (try simp only [ByteArray.size_append, cs1, cs2, cs3]); omega
  unfold spec_l01Site.f portS
  simp only [if_pos c1, if_pos c2, if_pos c3, if_pos c4]
  by_cases hpos : p > 0
  · simp only [if_pos hpos]
    refine Ev.bind e ?_
    simp only [if_pos c1, if_pos c2, if_pos c3, if_pos c4]
    rw [← b_assoc _ host]
    exact Ev.now _
  · simp only [if_neg hpos, b_nil]
    exact Ev.now _
theorem text_impl_j1 (sch user host path q fr : ByteArray) (p : Int) (hq hf : Bool) (hp : path.size ≤ 2000000) (hqs : q.size ≤ 2000000) (hfs : fr.size ≤ 2000000) (x3 : ByteArray) (hx : x3.size ≤ 20000000) : Ev (fun k => impl_Url_text.j1 k x3 sch user host p path q fr hq hf) (tailB hq q hf fr (x3 ++ path)) := by
  have cs1 : (⟨#[63]⟩ : ByteArray).size = 1 := rfl
  have cs2 : (⟨#[35]⟩ : ByteArray).size = 1 := rfl
  have c1 : x3.size + path.size ≤ 9223372036854775807 := by (try simp only [ByteArray.size_append, cs1, cs2]); omega
  have c2 : 1 + q.size ≤ 9223372036854775807 := by (try simp only [ByteArray.size_append, cs1, cs2]); omega
  have c3 : (x3 ++ path).size + ((⟨#[63]⟩ : ByteArray) ++ q).size ≤ 9223372036854775807 := by (try simp only [ByteArray.size_append, cs1, cs2]); omega
  have c4 : 1 + fr.size ≤ 9223372036854775807 := by (try simp only [ByteArray.size_append, cs1, cs2]); omega
  have c5 : ((x3 ++ path) ++ ((⟨#[63]⟩ : ByteArray) ++ q)).size + ((⟨#[35]⟩ : ByteArray) ++ fr).size ≤ 9223372036854775807 := by (try simp only [ByteArray.size_append, cs1, cs2]); omega
  have c6 : (x3 ++ path).size + ((⟨#[35]⟩ : ByteArray) ++ fr).size ≤ 9223372036854775807 := by (try simp only [ByteArray.size_append, cs1, cs2]); omega
  refine Ev.step (f := fun _ => some (tailB hq q hf fr (x3 ++ path))) (fun k => ?_) (Ev.now _)
  rw [impl_Url_text.j1]
  unfold tailB
  cases hq <;> cases hf <;> simp only [Bool.false_eq_true, if_false, if_true, if_pos c1, if_pos c2, if_pos c3, if_pos c4, if_pos c5, if_pos c6]
theorem text_spec_j0 (sch user host path q fr : ByteArray) (p : Int) (hq hf : Bool) (hh : host.size ≤ 2000000) (hp : path.size ≤ 2000000) (hqs : q.size ≤ 2000000) (hfs : fr.size ≤ 2000000) (h0 : -9223372036854775808 ≤ p) (h1 : p ≤ 9223372036854775807) (x3 : ByteArray) (hx : x3.size ≤ 8000000) : Ev (fun k => spec_l01Text.j0 k x3 sch user host p path q fr hq hf) (tailB hq q hf fr (x3 ++ (host ++ portS p ++ path))) := by
  have d := portS_size p h0 h1
  have ex : ((((⟨#[]⟩ : ByteArray) ++ (⟨#[58, 47, 47]⟩ : ByteArray)) ++ (host ++ portS p)).extract 3 (((⟨#[]⟩ : ByteArray) ++ (⟨#[58, 47, 47]⟩ : ByteArray)) ++ (host ++ portS p)).size) = host ++ portS p := b_extract _ _ 3 rfl
  have g3 : (3 : Int) ≤ ((((⟨#[]⟩ : ByteArray) ++ (⟨#[58, 47, 47]⟩ : ByteArray)) ++ (host ++ portS p)).size : Int) := by simp only [ByteArray.size_append, c3_size, c0_size]; omega
  have cs1 : (⟨#[63]⟩ : ByteArray).size = 1 := rfl
  have cs2 : (⟨#[35]⟩ : ByteArray).size = 1 := rfl
  have c1 : (host ++ portS p).size + path.size ≤ 9223372036854775807 := by (try simp only [ByteArray.size_append, cs1, cs2]); omega
  have c2 : x3.size + ((host ++ portS p) ++ path).size ≤ 9223372036854775807 := by (try simp only [ByteArray.size_append, cs1, cs2]); omega
  have c3 : 1 + q.size ≤ 9223372036854775807 := by (try simp only [ByteArray.size_append, cs1, cs2]); omega
  have c4 : (x3 ++ ((host ++ portS p) ++ path)).size + ((⟨#[63]⟩ : ByteArray) ++ q).size ≤ 9223372036854775807 := by (try simp only [ByteArray.size_append, cs1, cs2]); omega
  have c5 : 1 + fr.size ≤ 9223372036854775807 := by (try simp only [ByteArray.size_append, cs1, cs2]); omega
  have c6 : ((x3 ++ ((host ++ portS p) ++ path)) ++ ((⟨#[63]⟩ : ByteArray) ++ q)).size + ((⟨#[35]⟩ : ByteArray) ++ fr).size ≤ 9223372036854775807 := by (try simp only [ByteArray.size_append, cs1, cs2]); omega
  have c7 : (x3 ++ ((host ++ portS p) ++ path)).size + ((⟨#[35]⟩ : ByteArray) ++ fr).size ≤ 9223372036854775807 := by (try simp only [ByteArray.size_append, cs1, cs2]); omega
  refine Ev.step (f := fun k => spec_l01Text.j0 (k + 1) x3 sch user host p path q fr hq hf) (fun k => rfl) ?_
  simp only [spec_l01Text.j0]
  refine Ev.bind (site_spec host p hh h0 h1) ?_
  simp only [if_pos g3, ex, if_pos c1, if_pos c2, if_pos c3, if_pos c4, if_pos c5, if_pos c6, if_pos c7]
  unfold tailB
  cases hq <;> cases hf <;> simp only [Bool.false_eq_true, if_false, if_true, if_pos c1, if_pos c2, if_pos c3, if_pos c4, if_pos c5, if_pos c6, if_pos c7] <;> exact Ev.now _
theorem text_impl_j0 (sch user host path q fr : ByteArray) (p : Int) (hq hf : Bool) (hh : host.size ≤ 2000000) (hp : path.size ≤ 2000000) (hqs : q.size ≤ 2000000) (hfs : fr.size ≤ 2000000) (h0 : -9223372036854775808 ≤ p) (h1 : p ≤ 9223372036854775807) (x3 : ByteArray) (hx : x3.size ≤ 8000000) : Ev (fun k => impl_Url_text.j0 k x3 sch user host p path q fr hq hf) (tailB hq q hf fr (x3 ++ (host ++ portI p ++ path))) := by
  have d := itoaB_size p h0 h1
  have cs1 : (⟨#[58]⟩ : ByteArray).size = 1 := rfl
  have c1 : x3.size + host.size ≤ 9223372036854775807 := by (try simp only [ByteArray.size_append, cs1]); omega
  have c2 : 1 + (itoaB p).size ≤ 9223372036854775807 := by (try simp only [ByteArray.size_append, cs1]); omega
  have c3 : (x3 ++ host).size + ((⟨#[58]⟩ : ByteArray) ++ (itoaB p)).size ≤ 9223372036854775807 := by (try simp only [ByteArray.size_append, cs1]); omega
  by_cases z : p = 0
  · refine Ev.step (f := fun k => impl_Url_text.j1 k (x3 ++ host) sch user host p path q fr hq hf) (fun k => ?_) ?_
    · rw [impl_Url_text.j0]; simp only [if_pos z, if_pos c1, if_pos c2, if_pos c3]
    · have := text_impl_j1 sch user host path q fr p hq hf hp hqs hfs (x3 ++ host) (by rw [ByteArray.size_append]; omega)
      unfold portI
      rw [if_pos z, b_nil, ← b_assoc]
      exact this
  · refine Ev.step (f := fun k => impl_Url_text.j1 k (x3 ++ host ++ ((⟨#[58]⟩ : ByteArray) ++ itoaB p)) sch user host p path q fr hq hf) (fun k => ?_) ?_
    · rw [impl_Url_text.j0]; simp only [if_neg z, decimal_is p h0 h1, Option.bind_some, if_pos c1, if_pos c2, if_pos c3]
    · have := text_impl_j1 sch user host path q fr p hq hf hp hqs hfs (x3 ++ host ++ ((⟨#[58]⟩ : ByteArray) ++ itoaB p)) (by simp only [ByteArray.size_append, c1_size]; omega)
      unfold portI
      rw [if_neg z, ← b_assoc x3, ← b_assoc x3]
      exact this
section
variable (sch user host path q fr : ByteArray) (p : Int) (hq hf : Bool) (hs : sch.size ≤ 2000000) (hu : user.size ≤ 2000000) (hh : host.size ≤ 2000000) (hp : path.size ≤ 2000000) (hqs : q.size ≤ 2000000) (hfs : fr.size ≤ 2000000) (h0 : -9223372036854775808 ≤ p) (h1 : p ≤ 9223372036854775807)
include hs hu hh hp hqs hfs h0 h1
theorem text_spec : Ev (fun k => spec_l01Text.f k sch user host p path q fr hq hf) (urlT sch user host (portS p) path q fr hq hf) := by
  have cs1 : (⟨#[58, 47, 47]⟩ : ByteArray).size = 3 := rfl
  have cs2 : (⟨#[64]⟩ : ByteArray).size = 1 := rfl
  have cs3 : (⟨#[58]⟩ : ByteArray).size = 1 := rfl
  have c1 : sch.size + 3 ≤ 9223372036854775807 := by (try simp only [ByteArray.size_append, cs1, cs2, cs3]); omega
  have c2 : user.size + 1 ≤ 9223372036854775807 := by (try simp only [ByteArray.size_append, cs1, cs2, cs3]); omega
  have c3 : (sch ++ (⟨#[58, 47, 47]⟩ : ByteArray)).size + (user ++ (⟨#[64]⟩ : ByteArray)).size ≤ 9223372036854775807 := by (try simp only [ByteArray.size_append, cs1, cs2, cs3]); omega
  have c4 : sch.size + 1 ≤ 9223372036854775807 := by (try simp only [ByteArray.size_append, cs1, cs2, cs3]); omega
  have c5 : (sch ++ (⟨#[58]⟩ : ByteArray)).size + path.size ≤ 9223372036854775807 := by (try simp only [ByteArray.size_append, cs1, cs2, cs3]); omega
  unfold spec_l01Text.f urlT
  rw [web_spec]
  simp only [Option.bind_some]
  by_cases w : webB sch = true
  · simp only [if_pos w, if_pos c1, if_pos c2, if_pos c3, if_pos c4, if_pos c5]
    unfold headB
    by_cases u : user.toList = ([] : List UInt8)
    · simp only [if_pos u]
      exact text_spec_j0 sch user host path q fr p hq hf hh hp hqs hfs h0 h1 _ (by simp only [ByteArray.size_append, c3_size]; omega)
    · simp only [if_neg u, if_pos c1, if_pos c2, if_pos c3, if_pos c4, if_pos c5]
      exact text_spec_j0 sch user host path q fr p hq hf hh hp hqs hfs h0 h1 _ (by simp only [ByteArray.size_append, c3_size, c1_size]; omega)
  · simp only [if_neg w, if_pos c1, if_pos c2, if_pos c3, if_pos c4, if_pos c5]
    exact Ev.now _
theorem text_impl : Ev (fun k => impl_Url_text.f k sch user host p path q fr hq hf) (urlT sch user host (portI p) path q fr hq hf) := by
  have cs1 : (⟨#[58, 47, 47]⟩ : ByteArray).size = 3 := rfl
  have cs2 : (⟨#[64]⟩ : ByteArray).size = 1 := rfl
  have cs3 : (⟨#[58]⟩ : ByteArray).size = 1 := rfl
  have c1 : sch.size + 3 ≤ 9223372036854775807 := by (try simp only [ByteArray.size_append, cs1, cs2, cs3]); omega
  have c2 : user.size + 1 ≤ 9223372036854775807 := by (try simp only [ByteArray.size_append, cs1, cs2, cs3]); omega
  have c3 : (sch ++ (⟨#[58, 47, 47]⟩ : ByteArray)).size + (user ++ (⟨#[64]⟩ : ByteArray)).size ≤ 9223372036854775807 := by (try simp only [ByteArray.size_append, cs1, cs2, cs3]); omega
  have c4 : sch.size + 1 ≤ 9223372036854775807 := by (try simp only [ByteArray.size_append, cs1, cs2, cs3]); omega
  have c5 : (sch ++ (⟨#[58]⟩ : ByteArray)).size + path.size ≤ 9223372036854775807 := by (try simp only [ByteArray.size_append, cs1, cs2, cs3]); omega
  unfold impl_Url_text.f urlT
  rw [web_impl]
  simp only [Option.bind_some]
  by_cases w : webB sch = true
  · simp only [if_pos w, if_pos c1, if_pos c2, if_pos c3, if_pos c4, if_pos c5]
    unfold headB
    by_cases u : user.toList = ([] : List UInt8)
    · simp only [if_pos u]
      exact text_impl_j0 sch user host path q fr p hq hf hh hp hqs hfs h0 h1 _ (by simp only [ByteArray.size_append, c3_size]; omega)
    · simp only [if_neg u, if_pos c1, if_pos c2, if_pos c3, if_pos c4, if_pos c5]
      exact text_impl_j0 sch user host path q fr p hq hf hh hp hqs hfs h0 h1 _ (by simp only [ByteArray.size_append, c3_size, c1_size]; omega)
  · simp only [if_neg w, if_pos c1, if_pos c2, if_pos c3, if_pos c4, if_pos c5]
    exact Ev.now _
end
def shownB (s : ByteArray) : Bool := s.data.toList.all goodB
theorem toList_data (s : ByteArray) : s.toList = s.data.toList := ByteArray.toList_eq s
theorem emptyB (s : ByteArray) : (s.toList = ([] : List UInt8)) ↔ s.size = 0 := by
  rw [toList_data, size_len]; exact List.length_eq_zero_iff.symm
theorem beq_nil (s : ByteArray) : (s.toList == ([] : List UInt8)) = decide (s.size = 0) := by
  by_cases h : s.size = 0
  · rw [decide_eq_true h, beq_iff_eq]; exact (emptyB s).2 h
  · rw [decide_eq_false h, beq_eq_false_iff_ne]; exact fun c => h ((emptyB s).1 c)
theorem prefix_is (s : ByteArray) (hs : s.size ≤ 2000000) : strings_HasPrefix.f s (⟨#[47]⟩ : ByteArray) = some (decide (0 < s.size) && (bt s 0 == 47)) := by
  have c1 : (⟨#[47]⟩ : ByteArray).size = 1 := rfl
  unfold strings_HasPrefix.f stringslite_HasPrefix.f
  rw [c1]
  by_cases h : 0 < s.size
  · rw [if_pos (by omega), if_pos (by omega), if_pos (by omega)]
    simp only [Option.bind_some, decide_eq_true h, Bool.true_and]
    congr 1
    have e1 : (s.extract 0 (((1 : Nat) : Int)).toNat).toList = [s.data.toList[0]'(by rw [← size_len]; exact h)] := by
      rw [toList_data, ByteArray.data_extract, Array.toList_extract, List.extract_eq_take_drop]
      show (s.data.toList.drop 0).take 1 = _
      rw [List.drop_zero, List.take_one, List.head?_eq_getElem?, List.getElem?_eq_getElem (by rw [← size_len]; exact h)]
      rfl
    have e2 : (⟨#[47]⟩ : ByteArray).toList = [47] := by rw [toList_data]
    have e3 : bt s 0 = ((s.data.toList[0]'(by rw [← size_len]; exact h)).toNat : Int) := by
      have : s.data.toList.drop 0 = (s.data.toList[0]'(by rw [← size_len]; exact h)) :: s.data.toList.drop 1 := List.drop_eq_getElem_cons (by rw [← size_len]; exact h)
      exact (drop_cons this).2.1
    rw [e1, e2, e3]
    generalize s.data.toList[0]'(by rw [← size_len]; exact h) = b
    by_cases hb : b = 47
    · subst hb; rfl
    · have n1 : ([b] == ([47] : List UInt8)) = false := by rw [beq_eq_false_iff_ne]; intro c; apply hb; simpa using c
      have n2 : ((b.toNat : Int) == 47) = false := by
        rw [beq_eq_false_iff_ne]; intro c; apply hb; apply UInt8.toNat_inj.1; show b.toNat = 47; omega
      rw [n1, n2]
  · rw [if_neg (by omega)]
    simp [h]
theorem hash_is (s : ByteArray) (hg : shownB s = true) : strings_Contains.f s (⟨#[35]⟩ : ByteArray) = some (!onlyB s.data.toList (⟨#[35]⟩ : ByteArray).data.toList) := by
  unfold strings_Contains.f
  rw [if_pos (show (⟨#[35]⟩ : ByteArray).size = 1 from rfl)]
  congr 1
  have e : (⟨#[35]⟩ : ByteArray).data.toList.getD 0 0 = 35 := rfl
  rw [e, ← Lib.contains_iff_indexByte, only_split, show s.data.toList.all goodB = true from hg, Bool.true_and, Bool.not_not, containsAny_eq]
  show s.data.toList.contains 35 = s.data.toList.any fun b => [35].contains b
  rw [List.contains_eq_any_beq]
  congr 1
  funext b
  rw [List.contains_cons, List.contains_nil, Bool.or_false]
  exact BEq.comm
theorem all_append (a b : ByteArray) : shownB (a ++ b) = (shownB a && shownB b) := by
  unfold shownB
  rw [ByteArray.data_append, Array.toList_append, List.all_append]
def urlB (sch user host : ByteArray) (p : Int) (path q fr : ByteArray) (hq hf : Bool) (u : Int) : Bool :=
  (inB (sch.size : Int) 1 12 && schemeB true sch.data.toList) && ((hq || decide (q.size = 0)) && ((hf || decide (fr.size = 0)) && (onlyB path.data.toList [63, 35] && (onlyB q.data.toList [35] && (onlyB fr.data.toList [] && (decide ((urlT sch user host (portS p) path q fr hq hf).size ≤ 100) &&
    (if webB sch = true then onlyB user.data.toList [47, 63, 35, 64] && (hostB true host.data.toList && (inB p 0 65535 && (!decide (p = u) && (decide (0 < path.size) && (bt path 0 == 47))))) else decide (user.size = 0) && (decide (host.size = 0) && (decide (p = 0) && (!hq && !hf))))))))))
section
variable (sch user host path q fr : ByteArray) (p : Int) (hq hf : Bool) (hs : sch.size ≤ 1048576) (hu : user.size ≤ 1048576) (hh : host.size ≤ 1048576) (hp : path.size ≤ 1048576) (hqs : q.size ≤ 1048576) (hfs : fr.size ≤ 1048576) (h0 : -9223372036854775808 ≤ p) (h1 : p ≤ 9223372036854775807)
include hs hu hh hp hqs hfs h0 h1
theorem url_spec (u : Int) (hus : spec_l01Usual.f sch = some u) : Ev (fun k => spec_l01OK.f k sch user host p path q fr hq hf) (urlB sch user host p path q fr hq hf u) := by
  have t := text_spec sch user host path q fr p hq hf (by omega) (by omega) (by omega) (by omega) (by omega) (by omega) h0 h1
  have o1 := only_spec path (⟨#[63, 35]⟩ : ByteArray) (by omega) (by decide)
  have o2 := only_spec q (⟨#[35]⟩ : ByteArray) (by omega) (by decide)
  have o3 := only_spec fr (⟨#[]⟩ : ByteArray) (by omega) (by decide)
  have o4 := only_spec user (⟨#[47, 63, 35, 64]⟩ : ByteArray) (by omega) (by decide)
  have sc := scheme_spec sch (by omega)
  have ho := host_spec host (by omega)
  have dead : ∀ r : Bool, r = false → Ev (fun k => spec_l01OK.j0 k true sch user host p path q fr hq hf) r := fun r hr => by
    subst hr
    exact Ev.step (f := fun _ => some false) (fun k => by rw [spec_l01OK.j0]; simp) (Ev.now _)
  -- behind the text
  have last : ∀ r : Bool, r = (decide ((urlT sch user host (portS p) path q fr hq hf).size ≤ 100) && (if webB sch = true then onlyB user.data.toList [47, 63, 35, 64] && (hostB true host.data.toList && (inB p 0 65535 && (!decide (p = u) && (decide (0 < path.size) && (bt path 0 == 47))))) else decide (user.size = 0) && (decide (host.size = 0) && (decide (p = 0) && (!hq && !hf))))) →
      Ev (fun k => spec_l01OK.j0 k (decide (((urlT sch user host (portS p) path q fr hq hf).size : Int) > 100)) sch user host p path q fr hq hf) r := fun r hr => by
    by_cases hlen : (urlT sch user host (portS p) path q fr hq hf).size ≤ 100
    · rw [decide_eq_true hlen, Bool.true_and] at hr
      rw [show decide (((urlT sch user host (portS p) path q fr hq hf).size : Int) > 100) = false from decide_eq_false (by omega)]
      refine Ev.step (f := fun k => spec_l01OK.j0 (k + 1) false sch user host p path q fr hq hf) (fun k => rfl) ?_
      simp only [spec_l01OK.j0, Bool.false_eq_true, if_false, web_spec, Option.bind_some]
      by_cases w : webB sch = true
      · simp only [if_pos w] at hr ⊢
        refine Ev.bind o4 ?_
        cases hx : onlyB user.data.toList [47, 63, 35, 64]
        · rw [hx] at hr
          subst hr
          have : onlyB user.data.toList (⟨#[47, 63, 35, 64]⟩ : ByteArray).data.toList = false := hx
          simp only [this, Bool.false_eq_true, if_false, Bool.false_and]; exact Ev.now _
        · rw [hx, Bool.true_and] at hr
          have : onlyB user.data.toList (⟨#[47, 63, 35, 64]⟩ : ByteArray).data.toList = true := hx
          simp only [this, if_true]
          refine Ev.bind ho ?_
          cases hy : hostB true host.data.toList
          · rw [hy] at hr; subst hr
            simp only [Bool.false_eq_true, if_false, Bool.false_and]; exact Ev.now _
          · rw [hy, Bool.true_and] at hr
            simp only [if_true, in_is, Option.bind_some, hus]
            cases hz : inB p 0 65535
            · rw [hz] at hr; subst hr
              simp only [Bool.false_eq_true, if_false, Bool.false_and]; exact Ev.now _
            · rw [hz, Bool.true_and] at hr
              simp only [if_true]
              by_cases e : p = u
              · rw [decide_eq_true e] at hr; subst hr
                simp only [if_pos e, Bool.not_true, Bool.false_and]; exact Ev.now _
              · rw [decide_eq_false e, Bool.not_false, Bool.true_and] at hr
                simp only [if_neg e]
                by_cases l : 0 < path.size
                · rw [decide_eq_true l, Bool.true_and] at hr; subst hr
                  have l1 : (path.size : Int) > 0 := by omega
                  have l2 : 0 < (path.size : Int) := by omega
                  simp only [if_pos l1, if_pos l2]; exact Ev.now _
                · rw [decide_eq_false l, Bool.false_and] at hr; subst hr
                  have l1 : ¬ (path.size : Int) > 0 := by omega
                  simp only [if_neg l1]; exact Ev.now _
      · simp only [if_neg w] at hr ⊢
        simp only [emptyB]
        by_cases a : user.size = 0
        · simp only [if_pos a, decide_eq_true a, Bool.true_and] at hr ⊢
          by_cases b : host.size = 0
          · simp only [if_pos b, decide_eq_true b, Bool.true_and] at hr ⊢
            by_cases c : p = 0
            · simp only [if_pos c, decide_eq_true c, Bool.true_and] at hr ⊢
              subst hr
              cases hq <;> simp only [Bool.false_eq_true, if_false, if_true, Bool.not_true, Bool.not_false, Bool.true_and, Bool.false_and] <;> exact Ev.now _
            · simp only [if_neg c, decide_eq_false c, Bool.false_and] at hr ⊢
              subst hr; exact Ev.now _
          · simp only [if_neg b, decide_eq_false b, Bool.false_and] at hr ⊢
            subst hr; exact Ev.now _
        · simp only [if_neg a, decide_eq_false a, Bool.false_and] at hr ⊢
          subst hr; exact Ev.now _
    · rw [decide_eq_false hlen, Bool.false_and] at hr
      rw [show decide (((urlT sch user host (portS p) path q fr hq hf).size : Int) > 100) = true from decide_eq_true (by omega)]
      exact dead r hr
  -- the three parts that are shown
  have mid : ∀ r : Bool, r = (onlyB path.data.toList [63, 35] && (onlyB q.data.toList [35] && (onlyB fr.data.toList [] && (decide ((urlT sch user host (portS p) path q fr hq hf).size ≤ 100) && (if webB sch = true then onlyB user.data.toList [47, 63, 35, 64] && (hostB true host.data.toList && (inB p 0 65535 && (!decide (p = u) && (decide (0 < path.size) && (bt path 0 == 47))))) else decide (user.size = 0) && (decide (host.size = 0) && (decide (p = 0) && (!hq && !hf)))))))) →
      Ev (fun k => (spec_l01Only.f k path (⟨#[63, 35]⟩ : ByteArray)).bind fun t1 => (if t1 = true then ((spec_l01Only.f k q (⟨#[35]⟩ : ByteArray)).bind fun t2 => (if t2 = true then ((spec_l01Only.f k fr (⟨#[]⟩ : ByteArray)).bind fun t3 => (if t3 = true then ((spec_l01Text.f k sch user host p path q fr hq hf).bind fun t4 => (spec_l01OK.j0 k (decide ((t4.size : Int) > 100)) sch user host p path q fr hq hf)) else (spec_l01OK.j0 k true sch user host p path q fr hq hf))) else (spec_l01OK.j0 k true sch user host p path q fr hq hf))) else (spec_l01OK.j0 k true sch user host p path q fr hq hf))) r := fun r hr => by
    refine Ev.bind o1 ?_
    have e1 : onlyB path.data.toList (⟨#[63, 35]⟩ : ByteArray).data.toList = onlyB path.data.toList [63, 35] := rfl
    have e2 : onlyB q.data.toList (⟨#[35]⟩ : ByteArray).data.toList = onlyB q.data.toList [35] := rfl
    have e3 : onlyB fr.data.toList (⟨#[]⟩ : ByteArray).data.toList = onlyB fr.data.toList [] := rfl
    rw [e1]
    cases x1 : onlyB path.data.toList [63, 35]
    · rw [x1, Bool.false_and] at hr
      simp only [Bool.false_eq_true, if_false]; exact dead r hr
    · rw [x1, Bool.true_and] at hr
      simp only [if_true]
      refine Ev.bind o2 ?_
      rw [e2]
      cases x2 : onlyB q.data.toList [35]
      · rw [x2, Bool.false_and] at hr
        simp only [Bool.false_eq_true, if_false]; exact dead r hr
      · rw [x2, Bool.true_and] at hr
        simp only [if_true]
        refine Ev.bind o3 ?_
        rw [e3]
        cases x3 : onlyB fr.data.toList []
        · rw [x3, Bool.false_and] at hr
          simp only [Bool.false_eq_true, if_false]; exact dead r hr
        · rw [x3, Bool.true_and] at hr
          simp only [if_true]
          exact Ev.bind t (last r hr)
  unfold spec_l01OK.f urlB
  refine Ev.bind sc ?_
  cases inB (sch.size : Int) 1 12 && schemeB true sch.data.toList
  · simp only [Bool.false_eq_true, if_false, Bool.false_and]; exact dead _ rfl
  simp only [if_true, Bool.true_and, emptyB]
  cases hq
  · simp only [Bool.false_eq_true, if_false, Bool.false_or]
    by_cases z : q.size = 0
    · simp only [if_pos z, decide_eq_true z, Bool.true_and]
      cases hf
      · simp only [Bool.false_eq_true, if_false, Bool.false_or]
        by_cases y : fr.size = 0
        · simp only [if_pos y, decide_eq_true y, Bool.true_and]; exact mid _ rfl
        · simp only [if_neg y, decide_eq_false y, Bool.false_and]; exact dead _ rfl
      · simp only [if_true, Bool.true_or, Bool.true_and]; exact mid _ rfl
    · simp only [if_neg z, decide_eq_false z, Bool.false_and]; exact dead _ rfl
  · simp only [if_true, Bool.true_or, Bool.true_and]
    cases hf
    · simp only [Bool.false_eq_true, if_false, Bool.false_or]
      by_cases y : fr.size = 0
      · simp only [if_pos y, decide_eq_true y, Bool.true_and]; exact mid _ rfl
      · simp only [if_neg y, decide_eq_false y, Bool.false_and]; exact dead _ rfl
    · simp only [if_true, Bool.true_or, Bool.true_and]; exact mid _ rfl
def implB (sch user host : ByteArray) (p : Int) (path q fr : ByteArray) (hq hf : Bool) (u : Int) : Bool :=
  (inB (sch.size : Int) 1 12 && schemeB true sch.data.toList) && (decide (user.size + host.size + path.size + q.size + fr.size ≤ 100) && (decide ((urlT sch user host (portI p) path q fr hq hf).size ≤ 100) && ((shownB user && shownB host && shownB path && shownB q && shownB fr) && (onlyB path.data.toList [63, 35] &&
    (if webB sch = true then onlyB user.data.toList [47, 63, 35, 64] && (hostB true host.data.toList && (inB p 0 65535 && (!decide (p = u) && ((decide (0 < path.size) && (bt path 0 == 47)) && (onlyB q.data.toList [35] && ((hq || decide (q.size = 0)) && (hf || decide (fr.size = 0)))))))) else decide (user.size = 0) && (decide (host.size = 0) && (decide (p = 0) && (decide (q.size = 0) && (decide (fr.size = 0) && (!hq && !hf))))))))))
theorem url_impl (u : Int) (hus : impl_usual.f sch = some u) : Ev (fun k => impl_UrlOK.f k sch user host p path q fr hq hf) (implB sch user host p path q fr hq hf u) := by
  have t := text_impl sch user host path q fr p hq hf (by omega) (by omega) (by omega) (by omega) (by omega) (by omega) h0 h1
  have sc := scheme_impl sch (by omega)
  have ho := host_impl host (by omega)
  have dead : ∀ r : Bool, r = false → Ev (fun k => impl_UrlOK.j0 k true sch user host p path q fr hq hf) r := fun r hr => by
    subst hr
    exact Ev.step (f := fun _ => some false) (fun k => by rw [impl_UrlOK.j0]; simp) (Ev.now _)
  have last : (shownB user && shownB host && shownB path && shownB q && shownB fr) = true → ∀ r : Bool, r = (onlyB path.data.toList [63, 35] &&
    (if webB sch = true then onlyB user.data.toList [47, 63, 35, 64] && (hostB true host.data.toList && (inB p 0 65535 && (!decide (p = u) && ((decide (0 < path.size) && (bt path 0 == 47)) && (onlyB q.data.toList [35] && ((hq || decide (q.size = 0)) && (hf || decide (fr.size = 0)))))))) else decide (user.size = 0) && (decide (host.size = 0) && (decide (p = 0) && (decide (q.size = 0) && (decide (fr.size = 0) && (!hq && !hf))))))) →
      Ev (fun k => impl_UrlOK.j0 k false sch user host p path q fr hq hf) r := fun hsh r hr => by
    simp only [Bool.and_eq_true] at hsh
    obtain ⟨⟨⟨⟨g1, g2⟩, g3⟩, g4⟩, g5⟩ := hsh
    have ca1 := contains_impl path (⟨#[63, 35]⟩ : ByteArray) (by omega) (by decide) g3 (by decide)
    have ca2 := contains_impl user (⟨#[47, 63, 35, 64]⟩ : ByteArray) (by omega) (by decide) g1 (by decide)
    have ca3 := hash_is q g4
    have px := prefix_is path (by omega)
    have e1 : onlyB path.data.toList (⟨#[63, 35]⟩ : ByteArray).data.toList = onlyB path.data.toList [63, 35] := rfl
    have e2 : onlyB user.data.toList (⟨#[47, 63, 35, 64]⟩ : ByteArray).data.toList = onlyB user.data.toList [47, 63, 35, 64] := rfl
    have e3 : onlyB q.data.toList (⟨#[35]⟩ : ByteArray).data.toList = onlyB q.data.toList [35] := rfl
    rw [e1] at ca1
    rw [e2] at ca2
    rw [e3] at ca3
    refine Ev.step (f := fun k => impl_UrlOK.j0 (k + 1) false sch user host p path q fr hq hf) (fun k => rfl) ?_
    simp only [impl_UrlOK.j0, Bool.false_eq_true, if_false, ca1, web_impl, Option.bind_some]
    cases x1 : onlyB path.data.toList [63, 35]
    · rw [x1, Bool.false_and] at hr; subst hr
      simp only [Bool.not_false, if_true]; exact Ev.now _
    rw [x1, Bool.true_and] at hr
    simp only [Bool.not_true, Bool.false_eq_true, if_false]
    by_cases w : webB sch = true
    · simp only [if_pos w] at hr ⊢
      simp only [ca2, Option.bind_some]
      cases x2 : onlyB user.data.toList [47, 63, 35, 64]
      · rw [x2, Bool.false_and] at hr; subst hr
        simp only [Bool.not_false, if_true]; exact Ev.now _
      rw [x2, Bool.true_and] at hr
      simp only [Bool.not_true, Bool.false_eq_true, if_false]
      refine Ev.bind ho ?_
      cases x3 : hostB true host.data.toList
      · rw [x3, Bool.false_and] at hr; subst hr
        simp only [Bool.false_eq_true, if_false]; exact Ev.now _
      rw [x3, Bool.true_and] at hr
      simp only [if_true, within_is, Option.bind_some, hus]
      cases x4 : inB p 0 65535
      · rw [x4, Bool.false_and] at hr; subst hr
        simp only [Bool.false_eq_true, if_false]; exact Ev.now _
      rw [x4, Bool.true_and] at hr
      simp only [if_true]
      by_cases e : p = u
      · rw [decide_eq_true e, Bool.not_true, Bool.false_and] at hr; subst hr
        simp only [if_pos e]; exact Ev.now _
      rw [decide_eq_false e, Bool.not_false, Bool.true_and] at hr
      simp only [if_neg e, px, Option.bind_some]
      cases x5 : (decide (0 < path.size) && (bt path 0 == 47))
      · rw [x5, Bool.false_and] at hr; subst hr
        simp only [Bool.false_eq_true, if_false]; exact Ev.now _
      rw [x5, Bool.true_and] at hr
      simp only [if_true, ca3, Option.bind_some]
      cases x6 : onlyB q.data.toList [35]
      · rw [x6, Bool.false_and] at hr; subst hr
        simp only [Bool.not_false, if_true]; exact Ev.now _
      rw [x6, Bool.true_and] at hr
      simp only [Bool.not_true, Bool.false_eq_true, if_false, emptyB, beq_nil]
      cases hq
      · simp only [Bool.false_eq_true, if_false]
        by_cases z : q.size = 0
        · rw [decide_eq_true z] at hr
          simp only [if_pos z]
          cases hf
          · simp only [Bool.false_eq_true, if_false]; simp only [Bool.or_true, Bool.true_and, Bool.false_or] at hr; subst hr; exact Ev.now _
          · simp only [if_true]; simp only [Bool.or_true, Bool.true_and, Bool.true_or] at hr; subst hr; exact Ev.now _
        · rw [decide_eq_false z] at hr
          simp only [if_neg z]; simp only [Bool.or_self, Bool.false_and] at hr; subst hr; exact Ev.now _
      · simp only [if_true]
        cases hf
        · simp only [Bool.false_eq_true, if_false]; simp only [Bool.true_or, Bool.true_and, Bool.false_or] at hr; subst hr; exact Ev.now _
        · simp only [if_true]; simp only [Bool.true_or, Bool.true_and] at hr; subst hr; exact Ev.now _
    · simp only [if_neg w] at hr ⊢
      simp only [beq_nil]
      have e0 : (p == 0) = decide (p = 0) := rfl
      rw [e0]
      subst hr; exact Ev.now _
  have total : wrap64 ((wrap64 ((wrap64 ((wrap64 ((user.size : Int) + (host.size : Int))) + (path.size : Int))) + (q.size : Int))) + (fr.size : Int)) = ((user.size + host.size + path.size + q.size + fr.size : Nat) : Int) := by
    rw [wr (x := (user.size : Int) + (host.size : Int)) (by omega) (by omega), wr (x := (user.size : Int) + (host.size : Int) + (path.size : Int)) (by omega) (by omega), wr (x := (user.size : Int) + (host.size : Int) + (path.size : Int) + (q.size : Int)) (by omega) (by omega), wr (by omega) (by omega)]
    omega
  unfold impl_UrlOK.f implB
  refine Ev.bind sc ?_
  cases inB (sch.size : Int) 1 12 && schemeB true sch.data.toList
  · simp only [Bool.false_eq_true, if_false, Bool.false_and]; exact dead _ rfl
  simp only [if_true, Bool.true_and, total]
  by_cases s1 : user.size + host.size + path.size + q.size + fr.size ≤ 100
  rotate_left
  · have : ((user.size + host.size + path.size + q.size + fr.size : Nat) : Int) > 100 := by omega
    simp only [if_pos this, decide_eq_false s1, Bool.false_and]; exact dead _ rfl
  have s1' : ¬ ((user.size + host.size + path.size + q.size + fr.size : Nat) : Int) > 100 := by omega
  simp only [if_neg s1', decide_eq_true s1, Bool.true_and]
  refine Ev.bind t ?_
  by_cases s2 : (urlT sch user host (portI p) path q fr hq hf).size ≤ 100
  rotate_left
  · have : ((urlT sch user host (portI p) path q fr hq hf).size : Int) > 100 := by omega
    simp only [if_pos this, decide_eq_false s2, Bool.false_and]; exact dead _ rfl
  have s2' : ¬ ((urlT sch user host (portI p) path q fr hq hf).size : Int) > 100 := by omega
  simp only [if_neg s2', decide_eq_true s2, Bool.true_and]
  have k1 : user.size + host.size ≤ 9223372036854775807 := by omega
  have k2 : (user ++ host).size + path.size ≤ 9223372036854775807 := by simp only [ByteArray.size_append]; omega
  have k3 : ((user ++ host) ++ path).size + q.size ≤ 9223372036854775807 := by simp only [ByteArray.size_append]; omega
  have k4 : (((user ++ host) ++ path) ++ q).size + fr.size ≤ 9223372036854775807 := by simp only [ByteArray.size_append]; omega
  simp only [if_pos k1, if_pos k2, if_pos k3, if_pos k4]
  have sh := shown_impl ((((user ++ host) ++ path) ++ q) ++ fr) (by simp only [ByteArray.size_append]; omega)
  have se : ((((user ++ host) ++ path) ++ q) ++ fr).data.toList.all goodB = (shownB user && shownB host && shownB path && shownB q && shownB fr) := by
    show shownB ((((user ++ host) ++ path) ++ q) ++ fr) = _
    simp only [all_append]
  rw [se] at sh
  refine Ev.bind sh ?_
  cases hx : (shownB user && shownB host && shownB path && shownB q && shownB fr)
  · simp only [Bool.not_false, Bool.false_and]; exact dead _ rfl
  · simp only [Bool.not_true, Bool.true_and]; exact last hx _ rfl
end
theorem shown_of_only {s : ByteArray} {W : List UInt8} (h : onlyB s.data.toList W = true) : shownB s = true := by
  rw [only_split] at h
  simp only [Bool.and_eq_true] at h
  exact h.1
theorem shown_empty {s : ByteArray} (h : s.size = 0) : shownB s = true := by
  have : s.data.toList = [] := by rw [size_len] at h; exact List.length_eq_zero_iff.1 h
  unfold shownB; rw [this]; rfl
theorem only_empty {s : ByteArray} (W : List UInt8) (h : s.size = 0) : onlyB s.data.toList W = true := by
  have : s.data.toList = [] := by rw [size_len] at h; exact List.length_eq_zero_iff.1 h
  rw [this]; rfl
theorem only_nil {s : ByteArray} (h : shownB s = true) : onlyB s.data.toList [] = true := by
  have e : (s.data.toList.any fun b => ([] : List UInt8).contains b) = false := by rw [List.any_eq_false]; intro x _; simp
  rw [only_split, containsAny_eq, e, show s.data.toList.all goodB = true from h]; rfl
theorem host_good : ∀ (l : List UInt8) (last : Bool), hostB last l = true → l.all goodB = true
  | [], _, _ => rfl
  | b :: l, last, h => by
    rw [hostB] at h
    rw [List.all_cons]
    by_cases a : lowB b = true ∨ digB b = true
    · rw [if_pos a] at h
      have g : goodB b = true := by
        rcases a with a | a <;> simp [lowB, digB, goodB] at a ⊢ <;> omega
      rw [g, host_good l false h]; rfl
    · rw [if_neg a] at h
      by_cases hl : last = true
      · rw [if_pos hl] at h; cases h
      · rw [if_neg hl] at h
        by_cases sp : sepB b = true
        · rw [if_pos sp] at h
          have g : goodB b = true := by simp [sepB] at sp; simp [goodB]; omega
          rw [g, host_good l true h]; rfl
        · rw [if_neg sp] at h; cases h
theorem tail_size (hq : Bool) (q : ByteArray) (hf : Bool) (fr x : ByteArray) : x.size ≤ (tailB hq q hf fr x).size ∧ (hq = true → x.size + q.size ≤ (tailB hq q hf fr x).size) ∧ (hf = true → x.size + fr.size ≤ (tailB hq q hf fr x).size) ∧ (hq = true → hf = true → x.size + q.size + fr.size ≤ (tailB hq q hf fr x).size) := by
  unfold tailB
  cases hq <;> cases hf <;> simp only [Bool.false_eq_true, if_false, if_true, ByteArray.size_append, c1_size, false_implies, true_implies, and_true, true_and] <;> omega
theorem head_size (sch user : ByteArray) : sch.size + user.size ≤ (headB sch user).size := by
  unfold headB
  by_cases h : user.toList = ([] : List UInt8)
  · rw [if_pos h]
    have := (emptyB user).1 h
    simp only [ByteArray.size_append]; omega
  · rw [if_neg h]
    simp only [ByteArray.size_append]; omega
theorem ports_eq {p : Int} (h : 0 ≤ p) : portI p = portS p := by
  unfold portI portS
  by_cases z : p = 0
  · rw [if_pos z, if_neg (by omega)]
  · rw [if_neg z, if_pos (by omega)]
theorem url_eq (sch user host : ByteArray) (p : Int) (path q fr : ByteArray) (hq hf : Bool) (u : Int) : urlB sch user host p path q fr hq hf u = implB sch user host p path q fr hq hf u := by
  apply Bool.eq_iff_iff.2
  unfold urlB implB
  by_cases w : webB sch = true
  · simp only [if_pos w, Bool.and_eq_true, Bool.or_eq_true, decide_eq_true_eq]
    have ts := fun P => tail_size hq q hf fr (headB sch user ++ (host ++ P ++ path))
    have hs := head_size sch user
    constructor
    · rintro ⟨h1, h2, h3, h4, h5, h6, h7, h8, h9, h10, h11, h12, h13⟩
      have hp0 : 0 ≤ p := by simp [inB] at h10; exact h10.1
      rw [ports_eq hp0]
      have h7' := h7
      unfold urlT at h7'
      rw [if_pos w] at h7'
      have t := ts (portS p)
      simp only [ByteArray.size_append] at t
      refine ⟨h1, ?_, h7, ⟨⟨⟨⟨shown_of_only h8, host_good _ _ h9⟩, shown_of_only h4⟩, shown_of_only h5⟩, shown_of_only h6⟩, h4, h8, h9, h10, h11, ⟨h12, h13⟩, h5, h2, h3⟩
      rcases h2 with h2 | h2 <;> rcases h3 with h3 | h3
      · have := t.2.2.2 h2 h3; omega
      · have := t.2.1 h2; omega
      · have := t.2.2.1 h3; omega
      · have := t.1; omega
    · rintro ⟨h1, _, h3, ⟨⟨⟨⟨g1, g2⟩, g3⟩, g4⟩, g5⟩, h4, h5, h6, h7, h8, ⟨h9, h10⟩, h11, h12, h13⟩
      have hp0 : 0 ≤ p := by simp [inB] at h7; exact h7.1
      rw [ports_eq hp0] at h3
      exact ⟨h1, h12, h13, h4, h11, only_nil g5, h3, h5, h6, h7, h8, h9, h10⟩
  · simp only [if_neg w, Bool.and_eq_true, Bool.or_eq_true, decide_eq_true_eq, Bool.not_eq_true']
    have e : ∀ P, urlT sch user host P path q fr hq hf = sch ++ (⟨#[58]⟩ : ByteArray) ++ path := fun P => by unfold urlT; rw [if_neg w]
    simp only [e, ByteArray.size_append, c1_size]
    constructor
    · rintro ⟨h1, h2, h3, h4, h5, h6, h7, h8, h9, h10, h11, h12⟩
      have hq0 : q.size = 0 := by rcases h2 with h2 | h2; (rw [h11] at h2; cases h2); exact h2
      have hf0 : fr.size = 0 := by rcases h3 with h3 | h3; (rw [h12] at h3; cases h3); exact h3
      exact ⟨h1, by omega, h7, ⟨⟨⟨⟨shown_empty h8, shown_empty h9⟩, shown_of_only h4⟩, shown_empty hq0⟩, shown_empty hf0⟩, h4, h8, h9, h10, hq0, hf0, h11, h12⟩
    · rintro ⟨h1, _, h3, _, h4, h8, h9, h10, hq0, hf0, h11, h12⟩
      exact ⟨h1, .inr hq0, .inr hf0, h4, only_empty _ hq0, only_empty _ hf0, h3, h8, h9, h10, h11, h12⟩
theorem url_web {sch user host path q fr : ByteArray} {p u : Int} {hq hf : Bool} (h : urlB sch user host p path q fr hq hf u = true) (w : webB sch = true) : 0 ≤ p ∧ hostB true host.data.toList = true := by
  unfold urlB at h
  rw [if_pos w] at h
  simp only [Bool.and_eq_true] at h
  obtain ⟨_, _, _, _, _, _, _, _, h1, h2, _⟩ := h
  refine ⟨?_, h1⟩
  simp [inB] at h2
  exact h2.1
theorem urlT_ports {sch user host path q fr : ByteArray} {p : Int} {hq hf : Bool} (h : webB sch = true → 0 ≤ p) : urlT sch user host (portI p) path q fr hq hf = urlT sch user host (portS p) path q fr hq hf := by
  by_cases w : webB sch = true
  · rw [ports_eq (h w)]
  · unfold urlT
    rw [if_neg w, if_neg w]
def fnd (s : ByteArray) (c : UInt8) : Nat := s.data.toList.findIdx (· == c)
def cutL (s : ByteArray) (c : UInt8) : ByteArray := s.extract 0 (fnd s c)
def cutH (s : ByteArray) (c : UInt8) : Bool := decide (fnd s c < s.size)
def cutR (s : ByteArray) (c : UInt8) : ByteArray := if fnd s c < s.size then s.extract (fnd s c + 1) s.size else (⟨#[]⟩ : ByteArray)
theorem fnd_le (s : ByteArray) (c : UInt8) : fnd s c ≤ s.size := by
  unfold fnd; rw [size_len]; exact List.findIdx_le_length
theorem ext_size (s : ByteArray) (i j : Nat) : (s.extract i j).size = min j s.size - i := ByteArray.size_extract
theorem ext_all (s : ByteArray) : s.extract 0 s.size = s := by
  apply ByteArray.ext
  apply Array.toList_inj.1
  rw [ByteArray.data_extract, Array.toList_extract, List.extract_eq_take_drop, List.drop_zero, Nat.sub_zero]
  exact List.take_of_length_le (by rw [size_len]; exact Nat.le_refl _)
theorem cutL_none {s : ByteArray} {c : UInt8} (h : ¬ fnd s c < s.size) : cutL s c = s := by
  have := fnd_le s c
  unfold cutL
  rw [show fnd s c = s.size by omega, ext_all]
theorem cutL_size (s : ByteArray) (c : UInt8) : (cutL s c).size ≤ s.size := by unfold cutL; rw [ext_size]; omega
theorem cutR_size (s : ByteArray) (c : UInt8) : (cutR s c).size ≤ s.size := by
  unfold cutR
  split
  · rw [ext_size]; omega
  · rw [c0_size]; omega
theorem fnd_loop (t : ByteArray) (c : UInt8) (ht : t.size ≤ 2000000) : ∀ (l : List UInt8) (i : Nat), i ≤ t.size → t.data.toList.drop i = l → Ev (fun k => spec_l01Find.l0 k t (c.toNat : Int) (i : Int)) (((i + l.findIdx (· == c) : Nat)) : Int)
  | [], i, hi, h => by
    have := drop_nil h
    exact Ev.step (f := fun _ => some (t.size : Int)) (fun k => by rw [spec_l01Find.l0, if_neg (by omega)]) (by rw [List.findIdx_nil, show i + 0 = t.size by omega]; exact Ev.now _)
  | b :: l, i, hi, h => by
    obtain ⟨h1, h2, h3⟩ := drop_cons h
    by_cases e : b = c
    · subst e
      rw [List.findIdx_cons]
      simp only [beq_self_eq_true, cond_true]
      exact Ev.step (f := fun _ => some (i : Int)) (fun k => by rw [spec_l01Find.l0, if_pos (by omega), if_pos (by omega), if_pos h2]) (Ev.now _)
    · have hb : (b == c) = false := by rw [beq_eq_false_iff_ne]; exact e
      have ih := fnd_loop t c ht l (i + 1) (by omega) h3
      rw [List.findIdx_cons, hb, cond_false, show i + (List.findIdx (· == c) l + 1) = i + 1 + List.findIdx (· == c) l by omega]
      refine Ev.step (f := fun k => spec_l01Find.l0 k t (c.toNat : Int) ((i + 1 : Nat) : Int)) (fun k => ?_) ih
      have hne : ¬ bt t (i : Int) = (c.toNat : Int) := by
        rw [h2]; intro hh; apply e; apply UInt8.toNat_inj.1; omega
      rw [spec_l01Find.l0, if_pos (by omega), if_pos (by omega), if_neg hne, wr (by omega) (by omega)]; rfl
theorem find_is (t : ByteArray) (c : UInt8) (ht : t.size ≤ 2000000) : Ev (fun k => spec_l01Find.f k t (c.toNat : Int)) (fnd t c : Int) := by
  have := fnd_loop t c ht t.data.toList 0 (Nat.zero_le _) (by simp)
  rw [Nat.zero_add] at this
  exact this
theorem index_list (c : UInt8) : ∀ l : List UInt8, Lib.indexByte l c = if l.findIdx (· == c) < l.length then ((l.findIdx (· == c) : Nat) : Int) else -1
  | [] => by simp [Lib.indexByte]
  | b :: l => by
    have ih := index_list c l
    rw [Lib.indexByte, List.findIdx_cons]
    by_cases e : (b == c) = true
    · rw [if_pos e, e, cond_true, if_pos (by simp)]; rfl
    · have e' : (b == c) = false := by simpa using e
      rw [if_neg e, e', cond_false, ih]
      by_cases h : l.findIdx (· == c) < l.length
      · have : ((((l.findIdx (· == c) : Nat) : Int)) == -1) = false := by rw [beq_eq_false_iff_ne]; omega
        rw [if_pos h, this, if_neg Bool.false_ne_true, if_pos (by rw [List.length_cons]; omega)]; omega
      · rw [if_neg h, if_pos (by decide), if_neg (by rw [List.length_cons]; omega)]
theorem index_is (s : ByteArray) (c : UInt8) : Lib.indexByte s.data.toList c = if fnd s c < s.size then ((fnd s c : Nat) : Int) else -1 := by
  rw [index_list]; unfold fnd; rw [size_len]
theorem cut_is (s : ByteArray) (c : UInt8) (hs : s.size ≤ 2000000) : strings_Cut.f s (⟨#[c]⟩ : ByteArray) = some (cutL s c, cutR s c, cutH s c) := by
  have hle := fnd_le s c
  have h1 : (⟨#[c]⟩ : ByteArray).size = 1 := rfl
  have e : (⟨#[c]⟩ : ByteArray).data.toList.getD 0 0 = c := rfl
  unfold strings_Cut.f stringslite_Cut.f stringslite_Index.f
  rw [if_pos h1, e, index_is, h1]
  simp only [Option.bind_some]
  by_cases h : fnd s c < s.size
  · have w : wrap64 ((fnd s c : Int) + ((1 : Nat) : Int)) = ((fnd s c + 1 : Nat) : Int) := by rw [wr (by omega) (by omega)]; omega
    simp only [if_pos h, w]
    rw [if_pos (by omega), if_pos (by omega), if_pos (by omega), if_pos (by omega), if_pos (by omega)]
    unfold cutL cutR cutH
    rw [if_pos h, decide_eq_true h]
    rfl
  · simp only [if_neg h]
    rw [if_neg (by omega), cutL_none h]
    unfold cutR cutH
    rw [if_neg h, decide_eq_false h]
    rfl
theorem indexByte_is (s : ByteArray) (c : UInt8) (n : Int) (hn : n = (c.toNat : Int)) : strings_IndexByte.f s n = some (if fnd s c < s.size then ((fnd s c : Nat) : Int) else -1) := by
  subst hn
  unfold strings_IndexByte.f stringslite_IndexByte.f
  have e : ((c.toNat : Int)).toNat.toUInt8 = c := by
    rw [Int.toNat_natCast]; exact UInt8.ofNat_toNat
  rw [e, index_is]
  rfl
theorem strOf_bytes (l : List UInt8) : strOfNums (l.map fun b => (b.toNat : Int)) = (⟨l.toArray⟩ : ByteArray) := by
  have e : (l.map fun b => (b.toNat : Int)).map (fun x : Int => UInt8.ofNat x.toNat) = l := by
    rw [List.map_map]
    conv => rhs; rw [← List.map_id l]
    apply List.map_congr_left
    intro b _
    simp
  unfold strOfNums
  first
  | rw [e]
  | (apply ByteArray.ext; apply Array.toList_inj.1; simpa using e)
theorem lower_loop (t : ByteArray) (ht : t.size ≤ 2000000) : ∀ (l acc : List UInt8) (i : Nat), acc.length = i → t.data.toList.drop i = l → i ≤ t.size → Ev (fun k => spec_l01Lower.l0 k t (acc.map fun b => (b.toNat : Int)) (i : Int)) (⟨(acc ++ l.map low1).toArray⟩ : ByteArray)
  | [], acc, i, ha, h, hi => by
    have := drop_nil h
    rw [List.map_nil, List.append_nil, ← strOf_bytes acc]
    exact Ev.step (f := fun _ => some (strOfNums (acc.map fun b => (b.toNat : Int)))) (fun k => by rw [spec_l01Lower.l0, if_neg (by omega)]) (Ev.now _)
  | b :: l, acc, i, ha, h, hi => by
    obtain ⟨h1, h2, h3⟩ := drop_cons h
    have ih := lower_loop t ht l (acc ++ [low1 b]) (i + 1) (by rw [List.length_append, ha]; rfl) h3 (by omega)
    have hl : (acc.map fun b => (b.toNat : Int)).length = i := by rw [List.length_map, ha]
    have hb := b.toNat_lt
    have e1 : (acc.map fun b => (b.toNat : Int)) ++ [((low1 b).toNat : Int)] = (acc ++ [low1 b]).map fun b => (b.toNat : Int) := by simp
    rw [List.append_assoc] at ih
    have e2 : acc ++ (b :: l).map low1 = acc ++ ([low1 b] ++ l.map low1) := rfl
    rw [e2]
    refine Ev.step (f := fun k => spec_l01Lower.l0 k t ((acc ++ [low1 b]).map fun b => (b.toNat : Int)) ((i + 1 : Nat) : Int)) (fun k => ?_) ih
    have w1 : wrap64 ((i : Int) + 1) = ((i + 1 : Nat) : Int) := by rw [wr (by omega) (by omega)]; rfl
    rw [spec_l01Lower.l0, if_pos (by omega), if_pos (by omega), h2, w1, ← e1]
    by_cases c1 : 65 ≤ b.toNat
    · by_cases c2 : b.toNat ≤ 90
      · have e : ((b.toNat : Int) + 32) % 256 = ((low1 b).toNat : Int) := by
          unfold low1
          rw [if_pos ⟨c1, c2⟩, UInt8.toNat_ofNat']
          omega
        rw [if_pos (by omega), if_pos (by omega), if_pos (by omega), e]
      · have e : low1 b = b := by unfold low1; rw [if_neg (by omega)]
        rw [if_pos (by omega), if_neg (by omega), if_pos (by omega), e]
    · have e : low1 b = b := by unfold low1; rw [if_neg (by omega)]
      rw [if_neg (by omega), if_pos (by omega), e]
theorem lower_spec (t : ByteArray) (ht : t.size ≤ 2000000) : Ev (fun k => spec_l01Lower.f k t) (lowAt t t.size) := by
  have h := lower_loop t ht t.data.toList [] 0 rfl (by simp) (Nat.zero_le _)
  have e : lowAt t t.size = (⟨([] ++ t.data.toList.map low1).toArray⟩ : ByteArray) := by
    unfold lowAt lowL
    rw [List.take_of_length_le (by rw [size_len]; exact Nat.le_refl _), List.drop_eq_nil_of_le (by rw [size_len]; exact Nat.le_refl _), List.append_nil, List.nil_append]
  rw [e]
  exact h
theorem lower_impl (t : ByteArray) (ht : t.size ≤ 2000000) : impl_lower.f t = some (lowAt t t.size) := by
  unfold impl_lower.f
  rw [if_pos (by omega)]
def decVal (l : List UInt8) : Nat := l.foldl (fun a b => a * 10 + (b.toNat - 48)) 0
theorem decVal_digits : ∀ u : Nat, decVal (Lib.decDigits u) = u := by
  intro u
  induction u using Nat.strongRecOn with
  | _ u ih =>
  by_cases h : u < 10
  · rw [Lib.decDigits_one h]
    have : (UInt8.ofNat (48 + u)).toNat = 48 + u := by rw [UInt8.toNat_ofNat']; omega
    simp only [decVal, List.foldl_cons, List.foldl_nil, this]
    omega
  · have e : Lib.decDigits u = Lib.decDigits (u / 10) ++ [UInt8.ofNat (48 + u % 10)] := by rw [Lib.decDigits, dif_neg h]
    have i := ih (u / 10) (by omega)
    have : (UInt8.ofNat (48 + u % 10)).toNat = 48 + u % 10 := by rw [UInt8.toNat_ofNat']; omega
    rw [e]
    unfold decVal at i ⊢
    rw [List.foldl_append, i]
    simp only [List.foldl_cons, List.foldl_nil, this]
    omega
theorem itoa_inj {m n : Int} (hm : 0 ≤ m) (hn : 0 ≤ n) (h : Lib.itoa m = Lib.itoa n) : m = n := by
  obtain ⟨a, rfl⟩ : ∃ a : Nat, m = a := ⟨m.toNat, by omega⟩
  obtain ⟨b, rfl⟩ : ∃ b : Nat, n = b := ⟨n.toNat, by omega⟩
  rw [Lib.itoa_nonneg, Lib.itoa_nonneg] at h
  have := decVal_digits a
  rw [h, decVal_digits b] at this
  omega
def isDig (b : UInt8) : Bool := decide (48 ≤ b.toNat) && decide (b.toNat ≤ 57)
def valFrom (acc : Nat) (l : List UInt8) : Nat := l.foldl (fun a b => a * 10 + (b.toNat - 48)) acc
theorem valFrom_cons (acc : Nat) (b : UInt8) (l : List UInt8) : valFrom acc (b :: l) = valFrom (acc * 10 + (b.toNat - 48)) l := by unfold valFrom; rw [List.foldl_cons]
theorem isDig_iff {b : UInt8} : isDig b = true ↔ 48 ≤ b.toNat ∧ b.toNat ≤ 57 := by simp [isDig]
theorem valFrom_lt : ∀ (l : List UInt8) (acc j : Nat), l.all isDig = true → acc < 10 ^ j → valFrom acc l < 10 ^ (j + l.length)
  | [], acc, j, _, h => h
  | b :: l, acc, j, hd, h => by
    rw [List.all_cons, Bool.and_eq_true] at hd
    have hb := isDig_iff.1 hd.1
    have e : 10 ^ (j + 1) = 10 ^ j * 10 := Nat.pow_succ 10 j
    rw [valFrom_cons, List.length_cons, show j + (l.length + 1) = j + 1 + l.length by omega]
    exact valFrom_lt l _ (j + 1) hd.2 (by omega)
theorem valFrom_ge : ∀ (l : List UInt8) (acc : Nat), acc ≤ valFrom acc l
  | [], _ => Nat.le_refl _
  | b :: l, acc => Nat.le_trans (by omega) (valFrom_ge l (acc * 10 + (b.toNat - 48)))
theorem p18 : (10 : Nat) ^ 18 = 1000000000000000000 := by decide
theorem pow_le {j : Nat} (h : j ≤ 18) : (10 : Nat) ^ j ≤ 1000000000000000000 := by rw [← p18]; exact Nat.pow_le_pow_right (by omega) h
theorem parse_digits : ∀ (l : List UInt8) (acc j : Nat), l.all isDig = true → acc < 10 ^ j → j + l.length ≤ 18 → Lib.parseUint10 acc l = .ok (valFrom acc l)
  | [], acc, j, _, _, _ => rfl
  | b :: l, acc, j, hd, h, hj => by
    rw [List.all_cons, Bool.and_eq_true] at hd
    have hb := isDig_iff.1 hd.1
    rw [List.length_cons] at hj
    have e : 10 ^ (j + 1) = 10 ^ j * 10 := Nat.pow_succ 10 j
    have hp := pow_le (show j + 1 ≤ 18 by omega)
    rw [Lib.parseUint10, if_pos hb, if_neg (by omega), if_neg (by omega), valFrom_cons]
    exact parse_digits l _ (j + 1) hd.2 (by omega) (by omega)
theorem ofNat_dig {b : UInt8} (h : isDig b = true) : UInt8.ofNat (48 + (b.toNat - 48)) = b := by
  have := isDig_iff.1 h
  rw [show 48 + (b.toNat - 48) = b.toNat by omega]
  exact UInt8.ofNat_toNat
theorem dec_of_val : ∀ (n : Nat) (l : List UInt8), l.length = n → l ≠ [] → l.all isDig = true → (∀ r, l ≠ 48 :: r ∨ r = []) → Lib.decDigits (valFrom 0 l) = l := by
  intro n
  induction n with
  | zero => intro l h hne; exact absurd (List.length_eq_zero_iff.1 h) hne
  | succ n ih =>
    intro l hl hne hd hz
    obtain ⟨l', b, rfl⟩ : ∃ l' b, l = l' ++ [b] := ⟨l.dropLast, l.getLast hne, (List.dropLast_concat_getLast hne).symm⟩
    rw [List.all_append, Bool.and_eq_true] at hd
    have hb : isDig b = true := by simpa using hd.2
    have hb' := isDig_iff.1 hb
    have ev : valFrom 0 (l' ++ [b]) = valFrom 0 l' * 10 + (b.toNat - 48) := by unfold valFrom; rw [List.foldl_append]; rfl
    rw [ev]
    by_cases he : l' = []
    · subst he
      show Lib.decDigits (0 * 10 + (b.toNat - 48)) = [b]
      rw [show 0 * 10 + (b.toNat - 48) = b.toNat - 48 by omega, Lib.decDigits_one (by omega), ofNat_dig hb]
    · have hlen : l'.length = n := by rw [List.length_append] at hl; simpa using hl
      have hz' : ∀ r, l' ≠ 48 :: r ∨ r = [] := by
        intro r
        by_cases e : l' = 48 :: r
        · rcases hz (r ++ [b]) with h | h
          · exact absurd (by rw [e]; rfl) h
          · exact absurd h (by simp)
        · exact .inl e
      have hpos : 1 ≤ valFrom 0 l' := by
        cases l' with
        | nil => exact absurd rfl he
        | cons c r =>
          have hc : c ≠ 48 := by
            rintro rfl
            rcases hz (r ++ [b]) with h | h
            · exact h rfl
            · exact absurd h (by simp)
          rw [List.all_cons, Bool.and_eq_true] at hd
          have := isDig_iff.1 hd.1.1
          have hc' : c.toNat ≠ 48 := fun h => hc (UInt8.toNat_inj.1 h)
          rw [valFrom_cons]
          have := valFrom_ge r (0 * 10 + (c.toNat - 48))
          omega
      have e10 : ¬ valFrom 0 l' * 10 + (b.toNat - 48) < 10 := by omega
      have i := ih l' hlen he hd.1 hz'
      rw [Lib.decDigits, dif_neg e10, show (valFrom 0 l' * 10 + (b.toNat - 48)) / 10 = valFrom 0 l' by omega, i, show (valFrom 0 l' * 10 + (b.toNat - 48)) % 10 = b.toNat - 48 by omega, ofNat_dig hb]
theorem dec_digits : ∀ u : Nat, (Lib.decDigits u).all isDig = true ∧ Lib.decDigits u ≠ [] ∧ (∀ r, Lib.decDigits u = 48 :: r → u = 0 ∧ r = []) := by
  intro u
  induction u using Nat.strongRecOn with
  | _ u ih =>
  by_cases h : u < 10
  · have e : (UInt8.ofNat (48 + u)).toNat = 48 + u := by rw [UInt8.toNat_ofNat']; omega
    rw [Lib.decDigits_one h]
    refine ⟨?_, by simp, ?_⟩
    · simp [isDig, e]; omega
    · intro r hr
      injection hr with h1 h2
      have : (UInt8.ofNat (48 + u)).toNat = (48 : UInt8).toNat := by rw [h1]
      rw [e] at this
      exact ⟨by have e48 : (48 : UInt8).toNat = 48 := rfl; omega, h2.symm⟩
  · have e : Lib.decDigits u = Lib.decDigits (u / 10) ++ [UInt8.ofNat (48 + u % 10)] := by rw [Lib.decDigits, dif_neg h]
    have i := ih (u / 10) (by omega)
    have en : (UInt8.ofNat (48 + u % 10)).toNat = 48 + u % 10 := by rw [UInt8.toNat_ofNat']; omega
    rw [e]
    refine ⟨?_, by simp, ?_⟩
    · rw [List.all_append, i.1, Bool.true_and]
      simp [isDig, en]; omega
    · intro r hr
      cases hc : Lib.decDigits (u / 10) with
      | nil => exact absurd hc i.2.1
      | cons c q =>
        rw [hc] at hr
        injection hr with h1 _
        have := (i.2.2 q (by rw [hc, h1])).1
        omega
def canon (neg : Bool) (l : List UInt8) : Bool := decide (l ≠ []) && (decide (l.length ≤ 18) && (!(decide (l.head? = some 48) && (decide (1 < l.length) || neg)) && l.all isDig))
theorem digits_loop (x : ByteArray) (s : Int) (hs : s = 1 ∨ s = -1) (hx : x.size ≤ 18) : ∀ (l : List UInt8) (i acc : Nat), x.data.toList.drop i = l → i + l.length = x.size → acc < 10 ^ i →
    Ev (fun k => spec_l00Number.l0 k x s (acc : Int) (i : Int)) (if l.all isDig = true then (s * (valFrom acc l : Int), true) else (0, false))
  | [], i, acc, h, hi, ha => by
    have hb := pow_le (show i ≤ 18 by rw [List.length_nil] at hi; omega)
    rw [if_pos (show ([] : List UInt8).all isDig = true from rfl)]
    rw [List.length_nil] at hi
    refine Ev.step (f := fun _ => some (s * (acc : Int), true)) (fun k => ?_) (Ev.now _)
    rw [spec_l00Number.l0, if_neg (by omega)]
    rcases hs with rfl | rfl <;> rw [wr (by omega) (by omega)]
  | b :: l, i, acc, h, hi, ha => by
    obtain ⟨h1, h2, h3⟩ := drop_cons h
    rw [List.length_cons] at hi
    have hb := pow_le (show i + 1 ≤ 18 by omega)
    have e10 : 10 ^ (i + 1) = 10 ^ i * 10 := Nat.pow_succ 10 i
    have hbt := b.toNat_lt
    by_cases c : isDig b = true
    · have hc := isDig_iff.1 c
      have ih := digits_loop x s hs hx l (i + 1) (acc * 10 + (b.toNat - 48)) h3 (by omega) (by omega)
      rw [List.all_cons, c, Bool.true_and, valFrom_cons]
      refine Ev.step (f := fun k => spec_l00Number.l0 k x s ((acc * 10 + (b.toNat - 48) : Nat) : Int) ((i + 1 : Nat) : Int)) (fun k => ?_) ih
      rw [spec_l00Number.l0, if_pos (by omega), if_pos (by omega), h2, if_neg (by omega), if_neg (by omega), wr (x := (acc : Int) * 10) (by omega) (by omega), wr (x := (b.toNat : Int)) (by omega) (by omega), wr (x := (acc : Int) * 10 + (b.toNat : Int)) (by omega) (by omega), wr (x := (acc : Int) * 10 + (b.toNat : Int) - 48) (by omega) (by omega), wr (x := (i : Int) + 1) (by omega) (by omega)]
      congr 1
      omega
    · have c' : isDig b = false := by simpa using c
      rw [List.all_cons, c', Bool.false_and, if_neg Bool.false_ne_true]
      have hn : ¬ (48 ≤ b.toNat ∧ b.toNat ≤ 57) := fun h => c (isDig_iff.2 h)
      refine Ev.step (f := fun _ => some (0, false)) (fun k => ?_) (Ev.now _)
      rw [spec_l00Number.l0, if_pos (by omega), if_pos (by omega), h2]
      by_cases d : b.toNat < 48
      · rw [if_pos (by omega)]
      · rw [if_neg (by omega), if_pos (by omega)]
theorem first_bt {t : ByteArray} {b : UInt8} {r : List UInt8} (h : t.data.toList = b :: r) : 0 < t.size ∧ bt t 0 = (b.toNat : Int) := by
  have := drop_cons (s := t) (i := 0) (b := b) (l := r) (by rw [List.drop_zero]; exact h)
  exact ⟨this.1, this.2.1⟩
theorem j2_bad (x : ByteArray) (s : Int) : Ev (fun k => spec_l00Number.j2 k x s true) (0, false) :=
  Ev.step (f := fun _ => some (0, false)) (fun k => by rw [spec_l00Number.j2]; simp) (Ev.now _)
theorem j2_good (x : ByteArray) (s : Int) (hs : s = 1 ∨ s = -1) (hx : x.size ≤ 18) : Ev (fun k => spec_l00Number.j2 k x s false) (if x.data.toList.all isDig = true then (s * (valFrom 0 x.data.toList : Int), true) else (0, false)) := by
  refine Ev.step (f := fun k => spec_l00Number.l0 k x s ((0 : Nat) : Int) ((0 : Nat) : Int)) (fun k => by rw [spec_l00Number.j2]; simp) ?_
  exact digits_loop x s hs hx x.data.toList 0 0 (by simp) (by rw [Nat.zero_add, size_len]) (by decide)
theorem j1_is (x : ByteArray) (neg : Bool) (s : Int) (hs : s = if neg = true then -1 else 1) (hx : x.size ≤ 2000000) : Ev (fun k => spec_l00Number.j1 k x s) (if canon neg x.data.toList = true then (s * (valFrom 0 x.data.toList : Int), true) else (0, false)) := by
  have hs' : s = 1 ∨ s = -1 := by cases neg <;> simp at hs <;> omega
  have hl := size_len x
  cases hc : x.data.toList with
  | nil =>
    rw [hc, List.length_nil] at hl
    have e : canon neg [] = false := by simp [canon]
    rw [e, if_neg Bool.false_ne_true]
    exact Ev.step (f := fun k => spec_l00Number.j2 k x s true) (fun k => by rw [spec_l00Number.j1, if_pos (by omega)]) (j2_bad x s)
  | cons b r =>
    obtain ⟨h0, hb⟩ := first_bt hc
    rw [hc] at hl
    by_cases h18 : x.size ≤ 18
    · have e1 : decide ((b :: r) ≠ []) = true := by simp
      have e2 : decide ((b :: r).length ≤ 18) = true := decide_eq_true (by omega)
      have ec : canon neg (b :: r) = (!(decide (b = 48) && (decide (1 < (b :: r).length) || neg)) && (b :: r).all isDig) := by
        unfold canon
        rw [e1, e2, Bool.true_and, Bool.true_and]
        congr 4
        simp
      have good := j2_good x s hs' h18
      rw [hc] at good
      rw [ec]
      by_cases h48 : b = 48
      · have hb48 : bt x 0 = 48 := by rw [hb, h48]; rfl
        rw [decide_eq_true h48, Bool.true_and]
        by_cases h1 : 1 < (b :: r).length
        · rw [decide_eq_true h1, Bool.true_or, Bool.not_true, Bool.false_and, if_neg Bool.false_ne_true]
          exact Ev.step (f := fun k => spec_l00Number.j2 k x s true) (fun k => by rw [spec_l00Number.j1, if_neg (by omega), if_neg (by omega), if_pos (by omega), if_pos hb48, if_pos (by omega)]) (j2_bad x s)
        · rw [decide_eq_false h1, Bool.false_or]
          cases neg with
          | true =>
            have hs1 : s = -1 := hs
            rw [Bool.not_true, Bool.false_and, if_neg Bool.false_ne_true]
            exact Ev.step (f := fun k => spec_l00Number.j2 k x s true) (fun k => by rw [spec_l00Number.j1, if_neg (by omega), if_neg (by omega), if_pos (by omega), if_pos hb48, if_neg (by omega), decide_eq_true (by omega)]) (j2_bad x s)
          | false =>
            have hs1 : s = 1 := hs
            rw [Bool.not_false, Bool.true_and]
            exact Ev.step (f := fun k => spec_l00Number.j2 k x s false) (fun k => by rw [spec_l00Number.j1, if_neg (by omega), if_neg (by omega), if_pos (by omega), if_pos hb48, if_neg (by omega), decide_eq_false (by omega)]) good
      · have hb48 : ¬ bt x 0 = 48 := by
          rw [hb]; intro h; apply h48; apply UInt8.toNat_inj.1; show b.toNat = 48; omega
        rw [decide_eq_false h48, Bool.false_and, Bool.not_false, Bool.true_and]
        exact Ev.step (f := fun k => spec_l00Number.j2 k x s false) (fun k => by rw [spec_l00Number.j1, if_neg (by omega), if_neg (by omega), if_pos (by omega), if_neg hb48]) good
    · have e : canon neg (b :: r) = false := by
        unfold canon
        rw [decide_eq_false (show ¬ (b :: r).length ≤ 18 by omega), Bool.false_and, Bool.and_false]
      rw [e, if_neg Bool.false_ne_true]
      exact Ev.step (f := fun k => spec_l00Number.j2 k x s true) (fun k => by rw [spec_l00Number.j1, if_neg (by omega), if_pos (by omega)]) (j2_bad x s)
theorem canon_iff {neg : Bool} {l : List UInt8} : canon neg l = true ↔ l ≠ [] ∧ l.length ≤ 18 ∧ (∀ r, l = 48 :: r → r = [] ∧ neg = false) ∧ l.all isDig = true := by
  unfold canon
  simp only [Bool.and_eq_true, decide_eq_true_eq, Bool.not_eq_true', Bool.and_eq_false_iff, decide_eq_false_iff_not, Bool.or_eq_false_iff]
  cases l with
  | nil => simp
  | cons b r =>
    simp only [List.head?_cons, Option.some.injEq, List.length_cons]
    constructor
    · rintro ⟨h1, h2, h3, h4⟩
      refine ⟨h1, h2, fun q hq => ?_, h4⟩
      injection hq with hb hr
      subst hr
      rcases h3 with h3 | ⟨h3, h5⟩
      · exact absurd hb h3
      · exact ⟨List.length_eq_zero_iff.1 (by omega), h5⟩
    · rintro ⟨h1, h2, h3, h4⟩
      refine ⟨h1, h2, ?_, h4⟩
      by_cases hb : b = 48
      · obtain ⟨e1, e2⟩ := h3 r (by rw [hb])
        subst e1
        exact .inr ⟨by simp, e2⟩
      · exact .inl hb
theorem atoi_canon {l : List UInt8} (h : canon false l = true) : Lib.atoiAll l = .ok (valFrom 0 l : Int) ∧ Lib.itoa (valFrom 0 l : Int) = l := by
  obtain ⟨h1, h2, h3, h4⟩ := canon_iff.1 h
  have hd : Lib.decDigits (valFrom 0 l) = l := dec_of_val _ l rfl h1 h4 fun r => by
    by_cases e : l = 48 :: r
    · exact .inr (h3 r e).1
    · exact .inl e
  have hv := valFrom_lt l 0 0 h4 (by decide)
  rw [Nat.zero_add] at hv
  have hp := pow_le h2
  refine ⟨?_, by rw [Lib.itoa_nonneg, hd]⟩
  cases l with
  | nil => exact absurd rfl h1
  | cons c r =>
    have hc : isDig c = true := by rw [List.all_cons, Bool.and_eq_true] at h4; exact h4.1
    have hc' := isDig_iff.1 hc
    have hm : Lib.parseMag (c :: r) = .ok (valFrom 0 (c :: r)) := by
      unfold Lib.parseMag
      rw [if_neg (by simp)]
      exact parse_digits _ 0 0 h4 (by decide) (by omega)
    rw [Lib.atoiAll_plain c r (by omega) (by omega), hm]
    show (if 9223372036854775808 ≤ valFrom 0 (c :: r) then Lib.NumEnd.range else .ok ((valFrom 0 (c :: r) : Nat) : Int)) = _
    rw [if_neg (by omega)]
theorem atoi_canon_neg {l : List UInt8} (h : canon true l = true) : Lib.atoiAll (45 :: l) = .ok (-(valFrom 0 l : Int)) ∧ Lib.itoa (-(valFrom 0 l : Int)) = 45 :: l := by
  obtain ⟨h1, h2, h3, h4⟩ := canon_iff.1 h
  have hd : Lib.decDigits (valFrom 0 l) = l := dec_of_val _ l rfl h1 h4 fun r => by
    by_cases e : l = 48 :: r
    · exact .inr (h3 r e).1
    · exact .inl e
  have hv := valFrom_lt l 0 0 h4 (by decide)
  rw [Nat.zero_add] at hv
  have hp := pow_le h2
  have hpos : 1 ≤ valFrom 0 l := by
    rcases Nat.eq_zero_or_pos (valFrom 0 l) with h0 | h0
    · rw [h0] at hd
      have : l = 48 :: [] := by rw [← hd]; exact Lib.decDigits_one (by omega)
      exact absurd (h3 [] this).2 (by decide)
    · exact h0
  refine ⟨?_, by rw [Lib.itoa_neg _ hpos, hd]⟩
  have hm : Lib.parseMag l = .ok (valFrom 0 l) := by
    unfold Lib.parseMag
    rw [if_neg h1]
    exact parse_digits _ 0 0 h4 (by decide) (by omega)
  rw [Lib.atoiAll_minus, hm]
  show (if 9223372036854775808 < valFrom 0 l then Lib.NumEnd.range else .ok (-((valFrom 0 l : Nat) : Int))) = _
  rw [if_neg (by omega)]
theorem canon_dec {u : Nat} (h : (Lib.decDigits u).length ≤ 18) : canon false (Lib.decDigits u) = true := by
  obtain ⟨h1, h2, h3⟩ := dec_digits u
  exact canon_iff.2 ⟨h2, h, fun r hr => ⟨(h3 r hr).2, rfl⟩, h1⟩
theorem canon_dec_neg {u : Nat} (hu : 1 ≤ u) (h : (Lib.decDigits u).length ≤ 18) : canon true (Lib.decDigits u) = true := by
  obtain ⟨h1, h2, h3⟩ := dec_digits u
  exact canon_iff.2 ⟨h2, h, fun r hr => by have := (h3 r hr).1; omega, h1⟩
theorem dec_head (u : Nat) (r : List UInt8) : Lib.decDigits u ≠ 45 :: r := by
  intro h
  have := (dec_digits u).1
  rw [h, List.all_cons, Bool.and_eq_true] at this
  exact absurd this.1 (by decide)
theorem ext_tail {t : ByteArray} {b : UInt8} {r : List UInt8} (h : t.data.toList = b :: r) : (t.extract 1 t.size).data.toList = r := by
  rw [ByteArray.data_extract, Array.toList_extract, List.extract_eq_take_drop, h]
  have hl := size_len t
  rw [h, List.length_cons] at hl
  show (List.drop 0 r).take (t.size - 1) = r
  rw [List.drop_zero]
  exact List.take_of_length_le (by omega)
theorem num_same (t : ByteArray) (ht : t.size ≤ 2000000) : ∃ n, Ev (fun k => spec_l00Number.f k t) (n, impl_number.ok t) ∧ (impl_number.ok t = true → n = impl_number.val t) := by
  have hl := size_len t
  -- the program's side
  have okOf : ∀ v, Lib.atoiAll t.data.toList = .ok v → impl_number.ok t = (decide (impl_number.dig t ≤ 18) && (Lib.itoa v == t.data.toList)) ∧ impl_number.val t = v := fun v e => by
    constructor
    · unfold impl_number.ok; rw [e]
    · unfold impl_number.val; rw [e]
  have okTo : impl_number.ok t = true → ∃ v, Lib.atoiAll t.data.toList = .ok v ∧ impl_number.dig t ≤ 18 ∧ Lib.itoa v = t.data.toList := fun h => by
    unfold impl_number.ok at h
    cases e : Lib.atoiAll t.data.toList with
    | ok v =>
      rw [e] at h
      simp only [Bool.and_eq_true, decide_eq_true_eq, beq_iff_eq] at h
      exact ⟨v, rfl, h.1, h.2⟩
    | «syntax» => rw [e] at h; cases h
    | range => rw [e] at h; cases h
  by_cases hneg : ∃ r, t.data.toList = 45 :: r
  · obtain ⟨r, hr⟩ := hneg
    obtain ⟨h0, hb⟩ := first_bt hr
    have hb45 : bt t 0 = 45 := hb
    have hdig : impl_number.dig t = (t.size : Int) - 1 := by unfold impl_number.dig; rw [if_pos ⟨h0, hb45⟩]
    rw [hr, List.length_cons] at hl
    have hx := ext_tail hr
    have hxs : (t.extract 1 t.size).size ≤ 2000000 := by rw [ext_size]; omega
    have j := j1_is (t.extract 1 t.size) true (-1) rfl hxs
    rw [hx] at j
    have sp : Ev (fun k => spec_l00Number.f k t) (if canon true r = true then (-1 * (valFrom 0 r : Int), true) else (0, false)) := by
      unfold spec_l00Number.f
      refine Ev.step (f := fun k => spec_l00Number.j1 k (t.extract 1 t.size) (-1)) (fun k => ?_) j
      rw [if_pos (by omega), if_pos (by omega), hb45, spec_l00Number.j0]
      simp only [beq_self_eq_true, if_true]
      rw [if_pos (by omega)]
    by_cases hc : canon true r = true
    · obtain ⟨a1, a2⟩ := atoi_canon_neg hc
      have hlen := (canon_iff.1 hc).2.1
      obtain ⟨o1, o2⟩ := okOf _ (by rw [hr]; exact a1)
      rw [a2, hdig, hr, decide_eq_true (by omega), Bool.true_and, beq_self_eq_true] at o1
      rw [if_pos hc] at sp
      exact ⟨_, by rw [o1]; exact sp, fun _ => by rw [o2]; omega⟩
    · have ho : impl_number.ok t = false := by
        cases h : impl_number.ok t with
        | false => rfl
        | true =>
          exfalso
          obtain ⟨v, _, hd, hi⟩ := okTo h
          apply hc
          rw [hr] at hi
          by_cases hv : 0 ≤ v
          · obtain ⟨u, rfl⟩ : ∃ u : Nat, v = u := ⟨v.toNat, by omega⟩
            rw [Lib.itoa_nonneg] at hi
            exact absurd hi (dec_head u r)
          · obtain ⟨u, rfl⟩ : ∃ u : Nat, v = -(u : Int) := ⟨v.natAbs, by omega⟩
            rw [Lib.itoa_neg u (by omega)] at hi
            injection hi with _ hi
            rw [← hi]
            exact canon_dec_neg (by omega) (by rw [hi]; omega)
      rw [if_neg hc] at sp
      exact ⟨_, by rw [ho]; exact sp, fun h => by rw [ho] at h; cases h⟩
  · have hb45 : ¬ (0 < t.size ∧ bt t 0 = 45) := by
      rintro ⟨h0, hb⟩
      cases hc : t.data.toList with
      | nil => rw [hc, List.length_nil] at hl; omega
      | cons b r =>
        have := (first_bt hc).2
        rw [hb] at this
        exact hneg ⟨r, by rw [hc, show b = 45 from UInt8.toNat_inj.1 (by show b.toNat = 45; omega)]⟩
    have hdig : impl_number.dig t = (t.size : Int) := by unfold impl_number.dig; rw [if_neg hb45]
    have j := j1_is t false 1 rfl ht
    have sp : Ev (fun k => spec_l00Number.f k t) (if canon false t.data.toList = true then (1 * (valFrom 0 t.data.toList : Int), true) else (0, false)) := by
      unfold spec_l00Number.f
      refine Ev.step (f := fun k => spec_l00Number.j1 k t 1) (fun k => ?_) j
      by_cases h0 : 0 < t.size
      · have hne : (bt t 0 == 45) = false := by rw [beq_eq_false_iff_ne]; exact fun h => hb45 ⟨h0, h⟩
        rw [if_pos (by omega), if_pos (by omega), hne, spec_l00Number.j0]
        simp
      · rw [if_neg (by omega), spec_l00Number.j0]
        simp
    by_cases hc : canon false t.data.toList = true
    · obtain ⟨a1, a2⟩ := atoi_canon hc
      have hlen := (canon_iff.1 hc).2.1
      obtain ⟨o1, o2⟩ := okOf _ a1
      rw [a2, hdig, decide_eq_true (by omega), Bool.true_and, beq_self_eq_true] at o1
      rw [if_pos hc] at sp
      exact ⟨_, by rw [o1]; exact sp, fun _ => by rw [o2]; omega⟩
    · have ho : impl_number.ok t = false := by
        cases h : impl_number.ok t with
        | false => rfl
        | true =>
          exfalso
          obtain ⟨v, _, hd, hi⟩ := okTo h
          apply hc
          by_cases hv : 0 ≤ v
          · obtain ⟨u, rfl⟩ : ∃ u : Nat, v = u := ⟨v.toNat, by omega⟩
            rw [Lib.itoa_nonneg] at hi
            rw [← hi]
            exact canon_dec (by rw [hi]; omega)
          · obtain ⟨u, rfl⟩ : ∃ u : Nat, v = -(u : Int) := ⟨v.natAbs, by omega⟩
            rw [Lib.itoa_neg u (by omega)] at hi
            exact absurd ⟨_, hi.symm⟩ hneg
      rw [if_neg hc] at sp
      exact ⟨_, by rw [ho]; exact sp, fun h => by rw [ho] at h; cases h⟩
theorem number_impl (t : ByteArray) (ht : t.size ≤ 2000000) : impl_number.f t = some (impl_number.val t, impl_number.ok t) := by
  unfold impl_number.f
  rw [if_pos (by omega)]
abbrev Parsed := ByteArray × ByteArray × ByteArray × Int × ByteArray × ByteArray × ByteArray × Bool × Bool × Bool
def usualN (s : ByteArray) : Int := if s.toList = ([104, 116, 116, 112] : List UInt8) then 80 else 443
def noneU : Parsed := ((⟨#[]⟩ : ByteArray), (⟨#[]⟩ : ByteArray), (⟨#[]⟩ : ByteArray), 0, (⟨#[]⟩ : ByteArray), (⟨#[]⟩ : ByteArray), (⟨#[]⟩ : ByteArray), false, false, false)
def endU (sch user host : ByteArray) (p : Int) (path q fr : ByteArray) (hq hf : Bool) : Parsed := (sch, user, host, p, path, q, fr, hq, hf, urlB sch user host p path q fr hq hf (usualN sch))
def lowF (s : ByteArray) : ByteArray := lowAt s s.size
def portB (t : ByteArray) : Bool := impl_number.ok t && inB (impl_number.val t) 1 65535
def portU (sch user host t path q fr : ByteArray) (hq hf : Bool) : Parsed :=
  if portB t = true then (if impl_number.val t = usualN sch then endU sch user host 0 path q fr hq hf else endU sch user host (impl_number.val t) path q fr hq hf) else noneU
def siteU (sch user x path q fr : ByteArray) (hq hf : Bool) : Parsed :=
  if cutH x 58 = true then portU sch user (lowF (cutL x 58)) (cutR x 58) path q fr hq hf else endU sch user (lowF (cutL x 58)) 0 path q fr hq hf
def userU (sch x path q fr : ByteArray) (hq hf : Bool) : Parsed :=
  if cutH x 64 = true then siteU sch (cutL x 64) (cutR x 64) path q fr hq hf else siteU sch (⟨#[]⟩ : ByteArray) x path q fr hq hf
def pathU (sch x q fr : ByteArray) (hq hf : Bool) : Parsed :=
  if cutH x 47 = true then userU sch (cutL x 47) (x.extract (fnd x 47) x.size) q fr hq hf else userU sch x (⟨#[47]⟩ : ByteArray) q fr hq hf
def twoS (s : ByteArray) : Bool := decide (2 ≤ s.size) && ((s.extract 0 2).toList == ([47, 47] : List UInt8))
def webU (sch r : ByteArray) : Parsed :=
  if twoS r = true then pathU sch (cutL (cutL (r.extract 2 r.size) 35) 63) (cutR (cutL (r.extract 2 r.size) 35) 63) (cutR (r.extract 2 r.size) 35) (cutH (cutL (r.extract 2 r.size) 35) 63) (cutH (r.extract 2 r.size) 35) else noneU
def parseU (t : ByteArray) : Parsed :=
  if cutH t 58 = true then (if webB (lowF (cutL t 58)) = true then webU (lowF (cutL t 58)) (cutR t 58) else endU (lowF (cutL t 58)) (⟨#[]⟩ : ByteArray) (⟨#[]⟩ : ByteArray) 0 (cutL (cutL (cutR t 58) 35) 63) (⟨#[]⟩ : ByteArray) (⟨#[]⟩ : ByteArray) false false) else noneU
theorem usual_is (s : ByteArray) : spec_l01Usual.f s = some (usualN s) ∧ impl_usual.f s = some (usualN s) := by
  unfold spec_l01Usual.f impl_usual.f usualN
  by_cases h : s.toList = ([104, 116, 116, 112] : List UInt8)
  · exact ⟨by rw [if_pos h, if_pos h], by rw [if_pos h, if_pos h]⟩
  · exact ⟨by rw [if_neg h, if_neg h], by rw [if_neg h, if_neg h]⟩
theorem end_spec (sch user host path q fr : ByteArray) (p : Int) (hq hf : Bool) (hs : sch.size ≤ 1048576) (hu : user.size ≤ 1048576) (hh : host.size ≤ 1048576) (hp : path.size ≤ 1048576) (hqs : q.size ≤ 1048576) (hfs : fr.size ≤ 1048576) (h0 : -9223372036854775808 ≤ p) (h1 : p ≤ 9223372036854775807) :
    Ev (fun k => (spec_l01OK.f k sch user host p path q fr hq hf).bind fun t => some (sch, user, host, p, path, q, fr, hq, hf, t)) (endU sch user host p path q fr hq hf) :=
  Ev.bind (url_spec sch user host path q fr p hq hf (by omega) (by omega) (by omega) (by omega) (by omega) (by omega) h0 h1 _ (usual_is sch).1) (Ev.now _)
theorem end_impl (sch user host path q fr : ByteArray) (p : Int) (hq hf : Bool) (hs : sch.size ≤ 1048576) (hu : user.size ≤ 1048576) (hh : host.size ≤ 1048576) (hp : path.size ≤ 1048576) (hqs : q.size ≤ 1048576) (hfs : fr.size ≤ 1048576) (h0 : -9223372036854775808 ≤ p) (h1 : p ≤ 9223372036854775807) :
    Ev (fun k => (impl_UrlOK.f k sch user host p path q fr hq hf).bind fun t => some (sch, user, host, p, path, q, fr, hq, hf, t)) (endU sch user host p path q fr hq hf) := by
  have h := url_impl sch user host path q fr p hq hf (by omega) (by omega) (by omega) (by omega) (by omega) (by omega) h0 h1 _ (usual_is sch).2
  rw [← url_eq] at h
  exact Ev.bind h (Ev.now _)
theorem low_size (s : ByteArray) : (lowF s).size = s.size := lowAt_size s _
section
variable (sch user host path q fr : ByteArray) (hq hf : Bool) (hs : sch.size ≤ 1048576) (hu : user.size ≤ 1048576) (hp : path.size ≤ 1048576) (hqs : q.size ≤ 1048576) (hfs : fr.size ≤ 1048576)
include hs hu hp hqs hfs
theorem st5 (hh : host.size ≤ 1048576) (n : Int) (bad : Bool) (hn : bad = false → 1 ≤ n ∧ n ≤ 65535) : Ev (fun k => spec_l01Parse.j5 k n bad sch user host 0 path q fr hq hf) (if bad = true then noneU else if n = usualN sch then endU sch user host 0 path q fr hq hf else endU sch user host n path q fr hq hf) := by
  cases bad with
  | true => exact Ev.step (f := fun _ => some noneU) (fun k => by rw [spec_l01Parse.j5, if_pos rfl]; rfl) (by rw [if_pos rfl]; exact Ev.now _)
  | false =>
    obtain ⟨n1, n2⟩ := hn rfl
    rw [if_neg Bool.false_ne_true]
    by_cases e : n = usualN sch
    · rw [if_pos e]
      refine Ev.step (f := fun k => (spec_l01OK.f k sch user host 0 path q fr hq hf).bind fun t => some (sch, user, host, 0, path, q, fr, hq, hf, t)) (fun k => ?_) (end_spec sch user host path q fr 0 hq hf hs hu hh hp hqs hfs (by omega) (by omega))
      rw [spec_l01Parse.j5, if_neg Bool.false_ne_true, (usual_is sch).1, Option.bind_some, if_pos e]
    · rw [if_neg e]
      refine Ev.step (f := fun k => (spec_l01OK.f k sch user host n path q fr hq hf).bind fun t => some (sch, user, host, n, path, q, fr, hq, hf, t)) (fun k => ?_) (end_spec sch user host path q fr n hq hf hs hu hh hp hqs hfs (by omega) (by omega))
      rw [spec_l01Parse.j5, if_neg Bool.false_ne_true, (usual_is sch).1, Option.bind_some, if_neg e]
theorem st4 (h0 x : ByteArray) (hx : x.size ≤ 1048576) : Ev (fun k => spec_l01Parse.j4 k x sch user h0 0 path q fr hq hf) (siteU sch user x path q fr hq hf) := by
  have hle := fnd_le x 58
  have hw : wrap64 ((fnd x 58 : Int) + 1) = ((fnd x 58 + 1 : Nat) : Int) := by rw [wr (by omega) (by omega)]; rfl
  have hl := cutL_size x 58
  have e1 : x.extract 0 (fnd x 58) = cutL x 58 := rfl
  have f1 : Ev (fun k => spec_l01Find.f k x 58) (fnd x 58 : Int) := find_is x 58 (by omega)
  have p1 : (0 : Int) ≤ (fnd x 58 : Int) := by omega
  have p2 : (fnd x 58 : Int) ≤ (x.size : Int) := by omega
  have lo : Ev (fun k => spec_l01Lower.f k (cutL x 58)) (lowF (cutL x 58)) := lower_spec (cutL x 58) (by omega)
  have ls := low_size (cutL x 58)
  unfold siteU
  refine Ev.step (f := fun k => spec_l01Parse.j4 (k + 1) x sch user h0 0 path q fr hq hf) (fun k => rfl) ?_
  simp only [spec_l01Parse.j4]
  refine Ev.bind f1 ?_
  simp only [if_pos p1, if_pos p2, Int.toNat_natCast, e1, hw]
  refine Ev.bind lo ?_
  by_cases h : fnd x 58 < x.size
  · have hr : x.extract (fnd x 58 + 1) x.size = cutR x 58 := by unfold cutR; rw [if_pos h]
    have hrs := cutR_size x 58
    have p3 : (fnd x 58 : Int) < (x.size : Int) := by omega
    have p4 : (0 : Int) ≤ ((fnd x 58 + 1 : Nat) : Int) := by omega
    have p5 : ((fnd x 58 + 1 : Nat) : Int) ≤ (x.size : Int) := by omega
    obtain ⟨n, n1, n2⟩ := num_same (cutR x 58) (by omega)
    rw [if_pos (show cutH x 58 = true from decide_eq_true h)]
    simp only [if_pos p3, if_pos p4, if_pos p5, hr]
    refine Ev.bind n1 ?_
    unfold portU portB
    cases ho : impl_number.ok (cutR x 58) with
    | false =>
      simp only [Bool.false_eq_true, if_false, Bool.false_and]
      exact st5 sch user (lowF (cutL x 58)) path q fr hq hf hs hu hp hqs hfs (by omega) n true (fun h => by cases h)
    | true =>
      have e := n2 ho
      subst e
      simp only [if_true, Bool.true_and, in_is, Option.bind_some]
      have s5 := st5 sch user (lowF (cutL x 58)) path q fr hq hf hs hu hp hqs hfs (by omega) (impl_number.val (cutR x 58)) (!inB (impl_number.val (cutR x 58)) 1 65535) (fun h => by
        have h' : inB (impl_number.val (cutR x 58)) 1 65535 = true := by simpa using h
        simp [inB] at h'
        exact h')
      cases hi : inB (impl_number.val (cutR x 58)) 1 65535 <;> rw [hi] at s5 <;> simpa using s5
  · have p3 : ¬ (fnd x 58 : Int) < (x.size : Int) := by omega
    rw [if_neg (show ¬ cutH x 58 = true by unfold cutH; rw [decide_eq_false h]; exact Bool.false_ne_true)]
    simp only [if_neg p3]
    exact end_spec sch user (lowF (cutL x 58)) path q fr 0 hq hf hs hu (by omega) hp hqs hfs (by omega) (by omega)
end
section
variable (sch q fr : ByteArray) (hq hf : Bool) (hs : sch.size ≤ 1048576) (hqs : q.size ≤ 1048576) (hfs : fr.size ≤ 1048576)
include hs hqs hfs
theorem st3 (path X : ByteArray) (hp : path.size ≤ 1048576) (hX : X.size ≤ 1048576) (i : Nat) (hi : i ≤ X.size) : Ev (fun k => spec_l01Parse.j3 k (i : Int) X sch (⟨#[]⟩ : ByteArray) (⟨#[]⟩ : ByteArray) 0 path q fr hq hf) (userU sch (X.extract 0 i) path q fr hq hf) := by
  have hx : (X.extract 0 i).size ≤ 1048576 := by rw [ext_size]; omega
  generalize hxx : X.extract 0 i = x at hx
  have hle := fnd_le x 64
  have hw : wrap64 ((fnd x 64 : Int) + 1) = ((fnd x 64 + 1 : Nat) : Int) := by rw [wr (by omega) (by omega)]; rfl
  have hl := cutL_size x 64
  have hrs := cutR_size x 64
  have e1 : x.extract 0 (fnd x 64) = cutL x 64 := rfl
  have f1 : Ev (fun k => spec_l01Find.f k x 64) (fnd x 64 : Int) := find_is x 64 (by omega)
  have p1 : (0 : Int) ≤ (i : Int) := by omega
  have p2 : (i : Int) ≤ (X.size : Int) := by omega
  unfold userU
  refine Ev.step (f := fun k => spec_l01Parse.j3 (k + 1) (i : Int) X sch (⟨#[]⟩ : ByteArray) (⟨#[]⟩ : ByteArray) 0 path q fr hq hf) (fun k => rfl) ?_
  simp only [spec_l01Parse.j3, if_pos p1, if_pos p2, Int.toNat_natCast, hxx]
  refine Ev.bind f1 ?_
  simp only [Int.toNat_natCast, hw, e1]
  by_cases h : fnd x 64 < x.size
  · have hr : x.extract (fnd x 64 + 1) x.size = cutR x 64 := by unfold cutR; rw [if_pos h]
    have p3 : (fnd x 64 : Int) < (x.size : Int) := by omega
    have p4 : (0 : Int) ≤ ((fnd x 64 + 1 : Nat) : Int) := by omega
    have p5 : ((fnd x 64 + 1 : Nat) : Int) ≤ (x.size : Int) := by omega
    have p6 : (0 : Int) ≤ (fnd x 64 : Int) := by omega
    have p7 : (fnd x 64 : Int) ≤ (x.size : Int) := by omega
    rw [if_pos (show cutH x 64 = true from decide_eq_true h)]
    simp only [if_pos p3, if_pos p4, if_pos p5, if_pos p6, if_pos p7, hr]
    exact st4 sch (cutL x 64) path q fr hq hf hs (by omega) hp hqs hfs _ _ (by omega)
  · have p3 : ¬ (fnd x 64 : Int) < (x.size : Int) := by omega
    rw [if_neg (show ¬ cutH x 64 = true by unfold cutH; rw [decide_eq_false h]; exact Bool.false_ne_true)]
    simp only [if_neg p3]
    exact st4 sch (⟨#[]⟩ : ByteArray) path q fr hq hf hs (by rw [c0_size]; omega) hp hqs hfs _ _ hx
theorem st2 (p0 x : ByteArray) (hx : x.size ≤ 1048576) : Ev (fun k => spec_l01Parse.j2 k x sch (⟨#[]⟩ : ByteArray) (⟨#[]⟩ : ByteArray) 0 p0 q fr hq hf) (pathU sch x q fr hq hf) := by
  have hle := fnd_le x 47
  have f1 : Ev (fun k => spec_l01Find.f k x 47) (fnd x 47 : Int) := find_is x 47 (by omega)
  have p1 : (0 : Int) ≤ (fnd x 47 : Int) := by omega
  have p2 : (fnd x 47 : Int) ≤ (x.size : Int) := by omega
  have es : (x.extract (fnd x 47) x.size).size = x.size - fnd x 47 := by rw [ext_size]; omega
  unfold pathU
  refine Ev.step (f := fun k => spec_l01Parse.j2 (k + 1) x sch (⟨#[]⟩ : ByteArray) (⟨#[]⟩ : ByteArray) 0 p0 q fr hq hf) (fun k => rfl) ?_
  simp only [spec_l01Parse.j2]
  refine Ev.bind f1 ?_
  simp only [if_pos p1, if_pos p2, Int.toNat_natCast]
  by_cases h : fnd x 47 < x.size
  · have hne : ¬ (x.extract (fnd x 47) x.size).toList = ([] : List UInt8) := fun c => by have := (emptyB _).1 c; omega
    rw [if_pos (show cutH x 47 = true from decide_eq_true h)]
    simp only [if_neg hne]
    exact st3 sch q fr hq hf hs hqs hfs _ x (by omega) hx (fnd x 47) hle
  · have he : (x.extract (fnd x 47) x.size).toList = ([] : List UInt8) := (emptyB _).2 (by omega)
    rw [if_neg (show ¬ cutH x 47 = true by unfold cutH; rw [decide_eq_false h]; exact Bool.false_ne_true)]
    simp only [if_pos he]
    have s3 := st3 sch q fr hq hf hs hqs hfs (⟨#[47]⟩ : ByteArray) x (by rw [c1_size]; omega) hx (fnd x 47) hle
    have e : x.extract 0 (fnd x 47) = x := cutL_none h
    rw [e] at s3
    exact s3
end
theorem st1 (sch fr x : ByteArray) (hf : Bool) (p0 : ByteArray) (hs : sch.size ≤ 1048576) (hfs : fr.size ≤ 1048576) (hx : x.size ≤ 1048576) : Ev (fun k => spec_l01Parse.j1 k x sch (⟨#[]⟩ : ByteArray) (⟨#[]⟩ : ByteArray) 0 p0 (⟨#[]⟩ : ByteArray) fr false hf) (pathU sch (cutL x 63) (cutR x 63) fr (cutH x 63) hf) := by
  have hle := fnd_le x 63
  have hw : wrap64 ((fnd x 63 : Int) + 1) = ((fnd x 63 + 1 : Nat) : Int) := by rw [wr (by omega) (by omega)]; rfl
  have hl := cutL_size x 63
  have hrs := cutR_size x 63
  have e1 : x.extract 0 (fnd x 63) = cutL x 63 := rfl
  have f1 : Ev (fun k => spec_l01Find.f k x 63) (fnd x 63 : Int) := find_is x 63 (by omega)
  refine Ev.step (f := fun k => spec_l01Parse.j1 (k + 1) x sch (⟨#[]⟩ : ByteArray) (⟨#[]⟩ : ByteArray) 0 p0 (⟨#[]⟩ : ByteArray) fr false hf) (fun k => rfl) ?_
  simp only [spec_l01Parse.j1]
  refine Ev.bind f1 ?_
  simp only [Int.toNat_natCast, hw, e1]
  by_cases h : fnd x 63 < x.size
  · have hr : x.extract (fnd x 63 + 1) x.size = cutR x 63 := by unfold cutR; rw [if_pos h]
    have p3 : (fnd x 63 : Int) < (x.size : Int) := by omega
    have p4 : (0 : Int) ≤ ((fnd x 63 + 1 : Nat) : Int) := by omega
    have p5 : ((fnd x 63 + 1 : Nat) : Int) ≤ (x.size : Int) := by omega
    have p6 : (0 : Int) ≤ (fnd x 63 : Int) := by omega
    have p7 : (fnd x 63 : Int) ≤ (x.size : Int) := by omega
    rw [show cutH x 63 = true from decide_eq_true h]
    simp only [if_pos p3, if_pos p4, if_pos p5, if_pos p6, if_pos p7, hr]
    exact st2 sch (cutR x 63) fr true hf hs (by omega) hfs p0 (cutL x 63) (by omega)
  · have p3 : ¬ (fnd x 63 : Int) < (x.size : Int) := by omega
    have er : cutR x 63 = (⟨#[]⟩ : ByteArray) := by unfold cutR; rw [if_neg h]
    rw [show cutH x 63 = false from decide_eq_false h, er, cutL_none h]
    simp only [if_neg p3]
    exact st2 sch (⟨#[]⟩ : ByteArray) fr false hf hs (by rw [c0_size]; omega) hfs p0 x hx
theorem st0 (sch r : ByteArray) (bad : Bool) (hb : bad = !twoS r) (hs : sch.size ≤ 1048576) (hr : r.size ≤ 1048576) : Ev (fun k => spec_l01Parse.j0 k r bad sch (⟨#[]⟩ : ByteArray) (⟨#[]⟩ : ByteArray) 0 (⟨#[]⟩ : ByteArray) (⟨#[]⟩ : ByteArray) (⟨#[]⟩ : ByteArray) false false) (webU sch r) := by
  unfold webU
  refine Ev.step (f := fun k => spec_l01Parse.j0 (k + 1) r bad sch (⟨#[]⟩ : ByteArray) (⟨#[]⟩ : ByteArray) 0 (⟨#[]⟩ : ByteArray) (⟨#[]⟩ : ByteArray) (⟨#[]⟩ : ByteArray) false false) (fun k => rfl) ?_
  simp only [spec_l01Parse.j0]
  cases ht : twoS r with
  | false =>
    rw [ht] at hb
    subst hb
    simp only [Bool.not_false, if_true, Bool.false_eq_true, if_false]
    exact Ev.now _
  | true =>
    rw [ht] at hb
    subst hb
    have h2 : 2 ≤ r.size := by unfold twoS at ht; rw [Bool.and_eq_true, decide_eq_true_eq] at ht; exact ht.1
    have p2 : (2 : Int) ≤ (r.size : Int) := by omega
    simp only [Bool.not_true, Bool.false_eq_true, if_false, if_true, if_pos p2]
    have hx : (r.extract 2 r.size).size ≤ 1048576 := by rw [ext_size]; omega
    generalize r.extract 2 r.size = x at hx
    have hle := fnd_le x 35
    have hw : wrap64 ((fnd x 35 : Int) + 1) = ((fnd x 35 + 1 : Nat) : Int) := by rw [wr (by omega) (by omega)]; rfl
    have hl := cutL_size x 35
    have hrs := cutR_size x 35
    have e1 : x.extract 0 (fnd x 35) = cutL x 35 := rfl
    have f1 : Ev (fun k => spec_l01Find.f k x 35) (fnd x 35 : Int) := find_is x 35 (by omega)
    refine Ev.bind f1 ?_
    simp only [Int.toNat_natCast, hw, e1]
    by_cases h : fnd x 35 < x.size
    · have hr' : x.extract (fnd x 35 + 1) x.size = cutR x 35 := by unfold cutR; rw [if_pos h]
      have p3 : (fnd x 35 : Int) < (x.size : Int) := by omega
      have p4 : (0 : Int) ≤ ((fnd x 35 + 1 : Nat) : Int) := by omega
      have p5 : ((fnd x 35 + 1 : Nat) : Int) ≤ (x.size : Int) := by omega
      have p6 : (0 : Int) ≤ (fnd x 35 : Int) := by omega
      have p7 : (fnd x 35 : Int) ≤ (x.size : Int) := by omega
      rw [show cutH x 35 = true from decide_eq_true h]
      simp only [if_pos p3, if_pos p4, if_pos p5, if_pos p6, if_pos p7, hr']
      exact st1 sch (cutR x 35) (cutL x 35) true _ hs (by omega) (by omega)
    · have p3 : ¬ (fnd x 35 : Int) < (x.size : Int) := by omega
      have er : cutR x 35 = (⟨#[]⟩ : ByteArray) := by unfold cutR; rw [if_neg h]
      rw [show cutH x 35 = false from decide_eq_false h, er, cutL_none h]
      simp only [if_neg p3]
      exact st1 sch (⟨#[]⟩ : ByteArray) x false _ hs (by rw [c0_size]; omega) hx
theorem parse_spec (t : ByteArray) (ht : t.size ≤ 1048576) : Ev (fun k => spec_l01Parse.f k t) (parseU t) := by
  have hle := fnd_le t 58
  have hw : wrap64 ((fnd t 58 : Int) + 1) = ((fnd t 58 + 1 : Nat) : Int) := by rw [wr (by omega) (by omega)]; rfl
  have hl := cutL_size t 58
  have hrs := cutR_size t 58
  have e1 : t.extract 0 (fnd t 58) = cutL t 58 := rfl
  have f1 : Ev (fun k => spec_l01Find.f k t 58) (fnd t 58 : Int) := find_is t 58 (by omega)
  unfold spec_l01Parse.f parseU
  refine Ev.bind f1 ?_
  simp only [Int.toNat_natCast, hw, e1]
  by_cases h : fnd t 58 < t.size
  · have hr : t.extract (fnd t 58 + 1) t.size = cutR t 58 := by unfold cutR; rw [if_pos h]
    have p3 : ¬ (fnd t 58 : Int) = (t.size : Int) := by omega
    have p4 : (0 : Int) ≤ ((fnd t 58 + 1 : Nat) : Int) := by omega
    have p5 : ((fnd t 58 + 1 : Nat) : Int) ≤ (t.size : Int) := by omega
    have p6 : (0 : Int) ≤ (fnd t 58 : Int) := by omega
    have p7 : (fnd t 58 : Int) ≤ (t.size : Int) := by omega
    rw [show cutH t 58 = true from decide_eq_true h]
    simp only [if_neg p3, if_pos p4, if_pos p5, if_pos p6, if_pos p7, hr, if_true]
    have lo : Ev (fun k => spec_l01Lower.f k (cutL t 58)) (lowF (cutL t 58)) := lower_spec (cutL t 58) (by omega)
    have ls := low_size (cutL t 58)
    refine Ev.bind lo ?_
    generalize lowF (cutL t 58) = sch at ls
    have hR : (cutR t 58).size ≤ 1048576 := by omega
    generalize cutR t 58 = r at hR
    simp only [web_spec, Option.bind_some]
    by_cases w : webB sch = true
    · simp only [if_pos w]
      by_cases h2 : (r.size : Int) < 2
      · simp only [if_pos h2]
        exact st0 sch r true (by unfold twoS; rw [decide_eq_false (by omega)]; rfl) (by omega) (by omega)
      · have q1 : (0 : Int) ≤ 2 := by omega
        have q2 : (2 : Int) ≤ (r.size : Int) := by omega
        simp only [if_neg h2, if_pos q1, if_pos q2]
        exact st0 sch r _ (by unfold twoS; rw [decide_eq_true (by omega), Bool.true_and]; rfl) (by omega) (by omega)
    · simp only [if_neg w]
      have hl1 := fnd_le r 35
      have f2 : Ev (fun k => spec_l01Find.f k r 35) (fnd r 35 : Int) := find_is r 35 (by omega)
      have a1 : (0 : Int) ≤ (fnd r 35 : Int) := by omega
      have a2 : (fnd r 35 : Int) ≤ (r.size : Int) := by omega
      have b1 : r.extract 0 (fnd r 35) = cutL r 35 := rfl
      refine Ev.bind f2 ?_
      simp only [Int.toNat_natCast, if_pos a1, if_pos a2, b1]
      have hx := cutL_size r 35
      generalize cutL r 35 = x at hx
      have hl2 := fnd_le x 63
      have f3 : Ev (fun k => spec_l01Find.f k x 63) (fnd x 63 : Int) := find_is x 63 (by omega)
      have c1 : (0 : Int) ≤ (fnd x 63 : Int) := by omega
      have c2 : (fnd x 63 : Int) ≤ (x.size : Int) := by omega
      have d1 : x.extract 0 (fnd x 63) = cutL x 63 := rfl
      have hy := cutL_size x 63
      refine Ev.bind f3 ?_
      simp only [Int.toNat_natCast, if_pos c1, if_pos c2, d1]
      exact end_spec sch (⟨#[]⟩ : ByteArray) (⟨#[]⟩ : ByteArray) (cutL x 63) (⟨#[]⟩ : ByteArray) (⟨#[]⟩ : ByteArray) 0 false false (by omega) (by rw [c0_size]; omega) (by rw [c0_size]; omega) (by omega) (by rw [c0_size]; omega) (by rw [c0_size]; omega) (by omega) (by omega)
  · have p3 : (fnd t 58 : Int) = (t.size : Int) := by omega
    rw [show cutH t 58 = false from decide_eq_false h]
    simp only [if_pos p3, Bool.false_eq_true, if_false]
    exact Ev.now _
section
variable (sch user path q fr : ByteArray) (hq hf : Bool) (hs : sch.size ≤ 1048576) (hu : user.size ≤ 1048576) (hp : path.size ≤ 1048576) (hqs : q.size ≤ 1048576) (hfs : fr.size ≤ 1048576)
include hs hu hp hqs hfs
theorem im2 (h0 host : ByteArray) (hh : host.size ≤ 1048576) (n : Int) (bad : Bool) (hn : bad = false → 1 ≤ n ∧ n ≤ 65535) : Ev (fun k => impl_parse.j2 k host n bad sch user h0 0 path q fr hq hf) (if bad = true then noneU else if n = usualN sch then endU sch user (lowF host) 0 path q fr hq hf else endU sch user (lowF host) n path q fr hq hf) := by
  have lo : impl_lower.f host = some (lowF host) := lower_impl host (by omega)
  have ls := low_size host
  cases bad with
  | true => exact Ev.step (f := fun _ => some noneU) (fun k => by rw [impl_parse.j2, if_pos rfl]; rfl) (by rw [if_pos rfl]; exact Ev.now _)
  | false =>
    obtain ⟨n1, n2⟩ := hn rfl
    rw [if_neg Bool.false_ne_true]
    by_cases e : n = usualN sch
    · rw [if_pos e]
      refine Ev.step (f := fun k => (impl_UrlOK.f k sch user (lowF host) 0 path q fr hq hf).bind fun t => some (sch, user, lowF host, 0, path, q, fr, hq, hf, t)) (fun k => ?_) (end_impl sch user (lowF host) path q fr 0 hq hf hs hu (by omega) hp hqs hfs (by omega) (by omega))
      rw [impl_parse.j2, if_neg Bool.false_ne_true, (usual_is sch).2, Option.bind_some, if_pos e, lo, Option.bind_some]
    · rw [if_neg e]
      refine Ev.step (f := fun k => (impl_UrlOK.f k sch user (lowF host) n path q fr hq hf).bind fun t => some (sch, user, lowF host, n, path, q, fr, hq, hf, t)) (fun k => ?_) (end_impl sch user (lowF host) path q fr n hq hf hs hu (by omega) hp hqs hfs (by omega) (by omega))
      rw [impl_parse.j2, if_neg Bool.false_ne_true, (usual_is sch).2, Option.bind_some, if_neg e, lo, Option.bind_some]
theorem im1 (h0 x : ByteArray) (hx : x.size ≤ 1048576) : Ev (fun k => impl_parse.j1 k x sch user h0 0 path q fr hq hf) (siteU sch user x path q fr hq hf) := by
  have hl := cutL_size x 58
  have hrs := cutR_size x 58
  have lo : impl_lower.f (cutL x 58) = some (lowF (cutL x 58)) := lower_impl (cutL x 58) (by omega)
  have ls := low_size (cutL x 58)
  unfold siteU
  refine Ev.step (f := fun k => impl_parse.j1 (k + 1) x sch user h0 0 path q fr hq hf) (fun k => rfl) ?_
  simp only [impl_parse.j1, cut_is x 58 (by omega), Option.bind_some]
  cases hc : cutH x 58 with
  | true =>
    simp only [if_true, number_impl (cutR x 58) (by omega), Option.bind_some]
    unfold portU portB
    cases ho : impl_number.ok (cutR x 58) with
    | false =>
      simp only [Bool.false_eq_true, if_false, Bool.false_and]
      exact im2 sch user path q fr hq hf hs hu hp hqs hfs _ (cutL x 58) (by omega) _ true (fun h => by cases h)
    | true =>
      simp only [if_true, Bool.true_and, within_is, Option.bind_some]
      have s5 := im2 sch user path q fr hq hf hs hu hp hqs hfs h0 (cutL x 58) (by omega) (impl_number.val (cutR x 58)) (!inB (impl_number.val (cutR x 58)) 1 65535) (fun h => by
        have h' : inB (impl_number.val (cutR x 58)) 1 65535 = true := by simpa using h
        simp [inB] at h'
        exact h')
      cases hi : inB (impl_number.val (cutR x 58)) 1 65535 <;> rw [hi] at s5 <;> simpa using s5
  | false =>
    simp only [Bool.false_eq_true, if_false, lo, Option.bind_some]
    exact end_impl sch user (lowF (cutL x 58)) path q fr 0 hq hf hs hu (by omega) hp hqs hfs (by omega) (by omega)
end
theorem im0 (sch x path q fr : ByteArray) (hq hf : Bool) (hs : sch.size ≤ 1048576) (hx : x.size ≤ 1048576) (hp : path.size ≤ 1048576) (hqs : q.size ≤ 1048576) (hfs : fr.size ≤ 1048576) : Ev (fun k => impl_parse.j0 k x sch (⟨#[]⟩ : ByteArray) (⟨#[]⟩ : ByteArray) 0 path q fr hq hf) (userU sch x path q fr hq hf) := by
  have hl := cutL_size x 64
  have hrs := cutR_size x 64
  unfold userU
  refine Ev.step (f := fun k => impl_parse.j0 (k + 1) x sch (⟨#[]⟩ : ByteArray) (⟨#[]⟩ : ByteArray) 0 path q fr hq hf) (fun k => rfl) ?_
  simp only [impl_parse.j0, cut_is x 64 (by omega), Option.bind_some]
  cases hc : cutH x 64 with
  | true =>
    simp only [if_true]
    exact im1 sch (cutL x 64) path q fr hq hf hs (by omega) hp hqs hfs _ (cutR x 64) (by omega)
  | false =>
    simp only [Bool.false_eq_true, if_false]
    exact im1 sch (⟨#[]⟩ : ByteArray) path q fr hq hf hs (by rw [c0_size]; omega) hp hqs hfs _ x hx
theorem prefix2 (r : ByteArray) (hr : r.size ≤ 2000000) : strings_CutPrefix.f r (⟨#[47, 47]⟩ : ByteArray) = some (if twoS r = true then (r.extract 2 r.size, true) else (r, false)) := by
  have c2 : (⟨#[47, 47]⟩ : ByteArray).size = 2 := rfl
  have e2 : (⟨#[47, 47]⟩ : ByteArray).toList = [47, 47] := by rw [toList_data]
  unfold strings_CutPrefix.f stringslite_CutPrefix.f stringslite_HasPrefix.f
  rw [c2]
  by_cases h : 2 ≤ r.size
  · have et : twoS r = ((r.extract 0 2).toList == ([47, 47] : List UInt8)) := by unfold twoS; rw [decide_eq_true h, Bool.true_and]
    have q1 : (0 : Int) ≤ ((2 : Nat) : Int) := by omega
    have q2 : ((2 : Nat) : Int) ≤ (r.size : Int) := by omega
    have q3 : (r.size : Int) ≥ ((2 : Nat) : Int) := by omega
    have q4 : ((2 : Nat) : Int).toNat = 2 := rfl
    rw [et]
    simp only [if_pos q1, if_pos q2, if_pos q3, q4, e2, Option.bind_some]
    cases ((r.extract 0 2).toList == ([47, 47] : List UInt8)) <;> simp
  · have et : twoS r = false := by unfold twoS; rw [decide_eq_false h, Bool.false_and]
    have q3 : ¬ (r.size : Int) ≥ ((2 : Nat) : Int) := by omega
    rw [et]
    simp only [if_neg q3, Option.bind_some, Bool.false_eq_true, if_false]
theorem parse_impl (t : ByteArray) (ht : t.size ≤ 1048576) : Ev (fun k => impl_parse.f k t) (parseU t) := by
  have hl := cutL_size t 58
  have hrs := cutR_size t 58
  have lo : impl_lower.f (cutL t 58) = some (lowF (cutL t 58)) := lower_impl (cutL t 58) (by omega)
  have ls := low_size (cutL t 58)
  unfold impl_parse.f parseU
  simp only [cut_is t 58 (by omega), Option.bind_some, lo]
  generalize lowF (cutL t 58) = sch at ls
  generalize cutR t 58 = r at hrs
  cases cutH t 58 with
  | false =>
    simp only [Bool.false_eq_true, if_false]
    exact Ev.now _
  | true =>
    simp only [if_true, web_impl, Option.bind_some]
    by_cases w : webB sch = true
    · simp only [if_pos w, prefix2 r (by omega), Option.bind_some]
      unfold webU
      cases twoS r with
      | false =>
        simp only [Bool.false_eq_true, if_false]
        exact Ev.now _
      | true =>
        have hx : (r.extract 2 r.size).size ≤ 1048576 := by rw [ext_size]; omega
        simp only [if_true]
        generalize r.extract 2 r.size = x at hx
        have h1 := cutL_size x 35
        have h2 := cutR_size x 35
        simp only [cut_is x 35 (by omega), Option.bind_some]
        generalize cutR x 35 = fr at h2
        generalize cutL x 35 = y at h1
        have h3 := cutL_size y 63
        have h4 := cutR_size y 63
        simp only [cut_is y 63 (by omega), Option.bind_some]
        generalize cutR y 63 = q at h4
        generalize cutL y 63 = z at h3
        have hle := fnd_le z 47
        have hzl := cutL_size z 47
        simp only [indexByte_is z 47 47 rfl, Option.bind_some]
        unfold pathU
        by_cases h : fnd z 47 < z.size
        · have a1 : ((fnd z 47 : Nat) : Int) ≥ 0 := by omega
          have a2 : (0 : Int) ≤ ((fnd z 47 : Nat) : Int) := by omega
          have a3 : ((fnd z 47 : Nat) : Int) ≤ (z.size : Int) := by omega
          have e1 : z.extract 0 (fnd z 47) = cutL z 47 := rfl
          rw [if_pos (show cutH z 47 = true from decide_eq_true h)]
          simp only [if_pos h, if_pos a1, if_pos a2, if_pos a3, Int.toNat_natCast, e1]
          exact im0 sch (cutL z 47) _ q fr _ _ (by omega) (by omega) (by rw [ext_size]; omega) (by omega) (by omega)
        · have a1 : ¬ ((-1 : Int) ≥ 0) := by omega
          rw [if_neg (show ¬ cutH z 47 = true by unfold cutH; rw [decide_eq_false h]; exact Bool.false_ne_true)]
          simp only [if_neg h, if_neg a1]
          exact im0 sch z (⟨#[47]⟩ : ByteArray) q fr _ _ (by omega) (by omega) (by rw [c1_size]; omega) (by omega) (by omega)
    · simp only [if_neg w]
      have h1 := cutL_size r 35
      simp only [cut_is r 35 (by omega), Option.bind_some]
      generalize cutL r 35 = y at h1
      have h3 := cutL_size y 63
      simp only [cut_is y 63 (by omega), Option.bind_some]
      exact end_impl sch (⟨#[]⟩ : ByteArray) (⟨#[]⟩ : ByteArray) (cutL y 63) (⟨#[]⟩ : ByteArray) (⟨#[]⟩ : ByteArray) 0 false false (by omega) (by rw [c0_size]; omega) (by rw [c0_size]; omega) (by omega) (by rw [c0_size]; omega) (by rw [c0_size]; omega) (by omega) (by omega)
def Bounded (r : Parsed) : Prop := r = noneU ∨ ∃ sch user host p path q fr hq hf, r = endU sch user host p path q fr hq hf ∧ sch.size ≤ 1048576 ∧ user.size ≤ 1048576 ∧ host.size ≤ 1048576 ∧ path.size ≤ 1048576 ∧ q.size ≤ 1048576 ∧ fr.size ≤ 1048576 ∧ 0 ≤ p ∧ p ≤ 65535
theorem bd_site {sch user x path q fr : ByteArray} {hq hf : Bool} (hs : sch.size ≤ 1048576) (hu : user.size ≤ 1048576) (hx : x.size ≤ 1048576) (hp : path.size ≤ 1048576) (hqs : q.size ≤ 1048576) (hfs : fr.size ≤ 1048576) : Bounded (siteU sch user x path q fr hq hf) := by
  have hl := cutL_size x 58
  have ls := low_size (cutL x 58)
  unfold siteU
  split
  · unfold portU
    split
    · rename_i hb
      unfold portB at hb
      rw [Bool.and_eq_true] at hb
      have hi := hb.2
      simp [inB] at hi
      split
      · exact .inr ⟨_, _, _, _, _, _, _, _, _, rfl, hs, hu, by omega, hp, hqs, hfs, by omega, by omega⟩
      · exact .inr ⟨_, _, _, _, _, _, _, _, _, rfl, hs, hu, by omega, hp, hqs, hfs, by omega, by omega⟩
    · exact .inl rfl
  · exact .inr ⟨_, _, _, _, _, _, _, _, _, rfl, hs, hu, by omega, hp, hqs, hfs, by omega, by omega⟩
theorem bd_user {sch x path q fr : ByteArray} {hq hf : Bool} (hs : sch.size ≤ 1048576) (hx : x.size ≤ 1048576) (hp : path.size ≤ 1048576) (hqs : q.size ≤ 1048576) (hfs : fr.size ≤ 1048576) : Bounded (userU sch x path q fr hq hf) := by
  have hl := cutL_size x 64
  have hr := cutR_size x 64
  unfold userU
  split
  · exact bd_site hs (by omega) (by omega) hp hqs hfs
  · exact bd_site hs (by rw [c0_size]; omega) hx hp hqs hfs
theorem parse_end (t : ByteArray) (ht : t.size ≤ 1048576) : Bounded (parseU t) := by
  have hl := cutL_size t 58
  have hr := cutR_size t 58
  have ls := low_size (cutL t 58)
  unfold parseU
  split
  · split
    · unfold webU
      split
      · have h0 : ((cutR t 58).extract 2 (cutR t 58).size).size ≤ 1048576 := by rw [ext_size]; omega
        generalize (cutR t 58).extract 2 (cutR t 58).size = x at h0
        have h1 := cutL_size x 35
        have h2 := cutR_size x 35
        generalize cutR x 35 = fr at h2
        generalize cutL x 35 = y at h1
        have h3 := cutL_size y 63
        have h4 := cutR_size y 63
        generalize cutR y 63 = q at h4
        generalize cutL y 63 = z at h3
        have h5 := cutL_size z 47
        unfold pathU
        split
        · exact bd_user (by omega) (by omega) (by rw [ext_size]; omega) (by omega) (by omega)
        · exact bd_user (by omega) (by omega) (by rw [c1_size]; omega) (by omega) (by omega)
      · exact .inl rfl
    · have h1 := cutL_size (cutR t 58) 35
      have h2 := cutL_size (cutL (cutR t 58) 35) 63
      exact .inr ⟨_, _, _, _, _, _, _, _, _, rfl, by omega, by rw [c0_size]; omega, by rw [c0_size]; omega, by omega, by rw [c0_size]; omega, by rw [c0_size]; omega, by omega, by omega⟩
  · exact .inl rfl
theorem parse_cases (t : ByteArray) (ht : t.size ≤ 1048576) : (∃ x : Parsed, x.2.2.2.2.2.2.2.2.2 = false ∧ Ev (fun k => spec_l01Parse.f k t) x ∧ Ev (fun k => impl_parse.f k t) x) ∨
    ∃ sch user host p path q fr hq hf, sch.size ≤ 1048576 ∧ user.size ≤ 1048576 ∧ host.size ≤ 1048576 ∧ path.size ≤ 1048576 ∧ q.size ≤ 1048576 ∧ fr.size ≤ 1048576 ∧ 0 ≤ p ∧ p ≤ 65535 ∧ urlB sch user host p path q fr hq hf (usualN sch) = true ∧
      Ev (fun k => spec_l01Parse.f k t) (sch, user, host, p, path, q, fr, hq, hf, true) ∧ Ev (fun k => impl_parse.f k t) (sch, user, host, p, path, q, fr, hq, hf, true) := by
  have a := parse_spec t (by omega)
  have b := parse_impl t (by omega)
  have bd := parse_end t (by omega)
  generalize parseU t = u at a b bd
  rcases bd with rfl | ⟨sch, user, host, p, path, q, fr, hq, hf, rfl, s1, s2, s3, s4, s5, s6, p0, p1⟩
  · exact .inl ⟨_, rfl, a, b⟩
  · cases ho : urlB sch user host p path q fr hq hf (usualN sch) with
    | false => exact .inl ⟨_, ho, a, b⟩
    | true =>
      unfold endU at a b
      rw [ho] at a b
      exact .inr ⟨sch, user, host, p, path, q, fr, hq, hf, s1, s2, s3, s4, s5, s6, p0, p1, ho, a, b⟩
def siteB (sch host P : ByteArray) : ByteArray := sch ++ (⟨#[58, 47, 47]⟩ : ByteArray) ++ (host ++ P)
theorem origin_eq {sch host P : ByteArray} (w : webB sch = true) : urlT sch (⟨#[]⟩ : ByteArray) host P (⟨#[]⟩ : ByteArray) (⟨#[]⟩ : ByteArray) (⟨#[]⟩ : ByteArray) false false = siteB sch host P := by
  unfold urlT tailB headB siteB
  rw [if_pos w, if_neg Bool.false_ne_true, if_neg Bool.false_ne_true, if_pos ((emptyB _).2 rfl), b_nil]
theorem origin_impl (sch user host path q fr : ByteArray) (p : Int) (hq hf : Bool) (hs : sch.size ≤ 1048576) (hh : host.size ≤ 1048576) (h0 : -9223372036854775808 ≤ p) (h1 : p ≤ 9223372036854775807) (w : webB sch = true) (hp : 0 ≤ p) :
    Ev (fun k => impl_Url_origin.f k sch user host p path q fr hq hf) (siteB sch host (portS p)) := by
  have t2 := text_impl sch (⟨#[]⟩ : ByteArray) host (⟨#[]⟩ : ByteArray) (⟨#[]⟩ : ByteArray) (⟨#[]⟩ : ByteArray) p false false (by omega) (by rw [c0_size]; omega) (by omega) (by rw [c0_size]; omega) (by rw [c0_size]; omega) (by rw [c0_size]; omega) h0 h1
  rw [origin_eq w, ports_eq hp] at t2
  unfold impl_Url_origin.f
  exact Ev.bind t2 (Ev.now _)
theorem site_gen (sch user host path q fr : ByteArray) (p : Int) (hq hf : Bool) (hs : sch.size ≤ 1048576) (hh : host.size ≤ 1048576) (h0 : -9223372036854775808 ≤ p) (h1 : p ≤ 9223372036854775807) :
    Ev (fun k => spec_l01Site.f k sch user host p path q fr hq hf) (siteB sch host (portS p)) := by
  have d := itoaB_size p h0 h1
  have e := digits_is p h0 h1
  have cs1 : (⟨#[58, 47, 47]⟩ : ByteArray).size = 3 := rfl
  have cs2 : (⟨#[58]⟩ : ByteArray).size = 1 := rfl
  have c1 : sch.size + 3 ≤ 9223372036854775807 := by (try simp only [ByteArray.size_append, cs1, cs2]); omega
  have c2 : (sch ++ (⟨#[58, 47, 47]⟩ : ByteArray)).size + host.size ≤ 9223372036854775807 := by (try simp only [ByteArray.size_append, cs1, cs2]); omega
  have c3 : 1 + (itoaB p).size ≤ 9223372036854775807 := by (try simp only [ByteArray.size_append, cs1, cs2]); omega
  have c4 : ((sch ++ (⟨#[58, 47, 47]⟩ : ByteArray)) ++ host).size + ((⟨#[58]⟩ : ByteArray) ++ (itoaB p)).size ≤ 9223372036854775807 := by (try simp only [ByteArray.size_append, cs1, cs2]); omega
  unfold spec_l01Site.f portS siteB
  simp only [if_pos c1, if_pos c2, if_pos c3, if_pos c4]
  by_cases hpos : p > 0
  · simp only [if_pos hpos]
    refine Ev.bind e ?_
    simp only [if_pos c1, if_pos c2, if_pos c3, if_pos c4]
    rw [← b_assoc _ host]
    exact Ev.now _
  · simp only [if_neg hpos, b_nil]
    exact Ev.now _
theorem first2 (x y : Int) : Ev (fun k => impl_first.f k [x, y]) (if x = 0 then y else x) := by
  unfold impl_first.f
  have l : (([x, y] : List Int).length : Int) = 2 := rfl
  have r0 : rd [x, y] 0 = x := rfl
  have r1 : rd [x, y] 1 = y := rfl
  rw [l]
  by_cases hx : x = 0
  · rw [if_pos hx]
    refine Ev.step (f := fun k => impl_first.l0 k [x, y] 2 1) (fun k => ?_) ?_
    · rw [impl_first.l0, l, if_pos (by omega), if_pos (by omega), if_pos (by omega), r0, if_pos hx, wr (by omega) (by omega)]; rfl
    · by_cases hy : y = 0
      · subst hy
        refine Ev.step (f := fun k => impl_first.l0 k [x, 0] 2 2) (fun k => ?_) ?_
        · rw [impl_first.l0, l, if_pos (by omega), if_pos (by omega), if_pos (by omega), r1, if_pos rfl, wr (by omega) (by omega)]; rfl
        · exact Ev.step (f := fun _ => some 0) (fun k => by rw [impl_first.l0, if_neg (by omega)]) (Ev.now _)
      · exact Ev.step (f := fun _ => some y) (fun k => by rw [impl_first.l0, l, if_pos (by omega), if_pos (by omega), if_pos (by omega), r1, if_neg hy]) (Ev.now _)
  · rw [if_neg hx]
    exact Ev.step (f := fun _ => some x) (fun k => by rw [impl_first.l0, l, if_pos (by omega), if_pos (by omega), if_pos (by omega), r0, if_neg hx]) (Ev.now _)
theorem ba_eq {a b : ByteArray} (h : a.data.toList = b.data.toList) : a = b := by
  apply ByteArray.ext; apply Array.toList_inj.1; exact h
theorem app_l (a b : ByteArray) : (a ++ b).data.toList = a.data.toList ++ b.data.toList := by
  rw [ByteArray.data_append, Array.toList_append]
theorem find_app (l r : List UInt8) (c : UInt8) (h : c ∉ l) : (l ++ c :: r).findIdx (· == c) = l.length := by
  induction l with
  | nil => simp [List.findIdx_cons]
  | cons x l ih =>
    have hx : (x == c) = false := by rw [beq_eq_false_iff_ne]; rintro rfl; exact h (List.mem_cons_self ..)
    rw [List.cons_append, List.findIdx_cons, hx, cond_false, ih (fun hh => h (List.mem_cons_of_mem _ hh))]; rfl
theorem cut_at {x a b : ByteArray} {c : UInt8} (hx : x.data.toList = a.data.toList ++ c :: b.data.toList) (ha : c ∉ a.data.toList) : fnd x c = a.size ∧ cutL x c = a ∧ cutR x c = b ∧ cutH x c = true := by
  have h1 : fnd x c = a.size := by unfold fnd; rw [hx, find_app _ _ _ ha, size_len]
  have h2 : fnd x c < x.size := by rw [h1, size_len x, hx, size_len a, List.length_append, List.length_cons]; omega
  refine ⟨h1, ?_, ?_, ?_⟩
  · unfold cutL; rw [h1]; apply ba_eq
    rw [ByteArray.data_extract, Array.toList_extract, List.extract_eq_take_drop, hx, List.drop_zero, Nat.sub_zero, size_len, List.take_left]
  · unfold cutR; rw [if_pos h2, h1]; apply ba_eq
    have e : (a.data.toList ++ c :: b.data.toList).drop (a.data.toList.length + 1) = b.data.toList := by
      rw [← List.drop_drop, List.drop_left]; rfl
    rw [ByteArray.data_extract, Array.toList_extract, List.extract_eq_take_drop, size_len x, hx, size_len a, e]
    exact List.take_of_length_le (by rw [List.length_append, List.length_cons]; omega)
  · unfold cutH; exact decide_eq_true h2
theorem cut_not {x : ByteArray} {c : UInt8} (h : c ∉ x.data.toList) : cutL x c = x ∧ cutR x c = (⟨#[]⟩ : ByteArray) ∧ cutH x c = false := by
  have h1 : ¬ fnd x c < x.size := by
    unfold fnd; rw [size_len]; intro hh
    obtain ⟨y, hy, e⟩ := List.findIdx_lt_length.1 hh
    exact h ((beq_iff_eq.1 e) ▸ hy)
  exact ⟨cutL_none h1, by unfold cutR; rw [if_neg h1], by unfold cutH; exact decide_eq_false h1⟩
theorem low_same {s : ByteArray} (h : ∀ b ∈ s.data.toList, ¬ (65 ≤ b.toNat ∧ b.toNat ≤ 90)) : lowF s = s := by
  unfold lowF lowAt lowL; apply ba_eq
  rw [List.take_of_length_le (by rw [size_len]; exact Nat.le_refl _), List.drop_eq_nil_of_le (by rw [size_len]; exact Nat.le_refl _), List.append_nil]
  show s.data.toList.map low1 = s.data.toList
  conv => rhs; rw [← List.map_id s.data.toList]
  apply List.map_congr_left; intro b hb; unfold low1; rw [if_neg (h b hb)]; rfl
theorem host_all : ∀ (l : List UInt8) (last : Bool), hostB last l = true → ∀ b ∈ l, lowB b = true ∨ digB b = true ∨ sepB b = true
  | [], _, _ => fun b hb => by cases hb
  | c :: l, last, h => by
    have hc : (lowB c = true ∨ digB c = true ∨ sepB c = true) ∧ (∃ x, hostB x l = true) := by
      rw [hostB] at h
      by_cases a : lowB c = true ∨ digB c = true
      · rw [if_pos a] at h
        exact ⟨a.elim .inl (fun x => .inr (.inl x)), _, h⟩
      · rw [if_neg a] at h
        by_cases hl : last = true
        · rw [if_pos hl] at h; cases h
        · rw [if_neg hl] at h
          by_cases sp : sepB c = true
          · rw [if_pos sp] at h; exact ⟨.inr (.inr sp), _, h⟩
          · rw [if_neg sp] at h; cases h
    obtain ⟨h1, x, h2⟩ := hc
    intro b hb
    rcases List.mem_cons.1 hb with rfl | hb
    · exact h1
    · exact host_all l x h2 b hb
theorem host_is {l : List UInt8} {last : Bool} (h : hostB last l = true) {b : UInt8} (hb : b ∈ l) : (97 ≤ b.toNat ∧ b.toNat ≤ 122) ∨ (48 ≤ b.toNat ∧ b.toNat ≤ 57) ∨ b.toNat = 45 ∨ b.toNat = 46 := by
  rcases host_all l last h b hb with h | h | h
  · simp [lowB] at h; exact .inl h
  · simp [digB] at h; exact .inr (.inl h)
  · simp [sepB] at h; exact .inr (.inr h)
theorem scheme_all : ∀ (l : List UInt8) (f : Bool), schemeB f l = true → ∀ b ∈ l, (97 ≤ b.toNat ∧ b.toNat ≤ 122) ∨ (48 ≤ b.toNat ∧ b.toNat ≤ 57) ∨ b.toNat = 45 ∨ b.toNat = 43 ∨ b.toNat = 46
  | [], _, _ => fun b hb => by cases hb
  | c :: l, f, h => by
    have hc : ((97 ≤ c.toNat ∧ c.toNat ≤ 122) ∨ (48 ≤ c.toNat ∧ c.toNat ≤ 57) ∨ c.toNat = 45 ∨ c.toNat = 43 ∨ c.toNat = 46) ∧ schemeB false l = true := by
      rw [schemeB] at h
      by_cases a : lowB c = true
      · rw [if_pos a] at h
        simp [lowB] at a
        exact ⟨.inl a, h⟩
      · rw [if_neg a] at h
        by_cases hl : f = true
        · rw [if_pos hl] at h; cases h
        · rw [if_neg hl] at h
          by_cases sp : digB c = true ∨ c.toNat = 45 ∨ c.toNat = 43 ∨ c.toNat = 46
          · rw [if_pos sp] at h
            refine ⟨.inr ?_, h⟩
            rcases sp with d | d
            · simp [digB] at d; exact .inl d
            · exact .inr d
          · rw [if_neg sp] at h; cases h
    obtain ⟨h1, h2⟩ := hc
    intro b hb
    rcases List.mem_cons.1 hb with rfl | hb
    · exact h1
    · exact scheme_all l false h2 b hb
theorem only_not {l W : List UInt8} (h : onlyB l W = true) {c : UInt8} (hc : c ∈ W) : c ∉ l := by
  intro hh
  unfold onlyB at h
  have h1 := List.all_eq_true.1 h c hh
  rw [Bool.and_eq_true] at h1
  have h2 := h1.2
  rw [show W.contains c = true from List.contains_iff_mem.2 hc] at h2
  cases h2
theorem itoa_list (u : Nat) : (itoaB (u : Int)).data.toList = Lib.decDigits u := by
  unfold itoaB
  show Lib.itoa (u : Int) = _
  rw [Lib.itoa_nonneg]
theorem nd_lt : ∀ (k u : Nat), u < 10 ^ (k + 1) → Lib.nDigits u ≤ k + 1
  | 0, u, h => by rw [Lib.nDigits_small (by simpa using h)]; omega
  | k + 1, u, h => by
    by_cases z : u < 10
    · rw [Lib.nDigits_small z]; omega
    · rw [Lib.nDigits_big z]
      have h1 : u / 10 < 10 ^ (k + 1) := Nat.div_lt_of_lt_mul (by rw [Nat.pow_succ, Nat.mul_comm] at h; exact h)
      have := nd_lt k (u / 10) h1
      omega
theorem num_own (p : Int) (h0 : 0 ≤ p) (h1 : p ≤ 65535) : impl_number.ok (itoaB p) = true ∧ impl_number.val (itoaB p) = p := by
  obtain ⟨u, rfl⟩ : ∃ u : Nat, p = (u : Int) := ⟨p.toNat, by omega⟩
  have hl := itoa_list u
  have hs : (Lib.decDigits u).length ≤ 18 := by rw [Lib.decDigits_length]; have := nd_lt 4 u (by omega); omega
  obtain ⟨a1, a2⟩ := atoi_canon (canon_dec hs)
  have hv : ((valFrom 0 (Lib.decDigits u) : Nat) : Int) = (u : Int) := itoa_inj (by omega) (by omega) (by rw [a2, Lib.itoa_nonneg])
  have hsz := size_len (itoaB (u : Int))
  rw [hl] at hsz
  constructor
  · unfold impl_number.ok
    rw [hl, a1]
    have hd : impl_number.dig (itoaB (u : Int)) ≤ 18 := by unfold impl_number.dig; split <;> omega
    show (decide (impl_number.dig (itoaB (u : Int)) ≤ 18) && (Lib.itoa (valFrom 0 (Lib.decDigits u) : Int) == Lib.decDigits u)) = true
    rw [decide_eq_true hd, a2, Bool.true_and, beq_self_eq_true]
  · unfold impl_number.val
    rw [hl, a1]
    exact hv
theorem decDig_is {u : Nat} {b : UInt8} (hb : b ∈ Lib.decDigits u) : 48 ≤ b.toNat ∧ b.toNat ≤ 57 := isDig_iff.1 (List.all_eq_true.1 (dec_digits u).1 b hb)
def userP (user : ByteArray) : ByteArray := if user.toList = ([] : List UInt8) then (⟨#[]⟩ : ByteArray) else user ++ (⟨#[64]⟩ : ByteArray)
theorem ltail {h t : ByteArray} (hq : Bool) (q : ByteArray) (hf : Bool) (fr : ByteArray) (e : t = tailB hq q hf fr h) : t.data.toList = h.data.toList ++ ((if hq = true then 63 :: q.data.toList else []) ++ (if hf = true then 35 :: fr.data.toList else [])) := by
  subst e
  unfold tailB
  cases hq <;> cases hf <;> simp [app_l]
theorem empty_of {s : ByteArray} (h : s.size = 0) : s = (⟨#[]⟩ : ByteArray) := by
  apply ba_eq; rw [size_len] at h; rw [List.length_eq_zero_iff.1 h]
theorem web_two {s : ByteArray} (w : webB s = true) : s.data.toList = ([104, 116, 116, 112] : List UInt8) ∨ s.data.toList = ([104, 116, 116, 112, 115] : List UInt8) := by
  unfold webB at w
  rw [toList_data] at w
  simpa using w
theorem web_low {s : ByteArray} (w : webB s = true) : lowF s = s ∧ (58 : UInt8) ∉ s.data.toList := by
  have h := web_two w
  constructor
  · apply low_same
    rcases h with h | h <;> rw [h] <;> decide
  · rcases h with h | h <;> rw [h] <;> decide
theorem parse_back {sch user host path q fr : ByteArray} {p : Int} {hq hf : Bool} (hv : urlB sch user host p path q fr hq hf (usualN sch) = true) (t : ByteArray) (ht : t = urlT sch user host (portS p) path q fr hq hf) :
    parseU t = (sch, user, host, p, path, q, fr, hq, hf, true) := by
  have hv0 := hv
  unfold urlB at hv
  simp only [Bool.and_eq_true, Bool.or_eq_true, decide_eq_true_eq] at hv
  obtain ⟨⟨_, hsc⟩, hqe, hfe, hpo, hqo, hfo, _, hv⟩ := hv
  by_cases w : webB sch = true
  · rw [if_pos w] at hv
    simp only [Bool.and_eq_true, Bool.not_eq_true', decide_eq_true_eq, decide_eq_false_iff_not] at hv
    obtain ⟨huo, hho, hpi, hpu, hp0, hp1⟩ := hv
    simp [inB] at hpi
    obtain ⟨wl, w58⟩ := web_low w
    obtain ⟨pl, hpl⟩ : ∃ pl, path.data.toList = 47 :: pl := by
      cases hd : path.data.toList with
      | nil => rw [size_len, hd] at hp0; cases hp0
      | cons b r =>
        have hd0 : path.data.toList.drop 0 = b :: r := by rw [hd]; rfl
        obtain ⟨_, e, _⟩ := drop_cons hd0
        have e2 : bt path 0 = 47 := by simpa using hp1
        have e3 : bt path ((0 : Nat) : Int) = bt path 0 := rfl
        rw [e3, e2] at e
        refine ⟨r, ?_⟩
        have : b = 47 := UInt8.toNat_inj.1 (by show b.toNat = 47; omega)
        rw [this]
    have hqz : hq = false → q = (⟨#[]⟩ : ByteArray) := fun h => empty_of (by rcases hqe with e | e; (rw [h] at e; cases e); exact e)
    have hfz : hf = false → fr = (⟨#[]⟩ : ByteArray) := fun h => empty_of (by rcases hfe with e | e; (rw [h] at e; cases e); exact e)
    -- the parts
    have hP : ∀ b ∈ (portS p).data.toList, b = 58 ∨ (48 ≤ b.toNat ∧ b.toNat ≤ 57) := by
      intro b hb
      unfold portS at hb
      by_cases z : p > 0
      · rw [if_pos z, app_l] at hb
        obtain ⟨u, hu⟩ : ∃ u : Nat, p = (u : Int) := ⟨p.toNat, by omega⟩
        rw [hu, itoa_list] at hb
        rcases List.mem_append.1 hb with hb | hb
        · exact .inl (List.mem_singleton.1 hb)
        · exact .inr (decDig_is hb)
      · rw [if_neg z] at hb; cases hb
    have hno : ∀ c : UInt8, c ∉ user.data.toList → c ≠ 64 → ¬ ((97 ≤ c.toNat ∧ c.toNat ≤ 122) ∨ (48 ≤ c.toNat ∧ c.toNat ≤ 57) ∨ c.toNat = 45 ∨ c.toNat = 46) → c ≠ 58 → c ∉ (userP user ++ (host ++ portS p)).data.toList := by
      intro c h1 h2 h3 h4 hh
      rw [app_l, app_l, List.mem_append, List.mem_append] at hh
      rcases hh with hh | hh | hh
      · unfold userP at hh
        split at hh
        · cases hh
        · rw [app_l, List.mem_append] at hh
          rcases hh with hh | hh
          · exact h1 hh
          · exact h2 (List.mem_singleton.1 hh)
      · exact h3 (host_is hho hh)
      · rcases hP c hh with h | h
        · exact h4 h
        · exact h3 (.inr (.inl h))
    have n35 := hno 35 (only_not huo (by simp)) (by decide) (by decide) (by decide)
    have n63 := hno 63 (only_not huo (by simp)) (by decide) (by decide) (by decide)
    have n47 := hno 47 (only_not huo (by simp)) (by decide) (by decide) (by decide)
    -- r4, r3, r2, r1
    generalize h4 : userP user ++ (host ++ portS p) = r4 at n35 n63 n47
    have n63' : (63 : UInt8) ∉ (r4 ++ path).data.toList := by
      rw [app_l, List.mem_append]
      rintro (h | h)
      · exact n63 h
      · exact only_not hpo (by simp) h
    have hr2 : (tailB hq q false fr (r4 ++ path)).data.toList = (r4 ++ path).data.toList ++ (if hq = true then 63 :: q.data.toList else []) := by
      rw [ltail hq q false fr rfl]; simp
    have hr1 : (tailB hq q hf fr (r4 ++ path)).data.toList = (tailB hq q false fr (r4 ++ path)).data.toList ++ (if hf = true then 35 :: fr.data.toList else []) := by
      rw [ltail hq q hf fr rfl, hr2, List.append_assoc]
    have n35' : (35 : UInt8) ∉ (tailB hq q false fr (r4 ++ path)).data.toList := by
      rw [hr2, app_l, List.mem_append, List.mem_append]
      rintro ((h | h) | h)
      · exact n35 h
      · exact only_not hpo (by simp) h
      · split at h
        · rcases List.mem_cons.1 h with h | h
          · cases h
          · exact only_not hqo (by simp) h
        · cases h
    have ht' : t.data.toList = sch.data.toList ++ 58 :: ((⟨#[47, 47]⟩ : ByteArray) ++ tailB hq q hf fr (r4 ++ path)).data.toList := by
      rw [ht, app_l, ltail hq q hf fr rfl]
      unfold urlT
      rw [if_pos w, ltail hq q hf fr rfl, ← h4]
      unfold headB userP
      split <;> simp [app_l]
    have c2 : cutL (tailB hq q hf fr (r4 ++ path)) 35 = tailB hq q false fr (r4 ++ path) ∧ cutR (tailB hq q hf fr (r4 ++ path)) 35 = fr ∧ cutH (tailB hq q hf fr (r4 ++ path)) 35 = hf := by
      cases hf with
      | true => rw [if_pos rfl] at hr1; exact (cut_at hr1 n35').2
      | false => obtain ⟨a, b, c⟩ := cut_not n35'; exact ⟨a, by rw [b, hfz rfl], c⟩
    have c3 : cutL (tailB hq q false fr (r4 ++ path)) 63 = r4 ++ path ∧ cutR (tailB hq q false fr (r4 ++ path)) 63 = q ∧ cutH (tailB hq q false fr (r4 ++ path)) 63 = hq := by
      cases hq with
      | true => rw [if_pos rfl] at hr2; exact (cut_at hr2 n63').2
      | false =>
        have e : tailB false q false fr (r4 ++ path) = r4 ++ path := rfl
        rw [e]
        obtain ⟨a, b, c⟩ := cut_not n63'; exact ⟨a, by rw [b, hqz rfl], c⟩
    have h3l : (r4 ++ path).data.toList = r4.data.toList ++ 47 :: (⟨pl.toArray⟩ : ByteArray).data.toList := by rw [app_l, hpl]
    obtain ⟨d1, d2, _, d4⟩ := cut_at h3l n47
    obtain ⟨_, e1, e2, e3⟩ := cut_at ht' w58
    have hend : endU sch user host p path q fr hq hf = (sch, user, host, p, path, q, fr, hq, hf, true) := by unfold endU; rw [hv0]
    have hsite : siteU sch user (host ++ portS p) path q fr hq hf = (sch, user, host, p, path, q, fr, hq, hf, true) := by
      have h58 : (58 : UInt8) ∉ host.data.toList := fun hh => absurd (host_is hho hh) (by decide)
      have hlow : lowF host = host := low_same (fun b hb => by have := host_is hho hb; omega)
      unfold siteU
      by_cases z : p > 0
      · have e : (host ++ portS p).data.toList = host.data.toList ++ 58 :: (itoaB p).data.toList := by
          unfold portS; rw [if_pos z, app_l, app_l]; rfl
        obtain ⟨_, f1, f2, f3⟩ := cut_at e h58
        obtain ⟨g1, g2⟩ := num_own p hpi.1 hpi.2
        have hb : portB (itoaB p) = true := by
          unfold portB; rw [g1, g2]; simp [inB]; omega
        rw [f1, f2, f3, if_pos rfl, hlow]
        unfold portU
        rw [if_pos hb, g2, if_neg hpu, hend]
      · have p0 : p = 0 := by omega
        have e : portS p = (⟨#[]⟩ : ByteArray) := by unfold portS; rw [if_neg z]
        obtain ⟨f1, f2, f3⟩ := cut_not h58
        rw [e, b_nil, f3, if_neg Bool.false_ne_true, f1, hlow, ← p0, hend]
    have huser : userU sch r4 path q fr hq hf = (sch, user, host, p, path, q, fr, hq, hf, true) := by
      have n64 : (64 : UInt8) ∉ (host ++ portS p).data.toList := by
        rw [app_l, List.mem_append]
        rintro (h | h)
        · exact absurd (host_is hho h) (by decide)
        · rcases hP 64 h with h | h
          · cases h
          · exact absurd h (by decide)
      unfold userU
      rw [← h4]
      unfold userP
      by_cases z : user.toList = ([] : List UInt8)
      · have zu : user = (⟨#[]⟩ : ByteArray) := empty_of ((emptyB user).1 z)
        have e0 : (⟨#[]⟩ : ByteArray) ++ (host ++ portS p) = host ++ portS p := by apply ba_eq; rw [app_l]; rfl
        rw [if_pos z, e0, (cut_not n64).2.2, if_neg Bool.false_ne_true, ← zu, hsite]
      · have e : (user ++ (⟨#[64]⟩ : ByteArray) ++ (host ++ portS p)).data.toList = user.data.toList ++ 64 :: (host ++ portS p).data.toList := by
          rw [app_l, app_l, List.append_assoc]; rfl
        obtain ⟨_, f1, f2, f3⟩ := cut_at e (only_not huo (by simp))
        rw [if_neg z, f3, if_pos rfl, f1, f2, hsite]
    unfold parseU
    rw [e3, if_pos rfl, e1, e2, wl, if_pos w]
    unfold webU
    have two : twoS ((⟨#[47, 47]⟩ : ByteArray) ++ tailB hq q hf fr (r4 ++ path)) = true := by
      unfold twoS
      have hz : 2 ≤ ((⟨#[47, 47]⟩ : ByteArray) ++ tailB hq q hf fr (r4 ++ path)).size := by
        rw [ByteArray.size_append]; have : (⟨#[47, 47]⟩ : ByteArray).size = 2 := rfl; omega
      have hx : (((⟨#[47, 47]⟩ : ByteArray) ++ tailB hq q hf fr (r4 ++ path)).extract 0 2).toList = [47, 47] := by
        rw [toList_data, ByteArray.data_extract, Array.toList_extract, List.extract_eq_take_drop, app_l]; rfl
      rw [decide_eq_true hz, hx, Bool.true_and]; rfl
    rw [if_pos two, b_extract (⟨#[47, 47]⟩ : ByteArray) (tailB hq q hf fr (r4 ++ path)) 2 rfl, c2.1, c2.2.1, c2.2.2, c3.1, c3.2.1, c3.2.2]
    unfold pathU
    rw [d4, if_pos rfl, d1, d2, b_extract r4 path _ rfl, huser]
  · rw [if_neg w] at hv
    simp only [Bool.and_eq_true, Bool.not_eq_true', decide_eq_true_eq] at hv
    obtain ⟨hu, hh, hp, hq0, hf0⟩ := hv
    have hlow : lowF sch = sch := low_same (fun b hb => by have := scheme_all _ _ hsc b hb; omega)
    have n58 : (58 : UInt8) ∉ sch.data.toList := fun hb => absurd (scheme_all _ _ hsc _ hb) (by decide)
    have ht' : t.data.toList = sch.data.toList ++ 58 :: path.data.toList := by
      rw [ht]; unfold urlT; rw [if_neg w, app_l, app_l, List.append_assoc]; rfl
    obtain ⟨_, e1, e2, e3⟩ := cut_at ht' n58
    subst hq0 hf0 hp
    have hqz : q = (⟨#[]⟩ : ByteArray) := empty_of (by rcases hqe with e | e; (cases e); exact e)
    have hfz : fr = (⟨#[]⟩ : ByteArray) := empty_of (by rcases hfe with e | e; (cases e); exact e)
    have huz := empty_of hu
    have hhz := empty_of hh
    subst hqz hfz huz hhz
    unfold parseU
    rw [e3, if_pos rfl, e1, e2, hlow, if_neg w, (cut_not (only_not hpo (c := 35) (by simp))).1, (cut_not (only_not hpo (c := 63) (by simp))).1]
    unfold endU
    rw [hv0]
theorem getD_mem {α : Type} (z : α) (l : List α) (i : Int) (h0 : 0 ≤ i) (h1 : i < l.length) : l.getD i.toNat z ∈ l := by
  rw [List.getD_eq_getElem?_getD, List.getElem?_eq_getElem (by omega)]; exact List.getElem_mem _
def Src (l : List Int) (n : Nat) (a s : Int) : Prop := l.length ≤ 1048576 ∧ (∀ i, 0 ≤ i → i < (l.length : Int) → 0 ≤ rd l i ∧ rd l i ≤ 255) ∧ 0 ≤ a ∧ a ≤ n ∧ 0 ≤ s ∧ s < 2147483648
theorem Src.mono {l : List Int} {n m : Nat} {a s : Int} (h : Src l n a s) (hm : n ≤ m) : Src l m a s := ⟨h.1, h.2.1, h.2.2.1, by have := h.2.2.2.1; omega, h.2.2.2.2⟩
theorem byte_ok {l : List Int} {n : Nat} {a s : Int} (h : Src l n a s) (hn : n ≤ 1000000) : ∃ b a' s', spec_l00Src_byte.f l a s = some (b, a', s') ∧ 0 ≤ b ∧ b ≤ 255 ∧ Src l (n + 1) a' s' := by
  obtain ⟨h1, h2, h3, h4, h5, h6⟩ := h
  unfold spec_l00Src_byte.f
  rw [if_pos ⟨h3, by omega, h5, h6, by omega⟩]
  by_cases c : a < (l.length : Int)
  · have hb := h2 a h3 c
    rw [if_pos c, if_pos hb]
    refine ⟨_, _, _, rfl, hb.1, hb.2, h1, h2, by omega, by omega, ?_, ?_⟩
    · exact Int.tmod_nonneg _ (by omega)
    · exact Int.tmod_lt_of_pos _ (by omega)
  · rw [if_neg c]
    by_cases d : 2999 < a
    · rw [if_pos d]
      exact ⟨_, _, _, rfl, by omega, by omega, h1, h2, by omega, by omega, h5, h6⟩
    · rw [if_neg d]
      exact ⟨_, _, _, rfl, by omega, by omega, h1, h2, by omega, by omega, by omega, by omega⟩
theorem next_ok {l : List Int} {n : Nat} {a s : Int} (h : Src l n a s) (hn : n ≤ 900000) (m : Int) (h1 : 1 ≤ m) (h2 : m ≤ 1000000000) : ∃ b a' s', spec_l00Src_next.f l a s m = some (b, a', s') ∧ 0 ≤ b ∧ b < m ∧ Src l (n + 3) a' s' := by
  unfold spec_l00Src_next.f
  by_cases c : m ≤ 1
  · rw [if_pos c]
    exact ⟨_, _, _, rfl, by omega, by omega, h.mono (by omega)⟩
  · rw [if_neg c]
    by_cases d : m ≤ 256
    · obtain ⟨b, a', s', e, b1, b2, k⟩ := byte_ok h (by omega)
      rw [if_pos d, e, Option.bind_some, if_neg (by omega)]
      exact ⟨_, _, _, rfl, Int.tmod_nonneg _ b1, Int.tmod_lt_of_pos _ (by omega), k.mono (by omega)⟩
    · obtain ⟨b, a', s', e, b1, b2, k⟩ := byte_ok h (by omega)
      obtain ⟨c', a2, s2, e2, c1, c2, k2⟩ := byte_ok k (by omega)
      obtain ⟨d', a3, s3, e3, d1, d2, k3⟩ := byte_ok k2 (by omega)
      rw [if_neg d, e, Option.bind_some]
      simp only [e2, Option.bind_some]
      simp only [e3, Option.bind_some]
      rw [if_neg (by omega), wr (x := b * 65536) (by omega) (by omega), wr (x := c' * 256) (by omega) (by omega), wr (x := b * 65536 + c' * 256) (by omega) (by omega), wr (by omega) (by omega)]
      exact ⟨_, _, _, rfl, Int.tmod_nonneg _ (by omega), Int.tmod_lt_of_pos _ (by omega), k3⟩
theorem pick_ok {l : List Int} {n : Nat} {a s : Int} (h : Src l n a s) (hn : n ≤ 900000) (ts : List ByteArray) (h0 : ts ≠ []) (h2 : ts.length ≤ 1000) (z : Nat) (hz : ∀ t, t ∈ ts → t.size ≤ z) : ∃ t a' s', spec_l00Src_pick.f l a s ts = some (t, a', s') ∧ t ∈ ts ∧ t.size ≤ z ∧ Src l (n + 3) a' s' := by
  unfold spec_l00Src_pick.f
  have hl : 0 < ts.length := List.length_pos_iff.2 h0
  obtain ⟨b, a', s', e, b1, b2, k⟩ := next_ok h hn (ts.length : Int) (by omega) (by omega)
  rw [if_neg (by omega), e, Option.bind_some]
  simp only [if_pos b1, if_pos b2]
  have hm : rdOf ByteArray.empty ts b ∈ ts := getD_mem _ _ _ b1 b2
  exact ⟨_, _, _, rfl, hm, hz _ hm, k⟩
theorem chance_ok {l : List Int} {n : Nat} {a s : Int} (h : Src l n a s) (hn : n ≤ 900000) (m : Int) (h1 : 1 ≤ m) (h2 : m ≤ 1000000000) : ∃ b a' s', spec_l00Src_chance.f l a s m = some (b, a', s') ∧ Src l (n + 3) a' s' := by
  unfold spec_l00Src_chance.f
  obtain ⟨b, a', s', e, b1, b2, k⟩ := next_ok h hn m h1 h2
  rw [e, Option.bind_some]
  exact ⟨_, _, _, rfl, k⟩
theorem source_ok (l : List Int) (h : l.length ≤ 1048576) (hy : ∀ y, y ∈ l → (Lit.int .u8 y).wf = true) : ∃ s0, spec_l00Source.f l = some (l, 0, s0) ∧ Src l 0 0 s0 := by
  refine ⟨(l.length : Int) % 1000, rfl, h, fun i h0 h1 => ?_, by omega, by omega, by omega, by omega⟩
  have := hy _ (getD_mem 0 l i h0 h1)
  have e : (Lit.int .u8 (rd l i)).wf = true := this
  have e1 : IntKind.u8.min = 0 := by decide
  have e2 : IntKind.u8.max = 255 := by decide
  simp only [Lit.wf, Bool.and_eq_true, decide_eq_true_eq, e1, e2] at e
  exact e
theorem all_size {ts : List ByteArray} {z : Nat} (h : ts.all (fun t => decide (t.size ≤ z)) = true) : ∀ t, t ∈ ts → t.size ≤ z := fun t ht => of_decide_eq_true (List.all_eq_true.1 h t ht)
theorem host_draw {l : List Int} {n : Nat} {a s : Int} (h : Src l n a s) (hn : n ≤ 900000) : ∃ t a' s', spec_l00Src_host.f l a s = some (t, a', s') ∧ t.size ≤ 20 ∧ Src l (n + 3) a' s' := by
  unfold spec_l00Src_host.f
  obtain ⟨t, a', s', e, _, z, k⟩ := pick_ok h hn ([(⟨#[97, 46, 101, 120, 97, 109, 112, 108, 101]⟩ : ByteArray), (⟨#[98, 46, 101, 120, 97, 109, 112, 108, 101]⟩ : ByteArray), (⟨#[114, 46, 116, 101, 115, 116]⟩ : ByteArray), (⟨#[120]⟩ : ByteArray)] : List ByteArray) (by simp) (by simp) 20 (all_size (by decide))
  rw [e, Option.bind_some]
  exact ⟨t, a', s', rfl, z, k⟩
theorem url_j2 {l : List Int} {n : Nat} {a s : Int} (h : Src l n a s) (hn : n ≤ 800000) (x : ByteArray) (hx : x.size ≤ 1000) : ∃ t a' s', Ev (fun k => spec_l00Src_url.j2 k x l a s) (t, a', s') ∧ t.size ≤ x.size + 20 ∧ Src l (n + 6) a' s' := by
  obtain ⟨b, a1, s1, e, k1⟩ := chance_ok h (by omega) 4 (by omega) (by omega)
  cases b with
  | false => exact ⟨x, a1, s1, Ev.step (f := fun _ => some (x, a1, s1)) (fun k => by rw [spec_l00Src_url.j2, e, Option.bind_some]; rfl) (Ev.now _), by omega, k1.mono (by omega)⟩
  | true =>
    obtain ⟨t, a2, s2, e2, _, z, k2⟩ := pick_ok k1 (by omega) ([(⟨#[35]⟩ : ByteArray), (⟨#[35, 102]⟩ : ByteArray), (⟨#[35, 97, 35, 98]⟩ : ByteArray)] : List ByteArray) (by simp) (by simp) 20 (all_size (by decide))
    refine ⟨x ++ t, a2, s2, Ev.step (f := fun _ => some (x ++ t, a2, s2)) (fun k => ?_) (Ev.now _), by rw [ByteArray.size_append]; omega, k2⟩
    rw [spec_l00Src_url.j2, e, Option.bind_some]
    simp only [if_true, e2, Option.bind_some]
    rw [if_pos (by omega)]
theorem url_j1 {l : List Int} {n : Nat} {a s : Int} (h : Src l n a s) (hn : n ≤ 700000) (x : ByteArray) (hx : x.size ≤ 500) : ∃ t a' s', Ev (fun k => spec_l00Src_url.j1 k x l a s) (t, a', s') ∧ t.size ≤ x.size + 60 ∧ Src l (n + 15) a' s' := by
  obtain ⟨p, a1, s1, e1, _, z1, k1⟩ := pick_ok h (by omega) ([(⟨#[]⟩ : ByteArray), (⟨#[47]⟩ : ByteArray), (⟨#[47, 112]⟩ : ByteArray), (⟨#[47, 112, 47, 113, 46, 106, 115]⟩ : ByteArray)] : List ByteArray) (by simp) (by simp) 20 (all_size (by decide))
  have zx : (x ++ p).size ≤ x.size + 20 := by rw [ByteArray.size_append]; omega
  obtain ⟨b, a2, s2, e2, k2⟩ := chance_ok k1 (by omega) 4 (by omega) (by omega)
  cases b with
  | false =>
    obtain ⟨t, a', s', ev, z, k⟩ := url_j2 k2 (by omega) (x ++ p) (by omega)
    refine ⟨t, a', s', Ev.step (f := fun k => spec_l00Src_url.j2 k (x ++ p) l a2 s2) (fun k => ?_) ev, by omega, k.mono (by omega)⟩
    rw [spec_l00Src_url.j1, e1, Option.bind_some]
    simp only [if_pos (show x.size + p.size ≤ 9223372036854775807 by omega), e2, Option.bind_some]
    rfl
  | true =>
    obtain ⟨q, a3, s3, e3, _, z3, k3⟩ := pick_ok k2 (by omega) ([(⟨#[63]⟩ : ByteArray), (⟨#[63, 107, 61, 118]⟩ : ByteArray), (⟨#[63, 97, 63, 98]⟩ : ByteArray)] : List ByteArray) (by simp) (by simp) 20 (all_size (by decide))
    have zq : (x ++ p ++ q).size ≤ x.size + 40 := by rw [ByteArray.size_append]; omega
    obtain ⟨t, a', s', ev, z, k⟩ := url_j2 k3 (by omega) (x ++ p ++ q) (by omega)
    refine ⟨t, a', s', Ev.step (f := fun k => spec_l00Src_url.j2 k (x ++ p ++ q) l a3 s3) (fun k => ?_) ev, by omega, k.mono (by omega)⟩
    rw [spec_l00Src_url.j1, e1, Option.bind_some]
    simp only [if_pos (show x.size + p.size ≤ 9223372036854775807 by omega), e2, Option.bind_some, if_true, e3]
    rw [if_pos (by omega)]
theorem url_j0 {l : List Int} {n : Nat} {a s : Int} (h : Src l n a s) (hn : n ≤ 600000) (x : ByteArray) (hx : x.size ≤ 100) : ∃ t a' s', Ev (fun k => spec_l00Src_url.j0 k x l a s) (t, a', s') ∧ t.size ≤ x.size + 100 ∧ Src l (n + 24) a' s' := by
  obtain ⟨p, a1, s1, e1, z1, k1⟩ := host_draw h (by omega)
  have zx : (x ++ p).size ≤ x.size + 20 := by rw [ByteArray.size_append]; omega
  obtain ⟨b, a2, s2, e2, k2⟩ := chance_ok k1 (by omega) 4 (by omega) (by omega)
  cases b with
  | false =>
    obtain ⟨t, a', s', ev, z, k⟩ := url_j1 k2 (by omega) (x ++ p) (by omega)
    refine ⟨t, a', s', Ev.step (f := fun k => spec_l00Src_url.j1 k (x ++ p) l a2 s2) (fun k => ?_) ev, by omega, k.mono (by omega)⟩
    rw [spec_l00Src_url.j0, e1, Option.bind_some]
    simp only [if_pos (show x.size + p.size ≤ 9223372036854775807 by omega), e2, Option.bind_some]
    rfl
  | true =>
    obtain ⟨q, a3, s3, e3, _, z3, k3⟩ := pick_ok k2 (by omega) ([(⟨#[58, 56, 48]⟩ : ByteArray), (⟨#[58, 52, 52, 51]⟩ : ByteArray), (⟨#[58, 56, 48, 56, 48]⟩ : ByteArray)] : List ByteArray) (by simp) (by simp) 20 (all_size (by decide))
    have zq : (x ++ p ++ q).size ≤ x.size + 40 := by rw [ByteArray.size_append]; omega
    obtain ⟨t, a', s', ev, z, k⟩ := url_j1 k3 (by omega) (x ++ p ++ q) (by omega)
    refine ⟨t, a', s', Ev.step (f := fun k => spec_l00Src_url.j1 k (x ++ p ++ q) l a3 s3) (fun k => ?_) ev, by omega, k.mono (by omega)⟩
    rw [spec_l00Src_url.j0, e1, Option.bind_some]
    simp only [if_pos (show x.size + p.size ≤ 9223372036854775807 by omega), e2, Option.bind_some, if_true, e3]
    rw [if_pos (by omega)]
theorem url_draw {l : List Int} {n : Nat} {a s : Int} (h : Src l n a s) (hn : n ≤ 500000) : ∃ t a' s', Ev (fun k => spec_l00Src_url.f k l a s) (t, a', s') ∧ t.size ≤ 200 ∧ Src l (n + 33) a' s' := by
  obtain ⟨p, a1, s1, e1, _, z1, k1⟩ := pick_ok h (by omega) ([(⟨#[104, 116, 116, 112, 115, 58, 47, 47]⟩ : ByteArray), (⟨#[104, 116, 116, 112, 115, 58, 47, 47]⟩ : ByteArray), (⟨#[104, 116, 116, 112, 58, 47, 47]⟩ : ByteArray)] : List ByteArray) (by simp) (by simp) 20 (all_size (by decide))
  obtain ⟨b, a2, s2, e2, k2⟩ := chance_ok k1 (by omega) 4 (by omega) (by omega)
  unfold spec_l00Src_url.f
  simp only [e1, e2, Option.bind_some]
  cases b with
  | false =>
    obtain ⟨t, a', s', ev, z, k⟩ := url_j0 k2 (by omega) p (by omega)
    exact ⟨t, a', s', ev, by omega, k.mono (by omega)⟩
  | true =>
    obtain ⟨q, a3, s3, e3, _, z3, k3⟩ := pick_ok k2 (by omega) ([(⟨#[117, 64]⟩ : ByteArray), (⟨#[117, 58, 112, 64]⟩ : ByteArray)] : List ByteArray) (by simp) (by simp) 20 (all_size (by decide))
    have zq : (p ++ q).size ≤ 40 := by rw [ByteArray.size_append]; omega
    obtain ⟨t, a', s', ev, z, k⟩ := url_j0 k3 (by omega) (p ++ q) (by omega)
    refine ⟨t, a', s', ?_, by omega, k.mono (by omega)⟩
    simp only [if_true, e3, Option.bind_some, if_pos (show p.size + q.size ≤ 9223372036854775807 by omega)]
    exact ev
theorem drawn_is (l : List Int) (h : l.length ≤ 1048576) (hy : ∀ y, y ∈ l → (Lit.int .u8 y).wf = true) : ∃ t, Ev (fun k => spec_UrlDrawn.f k l) t ∧ t.size ≤ 200 := by
  obtain ⟨s0, e, i⟩ := source_ok l h hy
  obtain ⟨t, a, s, ev, z, _⟩ := url_draw i (Nat.zero_le _)
  refine ⟨t, ?_, z⟩
  unfold spec_UrlDrawn.f
  simp only [e, Option.bind_some]
  exact Ev.bind (a := (t, a, s)) ev (Ev.now t)
def stripT (sch host : ByteArray) (p : Int) (path q : ByteArray) (hq : Bool) : ByteArray := if webB sch = true then urlT sch (⟨#[]⟩ : ByteArray) host (portS p) path q (⟨#[]⟩ : ByteArray) hq false else sch
theorem strip_is (sch user host path q fr : ByteArray) (p : Int) (hq hf : Bool) (hs : sch.size ≤ 1048576) (hh : host.size ≤ 1048576) (hp : path.size ≤ 1048576) (hqs : q.size ≤ 1048576) (h0 : 0 ≤ p) (h1 : p ≤ 65535) :
    Ev (fun k => spec_l01Strip.f k sch user host p path q fr hq hf) (stripT sch host p path q hq) ∧ Ev (fun k => impl_Url_strip.f k sch user host p path q fr hq hf) (stripT sch host p path q hq) := by
  have t1 := text_spec sch (⟨#[]⟩ : ByteArray) host path q (⟨#[]⟩ : ByteArray) p hq false (by omega) (by rw [c0_size]; omega) (by omega) (by omega) (by omega) (by rw [c0_size]; omega) (by omega) (by omega)
  have t2 := text_impl sch (⟨#[]⟩ : ByteArray) host path q (⟨#[]⟩ : ByteArray) p hq false (by omega) (by rw [c0_size]; omega) (by omega) (by omega) (by omega) (by rw [c0_size]; omega) (by omega) (by omega)
  rw [urlT_ports (fun _ => h0)] at t2
  unfold stripT spec_l01Strip.f impl_Url_strip.f
  rw [web_spec, web_impl]
  by_cases w : webB sch = true
  · simp only [Option.bind_some, if_pos w]
    exact ⟨Ev.bind t1 (Ev.now _), Ev.bind t2 (Ev.now _)⟩
  · simp only [Option.bind_some, if_neg w]
    exact ⟨Ev.now _, Ev.now _⟩
theorem long_is (t : ByteArray) : impl_long.f t = some (if (t.size : Int) ≤ 65536 then 0 else 2) := by
  unfold impl_long.f impl_unless.f
  by_cases h : (t.size : Int) ≤ 65536
  · rw [decide_eq_true h, if_pos rfl, if_pos h]; rfl
  · rw [decide_eq_false h, if_neg Bool.false_ne_true, if_neg h]; rfl
theorem parseUrl_back {sch user host path q fr : ByteArray} {p : Int} {hq hf : Bool} (hv : urlB sch user host p path q fr hq hf (usualN sch) = true) : Ev (fun k => impl_ParseUrl.f k (urlT sch user host (portS p) path q fr hq hf)) (sch, user, host, p, path, q, fr, hq, hf, 0) := by
  have hz : (urlT sch user host (portS p) path q fr hq hf).size ≤ 100 := by
    have hv' := hv
    unfold urlB at hv'
    simp only [Bool.and_eq_true, Bool.or_eq_true, decide_eq_true_eq] at hv'
    exact hv'.2.2.2.2.2.2.1
  have b := parse_impl (urlT sch user host (portS p) path q fr hq hf) (by omega)
  rw [parse_back hv _ rfl] at b
  unfold impl_ParseUrl.f
  simp only [long_is, if_pos (show ((urlT sch user host (portS p) path q fr hq hf).size : Int) ≤ 65536 by omega), Option.bind_some, if_true]
  exact Ev.bind b (by simp only [if_true]; exact Ev.now _)
theorem stripText_same (t : ByteArray) : ∃ r : ByteArray, Ev (fun k => spec_StripText.f k t) r ∧ Ev (fun k => impl_StripText.f k t) r := by
  by_cases h : (t.size : Int) > 65536
  · refine ⟨(⟨#[]⟩ : ByteArray), ?_, ?_⟩
    · unfold spec_StripText.f
      simp only [if_pos h]
      exact Ev.now _
    · unfold impl_StripText.f impl_ParseUrl.f
      have h' : ¬ (t.size : Int) ≤ 65536 := by omega
      have h2 : ¬ ((2 : Int) = 0) := by omega
      simp only [long_is, if_neg h', Option.bind_some, if_neg h2]
      exact Ev.now _
  · have h' : (t.size : Int) ≤ 65536 := by omega
    rcases parse_cases t (by omega) with ⟨x, hx, a, b⟩ | ⟨sch, user, host, p, path, q, fr, hq, hf, s1, s2, s3, s4, s5, s6, p0, p1, ho, a, b⟩
    · obtain ⟨u1, u2, u3, u4, u5, u6, u7, u8, u9, u10⟩ := x
      have hx' : u10 = false := hx
      subst hx'
      have h3 : ¬ ((3 : Int) = 0) := by omega
      refine ⟨(⟨#[]⟩ : ByteArray), ?_, ?_⟩
      · unfold spec_StripText.f spec_l01StripText.f
        simp only [if_neg h]
        refine Ev.bind (a := (⟨#[]⟩ : ByteArray)) (Ev.bind a ?_) (Ev.now _)
        simp only [Bool.false_eq_true, if_false]; exact Ev.now _
      · unfold impl_StripText.f impl_ParseUrl.f
        simp only [long_is, if_pos h', Option.bind_some, if_true]
        refine Ev.bind (Ev.bind b (by simp only [Bool.false_eq_true, if_false]; exact Ev.now _)) ?_
        simp only [if_neg h3]; exact Ev.now _
    · obtain ⟨t1, t2⟩ := strip_is sch user host path q fr p hq hf (by omega) (by omega) (by omega) (by omega) p0 p1
      refine ⟨stripT sch host p path q hq, ?_, ?_⟩
      · unfold spec_StripText.f spec_l01StripText.f
        simp only [if_neg h]
        refine Ev.bind (Ev.bind a ?_) (Ev.now _)
        simp only [if_true]; exact Ev.bind t1 (Ev.now _)
      · unfold impl_StripText.f impl_ParseUrl.f
        simp only [long_is, if_pos h', Option.bind_some, if_true]
        refine Ev.bind (Ev.bind b (by simp only [if_true]; exact Ev.now _)) ?_
        simp only [if_true]; exact Ev.bind t2 (Ev.now _)
structure Good (sch user host : ByteArray) (p : Int) (path q fr : ByteArray) (hq hf : Bool) : Prop where
  s1 : sch.size ≤ 1048576
  s2 : user.size ≤ 1048576
  s3 : host.size ≤ 1048576
  s4 : path.size ≤ 1048576
  s5 : q.size ≤ 1048576
  s6 : fr.size ≤ 1048576
  p0 : 0 ≤ p
  p1 : p ≤ 65535
  ok : urlB sch user host p path q fr hq hf (usualN sch) = true
theorem about_good : Good (⟨#[97, 98, 111, 117, 116]⟩ : ByteArray) (⟨#[]⟩ : ByteArray) (⟨#[]⟩ : ByteArray) 0 (⟨#[98, 108, 97, 110, 107]⟩ : ByteArray) (⟨#[]⟩ : ByteArray) (⟨#[]⟩ : ByteArray) false false := by
  have w : webB (⟨#[97, 98, 111, 117, 116]⟩ : ByteArray) = false := by unfold webB; rw [toList_data]; rfl
  refine ⟨by decide, by decide, by decide, by decide, by decide, by decide, by omega, by omega, ?_⟩
  unfold urlB urlT
  rw [w]
  rfl
theorem value_is (l : List Int) (h : l.length ≤ 1048576) (hy : ∀ y, y ∈ l → (Lit.int .u8 y).wf = true) : ∃ sch user host p path q fr hq hf, Good sch user host p path q fr hq hf ∧ Ev (fun k => spec_UrlValue.f k l) (sch, user, host, p, path, q, fr, hq, hf) := by
  obtain ⟨s0, e, i⟩ := source_ok l h hy
  obtain ⟨t, a, s, ev, z, _⟩ := url_draw i (Nat.zero_le _)
  unfold spec_UrlValue.f spec_l00Src_urlValue.f
  rw [e]
  rcases parse_cases t (by omega) with ⟨x, hx, a', b⟩ | ⟨sch, user, host, p, path, q, fr, hq, hf, s1, s2, s3, s4, s5, s6, p0, p1, ho, a', b⟩
  · obtain ⟨u1, u2, u3, u4, u5, u6, u7, u8, u9, u10⟩ := x
    have hx' : u10 = false := hx
    subst hx'
    refine ⟨_, _, _, _, _, _, _, _, _, about_good, ?_⟩
    simp only [Option.bind_some]
    refine Ev.bind (a := ((⟨#[97, 98, 111, 117, 116]⟩ : ByteArray), (⟨#[]⟩ : ByteArray), (⟨#[]⟩ : ByteArray), (0 : Int), (⟨#[98, 108, 97, 110, 107]⟩ : ByteArray), (⟨#[]⟩ : ByteArray), (⟨#[]⟩ : ByteArray), false, false, a, s)) (Ev.bind ev (Ev.bind a' ?_)) (Ev.now _)
    simp only [Bool.false_eq_true, if_false]; exact Ev.now _
  · refine ⟨sch, user, host, p, path, q, fr, hq, hf, ⟨s1, s2, s3, s4, s5, s6, p0, p1, ho⟩, ?_⟩
    simp only [Option.bind_some]
    refine Ev.bind (a := (sch, user, host, p, path, q, fr, hq, hf, a, s)) (Ev.bind ev (Ev.bind a' ?_)) (Ev.now _)
    simp only [if_true]; exact Ev.now _
theorem ok_both (sch user host path q fr : ByteArray) (p : Int) (hq hf : Bool) (hs : sch.size ≤ 1048576) (hu : user.size ≤ 1048576) (hh : host.size ≤ 1048576) (hp : path.size ≤ 1048576) (hqs : q.size ≤ 1048576) (hfs : fr.size ≤ 1048576) (h0 : 0 ≤ p) (h1 : p ≤ 65535) :
    Ev (fun k => spec_l01OK.f k sch user host p path q fr hq hf) (urlB sch user host p path q fr hq hf (usualN sch)) ∧ Ev (fun k => impl_UrlOK.f k sch user host p path q fr hq hf) (urlB sch user host p path q fr hq hf (usualN sch)) := by
  have y1 := url_impl sch user host path q fr p hq hf (by omega) (by omega) (by omega) (by omega) (by omega) (by omega) (by omega) (by omega) _ (usual_is sch).2
  rw [← url_eq] at y1
  exact ⟨url_spec sch user host path q fr p hq hf (by omega) (by omega) (by omega) (by omega) (by omega) (by omega) (by omega) (by omega) _ (usual_is sch).1, y1⟩
theorem origin_good {sch user host path q fr : ByteArray} {p : Int} {hq hf : Bool} (g : Good sch user host p path q fr hq hf) :
    Ev (fun k => impl_OriginOf.f k sch user host p path q fr hq hf) (if webB sch = true then (siteB sch host (portS p), 0) else ((⟨#[]⟩ : ByteArray), 11)) ∧ Ev (fun k => spec_OriginOf.f k sch user host p path q fr hq hf) (if webB sch = true then (siteB sch host (portS p), 0) else ((⟨#[]⟩ : ByteArray), 11)) := by
  obtain ⟨o1, o2⟩ := ok_both sch user host path q fr p hq hf g.s1 g.s2 g.s3 g.s4 g.s5 g.s6 g.p0 g.p1
  rw [g.ok] at o1 o2
  have s1 := g.s1
  have s3 := g.s3
  have p0 := g.p0
  have p1 := g.p1
  unfold impl_OriginOf.f spec_OriginOf.f
  have u1 : impl_unless.f true 1 = some 0 := rfl
  by_cases w : webB sch = true
  · have a1 := site_gen sch user host path q fr p hq hf (by omega) (by omega) (by omega) (by omega)
    have a2 := origin_impl sch user host path q fr p hq hf (by omega) (by omega) (by omega) (by omega) w p0
    have f2 := first2 0 0
    have u2 : impl_unless.f true 11 = some 0 := rfl
    rw [if_pos w]
    constructor
    · refine Ev.bind o2 ?_
      simp only [u1, web_impl, w, u2, Option.bind_some]
      refine Ev.bind f2 ?_
      simp only [if_true]
      exact Ev.bind a2 (Ev.now _)
    · refine Ev.bind o1 ?_
      simp only [if_true, web_spec, w, Option.bind_some]
      exact Ev.bind a1 (Ev.now _)
  · have w' : webB sch = false := by simpa using w
    have f2 := first2 0 11
    have u2 : impl_unless.f false 11 = some 11 := rfl
    have h11 : ¬ ((11 : Int) = 0) := by omega
    rw [if_neg w]
    constructor
    · refine Ev.bind o2 ?_
      simp only [u1, web_impl, w', u2, Option.bind_some]
      refine Ev.bind f2 ?_
      simp only [if_true, if_neg h11]
      exact Ev.now _
    · refine Ev.bind o1 ?_
      simp only [if_true, web_spec, w', Option.bind_some, Bool.false_eq_true, if_false]
      exact Ev.now _
theorem ev_rounds {α : Type} {f : Nat → Option α} {r : α} (h : Ev f r) : ∃ k, f k = some r := by
  obtain ⟨k, hk⟩ := h
  exact ⟨k, hk k (Nat.le_refl k)⟩
theorem host_no58 : ∀ (l : List UInt8) (last : Bool), hostB last l = true → ∀ b ∈ l, b ≠ 58
  | [], _, _ => fun b hb => by cases hb
  | c :: l, last, h => by
    have hc : c ≠ 58 ∧ (∃ x, hostB x l = true) := by
      rw [hostB] at h
      by_cases a : lowB c = true ∨ digB c = true
      · rw [if_pos a] at h
        refine ⟨?_, _, h⟩
        rintro rfl
        rcases a with a | a <;> simp [lowB, digB] at a
      · rw [if_neg a] at h
        by_cases hl : last = true
        · rw [if_pos hl] at h; cases h
        · rw [if_neg hl] at h
          by_cases sp : sepB c = true
          · rw [if_pos sp] at h
            refine ⟨?_, _, h⟩
            rintro rfl
            simp [sepB] at sp
          · rw [if_neg sp] at h; cases h
    obtain ⟨h1, x, h2⟩ := hc
    intro b hb
    rcases List.mem_cons.1 hb with rfl | hb
    · exact h1
    · exact host_no58 l x h2 b hb
theorem part_58 : ∀ (a b p q : List UInt8), (∀ x ∈ a, x ≠ 58) → (∀ x ∈ b, x ≠ 58) → (p = [] ∨ ∃ t, p = 58 :: t) → (q = [] ∨ ∃ t, q = 58 :: t) → a ++ p = b ++ q → a = b ∧ p = q
  | [], [], p, q, _, _, _, _, h => ⟨rfl, h⟩
  | [], y :: b, p, q, _, hb, hp, _, h => by
    exfalso
    have hy := hb y (List.mem_cons_self ..)
    rcases hp with rfl | ⟨t, rfl⟩
    · cases h
    · injection h with h1 _; exact hy h1.symm
  | x :: a, [], p, q, ha, _, _, hq, h => by
    exfalso
    have hx := ha x (List.mem_cons_self ..)
    rcases hq with rfl | ⟨t, rfl⟩
    · cases h
    · injection h with h1 _; exact hx h1
  | x :: a, y :: b, p, q, ha, hb, hp, hq, h => by
    injection h with h1 h2
    obtain ⟨e1, e2⟩ := part_58 a b p q (fun z hz => ha z (List.mem_cons_of_mem _ hz)) (fun z hz => hb z (List.mem_cons_of_mem _ hz)) hp hq h2
    exact ⟨by rw [h1, e1], e2⟩
theorem portS_58 (p : Int) : (portS p).data.toList = [] ∨ ∃ t, (portS p).data.toList = 58 :: t := by
  unfold portS
  split
  · exact .inr ⟨_, by rw [ByteArray.data_append, Array.toList_append]; rfl⟩
  · exact .inl rfl
theorem portS_inj {p q : Int} (hp : 0 ≤ p) (hq : 0 ≤ q) (h : (portS p).data.toList = (portS q).data.toList) : p = q := by
  unfold portS at h
  by_cases a : p > 0 <;> by_cases b : q > 0
  · rw [if_pos a, if_pos b, ByteArray.data_append, ByteArray.data_append, Array.toList_append, Array.toList_append] at h
    have h' := List.append_cancel_left h
    exact itoa_inj hp hq h'
  · rw [if_pos a, if_neg b, ByteArray.data_append, Array.toList_append] at h
    cases h
  · rw [if_neg a, if_pos b, ByteArray.data_append, Array.toList_append] at h
    cases h
  · omega
theorem siteB_list (sch host P : ByteArray) : (siteB sch host P).toList = sch.toList ++ ([58, 47, 47] ++ (host.toList ++ P.toList)) := by
  simp only [toList_data]
  unfold siteB
  simp only [ByteArray.data_append, Array.toList_append, List.append_assoc]
theorem web_cases {s : ByteArray} (w : webB s = true) : s.toList = ([104, 116, 116, 112] : List UInt8) ∨ s.toList = ([104, 116, 116, 112, 115] : List UInt8) := by
  unfold webB at w
  simpa using w
theorem site_iff {s1 h1 s2 h2 : ByteArray} {p1 p2 : Int} (w1 : webB s1 = true) (w2 : webB s2 = true) (g1 : 0 ≤ p1 ∧ hostB true h1.data.toList = true) (g2 : 0 ≤ p2 ∧ hostB true h2.data.toList = true) :
    ((siteB s1 h1 (portS p1)).toList == (siteB s2 h2 (portS p2)).toList) = (decide (s1.toList = s2.toList) && (decide (h1.toList = h2.toList) && (p1 == p2))) := by
  rw [Bool.eq_iff_iff]
  simp only [beq_iff_eq, Bool.and_eq_true, decide_eq_true_eq, siteB_list]
  constructor
  · intro h
    have hs : s1.toList = s2.toList := by
      rcases web_cases w1 with a | a <;> rcases web_cases w2 with b | b
      · rw [a, b]
      · rw [a, b] at h; simp at h
      · rw [a, b] at h; simp at h
      · rw [a, b]
    rw [hs] at h
    have h' := List.append_cancel_left (List.append_cancel_left h)
    simp only [toList_data] at h' ⊢
    obtain ⟨e1, e2⟩ := part_58 _ _ _ _ (host_no58 _ _ g1.2) (host_no58 _ _ g2.2) (portS_58 p1) (portS_58 p2) h'
    refine ⟨?_, e1, portS_inj g1.1 g2.1 e2⟩
    simpa only [toList_data] using hs
  · rintro ⟨a, b, rfl⟩
    rw [a, b]
theorem web_congr {a b : ByteArray} (h : a.toList = b.toList) : webB a = webB b := by unfold webB; rw [h]
theorem any_draw {l : List Int} {n : Nat} {a s : Int} (h : Src l n a s) (hn : n ≤ 300000) : ∃ t a' s', Ev (fun k => spec_l00Src_anyUrl.f k l a s) (t, a', s') ∧ t.size ≤ 1000 := by
  obtain ⟨b, a1, s1, e, b0, b1, k1⟩ := next_ok h (by omega) 6 (by omega) (by omega)
  unfold spec_l00Src_anyUrl.f
  simp only [e, Option.bind_some]
  by_cases c0 : b = 0
  · simp only [if_pos c0]
    obtain ⟨t, a2, s2, e2, _, z, _⟩ := pick_ok k1 (by omega) ([(⟨#[]⟩ : ByteArray), (⟨#[100, 97, 116, 97, 58, 116, 101, 120, 116, 44, 97, 98, 99]⟩ : ByteArray), (⟨#[98, 108, 111, 98, 58, 104, 116, 116, 112, 115, 58, 47, 47, 97, 47, 98]⟩ : ByteArray), (⟨#[97, 98, 111, 117, 116, 58, 98, 108, 97, 110, 107]⟩ : ByteArray), (⟨#[97, 98, 111, 117, 116, 58, 98, 108, 97, 110, 107, 63, 120, 35, 121]⟩ : ByteArray), (⟨#[105, 110, 108, 105, 110, 101]⟩ : ByteArray), (⟨#[101, 118, 97, 108]⟩ : ByteArray), (⟨#[72, 84, 84, 80, 58, 47, 47, 65, 46, 69, 120, 97, 109, 112, 108, 101, 47, 80]⟩ : ByteArray), (⟨#[104, 116, 116, 112, 115, 58, 47, 97]⟩ : ByteArray), (⟨#[104, 116, 116, 112, 115, 58, 47, 47]⟩ : ByteArray), (⟨#[104, 116, 116, 112, 115, 58, 47, 47, 47, 112]⟩ : ByteArray), (⟨#[104, 116, 116, 112, 115, 58, 47, 47, 97, 46, 46, 98, 47]⟩ : ByteArray), (⟨#[104, 116, 116, 112, 115, 58, 47, 47, 45, 97, 47]⟩ : ByteArray), (⟨#[104, 116, 116, 112, 115, 58, 47, 47, 97, 58, 48, 47]⟩ : ByteArray), (⟨#[104, 116, 116, 112, 115, 58, 47, 47, 97, 58, 57, 57, 57, 57, 57, 47]⟩ : ByteArray), (⟨#[104, 116, 116, 112, 115, 58, 47, 47, 97, 58, 120, 47]⟩ : ByteArray), (⟨#[104, 116, 116, 112, 115, 58, 47, 47, 97, 32, 98, 47]⟩ : ByteArray), (⟨#[104, 116, 116, 112, 115, 58, 47, 47, 97, 64, 98, 64, 99, 47]⟩ : ByteArray), (⟨#[49, 97, 58, 120]⟩ : ByteArray), (⟨#[58, 120]⟩ : ByteArray), (⟨#[102, 116, 112, 58, 47, 47, 104, 47, 112]⟩ : ByteArray), (⟨#[104, 116, 116, 112, 115, 58, 47, 47, 104, 47, 112, 32, 113]⟩ : ByteArray), (⟨#[104, 116, 116, 112, 115, 58, 47, 47, 104, 58, 47]⟩ : ByteArray), (⟨#[104, 116, 116, 112, 115, 58, 47, 47, 97, 45, 47]⟩ : ByteArray)] : List ByteArray) (by simp) (by simp) 20 (all_size (by decide))
    simp only [e2, Option.bind_some]
    exact ⟨t, a2, s2, Ev.now _, by omega⟩
  simp only [if_neg c0]
  obtain ⟨u, a2, s2, ev, z, k2⟩ := url_draw k1 (by omega)
  by_cases c1 : b = 1
  · simp only [if_pos c1]
    obtain ⟨i, a3, s3, e3, i0, i1, k3⟩ := next_ok k2 (by omega) ((u.size : Int) + 1) (by omega) (by omega)
    obtain ⟨t, a4, s4, e4, _, z4, _⟩ := pick_ok k3 (by omega) ([(⟨#[32]⟩ : ByteArray), (⟨#[0]⟩ : ByteArray), (⟨#[47]⟩ : ByteArray), (⟨#[58]⟩ : ByteArray), (⟨#[64]⟩ : ByteArray), (⟨#[35]⟩ : ByteArray), (⟨#[63]⟩ : ByteArray), (⟨#[90]⟩ : ByteArray), (⟨#[128]⟩ : ByteArray)] : List ByteArray) (by simp) (by simp) 20 (all_size (by decide))
    have x1 : (u.extract 0 i.toNat).size ≤ 200 := by rw [ByteArray.size_extract]; omega
    have x2 : (u.extract i.toNat u.size).size ≤ 200 := by rw [ByteArray.size_extract]; omega
    refine ⟨(u.extract 0 i.toNat ++ t) ++ u.extract i.toNat u.size, a4, s4, Ev.bind ev ?_, by simp only [ByteArray.size_append]; omega⟩
    simp only [wr (x := (u.size : Int) + 1) (by omega) (by omega), e3, Option.bind_some, if_pos i0, if_pos (show i ≤ (u.size : Int) by omega), e4]
    rw [if_pos (by omega), if_pos (by rw [ByteArray.size_append]; omega)]
    exact Ev.now _
  simp only [if_neg c1]
  by_cases c2 : b = 2
  · simp only [if_pos c2]
    obtain ⟨m, a3, s3, e3, m0, m1, k3⟩ := next_ok k2 (by omega) 100000000 (by omega) (by omega)
    obtain ⟨i, a4, s4, e4, i0, i1, k4⟩ := next_ok k3 (by omega) 12 (by omega) (by omega)
    have d := digits_is m (by omega) (by omega)
    have dz := itoaB_size m (by omega) (by omega)
    generalize itoaB m = D at d dz
    have wi : wrap64 (50 + i) = 50 + i := wr (by omega) (by omega)
    generalize (⟨#[47, 97, 97, 97, 97, 97, 97, 97, 97, 97, 97, 97, 97, 97, 97, 97, 97, 97, 97, 97, 97, 97, 97, 97, 97, 97, 97, 97, 97, 97, 97, 97, 97, 97, 97, 97, 97, 97, 97, 97, 97, 97, 97, 97, 97, 97, 97, 97, 97, 97, 97, 97, 97, 97, 97, 97, 97, 97, 97, 97, 97, 97]⟩ : ByteArray) = A
    generalize hR : (List.replicate 0 0 : List Int) = R
    have x0 : (strOfNums R).size = 0 := by rw [← hR, strOfNums_size]; rfl
    generalize strOfNums R = S at x0
    have x1 : (A.extract 0 (50 + i).toNat).size ≤ 100 := by rw [ByteArray.size_extract]; omega
    generalize hE : A.extract 0 (50 + i).toNat = E at x1
    have x2 : (⟨#[47]⟩ : ByteArray).size = 1 := rfl
    generalize (⟨#[47]⟩ : ByteArray) = C at x2
    have q0 : u.size + 1 ≤ 9223372036854775807 := by omega
    have q1 : (u ++ C).size + S.size ≤ 9223372036854775807 := by rw [ByteArray.size_append]; omega
    have q2 : ((u ++ C) ++ S).size + D.size ≤ 9223372036854775807 := by rw [ByteArray.size_append, ByteArray.size_append]; omega
    have q3 : (((u ++ C) ++ S) ++ D).size + E.size ≤ 9223372036854775807 := by rw [ByteArray.size_append, ByteArray.size_append, ByteArray.size_append]; omega
    have q4 : (0 : Int) ≤ 50 + i := by omega
    have q5 : 50 + i ≤ 62 := by omega
    refine ⟨(((u ++ C) ++ S) ++ D) ++ E, a4, s4, Ev.bind ev ?_, by rw [ByteArray.size_append, ByteArray.size_append, ByteArray.size_append, ByteArray.size_append]; omega⟩
    simp only [if_pos q0, Nat.zero_le, if_true, Option.bind_some, e3]
    simp only [if_pos q1]
    refine Ev.bind d ?_
    simp only [if_pos q2, e4, Option.bind_some, wi, if_pos q4, if_pos q5, hE, if_pos q3]
    exact Ev.now _
  · simp only [if_neg c2]
    exact ⟨u, a2, s2, Ev.bind ev (Ev.now _), by omega⟩
theorem anyDrawn_is (l : List Int) (h : l.length ≤ 1048576) (hy : ∀ y, y ∈ l → (Lit.int .u8 y).wf = true) : ∃ t, Ev (fun k => spec_AnyUrlDrawn.f k l) t ∧ t.size ≤ 1000 := by
  obtain ⟨s0, e, i⟩ := source_ok l h hy
  obtain ⟨t, a, s, ev, z⟩ := any_draw i (Nat.zero_le _)
  refine ⟨t, ?_, z⟩
  unfold spec_AnyUrlDrawn.f
  simp only [e, Option.bind_some]
  exact Ev.bind (a := (t, a, s)) ev (Ev.now t)
theorem told (t : ByteArray) (ht : t.size ≤ 1000) : (Ev (fun k => impl_ParseUrl.f k t) ((⟨#[]⟩ : ByteArray), (⟨#[]⟩ : ByteArray), (⟨#[]⟩ : ByteArray), 0, (⟨#[]⟩ : ByteArray), (⟨#[]⟩ : ByteArray), (⟨#[]⟩ : ByteArray), false, false, 3) ∧ Ev (fun k => spec_ParseUrl.f k t) ((⟨#[]⟩ : ByteArray), (⟨#[]⟩ : ByteArray), (⟨#[]⟩ : ByteArray), 0, (⟨#[]⟩ : ByteArray), (⟨#[]⟩ : ByteArray), (⟨#[]⟩ : ByteArray), false, false, 3)) ∨
    ∃ sch user host p path q fr hq hf, Good sch user host p path q fr hq hf ∧ Ev (fun k => impl_ParseUrl.f k t) (sch, user, host, p, path, q, fr, hq, hf, 0) ∧ Ev (fun k => spec_ParseUrl.f k t) (sch, user, host, p, path, q, fr, hq, hf, 0) := by
  have h : ¬ (t.size : Int) > 65536 := by omega
  have h' : (t.size : Int) ≤ 65536 := by omega
  rcases parse_cases t (by omega) with ⟨x, hx, a, b⟩ | ⟨sch, user, host, p, path, q, fr, hq, hf, s1, s2, s3, s4, s5, s6, p0, p1, ho, a, b⟩
  · obtain ⟨u1, u2, u3, u4, u5, u6, u7, u8, u9, u10⟩ := x
    have hx' : u10 = false := hx
    subst hx'
    refine .inl ⟨?_, ?_⟩
    · unfold impl_ParseUrl.f
      simp only [long_is, if_pos h', Option.bind_some, if_true]
      exact Ev.bind b (by simp only [Bool.false_eq_true, if_false]; exact Ev.now _)
    · unfold spec_ParseUrl.f
      simp only [if_neg h]
      exact Ev.bind a (by simp only [Bool.false_eq_true, if_false]; exact Ev.now _)
  · refine .inr ⟨sch, user, host, p, path, q, fr, hq, hf, ⟨s1, s2, s3, s4, s5, s6, p0, p1, ho⟩, ?_, ?_⟩
    · unfold impl_ParseUrl.f
      simp only [long_is, if_pos h', Option.bind_some, if_true]
      exact Ev.bind b (by simp only [if_true]; exact Ev.now _)
    · unfold spec_ParseUrl.f
      simp only [if_neg h]
      exact Ev.bind a (by simp only [if_true]; exact Ev.now _)
theorem text_good {sch user host path q fr : ByteArray} {p : Int} {hq hf : Bool} (g : Good sch user host p path q fr hq hf) :
    Ev (fun k => impl_UrlText.f k sch user host p path q fr hq hf) (urlT sch user host (portS p) path q fr hq hf, 0) ∧ Ev (fun k => spec_UrlText.f k sch user host p path q fr hq hf) (urlT sch user host (portS p) path q fr hq hf, 0) := by
  obtain ⟨s1, s2, s3, s4, s5, s6, p0, p1, ok⟩ := g
  obtain ⟨o1, o2⟩ := ok_both sch user host path q fr p hq hf s1 s2 s3 s4 s5 s6 p0 p1
  have t1 := text_spec sch user host path q fr p hq hf (by omega) (by omega) (by omega) (by omega) (by omega) (by omega) (by omega) (by omega)
  have t2 := text_impl sch user host path q fr p hq hf (by omega) (by omega) (by omega) (by omega) (by omega) (by omega) (by omega) (by omega)
  rw [urlT_ports (fun _ => p0)] at t2
  rw [ok] at o1 o2
  unfold impl_UrlText.f spec_UrlText.f
  exact ⟨Ev.bind o2 (by simp only [if_true]; exact Ev.bind t2 (Ev.now _)), Ev.bind o1 (by simp only [if_true]; exact Ev.bind t1 (Ev.now _))⟩
def sameB (s1 h1 : ByteArray) (p1 : Int) (s2 h2 : ByteArray) (p2 : Int) : Bool := webB s1 && (decide (s1.toList = s2.toList) && (decide (h1.toList = h2.toList) && (p1 == p2)))
theorem sameB_comm (s1 h1 : ByteArray) (p1 : Int) (s2 h2 : ByteArray) (p2 : Int) : sameB s2 h2 p2 s1 h1 p1 = sameB s1 h1 p1 s2 h2 p2 := by
  unfold sameB
  by_cases c : s1.toList = s2.toList
  · rw [web_congr c, decide_eq_true c, decide_eq_true c.symm, decide_eq_decide.2 (show h2.toList = h1.toList ↔ h1.toList = h2.toList from ⟨Eq.symm, Eq.symm⟩), Bool.beq_comm]
  · rw [decide_eq_false c, decide_eq_false (fun h => c h.symm), Bool.false_and, Bool.false_and, Bool.and_false, Bool.and_false]
theorem same_spec {s1 u1 h1 t1 q1 f1 : ByteArray} {p1 : Int} {a1 b1 : Bool} {s2 u2 h2 t2 q2 f2 : ByteArray} {p2 : Int} {a2 b2 : Bool} (g1 : Good s1 u1 h1 p1 t1 q1 f1 a1 b1) (g2 : Good s2 u2 h2 p2 t2 q2 f2 a2 b2) :
    Ev (fun k => spec_SameOrigin.f k s1 u1 h1 p1 t1 q1 f1 a1 b1 s2 u2 h2 p2 t2 q2 f2 a2 b2) (sameB s1 h1 p1 s2 h2 p2) := by
  obtain ⟨x1, _⟩ := ok_both s1 u1 h1 t1 q1 f1 p1 a1 b1 g1.s1 g1.s2 g1.s3 g1.s4 g1.s5 g1.s6 g1.p0 g1.p1
  obtain ⟨x2, _⟩ := ok_both s2 u2 h2 t2 q2 f2 p2 a2 b2 g2.s1 g2.s2 g2.s3 g2.s4 g2.s5 g2.s6 g2.p0 g2.p1
  rw [g1.ok] at x1
  rw [g2.ok] at x2
  unfold spec_SameOrigin.f spec_l01SameOrigin.f sameB
  refine Ev.bind x1 ?_
  simp only [if_true]
  refine Ev.bind x2 ?_
  simp only [if_true, web_spec, Option.bind_some]
  by_cases w : webB s1 = true
  · by_cases c : s1.toList = s2.toList
    · by_cases d : h1.toList = h2.toList
      · simp only [w, if_true, if_pos c, if_pos d, decide_eq_true c, decide_eq_true d, Bool.true_and, Option.bind_some]; exact Ev.now _
      · simp only [w, if_true, if_pos c, if_neg d, decide_eq_true c, decide_eq_false d, Bool.true_and, Bool.false_and, Option.bind_some]; exact Ev.now _
    · simp only [w, if_true, if_neg c, decide_eq_false c, Bool.true_and, Bool.false_and, Option.bind_some]; exact Ev.now _
  · have w' : webB s1 = false := by simpa using w
    simp only [w', Bool.false_eq_true, if_false, Bool.false_and, Option.bind_some]; exact Ev.now _
theorem same_impl {s1 u1 h1 t1 q1 f1 : ByteArray} {p1 : Int} {a1 b1 : Bool} {s2 u2 h2 t2 q2 f2 : ByteArray} {p2 : Int} {a2 b2 : Bool} (g1 : Good s1 u1 h1 p1 t1 q1 f1 a1 b1) (g2 : Good s2 u2 h2 p2 t2 q2 f2 a2 b2) :
    Ev (fun k => impl_SameOrigin.f k s1 u1 h1 p1 t1 q1 f1 a1 b1 s2 u2 h2 p2 t2 q2 f2 a2 b2) (sameB s1 h1 p1 s2 h2 p2) := by
  obtain ⟨_, y1⟩ := ok_both s1 u1 h1 t1 q1 f1 p1 a1 b1 g1.s1 g1.s2 g1.s3 g1.s4 g1.s5 g1.s6 g1.p0 g1.p1
  obtain ⟨_, y2⟩ := ok_both s2 u2 h2 t2 q2 f2 p2 a2 b2 g2.s1 g2.s2 g2.s3 g2.s4 g2.s5 g2.s6 g2.p0 g2.p1
  have v1 := fun w => url_web g1.ok w
  have v2 := fun w => url_web g2.ok w
  have z1 := g1.s1
  have z2 := g1.s3
  have z3 := g2.s1
  have z4 := g2.s3
  have z5 := g1.p0
  have z6 := g1.p1
  have z7 := g2.p0
  have z8 := g2.p1
  rw [g1.ok] at y1
  rw [g2.ok] at y2
  unfold impl_SameOrigin.f sameB
  refine Ev.bind y1 ?_
  simp only [if_true]
  refine Ev.bind y2 ?_
  simp only [if_true, web_impl, Option.bind_some]
  by_cases w1 : webB s1 = true
  · by_cases w2 : webB s2 = true
    · have o1 := origin_impl s1 u1 h1 t1 q1 f1 p1 a1 b1 (by omega) (by omega) (by omega) (by omega) w1 z5
      have o2 := origin_impl s2 u2 h2 t2 q2 f2 p2 a2 b2 (by omega) (by omega) (by omega) (by omega) w2 z7
      simp only [if_pos w1, if_pos w2]
      refine Ev.bind o1 (Ev.bind o2 ?_)
      simp only [site_iff w1 w2 (v1 w1) (v2 w2), w1, Bool.true_and]
      exact Ev.now _
    · have c : ¬ s1.toList = s2.toList := fun h => w2 (by rw [← web_congr h]; exact w1)
      simp only [if_pos w1, if_neg w2, decide_eq_false c, Bool.false_and, Bool.and_false]
      exact Ev.now _
  · have w' : webB s1 = false := by simpa using w1
    simp only [w', Bool.false_eq_true, if_false, Bool.false_and]
    exact Ev.now _
theorem text_step {sch user host path q fr : ByteArray} {p : Int} {hq hf : Bool} (g : Good sch user host p path q fr hq hf) (ts : List ByteArray) (i : Int) (t : ByteArray) (hi : 0 ≤ i) (hi' : i < (ts.length : Int)) (hl : (ts.length : Int) ≤ 1000) (e : rdOf ByteArray.empty ts i = t) (ht : t.size ≤ 1000)
    (nx : Ev (fun k => laws_FnUrls.l0 k ts (i + 1) sch user host p path q fr hq hf) true) : Ev (fun k => laws_FnUrls.l0 k ts i sch user host p path q fr hq hf) true := by
  have wi : wrap64 (i + 1) = i + 1 := wr (by omega) (by omega)
  refine Ev.step (fun k => by rw [laws_FnUrls.l0, if_pos hi', if_pos hi, e]) ?_
  obtain ⟨r, x1, x2⟩ := stripText_same t
  have e9 : ∀ x : ByteArray, (x.toList == x.toList) = true := fun x => beq_self_eq_true _
  rcases told t ht with ⟨a, b⟩ | ⟨s1, u1, h1, p1, t1, q1, f1, a1, b1, g1, a, b⟩
  · refine Ev.bind a (Ev.bind b (Ev.bind x2 ?_))
    have n3 : ¬ ((3 : Int) = 0) := by omega
    simp only [if_true, e9, beq_self_eq_true, Bool.not_true, Bool.or_false, Bool.false_eq_true, if_false]
    refine Ev.bind x1 ?_
    simp only [if_true, if_neg n3]
    refine Ev.step (fun k => by rw [laws_FnUrls.j3, if_neg Bool.false_ne_true, if_neg n3, wi]) nx
  · refine Ev.bind a (Ev.bind b (Ev.bind x2 ?_))
    simp only [if_true, e9, beq_self_eq_true, Bool.not_true, Bool.or_false, Bool.false_eq_true, if_false]
    refine Ev.bind x1 ?_
    simp only [if_true]
    obtain ⟨_, o2⟩ := ok_both s1 u1 h1 t1 q1 f1 p1 a1 b1 g1.s1 g1.s2 g1.s3 g1.s4 g1.s5 g1.s6 g1.p0 g1.p1
    rw [g1.ok] at o2
    refine Ev.bind o2 ?_
    refine Ev.step (fun k => by rw [laws_FnUrls.j3, Bool.not_true, if_neg Bool.false_ne_true, if_pos rfl]) ?_
    obtain ⟨c1, c2⟩ := origin_good g1
    refine Ev.bind c1 (Ev.bind c2 ?_)
    simp only [if_true]
    refine Ev.bind (same_impl g1 g) (Ev.bind (same_spec g1 g) ?_)
    simp only [bne_self_eq_false, Bool.false_eq_true, if_false]
    refine Ev.bind (same_impl g1 g) (Ev.bind (same_impl g g1) ?_)
    rw [sameB_comm]
    simp only [bne_self_eq_false, Bool.false_eq_true, if_false, wi]
    exact nx
theorem FnUrls : (∀ (l0 : List Int) (l1 : List Int), (l0.length ≤ 9223372036854775807 ∧ ∀ y_, y_ ∈ l0 → (Lit.int .u8 y_).wf = true) → (l1.length ≤ 9223372036854775807 ∧ ∀ y_, y_ ∈ l1 → (Lit.int .u8 y_).wf = true) → ∃ k, laws_FnUrls.f k l0 l1 = some true) := by
  intro l0 l1 ⟨_, hy0⟩ ⟨_, hy1⟩
  refine ev_rounds ?_
  have jt : Ev (fun k => laws_FnUrls.j0 k l0 l1 true) true := Ev.step (f := fun _ => some true) (fun k => by rw [laws_FnUrls.j0, if_pos rfl]) (Ev.now _)
  unfold laws_FnUrls.f
  by_cases h0 : (l0.length : Int) > 1048576
  · simp only [if_pos h0]; exact jt
  simp only [if_neg h0]
  by_cases h1 : (l1.length : Int) > 1048576
  · rw [decide_eq_true h1]; exact jt
  rw [decide_eq_false h1]
  obtain ⟨sch, user, host, p, path, q, fr, hq, hf, g, uv⟩ := value_is l0 (by omega) hy0
  obtain ⟨t1, d1, z1⟩ := anyDrawn_is l1 (by omega) hy1
  obtain ⟨t2, d2, z2⟩ := drawn_is l1 (by omega) hy1
  obtain ⟨x1, x2⟩ := text_good g
  have pb := parseUrl_back g.ok
  obtain ⟨_, o2⟩ := ok_both sch user host path q fr p hq hf g.s1 g.s2 g.s3 g.s4 g.s5 g.s6 g.p0 g.p1
  rw [g.ok] at o2
  have e9 : ∀ x : ByteArray, (x.toList == x.toList) = true := fun x => beq_self_eq_true _
  refine Ev.step (fun k => by rw [laws_FnUrls.j0, if_neg Bool.false_ne_true]) (Ev.bind uv (Ev.bind x1 (Ev.bind x2 (Ev.bind pb ?_))))
  simp only [if_true, e9, beq_self_eq_true, Bool.not_true, Bool.or_false, Bool.false_eq_true, if_false]
  refine Ev.bind o2 ?_
  have m0 : 0 ≤ mn (l1.length : Int) 60 := by unfold mn; split <;> omega
  have m1 : mn (l1.length : Int) 60 ≤ (l1.length : Int) := by unfold mn; split <;> omega
  have m2 : mn (l1.length : Int) 60 ≤ 60 := by unfold mn; split <;> omega
  refine Ev.step (f := fun k => (spec_AnyUrlDrawn.f k l1).bind fun t528 => (spec_UrlDrawn.f k l1).bind fun t529 => laws_FnUrls.l0 k (([t528, t529, strOfNums (l1.take ((mn (l1.length : Int) 60) : Int).toNat)] : List ByteArray)) 0 sch user host p path q fr hq hf) (fun k => by rw [laws_FnUrls.j1, Bool.not_true, if_neg Bool.false_ne_true]; simp only [if_pos m0, if_pos m1]) (Ev.bind d1 (Ev.bind d2 ?_))
  have z3 : (strOfNums (l1.take (mn (l1.length : Int) 60).toNat)).size ≤ 1000 := by rw [strOfNums_size, List.length_take]; omega
  refine text_step g _ 0 t1 (by omega) (by simp) (by simp) rfl (by omega) ?_
  refine text_step g _ 1 t2 (by omega) (by simp) (by simp) rfl (by omega) ?_
  refine text_step g _ 2 _ (by omega) (by simp) (by simp) rfl z3 ?_
  exact Ev.step (f := fun _ => some true) (fun k => by rw [laws_FnUrls.l0, if_neg (by simp)]) (Ev.now _)
end Go.Proofs.YthifpohbdbhnlaaGreatDoor.Pure
