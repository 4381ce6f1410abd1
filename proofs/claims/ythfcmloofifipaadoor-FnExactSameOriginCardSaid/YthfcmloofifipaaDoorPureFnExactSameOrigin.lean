/- The program's SameOrigin answers as the reference's at any two addresses; no condition. -/
import Derived.Test.YthfcmloofifipaaDoorQFnExactSameOriginx0
import Derived.Lib.IndexAny
import Derived.Lib.ItoaLen
set_option linter.unusedVariables false
set_option linter.unusedSimpArgs false
namespace Go.Proofs.YthfcmloofifipaaDoor.Pure
open Go.RowKit Go.Proofs.YthfcmloofifipaaDoor.QFnExactSameOrigin Go.Proofs.YthfcmloofifipaaDoor.QFnExactUrlOK Go.Proofs.YthfcmloofifipaaDoorW.PrintWords Go.Proofs.YthfcmloofifipaaDoorW.PrintLast

theorem wr {x : Int} (h0 : -9223372036854775808 ≤ x) (h1 : x ≤ 9223372036854775807) : wrap64 x = x := by unfold wrap64; omega

/-! Bytes of a text, one behind the other. -/
theorem size_len (s : ByteArray) : s.size = s.data.toList.length := by rw [Array.length_toList]; rfl
theorem drop_cons {s : ByteArray} {i : Nat} {b : UInt8} {l : List UInt8} (h : s.data.toList.drop i = b :: l) : i < s.size ∧ bt s (i : Int) = (b.toNat : Int) ∧ s.data.toList.drop (i + 1) = l := by
  have hi : i < s.data.toList.length := by
    rcases Nat.lt_or_ge i s.data.toList.length with h1 | h1
    · exact h1
    · rw [List.drop_eq_nil_of_le h1] at h; cases h
  rw [List.drop_eq_getElem_cons hi] at h
  injection h with h1 h2
  have hs : i < s.size := by rw [size_len]; exact hi
  refine ⟨hs, ?_, h2⟩
  rw [← h1]
  have e : (i : Int).toNat = i := by omega
  simp only [bt, e, dif_pos hs]
  rfl
theorem drop_nil {s : ByteArray} {i : Nat} (h : s.data.toList.drop i = []) : s.size ≤ i := by
  rw [size_len]
  exact List.drop_eq_nil_iff.1 h
def goodB (b : UInt8) : Bool := decide (33 ≤ b.toNat) && decide (b.toNat ≤ 126)
def onlyB (l W : List UInt8) : Bool := l.all fun b => goodB b && !W.contains b
theorem find_spec (wo : ByteArray) (c : UInt8) (hw : wo.size ≤ 1000) : ∀ (l : List UInt8) (i : Nat), wo.data.toList.drop i = l → ∃ t, Ev (fun k => spec_l01Find.l0 k wo (c.toNat : Int) (i : Int)) t ∧ (t < (wo.size : Int) ↔ l.contains c = true)
  | [], i, h => by
    have := drop_nil h
    exact ⟨(wo.size : Int), Ev.step (f := fun _ => some (wo.size : Int)) (fun k => by rw [spec_l01Find.l0, if_neg (by omega)]) (Ev.now _), by simp⟩
  | b :: l, i, h => by
    obtain ⟨h1, h2, h3⟩ := drop_cons h
    by_cases e : b = c
    · subst e
      refine ⟨(i : Int), Ev.step (f := fun _ => some (i : Int)) (fun k => by rw [spec_l01Find.l0, if_pos (by omega), if_pos (by omega), if_pos h2]) (Ev.now _), ?_⟩
      simp; omega
    · obtain ⟨t, ht, hi⟩ := find_spec wo c hw l (i + 1) h3
      refine ⟨t, Ev.step (f := fun k => spec_l01Find.l0 k wo (c.toNat : Int) ((i + 1 : Nat) : Int)) (fun k => ?_) ht, ?_⟩
      · have hne : ¬ bt wo (i : Int) = (c.toNat : Int) := by
          rw [h2]; intro hh; apply e; apply UInt8.toNat_inj.1; omega
        rw [spec_l01Find.l0, if_pos (by omega), if_pos (by omega), if_neg hne, wr (by omega) (by omega)]; rfl
      · rw [hi]
        have : (b :: l).contains c = l.contains c := by
          rw [List.contains_cons]
          have : (c == b) = false := by rw [beq_eq_false_iff_ne]; exact fun hh => e hh.symm
          rw [this, Bool.false_or]
        rw [this]
theorem only_loop (s wo : ByteArray) (hs : s.size ≤ 2000000) (hw : wo.size ≤ 1000) : ∀ (l : List UInt8) (i : Nat), s.data.toList.drop i = l → Ev (fun k => spec_l01Only.l0 k s wo (i : Int)) (onlyB l wo.data.toList)
  | [], i, h => by
    have := drop_nil h
    exact Ev.step (f := fun _ => some true) (fun k => by rw [spec_l01Only.l0, if_neg (by omega)]) (Ev.now _)
  | b :: l, i, h => by
    obtain ⟨h1, h2, h3⟩ := drop_cons h
    have e0 : onlyB (b :: l) wo.data.toList = ((goodB b && !wo.data.toList.contains b) && onlyB l wo.data.toList) := by simp [onlyB]
    by_cases c1 : b.toNat < 33
    · rw [show onlyB (b :: l) wo.data.toList = false by rw [e0]; simp [goodB]; omega]
      exact Ev.step (f := fun _ => some false) (fun k => by rw [spec_l01Only.l0, if_pos (by omega), if_pos (by omega), if_pos (by omega)]) (Ev.now _)
    by_cases c2 : b.toNat > 126
    · rw [show onlyB (b :: l) wo.data.toList = false by rw [e0]; simp [goodB]; omega]
      exact Ev.step (f := fun _ => some false) (fun k => by rw [spec_l01Only.l0, if_pos (by omega), if_pos (by omega), if_neg (by omega), if_pos (by omega)]) (Ev.now _)
    have hg : goodB b = true := by simp [goodB]; omega
    obtain ⟨t, ht, hi⟩ := find_spec wo b hw wo.data.toList 0 (by simp)
    refine Ev.step (f := fun k => (spec_l01Find.f k wo (bt s (i : Int))).bind fun t => if t < (wo.size : Int) then some false else spec_l01Only.l0 k s wo ((i + 1 : Nat) : Int)) (fun k => ?_) (Ev.bind (show Ev (fun k => spec_l01Find.f k wo (bt s (i : Int))) t from ?_) ?_)
    · rw [spec_l01Only.l0, if_pos (by omega), if_pos (by omega), if_neg (by omega), if_neg (by omega), wr (by omega) (by omega)]; rfl
    · unfold spec_l01Find.f; rw [h2]; exact ht
    · by_cases hc : wo.data.toList.contains b = true
      · simp only [if_pos (hi.2 hc)]
        rw [show onlyB (b :: l) wo.data.toList = false by rw [e0, hc]; simp]
        exact Ev.now _
      · have hc' : wo.data.toList.contains b = false := by simpa using hc
        simp only [if_neg (fun x => hc (hi.1 x))]
        rw [show onlyB (b :: l) wo.data.toList = onlyB l wo.data.toList by rw [e0, hg, hc']; simp]
        exact only_loop s wo hs hw l (i + 1) h3
theorem only_spec (s wo : ByteArray) (hs : s.size ≤ 2000000) (hw : wo.size ≤ 1000) : Ev (fun k => spec_l01Only.f k s wo) (onlyB s.data.toList wo.data.toList) := by
  unfold spec_l01Only.f
  exact only_loop s wo hs hw s.data.toList 0 (by simp)

def inB (n lo hi : Int) : Bool := decide (lo ≤ n) && decide (n ≤ hi)
theorem within_is (n lo hi : Int) : impl_within.f n lo hi = some (inB n lo hi) := by
  unfold impl_within.f inB
  by_cases h : lo ≤ n <;> simp [h]

theorem shown_loop (s : ByteArray) (hs : s.size ≤ 20000000) : ∀ (l : List UInt8) (i : Nat), s.data.toList.drop i = l → Ev (fun k => impl_areShown.l0 k s (s.size : Int) (i : Int)) (l.all goodB)
  | [], i, h => by
    have := drop_nil h
    exact Ev.step (f := fun _ => some true) (fun k => by rw [impl_areShown.l0, if_neg (by omega)]) (Ev.now _)
  | b :: l, i, h => by
    obtain ⟨h1, h2, h3⟩ := drop_cons h
    have hb : b.toNat < 256 := b.toNat_lt
    have hg : inB (b.toNat : Int) 33 126 = goodB b := by unfold inB goodB; congr 1 <;> simp <;> omega
    refine Ev.step (f := fun k => if goodB b = true then impl_areShown.l0 k s (s.size : Int) ((i + 1 : Nat) : Int) else some false) (fun k => ?_) ?_
    · rw [impl_areShown.l0, if_pos (by omega), if_pos (by omega), if_pos (by omega), h2, wr (x := (b.toNat : Int)) (by omega) (by omega), within_is, hg, wr (x := (i : Int) + 1) (by omega) (by omega)]; rfl
    · rw [List.all_cons]
      cases goodB b
      · simp only [Bool.false_eq_true, if_false, Bool.false_and]; exact Ev.now _
      · simp only [if_true, Bool.true_and]; exact shown_loop s hs l (i + 1) h3
theorem shown_impl (s : ByteArray) (hs : s.size ≤ 20000000) : Ev (fun k => impl_areShown.f k s) (s.data.toList.all goodB) := by
  unfold impl_areShown.f
  exact shown_loop s hs s.data.toList 0 (by simp)
theorem containsAny_eq (W : List UInt8) : ∀ l : List UInt8, Lib.containsAny l W = l.any fun b => W.contains b
  | [] => by simp [Lib.containsAny, Lib.indexAny]
  | b :: l => by
    have ih := containsAny_eq W l
    have g := Lib.indexAny_ge W l
    unfold Lib.containsAny at ih ⊢
    rw [List.any_cons, ← ih, Lib.indexAny]
    by_cases c : W.contains b = true
    · rw [if_pos c, c]; simp
    · have c' : W.contains b = false := by simpa using c
      rw [if_neg c, c', Bool.false_or]
      by_cases e : Lib.indexAny l W = -1
      · simp [e]
      · have e1 : (Lib.indexAny l W == -1) = false := by simpa using e
        rw [e1]
        simp only [Bool.false_eq_true, if_false]
        congr 1
        apply propext
        omega
theorem only_split (l W : List UInt8) : onlyB l W = (l.all goodB && !Lib.containsAny l W) := by
  rw [containsAny_eq]
  induction l with
  | nil => rfl
  | cons b l ih =>
    have e0 : onlyB (b :: l) W = ((goodB b && !W.contains b) && onlyB l W) := by simp [onlyB]
    rw [e0, ih, List.all_cons, List.any_cons]
    cases goodB b <;> cases W.contains b <;> simp
theorem shown_ok {s : ByteArray} (h : s.data.toList.all goodB = true) : strings_ContainsAny.ok s = true := by
  unfold strings_ContainsAny.ok
  rw [List.all_eq_true] at h ⊢
  intro b hb
  have := h b hb
  simp [goodB] at this
  simp; omega
theorem contains_impl (s wo : ByteArray) (hs : s.size ≤ 2000000) (hw : wo.size ≤ 1000) (hg : s.data.toList.all goodB = true) (ho : strings_ContainsAny.ok wo = true) : strings_ContainsAny.f s wo = some (!onlyB s.data.toList wo.data.toList) := by
  unfold strings_ContainsAny.f
  rw [if_pos ⟨by omega, by omega, shown_ok hg, ho⟩, only_split, hg]
  simp

theorem in_is (n lo hi : Int) : spec_l01In.f n lo hi = some (inB n lo hi) := by
  unfold spec_l01In.f inB
  by_cases h : lo ≤ n
  · rw [if_pos h]; simp [h]
  · rw [if_neg h]; simp [h]

def lowB (b : UInt8) : Bool := decide (97 ≤ b.toNat) && decide (b.toNat ≤ 122)
def digB (b : UInt8) : Bool := decide (48 ≤ b.toNat) && decide (b.toNat ≤ 57)
theorem low_is (b : UInt8) : impl_isLower.f (b.toNat : Int) = some (lowB b) := by
  unfold impl_isLower.f lowB
  by_cases h : 97 ≤ b.toNat
  · rw [if_pos (by omega)]; simp [h]; omega
  · rw [if_neg (by omega)]; simp [h]
theorem dig_is (b : UInt8) : impl_isDigit.f (b.toNat : Int) = some (digB b) := by
  unfold impl_isDigit.f digB
  by_cases h : 48 ≤ b.toNat
  · rw [if_pos (by omega)]; simp [h]; omega
  · rw [if_neg (by omega)]; simp [h]
theorem digS_is (b : UInt8) : spec_l00Digit.f (b.toNat : Int) = some (digB b) := by
  unfold spec_l00Digit.f digB
  by_cases h : 48 ≤ b.toNat
  · rw [if_pos (by omega)]; simp [h]; omega
  · rw [if_neg (by omega)]; simp [h]
def schemeB : Bool → List UInt8 → Bool
  | _, [] => true
  | first, b :: l => if lowB b = true then schemeB false l else if first = true then false else if digB b = true ∨ b.toNat = 45 ∨ b.toNat = 43 ∨ b.toNat = 46 then schemeB false l else false
theorem scheme_spec_loop (s : ByteArray) (hs : s.size ≤ 2000000) : ∀ (l : List UInt8) (i : Nat), s.data.toList.drop i = l → Ev (fun k => spec_l01Scheme.l0 k s (i : Int)) (schemeB (decide (i = 0)) l)
  | [], i, h => by
    have := drop_nil h
    exact Ev.step (f := fun _ => some true) (fun k => by rw [spec_l01Scheme.l0, if_neg (by omega)]) (Ev.now _)
  | b :: l, i, h => by
    obtain ⟨h1, h2, h3⟩ := drop_cons h
    have rcu := scheme_spec_loop s hs l (i + 1) h3
    rw [show decide (i + 1 = 0) = false by simp] at rcu
    have w1 : wrap64 ((i : Int) + 1) = ((i + 1 : Nat) : Int) := by rw [wr (by omega) (by omega)]; rfl
    refine Ev.step (f := fun k => if lowB b = true then spec_l01Scheme.l0 k s ((i + 1 : Nat) : Int) else if i = 0 then some false else if digB b = true ∨ b.toNat = 45 ∨ b.toNat = 43 ∨ b.toNat = 46 then spec_l01Scheme.l0 k s ((i + 1 : Nat) : Int) else some false) (fun k => ?_) ?_
    · rw [spec_l01Scheme.l0, if_pos (by omega), if_pos (by omega), h2, digS_is, w1]
      simp only [Option.bind_some]
      have z : ((i : Int) = 0) = (i = 0) := propext (by omega)
      have z1 : ((b.toNat : Int) = 45) = (b.toNat = 45) := propext (by omega)
      have z2 : ((b.toNat : Int) = 43) = (b.toNat = 43) := propext (by omega)
      have z3 : ((b.toNat : Int) = 46) = (b.toNat = 46) := propext (by omega)
      by_cases a : 97 ≤ b.toNat
      · rw [if_pos (by omega)]
        by_cases c : b.toNat ≤ 122
        · rw [if_pos (by omega), if_pos (by simp [lowB, a, c])]
        · rw [if_neg (by omega), if_neg (show ¬ lowB b = true by simp [lowB, c])]
          simp only [z, z1, z2, z3]
          by_cases i0 : i = 0
          · rw [if_pos i0, if_pos i0]
          · rw [if_neg i0, if_neg i0]
            by_cases d : digB b = true
            · rw [if_pos d, if_pos (.inl d)]
            · rw [if_neg d]
              by_cases e1 : b.toNat = 45
              · rw [if_pos e1, if_pos (.inr (.inl e1))]
              · rw [if_neg e1]
                by_cases e2 : b.toNat = 43
                · rw [if_pos e2, if_pos (.inr (.inr (.inl e2)))]
                · rw [if_neg e2]
                  by_cases e3 : b.toNat = 46
                  · rw [if_pos e3, if_pos (.inr (.inr (.inr e3)))]
                  · rw [if_neg e3, if_neg]; rintro (h | h | h | h) <;> contradiction
      · rw [if_neg (by omega), if_neg (show ¬ lowB b = true by simp [lowB, a])]
        simp only [z, z1, z2, z3]
        by_cases i0 : i = 0
        · rw [if_pos i0, if_pos i0]
        · rw [if_neg i0, if_neg i0]
          by_cases d : digB b = true
          · rw [if_pos d, if_pos (.inl d)]
          · rw [if_neg d]
            by_cases e1 : b.toNat = 45
            · rw [if_pos e1, if_pos (.inr (.inl e1))]
            · rw [if_neg e1]
              by_cases e2 : b.toNat = 43
              · rw [if_pos e2, if_pos (.inr (.inr (.inl e2)))]
              · rw [if_neg e2]
                by_cases e3 : b.toNat = 46
                · rw [if_pos e3, if_pos (.inr (.inr (.inr e3)))]
                · rw [if_neg e3, if_neg]; rintro (h | h | h | h) <;> contradiction
    · rw [schemeB]
      by_cases a : lowB b = true
      · simp only [if_pos a]; exact rcu
      · simp only [if_neg a]
        by_cases i0 : i = 0
        · simp only [i0, if_true, decide_true]; exact Ev.now _
        · simp only [if_neg i0, decide_eq_false i0, Bool.false_eq_true, if_false]
          by_cases d : digB b = true ∨ b.toNat = 45 ∨ b.toNat = 43 ∨ b.toNat = 46
          · simp only [if_pos d]; exact rcu
          · simp only [if_neg d]; exact Ev.now _
theorem scheme_spec (s : ByteArray) (hs : s.size ≤ 2000000) : Ev (fun k => spec_l01Scheme.f k s) (inB (s.size : Int) 1 12 && schemeB true s.data.toList) := by
  unfold spec_l01Scheme.f
  simp only [in_is, Option.bind_some]
  cases inB (s.size : Int) 1 12
  · simp only [Bool.false_eq_true, if_false, Bool.false_and]; exact Ev.now _
  · simp only [if_true, Bool.true_and]
    have := scheme_spec_loop s hs s.data.toList 0 (by simp)
    exact this
theorem scheme_impl_loop (s : ByteArray) (hs : s.size ≤ 2000000) (n : Nat) (hn : n ≤ s.size) : ∀ (l : List UInt8) (i : Nat), i ≤ n → s.data.toList.drop i = l → Ev (fun k => impl_isScheme.l0 k s (n : Int) (i : Int)) (schemeB (decide (i = 0)) (l.take (n - i)) && inB (s.size : Int) 1 12)
  | [], i, hi, h => by
    have := drop_nil h
    have e : i = n := by omega
    subst e
    refine Ev.step (f := fun _ => some (inB (s.size : Int) 1 12)) (fun k => by rw [impl_isScheme.l0, if_neg (by omega), within_is]; rfl) ?_
    simp only [List.take_nil, schemeB, Bool.true_and]
    exact Ev.now _
  | b :: l, i, hi, h => by
    obtain ⟨h1, h2, h3⟩ := drop_cons h
    by_cases e : i = n
    · subst e
      refine Ev.step (f := fun _ => some (inB (s.size : Int) 1 12)) (fun k => by rw [impl_isScheme.l0, if_neg (by omega), within_is]; rfl) ?_
      simp only [Nat.sub_self, List.take_zero, schemeB, Bool.true_and]
      exact Ev.now _
    have rcu := scheme_impl_loop s hs n hn l (i + 1) (by omega) h3
    rw [show decide (i + 1 = 0) = false by simp] at rcu
    have w1 : wrap64 ((i : Int) + 1) = ((i + 1 : Nat) : Int) := by rw [wr (by omega) (by omega)]; rfl
    have tk : (b :: l).take (n - i) = b :: l.take (n - (i + 1)) := by rw [show n - i = (n - (i + 1)) + 1 by omega, List.take_succ_cons]
    rw [tk]
    refine Ev.step (f := fun k => if lowB b = true then impl_isScheme.l0 k s (n : Int) ((i + 1 : Nat) : Int) else if i = 0 then some false else if digB b = true ∨ b.toNat = 45 ∨ b.toNat = 43 ∨ b.toNat = 46 then impl_isScheme.l0 k s (n : Int) ((i + 1 : Nat) : Int) else some false) (fun k => ?_) ?_
    · rw [impl_isScheme.l0, if_pos (by omega), if_pos (by omega), if_pos (by omega), h2, low_is, dig_is, w1]
      simp only [Option.bind_some]
      have z : ((i : Int) = 0) = (i = 0) := propext (by omega)
      have z1 : ((b.toNat : Int) = 45) = (b.toNat = 45) := propext (by omega)
      have z2 : ((b.toNat : Int) = 43) = (b.toNat = 43) := propext (by omega)
      have z3 : ((b.toNat : Int) = 46) = (b.toNat = 46) := propext (by omega)
      simp only [z, z1, z2, z3]
      by_cases a : lowB b = true
      · rw [if_pos a, if_pos a]
      · rw [if_neg a, if_neg a]
        by_cases i0 : i = 0
        · rw [if_pos i0, if_pos i0]
        · rw [if_neg i0, if_neg i0]
          by_cases d : digB b = true
          · rw [if_pos d, if_pos (.inl d)]
          · rw [if_neg d]
            by_cases e1 : b.toNat = 45
            · rw [if_pos e1, if_pos (.inr (.inl e1))]
            · rw [if_neg e1]
              by_cases e2 : b.toNat = 43
              · rw [if_pos e2, if_pos (.inr (.inr (.inl e2)))]
              · rw [if_neg e2]
                by_cases e3 : b.toNat = 46
                · rw [if_pos e3, if_pos (.inr (.inr (.inr e3)))]
                · rw [if_neg e3, if_neg]; rintro (h | h | h | h) <;> contradiction
    · rw [schemeB]
      by_cases a : lowB b = true
      · simp only [if_pos a]; exact rcu
      · simp only [if_neg a]
        by_cases i0 : i = 0
        · simp only [i0, if_true, decide_true, Bool.false_and]; exact Ev.now _
        · simp only [if_neg i0, decide_eq_false i0, Bool.false_eq_true, if_false]
          by_cases d : digB b = true ∨ b.toNat = 45 ∨ b.toNat = 43 ∨ b.toNat = 46
          · simp only [if_pos d]; exact rcu
          · simp only [if_neg d, Bool.false_and]; exact Ev.now _
theorem scheme_impl (s : ByteArray) (hs : s.size ≤ 2000000) : Ev (fun k => impl_isScheme.f k s) (inB (s.size : Int) 1 12 && schemeB true s.data.toList) := by
  unfold impl_isScheme.f
  by_cases h : s.size ≤ 12
  · have e : mn (s.size : Int) 13 = ((s.size : Nat) : Int) := by unfold mn; rw [if_neg (by omega)]
    rw [e]
    have := scheme_impl_loop s hs s.size (Nat.le_refl _) s.data.toList 0 (by omega) (by simp)
    rw [List.take_of_length_le (by rw [← size_len]; omega)] at this
    rw [Bool.and_comm]
    exact this
  · have e : mn (s.size : Int) 13 = ((13 : Nat) : Int) := by unfold mn; split <;> omega
    rw [e]
    have := scheme_impl_loop s hs 13 (by omega) s.data.toList 0 (by omega) (by simp)
    have z : inB (s.size : Int) 1 12 = false := by unfold inB; simp; omega
    rw [z, Bool.and_false] at this
    rw [z, Bool.false_and]
    exact this

def sepB (b : UInt8) : Bool := decide (b.toNat = 45) || decide (b.toNat = 46)
def hostB : Bool → List UInt8 → Bool
  | last, [] => !last
  | last, b :: l => if lowB b = true ∨ digB b = true then hostB false l else if last = true then false else if sepB b = true then hostB true l else false
theorem host_spec_loop (s : ByteArray) (hs : s.size ≤ 2000000) : ∀ (l : List UInt8) (i : Nat) (last : Bool), s.data.toList.drop i = l → Ev (fun k => spec_l01Host.l0 k s last (i : Int)) (hostB last l)
  | [], i, last, h => by
    have := drop_nil h
    exact Ev.step (f := fun _ => some (!last)) (fun k => by rw [spec_l01Host.l0, if_neg (by omega)]) (Ev.now _)
  | b :: l, i, last, h => by
    obtain ⟨h1, h2, h3⟩ := drop_cons h
    have r0 := host_spec_loop s hs l (i + 1) false h3
    have r1 := host_spec_loop s hs l (i + 1) true h3
    have w1 : wrap64 ((i : Int) + 1) = ((i + 1 : Nat) : Int) := by rw [wr (by omega) (by omega)]; rfl
    have z1 : ((b.toNat : Int) = 45) = (b.toNat = 45) := propext (by omega)
    have z3 : ((b.toNat : Int) = 46) = (b.toNat = 46) := propext (by omega)
    refine Ev.step (f := fun k => if lowB b = true ∨ digB b = true then spec_l01Host.l0 k s false ((i + 1 : Nat) : Int) else if last = true then some false else if sepB b = true then spec_l01Host.l0 k s true ((i + 1 : Nat) : Int) else some false) (fun k => ?_) ?_
    · rw [spec_l01Host.l0, if_pos (by omega), if_pos (by omega), h2, digS_is, w1]
      simp only [Option.bind_some, z1, z3]
      have tail : ∀ hd : ¬ lowB b = true, (if digB b = true then spec_l01Host.l0 k s (!digB b) ((i + 1 : Nat) : Int) else if last = true then some false else if b.toNat = 45 then spec_l01Host.l0 k s (!digB b) ((i + 1 : Nat) : Int) else if b.toNat = 46 then spec_l01Host.l0 k s (!digB b) ((i + 1 : Nat) : Int) else some false) = (if lowB b = true ∨ digB b = true then spec_l01Host.l0 k s false ((i + 1 : Nat) : Int) else if last = true then some false else if sepB b = true then spec_l01Host.l0 k s true ((i + 1 : Nat) : Int) else some false) := fun hd => by
        by_cases d : digB b = true
        · rw [if_pos d, if_pos (.inr d), d]; rfl
        · have d' : digB b = false := by simpa using d
          rw [if_neg d, if_neg (show ¬ (lowB b = true ∨ digB b = true) from fun x => x.elim hd d), d']
          by_cases hl : last = true
          · rw [if_pos hl, if_pos hl]
          · rw [if_neg hl, if_neg hl]
            by_cases e1 : b.toNat = 45
            · rw [if_pos e1, if_pos (by simp [sepB, e1])]; rfl
            · rw [if_neg e1]
              by_cases e2 : b.toNat = 46
              · rw [if_pos e2, if_pos (by simp [sepB, e2])]; rfl
              · rw [if_neg e2, if_neg (by simp [sepB, e1, e2])]
      by_cases a : 97 ≤ b.toNat
      · rw [if_pos (by omega)]
        by_cases c : b.toNat ≤ 122
        · rw [if_pos (by omega), if_pos (.inl (by simp [lowB, a, c]))]; rfl
        · rw [if_neg (by omega)]; exact tail (by simp [lowB, c])
      · rw [if_neg (by omega)]; exact tail (by simp [lowB, a])
    · rw [hostB]
      by_cases a : lowB b = true ∨ digB b = true
      · simp only [if_pos a]; exact r0
      · simp only [if_neg a]
        by_cases hl : last = true
        · simp only [if_pos hl]; exact Ev.now _
        · simp only [if_neg hl]
          by_cases d : sepB b = true
          · simp only [if_pos d]; exact r1
          · simp only [if_neg d]; exact Ev.now _
theorem host_spec (s : ByteArray) (hs : s.size ≤ 2000000) : Ev (fun k => spec_l01Host.f k s) (hostB true s.data.toList) := by
  unfold spec_l01Host.f
  exact host_spec_loop s hs s.data.toList 0 true (by simp)
/-- What stands before place i: nothing, or a point or a stroke. -/
def lastOf (s : ByteArray) (i : Nat) : Prop := i = 0 ∨ bt s ((i - 1 : Nat) : Int) = 45 ∨ bt s ((i - 1 : Nat) : Int) = 46
theorem host_impl_loop (s : ByteArray) (hs : s.size ≤ 2000000) : ∀ (l : List UInt8) (i : Nat) (last : Bool), s.data.toList.drop i = l → (last = true ↔ lastOf s i) → (l = [] → i = 0 ∨ last = false) → i ≤ s.size → Ev (fun k => impl_isHost.l0 k s (s.size : Int) (i : Int)) (hostB last l)
  | [], i, last, h, hl, he, hi => by
    have hn := drop_nil h
    refine Ev.step (f := fun _ => some (!last)) (fun k => ?_) (Ev.now _)
    rw [impl_isHost.l0, if_neg (by omega)]
    congr 1
    rcases he rfl with h0 | h0
    · subst h0
      have : last = true := hl.2 (.inl rfl)
      subst this
      have e : s.data.toList = [] := by simpa using h
      have e2 : s.toList = [] := by rw [ByteArray.toList_eq]; exact e
      rw [e2]; rfl
    · subst h0
      have e2 : ¬ s.toList = [] := by
        intro c
        rw [ByteArray.toList_eq] at c
        have : s.size = 0 := by rw [size_len, c]; rfl
        have hi0 : i = 0 := by omega
        have := hl.2 (.inl hi0)
        cases this
      have : (s.toList != ([] : List UInt8)) = true := bne_iff_ne.mpr e2
      rw [this]; rfl
  | b :: l, i, last, h, hl, he, hi => by
    obtain ⟨h1, h2, h3⟩ := drop_cons h
    have w1 : wrap64 ((i : Int) + 1) = ((i + 1 : Nat) : Int) := by rw [wr (by omega) (by omega)]; rfl
    have z1 : ((b.toNat : Int) = 45) = (b.toNat = 45) := propext (by omega)
    have z3 : ((b.toNat : Int) = 46) = (b.toNat = 46) := propext (by omega)
    have hb : bt s (((i + 1) - 1 : Nat) : Int) = (b.toNat : Int) := by rw [Nat.add_sub_cancel]; exact h2
    by_cases a : lowB b = true ∨ digB b = true
    · have hp : ¬ lastOf s (i + 1) := by
        rintro (h0 | h0 | h0)
        · omega
        · rw [hb] at h0; have : b.toNat = 45 := by omega
          simp [lowB, digB, this] at a
        · rw [hb] at h0; have : b.toNat = 46 := by omega
          simp [lowB, digB, this] at a
      have r0 := host_impl_loop s hs l (i + 1) false h3 ⟨fun c => (by cases c), fun c => absurd c hp⟩ (fun _ => .inr rfl) (by omega)
      rw [hostB, if_pos a]
      refine Ev.step (f := fun k => impl_isHost.j1 k s (i : Int) (b.toNat : Int) (s.size : Int) (i : Int) true) (fun k => ?_) ?_
      · rw [impl_isHost.l0, if_pos (by omega), if_pos (by omega), if_pos (by omega), h2, low_is, dig_is]
        simp only [Option.bind_some]
        by_cases c : lowB b = true
        · rw [if_pos c]
        · rw [if_neg c]
          have : digB b = true := by rcases a with a | a; exact absurd a c; exact a
          rw [this]
      · exact Ev.step (f := fun k => impl_isHost.l0 k s (s.size : Int) ((i + 1 : Nat) : Int)) (fun k => by rw [impl_isHost.j1, if_pos rfl, w1]) r0
    · have c1 : lowB b = false := by cases e : lowB b; rfl; exact absurd (.inl e) a
      have c2 : digB b = false := by cases e : digB b; rfl; exact absurd (.inr e) a
      rw [hostB, if_neg a]
      refine Ev.step (f := fun k => impl_isHost.j1 k s (i : Int) (b.toNat : Int) (s.size : Int) (i : Int) false) (fun k => ?_) ?_
      · rw [impl_isHost.l0, if_pos (by omega), if_pos (by omega), if_pos (by omega), h2, low_is, dig_is]
        simp only [Option.bind_some, c1, c2, Bool.false_eq_true, if_false]
      by_cases sp : sepB b = true
      · -- a point or a stroke
        have hw : wrap64 ((s.size : Int) - 1) = (s.size : Int) - 1 := wr (by omega) (by omega)
        have core : ∀ k, impl_isHost.j1 (k + 1) s (i : Int) (b.toNat : Int) (s.size : Int) (i : Int) false = (if i = 0 then some false else if i + 1 = s.size then some false else if bt s ((i - 1 : Nat) : Int) = 45 ∨ bt s ((i - 1 : Nat) : Int) = 46 then some false else impl_isHost.l0 k s (s.size : Int) ((i + 1 : Nat) : Int)) := fun k => by
          have body : ∀ i0 : ¬ i = 0, (if 0 ≤ wrap64 ((i : Int) - 1) then (if wrap64 ((i : Int) - 1) < (s.size : Int) then (if bt s (wrap64 ((i : Int) - 1)) = 45 then some false else (if bt s (wrap64 ((i : Int) - 1)) = 46 then some false else impl_isHost.l0 k s (s.size : Int) (wrap64 ((i : Int) + 1)))) else none) else none) = (if bt s ((i - 1 : Nat) : Int) = 45 ∨ bt s ((i - 1 : Nat) : Int) = 46 then some false else impl_isHost.l0 k s (s.size : Int) ((i + 1 : Nat) : Int)) := fun i0 => by
            have e : wrap64 ((i : Int) - 1) = ((i - 1 : Nat) : Int) := by rw [wr (by omega) (by omega)]; omega
            rw [e, if_pos (by omega), if_pos (by omega), w1]
            by_cases p : bt s ((i - 1 : Nat) : Int) = 45
            · rw [if_pos p, if_pos (.inl p)]
            · rw [if_neg p]
              by_cases q : bt s ((i - 1 : Nat) : Int) = 46
              · rw [if_pos q, if_pos (.inr q)]
              · rw [if_neg q, if_neg (by rintro (h | h) <;> contradiction)]
          rw [impl_isHost.j1]
          simp only [Bool.false_eq_true, if_false, z1, z3, hw]
          have arm : (if (i : Int) = 0 then some false else (if (i : Int) = (s.size : Int) - 1 then some false else (if 0 ≤ wrap64 ((i : Int) - 1) then (if wrap64 ((i : Int) - 1) < (s.size : Int) then (if bt s (wrap64 ((i : Int) - 1)) = 45 then some false else (if bt s (wrap64 ((i : Int) - 1)) = 46 then some false else impl_isHost.l0 k s (s.size : Int) (wrap64 ((i : Int) + 1)))) else none) else none))) = (if i = 0 then some false else if i + 1 = s.size then some false else if bt s ((i - 1 : Nat) : Int) = 45 ∨ bt s ((i - 1 : Nat) : Int) = 46 then some false else impl_isHost.l0 k s (s.size : Int) ((i + 1 : Nat) : Int)) := by
            by_cases i0 : i = 0
            · rw [if_pos (by omega), if_pos i0]
            · rw [if_neg (by omega), if_neg i0]
              by_cases i1 : i + 1 = s.size
              · rw [if_pos (by omega), if_pos i1]
              · rw [if_neg (by omega), if_neg i1]; exact body i0
          by_cases e1 : b.toNat = 45
          · rw [if_pos e1]; exact arm
          · have e2 : b.toNat = 46 := by simpa [sepB, e1] using sp
            rw [if_neg e1, if_pos e2]; exact arm
        have hlast : lastOf s (i + 1) := by
          right; rw [hb]
          have : b.toNat = 45 ∨ b.toNat = 46 := by simpa [sepB] using sp
          omega
        by_cases hp : last = true
        · rw [if_pos hp]
          refine Ev.step (f := fun _ => some false) (fun k => ?_) (Ev.now _)
          rw [core]
          by_cases i0 : i = 0
          · rw [if_pos i0]
          · rw [if_neg i0]
            by_cases i1 : i + 1 = s.size
            · rw [if_pos i1]
            · rw [if_neg i1]
              have : bt s ((i - 1 : Nat) : Int) = 45 ∨ bt s ((i - 1 : Nat) : Int) = 46 := by
                rcases hl.1 hp with h | h
                · exact absurd h i0
                · exact h
              rw [if_pos this]
        · rw [if_neg hp, if_pos sp]
          have i0 : ¬ i = 0 := fun c => hp (hl.2 (.inl c))
          have np : ¬ (bt s ((i - 1 : Nat) : Int) = 45 ∨ bt s ((i - 1 : Nat) : Int) = 46) := fun c => hp (hl.2 (.inr c))
          by_cases i1 : i + 1 = s.size
          · have hle : l = [] := by
              rw [← h3]; exact List.drop_eq_nil_of_le (by rw [← size_len]; omega)
            subst hle
            exact Ev.step (f := fun _ => some false) (fun k => by rw [core, if_neg i0, if_pos i1]) (Ev.now _)
          · have hne : l = [] → i + 1 = 0 ∨ true = false := fun c => by
              subst c
              have := drop_nil h3
              omega
            have r1 := host_impl_loop s hs l (i + 1) true h3 ⟨fun _ => hlast, fun _ => rfl⟩ hne (by omega)
            exact Ev.step (f := fun k => impl_isHost.l0 k s (s.size : Int) ((i + 1 : Nat) : Int)) (fun k => by rw [core, if_neg i0, if_neg i1, if_neg np]) r1
      · have e1 : ¬ b.toNat = 45 := fun c => sp (by simp [sepB, c])
        have e2 : ¬ b.toNat = 46 := fun c => sp (by simp [sepB, c])
        have : (if last = true then false else if sepB b = true then hostB true l else false) = false := by rw [if_neg sp]; split <;> rfl
        rw [this]
        refine Ev.step (f := fun _ => some false) (fun k => ?_) (Ev.now _)
        rw [impl_isHost.j1]
        simp only [Bool.false_eq_true, if_false, z1, z3, if_neg e1, if_neg e2]
theorem host_impl (s : ByteArray) (hs : s.size ≤ 2000000) : Ev (fun k => impl_isHost.f k s) (hostB true s.data.toList) := by
  unfold impl_isHost.f
  exact host_impl_loop s hs s.data.toList 0 true (by simp) ⟨fun _ => .inl rfl, fun _ => rfl⟩ (fun _ => .inl rfl) (by omega)

theorem strOfNums_append (a b : List Int) : strOfNums (a ++ b) = strOfNums a ++ strOfNums b := by
  apply ByteArray.ext
  rw [ByteArray.data_append]
  apply Array.toList_inj.1
  simp [strOfNums]
theorem strOfNums_size (a : List Int) : (strOfNums a).size = a.length := by
  simp [strOfNums, ByteArray.size]
theorem bt_lt (s : ByteArray) (i : Int) (h : i.toNat < s.size) : bt s i = ((s[i.toNat]'h).toNat : Int) := by simp [bt, h]
theorem extract_one (s : ByteArray) (i : Int) (h0 : 0 ≤ i) (h1 : i < s.size) : s.extract i.toNat (i + 1).toNat = strOfNums [bt s i] := by
  have hl : i.toNat < s.size := by omega
  apply ByteArray.ext
  apply Array.toList_inj.1
  rw [ByteArray.data_extract, Array.toList_extract, List.extract_eq_take_drop, show (i + 1).toNat - i.toNat = 1 by omega]
  have hl' : i.toNat < s.data.toList.length := by simpa using hl
  rw [List.drop_eq_getElem_cons hl', List.take_succ_cons, List.take_zero, bt_lt s i hl]
  simp [strOfNums]
  rfl

/-- The decimal text of a number, as the library writes it. -/
def itoaB (n : Int) : ByteArray := ⟨(Lib.itoa n).toArray⟩
theorem itoa_is (n : Int) (h0 : -9223372036854775808 ≤ n) (h1 : n ≤ 9223372036854775807) : strconv_Itoa.f n = some (itoaB n) := by
  unfold strconv_Itoa.f itoaB
  rw [if_pos ⟨h0, h1⟩]
theorem itoaB_size (n : Int) (h0 : -9223372036854775808 ≤ n) (h1 : n ≤ 9223372036854775807) : (itoaB n).size ≤ 21 := by
  have := Lib.itoa_length_le n h0 h1
  simpa [itoaB, ByteArray.size] using this
theorem bytes_join (a b : List UInt8) : (⟨(a ++ b).toArray⟩ : ByteArray) = (⟨a.toArray⟩ : ByteArray) ++ (⟨b.toArray⟩ : ByteArray) := by
  apply ByteArray.ext
  rw [ByteArray.data_append]
  simp
theorem nDigits_mono (u : Nat) (h : u < 18446744073709551616) : (Lib.decDigits u).length ≤ 20 := by
  rw [Lib.decDigits_length]; exact Lib.nDigits_le20 u h
theorem digits_nat : ∀ (u : Nat), u ≤ 9223372036854775807 → Ev (fun k => spec_l00Digits.f k (u : Int)) (⟨(Lib.decDigits u).toArray⟩ : ByteArray) := by
  intro u
  induction u using Nat.strongRecOn with
  | _ u ih =>
  intro hu
  by_cases h : u < 10
  · refine Ev.step (f := fun _ => some (⟨(Lib.decDigits u).toArray⟩ : ByteArray)) (fun k => ?_) (Ev.now _)
    rw [spec_l00Digits.f, if_neg (by omega), if_neg (by omega), if_pos (by omega), wr (by omega) (by omega), Lib.decDigits_one h]
    have e : ((48 + (u : Int)) % 256).toNat = 48 + u := by omega
    simp [strOfNums, e]
  · have hd : Int.tdiv (u : Int) 10 = ((u / 10 : Nat) : Int) := by rw [Int.tdiv_eq_ediv_of_nonneg (by omega)]; omega
    have hm : Int.tmod (u : Int) 10 = ((u % 10 : Nat) : Int) := by rw [Int.tmod_eq_emod_of_nonneg (by omega)]; omega
    have hl := nDigits_mono (u / 10) (by omega)
    refine Ev.step (f := fun k => (spec_l00Digits.f k ((u / 10 : Nat) : Int)).bind fun t => if t.size + 1 ≤ 9223372036854775807 then some (t ++ (⟨#[UInt8.ofNat (48 + u % 10)]⟩ : ByteArray)) else none) (fun k => ?_) (Ev.bind (ih (u / 10) (by omega) (by omega)) ?_)
    · rw [spec_l00Digits.f, if_neg (by omega), if_neg (by omega), if_neg (by omega), hd, hm, wr (x := ((u / 10 : Nat) : Int)) (by omega) (by omega), wr (x := 48 + ((u % 10 : Nat) : Int)) (by omega) (by omega)]
      have e : ((48 + ((u % 10 : Nat) : Int)) % 256).toNat = 48 + u % 10 := by omega
      have e2 : strOfNums [(48 + ((u % 10 : Nat) : Int)) % 256] = (⟨#[UInt8.ofNat (48 + u % 10)]⟩ : ByteArray) := by simp only [strOfNums, List.map_cons, List.map_nil, e]
      simp only [Option.bind_some, e2]
      rfl
    · have hs : (⟨(Lib.decDigits (u / 10)).toArray⟩ : ByteArray).size + 1 ≤ 9223372036854775807 := by simp only [ByteArray.size, List.size_toArray]; omega
      simp only [if_pos hs]
      have : (⟨(Lib.decDigits u).toArray⟩ : ByteArray) = (⟨(Lib.decDigits (u / 10)).toArray⟩ : ByteArray) ++ (⟨#[UInt8.ofNat (48 + u % 10)]⟩ : ByteArray) := by
        conv => lhs; rw [Lib.decDigits, dif_neg h]
        exact bytes_join _ _
      rw [this]
      exact Ev.now _
theorem digits_is (n : Int) (h0 : -9223372036854775808 ≤ n) (h1 : n ≤ 9223372036854775807) : Ev (fun k => spec_l00Digits.f k n) (itoaB n) := by
  unfold itoaB
  by_cases hm : n = -9223372036854775808
  · subst hm
    refine Ev.step (f := fun _ => some (⟨(Lib.itoa (-9223372036854775808)).toArray⟩ : ByteArray)) (fun k => ?_) (Ev.now _)
    rw [spec_l00Digits.f, if_pos rfl]
    have : Lib.itoa (-9223372036854775808) = [45, 57, 50, 50, 51, 51, 55, 50, 48, 51, 54, 56, 53, 52, 55, 55, 53, 56, 48, 56] := by
      unfold Lib.itoa
      rw [if_pos (by omega)]
      simp [Lib.decDigits]
    rw [this]
  by_cases hn : n < 0
  · obtain ⟨u, rfl⟩ : ∃ u : Nat, n = -(u : Int) := ⟨n.natAbs, by omega⟩
    rw [Lib.itoa_neg u (by omega)]
    refine Ev.step (f := fun k => (spec_l00Digits.f k (u : Int)).bind fun t => if 1 + t.size ≤ 9223372036854775807 then some ((⟨#[45]⟩ : ByteArray) ++ t) else none) (fun k => ?_) (Ev.bind (digits_nat u (by omega)) ?_)
    · rw [spec_l00Digits.f, if_neg hm, if_pos hn, Int.neg_neg, wr (by omega) (by omega)]
    · have hl := nDigits_mono u (by omega)
      have hs : 1 + (⟨(Lib.decDigits u).toArray⟩ : ByteArray).size ≤ 9223372036854775807 := by simp only [ByteArray.size, List.size_toArray]; omega
      simp only [if_pos hs]
      have : (⟨(45 :: Lib.decDigits u).toArray⟩ : ByteArray) = (⟨#[45]⟩ : ByteArray) ++ (⟨(Lib.decDigits u).toArray⟩ : ByteArray) := bytes_join [45] _
      rw [this]
      exact Ev.now _
  · obtain ⟨u, rfl⟩ : ∃ u : Nat, n = u := ⟨n.toNat, by omega⟩
    rw [Lib.itoa_nonneg]
    exact digits_nat u (by omega)
theorem decimal_is (n : Int) (h0 : -9223372036854775808 ≤ n) (h1 : n ≤ 9223372036854775807) : impl_decimal.f n = some (itoaB n) := by
  unfold impl_decimal.f
  rw [itoa_is n h0 h1]; rfl
theorem wf_range {n : Int} (h : (Lit.int .i64 n).wf = true) : -9223372036854775808 ≤ n ∧ n ≤ 9223372036854775807 := by
  have e : IntKind.i64.min = -9223372036854775808 := by decide
  have h' : IntKind.i64.min ≤ n ∧ n ≤ 9223372036854775807 := by simpa [Lit.wf] using h
  rw [e] at h'
  exact h'

def webB (s : ByteArray) : Bool := decide (s.toList = ([104, 116, 116, 112] : List UInt8)) || (s.toList == ([104, 116, 116, 112, 115] : List UInt8))
theorem web_spec (s : ByteArray) : spec_l01Web.f s = some (webB s) := by
  unfold spec_l01Web.f webB
  by_cases h : s.toList = ([104, 116, 116, 112] : List UInt8)
  · rw [if_pos h, decide_eq_true h]; rfl
  · rw [if_neg h, decide_eq_false h, Bool.false_or]
theorem web_impl (s a b : ByteArray) (p : Int) (c d e : ByteArray) (f g : Bool) : impl_Url_web.f s a b p c d e f g = some (webB s) := by
  unfold impl_Url_web.f webB
  by_cases h : s.toList = ([104, 116, 116, 112] : List UInt8)
  · rw [if_pos h, decide_eq_true h]; rfl
  · rw [if_neg h, decide_eq_false h, Bool.false_or]
theorem b_assoc (a b c : ByteArray) : a ++ b ++ c = a ++ (b ++ c) := by
  apply ByteArray.ext
  simp only [ByteArray.data_append, Array.append_assoc]
theorem b_nil (a : ByteArray) : a ++ (⟨#[]⟩ : ByteArray) = a := by
  apply ByteArray.ext
  simp only [ByteArray.data_append, Array.append_empty]
theorem b_extract (a b : ByteArray) (n : Nat) (h : a.size = n) : (a ++ b).extract n (a ++ b).size = b := by
  subst h
  apply ByteArray.ext
  apply Array.toList_inj.1
  rw [ByteArray.data_extract, Array.toList_extract, ByteArray.data_append, Array.toList_append, List.extract_eq_take_drop]
  have h1 : a.size = a.data.toList.length := size_len a
  have h2 : (a ++ b).size = a.data.toList.length + b.data.toList.length := by rw [ByteArray.size_append, size_len a, size_len b]
  rw [h1, h2, List.drop_left, Nat.add_sub_cancel_left, List.take_length]
/-- The rest of an address behind its path. -/
def tailB (hq : Bool) (q : ByteArray) (hf : Bool) (fr x : ByteArray) : ByteArray :=
  if hq = true then (if hf = true then x ++ ((⟨#[63]⟩ : ByteArray) ++ q) ++ ((⟨#[35]⟩ : ByteArray) ++ fr) else x ++ ((⟨#[63]⟩ : ByteArray) ++ q)) else (if hf = true then x ++ ((⟨#[35]⟩ : ByteArray) ++ fr) else x)
def headB (sch user : ByteArray) : ByteArray :=
  if user.toList = ([] : List UInt8) then sch ++ (⟨#[58, 47, 47]⟩ : ByteArray) else sch ++ (⟨#[58, 47, 47]⟩ : ByteArray) ++ (user ++ (⟨#[64]⟩ : ByteArray))
/-- The text of an address, its port's part being P. -/
def urlT (sch user host P path q fr : ByteArray) (hq hf : Bool) : ByteArray :=
  if webB sch = true then tailB hq q hf fr (headB sch user ++ (host ++ P ++ path)) else sch ++ (⟨#[58]⟩ : ByteArray) ++ path
def portS (p : Int) : ByteArray := if p > 0 then (⟨#[58]⟩ : ByteArray) ++ itoaB p else ⟨#[]⟩
def portI (p : Int) : ByteArray := if p = 0 then ⟨#[]⟩ else (⟨#[58]⟩ : ByteArray) ++ itoaB p
theorem c3_size : (⟨#[58, 47, 47]⟩ : ByteArray).size = 3 := rfl
theorem c1_size (b : UInt8) : (⟨#[b]⟩ : ByteArray).size = 1 := rfl
theorem c0_size : (⟨#[]⟩ : ByteArray).size = 0 := rfl
theorem portS_size (p : Int) (h0 : -9223372036854775808 ≤ p) (h1 : p ≤ 9223372036854775807) : (portS p).size ≤ 22 := by
  unfold portS
  split
  · have := itoaB_size p h0 h1; rw [ByteArray.size_append, c1_size]; omega
  · rw [c0_size]; omega
theorem portI_size (p : Int) (h0 : -9223372036854775808 ≤ p) (h1 : p ≤ 9223372036854775807) : (portI p).size ≤ 22 := by
  unfold portI
  split
  · rw [c0_size]; omega
  · have := itoaB_size p h0 h1; rw [ByteArray.size_append, c1_size]; omega
theorem site_spec (host : ByteArray) (p : Int) (hh : host.size ≤ 2000000) (h0 : -9223372036854775808 ≤ p) (h1 : p ≤ 9223372036854775807) : Ev (fun k => spec_l01Site.f k (⟨#[]⟩ : ByteArray) (⟨#[]⟩ : ByteArray) host p (⟨#[]⟩ : ByteArray) (⟨#[]⟩ : ByteArray) (⟨#[]⟩ : ByteArray) false false) (((⟨#[]⟩ : ByteArray) ++ (⟨#[58, 47, 47]⟩ : ByteArray)) ++ (host ++ portS p)) := by
  have d := itoaB_size p h0 h1
  have e := digits_is p h0 h1
  have cs1 : (⟨#[]⟩ : ByteArray).size = 0 := rfl
  have cs2 : (⟨#[58, 47, 47]⟩ : ByteArray).size = 3 := rfl
  have cs3 : (⟨#[58]⟩ : ByteArray).size = 1 := rfl
  have c1 : (⟨#[]⟩ : ByteArray).size + 3 ≤ 9223372036854775807 := by (try simp only [ByteArray.size_append, cs1, cs2, cs3]); omega
  have c2 : ((⟨#[]⟩ : ByteArray) ++ (⟨#[58, 47, 47]⟩ : ByteArray)).size + host.size ≤ 9223372036854775807 := by (try simp only [ByteArray.size_append, cs1, cs2, cs3]); omega
  have c3 : 1 + (itoaB p).size ≤ 9223372036854775807 := by (try simp only [ByteArray.size_append, cs1, cs2, cs3]); omega
  have c4 : (((⟨#[]⟩ : ByteArray) ++ (⟨#[58, 47, 47]⟩ : ByteArray)) ++ host).size + ((⟨#[58]⟩ : ByteArray) ++ (itoaB p)).size ≤ 9223372036854775807 := by (try simp only [ByteArray.size_append, cs1, cs2, cs3]); omega
  unfold spec_l01Site.f portS
  simp only [if_pos c1, if_pos c2, if_pos c3, if_pos c4]
  by_cases hpos : p > 0
  · simp only [if_pos hpos]
    refine Ev.bind e ?_
    simp only [if_pos c1, if_pos c2, if_pos c3, if_pos c4]
    rw [← b_assoc _ host]
    exact Ev.now _
  · simp only [if_neg hpos, b_nil]
    exact Ev.now _
theorem text_impl_j1 (sch user host path q fr : ByteArray) (p : Int) (hq hf : Bool) (hp : path.size ≤ 2000000) (hqs : q.size ≤ 2000000) (hfs : fr.size ≤ 2000000) (x3 : ByteArray) (hx : x3.size ≤ 20000000) : Ev (fun k => impl_Url_text.j1 k x3 sch user host p path q fr hq hf) (tailB hq q hf fr (x3 ++ path)) := by
  have cs1 : (⟨#[63]⟩ : ByteArray).size = 1 := rfl
  have cs2 : (⟨#[35]⟩ : ByteArray).size = 1 := rfl
  have c1 : x3.size + path.size ≤ 9223372036854775807 := by (try simp only [ByteArray.size_append, cs1, cs2]); omega
  have c2 : 1 + q.size ≤ 9223372036854775807 := by (try simp only [ByteArray.size_append, cs1, cs2]); omega
  have c3 : (x3 ++ path).size + ((⟨#[63]⟩ : ByteArray) ++ q).size ≤ 9223372036854775807 := by (try simp only [ByteArray.size_append, cs1, cs2]); omega
  have c4 : 1 + fr.size ≤ 9223372036854775807 := by (try simp only [ByteArray.size_append, cs1, cs2]); omega
  have c5 : ((x3 ++ path) ++ ((⟨#[63]⟩ : ByteArray) ++ q)).size + ((⟨#[35]⟩ : ByteArray) ++ fr).size ≤ 9223372036854775807 := by (try simp only [ByteArray.size_append, cs1, cs2]); omega
  have c6 : (x3 ++ path).size + ((⟨#[35]⟩ : ByteArray) ++ fr).size ≤ 9223372036854775807 := by (try simp only [ByteArray.size_append, cs1, cs2]); omega
  refine Ev.step (f := fun _ => some (tailB hq q hf fr (x3 ++ path))) (fun k => ?_) (Ev.now _)
  rw [impl_Url_text.j1]
  unfold tailB
  cases hq <;> cases hf <;> simp only [Bool.false_eq_true, if_false, if_true, if_pos c1, if_pos c2, if_pos c3, if_pos c4, if_pos c5, if_pos c6]
theorem text_spec_j0 (sch user host path q fr : ByteArray) (p : Int) (hq hf : Bool) (hh : host.size ≤ 2000000) (hp : path.size ≤ 2000000) (hqs : q.size ≤ 2000000) (hfs : fr.size ≤ 2000000) (h0 : -9223372036854775808 ≤ p) (h1 : p ≤ 9223372036854775807) (x3 : ByteArray) (hx : x3.size ≤ 8000000) : Ev (fun k => spec_l01Text.j0 k x3 sch user host p path q fr hq hf) (tailB hq q hf fr (x3 ++ (host ++ portS p ++ path))) := by
  have d := portS_size p h0 h1
  have ex : ((((⟨#[]⟩ : ByteArray) ++ (⟨#[58, 47, 47]⟩ : ByteArray)) ++ (host ++ portS p)).extract 3 (((⟨#[]⟩ : ByteArray) ++ (⟨#[58, 47, 47]⟩ : ByteArray)) ++ (host ++ portS p)).size) = host ++ portS p := b_extract _ _ 3 rfl
  have g3 : (3 : Int) ≤ ((((⟨#[]⟩ : ByteArray) ++ (⟨#[58, 47, 47]⟩ : ByteArray)) ++ (host ++ portS p)).size : Int) := by simp only [ByteArray.size_append, c3_size, c0_size]; omega
  have cs1 : (⟨#[63]⟩ : ByteArray).size = 1 := rfl
  have cs2 : (⟨#[35]⟩ : ByteArray).size = 1 := rfl
  have c1 : (host ++ portS p).size + path.size ≤ 9223372036854775807 := by (try simp only [ByteArray.size_append, cs1, cs2]); omega
  have c2 : x3.size + ((host ++ portS p) ++ path).size ≤ 9223372036854775807 := by (try simp only [ByteArray.size_append, cs1, cs2]); omega
  have c3 : 1 + q.size ≤ 9223372036854775807 := by (try simp only [ByteArray.size_append, cs1, cs2]); omega
  have c4 : (x3 ++ ((host ++ portS p) ++ path)).size + ((⟨#[63]⟩ : ByteArray) ++ q).size ≤ 9223372036854775807 := by (try simp only [ByteArray.size_append, cs1, cs2]); omega
  have c5 : 1 + fr.size ≤ 9223372036854775807 := by (try simp only [ByteArray.size_append, cs1, cs2]); omega
  have c6 : ((x3 ++ ((host ++ portS p) ++ path)) ++ ((⟨#[63]⟩ : ByteArray) ++ q)).size + ((⟨#[35]⟩ : ByteArray) ++ fr).size ≤ 9223372036854775807 := by (try simp only [ByteArray.size_append, cs1, cs2]); omega
  have c7 : (x3 ++ ((host ++ portS p) ++ path)).size + ((⟨#[35]⟩ : ByteArray) ++ fr).size ≤ 9223372036854775807 := by (try simp only [ByteArray.size_append, cs1, cs2]); omega
  refine Ev.step (f := fun k => spec_l01Text.j0 (k + 1) x3 sch user host p path q fr hq hf) (fun k => rfl) ?_
  simp only [spec_l01Text.j0]
  refine Ev.bind (site_spec host p hh h0 h1) ?_
  simp only [if_pos g3, ex, if_pos c1, if_pos c2, if_pos c3, if_pos c4, if_pos c5, if_pos c6, if_pos c7]
  unfold tailB
  cases hq <;> cases hf <;> simp only [Bool.false_eq_true, if_false, if_true, if_pos c1, if_pos c2, if_pos c3, if_pos c4, if_pos c5, if_pos c6, if_pos c7] <;> exact Ev.now _
theorem text_impl_j0 (sch user host path q fr : ByteArray) (p : Int) (hq hf : Bool) (hh : host.size ≤ 2000000) (hp : path.size ≤ 2000000) (hqs : q.size ≤ 2000000) (hfs : fr.size ≤ 2000000) (h0 : -9223372036854775808 ≤ p) (h1 : p ≤ 9223372036854775807) (x3 : ByteArray) (hx : x3.size ≤ 8000000) : Ev (fun k => impl_Url_text.j0 k x3 sch user host p path q fr hq hf) (tailB hq q hf fr (x3 ++ (host ++ portI p ++ path))) := by
  have d := itoaB_size p h0 h1
  have cs1 : (⟨#[58]⟩ : ByteArray).size = 1 := rfl
  have c1 : x3.size + host.size ≤ 9223372036854775807 := by (try simp only [ByteArray.size_append, cs1]); omega
  have c2 : 1 + (itoaB p).size ≤ 9223372036854775807 := by (try simp only [ByteArray.size_append, cs1]); omega
  have c3 : (x3 ++ host).size + ((⟨#[58]⟩ : ByteArray) ++ (itoaB p)).size ≤ 9223372036854775807 := by (try simp only [ByteArray.size_append, cs1]); omega
  by_cases z : p = 0
  · refine Ev.step (f := fun k => impl_Url_text.j1 k (x3 ++ host) sch user host p path q fr hq hf) (fun k => ?_) ?_
    · rw [impl_Url_text.j0]; simp only [if_pos z, if_pos c1, if_pos c2, if_pos c3]
    · have := text_impl_j1 sch user host path q fr p hq hf hp hqs hfs (x3 ++ host) (by rw [ByteArray.size_append]; omega)
      unfold portI
      rw [if_pos z, b_nil, ← b_assoc]
      exact this
  · refine Ev.step (f := fun k => impl_Url_text.j1 k (x3 ++ host ++ ((⟨#[58]⟩ : ByteArray) ++ itoaB p)) sch user host p path q fr hq hf) (fun k => ?_) ?_
    · rw [impl_Url_text.j0]; simp only [if_neg z, decimal_is p h0 h1, Option.bind_some, if_pos c1, if_pos c2, if_pos c3]
    · have := text_impl_j1 sch user host path q fr p hq hf hp hqs hfs (x3 ++ host ++ ((⟨#[58]⟩ : ByteArray) ++ itoaB p)) (by simp only [ByteArray.size_append, c1_size]; omega)
      unfold portI
      rw [if_neg z, ← b_assoc x3, ← b_assoc x3]
      exact this
section
variable (sch user host path q fr : ByteArray) (p : Int) (hq hf : Bool) (hs : sch.size ≤ 2000000) (hu : user.size ≤ 2000000) (hh : host.size ≤ 2000000) (hp : path.size ≤ 2000000) (hqs : q.size ≤ 2000000) (hfs : fr.size ≤ 2000000) (h0 : -9223372036854775808 ≤ p) (h1 : p ≤ 9223372036854775807)
include hs hu hh hp hqs hfs h0 h1
theorem text_spec : Ev (fun k => spec_l01Text.f k sch user host p path q fr hq hf) (urlT sch user host (portS p) path q fr hq hf) := by
  have cs1 : (⟨#[58, 47, 47]⟩ : ByteArray).size = 3 := rfl
  have cs2 : (⟨#[64]⟩ : ByteArray).size = 1 := rfl
  have cs3 : (⟨#[58]⟩ : ByteArray).size = 1 := rfl
  have c1 : sch.size + 3 ≤ 9223372036854775807 := by (try simp only [ByteArray.size_append, cs1, cs2, cs3]); omega
  have c2 : user.size + 1 ≤ 9223372036854775807 := by (try simp only [ByteArray.size_append, cs1, cs2, cs3]); omega
  have c3 : (sch ++ (⟨#[58, 47, 47]⟩ : ByteArray)).size + (user ++ (⟨#[64]⟩ : ByteArray)).size ≤ 9223372036854775807 := by (try simp only [ByteArray.size_append, cs1, cs2, cs3]); omega
  have c4 : sch.size + 1 ≤ 9223372036854775807 := by (try simp only [ByteArray.size_append, cs1, cs2, cs3]); omega
  have c5 : (sch ++ (⟨#[58]⟩ : ByteArray)).size + path.size ≤ 9223372036854775807 := by (try simp only [ByteArray.size_append, cs1, cs2, cs3]); omega
  unfold spec_l01Text.f urlT
  rw [web_spec]
  simp only [Option.bind_some]
  by_cases w : webB sch = true
  · simp only [if_pos w, if_pos c1, if_pos c2, if_pos c3, if_pos c4, if_pos c5]
    unfold headB
    by_cases u : user.toList = ([] : List UInt8)
    · simp only [if_pos u]
      exact text_spec_j0 sch user host path q fr p hq hf hh hp hqs hfs h0 h1 _ (by simp only [ByteArray.size_append, c3_size]; omega)
    · simp only [if_neg u, if_pos c1, if_pos c2, if_pos c3, if_pos c4, if_pos c5]
      exact text_spec_j0 sch user host path q fr p hq hf hh hp hqs hfs h0 h1 _ (by simp only [ByteArray.size_append, c3_size, c1_size]; omega)
  · simp only [if_neg w, if_pos c1, if_pos c2, if_pos c3, if_pos c4, if_pos c5]
    exact Ev.now _
theorem text_impl : Ev (fun k => impl_Url_text.f k sch user host p path q fr hq hf) (urlT sch user host (portI p) path q fr hq hf) := by
  have cs1 : (⟨#[58, 47, 47]⟩ : ByteArray).size = 3 := rfl
  have cs2 : (⟨#[64]⟩ : ByteArray).size = 1 := rfl
  have cs3 : (⟨#[58]⟩ : ByteArray).size = 1 := rfl
  have c1 : sch.size + 3 ≤ 9223372036854775807 := by (try simp only [ByteArray.size_append, cs1, cs2, cs3]); omega
  have c2 : user.size + 1 ≤ 9223372036854775807 := by (try simp only [ByteArray.size_append, cs1, cs2, cs3]); omega
  have c3 : (sch ++ (⟨#[58, 47, 47]⟩ : ByteArray)).size + (user ++ (⟨#[64]⟩ : ByteArray)).size ≤ 9223372036854775807 := by (try simp only [ByteArray.size_append, cs1, cs2, cs3]); omega
  have c4 : sch.size + 1 ≤ 9223372036854775807 := by (try simp only [ByteArray.size_append, cs1, cs2, cs3]); omega
  have c5 : (sch ++ (⟨#[58]⟩ : ByteArray)).size + path.size ≤ 9223372036854775807 := by (try simp only [ByteArray.size_append, cs1, cs2, cs3]); omega
  unfold impl_Url_text.f urlT
  rw [web_impl]
  simp only [Option.bind_some]
  by_cases w : webB sch = true
  · simp only [if_pos w, if_pos c1, if_pos c2, if_pos c3, if_pos c4, if_pos c5]
    unfold headB
    by_cases u : user.toList = ([] : List UInt8)
    · simp only [if_pos u]
      exact text_impl_j0 sch user host path q fr p hq hf hh hp hqs hfs h0 h1 _ (by simp only [ByteArray.size_append, c3_size]; omega)
    · simp only [if_neg u, if_pos c1, if_pos c2, if_pos c3, if_pos c4, if_pos c5]
      exact text_impl_j0 sch user host path q fr p hq hf hh hp hqs hfs h0 h1 _ (by simp only [ByteArray.size_append, c3_size, c1_size]; omega)
  · simp only [if_neg w, if_pos c1, if_pos c2, if_pos c3, if_pos c4, if_pos c5]
    exact Ev.now _
end

def shownB (s : ByteArray) : Bool := s.data.toList.all goodB
theorem toList_data (s : ByteArray) : s.toList = s.data.toList := ByteArray.toList_eq s
theorem emptyB (s : ByteArray) : (s.toList = ([] : List UInt8)) ↔ s.size = 0 := by
  rw [toList_data, size_len]; exact List.length_eq_zero_iff.symm
theorem beq_nil (s : ByteArray) : (s.toList == ([] : List UInt8)) = decide (s.size = 0) := by
  by_cases h : s.size = 0
  · rw [decide_eq_true h, beq_iff_eq]; exact (emptyB s).2 h
  · rw [decide_eq_false h, beq_eq_false_iff_ne]; exact fun c => h ((emptyB s).1 c)
theorem usual_spec (s : ByteArray) : ∃ u : Int, spec_l01Usual.f s = some u ∧ impl_usual.f s = some u := by
  unfold spec_l01Usual.f impl_usual.f
  by_cases h : s.toList = ([104, 116, 116, 112] : List UInt8)
  · exact ⟨80, by rw [if_pos h], by rw [if_pos h]⟩
  · exact ⟨443, by rw [if_neg h], by rw [if_neg h]⟩
theorem prefix_is (s : ByteArray) (hs : s.size ≤ 2000000) : strings_HasPrefix.f s (⟨#[47]⟩ : ByteArray) = some (decide (0 < s.size) && (bt s 0 == 47)) := by
  have c1 : (⟨#[47]⟩ : ByteArray).size = 1 := rfl
  unfold strings_HasPrefix.f stringslite_HasPrefix.f
  rw [c1]
  by_cases h : 0 < s.size
  · rw [if_pos (by omega), if_pos (by omega), if_pos (by omega)]
    simp only [Option.bind_some, decide_eq_true h, Bool.true_and]
    congr 1
    have e1 : (s.extract 0 (((1 : Nat) : Int)).toNat).toList = [s.data.toList[0]'(by rw [← size_len]; exact h)] := by
      rw [toList_data, ByteArray.data_extract, Array.toList_extract, List.extract_eq_take_drop]
      show (s.data.toList.drop 0).take 1 = _
      rw [List.drop_zero, List.take_one, List.head?_eq_getElem?, List.getElem?_eq_getElem (by rw [← size_len]; exact h)]
      rfl
    have e2 : (⟨#[47]⟩ : ByteArray).toList = [47] := by rw [toList_data]
    have e3 : bt s 0 = ((s.data.toList[0]'(by rw [← size_len]; exact h)).toNat : Int) := by
      have : s.data.toList.drop 0 = (s.data.toList[0]'(by rw [← size_len]; exact h)) :: s.data.toList.drop 1 := List.drop_eq_getElem_cons (by rw [← size_len]; exact h)
      exact (drop_cons this).2.1
    rw [e1, e2, e3]
    generalize s.data.toList[0]'(by rw [← size_len]; exact h) = b
    by_cases hb : b = 47
    · subst hb; rfl
    · have n1 : ([b] == ([47] : List UInt8)) = false := by rw [beq_eq_false_iff_ne]; intro c; apply hb; simpa using c
      have n2 : ((b.toNat : Int) == 47) = false := by
        rw [beq_eq_false_iff_ne]; intro c; apply hb; apply UInt8.toNat_inj.1; show b.toNat = 47; omega
      rw [n1, n2]
  · rw [if_neg (by omega)]
    simp [h]
theorem hash_is (s : ByteArray) (hg : shownB s = true) : strings_Contains.f s (⟨#[35]⟩ : ByteArray) = some (!onlyB s.data.toList (⟨#[35]⟩ : ByteArray).data.toList) := by
  unfold strings_Contains.f
  rw [if_pos (show (⟨#[35]⟩ : ByteArray).size = 1 from rfl)]
  congr 1
  have e : (⟨#[35]⟩ : ByteArray).data.toList.getD 0 0 = 35 := rfl
  rw [e, ← Lib.contains_iff_indexByte, only_split, show s.data.toList.all goodB = true from hg, Bool.true_and, Bool.not_not, containsAny_eq]
  show s.data.toList.contains 35 = s.data.toList.any fun b => [35].contains b
  rw [List.contains_eq_any_beq]
  congr 1
  funext b
  rw [List.contains_cons, List.contains_nil, Bool.or_false]
  exact BEq.comm
theorem all_append (a b : ByteArray) : shownB (a ++ b) = (shownB a && shownB b) := by
  unfold shownB
  rw [ByteArray.data_append, Array.toList_append, List.all_append]
/-- What both come to. -/
def urlB (sch user host : ByteArray) (p : Int) (path q fr : ByteArray) (hq hf : Bool) (u : Int) : Bool :=
  (inB (sch.size : Int) 1 12 && schemeB true sch.data.toList) && ((hq || decide (q.size = 0)) && ((hf || decide (fr.size = 0)) && (onlyB path.data.toList [63, 35] && (onlyB q.data.toList [35] && (onlyB fr.data.toList [] && (decide ((urlT sch user host (portS p) path q fr hq hf).size ≤ 100) &&
    (if webB sch = true then onlyB user.data.toList [47, 63, 35, 64] && (hostB true host.data.toList && (inB p 0 65535 && (!decide (p = u) && (decide (0 < path.size) && (bt path 0 == 47))))) else decide (user.size = 0) && (decide (host.size = 0) && (decide (p = 0) && (!hq && !hf))))))))))
section
variable (sch user host path q fr : ByteArray) (p : Int) (hq hf : Bool) (hs : sch.size ≤ 1048576) (hu : user.size ≤ 1048576) (hh : host.size ≤ 1048576) (hp : path.size ≤ 1048576) (hqs : q.size ≤ 1048576) (hfs : fr.size ≤ 1048576) (h0 : -9223372036854775808 ≤ p) (h1 : p ≤ 9223372036854775807)
include hs hu hh hp hqs hfs h0 h1
theorem url_spec (u : Int) (hus : spec_l01Usual.f sch = some u) : Ev (fun k => spec_l01OK.f k sch user host p path q fr hq hf) (urlB sch user host p path q fr hq hf u) := by
  have t := text_spec sch user host path q fr p hq hf (by omega) (by omega) (by omega) (by omega) (by omega) (by omega) h0 h1
  have o1 := only_spec path (⟨#[63, 35]⟩ : ByteArray) (by omega) (by decide)
  have o2 := only_spec q (⟨#[35]⟩ : ByteArray) (by omega) (by decide)
  have o3 := only_spec fr (⟨#[]⟩ : ByteArray) (by omega) (by decide)
  have o4 := only_spec user (⟨#[47, 63, 35, 64]⟩ : ByteArray) (by omega) (by decide)
  have sc := scheme_spec sch (by omega)
  have ho := host_spec host (by omega)
  have dead : ∀ r : Bool, r = false → Ev (fun k => spec_l01OK.j0 k true sch user host p path q fr hq hf) r := fun r hr => by
    subst hr
    exact Ev.step (f := fun _ => some false) (fun k => by rw [spec_l01OK.j0]; simp) (Ev.now _)
  -- behind the text
  have last : ∀ r : Bool, r = (decide ((urlT sch user host (portS p) path q fr hq hf).size ≤ 100) && (if webB sch = true then onlyB user.data.toList [47, 63, 35, 64] && (hostB true host.data.toList && (inB p 0 65535 && (!decide (p = u) && (decide (0 < path.size) && (bt path 0 == 47))))) else decide (user.size = 0) && (decide (host.size = 0) && (decide (p = 0) && (!hq && !hf))))) →
      Ev (fun k => spec_l01OK.j0 k (decide (((urlT sch user host (portS p) path q fr hq hf).size : Int) > 100)) sch user host p path q fr hq hf) r := fun r hr => by
    by_cases hlen : (urlT sch user host (portS p) path q fr hq hf).size ≤ 100
    · rw [decide_eq_true hlen, Bool.true_and] at hr
      rw [show decide (((urlT sch user host (portS p) path q fr hq hf).size : Int) > 100) = false from decide_eq_false (by omega)]
      refine Ev.step (f := fun k => spec_l01OK.j0 (k + 1) false sch user host p path q fr hq hf) (fun k => rfl) ?_
      simp only [spec_l01OK.j0, Bool.false_eq_true, if_false, web_spec, Option.bind_some]
      by_cases w : webB sch = true
      · simp only [if_pos w] at hr ⊢
        refine Ev.bind o4 ?_
        cases hx : onlyB user.data.toList [47, 63, 35, 64]
        · rw [hx] at hr
          subst hr
          have : onlyB user.data.toList (⟨#[47, 63, 35, 64]⟩ : ByteArray).data.toList = false := hx
          simp only [this, Bool.false_eq_true, if_false, Bool.false_and]; exact Ev.now _
        · rw [hx, Bool.true_and] at hr
          have : onlyB user.data.toList (⟨#[47, 63, 35, 64]⟩ : ByteArray).data.toList = true := hx
          simp only [this, if_true]
          refine Ev.bind ho ?_
          cases hy : hostB true host.data.toList
          · rw [hy] at hr; subst hr
            simp only [Bool.false_eq_true, if_false, Bool.false_and]; exact Ev.now _
          · rw [hy, Bool.true_and] at hr
            simp only [if_true, in_is, Option.bind_some, hus]
            cases hz : inB p 0 65535
            · rw [hz] at hr; subst hr
              simp only [Bool.false_eq_true, if_false, Bool.false_and]; exact Ev.now _
            · rw [hz, Bool.true_and] at hr
              simp only [if_true]
              by_cases e : p = u
              · rw [decide_eq_true e] at hr; subst hr
                simp only [if_pos e, Bool.not_true, Bool.false_and]; exact Ev.now _
              · rw [decide_eq_false e, Bool.not_false, Bool.true_and] at hr
                simp only [if_neg e]
                by_cases l : 0 < path.size
                · rw [decide_eq_true l, Bool.true_and] at hr; subst hr
                  have l1 : (path.size : Int) > 0 := by omega
                  have l2 : 0 < (path.size : Int) := by omega
                  simp only [if_pos l1, if_pos l2]; exact Ev.now _
                · rw [decide_eq_false l, Bool.false_and] at hr; subst hr
                  have l1 : ¬ (path.size : Int) > 0 := by omega
                  simp only [if_neg l1]; exact Ev.now _
      · simp only [if_neg w] at hr ⊢
        simp only [emptyB]
        by_cases a : user.size = 0
        · simp only [if_pos a, decide_eq_true a, Bool.true_and] at hr ⊢
          by_cases b : host.size = 0
          · simp only [if_pos b, decide_eq_true b, Bool.true_and] at hr ⊢
            by_cases c : p = 0
            · simp only [if_pos c, decide_eq_true c, Bool.true_and] at hr ⊢
              subst hr
              cases hq <;> simp only [Bool.false_eq_true, if_false, if_true, Bool.not_true, Bool.not_false, Bool.true_and, Bool.false_and] <;> exact Ev.now _
            · simp only [if_neg c, decide_eq_false c, Bool.false_and] at hr ⊢
              subst hr; exact Ev.now _
          · simp only [if_neg b, decide_eq_false b, Bool.false_and] at hr ⊢
            subst hr; exact Ev.now _
        · simp only [if_neg a, decide_eq_false a, Bool.false_and] at hr ⊢
          subst hr; exact Ev.now _
    · rw [decide_eq_false hlen, Bool.false_and] at hr
      rw [show decide (((urlT sch user host (portS p) path q fr hq hf).size : Int) > 100) = true from decide_eq_true (by omega)]
      exact dead r hr
  -- the three parts that are shown
  have mid : ∀ r : Bool, r = (onlyB path.data.toList [63, 35] && (onlyB q.data.toList [35] && (onlyB fr.data.toList [] && (decide ((urlT sch user host (portS p) path q fr hq hf).size ≤ 100) && (if webB sch = true then onlyB user.data.toList [47, 63, 35, 64] && (hostB true host.data.toList && (inB p 0 65535 && (!decide (p = u) && (decide (0 < path.size) && (bt path 0 == 47))))) else decide (user.size = 0) && (decide (host.size = 0) && (decide (p = 0) && (!hq && !hf)))))))) →
      Ev (fun k => (spec_l01Only.f k path (⟨#[63, 35]⟩ : ByteArray)).bind fun t1 => (if t1 = true then ((spec_l01Only.f k q (⟨#[35]⟩ : ByteArray)).bind fun t2 => (if t2 = true then ((spec_l01Only.f k fr (⟨#[]⟩ : ByteArray)).bind fun t3 => (if t3 = true then ((spec_l01Text.f k sch user host p path q fr hq hf).bind fun t4 => (spec_l01OK.j0 k (decide ((t4.size : Int) > 100)) sch user host p path q fr hq hf)) else (spec_l01OK.j0 k true sch user host p path q fr hq hf))) else (spec_l01OK.j0 k true sch user host p path q fr hq hf))) else (spec_l01OK.j0 k true sch user host p path q fr hq hf))) r := fun r hr => by
    refine Ev.bind o1 ?_
    have e1 : onlyB path.data.toList (⟨#[63, 35]⟩ : ByteArray).data.toList = onlyB path.data.toList [63, 35] := rfl
    have e2 : onlyB q.data.toList (⟨#[35]⟩ : ByteArray).data.toList = onlyB q.data.toList [35] := rfl
    have e3 : onlyB fr.data.toList (⟨#[]⟩ : ByteArray).data.toList = onlyB fr.data.toList [] := rfl
    rw [e1]
    cases x1 : onlyB path.data.toList [63, 35]
    · rw [x1, Bool.false_and] at hr
      simp only [Bool.false_eq_true, if_false]; exact dead r hr
    · rw [x1, Bool.true_and] at hr
      simp only [if_true]
      refine Ev.bind o2 ?_
      rw [e2]
      cases x2 : onlyB q.data.toList [35]
      · rw [x2, Bool.false_and] at hr
        simp only [Bool.false_eq_true, if_false]; exact dead r hr
      · rw [x2, Bool.true_and] at hr
        simp only [if_true]
        refine Ev.bind o3 ?_
        rw [e3]
        cases x3 : onlyB fr.data.toList []
        · rw [x3, Bool.false_and] at hr
          simp only [Bool.false_eq_true, if_false]; exact dead r hr
        · rw [x3, Bool.true_and] at hr
          simp only [if_true]
          exact Ev.bind t (last r hr)
  unfold spec_l01OK.f urlB
  refine Ev.bind sc ?_
  cases inB (sch.size : Int) 1 12 && schemeB true sch.data.toList
  · simp only [Bool.false_eq_true, if_false, Bool.false_and]; exact dead _ rfl
  simp only [if_true, Bool.true_and, emptyB]
  cases hq
  · simp only [Bool.false_eq_true, if_false, Bool.false_or]
    by_cases z : q.size = 0
    · simp only [if_pos z, decide_eq_true z, Bool.true_and]
      cases hf
      · simp only [Bool.false_eq_true, if_false, Bool.false_or]
        by_cases y : fr.size = 0
        · simp only [if_pos y, decide_eq_true y, Bool.true_and]; exact mid _ rfl
        · simp only [if_neg y, decide_eq_false y, Bool.false_and]; exact dead _ rfl
      · simp only [if_true, Bool.true_or, Bool.true_and]; exact mid _ rfl
    · simp only [if_neg z, decide_eq_false z, Bool.false_and]; exact dead _ rfl
  · simp only [if_true, Bool.true_or, Bool.true_and]
    cases hf
    · simp only [Bool.false_eq_true, if_false, Bool.false_or]
      by_cases y : fr.size = 0
      · simp only [if_pos y, decide_eq_true y, Bool.true_and]; exact mid _ rfl
      · simp only [if_neg y, decide_eq_false y, Bool.false_and]; exact dead _ rfl
    · simp only [if_true, Bool.true_or, Bool.true_and]; exact mid _ rfl
/-- What the program comes to. -/
def implB (sch user host : ByteArray) (p : Int) (path q fr : ByteArray) (hq hf : Bool) (u : Int) : Bool :=
  (inB (sch.size : Int) 1 12 && schemeB true sch.data.toList) && (decide (user.size + host.size + path.size + q.size + fr.size ≤ 100) && (decide ((urlT sch user host (portI p) path q fr hq hf).size ≤ 100) && ((shownB user && shownB host && shownB path && shownB q && shownB fr) && (onlyB path.data.toList [63, 35] &&
    (if webB sch = true then onlyB user.data.toList [47, 63, 35, 64] && (hostB true host.data.toList && (inB p 0 65535 && (!decide (p = u) && ((decide (0 < path.size) && (bt path 0 == 47)) && (onlyB q.data.toList [35] && ((hq || decide (q.size = 0)) && (hf || decide (fr.size = 0)))))))) else decide (user.size = 0) && (decide (host.size = 0) && (decide (p = 0) && (decide (q.size = 0) && (decide (fr.size = 0) && (!hq && !hf))))))))))
theorem url_impl (u : Int) (hus : impl_usual.f sch = some u) : Ev (fun k => impl_UrlOK.f k sch user host p path q fr hq hf) (implB sch user host p path q fr hq hf u) := by
  have t := text_impl sch user host path q fr p hq hf (by omega) (by omega) (by omega) (by omega) (by omega) (by omega) h0 h1
  have sc := scheme_impl sch (by omega)
  have ho := host_impl host (by omega)
  have dead : ∀ r : Bool, r = false → Ev (fun k => impl_UrlOK.j0 k true sch user host p path q fr hq hf) r := fun r hr => by
    subst hr
    exact Ev.step (f := fun _ => some false) (fun k => by rw [impl_UrlOK.j0]; simp) (Ev.now _)
  have last : (shownB user && shownB host && shownB path && shownB q && shownB fr) = true → ∀ r : Bool, r = (onlyB path.data.toList [63, 35] &&
    (if webB sch = true then onlyB user.data.toList [47, 63, 35, 64] && (hostB true host.data.toList && (inB p 0 65535 && (!decide (p = u) && ((decide (0 < path.size) && (bt path 0 == 47)) && (onlyB q.data.toList [35] && ((hq || decide (q.size = 0)) && (hf || decide (fr.size = 0)))))))) else decide (user.size = 0) && (decide (host.size = 0) && (decide (p = 0) && (decide (q.size = 0) && (decide (fr.size = 0) && (!hq && !hf))))))) →
      Ev (fun k => impl_UrlOK.j0 k false sch user host p path q fr hq hf) r := fun hsh r hr => by
    simp only [Bool.and_eq_true] at hsh
    obtain ⟨⟨⟨⟨g1, g2⟩, g3⟩, g4⟩, g5⟩ := hsh
    have ca1 := contains_impl path (⟨#[63, 35]⟩ : ByteArray) (by omega) (by decide) g3 (by decide)
    have ca2 := contains_impl user (⟨#[47, 63, 35, 64]⟩ : ByteArray) (by omega) (by decide) g1 (by decide)
    have ca3 := hash_is q g4
    have px := prefix_is path (by omega)
    have e1 : onlyB path.data.toList (⟨#[63, 35]⟩ : ByteArray).data.toList = onlyB path.data.toList [63, 35] := rfl
    have e2 : onlyB user.data.toList (⟨#[47, 63, 35, 64]⟩ : ByteArray).data.toList = onlyB user.data.toList [47, 63, 35, 64] := rfl
    have e3 : onlyB q.data.toList (⟨#[35]⟩ : ByteArray).data.toList = onlyB q.data.toList [35] := rfl
    rw [e1] at ca1
    rw [e2] at ca2
    rw [e3] at ca3
    refine Ev.step (f := fun k => impl_UrlOK.j0 (k + 1) false sch user host p path q fr hq hf) (fun k => rfl) ?_
    simp only [impl_UrlOK.j0, Bool.false_eq_true, if_false, ca1, web_impl, Option.bind_some]
    cases x1 : onlyB path.data.toList [63, 35]
    · rw [x1, Bool.false_and] at hr; subst hr
      simp only [Bool.not_false, if_true]; exact Ev.now _
    rw [x1, Bool.true_and] at hr
    simp only [Bool.not_true, Bool.false_eq_true, if_false]
    by_cases w : webB sch = true
    · simp only [if_pos w] at hr ⊢
      simp only [ca2, Option.bind_some]
      cases x2 : onlyB user.data.toList [47, 63, 35, 64]
      · rw [x2, Bool.false_and] at hr; subst hr
        simp only [Bool.not_false, if_true]; exact Ev.now _
      rw [x2, Bool.true_and] at hr
      simp only [Bool.not_true, Bool.false_eq_true, if_false]
      refine Ev.bind ho ?_
      cases x3 : hostB true host.data.toList
      · rw [x3, Bool.false_and] at hr; subst hr
        simp only [Bool.false_eq_true, if_false]; exact Ev.now _
      rw [x3, Bool.true_and] at hr
      simp only [if_true, within_is, Option.bind_some, hus]
      cases x4 : inB p 0 65535
      · rw [x4, Bool.false_and] at hr; subst hr
        simp only [Bool.false_eq_true, if_false]; exact Ev.now _
      rw [x4, Bool.true_and] at hr
      simp only [if_true]
      by_cases e : p = u
      · rw [decide_eq_true e, Bool.not_true, Bool.false_and] at hr; subst hr
        simp only [if_pos e]; exact Ev.now _
      rw [decide_eq_false e, Bool.not_false, Bool.true_and] at hr
      simp only [if_neg e, px, Option.bind_some]
      cases x5 : (decide (0 < path.size) && (bt path 0 == 47))
      · rw [x5, Bool.false_and] at hr; subst hr
        simp only [Bool.false_eq_true, if_false]; exact Ev.now _
      rw [x5, Bool.true_and] at hr
      simp only [if_true, ca3, Option.bind_some]
      cases x6 : onlyB q.data.toList [35]
      · rw [x6, Bool.false_and] at hr; subst hr
        simp only [Bool.not_false, if_true]; exact Ev.now _
      rw [x6, Bool.true_and] at hr
      simp only [Bool.not_true, Bool.false_eq_true, if_false, emptyB, beq_nil]
      cases hq
      · simp only [Bool.false_eq_true, if_false]
        by_cases z : q.size = 0
        · rw [decide_eq_true z] at hr
          simp only [if_pos z]
          cases hf
          · simp only [Bool.false_eq_true, if_false]; simp only [Bool.or_true, Bool.true_and, Bool.false_or] at hr; subst hr; exact Ev.now _
          · simp only [if_true]; simp only [Bool.or_true, Bool.true_and, Bool.true_or] at hr; subst hr; exact Ev.now _
        · rw [decide_eq_false z] at hr
          simp only [if_neg z]; simp only [Bool.or_self, Bool.false_and] at hr; subst hr; exact Ev.now _
      · simp only [if_true]
        cases hf
        · simp only [Bool.false_eq_true, if_false]; simp only [Bool.true_or, Bool.true_and, Bool.false_or] at hr; subst hr; exact Ev.now _
        · simp only [if_true]; simp only [Bool.true_or, Bool.true_and] at hr; subst hr; exact Ev.now _
    · simp only [if_neg w] at hr ⊢
      simp only [beq_nil]
      have e0 : (p == 0) = decide (p = 0) := rfl
      rw [e0]
      subst hr; exact Ev.now _
  have total : wrap64 ((wrap64 ((wrap64 ((wrap64 ((user.size : Int) + (host.size : Int))) + (path.size : Int))) + (q.size : Int))) + (fr.size : Int)) = ((user.size + host.size + path.size + q.size + fr.size : Nat) : Int) := by
    rw [wr (x := (user.size : Int) + (host.size : Int)) (by omega) (by omega), wr (x := (user.size : Int) + (host.size : Int) + (path.size : Int)) (by omega) (by omega), wr (x := (user.size : Int) + (host.size : Int) + (path.size : Int) + (q.size : Int)) (by omega) (by omega), wr (by omega) (by omega)]
    omega
  unfold impl_UrlOK.f implB
  refine Ev.bind sc ?_
  cases inB (sch.size : Int) 1 12 && schemeB true sch.data.toList
  · simp only [Bool.false_eq_true, if_false, Bool.false_and]; exact dead _ rfl
  simp only [if_true, Bool.true_and, total]
  by_cases s1 : user.size + host.size + path.size + q.size + fr.size ≤ 100
  rotate_left
  · have : ((user.size + host.size + path.size + q.size + fr.size : Nat) : Int) > 100 := by omega
    simp only [if_pos this, decide_eq_false s1, Bool.false_and]; exact dead _ rfl
  have s1' : ¬ ((user.size + host.size + path.size + q.size + fr.size : Nat) : Int) > 100 := by omega
  simp only [if_neg s1', decide_eq_true s1, Bool.true_and]
  refine Ev.bind t ?_
  by_cases s2 : (urlT sch user host (portI p) path q fr hq hf).size ≤ 100
  rotate_left
  · have : ((urlT sch user host (portI p) path q fr hq hf).size : Int) > 100 := by omega
    simp only [if_pos this, decide_eq_false s2, Bool.false_and]; exact dead _ rfl
  have s2' : ¬ ((urlT sch user host (portI p) path q fr hq hf).size : Int) > 100 := by omega
  simp only [if_neg s2', decide_eq_true s2, Bool.true_and]
  have k1 : user.size + host.size ≤ 9223372036854775807 := by omega
  have k2 : (user ++ host).size + path.size ≤ 9223372036854775807 := by simp only [ByteArray.size_append]; omega
  have k3 : ((user ++ host) ++ path).size + q.size ≤ 9223372036854775807 := by simp only [ByteArray.size_append]; omega
  have k4 : (((user ++ host) ++ path) ++ q).size + fr.size ≤ 9223372036854775807 := by simp only [ByteArray.size_append]; omega
  simp only [if_pos k1, if_pos k2, if_pos k3, if_pos k4]
  have sh := shown_impl ((((user ++ host) ++ path) ++ q) ++ fr) (by simp only [ByteArray.size_append]; omega)
  have se : ((((user ++ host) ++ path) ++ q) ++ fr).data.toList.all goodB = (shownB user && shownB host && shownB path && shownB q && shownB fr) := by
    show shownB ((((user ++ host) ++ path) ++ q) ++ fr) = _
    simp only [all_append]
  rw [se] at sh
  refine Ev.bind sh ?_
  cases hx : (shownB user && shownB host && shownB path && shownB q && shownB fr)
  · simp only [Bool.not_false, Bool.false_and]; exact dead _ rfl
  · simp only [Bool.not_true, Bool.true_and]; exact last hx _ rfl
end

theorem shown_of_only {s : ByteArray} {W : List UInt8} (h : onlyB s.data.toList W = true) : shownB s = true := by
  rw [only_split] at h
  simp only [Bool.and_eq_true] at h
  exact h.1
theorem shown_empty {s : ByteArray} (h : s.size = 0) : shownB s = true := by
  have : s.data.toList = [] := by rw [size_len] at h; exact List.length_eq_zero_iff.1 h
  unfold shownB; rw [this]; rfl
theorem only_empty {s : ByteArray} (W : List UInt8) (h : s.size = 0) : onlyB s.data.toList W = true := by
  have : s.data.toList = [] := by rw [size_len] at h; exact List.length_eq_zero_iff.1 h
  rw [this]; rfl
theorem only_nil {s : ByteArray} (h : shownB s = true) : onlyB s.data.toList [] = true := by
  have e : (s.data.toList.any fun b => ([] : List UInt8).contains b) = false := by rw [List.any_eq_false]; intro x _; simp
  rw [only_split, containsAny_eq, e, show s.data.toList.all goodB = true from h]; rfl
theorem host_good : ∀ (l : List UInt8) (last : Bool), hostB last l = true → l.all goodB = true
  | [], _, _ => rfl
  | b :: l, last, h => by
    rw [hostB] at h
    rw [List.all_cons]
    by_cases a : lowB b = true ∨ digB b = true
    · rw [if_pos a] at h
      have g : goodB b = true := by
        rcases a with a | a <;> simp [lowB, digB, goodB] at a ⊢ <;> omega
      rw [g, host_good l false h]; rfl
    · rw [if_neg a] at h
      by_cases hl : last = true
      · rw [if_pos hl] at h; cases h
      · rw [if_neg hl] at h
        by_cases sp : sepB b = true
        · rw [if_pos sp] at h
          have g : goodB b = true := by simp [sepB] at sp; simp [goodB]; omega
          rw [g, host_good l true h]; rfl
        · rw [if_neg sp] at h; cases h
theorem tail_size (hq : Bool) (q : ByteArray) (hf : Bool) (fr x : ByteArray) : x.size ≤ (tailB hq q hf fr x).size ∧ (hq = true → x.size + q.size ≤ (tailB hq q hf fr x).size) ∧ (hf = true → x.size + fr.size ≤ (tailB hq q hf fr x).size) ∧ (hq = true → hf = true → x.size + q.size + fr.size ≤ (tailB hq q hf fr x).size) := by
  unfold tailB
  cases hq <;> cases hf <;> simp only [Bool.false_eq_true, if_false, if_true, ByteArray.size_append, c1_size, false_implies, true_implies, and_true, true_and] <;> omega
theorem head_size (sch user : ByteArray) : sch.size + user.size ≤ (headB sch user).size := by
  unfold headB
  by_cases h : user.toList = ([] : List UInt8)
  · rw [if_pos h]
    have := (emptyB user).1 h
    simp only [ByteArray.size_append]; omega
  · rw [if_neg h]
    simp only [ByteArray.size_append]; omega
theorem ports_eq {p : Int} (h : 0 ≤ p) : portI p = portS p := by
  unfold portI portS
  by_cases z : p = 0
  · rw [if_pos z, if_neg (by omega)]
  · rw [if_neg z, if_pos (by omega)]
theorem url_eq (sch user host : ByteArray) (p : Int) (path q fr : ByteArray) (hq hf : Bool) (u : Int) : urlB sch user host p path q fr hq hf u = implB sch user host p path q fr hq hf u := by
  apply Bool.eq_iff_iff.2
  unfold urlB implB
  by_cases w : webB sch = true
  · simp only [if_pos w, Bool.and_eq_true, Bool.or_eq_true, decide_eq_true_eq]
    have ts := fun P => tail_size hq q hf fr (headB sch user ++ (host ++ P ++ path))
    have hs := head_size sch user
    constructor
    · rintro ⟨h1, h2, h3, h4, h5, h6, h7, h8, h9, h10, h11, h12, h13⟩
      have hp0 : 0 ≤ p := by simp [inB] at h10; exact h10.1
      rw [ports_eq hp0]
      have h7' := h7
      unfold urlT at h7'
      rw [if_pos w] at h7'
      have t := ts (portS p)
      simp only [ByteArray.size_append] at t
      refine ⟨h1, ?_, h7, ⟨⟨⟨⟨shown_of_only h8, host_good _ _ h9⟩, shown_of_only h4⟩, shown_of_only h5⟩, shown_of_only h6⟩, h4, h8, h9, h10, h11, ⟨h12, h13⟩, h5, h2, h3⟩
      rcases h2 with h2 | h2 <;> rcases h3 with h3 | h3
      · have := t.2.2.2 h2 h3; omega
      · have := t.2.1 h2; omega
      · have := t.2.2.1 h3; omega
      · have := t.1; omega
    · rintro ⟨h1, _, h3, ⟨⟨⟨⟨g1, g2⟩, g3⟩, g4⟩, g5⟩, h4, h5, h6, h7, h8, ⟨h9, h10⟩, h11, h12, h13⟩
      have hp0 : 0 ≤ p := by simp [inB] at h7; exact h7.1
      rw [ports_eq hp0] at h3
      exact ⟨h1, h12, h13, h4, h11, only_nil g5, h3, h5, h6, h7, h8, h9, h10⟩
  · simp only [if_neg w, Bool.and_eq_true, Bool.or_eq_true, decide_eq_true_eq, Bool.not_eq_true']
    have e : ∀ P, urlT sch user host P path q fr hq hf = sch ++ (⟨#[58]⟩ : ByteArray) ++ path := fun P => by unfold urlT; rw [if_neg w]
    simp only [e, ByteArray.size_append, c1_size]
    constructor
    · rintro ⟨h1, h2, h3, h4, h5, h6, h7, h8, h9, h10, h11, h12⟩
      have hq0 : q.size = 0 := by rcases h2 with h2 | h2; (rw [h11] at h2; cases h2); exact h2
      have hf0 : fr.size = 0 := by rcases h3 with h3 | h3; (rw [h12] at h3; cases h3); exact h3
      exact ⟨h1, by omega, h7, ⟨⟨⟨⟨shown_empty h8, shown_empty h9⟩, shown_of_only h4⟩, shown_empty hq0⟩, shown_empty hf0⟩, h4, h8, h9, h10, hq0, hf0, h11, h12⟩
    · rintro ⟨h1, _, h3, _, h4, h8, h9, h10, hq0, hf0, h11, h12⟩
      exact ⟨h1, .inr hq0, .inr hf0, h4, only_empty _ hq0, only_empty _ hf0, h3, h8, h9, h10, h11, h12⟩
/-- The two say the same of an address. -/
theorem urlOK_same (sch user host path q fr : ByteArray) (p : Int) (hq hf : Bool) (hs : sch.size ≤ 1048576) (hu : user.size ≤ 1048576) (hh : host.size ≤ 1048576) (hp : path.size ≤ 1048576) (hqs : q.size ≤ 1048576) (hfs : fr.size ≤ 1048576) (h0 : -9223372036854775808 ≤ p) (h1 : p ≤ 9223372036854775807) :
    ∃ b, Ev (fun k => spec_l01OK.f k sch user host p path q fr hq hf) b ∧ Ev (fun k => impl_UrlOK.f k sch user host p path q fr hq hf) b := by
  obtain ⟨u, u1, u2⟩ := usual_spec sch
  refine ⟨urlB sch user host p path q fr hq hf u, url_spec sch user host path q fr p hq hf hs hu hh hp hqs hfs h0 h1 u u1, ?_⟩
  rw [url_eq]
  exact url_impl sch user host path q fr p hq hf hs hu hh hp hqs hfs h0 h1 u u2
theorem szU (sch user host path q fr : ByteArray) (p : Int) (hq hf : Bool) (hs : sch.size ≤ 9223372036854775807) (hu : user.size ≤ 9223372036854775807) (hh : host.size ≤ 9223372036854775807) (hp : path.size ≤ 9223372036854775807) (hqs : q.size ≤ 9223372036854775807) (hfs : fr.size ≤ 9223372036854775807) (left : Int) (h2 : 0 ≤ left) (h3 : left ≤ 1048576) :
    ∃ r, laws_szUrl.f sch user host p path q fr hq hf left = some r ∧ -1 ≤ r ∧ r ≤ left ∧ (0 ≤ r → (sch.size : Int) ≤ left ∧ (user.size : Int) ≤ left ∧ (host.size : Int) ≤ left ∧ (path.size : Int) ≤ left ∧ (q.size : Int) ≤ left ∧ (fr.size : Int) ≤ left) := by
  unfold laws_szUrl.f
  have w1 : wrap64 (left - (sch.size : Int)) = left - (sch.size : Int) := wr (by omega) (by omega)
  rw [w1]
  by_cases n1 : left - (sch.size : Int) < 0
  · exact ⟨-1, by rw [if_pos n1], by omega, by omega, fun h => by omega⟩
  rw [if_neg n1]
  have w2 : wrap64 (left - (sch.size : Int) - (user.size : Int)) = left - (sch.size : Int) - (user.size : Int) := wr (by omega) (by omega)
  rw [w2]
  by_cases n2 : left - (sch.size : Int) - (user.size : Int) < 0
  · exact ⟨-1, by rw [if_pos n2], by omega, by omega, fun h => by omega⟩
  rw [if_neg n2]
  have w3 : wrap64 (left - (sch.size : Int) - (user.size : Int) - (host.size : Int)) = left - (sch.size : Int) - (user.size : Int) - (host.size : Int) := wr (by omega) (by omega)
  rw [w3]
  by_cases n3 : left - (sch.size : Int) - (user.size : Int) - (host.size : Int) < 0
  · exact ⟨-1, by rw [if_pos n3], by omega, by omega, fun h => by omega⟩
  rw [if_neg n3]
  have w4 : wrap64 (left - (sch.size : Int) - (user.size : Int) - (host.size : Int) - (path.size : Int)) = left - (sch.size : Int) - (user.size : Int) - (host.size : Int) - (path.size : Int) := wr (by omega) (by omega)
  rw [w4]
  by_cases n4 : left - (sch.size : Int) - (user.size : Int) - (host.size : Int) - (path.size : Int) < 0
  · exact ⟨-1, by rw [if_pos n4], by omega, by omega, fun h => by omega⟩
  rw [if_neg n4]
  have w5 : wrap64 (left - (sch.size : Int) - (user.size : Int) - (host.size : Int) - (path.size : Int) - (q.size : Int)) = left - (sch.size : Int) - (user.size : Int) - (host.size : Int) - (path.size : Int) - (q.size : Int) := wr (by omega) (by omega)
  rw [w5]
  by_cases n5 : left - (sch.size : Int) - (user.size : Int) - (host.size : Int) - (path.size : Int) - (q.size : Int) < 0
  · exact ⟨-1, by rw [if_pos n5], by omega, by omega, fun h => by omega⟩
  rw [if_neg n5]
  have w6 : wrap64 (left - (sch.size : Int) - (user.size : Int) - (host.size : Int) - (path.size : Int) - (q.size : Int) - (fr.size : Int)) = left - (sch.size : Int) - (user.size : Int) - (host.size : Int) - (path.size : Int) - (q.size : Int) - (fr.size : Int) := wr (by omega) (by omega)
  rw [w6]
  by_cases n6 : left - (sch.size : Int) - (user.size : Int) - (host.size : Int) - (path.size : Int) - (q.size : Int) - (fr.size : Int) < 0
  · exact ⟨-1, by rw [if_pos n6], by omega, by omega, fun h => by omega⟩
  · exact ⟨_, by rw [if_neg n6], by omega, by omega, fun h => by omega⟩

theorem urlOK_both (sch user host path q fr : ByteArray) (p : Int) (hq hf : Bool) (hs : sch.size ≤ 1048576) (hu : user.size ≤ 1048576) (hh : host.size ≤ 1048576) (hp : path.size ≤ 1048576) (hqs : q.size ≤ 1048576) (hfs : fr.size ≤ 1048576) (h0 : -9223372036854775808 ≤ p) (h1 : p ≤ 9223372036854775807) :
    ∃ u, Ev (fun k => spec_l01OK.f k sch user host p path q fr hq hf) (urlB sch user host p path q fr hq hf u) ∧ Ev (fun k => impl_UrlOK.f k sch user host p path q fr hq hf) (urlB sch user host p path q fr hq hf u) := by
  obtain ⟨u, u1, u2⟩ := usual_spec sch
  refine ⟨u, url_spec sch user host path q fr p hq hf hs hu hh hp hqs hfs h0 h1 u u1, ?_⟩
  rw [url_eq]
  exact url_impl sch user host path q fr p hq hf hs hu hh hp hqs hfs h0 h1 u u2
/-- What a valid web address has. -/
theorem url_web {sch user host path q fr : ByteArray} {p u : Int} {hq hf : Bool} (h : urlB sch user host p path q fr hq hf u = true) (w : webB sch = true) : 0 ≤ p ∧ hostB true host.data.toList = true := by
  unfold urlB at h
  rw [if_pos w] at h
  simp only [Bool.and_eq_true] at h
  obtain ⟨_, _, _, _, _, _, _, _, h1, h2, _⟩ := h
  refine ⟨?_, h1⟩
  simp [inB] at h2
  exact h2.1
theorem urlT_ports {sch user host path q fr : ByteArray} {p : Int} {hq hf : Bool} (h : webB sch = true → 0 ≤ p) : urlT sch user host (portI p) path q fr hq hf = urlT sch user host (portS p) path q fr hq hf := by
  by_cases w : webB sch = true
  · rw [ports_eq (h w)]
  · unfold urlT
    rw [if_neg w, if_neg w]

def siteB (sch host P : ByteArray) : ByteArray := sch ++ (⟨#[58, 47, 47]⟩ : ByteArray) ++ (host ++ P)
theorem origin_eq {sch host P : ByteArray} (w : webB sch = true) : urlT sch (⟨#[]⟩ : ByteArray) host P (⟨#[]⟩ : ByteArray) (⟨#[]⟩ : ByteArray) (⟨#[]⟩ : ByteArray) false false = siteB sch host P := by
  unfold urlT tailB headB siteB
  rw [if_pos w, if_neg Bool.false_ne_true, if_neg Bool.false_ne_true, if_pos ((emptyB _).2 rfl), b_nil]
theorem origin_impl (sch user host path q fr : ByteArray) (p : Int) (hq hf : Bool) (hs : sch.size ≤ 1048576) (hh : host.size ≤ 1048576) (h0 : -9223372036854775808 ≤ p) (h1 : p ≤ 9223372036854775807) (w : webB sch = true) (hp : 0 ≤ p) :
    Ev (fun k => impl_Url_origin.f k sch user host p path q fr hq hf) (siteB sch host (portS p)) := by
  have t2 := text_impl sch (⟨#[]⟩ : ByteArray) host (⟨#[]⟩ : ByteArray) (⟨#[]⟩ : ByteArray) (⟨#[]⟩ : ByteArray) p false false (by omega) (by rw [c0_size]; omega) (by omega) (by rw [c0_size]; omega) (by rw [c0_size]; omega) (by rw [c0_size]; omega) h0 h1
  rw [origin_eq w, ports_eq hp] at t2
  unfold impl_Url_origin.f
  exact Ev.bind t2 (Ev.now _)

/-- A decimal text tells its number. -/
def decVal (l : List UInt8) : Nat := l.foldl (fun a b => a * 10 + (b.toNat - 48)) 0
theorem decVal_digits : ∀ u : Nat, decVal (Lib.decDigits u) = u := by
  intro u
  induction u using Nat.strongRecOn with
  | _ u ih =>
  by_cases h : u < 10
  · rw [Lib.decDigits_one h]
    have : (UInt8.ofNat (48 + u)).toNat = 48 + u := by rw [UInt8.toNat_ofNat']; omega
    simp only [decVal, List.foldl_cons, List.foldl_nil, this]
    omega
  · have e : Lib.decDigits u = Lib.decDigits (u / 10) ++ [UInt8.ofNat (48 + u % 10)] := by rw [Lib.decDigits, dif_neg h]
    have i := ih (u / 10) (by omega)
    have : (UInt8.ofNat (48 + u % 10)).toNat = 48 + u % 10 := by rw [UInt8.toNat_ofNat']; omega
    rw [e]
    unfold decVal at i ⊢
    rw [List.foldl_append, i]
    simp only [List.foldl_cons, List.foldl_nil, this]
    omega
theorem itoa_inj {m n : Int} (hm : 0 ≤ m) (hn : 0 ≤ n) (h : Lib.itoa m = Lib.itoa n) : m = n := by
  obtain ⟨a, rfl⟩ : ∃ a : Nat, m = a := ⟨m.toNat, by omega⟩
  obtain ⟨b, rfl⟩ : ∃ b : Nat, n = b := ⟨n.toNat, by omega⟩
  rw [Lib.itoa_nonneg, Lib.itoa_nonneg] at h
  have := decVal_digits a
  rw [h, decVal_digits b] at this
  omega

theorem host_no58 : ∀ (l : List UInt8) (last : Bool), hostB last l = true → ∀ b ∈ l, b ≠ 58
  | [], _, _ => fun b hb => by cases hb
  | c :: l, last, h => by
    have hc : c ≠ 58 ∧ (∃ x, hostB x l = true) := by
      rw [hostB] at h
      by_cases a : lowB c = true ∨ digB c = true
      · rw [if_pos a] at h
        refine ⟨?_, _, h⟩
        rintro rfl
        rcases a with a | a <;> simp [lowB, digB] at a
      · rw [if_neg a] at h
        by_cases hl : last = true
        · rw [if_pos hl] at h; cases h
        · rw [if_neg hl] at h
          by_cases sp : sepB c = true
          · rw [if_pos sp] at h
            refine ⟨?_, _, h⟩
            rintro rfl
            simp [sepB] at sp
          · rw [if_neg sp] at h; cases h
    obtain ⟨h1, x, h2⟩ := hc
    intro b hb
    rcases List.mem_cons.1 hb with rfl | hb
    · exact h1
    · exact host_no58 l x h2 b hb
theorem part_58 : ∀ (a b p q : List UInt8), (∀ x ∈ a, x ≠ 58) → (∀ x ∈ b, x ≠ 58) → (p = [] ∨ ∃ t, p = 58 :: t) → (q = [] ∨ ∃ t, q = 58 :: t) → a ++ p = b ++ q → a = b ∧ p = q
  | [], [], p, q, _, _, _, _, h => ⟨rfl, h⟩
  | [], y :: b, p, q, _, hb, hp, _, h => by
    exfalso
    have hy := hb y (List.mem_cons_self ..)
    rcases hp with rfl | ⟨t, rfl⟩
    · cases h
    · injection h with h1 _; exact hy h1.symm
  | x :: a, [], p, q, ha, _, _, hq, h => by
    exfalso
    have hx := ha x (List.mem_cons_self ..)
    rcases hq with rfl | ⟨t, rfl⟩
    · cases h
    · injection h with h1 _; exact hx h1
  | x :: a, y :: b, p, q, ha, hb, hp, hq, h => by
    injection h with h1 h2
    obtain ⟨e1, e2⟩ := part_58 a b p q (fun z hz => ha z (List.mem_cons_of_mem _ hz)) (fun z hz => hb z (List.mem_cons_of_mem _ hz)) hp hq h2
    exact ⟨by rw [h1, e1], e2⟩
theorem portS_58 (p : Int) : (portS p).data.toList = [] ∨ ∃ t, (portS p).data.toList = 58 :: t := by
  unfold portS
  split
  · exact .inr ⟨_, by rw [ByteArray.data_append, Array.toList_append]; rfl⟩
  · exact .inl rfl
theorem portS_inj {p q : Int} (hp : 0 ≤ p) (hq : 0 ≤ q) (h : (portS p).data.toList = (portS q).data.toList) : p = q := by
  unfold portS at h
  by_cases a : p > 0 <;> by_cases b : q > 0
  · rw [if_pos a, if_pos b, ByteArray.data_append, ByteArray.data_append, Array.toList_append, Array.toList_append] at h
    have h' := List.append_cancel_left h
    exact itoa_inj hp hq h'
  · rw [if_pos a, if_neg b, ByteArray.data_append, Array.toList_append] at h
    cases h
  · rw [if_neg a, if_pos b, ByteArray.data_append, Array.toList_append] at h
    cases h
  · omega
theorem siteB_list (sch host P : ByteArray) : (siteB sch host P).toList = sch.toList ++ ([58, 47, 47] ++ (host.toList ++ P.toList)) := by
  simp only [toList_data]
  unfold siteB
  simp only [ByteArray.data_append, Array.toList_append, List.append_assoc]
theorem web_cases {s : ByteArray} (w : webB s = true) : s.toList = ([104, 116, 116, 112] : List UInt8) ∨ s.toList = ([104, 116, 116, 112, 115] : List UInt8) := by
  unfold webB at w
  simpa using w
/-- Two origins have one text just where scheme, host and port are one. -/
theorem site_iff {s1 h1 s2 h2 : ByteArray} {p1 p2 : Int} (w1 : webB s1 = true) (w2 : webB s2 = true) (g1 : 0 ≤ p1 ∧ hostB true h1.data.toList = true) (g2 : 0 ≤ p2 ∧ hostB true h2.data.toList = true) :
    ((siteB s1 h1 (portS p1)).toList == (siteB s2 h2 (portS p2)).toList) = (decide (s1.toList = s2.toList) && (decide (h1.toList = h2.toList) && (p1 == p2))) := by
  rw [Bool.eq_iff_iff]
  simp only [beq_iff_eq, Bool.and_eq_true, decide_eq_true_eq, siteB_list]
  constructor
  · intro h
    have hs : s1.toList = s2.toList := by
      rcases web_cases w1 with a | a <;> rcases web_cases w2 with b | b
      · rw [a, b]
      · rw [a, b] at h; simp at h
      · rw [a, b] at h; simp at h
      · rw [a, b]
    rw [hs] at h
    have h' := List.append_cancel_left (List.append_cancel_left h)
    simp only [toList_data] at h' ⊢
    obtain ⟨e1, e2⟩ := part_58 _ _ _ _ (host_no58 _ _ g1.2) (host_no58 _ _ g2.2) (portS_58 p1) (portS_58 p2) h'
    refine ⟨?_, e1, portS_inj g1.1 g2.1 e2⟩
    simpa only [toList_data] using hs
  · rintro ⟨a, b, rfl⟩
    rw [a, b]
theorem web_congr {a b : ByteArray} (h : a.toList = b.toList) : webB a = webB b := by unfold webB; rw [h]
section
variable (s1 u1 h1 t1 q1 f1 : ByteArray) (p1 : Int) (a1 b1 : Bool) (s2 u2 h2 t2 q2 f2 : ByteArray) (p2 : Int) (a2 b2 : Bool)
variable (hs1 : s1.size ≤ 1048576) (hu1 : u1.size ≤ 1048576) (hh1 : h1.size ≤ 1048576) (ht1 : t1.size ≤ 1048576) (hq1 : q1.size ≤ 1048576) (hf1 : f1.size ≤ 1048576) (hp1 : -9223372036854775808 ≤ p1) (hp1' : p1 ≤ 9223372036854775807)
variable (hs2 : s2.size ≤ 1048576) (hu2 : u2.size ≤ 1048576) (hh2 : h2.size ≤ 1048576) (ht2 : t2.size ≤ 1048576) (hq2 : q2.size ≤ 1048576) (hf2 : f2.size ≤ 1048576) (hp2 : -9223372036854775808 ≤ p2) (hp2' : p2 ≤ 9223372036854775807)
include hs1 hu1 hh1 ht1 hq1 hf1 hp1 hp1' hs2 hu2 hh2 ht2 hq2 hf2 hp2 hp2'
theorem sameOrigin_same : ∃ b, Ev (fun k => spec_SameOrigin.f k s1 u1 h1 p1 t1 q1 f1 a1 b1 s2 u2 h2 p2 t2 q2 f2 a2 b2) b ∧ Ev (fun k => impl_SameOrigin.f k s1 u1 h1 p1 t1 q1 f1 a1 b1 s2 u2 h2 p2 t2 q2 f2 a2 b2) b := by
  obtain ⟨v1, x1, y1⟩ := urlOK_both s1 u1 h1 t1 q1 f1 p1 a1 b1 hs1 hu1 hh1 ht1 hq1 hf1 hp1 hp1'
  obtain ⟨v2, x2, y2⟩ := urlOK_both s2 u2 h2 t2 q2 f2 p2 a2 b2 hs2 hu2 hh2 ht2 hq2 hf2 hp2 hp2'
  cases e1 : urlB s1 u1 h1 p1 t1 q1 f1 a1 b1 v1
  · rw [e1] at x1 y1
    refine ⟨false, ?_, ?_⟩
    · unfold spec_SameOrigin.f
      refine Ev.bind x1 ?_
      simp only [Bool.false_eq_true, if_false]; exact Ev.now _
    · unfold impl_SameOrigin.f
      refine Ev.bind y1 ?_
      simp only [Bool.false_eq_true, if_false]; exact Ev.now _
  cases e2 : urlB s2 u2 h2 p2 t2 q2 f2 a2 b2 v2
  · rw [e1] at x1 y1
    rw [e2] at x2 y2
    refine ⟨false, ?_, ?_⟩
    · unfold spec_SameOrigin.f
      refine Ev.bind x1 ?_
      simp only [if_true]
      refine Ev.bind x2 ?_
      simp only [Bool.false_eq_true, if_false]; exact Ev.now _
    · unfold impl_SameOrigin.f
      refine Ev.bind y1 ?_
      simp only [if_true]
      refine Ev.bind y2 ?_
      simp only [Bool.false_eq_true, if_false]; exact Ev.now _
  have g1 := fun w => url_web e1 w
  have g2 := fun w => url_web e2 w
  rw [e1] at x1 y1
  rw [e2] at x2 y2
  -- the reference
  have sp : Ev (fun k => spec_SameOrigin.f k s1 u1 h1 p1 t1 q1 f1 a1 b1 s2 u2 h2 p2 t2 q2 f2 a2 b2) (webB s1 && (decide (s1.toList = s2.toList) && (decide (h1.toList = h2.toList) && (p1 == p2)))) := by
    unfold spec_SameOrigin.f spec_l01SameOrigin.f
    refine Ev.bind x1 ?_
    simp only [if_true]
    refine Ev.bind x2 ?_
    simp only [if_true, web_spec, Option.bind_some]
    by_cases w : webB s1 = true
    · by_cases c : s1.toList = s2.toList
      · by_cases d : h1.toList = h2.toList
        · simp only [w, if_true, if_pos c, if_pos d, decide_eq_true c, decide_eq_true d, Bool.true_and, Option.bind_some]; exact Ev.now _
        · simp only [w, if_true, if_pos c, if_neg d, decide_eq_true c, decide_eq_false d, Bool.true_and, Bool.false_and, Option.bind_some]; exact Ev.now _
      · simp only [w, if_true, if_neg c, decide_eq_false c, Bool.true_and, Bool.false_and, Option.bind_some]; exact Ev.now _
    · have w' : webB s1 = false := by simpa using w
      simp only [w', Bool.false_eq_true, if_false, Bool.false_and, Option.bind_some]; exact Ev.now _
  refine ⟨_, sp, ?_⟩
  unfold impl_SameOrigin.f
  refine Ev.bind y1 ?_
  simp only [if_true]
  refine Ev.bind y2 ?_
  simp only [if_true, web_impl, Option.bind_some]
  by_cases w1 : webB s1 = true
  · by_cases w2 : webB s2 = true
    · have o1 := origin_impl s1 u1 h1 t1 q1 f1 p1 a1 b1 hs1 hh1 hp1 hp1' w1 (g1 w1).1
      have o2 := origin_impl s2 u2 h2 t2 q2 f2 p2 a2 b2 hs2 hh2 hp2 hp2' w2 (g2 w2).1
      simp only [if_pos w1, if_pos w2]
      refine Ev.bind o1 (Ev.bind o2 ?_)
      simp only [site_iff w1 w2 (g1 w1) (g2 w2), w1, Bool.true_and]
      exact Ev.now _
    · have c : ¬ s1.toList = s2.toList := fun h => w2 (by rw [← web_congr h]; exact w1)
      simp only [if_pos w1, if_neg w2, decide_eq_false c, Bool.false_and, Bool.and_false]
      exact Ev.now _
  · have w' : webB s1 = false := by simpa using w1
    simp only [w', Bool.false_eq_true, if_false, Bool.false_and]
    exact Ev.now _
end
theorem FnExactSameOrigin : (∀ (a0_0 : ByteArray) (a0_1 : ByteArray) (a0_2 : ByteArray) (a0_3 : Int) (a0_4 : ByteArray) (a0_5 : ByteArray) (a0_6 : ByteArray) (a0_7 : Bool) (a0_8 : Bool) (a1_0 : ByteArray) (a1_1 : ByteArray) (a1_2 : ByteArray) (a1_3 : Int) (a1_4 : ByteArray) (a1_5 : ByteArray) (a1_6 : ByteArray) (a1_7 : Bool) (a1_8 : Bool), (a0_0.size ≤ 9223372036854775807) → (a0_1.size ≤ 9223372036854775807) → (a0_2.size ≤ 9223372036854775807) → ((Lit.int .i64 a0_3).wf = true) → (a0_4.size ≤ 9223372036854775807) → (a0_5.size ≤ 9223372036854775807) → (a0_6.size ≤ 9223372036854775807) → (a1_0.size ≤ 9223372036854775807) → (a1_1.size ≤ 9223372036854775807) → (a1_2.size ≤ 9223372036854775807) → ((Lit.int .i64 a1_3).wf = true) → (a1_4.size ≤ 9223372036854775807) → (a1_5.size ≤ 9223372036854775807) → (a1_6.size ≤ 9223372036854775807) → ∃ k, laws_FnExactSameOrigin.f k a0_0 a0_1 a0_2 a0_3 a0_4 a0_5 a0_6 a0_7 a0_8 a1_0 a1_1 a1_2 a1_3 a1_4 a1_5 a1_6 a1_7 a1_8 = some true) := by
  intro s1 u1 h1 p1 t1 q1 f1 a1 b1 s2 u2 h2 p2 t2 q2 f2 a2 b2 hs hu hh hp hpa hqs hfs hs' hu' hh' hp' hpa' hqs' hfs'
  refine Ev.rounds ?_
  obtain ⟨r, e, _, l, c⟩ := szU s1 u1 h1 t1 q1 f1 p1 a1 b1 hs hu hh hpa hqs hfs 1048576 (by omega) (by omega)
  unfold laws_FnExactSameOrigin.f laws_toUrl.f
  rw [e]
  simp only [Option.bind_some]
  by_cases n : r < 0
  · simp only [if_pos n]; exact Ev.now _
  simp only [if_neg n]
  obtain ⟨c1, c2, c3, c4, c5, c6⟩ := c (by omega)
  obtain ⟨r', e', _, l', c'⟩ := szU s2 u2 h2 t2 q2 f2 p2 a2 b2 hs' hu' hh' hpa' hqs' hfs' r (by omega) (by omega)
  rw [e']
  simp only [Option.bind_some]
  by_cases n' : r' < 0
  · simp only [if_pos n']; exact Ev.now _
  simp only [if_neg n']
  obtain ⟨d1, d2, d3, d4, d5, d6⟩ := c' (by omega)
  have rp := wf_range hp
  have rp' := wf_range hp'
  obtain ⟨b, z1, z2⟩ := sameOrigin_same s1 u1 h1 t1 q1 f1 p1 a1 b1 s2 u2 h2 t2 q2 f2 p2 a2 b2 (by omega) (by omega) (by omega) (by omega) (by omega) (by omega) rp.1 rp.2 (by omega) (by omega) (by omega) (by omega) (by omega) (by omega) rp'.1 rp'.2
  refine Ev.bind z1 (Ev.bind z2 ?_)
  simp only [bne_self_eq_false, Bool.false_eq_true, if_false]
  exact Ev.now _

end Go.Proofs.YthfcmloofifipaaDoor.Pure
