/- The program's GroupOK answers as the reference's at every group; no condition. -/
import Derived.Test.YthifpohbdbhnlaaGreatDoorQFnExactGroupOKx2
import Derived.Test.YthifpohbdbhnlaaGreatDoorPureTgtBase
set_option linter.unusedVariables false
set_option linter.unusedSimpArgs false
namespace Go.Proofs.YthifpohbdbhnlaaGreatDoor.Pure
open Go.RowKit Go.Proofs.YthifpohbdbhnlaaGreatDoor.QFnExactGroupOK Go.Proofs.YthifpohbdbhnlaaGreatDoor.QFnStrip Go.Proofs.YthifpohbdbhnlaaGreatDoorW.PrintWords Go.Proofs.YthifpohbdbhnlaaGreatDoorW.PrintLast

def letterB (c : Int) : Bool := (decide (97 ≤ c) && decide (c ≤ 122)) || (decide (65 ≤ c) && decide (c ≤ 90)) || (c == 95)
def digitB (c : Int) : Bool := decide (48 ≤ c) && decide (c ≤ 57)
theorem letter_is (c : Int) : spec_l00Letter.f c = some (letterB c) := by
  unfold spec_l00Letter.f letterB
  by_cases a : 97 ≤ c <;> by_cases b : c ≤ 122 <;> by_cases d : 65 ≤ c <;> by_cases e : c ≤ 90 <;> first | (exfalso; omega) | simp [a, b, d, e]
theorem digit_is (c : Int) : spec_l00Digit.f c = some (digitB c) := by
  unfold spec_l00Digit.f digitB
  by_cases a : 48 ≤ c <;> simp [a]
theorem name_spec_step (k : Nat) (s : ByteArray) (i : Int) (h0 : 0 ≤ i) (h1 : i < (s.size : Int)) (h2 : i < 1000) :
    spec_l00Word.l0 (k + 1) s i = if letterB (bt s i) = true then spec_l00Word.l0 k s (i + 1) else if digitB (bt s i) = true then spec_l00Word.l0 k s (i + 1) else some false := by
  rw [spec_l00Word.l0, if_pos h1, if_pos h0, letter_is, digit_is, wr (by omega) (by omega)]
  simp only [Option.bind_some]
theorem name_impl_step (k : Nat) (s : ByteArray) (n i : Int) (h0 : 0 ≤ i) (h1 : i < n) (h3 : i < (s.size : Int)) (h2 : i < 1000) :
    impl_NameOK.l0 (k + 1) s n i = if letterB (bt s i) = true then impl_NameOK.l0 k s n (i + 1) else if i = 0 then some false else if digitB (bt s i) = true then impl_NameOK.l0 k s n (i + 1) else some false := by
  rw [impl_NameOK.l0, if_pos h1, if_pos h0, if_pos h3, wr (by omega) (by omega)]
  generalize bt s i = c
  generalize impl_NameOK.l0 k s n (i + 1) = R
  unfold letterB digitB
  by_cases a : 97 ≤ c <;> by_cases b : c ≤ 122 <;> by_cases d : 65 ≤ c <;> by_cases e : c ≤ 90 <;> by_cases f : c = 95 <;> first | (exfalso; omega) | skip
  all_goals
    by_cases x : c < 48 <;> by_cases y : c > 57 <;> first | (exfalso; omega) | simp [a, b, d, e, f, x, y, show (48 ≤ c) = ¬ (c < 48) by simp, show (c ≤ 57) = ¬ (c > 57) by simp]
theorem name_loops (s : ByteArray) (hs : s.size ≤ 12) (d : Nat) : ∀ i : Int, 1 ≤ i → i + d = s.size →
    ∃ r, spec_l00Word.l0 (d + 1) s i = some r ∧ impl_NameOK.l0 (d + 1) s s.size i = some r := by
  induction d with
  | zero =>
    intro i h0 h1
    rw [spec_l00Word.l0, impl_NameOK.l0, if_neg (by omega), if_neg (by omega)]
    exact ⟨_, rfl, rfl⟩
  | succ d ih =>
    intro i h0 h1
    rw [name_spec_step _ _ _ (by omega) (by omega) (by omega), name_impl_step _ _ _ _ (by omega) (by omega) (by omega) (by omega), if_neg (by omega : ¬ i = 0)]
    have z := ih (i + 1) (by omega) (by omega)
    split
    · exact z
    · split
      · exact z
      · exact ⟨_, rfl, rfl⟩
theorem name_same (s : ByteArray) : ∃ r, Ev (fun k => spec_l00Word.f k s) r ∧ Ev (fun k => impl_NameOK.f k s) r := by
  suffices h : ∃ r k, spec_l00Word.f k s = some r ∧ impl_NameOK.f k s = some r by
    obtain ⟨r, k, h1, h2⟩ := h
    exact ⟨r, Ev.of (spec_l00Word.mono s) h1, Ev.of (impl_NameOK.mono s) h2⟩
  by_cases h0 : (s.size : Int) < 1
  · refine ⟨false, 1, ?_, ?_⟩
    · unfold spec_l00Word.f; rw [if_pos h0]; simp [spec_l00Word.j0]
    · unfold impl_NameOK.f impl_within.f; rw [if_neg (by omega)]; simp
  · by_cases h1 : (s.size : Int) > 12
    · refine ⟨false, 1, ?_, ?_⟩
      · unfold spec_l00Word.f; rw [if_neg h0, if_pos h1]; simp [spec_l00Word.j0]
      · unfold impl_NameOK.f impl_within.f; rw [if_pos (by omega), decide_eq_false (by omega)]; simp
    · obtain ⟨d, hd⟩ : ∃ d : Nat, (1 : Int) + d = s.size := ⟨s.size - 1, by omega⟩
      obtain ⟨r, h2, h3⟩ := name_loops s (by omega) d 1 (by omega) hd
      cases hl : letterB (bt s 0) with
      | true =>
        refine ⟨r, d + 2, ?_, ?_⟩
        · unfold spec_l00Word.f
          rw [if_neg h0, if_neg h1, if_pos (by omega), letter_is, hl, Option.bind_some, spec_l00Word.j0]
          rw [if_neg (by decide)]
          rw [← h2]
        · unfold impl_NameOK.f impl_within.f
          rw [if_pos (by omega), decide_eq_true (by omega), Option.bind_some, if_pos rfl, name_impl_step _ _ _ _ (by omega) (by omega) (by omega) (by omega), hl, if_pos rfl]
          exact h3
      | false =>
        refine ⟨false, d + 2, ?_, ?_⟩
        · unfold spec_l00Word.f
          rw [if_neg h0, if_neg h1, if_pos (by omega), letter_is, hl, Option.bind_some, spec_l00Word.j0]
          rfl
        · unfold impl_NameOK.f impl_within.f
          rw [if_pos (by omega), decide_eq_true (by omega), Option.bind_some, if_pos rfl, name_impl_step _ _ _ _ (by omega) (by omega) (by omega) (by omega), hl]
          simp

/-! Groups: the reference looks at target by target, the program at all pairs and then at all targets. -/
theorem ev_rounds {α : Type} {f : Nat → Option α} {r : α} (h : Ev f r) : ∃ k, f k = some r := by
  obtain ⟨k, hk⟩ := h
  exact ⟨k, hk k (Nat.le_refl k)⟩
theorem idx_ge (b : Nat → Bool) : ∀ d i, 0 ≤ impl_hasUrl.idxB b d i ↔ ∃ j, i ≤ j ∧ j < i + d ∧ b j = true
  | 0, i => by
    rw [impl_hasUrl.idxB]
    exact ⟨fun h => absurd h (by omega), fun ⟨j, h1, h2, _⟩ => by omega⟩
  | d + 1, i => by
    rw [impl_hasUrl.idxB]
    by_cases h : b i = true
    · rw [if_pos h]
      exact ⟨fun _ => ⟨i, Nat.le_refl _, by omega, h⟩, fun _ => by omega⟩
    · rw [if_neg h, idx_ge b d (i + 1)]
      constructor
      · rintro ⟨j, h1, h2, h3⟩; exact ⟨j, by omega, by omega, h3⟩
      · rintro ⟨j, h1, h2, h3⟩
        have : j ≠ i := fun e => h (e ▸ h3)
        exact ⟨j, by omega, by omega, h3⟩
theorem idx_at (b : Nat → Bool) : ∀ d i n, i ≤ n → n < i + d → b n = true → (impl_hasUrl.idxB b d i = (n : Int) ↔ ∀ j, i ≤ j → j < n → b j = false)
  | 0, i, n, h1, h2, _ => by omega
  | d + 1, i, n, h1, h2, hn => by
    rw [impl_hasUrl.idxB]
    by_cases h : b i = true
    · rw [if_pos h]
      constructor
      · intro e j h3 h4; omega
      · intro f
        by_cases e : i = n
        · rw [e]
        · have := f i (Nat.le_refl _) (by omega); rw [h] at this; cases this
    · rw [if_neg h]
      have e : i ≠ n := fun e => h (e ▸ hn)
      rw [idx_at b d (i + 1) n (by omega) (by omega) hn]
      constructor
      · intro f j h3 h4
        by_cases e2 : j = i
        · subst e2; simpa using h
        · exact f j (by omega) h4
      · intro f j h3 h4; exact f j (by omega) h4
theorem rd_take (m : List S83) (n i : Nat) (h : i < n) : rd_T83 (m.take n) (i : Int) = rd_T83 m (i : Int) := by
  unfold rd_T83
  rw [Int.toNat_natCast, List.getD_eq_getElem?_getD, List.getD_eq_getElem?_getD, List.getElem?_take, if_pos h]
section
variable (m : List S83) (hm : m.length ≤ 1048576)
def urlAt (i : Nat) : ByteArray := (rd_T83 m (i : Int)).f0
include hm
theorem at_loop (u : ByteArray) : ∀ (d i : Nat), i + d = m.length → Ev (fun k => spec_l03At.l0 k m u (i : Int)) (impl_hasUrl.idxB (fun j => (urlAt m j).toList == u.toList) d i)
  | 0, i, h => Ev.step (f := fun _ => some (-1)) (fun k => by rw [spec_l03At.l0, if_neg (by omega)]) (Ev.now _)
  | d + 1, i, h => by
    rw [impl_hasUrl.idxB]
    by_cases e : ((urlAt m i).toList == u.toList) = true
    · rw [if_pos e]
      have e' : (rd_T83 m (i : Int)).f0.toList = u.toList := beq_iff_eq.1 e
      exact Ev.step (f := fun _ => some (i : Int)) (fun k => by rw [spec_l03At.l0, if_pos (by omega), if_pos (by omega), if_pos e']) (Ev.now _)
    · rw [if_neg e]
      have e' : ¬ (rd_T83 m (i : Int)).f0.toList = u.toList := fun h => e (beq_iff_eq.2 h)
      refine Ev.step (f := fun k => spec_l03At.l0 k m u ((i + 1 : Nat) : Int)) (fun k => ?_) (at_loop u d (i + 1) (by omega))
      rw [spec_l03At.l0, if_pos (by omega), if_pos (by omega), if_neg e', wr (by omega) (by omega)]; rfl
theorem at_is (u : ByteArray) : Ev (fun k => spec_l03At.f k m u) (impl_hasUrl.idxB (fun j => (urlAt m j).toList == u.toList) m.length 0) := by
  unfold spec_l03At.f
  exact at_loop m hm u m.length 0 (by omega)
/-- Whether none ahead of place n has its address. -/
def newAt (n : Nat) : Bool := decide (∀ j, j < n → ¬ (urlAt m j).toList = (urlAt m n).toList)
omit hm in
theorem has_is (n : Nat) (hn : n ≤ m.length) : impl_hasUrl.f (m.take n) (urlAt m n) = some (!newAt m n) := by
  unfold impl_hasUrl.f
  have hl : (m.take n).length = n := by rw [List.length_take]; omega
  rw [hl]
  congr 1
  rw [Bool.eq_iff_iff]
  unfold newAt
  simp only [decide_eq_true_eq, Bool.not_eq_true', decide_eq_false_iff_not, idx_ge]
  constructor
  · rintro ⟨j, _, h2, h3⟩ f
    rw [rd_take m n j (by omega)] at h3
    exact f j (by omega) (beq_iff_eq.1 h3)
  · intro f
    exact Classical.byContradiction fun h => f fun j h1 h2 => h ⟨j, by omega, by omega, by rw [rd_take m n j h1]; exact beq_iff_eq.2 h2⟩
def allNew : Nat → Nat → Bool
  | 0, _ => true
  | d + 1, i => newAt m i && allNew d (i + 1)
theorem unlike_loop : ∀ (d i : Nat), i + d = m.length → Ev (fun k => impl_areUnlike.l0 k m m (m.length : Int) (i : Int)) (allNew m d i)
  | 0, i, h => Ev.step (f := fun _ => some true) (fun k => by rw [impl_areUnlike.l0, if_neg (by omega)]) (Ev.now _)
  | d + 1, i, h => by
    have e := has_is m i (by omega)
    have hi : ((i : Int)).toNat = i := by omega
    have hu : (rd_T83 m (i : Int)).f0 = urlAt m i := rfl
    rw [allNew]
    cases hn : newAt m i with
    | true =>
      rw [hn] at e
      refine Ev.step (f := fun k => impl_areUnlike.l0 k m m (m.length : Int) ((i + 1 : Nat) : Int)) (fun k => ?_) (unlike_loop d (i + 1) (by omega))
      rw [impl_areUnlike.l0, if_pos (by omega), if_pos (by omega), if_pos (by omega), if_pos (by omega), hi, hu, e, Option.bind_some, if_neg (by decide), wr (by omega) (by omega)]; rfl
    | false =>
      rw [hn] at e
      refine Ev.step (f := fun _ => some false) (fun k => ?_) (Ev.now _)
      rw [impl_areUnlike.l0, if_pos (by omega), if_pos (by omega), if_pos (by omega), if_pos (by omega), hi, hu, e, Option.bind_some, if_pos (by decide)]
theorem unlike_is : Ev (fun k => impl_areUnlike.f k m) (allNew m m.length 0) := by
  unfold impl_areUnlike.f
  exact unlike_loop m hm m.length 0 (by omega)
end
theorem allNew_iff (m : List S83) : ∀ d i, allNew m d i = true ↔ ∀ j, i ≤ j → j < i + d → newAt m j = true
  | 0, i => ⟨fun _ j h1 h2 => by omega, fun _ => rfl⟩
  | d + 1, i => by
    rw [allNew, Bool.and_eq_true, allNew_iff m d (i + 1)]
    constructor
    · rintro ⟨a, b⟩ j h1 h2
      by_cases e : j = i
      · subst e; exact a
      · exact b j (by omega) (by omega)
    · intro f; exact ⟨f i (Nat.le_refl _) (by omega), fun j h1 h2 => f j (by omega) (by omega)⟩
/-- What a target comes to. -/
noncomputable def tgtB (x : S83) : Bool := if h : x.f0.size ≤ 1048576 then Classical.choose (tgt_both x.f0 x.f1 x.f2 h) else false
theorem tgtB_is (x : S83) (h : x.f0.size ≤ 1048576) : Ev (fun k => spec_l03Target.f k x.f0 x.f1 x.f2) (tgtB x) ∧ Ev (fun k => impl_targetOK.f k x.f0 x.f1 x.f2) (tgtB x) := by
  unfold tgtB; rw [dif_pos h]; exact Classical.choose_spec (tgt_both x.f0 x.f1 x.f2 h)
theorem bs_is : ∀ (m : List S83), (∀ y, y ∈ m → y.f0.size ≤ 1048576) → Ev (fun k => impl_GroupOK.bs k m) (m.map tgtB)
  | [], _ => Ev.now _
  | x :: m, h => Ev.bind (tgtB_is x (h x (List.mem_cons_self ..))).2 (Ev.bind (bs_is m (fun y hy => h y (List.mem_cons_of_mem _ hy))) (Ev.now _))
noncomputable def okB (m : List S83) : Nat → Nat → Bool
  | 0, _ => true
  | d + 1, i => tgtB (rd_T83 m (i : Int)) && (newAt m i && okB m d (i + 1))
theorem okB_iff (m : List S83) : ∀ d i, okB m d i = true ↔ ∀ j, i ≤ j → j < i + d → tgtB (rd_T83 m (j : Int)) = true ∧ newAt m j = true
  | 0, i => ⟨fun _ j h1 h2 => by omega, fun _ => rfl⟩
  | d + 1, i => by
    rw [okB, Bool.and_eq_true, Bool.and_eq_true, okB_iff m d (i + 1)]
    constructor
    · rintro ⟨a, a', b⟩ j h1 h2
      by_cases e : j = i
      · subst e; exact ⟨a, a'⟩
      · exact b j (by omega) (by omega)
    · intro f; exact ⟨(f i (Nat.le_refl _) (by omega)).1, (f i (Nat.le_refl _) (by omega)).2, fun j h1 h2 => f j (by omega) (by omega)⟩
theorem rd_mem (m : List S83) (i : Nat) (h : i < m.length) : rd_T83 m (i : Int) ∈ m := getD_mem z83 m (i : Int) (by omega) (by omega)
theorem idx_self (m : List S83) (i : Nat) (h : i < m.length) : impl_hasUrl.idxB (fun j => (urlAt m j).toList == (urlAt m i).toList) m.length 0 = (i : Int) ↔ newAt m i = true := by
  rw [idx_at (fun j => (urlAt m j).toList == (urlAt m i).toList) m.length 0 i (by omega) (by omega) (beq_self_eq_true _)]
  unfold newAt
  rw [decide_eq_true_eq]
  exact ⟨fun f j hj => beq_eq_false_iff_ne.1 (f j (Nat.zero_le _) hj), fun f j _ hj => beq_eq_false_iff_ne.2 (f j hj)⟩
theorem ok_loop (m : List S83) (hm : m.length ≤ 1048576) (hu : ∀ y, y ∈ m → y.f0.size ≤ 1048576) (a0 : ByteArray) (a1 : Int) : ∀ (d i : Nat), i + d = m.length → Ev (fun k => spec_l03OK.l0 k (i : Int) a0 a1 m) (okB m d i)
  | 0, i, h => Ev.step (f := fun _ => some true) (fun k => by rw [spec_l03OK.l0, if_neg (by omega)]) (Ev.now _)
  | d + 1, i, h => by
    have t := (tgtB_is _ (hu _ (rd_mem m i (by omega)))).1
    have a := at_is m hm (urlAt m i)
    have hi := idx_self m i (by omega)
    rw [okB]
    refine Ev.step (f := fun k => (spec_l03Target.f k (rd_T83 m (i : Int)).f0 (rd_T83 m (i : Int)).f1 (rd_T83 m (i : Int)).f2).bind fun t206 => (if t206 = true then ((spec_l03At.f k m (urlAt m i)).bind fun t208 => (if t208 = (i : Int) then (spec_l03OK.l0 k ((i + 1 : Nat) : Int) a0 a1 m) else (some false))) else (some false))) (fun k => ?_) (Ev.bind t ?_)
    · rw [spec_l03OK.l0, if_pos (by omega), if_pos (by omega), wr (by omega) (by omega)]; rfl
    · cases tgtB (rd_T83 m (i : Int)) with
      | false => simp only [Bool.false_eq_true, if_false, Bool.false_and]; exact Ev.now _
      | true =>
        simp only [if_true, Bool.true_and]
        refine Ev.bind a ?_
        cases hn : newAt m i with
        | true =>
          simp only [if_pos (hi.2 hn), Bool.true_and]
          exact ok_loop m hm hu a0 a1 d (i + 1) (by omega)
        | false =>
          have : ¬ impl_hasUrl.idxB (fun j => (urlAt m j).toList == (urlAt m i).toList) m.length 0 = (i : Int) := fun e => by rw [hi.1 e] at hn; cases hn
          simp only [if_neg this, Bool.false_and]
          exact Ev.now _
/-- Both say the same of a group. -/
theorem group_both (a0 : ByteArray) (a1 : Int) (m : List S83) (hm : m.length ≤ 1048576) (hu : ∀ y, y ∈ m → y.f0.size ≤ 1048576) :
    ∃ b, Ev (fun k => spec_l03OK.f k a0 a1 m) b ∧ Ev (fun k => impl_GroupOK.f k a0 a1 m) b := by
  obtain ⟨n, n1, n2⟩ := name_same a0
  have sj' : Ev (fun k => spec_l03OK.j0 k true a0 a1 m) false := Ev.step (f := fun _ => some false) (fun k => by rw [spec_l03OK.j0, if_pos rfl]) (Ev.now _)
  unfold spec_l03OK.f impl_GroupOK.f
  simp only [in_is, within_is, Option.bind_some]
  cases n with
  | false =>
    exact ⟨false, Ev.bind n1 (by simp only [Bool.false_eq_true, if_false]; exact sj'), Ev.bind n2 (by simp only [Bool.false_eq_true, if_false]; exact Ev.now _)⟩
  | true =>
    by_cases h1 : inB a1 1 100 = true
    · by_cases h2 : inB (m.length : Int) 1 4 = true
      · have u := unlike_is m hm
        have b := bs_is m hu
        have o := ok_loop m hm hu a0 a1 m.length 0 (by omega)
        have key : okB m m.length 0 = (allNew m m.length 0 && !decide (0 ≤ impl_hasUrl.idxB (fun i => !(m.map tgtB).getD i false) m.length 0)) := by
          rw [Bool.eq_iff_iff, okB_iff, Bool.and_eq_true, allNew_iff, Bool.not_eq_true', decide_eq_false_iff_not, idx_ge]
          have g : ∀ j, j < m.length → (m.map tgtB).getD j false = tgtB (rd_T83 m (j : Int)) := by
            intro j hj
            unfold rd_T83
            rw [Int.toNat_natCast, List.getD_eq_getElem?_getD, List.getD_eq_getElem?_getD, List.getElem?_map, List.getElem?_eq_getElem hj]; rfl
          constructor
          · intro f
            refine ⟨fun j x y => (f j x y).2, ?_⟩
            rintro ⟨j, x, y, z⟩
            rw [g j (by omega), (f j x y).1] at z
            cases z
          · rintro ⟨f1, f2⟩ j x y
            refine ⟨?_, f1 j x y⟩
            cases e : tgtB (rd_T83 m (j : Int)) with
            | true => rfl
            | false => exact absurd ⟨j, x, y, by rw [g j (by omega), e]; rfl⟩ f2
        refine ⟨okB m m.length 0, Ev.bind n1 ?_, Ev.bind n2 ?_⟩
        · simp only [if_true, h1, h2, Bool.not_true]
          exact Ev.step (f := fun k => spec_l03OK.l0 k ((0 : Nat) : Int) a0 a1 m) (fun k => by rw [spec_l03OK.j0, if_neg Bool.false_ne_true]; rfl) o
        · simp only [if_true, h1, h2]
          refine Ev.bind u ?_
          rw [key]
          cases allNew m m.length 0 with
          | false => simp only [Bool.false_eq_true, if_false, Bool.false_and]; exact Ev.now _
          | true =>
            simp only [if_true, Bool.true_and]
            exact Ev.bind b (Ev.now _)
      · have h2' : inB (m.length : Int) 1 4 = false := by simpa using h2
        exact ⟨false, Ev.bind n1 (by simp only [if_true, h1, h2', Bool.not_false]; exact sj'), Ev.bind n2 (by simp only [if_true, h1, h2', Bool.false_eq_true, if_false]; exact Ev.now _)⟩
    · have h1' : inB a1 1 100 = false := by simpa using h1
      exact ⟨false, Ev.bind n1 (by simp only [if_true, h1', Bool.false_eq_true, if_false]; exact sj'), Ev.bind n2 (by simp only [if_true, h1', Bool.false_eq_true, if_false]; exact Ev.now _)⟩
theorem szG (a0 : ByteArray) (a1 : Int) (l : List S87) (left : Int) (h0 : a0.size ≤ 9223372036854775807) (hl : l.length ≤ 9223372036854775807) (hy : ∀ y, y ∈ l → ok87 y) (h2 : 0 ≤ left) (h3 : left ≤ 1048576) :
    ∃ r, Ev (fun k => laws_szGroup.f k a0 a1 l left) r ∧ r ≤ left ∧ -1 ≤ r ∧ (0 ≤ r → a0.size ≤ 1048576 ∧ (l.length : Int) ≤ left ∧ ∀ y, y ∈ l → y.f0.size ≤ 1048576) := by
  unfold laws_szGroup.f
  rw [wr (by omega) (by omega)]
  by_cases hneg : left - (a0.size : Int) < 0
  · refine ⟨-1, ?_, by omega, by omega, fun h => by omega⟩
    simp only [if_pos hneg]; exact Ev.now _
  · obtain ⟨r, hr, ha, hb, hc⟩ := szT l hl hy (left - (a0.size : Int)) (by omega) (by omega)
    refine ⟨r, ?_, by omega, hb, fun h => ⟨by omega, by have := (hc h).1; omega, (hc h).2⟩⟩
    simp only [if_neg hneg]
    refine Ev.bind hr ?_
    by_cases h4 : r < 0
    · have : r = -1 := by omega
      subst this; simp only [if_pos h4]; exact Ev.now _
    · simp only [if_neg h4]; exact Ev.now _
theorem toG (a0 : ByteArray) (a1 : Int) (l : List S87) (hl : l.length ≤ 1048576) : Ev (fun k => laws_toGroup.f k a0 a1 l) (a0, a1, l.map toTgt) := by
  unfold laws_toGroup.f
  exact Ev.bind (toT l hl) (Ev.now _)
theorem eqG (a0 : ByteArray) (a1 : Int) (m : List S83) (hm : m.length ≤ 1048576) : Ev (fun k => laws_eqGroup.f k a0 a1 m a0 a1 m) true := by
  unfold laws_eqGroup.f
  simp only [if_true]
  exact Ev.bind (eqT m hm) (by simp only [if_true]; exact Ev.now _)
theorem tgt_sizes {l : List S87} (h : ∀ y, y ∈ l → y.f0.size ≤ 1048576) : ∀ y, y ∈ l.map toTgt → y.f0.size ≤ 1048576 := by
  intro y hy
  obtain ⟨x, hx, rfl⟩ := List.mem_map.1 hy
  exact h x hx

theorem FnExactGroupOK : (∀ (a0_0 : ByteArray) (a0_1 : Int) (l0_2 : List (S87)), (a0_0.size ≤ 9223372036854775807) → ((Lit.int .i64 a0_1).wf = true) → (l0_2.length ≤ 9223372036854775807 ∧ ∀ y_, y_ ∈ l0_2 → ok87 y_) → ∃ k, laws_FnExactGroupOK.f k a0_0 a0_1 l0_2 = some true) := by
  intro a0 a1 l h0 _ ⟨hl, hy⟩
  refine ev_rounds ?_
  unfold laws_FnExactGroupOK.f
  obtain ⟨r, hr, h1, h2, h3⟩ := szG a0 a1 l 1048576 h0 hl hy (by omega) (by omega)
  refine Ev.bind hr ?_
  by_cases h4 : r < 0
  · simp only [if_pos h4]; exact Ev.now _
  · simp only [if_neg h4]
    obtain ⟨h5, h6, h7⟩ := h3 (by omega)
    have t := toG a0 a1 l (by omega)
    have hm : (l.map toTgt).length ≤ 1048576 := by rw [List.length_map]; omega
    obtain ⟨b, s, i⟩ := group_both a0 a1 (l.map toTgt) hm (tgt_sizes h7)
    refine Ev.bind t (Ev.bind (a := b) (by unfold spec_GroupOK.f; exact Ev.bind s (Ev.now _)) (Ev.bind t (Ev.bind i ?_)))
    have e : ¬ ((b != b) = true) := by simp
    simp only [if_neg e]
    refine Ev.bind t (Ev.bind (eqG a0 a1 _ hm) ?_)
    simp only [if_true]; exact Ev.now _

end Go.Proofs.YthifpohbdbhnlaaGreatDoor.Pure
