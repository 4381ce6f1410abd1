/- The program's SameBox answers as the reference's at every two boxes, and leaves both as they were; no condition. -/
import Derived.Test.YtmfnaaeglfhnmaaQFnExactSameBoxx6
set_option linter.unusedVariables false
set_option linter.unusedSimpArgs false
namespace Go.Proofs.Ytmfnaaeglfhnmaa.Pure
open Go.RowKit Go.Proofs.Ytmfnaaeglfhnmaa.QFnExactSameBox Go.Proofs.YtmfnaaeglfhnmaaW.PrintWords Go.Proofs.YtmfnaaeglfhnmaaW.PrintLast

theorem wr {x : Int} (h0 : -9223372036854775808 ≤ x) (h1 : x ≤ 9223372036854775807) : wrap64 x = x := by unfold wrap64; omega

/-- A loop over a list, from place i on: one round, or the end. -/
theorem rdOf_at {α : Type} (z : α) (l : List α) (i : Int) (h0 : 0 ≤ i) (h1 : i < l.length) : l[i.toNat]? = some (l.getD i.toNat z) := by
  rw [List.getD_eq_getElem?_getD, List.getElem?_eq_getElem (by omega)]; rfl
theorem getD_mem {α : Type} (z : α) (l : List α) (i : Int) (h0 : 0 ≤ i) (h1 : i < l.length) : l.getD i.toNat z ∈ l := by
  rw [List.getD_eq_getElem?_getD, List.getElem?_eq_getElem (by omega)]; exact List.getElem_mem _
theorem set_take {α : Type} (l m : List α) (z : α) (i : Nat) (hi : i < l.length) (hm : m.length = l.length) (h : m.take i = l.take i) :
    (m.set i (l.getD i z)).take (i + 1) = l.take (i + 1) := by
  apply List.ext_getElem?
  intro j
  rw [List.getElem?_take, List.getElem?_take]
  by_cases hj : j < i + 1
  · rw [if_pos hj, if_pos hj]
    by_cases e : j = i
    · subst e
      rw [List.getElem?_set_self (by omega), List.getD_eq_getElem?_getD, List.getElem?_eq_getElem hi]; rfl
    · rw [List.getElem?_set_ne (by omega)]
      have := congrArg (fun t => t[j]?) h
      simp only [List.getElem?_take] at this
      rwa [if_pos (by omega), if_pos (by omega)] at this
  · rw [if_neg hj, if_neg hj]

/-- What the size guard says of a list of numbers. -/
theorem szI (l : List Int) (hl : l.length ≤ 9223372036854775807) (left : Int) (h2 : 0 ≤ left) (h3 : left ≤ 1048576) :
    ∃ r, laws_szIntS.f l left = some r ∧ r ≤ left ∧ -1 ≤ r ∧ (0 ≤ r → (l.length : Int) ≤ left) := by
  have hw : wrap64 (left - (l.length : Int)) = left - (l.length : Int) := wr (by omega) (by omega)
  unfold laws_szIntS.f
  rw [hw]
  by_cases hneg : left - (l.length : Int) < 0
  · exact ⟨-1, by rw [if_pos hneg], by omega, by omega, fun h => by omega⟩
  · exact ⟨left - (l.length : Int), by rw [if_neg hneg], by omega, by omega, fun _ => by omega⟩
theorem toI_loop (l : List Int) (hl : l.length ≤ 1048576) (d : Nat) : ∀ (i : Int) (m : List Int), 0 ≤ i → i + d = l.length → m.length = l.length → m.take i.toNat = l.take i.toNat →
    Ev (fun k => laws_toIntS.l0 k l m i) l := by
  induction d with
  | zero =>
    intro i m h0 h1 hm ht
    have : m = l := by rw [List.take_of_length_le (by omega), List.take_of_length_le (by omega)] at ht; exact ht
    subst this
    exact Ev.step (f := fun _ => some m) (fun k => by rw [laws_toIntS.l0, if_neg (by omega)]) (Ev.now _)
  | succ d ih =>
    intro i m h0 h1 hm ht
    refine Ev.step (f := fun k => laws_toIntS.l0 k l (m.set i.toNat (rd l i)) (i + 1)) (fun k => ?_) (ih (i + 1) _ (by omega) (by omega) (by rw [List.length_set]; exact hm) ?_)
    · rw [laws_toIntS.l0, if_pos (by omega), if_pos h0, if_pos (by omega), wr (by omega) (by omega)]
    · rw [show (i + 1).toNat = i.toNat + 1 by omega]
      exact set_take l m 0 i.toNat (by omega) hm ht
theorem toI (l : List Int) (hl : l.length ≤ 1048576) : Ev (fun k => laws_toIntS.f k l) l := by
  refine Ev.congr (f := fun k => laws_toIntS.l0 k l (List.replicate ((l.length : Int) : Int).toNat 0) 0) (fun k => ?_) (toI_loop l hl l.length 0 _ (by omega) (by omega) (by simp) (by simp))
  unfold laws_toIntS.f
  rw [if_pos (by omega), if_pos (by omega)]
theorem eqI_loop (l : List Int) (hl : l.length ≤ 1048576) (d : Nat) : ∀ i : Int, 0 ≤ i → i + d = l.length → Ev (fun k => laws_eqIntS.l0 k l l i) true := by
  induction d with
  | zero => intro i h0 h1; exact Ev.step (f := fun _ => some true) (fun k => by rw [laws_eqIntS.l0, if_neg (by omega)]) (Ev.now _)
  | succ d ih =>
    intro i h0 h1
    exact Ev.step (f := fun k => laws_eqIntS.l0 k l l (i + 1)) (fun k => by rw [laws_eqIntS.l0, if_pos (by omega), if_pos h0, if_pos (by omega), if_pos rfl, wr (by omega) (by omega)]) (ih (i + 1) (by omega) (by omega))
theorem eqI (l : List Int) (hl : l.length ≤ 1048576) : Ev (fun k => laws_eqIntS.f k l l) true :=
  Ev.congr (f := fun k => laws_eqIntS.l0 k l l 0) (fun k => by unfold laws_eqIntS.f; rw [if_pos rfl]) (eqI_loop l hl l.length 0 (by omega) (by omega))

/-- What the size guard says of a list of texts. -/
theorem szS_loop (l : List ByteArray) (hl : l.length ≤ 9223372036854775807) (hy : ∀ y, y ∈ l → y.size ≤ 9223372036854775807) (d : Nat) : ∀ (i left : Int), 0 ≤ i → i + d = l.length → 0 ≤ left → left ≤ 1048576 →
    ∃ r, Ev (fun k => laws_szStringS.l0 k l left i) r ∧ r ≤ left ∧ -1 ≤ r := by
  induction d with
  | zero =>
    intro i left h0 h1 h2 h3
    exact ⟨left, Ev.step (f := fun _ => some left) (fun k => by rw [laws_szStringS.l0, if_neg (by omega)]) (Ev.now _), by omega, by omega⟩
  | succ d ih =>
    intro i left h0 h1 h2 h3
    have hm := hy _ (getD_mem ByteArray.empty l i h0 (by omega))
    have hw : wrap64 (left - ((rdOf ByteArray.empty l i).size : Int)) = left - ((rdOf ByteArray.empty l i).size : Int) := wr (by unfold rdOf; omega) (by omega)
    by_cases hneg : left - ((rdOf ByteArray.empty l i).size : Int) < 0
    · exact ⟨-1, Ev.step (f := fun _ => some (-1)) (fun k => by rw [laws_szStringS.l0, if_pos (by omega), if_pos h0, hw, if_pos hneg]) (Ev.now _), by omega, by omega⟩
    · obtain ⟨r, hr, ha, hb⟩ := ih (i + 1) (left - ((rdOf ByteArray.empty l i).size : Int)) (by omega) (by omega) (by omega) (by omega)
      refine ⟨r, Ev.step (f := fun k => laws_szStringS.l0 k l (left - ((rdOf ByteArray.empty l i).size : Int)) (i + 1)) (fun k => ?_) hr, by omega, hb⟩
      rw [laws_szStringS.l0, if_pos (by omega), if_pos h0, hw, if_neg hneg, wr (by omega) (by omega)]
theorem szS (l : List ByteArray) (hl : l.length ≤ 9223372036854775807) (hy : ∀ y, y ∈ l → y.size ≤ 9223372036854775807) (left : Int) (h2 : 0 ≤ left) (h3 : left ≤ 1048576) :
    ∃ r, Ev (fun k => laws_szStringS.f k l left) r ∧ r ≤ left ∧ -1 ≤ r ∧ (0 ≤ r → (l.length : Int) ≤ left) := by
  have hw : wrap64 (left - (l.length : Int)) = left - (l.length : Int) := wr (by omega) (by omega)
  by_cases hneg : left - (l.length : Int) < 0
  · exact ⟨-1, Ev.congr (f := fun _ => some (-1)) (fun k => by unfold laws_szStringS.f; rw [hw, if_pos hneg]) (Ev.now _), by omega, by omega, fun h => by omega⟩
  · obtain ⟨r, hr, ha, hb⟩ := szS_loop l hl hy l.length 0 (left - (l.length : Int)) (by omega) (by omega) (by omega) (by omega)
    exact ⟨r, Ev.congr (f := fun k => laws_szStringS.l0 k l (left - (l.length : Int)) 0) (fun k => by unfold laws_szStringS.f; rw [hw, if_neg hneg]) hr, by omega, hb, fun _ => by omega⟩

theorem toS_loop (l : List ByteArray) (hl : l.length ≤ 1048576) (d : Nat) : ∀ (i : Int) (m : List ByteArray), 0 ≤ i → i + d = l.length → m.length = l.length → m.take i.toNat = l.take i.toNat →
    Ev (fun k => laws_toStringS.l0 k l m i) l := by
  induction d with
  | zero =>
    intro i m h0 h1 hm ht
    have : m = l := by rw [List.take_of_length_le (by omega), List.take_of_length_le (by omega)] at ht; exact ht
    subst this
    exact Ev.step (f := fun _ => some m) (fun k => by rw [laws_toStringS.l0, if_neg (by omega)]) (Ev.now _)
  | succ d ih =>
    intro i m h0 h1 hm ht
    refine Ev.step (f := fun k => laws_toStringS.l0 k l (m.set i.toNat (rdOf ByteArray.empty l i)) (i + 1)) (fun k => ?_) (ih (i + 1) _ (by omega) (by omega) (by rw [List.length_set]; exact hm) ?_)
    · rw [laws_toStringS.l0, if_pos (by omega), if_pos h0, if_pos (by omega), wr (by omega) (by omega)]
    · rw [show (i + 1).toNat = i.toNat + 1 by omega]
      exact set_take l m ByteArray.empty i.toNat (by omega) hm ht
theorem toS (l : List ByteArray) (hl : l.length ≤ 1048576) : Ev (fun k => laws_toStringS.f k l) l := by
  refine Ev.congr (f := fun k => laws_toStringS.l0 k l (List.replicate ((l.length : Int) : Int).toNat (⟨#[]⟩ : ByteArray)) 0) (fun k => ?_) (toS_loop l hl l.length 0 _ (by omega) (by omega) (by simp) (by simp))
  unfold laws_toStringS.f
  rw [if_pos (by omega), if_pos (by omega)]

theorem eqS_loop (l : List ByteArray) (hl : l.length ≤ 1048576) (d : Nat) : ∀ i : Int, 0 ≤ i → i + d = l.length → Ev (fun k => laws_eqStringS.l0 k l l i) true := by
  induction d with
  | zero => intro i h0 h1; exact Ev.step (f := fun _ => some true) (fun k => by rw [laws_eqStringS.l0, if_neg (by omega)]) (Ev.now _)
  | succ d ih =>
    intro i h0 h1
    exact Ev.step (f := fun k => laws_eqStringS.l0 k l l (i + 1)) (fun k => by rw [laws_eqStringS.l0, if_pos (by omega), if_pos h0, if_pos (by omega), if_pos rfl, wr (by omega) (by omega)]) (ih (i + 1) (by omega) (by omega))
theorem eqS (l : List ByteArray) (hl : l.length ≤ 1048576) : Ev (fun k => laws_eqStringS.f k l l) true :=
  Ev.congr (f := fun k => laws_eqStringS.l0 k l l 0) (fun k => by unfold laws_eqStringS.f; rw [if_pos rfl]) (eqS_loop l hl l.length 0 (by omega) (by omega))

theorem szB (x y : List Int) (z : List ByteArray) (hx : x.length ≤ 9223372036854775807) (hy : y.length ≤ 9223372036854775807) (hz : z.length ≤ 9223372036854775807) (hb : ∀ b, b ∈ z → b.size ≤ 9223372036854775807) (left : Int) (h2 : 0 ≤ left) (h3 : left ≤ 1048576) :
    ∃ r, Ev (fun k => laws_szBox.f k x y z left) r ∧ r ≤ left ∧ -1 ≤ r ∧ (0 ≤ r → (x.length : Int) ≤ left ∧ (y.length : Int) ≤ left ∧ (z.length : Int) ≤ left) := by
  obtain ⟨r1, e1, a1, b1, c1⟩ := szI x hx left h2 h3
  by_cases n1 : r1 < 0
  · exact ⟨-1, Ev.congr (f := fun _ => some (-1)) (fun k => by unfold laws_szBox.f; rw [e1]; simp only [Option.bind_some, if_pos n1]) (Ev.now _), by omega, by omega, fun h => by omega⟩
  obtain ⟨r2, e2, a2, b2, c2⟩ := szI y hy r1 (by omega) (by omega)
  by_cases n2 : r2 < 0
  · exact ⟨-1, Ev.congr (f := fun _ => some (-1)) (fun k => by unfold laws_szBox.f; rw [e1]; simp only [Option.bind_some, if_neg n1]; rw [e2]; simp only [Option.bind_some, if_pos n2]) (Ev.now _), by omega, by omega, fun h => by omega⟩
  obtain ⟨r3, e3, a3, b3, c3⟩ := szS z hz hb r2 (by omega) (by omega)
  refine ⟨if r3 < 0 then -1 else r3, Ev.congr (f := fun k => (laws_szStringS.f k z r2).bind fun t => if t < 0 then some (-1) else some t) (fun k => by unfold laws_szBox.f; rw [e1]; simp only [Option.bind_some, if_neg n1]; rw [e2]; simp only [Option.bind_some, if_neg n2]) (Ev.bind e3 ?_), ?_, ?_, ?_⟩
  · by_cases n3 : r3 < 0
    · simp only [if_pos n3]; exact Ev.now _
    · simp only [if_neg n3]; exact Ev.now _
  · split <;> omega
  · split <;> omega
  · intro h
    have : ¬ r3 < 0 := by intro c; rw [if_pos c] at h; omega
    have := c1 (by omega); have := c2 (by omega); have := c3 (by omega)
    omega
theorem toB (x y : List Int) (z : List ByteArray) (hx : x.length ≤ 1048576) (hy : y.length ≤ 1048576) (hz : z.length ≤ 1048576) : Ev (fun k => laws_toBox.f k x y z) (x, y, z) := by
  unfold laws_toBox.f
  exact Ev.bind (toI x hx) (Ev.bind (toI y hy) (Ev.bind (toS z hz) (Ev.now _)))
theorem eqB (x y : List Int) (z : List ByteArray) (hx : x.length ≤ 1048576) (hy : y.length ≤ 1048576) (hz : z.length ≤ 1048576) : Ev (fun k => laws_eqBox.f k x y z x y z) true := by
  unfold laws_eqBox.f
  refine Ev.bind (eqI x hx) ?_
  simp only [if_true]
  refine Ev.bind (eqI y hy) ?_
  simp only [if_true]
  refine Ev.bind (eqS z hz) ?_
  simp only [if_true]
  exact Ev.now _

def inB (n lo hi : Int) : Bool := decide (lo ≤ n) && decide (n ≤ hi)
theorem within_is (n lo hi : Int) : impl_within.f n lo hi = some (inB n lo hi) := by
  unfold impl_within.f inB
  by_cases h : lo ≤ n <;> simp [h]

theorem in_is (n lo hi : Int) : spec_l01In.f n lo hi = some (inB n lo hi) := by
  unfold spec_l01In.f inB
  by_cases h : lo ≤ n
  · rw [if_pos h]; simp [h]
  · rw [if_neg h]; simp [h]

theorem rd_at (l : List Int) (k : Nat) (hk : k < l.length) : rd l (k : Int) = l[k] := by
  simp [rd, List.getD_eq_getElem?_getD, List.getElem?_eq_getElem hk]
/-- Where a number stands first, looked for from place i on. -/
def firstAt (l : List Int) (a : Int) : Nat → Nat → Int
  | _, 0 => -1
  | i, d + 1 => if rd l (i : Int) = a then (i : Int) else firstAt l a (i + 1) d
theorem firstAt_skip (l : List Int) (a : Int) : ∀ (i d : Nat), i + d = l.length → a ∉ l.take i → firstAt l a 0 l.length = firstAt l a i d
  | 0, d, h, _ => by rw [show d = l.length by omega]
  | i + 1, d, h, hn => by
    rw [box_mem_take l i (by omega)] at hn
    have h1 : ¬ rd l (i : Int) = a := fun c => hn (.inl c.symm)
    rw [firstAt_skip l a i (d + 1) (by omega) (fun c => hn (.inr c)), firstAt, if_neg h1]
theorem firstAt_mem (l : List Int) (a : Int) : ∀ (i : Nat), i ≤ l.length → a ∈ l.take i → firstAt l a 0 l.length < (i : Int)
  | 0, _, hm => by simp at hm
  | i + 1, h, hm => by
    by_cases hi : a ∈ l.take i
    · have := firstAt_mem l a i (by omega) hi; omega
    · rw [box_mem_take l i (by omega)] at hm
      have h1 : rd l (i : Int) = a := by rcases hm with h | h; exact h.symm; exact absurd h hi
      rw [firstAt_skip l a i (l.length - (i + 1) + 1) (by omega) hi, firstAt, if_pos h1]; omega
theorem firstAt_at (l : List Int) (i : Nat) (hi : i < l.length) : firstAt l (rd l (i : Int)) 0 l.length = (i : Int) ↔ rd l (i : Int) ∉ l.take i := by
  constructor
  · intro h c
    have := firstAt_mem l _ i (by omega) c
    omega
  · intro h
    rw [firstAt_skip l _ i (l.length - (i + 1) + 1) (by omega) h, firstAt, if_pos rfl]
theorem firstAt_range (l : List Int) (a : Int) : ∀ (d i : Nat), i + d = l.length → -1 ≤ firstAt l a i d ∧ firstAt l a i d < l.length
  | 0, i, h => by simp [firstAt]; omega
  | d + 1, i, h => by
    rw [firstAt]
    by_cases h1 : rd l (i : Int) = a
    · rw [if_pos h1]; omega
    · rw [if_neg h1]; exact firstAt_range l a d (i + 1) (by omega)
theorem at_loop (ids times : List Int) (bodies : List ByteArray) (hl : ids.length ≤ 1048576) (a : Int) : ∀ (d i : Nat), i + d = ids.length → Ev (fun k => spec_l11At.l0 k a (i : Int) ids times bodies) (firstAt ids a i d)
  | 0, i, h => Ev.step (f := fun _ => some (-1)) (fun k => by rw [spec_l11At.l0, if_neg (by omega)]) (Ev.now _)
  | d + 1, i, h => by
    by_cases h1 : rd ids (i : Int) = a
    · refine Ev.step (f := fun _ => some (firstAt ids a i (d + 1))) (fun k => ?_) (Ev.now _)
      rw [spec_l11At.l0, if_pos (by omega), if_pos (by omega), if_pos h1, firstAt, if_pos h1]
    · have hf : firstAt ids a i (d + 1) = firstAt ids a (i + 1) d := by rw [firstAt, if_neg h1]
      rw [hf]
      refine Ev.step (f := fun k => spec_l11At.l0 k a ((i + 1 : Nat) : Int) ids times bodies) (fun k => ?_) (at_loop ids times bodies hl a d (i + 1) (by omega))
      rw [spec_l11At.l0, if_pos (by omega), if_pos (by omega), if_neg h1, wr (by omega) (by omega)]; rfl
theorem at_spec (ids times : List Int) (bodies : List ByteArray) (hl : ids.length ≤ 1048576) (a : Int) : Ev (fun k => spec_l11At.f k ids times bodies a) (firstAt ids a 0 ids.length) := by
  unfold spec_l11At.f
  exact at_loop ids times bodies hl a ids.length 0 (by omega)
theorem in_true {x : Int} (h : 1 ≤ x ∧ x ≤ 1000000) : spec_l01In.f x 1 1000000 = some true := by
  unfold spec_l01In.f; rw [if_pos h.1, decide_eq_true h.2]
theorem in_false {x : Int} (h : ¬ (1 ≤ x ∧ x ≤ 1000000)) : spec_l01In.f x 1 1000000 = some false := by
  unfold spec_l01In.f
  by_cases h1 : x ≥ 1
  · rw [if_pos h1, decide_eq_false (by omega)]
  · rw [if_neg h1]
theorem ok_loop (ids times : List Int) (bodies : List ByteArray) (hl : ids.length ≤ 1048576) (ht : times.length = ids.length) (hb : bodies.length = ids.length) : ∀ (d i : Nat), i + d = ids.length → Ev (fun k => spec_l11OK.l0 k (ids.length : Int) (i : Int) ids times bodies) (boxGo ids times bodies i d)
  | 0, i, h => Ev.step (f := fun _ => some true) (fun k => by rw [spec_l11OK.l0, if_neg (by omega)]) (Ev.now _)
  | d + 1, i, h => by
    have g0 : (i : Int) < (ids.length : Int) := by omega
    have g1 : (i : Int) < (times.length : Int) := by omega
    have g2 : (i : Int) < (bodies.length : Int) := by omega
    have gz : (0 : Int) ≤ (i : Int) := by omega
    by_cases b2 : 1 ≤ rd ids (i : Int) ∧ rd ids (i : Int) ≤ 1000000
    rotate_left
    · rw [show boxGo ids times bodies i (d + 1) = false by unfold boxGo; rw [if_pos (.inr (.inl b2))]]
      exact Ev.step (f := fun _ => some false) (fun k => by rw [spec_l11OK.l0, if_pos g0, if_pos gz, if_pos g0, in_false b2]; simp) (Ev.now _)
    by_cases b3 : 1 ≤ rd times (i : Int) ∧ rd times (i : Int) ≤ 1000000
    rotate_left
    · rw [show boxGo ids times bodies i (d + 1) = false by unfold boxGo; rw [if_pos (.inr (.inr (.inl b3)))]]
      exact Ev.step (f := fun _ => some false) (fun k => by rw [spec_l11OK.l0, if_pos g0, if_pos gz, if_pos g0, in_true b2]; simp only [Option.bind_some, if_true]; rw [if_pos g1, in_false b3]; simp) (Ev.now _)
    by_cases b4 : (rdOf ByteArray.empty bodies (i : Int)).size > 8000
    · rw [show boxGo ids times bodies i (d + 1) = false by unfold boxGo; rw [if_pos (.inr (.inr (.inr b4)))]]
      exact Ev.step (f := fun _ => some false) (fun k => by rw [spec_l11OK.l0, if_pos g0, if_pos gz, if_pos g0, in_true b2]; simp only [Option.bind_some, if_true]; rw [if_pos g1, in_true b3]; simp only [Option.bind_some, if_true]; rw [if_pos g2, if_pos (by omega)]) (Ev.now _)
    refine Ev.step (f := fun k => (spec_l11At.f k ids times bodies (rd ids (i : Int))).bind fun t => if t = (i : Int) then spec_l11OK.l0 k (ids.length : Int) ((i + 1 : Nat) : Int) ids times bodies else some false) (fun k => ?_) (Ev.bind (at_spec ids times bodies hl _) ?_)
    · rw [spec_l11OK.l0, if_pos g0, if_pos gz, if_pos g0, in_true b2]; simp only [Option.bind_some, if_true]; rw [if_pos g1, in_true b3]; simp only [Option.bind_some, if_true]; rw [if_pos g2, if_neg (by omega), wr (by omega) (by omega)]; rfl
    · by_cases b1 : rd ids (i : Int) ∈ ids.take i
      · rw [show boxGo ids times bodies i (d + 1) = false by unfold boxGo; rw [if_pos (.inl b1)]]
        have : ¬ firstAt ids (rd ids (i : Int)) 0 ids.length = (i : Int) := by rw [firstAt_at _ _ (by omega)]; exact fun c => c b1
        simp only [if_neg this]
        exact Ev.now _
      · rw [show boxGo ids times bodies i (d + 1) = boxGo ids times bodies (i + 1) d by
          conv => lhs; unfold boxGo
          rw [if_neg]; rintro (h | h | h | h)
          · exact b1 h
          · exact h b2
          · exact h b3
          · exact b4 h]
        have : firstAt ids (rd ids (i : Int)) 0 ids.length = (i : Int) := (firstAt_at _ _ (by omega)).2 b1
        simp only [if_pos this]
        exact ok_loop ids times bodies hl ht hb d (i + 1) (by omega)
/-- The two say the same of a box. -/
theorem boxOK_same (ids times : List Int) (bodies : List ByteArray) (hl : ids.length ≤ 1048576) (hw : ∀ x, x ∈ ids → (Lit.int .i64 x).wf = true) :
    ∃ b, Ev (fun k => spec_l11OK.f k ids times bodies) b ∧ impl_BoxOK.f ids times bodies = some b ∧ (b = true → times.length = ids.length ∧ bodies.length = ids.length) := by
  unfold impl_BoxOK.f
  rw [if_pos hw]
  refine ⟨_, ?_, rfl, ?_⟩
  · by_cases h1 : 4096 < ids.length
    · rw [if_pos (.inl h1)]
      refine Ev.congr (f := fun k => spec_l11OK.j0 k (ids.length : Int) true ids times bodies) (fun k => by unfold spec_l11OK.f; rw [if_pos (by omega)]) ?_
      exact Ev.step (f := fun _ => some false) (fun k => by rw [spec_l11OK.j0]; simp) (Ev.now _)
    by_cases h2 : times.length = ids.length
    · refine Ev.congr (f := fun k => spec_l11OK.j0 k (ids.length : Int) ((bodies.length : Int) != (ids.length : Int)) ids times bodies) (fun k => by unfold spec_l11OK.f; rw [if_neg (by omega), if_pos (by omega)]) ?_
      by_cases h3 : bodies.length = ids.length
      · rw [if_neg (by omega), (box_len _ _ h3).2.1]
        refine Ev.step (f := fun k => spec_l11OK.l0 k (ids.length : Int) ((0 : Nat) : Int) ids times bodies) (fun k => by rw [spec_l11OK.j0]; simp) ?_
        exact ok_loop ids times bodies hl h2 h3 ids.length 0 (by omega)
      · rw [if_pos (.inr (.inr h3)), (box_len_ne _ _ h3).2.1]
        exact Ev.step (f := fun _ => some false) (fun k => by rw [spec_l11OK.j0]; simp) (Ev.now _)
    · rw [if_pos (.inr (.inl h2))]
      refine Ev.congr (f := fun k => spec_l11OK.j0 k (ids.length : Int) true ids times bodies) (fun k => by unfold spec_l11OK.f; rw [if_neg (by omega), if_neg (by omega)]) ?_
      exact Ev.step (f := fun _ => some false) (fun k => by rw [spec_l11OK.j0]; simp) (Ev.now _)
  · intro h
    by_cases hb : 4096 < ids.length ∨ times.length ≠ ids.length ∨ bodies.length ≠ ids.length
    · rw [if_pos hb] at h; cases h
    · omega

def sameS (l m : List ByteArray) : Nat → Nat → Bool
  | _, 0 => true
  | i, d + 1 => if (rdOf ByteArray.empty l (i : Int)).toList = (rdOf ByteArray.empty m (i : Int)).toList then sameS l m (i + 1) d else false
theorem sameS_spec (l m : List ByteArray) (hl : l.length ≤ 1048576) (hm : l.length = m.length) : ∀ (d i : Nat), i + d = l.length → Ev (fun k => spec_l00SameTexts.l0 k l m (i : Int)) (sameS l m i d)
  | 0, i, h => Ev.step (f := fun _ => some true) (fun k => by rw [spec_l00SameTexts.l0, if_neg (by omega)]) (Ev.now _)
  | d + 1, i, h => by
    by_cases h1 : (rdOf ByteArray.empty l (i : Int)).toList = (rdOf ByteArray.empty m (i : Int)).toList
    · rw [show sameS l m i (d + 1) = sameS l m (i + 1) d by rw [sameS, if_pos h1]]
      refine Ev.step (f := fun k => spec_l00SameTexts.l0 k l m ((i + 1 : Nat) : Int)) (fun k => ?_) (sameS_spec l m hl hm d (i + 1) (by omega))
      rw [spec_l00SameTexts.l0, if_pos (by omega), if_pos (by omega), if_pos (by omega), if_pos h1, wr (by omega) (by omega)]; rfl
    · rw [show sameS l m i (d + 1) = false by rw [sameS, if_neg h1]]
      exact Ev.step (f := fun _ => some false) (fun k => by rw [spec_l00SameTexts.l0, if_pos (by omega), if_pos (by omega), if_pos (by omega), if_neg h1]) (Ev.now _)
theorem sameS_impl (l m : List ByteArray) (hl : l.length ≤ 1048576) (hm : l.length = m.length) : ∀ (d i : Nat), i + d = l.length → Ev (fun k => slices_Equal_string_string.l0 k l m (l.length : Int) (i : Int)) (sameS l m i d)
  | 0, i, h => Ev.step (f := fun _ => some true) (fun k => by rw [slices_Equal_string_string.l0, if_neg (by omega)]) (Ev.now _)
  | d + 1, i, h => by
    by_cases h1 : (rdOf ByteArray.empty l (i : Int)).toList = (rdOf ByteArray.empty m (i : Int)).toList
    · rw [show sameS l m i (d + 1) = sameS l m (i + 1) d by rw [sameS, if_pos h1]]
      refine Ev.step (f := fun k => slices_Equal_string_string.l0 k l m (l.length : Int) ((i + 1 : Nat) : Int)) (fun k => ?_) (sameS_impl l m hl hm d (i + 1) (by omega))
      rw [slices_Equal_string_string.l0, if_pos (by omega), if_pos (by omega), if_pos (by omega), if_pos (by omega), if_pos h1, wr (by omega) (by omega)]; rfl
    · rw [show sameS l m i (d + 1) = false by rw [sameS, if_neg h1]]
      exact Ev.step (f := fun _ => some false) (fun k => by rw [slices_Equal_string_string.l0, if_pos (by omega), if_pos (by omega), if_pos (by omega), if_pos (by omega), if_neg h1]) (Ev.now _)
theorem texts_same (l m : List ByteArray) (hl : l.length ≤ 1048576) : ∃ b, Ev (fun k => spec_l00SameTexts.f k l m) b ∧ Ev (fun k => slices_Equal_string_string.f k l m) b := by
  by_cases h : l.length = m.length
  · refine ⟨sameS l m 0 l.length, ?_, ?_⟩
    · exact Ev.congr (f := fun k => spec_l00SameTexts.l0 k l m ((0 : Nat) : Int)) (fun k => by unfold spec_l00SameTexts.f; rw [if_pos (by omega)]; rfl) (sameS_spec l m hl h l.length 0 (by omega))
    · exact Ev.congr (f := fun k => slices_Equal_string_string.l0 k l m (l.length : Int) ((0 : Nat) : Int)) (fun k => by unfold slices_Equal_string_string.f; rw [if_pos (by omega)]; rfl) (sameS_impl l m hl h l.length 0 (by omega))
  · exact ⟨false, Ev.congr (f := fun _ => some false) (fun k => by unfold spec_l00SameTexts.f; rw [if_neg (by omega)]) (Ev.now _), Ev.congr (f := fun _ => some false) (fun k => by unfold slices_Equal_string_string.f; rw [if_neg (by omega)]) (Ev.now _)⟩

/-- Two comparisons of lists of numbers: the reference's and the library's. -/
def sameI (l m : List Int) : Nat → Nat → Bool
  | _, 0 => true
  | i, d + 1 => if rd l (i : Int) = rd m (i : Int) then sameI l m (i + 1) d else false
theorem sameI_spec (l m : List Int) (hl : l.length ≤ 1048576) (hm : l.length = m.length) : ∀ (d i : Nat), i + d = l.length → Ev (fun k => spec_l00Same.l0 k l m (i : Int)) (sameI l m i d)
  | 0, i, h => Ev.step (f := fun _ => some true) (fun k => by rw [spec_l00Same.l0, if_neg (by omega)]) (Ev.now _)
  | d + 1, i, h => by
    by_cases h1 : rd l (i : Int) = rd m (i : Int)
    · rw [show sameI l m i (d + 1) = sameI l m (i + 1) d by rw [sameI, if_pos h1]]
      refine Ev.step (f := fun k => spec_l00Same.l0 k l m ((i + 1 : Nat) : Int)) (fun k => ?_) (sameI_spec l m hl hm d (i + 1) (by omega))
      rw [spec_l00Same.l0, if_pos (by omega), if_pos (by omega), if_pos (by omega), if_pos h1, wr (by omega) (by omega)]; rfl
    · rw [show sameI l m i (d + 1) = false by rw [sameI, if_neg h1]]
      exact Ev.step (f := fun _ => some false) (fun k => by rw [spec_l00Same.l0, if_pos (by omega), if_pos (by omega), if_pos (by omega), if_neg h1]) (Ev.now _)
theorem sameI_impl (l m : List Int) (hl : l.length ≤ 1048576) (hm : l.length = m.length) : ∀ (d i : Nat), i + d = l.length → Ev (fun k => slices_Equal_int_int.l0 k l m (l.length : Int) (i : Int)) (sameI l m i d)
  | 0, i, h => Ev.step (f := fun _ => some true) (fun k => by rw [slices_Equal_int_int.l0, if_neg (by omega)]) (Ev.now _)
  | d + 1, i, h => by
    by_cases h1 : rd l (i : Int) = rd m (i : Int)
    · rw [show sameI l m i (d + 1) = sameI l m (i + 1) d by rw [sameI, if_pos h1]]
      refine Ev.step (f := fun k => slices_Equal_int_int.l0 k l m (l.length : Int) ((i + 1 : Nat) : Int)) (fun k => ?_) (sameI_impl l m hl hm d (i + 1) (by omega))
      rw [slices_Equal_int_int.l0, if_pos (by omega), if_pos (by omega), if_pos (by omega), if_pos (by omega), if_pos h1, wr (by omega) (by omega)]; rfl
    · rw [show sameI l m i (d + 1) = false by rw [sameI, if_neg h1]]
      exact Ev.step (f := fun _ => some false) (fun k => by rw [slices_Equal_int_int.l0, if_pos (by omega), if_pos (by omega), if_pos (by omega), if_pos (by omega), if_neg h1]) (Ev.now _)
theorem ints_same (l m : List Int) (hl : l.length ≤ 1048576) : ∃ b, Ev (fun k => spec_l00Same.f k l m) b ∧ Ev (fun k => slices_Equal_int_int.f k l m) b := by
  by_cases h : l.length = m.length
  · refine ⟨sameI l m 0 l.length, ?_, ?_⟩
    · exact Ev.congr (f := fun k => spec_l00Same.l0 k l m ((0 : Nat) : Int)) (fun k => by unfold spec_l00Same.f; rw [if_pos (by omega)]; rfl) (sameI_spec l m hl h l.length 0 (by omega))
    · exact Ev.congr (f := fun k => slices_Equal_int_int.l0 k l m (l.length : Int) ((0 : Nat) : Int)) (fun k => by unfold slices_Equal_int_int.f; rw [if_pos (by omega)]; rfl) (sameI_impl l m hl h l.length 0 (by omega))
  · exact ⟨false, Ev.congr (f := fun _ => some false) (fun k => by unfold spec_l00Same.f; rw [if_neg (by omega)]) (Ev.now _), Ev.congr (f := fun _ => some false) (fun k => by unfold slices_Equal_int_int.f; rw [if_neg (by omega)]) (Ev.now _)⟩

theorem sameBox (x y : List Int) (z : List ByteArray) (x' y' : List Int) (z' : List ByteArray) (hx : x.length ≤ 1048576) (wx : ∀ v, v ∈ x → (Lit.int .i64 v).wf = true) (hy : y.length ≤ 1048576) (hz : z.length ≤ 1048576)
    (hx' : x'.length ≤ 1048576) (wx' : ∀ v, v ∈ x' → (Lit.int .i64 v).wf = true) : ∃ b, Ev (fun k => spec_SameBox.f k x y z x' y' z') b ∧ Ev (fun k => impl_SameBox.f k x y z x' y' z') b := by
  obtain ⟨b1, p1, p2, _⟩ := boxOK_same x y z hx wx
  obtain ⟨b2, q1, q2, _⟩ := boxOK_same x' y' z' hx' wx'
  obtain ⟨b3, r1, r2⟩ := ints_same x x' hx
  obtain ⟨b4, s1, s2⟩ := ints_same y y' hy
  obtain ⟨b5, t1, t2⟩ := texts_same z z' hz
  refine ⟨if b1 = true then if b2 = true then if b3 = true then if b4 = true then b5 else false else false else false else false, ?_, ?_⟩
  · unfold spec_SameBox.f spec_l11Same.f
    refine Ev.bind p1 ?_
    cases b1
    · simp only [Bool.false_eq_true, if_false]; exact Ev.now _
    simp only [if_true]
    refine Ev.bind q1 ?_
    cases b2
    · simp only [Bool.false_eq_true, if_false]; exact Ev.now _
    simp only [if_true]
    refine Ev.bind (Ev.bind r1 ?_) (Ev.now _)
    cases b3
    · simp only [Bool.false_eq_true, if_false]; exact Ev.now _
    simp only [if_true]
    refine Ev.bind s1 ?_
    cases b4
    · simp only [Bool.false_eq_true, if_false]; exact Ev.now _
    simp only [if_true]
    exact Ev.bind t1 (Ev.now _)
  · unfold impl_SameBox.f
    rw [p2]
    simp only [Option.bind_some]
    cases b1
    · simp only [Bool.false_eq_true, if_false]; exact Ev.now _
    simp only [if_true]
    rw [q2]
    simp only [Option.bind_some]
    cases b2
    · simp only [Bool.false_eq_true, if_false]; exact Ev.now _
    simp only [if_true]
    refine Ev.bind r2 ?_
    cases b3
    · simp only [Bool.false_eq_true, if_false]; exact Ev.now _
    simp only [if_true]
    refine Ev.bind s2 ?_
    cases b4
    · simp only [Bool.false_eq_true, if_false]; exact Ev.now _
    simp only [if_true]
    exact Ev.bind t2 (Ev.now _)
theorem FnExactSameBox : (∀ (l0_0 : List Int) (l0_1 : List Int) (l0_2 : List ByteArray) (l1_0 : List Int) (l1_1 : List Int) (l1_2 : List ByteArray), (l0_0.length ≤ 9223372036854775807 ∧ ∀ y_, y_ ∈ l0_0 → (Lit.int .i64 y_).wf = true) → (l0_1.length ≤ 9223372036854775807 ∧ ∀ y_, y_ ∈ l0_1 → (Lit.int .i64 y_).wf = true) → (l0_2.length ≤ 9223372036854775807 ∧ ∀ y_, y_ ∈ l0_2 → y_.size ≤ 9223372036854775807) → (l1_0.length ≤ 9223372036854775807 ∧ ∀ y_, y_ ∈ l1_0 → (Lit.int .i64 y_).wf = true) → (l1_1.length ≤ 9223372036854775807 ∧ ∀ y_, y_ ∈ l1_1 → (Lit.int .i64 y_).wf = true) → (l1_2.length ≤ 9223372036854775807 ∧ ∀ y_, y_ ∈ l1_2 → y_.size ≤ 9223372036854775807) → ∃ k, laws_FnExactSameBox.f k l0_0 l0_1 l0_2 l1_0 l1_1 l1_2 = some true) := by
  intro x y z x' y' z' ⟨hx, wx⟩ ⟨hy, _⟩ ⟨hz, hb⟩ ⟨hx', wx'⟩ ⟨hy', _⟩ ⟨hz', hb'⟩
  refine Ev.rounds ?_
  obtain ⟨r, e1, a1, _, hr⟩ := szB x y z hx hy hz hb 1048576 (by omega) (by omega)
  unfold laws_FnExactSameBox.f
  refine Ev.bind e1 ?_
  by_cases hneg : r < 0
  · simp only [if_pos hneg]; exact Ev.now _
  simp only [if_neg hneg]
  obtain ⟨h1, h2, h3⟩ := hr (by omega)
  obtain ⟨r', e1', _, _, hr'⟩ := szB x' y' z' hx' hy' hz' hb' r (by omega) (by omega)
  refine Ev.bind e1' ?_
  by_cases hneg' : r' < 0
  · simp only [if_pos hneg']; exact Ev.now _
  simp only [if_neg hneg']
  obtain ⟨h1', h2', h3'⟩ := hr' (by omega)
  have t := toB x y z (by omega) (by omega) (by omega)
  have t' := toB x' y' z' (by omega) (by omega) (by omega)
  obtain ⟨b, q1, q2⟩ := sameBox x y z x' y' z' (by omega) wx (by omega) (by omega) (by omega) wx'
  refine Ev.bind t (Ev.bind t' (Ev.bind q1 (Ev.bind t (Ev.bind t' (Ev.bind q2 ?_)))))
  simp only [bne_self_eq_false, Bool.false_eq_true, if_false]
  refine Ev.bind t (Ev.bind (eqB x y z (by omega) (by omega) (by omega)) ?_)
  simp only [if_true]
  refine Ev.bind t' (Ev.bind (eqB x' y' z' (by omega) (by omega) (by omega)) ?_)
  simp only [if_true]
  exact Ev.now _

end Go.Proofs.Ytmfnaaeglfhnmaa.Pure
