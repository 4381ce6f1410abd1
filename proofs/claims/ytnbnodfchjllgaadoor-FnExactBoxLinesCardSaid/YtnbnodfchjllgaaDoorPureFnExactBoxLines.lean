/- The program's BoxLines answers as the reference's at every box, leaves the box as it was, and hands back memory of its own; no condition. -/
import Derived.Test.YtnbnodfchjllgaaDoorQFnExactBoxLinesx8
import Derived.Lib.ItoaLen
set_option linter.unusedVariables false
set_option linter.unusedSimpArgs false
namespace Go.Proofs.YtnbnodfchjllgaaDoor.Pure
open Go.RowKit Go.Proofs.YtnbnodfchjllgaaDoor.QFnExactBoxLines Go.Proofs.YtnbnodfchjllgaaDoorW.PrintWords Go.Proofs.YtnbnodfchjllgaaDoorW.PrintLast

theorem wr {x : Int} (h0 : -9223372036854775808 ≤ x) (h1 : x ≤ 9223372036854775807) : wrap64 x = x := by unfold wrap64; omega

/-- A loop over a list, from place i on: one round, or the end. -/
theorem rdOf_at {α : Type} (z : α) (l : List α) (i : Int) (h0 : 0 ≤ i) (h1 : i < l.length) : l[i.toNat]? = some (l.getD i.toNat z) := by
  rw [List.getD_eq_getElem?_getD, List.getElem?_eq_getElem (by omega)]; rfl
theorem getD_mem {α : Type} (z : α) (l : List α) (i : Int) (h0 : 0 ≤ i) (h1 : i < l.length) : l.getD i.toNat z ∈ l := by
  rw [List.getD_eq_getElem?_getD, List.getElem?_eq_getElem (by omega)]; exact List.getElem_mem _
theorem set_take {α : Type} (l m : List α) (z : α) (i : Nat) (hi : i < l.length) (hm : m.length = l.length) (h : m.take i = l.take i) :
    (m.set i (l.getD i z)).take (i + 1) = l.take (i + 1) := by
  apply List.ext_getElem?
  intro j
  rw [List.getElem?_take, List.getElem?_take]
  by_cases hj : j < i + 1
  · rw [if_pos hj, if_pos hj]
    by_cases e : j = i
    · subst e
      rw [List.getElem?_set_self (by omega), List.getD_eq_getElem?_getD, List.getElem?_eq_getElem hi]; rfl
    · rw [List.getElem?_set_ne (by omega)]
      have := congrArg (fun t => t[j]?) h
      simp only [List.getElem?_take] at this
      rwa [if_pos (by omega), if_pos (by omega)] at this
  · rw [if_neg hj, if_neg hj]

/-- What the size guard says of a list of numbers. -/
theorem szI (l : List Int) (hl : l.length ≤ 9223372036854775807) (left : Int) (h2 : 0 ≤ left) (h3 : left ≤ 1048576) :
    ∃ r, laws_szIntS.f l left = some r ∧ r ≤ left ∧ -1 ≤ r ∧ (0 ≤ r → (l.length : Int) ≤ left) := by
  have hw : wrap64 (left - (l.length : Int)) = left - (l.length : Int) := wr (by omega) (by omega)
  unfold laws_szIntS.f
  rw [hw]
  by_cases hneg : left - (l.length : Int) < 0
  · exact ⟨-1, by rw [if_pos hneg], by omega, by omega, fun h => by omega⟩
  · exact ⟨left - (l.length : Int), by rw [if_neg hneg], by omega, by omega, fun _ => by omega⟩
theorem toI_loop (l : List Int) (hl : l.length ≤ 1048576) (d : Nat) : ∀ (i : Int) (m : List Int), 0 ≤ i → i + d = l.length → m.length = l.length → m.take i.toNat = l.take i.toNat →
    Ev (fun k => laws_toIntS.l0 k l m i) l := by
  induction d with
  | zero =>
    intro i m h0 h1 hm ht
    have : m = l := by rw [List.take_of_length_le (by omega), List.take_of_length_le (by omega)] at ht; exact ht
    subst this
    exact Ev.step (f := fun _ => some m) (fun k => by rw [laws_toIntS.l0, if_neg (by omega)]) (Ev.now _)
  | succ d ih =>
    intro i m h0 h1 hm ht
    refine Ev.step (f := fun k => laws_toIntS.l0 k l (m.set i.toNat (rd l i)) (i + 1)) (fun k => ?_) (ih (i + 1) _ (by omega) (by omega) (by rw [List.length_set]; exact hm) ?_)
    · rw [laws_toIntS.l0, if_pos (by omega), if_pos h0, if_pos (by omega), wr (by omega) (by omega)]
    · rw [show (i + 1).toNat = i.toNat + 1 by omega]
      exact set_take l m 0 i.toNat (by omega) hm ht
theorem toI (l : List Int) (hl : l.length ≤ 1048576) : Ev (fun k => laws_toIntS.f k l) l := by
  refine Ev.congr (f := fun k => laws_toIntS.l0 k l (List.replicate ((l.length : Int) : Int).toNat 0) 0) (fun k => ?_) (toI_loop l hl l.length 0 _ (by omega) (by omega) (by simp) (by simp))
  unfold laws_toIntS.f
  rw [if_pos (by omega), if_pos (by omega)]
theorem eqI_loop (l : List Int) (hl : l.length ≤ 1048576) (d : Nat) : ∀ i : Int, 0 ≤ i → i + d = l.length → Ev (fun k => laws_eqIntS.l0 k l l i) true := by
  induction d with
  | zero => intro i h0 h1; exact Ev.step (f := fun _ => some true) (fun k => by rw [laws_eqIntS.l0, if_neg (by omega)]) (Ev.now _)
  | succ d ih =>
    intro i h0 h1
    exact Ev.step (f := fun k => laws_eqIntS.l0 k l l (i + 1)) (fun k => by rw [laws_eqIntS.l0, if_pos (by omega), if_pos h0, if_pos (by omega), if_pos rfl, wr (by omega) (by omega)]) (ih (i + 1) (by omega) (by omega))
theorem eqI (l : List Int) (hl : l.length ≤ 1048576) : Ev (fun k => laws_eqIntS.f k l l) true :=
  Ev.congr (f := fun k => laws_eqIntS.l0 k l l 0) (fun k => by unfold laws_eqIntS.f; rw [if_pos rfl]) (eqI_loop l hl l.length 0 (by omega) (by omega))

/-- What the size guard says of a list of texts. -/
theorem szS_loop (l : List ByteArray) (hl : l.length ≤ 9223372036854775807) (hy : ∀ y, y ∈ l → y.size ≤ 9223372036854775807) (d : Nat) : ∀ (i left : Int), 0 ≤ i → i + d = l.length → 0 ≤ left → left ≤ 1048576 →
    ∃ r, Ev (fun k => laws_szStringS.l0 k l left i) r ∧ r ≤ left ∧ -1 ≤ r := by
  induction d with
  | zero =>
    intro i left h0 h1 h2 h3
    exact ⟨left, Ev.step (f := fun _ => some left) (fun k => by rw [laws_szStringS.l0, if_neg (by omega)]) (Ev.now _), by omega, by omega⟩
  | succ d ih =>
    intro i left h0 h1 h2 h3
    have hm := hy _ (getD_mem ByteArray.empty l i h0 (by omega))
    have hw : wrap64 (left - ((rdOf ByteArray.empty l i).size : Int)) = left - ((rdOf ByteArray.empty l i).size : Int) := wr (by unfold rdOf; omega) (by omega)
    by_cases hneg : left - ((rdOf ByteArray.empty l i).size : Int) < 0
    · exact ⟨-1, Ev.step (f := fun _ => some (-1)) (fun k => by rw [laws_szStringS.l0, if_pos (by omega), if_pos h0, hw, if_pos hneg]) (Ev.now _), by omega, by omega⟩
    · obtain ⟨r, hr, ha, hb⟩ := ih (i + 1) (left - ((rdOf ByteArray.empty l i).size : Int)) (by omega) (by omega) (by omega) (by omega)
      refine ⟨r, Ev.step (f := fun k => laws_szStringS.l0 k l (left - ((rdOf ByteArray.empty l i).size : Int)) (i + 1)) (fun k => ?_) hr, by omega, hb⟩
      rw [laws_szStringS.l0, if_pos (by omega), if_pos h0, hw, if_neg hneg, wr (by omega) (by omega)]
theorem szS (l : List ByteArray) (hl : l.length ≤ 9223372036854775807) (hy : ∀ y, y ∈ l → y.size ≤ 9223372036854775807) (left : Int) (h2 : 0 ≤ left) (h3 : left ≤ 1048576) :
    ∃ r, Ev (fun k => laws_szStringS.f k l left) r ∧ r ≤ left ∧ -1 ≤ r ∧ (0 ≤ r → (l.length : Int) ≤ left) := by
  have hw : wrap64 (left - (l.length : Int)) = left - (l.length : Int) := wr (by omega) (by omega)
  by_cases hneg : left - (l.length : Int) < 0
  · exact ⟨-1, Ev.congr (f := fun _ => some (-1)) (fun k => by unfold laws_szStringS.f; rw [hw, if_pos hneg]) (Ev.now _), by omega, by omega, fun h => by omega⟩
  · obtain ⟨r, hr, ha, hb⟩ := szS_loop l hl hy l.length 0 (left - (l.length : Int)) (by omega) (by omega) (by omega) (by omega)
    exact ⟨r, Ev.congr (f := fun k => laws_szStringS.l0 k l (left - (l.length : Int)) 0) (fun k => by unfold laws_szStringS.f; rw [hw, if_neg hneg]) hr, by omega, hb, fun _ => by omega⟩

theorem toS_loop (l : List ByteArray) (hl : l.length ≤ 1048576) (d : Nat) : ∀ (i : Int) (m : List ByteArray), 0 ≤ i → i + d = l.length → m.length = l.length → m.take i.toNat = l.take i.toNat →
    Ev (fun k => laws_toStringS.l0 k l m i) l := by
  induction d with
  | zero =>
    intro i m h0 h1 hm ht
    have : m = l := by rw [List.take_of_length_le (by omega), List.take_of_length_le (by omega)] at ht; exact ht
    subst this
    exact Ev.step (f := fun _ => some m) (fun k => by rw [laws_toStringS.l0, if_neg (by omega)]) (Ev.now _)
  | succ d ih =>
    intro i m h0 h1 hm ht
    refine Ev.step (f := fun k => laws_toStringS.l0 k l (m.set i.toNat (rdOf ByteArray.empty l i)) (i + 1)) (fun k => ?_) (ih (i + 1) _ (by omega) (by omega) (by rw [List.length_set]; exact hm) ?_)
    · rw [laws_toStringS.l0, if_pos (by omega), if_pos h0, if_pos (by omega), wr (by omega) (by omega)]
    · rw [show (i + 1).toNat = i.toNat + 1 by omega]
      exact set_take l m ByteArray.empty i.toNat (by omega) hm ht
theorem toS (l : List ByteArray) (hl : l.length ≤ 1048576) : Ev (fun k => laws_toStringS.f k l) l := by
  refine Ev.congr (f := fun k => laws_toStringS.l0 k l (List.replicate ((l.length : Int) : Int).toNat (⟨#[]⟩ : ByteArray)) 0) (fun k => ?_) (toS_loop l hl l.length 0 _ (by omega) (by omega) (by simp) (by simp))
  unfold laws_toStringS.f
  rw [if_pos (by omega), if_pos (by omega)]

theorem eqS_loop (l : List ByteArray) (hl : l.length ≤ 1048576) (d : Nat) : ∀ i : Int, 0 ≤ i → i + d = l.length → Ev (fun k => laws_eqStringS.l0 k l l i) true := by
  induction d with
  | zero => intro i h0 h1; exact Ev.step (f := fun _ => some true) (fun k => by rw [laws_eqStringS.l0, if_neg (by omega)]) (Ev.now _)
  | succ d ih =>
    intro i h0 h1
    exact Ev.step (f := fun k => laws_eqStringS.l0 k l l (i + 1)) (fun k => by rw [laws_eqStringS.l0, if_pos (by omega), if_pos h0, if_pos (by omega), if_pos rfl, wr (by omega) (by omega)]) (ih (i + 1) (by omega) (by omega))
theorem eqS (l : List ByteArray) (hl : l.length ≤ 1048576) : Ev (fun k => laws_eqStringS.f k l l) true :=
  Ev.congr (f := fun k => laws_eqStringS.l0 k l l 0) (fun k => by unfold laws_eqStringS.f; rw [if_pos rfl]) (eqS_loop l hl l.length 0 (by omega) (by omega))

theorem szB (x y : List Int) (z : List ByteArray) (hx : x.length ≤ 9223372036854775807) (hy : y.length ≤ 9223372036854775807) (hz : z.length ≤ 9223372036854775807) (hb : ∀ b, b ∈ z → b.size ≤ 9223372036854775807) (left : Int) (h2 : 0 ≤ left) (h3 : left ≤ 1048576) :
    ∃ r, Ev (fun k => laws_szBox.f k x y z left) r ∧ r ≤ left ∧ -1 ≤ r ∧ (0 ≤ r → (x.length : Int) ≤ left ∧ (y.length : Int) ≤ left ∧ (z.length : Int) ≤ left) := by
  obtain ⟨r1, e1, a1, b1, c1⟩ := szI x hx left h2 h3
  by_cases n1 : r1 < 0
  · exact ⟨-1, Ev.congr (f := fun _ => some (-1)) (fun k => by unfold laws_szBox.f; rw [e1]; simp only [Option.bind_some, if_pos n1]) (Ev.now _), by omega, by omega, fun h => by omega⟩
  obtain ⟨r2, e2, a2, b2, c2⟩ := szI y hy r1 (by omega) (by omega)
  by_cases n2 : r2 < 0
  · exact ⟨-1, Ev.congr (f := fun _ => some (-1)) (fun k => by unfold laws_szBox.f; rw [e1]; simp only [Option.bind_some, if_neg n1]; rw [e2]; simp only [Option.bind_some, if_pos n2]) (Ev.now _), by omega, by omega, fun h => by omega⟩
  obtain ⟨r3, e3, a3, b3, c3⟩ := szS z hz hb r2 (by omega) (by omega)
  refine ⟨if r3 < 0 then -1 else r3, Ev.congr (f := fun k => (laws_szStringS.f k z r2).bind fun t => if t < 0 then some (-1) else some t) (fun k => by unfold laws_szBox.f; rw [e1]; simp only [Option.bind_some, if_neg n1]; rw [e2]; simp only [Option.bind_some, if_neg n2]) (Ev.bind e3 ?_), ?_, ?_, ?_⟩
  · by_cases n3 : r3 < 0
    · simp only [if_pos n3]; exact Ev.now _
    · simp only [if_neg n3]; exact Ev.now _
  · split <;> omega
  · split <;> omega
  · intro h
    have : ¬ r3 < 0 := by intro c; rw [if_pos c] at h; omega
    have := c1 (by omega); have := c2 (by omega); have := c3 (by omega)
    omega
theorem toB (x y : List Int) (z : List ByteArray) (hx : x.length ≤ 1048576) (hy : y.length ≤ 1048576) (hz : z.length ≤ 1048576) : Ev (fun k => laws_toBox.f k x y z) (x, y, z) := by
  unfold laws_toBox.f
  exact Ev.bind (toI x hx) (Ev.bind (toI y hy) (Ev.bind (toS z hz) (Ev.now _)))
theorem eqB (x y : List Int) (z : List ByteArray) (hx : x.length ≤ 1048576) (hy : y.length ≤ 1048576) (hz : z.length ≤ 1048576) : Ev (fun k => laws_eqBox.f k x y z x y z) true := by
  unfold laws_eqBox.f
  refine Ev.bind (eqI x hx) ?_
  simp only [if_true]
  refine Ev.bind (eqI y hy) ?_
  simp only [if_true]
  refine Ev.bind (eqS z hz) ?_
  simp only [if_true]
  exact Ev.now _

def inB (n lo hi : Int) : Bool := decide (lo ≤ n) && decide (n ≤ hi)
theorem within_is (n lo hi : Int) : impl_within.f n lo hi = some (inB n lo hi) := by
  unfold impl_within.f inB
  by_cases h : lo ≤ n <;> simp [h]

theorem in_is (n lo hi : Int) : spec_l01In.f n lo hi = some (inB n lo hi) := by
  unfold spec_l01In.f inB
  by_cases h : lo ≤ n
  · rw [if_pos h]; simp [h]
  · rw [if_neg h]; simp [h]

theorem rd_at (l : List Int) (k : Nat) (hk : k < l.length) : rd l (k : Int) = l[k] := by
  simp [rd, List.getD_eq_getElem?_getD, List.getElem?_eq_getElem hk]
/-- Where a number stands first, looked for from place i on. -/
def firstAt (l : List Int) (a : Int) : Nat → Nat → Int
  | _, 0 => -1
  | i, d + 1 => if rd l (i : Int) = a then (i : Int) else firstAt l a (i + 1) d
theorem firstAt_skip (l : List Int) (a : Int) : ∀ (i d : Nat), i + d = l.length → a ∉ l.take i → firstAt l a 0 l.length = firstAt l a i d
  | 0, d, h, _ => by rw [show d = l.length by omega]
  | i + 1, d, h, hn => by
    rw [box_mem_take l i (by omega)] at hn
    have h1 : ¬ rd l (i : Int) = a := fun c => hn (.inl c.symm)
    rw [firstAt_skip l a i (d + 1) (by omega) (fun c => hn (.inr c)), firstAt, if_neg h1]
theorem firstAt_mem (l : List Int) (a : Int) : ∀ (i : Nat), i ≤ l.length → a ∈ l.take i → firstAt l a 0 l.length < (i : Int)
  | 0, _, hm => by simp at hm
  | i + 1, h, hm => by
    by_cases hi : a ∈ l.take i
    · have := firstAt_mem l a i (by omega) hi; omega
    · rw [box_mem_take l i (by omega)] at hm
      have h1 : rd l (i : Int) = a := by rcases hm with h | h; exact h.symm; exact absurd h hi
      rw [firstAt_skip l a i (l.length - (i + 1) + 1) (by omega) hi, firstAt, if_pos h1]; omega
theorem firstAt_at (l : List Int) (i : Nat) (hi : i < l.length) : firstAt l (rd l (i : Int)) 0 l.length = (i : Int) ↔ rd l (i : Int) ∉ l.take i := by
  constructor
  · intro h c
    have := firstAt_mem l _ i (by omega) c
    omega
  · intro h
    rw [firstAt_skip l _ i (l.length - (i + 1) + 1) (by omega) h, firstAt, if_pos rfl]
theorem firstAt_range (l : List Int) (a : Int) : ∀ (d i : Nat), i + d = l.length → -1 ≤ firstAt l a i d ∧ firstAt l a i d < l.length
  | 0, i, h => by simp [firstAt]; omega
  | d + 1, i, h => by
    rw [firstAt]
    by_cases h1 : rd l (i : Int) = a
    · rw [if_pos h1]; omega
    · rw [if_neg h1]; exact firstAt_range l a d (i + 1) (by omega)
theorem at_loop (ids times : List Int) (bodies : List ByteArray) (hl : ids.length ≤ 1048576) (a : Int) : ∀ (d i : Nat), i + d = ids.length → Ev (fun k => spec_l11At.l0 k a (i : Int) ids times bodies) (firstAt ids a i d)
  | 0, i, h => Ev.step (f := fun _ => some (-1)) (fun k => by rw [spec_l11At.l0, if_neg (by omega)]) (Ev.now _)
  | d + 1, i, h => by
    by_cases h1 : rd ids (i : Int) = a
    · refine Ev.step (f := fun _ => some (firstAt ids a i (d + 1))) (fun k => ?_) (Ev.now _)
      rw [spec_l11At.l0, if_pos (by omega), if_pos (by omega), if_pos h1, firstAt, if_pos h1]
    · have hf : firstAt ids a i (d + 1) = firstAt ids a (i + 1) d := by rw [firstAt, if_neg h1]
      rw [hf]
      refine Ev.step (f := fun k => spec_l11At.l0 k a ((i + 1 : Nat) : Int) ids times bodies) (fun k => ?_) (at_loop ids times bodies hl a d (i + 1) (by omega))
      rw [spec_l11At.l0, if_pos (by omega), if_pos (by omega), if_neg h1, wr (by omega) (by omega)]; rfl
theorem at_spec (ids times : List Int) (bodies : List ByteArray) (hl : ids.length ≤ 1048576) (a : Int) : Ev (fun k => spec_l11At.f k ids times bodies a) (firstAt ids a 0 ids.length) := by
  unfold spec_l11At.f
  exact at_loop ids times bodies hl a ids.length 0 (by omega)
theorem in_true {x : Int} (h : 1 ≤ x ∧ x ≤ 1000000) : spec_l01In.f x 1 1000000 = some true := by
  unfold spec_l01In.f; rw [if_pos h.1, decide_eq_true h.2]
theorem in_false {x : Int} (h : ¬ (1 ≤ x ∧ x ≤ 1000000)) : spec_l01In.f x 1 1000000 = some false := by
  unfold spec_l01In.f
  by_cases h1 : x ≥ 1
  · rw [if_pos h1, decide_eq_false (by omega)]
  · rw [if_neg h1]
theorem ok_loop (ids times : List Int) (bodies : List ByteArray) (hl : ids.length ≤ 1048576) (ht : times.length = ids.length) (hb : bodies.length = ids.length) : ∀ (d i : Nat), i + d = ids.length → Ev (fun k => spec_l11OK.l0 k (ids.length : Int) (i : Int) ids times bodies) (boxGo ids times bodies i d)
  | 0, i, h => Ev.step (f := fun _ => some true) (fun k => by rw [spec_l11OK.l0, if_neg (by omega)]) (Ev.now _)
  | d + 1, i, h => by
    have g0 : (i : Int) < (ids.length : Int) := by omega
    have g1 : (i : Int) < (times.length : Int) := by omega
    have g2 : (i : Int) < (bodies.length : Int) := by omega
    have gz : (0 : Int) ≤ (i : Int) := by omega
    by_cases b2 : 1 ≤ rd ids (i : Int) ∧ rd ids (i : Int) ≤ 1000000
    rotate_left
    · rw [show boxGo ids times bodies i (d + 1) = false by unfold boxGo; rw [if_pos (.inr (.inl b2))]]
      exact Ev.step (f := fun _ => some false) (fun k => by rw [spec_l11OK.l0, if_pos g0, if_pos gz, if_pos g0, in_false b2]; simp) (Ev.now _)
    by_cases b3 : 1 ≤ rd times (i : Int) ∧ rd times (i : Int) ≤ 1000000
    rotate_left
    · rw [show boxGo ids times bodies i (d + 1) = false by unfold boxGo; rw [if_pos (.inr (.inr (.inl b3)))]]
      exact Ev.step (f := fun _ => some false) (fun k => by rw [spec_l11OK.l0, if_pos g0, if_pos gz, if_pos g0, in_true b2]; simp only [Option.bind_some, if_true]; rw [if_pos g1, in_false b3]; simp) (Ev.now _)
    by_cases b4 : (rdOf ByteArray.empty bodies (i : Int)).size > 8000
    · rw [show boxGo ids times bodies i (d + 1) = false by unfold boxGo; rw [if_pos (.inr (.inr (.inr b4)))]]
      exact Ev.step (f := fun _ => some false) (fun k => by rw [spec_l11OK.l0, if_pos g0, if_pos gz, if_pos g0, in_true b2]; simp only [Option.bind_some, if_true]; rw [if_pos g1, in_true b3]; simp only [Option.bind_some, if_true]; rw [if_pos g2, if_pos (by omega)]) (Ev.now _)
    refine Ev.step (f := fun k => (spec_l11At.f k ids times bodies (rd ids (i : Int))).bind fun t => if t = (i : Int) then spec_l11OK.l0 k (ids.length : Int) ((i + 1 : Nat) : Int) ids times bodies else some false) (fun k => ?_) (Ev.bind (at_spec ids times bodies hl _) ?_)
    · rw [spec_l11OK.l0, if_pos g0, if_pos gz, if_pos g0, in_true b2]; simp only [Option.bind_some, if_true]; rw [if_pos g1, in_true b3]; simp only [Option.bind_some, if_true]; rw [if_pos g2, if_neg (by omega), wr (by omega) (by omega)]; rfl
    · by_cases b1 : rd ids (i : Int) ∈ ids.take i
      · rw [show boxGo ids times bodies i (d + 1) = false by unfold boxGo; rw [if_pos (.inl b1)]]
        have : ¬ firstAt ids (rd ids (i : Int)) 0 ids.length = (i : Int) := by rw [firstAt_at _ _ (by omega)]; exact fun c => c b1
        simp only [if_neg this]
        exact Ev.now _
      · rw [show boxGo ids times bodies i (d + 1) = boxGo ids times bodies (i + 1) d by
          conv => lhs; unfold boxGo
          rw [if_neg]; rintro (h | h | h | h)
          · exact b1 h
          · exact h b2
          · exact h b3
          · exact b4 h]
        have : firstAt ids (rd ids (i : Int)) 0 ids.length = (i : Int) := (firstAt_at _ _ (by omega)).2 b1
        simp only [if_pos this]
        exact ok_loop ids times bodies hl ht hb d (i + 1) (by omega)
/-- The two say the same of a box. -/
theorem boxOK_same (ids times : List Int) (bodies : List ByteArray) (hl : ids.length ≤ 1048576) (hw : ∀ x, x ∈ ids → (Lit.int .i64 x).wf = true) :
    ∃ b, Ev (fun k => spec_l11OK.f k ids times bodies) b ∧ impl_BoxOK.f ids times bodies = some b ∧ (b = true → times.length = ids.length ∧ bodies.length = ids.length) := by
  unfold impl_BoxOK.f
  rw [if_pos hw]
  refine ⟨_, ?_, rfl, ?_⟩
  · by_cases h1 : 4096 < ids.length
    · rw [if_pos (.inl h1)]
      refine Ev.congr (f := fun k => spec_l11OK.j0 k (ids.length : Int) true ids times bodies) (fun k => by unfold spec_l11OK.f; rw [if_pos (by omega)]) ?_
      exact Ev.step (f := fun _ => some false) (fun k => by rw [spec_l11OK.j0]; simp) (Ev.now _)
    by_cases h2 : times.length = ids.length
    · refine Ev.congr (f := fun k => spec_l11OK.j0 k (ids.length : Int) ((bodies.length : Int) != (ids.length : Int)) ids times bodies) (fun k => by unfold spec_l11OK.f; rw [if_neg (by omega), if_pos (by omega)]) ?_
      by_cases h3 : bodies.length = ids.length
      · rw [if_neg (by omega), (box_len _ _ h3).2.1]
        refine Ev.step (f := fun k => spec_l11OK.l0 k (ids.length : Int) ((0 : Nat) : Int) ids times bodies) (fun k => by rw [spec_l11OK.j0]; simp) ?_
        exact ok_loop ids times bodies hl h2 h3 ids.length 0 (by omega)
      · rw [if_pos (.inr (.inr h3)), (box_len_ne _ _ h3).2.1]
        exact Ev.step (f := fun _ => some false) (fun k => by rw [spec_l11OK.j0]; simp) (Ev.now _)
    · rw [if_pos (.inr (.inl h2))]
      refine Ev.congr (f := fun k => spec_l11OK.j0 k (ids.length : Int) true ids times bodies) (fun k => by unfold spec_l11OK.f; rw [if_neg (by omega), if_neg (by omega)]) ?_
      exact Ev.step (f := fun _ => some false) (fun k => by rw [spec_l11OK.j0]; simp) (Ev.now _)
  · intro h
    by_cases hb : 4096 < ids.length ∨ times.length ≠ ids.length ∨ bodies.length ≠ ids.length
    · rw [if_pos hb] at h; cases h
    · omega

theorem strOfNums_append (a b : List Int) : strOfNums (a ++ b) = strOfNums a ++ strOfNums b := by
  apply ByteArray.ext
  rw [ByteArray.data_append]
  apply Array.toList_inj.1
  simp [strOfNums]
theorem strOfNums_size (a : List Int) : (strOfNums a).size = a.length := by
  simp [strOfNums, ByteArray.size]
theorem bt_lt (s : ByteArray) (i : Int) (h : i.toNat < s.size) : bt s i = ((s[i.toNat]'h).toNat : Int) := by simp [bt, h]
theorem extract_one (s : ByteArray) (i : Int) (h0 : 0 ≤ i) (h1 : i < s.size) : s.extract i.toNat (i + 1).toNat = strOfNums [bt s i] := by
  have hl : i.toNat < s.size := by omega
  apply ByteArray.ext
  apply Array.toList_inj.1
  rw [ByteArray.data_extract, Array.toList_extract, List.extract_eq_take_drop, show (i + 1).toNat - i.toNat = 1 by omega]
  have hl' : i.toNat < s.data.toList.length := by simpa using hl
  rw [List.drop_eq_getElem_cons hl', List.take_succ_cons, List.take_zero, bt_lt s i hl]
  simp [strOfNums]
  rfl

/-- The decimal text of a number, as the library writes it. -/
def itoaB (n : Int) : ByteArray := ⟨(Lib.itoa n).toArray⟩
theorem itoa_is (n : Int) (h0 : -9223372036854775808 ≤ n) (h1 : n ≤ 9223372036854775807) : strconv_Itoa.f n = some (itoaB n) := by
  unfold strconv_Itoa.f itoaB
  rw [if_pos ⟨h0, h1⟩]
theorem itoaB_size (n : Int) (h0 : -9223372036854775808 ≤ n) (h1 : n ≤ 9223372036854775807) : (itoaB n).size ≤ 21 := by
  have := Lib.itoa_length_le n h0 h1
  simpa [itoaB, ByteArray.size] using this
theorem bytes_join (a b : List UInt8) : (⟨(a ++ b).toArray⟩ : ByteArray) = (⟨a.toArray⟩ : ByteArray) ++ (⟨b.toArray⟩ : ByteArray) := by
  apply ByteArray.ext
  rw [ByteArray.data_append]
  simp
theorem nDigits_mono (u : Nat) (h : u < 18446744073709551616) : (Lib.decDigits u).length ≤ 20 := by
  rw [Lib.decDigits_length]; exact Lib.nDigits_le20 u h
theorem digits_nat : ∀ (u : Nat), u ≤ 9223372036854775807 → Ev (fun k => spec_l00Digits.f k (u : Int)) (⟨(Lib.decDigits u).toArray⟩ : ByteArray) := by
  intro u
  induction u using Nat.strongRecOn with
  | _ u ih =>
  intro hu
  by_cases h : u < 10
  · refine Ev.step (f := fun _ => some (⟨(Lib.decDigits u).toArray⟩ : ByteArray)) (fun k => ?_) (Ev.now _)
    rw [spec_l00Digits.f, if_neg (by omega), if_neg (by omega), if_pos (by omega), wr (by omega) (by omega), Lib.decDigits_one h]
    have e : ((48 + (u : Int)) % 256).toNat = 48 + u := by omega
    simp [strOfNums, e]
  · have hd : Int.tdiv (u : Int) 10 = ((u / 10 : Nat) : Int) := by rw [Int.tdiv_eq_ediv_of_nonneg (by omega)]; omega
    have hm : Int.tmod (u : Int) 10 = ((u % 10 : Nat) : Int) := by rw [Int.tmod_eq_emod_of_nonneg (by omega)]; omega
    have hl := nDigits_mono (u / 10) (by omega)
    refine Ev.step (f := fun k => (spec_l00Digits.f k ((u / 10 : Nat) : Int)).bind fun t => if t.size + 1 ≤ 9223372036854775807 then some (t ++ (⟨#[UInt8.ofNat (48 + u % 10)]⟩ : ByteArray)) else none) (fun k => ?_) (Ev.bind (ih (u / 10) (by omega) (by omega)) ?_)
    · rw [spec_l00Digits.f, if_neg (by omega), if_neg (by omega), if_neg (by omega), hd, hm, wr (x := ((u / 10 : Nat) : Int)) (by omega) (by omega), wr (x := 48 + ((u % 10 : Nat) : Int)) (by omega) (by omega)]
      have e : ((48 + ((u % 10 : Nat) : Int)) % 256).toNat = 48 + u % 10 := by omega
      have e2 : strOfNums [(48 + ((u % 10 : Nat) : Int)) % 256] = (⟨#[UInt8.ofNat (48 + u % 10)]⟩ : ByteArray) := by simp only [strOfNums, List.map_cons, List.map_nil, e]
      simp only [Option.bind_some, e2]
      rfl
    · have hs : (⟨(Lib.decDigits (u / 10)).toArray⟩ : ByteArray).size + 1 ≤ 9223372036854775807 := by simp only [ByteArray.size, List.size_toArray]; omega
      simp only [if_pos hs]
      have : (⟨(Lib.decDigits u).toArray⟩ : ByteArray) = (⟨(Lib.decDigits (u / 10)).toArray⟩ : ByteArray) ++ (⟨#[UInt8.ofNat (48 + u % 10)]⟩ : ByteArray) := by
        conv => lhs; rw [Lib.decDigits, dif_neg h]
        exact bytes_join _ _
      rw [this]
      exact Ev.now _
theorem digits_is (n : Int) (h0 : -9223372036854775808 ≤ n) (h1 : n ≤ 9223372036854775807) : Ev (fun k => spec_l00Digits.f k n) (itoaB n) := by
  unfold itoaB
  by_cases hm : n = -9223372036854775808
  · subst hm
    refine Ev.step (f := fun _ => some (⟨(Lib.itoa (-9223372036854775808)).toArray⟩ : ByteArray)) (fun k => ?_) (Ev.now _)
    rw [spec_l00Digits.f, if_pos rfl]
    have : Lib.itoa (-9223372036854775808) = [45, 57, 50, 50, 51, 51, 55, 50, 48, 51, 54, 56, 53, 52, 55, 55, 53, 56, 48, 56] := by
      unfold Lib.itoa
      rw [if_pos (by omega)]
      simp [Lib.decDigits]
    rw [this]
  by_cases hn : n < 0
  · obtain ⟨u, rfl⟩ : ∃ u : Nat, n = -(u : Int) := ⟨n.natAbs, by omega⟩
    rw [Lib.itoa_neg u (by omega)]
    refine Ev.step (f := fun k => (spec_l00Digits.f k (u : Int)).bind fun t => if 1 + t.size ≤ 9223372036854775807 then some ((⟨#[45]⟩ : ByteArray) ++ t) else none) (fun k => ?_) (Ev.bind (digits_nat u (by omega)) ?_)
    · rw [spec_l00Digits.f, if_neg hm, if_pos hn, Int.neg_neg, wr (by omega) (by omega)]
    · have hl := nDigits_mono u (by omega)
      have hs : 1 + (⟨(Lib.decDigits u).toArray⟩ : ByteArray).size ≤ 9223372036854775807 := by simp only [ByteArray.size, List.size_toArray]; omega
      simp only [if_pos hs]
      have : (⟨(45 :: Lib.decDigits u).toArray⟩ : ByteArray) = (⟨#[45]⟩ : ByteArray) ++ (⟨(Lib.decDigits u).toArray⟩ : ByteArray) := bytes_join [45] _
      rw [this]
      exact Ev.now _
  · obtain ⟨u, rfl⟩ : ∃ u : Nat, n = u := ⟨n.toNat, by omega⟩
    rw [Lib.itoa_nonneg]
    exact digits_nat u (by omega)
theorem decimal_is (n : Int) (h0 : -9223372036854775808 ≤ n) (h1 : n ≤ 9223372036854775807) : impl_decimal.f n = some (itoaB n) := by
  unfold impl_decimal.f
  rw [itoa_is n h0 h1]; rfl
theorem wf_range {n : Int} (h : (Lit.int .i64 n).wf = true) : -9223372036854775808 ≤ n ∧ n ≤ 9223372036854775807 := by
  have e : IntKind.i64.min = -9223372036854775808 := by decide
  have h' : IntKind.i64.min ≤ n ∧ n ≤ 9223372036854775807 := by simpa [Lit.wf] using h
  rw [e] at h'
  exact h'

/-- The law's own mark of a place. -/
def mT (n : Nat) : ByteArray := (⟨#[109]⟩ : ByteArray) ++ (⟨(Lib.decDigits n).toArray⟩ : ByteArray)
theorem mT_join (a b : List UInt8) : (⟨(a ++ b).toArray⟩ : ByteArray) = (⟨a.toArray⟩ : ByteArray) ++ (⟨b.toArray⟩ : ByteArray) := by
  apply ByteArray.ext
  rw [ByteArray.data_append]
  simp
theorem bytes_assoc (a b c : ByteArray) : a ++ (b ++ c) = a ++ b ++ c := by
  apply ByteArray.ext
  simp only [ByteArray.data_append, Array.append_assoc]
theorem bytes_nil (a : ByteArray) : a ++ (⟨#[]⟩ : ByteArray) = a := by
  apply ByteArray.ext
  simp only [ByteArray.data_append, Array.append_empty]
theorem one_size (x : UInt8) : (⟨#[x]⟩ : ByteArray).size = 1 := rfl
theorem markText_loop : ∀ (n : Nat), 1 ≤ n → n ≤ 1000000000000 → ∀ t : ByteArray, t.size + (Lib.decDigits n).length ≤ 1000 → Ev (fun k => laws_markText.l0 k (n : Int) t) ((⟨#[109]⟩ : ByteArray) ++ ((⟨(Lib.decDigits n).toArray⟩ : ByteArray) ++ t)) := by
  intro n
  induction n using Nat.strongRecOn with
  | _ n ih =>
  intro h1 h2 t ht
  have hd : Int.tdiv (n : Int) 10 = ((n / 10 : Nat) : Int) := by rw [Int.tdiv_eq_ediv_of_nonneg (by omega)]; omega
  have hm : Int.tmod (n : Int) 10 = ((n % 10 : Nat) : Int) := by rw [Int.tmod_eq_emod_of_nonneg (by omega)]; omega
  have e : ((48 + ((n % 10 : Nat) : Int)) % 256).toNat = 48 + n % 10 := by omega
  have e2 : strOfNums [(48 + ((n % 10 : Nat) : Int)) % 256] = (⟨#[UInt8.ofNat (48 + n % 10)]⟩ : ByteArray) := by simp only [strOfNums, List.map_cons, List.map_nil, e]
  have stp : ∀ k, laws_markText.l0 (k + 1) (n : Int) t = laws_markText.l0 k ((n / 10 : Nat) : Int) ((⟨#[UInt8.ofNat (48 + n % 10)]⟩ : ByteArray) ++ t) := fun k => by
    rw [laws_markText.l0, if_pos (by omega), hd, hm, wr (x := ((n / 10 : Nat) : Int)) (by omega) (by omega), wr (x := 48 + ((n % 10 : Nat) : Int)) (by omega) (by omega)]
    simp only [Option.bind_some, e2]
    rw [if_pos (by rw [one_size]; omega)]
  refine Ev.step (f := fun k => laws_markText.l0 k ((n / 10 : Nat) : Int) ((⟨#[UInt8.ofNat (48 + n % 10)]⟩ : ByteArray) ++ t)) stp ?_
  by_cases h : n < 10
  · have hz : n / 10 = 0 := by omega
    have hm' : n % 10 = n := by omega
    rw [hz, hm', Lib.decDigits_one h]
    exact Ev.step (f := fun _ => some ((⟨#[109]⟩ : ByteArray) ++ ((⟨#[UInt8.ofNat (48 + n)]⟩ : ByteArray) ++ t))) (fun k => by rw [laws_markText.l0, if_neg (by omega), if_pos (by rw [ByteArray.size_append, one_size]; omega)]) (Ev.now _)
  · have el : (Lib.decDigits n).length = (Lib.decDigits (n / 10)).length + 1 := by
      conv => lhs; rw [Lib.decDigits, dif_neg h]
      simp
    have e3 : (⟨(Lib.decDigits n).toArray⟩ : ByteArray) = (⟨(Lib.decDigits (n / 10)).toArray⟩ : ByteArray) ++ (⟨#[UInt8.ofNat (48 + n % 10)]⟩ : ByteArray) := by
      conv => lhs; rw [Lib.decDigits, dif_neg h]
      exact mT_join _ _
    rw [e3, ← bytes_assoc]
    exact ih (n / 10) (by omega) (by omega) (by omega) _ (by rw [ByteArray.size_append, one_size]; omega)
theorem markText_is (n : Nat) (h1 : 1 ≤ n) (h2 : n ≤ 1000000000000) : Ev (fun k => laws_markText.f k (n : Int)) (mT n) := by
  have hl : (Lib.decDigits n).length ≤ 20 := by rw [Lib.decDigits_length]; exact Lib.nDigits_le20 n (by omega)
  have := markText_loop n h1 h2 ⟨#[]⟩ (by show 0 + _ ≤ _; omega)
  rw [bytes_nil] at this
  refine Ev.congr (f := fun k => laws_markText.l0 k (n : Int) (⟨#[]⟩ : ByteArray)) (fun k => by unfold laws_markText.f; rw [if_neg (by omega)]) this
/-- The marks of a row from v on. -/
def marks (v n : Nat) : List ByteArray := (List.range n).map fun j => mT (v + j)
theorem marks_length (v n : Nat) : (marks v n).length = n := by simp [marks]
theorem marks_at (v n i : Nat) (hi : i < n) : rdOf ByteArray.empty (marks v n) (i : Int) = mT (v + i) := by
  unfold rdOf marks
  rw [Int.toNat_natCast, List.getD_eq_getElem?_getD, List.getElem?_map, List.getElem?_range hi]
  rfl

theorem markS_loop (v n : Nat) (hv : 1 ≤ v) (hn : v + n ≤ 1000000000) : ∀ (d i : Nat) (m : List ByteArray), i + d = n → m.length = n → m.take i = (marks v n).take i →
    Ev (fun k => laws_markStringS.l0 k m ((v + i : Nat) : Int) (i : Int)) (((v + n : Nat) : Int), marks v n)
  | 0, i, m, h, hm, ht => by
    have : m = marks v n := by rw [List.take_of_length_le (by omega), List.take_of_length_le (by rw [marks_length]; omega)] at ht; exact ht
    subst this
    have hi : i = n := by omega
    subst hi
    exact Ev.step (f := fun _ => some (((v + i : Nat) : Int), marks v i)) (fun k => by rw [laws_markStringS.l0, if_neg (by omega)]) (Ev.now _)
  | d + 1, i, m, h, hm, ht => by
    refine Ev.step (f := fun k => (laws_markText.f k ((v + i : Nat) : Int)).bind fun t => laws_markStringS.l0 k (m.set i t) ((v + (i + 1) : Nat) : Int) ((i + 1 : Nat) : Int)) (fun k => ?_) (Ev.bind (markText_is (v + i) (by omega) (by omega)) ?_)
    · rw [laws_markStringS.l0, if_pos (by omega)]
      congr 1
      funext t
      rw [if_pos (by omega), wr (x := ((v + i : Nat) : Int) + 1) (by omega) (by omega), wr (x := (i : Int) + 1) (by omega) (by omega)]
      rfl
    · refine markS_loop v n hv hn d (i + 1) _ (by omega) (by rw [List.length_set]; exact hm) ?_
      have := set_take (marks v n) m ByteArray.empty i (by rw [marks_length]; omega) (by rw [marks_length]; exact hm) ht
      have e : (marks v n).getD i ByteArray.empty = mT (v + i) := by have := marks_at v n i (by omega); unfold rdOf at this; rwa [Int.toNat_natCast] at this
      rwa [e] at this
theorem markS (l : List ByteArray) (v : Nat) (hv : 1 ≤ v) (hn : v + l.length ≤ 1000000000) : Ev (fun k => laws_markStringS.f k l (v : Int)) (((v + l.length : Nat) : Int), marks v l.length) := by
  unfold laws_markStringS.f
  exact markS_loop v l.length hv hn l.length 0 l (by omega) rfl (by simp)

theorem heldS_loop (v n : Nat) (hv : 1 ≤ v) (hn : v + n ≤ 1000000000) : ∀ (d i : Nat), i + d = n → Ev (fun k => laws_heldStringS.l0 k (marks v n) ((v + i : Nat) : Int) (i : Int)) ((v + n : Nat) : Int)
  | 0, i, h => by
    have hi : i = n := by omega
    subst hi
    exact Ev.step (f := fun _ => some ((v + i : Nat) : Int)) (fun k => by rw [laws_heldStringS.l0, if_neg (by rw [marks_length]; omega)]) (Ev.now _)
  | d + 1, i, h => by
    refine Ev.step (f := fun k => (laws_markText.f k ((v + i : Nat) : Int)).bind fun t => if (mT (v + i)).toList = t.toList then laws_heldStringS.l0 k (marks v n) ((v + (i + 1) : Nat) : Int) ((i + 1 : Nat) : Int) else some (-1)) (fun k => ?_) (Ev.bind (markText_is (v + i) (by omega) (by omega)) ?_)
    · rw [laws_heldStringS.l0, if_pos (by rw [marks_length]; omega), if_pos (by omega), marks_at v n i (by omega), wr (x := ((v + i : Nat) : Int) + 1) (by omega) (by omega), wr (x := (i : Int) + 1) (by omega) (by omega)]
      rfl
    · simp only [if_true]
      exact heldS_loop v n hv hn d (i + 1) (by omega)
theorem heldS (v n : Nat) (hv : 1 ≤ v) (hn : v + n ≤ 1000000000) : Ev (fun k => laws_heldStringS.f k (marks v n) (v : Int)) ((v + n : Nat) : Int) := by
  unfold laws_heldStringS.f
  exact heldS_loop v n hv hn n 0 (by omega)

theorem markI_loop (l : List Int) (v : Nat) (hn : v + l.length ≤ 1000000000) : ∀ (d i : Nat) (m : List Int), i + d = l.length → m.length = l.length →
    ∃ m', Ev (fun k => laws_markIntS.l0 k m ((v + i : Nat) : Int) (i : Int)) (((v + l.length : Nat) : Int), m')
  | 0, i, m, h, hm => by
    have hi : i = l.length := by omega
    subst hi
    exact ⟨m, Ev.step (f := fun _ => some (((v + l.length : Nat) : Int), m)) (fun k => by rw [laws_markIntS.l0, if_neg (by omega)]) (Ev.now _)⟩
  | d + 1, i, m, h, hm => by
    obtain ⟨m', hm'⟩ := markI_loop l v hn d (i + 1) (m.set i ((v + i : Nat) : Int)) (by omega) (by rw [List.length_set]; exact hm)
    refine ⟨m', Ev.step (f := fun k => laws_markIntS.l0 k (m.set i ((v + i : Nat) : Int)) ((v + (i + 1) : Nat) : Int) ((i + 1 : Nat) : Int)) (fun k => ?_) hm'⟩
    rw [laws_markIntS.l0, if_pos (by omega), if_pos (by omega), wr (x := ((v + i : Nat) : Int) + 1) (by omega) (by omega), wr (x := (i : Int) + 1) (by omega) (by omega)]
    rfl
theorem markI (l : List Int) (v : Nat) (hn : v + l.length ≤ 1000000000) : ∃ m', Ev (fun k => laws_markIntS.f k l (v : Int)) (((v + l.length : Nat) : Int), m') := by
  unfold laws_markIntS.f
  exact markI_loop l v hn l.length 0 l (by omega) rfl

theorem markB (x y : List Int) (z : List ByteArray) (hx : x.length ≤ 1048576) (hy : y.length ≤ 1048576) (hz : z.length ≤ 1048576) : ∃ r : Int × List Int × List Int × List ByteArray, Ev (fun k => laws_markBox.f k x y z 1) r ∧ ¬ r.1 < 0 := by
  obtain ⟨m1, e1⟩ := markI x 1 (by omega)
  obtain ⟨m2, e2⟩ := markI y (1 + x.length) (by omega)
  have e3 := markS z (1 + x.length + y.length) (by omega) (by omega)
  refine ⟨(((1 + x.length + y.length + z.length : Nat) : Int), m1, m2, marks (1 + x.length + y.length) z.length), ?_, ?_⟩
  · unfold laws_markBox.f
    exact Ev.bind e1 (Ev.bind e2 (Ev.bind e3 (Ev.now _)))
  · show ¬ ((1 + x.length + y.length + z.length : Nat) : Int) < 0
    omega
theorem boxOK_true (ids times : List Int) (bodies : List ByteArray) (h : impl_BoxOK.f ids times bodies = some true) : ids.length ≤ 4096 ∧ times.length = ids.length ∧ bodies.length = ids.length ∧ boxGo ids times bodies 0 ids.length = true := by
  unfold impl_BoxOK.f at h
  split at h
  · by_cases hb : 4096 < ids.length ∨ times.length ≠ ids.length ∨ bodies.length ≠ ids.length
    · rw [if_pos hb] at h; simp at h
    · rw [if_neg hb] at h
      refine ⟨by omega, by omega, by omega, ?_⟩
      simpa using h
  · simp at h
theorem boxGo_small (ids times : List Int) (bodies : List ByteArray) : ∀ (d i : Nat), boxGo ids times bodies i d = true → ∀ j, i ≤ j → j < i + d → (rdOf ByteArray.empty bodies (j : Int)).size ≤ 8000
  | 0, i, _, j, h1, h2 => by omega
  | d + 1, i, h, j, h1, h2 => by
    unfold boxGo at h
    split at h
    · simp at h
    · rename_i hc
      by_cases e : j = i
      · subst e
        exact Decidable.byContradiction fun c => hc (.inr (.inr (.inr (by omega))))
      · exact boxGo_small ids times bodies d (i + 1) h j (by omega) (by omega)
/-- A line of a box. -/
def boxLine (ids times : List Int) (bodies : List ByteArray) (i : Nat) : ByteArray :=
  (⟨#[114, 101, 112, 111, 114, 116, 32]⟩ : ByteArray) ++ itoaB (rd ids (i : Int)) ++ (⟨#[32, 116, 105, 109, 101, 115, 32]⟩ : ByteArray) ++ itoaB (rd times (i : Int)) ++ (⟨#[32]⟩ : ByteArray) ++ rdOf ByteArray.empty bodies (i : Int)
def boxLines (ids times : List Int) (bodies : List ByteArray) : Nat → Nat → List ByteArray → List ByteArray
  | _, 0, t => t
  | i, d + 1, t => boxLines ids times bodies (i + 1) d (t ++ [boxLine ids times bodies i])
theorem boxLines_length (ids times : List Int) (bodies : List ByteArray) : ∀ (d i : Nat) (t : List ByteArray), (boxLines ids times bodies i d t).length = t.length + d
  | 0, _, t => rfl
  | d + 1, i, t => by rw [boxLines, boxLines_length ids times bodies d (i + 1)]; simp; omega
section
variable (ids times : List Int) (bodies : List ByteArray) (hl : ids.length ≤ 4096) (ht : times.length = ids.length) (hb : bodies.length = ids.length) (wi : ∀ y, y ∈ ids → (Lit.int .i64 y).wf = true) (wt : ∀ y, y ∈ times → (Lit.int .i64 y).wf = true) (hs : ∀ j, j < ids.length → (rdOf ByteArray.empty bodies (j : Int)).size ≤ 8000)
include hl ht hb wi wt hs
theorem lines_spec : ∀ (d i : Nat) (t : List ByteArray), i + d = ids.length → t.length = i → Ev (fun k => spec_l13Box.l0 k t (i : Int) ids times bodies) (boxLines ids times bodies i d t)
  | 0, i, t, h, _ => Ev.step (f := fun _ => some t) (fun k => by rw [spec_l13Box.l0, if_neg (by omega)]) (Ev.now _)
  | d + 1, i, t, h, hti => by
    have r1 := wf_range (wi _ (getD_mem 0 ids (i : Int) (by omega) (by omega)))
    have r2 := wf_range (wt _ (getD_mem 0 times (i : Int) (by omega) (by omega)))
    have d1 := itoaB_size (rd ids (i : Int)) r1.1 r1.2
    have d2 := itoaB_size (rd times (i : Int)) r2.1 r2.2
    have d3 := hs i (by omega)
    have e1 := digits_is (rd ids (i : Int)) r1.1 r1.2
    have e2 := digits_is (rd times (i : Int)) r2.1 r2.2
    have cs1 : (⟨#[114, 101, 112, 111, 114, 116, 32]⟩ : ByteArray).size = 7 := rfl
    have cs2 : (⟨#[32, 116, 105, 109, 101, 115, 32]⟩ : ByteArray).size = 7 := rfl
    have cs3 : (⟨#[32]⟩ : ByteArray).size = 1 := rfl
    have c1 : 7 + (itoaB (rd ids (i : Int))).size ≤ 9223372036854775807 := by (try simp only [ByteArray.size_append, cs1, cs2, cs3]); omega
    have c2 : ((⟨#[114, 101, 112, 111, 114, 116, 32]⟩ : ByteArray) ++ (itoaB (rd ids (i : Int)))).size + 7 ≤ 9223372036854775807 := by (try simp only [ByteArray.size_append, cs1, cs2, cs3]); omega
    have c3 : (((⟨#[114, 101, 112, 111, 114, 116, 32]⟩ : ByteArray) ++ (itoaB (rd ids (i : Int)))) ++ (⟨#[32, 116, 105, 109, 101, 115, 32]⟩ : ByteArray)).size + (itoaB (rd times (i : Int))).size ≤ 9223372036854775807 := by (try simp only [ByteArray.size_append, cs1, cs2, cs3]); omega
    have c4 : ((((⟨#[114, 101, 112, 111, 114, 116, 32]⟩ : ByteArray) ++ (itoaB (rd ids (i : Int)))) ++ (⟨#[32, 116, 105, 109, 101, 115, 32]⟩ : ByteArray)) ++ (itoaB (rd times (i : Int)))).size + 1 ≤ 9223372036854775807 := by (try simp only [ByteArray.size_append, cs1, cs2, cs3]); omega
    have c5 : (((((⟨#[114, 101, 112, 111, 114, 116, 32]⟩ : ByteArray) ++ (itoaB (rd ids (i : Int)))) ++ (⟨#[32, 116, 105, 109, 101, 115, 32]⟩ : ByteArray)) ++ (itoaB (rd times (i : Int)))) ++ (⟨#[32]⟩ : ByteArray)).size + (rdOf ByteArray.empty bodies i).size ≤ 9223372036854775807 := by (try simp only [ByteArray.size_append, cs1, cs2, cs3]); omega
    rw [boxLines]
    have hstep := lines_spec d (i + 1) (t ++ [boxLine ids times bodies i]) (by omega) (by simp; omega)
    refine Ev.step (f := fun k => (spec_l00Digits.f k (rd ids (i : Int))).bind fun t1 => if 7 + t1.size ≤ 9223372036854775807 then (if ((⟨#[114, 101, 112, 111, 114, 116, 32]⟩ : ByteArray) ++ t1).size + 7 ≤ 9223372036854775807 then ((spec_l00Digits.f k (rd times (i : Int))).bind fun t2 => if (((⟨#[114, 101, 112, 111, 114, 116, 32]⟩ : ByteArray) ++ t1) ++ (⟨#[32, 116, 105, 109, 101, 115, 32]⟩ : ByteArray)).size + t2.size ≤ 9223372036854775807 then (if ((((⟨#[114, 101, 112, 111, 114, 116, 32]⟩ : ByteArray) ++ t1) ++ (⟨#[32, 116, 105, 109, 101, 115, 32]⟩ : ByteArray)) ++ t2).size + 1 ≤ 9223372036854775807 then (if (((((⟨#[114, 101, 112, 111, 114, 116, 32]⟩ : ByteArray) ++ t1) ++ (⟨#[32, 116, 105, 109, 101, 115, 32]⟩ : ByteArray)) ++ t2) ++ (⟨#[32]⟩ : ByteArray)).size + (rdOf ByteArray.empty bodies (i : Int)).size ≤ 9223372036854775807 then spec_l13Box.l0 k (t ++ [(((((⟨#[114, 101, 112, 111, 114, 116, 32]⟩ : ByteArray) ++ t1) ++ (⟨#[32, 116, 105, 109, 101, 115, 32]⟩ : ByteArray)) ++ t2) ++ (⟨#[32]⟩ : ByteArray)) ++ (rdOf ByteArray.empty bodies (i : Int))]) ((i + 1 : Nat) : Int) ids times bodies else none) else none) else none) else none) else none) (fun k => ?_) (Ev.bind e1 ?_)
    · have g1 : (i : Int) < (ids.length : Int) := by omega
      have g2 : (i : Int) < (times.length : Int) := by omega
      have g3 : (i : Int) < (bodies.length : Int) := by omega
      have g4 : (0 : Int) ≤ (i : Int) := by omega
      have g5 : t.length < 8796093022208 := by omega
      rw [spec_l13Box.l0]
      simp only [if_pos g1, if_pos g2, if_pos g3, if_pos g4, if_pos g5]
      rw [wr (by omega) (by omega)]
      rfl
    · simp only [if_pos c1, if_pos c2, if_pos c3, if_pos c4, if_pos c5]
      refine Ev.bind e2 ?_
      simp only [if_pos c1, if_pos c2, if_pos c3, if_pos c4, if_pos c5]
      exact hstep
theorem lines_impl : ∀ (d i : Nat) (t : List ByteArray), i + d = ids.length → t.length = i → Ev (fun k => impl_BoxLines.l0 k t ids (ids.length : Int) (i : Int) ids times bodies) (boxLines ids times bodies i d t, 0)
  | 0, i, t, h, _ => Ev.step (f := fun _ => some (t, 0)) (fun k => by rw [impl_BoxLines.l0, if_neg (by omega)]) (Ev.now _)
  | d + 1, i, t, h, hti => by
    have r1 := wf_range (wi _ (getD_mem 0 ids (i : Int) (by omega) (by omega)))
    have r2 := wf_range (wt _ (getD_mem 0 times (i : Int) (by omega) (by omega)))
    have d1 := itoaB_size (rd ids (i : Int)) r1.1 r1.2
    have d2 := itoaB_size (rd times (i : Int)) r2.1 r2.2
    have d3 := hs i (by omega)
    have e1 := decimal_is (rd ids (i : Int)) r1.1 r1.2
    have e2 := decimal_is (rd times (i : Int)) r2.1 r2.2
    have cs1 : (⟨#[114, 101, 112, 111, 114, 116, 32]⟩ : ByteArray).size = 7 := rfl
    have cs2 : (⟨#[32, 116, 105, 109, 101, 115, 32]⟩ : ByteArray).size = 7 := rfl
    have cs3 : (⟨#[32]⟩ : ByteArray).size = 1 := rfl
    have c1 : 7 + (itoaB (rd ids (i : Int))).size ≤ 9223372036854775807 := by (try simp only [ByteArray.size_append, cs1, cs2, cs3]); omega
    have c2 : ((⟨#[114, 101, 112, 111, 114, 116, 32]⟩ : ByteArray) ++ (itoaB (rd ids (i : Int)))).size + 7 ≤ 9223372036854775807 := by (try simp only [ByteArray.size_append, cs1, cs2, cs3]); omega
    have c3 : (((⟨#[114, 101, 112, 111, 114, 116, 32]⟩ : ByteArray) ++ (itoaB (rd ids (i : Int)))) ++ (⟨#[32, 116, 105, 109, 101, 115, 32]⟩ : ByteArray)).size + (itoaB (rd times (i : Int))).size ≤ 9223372036854775807 := by (try simp only [ByteArray.size_append, cs1, cs2, cs3]); omega
    have c4 : ((((⟨#[114, 101, 112, 111, 114, 116, 32]⟩ : ByteArray) ++ (itoaB (rd ids (i : Int)))) ++ (⟨#[32, 116, 105, 109, 101, 115, 32]⟩ : ByteArray)) ++ (itoaB (rd times (i : Int)))).size + 1 ≤ 9223372036854775807 := by (try simp only [ByteArray.size_append, cs1, cs2, cs3]); omega
    have c5 : (((((⟨#[114, 101, 112, 111, 114, 116, 32]⟩ : ByteArray) ++ (itoaB (rd ids (i : Int)))) ++ (⟨#[32, 116, 105, 109, 101, 115, 32]⟩ : ByteArray)) ++ (itoaB (rd times (i : Int)))) ++ (⟨#[32]⟩ : ByteArray)).size + (rdOf ByteArray.empty bodies i).size ≤ 9223372036854775807 := by (try simp only [ByteArray.size_append, cs1, cs2, cs3]); omega
    rw [boxLines]
    have hstep := lines_impl d (i + 1) (t ++ [boxLine ids times bodies i]) (by omega) (by simp; omega)
    refine Ev.step (f := fun k => impl_BoxLines.l0 k (t ++ [boxLine ids times bodies i]) ids (ids.length : Int) ((i + 1 : Nat) : Int) ids times bodies) (fun k => ?_) hstep
    have g1 : (i : Int) < (ids.length : Int) := by omega
    have g2 : (i : Int) < (times.length : Int) := by omega
    have g3 : (i : Int) < (bodies.length : Int) := by omega
    have g4 : (0 : Int) ≤ (i : Int) := by omega
    have g5 : t.length < 8796093022208 := by omega
    rw [impl_BoxLines.l0]
    simp only [if_pos g1, if_pos g2, if_pos g3, if_pos g4, if_pos g5, e1, e2, Option.bind_some, if_pos c1, if_pos c2, if_pos c3, if_pos c4, if_pos c5]
    rw [wr (by omega) (by omega)]
    rfl
end
theorem FnExactBoxLines : (∀ (l0_0 : List Int) (l0_1 : List Int) (l0_2 : List ByteArray), (l0_0.length ≤ 9223372036854775807 ∧ ∀ y_, y_ ∈ l0_0 → (Lit.int .i64 y_).wf = true) → (l0_1.length ≤ 9223372036854775807 ∧ ∀ y_, y_ ∈ l0_1 → (Lit.int .i64 y_).wf = true) → (l0_2.length ≤ 9223372036854775807 ∧ ∀ y_, y_ ∈ l0_2 → y_.size ≤ 9223372036854775807) → ∃ k, laws_FnExactBoxLines.f k l0_0 l0_1 l0_2 = some true) := by
  intro x y z ⟨hx, wx⟩ ⟨hy, wy⟩ ⟨hz, hb⟩
  refine Ev.rounds ?_
  obtain ⟨r, e1, _, _, hr⟩ := szB x y z hx hy hz hb 1048576 (by omega) (by omega)
  unfold laws_FnExactBoxLines.f
  refine Ev.bind e1 ?_
  by_cases hneg : r < 0
  · simp only [if_pos hneg]; exact Ev.now _
  obtain ⟨h1, h2, h3⟩ := hr (by omega)
  simp only [if_neg hneg]
  have t := toB x y z (by omega) (by omega) (by omega)
  obtain ⟨b, q1, q2, _⟩ := boxOK_same x y z (by omega) wx
  obtain ⟨L, c, hL, s1, s2⟩ : ∃ (L : List ByteArray) (c : Int), L.length ≤ 4096 ∧ Ev (fun k => spec_BoxLines.f k x y z) (L, c) ∧ Ev (fun k => impl_BoxLines.f k x y z) (L, c) := by
    unfold spec_BoxLines.f impl_BoxLines.f
    rw [q2]
    cases b
    · refine ⟨[], 1, by simp, Ev.bind q1 ?_, ?_⟩
      · simp only [Bool.false_eq_true, if_false]; exact Ev.now _
      · simp only [Option.bind_some, Bool.false_eq_true, if_false]; exact Ev.now _
    · obtain ⟨n1, n2, n3, n4⟩ := boxOK_true x y z q2
      have hs : ∀ j, j < x.length → (rdOf ByteArray.empty z (j : Int)).size ≤ 8000 := fun j hj => boxGo_small x y z x.length 0 n4 j (by omega) (by omega)
      refine ⟨boxLines x y z 0 x.length [], 0, by rw [boxLines_length]; simp; omega, Ev.bind q1 ?_, ?_⟩
      · simp only [if_true]
        refine Ev.bind ?_ (Ev.now _)
        unfold spec_l13Box.f
        exact lines_spec x y z n1 n2 n3 wx wy hs x.length 0 [] (by omega) rfl
      · simp only [Option.bind_some, if_true]
        exact lines_impl x y z n1 n2 n3 wx wy hs x.length 0 [] (by omega) rfl
  refine Ev.bind t (Ev.bind s1 (Ev.bind t (Ev.bind s2 (Ev.bind (eqS L (by omega)) ?_))))
  simp only [if_true, bne_self_eq_false]
  obtain ⟨rm, em, hm⟩ := markB x y z (by omega) (by omega) (by omega)
  refine Ev.step (f := fun k => (laws_toBox.f k x y z).bind fun bt => (laws_eqBox.f k x y z bt.1 bt.2.1 bt.2.2).bind fun t1 => if t1 = true then (laws_markBox.f k x y z 1).bind fun bm => (if bm.1 < 0 then laws_FnExactBoxLines.j1 k L c L true x y z else (laws_eqStringS.f k L L).bind fun t2 => if t2 = true then laws_FnExactBoxLines.j1 k L c L (c != c) x y z else laws_FnExactBoxLines.j1 k L c L true x y z) else some false) (fun k => by rw [laws_FnExactBoxLines.j0]; simp) ?_
  refine Ev.bind t (Ev.bind (eqB x y z (by omega) (by omega) (by omega)) ?_)
  simp only [if_true]
  refine Ev.bind em ?_
  simp only [if_neg hm]
  refine Ev.bind (eqS L (by omega)) ?_
  simp only [if_true, bne_self_eq_false]
  have m1 := markS L 1 (by omega) (by omega)
  have m2 := heldS 1 L.length (by omega) (by omega)
  have p1 : ¬ (((1 + L.length : Nat) : Int) < 0) := by omega
  refine Ev.step (f := fun k => (laws_markStringS.f k L 1).bind fun bt => (laws_heldStringS.f k bt.2 1).bind fun t1 => if t1 < 0 then some false else if t1 = bt.1 then (laws_toBox.f k x y z).bind fun bt2 => (impl_BoxLines.f k bt2.1 bt2.2.1 bt2.2.2).bind fun bi => (laws_eqStringS.f k bi.1 L).bind fun t2 => if t2 = true then laws_FnExactBoxLines.j2 k bt.2 bt.1 (bi.2 != c) else laws_FnExactBoxLines.j2 k bt.2 bt.1 true else some false) (fun k => by rw [laws_FnExactBoxLines.j1]; simp) ?_
  refine Ev.bind m1 (Ev.bind m2 ?_)
  simp only [if_neg p1, if_true]
  refine Ev.bind t (Ev.bind s2 (Ev.bind (eqS L (by omega)) ?_))
  simp only [if_true, bne_self_eq_false]
  refine Ev.step (f := fun k => (laws_heldStringS.f k (marks 1 L.length) 1).bind fun t1 => if t1 < 0 then some false else if t1 = ((1 + L.length : Nat) : Int) then some true else some false) (fun k => by rw [laws_FnExactBoxLines.j2]; simp) ?_
  refine Ev.bind m2 ?_
  simp only [if_neg p1, if_true]
  exact Ev.now _

end Go.Proofs.YtnbnodfchjllgaaDoor.Pure
