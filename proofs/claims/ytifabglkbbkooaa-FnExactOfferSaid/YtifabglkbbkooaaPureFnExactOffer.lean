/- The program's Offer answers as the reference's at every queue and every report, leaves the queue as it was, and hands back memory of its own; no condition. -/
import Derived.Test.YtifabglkbbkooaaQFnExactOfferx12
import Derived.Lib.ItoaLen
set_option linter.unusedVariables false
set_option linter.unusedSimpArgs false
namespace Go.Proofs.Ytifabglkbbkooaa.Pure
open Go.RowKit Go.Proofs.Ytifabglkbbkooaa.QFnExactOffer Go.Proofs.YtifabglkbbkooaaW.PrintWords Go.Proofs.YtifabglkbbkooaaW.PrintLast

theorem wr {x : Int} (h0 : -9223372036854775808 ≤ x) (h1 : x ≤ 9223372036854775807) : wrap64 x = x := by unfold wrap64; omega

/-- A loop over a list, from place i on: one round, or the end. -/
theorem rdOf_at {α : Type} (z : α) (l : List α) (i : Int) (h0 : 0 ≤ i) (h1 : i < l.length) : l[i.toNat]? = some (l.getD i.toNat z) := by
  rw [List.getD_eq_getElem?_getD, List.getElem?_eq_getElem (by omega)]; rfl
theorem getD_mem {α : Type} (z : α) (l : List α) (i : Int) (h0 : 0 ≤ i) (h1 : i < l.length) : l.getD i.toNat z ∈ l := by
  rw [List.getD_eq_getElem?_getD, List.getElem?_eq_getElem (by omega)]; exact List.getElem_mem _
theorem set_take {α : Type} (l m : List α) (z : α) (i : Nat) (hi : i < l.length) (hm : m.length = l.length) (h : m.take i = l.take i) :
    (m.set i (l.getD i z)).take (i + 1) = l.take (i + 1) := by
  apply List.ext_getElem?
  intro j
  rw [List.getElem?_take, List.getElem?_take]
  by_cases hj : j < i + 1
  · rw [if_pos hj, if_pos hj]
    by_cases e : j = i
    · subst e
      rw [List.getElem?_set_self (by omega), List.getD_eq_getElem?_getD, List.getElem?_eq_getElem hi]; rfl
    · rw [List.getElem?_set_ne (by omega)]
      have := congrArg (fun t => t[j]?) h
      simp only [List.getElem?_take] at this
      rwa [if_pos (by omega), if_pos (by omega)] at this
  · rw [if_neg hj, if_neg hj]

/-- What the size guard says of a list of texts. -/
theorem szS_loop (l : List ByteArray) (hl : l.length ≤ 9223372036854775807) (hy : ∀ y, y ∈ l → y.size ≤ 9223372036854775807) (d : Nat) : ∀ (i left : Int), 0 ≤ i → i + d = l.length → 0 ≤ left → left ≤ 1048576 →
    ∃ r, Ev (fun k => laws_szStringS.l0 k l left i) r ∧ r ≤ left ∧ -1 ≤ r := by
  induction d with
  | zero =>
    intro i left h0 h1 h2 h3
    exact ⟨left, Ev.step (f := fun _ => some left) (fun k => by rw [laws_szStringS.l0, if_neg (by omega)]) (Ev.now _), by omega, by omega⟩
  | succ d ih =>
    intro i left h0 h1 h2 h3
    have hm := hy _ (getD_mem ByteArray.empty l i h0 (by omega))
    have hw : wrap64 (left - ((rdOf ByteArray.empty l i).size : Int)) = left - ((rdOf ByteArray.empty l i).size : Int) := wr (by unfold rdOf; omega) (by omega)
    by_cases hneg : left - ((rdOf ByteArray.empty l i).size : Int) < 0
    · exact ⟨-1, Ev.step (f := fun _ => some (-1)) (fun k => by rw [laws_szStringS.l0, if_pos (by omega), if_pos h0, hw, if_pos hneg]) (Ev.now _), by omega, by omega⟩
    · obtain ⟨r, hr, ha, hb⟩ := ih (i + 1) (left - ((rdOf ByteArray.empty l i).size : Int)) (by omega) (by omega) (by omega) (by omega)
      refine ⟨r, Ev.step (f := fun k => laws_szStringS.l0 k l (left - ((rdOf ByteArray.empty l i).size : Int)) (i + 1)) (fun k => ?_) hr, by omega, hb⟩
      rw [laws_szStringS.l0, if_pos (by omega), if_pos h0, hw, if_neg hneg, wr (by omega) (by omega)]
theorem szS (l : List ByteArray) (hl : l.length ≤ 9223372036854775807) (hy : ∀ y, y ∈ l → y.size ≤ 9223372036854775807) (left : Int) (h2 : 0 ≤ left) (h3 : left ≤ 1048576) :
    ∃ r, Ev (fun k => laws_szStringS.f k l left) r ∧ r ≤ left ∧ -1 ≤ r ∧ (0 ≤ r → (l.length : Int) ≤ left) := by
  have hw : wrap64 (left - (l.length : Int)) = left - (l.length : Int) := wr (by omega) (by omega)
  by_cases hneg : left - (l.length : Int) < 0
  · exact ⟨-1, Ev.congr (f := fun _ => some (-1)) (fun k => by unfold laws_szStringS.f; rw [hw, if_pos hneg]) (Ev.now _), by omega, by omega, fun h => by omega⟩
  · obtain ⟨r, hr, ha, hb⟩ := szS_loop l hl hy l.length 0 (left - (l.length : Int)) (by omega) (by omega) (by omega) (by omega)
    exact ⟨r, Ev.congr (f := fun k => laws_szStringS.l0 k l (left - (l.length : Int)) 0) (fun k => by unfold laws_szStringS.f; rw [hw, if_neg hneg]) hr, by omega, hb, fun _ => by omega⟩

theorem toS_loop (l : List ByteArray) (hl : l.length ≤ 1048576) (d : Nat) : ∀ (i : Int) (m : List ByteArray), 0 ≤ i → i + d = l.length → m.length = l.length → m.take i.toNat = l.take i.toNat →
    Ev (fun k => laws_toStringS.l0 k l m i) l := by
  induction d with
  | zero =>
    intro i m h0 h1 hm ht
    have : m = l := by rw [List.take_of_length_le (by omega), List.take_of_length_le (by omega)] at ht; exact ht
    subst this
    exact Ev.step (f := fun _ => some m) (fun k => by rw [laws_toStringS.l0, if_neg (by omega)]) (Ev.now _)
  | succ d ih =>
    intro i m h0 h1 hm ht
    refine Ev.step (f := fun k => laws_toStringS.l0 k l (m.set i.toNat (rdOf ByteArray.empty l i)) (i + 1)) (fun k => ?_) (ih (i + 1) _ (by omega) (by omega) (by rw [List.length_set]; exact hm) ?_)
    · rw [laws_toStringS.l0, if_pos (by omega), if_pos h0, if_pos (by omega), wr (by omega) (by omega)]
    · rw [show (i + 1).toNat = i.toNat + 1 by omega]
      exact set_take l m ByteArray.empty i.toNat (by omega) hm ht
theorem toS (l : List ByteArray) (hl : l.length ≤ 1048576) : Ev (fun k => laws_toStringS.f k l) l := by
  refine Ev.congr (f := fun k => laws_toStringS.l0 k l (List.replicate ((l.length : Int) : Int).toNat (⟨#[]⟩ : ByteArray)) 0) (fun k => ?_) (toS_loop l hl l.length 0 _ (by omega) (by omega) (by simp) (by simp))
  unfold laws_toStringS.f
  rw [if_pos (by omega), if_pos (by omega)]

theorem eqS_loop (l : List ByteArray) (hl : l.length ≤ 1048576) (d : Nat) : ∀ i : Int, 0 ≤ i → i + d = l.length → Ev (fun k => laws_eqStringS.l0 k l l i) true := by
  induction d with
  | zero => intro i h0 h1; exact Ev.step (f := fun _ => some true) (fun k => by rw [laws_eqStringS.l0, if_neg (by omega)]) (Ev.now _)
  | succ d ih =>
    intro i h0 h1
    exact Ev.step (f := fun k => laws_eqStringS.l0 k l l (i + 1)) (fun k => by rw [laws_eqStringS.l0, if_pos (by omega), if_pos h0, if_pos (by omega), if_pos rfl, wr (by omega) (by omega)]) (ih (i + 1) (by omega) (by omega))
theorem eqS (l : List ByteArray) (hl : l.length ≤ 1048576) : Ev (fun k => laws_eqStringS.f k l l) true :=
  Ev.congr (f := fun k => laws_eqStringS.l0 k l l 0) (fun k => by unfold laws_eqStringS.f; rw [if_pos rfl]) (eqS_loop l hl l.length 0 (by omega) (by omega))

theorem szReport_is (x0 x1 x2 : Int) (b : ByteArray) (left : Int) (h2 : 0 ≤ left) (h3 : left ≤ 1048576) (hb : b.size ≤ 9223372036854775807) :
    laws_szReport.f x0 x1 x2 b left = some (if left - (b.size : Int) < 0 then -1 else left - (b.size : Int)) := by
  unfold laws_szReport.f
  rw [wr (by omega) (by omega)]
  split <;> rfl
theorem szR_loop (l : List S27) (hl : l.length ≤ 9223372036854775807) (hy : ∀ y, y ∈ l → ok27 y) (d : Nat) : ∀ (i left : Int), 0 ≤ i → i + d = l.length → 0 ≤ left → left ≤ 1048576 →
    ∃ r, Ev (fun k => laws_szReportS.l0 k l left i) r ∧ r ≤ left ∧ -1 ≤ r := by
  induction d with
  | zero =>
    intro i left h0 h1 h2 h3
    exact ⟨left, Ev.step (f := fun _ => some left) (fun k => by rw [laws_szReportS.l0, if_neg (by omega)]) (Ev.now _), by omega, by omega⟩
  | succ d ih =>
    intro i left h0 h1 h2 h3
    have hm := (hy _ (getD_mem z27 l i h0 (by omega))).2.2.2
    have hs := szReport_is ((rd_T27 l i).f0) ((rd_T27 l i).f1) ((rd_T27 l i).f2) ((rd_T27 l i).f3) left h2 h3 hm
    by_cases hneg : left - (((rd_T27 l i).f3).size : Int) < 0
    · refine ⟨-1, Ev.step (f := fun _ => some (-1)) (fun k => ?_) (Ev.now _), by omega, by omega⟩
      rw [laws_szReportS.l0, if_pos (by omega), if_pos h0, hs, if_pos hneg, Option.bind_some, if_pos (by omega)]
    · obtain ⟨r, hr, ha, hb⟩ := ih (i + 1) (left - (((rd_T27 l i).f3).size : Int)) (by omega) (by omega) (by omega) (by omega)
      refine ⟨r, Ev.step (f := fun k => laws_szReportS.l0 k l (left - (((rd_T27 l i).f3).size : Int)) (i + 1)) (fun k => ?_) hr, by omega, hb⟩
      rw [laws_szReportS.l0, if_pos (by omega), if_pos h0, hs, if_neg hneg, Option.bind_some, if_neg hneg, wr (by omega) (by omega)]
theorem szR (l : List S27) (hl : l.length ≤ 9223372036854775807) (hy : ∀ y, y ∈ l → ok27 y) (left : Int) (h2 : 0 ≤ left) (h3 : left ≤ 1048576) :
    ∃ r, Ev (fun k => laws_szReportS.f k l left) r ∧ r ≤ left ∧ -1 ≤ r ∧ (0 ≤ r → (l.length : Int) ≤ left) := by
  have hw : wrap64 (left - (l.length : Int)) = left - (l.length : Int) := wr (by omega) (by omega)
  by_cases hneg : left - (l.length : Int) < 0
  · exact ⟨-1, Ev.congr (f := fun _ => some (-1)) (fun k => by unfold laws_szReportS.f; rw [hw, if_pos hneg]) (Ev.now _), by omega, by omega, fun h => by omega⟩
  · obtain ⟨r, hr, ha, hb⟩ := szR_loop l hl hy l.length 0 (left - (l.length : Int)) (by omega) (by omega) (by omega) (by omega)
    exact ⟨r, Ev.congr (f := fun k => laws_szReportS.l0 k l (left - (l.length : Int)) 0) (fun k => by unfold laws_szReportS.f; rw [hw, if_neg hneg]) hr, by omega, hb, fun _ => by omega⟩
def toRep (x : S27) : S36 := ⟨x.f0, x.f1, x.f2, x.f3⟩
theorem toR_loop (l : List S27) (hl : l.length ≤ 1048576) (d : Nat) : ∀ (i : Int) (m : List S36), 0 ≤ i → i + d = l.length → m.length = l.length → m.take i.toNat = (l.map toRep).take i.toNat →
    Ev (fun k => laws_toReportS.l0 k l m i) (l.map toRep) := by
  induction d with
  | zero =>
    intro i m h0 h1 hm ht
    have : m = l.map toRep := by rw [List.take_of_length_le (by omega), List.take_of_length_le (by rw [List.length_map]; omega)] at ht; exact ht
    subst this
    exact Ev.step (f := fun _ => some (l.map toRep)) (fun k => by rw [laws_toReportS.l0, if_neg (by omega)]) (Ev.now _)
  | succ d ih =>
    intro i m h0 h1 hm ht
    refine Ev.step (f := fun k => laws_toReportS.l0 k l (m.set i.toNat (toRep (rd_T27 l i))) (i + 1)) (fun k => ?_) (ih (i + 1) _ (by omega) (by omega) (by rw [List.length_set]; exact hm) ?_)
    · rw [laws_toReportS.l0, if_pos (by omega), if_pos h0]
      unfold laws_toReport.f
      rw [Option.bind_some, if_pos (by omega), wr (by omega) (by omega)]
      rfl
    · rw [show (i + 1).toNat = i.toNat + 1 by omega]
      have := set_take (l.map toRep) m (toRep z27) i.toNat (by rw [List.length_map]; omega) (by rw [List.length_map]; exact hm) ht
      rw [List.getD_eq_getElem?_getD, List.getElem?_map, List.getElem?_eq_getElem (by omega)] at this
      unfold rd_T27
      rw [List.getD_eq_getElem?_getD, List.getElem?_eq_getElem (by omega)]
      exact this
theorem toR (l : List S27) (hl : l.length ≤ 1048576) : Ev (fun k => laws_toReportS.f k l) (l.map toRep) := by
  refine Ev.congr (f := fun k => laws_toReportS.l0 k l (List.replicate ((l.length : Int) : Int).toNat z36) 0) (fun k => ?_) (toR_loop l hl l.length 0 _ (by omega) (by omega) (by simp) (by simp))
  unfold laws_toReportS.f
  rw [if_pos (by omega), if_pos (by omega)]
theorem eqReport_refl (a b c : Int) (s : ByteArray) : laws_eqReport.f a b c s a b c s = some true := by unfold laws_eqReport.f; simp
theorem eqR_loop (l : List S36) (hl : l.length ≤ 1048576) (d : Nat) : ∀ i : Int, 0 ≤ i → i + d = l.length → Ev (fun k => laws_eqReportS.l0 k l l i) true := by
  induction d with
  | zero => intro i h0 h1; exact Ev.step (f := fun _ => some true) (fun k => by rw [laws_eqReportS.l0, if_neg (by omega)]) (Ev.now _)
  | succ d ih =>
    intro i h0 h1
    refine Ev.step (f := fun k => laws_eqReportS.l0 k l l (i + 1)) (fun k => ?_) (ih (i + 1) (by omega) (by omega))
    rw [laws_eqReportS.l0, if_pos (by omega), if_pos h0, if_pos (by omega), eqReport_refl, Option.bind_some, if_pos rfl, wr (by omega) (by omega)]
theorem eqR (l : List S36) (hl : l.length ≤ 1048576) : Ev (fun k => laws_eqReportS.f k l l) true :=
  Ev.congr (f := fun k => laws_eqReportS.l0 k l l 0) (fun k => by unfold laws_eqReportS.f; rw [if_pos rfl]) (eqR_loop l hl l.length 0 (by omega) (by omega))

/-- The guard of a queue's size. -/
theorem szQ (l : List S27) (m : List ByteArray) (hl : l.length ≤ 9223372036854775807) (hy : ∀ y, y ∈ l → ok27 y) (hm : m.length ≤ 9223372036854775807) (hz : ∀ y, y ∈ m → y.size ≤ 9223372036854775807)
    (left : Int) (h2 : 0 ≤ left) (h3 : left ≤ 1048576) : ∃ r, Ev (fun k => laws_szQueue.f k l m left) r ∧ r ≤ left ∧ -1 ≤ r ∧ (0 ≤ r → l.length ≤ 1048576 ∧ m.length ≤ 1048576) := by
  obtain ⟨r1, e1, a1, b1, c1⟩ := szR l hl hy left h2 h3
  by_cases n1 : r1 < 0
  · refine ⟨-1, ?_, by omega, by omega, fun h => by omega⟩
    unfold laws_szQueue.f
    refine Ev.bind e1 ?_
    simp only [if_pos n1]; exact Ev.now _
  · obtain ⟨r2, e2, a2, b2, c2⟩ := szS m hm hz r1 (by omega) (by omega)
    refine ⟨r2, ?_, by omega, by omega, fun h => by have := c1 (by omega); have := c2 h; omega⟩
    unfold laws_szQueue.f
    refine Ev.bind e1 ?_
    simp only [if_neg n1]
    refine Ev.bind e2 ?_
    by_cases n2 : r2 < 0
    · have : r2 = -1 := by omega
      subst this; simp only [if_pos n2]; exact Ev.now _
    · simp only [if_neg n2]; exact Ev.now _
theorem toQ (l : List S27) (m : List ByteArray) (hl : l.length ≤ 1048576) (hm : m.length ≤ 1048576) : Ev (fun k => laws_toQueue.f k l m) (l.map toRep, m) := by
  unfold laws_toQueue.f
  exact Ev.bind (toR l hl) (Ev.bind (toS m hm) (Ev.now _))
theorem eqQ (l : List S36) (m : List ByteArray) (hl : l.length ≤ 1048576) (hm : m.length ≤ 1048576) : Ev (fun k => laws_eqQueue.f k l m l m) true := by
  unfold laws_eqQueue.f
  refine Ev.bind (eqR l hl) ?_
  simp only [if_true]
  refine Ev.bind (eqS m hm) ?_
  simp only [if_true]
  exact Ev.now _

def inB (n lo hi : Int) : Bool := decide (lo ≤ n) && decide (n ≤ hi)
theorem within_is (n lo hi : Int) : impl_within.f n lo hi = some (inB n lo hi) := by
  unfold impl_within.f inB
  by_cases h : lo ≤ n <;> simp [h]

theorem in_is (n lo hi : Int) : spec_l01In.f n lo hi = some (inB n lo hi) := by
  unfold spec_l01In.f inB
  by_cases h : lo ≤ n
  · rw [if_pos h]; simp [h]
  · rw [if_neg h]; simp [h]

def reportB (id born tries : Int) (body : ByteArray) : Bool := inB id 1 1000000 && (inB born 0 1000000 && (inB tries 0 3 && inB body.size 1 8000))
theorem report_impl (id born tries : Int) (body : ByteArray) : impl_ReportOK.f id born tries body = some (reportB id born tries body) := by
  unfold impl_ReportOK.f impl_isBody.f reportB
  simp only [within_is, Option.bind_some]
  cases inB id 1 1000000 <;> cases inB born 0 1000000 <;> cases inB tries 0 3 <;> rfl
theorem report_spec (id born tries : Int) (body : ByteArray) : spec_l06Report.f id born tries body = some (reportB id born tries body) := by
  unfold spec_l06Report.f reportB
  simp only [in_is, Option.bind_some]
  cases inB id 1 1000000 <;> cases inB born 0 1000000 <;> cases inB tries 0 3 <;> rfl

/-- Both look-ups of a text in a list come to the same. -/
theorem has_same (l : List ByteArray) (s : ByteArray) (hl : l.length ≤ 1048576) (d : Nat) : ∀ i : Int, 0 ≤ i → i + d = l.length →
    ∃ r q, Ev (fun k => spec_l01Has.l0 k l s i) r ∧ Ev (fun k => slices_Index_string_string.l0 k l s l.length i) q ∧ decide (q ≥ 0) = r := by
  induction d with
  | zero =>
    intro i h0 h1
    exact ⟨false, -1, Ev.step (f := fun _ => some false) (fun k => by rw [spec_l01Has.l0, if_neg (by omega)]) (Ev.now _), Ev.step (f := fun _ => some (-1)) (fun k => by rw [slices_Index_string_string.l0, if_neg (by omega)]) (Ev.now _), by decide⟩
  | succ d ih =>
    intro i h0 h1
    by_cases h : (rdOf ByteArray.empty l i).toList = s.toList
    · refine ⟨true, i, Ev.step (f := fun _ => some true) (fun k => by rw [spec_l01Has.l0, if_pos (by omega), if_pos h0, if_pos h]) (Ev.now _), Ev.step (f := fun _ => some i) (fun k => by rw [slices_Index_string_string.l0, if_pos (by omega), if_pos h0, if_pos (by omega), if_pos h.symm]) (Ev.now _), by simpa using h0⟩
    · obtain ⟨r, q, e1, e2, e3⟩ := ih (i + 1) (by omega) (by omega)
      exact ⟨r, q, Ev.step (f := fun k => spec_l01Has.l0 k l s (i + 1)) (fun k => by rw [spec_l01Has.l0, if_pos (by omega), if_pos h0, if_neg h, wr (by omega) (by omega)]) e1,
        Ev.step (f := fun k => slices_Index_string_string.l0 k l s l.length (i + 1)) (fun k => by rw [slices_Index_string_string.l0, if_pos (by omega), if_pos h0, if_pos (by omega), if_neg (fun e => h e.symm), wr (by omega) (by omega)]) e2, e3⟩
theorem has_both (l : List ByteArray) (s : ByteArray) (hl : l.length ≤ 1048576) : ∃ r, Ev (fun k => spec_l01Has.f k l s) r ∧ Ev (fun k => slices_Contains_string_string.f k l s) r := by
  obtain ⟨r, q, e1, e2, e3⟩ := has_same l s hl l.length 0 (by omega) (by omega)
  refine ⟨r, e1, ?_⟩
  unfold slices_Contains_string_string.f
  refine Ev.bind e2 ?_
  rw [e3]; exact Ev.now _
theorem recent_same (its : List S36) (l : List ByteArray) (hl : l.length ≤ 1048576) (d : Nat) : ∀ i : Int, 0 ≤ i → i + d = l.length →
    ∃ r, Ev (fun k => spec_l06OK.l1 k i its l) r ∧ Ev (fun k => impl_QueueOK.l1 k l l.length i its l) r := by
  induction d with
  | zero =>
    intro i h0 h1
    exact ⟨true, Ev.step (f := fun _ => some true) (fun k => by rw [spec_l06OK.l1, if_neg (by omega)]) (Ev.now _), Ev.step (f := fun _ => some true) (fun k => by rw [impl_QueueOK.l1, if_neg (by omega)]) (Ev.now _)⟩
  | succ d ih =>
    intro i h0 h1
    obtain ⟨b, e1, e2⟩ := has_both (l.take i.toNat) (rdOf ByteArray.empty l i) (by rw [List.length_take]; omega)
    obtain ⟨r, f1, f2⟩ := ih (i + 1) (by omega) (by omega)
    cases hb : inB ((rdOf ByteArray.empty l i).size : Int) 1 8000 with
    | false =>
      refine ⟨false, Ev.step (f := fun _ => some false) (fun k => ?_) (Ev.now _), Ev.step (f := fun _ => some false) (fun k => ?_) (Ev.now _)⟩
      · rw [spec_l06OK.l1, if_pos (by omega), if_pos h0, in_is, hb, Option.bind_some, if_neg (by decide)]
      · rw [impl_QueueOK.l1, if_pos (by omega), if_pos h0, if_pos (by omega)]
        unfold impl_isBody.f
        rw [within_is, hb, Option.bind_some, Option.bind_some, if_neg (by decide)]
    | true =>
      refine ⟨if b then false else r, Ev.step (f := fun k => (spec_l01Has.f k (l.take i.toNat) (rdOf ByteArray.empty l i)).bind fun t => if t = true then some false else spec_l06OK.l1 k (i + 1) its l) (fun k => ?_) ?_,
        Ev.step (f := fun k => (slices_Contains_string_string.f k (l.take i.toNat) (rdOf ByteArray.empty l i)).bind fun t => if t = true then some false else impl_QueueOK.l1 k l l.length (i + 1) its l) (fun k => ?_) ?_⟩
      · rw [spec_l06OK.l1, if_pos (by omega), if_pos h0, in_is, hb, Option.bind_some, if_pos rfl, if_pos (by omega), wr (by omega) (by omega)]
      · refine Ev.bind e1 ?_
        cases b
        · simpa using f1
        · simpa using Ev.now false
      · rw [impl_QueueOK.l1, if_pos (by omega), if_pos h0, if_pos (by omega)]
        unfold impl_isBody.f
        rw [within_is, hb, Option.bind_some, Option.bind_some, if_pos rfl, if_pos (by omega), wr (by omega) (by omega)]
      · refine Ev.bind e2 ?_
        cases b
        · simpa using f2
        · simpa using Ev.now false
theorem items_same (its : List S36) (l : List ByteArray) (hi : its.length ≤ 5) (hl : l.length ≤ 1048576) (d : Nat) : ∀ i : Int, 0 ≤ i → i + d = its.length →
    ∃ r, Ev (fun k => spec_l06OK.l0 k i its l) r ∧ Ev (fun k => impl_QueueOK.l0 k its its.length i its l) r := by
  induction d with
  | zero =>
    intro i h0 h1
    obtain ⟨r, e1, e2⟩ := recent_same its l hl l.length 0 (by omega) (by omega)
    exact ⟨r, Ev.step (f := fun k => spec_l06OK.l1 k 0 its l) (fun k => by rw [spec_l06OK.l0, if_neg (by omega)]) e1, Ev.step (f := fun k => impl_QueueOK.l1 k l l.length 0 its l) (fun k => by rw [impl_QueueOK.l0, if_neg (by omega)]) e2⟩
  | succ d ih =>
    intro i h0 h1
    obtain ⟨r, f1, f2⟩ := ih (i + 1) (by omega) (by omega)
    cases hb : reportB ((rd_T36 its i).f0) ((rd_T36 its i).f1) ((rd_T36 its i).f2) ((rd_T36 its i).f3) with
    | false =>
      refine ⟨false, Ev.step (f := fun _ => some false) (fun k => ?_) (Ev.now _), Ev.step (f := fun _ => some false) (fun k => ?_) (Ev.now _)⟩
      · rw [spec_l06OK.l0, if_pos (by omega), if_pos h0, report_spec, hb, Option.bind_some, if_neg (by decide)]
      · rw [impl_QueueOK.l0, if_pos (by omega), if_pos h0, if_pos (by omega), report_impl, hb, Option.bind_some, if_neg (by decide)]
    | true =>
      by_cases hp : i > 0 ∧ (((rd_T36 its i).f0) ≤ ((rd_T36 its (i - 1)).f0) ∨ ((rd_T36 its i).f1) < ((rd_T36 its (i - 1)).f1))
      · refine ⟨false, Ev.step (f := fun _ => some false) (fun k => ?_) (Ev.now _), Ev.step (f := fun _ => some false) (fun k => ?_) (Ev.now _)⟩
        · rw [spec_l06OK.l0, if_pos (by omega), if_pos h0, report_spec, hb, Option.bind_some, if_pos rfl, if_pos hp.1, wr (by omega) (by omega), if_pos (by omega), if_pos (by omega)]
          rcases hp.2 with h | h
          · rw [if_pos h]
          · rw [if_pos h]; split <;> rfl
        · rw [impl_QueueOK.l0, if_pos (by omega), if_pos h0, if_pos (by omega), report_impl, hb, Option.bind_some, if_pos rfl, if_pos hp.1, wr (by omega) (by omega), if_pos (by omega), if_pos (by omega)]
          rcases hp.2 with h | h
          · rw [if_pos h]
          · rw [if_pos h]; split <;> rfl
      · refine ⟨r, Ev.step (f := fun k => spec_l06OK.l0 k (i + 1) its l) (fun k => ?_) f1, Ev.step (f := fun k => impl_QueueOK.l0 k its its.length (i + 1) its l) (fun k => ?_) f2⟩
        · rw [spec_l06OK.l0, if_pos (by omega), if_pos h0, report_spec, hb, Option.bind_some, if_pos rfl, wr (x := i + 1) (by omega) (by omega)]
          by_cases hg : i > 0
          · rw [if_pos hg, wr (by omega) (by omega), if_pos (by omega), if_pos (by omega), if_neg (fun h => hp ⟨hg, .inl h⟩), if_neg (fun h => hp ⟨hg, .inr h⟩)]
          · rw [if_neg hg]
        · rw [impl_QueueOK.l0, if_pos (by omega), if_pos h0, if_pos (by omega), report_impl, hb, Option.bind_some, if_pos rfl, wr (x := i + 1) (by omega) (by omega)]
          by_cases hg : i > 0
          · rw [if_pos hg, wr (by omega) (by omega), if_pos (by omega), if_pos (by omega), if_neg (fun h => hp ⟨hg, .inl h⟩), if_neg (fun h => hp ⟨hg, .inr h⟩)]
          · rw [if_neg hg]
theorem queueOK_same (its : List S36) (l : List ByteArray) : ∃ r, Ev (fun k => spec_l06OK.f k its l) r ∧ Ev (fun k => impl_QueueOK.f k its l) r ∧ (r = true → its.length ≤ 5 ∧ l.length ≤ 6) := by
  by_cases h : its.length ≤ 5 ∧ l.length ≤ 6
  · obtain ⟨r, e1, e2⟩ := items_same its l h.1 (by omega) its.length 0 (by omega) (by omega)
    refine ⟨r, ?_, ?_, fun _ => h⟩
    · refine Ev.congr (f := fun k => spec_l06OK.j0 k false its l) (fun k => by unfold spec_l06OK.f; rw [if_neg (by omega), decide_eq_false (by omega)]) (Ev.step (f := fun k => spec_l06OK.l0 k 0 its l) (fun k => by rw [spec_l06OK.j0, if_neg (by decide)]) e1)
    · refine Ev.congr (f := fun k => impl_QueueOK.j0 k false its l) (fun k => by unfold impl_QueueOK.f; rw [if_neg (by omega), decide_eq_false (by omega)]) (Ev.step (f := fun k => impl_QueueOK.l0 k its its.length 0 its l) (fun k => by rw [impl_QueueOK.j0, if_neg (by decide)]) e2)
  · refine ⟨false, ?_, ?_, fun e => by cases e⟩
    · refine Ev.congr (f := fun k => spec_l06OK.j0 k true its l) (fun k => ?_) (Ev.step (f := fun _ => some false) (fun k => by rw [spec_l06OK.j0, if_pos rfl]) (Ev.now _))
      unfold spec_l06OK.f
      by_cases h5 : (its.length : Int) > 5
      · rw [if_pos h5]
      · rw [if_neg h5, decide_eq_true (by omega)]
    · refine Ev.congr (f := fun k => impl_QueueOK.j0 k true its l) (fun k => ?_) (Ev.step (f := fun _ => some false) (fun k => by rw [impl_QueueOK.j0, if_pos rfl]) (Ev.now _))
      unfold impl_QueueOK.f
      by_cases h5 : (its.length : Int) > 5
      · rw [if_pos h5]
      · rw [if_neg h5, decide_eq_true (by omega)]

theorem strOfNums_append (a b : List Int) : strOfNums (a ++ b) = strOfNums a ++ strOfNums b := by
  apply ByteArray.ext
  rw [ByteArray.data_append]
  apply Array.toList_inj.1
  simp [strOfNums]
theorem strOfNums_size (a : List Int) : (strOfNums a).size = a.length := by
  simp [strOfNums, ByteArray.size]
theorem bt_lt (s : ByteArray) (i : Int) (h : i.toNat < s.size) : bt s i = ((s[i.toNat]'h).toNat : Int) := by simp [bt, h]
theorem extract_one (s : ByteArray) (i : Int) (h0 : 0 ≤ i) (h1 : i < s.size) : s.extract i.toNat (i + 1).toNat = strOfNums [bt s i] := by
  have hl : i.toNat < s.size := by omega
  apply ByteArray.ext
  apply Array.toList_inj.1
  rw [ByteArray.data_extract, Array.toList_extract, List.extract_eq_take_drop, show (i + 1).toNat - i.toNat = 1 by omega]
  have hl' : i.toNat < s.data.toList.length := by simpa using hl
  rw [List.drop_eq_getElem_cons hl', List.take_succ_cons, List.take_zero, bt_lt s i hl]
  simp [strOfNums]
  rfl

/-- The law's own mark of a place. -/
def mT (n : Nat) : ByteArray := (⟨#[109]⟩ : ByteArray) ++ (⟨(Lib.decDigits n).toArray⟩ : ByteArray)
theorem mT_join (a b : List UInt8) : (⟨(a ++ b).toArray⟩ : ByteArray) = (⟨a.toArray⟩ : ByteArray) ++ (⟨b.toArray⟩ : ByteArray) := by
  apply ByteArray.ext
  rw [ByteArray.data_append]
  simp
theorem bytes_assoc (a b c : ByteArray) : a ++ (b ++ c) = a ++ b ++ c := by
  apply ByteArray.ext
  simp only [ByteArray.data_append, Array.append_assoc]
theorem bytes_nil (a : ByteArray) : a ++ (⟨#[]⟩ : ByteArray) = a := by
  apply ByteArray.ext
  simp only [ByteArray.data_append, Array.append_empty]
theorem one_size (x : UInt8) : (⟨#[x]⟩ : ByteArray).size = 1 := rfl
theorem markText_loop : ∀ (n : Nat), 1 ≤ n → n ≤ 1000000000000 → ∀ t : ByteArray, t.size + (Lib.decDigits n).length ≤ 1000 → Ev (fun k => laws_markText.l0 k (n : Int) t) ((⟨#[109]⟩ : ByteArray) ++ ((⟨(Lib.decDigits n).toArray⟩ : ByteArray) ++ t)) := by
  intro n
  induction n using Nat.strongRecOn with
  | _ n ih =>
  intro h1 h2 t ht
  have hd : Int.tdiv (n : Int) 10 = ((n / 10 : Nat) : Int) := by rw [Int.tdiv_eq_ediv_of_nonneg (by omega)]; omega
  have hm : Int.tmod (n : Int) 10 = ((n % 10 : Nat) : Int) := by rw [Int.tmod_eq_emod_of_nonneg (by omega)]; omega
  have e : ((48 + ((n % 10 : Nat) : Int)) % 256).toNat = 48 + n % 10 := by omega
  have e2 : strOfNums [(48 + ((n % 10 : Nat) : Int)) % 256] = (⟨#[UInt8.ofNat (48 + n % 10)]⟩ : ByteArray) := by simp only [strOfNums, List.map_cons, List.map_nil, e]
  have stp : ∀ k, laws_markText.l0 (k + 1) (n : Int) t = laws_markText.l0 k ((n / 10 : Nat) : Int) ((⟨#[UInt8.ofNat (48 + n % 10)]⟩ : ByteArray) ++ t) := fun k => by
    rw [laws_markText.l0, if_pos (by omega), hd, hm, wr (x := ((n / 10 : Nat) : Int)) (by omega) (by omega), wr (x := 48 + ((n % 10 : Nat) : Int)) (by omega) (by omega)]
    simp only [Option.bind_some, e2]
    rw [if_pos (by rw [one_size]; omega)]
  refine Ev.step (f := fun k => laws_markText.l0 k ((n / 10 : Nat) : Int) ((⟨#[UInt8.ofNat (48 + n % 10)]⟩ : ByteArray) ++ t)) stp ?_
  by_cases h : n < 10
  · have hz : n / 10 = 0 := by omega
    have hm' : n % 10 = n := by omega
    rw [hz, hm', Lib.decDigits_one h]
    exact Ev.step (f := fun _ => some ((⟨#[109]⟩ : ByteArray) ++ ((⟨#[UInt8.ofNat (48 + n)]⟩ : ByteArray) ++ t))) (fun k => by rw [laws_markText.l0, if_neg (by omega), if_pos (by rw [ByteArray.size_append, one_size]; omega)]) (Ev.now _)
  · have el : (Lib.decDigits n).length = (Lib.decDigits (n / 10)).length + 1 := by
      conv => lhs; rw [Lib.decDigits, dif_neg h]
      simp
    have e3 : (⟨(Lib.decDigits n).toArray⟩ : ByteArray) = (⟨(Lib.decDigits (n / 10)).toArray⟩ : ByteArray) ++ (⟨#[UInt8.ofNat (48 + n % 10)]⟩ : ByteArray) := by
      conv => lhs; rw [Lib.decDigits, dif_neg h]
      exact mT_join _ _
    rw [e3, ← bytes_assoc]
    exact ih (n / 10) (by omega) (by omega) (by omega) _ (by rw [ByteArray.size_append, one_size]; omega)
theorem markText_is (n : Nat) (h1 : 1 ≤ n) (h2 : n ≤ 1000000000000) : Ev (fun k => laws_markText.f k (n : Int)) (mT n) := by
  have hl : (Lib.decDigits n).length ≤ 20 := by rw [Lib.decDigits_length]; exact Lib.nDigits_le20 n (by omega)
  have := markText_loop n h1 h2 ⟨#[]⟩ (by show 0 + _ ≤ _; omega)
  rw [bytes_nil] at this
  refine Ev.congr (f := fun k => laws_markText.l0 k (n : Int) (⟨#[]⟩ : ByteArray)) (fun k => by unfold laws_markText.f; rw [if_neg (by omega)]) this
/-- The marks of a row from v on. -/
def marks (v n : Nat) : List ByteArray := (List.range n).map fun j => mT (v + j)
theorem marks_length (v n : Nat) : (marks v n).length = n := by simp [marks]
theorem marks_at (v n i : Nat) (hi : i < n) : rdOf ByteArray.empty (marks v n) (i : Int) = mT (v + i) := by
  unfold rdOf marks
  rw [Int.toNat_natCast, List.getD_eq_getElem?_getD, List.getElem?_map, List.getElem?_range hi]
  rfl

theorem markS_loop (v n : Nat) (hv : 1 ≤ v) (hn : v + n ≤ 1000000000) : ∀ (d i : Nat) (m : List ByteArray), i + d = n → m.length = n → m.take i = (marks v n).take i →
    Ev (fun k => laws_markStringS.l0 k m ((v + i : Nat) : Int) (i : Int)) (((v + n : Nat) : Int), marks v n)
  | 0, i, m, h, hm, ht => by
    have : m = marks v n := by rw [List.take_of_length_le (by omega), List.take_of_length_le (by rw [marks_length]; omega)] at ht; exact ht
    subst this
    have hi : i = n := by omega
    subst hi
    exact Ev.step (f := fun _ => some (((v + i : Nat) : Int), marks v i)) (fun k => by rw [laws_markStringS.l0, if_neg (by omega)]) (Ev.now _)
  | d + 1, i, m, h, hm, ht => by
    refine Ev.step (f := fun k => (laws_markText.f k ((v + i : Nat) : Int)).bind fun t => laws_markStringS.l0 k (m.set i t) ((v + (i + 1) : Nat) : Int) ((i + 1 : Nat) : Int)) (fun k => ?_) (Ev.bind (markText_is (v + i) (by omega) (by omega)) ?_)
    · rw [laws_markStringS.l0, if_pos (by omega)]
      congr 1
      funext t
      rw [if_pos (by omega), wr (x := ((v + i : Nat) : Int) + 1) (by omega) (by omega), wr (x := (i : Int) + 1) (by omega) (by omega)]
      rfl
    · refine markS_loop v n hv hn d (i + 1) _ (by omega) (by rw [List.length_set]; exact hm) ?_
      have := set_take (marks v n) m ByteArray.empty i (by rw [marks_length]; omega) (by rw [marks_length]; exact hm) ht
      have e : (marks v n).getD i ByteArray.empty = mT (v + i) := by have := marks_at v n i (by omega); unfold rdOf at this; rwa [Int.toNat_natCast] at this
      rwa [e] at this
theorem markS (l : List ByteArray) (v : Nat) (hv : 1 ≤ v) (hn : v + l.length ≤ 1000000000) : Ev (fun k => laws_markStringS.f k l (v : Int)) (((v + l.length : Nat) : Int), marks v l.length) := by
  unfold laws_markStringS.f
  exact markS_loop v l.length hv hn l.length 0 l (by omega) rfl (by simp)

/-- The marks of a row of reports from v on. -/
def mR (v : Nat) : S36 := ⟨((v : Nat) : Int), ((v + 1 : Nat) : Int), ((v + 2 : Nat) : Int), mT (v + 3)⟩
def marksR (v n : Nat) : List S36 := (List.range n).map fun j => mR (v + 4 * j)
theorem marksR_length (v n : Nat) : (marksR v n).length = n := by simp [marksR]
theorem marksR_at (v n i : Nat) (hi : i < n) : rd_T36 (marksR v n) (i : Int) = mR (v + 4 * i) := by
  unfold rd_T36 marksR
  rw [Int.toNat_natCast, List.getD_eq_getElem?_getD, List.getElem?_map, List.getElem?_range hi]
  rfl
theorem rdR_set (l : List S36) (a : S36) (i : Nat) (hi : i < l.length) : rd_T36 (l.set i a) (i : Int) = a := by
  unfold rd_T36
  rw [Int.toNat_natCast, List.getD_eq_getElem?_getD, List.getElem?_set_self hi]
  rfl
theorem markR_loop (v n : Nat) (hv : 1 ≤ v) (hn : v + 4 * n ≤ 1000000000) : ∀ (d i : Nat) (m : List S36), i + d = n → m.length = n → m.take i = (marksR v n).take i →
    Ev (fun k => laws_markReportS.l0 k m ((v + 4 * i : Nat) : Int) (i : Int)) (((v + 4 * n : Nat) : Int), marksR v n)
  | 0, i, m, h, hm, ht => by
    have : m = marksR v n := by rw [List.take_of_length_le (by omega), List.take_of_length_le (by rw [marksR_length]; omega)] at ht; exact ht
    subst this
    have hi : i = n := by omega
    subst hi
    exact Ev.step (f := fun _ => some (((v + 4 * i : Nat) : Int), marksR v i)) (fun k => by rw [laws_markReportS.l0, if_neg (by omega)]) (Ev.now _)
  | d + 1, i, m, h, hm, ht => by
    refine Ev.step (f := fun k => (laws_markText.f k ((v + 4 * i + 3 : Nat) : Int)).bind fun t => laws_markReportS.l0 k (m.set i ⟨((v + 4 * i : Nat) : Int), ((v + 4 * i + 1 : Nat) : Int), ((v + 4 * i + 2 : Nat) : Int), t⟩) ((v + 4 * (i + 1) : Nat) : Int) ((i + 1 : Nat) : Int)) (fun k => ?_) (Ev.bind (markText_is (v + 4 * i + 3) (by omega) (by omega)) ?_)
    · have w1 : wrap64 (((v + 4 * i : Nat) : Int) + 1) = ((v + 4 * i + 1 : Nat) : Int) := by rw [wr (by omega) (by omega)]; omega
      have w2 : wrap64 (((v + 4 * i + 1 : Nat) : Int) + 1) = ((v + 4 * i + 2 : Nat) : Int) := by rw [wr (by omega) (by omega)]; omega
      have w3 : wrap64 (((v + 4 * i + 2 : Nat) : Int) + 1) = ((v + 4 * i + 3 : Nat) : Int) := by rw [wr (by omega) (by omega)]; omega
      have w4 : wrap64 (((v + 4 * i + 3 : Nat) : Int) + 1) = ((v + 4 * (i + 1) : Nat) : Int) := by rw [wr (by omega) (by omega)]; omega
      have w5 : wrap64 ((i : Int) + 1) = ((i + 1 : Nat) : Int) := by rw [wr (by omega) (by omega)]; omega
      rw [laws_markReportS.l0, if_pos (by omega), if_pos (by omega)]
      simp only [Option.bind_some, w1, w2, w3, w4, w5, Int.toNat_natCast]
      rw [rdR_set m _ i (by omega)]
      simp only [List.set_set]
      rw [rdR_set m _ i (by omega)]
      simp only [List.set_set]
      rw [rdR_set m _ i (by omega)]
    · refine markR_loop v n hv hn d (i + 1) _ (by omega) (by rw [List.length_set]; exact hm) ?_
      have := set_take (marksR v n) m z36 i (by rw [marksR_length]; omega) (by rw [marksR_length]; exact hm) ht
      have e : (marksR v n).getD i z36 = mR (v + 4 * i) := by have := marksR_at v n i (by omega); unfold rd_T36 at this; rwa [Int.toNat_natCast] at this
      rwa [e] at this
theorem markR (l : List S36) (v : Nat) (hv : 1 ≤ v) (hn : v + 4 * l.length ≤ 1000000000) : Ev (fun k => laws_markReportS.f k l (v : Int)) (((v + 4 * l.length : Nat) : Int), marksR v l.length) := by
  unfold laws_markReportS.f
  exact markR_loop v l.length hv hn l.length 0 l (by omega) rfl (by simp)
theorem heldR_loop (v n : Nat) (hv : 1 ≤ v) (hn : v + 4 * n ≤ 1000000000) : ∀ (d i : Nat), i + d = n → Ev (fun k => laws_heldReportS.l0 k (marksR v n) ((v + 4 * i : Nat) : Int) (i : Int)) ((v + 4 * n : Nat) : Int)
  | 0, i, h => by
    have hi : i = n := by omega
    subst hi
    exact Ev.step (f := fun _ => some ((v + 4 * i : Nat) : Int)) (fun k => by rw [laws_heldReportS.l0, if_neg (by rw [marksR_length]; omega)]) (Ev.now _)
  | d + 1, i, h => by
    refine Ev.step (f := fun k => (laws_markText.f k ((v + 4 * i + 3 : Nat) : Int)).bind fun t => if (mT (v + 4 * i + 3)).toList = t.toList then laws_heldReportS.l0 k (marksR v n) ((v + 4 * (i + 1) : Nat) : Int) ((i + 1 : Nat) : Int) else some (-1)) (fun k => ?_) (Ev.bind (markText_is (v + 4 * i + 3) (by omega) (by omega)) ?_)
    · have w1 : wrap64 (((v + 4 * i : Nat) : Int) + 1) = ((v + 4 * i + 1 : Nat) : Int) := by rw [wr (by omega) (by omega)]; omega
      have w2 : wrap64 (((v + 4 * i + 1 : Nat) : Int) + 1) = ((v + 4 * i + 2 : Nat) : Int) := by rw [wr (by omega) (by omega)]; omega
      have w3 : wrap64 (((v + 4 * i + 2 : Nat) : Int) + 1) = ((v + 4 * i + 3 : Nat) : Int) := by rw [wr (by omega) (by omega)]; omega
      have w4 : wrap64 (((v + 4 * i + 3 : Nat) : Int) + 1) = ((v + 4 * (i + 1) : Nat) : Int) := by rw [wr (by omega) (by omega)]; omega
      have w5 : wrap64 ((i : Int) + 1) = ((i + 1 : Nat) : Int) := by rw [wr (by omega) (by omega)]; omega
      rw [laws_heldReportS.l0, if_pos (by rw [marksR_length]; omega), if_pos (by omega), marksR_at v n i (by omega)]
      simp only [mR, w1, w2, w3, w4, w5, if_true]
    · simp only [if_true]
      exact heldR_loop v n hv hn d (i + 1) (by omega)
theorem heldR (v n : Nat) (hv : 1 ≤ v) (hn : v + 4 * n ≤ 1000000000) : Ev (fun k => laws_heldReportS.f k (marksR v n) (v : Int)) ((v + 4 * n : Nat) : Int) := by
  unfold laws_heldReportS.f
  exact heldR_loop v n hv hn n 0 (by omega)

theorem markQ (l : List S36) (m : List ByteArray) (v : Nat) (hv : 1 ≤ v) (hn : v + 4 * l.length + m.length ≤ 1000000000) : Ev (fun k => laws_markQueue.f k l m (v : Int)) (((v + 4 * l.length + m.length : Nat) : Int), marksR v l.length, marks (v + 4 * l.length) m.length) := by
  unfold laws_markQueue.f
  exact Ev.bind (markR l v hv (by omega)) (Ev.bind (markS m (v + 4 * l.length) (by omega) hn) (Ev.now _))

theorem heldS_loop (v n : Nat) (hv : 1 ≤ v) (hn : v + n ≤ 1000000000) : ∀ (d i : Nat), i + d = n → Ev (fun k => laws_heldStringS.l0 k (marks v n) ((v + i : Nat) : Int) (i : Int)) ((v + n : Nat) : Int)
  | 0, i, h => by
    have hi : i = n := by omega
    subst hi
    exact Ev.step (f := fun _ => some ((v + i : Nat) : Int)) (fun k => by rw [laws_heldStringS.l0, if_neg (by rw [marks_length]; omega)]) (Ev.now _)
  | d + 1, i, h => by
    refine Ev.step (f := fun k => (laws_markText.f k ((v + i : Nat) : Int)).bind fun t => if (mT (v + i)).toList = t.toList then laws_heldStringS.l0 k (marks v n) ((v + (i + 1) : Nat) : Int) ((i + 1 : Nat) : Int) else some (-1)) (fun k => ?_) (Ev.bind (markText_is (v + i) (by omega) (by omega)) ?_)
    · rw [laws_heldStringS.l0, if_pos (by rw [marks_length]; omega), if_pos (by omega), marks_at v n i (by omega), wr (x := ((v + i : Nat) : Int) + 1) (by omega) (by omega), wr (x := (i : Int) + 1) (by omega) (by omega)]
      rfl
    · simp only [if_true]
      exact heldS_loop v n hv hn d (i + 1) (by omega)
theorem heldS (v n : Nat) (hv : 1 ≤ v) (hn : v + n ≤ 1000000000) : Ev (fun k => laws_heldStringS.f k (marks v n) (v : Int)) ((v + n : Nat) : Int) := by
  unfold laws_heldStringS.f
  exact heldS_loop v n hv hn n 0 (by omega)

theorem heldQ (v n m : Nat) (hv : 1 ≤ v) (hn : v + 4 * n + m ≤ 1000000000) : Ev (fun k => laws_heldQueue.f k (marksR v n) (marks (v + 4 * n) m) (v : Int)) ((v + 4 * n + m : Nat) : Int) := by
  unfold laws_heldQueue.f
  refine Ev.bind (heldR v n hv (by omega)) ?_
  have p : ¬ (((v + 4 * n : Nat) : Int) < 0) := by omega
  simp only [if_neg p]
  refine Ev.bind (heldS (v + 4 * n) m (by omega) hn) ?_
  have p2 : ¬ (((v + 4 * n + m : Nat) : Int) < 0) := by omega
  simp only [if_neg p2]
  exact Ev.now _

theorem own_is (l : List S36) (m : List ByteArray) (hl : l.length ≤ 1048576) (hm : m.length ≤ 1048576) : spec_l06Own.f l m = some (l, m) := by
  unfold spec_l06Own.f
  simp only [Option.bind_some, List.length_nil, List.nil_append]
  rw [if_pos (by omega), if_pos (by omega)]
theorem copied_is (l : List S36) (m : List ByteArray) (hl : l.length ≤ 1048576) (hm : m.length ≤ 1048576) : impl_Queue_copied.f l m = some (l, m) := by
  unfold impl_Queue_copied.f impl_Report.f slices_Clone_string_string.f
  rw [if_pos (by omega), if_pos (by omega)]; rfl
/-- What a report that is taken makes of the queue. -/
def oX (l : List S36) (r : S36) : List S36 := (if (l.length : Int) = 5 then l.drop 1 else l) ++ [r]
def oY (m : List ByteArray) (s : ByteArray) : List ByteArray := (if (m.length : Int) = 6 then m.drop 1 else m) ++ [s]
def oG (l : List S36) : Int := if (l.length : Int) = 5 then (rd_T36 l 0).f0 else 0
theorem oX_len (l : List S36) (r : S36) : (oX l r).length ≤ l.length + 1 := by
  unfold oX; split <;> simp
theorem oY_len (m : List ByteArray) (s : ByteArray) : (oY m s).length ≤ m.length + 1 := by
  unfold oY; split <;> simp
theorem offer_spec (l : List S36) (m : List ByteArray) (a b c : Int) (s : ByteArray) (hl : l.length ≤ 1000) (hm : m.length ≤ 1000) (hs : Ev (fun k => spec_l01Has.f k m s) false) :
    Ev (fun k => spec_l06Offer.f k l m a b c s) (oX l ⟨a, b, c, s⟩, oY m s, true, oG l) := by
  unfold spec_l06Offer.f
  refine Ev.bind hs ?_
  unfold oX oY oG
  by_cases h5 : (l.length : Int) = 5
  · have d1 : (l.drop (1 : Int).toNat).length ≤ 1000 := by rw [List.length_drop]; omega
    by_cases h6 : (m.length : Int) = 6
    · have d2 : (m.drop (1 : Int).toNat).length ≤ 1000 := by rw [List.length_drop]; omega
      simp only [Bool.false_eq_true, if_false, if_pos h5, if_pos h6, if_pos (show 0 < (l.length : Int) by omega), if_pos (show 1 ≤ (l.length : Int) by omega), if_pos (show 1 ≤ (m.length : Int) by omega), Option.bind_some, List.length_nil, List.nil_append, List.length_cons]
      rw [if_pos (by omega), if_pos (by omega), if_pos (by omega), if_pos (by omega)]
      exact Ev.now _
    · simp only [Bool.false_eq_true, if_false, if_pos h5, if_neg h6, if_pos (show 0 < (l.length : Int) by omega), if_pos (show 1 ≤ (l.length : Int) by omega), Option.bind_some, List.length_nil, List.nil_append, List.length_cons]
      rw [if_pos (by omega), if_pos (by omega), if_pos (by omega), if_pos (by omega)]
      exact Ev.now _
  · by_cases h6 : (m.length : Int) = 6
    · have d2 : (m.drop (1 : Int).toNat).length ≤ 1000 := by rw [List.length_drop]; omega
      simp only [Bool.false_eq_true, if_false, if_neg h5, if_pos h6, if_pos (show 1 ≤ (m.length : Int) by omega), Option.bind_some, List.length_nil, List.nil_append, List.length_cons]
      rw [if_pos (by omega), if_pos (by omega), if_pos (by omega), if_pos (by omega)]
      exact Ev.now _
    · simp only [Bool.false_eq_true, if_false, if_neg h5, if_neg h6, Option.bind_some, List.length_nil, List.nil_append, List.length_cons]
      rw [if_pos (by omega), if_pos (by omega), if_pos (by omega), if_pos (by omega)]
      exact Ev.now _
theorem offer_impl (l : List S36) (m : List ByteArray) (a b c : Int) (s : ByteArray) (hl : l.length ≤ 1000) (hm : m.length ≤ 1000) (hs : Ev (fun k => slices_Contains_string_string.f k m s) false) :
    Ev (fun k => impl_Queue_offer.f k l m a b c s) (oX l ⟨a, b, c, s⟩, oY m s, true, oG l) := by
  unfold impl_Queue_offer.f
  simp only [copied_is l m (by omega) (by omega), Option.bind_some]
  refine Ev.bind hs ?_
  have x1 := oX_len l ⟨a, b, c, s⟩
  have x2 := oY_len m s
  have hc := copied_is (oX l ⟨a, b, c, s⟩) (oY m s) (by omega) (by omega)
  clear x1 x2
  unfold oX oY at hc
  unfold oX oY oG
  by_cases h5 : (l.length : Int) = 5
  · have d1 : (l.drop (1 : Int).toNat).length ≤ 1000 := by rw [List.length_drop]; omega
    by_cases h6 : (m.length : Int) = 6
    · have d2 : (m.drop (1 : Int).toNat).length ≤ 1000 := by rw [List.length_drop]; omega
      simp only [if_pos h5, if_pos h6] at hc
      simp only [Bool.false_eq_true, if_false, if_pos h5, if_pos h6, if_pos (show 0 < (l.length : Int) by omega), if_pos (show 1 ≤ (l.length : Int) by omega), if_pos (show 1 ≤ (m.length : Int) by omega), Option.bind_some, List.length_cons, List.length_nil]
      rw [if_pos (by omega), if_pos (by omega)]
      erw [hc]
      exact Ev.now _
    · simp only [if_pos h5, if_neg h6] at hc
      simp only [Bool.false_eq_true, if_false, if_pos h5, if_neg h6, if_pos (show 0 < (l.length : Int) by omega), if_pos (show 1 ≤ (l.length : Int) by omega), Option.bind_some, List.length_cons, List.length_nil]
      rw [if_pos (by omega), if_pos (by omega)]
      erw [hc]
      exact Ev.now _
  · by_cases h6 : (m.length : Int) = 6
    · have d2 : (m.drop (1 : Int).toNat).length ≤ 1000 := by rw [List.length_drop]; omega
      simp only [if_neg h5, if_pos h6] at hc
      simp only [Bool.false_eq_true, if_false, if_neg h5, if_pos h6, if_pos (show 1 ≤ (m.length : Int) by omega), Option.bind_some, List.length_cons, List.length_nil]
      rw [if_pos (by omega), if_pos (by omega)]
      erw [hc]
      exact Ev.now _
    · simp only [if_neg h5, if_neg h6] at hc
      simp only [Bool.false_eq_true, if_false, if_neg h5, if_neg h6, Option.bind_some, List.length_cons, List.length_nil]
      rw [if_pos (by omega), if_pos (by omega)]
      rw [hc]
      exact Ev.now _
theorem offer_both (l : List S36) (m : List ByteArray) (a b c : Int) (s : ByteArray) (hl : l.length ≤ 1048576) (hm : m.length ≤ 1048576) :
    ∃ (L : List S36) (M : List ByteArray) (t : Bool) (g e : Int), L.length ≤ 1048576 ∧ M.length ≤ 1048576 ∧ Ev (fun k => spec_Offer.f k l m a b c s) (L, M, t, g, e) ∧ Ev (fun k => impl_Offer.f k l m a b c s) (L, M, t, g, e) := by
  obtain ⟨v, q1, q2, h⟩ := queueOK_same l m
  unfold spec_Offer.f impl_Offer.f
  simp only [report_spec, report_impl, Option.bind_some]
  have bad1 : Ev (fun k => spec_Offer.j0 k true l m a b c s) ([], [], false, 0, 1) := Ev.step (f := fun _ => some ([], [], false, 0, 1)) (fun k => by rw [spec_Offer.j0, if_pos rfl]) (Ev.now _)
  have bad2 : Ev (fun k => impl_Offer.j0 k true l m a b c s) ([], [], false, 0, 1) := Ev.step (f := fun _ => some ([], [], false, 0, 1)) (fun k => by rw [impl_Offer.j0, if_pos rfl]) (Ev.now _)
  cases v
  · refine ⟨[], [], false, 0, 1, by simp, by simp, Ev.bind q1 ?_, Ev.bind q2 ?_⟩
    · simp only [Bool.false_eq_true, if_false]; exact bad1
    · simp only [Bool.false_eq_true, if_false]; exact bad2
  obtain ⟨h5, h6⟩ := h rfl
  cases hr : reportB a b c s
  · refine ⟨[], [], false, 0, 1, by simp, by simp, Ev.bind q1 ?_, Ev.bind q2 ?_⟩
    · simp only [if_true, hr, Bool.not_false]; exact bad1
    · simp only [if_true, hr, Bool.not_false]; exact bad2
  have ord1 : Ev (fun k => spec_Offer.j1 k true l m a b c s) (l, m, false, 0, 16) := Ev.step (f := fun _ => some (l, m, false, 0, 16)) (fun k => by rw [spec_Offer.j1, if_pos rfl, own_is l m hl hm]; rfl) (Ev.now _)
  have ord2 : Ev (fun k => impl_Offer.j1 k true l m a b c s) (l, m, false, 0, 16) := Ev.step (f := fun _ => some (l, m, false, 0, 16)) (fun k => by rw [impl_Offer.j1, if_pos rfl, copied_is l m hl hm]; rfl) (Ev.now _)
  have good : ∃ (L : List S36) (M : List ByteArray) (t : Bool) (g e : Int), L.length ≤ 1048576 ∧ M.length ≤ 1048576 ∧ Ev (fun k => spec_Offer.j1 k false l m a b c s) (L, M, t, g, e) ∧ Ev (fun k => impl_Offer.j1 k false l m a b c s) (L, M, t, g, e) := by
    obtain ⟨u, s1, s2⟩ := has_both m s hm
    cases u
    · have x1 := oX_len l ⟨a, b, c, s⟩
      have x2 := oY_len m s
      refine ⟨oX l ⟨a, b, c, s⟩, oY m s, true, oG l, 0, by omega, by omega, ?_, ?_⟩
      · refine Ev.step (fun k => by rw [spec_Offer.j1, if_neg Bool.false_ne_true]) (Ev.bind (offer_spec l m a b c s (by omega) (by omega) s1) ?_)
        simp only [own_is (oX l ⟨a, b, c, s⟩) (oY m s) (by omega) (by omega), Option.bind_some]
        exact Ev.now _
      · refine Ev.step (fun k => by rw [impl_Offer.j1, if_neg Bool.false_ne_true]) (Ev.bind (offer_impl l m a b c s (by omega) (by omega) s2) (Ev.now _))
    · refine ⟨l, m, false, 0, 0, hl, hm, ?_, ?_⟩
      · refine Ev.step (fun k => by rw [spec_Offer.j1, if_neg Bool.false_ne_true]) ?_
        refine Ev.bind (a := (l, m, false, 0)) ?_ ?_
        · unfold spec_l06Offer.f
          refine Ev.bind s1 ?_
          simp only [if_true]; exact Ev.now _
        · simp only [own_is l m hl hm, Option.bind_some]; exact Ev.now _
      · refine Ev.step (fun k => by rw [impl_Offer.j1, if_neg Bool.false_ne_true]) ?_
        refine Ev.bind (a := (l, m, false, 0)) ?_ (Ev.now _)
        unfold impl_Queue_offer.f
        simp only [copied_is l m hl hm, Option.bind_some]
        refine Ev.bind s2 ?_
        simp only [if_true]; exact Ev.now _
  have key : ∃ (L : List S36) (M : List ByteArray) (t : Bool) (g e : Int), L.length ≤ 1048576 ∧ M.length ≤ 1048576 ∧ Ev (fun k => spec_Offer.j0 k false l m a b c s) (L, M, t, g, e) ∧ Ev (fun k => impl_Offer.j0 k false l m a b c s) (L, M, t, g, e) := by
    by_cases hz : (l.length : Int) > 0
    · have w1 : wrap64 ((l.length : Int) - 1) = (l.length : Int) - 1 := wr (by omega) (by omega)
      by_cases ha : a ≤ (rd_T36 l ((l.length : Int) - 1)).f0
      · refine ⟨l, m, false, 0, 16, hl, hm, ?_, ?_⟩
        · exact Ev.step (fun k => by rw [spec_Offer.j0, if_neg Bool.false_ne_true, if_pos hz, w1, if_pos (by omega), if_pos (by omega), if_pos ha]) ord1
        · exact Ev.step (fun k => by rw [impl_Offer.j0, if_neg Bool.false_ne_true, if_pos hz, w1, if_pos (by omega), if_pos (by omega), if_pos ha]) ord2
      · by_cases hb : b < (rd_T36 l ((l.length : Int) - 1)).f1
        · refine ⟨l, m, false, 0, 16, hl, hm, ?_, ?_⟩
          · exact Ev.step (fun k => by rw [spec_Offer.j0, if_neg Bool.false_ne_true, if_pos hz, w1, if_pos (by omega), if_pos (by omega), if_neg ha, decide_eq_true hb]) ord1
          · exact Ev.step (fun k => by rw [impl_Offer.j0, if_neg Bool.false_ne_true, if_pos hz, w1, if_pos (by omega), if_pos (by omega), if_neg ha, decide_eq_true hb]) ord2
        · obtain ⟨L, M, t, g, e, z1, z2, z3, z4⟩ := good
          refine ⟨L, M, t, g, e, z1, z2, ?_, ?_⟩
          · exact Ev.step (fun k => by rw [spec_Offer.j0, if_neg Bool.false_ne_true, if_pos hz, w1, if_pos (by omega), if_pos (by omega), if_neg ha, decide_eq_false hb]) z3
          · exact Ev.step (fun k => by rw [impl_Offer.j0, if_neg Bool.false_ne_true, if_pos hz, w1, if_pos (by omega), if_pos (by omega), if_neg ha, decide_eq_false hb]) z4
    · obtain ⟨L, M, t, g, e, z1, z2, z3, z4⟩ := good
      refine ⟨L, M, t, g, e, z1, z2, ?_, ?_⟩
      · exact Ev.step (fun k => by rw [spec_Offer.j0, if_neg Bool.false_ne_true, if_neg hz]) z3
      · exact Ev.step (fun k => by rw [impl_Offer.j0, if_neg Bool.false_ne_true, if_neg hz]) z4
  obtain ⟨L, M, t, g, e, z1, z2, z3, z4⟩ := key
  refine ⟨L, M, t, g, e, z1, z2, Ev.bind q1 ?_, Ev.bind q2 ?_⟩
  · simp only [if_true, hr, Bool.not_true]; exact z3
  · simp only [if_true, hr, Bool.not_true]; exact z4
theorem FnExactOffer : (∀ (l0_0 : List (S27)) (l0_1 : List ByteArray) (a1_0 : Int) (a1_1 : Int) (a1_2 : Int) (a1_3 : ByteArray), (l0_0.length ≤ 9223372036854775807 ∧ ∀ y_, y_ ∈ l0_0 → ok27 y_) → (l0_1.length ≤ 9223372036854775807 ∧ ∀ y_, y_ ∈ l0_1 → y_.size ≤ 9223372036854775807) → ((Lit.int .i64 a1_0).wf = true) → ((Lit.int .i64 a1_1).wf = true) → ((Lit.int .i64 a1_2).wf = true) → (a1_3.size ≤ 9223372036854775807) → ∃ k, laws_FnExactOffer.f k l0_0 l0_1 a1_0 a1_1 a1_2 a1_3 = some true) := by
  intro l m a b c s ⟨hl, hy⟩ ⟨hm, hz⟩ w1 w2 w3 w4
  refine Ev.rounds ?_
  obtain ⟨r, e1, hr1, _, hr⟩ := szQ l m hl hy hm hz 1048576 (by omega) (by omega)
  unfold laws_FnExactOffer.f
  refine Ev.bind e1 ?_
  by_cases hneg : r < 0
  · simp only [if_pos hneg]; exact Ev.now _
  obtain ⟨h1, h2⟩ := hr (by omega)
  simp only [if_neg hneg]
  have e2 := szReport_is a b c s r (by omega) hr1 w4
  generalize (if r - (s.size : Int) < 0 then -1 else r - (s.size : Int)) = r2 at e2
  simp only [e2, Option.bind_some]
  by_cases hneg2 : r2 < 0
  · simp only [if_pos hneg2]; exact Ev.now _
  simp only [if_neg hneg2]
  have t := toQ l m h1 h2
  have tr : laws_toReport.f a b c s = some (a, b, c, s) := by unfold laws_toReport.f; rfl
  have hx : (l.map toRep).length ≤ 1048576 := by rw [List.length_map]; exact h1
  obtain ⟨L, M, u, g, e, hL, hM, s1, s2⟩ := offer_both (l.map toRep) m a b c s hx h2
  simp only [tr, Option.bind_some]
  refine Ev.bind t (Ev.bind s1 (Ev.bind t (Ev.bind s2 (Ev.bind (eqQ L M hL hM) ?_))))
  simp only [if_true, bne_self_eq_false, Bool.false_eq_true, if_false]
  have m1 := markQ (l.map toRep) m 1 (by omega) (by omega)
  have m2 := markQ L M 1 (by omega) (by omega)
  have q1 := heldQ 1 L.length M.length (by omega) (by omega)
  have p0 : ¬ (((1 + 4 * (l.map toRep).length + m.length : Nat) : Int) < 0) := by omega
  have p1 : ¬ (((1 + 4 * L.length + M.length : Nat) : Int) < 0) := by omega
  refine Ev.step (fun k => by rw [laws_FnExactOffer.j0, if_neg Bool.false_ne_true]) (Ev.bind t (Ev.bind (eqQ (l.map toRep) m hx h2) ?_))
  simp only [if_true]
  refine Ev.bind m1 ?_
  simp only [if_neg p0]
  refine Ev.bind (eqQ L M hL hM) ?_
  simp only [if_true, bne_self_eq_false, Bool.false_eq_true, if_false]
  refine Ev.step (fun k => by rw [laws_FnExactOffer.j1, if_neg Bool.false_ne_true]) ?_
  refine Ev.bind m2 ?_
  simp only [if_neg p1]
  refine Ev.bind q1 ?_
  simp only [if_true, tr, Option.bind_some]
  refine Ev.bind t (Ev.bind s2 (Ev.bind (eqQ L M hL hM) ?_))
  simp only [if_true, bne_self_eq_false, Bool.false_eq_true, if_false]
  refine Ev.step (fun k => by rw [laws_FnExactOffer.j2, if_neg Bool.false_ne_true]) ?_
  refine Ev.bind q1 ?_
  simp only [if_neg p1, if_true]
  exact Ev.now _

end Go.Proofs.Ytifabglkbbkooaa.Pure
