/- The program's SameQueue answers as the reference's at every two queues, and leaves both as they were; no condition. -/
import Derived.Test.YtmfnaaeglfhnmaaQFnExactSameQueuex10
set_option linter.unusedVariables false
set_option linter.unusedSimpArgs false
namespace Go.Proofs.Ytmfnaaeglfhnmaa.Pure
open Go.RowKit Go.Proofs.Ytmfnaaeglfhnmaa.QFnExactSameQueue Go.Proofs.YtmfnaaeglfhnmaaW.PrintWords Go.Proofs.YtmfnaaeglfhnmaaW.PrintLast

theorem wr {x : Int} (h0 : -9223372036854775808 ≤ x) (h1 : x ≤ 9223372036854775807) : wrap64 x = x := by unfold wrap64; omega

/-- A loop over a list, from place i on: one round, or the end. -/
theorem rdOf_at {α : Type} (z : α) (l : List α) (i : Int) (h0 : 0 ≤ i) (h1 : i < l.length) : l[i.toNat]? = some (l.getD i.toNat z) := by
  rw [List.getD_eq_getElem?_getD, List.getElem?_eq_getElem (by omega)]; rfl
theorem getD_mem {α : Type} (z : α) (l : List α) (i : Int) (h0 : 0 ≤ i) (h1 : i < l.length) : l.getD i.toNat z ∈ l := by
  rw [List.getD_eq_getElem?_getD, List.getElem?_eq_getElem (by omega)]; exact List.getElem_mem _
theorem set_take {α : Type} (l m : List α) (z : α) (i : Nat) (hi : i < l.length) (hm : m.length = l.length) (h : m.take i = l.take i) :
    (m.set i (l.getD i z)).take (i + 1) = l.take (i + 1) := by
  apply List.ext_getElem?
  intro j
  rw [List.getElem?_take, List.getElem?_take]
  by_cases hj : j < i + 1
  · rw [if_pos hj, if_pos hj]
    by_cases e : j = i
    · subst e
      rw [List.getElem?_set_self (by omega), List.getD_eq_getElem?_getD, List.getElem?_eq_getElem hi]; rfl
    · rw [List.getElem?_set_ne (by omega)]
      have := congrArg (fun t => t[j]?) h
      simp only [List.getElem?_take] at this
      rwa [if_pos (by omega), if_pos (by omega)] at this
  · rw [if_neg hj, if_neg hj]

/-- What the size guard says of a list of texts. -/
theorem szS_loop (l : List ByteArray) (hl : l.length ≤ 9223372036854775807) (hy : ∀ y, y ∈ l → y.size ≤ 9223372036854775807) (d : Nat) : ∀ (i left : Int), 0 ≤ i → i + d = l.length → 0 ≤ left → left ≤ 1048576 →
    ∃ r, Ev (fun k => laws_szStringS.l0 k l left i) r ∧ r ≤ left ∧ -1 ≤ r := by
  induction d with
  | zero =>
    intro i left h0 h1 h2 h3
    exact ⟨left, Ev.step (f := fun _ => some left) (fun k => by rw [laws_szStringS.l0, if_neg (by omega)]) (Ev.now _), by omega, by omega⟩
  | succ d ih =>
    intro i left h0 h1 h2 h3
    have hm := hy _ (getD_mem ByteArray.empty l i h0 (by omega))
    have hw : wrap64 (left - ((rdOf ByteArray.empty l i).size : Int)) = left - ((rdOf ByteArray.empty l i).size : Int) := wr (by unfold rdOf; omega) (by omega)
    by_cases hneg : left - ((rdOf ByteArray.empty l i).size : Int) < 0
    · exact ⟨-1, Ev.step (f := fun _ => some (-1)) (fun k => by rw [laws_szStringS.l0, if_pos (by omega), if_pos h0, hw, if_pos hneg]) (Ev.now _), by omega, by omega⟩
    · obtain ⟨r, hr, ha, hb⟩ := ih (i + 1) (left - ((rdOf ByteArray.empty l i).size : Int)) (by omega) (by omega) (by omega) (by omega)
      refine ⟨r, Ev.step (f := fun k => laws_szStringS.l0 k l (left - ((rdOf ByteArray.empty l i).size : Int)) (i + 1)) (fun k => ?_) hr, by omega, hb⟩
      rw [laws_szStringS.l0, if_pos (by omega), if_pos h0, hw, if_neg hneg, wr (by omega) (by omega)]
theorem szS (l : List ByteArray) (hl : l.length ≤ 9223372036854775807) (hy : ∀ y, y ∈ l → y.size ≤ 9223372036854775807) (left : Int) (h2 : 0 ≤ left) (h3 : left ≤ 1048576) :
    ∃ r, Ev (fun k => laws_szStringS.f k l left) r ∧ r ≤ left ∧ -1 ≤ r ∧ (0 ≤ r → (l.length : Int) ≤ left) := by
  have hw : wrap64 (left - (l.length : Int)) = left - (l.length : Int) := wr (by omega) (by omega)
  by_cases hneg : left - (l.length : Int) < 0
  · exact ⟨-1, Ev.congr (f := fun _ => some (-1)) (fun k => by unfold laws_szStringS.f; rw [hw, if_pos hneg]) (Ev.now _), by omega, by omega, fun h => by omega⟩
  · obtain ⟨r, hr, ha, hb⟩ := szS_loop l hl hy l.length 0 (left - (l.length : Int)) (by omega) (by omega) (by omega) (by omega)
    exact ⟨r, Ev.congr (f := fun k => laws_szStringS.l0 k l (left - (l.length : Int)) 0) (fun k => by unfold laws_szStringS.f; rw [hw, if_neg hneg]) hr, by omega, hb, fun _ => by omega⟩

theorem toS_loop (l : List ByteArray) (hl : l.length ≤ 1048576) (d : Nat) : ∀ (i : Int) (m : List ByteArray), 0 ≤ i → i + d = l.length → m.length = l.length → m.take i.toNat = l.take i.toNat →
    Ev (fun k => laws_toStringS.l0 k l m i) l := by
  induction d with
  | zero =>
    intro i m h0 h1 hm ht
    have : m = l := by rw [List.take_of_length_le (by omega), List.take_of_length_le (by omega)] at ht; exact ht
    subst this
    exact Ev.step (f := fun _ => some m) (fun k => by rw [laws_toStringS.l0, if_neg (by omega)]) (Ev.now _)
  | succ d ih =>
    intro i m h0 h1 hm ht
    refine Ev.step (f := fun k => laws_toStringS.l0 k l (m.set i.toNat (rdOf ByteArray.empty l i)) (i + 1)) (fun k => ?_) (ih (i + 1) _ (by omega) (by omega) (by rw [List.length_set]; exact hm) ?_)
    · rw [laws_toStringS.l0, if_pos (by omega), if_pos h0, if_pos (by omega), wr (by omega) (by omega)]
    · rw [show (i + 1).toNat = i.toNat + 1 by omega]
      exact set_take l m ByteArray.empty i.toNat (by omega) hm ht
theorem toS (l : List ByteArray) (hl : l.length ≤ 1048576) : Ev (fun k => laws_toStringS.f k l) l := by
  refine Ev.congr (f := fun k => laws_toStringS.l0 k l (List.replicate ((l.length : Int) : Int).toNat (⟨#[]⟩ : ByteArray)) 0) (fun k => ?_) (toS_loop l hl l.length 0 _ (by omega) (by omega) (by simp) (by simp))
  unfold laws_toStringS.f
  rw [if_pos (by omega), if_pos (by omega)]

theorem eqS_loop (l : List ByteArray) (hl : l.length ≤ 1048576) (d : Nat) : ∀ i : Int, 0 ≤ i → i + d = l.length → Ev (fun k => laws_eqStringS.l0 k l l i) true := by
  induction d with
  | zero => intro i h0 h1; exact Ev.step (f := fun _ => some true) (fun k => by rw [laws_eqStringS.l0, if_neg (by omega)]) (Ev.now _)
  | succ d ih =>
    intro i h0 h1
    exact Ev.step (f := fun k => laws_eqStringS.l0 k l l (i + 1)) (fun k => by rw [laws_eqStringS.l0, if_pos (by omega), if_pos h0, if_pos (by omega), if_pos rfl, wr (by omega) (by omega)]) (ih (i + 1) (by omega) (by omega))
theorem eqS (l : List ByteArray) (hl : l.length ≤ 1048576) : Ev (fun k => laws_eqStringS.f k l l) true :=
  Ev.congr (f := fun k => laws_eqStringS.l0 k l l 0) (fun k => by unfold laws_eqStringS.f; rw [if_pos rfl]) (eqS_loop l hl l.length 0 (by omega) (by omega))

theorem szReport_is (x0 x1 x2 : Int) (b : ByteArray) (left : Int) (h2 : 0 ≤ left) (h3 : left ≤ 1048576) (hb : b.size ≤ 9223372036854775807) :
    laws_szReport.f x0 x1 x2 b left = some (if left - (b.size : Int) < 0 then -1 else left - (b.size : Int)) := by
  unfold laws_szReport.f
  rw [wr (by omega) (by omega)]
  split <;> rfl
theorem szR_loop (l : List S60) (hl : l.length ≤ 9223372036854775807) (hy : ∀ y, y ∈ l → ok60 y) (d : Nat) : ∀ (i left : Int), 0 ≤ i → i + d = l.length → 0 ≤ left → left ≤ 1048576 →
    ∃ r, Ev (fun k => laws_szReportS.l0 k l left i) r ∧ r ≤ left ∧ -1 ≤ r := by
  induction d with
  | zero =>
    intro i left h0 h1 h2 h3
    exact ⟨left, Ev.step (f := fun _ => some left) (fun k => by rw [laws_szReportS.l0, if_neg (by omega)]) (Ev.now _), by omega, by omega⟩
  | succ d ih =>
    intro i left h0 h1 h2 h3
    have hm := (hy _ (getD_mem z60 l i h0 (by omega))).2.2.2
    have hs := szReport_is ((rd_T60 l i).f0) ((rd_T60 l i).f1) ((rd_T60 l i).f2) ((rd_T60 l i).f3) left h2 h3 hm
    by_cases hneg : left - (((rd_T60 l i).f3).size : Int) < 0
    · refine ⟨-1, Ev.step (f := fun _ => some (-1)) (fun k => ?_) (Ev.now _), by omega, by omega⟩
      rw [laws_szReportS.l0, if_pos (by omega), if_pos h0, hs, if_pos hneg, Option.bind_some, if_pos (by omega)]
    · obtain ⟨r, hr, ha, hb⟩ := ih (i + 1) (left - (((rd_T60 l i).f3).size : Int)) (by omega) (by omega) (by omega) (by omega)
      refine ⟨r, Ev.step (f := fun k => laws_szReportS.l0 k l (left - (((rd_T60 l i).f3).size : Int)) (i + 1)) (fun k => ?_) hr, by omega, hb⟩
      rw [laws_szReportS.l0, if_pos (by omega), if_pos h0, hs, if_neg hneg, Option.bind_some, if_neg hneg, wr (by omega) (by omega)]
theorem szR (l : List S60) (hl : l.length ≤ 9223372036854775807) (hy : ∀ y, y ∈ l → ok60 y) (left : Int) (h2 : 0 ≤ left) (h3 : left ≤ 1048576) :
    ∃ r, Ev (fun k => laws_szReportS.f k l left) r ∧ r ≤ left ∧ -1 ≤ r ∧ (0 ≤ r → (l.length : Int) ≤ left) := by
  have hw : wrap64 (left - (l.length : Int)) = left - (l.length : Int) := wr (by omega) (by omega)
  by_cases hneg : left - (l.length : Int) < 0
  · exact ⟨-1, Ev.congr (f := fun _ => some (-1)) (fun k => by unfold laws_szReportS.f; rw [hw, if_pos hneg]) (Ev.now _), by omega, by omega, fun h => by omega⟩
  · obtain ⟨r, hr, ha, hb⟩ := szR_loop l hl hy l.length 0 (left - (l.length : Int)) (by omega) (by omega) (by omega) (by omega)
    exact ⟨r, Ev.congr (f := fun k => laws_szReportS.l0 k l (left - (l.length : Int)) 0) (fun k => by unfold laws_szReportS.f; rw [hw, if_neg hneg]) hr, by omega, hb, fun _ => by omega⟩
def toRep (x : S60) : S64 := ⟨x.f0, x.f1, x.f2, x.f3⟩
theorem toR_loop (l : List S60) (hl : l.length ≤ 1048576) (d : Nat) : ∀ (i : Int) (m : List S64), 0 ≤ i → i + d = l.length → m.length = l.length → m.take i.toNat = (l.map toRep).take i.toNat →
    Ev (fun k => laws_toReportS.l0 k l m i) (l.map toRep) := by
  induction d with
  | zero =>
    intro i m h0 h1 hm ht
    have : m = l.map toRep := by rw [List.take_of_length_le (by omega), List.take_of_length_le (by rw [List.length_map]; omega)] at ht; exact ht
    subst this
    exact Ev.step (f := fun _ => some (l.map toRep)) (fun k => by rw [laws_toReportS.l0, if_neg (by omega)]) (Ev.now _)
  | succ d ih =>
    intro i m h0 h1 hm ht
    refine Ev.step (f := fun k => laws_toReportS.l0 k l (m.set i.toNat (toRep (rd_T60 l i))) (i + 1)) (fun k => ?_) (ih (i + 1) _ (by omega) (by omega) (by rw [List.length_set]; exact hm) ?_)
    · rw [laws_toReportS.l0, if_pos (by omega), if_pos h0]
      unfold laws_toReport.f
      rw [Option.bind_some, if_pos (by omega), wr (by omega) (by omega)]
      rfl
    · rw [show (i + 1).toNat = i.toNat + 1 by omega]
      have := set_take (l.map toRep) m (toRep z60) i.toNat (by rw [List.length_map]; omega) (by rw [List.length_map]; exact hm) ht
      rw [List.getD_eq_getElem?_getD, List.getElem?_map, List.getElem?_eq_getElem (by omega)] at this
      unfold rd_T60
      rw [List.getD_eq_getElem?_getD, List.getElem?_eq_getElem (by omega)]
      exact this
theorem toR (l : List S60) (hl : l.length ≤ 1048576) : Ev (fun k => laws_toReportS.f k l) (l.map toRep) := by
  refine Ev.congr (f := fun k => laws_toReportS.l0 k l (List.replicate ((l.length : Int) : Int).toNat z64) 0) (fun k => ?_) (toR_loop l hl l.length 0 _ (by omega) (by omega) (by simp) (by simp))
  unfold laws_toReportS.f
  rw [if_pos (by omega), if_pos (by omega)]
theorem eqReport_refl (a b c : Int) (s : ByteArray) : laws_eqReport.f a b c s a b c s = some true := by unfold laws_eqReport.f; simp
theorem eqR_loop (l : List S64) (hl : l.length ≤ 1048576) (d : Nat) : ∀ i : Int, 0 ≤ i → i + d = l.length → Ev (fun k => laws_eqReportS.l0 k l l i) true := by
  induction d with
  | zero => intro i h0 h1; exact Ev.step (f := fun _ => some true) (fun k => by rw [laws_eqReportS.l0, if_neg (by omega)]) (Ev.now _)
  | succ d ih =>
    intro i h0 h1
    refine Ev.step (f := fun k => laws_eqReportS.l0 k l l (i + 1)) (fun k => ?_) (ih (i + 1) (by omega) (by omega))
    rw [laws_eqReportS.l0, if_pos (by omega), if_pos h0, if_pos (by omega), eqReport_refl, Option.bind_some, if_pos rfl, wr (by omega) (by omega)]
theorem eqR (l : List S64) (hl : l.length ≤ 1048576) : Ev (fun k => laws_eqReportS.f k l l) true :=
  Ev.congr (f := fun k => laws_eqReportS.l0 k l l 0) (fun k => by unfold laws_eqReportS.f; rw [if_pos rfl]) (eqR_loop l hl l.length 0 (by omega) (by omega))

/-- The guard of a queue's size. -/
theorem szQ (l : List S60) (m : List ByteArray) (hl : l.length ≤ 9223372036854775807) (hy : ∀ y, y ∈ l → ok60 y) (hm : m.length ≤ 9223372036854775807) (hz : ∀ y, y ∈ m → y.size ≤ 9223372036854775807)
    (left : Int) (h2 : 0 ≤ left) (h3 : left ≤ 1048576) : ∃ r, Ev (fun k => laws_szQueue.f k l m left) r ∧ r ≤ left ∧ -1 ≤ r ∧ (0 ≤ r → l.length ≤ 1048576 ∧ m.length ≤ 1048576) := by
  obtain ⟨r1, e1, a1, b1, c1⟩ := szR l hl hy left h2 h3
  by_cases n1 : r1 < 0
  · refine ⟨-1, ?_, by omega, by omega, fun h => by omega⟩
    unfold laws_szQueue.f
    refine Ev.bind e1 ?_
    simp only [if_pos n1]; exact Ev.now _
  · obtain ⟨r2, e2, a2, b2, c2⟩ := szS m hm hz r1 (by omega) (by omega)
    refine ⟨r2, ?_, by omega, by omega, fun h => by have := c1 (by omega); have := c2 h; omega⟩
    unfold laws_szQueue.f
    refine Ev.bind e1 ?_
    simp only [if_neg n1]
    refine Ev.bind e2 ?_
    by_cases n2 : r2 < 0
    · have : r2 = -1 := by omega
      subst this; simp only [if_pos n2]; exact Ev.now _
    · simp only [if_neg n2]; exact Ev.now _
theorem toQ (l : List S60) (m : List ByteArray) (hl : l.length ≤ 1048576) (hm : m.length ≤ 1048576) : Ev (fun k => laws_toQueue.f k l m) (l.map toRep, m) := by
  unfold laws_toQueue.f
  exact Ev.bind (toR l hl) (Ev.bind (toS m hm) (Ev.now _))
theorem eqQ (l : List S64) (m : List ByteArray) (hl : l.length ≤ 1048576) (hm : m.length ≤ 1048576) : Ev (fun k => laws_eqQueue.f k l m l m) true := by
  unfold laws_eqQueue.f
  refine Ev.bind (eqR l hl) ?_
  simp only [if_true]
  refine Ev.bind (eqS m hm) ?_
  simp only [if_true]
  exact Ev.now _

def inB (n lo hi : Int) : Bool := decide (lo ≤ n) && decide (n ≤ hi)
theorem within_is (n lo hi : Int) : impl_within.f n lo hi = some (inB n lo hi) := by
  unfold impl_within.f inB
  by_cases h : lo ≤ n <;> simp [h]

theorem in_is (n lo hi : Int) : spec_l01In.f n lo hi = some (inB n lo hi) := by
  unfold spec_l01In.f inB
  by_cases h : lo ≤ n
  · rw [if_pos h]; simp [h]
  · rw [if_neg h]; simp [h]

def reportB (id born tries : Int) (body : ByteArray) : Bool := inB id 1 1000000 && (inB born 0 1000000 && (inB tries 0 3 && inB body.size 1 8000))
theorem report_impl (id born tries : Int) (body : ByteArray) : impl_ReportOK.f id born tries body = some (reportB id born tries body) := by
  unfold impl_ReportOK.f impl_isBody.f reportB
  simp only [within_is, Option.bind_some]
  cases inB id 1 1000000 <;> cases inB born 0 1000000 <;> cases inB tries 0 3 <;> rfl
theorem report_spec (id born tries : Int) (body : ByteArray) : spec_l06Report.f id born tries body = some (reportB id born tries body) := by
  unfold spec_l06Report.f reportB
  simp only [in_is, Option.bind_some]
  cases inB id 1 1000000 <;> cases inB born 0 1000000 <;> cases inB tries 0 3 <;> rfl

/-- Both look-ups of a text in a list come to the same. -/
theorem has_same (l : List ByteArray) (s : ByteArray) (hl : l.length ≤ 1048576) (d : Nat) : ∀ i : Int, 0 ≤ i → i + d = l.length →
    ∃ r q, Ev (fun k => spec_l01Has.l0 k l s i) r ∧ Ev (fun k => slices_Index_string_string.l0 k l s l.length i) q ∧ decide (q ≥ 0) = r := by
  induction d with
  | zero =>
    intro i h0 h1
    exact ⟨false, -1, Ev.step (f := fun _ => some false) (fun k => by rw [spec_l01Has.l0, if_neg (by omega)]) (Ev.now _), Ev.step (f := fun _ => some (-1)) (fun k => by rw [slices_Index_string_string.l0, if_neg (by omega)]) (Ev.now _), by decide⟩
  | succ d ih =>
    intro i h0 h1
    by_cases h : (rdOf ByteArray.empty l i).toList = s.toList
    · refine ⟨true, i, Ev.step (f := fun _ => some true) (fun k => by rw [spec_l01Has.l0, if_pos (by omega), if_pos h0, if_pos h]) (Ev.now _), Ev.step (f := fun _ => some i) (fun k => by rw [slices_Index_string_string.l0, if_pos (by omega), if_pos h0, if_pos (by omega), if_pos h.symm]) (Ev.now _), by simpa using h0⟩
    · obtain ⟨r, q, e1, e2, e3⟩ := ih (i + 1) (by omega) (by omega)
      exact ⟨r, q, Ev.step (f := fun k => spec_l01Has.l0 k l s (i + 1)) (fun k => by rw [spec_l01Has.l0, if_pos (by omega), if_pos h0, if_neg h, wr (by omega) (by omega)]) e1,
        Ev.step (f := fun k => slices_Index_string_string.l0 k l s l.length (i + 1)) (fun k => by rw [slices_Index_string_string.l0, if_pos (by omega), if_pos h0, if_pos (by omega), if_neg (fun e => h e.symm), wr (by omega) (by omega)]) e2, e3⟩
theorem has_both (l : List ByteArray) (s : ByteArray) (hl : l.length ≤ 1048576) : ∃ r, Ev (fun k => spec_l01Has.f k l s) r ∧ Ev (fun k => slices_Contains_string_string.f k l s) r := by
  obtain ⟨r, q, e1, e2, e3⟩ := has_same l s hl l.length 0 (by omega) (by omega)
  refine ⟨r, e1, ?_⟩
  unfold slices_Contains_string_string.f
  refine Ev.bind e2 ?_
  rw [e3]; exact Ev.now _
theorem recent_same (its : List S64) (l : List ByteArray) (hl : l.length ≤ 1048576) (d : Nat) : ∀ i : Int, 0 ≤ i → i + d = l.length →
    ∃ r, Ev (fun k => spec_l06OK.l1 k i its l) r ∧ Ev (fun k => impl_QueueOK.l1 k l l.length i its l) r := by
  induction d with
  | zero =>
    intro i h0 h1
    exact ⟨true, Ev.step (f := fun _ => some true) (fun k => by rw [spec_l06OK.l1, if_neg (by omega)]) (Ev.now _), Ev.step (f := fun _ => some true) (fun k => by rw [impl_QueueOK.l1, if_neg (by omega)]) (Ev.now _)⟩
  | succ d ih =>
    intro i h0 h1
    obtain ⟨b, e1, e2⟩ := has_both (l.take i.toNat) (rdOf ByteArray.empty l i) (by rw [List.length_take]; omega)
    obtain ⟨r, f1, f2⟩ := ih (i + 1) (by omega) (by omega)
    cases hb : inB ((rdOf ByteArray.empty l i).size : Int) 1 8000 with
    | false =>
      refine ⟨false, Ev.step (f := fun _ => some false) (fun k => ?_) (Ev.now _), Ev.step (f := fun _ => some false) (fun k => ?_) (Ev.now _)⟩
      · rw [spec_l06OK.l1, if_pos (by omega), if_pos h0, in_is, hb, Option.bind_some, if_neg (by decide)]
      · rw [impl_QueueOK.l1, if_pos (by omega), if_pos h0, if_pos (by omega)]
        unfold impl_isBody.f
        rw [within_is, hb, Option.bind_some, Option.bind_some, if_neg (by decide)]
    | true =>
      refine ⟨if b then false else r, Ev.step (f := fun k => (spec_l01Has.f k (l.take i.toNat) (rdOf ByteArray.empty l i)).bind fun t => if t = true then some false else spec_l06OK.l1 k (i + 1) its l) (fun k => ?_) ?_,
        Ev.step (f := fun k => (slices_Contains_string_string.f k (l.take i.toNat) (rdOf ByteArray.empty l i)).bind fun t => if t = true then some false else impl_QueueOK.l1 k l l.length (i + 1) its l) (fun k => ?_) ?_⟩
      · rw [spec_l06OK.l1, if_pos (by omega), if_pos h0, in_is, hb, Option.bind_some, if_pos rfl, if_pos (by omega), wr (by omega) (by omega)]
      · refine Ev.bind e1 ?_
        cases b
        · simpa using f1
        · simpa using Ev.now false
      · rw [impl_QueueOK.l1, if_pos (by omega), if_pos h0, if_pos (by omega)]
        unfold impl_isBody.f
        rw [within_is, hb, Option.bind_some, Option.bind_some, if_pos rfl, if_pos (by omega), wr (by omega) (by omega)]
      · refine Ev.bind e2 ?_
        cases b
        · simpa using f2
        · simpa using Ev.now false
theorem items_same (its : List S64) (l : List ByteArray) (hi : its.length ≤ 5) (hl : l.length ≤ 1048576) (d : Nat) : ∀ i : Int, 0 ≤ i → i + d = its.length →
    ∃ r, Ev (fun k => spec_l06OK.l0 k i its l) r ∧ Ev (fun k => impl_QueueOK.l0 k its its.length i its l) r := by
  induction d with
  | zero =>
    intro i h0 h1
    obtain ⟨r, e1, e2⟩ := recent_same its l hl l.length 0 (by omega) (by omega)
    exact ⟨r, Ev.step (f := fun k => spec_l06OK.l1 k 0 its l) (fun k => by rw [spec_l06OK.l0, if_neg (by omega)]) e1, Ev.step (f := fun k => impl_QueueOK.l1 k l l.length 0 its l) (fun k => by rw [impl_QueueOK.l0, if_neg (by omega)]) e2⟩
  | succ d ih =>
    intro i h0 h1
    obtain ⟨r, f1, f2⟩ := ih (i + 1) (by omega) (by omega)
    cases hb : reportB ((rd_T64 its i).f0) ((rd_T64 its i).f1) ((rd_T64 its i).f2) ((rd_T64 its i).f3) with
    | false =>
      refine ⟨false, Ev.step (f := fun _ => some false) (fun k => ?_) (Ev.now _), Ev.step (f := fun _ => some false) (fun k => ?_) (Ev.now _)⟩
      · rw [spec_l06OK.l0, if_pos (by omega), if_pos h0, report_spec, hb, Option.bind_some, if_neg (by decide)]
      · rw [impl_QueueOK.l0, if_pos (by omega), if_pos h0, if_pos (by omega), report_impl, hb, Option.bind_some, if_neg (by decide)]
    | true =>
      by_cases hp : i > 0 ∧ (((rd_T64 its i).f0) ≤ ((rd_T64 its (i - 1)).f0) ∨ ((rd_T64 its i).f1) < ((rd_T64 its (i - 1)).f1))
      · refine ⟨false, Ev.step (f := fun _ => some false) (fun k => ?_) (Ev.now _), Ev.step (f := fun _ => some false) (fun k => ?_) (Ev.now _)⟩
        · rw [spec_l06OK.l0, if_pos (by omega), if_pos h0, report_spec, hb, Option.bind_some, if_pos rfl, if_pos hp.1, wr (by omega) (by omega), if_pos (by omega), if_pos (by omega)]
          rcases hp.2 with h | h
          · rw [if_pos h]
          · rw [if_pos h]; split <;> rfl
        · rw [impl_QueueOK.l0, if_pos (by omega), if_pos h0, if_pos (by omega), report_impl, hb, Option.bind_some, if_pos rfl, if_pos hp.1, wr (by omega) (by omega), if_pos (by omega), if_pos (by omega)]
          rcases hp.2 with h | h
          · rw [if_pos h]
          · rw [if_pos h]; split <;> rfl
      · refine ⟨r, Ev.step (f := fun k => spec_l06OK.l0 k (i + 1) its l) (fun k => ?_) f1, Ev.step (f := fun k => impl_QueueOK.l0 k its its.length (i + 1) its l) (fun k => ?_) f2⟩
        · rw [spec_l06OK.l0, if_pos (by omega), if_pos h0, report_spec, hb, Option.bind_some, if_pos rfl, wr (x := i + 1) (by omega) (by omega)]
          by_cases hg : i > 0
          · rw [if_pos hg, wr (by omega) (by omega), if_pos (by omega), if_pos (by omega), if_neg (fun h => hp ⟨hg, .inl h⟩), if_neg (fun h => hp ⟨hg, .inr h⟩)]
          · rw [if_neg hg]
        · rw [impl_QueueOK.l0, if_pos (by omega), if_pos h0, if_pos (by omega), report_impl, hb, Option.bind_some, if_pos rfl, wr (x := i + 1) (by omega) (by omega)]
          by_cases hg : i > 0
          · rw [if_pos hg, wr (by omega) (by omega), if_pos (by omega), if_pos (by omega), if_neg (fun h => hp ⟨hg, .inl h⟩), if_neg (fun h => hp ⟨hg, .inr h⟩)]
          · rw [if_neg hg]
theorem queueOK_same (its : List S64) (l : List ByteArray) : ∃ r, Ev (fun k => spec_l06OK.f k its l) r ∧ Ev (fun k => impl_QueueOK.f k its l) r ∧ (r = true → its.length ≤ 5 ∧ l.length ≤ 6) := by
  by_cases h : its.length ≤ 5 ∧ l.length ≤ 6
  · obtain ⟨r, e1, e2⟩ := items_same its l h.1 (by omega) its.length 0 (by omega) (by omega)
    refine ⟨r, ?_, ?_, fun _ => h⟩
    · refine Ev.congr (f := fun k => spec_l06OK.j0 k false its l) (fun k => by unfold spec_l06OK.f; rw [if_neg (by omega), decide_eq_false (by omega)]) (Ev.step (f := fun k => spec_l06OK.l0 k 0 its l) (fun k => by rw [spec_l06OK.j0, if_neg (by decide)]) e1)
    · refine Ev.congr (f := fun k => impl_QueueOK.j0 k false its l) (fun k => by unfold impl_QueueOK.f; rw [if_neg (by omega), decide_eq_false (by omega)]) (Ev.step (f := fun k => impl_QueueOK.l0 k its its.length 0 its l) (fun k => by rw [impl_QueueOK.j0, if_neg (by decide)]) e2)
  · refine ⟨false, ?_, ?_, fun e => by cases e⟩
    · refine Ev.congr (f := fun k => spec_l06OK.j0 k true its l) (fun k => ?_) (Ev.step (f := fun _ => some false) (fun k => by rw [spec_l06OK.j0, if_pos rfl]) (Ev.now _))
      unfold spec_l06OK.f
      by_cases h5 : (its.length : Int) > 5
      · rw [if_pos h5]
      · rw [if_neg h5, decide_eq_true (by omega)]
    · refine Ev.congr (f := fun k => impl_QueueOK.j0 k true its l) (fun k => ?_) (Ev.step (f := fun _ => some false) (fun k => by rw [impl_QueueOK.j0, if_pos rfl]) (Ev.now _))
      unfold impl_QueueOK.f
      by_cases h5 : (its.length : Int) > 5
      · rw [if_pos h5]
      · rw [if_neg h5, decide_eq_true (by omega)]

def sameS (l m : List ByteArray) : Nat → Nat → Bool
  | _, 0 => true
  | i, d + 1 => if (rdOf ByteArray.empty l (i : Int)).toList = (rdOf ByteArray.empty m (i : Int)).toList then sameS l m (i + 1) d else false
theorem sameS_spec (l m : List ByteArray) (hl : l.length ≤ 1048576) (hm : l.length = m.length) : ∀ (d i : Nat), i + d = l.length → Ev (fun k => spec_l00SameTexts.l0 k l m (i : Int)) (sameS l m i d)
  | 0, i, h => Ev.step (f := fun _ => some true) (fun k => by rw [spec_l00SameTexts.l0, if_neg (by omega)]) (Ev.now _)
  | d + 1, i, h => by
    by_cases h1 : (rdOf ByteArray.empty l (i : Int)).toList = (rdOf ByteArray.empty m (i : Int)).toList
    · rw [show sameS l m i (d + 1) = sameS l m (i + 1) d by rw [sameS, if_pos h1]]
      refine Ev.step (f := fun k => spec_l00SameTexts.l0 k l m ((i + 1 : Nat) : Int)) (fun k => ?_) (sameS_spec l m hl hm d (i + 1) (by omega))
      rw [spec_l00SameTexts.l0, if_pos (by omega), if_pos (by omega), if_pos (by omega), if_pos h1, wr (by omega) (by omega)]; rfl
    · rw [show sameS l m i (d + 1) = false by rw [sameS, if_neg h1]]
      exact Ev.step (f := fun _ => some false) (fun k => by rw [spec_l00SameTexts.l0, if_pos (by omega), if_pos (by omega), if_pos (by omega), if_neg h1]) (Ev.now _)
theorem sameS_impl (l m : List ByteArray) (hl : l.length ≤ 1048576) (hm : l.length = m.length) : ∀ (d i : Nat), i + d = l.length → Ev (fun k => slices_Equal_string_string.l0 k l m (l.length : Int) (i : Int)) (sameS l m i d)
  | 0, i, h => Ev.step (f := fun _ => some true) (fun k => by rw [slices_Equal_string_string.l0, if_neg (by omega)]) (Ev.now _)
  | d + 1, i, h => by
    by_cases h1 : (rdOf ByteArray.empty l (i : Int)).toList = (rdOf ByteArray.empty m (i : Int)).toList
    · rw [show sameS l m i (d + 1) = sameS l m (i + 1) d by rw [sameS, if_pos h1]]
      refine Ev.step (f := fun k => slices_Equal_string_string.l0 k l m (l.length : Int) ((i + 1 : Nat) : Int)) (fun k => ?_) (sameS_impl l m hl hm d (i + 1) (by omega))
      rw [slices_Equal_string_string.l0, if_pos (by omega), if_pos (by omega), if_pos (by omega), if_pos (by omega), if_pos h1, wr (by omega) (by omega)]; rfl
    · rw [show sameS l m i (d + 1) = false by rw [sameS, if_neg h1]]
      exact Ev.step (f := fun _ => some false) (fun k => by rw [slices_Equal_string_string.l0, if_pos (by omega), if_pos (by omega), if_pos (by omega), if_pos (by omega), if_neg h1]) (Ev.now _)
theorem texts_same (l m : List ByteArray) (hl : l.length ≤ 1048576) : ∃ b, Ev (fun k => spec_l00SameTexts.f k l m) b ∧ Ev (fun k => slices_Equal_string_string.f k l m) b := by
  by_cases h : l.length = m.length
  · refine ⟨sameS l m 0 l.length, ?_, ?_⟩
    · exact Ev.congr (f := fun k => spec_l00SameTexts.l0 k l m ((0 : Nat) : Int)) (fun k => by unfold spec_l00SameTexts.f; rw [if_pos (by omega)]; rfl) (sameS_spec l m hl h l.length 0 (by omega))
    · exact Ev.congr (f := fun k => slices_Equal_string_string.l0 k l m (l.length : Int) ((0 : Nat) : Int)) (fun k => by unfold slices_Equal_string_string.f; rw [if_pos (by omega)]; rfl) (sameS_impl l m hl h l.length 0 (by omega))
  · exact ⟨false, Ev.congr (f := fun _ => some false) (fun k => by unfold spec_l00SameTexts.f; rw [if_neg (by omega)]) (Ev.now _), Ev.congr (f := fun _ => some false) (fun k => by unfold slices_Equal_string_string.f; rw [if_neg (by omega)]) (Ev.now _)⟩

def repDiff (x y : S64) : Bool := !(x.f0 == y.f0) || (!(x.f1 == y.f1) || (!(x.f2 == y.f2) || !(x.f3.toList == y.f3.toList)))
def sameR (l m : List S64) : Nat → Nat → Bool
  | _, 0 => true
  | i, d + 1 => if repDiff (rd_T64 l (i : Int)) (rd_T64 m (i : Int)) = true then false else sameR l m (i + 1) d
theorem sameR_spec (l m : List S64) (p q : List ByteArray) (hl : l.length ≤ 1048576) (hm : l.length = m.length) : ∀ (d i : Nat), i + d = l.length → Ev (fun k => spec_l06Same.l0 k (i : Int) l p m q) (sameR l m i d)
  | 0, i, h => Ev.step (f := fun _ => some true) (fun k => by rw [spec_l06Same.l0, if_neg (by omega)]) (Ev.now _)
  | d + 1, i, h => by
    by_cases h1 : repDiff (rd_T64 l (i : Int)) (rd_T64 m (i : Int)) = true
    · rw [show sameR l m i (d + 1) = false by rw [sameR, if_pos h1]]
      refine Ev.step (f := fun _ => some false) (fun k => ?_) (Ev.now _)
      rw [spec_l06Same.l0, if_pos (by omega), if_pos (by omega), if_pos (by omega)]
      exact if_pos h1
    · rw [show sameR l m i (d + 1) = sameR l m (i + 1) d by rw [sameR, if_neg h1]]
      refine Ev.step (f := fun k => spec_l06Same.l0 k ((i + 1 : Nat) : Int) l p m q) (fun k => ?_) (sameR_spec l m p q hl hm d (i + 1) (by omega))
      rw [spec_l06Same.l0, if_pos (by omega), if_pos (by omega), if_pos (by omega), wr (by omega) (by omega)]
      exact if_neg h1
theorem sameR_impl (l m : List S64) (hl : l.length ≤ 1048576) (hm : l.length = m.length) : ∀ (d i : Nat), i + d = l.length → Ev (fun k => impl_Report.l0 k l m (l.length : Int) (i : Int)) (sameR l m i d)
  | 0, i, h => Ev.step (f := fun _ => some true) (fun k => by rw [impl_Report.l0, if_neg (by omega)]) (Ev.now _)
  | d + 1, i, h => by
    by_cases h1 : repDiff (rd_T64 l (i : Int)) (rd_T64 m (i : Int)) = true
    · rw [show sameR l m i (d + 1) = false by rw [sameR, if_pos h1]]
      refine Ev.step (f := fun _ => some false) (fun k => ?_) (Ev.now _)
      rw [impl_Report.l0, if_pos (by omega), if_pos (by omega), if_pos (by omega), if_pos (by omega)]
      exact if_pos h1
    · rw [show sameR l m i (d + 1) = sameR l m (i + 1) d by rw [sameR, if_neg h1]]
      refine Ev.step (f := fun k => impl_Report.l0 k l m (l.length : Int) ((i + 1 : Nat) : Int)) (fun k => ?_) (sameR_impl l m hl hm d (i + 1) (by omega))
      rw [impl_Report.l0, if_pos (by omega), if_pos (by omega), if_pos (by omega), if_pos (by omega), wr (by omega) (by omega)]
      exact if_neg h1
theorem queues_same (l m : List S64) (p q : List ByteArray) (hl : l.length ≤ 1048576) (hp : p.length ≤ 1048576) : ∃ b, Ev (fun k => spec_l06Same.f k l p m q) b ∧ Ev (fun k => impl_Queue_same.f k l p m q) b := by
  by_cases h : l.length = m.length
  · obtain ⟨b, t1, t2⟩ := texts_same p q hp
    refine ⟨if sameR l m 0 l.length = true then b else false, ?_, ?_⟩
    · refine Ev.congr (f := fun k => (spec_l00SameTexts.f k p q).bind fun t => spec_l06Same.j0 k (!t) l p m q) (fun k => by unfold spec_l06Same.f; rw [if_pos (by omega)]) (Ev.bind t1 ?_)
      cases b
      · rw [ite_self]
        exact Ev.step (f := fun _ => some false) (fun k => by rw [spec_l06Same.j0]; simp) (Ev.now _)
      · rw [show (if sameR l m 0 l.length = true then true else false) = sameR l m 0 l.length by cases sameR l m 0 l.length <;> rfl]
        exact Ev.step (f := fun k => spec_l06Same.l0 k ((0 : Nat) : Int) l p m q) (fun k => by rw [spec_l06Same.j0]; simp) (sameR_spec l m p q hl h l.length 0 (by omega))
    · unfold impl_Queue_same.f
      refine Ev.bind (Ev.congr (f := fun k => impl_Report.l0 k l m (l.length : Int) ((0 : Nat) : Int)) (fun k => by unfold impl_Report.f; rw [if_pos (by omega)]; rfl) (sameR_impl l m hl h l.length 0 (by omega))) ?_
      by_cases hs : sameR l m 0 l.length = true
      · simp only [if_pos hs]; exact Ev.bind t2 (Ev.now _)
      · simp only [if_neg hs]; exact Ev.now _
  · refine ⟨false, ?_, ?_⟩
    · refine Ev.congr (f := fun k => spec_l06Same.j0 k true l p m q) (fun k => by unfold spec_l06Same.f; rw [if_neg (by omega)]) ?_
      exact Ev.step (f := fun _ => some false) (fun k => by rw [spec_l06Same.j0]; simp) (Ev.now _)
    · unfold impl_Queue_same.f
      refine Ev.bind (Ev.congr (f := fun _ => some false) (fun k => by unfold impl_Report.f; rw [if_neg (by omega)]) (Ev.now _)) ?_
      simp only [Bool.false_eq_true, if_false]; exact Ev.now _
theorem sameQueue (l m : List S64) (p q : List ByteArray) (hl : l.length ≤ 1048576) (hp : p.length ≤ 1048576) : ∃ b, Ev (fun k => spec_SameQueue.f k l p m q) b ∧ Ev (fun k => impl_SameQueue.f k l p m q) b := by
  obtain ⟨b1, p1, p2, _⟩ := queueOK_same l p
  obtain ⟨b2, q1, q2, _⟩ := queueOK_same m q
  obtain ⟨b3, r1, r2⟩ := queues_same l m p q hl hp
  refine ⟨if b1 = true then if b2 = true then b3 else false else false, ?_, ?_⟩
  · unfold spec_SameQueue.f
    refine Ev.bind p1 ?_
    cases b1
    · simp only [Bool.false_eq_true, if_false]; exact Ev.now _
    simp only [if_true]
    refine Ev.bind q1 ?_
    cases b2
    · simp only [Bool.false_eq_true, if_false]; exact Ev.now _
    simp only [if_true]
    exact Ev.bind r1 (Ev.now _)
  · unfold impl_SameQueue.f
    refine Ev.bind p2 ?_
    cases b1
    · simp only [Bool.false_eq_true, if_false]; exact Ev.now _
    simp only [if_true]
    refine Ev.bind q2 ?_
    cases b2
    · simp only [Bool.false_eq_true, if_false]; exact Ev.now _
    simp only [if_true]
    exact Ev.bind r2 (Ev.now _)
theorem FnExactSameQueue : (∀ (l0_0 : List (S60)) (l0_1 : List ByteArray) (l1_0 : List (S60)) (l1_1 : List ByteArray), (l0_0.length ≤ 9223372036854775807 ∧ ∀ y_, y_ ∈ l0_0 → ok60 y_) → (l0_1.length ≤ 9223372036854775807 ∧ ∀ y_, y_ ∈ l0_1 → y_.size ≤ 9223372036854775807) → (l1_0.length ≤ 9223372036854775807 ∧ ∀ y_, y_ ∈ l1_0 → ok60 y_) → (l1_1.length ≤ 9223372036854775807 ∧ ∀ y_, y_ ∈ l1_1 → y_.size ≤ 9223372036854775807) → ∃ k, laws_FnExactSameQueue.f k l0_0 l0_1 l1_0 l1_1 = some true) := by
  intro l m l' m' ⟨hl, hy⟩ ⟨hm, hz⟩ ⟨hl', hy'⟩ ⟨hm', hz'⟩
  refine Ev.rounds ?_
  obtain ⟨r, e1, _, _, hr⟩ := szQ l m hl hy hm hz 1048576 (by omega) (by omega)
  unfold laws_FnExactSameQueue.f
  refine Ev.bind e1 ?_
  by_cases hneg : r < 0
  · simp only [if_pos hneg]; exact Ev.now _
  simp only [if_neg hneg]
  obtain ⟨h1, h2⟩ := hr (by omega)
  obtain ⟨r', e1', _, _, hr'⟩ := szQ l' m' hl' hy' hm' hz' r (by omega) (by omega)
  refine Ev.bind e1' ?_
  by_cases hneg' : r' < 0
  · simp only [if_pos hneg']; exact Ev.now _
  simp only [if_neg hneg']
  obtain ⟨h1', h2'⟩ := hr' (by omega)
  have t := toQ l m h1 h2
  have t' := toQ l' m' h1' h2'
  obtain ⟨b, q1, q2⟩ := sameQueue (l.map toRep) (l'.map toRep) m m' (by rw [List.length_map]; exact h1) h2
  refine Ev.bind t (Ev.bind t' (Ev.bind q1 (Ev.bind t (Ev.bind t' (Ev.bind q2 ?_)))))
  simp only [bne_self_eq_false, Bool.false_eq_true, if_false]
  refine Ev.bind t (Ev.bind (eqQ (l.map toRep) m (by rw [List.length_map]; exact h1) h2) ?_)
  simp only [if_true]
  refine Ev.bind t' (Ev.bind (eqQ (l'.map toRep) m' (by rw [List.length_map]; exact h1') h2') ?_)
  simp only [if_true]
  exact Ev.now _

end Go.Proofs.Ytmfnaaeglfhnmaa.Pure
