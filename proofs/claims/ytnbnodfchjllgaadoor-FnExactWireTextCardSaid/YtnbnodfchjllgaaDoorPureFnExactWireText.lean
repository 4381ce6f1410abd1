/- The program's WireText answers as the reference's at every wire, and leaves the wire as it was; no condition. -/
import Derived.Test.YtnbnodfchjllgaaDoorQFnExactWireTextx5
import Derived.Lib.ItoaLen
set_option linter.unusedVariables false
set_option linter.unusedSimpArgs false
namespace Go.Proofs.YtnbnodfchjllgaaDoor.Pure
open Go.RowKit Go.Proofs.YtnbnodfchjllgaaDoor.QFnExactWireText Go.Proofs.YtnbnodfchjllgaaDoorW.PrintWords Go.Proofs.YtnbnodfchjllgaaDoorW.PrintLast

theorem wr {x : Int} (h0 : -9223372036854775808 ≤ x) (h1 : x ≤ 9223372036854775807) : wrap64 x = x := by unfold wrap64; omega

/-- A loop over a list, from place i on: one round, or the end. -/
theorem rdOf_at {α : Type} (z : α) (l : List α) (i : Int) (h0 : 0 ≤ i) (h1 : i < l.length) : l[i.toNat]? = some (l.getD i.toNat z) := by
  rw [List.getD_eq_getElem?_getD, List.getElem?_eq_getElem (by omega)]; rfl
theorem getD_mem {α : Type} (z : α) (l : List α) (i : Int) (h0 : 0 ≤ i) (h1 : i < l.length) : l.getD i.toNat z ∈ l := by
  rw [List.getD_eq_getElem?_getD, List.getElem?_eq_getElem (by omega)]; exact List.getElem_mem _
theorem set_take {α : Type} (l m : List α) (z : α) (i : Nat) (hi : i < l.length) (hm : m.length = l.length) (h : m.take i = l.take i) :
    (m.set i (l.getD i z)).take (i + 1) = l.take (i + 1) := by
  apply List.ext_getElem?
  intro j
  rw [List.getElem?_take, List.getElem?_take]
  by_cases hj : j < i + 1
  · rw [if_pos hj, if_pos hj]
    by_cases e : j = i
    · subst e
      rw [List.getElem?_set_self (by omega), List.getD_eq_getElem?_getD, List.getElem?_eq_getElem hi]; rfl
    · rw [List.getElem?_set_ne (by omega)]
      have := congrArg (fun t => t[j]?) h
      simp only [List.getElem?_take] at this
      rwa [if_pos (by omega), if_pos (by omega)] at this
  · rw [if_neg hj, if_neg hj]

/-- What the size guard says of a list of numbers. -/
theorem szI (l : List Int) (hl : l.length ≤ 9223372036854775807) (left : Int) (h2 : 0 ≤ left) (h3 : left ≤ 1048576) :
    ∃ r, laws_szIntS.f l left = some r ∧ r ≤ left ∧ -1 ≤ r ∧ (0 ≤ r → (l.length : Int) ≤ left) := by
  have hw : wrap64 (left - (l.length : Int)) = left - (l.length : Int) := wr (by omega) (by omega)
  unfold laws_szIntS.f
  rw [hw]
  by_cases hneg : left - (l.length : Int) < 0
  · exact ⟨-1, by rw [if_pos hneg], by omega, by omega, fun h => by omega⟩
  · exact ⟨left - (l.length : Int), by rw [if_neg hneg], by omega, by omega, fun _ => by omega⟩
theorem toI_loop (l : List Int) (hl : l.length ≤ 1048576) (d : Nat) : ∀ (i : Int) (m : List Int), 0 ≤ i → i + d = l.length → m.length = l.length → m.take i.toNat = l.take i.toNat →
    Ev (fun k => laws_toIntS.l0 k l m i) l := by
  induction d with
  | zero =>
    intro i m h0 h1 hm ht
    have : m = l := by rw [List.take_of_length_le (by omega), List.take_of_length_le (by omega)] at ht; exact ht
    subst this
    exact Ev.step (f := fun _ => some m) (fun k => by rw [laws_toIntS.l0, if_neg (by omega)]) (Ev.now _)
  | succ d ih =>
    intro i m h0 h1 hm ht
    refine Ev.step (f := fun k => laws_toIntS.l0 k l (m.set i.toNat (rd l i)) (i + 1)) (fun k => ?_) (ih (i + 1) _ (by omega) (by omega) (by rw [List.length_set]; exact hm) ?_)
    · rw [laws_toIntS.l0, if_pos (by omega), if_pos h0, if_pos (by omega), wr (by omega) (by omega)]
    · rw [show (i + 1).toNat = i.toNat + 1 by omega]
      exact set_take l m 0 i.toNat (by omega) hm ht
theorem toI (l : List Int) (hl : l.length ≤ 1048576) : Ev (fun k => laws_toIntS.f k l) l := by
  refine Ev.congr (f := fun k => laws_toIntS.l0 k l (List.replicate ((l.length : Int) : Int).toNat 0) 0) (fun k => ?_) (toI_loop l hl l.length 0 _ (by omega) (by omega) (by simp) (by simp))
  unfold laws_toIntS.f
  rw [if_pos (by omega), if_pos (by omega)]
theorem eqI_loop (l : List Int) (hl : l.length ≤ 1048576) (d : Nat) : ∀ i : Int, 0 ≤ i → i + d = l.length → Ev (fun k => laws_eqIntS.l0 k l l i) true := by
  induction d with
  | zero => intro i h0 h1; exact Ev.step (f := fun _ => some true) (fun k => by rw [laws_eqIntS.l0, if_neg (by omega)]) (Ev.now _)
  | succ d ih =>
    intro i h0 h1
    exact Ev.step (f := fun k => laws_eqIntS.l0 k l l (i + 1)) (fun k => by rw [laws_eqIntS.l0, if_pos (by omega), if_pos h0, if_pos (by omega), if_pos rfl, wr (by omega) (by omega)]) (ih (i + 1) (by omega) (by omega))
theorem eqI (l : List Int) (hl : l.length ≤ 1048576) : Ev (fun k => laws_eqIntS.f k l l) true :=
  Ev.congr (f := fun k => laws_eqIntS.l0 k l l 0) (fun k => by unfold laws_eqIntS.f; rw [if_pos rfl]) (eqI_loop l hl l.length 0 (by omega) (by omega))

theorem strOfNums_append (a b : List Int) : strOfNums (a ++ b) = strOfNums a ++ strOfNums b := by
  apply ByteArray.ext
  rw [ByteArray.data_append]
  apply Array.toList_inj.1
  simp [strOfNums]
theorem strOfNums_size (a : List Int) : (strOfNums a).size = a.length := by
  simp [strOfNums, ByteArray.size]
theorem bt_lt (s : ByteArray) (i : Int) (h : i.toNat < s.size) : bt s i = ((s[i.toNat]'h).toNat : Int) := by simp [bt, h]
theorem extract_one (s : ByteArray) (i : Int) (h0 : 0 ≤ i) (h1 : i < s.size) : s.extract i.toNat (i + 1).toNat = strOfNums [bt s i] := by
  have hl : i.toNat < s.size := by omega
  apply ByteArray.ext
  apply Array.toList_inj.1
  rw [ByteArray.data_extract, Array.toList_extract, List.extract_eq_take_drop, show (i + 1).toNat - i.toNat = 1 by omega]
  have hl' : i.toNat < s.data.toList.length := by simpa using hl
  rw [List.drop_eq_getElem_cons hl', List.take_succ_cons, List.take_zero, bt_lt s i hl]
  simp [strOfNums]
  rfl

/-- The decimal text of a number, as the library writes it. -/
def itoaB (n : Int) : ByteArray := ⟨(Lib.itoa n).toArray⟩
theorem itoa_is (n : Int) (h0 : -9223372036854775808 ≤ n) (h1 : n ≤ 9223372036854775807) : strconv_Itoa.f n = some (itoaB n) := by
  unfold strconv_Itoa.f itoaB
  rw [if_pos ⟨h0, h1⟩]
theorem itoaB_size (n : Int) (h0 : -9223372036854775808 ≤ n) (h1 : n ≤ 9223372036854775807) : (itoaB n).size ≤ 21 := by
  have := Lib.itoa_length_le n h0 h1
  simpa [itoaB, ByteArray.size] using this
theorem bytes_join (a b : List UInt8) : (⟨(a ++ b).toArray⟩ : ByteArray) = (⟨a.toArray⟩ : ByteArray) ++ (⟨b.toArray⟩ : ByteArray) := by
  apply ByteArray.ext
  rw [ByteArray.data_append]
  simp
theorem nDigits_mono (u : Nat) (h : u < 18446744073709551616) : (Lib.decDigits u).length ≤ 20 := by
  rw [Lib.decDigits_length]; exact Lib.nDigits_le20 u h
theorem digits_nat : ∀ (u : Nat), u ≤ 9223372036854775807 → Ev (fun k => spec_l00Digits.f k (u : Int)) (⟨(Lib.decDigits u).toArray⟩ : ByteArray) := by
  intro u
  induction u using Nat.strongRecOn with
  | _ u ih =>
  intro hu
  by_cases h : u < 10
  · refine Ev.step (f := fun _ => some (⟨(Lib.decDigits u).toArray⟩ : ByteArray)) (fun k => ?_) (Ev.now _)
    rw [spec_l00Digits.f, if_neg (by omega), if_neg (by omega), if_pos (by omega), wr (by omega) (by omega), Lib.decDigits_one h]
    have e : ((48 + (u : Int)) % 256).toNat = 48 + u := by omega
    simp [strOfNums, e]
  · have hd : Int.tdiv (u : Int) 10 = ((u / 10 : Nat) : Int) := by rw [Int.tdiv_eq_ediv_of_nonneg (by omega)]; omega
    have hm : Int.tmod (u : Int) 10 = ((u % 10 : Nat) : Int) := by rw [Int.tmod_eq_emod_of_nonneg (by omega)]; omega
    have hl := nDigits_mono (u / 10) (by omega)
    refine Ev.step (f := fun k => (spec_l00Digits.f k ((u / 10 : Nat) : Int)).bind fun t => if t.size + 1 ≤ 9223372036854775807 then some (t ++ (⟨#[UInt8.ofNat (48 + u % 10)]⟩ : ByteArray)) else none) (fun k => ?_) (Ev.bind (ih (u / 10) (by omega) (by omega)) ?_)
    · rw [spec_l00Digits.f, if_neg (by omega), if_neg (by omega), if_neg (by omega), hd, hm, wr (x := ((u / 10 : Nat) : Int)) (by omega) (by omega), wr (x := 48 + ((u % 10 : Nat) : Int)) (by omega) (by omega)]
      have e : ((48 + ((u % 10 : Nat) : Int)) % 256).toNat = 48 + u % 10 := by omega
      have e2 : strOfNums [(48 + ((u % 10 : Nat) : Int)) % 256] = (⟨#[UInt8.ofNat (48 + u % 10)]⟩ : ByteArray) := by simp only [strOfNums, List.map_cons, List.map_nil, e]
      simp only [Option.bind_some, e2]
      rfl
    · have hs : (⟨(Lib.decDigits (u / 10)).toArray⟩ : ByteArray).size + 1 ≤ 9223372036854775807 := by simp only [ByteArray.size, List.size_toArray]; omega
      simp only [if_pos hs]
      have : (⟨(Lib.decDigits u).toArray⟩ : ByteArray) = (⟨(Lib.decDigits (u / 10)).toArray⟩ : ByteArray) ++ (⟨#[UInt8.ofNat (48 + u % 10)]⟩ : ByteArray) := by
        conv => lhs; rw [Lib.decDigits, dif_neg h]
        exact bytes_join _ _
      rw [this]
      exact Ev.now _
theorem digits_is (n : Int) (h0 : -9223372036854775808 ≤ n) (h1 : n ≤ 9223372036854775807) : Ev (fun k => spec_l00Digits.f k n) (itoaB n) := by
  unfold itoaB
  by_cases hm : n = -9223372036854775808
  · subst hm
    refine Ev.step (f := fun _ => some (⟨(Lib.itoa (-9223372036854775808)).toArray⟩ : ByteArray)) (fun k => ?_) (Ev.now _)
    rw [spec_l00Digits.f, if_pos rfl]
    have : Lib.itoa (-9223372036854775808) = [45, 57, 50, 50, 51, 51, 55, 50, 48, 51, 54, 56, 53, 52, 55, 55, 53, 56, 48, 56] := by
      unfold Lib.itoa
      rw [if_pos (by omega)]
      simp [Lib.decDigits]
    rw [this]
  by_cases hn : n < 0
  · obtain ⟨u, rfl⟩ : ∃ u : Nat, n = -(u : Int) := ⟨n.natAbs, by omega⟩
    rw [Lib.itoa_neg u (by omega)]
    refine Ev.step (f := fun k => (spec_l00Digits.f k (u : Int)).bind fun t => if 1 + t.size ≤ 9223372036854775807 then some ((⟨#[45]⟩ : ByteArray) ++ t) else none) (fun k => ?_) (Ev.bind (digits_nat u (by omega)) ?_)
    · rw [spec_l00Digits.f, if_neg hm, if_pos hn, Int.neg_neg, wr (by omega) (by omega)]
    · have hl := nDigits_mono u (by omega)
      have hs : 1 + (⟨(Lib.decDigits u).toArray⟩ : ByteArray).size ≤ 9223372036854775807 := by simp only [ByteArray.size, List.size_toArray]; omega
      simp only [if_pos hs]
      have : (⟨(45 :: Lib.decDigits u).toArray⟩ : ByteArray) = (⟨#[45]⟩ : ByteArray) ++ (⟨(Lib.decDigits u).toArray⟩ : ByteArray) := bytes_join [45] _
      rw [this]
      exact Ev.now _
  · obtain ⟨u, rfl⟩ : ∃ u : Nat, n = u := ⟨n.toNat, by omega⟩
    rw [Lib.itoa_nonneg]
    exact digits_nat u (by omega)
theorem decimal_is (n : Int) (h0 : -9223372036854775808 ≤ n) (h1 : n ≤ 9223372036854775807) : impl_decimal.f n = some (itoaB n) := by
  unfold impl_decimal.f
  rw [itoa_is n h0 h1]; rfl
theorem wf_range {n : Int} (h : (Lit.int .i64 n).wf = true) : -9223372036854775808 ≤ n ∧ n ≤ 9223372036854775807 := by
  have e : IntKind.i64.min = -9223372036854775808 := by decide
  have h' : IntKind.i64.min ≤ n ∧ n ≤ 9223372036854775807 := by simpa [Lit.wf] using h
  rw [e] at h'
  exact h'

/-- Numbers, each behind a blank. -/
def idsB (l : List Int) : Nat → Nat → ByteArray → ByteArray
  | _, 0, t => t
  | i, d + 1, t => idsB l (i + 1) d (t ++ ((⟨#[32]⟩ : ByteArray) ++ itoaB (rd l (i : Int))))
theorem blank_size : (⟨#[32]⟩ : ByteArray).size = 1 := rfl
theorem rd_range {l : List Int} (hw : ∀ y, y ∈ l → (Lit.int .i64 y).wf = true) (i : Nat) (hi : i < l.length) : -9223372036854775808 ≤ rd l (i : Int) ∧ rd l (i : Int) ≤ 9223372036854775807 :=
  wf_range (hw _ (getD_mem 0 l (i : Int) (by omega) (by omega)))
theorem idsB_size (l : List Int) (hw : ∀ y, y ∈ l → (Lit.int .i64 y).wf = true) : ∀ (d i : Nat) (t : ByteArray), i + d = l.length → (idsB l i d t).size ≤ t.size + 22 * d
  | 0, i, t, h => by rw [idsB]; omega
  | d + 1, i, t, h => by
    rw [idsB]
    have r := rd_range hw i (by omega)
    have s := itoaB_size _ r.1 r.2
    have := idsB_size l hw d (i + 1) (t ++ ((⟨#[32]⟩ : ByteArray) ++ itoaB (rd l (i : Int)))) (by omega)
    simp only [ByteArray.size_append, blank_size] at this
    omega
theorem ids_spec (l : List Int) (hw : ∀ y, y ∈ l → (Lit.int .i64 y).wf = true) (hl : l.length ≤ 1048576) : ∀ (d i : Nat) (t : ByteArray), i + d = l.length → t.size + 22 * d ≤ 1000000000 → Ev (fun k => spec_l13Ids.l0 k l t (i : Int)) (idsB l i d t)
  | 0, i, t, h, _ => Ev.step (f := fun _ => some t) (fun k => by rw [spec_l13Ids.l0, if_neg (by omega)]) (Ev.now _)
  | d + 1, i, t, h, hs => by
    have r := rd_range hw i (by omega)
    have s := itoaB_size _ r.1 r.2
    rw [idsB]
    refine Ev.step (f := fun k => (spec_l00Digits.f k (rd l (i : Int))).bind fun x => if 1 + x.size ≤ 9223372036854775807 then (if t.size + ((⟨#[32]⟩ : ByteArray) ++ x).size ≤ 9223372036854775807 then spec_l13Ids.l0 k l (t ++ ((⟨#[32]⟩ : ByteArray) ++ x)) ((i + 1 : Nat) : Int) else none) else none) (fun k => ?_) (Ev.bind (digits_is _ r.1 r.2) ?_)
    · rw [spec_l13Ids.l0, if_pos (by omega), if_pos (by omega), wr (by omega) (by omega)]; rfl
    · have c1 : 1 + (itoaB (rd l (i : Int))).size ≤ 9223372036854775807 := by omega
      have c2 : t.size + ((⟨#[32]⟩ : ByteArray) ++ itoaB (rd l (i : Int))).size ≤ 9223372036854775807 := by simp only [ByteArray.size_append, blank_size]; omega
      simp only [if_pos c1, if_pos c2]
      exact ids_spec l hw hl d (i + 1) _ (by omega) (by simp only [ByteArray.size_append, blank_size]; omega)
theorem ids_impl (l : List Int) (hw : ∀ y, y ∈ l → (Lit.int .i64 y).wf = true) (hl : l.length ≤ 1048576) : ∀ (d i : Nat) (t : ByteArray), i + d = l.length → t.size + 22 * d ≤ 1000000000 → Ev (fun k => impl_spelled.l0 k t l (l.length : Int) (i : Int)) (idsB l i d t)
  | 0, i, t, h, _ => Ev.step (f := fun _ => some t) (fun k => by rw [impl_spelled.l0, if_neg (by omega)]) (Ev.now _)
  | d + 1, i, t, h, hs => by
    have r := rd_range hw i (by omega)
    have s := itoaB_size _ r.1 r.2
    have c1 : 1 + (itoaB (rd l (i : Int))).size ≤ 9223372036854775807 := by omega
    have c2 : t.size + ((⟨#[32]⟩ : ByteArray) ++ itoaB (rd l (i : Int))).size ≤ 9223372036854775807 := by simp only [ByteArray.size_append, blank_size]; omega
    rw [idsB]
    refine Ev.step (f := fun k => impl_spelled.l0 k (t ++ ((⟨#[32]⟩ : ByteArray) ++ itoaB (rd l (i : Int)))) l (l.length : Int) ((i + 1 : Nat) : Int)) (fun k => ?_) (ids_impl l hw hl d (i + 1) _ (by omega) (by simp only [ByteArray.size_append, blank_size]; omega))
    rw [impl_spelled.l0, if_pos (by omega), if_pos (by omega), if_pos (by omega), decimal_is _ r.1 r.2]
    simp only [Option.bind_some, if_pos c1, if_pos c2]
    rw [wr (by omega) (by omega)]; rfl
/-- The text of a list of numbers. -/
def idsT (l : List Int) : ByteArray := idsB l 0 l.length ⟨#[]⟩
theorem empty_size : (⟨#[]⟩ : ByteArray).size = 0 := rfl
theorem idsT_size (l : List Int) (hw : ∀ y, y ∈ l → (Lit.int .i64 y).wf = true) : (idsT l).size ≤ 22 * l.length := by
  have := idsB_size l hw l.length 0 ⟨#[]⟩ (by omega)
  rw [empty_size] at this
  unfold idsT; omega
theorem idsT_spec (l : List Int) (hw : ∀ y, y ∈ l → (Lit.int .i64 y).wf = true) (hl : l.length ≤ 1048576) : Ev (fun k => spec_l13Ids.f k l) (idsT l) := by
  unfold spec_l13Ids.f idsT
  exact ids_spec l hw hl l.length 0 _ (by omega) (by rw [empty_size]; omega)
theorem idsT_impl (l : List Int) (hw : ∀ y, y ∈ l → (Lit.int .i64 y).wf = true) (hl : l.length ≤ 1048576) : Ev (fun k => impl_spelled.f k l) (idsT l) := by
  unfold impl_spelled.f idsT
  exact ids_impl l hw hl l.length 0 _ (by omega) (by rw [empty_size]; omega)

theorem szW (at_ st : Int) (g u : ByteArray) (ids : List Int) (body : ByteArray) (lost : Bool) (hg : g.size ≤ 9223372036854775807) (hu : u.size ≤ 9223372036854775807) (hi : ids.length ≤ 9223372036854775807) (hb : body.size ≤ 9223372036854775807) (left : Int) (h2 : 0 ≤ left) (h3 : left ≤ 1048576) :
    ∃ r, laws_szWire.f at_ st g u ids body lost left = some r ∧ -1 ≤ r ∧ r ≤ left ∧ (0 ≤ r → (g.size : Int) ≤ left ∧ (u.size : Int) ≤ left ∧ (ids.length : Int) ≤ left ∧ (body.size : Int) ≤ left) := by
  unfold laws_szWire.f
  have w1 : wrap64 (left - (g.size : Int)) = left - (g.size : Int) := wr (by omega) (by omega)
  rw [w1]
  by_cases n1 : left - (g.size : Int) < 0
  · exact ⟨-1, by rw [if_pos n1], by omega, by omega, fun h => by omega⟩
  rw [if_neg n1]
  have w2 : wrap64 (left - (g.size : Int) - (u.size : Int)) = left - (g.size : Int) - (u.size : Int) := wr (by omega) (by omega)
  rw [w2]
  by_cases n2 : left - (g.size : Int) - (u.size : Int) < 0
  · exact ⟨-1, by rw [if_pos n2], by omega, by omega, fun h => by omega⟩
  rw [if_neg n2]
  obtain ⟨r, e, a, b, c⟩ := szI ids hi (left - (g.size : Int) - (u.size : Int)) (by omega) (by omega)
  rw [e]
  simp only [Option.bind_some]
  by_cases n3 : r < 0
  · exact ⟨-1, by rw [if_pos n3], by omega, by omega, fun h => by omega⟩
  rw [if_neg n3]
  have w3 : wrap64 (r - (body.size : Int)) = r - (body.size : Int) := wr (by omega) (by omega)
  rw [w3]
  by_cases n4 : r - (body.size : Int) < 0
  · exact ⟨-1, by rw [if_pos n4], by omega, by omega, fun h => by omega⟩
  · exact ⟨r - (body.size : Int), by rw [if_neg n4], by omega, by omega, fun h => by have := c (by omega); omega⟩
theorem toW (at_ st : Int) (g u : ByteArray) (ids : List Int) (body : ByteArray) (lost : Bool) (hi : ids.length ≤ 1048576) : Ev (fun k => laws_toWire.f k at_ st g u ids body lost) (at_, st, g, u, ids, body, lost) := by
  unfold laws_toWire.f
  exact Ev.bind (toI ids hi) (Ev.now _)
theorem eqW (at_ st : Int) (g u : ByteArray) (ids : List Int) (body : ByteArray) (lost : Bool) (hi : ids.length ≤ 1048576) : Ev (fun k => laws_eqWire.f k at_ st g u ids body lost at_ st g u ids body lost) true := by
  unfold laws_eqWire.f
  simp only [if_true]
  refine Ev.bind (eqI ids hi) ?_
  simp only [if_true, bne_self_eq_false, Bool.false_eq_true, if_false]
  exact Ev.now _

theorem wireText (at_ st : Int) (g u : ByteArray) (ids : List Int) (body : ByteArray) (lost : Bool) (ha : -9223372036854775808 ≤ at_ ∧ at_ ≤ 9223372036854775807) (hs : -9223372036854775808 ≤ st ∧ st ≤ 9223372036854775807) (hg : g.size ≤ 12) (hu : u.size ≤ 100)
    (hi : ids.length ≤ 3) (hw : ∀ y, y ∈ ids → (Lit.int .i64 y).wf = true) : ∃ r, Ev (fun k => spec_l13Wire.f k at_ st g u ids body lost) r ∧ Ev (fun k => impl_Wire_text.f k at_ st g u ids body lost) r := by
  have d1 := itoaB_size at_ ha.1 ha.2
  have d2 := itoaB_size st hs.1 hs.2
  have d3 := idsT_size ids hw
  have i1 := idsT_spec ids hw (by omega)
  have i2 := idsT_impl ids hw (by omega)
  have e1 := digits_is at_ ha.1 ha.2
  have e2 := digits_is st hs.1 hs.2
  have f1 := decimal_is at_ ha.1 ha.2
  have f2 := decimal_is st hs.1 hs.2
  have cs1 : (⟨#[97, 116, 32]⟩ : ByteArray).size = 3 := rfl
  have cs2 : (⟨#[32]⟩ : ByteArray).size = 1 := rfl
  have cs3 : (⟨#[32, 116, 111, 32]⟩ : ByteArray).size = 4 := rfl
  have cs4 : (⟨#[32, 115, 116, 97, 116, 117, 115, 32]⟩ : ByteArray).size = 8 := rfl
  have cs5 : (⟨#[32, 108, 111, 115, 116]⟩ : ByteArray).size = 5 := rfl
  have cs6 : (⟨#[32, 105, 100, 115]⟩ : ByteArray).size = 4 := rfl
  have c1 : 3 + (itoaB at_).size ≤ 9223372036854775807 := by (try simp only [ByteArray.size_append, cs1, cs2, cs3, cs4, cs5, cs6]); omega
  have c2 : ((⟨#[97, 116, 32]⟩ : ByteArray) ++ (itoaB at_)).size + 1 ≤ 9223372036854775807 := by (try simp only [ByteArray.size_append, cs1, cs2, cs3, cs4, cs5, cs6]); omega
  have c3 : (((⟨#[97, 116, 32]⟩ : ByteArray) ++ (itoaB at_)) ++ (⟨#[32]⟩ : ByteArray)).size + g.size ≤ 9223372036854775807 := by (try simp only [ByteArray.size_append, cs1, cs2, cs3, cs4, cs5, cs6]); omega
  have c4 : ((((⟨#[97, 116, 32]⟩ : ByteArray) ++ (itoaB at_)) ++ (⟨#[32]⟩ : ByteArray)) ++ g).size + 4 ≤ 9223372036854775807 := by (try simp only [ByteArray.size_append, cs1, cs2, cs3, cs4, cs5, cs6]); omega
  have c5 : (((((⟨#[97, 116, 32]⟩ : ByteArray) ++ (itoaB at_)) ++ (⟨#[32]⟩ : ByteArray)) ++ g) ++ (⟨#[32, 116, 111, 32]⟩ : ByteArray)).size + u.size ≤ 9223372036854775807 := by (try simp only [ByteArray.size_append, cs1, cs2, cs3, cs4, cs5, cs6]); omega
  have c6 : ((((((⟨#[97, 116, 32]⟩ : ByteArray) ++ (itoaB at_)) ++ (⟨#[32]⟩ : ByteArray)) ++ g) ++ (⟨#[32, 116, 111, 32]⟩ : ByteArray)) ++ u).size + 8 ≤ 9223372036854775807 := by (try simp only [ByteArray.size_append, cs1, cs2, cs3, cs4, cs5, cs6]); omega
  have c7 : (((((((⟨#[97, 116, 32]⟩ : ByteArray) ++ (itoaB at_)) ++ (⟨#[32]⟩ : ByteArray)) ++ g) ++ (⟨#[32, 116, 111, 32]⟩ : ByteArray)) ++ u) ++ (⟨#[32, 115, 116, 97, 116, 117, 115, 32]⟩ : ByteArray)).size + (itoaB st).size ≤ 9223372036854775807 := by (try simp only [ByteArray.size_append, cs1, cs2, cs3, cs4, cs5, cs6]); omega
  have c8 : ((((((((⟨#[97, 116, 32]⟩ : ByteArray) ++ (itoaB at_)) ++ (⟨#[32]⟩ : ByteArray)) ++ g) ++ (⟨#[32, 116, 111, 32]⟩ : ByteArray)) ++ u) ++ (⟨#[32, 115, 116, 97, 116, 117, 115, 32]⟩ : ByteArray)) ++ (itoaB st)).size + 5 ≤ 9223372036854775807 := by (try simp only [ByteArray.size_append, cs1, cs2, cs3, cs4, cs5, cs6]); omega
  have c9 : (((((((((⟨#[97, 116, 32]⟩ : ByteArray) ++ (itoaB at_)) ++ (⟨#[32]⟩ : ByteArray)) ++ g) ++ (⟨#[32, 116, 111, 32]⟩ : ByteArray)) ++ u) ++ (⟨#[32, 115, 116, 97, 116, 117, 115, 32]⟩ : ByteArray)) ++ (itoaB st)) ++ (⟨#[32, 108, 111, 115, 116]⟩ : ByteArray)).size + 4 ≤ 9223372036854775807 := by (try simp only [ByteArray.size_append, cs1, cs2, cs3, cs4, cs5, cs6]); omega
  have c10 : ((((((((((⟨#[97, 116, 32]⟩ : ByteArray) ++ (itoaB at_)) ++ (⟨#[32]⟩ : ByteArray)) ++ g) ++ (⟨#[32, 116, 111, 32]⟩ : ByteArray)) ++ u) ++ (⟨#[32, 115, 116, 97, 116, 117, 115, 32]⟩ : ByteArray)) ++ (itoaB st)) ++ (⟨#[32, 108, 111, 115, 116]⟩ : ByteArray)) ++ (⟨#[32, 105, 100, 115]⟩ : ByteArray)).size + (idsT ids).size ≤ 9223372036854775807 := by (try simp only [ByteArray.size_append, cs1, cs2, cs3, cs4, cs5, cs6]); omega
  have c11 : ((((((((⟨#[97, 116, 32]⟩ : ByteArray) ++ (itoaB at_)) ++ (⟨#[32]⟩ : ByteArray)) ++ g) ++ (⟨#[32, 116, 111, 32]⟩ : ByteArray)) ++ u) ++ (⟨#[32, 115, 116, 97, 116, 117, 115, 32]⟩ : ByteArray)) ++ (itoaB st)).size + 4 ≤ 9223372036854775807 := by (try simp only [ByteArray.size_append, cs1, cs2, cs3, cs4, cs5, cs6]); omega
  have c12 : (((((((((⟨#[97, 116, 32]⟩ : ByteArray) ++ (itoaB at_)) ++ (⟨#[32]⟩ : ByteArray)) ++ g) ++ (⟨#[32, 116, 111, 32]⟩ : ByteArray)) ++ u) ++ (⟨#[32, 115, 116, 97, 116, 117, 115, 32]⟩ : ByteArray)) ++ (itoaB st)) ++ (⟨#[32, 105, 100, 115]⟩ : ByteArray)).size + (idsT ids).size ≤ 9223372036854775807 := by (try simp only [ByteArray.size_append, cs1, cs2, cs3, cs4, cs5, cs6]); omega
  cases lost
  · refine ⟨(⟨#[97, 116, 32]⟩ : ByteArray) ++ itoaB at_ ++ (⟨#[32]⟩ : ByteArray) ++ g ++ (⟨#[32, 116, 111, 32]⟩ : ByteArray) ++ u ++ (⟨#[32, 115, 116, 97, 116, 117, 115, 32]⟩ : ByteArray) ++ itoaB st ++ (⟨#[32, 105, 100, 115]⟩ : ByteArray) ++ idsT ids, ?_, ?_⟩
    · unfold spec_l13Wire.f
      refine Ev.bind e1 ?_
      simp only [if_pos c1, if_pos c2, if_pos c3, if_pos c4, if_pos c5, if_pos c6, if_pos c7, if_pos c8, if_pos c9, if_pos c10, if_pos c11, if_pos c12]
      refine Ev.bind e2 ?_
      simp only [Bool.false_eq_true, if_false, if_pos c1, if_pos c2, if_pos c3, if_pos c4, if_pos c5, if_pos c6, if_pos c7, if_pos c8, if_pos c9, if_pos c10, if_pos c11, if_pos c12]
      refine Ev.bind i1 ?_
      simp only [if_pos c1, if_pos c2, if_pos c3, if_pos c4, if_pos c5, if_pos c6, if_pos c7, if_pos c8, if_pos c9, if_pos c10, if_pos c11, if_pos c12]
      exact Ev.now _
    · unfold impl_Wire_text.f
      simp only [f1, f2, Option.bind_some, if_pos c1, if_pos c2, if_pos c3, if_pos c4, if_pos c5, if_pos c6, if_pos c7, if_pos c8, if_pos c9, if_pos c10, if_pos c11, if_pos c12, Bool.false_eq_true, if_false]
      refine Ev.bind i2 ?_
      simp only [if_pos c1, if_pos c2, if_pos c3, if_pos c4, if_pos c5, if_pos c6, if_pos c7, if_pos c8, if_pos c9, if_pos c10, if_pos c11, if_pos c12]
      exact Ev.now _
  · refine ⟨(⟨#[97, 116, 32]⟩ : ByteArray) ++ itoaB at_ ++ (⟨#[32]⟩ : ByteArray) ++ g ++ (⟨#[32, 116, 111, 32]⟩ : ByteArray) ++ u ++ (⟨#[32, 115, 116, 97, 116, 117, 115, 32]⟩ : ByteArray) ++ itoaB st ++ (⟨#[32, 108, 111, 115, 116]⟩ : ByteArray) ++ (⟨#[32, 105, 100, 115]⟩ : ByteArray) ++ idsT ids, ?_, ?_⟩
    · unfold spec_l13Wire.f
      refine Ev.bind e1 ?_
      simp only [if_pos c1, if_pos c2, if_pos c3, if_pos c4, if_pos c5, if_pos c6, if_pos c7, if_pos c8, if_pos c9, if_pos c10, if_pos c11, if_pos c12]
      refine Ev.bind e2 ?_
      simp only [if_true, if_pos c1, if_pos c2, if_pos c3, if_pos c4, if_pos c5, if_pos c6, if_pos c7, if_pos c8, if_pos c9, if_pos c10, if_pos c11, if_pos c12]
      refine Ev.bind i1 ?_
      simp only [if_pos c1, if_pos c2, if_pos c3, if_pos c4, if_pos c5, if_pos c6, if_pos c7, if_pos c8, if_pos c9, if_pos c10, if_pos c11, if_pos c12]
      exact Ev.now _
    · unfold impl_Wire_text.f
      simp only [f1, f2, Option.bind_some, if_pos c1, if_pos c2, if_pos c3, if_pos c4, if_pos c5, if_pos c6, if_pos c7, if_pos c8, if_pos c9, if_pos c10, if_pos c11, if_pos c12, if_true]
      refine Ev.bind i2 ?_
      simp only [if_pos c1, if_pos c2, if_pos c3, if_pos c4, if_pos c5, if_pos c6, if_pos c7, if_pos c8, if_pos c9, if_pos c10, if_pos c11, if_pos c12]
      exact Ev.now _
theorem FnExactWireText : (∀ (a0_0 : Int) (a0_1 : Int) (a0_2 : ByteArray) (a0_3 : ByteArray) (l0_4 : List Int) (a0_5 : ByteArray) (a0_6 : Bool), ((Lit.int .i64 a0_0).wf = true) → ((Lit.int .i64 a0_1).wf = true) → (a0_2.size ≤ 9223372036854775807) → (a0_3.size ≤ 9223372036854775807) → (l0_4.length ≤ 9223372036854775807 ∧ ∀ y_, y_ ∈ l0_4 → (Lit.int .i64 y_).wf = true) → (a0_5.size ≤ 9223372036854775807) → ∃ k, laws_FnExactWireText.f k a0_0 a0_1 a0_2 a0_3 l0_4 a0_5 a0_6 = some true) := by
  intro at_ st g u ids body lost h1 h2 hg hu ⟨hi, hw⟩ hb
  refine Ev.rounds ?_
  obtain ⟨r, e, b1, b2, c⟩ := szW at_ st g u ids body lost hg hu hi hb 1048576 (by omega) (by omega)
  unfold laws_FnExactWireText.f
  rw [e]
  simp only [Option.bind_some]
  by_cases n : r < 0
  · simp only [if_pos n]; exact Ev.now _
  simp only [if_neg n]
  obtain ⟨c1, c2, c3, c4⟩ := c (by omega)
  have t := toW at_ st g u ids body lost (by omega)
  have fin : Ev (fun k => laws_FnExactWireText.j0 k false at_ st g u ids body lost at_ st g u ids body lost) true := by
    refine Ev.step (f := fun k => (laws_toWire.f k at_ st g u ids body lost).bind fun bt => (laws_eqWire.f k at_ st g u ids body lost bt.1 bt.2.1 bt.2.2.1 bt.2.2.2.1 bt.2.2.2.2.1 bt.2.2.2.2.2.1 bt.2.2.2.2.2.2).bind fun t => if t = true then some true else some false) (fun k => by rw [laws_FnExactWireText.j0]; simp) ?_
    refine Ev.bind t (Ev.bind (eqW at_ st g u ids body lost (by omega)) ?_)
    simp only [if_true]
    exact Ev.now _
  obtain ⟨res, p, q⟩ : ∃ res : ByteArray × Int, Ev (fun k => spec_WireText.f k at_ st g u ids body lost) res ∧ Ev (fun k => impl_WireText.f k at_ st g u ids body lost) res := by
    unfold spec_WireText.f impl_WireText.f
    by_cases a1 : (ids.length : Int) > 3
    · exact ⟨((⟨#[]⟩ : ByteArray), 1), by simp only [if_pos a1]; exact Ev.now _, by simp only [if_pos a1]; exact Ev.now _⟩
    by_cases a2 : (u.size : Int) > 100
    · exact ⟨((⟨#[]⟩ : ByteArray), 1), by simp only [if_neg a1, if_pos a2]; exact Ev.now _, by simp only [if_neg a1, if_pos a2]; exact Ev.now _⟩
    by_cases a3 : (g.size : Int) > 12
    · exact ⟨((⟨#[]⟩ : ByteArray), 1), by simp only [if_neg a1, if_neg a2, if_pos a3]; exact Ev.now _, by simp only [if_neg a1, if_neg a2, if_pos a3]; exact Ev.now _⟩
    obtain ⟨r, x1, x2⟩ := wireText at_ st g u ids body lost (wf_range h1) (wf_range h2) (by omega) (by omega) (by omega) hw
    exact ⟨(r, 0), by simp only [if_neg a1, if_neg a2, if_neg a3]; exact Ev.bind x1 (Ev.now _), by simp only [if_neg a1, if_neg a2, if_neg a3]; exact Ev.bind x2 (Ev.now _)⟩
  refine Ev.bind t (Ev.bind p (Ev.bind t (Ev.bind q ?_)))
  simp only [bne_self_eq_false, if_true]
  exact fin

end Go.Proofs.YtnbnodfchjllgaaDoor.Pure
