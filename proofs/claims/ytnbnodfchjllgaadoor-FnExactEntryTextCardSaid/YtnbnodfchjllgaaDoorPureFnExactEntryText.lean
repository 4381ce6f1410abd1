/- The program's EntryText answers as the reference's at every entry; no condition. -/
import Derived.Test.YtnbnodfchjllgaaDoorQFnExactEntryTextx2
import Derived.Lib.ItoaLen
set_option linter.unusedVariables false
set_option linter.unusedSimpArgs false
namespace Go.Proofs.YtnbnodfchjllgaaDoor.Pure
open Go.RowKit Go.Proofs.YtnbnodfchjllgaaDoor.QFnExactEntryText Go.Proofs.YtnbnodfchjllgaaDoorW.PrintWords Go.Proofs.YtnbnodfchjllgaaDoorW.PrintLast

theorem wr {x : Int} (h0 : -9223372036854775808 ≤ x) (h1 : x ≤ 9223372036854775807) : wrap64 x = x := by unfold wrap64; omega

theorem strOfNums_append (a b : List Int) : strOfNums (a ++ b) = strOfNums a ++ strOfNums b := by
  apply ByteArray.ext
  rw [ByteArray.data_append]
  apply Array.toList_inj.1
  simp [strOfNums]
theorem strOfNums_size (a : List Int) : (strOfNums a).size = a.length := by
  simp [strOfNums, ByteArray.size]
theorem bt_lt (s : ByteArray) (i : Int) (h : i.toNat < s.size) : bt s i = ((s[i.toNat]'h).toNat : Int) := by simp [bt, h]
theorem extract_one (s : ByteArray) (i : Int) (h0 : 0 ≤ i) (h1 : i < s.size) : s.extract i.toNat (i + 1).toNat = strOfNums [bt s i] := by
  have hl : i.toNat < s.size := by omega
  apply ByteArray.ext
  apply Array.toList_inj.1
  rw [ByteArray.data_extract, Array.toList_extract, List.extract_eq_take_drop, show (i + 1).toNat - i.toNat = 1 by omega]
  have hl' : i.toNat < s.data.toList.length := by simpa using hl
  rw [List.drop_eq_getElem_cons hl', List.take_succ_cons, List.take_zero, bt_lt s i hl]
  simp [strOfNums]
  rfl

/-- The decimal text of a number, as the library writes it. -/
def itoaB (n : Int) : ByteArray := ⟨(Lib.itoa n).toArray⟩
theorem itoa_is (n : Int) (h0 : -9223372036854775808 ≤ n) (h1 : n ≤ 9223372036854775807) : strconv_Itoa.f n = some (itoaB n) := by
  unfold strconv_Itoa.f itoaB
  rw [if_pos ⟨h0, h1⟩]
theorem itoaB_size (n : Int) (h0 : -9223372036854775808 ≤ n) (h1 : n ≤ 9223372036854775807) : (itoaB n).size ≤ 21 := by
  have := Lib.itoa_length_le n h0 h1
  simpa [itoaB, ByteArray.size] using this
theorem bytes_join (a b : List UInt8) : (⟨(a ++ b).toArray⟩ : ByteArray) = (⟨a.toArray⟩ : ByteArray) ++ (⟨b.toArray⟩ : ByteArray) := by
  apply ByteArray.ext
  rw [ByteArray.data_append]
  simp
theorem nDigits_mono (u : Nat) (h : u < 18446744073709551616) : (Lib.decDigits u).length ≤ 20 := by
  rw [Lib.decDigits_length]; exact Lib.nDigits_le20 u h
theorem digits_nat : ∀ (u : Nat), u ≤ 9223372036854775807 → Ev (fun k => spec_l00Digits.f k (u : Int)) (⟨(Lib.decDigits u).toArray⟩ : ByteArray) := by
  intro u
  induction u using Nat.strongRecOn with
  | _ u ih =>
  intro hu
  by_cases h : u < 10
  · refine Ev.step (f := fun _ => some (⟨(Lib.decDigits u).toArray⟩ : ByteArray)) (fun k => ?_) (Ev.now _)
    rw [spec_l00Digits.f, if_neg (by omega), if_neg (by omega), if_pos (by omega), wr (by omega) (by omega), Lib.decDigits_one h]
    have e : ((48 + (u : Int)) % 256).toNat = 48 + u := by omega
    simp [strOfNums, e]
  · have hd : Int.tdiv (u : Int) 10 = ((u / 10 : Nat) : Int) := by rw [Int.tdiv_eq_ediv_of_nonneg (by omega)]; omega
    have hm : Int.tmod (u : Int) 10 = ((u % 10 : Nat) : Int) := by rw [Int.tmod_eq_emod_of_nonneg (by omega)]; omega
    have hl := nDigits_mono (u / 10) (by omega)
    refine Ev.step (f := fun k => (spec_l00Digits.f k ((u / 10 : Nat) : Int)).bind fun t => if t.size + 1 ≤ 9223372036854775807 then some (t ++ (⟨#[UInt8.ofNat (48 + u % 10)]⟩ : ByteArray)) else none) (fun k => ?_) (Ev.bind (ih (u / 10) (by omega) (by omega)) ?_)
    · rw [spec_l00Digits.f, if_neg (by omega), if_neg (by omega), if_neg (by omega), hd, hm, wr (x := ((u / 10 : Nat) : Int)) (by omega) (by omega), wr (x := 48 + ((u % 10 : Nat) : Int)) (by omega) (by omega)]
      have e : ((48 + ((u % 10 : Nat) : Int)) % 256).toNat = 48 + u % 10 := by omega
      have e2 : strOfNums [(48 + ((u % 10 : Nat) : Int)) % 256] = (⟨#[UInt8.ofNat (48 + u % 10)]⟩ : ByteArray) := by simp only [strOfNums, List.map_cons, List.map_nil, e]
      simp only [Option.bind_some, e2]
      rfl
    · have hs : (⟨(Lib.decDigits (u / 10)).toArray⟩ : ByteArray).size + 1 ≤ 9223372036854775807 := by simp only [ByteArray.size, List.size_toArray]; omega
      simp only [if_pos hs]
      have : (⟨(Lib.decDigits u).toArray⟩ : ByteArray) = (⟨(Lib.decDigits (u / 10)).toArray⟩ : ByteArray) ++ (⟨#[UInt8.ofNat (48 + u % 10)]⟩ : ByteArray) := by
        conv => lhs; rw [Lib.decDigits, dif_neg h]
        exact bytes_join _ _
      rw [this]
      exact Ev.now _
theorem digits_is (n : Int) (h0 : -9223372036854775808 ≤ n) (h1 : n ≤ 9223372036854775807) : Ev (fun k => spec_l00Digits.f k n) (itoaB n) := by
  unfold itoaB
  by_cases hm : n = -9223372036854775808
  · subst hm
    refine Ev.step (f := fun _ => some (⟨(Lib.itoa (-9223372036854775808)).toArray⟩ : ByteArray)) (fun k => ?_) (Ev.now _)
    rw [spec_l00Digits.f, if_pos rfl]
    have : Lib.itoa (-9223372036854775808) = [45, 57, 50, 50, 51, 51, 55, 50, 48, 51, 54, 56, 53, 52, 55, 55, 53, 56, 48, 56] := by
      unfold Lib.itoa
      rw [if_pos (by omega)]
      simp [Lib.decDigits]
    rw [this]
  by_cases hn : n < 0
  · obtain ⟨u, rfl⟩ : ∃ u : Nat, n = -(u : Int) := ⟨n.natAbs, by omega⟩
    rw [Lib.itoa_neg u (by omega)]
    refine Ev.step (f := fun k => (spec_l00Digits.f k (u : Int)).bind fun t => if 1 + t.size ≤ 9223372036854775807 then some ((⟨#[45]⟩ : ByteArray) ++ t) else none) (fun k => ?_) (Ev.bind (digits_nat u (by omega)) ?_)
    · rw [spec_l00Digits.f, if_neg hm, if_pos hn, Int.neg_neg, wr (by omega) (by omega)]
    · have hl := nDigits_mono u (by omega)
      have hs : 1 + (⟨(Lib.decDigits u).toArray⟩ : ByteArray).size ≤ 9223372036854775807 := by simp only [ByteArray.size, List.size_toArray]; omega
      simp only [if_pos hs]
      have : (⟨(45 :: Lib.decDigits u).toArray⟩ : ByteArray) = (⟨#[45]⟩ : ByteArray) ++ (⟨(Lib.decDigits u).toArray⟩ : ByteArray) := bytes_join [45] _
      rw [this]
      exact Ev.now _
  · obtain ⟨u, rfl⟩ : ∃ u : Nat, n = u := ⟨n.toNat, by omega⟩
    rw [Lib.itoa_nonneg]
    exact digits_nat u (by omega)
theorem decimal_is (n : Int) (h0 : -9223372036854775808 ≤ n) (h1 : n ≤ 9223372036854775807) : impl_decimal.f n = some (itoaB n) := by
  unfold impl_decimal.f
  rw [itoa_is n h0 h1]; rfl
theorem wf_range {n : Int} (h : (Lit.int .i64 n).wf = true) : -9223372036854775808 ≤ n ∧ n ≤ 9223372036854775807 := by
  have e : IntKind.i64.min = -9223372036854775808 := by decide
  have h' : IntKind.i64.min ≤ n ∧ n ≤ 9223372036854775807 := by simpa [Lit.wf] using h
  rw [e] at h'
  exact h'

def inB (n lo hi : Int) : Bool := decide (lo ≤ n) && decide (n ≤ hi)
theorem within_is (n lo hi : Int) : impl_within.f n lo hi = some (inB n lo hi) := by
  unfold impl_within.f inB
  by_cases h : lo ≤ n <;> simp [h]

theorem in_is (n lo hi : Int) : spec_l01In.f n lo hi = some (inB n lo hi) := by
  unfold spec_l01In.f inB
  by_cases h : lo ≤ n
  · rw [if_pos h]; simp [h]
  · rw [if_neg h]; simp [h]

theorem entryText (kind id at_ : Int) (t : ByteArray) (hk : spec_FateWord.f kind = some t) (hk' : impl_FateWord.f kind = some t) (ht : t.size ≤ 9) (hi : -9223372036854775808 ≤ id) (hi' : id ≤ 9223372036854775807) (ha : -9223372036854775808 ≤ at_) (ha' : at_ ≤ 9223372036854775807) :
    ∃ r, Ev (fun k => spec_l13Entry.f k kind id at_) r ∧ impl_Entry_text.f kind id at_ = some r := by
  have s1 : (⟨#[97, 116, 32]⟩ : ByteArray).size = 3 := rfl
  have s2 : (⟨#[32]⟩ : ByteArray).size = 1 := rfl
  have d1 := itoaB_size id hi hi'
  have d2 := itoaB_size at_ ha ha'
  have c1 : 3 + (itoaB at_).size ≤ 9223372036854775807 := by omega
  have c2 : ((⟨#[97, 116, 32]⟩ : ByteArray) ++ itoaB at_).size + 1 ≤ 9223372036854775807 := by simp only [ByteArray.size_append, s1, s2]; omega
  have c3 : (((⟨#[97, 116, 32]⟩ : ByteArray) ++ itoaB at_) ++ (⟨#[32]⟩ : ByteArray)).size + t.size ≤ 9223372036854775807 := by simp only [ByteArray.size_append, s1, s2]; omega
  have c4 : ((((⟨#[97, 116, 32]⟩ : ByteArray) ++ itoaB at_) ++ (⟨#[32]⟩ : ByteArray)) ++ t).size + 1 ≤ 9223372036854775807 := by simp only [ByteArray.size_append, s1, s2]; omega
  have c5 : (((((⟨#[97, 116, 32]⟩ : ByteArray) ++ itoaB at_) ++ (⟨#[32]⟩ : ByteArray)) ++ t) ++ (⟨#[32]⟩ : ByteArray)).size + (itoaB id).size ≤ 9223372036854775807 := by simp only [ByteArray.size_append, s1, s2]; omega
  refine ⟨((((⟨#[97, 116, 32]⟩ : ByteArray) ++ itoaB at_) ++ (⟨#[32]⟩ : ByteArray)) ++ t) ++ (⟨#[32]⟩ : ByteArray) ++ itoaB id, ?_, ?_⟩
  · unfold spec_l13Entry.f
    refine Ev.bind (digits_is at_ ha ha') ?_
    simp only [if_pos c1, if_pos c2, hk, Option.bind_some, if_pos c3, if_pos c4]
    refine Ev.bind (digits_is id hi hi') ?_
    simp only [if_pos c5]
    exact Ev.now _
  · unfold impl_Entry_text.f
    simp only [decimal_is at_ ha ha', decimal_is id hi hi', hk', Option.bind_some, if_pos c1, if_pos c2, if_pos c3, if_pos c4, if_pos c5]
def fateList : List ByteArray := [(⟨#[113, 117, 101, 117, 101, 100]⟩ : ByteArray), (⟨#[100, 101, 108, 105, 118, 101, 114, 101, 100]⟩ : ByteArray), (⟨#[101, 118, 105, 99, 116, 101, 100]⟩ : ByteArray), (⟨#[101, 120, 112, 105, 114, 101, 100]⟩ : ByteArray), (⟨#[101, 120, 104, 97, 117, 115, 116, 101, 100]⟩ : ByteArray), (⟨#[100, 117, 112, 108, 105, 99, 97, 116, 101]⟩ : ByteArray), (⟨#[117, 110, 107, 110, 111, 119, 110]⟩ : ByteArray)]
theorem fate_same (kind : Int) (h : inB kind 1 7 = true) : ∃ t, spec_FateWord.f kind = some t ∧ impl_FateWord.f kind = some t ∧ t.size ≤ 9 := by
  have hr : 1 ≤ kind ∧ kind ≤ 7 := by simpa [inB] using h
  refine ⟨rdOf ByteArray.empty fateList (kind - 1), ?_, ?_, ?_⟩
  · unfold spec_FateWord.f spec_l13Fates.f
    simp only [in_is, h, Option.bind_some, if_true, List.length_cons, List.length_nil]
    rw [wr (by omega) (by omega), if_pos (by omega), if_pos (by omega)]
    rfl
  · unfold impl_FateWord.f
    simp only [within_is, h, Option.bind_some, if_true, List.length_cons, List.length_nil]
    rw [wr (by omega) (by omega), if_pos (by omega), if_pos (by omega)]
    rfl
  · have hc : kind = 1 ∨ kind = 2 ∨ kind = 3 ∨ kind = 4 ∨ kind = 5 ∨ kind = 6 ∨ kind = 7 := by omega
    rcases hc with rfl | rfl | rfl | rfl | rfl | rfl | rfl <;> decide
theorem FnExactEntryText : (∀ (a0_0 : Int) (a0_1 : Int) (a0_2 : Int), ((Lit.int .i64 a0_0).wf = true) → ((Lit.int .i64 a0_1).wf = true) → ((Lit.int .i64 a0_2).wf = true) → ∃ k, laws_FnExactEntryText.f k a0_0 a0_1 a0_2 = some true) := by
  intro kind id at_ h1 h2 h3
  refine Ev.rounds ?_
  have r2 := wf_range h2
  have r3 := wf_range h3
  obtain ⟨res, p, q⟩ : ∃ res : ByteArray × Int, Ev (fun k => spec_EntryText.f k kind id at_) res ∧ impl_EntryText.f kind id at_ = some res := by
    unfold spec_EntryText.f impl_EntryText.f impl_isNow.f
    simp only [in_is, within_is, Option.bind_some]
    by_cases b1 : inB kind 1 7 = true
    · by_cases b2 : inB id 1 1000000 = true
      · by_cases b3 : inB at_ 0 1000000 = true
        · obtain ⟨t, e1, e2, e3⟩ := fate_same kind b1
          obtain ⟨r, x1, x2⟩ := entryText kind id at_ t e1 e2 e3 r2.1 r2.2 r3.1 r3.2
          refine ⟨(r, 0), ?_, ?_⟩
          · simp only [if_pos b1, if_pos b2, if_pos b3]; exact Ev.bind x1 (Ev.now _)
          · simp only [if_pos b1, if_pos b2, if_pos b3, x2, Option.bind_some]
        · exact ⟨((⟨#[]⟩ : ByteArray), 1), by simp only [if_pos b1, if_pos b2, if_neg b3]; exact Ev.now _, by simp only [if_pos b1, if_pos b2, if_neg b3]⟩
      · exact ⟨((⟨#[]⟩ : ByteArray), 1), by simp only [if_pos b1, if_neg b2]; exact Ev.now _, by simp only [if_pos b1, if_neg b2]⟩
    · exact ⟨((⟨#[]⟩ : ByteArray), 1), by simp only [if_neg b1]; exact Ev.now _, by simp only [if_neg b1]⟩
  unfold laws_FnExactEntryText.f laws_toEntry.f
  simp only [Option.bind_some]
  refine Ev.bind p ?_
  simp only [q, Option.bind_some, if_true]
  exact Ev.now _

end Go.Proofs.YtnbnodfchjllgaaDoor.Pure
