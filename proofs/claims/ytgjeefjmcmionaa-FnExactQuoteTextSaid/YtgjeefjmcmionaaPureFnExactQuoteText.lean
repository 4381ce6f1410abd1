/- The program's QuoteText answers the same text as the reference's at every text; every string is allowed. -/
import Derived.Test.YtgjeefjmcmionaaQFnExactQuoteTextx2
set_option linter.unusedVariables false
set_option linter.unusedSimpArgs false
namespace Go.Proofs.Ytgjeefjmcmionaa.Pure
open Go.RowKit Go.Proofs.Ytgjeefjmcmionaa.QFnExactQuoteText Go.Proofs.YtgjeefjmcmionaaW.PrintWords Go.Proofs.YtgjeefjmcmionaaW.PrintLast

theorem wr {x : Int} (h0 : -9223372036854775808 ≤ x) (h1 : x ≤ 9223372036854775807) : wrap64 x = x := by unfold wrap64; omega

theorem strOfNums_append (a b : List Int) : strOfNums (a ++ b) = strOfNums a ++ strOfNums b := by
  apply ByteArray.ext
  rw [ByteArray.data_append]
  apply Array.toList_inj.1
  simp [strOfNums]
theorem strOfNums_size (a : List Int) : (strOfNums a).size = a.length := by
  simp [strOfNums, ByteArray.size]
theorem bt_lt (s : ByteArray) (i : Int) (h : i.toNat < s.size) : bt s i = ((s[i.toNat]'h).toNat : Int) := by simp [bt, h]
theorem extract_one (s : ByteArray) (i : Int) (h0 : 0 ≤ i) (h1 : i < s.size) : s.extract i.toNat (i + 1).toNat = strOfNums [bt s i] := by
  have hl : i.toNat < s.size := by omega
  apply ByteArray.ext
  apply Array.toList_inj.1
  rw [ByteArray.data_extract, Array.toList_extract, List.extract_eq_take_drop, show (i + 1).toNat - i.toNat = 1 by omega]
  have hl' : i.toNat < s.data.toList.length := by simpa using hl
  rw [List.drop_eq_getElem_cons hl', List.take_succ_cons, List.take_zero, bt_lt s i hl]
  simp [strOfNums]
  rfl

def hexS : ByteArray := ⟨#[48, 49, 50, 51, 52, 53, 54, 55, 56, 57, 97, 98, 99, 100, 101, 102]⟩
/-- What stands for a byte between quotation marks. -/
def esc (c : Int) : List Int := if c = 34 ∨ c = 92 then [92, c] else if c < 32 ∨ c > 126 then [92, 117, 48, 48, bt hexS (Int.tdiv c 16 % 256), bt hexS (Int.tmod c 16)] else [c]
theorem esc_length (c : Int) : (esc c).length ≤ 6 := by unfold esc; split <;> (try split) <;> simp
def qbody (s : ByteArray) : Int → Nat → List Int
  | _, 0 => []
  | i, d + 1 => esc (bt s i) ++ qbody s (i + 1) d
theorem qbody_length (s : ByteArray) (d : Nat) : ∀ i, (qbody s i d).length ≤ 6 * d := by
  induction d with
  | zero => intro i; simp [qbody]
  | succ d ih => intro i; have := ih (i + 1); have := esc_length (bt s i); simp only [qbody, List.length_append]; omega
theorem quote_hex (c : Int) (h0 : 0 ≤ c) (h1 : c ≤ 255) : 0 ≤ Int.tdiv c 16 % 256 ∧ Int.tdiv c 16 % 256 < 16 ∧ 0 ≤ Int.tmod c 16 ∧ Int.tmod c 16 < 16 := by
  rw [Int.tdiv_eq_ediv_of_nonneg h0, Int.tmod_eq_emod_of_nonneg h0]
  omega
theorem quote_spec_round (k : Nat) (s : ByteArray) (l : List Int) (i : Int) (h0 : 0 ≤ i) (h1 : i < s.size) (hs : s.size ≤ 1048576) (hl : l.length ≤ 100000000) :
    spec_l02Quote.l0 (k + 2) s (strOfNums l) i = spec_l02Quote.l0 k s (strOfNums (l ++ esc (bt s i))) (i + 1) := by
  have hb := bt_range s i
  obtain ⟨x0, x1, x2, x3⟩ := quote_hex (bt s i) hb.1 hb.2
  rw [spec_l02Quote.l0, if_pos h1, if_pos h0]
  have e2 := extract_one s i h0 h1
  have hw : wrap64 (i + 1) = i + 1 := wr (by omega) (by omega)
  by_cases h34 : bt s i = 34 ∨ bt s i = 92
  · have hj : (if bt s i = 34 then spec_l02Quote.j1 (k + 1) s (strOfNums l) i (bt s i) true else spec_l02Quote.j1 (k + 1) s (strOfNums l) i (bt s i) (bt s i == 92)) = spec_l02Quote.j1 (k + 1) s (strOfNums l) i (bt s i) true := by
      rcases h34 with h | h
      · rw [if_pos h]
      · rw [if_neg (by omega), h]; rfl
    rw [hj, spec_l02Quote.j1, if_pos rfl, hw, if_pos h0, if_pos (by omega), if_pos (by omega), e2, if_pos (by rw [strOfNums_size]; simp), if_pos (by rw [ByteArray.size_append, strOfNums_size, strOfNums_size]; simp [ByteArray.size]; omega)]
    rw [show esc (bt s i) = [92] ++ [bt s i] by unfold esc; rw [if_pos h34]; rfl, strOfNums_append, strOfNums_append]
    rfl
  · rw [if_neg (fun h => h34 (.inl h)), beq_eq_false_iff_ne.2 (fun h => h34 (.inr h)), spec_l02Quote.j1, if_neg (by decide), hw]
    by_cases hx : bt s i < 32 ∨ bt s i > 126
    · have hE : esc (bt s i) = [92, 117, 48, 48] ++ [bt hexS (Int.tdiv (bt s i) 16 % 256), bt hexS (Int.tmod (bt s i) 16)] := by unfold esc; rw [if_neg h34, if_pos hx]; rfl
      have z1 : 4 + (strOfNums [bt hexS (Int.tdiv (bt s i) 16 % 256), bt hexS (Int.tmod (bt s i) 16)]).size ≤ 9223372036854775807 := by rw [strOfNums_size]; simp
      have z2 : (strOfNums l).size + ((⟨#[92, 117, 48, 48]⟩ : ByteArray) ++ strOfNums [bt hexS (Int.tdiv (bt s i) 16 % 256), bt hexS (Int.tmod (bt s i) 16)]).size ≤ 9223372036854775807 := by
        rw [ByteArray.size_append, strOfNums_size, strOfNums_size]; simp [ByteArray.size]; omega
      have z3 : ∀ R : ByteArray → Option ByteArray, (some ([bt hexS (Int.tdiv (bt s i) 16 % 256), bt hexS (Int.tmod (bt s i) 16)] : List Int)).bind (fun y => if 4 + (strOfNums y).size ≤ 9223372036854775807 then (if (strOfNums l).size + ((⟨#[92, 117, 48, 48]⟩ : ByteArray) ++ strOfNums y).size ≤ 9223372036854775807 then R (strOfNums l ++ ((⟨#[92, 117, 48, 48]⟩ : ByteArray) ++ strOfNums y)) else none) else none) = R (strOfNums (l ++ esc (bt s i))) := by
        intro R
        rw [Option.bind_some, if_pos z1, if_pos z2, hE, strOfNums_append, strOfNums_append]; rfl
      by_cases h32 : bt s i < 32
      · rw [if_pos h32, if_pos x0, if_pos x1, if_pos x2, if_pos x3]; exact z3 (fun y => spec_l02Quote.l0 k s y (i + 1))
      · rw [if_neg h32, if_pos (by omega), if_pos x0, if_pos x1, if_pos x2, if_pos x3]; exact z3 (fun y => spec_l02Quote.l0 k s y (i + 1))
    · rw [if_neg (fun h => hx (.inl h)), if_neg (fun h => hx (.inr h)), if_pos h0, if_pos (by omega), if_pos (by omega), e2, if_pos (by rw [strOfNums_size, strOfNums_size]; simp; omega)]
      rw [show esc (bt s i) = [bt s i] by unfold esc; rw [if_neg h34, if_neg hx], strOfNums_append]
theorem quote_impl_round (k : Nat) (s : ByteArray) (l : List Int) (i : Int) (h0 : 0 ≤ i) (h1 : i < s.size) (hs : s.size ≤ 1048576) (hl : l.length ≤ 100000000) :
    impl_quote.l0 (k + 2) s l s.size i = impl_quote.l0 k s (l ++ esc (bt s i)) s.size (i + 1) := by
  have hb := bt_range s i
  obtain ⟨x0, x1, x2, x3⟩ := quote_hex (bt s i) hb.1 hb.2
  rw [impl_quote.l0, if_pos h1, if_pos h0, if_pos h1]
  have hw : wrap64 (i + 1) = i + 1 := wr (by omega) (by omega)
  by_cases h34 : bt s i = 34 ∨ bt s i = 92
  · have hj : (if bt s i = 34 then impl_quote.j1 (k + 1) s l (bt s i) s.size i true else impl_quote.j1 (k + 1) s l (bt s i) s.size i (bt s i == 92)) = impl_quote.j1 (k + 1) s l (bt s i) s.size i true := by
      rcases h34 with h | h
      · rw [if_pos h]
      · rw [if_neg (by omega), h]; rfl
    rw [hj, impl_quote.j1, if_pos rfl, hw]
    simp only [Option.bind_some, List.length_cons, List.length_nil]
    rw [if_pos (by omega), show esc (bt s i) = [92, bt s i] by unfold esc; rw [if_pos h34]]
  · rw [if_neg (fun h => h34 (.inl h)), beq_eq_false_iff_ne.2 (fun h => h34 (.inr h)), impl_quote.j1, if_neg (by decide), hw, wr (by omega) (by omega)]
    unfold impl_within.f
    by_cases hx : bt s i < 32 ∨ bt s i > 126
    · have hE : esc (bt s i) = [92, 117, 48, 48, bt hexS (Int.tdiv (bt s i) 16 % 256), bt hexS (Int.tmod (bt s i) 16)] := by unfold esc; rw [if_neg h34, if_pos hx]
      have hF : (if 32 ≤ bt s i then some (decide (bt s i ≤ 126)) else some false) = some false := by
        rcases hx with h | h
        · rw [if_neg (by omega)]
        · rw [if_pos (by omega), decide_eq_false (by omega)]
      rw [hF]
      simp only [Option.bind_some, Bool.false_eq_true, if_false]
      rw [if_pos x0, if_pos x1, if_pos x2, if_pos x3]
      simp only [List.length_cons, List.length_nil]
      rw [if_pos (by omega), hE]
      rfl
    · rw [if_pos (by omega), decide_eq_true (by omega)]
      simp only [Option.bind_some, if_true]
      rw [if_pos (by omega), show esc (bt s i) = [bt s i] by unfold esc; rw [if_neg h34, if_neg hx]]
theorem quote_loops (s : ByteArray) (hs : s.size ≤ 1048576) (d : Nat) : ∀ (i : Int) (l : List Int), 0 ≤ i → i + d = s.size → l.length ≤ 1 + 6 * i →
    spec_l02Quote.l0 (2 * d + 1) s (strOfNums l) i = some (strOfNums (l ++ qbody s i d ++ [34])) ∧ impl_quote.l0 (2 * d + 1) s l s.size i = some (strOfNums (l ++ qbody s i d ++ [34])) := by
  induction d with
  | zero =>
    intro i l h0 h1 hl
    constructor
    · rw [spec_l02Quote.l0, if_neg (by omega), if_pos (by rw [strOfNums_size]; omega)]
      simp only [qbody, List.append_nil, strOfNums_append]
      rfl
    · rw [impl_quote.l0, if_neg (by omega), if_pos (by omega)]
      simp only [qbody, List.append_nil]
  | succ d ih =>
    intro i l h0 h1 hl
    have he := esc_length (bt s i)
    obtain ⟨z1, z2⟩ := ih (i + 1) (l ++ esc (bt s i)) (by omega) (by omega) (by rw [List.length_append]; omega)
    rw [show 2 * (d + 1) + 1 = (2 * d + 1) + 2 by omega, quote_spec_round _ s l i h0 (by omega) hs (by omega), quote_impl_round _ s l i h0 (by omega) hs (by omega), z1, z2]
    simp [qbody]
def quoteOf (s : ByteArray) : ByteArray := strOfNums ([34] ++ qbody s 0 s.size ++ [34])
theorem quoteOf_size (s : ByteArray) : (quoteOf s).size ≤ 6 * s.size + 2 := by
  have := qbody_length s s.size 0
  unfold quoteOf
  rw [strOfNums_size]
  simp
  omega
theorem quote_spec (s : ByteArray) (hs : s.size ≤ 1048576) : Ev (fun k => spec_l02Quote.f k s) (quoteOf s) := by
  refine Ev.of (spec_l02Quote.mono s) (k := 2 * s.size + 1) ?_
  exact (quote_loops s hs s.size 0 [34] (by omega) (by omega) (by simp)).1
theorem quote_impl (s : ByteArray) (hs : s.size ≤ 1048576) : Ev (fun k => impl_quote.f k s) (quoteOf s) := by
  refine Ev.of (impl_quote.mono s) (k := 2 * s.size + 1) ?_
  exact (quote_loops s hs s.size 0 [34] (by omega) (by omega) (by simp)).2

theorem FnExactQuoteText : laws_FnExactQuoteText.Pure := by
  intro a0 _
  refine Ev.rounds ?_
  unfold laws_FnExactQuoteText.f spec_QuoteText.f impl_QuoteText.f impl_long.f impl_unless.f
  by_cases h : (a0.size : Int) > 1048576
  · simp only [if_pos h]; exact Ev.now true
  · simp only [if_neg h]
    by_cases h2 : (a0.size : Int) > 65536
    · have h3 : ¬ ((a0.size : Int) ≤ 65536) := by omega
      simpa [h2, h3] using Ev.now true
    · have h3 : (a0.size : Int) ≤ 65536 := by omega
      simp only [if_neg h2, decide_eq_true h3, Option.bind_some, if_true]
      refine Ev.bind (Ev.bind (quote_spec a0 (by omega)) (Ev.now _)) (Ev.bind (Ev.bind (quote_impl a0 (by omega)) (Ev.now _)) ?_)
      simpa using Ev.now true

end Go.Proofs.Ytgjeefjmcmionaa.Pure
