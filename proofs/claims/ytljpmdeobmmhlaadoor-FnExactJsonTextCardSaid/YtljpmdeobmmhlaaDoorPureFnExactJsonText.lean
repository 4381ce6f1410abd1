/- The program's JsonText answers as the reference's at every value; no condition. -/
import Derived.Test.YtljpmdeobmmhlaaDoorQFnExactJsonTextx9
import Derived.Lib.ItoaLen
import Derived.Lib.Join
set_option linter.unusedVariables false
set_option linter.unusedSimpArgs false
namespace Go.Proofs.YtljpmdeobmmhlaaDoor.Pure
open Go.RowKit Go.Proofs.YtljpmdeobmmhlaaDoor.QFnExactJsonText Go.Proofs.YtljpmdeobmmhlaaDoorW.PrintWords Go.Proofs.YtljpmdeobmmhlaaDoorW.PrintLast

open impl_Json_valid in
theorem vJ_low (x : S31) (dp : Int) (hdp : dp ≠ 0) (a b : Bool) (h : hd x.f0 x.f1 x.f2 x.f3.length x.f4.length dp = some (a, b, (x.f3.length : Int) == 0, (x.f4.length : Int) == 0)) :
    vJ x dp = (a && b && (((x.f3.length : Int) == 0) && ((x.f4.length : Int) == 0))) := by
  rw [vJ_eq, if_neg hdp]
  simp only [top, h]
  rcases x with ⟨k, n, t, ns, xs⟩
  cases ns with
  | nil =>
    cases xs with
    | nil => cases a <;> cases b <;> simp [nmF, vL]
    | cons y ys =>
      have e : (((y :: ys : List S31).length : Int) == 0) = false := by simp; omega
      simp only [e]; cases a <;> cases b <;> simp
  | cons z zs =>
    have e : (((z :: zs : List ByteArray).length : Int) == 0) = false := by simp; omega
    simp only [e]; cases a <;> cases b <;> simp
theorem has_l0 (l : List ByteArray) (v : ByteArray) (hl : l.length ≤ 9223372036854775807) : ∀ (d n k : Nat), n + d = l.length → d + 1 ≤ k → spec_l01Has.l0 k l v (n : Int) = some ((l.drop n).any (fun s => decide (v.toList = s.toList))) := by
  intro d
  induction d with
  | zero =>
    intro n k h hk
    obtain ⟨k, rfl⟩ : ∃ q, k = q + 1 := ⟨k - 1, by omega⟩
    rw [spec_l01Has.l0, if_neg (by omega), List.drop_eq_nil_of_le (by omega)]; rfl
  | succ d ih =>
    intro n k h hk
    obtain ⟨k, rfl⟩ : ∃ q, k = q + 1 := ⟨k - 1, by omega⟩
    have hn : n < l.length := by omega
    have e : rdOf ByteArray.empty l (n : Int) = l[n] := by simp [rdOf, List.getD, hn]
    rw [spec_l01Has.l0, if_pos (by omega), if_pos (by omega), List.drop_eq_getElem_cons hn, e, List.any_cons]
    by_cases hq : l[n].toList = v.toList
    · rw [if_pos hq]; simp [hq]
    · rw [if_neg hq, show wrap64 ((n : Int) + 1) = ((n + 1 : Nat) : Int) from by unfold wrap64; omega, ih (n + 1) k (by omega) (by omega)]
      have : ¬ v.toList = l[n].toList := fun h => hq h.symm
      simp [this]
theorem has_is (l : List ByteArray) (v : ByteArray) (hl : l.length ≤ 9223372036854775807) (k : Nat) (hk : l.length + 1 ≤ k) : spec_l01Has.f k l v = some (l.any (fun s => decide (v.toList = s.toList))) := by
  rw [spec_l01Has.f]
  have := has_l0 l v hl l.length 0 k (by omega) hk
  rw [List.drop_zero] at this
  exact this
theorem unif {P : Nat → Nat → Prop} : ∀ n, (∀ i, i < n → ∃ K, ∀ k, K ≤ k → P i k) → ∃ K, ∀ i, i < n → ∀ k, K ≤ k → P i k := by
  intro n
  induction n with
  | zero => intro _; exact ⟨0, fun i h => by omega⟩
  | succ n ih =>
    intro h
    obtain ⟨K1, h1⟩ := ih (fun i hi => h i (by omega))
    obtain ⟨K2, h2⟩ := h n (by omega)
    refine ⟨max K1 K2, fun i hi k hk => ?_⟩
    rcases Nat.lt_succ_iff_lt_or_eq.1 hi with hi | rfl
    · exact h1 i hi k (by omega)
    · exact h2 k (by omega)
open impl_Json_valid in
theorem spec_loop (k0 n0 : Int) (t : ByteArray) (ns : List ByteArray) (xs : List S31) (dp : Int) (K : Nat) (hx : xs.length ≤ 12) (hns : k0 = 6 → ns.length = xs.length)
    (hK : ∀ i, i < xs.length → ∀ k, K ≤ k → spec_l02OK.f k (rd_T31 xs (i : Int)).f0 (rd_T31 xs (i : Int)).f1 (rd_T31 xs (i : Int)).f2 (rd_T31 xs (i : Int)).f3 (rd_T31 xs (i : Int)).f4 (wrap64 (dp - 1)) = some (vJ (rd_T31 xs (i : Int)) (wrap64 (dp - 1)))) :
    ∀ (d n k : Nat), n + d = xs.length → K + 20 + d ≤ k → spec_l02OK.l0 k dp (n : Int) k0 n0 t ns xs = some ((if k0 = 6 then nmF ns d n else true) && vL (xs.drop n) (wrap64 (dp - 1))) := by
  intro d
  induction d with
  | zero =>
    intro n k h hk
    obtain ⟨k, rfl⟩ : ∃ q, k = q + 1 := ⟨k - 1, by omega⟩
    rw [spec_l02OK.l0, if_neg (by omega), List.drop_eq_nil_of_le (by omega), nmF, vL]; simp
  | succ d ih =>
    intro n k h hk
    obtain ⟨k, rfl⟩ : ∃ q, k = q + 1 := ⟨k - 1, by omega⟩
    have hn : n < xs.length := by omega
    have e : rd_T31 xs (n : Int) = xs[n] := by simp [rd_T31, List.getD, hn]
    have hw : wrap64 ((n : Int) + 1) = ((n + 1 : Nat) : Int) := by unfold wrap64; omega
    rw [spec_l02OK.l0, if_pos (by omega), if_pos (by omega), hK n hn k (by omega), Option.bind_some, List.drop_eq_getElem_cons hn, vL, e]
    cases hv : vJ xs[n] (wrap64 (dp - 1)) with
    | false => rw [if_neg Bool.false_ne_true]; simp
    | true =>
      rw [if_pos rfl, hw, ih (n + 1) k (by omega) (by omega), Bool.true_and]
      by_cases h6 : k0 = 6
      · have hl := hns h6
        rw [if_pos h6, if_pos h6, if_pos h6, if_pos (by omega), nmF]
        by_cases hs : ((rdOf ByteArray.empty ns (n : Int)).size : Int) > 120
        · rw [if_pos hs, if_pos (by omega)]; simp
        · rw [if_neg (show ¬ (120 < ((rdOf ByteArray.empty ns (n : Int)).size : Int)) from hs), if_neg hs, if_pos (show (n : Int) ≤ (ns.length : Int) by omega), Int.toNat_natCast, has_is _ _ (by rw [List.length_take]; omega) k (by rw [List.length_take]; omega), Option.bind_some]
          split
          · simp
          · rfl
      · rw [if_neg h6, if_neg h6, if_neg h6]
open impl_Json_valid in
theorem spec_is_of (x : S31) (dp : Int) (h1 : 1 ≤ dp) (h5 : dp ≤ 5) (ih : 2 ≤ dp → ∃ K, ∀ i, i < x.f4.length → ∀ k, K ≤ k → spec_l02OK.f k (rd_T31 x.f4 (i : Int)).f0 (rd_T31 x.f4 (i : Int)).f1 (rd_T31 x.f4 (i : Int)).f2 (rd_T31 x.f4 (i : Int)).f3 (rd_T31 x.f4 (i : Int)).f4 (wrap64 (dp - 1)) = some (vJ (rd_T31 x.f4 (i : Int)) (wrap64 (dp - 1)))) :
    ∃ K, ∀ k, K ≤ k → spec_l02OK.f k x.f0 x.f1 x.f2 x.f3 x.f4 dp = some (vJ x dp) := by
  have hdp : dp ≠ 0 := by omega
  have hin : ∀ a lo hi : Int, spec_l01In.f a lo hi = some (decide (lo ≤ a) && decide (a ≤ hi)) := by
    intro a lo hi; rw [spec_l01In.f]
    by_cases h : a ≥ lo
    · rw [if_pos h, decide_eq_true (by omega : lo ≤ a)]; rfl
    · rw [if_neg h, decide_eq_false (by omega : ¬ lo ≤ a)]; rfl
  have hemp : ∀ t : ByteArray, (t.toList = ([] : List UInt8)) ↔ t.toList.isEmpty = true := fun t => by simp
  have hstart : ∀ k, spec_l02OK.f (k + 1) x.f0 x.f1 x.f2 x.f3 x.f4 dp = spec_l02OK.j0 k dp (((x.f3.length : Int) == 0) && ((x.f4.length : Int) == 0)) x.f0 x.f1 x.f2 x.f3 x.f4 := by
    intro k; rw [spec_l02OK.f]
    by_cases h : (x.f3.length : Int) = 0
    · rw [if_pos h]; simp [h]
    · rw [if_neg h]; simp only [beq_eq_false_iff_ne.mpr h, Bool.false_and]
  by_cases c1 : x.f0 = 1
  · refine ⟨2, fun k hk => ?_⟩
    obtain ⟨k, rfl⟩ : ∃ q, k = q + 2 := ⟨k - 2, by omega⟩
    rw [hstart, spec_l02OK.j0, if_pos c1, vJ_low x dp hdp (x.f1 == 0) x.f2.toList.isEmpty (by rw [hd, if_pos c1])]
    by_cases a : x.f1 = 0
    · by_cases b : x.f2.toList = []
      · rw [if_pos a, if_pos b]; simp [a, b]
      · rw [if_pos a, if_neg b]; simp [b]
    · rw [if_neg a]; simp [a]
  by_cases c2 : x.f0 = 2
  · refine ⟨2, fun k hk => ?_⟩
    obtain ⟨k, rfl⟩ : ∃ q, k = q + 2 := ⟨k - 2, by omega⟩
    rw [hstart, spec_l02OK.j0, if_neg c1, if_pos c2, vJ_low x dp hdp (decide (0 ≤ x.f1) && decide (x.f1 ≤ 1)) x.f2.toList.isEmpty (by rw [hd, if_neg c1, if_pos c2]), hin, Option.bind_some]
    cases decide (0 ≤ x.f1) && decide (x.f1 ≤ 1)
    · simp
    · by_cases b : x.f2.toList = []
      · rw [if_pos rfl, if_pos b]; simp [b]
      · rw [if_pos rfl, if_neg b]; simp [b]
  by_cases c3 : x.f0 = 3
  · refine ⟨2, fun k hk => ?_⟩
    obtain ⟨k, rfl⟩ : ∃ q, k = q + 2 := ⟨k - 2, by omega⟩
    rw [hstart, spec_l02OK.j0, if_neg c1, if_neg c2, if_pos c3, vJ_low x dp hdp (decide (-999999999 ≤ x.f1) && decide (x.f1 ≤ 999999999)) x.f2.toList.isEmpty (by rw [hd, if_neg c1, if_neg c2, if_pos c3]), hin, Option.bind_some]
    cases decide (-999999999 ≤ x.f1) && decide (x.f1 ≤ 999999999)
    · simp
    · by_cases b : x.f2.toList = []
      · rw [if_pos rfl, if_pos b]; simp [b]
      · rw [if_pos rfl, if_neg b]; simp [b]
  by_cases c4 : x.f0 = 4
  · refine ⟨2, fun k hk => ?_⟩
    obtain ⟨k, rfl⟩ : ∃ q, k = q + 2 := ⟨k - 2, by omega⟩
    rw [hstart, spec_l02OK.j0, if_neg c1, if_neg c2, if_neg c3, if_pos c4, vJ_low x dp hdp (x.f1 == 0) (decide ((x.f2.size : Int) ≤ 120)) (by rw [hd, if_neg c1, if_neg c2, if_neg c3, if_pos c4])]
    by_cases a : x.f1 = 0
    · by_cases b : (x.f2.size : Int) ≤ 120
      · rw [if_pos a, if_pos b, decide_eq_true b]; simp [a]
      · rw [if_pos a, if_neg b, decide_eq_false b]; simp
    · rw [if_neg a]; simp [a]
  have hj1F : ∀ k, spec_l02OK.j1 (k + 1) dp true x.f0 x.f1 x.f2 x.f3 x.f4 = some false := fun k => by rw [spec_l02OK.j1, if_pos rfl]
  have hj1T : ∀ k, spec_l02OK.j1 (k + 1) dp false x.f0 x.f1 x.f2 x.f3 x.f4 = spec_l02OK.l0 k dp 0 x.f0 x.f1 x.f2 x.f3 x.f4 := fun k => by rw [spec_l02OK.j1, if_neg Bool.false_ne_true]
  have hV : vJ x dp = if top x.f0 x.f1 x.f2 x.f3 x.f4.length dp = true then vL x.f4 (wrap64 (dp - 1)) else false := by rw [vJ_eq, if_neg hdp]
  have hloop : 2 ≤ dp → x.f4.length ≤ 12 → (x.f0 = 6 → x.f3.length = x.f4.length) → ∃ K, ∀ k, K ≤ k → spec_l02OK.l0 k dp 0 x.f0 x.f1 x.f2 x.f3 x.f4 = some ((if x.f0 = 6 then nmF x.f3 x.f4.length 0 else true) && vL x.f4 (wrap64 (dp - 1))) := by
    intro h2 hl hn
    obtain ⟨K, hK⟩ := ih h2
    exact ⟨K + 20 + x.f4.length, fun k hk => by have := spec_loop x.f0 x.f1 x.f2 x.f3 x.f4 dp K hl hn hK x.f4.length 0 k (by omega) hk; rwa [List.drop_zero] at this⟩
  by_cases c5 : x.f0 = 5
  · have ht : top x.f0 x.f1 x.f2 x.f3 x.f4.length dp = (((x.f1 == 0) && x.f2.toList.isEmpty && ((x.f3.length : Int) == 0) && (decide ((x.f4.length : Int) ≤ 12) && decide (1 < dp)))) := by
      have hh : hd x.f0 x.f1 x.f2 x.f3.length x.f4.length dp = some (x.f1 == 0, x.f2.toList.isEmpty, (x.f3.length : Int) == 0, decide ((x.f4.length : Int) ≤ 12) && decide (1 < dp)) := by rw [hd, if_neg c1, if_neg c2, if_neg c3, if_neg c4, if_pos c5]
      simp only [top, hh]
      split
      · rename_i hq; rw [hq]
        have : x.f3 = [] := by
          simp only [Bool.and_eq_true, beq_iff_eq] at hq
          exact List.eq_nil_of_length_eq_zero (by omega)
        rw [this]; rfl
      · rename_i hq; exact (Bool.eq_false_iff.mpr hq).symm
    rw [hV, ht]
    have hj0 : ∀ k, spec_l02OK.j0 (k + 1) dp (((x.f3.length : Int) == 0) && ((x.f4.length : Int) == 0)) x.f0 x.f1 x.f2 x.f3 x.f4 = if x.f1 = 0 then (if x.f2.toList = ([] : List UInt8) then (if dp = 1 then spec_l02OK.j1 k dp true x.f0 x.f1 x.f2 x.f3 x.f4 else if (x.f4.length : Int) > 12 then spec_l02OK.j1 k dp true x.f0 x.f1 x.f2 x.f3 x.f4 else if (x.f3.length : Int) > 0 then spec_l02OK.j1 k dp true x.f0 x.f1 x.f2 x.f3 x.f4 else spec_l02OK.j1 k dp false x.f0 x.f1 x.f2 x.f3 x.f4) else spec_l02OK.j1 k dp true x.f0 x.f1 x.f2 x.f3 x.f4) else spec_l02OK.j1 k dp true x.f0 x.f1 x.f2 x.f3 x.f4 := by
      intro k; rw [spec_l02OK.j0, if_neg c1, if_neg c2, if_neg c3, if_neg c4, if_pos c5, if_neg (by omega : ¬ x.f0 = 6)]
    by_cases hg : x.f1 = 0 ∧ x.f2.toList = [] ∧ dp ≠ 1 ∧ (x.f4.length : Int) ≤ 12 ∧ (x.f3.length : Int) = 0
    · obtain ⟨g1, g2, g3, g4, g5⟩ := hg
      obtain ⟨K, hK⟩ := hloop (by omega) (by omega) (by omega)
      refine ⟨K + 3, fun k hk => ?_⟩
      obtain ⟨k, rfl⟩ : ∃ q, k = q + 3 := ⟨k - 3, by omega⟩
      rw [hstart, hj0, if_pos g1, if_pos g2, if_neg g3, if_neg (by omega), if_neg (by omega), hj1T, hK k (by omega), if_neg (by omega : ¬ x.f0 = 6), g5, decide_eq_true g4, decide_eq_true (by omega : 1 < dp)]
      simp [g1, g2]
    · refine ⟨3, fun k hk => ?_⟩
      obtain ⟨k, rfl⟩ : ∃ q, k = q + 3 := ⟨k - 3, by omega⟩
      have hr : spec_l02OK.j0 (k + 2) dp (((x.f3.length : Int) == 0) && ((x.f4.length : Int) == 0)) x.f0 x.f1 x.f2 x.f3 x.f4 = some false := by
        rw [hj0]
        by_cases g1 : x.f1 = 0
        · by_cases g2 : x.f2.toList = []
          · rw [if_pos g1, if_pos g2]
            by_cases g3 : dp = 1
            · rw [if_pos g3, hj1F]
            · rw [if_neg g3]
              by_cases g4 : (x.f4.length : Int) > 12
              · rw [if_pos g4, hj1F]
              · rw [if_neg g4]
                by_cases g5 : (x.f3.length : Int) > 0
                · rw [if_pos g5, hj1F]
                · exact absurd ⟨g1, g2, g3, by omega, by omega⟩ hg
          · rw [if_pos g1, if_neg g2, hj1F]
        · rw [if_neg g1, hj1F]
      rw [hstart, hr]
      have hf : ¬ ((((x.f1 == 0) && x.f2.toList.isEmpty && ((x.f3.length : Int) == 0) && (decide ((x.f4.length : Int) ≤ 12) && decide (1 < dp)))) = true) := by
        intro hq
        simp only [Bool.and_eq_true, beq_iff_eq, decide_eq_true_eq, List.isEmpty_iff] at hq
        exact hg ⟨hq.1.1.1, hq.1.1.2, by omega, hq.2.1, hq.1.2⟩
      rw [if_neg hf]
  by_cases c6 : x.f0 = 6
  · have hh : hd x.f0 x.f1 x.f2 x.f3.length x.f4.length dp = some (x.f1 == 0, x.f2.toList.isEmpty, (decide ((x.f4.length : Int) ≤ 12) && decide (1 < dp)) && (x.f3.length : Int) == (x.f4.length : Int), decide ((x.f4.length : Int) ≤ 12) && decide (1 < dp)) := by rw [hd, if_neg c1, if_neg c2, if_neg c3, if_neg c4, if_neg c5, if_pos c6]
    have hj0 : ∀ k, spec_l02OK.j0 (k + 1) dp (((x.f3.length : Int) == 0) && ((x.f4.length : Int) == 0)) x.f0 x.f1 x.f2 x.f3 x.f4 = if x.f1 = 0 then (if x.f2.toList = ([] : List UInt8) then (if dp = 1 then spec_l02OK.j1 k dp true x.f0 x.f1 x.f2 x.f3 x.f4 else if (x.f4.length : Int) > 12 then spec_l02OK.j1 k dp true x.f0 x.f1 x.f2 x.f3 x.f4 else spec_l02OK.j1 k dp ((x.f3.length : Int) != (x.f4.length : Int)) x.f0 x.f1 x.f2 x.f3 x.f4) else spec_l02OK.j1 k dp true x.f0 x.f1 x.f2 x.f3 x.f4) else spec_l02OK.j1 k dp true x.f0 x.f1 x.f2 x.f3 x.f4 := by
      intro k; rw [spec_l02OK.j0, if_neg c1, if_neg c2, if_neg c3, if_neg c4, if_neg c5, if_pos c6]
    by_cases hg : x.f1 = 0 ∧ x.f2.toList = [] ∧ dp ≠ 1 ∧ (x.f4.length : Int) ≤ 12 ∧ (x.f3.length : Int) = (x.f4.length : Int)
    · obtain ⟨g1, g2, g3, g4, g5⟩ := hg
      have ht : top x.f0 x.f1 x.f2 x.f3 x.f4.length dp = nmF x.f3 x.f3.length 0 := topT hh (by simp [g1, g2, g5]; omega)
      rw [hV, ht]
      obtain ⟨K, hK⟩ := hloop (by omega) (by omega) (by omega)
      refine ⟨K + 3, fun k hk => ?_⟩
      obtain ⟨k, rfl⟩ : ∃ q, k = q + 3 := ⟨k - 3, by omega⟩
      have gn : ((x.f3.length : Int) != (x.f4.length : Int)) = false := by simp [g5]
      have gl : x.f3.length = x.f4.length := by omega
      rw [hstart, hj0, if_pos g1, if_pos g2, if_neg g3, if_neg (by omega), gn, hj1T, hK k (by omega), if_pos c6, gl]
      cases nmF x.f3 x.f4.length 0 <;> simp
    · refine ⟨3, fun k hk => ?_⟩
      obtain ⟨k, rfl⟩ : ∃ q, k = q + 3 := ⟨k - 3, by omega⟩
      have hr : spec_l02OK.j0 (k + 2) dp (((x.f3.length : Int) == 0) && ((x.f4.length : Int) == 0)) x.f0 x.f1 x.f2 x.f3 x.f4 = some false := by
        rw [hj0]
        by_cases g1 : x.f1 = 0
        · by_cases g2 : x.f2.toList = []
          · rw [if_pos g1, if_pos g2]
            by_cases g3 : dp = 1
            · rw [if_pos g3, hj1F]
            · rw [if_neg g3]
              by_cases g4 : (x.f4.length : Int) > 12
              · rw [if_pos g4, hj1F]
              · rw [if_neg g4]
                by_cases g5 : (x.f3.length : Int) = (x.f4.length : Int)
                · exact absurd ⟨g1, g2, g3, by omega, g5⟩ hg
                · rw [bne_iff_ne.mpr g5, hj1F]
          · rw [if_pos g1, if_neg g2, hj1F]
        · rw [if_neg g1, hj1F]
      have hf : ((x.f1 == 0) && x.f2.toList.isEmpty && ((decide ((x.f4.length : Int) ≤ 12) && decide (1 < dp)) && (x.f3.length : Int) == (x.f4.length : Int)) && (decide ((x.f4.length : Int) ≤ 12) && decide (1 < dp))) = false := by
        apply Bool.eq_false_iff.mpr
        intro hq
        simp only [Bool.and_eq_true, beq_iff_eq, decide_eq_true_eq, List.isEmpty_iff] at hq
        exact hg ⟨hq.1.1.1, hq.1.1.2, by omega, hq.2.1, hq.1.2.2⟩
      rw [hstart, hr, hV, topF hh hf, if_neg Bool.false_ne_true]
  · refine ⟨3, fun k hk => ?_⟩
    obtain ⟨k, rfl⟩ : ∃ q, k = q + 3 := ⟨k - 3, by omega⟩
    have hN : hd x.f0 x.f1 x.f2 x.f3.length x.f4.length dp = none := by rw [hd, if_neg c1, if_neg c2, if_neg c3, if_neg c4, if_neg c5, if_neg c6]
    have hT : top x.f0 x.f1 x.f2 x.f3 x.f4.length dp = false := by simp only [top, hN]
    rw [hstart, spec_l02OK.j0, if_neg c1, if_neg c2, if_neg c3, if_neg c4, if_neg c5, if_neg c6, hj1F, hV, hT, if_neg Bool.false_ne_true]
open impl_Json_valid in
theorem spec_is (x : S31) (dp : Int) (h1 : 1 ≤ dp) (h5 : dp ≤ 5) : ∃ K, ∀ k, K ≤ k → spec_l02OK.f k x.f0 x.f1 x.f2 x.f3 x.f4 dp = some (vJ x dp) := by
  have : ∀ n : Nat, ∀ x : S31, SizeOf.sizeOf x < n → ∀ dp : Int, 1 ≤ dp → dp ≤ 5 → ∃ K, ∀ k, K ≤ k → spec_l02OK.f k x.f0 x.f1 x.f2 x.f3 x.f4 dp = some (vJ x dp) := by
    intro n
    induction n with
    | zero => intro x h; omega
    | succ n ih =>
      intro x h dp h1 h5
      refine spec_is_of x dp h1 h5 fun h2 => unif _ fun i hi => ?_
      have hm : rd_T31 x.f4 (i : Int) ∈ x.f4 := by simp [rd_T31, List.getD, hi]
      have e1 := List.sizeOf_lt_of_mem hm
      have e2 : SizeOf.sizeOf x = 1 + SizeOf.sizeOf x.f0 + SizeOf.sizeOf x.f1 + SizeOf.sizeOf x.f2 + SizeOf.sizeOf x.f3 + SizeOf.sizeOf x.f4 := by cases x; simp
      have ew : wrap64 (dp - 1) = dp - 1 := by unfold wrap64; omega
      exact ih _ (by omega) _ (by omega) (by omega)
  exact this _ x (Nat.lt_succ_self _) dp h1 h5
open laws_szJson laws_toJson in
theorem szL_ok : ∀ (l : List ByteArray) (a : Int), (∀ y, y ∈ l → y.size ≤ 9223372036854775807) → 0 ≤ a → a ≤ 1048576 → szL l a ≤ a
  | [], a, _, _, _ => Int.le_refl _
  | t :: ts, a, h, h0, h1 => by
    have ht := h t (List.mem_cons_self ..)
    have e : wrap64 (a - (t.size : Int)) = a - (t.size : Int) := by unfold wrap64; omega
    rw [szL, e]
    split
    · omega
    · have := szL_ok ts (a - (t.size : Int)) (fun y hy => h y (List.mem_cons_of_mem _ hy)) (by omega) (by omega)
      omega
open laws_szJson laws_toJson in
mutual
theorem szJ_ok : ∀ (x : S25) (a : Int), ok25 x → 0 ≤ a → a ≤ 1048576 → 0 ≤ szJ x a → okJ x = true ∧ szJ x a ≤ a
  | ⟨k, n, t, ns, xs⟩, a, hx, h0, h1, h2 => by
    cases hx with
    | mk _ w0 w1 s2 s3 s4 s5 =>
    simp only at s2 s3 s4 s5
    have e : wrap64 (a - (t.size : Int)) = a - (t.size : Int) := by unfold wrap64; omega
    rw [szJ_eq] at h2 ⊢
    simp only [e] at h2 ⊢
    by_cases c1 : a - (t.size : Int) < 0
    · rw [if_pos c1] at h2; omega
    rw [if_neg c1] at h2 ⊢
    have eS : wrap64 (a - (t.size : Int) - (ns.length : Int)) = a - (t.size : Int) - (ns.length : Int) := by unfold wrap64; omega
    by_cases c2 : szS ns (a - (t.size : Int)) < 0
    · rw [if_pos c2] at h2; omega
    rw [if_neg c2] at h2 ⊢
    have hS : szS ns (a - (t.size : Int)) ≤ a ∧ ns.length ≤ 1048576 := by
      rw [szS, eS] at c2 ⊢
      split at c2
      · omega
      · rename_i q
        rw [if_neg q]
        have := szL_ok ns (a - (t.size : Int) - (ns.length : Int)) s3.2 (by omega) (by omega)
        omega
    generalize szS ns (a - (t.size : Int)) = b at h2 c2 hS ⊢
    by_cases c3 : szJS xs b < 0
    · rw [if_pos c3] at h2; omega
    rw [if_neg c3] at h2 ⊢
    have eJ : wrap64 (b - (xs.length : Int)) = b - (xs.length : Int) := by unfold wrap64; omega
    rw [szJS, eJ] at h2 ⊢
    by_cases c4 : b - (xs.length : Int) < 0
    · rw [if_pos c4] at h2; omega
    rw [if_neg c4] at h2 ⊢
    have hJ := szJL_ok xs (b - (xs.length : Int)) s5 (by omega) (by omega) h2
    refine ⟨?_, by omega⟩
    rw [okJ, hJ.1, decide_eq_true hS.2, decide_eq_true (by omega : xs.length ≤ 1048576)]; rfl
theorem szJL_ok : ∀ (l : List S25) (a : Int), (∀ y, y ∈ l → ok25 y) → 0 ≤ a → a ≤ 1048576 → 0 ≤ szJL l a → okJL l = true ∧ szJL l a ≤ a
  | [], a, _, _, _, h2 => by rw [okJL, szJL]; exact ⟨rfl, Int.le_refl _⟩
  | x :: xs, a, h, h0, h1, h2 => by
    rw [szJL] at h2 ⊢
    by_cases c : szJ x a < 0
    · rw [if_pos c] at h2; omega
    rw [if_neg c] at h2 ⊢
    have h3 := szJ_ok x a (h x (List.mem_cons_self ..)) h0 h1 (by omega)
    have h4 := szJL_ok xs (szJ x a) (fun y hy => h y (List.mem_cons_of_mem _ hy)) (by omega) (by omega) h2
    refine ⟨?_, by omega⟩
    rw [okJL, h3.1, h4.1]; rfl
end
mutual
theorem eqJ_self : ∀ x : S31, laws_eqJson.eqJ x x = true
  | ⟨k, n, t, ns, xs⟩ => by rw [laws_eqJson.eqJ, eqJL_self xs]; simp
theorem eqJL_self : ∀ l : List S31, laws_eqJson.eqJL l l = true
  | [] => by rw [laws_eqJson.eqJL]
  | x :: xs => by rw [laws_eqJson.eqJL, eqJ_self x, eqJL_self xs]; rfl
end

theorem wr {x : Int} (h0 : -9223372036854775808 ≤ x) (h1 : x ≤ 9223372036854775807) : wrap64 x = x := by unfold wrap64; omega

theorem strOfNums_append (a b : List Int) : strOfNums (a ++ b) = strOfNums a ++ strOfNums b := by
  apply ByteArray.ext
  rw [ByteArray.data_append]
  apply Array.toList_inj.1
  simp [strOfNums]
theorem strOfNums_size (a : List Int) : (strOfNums a).size = a.length := by
  simp [strOfNums, ByteArray.size]
theorem bt_lt (s : ByteArray) (i : Int) (h : i.toNat < s.size) : bt s i = ((s[i.toNat]'h).toNat : Int) := by simp [bt, h]
theorem extract_one (s : ByteArray) (i : Int) (h0 : 0 ≤ i) (h1 : i < s.size) : s.extract i.toNat (i + 1).toNat = strOfNums [bt s i] := by
  have hl : i.toNat < s.size := by omega
  apply ByteArray.ext
  apply Array.toList_inj.1
  rw [ByteArray.data_extract, Array.toList_extract, List.extract_eq_take_drop, show (i + 1).toNat - i.toNat = 1 by omega]
  have hl' : i.toNat < s.data.toList.length := by simpa using hl
  rw [List.drop_eq_getElem_cons hl', List.take_succ_cons, List.take_zero, bt_lt s i hl]
  simp [strOfNums]
  rfl

def hexS : ByteArray := ⟨#[48, 49, 50, 51, 52, 53, 54, 55, 56, 57, 97, 98, 99, 100, 101, 102]⟩
/-- What stands for a byte between quotation marks. -/
def esc (c : Int) : List Int := if c = 34 ∨ c = 92 then [92, c] else if c < 32 ∨ c > 126 then [92, 117, 48, 48, bt hexS (Int.tdiv c 16 % 256), bt hexS (Int.tmod c 16)] else [c]
theorem esc_length (c : Int) : (esc c).length ≤ 6 := by unfold esc; split <;> (try split) <;> simp
def qbody (s : ByteArray) : Int → Nat → List Int
  | _, 0 => []
  | i, d + 1 => esc (bt s i) ++ qbody s (i + 1) d
theorem qbody_length (s : ByteArray) (d : Nat) : ∀ i, (qbody s i d).length ≤ 6 * d := by
  induction d with
  | zero => intro i; simp [qbody]
  | succ d ih => intro i; have := ih (i + 1); have := esc_length (bt s i); simp only [qbody, List.length_append]; omega
theorem quote_hex (c : Int) (h0 : 0 ≤ c) (h1 : c ≤ 255) : 0 ≤ Int.tdiv c 16 % 256 ∧ Int.tdiv c 16 % 256 < 16 ∧ 0 ≤ Int.tmod c 16 ∧ Int.tmod c 16 < 16 := by
  rw [Int.tdiv_eq_ediv_of_nonneg h0, Int.tmod_eq_emod_of_nonneg h0]
  omega
theorem quote_spec_round (k : Nat) (s : ByteArray) (l : List Int) (i : Int) (h0 : 0 ≤ i) (h1 : i < s.size) (hs : s.size ≤ 1048576) (hl : l.length ≤ 100000000) :
    spec_l02Quote.l0 (k + 2) s (strOfNums l) i = spec_l02Quote.l0 k s (strOfNums (l ++ esc (bt s i))) (i + 1) := by
  have hb := bt_range s i
  obtain ⟨x0, x1, x2, x3⟩ := quote_hex (bt s i) hb.1 hb.2
  rw [spec_l02Quote.l0, if_pos h1, if_pos h0]
  have e2 := extract_one s i h0 h1
  have hw : wrap64 (i + 1) = i + 1 := wr (by omega) (by omega)
  by_cases h34 : bt s i = 34 ∨ bt s i = 92
  · have hj : (if bt s i = 34 then spec_l02Quote.j1 (k + 1) s (strOfNums l) i (bt s i) true else spec_l02Quote.j1 (k + 1) s (strOfNums l) i (bt s i) (bt s i == 92)) = spec_l02Quote.j1 (k + 1) s (strOfNums l) i (bt s i) true := by
      rcases h34 with h | h
      · rw [if_pos h]
      · rw [if_neg (by omega), h]; rfl
    rw [hj, spec_l02Quote.j1, if_pos rfl, hw, if_pos h0, if_pos (by omega), if_pos (by omega), e2, if_pos (by rw [strOfNums_size]; simp), if_pos (by rw [ByteArray.size_append, strOfNums_size, strOfNums_size]; simp [ByteArray.size]; omega)]
    rw [show esc (bt s i) = [92] ++ [bt s i] by unfold esc; rw [if_pos h34]; rfl, strOfNums_append, strOfNums_append]
    rfl
  · rw [if_neg (fun h => h34 (.inl h)), beq_eq_false_iff_ne.2 (fun h => h34 (.inr h)), spec_l02Quote.j1, if_neg (by decide), hw]
    by_cases hx : bt s i < 32 ∨ bt s i > 126
    · have hE : esc (bt s i) = [92, 117, 48, 48] ++ [bt hexS (Int.tdiv (bt s i) 16 % 256), bt hexS (Int.tmod (bt s i) 16)] := by unfold esc; rw [if_neg h34, if_pos hx]; rfl
      have z1 : 4 + (strOfNums [bt hexS (Int.tdiv (bt s i) 16 % 256), bt hexS (Int.tmod (bt s i) 16)]).size ≤ 9223372036854775807 := by rw [strOfNums_size]; simp
      have z2 : (strOfNums l).size + ((⟨#[92, 117, 48, 48]⟩ : ByteArray) ++ strOfNums [bt hexS (Int.tdiv (bt s i) 16 % 256), bt hexS (Int.tmod (bt s i) 16)]).size ≤ 9223372036854775807 := by
        rw [ByteArray.size_append, strOfNums_size, strOfNums_size]; simp [ByteArray.size]; omega
      have z3 : ∀ R : ByteArray → Option ByteArray, (some ([bt hexS (Int.tdiv (bt s i) 16 % 256), bt hexS (Int.tmod (bt s i) 16)] : List Int)).bind (fun y => if 4 + (strOfNums y).size ≤ 9223372036854775807 then (if (strOfNums l).size + ((⟨#[92, 117, 48, 48]⟩ : ByteArray) ++ strOfNums y).size ≤ 9223372036854775807 then R (strOfNums l ++ ((⟨#[92, 117, 48, 48]⟩ : ByteArray) ++ strOfNums y)) else none) else none) = R (strOfNums (l ++ esc (bt s i))) := by
        intro R
        rw [Option.bind_some, if_pos z1, if_pos z2, hE, strOfNums_append, strOfNums_append]; rfl
      by_cases h32 : bt s i < 32
      · rw [if_pos h32, if_pos x0, if_pos x1, if_pos x2, if_pos x3]; exact z3 (fun y => spec_l02Quote.l0 k s y (i + 1))
      · rw [if_neg h32, if_pos (by omega), if_pos x0, if_pos x1, if_pos x2, if_pos x3]; exact z3 (fun y => spec_l02Quote.l0 k s y (i + 1))
    · rw [if_neg (fun h => hx (.inl h)), if_neg (fun h => hx (.inr h)), if_pos h0, if_pos (by omega), if_pos (by omega), e2, if_pos (by rw [strOfNums_size, strOfNums_size]; simp; omega)]
      rw [show esc (bt s i) = [bt s i] by unfold esc; rw [if_neg h34, if_neg hx], strOfNums_append]
theorem quote_impl_round (k : Nat) (s : ByteArray) (l : List Int) (i : Int) (h0 : 0 ≤ i) (h1 : i < s.size) (hs : s.size ≤ 1048576) (hl : l.length ≤ 100000000) :
    impl_quote.l0 (k + 2) s l s.size i = impl_quote.l0 k s (l ++ esc (bt s i)) s.size (i + 1) := by
  have hb := bt_range s i
  obtain ⟨x0, x1, x2, x3⟩ := quote_hex (bt s i) hb.1 hb.2
  rw [impl_quote.l0, if_pos h1, if_pos h0, if_pos h1]
  have hw : wrap64 (i + 1) = i + 1 := wr (by omega) (by omega)
  by_cases h34 : bt s i = 34 ∨ bt s i = 92
  · have hj : (if bt s i = 34 then impl_quote.j1 (k + 1) s l (bt s i) s.size i true else impl_quote.j1 (k + 1) s l (bt s i) s.size i (bt s i == 92)) = impl_quote.j1 (k + 1) s l (bt s i) s.size i true := by
      rcases h34 with h | h
      · rw [if_pos h]
      · rw [if_neg (by omega), h]; rfl
    rw [hj, impl_quote.j1, if_pos rfl, hw]
    simp only [Option.bind_some, List.length_cons, List.length_nil]
    rw [if_pos (by omega), show esc (bt s i) = [92, bt s i] by unfold esc; rw [if_pos h34]]
  · rw [if_neg (fun h => h34 (.inl h)), beq_eq_false_iff_ne.2 (fun h => h34 (.inr h)), impl_quote.j1, if_neg (by decide), hw, wr (by omega) (by omega)]
    unfold impl_within.f
    by_cases hx : bt s i < 32 ∨ bt s i > 126
    · have hE : esc (bt s i) = [92, 117, 48, 48, bt hexS (Int.tdiv (bt s i) 16 % 256), bt hexS (Int.tmod (bt s i) 16)] := by unfold esc; rw [if_neg h34, if_pos hx]
      have hF : (if 32 ≤ bt s i then some (decide (bt s i ≤ 126)) else some false) = some false := by
        rcases hx with h | h
        · rw [if_neg (by omega)]
        · rw [if_pos (by omega), decide_eq_false (by omega)]
      rw [hF]
      simp only [Option.bind_some, Bool.false_eq_true, if_false]
      rw [if_pos x0, if_pos x1, if_pos x2, if_pos x3]
      simp only [List.length_cons, List.length_nil]
      rw [if_pos (by omega), hE]
      rfl
    · rw [if_pos (by omega), decide_eq_true (by omega)]
      simp only [Option.bind_some, if_true]
      rw [if_pos (by omega), show esc (bt s i) = [bt s i] by unfold esc; rw [if_neg h34, if_neg hx]]
theorem quote_loops (s : ByteArray) (hs : s.size ≤ 1048576) (d : Nat) : ∀ (i : Int) (l : List Int), 0 ≤ i → i + d = s.size → l.length ≤ 1 + 6 * i →
    spec_l02Quote.l0 (2 * d + 1) s (strOfNums l) i = some (strOfNums (l ++ qbody s i d ++ [34])) ∧ impl_quote.l0 (2 * d + 1) s l s.size i = some (strOfNums (l ++ qbody s i d ++ [34])) := by
  induction d with
  | zero =>
    intro i l h0 h1 hl
    constructor
    · rw [spec_l02Quote.l0, if_neg (by omega), if_pos (by rw [strOfNums_size]; omega)]
      simp only [qbody, List.append_nil, strOfNums_append]
      rfl
    · rw [impl_quote.l0, if_neg (by omega), if_pos (by omega)]
      simp only [qbody, List.append_nil]
  | succ d ih =>
    intro i l h0 h1 hl
    have he := esc_length (bt s i)
    obtain ⟨z1, z2⟩ := ih (i + 1) (l ++ esc (bt s i)) (by omega) (by omega) (by rw [List.length_append]; omega)
    rw [show 2 * (d + 1) + 1 = (2 * d + 1) + 2 by omega, quote_spec_round _ s l i h0 (by omega) hs (by omega), quote_impl_round _ s l i h0 (by omega) hs (by omega), z1, z2]
    simp [qbody]
def quoteOf (s : ByteArray) : ByteArray := strOfNums ([34] ++ qbody s 0 s.size ++ [34])
theorem quoteOf_size (s : ByteArray) : (quoteOf s).size ≤ 6 * s.size + 2 := by
  have := qbody_length s s.size 0
  unfold quoteOf
  rw [strOfNums_size]
  simp
  omega
theorem quote_spec (s : ByteArray) (hs : s.size ≤ 1048576) : Ev (fun k => spec_l02Quote.f k s) (quoteOf s) := by
  refine Ev.of (spec_l02Quote.mono s) (k := 2 * s.size + 1) ?_
  exact (quote_loops s hs s.size 0 [34] (by omega) (by omega) (by simp)).1
theorem quote_impl (s : ByteArray) (hs : s.size ≤ 1048576) : Ev (fun k => impl_quote.f k s) (quoteOf s) := by
  refine Ev.of (impl_quote.mono s) (k := 2 * s.size + 1) ?_
  exact (quote_loops s hs s.size 0 [34] (by omega) (by omega) (by simp)).2

/-- The decimal text of a number, as the library writes it. -/
def itoaB (n : Int) : ByteArray := ⟨(Lib.itoa n).toArray⟩
theorem itoa_is (n : Int) (h0 : -9223372036854775808 ≤ n) (h1 : n ≤ 9223372036854775807) : strconv_Itoa.f n = some (itoaB n) := by
  unfold strconv_Itoa.f itoaB
  rw [if_pos ⟨h0, h1⟩]
theorem itoaB_size (n : Int) (h0 : -9223372036854775808 ≤ n) (h1 : n ≤ 9223372036854775807) : (itoaB n).size ≤ 21 := by
  have := Lib.itoa_length_le n h0 h1
  simpa [itoaB, ByteArray.size] using this
theorem bytes_join (a b : List UInt8) : (⟨(a ++ b).toArray⟩ : ByteArray) = (⟨a.toArray⟩ : ByteArray) ++ (⟨b.toArray⟩ : ByteArray) := by
  apply ByteArray.ext
  rw [ByteArray.data_append]
  simp
theorem nDigits_mono (u : Nat) (h : u < 18446744073709551616) : (Lib.decDigits u).length ≤ 20 := by
  rw [Lib.decDigits_length]; exact Lib.nDigits_le20 u h
theorem digits_nat : ∀ (u : Nat), u ≤ 9223372036854775807 → Ev (fun k => spec_l00Digits.f k (u : Int)) (⟨(Lib.decDigits u).toArray⟩ : ByteArray) := by
  intro u
  induction u using Nat.strongRecOn with
  | _ u ih =>
  intro hu
  by_cases h : u < 10
  · refine Ev.step (f := fun _ => some (⟨(Lib.decDigits u).toArray⟩ : ByteArray)) (fun k => ?_) (Ev.now _)
    rw [spec_l00Digits.f, if_neg (by omega), if_neg (by omega), if_pos (by omega), wr (by omega) (by omega), Lib.decDigits_one h]
    have e : ((48 + (u : Int)) % 256).toNat = 48 + u := by omega
    simp [strOfNums, e]
  · have hd : Int.tdiv (u : Int) 10 = ((u / 10 : Nat) : Int) := by rw [Int.tdiv_eq_ediv_of_nonneg (by omega)]; omega
    have hm : Int.tmod (u : Int) 10 = ((u % 10 : Nat) : Int) := by rw [Int.tmod_eq_emod_of_nonneg (by omega)]; omega
    have hl := nDigits_mono (u / 10) (by omega)
    refine Ev.step (f := fun k => (spec_l00Digits.f k ((u / 10 : Nat) : Int)).bind fun t => if t.size + 1 ≤ 9223372036854775807 then some (t ++ (⟨#[UInt8.ofNat (48 + u % 10)]⟩ : ByteArray)) else none) (fun k => ?_) (Ev.bind (ih (u / 10) (by omega) (by omega)) ?_)
    · rw [spec_l00Digits.f, if_neg (by omega), if_neg (by omega), if_neg (by omega), hd, hm, wr (x := ((u / 10 : Nat) : Int)) (by omega) (by omega), wr (x := 48 + ((u % 10 : Nat) : Int)) (by omega) (by omega)]
      have e : ((48 + ((u % 10 : Nat) : Int)) % 256).toNat = 48 + u % 10 := by omega
      have e2 : strOfNums [(48 + ((u % 10 : Nat) : Int)) % 256] = (⟨#[UInt8.ofNat (48 + u % 10)]⟩ : ByteArray) := by simp only [strOfNums, List.map_cons, List.map_nil, e]
      simp only [Option.bind_some, e2]
      rfl
    · have hs : (⟨(Lib.decDigits (u / 10)).toArray⟩ : ByteArray).size + 1 ≤ 9223372036854775807 := by simp only [ByteArray.size, List.size_toArray]; omega
      simp only [if_pos hs]
      have : (⟨(Lib.decDigits u).toArray⟩ : ByteArray) = (⟨(Lib.decDigits (u / 10)).toArray⟩ : ByteArray) ++ (⟨#[UInt8.ofNat (48 + u % 10)]⟩ : ByteArray) := by
        conv => lhs; rw [Lib.decDigits, dif_neg h]
        exact bytes_join _ _
      rw [this]
      exact Ev.now _
theorem digits_is (n : Int) (h0 : -9223372036854775808 ≤ n) (h1 : n ≤ 9223372036854775807) : Ev (fun k => spec_l00Digits.f k n) (itoaB n) := by
  unfold itoaB
  by_cases hm : n = -9223372036854775808
  · subst hm
    refine Ev.step (f := fun _ => some (⟨(Lib.itoa (-9223372036854775808)).toArray⟩ : ByteArray)) (fun k => ?_) (Ev.now _)
    rw [spec_l00Digits.f, if_pos rfl]
    have : Lib.itoa (-9223372036854775808) = [45, 57, 50, 50, 51, 51, 55, 50, 48, 51, 54, 56, 53, 52, 55, 55, 53, 56, 48, 56] := by
      unfold Lib.itoa
      rw [if_pos (by omega)]
      simp [Lib.decDigits]
    rw [this]
  by_cases hn : n < 0
  · obtain ⟨u, rfl⟩ : ∃ u : Nat, n = -(u : Int) := ⟨n.natAbs, by omega⟩
    rw [Lib.itoa_neg u (by omega)]
    refine Ev.step (f := fun k => (spec_l00Digits.f k (u : Int)).bind fun t => if 1 + t.size ≤ 9223372036854775807 then some ((⟨#[45]⟩ : ByteArray) ++ t) else none) (fun k => ?_) (Ev.bind (digits_nat u (by omega)) ?_)
    · rw [spec_l00Digits.f, if_neg hm, if_pos hn, Int.neg_neg, wr (by omega) (by omega)]
    · have hl := nDigits_mono u (by omega)
      have hs : 1 + (⟨(Lib.decDigits u).toArray⟩ : ByteArray).size ≤ 9223372036854775807 := by simp only [ByteArray.size, List.size_toArray]; omega
      simp only [if_pos hs]
      have : (⟨(45 :: Lib.decDigits u).toArray⟩ : ByteArray) = (⟨#[45]⟩ : ByteArray) ++ (⟨(Lib.decDigits u).toArray⟩ : ByteArray) := bytes_join [45] _
      rw [this]
      exact Ev.now _
  · obtain ⟨u, rfl⟩ : ∃ u : Nat, n = u := ⟨n.toNat, by omega⟩
    rw [Lib.itoa_nonneg]
    exact digits_nat u (by omega)
theorem decimal_is (n : Int) (h0 : -9223372036854775808 ≤ n) (h1 : n ≤ 9223372036854775807) : impl_decimal.f n = some (itoaB n) := by
  unfold impl_decimal.f
  rw [itoa_is n h0 h1]; rfl
theorem wf_range {n : Int} (h : (Lit.int .i64 n).wf = true) : -9223372036854775808 ≤ n ∧ n ≤ 9223372036854775807 := by
  have e : IntKind.i64.min = -9223372036854775808 := by decide
  have h' : IntKind.i64.min ≤ n ∧ n ≤ 9223372036854775807 := by simpa [Lit.wf] using h
  rw [e] at h'
  exact h'

/-- Texts joined by commas. -/
def cj (l : List ByteArray) : ByteArray := ⟨(Lib.join (l.map (fun x => x.data.toList)) [44]).toArray⟩
/-- The parts of a list's or an object's text. -/
def pts (k : Int) (ns l : List ByteArray) : List ByteArray := (List.range l.length).map (fun i : Nat => if k = 6 then (quoteOf (rdOf ByteArray.empty ns (i : Int)) ++ (⟨#[58]⟩ : ByteArray)) ++ rdOf ByteArray.empty l (i : Int) else rdOf ByteArray.empty l (i : Int))
theorem pts_len (k : Int) (ns l : List ByteArray) : (pts k ns l).length = l.length := by simp [pts]
mutual
/-- The text of a value. -/
def jT : S31 → ByteArray
  | ⟨k, n, t, ns, xs⟩ => if k = 1 then (⟨#[110, 117, 108, 108]⟩ : ByteArray) else if k = 2 then (if n = 0 then (⟨#[102, 97, 108, 115, 101]⟩ : ByteArray) else (⟨#[116, 114, 117, 101]⟩ : ByteArray)) else if k = 3 then itoaB n else if k = 4 then quoteOf t
      else if k = 6 then ((⟨#[123]⟩ : ByteArray) ++ cj (pts k ns (jTL xs))) ++ (⟨#[125]⟩ : ByteArray) else ((⟨#[91]⟩ : ByteArray) ++ cj (pts k ns (jTL xs))) ++ (⟨#[93]⟩ : ByteArray)
def jTL : List S31 → List ByteArray
  | [] => []
  | x :: xs => jT x :: jTL xs
end
theorem jTL_map : ∀ l : List S31, jTL l = l.map jT
  | [] => by rw [jTL]; rfl
  | x :: xs => by rw [jTL, jTL_map xs]; rfl
theorem jTL_len (l : List S31) : (jTL l).length = l.length := by rw [jTL_map, List.length_map]
theorem inter_snoc (sep x : List UInt8) : ∀ xs : List (List UInt8), xs ≠ [] → Lib.join (xs ++ [x]) sep = Lib.join xs sep ++ sep ++ x
  | [], h => absurd rfl h
  | [a], _ => by simp [Lib.join, List.intercalate]
  | a :: b :: r, _ => by
    have := inter_snoc sep x (b :: r) (by simp)
    simp only [Lib.join, List.intercalate, List.cons_append, List.intersperse, List.flatten_cons] at this ⊢
    rw [this]
    simp
theorem cj_nil : cj [] = (⟨#[]⟩ : ByteArray) := by simp [cj, Lib.join, List.intercalate]
theorem nil_ap (x : ByteArray) : (⟨#[]⟩ : ByteArray) ++ x = x := by
  apply ByteArray.ext
  rw [ByteArray.data_append]
  simp
theorem ba_of (x : ByteArray) : (⟨x.data.toList.toArray⟩ : ByteArray) = x := by cases x; simp
theorem cj_one (x : ByteArray) : cj [x] = x := by simp [cj, Lib.join, List.intercalate]
theorem cj_snoc (l : List ByteArray) (x : ByteArray) (h : l ≠ []) : cj (l ++ [x]) = (cj l ++ (⟨#[44]⟩ : ByteArray)) ++ x := by
  unfold cj
  rw [List.map_append, List.map_cons, List.map_nil, inter_snoc _ _ _ (by simpa using h), bytes_join, bytes_join, ba_of]
theorem cj_size (M : Nat) (l : List ByteArray) : ∀ n, n ≤ l.length → (∀ x, x ∈ l → x.size ≤ M) → (cj (l.take n)).size ≤ n * (M + 1) := by
  intro n
  induction n with
  | zero => intro _ _; rw [List.take_zero, cj_nil]; exact Nat.zero_le _
  | succ n ih =>
    intro hn hM
    have h1 := ih (by omega) hM
    have hm := hM l[n] (List.getElem_mem ..)
    rw [List.take_add_one, List.getElem?_eq_getElem (by omega), Option.toList_some]
    by_cases hz : l.take n = []
    · rw [hz, List.nil_append, cj_one, Nat.succ_mul]; omega
    · rw [cj_snoc _ _ hz, ByteArray.size_append, ByteArray.size_append, show (⟨#[44]⟩ : ByteArray).size = 1 from rfl, Nat.succ_mul]; omega
theorem pts_get (k : Int) (ns l : List ByteArray) (n : Nat) (h : n < l.length) : (pts k ns l)[n]? = some (if k = 6 then (quoteOf (rdOf ByteArray.empty ns (n : Int)) ++ (⟨#[58]⟩ : ByteArray)) ++ rdOf ByteArray.empty l (n : Int) else rdOf ByteArray.empty l (n : Int)) := by
  simp [pts, h]
theorem rd_jTL (xs : List S31) (n : Nat) (h : n < xs.length) : rdOf ByteArray.empty (jTL xs) (n : Int) = jT (rd_T31 xs (n : Int)) := by
  rw [jTL_map]
  simp [rdOf, rd_T31, List.getD, h]
theorem take_pt (k : Int) (ns : List ByteArray) (xs : List S31) (n : Nat) (h : n < xs.length) : (pts k ns (jTL xs)).take (n + 1) = (pts k ns (jTL xs)).take n ++ [if k = 6 then (quoteOf (rdOf ByteArray.empty ns (n : Int)) ++ (⟨#[58]⟩ : ByteArray)) ++ jT (rd_T31 xs (n : Int)) else jT (rd_T31 xs (n : Int))] := by
  rw [List.take_add_one, pts_get _ _ _ _ (by rw [jTL_len]; exact h), rd_jTL _ _ h]; rfl
theorem take_ne (k : Int) (ns : List ByteArray) (xs : List S31) (n : Nat) (h : n < xs.length) (h0 : 0 < n) : (pts k ns (jTL xs)).take n ≠ [] := by
  intro e
  have := congrArg List.length e
  rw [List.length_take, pts_len, jTL_len, List.length_nil] at this
  omega
theorem quote_le (s : ByteArray) (h : s.size ≤ 120) : (quoteOf s).size ≤ 722 := by have := quoteOf_size s; omega
theorem pt_size (k : Int) (ns : List ByteArray) (xs : List S31) (M : Nat) (hq : ∀ s, s ∈ ns → s.size ≤ 120) (h6 : k = 6 → ns.length = xs.length) (hs : ∀ i : Nat, i < xs.length → (jT (rd_T31 xs (i : Int))).size ≤ M) : ∀ x, x ∈ pts k ns (jTL xs) → x.size ≤ M + 723 := by
  intro x hx
  obtain ⟨i, hi, e⟩ := List.mem_iff_getElem.1 hx
  rw [pts_len, jTL_len] at hi
  have e2 := pts_get k ns (jTL xs) i (by rw [jTL_len]; exact hi)
  rw [List.getElem?_eq_getElem (by rw [pts_len, jTL_len]; exact hi), e, rd_jTL _ _ hi] at e2
  have h1 := hs i hi
  obtain rfl := Option.some.inj e2
  by_cases hk : k = 6
  · rw [if_pos hk, ByteArray.size_append, ByteArray.size_append, show (⟨#[58]⟩ : ByteArray).size = 1 from rfl]
    have hn : i < ns.length := by rw [h6 hk]; exact hi
    have := quote_le (rdOf ByteArray.empty ns (i : Int)) (hq _ (by simp [rdOf, List.getD, hn]))
    omega
  · rw [if_neg hk]; omega
theorem jT_eq (x : S31) (h : x.f0 = 5 ∨ x.f0 = 6) : jT x = if x.f0 = 6 then ((⟨#[123]⟩ : ByteArray) ++ cj (pts x.f0 x.f3 (jTL x.f4))) ++ (⟨#[125]⟩ : ByteArray) else ((⟨#[91]⟩ : ByteArray) ++ cj (pts x.f0 x.f3 (jTL x.f4))) ++ (⟨#[93]⟩ : ByteArray) := by
  cases x
  simp only at h ⊢
  rw [jT, if_neg (by omega), if_neg (by omega), if_neg (by omega), if_neg (by omega)]
theorem spec_tx (k0 n0 : Int) (t : ByteArray) (ns : List ByteArray) (xs : List S31) (M : Nat) (hM : M ≤ 300000000) (h56 : k0 = 5 ∨ k0 = 6) (hl : xs.length ≤ 12) (h6 : k0 = 6 → ns.length = xs.length) (hq : ∀ s, s ∈ ns → s.size ≤ 120) (hs : ∀ i : Nat, i < xs.length → (jT (rd_T31 xs (i : Int))).size ≤ M)
    (hE : ∀ i : Nat, i < xs.length → Ev (fun k => spec_l02Text.f k (rd_T31 xs (i : Int)).f0 (rd_T31 xs (i : Int)).f1 (rd_T31 xs (i : Int)).f2 (rd_T31 xs (i : Int)).f3 (rd_T31 xs (i : Int)).f4) (jT (rd_T31 xs (i : Int)))) :
    ∀ (d n : Nat), n + d = xs.length → Ev (fun k => spec_l02Text.l0 k (cj ((pts k0 ns (jTL xs)).take n)) (n : Int) k0 n0 t ns xs) (jT ⟨k0, n0, t, ns, xs⟩) := by
  have hsz : ∀ n, n ≤ xs.length → (cj ((pts k0 ns (jTL xs)).take n)).size ≤ 12 * (M + 723 + 1) := by
    intro n hn
    exact Nat.le_trans (cj_size (M + 723) (pts k0 ns (jTL xs)) n (by rw [pts_len, jTL_len]; exact hn) (pt_size k0 ns xs M hq h6 hs)) (Nat.mul_le_mul_right _ (Nat.le_trans hn hl))
  intro d
  induction d with
  | zero =>
    intro n h
    have h1 := hsz n (by omega)
    have e : (pts k0 ns (jTL xs)).take n = pts k0 ns (jTL xs) := List.take_of_length_le (by rw [pts_len, jTL_len]; omega)
    rw [e] at h1 ⊢
    rw [jT_eq _ h56]
    by_cases hk : k0 = 5
    · refine Ev.step (f := fun _ => some (((⟨#[91]⟩ : ByteArray) ++ cj (pts k0 ns (jTL xs))) ++ (⟨#[93]⟩ : ByteArray))) (fun k => ?_) ?_
      · rw [spec_l02Text.l0, if_neg (by omega), if_pos hk, if_pos (by omega), if_pos (by rw [ByteArray.size_append, show (⟨#[91]⟩ : ByteArray).size = 1 from rfl]; omega)]
      · rw [if_neg (by simp only; omega)]; exact Ev.now _
    · refine Ev.step (f := fun _ => some (((⟨#[123]⟩ : ByteArray) ++ cj (pts k0 ns (jTL xs))) ++ (⟨#[125]⟩ : ByteArray))) (fun k => ?_) ?_
      · rw [spec_l02Text.l0, if_neg (by omega), if_neg hk, if_pos (by omega), if_pos (by rw [ByteArray.size_append, show (⟨#[123]⟩ : ByteArray).size = 1 from rfl]; omega)]
      · rw [if_pos (by simp only; omega)]; exact Ev.now _
  | succ d ih =>
    intro n h
    have hn : n < xs.length := by omega
    have h1 := hsz n (by omega)
    have hN := ih (n + 1) (by omega)
    have hwr : wrap64 ((n : Int) + 1) = ((n + 1 : Nat) : Int) := by unfold wrap64; omega
    have hj := hs n hn
    have hEn := hE n hn
    rw [take_pt _ _ _ _ hn] at hN
    have key : ∀ acc : ByteArray, acc.size ≤ 12 * (M + 723 + 1) + 1 → cj ((pts k0 ns (jTL xs)).take n ++ [if k0 = 6 then (quoteOf (rdOf ByteArray.empty ns (n : Int)) ++ (⟨#[58]⟩ : ByteArray)) ++ jT (rd_T31 xs (n : Int)) else jT (rd_T31 xs (n : Int))] ) = acc ++ (if k0 = 6 then (quoteOf (rdOf ByteArray.empty ns (n : Int)) ++ (⟨#[58]⟩ : ByteArray)) ++ jT (rd_T31 xs (n : Int)) else jT (rd_T31 xs (n : Int))) →
        Ev (fun k => spec_l02Text.j1 k acc (n : Int) k0 n0 t ns xs) (jT ⟨k0, n0, t, ns, xs⟩) := by
      intro acc ha hc
      rw [hc] at hN
      by_cases hk : k0 = 6
      · have hns : n < ns.length := by rw [h6 hk]; exact hn
        have hmem : (rdOf ByteArray.empty ns (n : Int)).size ≤ 120 := hq _ (by simp [rdOf, List.getD, hns])
        have hqs := quote_le _ hmem
        simp only [if_pos hk] at hN
        refine Ev.step (fun k => by rw [spec_l02Text.j1, if_pos hk, if_pos (by omega), if_pos (by omega)]) ?_
        refine Ev.bind (quote_spec _ (by omega)) ?_
        simp only [if_pos (show (quoteOf (rdOf ByteArray.empty ns (n : Int))).size + 1 ≤ 9223372036854775807 by omega), if_pos (show acc.size + (quoteOf (rdOf ByteArray.empty ns (n : Int)) ++ (⟨#[58]⟩ : ByteArray)).size ≤ 9223372036854775807 by rw [ByteArray.size_append, show (⟨#[58]⟩ : ByteArray).size = 1 from rfl]; omega), if_pos (show (n : Int) < (xs.length : Int) by omega)]
        refine Ev.bind hEn ?_
        simp only [if_pos (show (acc ++ (quoteOf (rdOf ByteArray.empty ns (n : Int)) ++ (⟨#[58]⟩ : ByteArray))).size + (jT (rd_T31 xs (n : Int))).size ≤ 9223372036854775807 by rw [ByteArray.size_append, ByteArray.size_append, show (⟨#[58]⟩ : ByteArray).size = 1 from rfl]; omega), hwr]
        rw [ByteArray.append_assoc] at hN ⊢
        simpa only [ByteArray.append_assoc] using hN
      · simp only [if_neg hk] at hN
        refine Ev.step (fun k => by rw [spec_l02Text.j1, if_neg hk, if_pos (by omega), if_pos (by omega)]) ?_
        refine Ev.bind hEn ?_
        simp only [if_pos (show acc.size + (jT (rd_T31 xs (n : Int))).size ≤ 9223372036854775807 by omega), hwr]
        exact hN
    by_cases h0 : 0 < n
    · refine Ev.step (f := fun k => spec_l02Text.j1 k (cj ((pts k0 ns (jTL xs)).take n) ++ (⟨#[44]⟩ : ByteArray)) (n : Int) k0 n0 t ns xs) (fun k => ?_) (key _ ?_ (cj_snoc _ _ (take_ne _ _ _ _ hn h0)))
      · rw [spec_l02Text.l0, if_pos (by omega), if_pos (by omega), if_pos (by omega)]
      · rw [ByteArray.size_append, show (⟨#[44]⟩ : ByteArray).size = 1 from rfl]; omega
    · obtain rfl : n = 0 := by omega
      refine Ev.step (f := fun k => spec_l02Text.j1 k (cj ((pts k0 ns (jTL xs)).take 0)) ((0 : Nat) : Int) k0 n0 t ns xs) (fun k => ?_) (key _ (Nat.le_succ_of_le h1) ?_)
      · rw [spec_l02Text.l0, if_pos (by omega), if_neg (by omega)]
      · rw [List.take_zero, List.nil_append, cj_one, cj_nil, nil_ap]
theorem impl_tx (k0 n0 : Int) (t : ByteArray) (ns : List ByteArray) (xs : List S31) (M : Nat) (hM : M ≤ 300000000) (h56 : k0 = 5 ∨ k0 = 6) (hl : xs.length ≤ 12) (h6 : k0 = 6 → ns.length = xs.length) (hq : ∀ s, s ∈ ns → s.size ≤ 120) (hs : ∀ i : Nat, i < xs.length → (jT (rd_T31 xs (i : Int))).size ≤ M)
    (hE : ∀ i : Nat, i < xs.length → Ev (fun k => impl_Json_text.f k (rd_T31 xs (i : Int)).f0 (rd_T31 xs (i : Int)).f1 (rd_T31 xs (i : Int)).f2 (rd_T31 xs (i : Int)).f3 (rd_T31 xs (i : Int)).f4) (jT (rd_T31 xs (i : Int)))) :
    ∀ (d n : Nat), n + d = xs.length → Ev (fun k => impl_Json_text.l0 k ((pts k0 ns (jTL xs)).take n) xs (xs.length : Int) (n : Int) k0 n0 t ns xs) (jT ⟨k0, n0, t, ns, xs⟩) := by
  intro d
  induction d with
  | zero =>
    intro n h
    have h2 := cj_size (M + 723) (pts k0 ns (jTL xs)) xs.length (by rw [pts_len, jTL_len]; exact Nat.le_refl _) (pt_size k0 ns xs M hq h6 hs)
    have h3 : xs.length * (M + 723 + 1) ≤ 12 * (M + 723 + 1) := Nat.mul_le_mul_right _ hl
    have h2 := Nat.le_trans h2 h3
    clear h3
    have e : (pts k0 ns (jTL xs)).take n = pts k0 ns (jTL xs) := List.take_of_length_le (by rw [pts_len, jTL_len]; omega)
    rw [List.take_of_length_le (by rw [pts_len, jTL_len]; exact Nat.le_refl _)] at h2
    rw [e, jT_eq _ h56]
    have hJ : strings_Join.f (pts k0 ns (jTL xs)) (⟨#[44]⟩ : ByteArray) = some (cj (pts k0 ns (jTL xs))) := by
      unfold strings_Join.f
      have h4 : (Lib.join ((pts k0 ns (jTL xs)).map (fun x => x.data.toList)) (⟨#[44]⟩ : ByteArray).data.toList).length = (cj (pts k0 ns (jTL xs))).size := by
        unfold cj; simp [ByteArray.size]
      have h5 : (cj (pts k0 ns (jTL xs))).size ≤ 140737488355328 := Nat.le_trans h2 (by clear h4 hs hE h2 e hq h6 hl h h56; omega)
      have h6' : (pts k0 ns (jTL xs)).length ≤ 140737488355328 := by rw [pts_len, jTL_len]; clear h4 hs hE h2 h5; omega
      rw [if_pos ⟨by rw [h4]; exact h5, h6'⟩]; rfl
    by_cases hk : k0 = 6
    · refine Ev.step (f := fun _ => some (((⟨#[123]⟩ : ByteArray) ++ cj (pts k0 ns (jTL xs))) ++ (⟨#[125]⟩ : ByteArray))) (fun k => ?_) ?_
      · rw [impl_Json_text.l0, if_neg (by omega), hJ, Option.bind_some, if_pos hk, if_pos (by omega), if_pos (by rw [ByteArray.size_append, show (⟨#[123]⟩ : ByteArray).size = 1 from rfl]; omega)]
      · rw [if_pos (by simp only; omega)]; exact Ev.now _
    · refine Ev.step (f := fun _ => some (((⟨#[91]⟩ : ByteArray) ++ cj (pts k0 ns (jTL xs))) ++ (⟨#[93]⟩ : ByteArray))) (fun k => ?_) ?_
      · rw [impl_Json_text.l0, if_neg (by omega), hJ, Option.bind_some, if_neg hk, if_pos (by omega), if_pos (by rw [ByteArray.size_append, show (⟨#[91]⟩ : ByteArray).size = 1 from rfl]; omega)]
      · rw [if_neg (by simp only; omega)]; exact Ev.now _
  | succ d ih =>
    intro n h
    have hn : n < xs.length := by omega
    have hN := ih (n + 1) (by omega)
    have hwr : wrap64 ((n : Int) + 1) = ((n + 1 : Nat) : Int) := by unfold wrap64; omega
    have hj := hs n hn
    have hlt : ((pts k0 ns (jTL xs)).take n).length < 8796093022208 := by rw [List.length_take, pts_len, jTL_len]; omega
    rw [take_pt _ _ _ _ hn] at hN
    refine Ev.step (fun k => by rw [impl_Json_text.l0, if_pos (by omega), if_pos (by omega), if_pos (by omega)]) ?_
    refine Ev.bind (hE n hn) ?_
    by_cases hk : k0 = 6
    · have hns : n < ns.length := by rw [h6 hk]; exact hn
      have hmem : (rdOf ByteArray.empty ns (n : Int)).size ≤ 120 := hq _ (by simp [rdOf, List.getD, hns])
      have hqs := quote_le _ hmem
      simp only [if_pos hk, if_pos (show (n : Int) < (ns.length : Int) by omega)] at hN ⊢
      refine Ev.bind (quote_impl _ (by omega)) ?_
      simp only [if_pos (show (quoteOf (rdOf ByteArray.empty ns (n : Int))).size + 1 ≤ 9223372036854775807 by omega), if_pos (show (quoteOf (rdOf ByteArray.empty ns (n : Int)) ++ (⟨#[58]⟩ : ByteArray)).size + (jT (rd_T31 xs (n : Int))).size ≤ 9223372036854775807 by rw [ByteArray.size_append, show (⟨#[58]⟩ : ByteArray).size = 1 from rfl]; omega), if_pos hlt, hwr]
      exact hN
    · simp only [if_neg hk] at hN ⊢
      simp only [if_pos hlt, hwr]
      exact hN
open impl_Json_valid in
theorem nmF_all (ns : List ByteArray) : ∀ (d n : Nat), n + d = ns.length → nmF ns d n = true → ∀ i, n ≤ i → i < ns.length → (rdOf ByteArray.empty ns (i : Int)).size ≤ 120 := by
  intro d
  induction d with
  | zero => intro n h _ i h1 h2; omega
  | succ d ih =>
    intro n h hv i h1 h2
    rw [nmF] at hv
    split at hv
    · cases hv
    · rename_i hs
      split at hv
      · cases hv
      · by_cases he : i = n
        · subst he; omega
        · exact ih (n + 1) (by omega) hv i (by omega) h2
open impl_Json_valid in
theorem vL_at : ∀ (l : List S31) (dp : Int), vL l dp = true → ∀ i, i < l.length → vJ (rd_T31 l ((i : Nat) : Int)) dp = true
  | [], _, _, i, hi => absurd hi (by simp)
  | x :: xs, dp, h, i, hi => by
    rw [vL, Bool.and_eq_true] at h
    cases i with
    | zero => exact h.1
    | succ i =>
      have := vL_at xs dp h.2 i (by simpa using hi)
      have e : rd_T31 (x :: xs) ((i + 1 : Nat) : Int) = rd_T31 xs (i : Int) := by simp [rd_T31, List.getD]
      rw [e]; exact this
open impl_Json_valid in
theorem vJ_facts (x : S31) (dp : Int) (h1 : 1 ≤ dp) (h5 : dp ≤ 5) (h : vJ x dp = true) : x.f0 = 1 ∨ (x.f0 = 2 ∧ 0 ≤ x.f1 ∧ x.f1 ≤ 1) ∨ (x.f0 = 3 ∧ -999999999 ≤ x.f1 ∧ x.f1 ≤ 999999999) ∨ (x.f0 = 4 ∧ x.f2.size ≤ 120) ∨
    ((x.f0 = 5 ∨ x.f0 = 6) ∧ (x.f0 = 6 → x.f3.length = x.f4.length) ∧ x.f4.length ≤ 12 ∧ 1 < dp ∧ (∀ s, s ∈ x.f3 → s.size ≤ 120) ∧ ∀ i : Nat, i < x.f4.length → vJ (rd_T31 x.f4 (i : Int)) (dp - 1) = true) := by
  rw [vJ_eq, if_neg (by omega)] at h
  split at h
  · rename_i ht
    have ew : wrap64 (dp - 1) = dp - 1 := by unfold wrap64; omega
    rw [ew] at h
    have hnm : nmF x.f3 x.f3.length 0 = true := by
      unfold top at ht; split at ht
      · cases ht
      · split at ht
        · exact ht
        · cases ht
    have hall : ∀ s, s ∈ x.f3 → s.size ≤ 120 := by
      intro s hs
      obtain ⟨i, hi, e⟩ := List.mem_iff_getElem.1 hs
      have := nmF_all x.f3 x.f3.length 0 (by omega) hnm i (by omega) hi
      rw [show rdOf ByteArray.empty x.f3 (i : Int) = s by simp [rdOf, List.getD, hi, e]] at this
      exact this
    unfold top at ht
    split at ht
    · cases ht
    · rename_i a b c d hh
      split at ht
      · rename_i hz
        simp only [Bool.and_eq_true] at hz
        obtain ⟨⟨⟨ha, hb⟩, hc⟩, hd'⟩ := hz
        subst ha hb hc hd'
        unfold hd at hh
        split at hh
        · left; assumption
        · split at hh
          · right; left
            simp at hh
            exact ⟨by assumption, hh.1.1, hh.1.2⟩
          · split at hh
            · right; right; left
              simp at hh
              exact ⟨by assumption, hh.1.1, hh.1.2⟩
            · split at hh
              · right; right; right; left
                simp at hh
                exact ⟨by assumption, by omega⟩
              · right; right; right; right
                split at hh
                · rename_i h5'
                  simp at hh
                  refine ⟨.inl h5', fun h6 => by omega, by omega, by omega, hall, fun i hi => vL_at _ _ h i hi⟩
                · split at hh
                  · rename_i h6'
                    simp at hh
                    refine ⟨.inr h6', fun _ => by omega, by omega, by omega, hall, fun i hi => vL_at _ _ h i hi⟩
                  · cases hh
      · cases ht
  · cases h
/-- How long a value's text may be. -/
def tB : Nat → Nat
  | 0 => 12000
  | d + 1 => 12 * tB d + 12000
theorem tB_le (d : Nat) (h : d ≤ 5) : tB d ≤ 300000000 * 12 := by
  have : d = 0 ∨ d = 1 ∨ d = 2 ∨ d = 3 ∨ d = 4 ∨ d = 5 := by omega
  rcases this with rfl | rfl | rfl | rfl | rfl | rfl <;> simp [tB]
theorem tB_le4 (d : Nat) (h : d ≤ 4) : tB d ≤ 300000000 := by
  have : d = 0 ∨ d = 1 ∨ d = 2 ∨ d = 3 ∨ d = 4 := by omega
  rcases this with rfl | rfl | rfl | rfl | rfl <;> simp [tB]
theorem tB_ge (d : Nat) : 12000 ≤ tB d := by cases d <;> simp [tB]
open impl_Json_valid in
theorem text_is : ∀ (d : Nat) (x : S31), 1 ≤ d → d ≤ 5 → vJ x (d : Int) = true →
    Ev (fun k => spec_l02Text.f k x.f0 x.f1 x.f2 x.f3 x.f4) (jT x) ∧ Ev (fun k => impl_Json_text.f k x.f0 x.f1 x.f2 x.f3 x.f4) (jT x) ∧ (jT x).size ≤ tB d := by
  intro d
  induction d with
  | zero => intro x h; omega
  | succ d ih =>
    intro x h1 h5 hv
    have hB := tB_ge (d + 1)
    have hf := vJ_facts x ((d + 1 : Nat) : Int) (by omega) (by omega) hv
    rcases hf with hk | ⟨hk, n0, n1⟩ | ⟨hk, n0, n1⟩ | ⟨hk, ht⟩ | ⟨hk, h6, hl, hdp, hq, hi⟩
    · have e : jT x = (⟨#[110, 117, 108, 108]⟩ : ByteArray) := by cases x; simp only at hk; rw [jT, if_pos hk]
      rw [e]
      refine ⟨Ev.step (fun k => by rw [spec_l02Text.f, if_pos hk]) (Ev.now _), ?_, by have : (⟨#[110, 117, 108, 108]⟩ : ByteArray).size = 4 := rfl; omega⟩
      refine Ev.step (fun k => by rw [impl_Json_text.f, if_neg (by omega), if_neg (by omega), if_neg (by omega), if_neg (by omega)]) ?_
      exact Ev.step (fun k => by rw [impl_Json_text.j0, if_neg (by rw [hk]; decide)]) (Ev.now _)
    · have e : jT x = rdOf ByteArray.empty [(⟨#[102, 97, 108, 115, 101]⟩ : ByteArray), (⟨#[116, 114, 117, 101]⟩ : ByteArray)] x.f1 := by
        rcases x with ⟨k9, n9, t9, ns9, xs9⟩
        simp only at hk n0 n1 ⊢
        rw [jT, if_neg (by omega), if_pos hk]
        by_cases hz : n9 = 0
        · rw [if_pos hz, hz]; rfl
        · rw [if_neg hz, show n9 = 1 from by omega]; rfl
      have es : (jT x).size ≤ 5 := by
        rw [e]
        have : x.f1 = 0 ∨ x.f1 = 1 := by omega
        rcases this with hz | hz <;> rw [hz] <;> decide
      refine ⟨?_, ?_, by omega⟩
      · rw [e]
        refine Ev.step (f := fun _ => some (rdOf ByteArray.empty [(⟨#[102, 97, 108, 115, 101]⟩ : ByteArray), (⟨#[116, 114, 117, 101]⟩ : ByteArray)] x.f1)) (fun k => ?_) (Ev.now _)
        rw [spec_l02Text.f, if_neg (by omega), if_pos hk, Option.bind_some, if_pos n0, if_pos (by simp; omega)]
      · rw [e]
        refine Ev.step (f := fun _ => some (rdOf ByteArray.empty [(⟨#[102, 97, 108, 115, 101]⟩ : ByteArray), (⟨#[116, 114, 117, 101]⟩ : ByteArray)] x.f1)) (fun k => ?_) (Ev.now _)
        rw [impl_Json_text.f, if_pos hk, Option.bind_some, if_pos n0, if_pos (by simp; omega)]
    · have e : jT x = itoaB x.f1 := by cases x; simp only at hk; rw [jT, if_neg (by omega), if_neg (by omega), if_pos hk]
      rw [e]
      refine ⟨?_, ?_, by have := itoaB_size x.f1 (by omega) (by omega); omega⟩
      · refine Ev.step (fun k => by rw [spec_l02Text.f, if_neg (by omega), if_neg (by omega), if_pos hk]) ?_
        exact Ev.bind (digits_is x.f1 (by omega) (by omega)) (Ev.now _)
      · refine Ev.step (f := fun _ => some (itoaB x.f1)) (fun k => ?_) (Ev.now _)
        rw [impl_Json_text.f, if_neg (by omega), if_pos hk, decimal_is x.f1 (by omega) (by omega)]; rfl
    · have e : jT x = quoteOf x.f2 := by cases x; simp only at hk; rw [jT, if_neg (by omega), if_neg (by omega), if_neg (by omega), if_pos hk]
      rw [e]
      refine ⟨?_, ?_, by have := quote_le x.f2 ht; omega⟩
      · refine Ev.step (fun k => by rw [spec_l02Text.f, if_neg (by omega), if_neg (by omega), if_neg (by omega), if_pos hk]) ?_
        exact Ev.bind (quote_spec x.f2 (by omega)) (Ev.now _)
      · refine Ev.step (fun k => by rw [impl_Json_text.f, if_neg (by omega), if_neg (by omega), if_pos hk]) ?_
        exact Ev.bind (quote_impl x.f2 (by omega)) (Ev.now _)
    · rcases x with ⟨k9, n9, t9, ns9, xs9⟩
      have hd1 : 1 ≤ d := by omega
      have hM := tB_le4 d (by omega)
      have hI : ∀ i : Nat, i < xs9.length → _ := fun i hx => ih (rd_T31 xs9 (i : Int)) hd1 (by omega) (by have := hi i hx; rwa [show ((d + 1 : Nat) : Int) - 1 = (d : Int) by omega] at this)
      have h2 := cj_size (tB d + 723) (pts k9 ns9 (jTL xs9)) xs9.length (by rw [pts_len, jTL_len]; exact Nat.le_refl _) (pt_size k9 ns9 xs9 (tB d) hq h6 (fun i hx => (hI i hx).2.2))
      have h3 : xs9.length * (tB d + 723 + 1) ≤ 12 * (tB d + 723 + 1) := Nat.mul_le_mul_right _ hl
      replace h2 := Nat.le_trans h2 h3
      clear h3
      rw [List.take_of_length_le (by rw [pts_len, jTL_len]; exact Nat.le_refl _)] at h2
      have hsp := spec_tx k9 n9 t9 ns9 xs9 (tB d) hM hk hl h6 hq (fun i hx => (hI i hx).2.2) (fun i hx => (hI i hx).1) xs9.length 0 (by omega)
      have him := impl_tx k9 n9 t9 ns9 xs9 (tB d) hM hk hl h6 hq (fun i hx => (hI i hx).2.2) (fun i hx => (hI i hx).2.1) xs9.length 0 (by omega)
      rw [List.take_zero] at him hsp
      rw [cj_nil] at hsp
      replace hsp : Ev (fun k => spec_l02Text.l0 k (⟨#[]⟩ : ByteArray) 0 k9 n9 t9 ns9 xs9) (jT _) := hsp
      replace him : Ev (fun k => impl_Json_text.l0 k [] xs9 (xs9.length : Int) 0 k9 n9 t9 ns9 xs9) (jT _) := him
      refine ⟨?_, ?_, ?_⟩
      · refine Ev.step (fun k => by rw [spec_l02Text.f, if_neg (by omega), if_neg (by omega), if_neg (by omega), if_neg (by omega)]) ?_
        exact hsp
      · by_cases h5' : k9 = 5
        · refine Ev.step (fun k => by rw [impl_Json_text.f, if_neg (by omega), if_neg (by omega), if_neg (by omega), if_pos h5']) ?_
          exact Ev.step (fun k => by rw [impl_Json_text.j0, if_pos (by simp [h5'])]) him
        · have h6' : k9 = 6 := by rcases hk with h | h; exact absurd h h5'; exact h
          refine Ev.step (fun k => by rw [impl_Json_text.f, if_neg (by omega), if_neg (by omega), if_neg (by omega), if_neg h5']) ?_
          exact Ev.step (fun k => by rw [impl_Json_text.j0, if_pos (by simp [h6'])]) him
      · have hp1 : ∀ (a b : UInt8), ((⟨#[a]⟩ ++ cj (pts k9 ns9 (jTL xs9))) ++ (⟨#[b]⟩ : ByteArray)).size ≤ tB (d + 1) := by
          intro a b
          rw [ByteArray.size_append, ByteArray.size_append, show (⟨#[a]⟩ : ByteArray).size = 1 from rfl, show (⟨#[b]⟩ : ByteArray).size = 1 from rfl, tB]
          omega
        rw [jT_eq _ hk]
        split
        · exact hp1 _ _
        · exact hp1 _ _

theorem FnExactJsonText : (∀ (a0_0 : Int) (a0_1 : Int) (a0_2 : ByteArray) (l0_3 : List ByteArray) (l0_4 : List (S25)), ((Lit.int .i64 a0_0).wf = true) → ((Lit.int .i64 a0_1).wf = true) → (a0_2.size ≤ 9223372036854775807) → (l0_3.length ≤ 9223372036854775807 ∧ ∀ y_, y_ ∈ l0_3 → y_.size ≤ 9223372036854775807) → (l0_4.length ≤ 9223372036854775807 ∧ ∀ y_, y_ ∈ l0_4 → ok25 y_) → ∃ k, laws_FnExactJsonText.f k a0_0 a0_1 a0_2 l0_3 l0_4 = some true) := by
  intro a0 a1 a2 l3 l4 w0 w1 s2 s3 s4
  have hok : ok25 ⟨a0, a1, a2, l3, l4⟩ := ok25.mk _ w0 w1 s2 s3 s4.1 s4.2
  by_cases hz : laws_szJson.szJ ⟨a0, a1, a2, l3, l4⟩ 1048576 < 0
  · exact ⟨0, by rw [laws_FnExactJsonText.f, laws_szJson.f, Option.bind_some, if_pos hz]⟩
  have hk := (szJ_ok _ 1048576 hok (by omega) (by omega) (by omega)).1
  refine Ev.rounds ?_
  have hV : Ev (fun k => spec_l02OK.f k (laws_toJson.toJ ⟨a0, a1, a2, l3, l4⟩).f0 (laws_toJson.toJ ⟨a0, a1, a2, l3, l4⟩).f1 (laws_toJson.toJ ⟨a0, a1, a2, l3, l4⟩).f2 (laws_toJson.toJ ⟨a0, a1, a2, l3, l4⟩).f3 (laws_toJson.toJ ⟨a0, a1, a2, l3, l4⟩).f4 5) _ := spec_is (laws_toJson.toJ ⟨a0, a1, a2, l3, l4⟩) 5 (by omega) (by omega)
  have hT := text_is 5 (laws_toJson.toJ ⟨a0, a1, a2, l3, l4⟩) (by omega) (by omega)
  rw [laws_toJson.toJ] at hV hT
  simp only [laws_FnExactJsonText.f, laws_szJson.f, Option.bind_some, if_neg hz, laws_toJson.f, if_pos hk]
  have fin : ∀ (p : Prop) [Decidable p] (c : Int), p → Ev (fun k => if p then laws_FnExactJsonText.j0 k (c != c) a0 a1 a2 l3 l4 a0 a1 a2 l3 (laws_toJson.toJL l4) else laws_FnExactJsonText.j0 k true a0 a1 a2 l3 l4 a0 a1 a2 l3 (laws_toJson.toJL l4)) true := by
    intro p _ c hp
    simp only [if_pos hp, bne_self_eq_false]
    refine Ev.step (f := fun _ => some true) (fun k => ?_) (Ev.now _)
    rw [laws_FnExactJsonText.j0, if_neg (by decide)]
    simp only [laws_toJson.f, if_pos hk, Option.bind_some, laws_eqJson.f, eqJ_self, if_pos]
  cases hb : impl_Json_valid.vJ ⟨a0, a1, a2, l3, laws_toJson.toJL l4⟩ 5 with
  | false =>
    rw [hb] at hV
    refine Ev.bind (a := ((⟨#[]⟩ : ByteArray), 1)) (Ev.bind hV (by simp only [Bool.false_eq_true, if_false]; exact Ev.now _)) ?_
    simp only [impl_JsonText.f, impl_JsonOK.f, impl_Json_valid.f, hb, Option.bind_some, Bool.false_eq_true, if_false]
    first | exact fin _ _ trivial | exact fin _ _ rfl
  | true =>
    rw [hb] at hV
    obtain ⟨t1, t2, _⟩ := hT hb
    refine Ev.bind (a := (jT ⟨a0, a1, a2, l3, laws_toJson.toJL l4⟩, 0)) (Ev.bind hV (by simp only [if_true]; exact Ev.bind t1 (Ev.now _))) ?_
    refine Ev.bind (a := (jT ⟨a0, a1, a2, l3, laws_toJson.toJL l4⟩, 0)) ?_ (fin _ _ rfl)
    simp only [impl_JsonText.f, impl_JsonOK.f, impl_Json_valid.f, hb, Option.bind_some, if_true]
    exact Ev.bind t2 (Ev.now _)

end Go.Proofs.YtljpmdeobmmhlaaDoor.Pure
