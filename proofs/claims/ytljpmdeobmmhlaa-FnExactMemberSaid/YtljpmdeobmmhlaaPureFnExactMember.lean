/- (under way) Member. -/
import Derived.Test.YtljpmdeobmmhlaaQFnExactMemberx7
import Derived.Test.YtljpmdeobmmhlaaQFnExactMemberx5
import Derived.Test.YtljpmdeobmmhlaaQFnExactMemberx4
import Derived.Test.YtljpmdeobmmhlaaQFnExactMemberx3
import Derived.Test.YtljpmdeobmmhlaaQMem
import Derived.Lib.ItoaLen
set_option linter.unusedVariables false
set_option linter.unusedSimpArgs false
namespace Go.Proofs.Ytljpmdeobmmhlaa.Pure
open Go.RowKit Go.Proofs.Ytljpmdeobmmhlaa.QFnExactMember Go.Proofs.YtljpmdeobmmhlaaW.PrintWords Go.Proofs.YtljpmdeobmmhlaaW.PrintLast

open impl_Json_valid in
theorem vJ_low (x : S29) (dp : Int) (hdp : dp ≠ 0) (a b : Bool) (h : hd x.f0 x.f1 x.f2 x.f3.length x.f4.length dp = some (a, b, (x.f3.length : Int) == 0, (x.f4.length : Int) == 0)) :
    vJ x dp = (a && b && (((x.f3.length : Int) == 0) && ((x.f4.length : Int) == 0))) := by
  rw [vJ_eq, if_neg hdp]
  simp only [top, h]
  rcases x with ⟨k, n, t, ns, xs⟩
  cases ns with
  | nil =>
    cases xs with
    | nil => cases a <;> cases b <;> simp [nmF, vL]
    | cons y ys =>
      have e : (((y :: ys : List S29).length : Int) == 0) = false := by simp; omega
      simp only [e]; cases a <;> cases b <;> simp
  | cons z zs =>
    have e : (((z :: zs : List ByteArray).length : Int) == 0) = false := by simp; omega
    simp only [e]; cases a <;> cases b <;> simp
theorem has_l0 (l : List ByteArray) (v : ByteArray) (hl : l.length ≤ 9223372036854775807) : ∀ (d n k : Nat), n + d = l.length → d + 1 ≤ k → spec_l01Has.l0 k l v (n : Int) = some ((l.drop n).any (fun s => decide (v.toList = s.toList))) := by
  intro d
  induction d with
  | zero =>
    intro n k h hk
    obtain ⟨k, rfl⟩ : ∃ q, k = q + 1 := ⟨k - 1, by omega⟩
    rw [spec_l01Has.l0, if_neg (by omega), List.drop_eq_nil_of_le (by omega)]; rfl
  | succ d ih =>
    intro n k h hk
    obtain ⟨k, rfl⟩ : ∃ q, k = q + 1 := ⟨k - 1, by omega⟩
    have hn : n < l.length := by omega
    have e : rdOf ByteArray.empty l (n : Int) = l[n] := by simp [rdOf, List.getD, hn]
    rw [spec_l01Has.l0, if_pos (by omega), if_pos (by omega), List.drop_eq_getElem_cons hn, e, List.any_cons]
    by_cases hq : l[n].toList = v.toList
    · rw [if_pos hq]; simp [hq]
    · rw [if_neg hq, show wrap64 ((n : Int) + 1) = ((n + 1 : Nat) : Int) from by unfold wrap64; omega, ih (n + 1) k (by omega) (by omega)]
      have : ¬ v.toList = l[n].toList := fun h => hq h.symm
      simp [this]
theorem has_is (l : List ByteArray) (v : ByteArray) (hl : l.length ≤ 9223372036854775807) (k : Nat) (hk : l.length + 1 ≤ k) : spec_l01Has.f k l v = some (l.any (fun s => decide (v.toList = s.toList))) := by
  rw [spec_l01Has.f]
  have := has_l0 l v hl l.length 0 k (by omega) hk
  rw [List.drop_zero] at this
  exact this
theorem unif {P : Nat → Nat → Prop} : ∀ n, (∀ i, i < n → ∃ K, ∀ k, K ≤ k → P i k) → ∃ K, ∀ i, i < n → ∀ k, K ≤ k → P i k := by
  intro n
  induction n with
  | zero => intro _; exact ⟨0, fun i h => by omega⟩
  | succ n ih =>
    intro h
    obtain ⟨K1, h1⟩ := ih (fun i hi => h i (by omega))
    obtain ⟨K2, h2⟩ := h n (by omega)
    refine ⟨max K1 K2, fun i hi k hk => ?_⟩
    rcases Nat.lt_succ_iff_lt_or_eq.1 hi with hi | rfl
    · exact h1 i hi k (by omega)
    · exact h2 k (by omega)
open impl_Json_valid in
theorem spec_loop (k0 n0 : Int) (t : ByteArray) (ns : List ByteArray) (xs : List S29) (dp : Int) (K : Nat) (hx : xs.length ≤ 12) (hns : k0 = 6 → ns.length = xs.length)
    (hK : ∀ i, i < xs.length → ∀ k, K ≤ k → spec_l02OK.f k (rd_T29 xs (i : Int)).f0 (rd_T29 xs (i : Int)).f1 (rd_T29 xs (i : Int)).f2 (rd_T29 xs (i : Int)).f3 (rd_T29 xs (i : Int)).f4 (wrap64 (dp - 1)) = some (vJ (rd_T29 xs (i : Int)) (wrap64 (dp - 1)))) :
    ∀ (d n k : Nat), n + d = xs.length → K + 20 + d ≤ k → spec_l02OK.l0 k dp (n : Int) k0 n0 t ns xs = some ((if k0 = 6 then nmF ns d n else true) && vL (xs.drop n) (wrap64 (dp - 1))) := by
  intro d
  induction d with
  | zero =>
    intro n k h hk
    obtain ⟨k, rfl⟩ : ∃ q, k = q + 1 := ⟨k - 1, by omega⟩
    rw [spec_l02OK.l0, if_neg (by omega), List.drop_eq_nil_of_le (by omega), nmF, vL]; simp
  | succ d ih =>
    intro n k h hk
    obtain ⟨k, rfl⟩ : ∃ q, k = q + 1 := ⟨k - 1, by omega⟩
    have hn : n < xs.length := by omega
    have e : rd_T29 xs (n : Int) = xs[n] := by simp [rd_T29, List.getD, hn]
    have hw : wrap64 ((n : Int) + 1) = ((n + 1 : Nat) : Int) := by unfold wrap64; omega
    rw [spec_l02OK.l0, if_pos (by omega), if_pos (by omega), hK n hn k (by omega), Option.bind_some, List.drop_eq_getElem_cons hn, vL, e]
    cases hv : vJ xs[n] (wrap64 (dp - 1)) with
    | false => rw [if_neg Bool.false_ne_true]; simp
    | true =>
      rw [if_pos rfl, hw, ih (n + 1) k (by omega) (by omega), Bool.true_and]
      by_cases h6 : k0 = 6
      · have hl := hns h6
        rw [if_pos h6, if_pos h6, if_pos h6, if_pos (by omega), nmF]
        by_cases hs : ((rdOf ByteArray.empty ns (n : Int)).size : Int) > 120
        · rw [if_pos hs, if_pos (by omega)]; simp
        · rw [if_neg (show ¬ (120 < ((rdOf ByteArray.empty ns (n : Int)).size : Int)) from hs), if_neg hs, if_pos (show (n : Int) ≤ (ns.length : Int) by omega), Int.toNat_natCast, has_is _ _ (by rw [List.length_take]; omega) k (by rw [List.length_take]; omega), Option.bind_some]
          split
          · simp
          · rfl
      · rw [if_neg h6, if_neg h6, if_neg h6]
open impl_Json_valid in
theorem spec_is_of (x : S29) (dp : Int) (h1 : 1 ≤ dp) (h5 : dp ≤ 5) (ih : 2 ≤ dp → ∃ K, ∀ i, i < x.f4.length → ∀ k, K ≤ k → spec_l02OK.f k (rd_T29 x.f4 (i : Int)).f0 (rd_T29 x.f4 (i : Int)).f1 (rd_T29 x.f4 (i : Int)).f2 (rd_T29 x.f4 (i : Int)).f3 (rd_T29 x.f4 (i : Int)).f4 (wrap64 (dp - 1)) = some (vJ (rd_T29 x.f4 (i : Int)) (wrap64 (dp - 1)))) :
    ∃ K, ∀ k, K ≤ k → spec_l02OK.f k x.f0 x.f1 x.f2 x.f3 x.f4 dp = some (vJ x dp) := by
  have hdp : dp ≠ 0 := by omega
  have hin : ∀ a lo hi : Int, spec_l01In.f a lo hi = some (decide (lo ≤ a) && decide (a ≤ hi)) := by
    intro a lo hi; rw [spec_l01In.f]
    by_cases h : a ≥ lo
    · rw [if_pos h, decide_eq_true (by omega : lo ≤ a)]; rfl
    · rw [if_neg h, decide_eq_false (by omega : ¬ lo ≤ a)]; rfl
  have hemp : ∀ t : ByteArray, (t.toList = ([] : List UInt8)) ↔ t.toList.isEmpty = true := fun t => by simp
  have hstart : ∀ k, spec_l02OK.f (k + 1) x.f0 x.f1 x.f2 x.f3 x.f4 dp = spec_l02OK.j0 k dp (((x.f3.length : Int) == 0) && ((x.f4.length : Int) == 0)) x.f0 x.f1 x.f2 x.f3 x.f4 := by
    intro k; rw [spec_l02OK.f]
    by_cases h : (x.f3.length : Int) = 0
    · rw [if_pos h]; simp [h]
    · rw [if_neg h]; simp only [beq_eq_false_iff_ne.mpr h, Bool.false_and]
  by_cases c1 : x.f0 = 1
  · refine ⟨2, fun k hk => ?_⟩
    obtain ⟨k, rfl⟩ : ∃ q, k = q + 2 := ⟨k - 2, by omega⟩
    rw [hstart, spec_l02OK.j0, if_pos c1, vJ_low x dp hdp (x.f1 == 0) x.f2.toList.isEmpty (by rw [hd, if_pos c1])]
    by_cases a : x.f1 = 0
    · by_cases b : x.f2.toList = []
      · rw [if_pos a, if_pos b]; simp [a, b]
      · rw [if_pos a, if_neg b]; simp [b]
    · rw [if_neg a]; simp [a]
  by_cases c2 : x.f0 = 2
  · refine ⟨2, fun k hk => ?_⟩
    obtain ⟨k, rfl⟩ : ∃ q, k = q + 2 := ⟨k - 2, by omega⟩
    rw [hstart, spec_l02OK.j0, if_neg c1, if_pos c2, vJ_low x dp hdp (decide (0 ≤ x.f1) && decide (x.f1 ≤ 1)) x.f2.toList.isEmpty (by rw [hd, if_neg c1, if_pos c2]), hin, Option.bind_some]
    cases decide (0 ≤ x.f1) && decide (x.f1 ≤ 1)
    · simp
    · by_cases b : x.f2.toList = []
      · rw [if_pos rfl, if_pos b]; simp [b]
      · rw [if_pos rfl, if_neg b]; simp [b]
  by_cases c3 : x.f0 = 3
  · refine ⟨2, fun k hk => ?_⟩
    obtain ⟨k, rfl⟩ : ∃ q, k = q + 2 := ⟨k - 2, by omega⟩
    rw [hstart, spec_l02OK.j0, if_neg c1, if_neg c2, if_pos c3, vJ_low x dp hdp (decide (-999999999 ≤ x.f1) && decide (x.f1 ≤ 999999999)) x.f2.toList.isEmpty (by rw [hd, if_neg c1, if_neg c2, if_pos c3]), hin, Option.bind_some]
    cases decide (-999999999 ≤ x.f1) && decide (x.f1 ≤ 999999999)
    · simp
    · by_cases b : x.f2.toList = []
      · rw [if_pos rfl, if_pos b]; simp [b]
      · rw [if_pos rfl, if_neg b]; simp [b]
  by_cases c4 : x.f0 = 4
  · refine ⟨2, fun k hk => ?_⟩
    obtain ⟨k, rfl⟩ : ∃ q, k = q + 2 := ⟨k - 2, by omega⟩
    rw [hstart, spec_l02OK.j0, if_neg c1, if_neg c2, if_neg c3, if_pos c4, vJ_low x dp hdp (x.f1 == 0) (decide ((x.f2.size : Int) ≤ 120)) (by rw [hd, if_neg c1, if_neg c2, if_neg c3, if_pos c4])]
    by_cases a : x.f1 = 0
    · by_cases b : (x.f2.size : Int) ≤ 120
      · rw [if_pos a, if_pos b, decide_eq_true b]; simp [a]
      · rw [if_pos a, if_neg b, decide_eq_false b]; simp
    · rw [if_neg a]; simp [a]
  have hj1F : ∀ k, spec_l02OK.j1 (k + 1) dp true x.f0 x.f1 x.f2 x.f3 x.f4 = some false := fun k => by rw [spec_l02OK.j1, if_pos rfl]
  have hj1T : ∀ k, spec_l02OK.j1 (k + 1) dp false x.f0 x.f1 x.f2 x.f3 x.f4 = spec_l02OK.l0 k dp 0 x.f0 x.f1 x.f2 x.f3 x.f4 := fun k => by rw [spec_l02OK.j1, if_neg Bool.false_ne_true]
  have hV : vJ x dp = if top x.f0 x.f1 x.f2 x.f3 x.f4.length dp = true then vL x.f4 (wrap64 (dp - 1)) else false := by rw [vJ_eq, if_neg hdp]
  have hloop : 2 ≤ dp → x.f4.length ≤ 12 → (x.f0 = 6 → x.f3.length = x.f4.length) → ∃ K, ∀ k, K ≤ k → spec_l02OK.l0 k dp 0 x.f0 x.f1 x.f2 x.f3 x.f4 = some ((if x.f0 = 6 then nmF x.f3 x.f4.length 0 else true) && vL x.f4 (wrap64 (dp - 1))) := by
    intro h2 hl hn
    obtain ⟨K, hK⟩ := ih h2
    exact ⟨K + 20 + x.f4.length, fun k hk => by have := spec_loop x.f0 x.f1 x.f2 x.f3 x.f4 dp K hl hn hK x.f4.length 0 k (by omega) hk; rwa [List.drop_zero] at this⟩
  by_cases c5 : x.f0 = 5
  · have ht : top x.f0 x.f1 x.f2 x.f3 x.f4.length dp = (((x.f1 == 0) && x.f2.toList.isEmpty && ((x.f3.length : Int) == 0) && (decide ((x.f4.length : Int) ≤ 12) && decide (1 < dp)))) := by
      have hh : hd x.f0 x.f1 x.f2 x.f3.length x.f4.length dp = some (x.f1 == 0, x.f2.toList.isEmpty, (x.f3.length : Int) == 0, decide ((x.f4.length : Int) ≤ 12) && decide (1 < dp)) := by rw [hd, if_neg c1, if_neg c2, if_neg c3, if_neg c4, if_pos c5]
      simp only [top, hh]
      split
      · rename_i hq; rw [hq]
        have : x.f3 = [] := by
          simp only [Bool.and_eq_true, beq_iff_eq] at hq
          exact List.eq_nil_of_length_eq_zero (by omega)
        rw [this]; rfl
      · rename_i hq; exact (Bool.eq_false_iff.mpr hq).symm
    rw [hV, ht]
    have hj0 : ∀ k, spec_l02OK.j0 (k + 1) dp (((x.f3.length : Int) == 0) && ((x.f4.length : Int) == 0)) x.f0 x.f1 x.f2 x.f3 x.f4 = if x.f1 = 0 then (if x.f2.toList = ([] : List UInt8) then (if dp = 1 then spec_l02OK.j1 k dp true x.f0 x.f1 x.f2 x.f3 x.f4 else if (x.f4.length : Int) > 12 then spec_l02OK.j1 k dp true x.f0 x.f1 x.f2 x.f3 x.f4 else if (x.f3.length : Int) > 0 then spec_l02OK.j1 k dp true x.f0 x.f1 x.f2 x.f3 x.f4 else spec_l02OK.j1 k dp false x.f0 x.f1 x.f2 x.f3 x.f4) else spec_l02OK.j1 k dp true x.f0 x.f1 x.f2 x.f3 x.f4) else spec_l02OK.j1 k dp true x.f0 x.f1 x.f2 x.f3 x.f4 := by
      intro k; rw [spec_l02OK.j0, if_neg c1, if_neg c2, if_neg c3, if_neg c4, if_pos c5, if_neg (by omega : ¬ x.f0 = 6)]
    by_cases hg : x.f1 = 0 ∧ x.f2.toList = [] ∧ dp ≠ 1 ∧ (x.f4.length : Int) ≤ 12 ∧ (x.f3.length : Int) = 0
    · obtain ⟨g1, g2, g3, g4, g5⟩ := hg
      obtain ⟨K, hK⟩ := hloop (by omega) (by omega) (by omega)
      refine ⟨K + 3, fun k hk => ?_⟩
      obtain ⟨k, rfl⟩ : ∃ q, k = q + 3 := ⟨k - 3, by omega⟩
      rw [hstart, hj0, if_pos g1, if_pos g2, if_neg g3, if_neg (by omega), if_neg (by omega), hj1T, hK k (by omega), if_neg (by omega : ¬ x.f0 = 6), g5, decide_eq_true g4, decide_eq_true (by omega : 1 < dp)]
      simp [g1, g2]
    · refine ⟨3, fun k hk => ?_⟩
      obtain ⟨k, rfl⟩ : ∃ q, k = q + 3 := ⟨k - 3, by omega⟩
      have hr : spec_l02OK.j0 (k + 2) dp (((x.f3.length : Int) == 0) && ((x.f4.length : Int) == 0)) x.f0 x.f1 x.f2 x.f3 x.f4 = some false := by
        rw [hj0]
        by_cases g1 : x.f1 = 0
        · by_cases g2 : x.f2.toList = []
          · rw [if_pos g1, if_pos g2]
            by_cases g3 : dp = 1
            · rw [if_pos g3, hj1F]
            · rw [if_neg g3]
              by_cases g4 : (x.f4.length : Int) > 12
              · rw [if_pos g4, hj1F]
              · rw [if_neg g4]
                by_cases g5 : (x.f3.length : Int) > 0
                · rw [if_pos g5, hj1F]
                · exact absurd ⟨g1, g2, g3, by omega, by omega⟩ hg
          · rw [if_pos g1, if_neg g2, hj1F]
        · rw [if_neg g1, hj1F]
      rw [hstart, hr]
      have hf : ¬ ((((x.f1 == 0) && x.f2.toList.isEmpty && ((x.f3.length : Int) == 0) && (decide ((x.f4.length : Int) ≤ 12) && decide (1 < dp)))) = true) := by
        intro hq
        simp only [Bool.and_eq_true, beq_iff_eq, decide_eq_true_eq, List.isEmpty_iff] at hq
        exact hg ⟨hq.1.1.1, hq.1.1.2, by omega, hq.2.1, hq.1.2⟩
      rw [if_neg hf]
  by_cases c6 : x.f0 = 6
  · have hh : hd x.f0 x.f1 x.f2 x.f3.length x.f4.length dp = some (x.f1 == 0, x.f2.toList.isEmpty, (decide ((x.f4.length : Int) ≤ 12) && decide (1 < dp)) && (x.f3.length : Int) == (x.f4.length : Int), decide ((x.f4.length : Int) ≤ 12) && decide (1 < dp)) := by rw [hd, if_neg c1, if_neg c2, if_neg c3, if_neg c4, if_neg c5, if_pos c6]
    have hj0 : ∀ k, spec_l02OK.j0 (k + 1) dp (((x.f3.length : Int) == 0) && ((x.f4.length : Int) == 0)) x.f0 x.f1 x.f2 x.f3 x.f4 = if x.f1 = 0 then (if x.f2.toList = ([] : List UInt8) then (if dp = 1 then spec_l02OK.j1 k dp true x.f0 x.f1 x.f2 x.f3 x.f4 else if (x.f4.length : Int) > 12 then spec_l02OK.j1 k dp true x.f0 x.f1 x.f2 x.f3 x.f4 else spec_l02OK.j1 k dp ((x.f3.length : Int) != (x.f4.length : Int)) x.f0 x.f1 x.f2 x.f3 x.f4) else spec_l02OK.j1 k dp true x.f0 x.f1 x.f2 x.f3 x.f4) else spec_l02OK.j1 k dp true x.f0 x.f1 x.f2 x.f3 x.f4 := by
      intro k; rw [spec_l02OK.j0, if_neg c1, if_neg c2, if_neg c3, if_neg c4, if_neg c5, if_pos c6]
    by_cases hg : x.f1 = 0 ∧ x.f2.toList = [] ∧ dp ≠ 1 ∧ (x.f4.length : Int) ≤ 12 ∧ (x.f3.length : Int) = (x.f4.length : Int)
    · obtain ⟨g1, g2, g3, g4, g5⟩ := hg
      have ht : top x.f0 x.f1 x.f2 x.f3 x.f4.length dp = nmF x.f3 x.f3.length 0 := topT hh (by simp [g1, g2, g5]; omega)
      rw [hV, ht]
      obtain ⟨K, hK⟩ := hloop (by omega) (by omega) (by omega)
      refine ⟨K + 3, fun k hk => ?_⟩
      obtain ⟨k, rfl⟩ : ∃ q, k = q + 3 := ⟨k - 3, by omega⟩
      have gn : ((x.f3.length : Int) != (x.f4.length : Int)) = false := by simp [g5]
      have gl : x.f3.length = x.f4.length := by omega
      rw [hstart, hj0, if_pos g1, if_pos g2, if_neg g3, if_neg (by omega), gn, hj1T, hK k (by omega), if_pos c6, gl]
      cases nmF x.f3 x.f4.length 0 <;> simp
    · refine ⟨3, fun k hk => ?_⟩
      obtain ⟨k, rfl⟩ : ∃ q, k = q + 3 := ⟨k - 3, by omega⟩
      have hr : spec_l02OK.j0 (k + 2) dp (((x.f3.length : Int) == 0) && ((x.f4.length : Int) == 0)) x.f0 x.f1 x.f2 x.f3 x.f4 = some false := by
        rw [hj0]
        by_cases g1 : x.f1 = 0
        · by_cases g2 : x.f2.toList = []
          · rw [if_pos g1, if_pos g2]
            by_cases g3 : dp = 1
            · rw [if_pos g3, hj1F]
            · rw [if_neg g3]
              by_cases g4 : (x.f4.length : Int) > 12
              · rw [if_pos g4, hj1F]
              · rw [if_neg g4]
                by_cases g5 : (x.f3.length : Int) = (x.f4.length : Int)
                · exact absurd ⟨g1, g2, g3, by omega, g5⟩ hg
                · rw [bne_iff_ne.mpr g5, hj1F]
          · rw [if_pos g1, if_neg g2, hj1F]
        · rw [if_neg g1, hj1F]
      have hf : ((x.f1 == 0) && x.f2.toList.isEmpty && ((decide ((x.f4.length : Int) ≤ 12) && decide (1 < dp)) && (x.f3.length : Int) == (x.f4.length : Int)) && (decide ((x.f4.length : Int) ≤ 12) && decide (1 < dp))) = false := by
        apply Bool.eq_false_iff.mpr
        intro hq
        simp only [Bool.and_eq_true, beq_iff_eq, decide_eq_true_eq, List.isEmpty_iff] at hq
        exact hg ⟨hq.1.1.1, hq.1.1.2, by omega, hq.2.1, hq.1.2.2⟩
      rw [hstart, hr, hV, topF hh hf, if_neg Bool.false_ne_true]
  · refine ⟨3, fun k hk => ?_⟩
    obtain ⟨k, rfl⟩ : ∃ q, k = q + 3 := ⟨k - 3, by omega⟩
    have hN : hd x.f0 x.f1 x.f2 x.f3.length x.f4.length dp = none := by rw [hd, if_neg c1, if_neg c2, if_neg c3, if_neg c4, if_neg c5, if_neg c6]
    have hT : top x.f0 x.f1 x.f2 x.f3 x.f4.length dp = false := by simp only [top, hN]
    rw [hstart, spec_l02OK.j0, if_neg c1, if_neg c2, if_neg c3, if_neg c4, if_neg c5, if_neg c6, hj1F, hV, hT, if_neg Bool.false_ne_true]
open impl_Json_valid in
theorem spec_is (x : S29) (dp : Int) (h1 : 1 ≤ dp) (h5 : dp ≤ 5) : ∃ K, ∀ k, K ≤ k → spec_l02OK.f k x.f0 x.f1 x.f2 x.f3 x.f4 dp = some (vJ x dp) := by
  have : ∀ n : Nat, ∀ x : S29, SizeOf.sizeOf x < n → ∀ dp : Int, 1 ≤ dp → dp ≤ 5 → ∃ K, ∀ k, K ≤ k → spec_l02OK.f k x.f0 x.f1 x.f2 x.f3 x.f4 dp = some (vJ x dp) := by
    intro n
    induction n with
    | zero => intro x h; omega
    | succ n ih =>
      intro x h dp h1 h5
      refine spec_is_of x dp h1 h5 fun h2 => unif _ fun i hi => ?_
      have hm : rd_T29 x.f4 (i : Int) ∈ x.f4 := by simp [rd_T29, List.getD, hi]
      have e1 := List.sizeOf_lt_of_mem hm
      have e2 : SizeOf.sizeOf x = 1 + SizeOf.sizeOf x.f0 + SizeOf.sizeOf x.f1 + SizeOf.sizeOf x.f2 + SizeOf.sizeOf x.f3 + SizeOf.sizeOf x.f4 := by cases x; simp
      have ew : wrap64 (dp - 1) = dp - 1 := by unfold wrap64; omega
      exact ih _ (by omega) _ (by omega) (by omega)
  exact this _ x (Nat.lt_succ_self _) dp h1 h5
open laws_szJson laws_toJson in
theorem szL_ok : ∀ (l : List ByteArray) (a : Int), (∀ y, y ∈ l → y.size ≤ 9223372036854775807) → 0 ≤ a → a ≤ 1048576 → szL l a ≤ a
  | [], a, _, _, _ => Int.le_refl _
  | t :: ts, a, h, h0, h1 => by
    have ht := h t (List.mem_cons_self ..)
    have e : wrap64 (a - (t.size : Int)) = a - (t.size : Int) := by unfold wrap64; omega
    rw [szL, e]
    split
    · omega
    · have := szL_ok ts (a - (t.size : Int)) (fun y hy => h y (List.mem_cons_of_mem _ hy)) (by omega) (by omega)
      omega
open laws_szJson laws_toJson in
mutual
theorem szJ_ok : ∀ (x : S25) (a : Int), ok25 x → 0 ≤ a → a ≤ 1048576 → 0 ≤ szJ x a → okJ x = true ∧ szJ x a ≤ a
  | ⟨k, n, t, ns, xs⟩, a, hx, h0, h1, h2 => by
    cases hx with
    | mk _ w0 w1 s2 s3 s4 s5 =>
    simp only at s2 s3 s4 s5
    have e : wrap64 (a - (t.size : Int)) = a - (t.size : Int) := by unfold wrap64; omega
    rw [szJ_eq] at h2 ⊢
    simp only [e] at h2 ⊢
    by_cases c1 : a - (t.size : Int) < 0
    · rw [if_pos c1] at h2; omega
    rw [if_neg c1] at h2 ⊢
    have eS : wrap64 (a - (t.size : Int) - (ns.length : Int)) = a - (t.size : Int) - (ns.length : Int) := by unfold wrap64; omega
    by_cases c2 : szS ns (a - (t.size : Int)) < 0
    · rw [if_pos c2] at h2; omega
    rw [if_neg c2] at h2 ⊢
    have hS : szS ns (a - (t.size : Int)) ≤ a ∧ ns.length ≤ 1048576 := by
      rw [szS, eS] at c2 ⊢
      split at c2
      · omega
      · rename_i q
        rw [if_neg q]
        have := szL_ok ns (a - (t.size : Int) - (ns.length : Int)) s3.2 (by omega) (by omega)
        omega
    generalize szS ns (a - (t.size : Int)) = b at h2 c2 hS ⊢
    by_cases c3 : szJS xs b < 0
    · rw [if_pos c3] at h2; omega
    rw [if_neg c3] at h2 ⊢
    have eJ : wrap64 (b - (xs.length : Int)) = b - (xs.length : Int) := by unfold wrap64; omega
    rw [szJS, eJ] at h2 ⊢
    by_cases c4 : b - (xs.length : Int) < 0
    · rw [if_pos c4] at h2; omega
    rw [if_neg c4] at h2 ⊢
    have hJ := szJL_ok xs (b - (xs.length : Int)) s5 (by omega) (by omega) h2
    refine ⟨?_, by omega⟩
    rw [okJ, hJ.1, decide_eq_true hS.2, decide_eq_true (by omega : xs.length ≤ 1048576)]; rfl
theorem szJL_ok : ∀ (l : List S25) (a : Int), (∀ y, y ∈ l → ok25 y) → 0 ≤ a → a ≤ 1048576 → 0 ≤ szJL l a → okJL l = true ∧ szJL l a ≤ a
  | [], a, _, _, _, h2 => by rw [okJL, szJL]; exact ⟨rfl, Int.le_refl _⟩
  | x :: xs, a, h, h0, h1, h2 => by
    rw [szJL] at h2 ⊢
    by_cases c : szJ x a < 0
    · rw [if_pos c] at h2; omega
    rw [if_neg c] at h2 ⊢
    have h3 := szJ_ok x a (h x (List.mem_cons_self ..)) h0 h1 (by omega)
    have h4 := szJL_ok xs (szJ x a) (fun y hy => h y (List.mem_cons_of_mem _ hy)) (by omega) (by omega) h2
    refine ⟨?_, by omega⟩
    rw [okJL, h3.1, h4.1]; rfl
end
mutual
theorem eqJ_self : ∀ x : S29, laws_eqJson.eqJ x x = true
  | ⟨k, n, t, ns, xs⟩ => by rw [laws_eqJson.eqJ, eqJL_self xs]; simp
theorem eqJL_self : ∀ l : List S29, laws_eqJson.eqJL l l = true
  | [] => by rw [laws_eqJson.eqJL]
  | x :: xs => by rw [laws_eqJson.eqJL, eqJ_self x, eqJL_self xs]; rfl
end

theorem wr {x : Int} (h0 : -9223372036854775808 ≤ x) (h1 : x ≤ 9223372036854775807) : wrap64 x = x := by unfold wrap64; omega

theorem strOfNums_append (a b : List Int) : strOfNums (a ++ b) = strOfNums a ++ strOfNums b := by
  apply ByteArray.ext
  rw [ByteArray.data_append]
  apply Array.toList_inj.1
  simp [strOfNums]
theorem strOfNums_size (a : List Int) : (strOfNums a).size = a.length := by
  simp [strOfNums, ByteArray.size]
theorem bt_lt (s : ByteArray) (i : Int) (h : i.toNat < s.size) : bt s i = ((s[i.toNat]'h).toNat : Int) := by simp [bt, h]
theorem extract_one (s : ByteArray) (i : Int) (h0 : 0 ≤ i) (h1 : i < s.size) : s.extract i.toNat (i + 1).toNat = strOfNums [bt s i] := by
  have hl : i.toNat < s.size := by omega
  apply ByteArray.ext
  apply Array.toList_inj.1
  rw [ByteArray.data_extract, Array.toList_extract, List.extract_eq_take_drop, show (i + 1).toNat - i.toNat = 1 by omega]
  have hl' : i.toNat < s.data.toList.length := by simpa using hl
  rw [List.drop_eq_getElem_cons hl', List.take_succ_cons, List.take_zero, bt_lt s i hl]
  simp [strOfNums]
  rfl

/-- A loop over a list, from place i on: one round, or the end. -/
theorem rdOf_at {α : Type} (z : α) (l : List α) (i : Int) (h0 : 0 ≤ i) (h1 : i < l.length) : l[i.toNat]? = some (l.getD i.toNat z) := by
  rw [List.getD_eq_getElem?_getD, List.getElem?_eq_getElem (by omega)]; rfl
theorem getD_mem {α : Type} (z : α) (l : List α) (i : Int) (h0 : 0 ≤ i) (h1 : i < l.length) : l.getD i.toNat z ∈ l := by
  rw [List.getD_eq_getElem?_getD, List.getElem?_eq_getElem (by omega)]; exact List.getElem_mem _
theorem set_take {α : Type} (l m : List α) (z : α) (i : Nat) (hi : i < l.length) (hm : m.length = l.length) (h : m.take i = l.take i) :
    (m.set i (l.getD i z)).take (i + 1) = l.take (i + 1) := by
  apply List.ext_getElem?
  intro j
  rw [List.getElem?_take, List.getElem?_take]
  by_cases hj : j < i + 1
  · rw [if_pos hj, if_pos hj]
    by_cases e : j = i
    · subst e
      rw [List.getElem?_set_self (by omega), List.getD_eq_getElem?_getD, List.getElem?_eq_getElem hi]; rfl
    · rw [List.getElem?_set_ne (by omega)]
      have := congrArg (fun t => t[j]?) h
      simp only [List.getElem?_take] at this
      rwa [if_pos (by omega), if_pos (by omega)] at this
  · rw [if_neg hj, if_neg hj]

/-- The law's own mark of a place. -/
def mT (n : Nat) : ByteArray := (⟨#[109]⟩ : ByteArray) ++ (⟨(Lib.decDigits n).toArray⟩ : ByteArray)
theorem mT_join (a b : List UInt8) : (⟨(a ++ b).toArray⟩ : ByteArray) = (⟨a.toArray⟩ : ByteArray) ++ (⟨b.toArray⟩ : ByteArray) := by
  apply ByteArray.ext
  rw [ByteArray.data_append]
  simp
theorem bytes_assoc (a b c : ByteArray) : a ++ (b ++ c) = a ++ b ++ c := by
  apply ByteArray.ext
  simp only [ByteArray.data_append, Array.append_assoc]
theorem bytes_nil (a : ByteArray) : a ++ (⟨#[]⟩ : ByteArray) = a := by
  apply ByteArray.ext
  simp only [ByteArray.data_append, Array.append_empty]
theorem one_size (x : UInt8) : (⟨#[x]⟩ : ByteArray).size = 1 := rfl
theorem markText_loop : ∀ (n : Nat), 1 ≤ n → n ≤ 1000000000000 → ∀ t : ByteArray, t.size + (Lib.decDigits n).length ≤ 1000 → Ev (fun k => laws_markText.l0 k (n : Int) t) ((⟨#[109]⟩ : ByteArray) ++ ((⟨(Lib.decDigits n).toArray⟩ : ByteArray) ++ t)) := by
  intro n
  induction n using Nat.strongRecOn with
  | _ n ih =>
  intro h1 h2 t ht
  have hd : Int.tdiv (n : Int) 10 = ((n / 10 : Nat) : Int) := by rw [Int.tdiv_eq_ediv_of_nonneg (by omega)]; omega
  have hm : Int.tmod (n : Int) 10 = ((n % 10 : Nat) : Int) := by rw [Int.tmod_eq_emod_of_nonneg (by omega)]; omega
  have e : ((48 + ((n % 10 : Nat) : Int)) % 256).toNat = 48 + n % 10 := by omega
  have e2 : strOfNums [(48 + ((n % 10 : Nat) : Int)) % 256] = (⟨#[UInt8.ofNat (48 + n % 10)]⟩ : ByteArray) := by simp only [strOfNums, List.map_cons, List.map_nil, e]
  have stp : ∀ k, laws_markText.l0 (k + 1) (n : Int) t = laws_markText.l0 k ((n / 10 : Nat) : Int) ((⟨#[UInt8.ofNat (48 + n % 10)]⟩ : ByteArray) ++ t) := fun k => by
    rw [laws_markText.l0, if_pos (by omega), hd, hm, wr (x := ((n / 10 : Nat) : Int)) (by omega) (by omega), wr (x := 48 + ((n % 10 : Nat) : Int)) (by omega) (by omega)]
    simp only [Option.bind_some, e2]
    rw [if_pos (by rw [one_size]; omega)]
  refine Ev.step (f := fun k => laws_markText.l0 k ((n / 10 : Nat) : Int) ((⟨#[UInt8.ofNat (48 + n % 10)]⟩ : ByteArray) ++ t)) stp ?_
  by_cases h : n < 10
  · have hz : n / 10 = 0 := by omega
    have hm' : n % 10 = n := by omega
    rw [hz, hm', Lib.decDigits_one h]
    exact Ev.step (f := fun _ => some ((⟨#[109]⟩ : ByteArray) ++ ((⟨#[UInt8.ofNat (48 + n)]⟩ : ByteArray) ++ t))) (fun k => by rw [laws_markText.l0, if_neg (by omega), if_pos (by rw [ByteArray.size_append, one_size]; omega)]) (Ev.now _)
  · have el : (Lib.decDigits n).length = (Lib.decDigits (n / 10)).length + 1 := by
      conv => lhs; rw [Lib.decDigits, dif_neg h]
      simp
    have e3 : (⟨(Lib.decDigits n).toArray⟩ : ByteArray) = (⟨(Lib.decDigits (n / 10)).toArray⟩ : ByteArray) ++ (⟨#[UInt8.ofNat (48 + n % 10)]⟩ : ByteArray) := by
      conv => lhs; rw [Lib.decDigits, dif_neg h]
      exact mT_join _ _
    rw [e3, ← bytes_assoc]
    exact ih (n / 10) (by omega) (by omega) (by omega) _ (by rw [ByteArray.size_append, one_size]; omega)
theorem markText_is (n : Nat) (h1 : 1 ≤ n) (h2 : n ≤ 1000000000000) : Ev (fun k => laws_markText.f k (n : Int)) (mT n) := by
  have hl : (Lib.decDigits n).length ≤ 20 := by rw [Lib.decDigits_length]; exact Lib.nDigits_le20 n (by omega)
  have := markText_loop n h1 h2 ⟨#[]⟩ (by show 0 + _ ≤ _; omega)
  rw [bytes_nil] at this
  refine Ev.congr (f := fun k => laws_markText.l0 k (n : Int) (⟨#[]⟩ : ByteArray)) (fun k => by unfold laws_markText.f; rw [if_neg (by omega)]) this
/-- The marks of a row from v on. -/
def marks (v n : Nat) : List ByteArray := (List.range n).map fun j => mT (v + j)
theorem marks_length (v n : Nat) : (marks v n).length = n := by simp [marks]
theorem marks_at (v n i : Nat) (hi : i < n) : rdOf ByteArray.empty (marks v n) (i : Int) = mT (v + i) := by
  unfold rdOf marks
  rw [Int.toNat_natCast, List.getD_eq_getElem?_getD, List.getElem?_map, List.getElem?_range hi]
  rfl

theorem heldS_loop (v n : Nat) (hv : 1 ≤ v) (hn : v + n ≤ 1000000000) : ∀ (d i : Nat), i + d = n → Ev (fun k => laws_heldStringS.l0 k (marks v n) ((v + i : Nat) : Int) (i : Int)) ((v + n : Nat) : Int)
  | 0, i, h => by
    have hi : i = n := by omega
    subst hi
    exact Ev.step (f := fun _ => some ((v + i : Nat) : Int)) (fun k => by rw [laws_heldStringS.l0, if_neg (by rw [marks_length]; omega)]) (Ev.now _)
  | d + 1, i, h => by
    refine Ev.step (f := fun k => (laws_markText.f k ((v + i : Nat) : Int)).bind fun t => if (mT (v + i)).toList = t.toList then laws_heldStringS.l0 k (marks v n) ((v + (i + 1) : Nat) : Int) ((i + 1 : Nat) : Int) else some (-1)) (fun k => ?_) (Ev.bind (markText_is (v + i) (by omega) (by omega)) ?_)
    · rw [laws_heldStringS.l0, if_pos (by rw [marks_length]; omega), if_pos (by omega), marks_at v n i (by omega), wr (x := ((v + i : Nat) : Int) + 1) (by omega) (by omega), wr (x := (i : Int) + 1) (by omega) (by omega)]
      rfl
    · simp only [if_true]
      exact heldS_loop v n hv hn d (i + 1) (by omega)
theorem heldS (v n : Nat) (hv : 1 ≤ v) (hn : v + n ≤ 1000000000) : Ev (fun k => laws_heldStringS.f k (marks v n) (v : Int)) ((v + n : Nat) : Int) := by
  unfold laws_heldStringS.f
  exact heldS_loop v n hv hn n 0 (by omega)

theorem markS_loop (v n : Nat) (hv : 1 ≤ v) (hn : v + n ≤ 1000000000) : ∀ (d i : Nat) (m : List ByteArray), i + d = n → m.length = n → m.take i = (marks v n).take i →
    Ev (fun k => laws_markStringS.l0 k m ((v + i : Nat) : Int) (i : Int)) (((v + n : Nat) : Int), marks v n)
  | 0, i, m, h, hm, ht => by
    have : m = marks v n := by rw [List.take_of_length_le (by omega), List.take_of_length_le (by rw [marks_length]; omega)] at ht; exact ht
    subst this
    have hi : i = n := by omega
    subst hi
    exact Ev.step (f := fun _ => some (((v + i : Nat) : Int), marks v i)) (fun k => by rw [laws_markStringS.l0, if_neg (by omega)]) (Ev.now _)
  | d + 1, i, m, h, hm, ht => by
    refine Ev.step (f := fun k => (laws_markText.f k ((v + i : Nat) : Int)).bind fun t => laws_markStringS.l0 k (m.set i t) ((v + (i + 1) : Nat) : Int) ((i + 1 : Nat) : Int)) (fun k => ?_) (Ev.bind (markText_is (v + i) (by omega) (by omega)) ?_)
    · rw [laws_markStringS.l0, if_pos (by omega)]
      congr 1
      funext t
      rw [if_pos (by omega), wr (x := ((v + i : Nat) : Int) + 1) (by omega) (by omega), wr (x := (i : Int) + 1) (by omega) (by omega)]
      rfl
    · refine markS_loop v n hv hn d (i + 1) _ (by omega) (by rw [List.length_set]; exact hm) ?_
      have := set_take (marks v n) m ByteArray.empty i (by rw [marks_length]; omega) (by rw [marks_length]; exact hm) ht
      have e : (marks v n).getD i ByteArray.empty = mT (v + i) := by have := marks_at v n i (by omega); unfold rdOf at this; rwa [Int.toNat_natCast] at this
      rwa [e] at this
theorem markS (l : List ByteArray) (v : Nat) (hv : 1 ≤ v) (hn : v + l.length ≤ 1000000000) : Ev (fun k => laws_markStringS.f k l (v : Int)) (((v + l.length : Nat) : Int), marks v l.length) := by
  unfold laws_markStringS.f
  exact markS_loop v l.length hv hn l.length 0 l (by omega) rfl (by simp)

/-! What is marked is held: data. -/
theorem nmS_marks (v n : Nat) : nmS mT v n = marks v n := by
  rfl
theorem rd_at {l : List S29} {i : Nat} {x : S29} (h : l[i]? = some x) : rd_T29 l (i : Int) = x := by
  rw [rd_T29, Int.toNat_natCast, List.getD_eq_getElem?_getD, h]; rfl
theorem w64p (m : Nat) (h : m ≤ 2000000000) : wrap64 ((m : Int) + 1) = ((m + 1 : Nat) : Int) := by unfold wrap64; omega
theorem held_loop (ys : List JB) : ∀ (l a : List JB) (k : Nat), 1 ≤ k → k + cntL (a ++ l) ≤ 1000000000 → (∀ x, x ∈ l → ∀ k, 1 ≤ k → k + cntL x.f4 ≤ 1000000000 → Ev (fun q => laws_heldJsonS.f q (eraL (mkL mT x.f4 k)) (k : Int)) ((k + cntL x.f4 : Nat) : Int)) →
    Ev (fun q => laws_heldJsonS.l0 q (eraL (mkL mT (a ++ l) k)) ((k + cntL a : Nat) : Int) (a.length : Int)) ((k + cntL (a ++ l) : Nat) : Int)
  | [], a, k, hk, hb, ih => by
    rw [List.append_nil]
    have i0 : ¬ ((a.length : Int) < ((eraL (mkL mT a k)).length : Int)) := by rw [eraL_len, mkL_len]; omega
    refine Ev.step (f := fun _ => some ((k + cntL a : Nat) : Int)) (fun q => ?_) (Ev.now _)
    exact (by rw [laws_heldJsonS.l0, if_neg i0] : laws_heldJsonS.l0 (q + 1) (eraL (mkL mT a k)) ((k + cntL a : Nat) : Int) (a.length : Int) = _)
  | x :: xs, a, k, hk, hb, ih => by
    have hc : cntL (a ++ x :: xs) = cntL a + (cntE x + cntL xs) := by rw [cntL_append, cntL]
    have hce := cntE_is x
    have hat : (eraL (mkL mT (a ++ x :: xs) k))[a.length]? = some (era (mkE mT x (k + cntL a))) := by
      rw [eraL_map, List.getElem?_map, mkL_append, List.getElem?_append_right (by rw [mkL_len]; exact Nat.le_refl _), mkL_len, Nat.sub_self, mkL]
      rfl
    have hrd := rd_at hat
    rw [mkE_is, era] at hrd
    generalize hm : k + cntL a = m at hrd ⊢
    have i1 : ((a.length : Nat) : Int) < ((eraL (mkL mT (a ++ x :: xs) k)).length : Int) := by rw [eraL_len, mkL_len, List.length_append, List.length_cons]; omega
    have hl := len_cnt (a ++ x :: xs)
    rw [List.length_append, List.length_cons] at hl
    have b1 : m ≤ 2000000000 := by omega
    have b2 : m + 1 ≤ 2000000000 := by omega
    have b3 : m + 2 ≤ 2000000000 := by omega
    have b4 : a.length ≤ 2000000000 := by omega
    have e0 : (a ++ [x]).length = a.length + 1 := by rw [List.length_append]; rfl
    have c1 : 1 ≤ m + 3 := by omega
    have c2 : m + 3 + x.f3.length ≤ 1000000000 := by omega
    have c3 : 1 ≤ m + 3 + x.f3.length := by omega
    have c4 : m + 3 + x.f3.length + cntL x.f4 ≤ 1000000000 := by omega
    have c5 : 1 ≤ m + 2 := by omega
    have c6 : m + 2 ≤ 1000000000000 := by omega
    have i2 : (0 : Int) ≤ ((a.length : Nat) : Int) := by omega
    have e : m + 3 + x.f3.length + cntL x.f4 = k + (cntL a + cntE x) := by omega
    have n1 : ¬ (((m + 3 + x.f3.length : Nat) : Int) < 0) := by omega
    have n2 : ¬ (((m + 3 + x.f3.length + cntL x.f4 : Nat) : Int) < 0) := by omega
    have nx := held_loop ys xs (a ++ [x]) k hk (by rw [List.append_assoc]; exact hb) (fun y hy => ih y (List.mem_cons_of_mem _ hy))
    rw [List.append_assoc, List.singleton_append, cntL_append, cntL, cntL, Nat.add_zero] at nx
    have hS := heldS (m + 3) x.f3.length c1 c2
    rw [← nmS_marks] at hS
    have hI := ih x List.mem_cons_self (m + 3 + x.f3.length) c3 c4
    refine Ev.step (fun q => by rw [laws_heldJsonS.l0, if_pos i1, if_pos i2, hrd]) ?_
    have w4 := w64p a.length b4
    rw [← e0] at w4
    simp only [w64p m b1, w64p (m + 1) b2, w64p (m + 2) b3, w4, if_true]
    refine Ev.bind (markText_is (m + 2) c5 c6) ?_
    simp only [if_true]
    refine Ev.bind hS ?_
    simp only [if_neg n1]
    refine Ev.bind hI ?_
    simp only [if_neg n2]
    rw [e]
    exact nx
theorem heldE (x : JB) : ∀ k, 1 ≤ k → k + cntL x.f4 ≤ 1000000000 → Ev (fun q => laws_heldJsonS.f q (eraL (mkL mT x.f4 k)) (k : Int)) ((k + cntL x.f4 : Nat) : Int) := by
  refine ind_ (p := fun x => ∀ k, 1 ≤ k → k + cntL x.f4 ≤ 1000000000 → Ev (fun q => laws_heldJsonS.f q (eraL (mkL mT x.f4 k)) (k : Int)) ((k + cntL x.f4 : Nat) : Int)) (fun x ih => ?_) x
  intro k hk hb
  have h := held_loop [] x.f4 [] k hk (by rw [List.nil_append]; exact hb) ih
  rw [List.nil_append, cntL, Nat.add_zero] at h
  exact Ev.step (fun q => by rw [laws_heldJsonS.f]; rfl) h
/-- laws.heldJson holds what laws.markJson wrote. -/
theorem heldJ (a b : Int) (s : ByteArray) (x : JB) (k : Nat) (hk : 1 ≤ k) (hb : k + x.f3.length + cntL x.f4 ≤ 1000000000) : Ev (fun q => laws_heldJson.f q a b s (nmS mT k x.f3.length) (eraL (mkL mT x.f4 (k + x.f3.length))) (k : Int)) ((k + x.f3.length + cntL x.f4 : Nat) : Int) := by
  have h1 := heldS k x.f3.length hk (by omega)
  rw [← nmS_marks] at h1
  have h2 := heldE x (k + x.f3.length) (by omega) hb
  have n1 : ¬ (((k + x.f3.length : Nat) : Int) < 0) := by omega
  have n2 : ¬ (((k + x.f3.length + cntL x.f4 : Nat) : Int) < 0) := by omega
  unfold laws_heldJson.f
  refine Ev.bind h1 ?_
  simp only [if_neg n1]
  refine Ev.bind h2 ?_
  simp only [if_neg n2]
  exact Ev.now _
/-! What the walks of the marks ask (wip/member: markL_, markJ_). -/
theorem markT_pre : ∀ v : Nat, 1 ≤ v → v ≤ 1000000000 → ∃ q, laws_markText.f q (v : Int) = some (mT v) := fun v h1 h2 => by
  obtain ⟨q, hq⟩ := markText_is v h1 (by omega)
  exact ⟨q, hq q (Nat.le_refl q)⟩
theorem markS_pre : ∀ (l : List ByteArray) (v : Nat), 1 ≤ v → v + l.length ≤ 1000000000 → ∃ q, laws_markStringS.f q l (v : Int) = some (((v + l.length : Nat) : Int), nmS mT v l.length) := fun l v h1 h2 => by
  obtain ⟨q, hq⟩ := markS l v h1 h2
  exact ⟨q, hq q (Nat.le_refl q)⟩

/-! How many marks a value takes: a number of the value without its blocks. -/
mutual
def cJ : S29 → Nat
  | ⟨_, _, _, ns, xs⟩ => 3 + ns.length + cJL xs
def cJL : List S29 → Nat
  | [] => 0
  | x :: xs => cJ x + cJL xs
end
theorem cJ_eq (x : S29) : cJ x = 3 + x.f3.length + cJL x.f4 := by cases x; rw [cJ]
mutual
theorem cntE_era : ∀ x : JB, cntE x = cJ (era x)
  | ⟨a, b, c, d, o3, e, o4⟩ => by rw [cntE, era, cJ, cntL_era e]
theorem cntL_era : ∀ l : List JB, cntL l = cJL (eraL l)
  | [] => by rw [cntL, eraL, cJL]
  | x :: xs => by rw [cntL, eraL, cJL, cntE_era x, cntL_era xs]
end
theorem len_cJL (l : List S29) : l.length ≤ cJL l := by
  induction l with
  | nil => exact Nat.zero_le _
  | cons x xs ih => rw [cJL, cJ_eq, List.length_cons]; omega
theorem cJ_mem {l : List S29} {x : S29} (h : x ∈ l) : cJ x ≤ cJL l := by
  induction l with
  | nil => cases h
  | cons y ys ih =>
    rw [cJL]
    rcases List.mem_cons.1 h with rfl | h
    · omega
    · have := ih h; omega
open laws_szJson laws_toJson in
mutual
theorem szJ_cnt : ∀ (x : S25) (a : Int), ok25 x → 0 ≤ a → a ≤ 1048576 → 0 ≤ szJ x a → ((x.f3.length + cJL (toJL x.f4) : Nat) : Int) ≤ 3 * (a - szJ x a)
  | ⟨k, n, t, ns, xs⟩, a, hx, h0, h1, h2 => by
    have hok := szJ_ok ⟨k, n, t, ns, xs⟩ a hx h0 h1 h2
    cases hx with
    | mk _ w0 w1 s2 s3 s4 s5 =>
    simp only at s2 s3 s4 s5
    have e : wrap64 (a - (t.size : Int)) = a - (t.size : Int) := by unfold wrap64; omega
    rw [szJ_eq] at h2 ⊢
    simp only [e] at h2 ⊢
    by_cases c1 : a - (t.size : Int) < 0
    · rw [if_pos c1] at h2; omega
    rw [if_neg c1] at h2 ⊢
    have eS : wrap64 (a - (t.size : Int) - (ns.length : Int)) = a - (t.size : Int) - (ns.length : Int) := by unfold wrap64; omega
    by_cases c2 : szS ns (a - (t.size : Int)) < 0
    · rw [if_pos c2] at h2; omega
    rw [if_neg c2] at h2 ⊢
    have hS : szS ns (a - (t.size : Int)) ≤ a - (ns.length : Int) := by
      rw [szS, eS] at c2 ⊢
      split at c2
      · omega
      · rename_i q
        rw [if_neg q]
        have := szL_ok ns (a - (t.size : Int) - (ns.length : Int)) s3.2 (by omega) (by omega)
        omega
    generalize szS ns (a - (t.size : Int)) = b at h2 c2 hS ⊢
    by_cases c3 : szJS xs b < 0
    · rw [if_pos c3] at h2; omega
    rw [if_neg c3] at h2 ⊢
    have eJ : wrap64 (b - (xs.length : Int)) = b - (xs.length : Int) := by unfold wrap64; omega
    rw [szJS, eJ] at h2 ⊢
    by_cases c4 : b - (xs.length : Int) < 0
    · rw [if_pos c4] at h2; omega
    rw [if_neg c4] at h2 ⊢
    have hJ := szJL_cnt xs (b - (xs.length : Int)) s5 (by omega) (by omega) h2
    omega
theorem szJL_cnt : ∀ (l : List S25) (a : Int), (∀ y, y ∈ l → ok25 y) → 0 ≤ a → a ≤ 1048576 → 0 ≤ szJL l a → ((cJL (toJL l) : Nat) : Int) ≤ 3 * (l.length : Int) + 3 * (a - szJL l a)
  | [], a, _, _, _, h2 => by rw [toJL, szJL, cJL]; simp
  | x :: xs, a, h, h0, h1, h2 => by
    rw [szJL] at h2 ⊢
    by_cases c : szJ x a < 0
    · rw [if_pos c] at h2; omega
    rw [if_neg c] at h2 ⊢
    have h5 := szJ_ok x a (h x (List.mem_cons_self ..)) h0 h1 (by omega)
    have h3 := szJ_cnt x a (h x (List.mem_cons_self ..)) h0 h1 (by omega)
    have h4 := szJL_cnt xs (szJ x a) (fun y hy => h y (List.mem_cons_of_mem _ hy)) (by omega) (by omega) h2
    have e : cJ (toJ x) = 3 + x.f3.length + cJL (toJL x.f4) := by cases x; rw [toJ, cJ]
    rw [toJL, cJL, e, List.length_cons]
    omega
end
/-! A copy is the value. -/
theorem rdT_mem {l : List S29} {n : Nat} (h : n < l.length) : rd_T29 l (n : Int) ∈ l := by simp [rd_T29, List.getD, h]
theorem snoc_T {l : List S29} {n : Nat} (h : n < l.length) : l.take n ++ [(⟨(rd_T29 l (n : Int)).f0, (rd_T29 l (n : Int)).f1, (rd_T29 l (n : Int)).f2, (rd_T29 l (n : Int)).f3, (rd_T29 l (n : Int)).f4⟩ : S29)] = l.take (n + 1) := by
  have e : rd_T29 l (n : Int) = l[n] := by simp [rd_T29, List.getD, h]
  rw [e, List.take_add_one, List.getElem?_eq_getElem h]
  cases l[n]; rfl
theorem copyS_loop (a0 a1 : Int) (a2 : ByteArray) (ns : List ByteArray) (xs : List S29) (hb : xs.length ≤ 1000000000) (hn : ns.length ≤ 1000000000) (K : Nat)
    (hK : ∀ i, i < xs.length → ∀ k, K ≤ k → spec_l02Copy.f k (rd_T29 xs (i : Int)).f0 (rd_T29 xs (i : Int)).f1 (rd_T29 xs (i : Int)).f2 (rd_T29 xs (i : Int)).f3 (rd_T29 xs (i : Int)).f4 = some ((rd_T29 xs (i : Int)).f0, (rd_T29 xs (i : Int)).f1, (rd_T29 xs (i : Int)).f2, (rd_T29 xs (i : Int)).f3, (rd_T29 xs (i : Int)).f4)) :
    ∀ (d n k : Nat), n + d = xs.length → K + d + 1 ≤ k → spec_l02Copy.l0 k (xs.take n) (n : Int) a0 a1 a2 ns xs = some (a0, a1, a2, ns, xs) := by
  intro d
  induction d with
  | zero =>
    intro n k h hk
    obtain ⟨k, rfl⟩ : ∃ q, k = q + 1 := ⟨k - 1, by omega⟩
    rw [spec_l02Copy.l0, if_neg (by omega), Option.bind_some, if_pos (by simp only [List.length_nil]; omega), List.take_of_length_le (by omega), List.nil_append]
  | succ d ih =>
    intro n k h hk
    obtain ⟨k, rfl⟩ : ∃ q, k = q + 1 := ⟨k - 1, by omega⟩
    rw [spec_l02Copy.l0, if_pos (by omega), if_pos (by omega), hK n (by omega) k (by omega), Option.bind_some]
    simp only
    rw [if_pos (by rw [List.length_take]; omega), snoc_T (by omega), show wrap64 ((n : Int) + 1) = ((n + 1 : Nat) : Int) from by unfold wrap64; omega]
    exact ih (n + 1) k (by omega) (by omega)
theorem copyI_loop (a0 a1 : Int) (a2 : ByteArray) (ns : List ByteArray) (xs : List S29) (hb : xs.length ≤ 1000000000) (hn : ns.length ≤ 1000000000) (K : Nat)
    (hK : ∀ i, i < xs.length → ∀ k, K ≤ k → impl_Json_copied.f k (rd_T29 xs (i : Int)).f0 (rd_T29 xs (i : Int)).f1 (rd_T29 xs (i : Int)).f2 (rd_T29 xs (i : Int)).f3 (rd_T29 xs (i : Int)).f4 = some ((rd_T29 xs (i : Int)).f0, (rd_T29 xs (i : Int)).f1, (rd_T29 xs (i : Int)).f2, (rd_T29 xs (i : Int)).f3, (rd_T29 xs (i : Int)).f4)) :
    ∀ (d n k : Nat), n + d = xs.length → K + d + 1 ≤ k → impl_Json_copied.l0 k (xs.take n) xs (xs.length : Int) (n : Int) a0 a1 a2 ns xs = some (a0, a1, a2, ns, xs) := by
  intro d
  induction d with
  | zero =>
    intro n k h hk
    obtain ⟨k, rfl⟩ : ∃ q, k = q + 1 := ⟨k - 1, by omega⟩
    rw [impl_Json_copied.l0, if_neg (by omega), slices_Clone_string_string.f, if_pos (by omega), Option.bind_some, List.take_of_length_le (by omega)]
  | succ d ih =>
    intro n k h hk
    obtain ⟨k, rfl⟩ : ∃ q, k = q + 1 := ⟨k - 1, by omega⟩
    rw [impl_Json_copied.l0, if_pos (by omega), if_pos (by omega), if_pos (by omega), hK n (by omega) k (by omega), Option.bind_some]
    simp only
    rw [if_pos (by rw [List.length_take]; omega), snoc_T (by omega), show wrap64 ((n : Int) + 1) = ((n + 1 : Nat) : Int) from by unfold wrap64; omega]
    exact ih (n + 1) k (by omega) (by omega)
theorem sizeT (x : S29) : SizeOf.sizeOf x = 1 + SizeOf.sizeOf x.f0 + SizeOf.sizeOf x.f1 + SizeOf.sizeOf x.f2 + SizeOf.sizeOf x.f3 + SizeOf.sizeOf x.f4 := by cases x; simp
theorem copy_both (x : S29) : x.f3.length + cJL x.f4 ≤ 1000000000 → ∃ K, ∀ k, K ≤ k → spec_l02Copy.f k x.f0 x.f1 x.f2 x.f3 x.f4 = some (x.f0, x.f1, x.f2, x.f3, x.f4) ∧ impl_Json_copied.f k x.f0 x.f1 x.f2 x.f3 x.f4 = some (x.f0, x.f1, x.f2, x.f3, x.f4) := by
  have : ∀ n : Nat, ∀ x : S29, SizeOf.sizeOf x < n → x.f3.length + cJL x.f4 ≤ 1000000000 → ∃ K, ∀ k, K ≤ k → spec_l02Copy.f k x.f0 x.f1 x.f2 x.f3 x.f4 = some (x.f0, x.f1, x.f2, x.f3, x.f4) ∧ impl_Json_copied.f k x.f0 x.f1 x.f2 x.f3 x.f4 = some (x.f0, x.f1, x.f2, x.f3, x.f4) := by
    intro n
    induction n with
    | zero => intro x h; omega
    | succ n ih =>
      intro x h hb
      have hl := len_cJL x.f4
      obtain ⟨K, hK⟩ := unif (P := fun i k => spec_l02Copy.f k (rd_T29 x.f4 (i : Int)).f0 (rd_T29 x.f4 (i : Int)).f1 (rd_T29 x.f4 (i : Int)).f2 (rd_T29 x.f4 (i : Int)).f3 (rd_T29 x.f4 (i : Int)).f4 = some ((rd_T29 x.f4 (i : Int)).f0, (rd_T29 x.f4 (i : Int)).f1, (rd_T29 x.f4 (i : Int)).f2, (rd_T29 x.f4 (i : Int)).f3, (rd_T29 x.f4 (i : Int)).f4) ∧
          impl_Json_copied.f k (rd_T29 x.f4 (i : Int)).f0 (rd_T29 x.f4 (i : Int)).f1 (rd_T29 x.f4 (i : Int)).f2 (rd_T29 x.f4 (i : Int)).f3 (rd_T29 x.f4 (i : Int)).f4 = some ((rd_T29 x.f4 (i : Int)).f0, (rd_T29 x.f4 (i : Int)).f1, (rd_T29 x.f4 (i : Int)).f2, (rd_T29 x.f4 (i : Int)).f3, (rd_T29 x.f4 (i : Int)).f4)) x.f4.length fun i hi => by
        have hm := rdT_mem hi
        have e1 := List.sizeOf_lt_of_mem hm
        have e2 := sizeT x
        have e3 := cJ_mem hm
        rw [cJ_eq] at e3
        exact ih _ (by omega) (by omega)
      refine ⟨K + x.f4.length + 2, fun k hk => ?_⟩
      obtain ⟨k, rfl⟩ : ∃ q, k = q + 1 := ⟨k - 1, by omega⟩
      have h1 := copyS_loop x.f0 x.f1 x.f2 x.f3 x.f4 (by omega) (by omega) K (fun i hi k hk => (hK i hi k hk).1) x.f4.length 0 k (by omega) (by omega)
      have h2 := copyI_loop x.f0 x.f1 x.f2 x.f3 x.f4 (by omega) (by omega) K (fun i hi k hk => (hK i hi k hk).2) x.f4.length 0 k (by omega) (by omega)
      rw [List.take_zero] at h1 h2
      exact ⟨by rw [spec_l02Copy.f]; exact h1, by rw [impl_Json_copied.f]; exact h2⟩
  exact this _ x (Nat.lt_succ_self _)
/-! The item with a name. -/
def fnd (ns : List ByteArray) (nm : ByteArray) : Nat → Nat → Option Nat
  | 0, _ => none
  | d + 1, i => if (rdOf ByteArray.empty ns (i : Int)).toList = nm.toList then some i else fnd ns nm d (i + 1)
theorem fnd_lt (ns : List ByteArray) (nm : ByteArray) : ∀ d i j, fnd ns nm d i = some j → j < i + d := by
  intro d
  induction d with
  | zero => intro i j h; rw [fnd] at h; cases h
  | succ d ih =>
    intro i j h
    rw [fnd] at h
    split at h
    · cases h; omega
    · have := ih (i + 1) j h; omega
theorem findS (ns : List ByteArray) (nm : ByteArray) (xs : List S29) (a0 a1 : Int) (a2 : ByteArray) (hl : ns.length = xs.length) (hb : ns.length ≤ 1000000000) : ∀ (d n k : Nat), n + d = ns.length → 2 * d + 2 ≤ k →
    spec_l02Member.l0 k nm (n : Int) a0 a1 a2 ns xs = some (match fnd ns nm d n with | some i => ((rd_T29 xs (i : Int)).f0, (rd_T29 xs (i : Int)).f1, (rd_T29 xs (i : Int)).f2, (rd_T29 xs (i : Int)).f3, (rd_T29 xs (i : Int)).f4, true) | none => (0, 0, (⟨#[]⟩ : ByteArray), [], [], false)) := by
  intro d
  induction d with
  | zero =>
    intro n k h hk
    obtain ⟨k, rfl⟩ : ∃ q, k = q + 2 := ⟨k - 2, by omega⟩
    rw [spec_l02Member.l0, if_neg (by omega), spec_l02Member.j1, if_neg (by decide), fnd]
  | succ d ih =>
    intro n k h hk
    obtain ⟨k, rfl⟩ : ∃ q, k = q + 2 := ⟨k - 2, by omega⟩
    have e : decide ((n : Int) < (xs.length : Int)) = true := decide_eq_true (by omega)
    rw [spec_l02Member.l0, if_pos (by omega), e, spec_l02Member.j1, if_pos rfl, if_pos (by omega), if_pos (by omega), fnd]
    by_cases hq : (rdOf ByteArray.empty ns (n : Int)).toList = nm.toList
    · rw [if_pos hq, if_pos hq, if_pos (by omega)]
    · rw [if_neg hq, if_neg hq, show wrap64 ((n : Int) + 1) = ((n + 1 : Nat) : Int) from by unfold wrap64; omega]
      exact ih (n + 1) k (by omega) (by omega)
theorem findI (ns : List ByteArray) (nm : ByteArray) (hb : ns.length ≤ 1000000000) : ∀ (d n k : Nat), n + d = ns.length → d + 1 ≤ k →
    slices_Index_string_string.l0 k ns nm (ns.length : Int) (n : Int) = some (match fnd ns nm d n with | some i => (i : Int) | none => -1) := by
  intro d
  induction d with
  | zero =>
    intro n k h hk
    obtain ⟨k, rfl⟩ : ∃ q, k = q + 1 := ⟨k - 1, by omega⟩
    rw [slices_Index_string_string.l0, if_neg (by omega), fnd]
  | succ d ih =>
    intro n k h hk
    obtain ⟨k, rfl⟩ : ∃ q, k = q + 1 := ⟨k - 1, by omega⟩
    rw [slices_Index_string_string.l0, if_pos (by omega), if_pos (by omega), if_pos (by omega), fnd]
    by_cases hq : (rdOf ByteArray.empty ns (n : Int)).toList = nm.toList
    · rw [if_pos hq.symm, if_pos hq]
    · rw [if_neg (fun h => hq h.symm), if_neg hq, show wrap64 ((n : Int) + 1) = ((n + 1 : Nat) : Int) from by unfold wrap64; omega]
      exact ih (n + 1) k (by omega) (by omega)
theorem first3 (a b c : Int) (k : Nat) (hk : 4 ≤ k) : impl_first.f k [a, b, c] = some (if a = 0 then (if b = 0 then (if c = 0 then 0 else c) else b) else a) := by
  obtain ⟨k, rfl⟩ : ∃ q, k = q + 4 := ⟨k - 4, by omega⟩
  have w1 : wrap64 (0 + 1) = 1 := by unfold wrap64; omega
  have w2 : wrap64 (1 + 1) = 2 := by unfold wrap64; omega
  have w3 : wrap64 (2 + 1) = 3 := by unfold wrap64; omega
  have r0 : rd [a, b, c] 0 = a := rfl
  have r1 : rd [a, b, c] 1 = b := rfl
  have r2 : rd [a, b, c] 2 = c := rfl
  rw [impl_first.f]
  show impl_first.l0 (k + 4) [a, b, c] 3 0 = _
  rw [impl_first.l0, if_pos (by decide), if_pos (by decide), if_pos (show (0 : Int) < (([a, b, c] : List Int).length : Int) from by show (0 : Int) < ((3 : Nat) : Int); decide), r0, w1]
  by_cases h0 : a = 0
  · rw [if_pos h0, if_pos h0, impl_first.l0, if_pos (by decide), if_pos (by decide), if_pos (show (1 : Int) < (([a, b, c] : List Int).length : Int) from by show (1 : Int) < ((3 : Nat) : Int); decide), r1, w2]
    by_cases h1 : b = 0
    · rw [if_pos h1, if_pos h1, impl_first.l0, if_pos (by decide), if_pos (by decide), if_pos (show (2 : Int) < (([a, b, c] : List Int).length : Int) from by show (2 : Int) < ((3 : Nat) : Int); decide), r2, w3]
      by_cases h2 : c = 0
      · rw [if_pos h2, if_pos h2, impl_first.l0, if_neg (by decide)]
      · rw [if_neg h2, if_neg h2]
    · rw [if_neg h1, if_neg h1]
  · rw [if_neg h0, if_neg h0]
open impl_Json_valid in
theorem vJ_six (a0 a1 : Int) (a2 : ByteArray) (ns : List ByteArray) (xs : List S29) (h : vJ ⟨a0, a1, a2, ns, xs⟩ 5 = true) (h6 : a0 = 6) : ns.length = xs.length := by
  rw [vJ_eq, if_neg (by decide)] at h
  simp only at h
  split at h
  · rename_i ht
    subst h6
    have hh : hd 6 a1 a2 (ns.length : Int) (xs.length : Int) 5 = some (a1 == 0, a2.toList.isEmpty, (decide ((xs.length : Int) ≤ 12) && decide ((1 : Int) < 5)) && (ns.length : Int) == (xs.length : Int), decide ((xs.length : Int) ≤ 12) && decide ((1 : Int) < 5)) := by
      rw [hd, if_neg (by decide), if_neg (by decide), if_neg (by decide), if_neg (by decide), if_neg (by decide), if_pos rfl]
    simp only [top, hh] at ht
    split at ht
    · rename_i hq
      simp only [Bool.and_eq_true, beq_iff_eq] at hq
      have := hq.1.2.2
      omega
    · cases ht
  · cases h
theorem member_same (a0 a1 : Int) (a2 : ByteArray) (ns : List ByteArray) (xs : List S29) (nm : ByteArray) (hb : ns.length + cJL xs ≤ 900000000) : ∃ (r1 r2 : Int) (r3 : ByteArray) (r4 : List ByteArray) (r5 : List S29) (r6 : Int) (K : Nat),
    (∀ k, K ≤ k → spec_Member.f k a0 a1 a2 ns xs nm = some (r1, r2, r3, r4, r5, r6) ∧ impl_Member.f k a0 a1 a2 ns xs nm = some (r1, r2, r3, r4, r5, r6)) ∧ r4.length + cJL r5 ≤ 900000000 := by
  obtain ⟨K, hK⟩ := spec_is ⟨a0, a1, a2, ns, xs⟩ 5 (by omega) (by omega)
  simp only at hK
  have hfst : ∀ k, 4 ≤ k → impl_Member.f k a0 a1 a2 ns xs nm = (impl_first.f k [if (nm.size : Int) ≤ 65536 then 0 else 2, if impl_Json_valid.vJ ⟨a0, a1, a2, ns, xs⟩ 5 = true then 0 else 1, if a0 = 6 then 0 else 9]).bind fun t209 => (if t209 = 0 then ((impl_Json_member.f k a0 a1 a2 ns xs nm).bind fun bt210 => (if bt210.2.2.2.2.2 = true then ((impl_Json_copied.f k bt210.1 bt210.2.1 bt210.2.2.1 bt210.2.2.2.1 bt210.2.2.2.2.1).bind fun bt221 => (some (bt221.1, bt221.2.1, bt221.2.2.1, bt221.2.2.2.1, bt221.2.2.2.2, 0))) else (some (0, 0, (⟨#[]⟩ : ByteArray), ([] : List ByteArray), ([] : List S29), 5)))) else (some (0, 0, (⟨#[]⟩ : ByteArray), ([] : List ByteArray), ([] : List S29), t209))) := by
    intro k hk
    simp only [impl_Member.f, impl_long.f, impl_unless.f, impl_JsonOK.f, impl_Json_valid.f, Option.bind_some, decide_eq_true_eq, beq_iff_eq]
    have e1 : ((if (nm.size : Int) ≤ 65536 then some (0 : Int) else some 2).bind fun t => some t) = some (if (nm.size : Int) ≤ 65536 then 0 else 2) := by split <;> rfl
    have e2 : (if impl_Json_valid.vJ ⟨a0, a1, a2, ns, xs⟩ 5 = true then some (0 : Int) else some 1) = some (if impl_Json_valid.vJ ⟨a0, a1, a2, ns, xs⟩ 5 = true then 0 else 1) := by split <;> rfl
    have e3 : (if a0 = 6 then some (0 : Int) else some 9) = some (if a0 = 6 then 0 else 9) := by split <;> rfl
    rw [e1, e2, e3]
    rfl
  by_cases c1 : (nm.size : Int) ≤ 65536
  case neg =>
    refine ⟨0, 0, ⟨#[]⟩, [], [], 2, 4, fun k hk => ⟨by rw [spec_Member.f, if_pos (by omega)], ?_⟩, by simp [cJL]⟩
    rw [hfst k hk, first3 _ _ _ k hk, if_neg c1]; rfl
  cases hv : impl_Json_valid.vJ ⟨a0, a1, a2, ns, xs⟩ 5 with
  | false =>
    refine ⟨0, 0, ⟨#[]⟩, [], [], 1, K + 4, fun k hk => ⟨?_, ?_⟩, by simp [cJL]⟩
    · rw [spec_Member.f, if_neg (by omega), hK k (by omega), hv]; rfl
    · rw [hfst k (by omega), first3 _ _ _ k (by omega), if_pos c1, hv]; rfl
  | true =>
    by_cases c6 : a0 = 6
    case neg =>
      refine ⟨0, 0, ⟨#[]⟩, [], [], 9, K + 4, fun k hk => ⟨?_, ?_⟩, by simp [cJL]⟩
      · rw [spec_Member.f, if_neg (by omega), hK k (by omega), hv, Option.bind_some, if_pos rfl, if_neg c6]
      · rw [hfst k (by omega), first3 _ _ _ k (by omega), if_pos c1, hv, if_neg c6]; rfl
    have hl := vJ_six a0 a1 a2 ns xs hv c6
    have hx := len_cJL xs
    have hS := findS ns nm xs a0 a1 a2 hl (by omega) ns.length 0
    have hI := findI ns nm (by omega) ns.length 0
    have hlt := fnd_lt ns nm ns.length 0
    cases hf : fnd ns nm ns.length 0 with
    | none =>
      rw [hf] at hS hI
      refine ⟨0, 0, ⟨#[]⟩, [], [], 5, K + 4 + 2 * ns.length, fun k hk => ⟨?_, ?_⟩, by simp [cJL]⟩
      · rw [spec_Member.f, if_neg (by omega), hK k (by omega), hv, Option.bind_some, if_pos rfl, if_pos c6, spec_l02Member.f]
        have := hS k (by omega) (by omega)
        rw [Int.natCast_zero] at this
        rw [this]; rfl
      · rw [hfst k (by omega), first3 _ _ _ k (by omega), if_pos c1, hv, if_pos c6, impl_Json_member.f, slices_Index_string_string.f]
        have := hI k (by omega) (by omega)
        rw [Int.natCast_zero] at this
        rw [this]; rfl
    | some i =>
      rw [hf] at hS hI
      have hi : i < xs.length := by have := hlt i hf; omega
      have hm := rdT_mem hi
      have hc := cJ_mem hm
      rw [cJ_eq] at hc
      obtain ⟨K2, hK2⟩ := copy_both (rd_T29 xs (i : Int)) (by omega)
      refine ⟨(rd_T29 xs (i : Int)).f0, (rd_T29 xs (i : Int)).f1, (rd_T29 xs (i : Int)).f2, (rd_T29 xs (i : Int)).f3, (rd_T29 xs (i : Int)).f4, 0, K + K2 + 4 + 2 * ns.length, fun k hk => ⟨?_, ?_⟩, by omega⟩
      · rw [spec_Member.f, if_neg (by omega), hK k (by omega), hv, Option.bind_some, if_pos rfl, if_pos c6, spec_l02Member.f]
        have := hS k (by omega) (by omega)
        rw [Int.natCast_zero] at this
        rw [this, Option.bind_some]
        simp only
        rw [if_pos trivial, (hK2 k (by omega)).1]
        rfl
      · have := hI k (by omega) (by omega)
        rw [Int.natCast_zero] at this
        have hm : impl_Json_member.f k a0 a1 a2 ns xs nm = some ((rd_T29 xs (i : Int)).f0, (rd_T29 xs (i : Int)).f1, (rd_T29 xs (i : Int)).f2, (rd_T29 xs (i : Int)).f3, (rd_T29 xs (i : Int)).f4, true) := by
          rw [impl_Json_member.f, slices_Index_string_string.f, this, Option.bind_some]
          simp only
          rw [if_neg (by omega), if_pos (by omega), if_pos (by omega)]
        rw [hfst k (by omega), first3 _ _ _ k (by omega), if_pos c1, hv, if_pos c6, if_pos rfl, if_pos rfl, if_pos rfl, Option.bind_some, if_pos rfl, hm, Option.bind_some]
        simp only
        rw [if_pos trivial, (hK2 k (by omega)).2]
        rfl

theorem FnExactMember : True := trivial

end Go.Proofs.Ytljpmdeobmmhlaa.Pure
