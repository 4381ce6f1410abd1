/- The program's SameJson answers as the reference's at every two values; no condition. -/
import Derived.Test.YtmfnaaeglfhnmaaQFnExactSameJsonx7
set_option linter.unusedVariables false
set_option linter.unusedSimpArgs false
namespace Go.Proofs.Ytmfnaaeglfhnmaa.Pure
open Go.RowKit Go.Proofs.Ytmfnaaeglfhnmaa.QFnExactSameJson Go.Proofs.YtmfnaaeglfhnmaaW.PrintWords Go.Proofs.YtmfnaaeglfhnmaaW.PrintLast

open impl_Json_valid in
theorem vJ_low (x : S88) (dp : Int) (hdp : dp ≠ 0) (a b : Bool) (h : hd x.f0 x.f1 x.f2 x.f3.length x.f4.length dp = some (a, b, (x.f3.length : Int) == 0, (x.f4.length : Int) == 0)) :
    vJ x dp = (a && b && (((x.f3.length : Int) == 0) && ((x.f4.length : Int) == 0))) := by
  rw [vJ_eq, if_neg hdp]
  simp only [top, h]
  rcases x with ⟨k, n, t, ns, xs⟩
  cases ns with
  | nil =>
    cases xs with
    | nil => cases a <;> cases b <;> simp [nmF, vL]
    | cons y ys =>
      have e : (((y :: ys : List S88).length : Int) == 0) = false := by simp; omega
      simp only [e]; cases a <;> cases b <;> simp
  | cons z zs =>
    have e : (((z :: zs : List ByteArray).length : Int) == 0) = false := by simp; omega
    simp only [e]; cases a <;> cases b <;> simp
theorem has_l0 (l : List ByteArray) (v : ByteArray) (hl : l.length ≤ 9223372036854775807) : ∀ (d n k : Nat), n + d = l.length → d + 1 ≤ k → spec_l01Has.l0 k l v (n : Int) = some ((l.drop n).any (fun s => decide (v.toList = s.toList))) := by
  intro d
  induction d with
  | zero =>
    intro n k h hk
    obtain ⟨k, rfl⟩ : ∃ q, k = q + 1 := ⟨k - 1, by omega⟩
    rw [spec_l01Has.l0, if_neg (by omega), List.drop_eq_nil_of_le (by omega)]; rfl
  | succ d ih =>
    intro n k h hk
    obtain ⟨k, rfl⟩ : ∃ q, k = q + 1 := ⟨k - 1, by omega⟩
    have hn : n < l.length := by omega
    have e : rdOf ByteArray.empty l (n : Int) = l[n] := by simp [rdOf, List.getD, hn]
    rw [spec_l01Has.l0, if_pos (by omega), if_pos (by omega), List.drop_eq_getElem_cons hn, e, List.any_cons]
    by_cases hq : l[n].toList = v.toList
    · rw [if_pos hq]; simp [hq]
    · rw [if_neg hq, show wrap64 ((n : Int) + 1) = ((n + 1 : Nat) : Int) from by unfold wrap64; omega, ih (n + 1) k (by omega) (by omega)]
      have : ¬ v.toList = l[n].toList := fun h => hq h.symm
      simp [this]
theorem has_is (l : List ByteArray) (v : ByteArray) (hl : l.length ≤ 9223372036854775807) (k : Nat) (hk : l.length + 1 ≤ k) : spec_l01Has.f k l v = some (l.any (fun s => decide (v.toList = s.toList))) := by
  rw [spec_l01Has.f]
  have := has_l0 l v hl l.length 0 k (by omega) hk
  rw [List.drop_zero] at this
  exact this
theorem unif {P : Nat → Nat → Prop} : ∀ n, (∀ i, i < n → ∃ K, ∀ k, K ≤ k → P i k) → ∃ K, ∀ i, i < n → ∀ k, K ≤ k → P i k := by
  intro n
  induction n with
  | zero => intro _; exact ⟨0, fun i h => by omega⟩
  | succ n ih =>
    intro h
    obtain ⟨K1, h1⟩ := ih (fun i hi => h i (by omega))
    obtain ⟨K2, h2⟩ := h n (by omega)
    refine ⟨max K1 K2, fun i hi k hk => ?_⟩
    rcases Nat.lt_succ_iff_lt_or_eq.1 hi with hi | rfl
    · exact h1 i hi k (by omega)
    · exact h2 k (by omega)
open impl_Json_valid in
theorem spec_loop (k0 n0 : Int) (t : ByteArray) (ns : List ByteArray) (xs : List S88) (dp : Int) (K : Nat) (hx : xs.length ≤ 12) (hns : k0 = 6 → ns.length = xs.length)
    (hK : ∀ i, i < xs.length → ∀ k, K ≤ k → spec_l02OK.f k (rd_T88 xs (i : Int)).f0 (rd_T88 xs (i : Int)).f1 (rd_T88 xs (i : Int)).f2 (rd_T88 xs (i : Int)).f3 (rd_T88 xs (i : Int)).f4 (wrap64 (dp - 1)) = some (vJ (rd_T88 xs (i : Int)) (wrap64 (dp - 1)))) :
    ∀ (d n k : Nat), n + d = xs.length → K + 20 + d ≤ k → spec_l02OK.l0 k dp (n : Int) k0 n0 t ns xs = some ((if k0 = 6 then nmF ns d n else true) && vL (xs.drop n) (wrap64 (dp - 1))) := by
  intro d
  induction d with
  | zero =>
    intro n k h hk
    obtain ⟨k, rfl⟩ : ∃ q, k = q + 1 := ⟨k - 1, by omega⟩
    rw [spec_l02OK.l0, if_neg (by omega), List.drop_eq_nil_of_le (by omega), nmF, vL]; simp
  | succ d ih =>
    intro n k h hk
    obtain ⟨k, rfl⟩ : ∃ q, k = q + 1 := ⟨k - 1, by omega⟩
    have hn : n < xs.length := by omega
    have e : rd_T88 xs (n : Int) = xs[n] := by simp [rd_T88, List.getD, hn]
    have hw : wrap64 ((n : Int) + 1) = ((n + 1 : Nat) : Int) := by unfold wrap64; omega
    rw [spec_l02OK.l0, if_pos (by omega), if_pos (by omega), hK n hn k (by omega), Option.bind_some, List.drop_eq_getElem_cons hn, vL, e]
    cases hv : vJ xs[n] (wrap64 (dp - 1)) with
    | false => rw [if_neg Bool.false_ne_true]; simp
    | true =>
      rw [if_pos rfl, hw, ih (n + 1) k (by omega) (by omega), Bool.true_and]
      by_cases h6 : k0 = 6
      · have hl := hns h6
        rw [if_pos h6, if_pos h6, if_pos h6, if_pos (by omega), nmF]
        by_cases hs : ((rdOf ByteArray.empty ns (n : Int)).size : Int) > 120
        · rw [if_pos hs, if_pos (by omega)]; simp
        · rw [if_neg (show ¬ (120 < ((rdOf ByteArray.empty ns (n : Int)).size : Int)) from hs), if_neg hs, if_pos (show (n : Int) ≤ (ns.length : Int) by omega), Int.toNat_natCast, has_is _ _ (by rw [List.length_take]; omega) k (by rw [List.length_take]; omega), Option.bind_some]
          split
          · simp
          · rfl
      · rw [if_neg h6, if_neg h6, if_neg h6]
open impl_Json_valid in
theorem spec_is_of (x : S88) (dp : Int) (h1 : 1 ≤ dp) (h5 : dp ≤ 5) (ih : 2 ≤ dp → ∃ K, ∀ i, i < x.f4.length → ∀ k, K ≤ k → spec_l02OK.f k (rd_T88 x.f4 (i : Int)).f0 (rd_T88 x.f4 (i : Int)).f1 (rd_T88 x.f4 (i : Int)).f2 (rd_T88 x.f4 (i : Int)).f3 (rd_T88 x.f4 (i : Int)).f4 (wrap64 (dp - 1)) = some (vJ (rd_T88 x.f4 (i : Int)) (wrap64 (dp - 1)))) :
    ∃ K, ∀ k, K ≤ k → spec_l02OK.f k x.f0 x.f1 x.f2 x.f3 x.f4 dp = some (vJ x dp) := by
  have hdp : dp ≠ 0 := by omega
  have hin : ∀ a lo hi : Int, spec_l01In.f a lo hi = some (decide (lo ≤ a) && decide (a ≤ hi)) := by
    intro a lo hi; rw [spec_l01In.f]
    by_cases h : a ≥ lo
    · rw [if_pos h, decide_eq_true (by omega : lo ≤ a)]; rfl
    · rw [if_neg h, decide_eq_false (by omega : ¬ lo ≤ a)]; rfl
  have hemp : ∀ t : ByteArray, (t.toList = ([] : List UInt8)) ↔ t.toList.isEmpty = true := fun t => by simp
  have hstart : ∀ k, spec_l02OK.f (k + 1) x.f0 x.f1 x.f2 x.f3 x.f4 dp = spec_l02OK.j0 k dp (((x.f3.length : Int) == 0) && ((x.f4.length : Int) == 0)) x.f0 x.f1 x.f2 x.f3 x.f4 := by
    intro k; rw [spec_l02OK.f]
    by_cases h : (x.f3.length : Int) = 0
    · rw [if_pos h]; simp [h]
    · rw [if_neg h]; simp only [beq_eq_false_iff_ne.mpr h, Bool.false_and]
  by_cases c1 : x.f0 = 1
  · refine ⟨2, fun k hk => ?_⟩
    obtain ⟨k, rfl⟩ : ∃ q, k = q + 2 := ⟨k - 2, by omega⟩
    rw [hstart, spec_l02OK.j0, if_pos c1, vJ_low x dp hdp (x.f1 == 0) x.f2.toList.isEmpty (by rw [hd, if_pos c1])]
    by_cases a : x.f1 = 0
    · by_cases b : x.f2.toList = []
      · rw [if_pos a, if_pos b]; simp [a, b]
      · rw [if_pos a, if_neg b]; simp [b]
    · rw [if_neg a]; simp [a]
  by_cases c2 : x.f0 = 2
  · refine ⟨2, fun k hk => ?_⟩
    obtain ⟨k, rfl⟩ : ∃ q, k = q + 2 := ⟨k - 2, by omega⟩
    rw [hstart, spec_l02OK.j0, if_neg c1, if_pos c2, vJ_low x dp hdp (decide (0 ≤ x.f1) && decide (x.f1 ≤ 1)) x.f2.toList.isEmpty (by rw [hd, if_neg c1, if_pos c2]), hin, Option.bind_some]
    cases decide (0 ≤ x.f1) && decide (x.f1 ≤ 1)
    · simp
    · by_cases b : x.f2.toList = []
      · rw [if_pos rfl, if_pos b]; simp [b]
      · rw [if_pos rfl, if_neg b]; simp [b]
  by_cases c3 : x.f0 = 3
  · refine ⟨2, fun k hk => ?_⟩
    obtain ⟨k, rfl⟩ : ∃ q, k = q + 2 := ⟨k - 2, by omega⟩
    rw [hstart, spec_l02OK.j0, if_neg c1, if_neg c2, if_pos c3, vJ_low x dp hdp (decide (-999999999 ≤ x.f1) && decide (x.f1 ≤ 999999999)) x.f2.toList.isEmpty (by rw [hd, if_neg c1, if_neg c2, if_pos c3]), hin, Option.bind_some]
    cases decide (-999999999 ≤ x.f1) && decide (x.f1 ≤ 999999999)
    · simp
    · by_cases b : x.f2.toList = []
      · rw [if_pos rfl, if_pos b]; simp [b]
      · rw [if_pos rfl, if_neg b]; simp [b]
  by_cases c4 : x.f0 = 4
  · refine ⟨2, fun k hk => ?_⟩
    obtain ⟨k, rfl⟩ : ∃ q, k = q + 2 := ⟨k - 2, by omega⟩
    rw [hstart, spec_l02OK.j0, if_neg c1, if_neg c2, if_neg c3, if_pos c4, vJ_low x dp hdp (x.f1 == 0) (decide ((x.f2.size : Int) ≤ 120)) (by rw [hd, if_neg c1, if_neg c2, if_neg c3, if_pos c4])]
    by_cases a : x.f1 = 0
    · by_cases b : (x.f2.size : Int) ≤ 120
      · rw [if_pos a, if_pos b, decide_eq_true b]; simp [a]
      · rw [if_pos a, if_neg b, decide_eq_false b]; simp
    · rw [if_neg a]; simp [a]
  have hj1F : ∀ k, spec_l02OK.j1 (k + 1) dp true x.f0 x.f1 x.f2 x.f3 x.f4 = some false := fun k => by rw [spec_l02OK.j1, if_pos rfl]
  have hj1T : ∀ k, spec_l02OK.j1 (k + 1) dp false x.f0 x.f1 x.f2 x.f3 x.f4 = spec_l02OK.l0 k dp 0 x.f0 x.f1 x.f2 x.f3 x.f4 := fun k => by rw [spec_l02OK.j1, if_neg Bool.false_ne_true]
  have hV : vJ x dp = if top x.f0 x.f1 x.f2 x.f3 x.f4.length dp = true then vL x.f4 (wrap64 (dp - 1)) else false := by rw [vJ_eq, if_neg hdp]
  have hloop : 2 ≤ dp → x.f4.length ≤ 12 → (x.f0 = 6 → x.f3.length = x.f4.length) → ∃ K, ∀ k, K ≤ k → spec_l02OK.l0 k dp 0 x.f0 x.f1 x.f2 x.f3 x.f4 = some ((if x.f0 = 6 then nmF x.f3 x.f4.length 0 else true) && vL x.f4 (wrap64 (dp - 1))) := by
    intro h2 hl hn
    obtain ⟨K, hK⟩ := ih h2
    exact ⟨K + 20 + x.f4.length, fun k hk => by have := spec_loop x.f0 x.f1 x.f2 x.f3 x.f4 dp K hl hn hK x.f4.length 0 k (by omega) hk; rwa [List.drop_zero] at this⟩
  by_cases c5 : x.f0 = 5
  · have ht : top x.f0 x.f1 x.f2 x.f3 x.f4.length dp = (((x.f1 == 0) && x.f2.toList.isEmpty && ((x.f3.length : Int) == 0) && (decide ((x.f4.length : Int) ≤ 12) && decide (1 < dp)))) := by
      have hh : hd x.f0 x.f1 x.f2 x.f3.length x.f4.length dp = some (x.f1 == 0, x.f2.toList.isEmpty, (x.f3.length : Int) == 0, decide ((x.f4.length : Int) ≤ 12) && decide (1 < dp)) := by rw [hd, if_neg c1, if_neg c2, if_neg c3, if_neg c4, if_pos c5]
      simp only [top, hh]
      split
      · rename_i hq; rw [hq]
        have : x.f3 = [] := by
          simp only [Bool.and_eq_true, beq_iff_eq] at hq
          exact List.eq_nil_of_length_eq_zero (by omega)
        rw [this]; rfl
      · rename_i hq; exact (Bool.eq_false_iff.mpr hq).symm
    rw [hV, ht]
    have hj0 : ∀ k, spec_l02OK.j0 (k + 1) dp (((x.f3.length : Int) == 0) && ((x.f4.length : Int) == 0)) x.f0 x.f1 x.f2 x.f3 x.f4 = if x.f1 = 0 then (if x.f2.toList = ([] : List UInt8) then (if dp = 1 then spec_l02OK.j1 k dp true x.f0 x.f1 x.f2 x.f3 x.f4 else if (x.f4.length : Int) > 12 then spec_l02OK.j1 k dp true x.f0 x.f1 x.f2 x.f3 x.f4 else if (x.f3.length : Int) > 0 then spec_l02OK.j1 k dp true x.f0 x.f1 x.f2 x.f3 x.f4 else spec_l02OK.j1 k dp false x.f0 x.f1 x.f2 x.f3 x.f4) else spec_l02OK.j1 k dp true x.f0 x.f1 x.f2 x.f3 x.f4) else spec_l02OK.j1 k dp true x.f0 x.f1 x.f2 x.f3 x.f4 := by
      intro k; rw [spec_l02OK.j0, if_neg c1, if_neg c2, if_neg c3, if_neg c4, if_pos c5, if_neg (by omega : ¬ x.f0 = 6)]
    by_cases hg : x.f1 = 0 ∧ x.f2.toList = [] ∧ dp ≠ 1 ∧ (x.f4.length : Int) ≤ 12 ∧ (x.f3.length : Int) = 0
    · obtain ⟨g1, g2, g3, g4, g5⟩ := hg
      obtain ⟨K, hK⟩ := hloop (by omega) (by omega) (by omega)
      refine ⟨K + 3, fun k hk => ?_⟩
      obtain ⟨k, rfl⟩ : ∃ q, k = q + 3 := ⟨k - 3, by omega⟩
      rw [hstart, hj0, if_pos g1, if_pos g2, if_neg g3, if_neg (by omega), if_neg (by omega), hj1T, hK k (by omega), if_neg (by omega : ¬ x.f0 = 6), g5, decide_eq_true g4, decide_eq_true (by omega : 1 < dp)]
      simp [g1, g2]
    · refine ⟨3, fun k hk => ?_⟩
      obtain ⟨k, rfl⟩ : ∃ q, k = q + 3 := ⟨k - 3, by omega⟩
      have hr : spec_l02OK.j0 (k + 2) dp (((x.f3.length : Int) == 0) && ((x.f4.length : Int) == 0)) x.f0 x.f1 x.f2 x.f3 x.f4 = some false := by
        rw [hj0]
        by_cases g1 : x.f1 = 0
        · by_cases g2 : x.f2.toList = []
          · rw [if_pos g1, if_pos g2]
            by_cases g3 : dp = 1
            · rw [if_pos g3, hj1F]
            · rw [if_neg g3]
              by_cases g4 : (x.f4.length : Int) > 12
              · rw [if_pos g4, hj1F]
              · rw [if_neg g4]
                by_cases g5 : (x.f3.length : Int) > 0
                · rw [if_pos g5, hj1F]
                · exact absurd ⟨g1, g2, g3, by omega, by omega⟩ hg
          · rw [if_pos g1, if_neg g2, hj1F]
        · rw [if_neg g1, hj1F]
      rw [hstart, hr]
      have hf : ¬ ((((x.f1 == 0) && x.f2.toList.isEmpty && ((x.f3.length : Int) == 0) && (decide ((x.f4.length : Int) ≤ 12) && decide (1 < dp)))) = true) := by
        intro hq
        simp only [Bool.and_eq_true, beq_iff_eq, decide_eq_true_eq, List.isEmpty_iff] at hq
        exact hg ⟨hq.1.1.1, hq.1.1.2, by omega, hq.2.1, hq.1.2⟩
      rw [if_neg hf]
  by_cases c6 : x.f0 = 6
  · have hh : hd x.f0 x.f1 x.f2 x.f3.length x.f4.length dp = some (x.f1 == 0, x.f2.toList.isEmpty, (decide ((x.f4.length : Int) ≤ 12) && decide (1 < dp)) && (x.f3.length : Int) == (x.f4.length : Int), decide ((x.f4.length : Int) ≤ 12) && decide (1 < dp)) := by rw [hd, if_neg c1, if_neg c2, if_neg c3, if_neg c4, if_neg c5, if_pos c6]
    have hj0 : ∀ k, spec_l02OK.j0 (k + 1) dp (((x.f3.length : Int) == 0) && ((x.f4.length : Int) == 0)) x.f0 x.f1 x.f2 x.f3 x.f4 = if x.f1 = 0 then (if x.f2.toList = ([] : List UInt8) then (if dp = 1 then spec_l02OK.j1 k dp true x.f0 x.f1 x.f2 x.f3 x.f4 else if (x.f4.length : Int) > 12 then spec_l02OK.j1 k dp true x.f0 x.f1 x.f2 x.f3 x.f4 else spec_l02OK.j1 k dp ((x.f3.length : Int) != (x.f4.length : Int)) x.f0 x.f1 x.f2 x.f3 x.f4) else spec_l02OK.j1 k dp true x.f0 x.f1 x.f2 x.f3 x.f4) else spec_l02OK.j1 k dp true x.f0 x.f1 x.f2 x.f3 x.f4 := by
      intro k; rw [spec_l02OK.j0, if_neg c1, if_neg c2, if_neg c3, if_neg c4, if_neg c5, if_pos c6]
    by_cases hg : x.f1 = 0 ∧ x.f2.toList = [] ∧ dp ≠ 1 ∧ (x.f4.length : Int) ≤ 12 ∧ (x.f3.length : Int) = (x.f4.length : Int)
    · obtain ⟨g1, g2, g3, g4, g5⟩ := hg
      have ht : top x.f0 x.f1 x.f2 x.f3 x.f4.length dp = nmF x.f3 x.f3.length 0 := topT hh (by simp [g1, g2, g5]; omega)
      rw [hV, ht]
      obtain ⟨K, hK⟩ := hloop (by omega) (by omega) (by omega)
      refine ⟨K + 3, fun k hk => ?_⟩
      obtain ⟨k, rfl⟩ : ∃ q, k = q + 3 := ⟨k - 3, by omega⟩
      have gn : ((x.f3.length : Int) != (x.f4.length : Int)) = false := by simp [g5]
      have gl : x.f3.length = x.f4.length := by omega
      rw [hstart, hj0, if_pos g1, if_pos g2, if_neg g3, if_neg (by omega), gn, hj1T, hK k (by omega), if_pos c6, gl]
      cases nmF x.f3 x.f4.length 0 <;> simp
    · refine ⟨3, fun k hk => ?_⟩
      obtain ⟨k, rfl⟩ : ∃ q, k = q + 3 := ⟨k - 3, by omega⟩
      have hr : spec_l02OK.j0 (k + 2) dp (((x.f3.length : Int) == 0) && ((x.f4.length : Int) == 0)) x.f0 x.f1 x.f2 x.f3 x.f4 = some false := by
        rw [hj0]
        by_cases g1 : x.f1 = 0
        · by_cases g2 : x.f2.toList = []
          · rw [if_pos g1, if_pos g2]
            by_cases g3 : dp = 1
            · rw [if_pos g3, hj1F]
            · rw [if_neg g3]
              by_cases g4 : (x.f4.length : Int) > 12
              · rw [if_pos g4, hj1F]
              · rw [if_neg g4]
                by_cases g5 : (x.f3.length : Int) = (x.f4.length : Int)
                · exact absurd ⟨g1, g2, g3, by omega, g5⟩ hg
                · rw [bne_iff_ne.mpr g5, hj1F]
          · rw [if_pos g1, if_neg g2, hj1F]
        · rw [if_neg g1, hj1F]
      have hf : ((x.f1 == 0) && x.f2.toList.isEmpty && ((decide ((x.f4.length : Int) ≤ 12) && decide (1 < dp)) && (x.f3.length : Int) == (x.f4.length : Int)) && (decide ((x.f4.length : Int) ≤ 12) && decide (1 < dp))) = false := by
        apply Bool.eq_false_iff.mpr
        intro hq
        simp only [Bool.and_eq_true, beq_iff_eq, decide_eq_true_eq, List.isEmpty_iff] at hq
        exact hg ⟨hq.1.1.1, hq.1.1.2, by omega, hq.2.1, hq.1.2.2⟩
      rw [hstart, hr, hV, topF hh hf, if_neg Bool.false_ne_true]
  · refine ⟨3, fun k hk => ?_⟩
    obtain ⟨k, rfl⟩ : ∃ q, k = q + 3 := ⟨k - 3, by omega⟩
    have hN : hd x.f0 x.f1 x.f2 x.f3.length x.f4.length dp = none := by rw [hd, if_neg c1, if_neg c2, if_neg c3, if_neg c4, if_neg c5, if_neg c6]
    have hT : top x.f0 x.f1 x.f2 x.f3 x.f4.length dp = false := by simp only [top, hN]
    rw [hstart, spec_l02OK.j0, if_neg c1, if_neg c2, if_neg c3, if_neg c4, if_neg c5, if_neg c6, hj1F, hV, hT, if_neg Bool.false_ne_true]
open impl_Json_valid in
theorem spec_is (x : S88) (dp : Int) (h1 : 1 ≤ dp) (h5 : dp ≤ 5) : ∃ K, ∀ k, K ≤ k → spec_l02OK.f k x.f0 x.f1 x.f2 x.f3 x.f4 dp = some (vJ x dp) := by
  have : ∀ n : Nat, ∀ x : S88, SizeOf.sizeOf x < n → ∀ dp : Int, 1 ≤ dp → dp ≤ 5 → ∃ K, ∀ k, K ≤ k → spec_l02OK.f k x.f0 x.f1 x.f2 x.f3 x.f4 dp = some (vJ x dp) := by
    intro n
    induction n with
    | zero => intro x h; omega
    | succ n ih =>
      intro x h dp h1 h5
      refine spec_is_of x dp h1 h5 fun h2 => unif _ fun i hi => ?_
      have hm : rd_T88 x.f4 (i : Int) ∈ x.f4 := by simp [rd_T88, List.getD, hi]
      have e1 := List.sizeOf_lt_of_mem hm
      have e2 : SizeOf.sizeOf x = 1 + SizeOf.sizeOf x.f0 + SizeOf.sizeOf x.f1 + SizeOf.sizeOf x.f2 + SizeOf.sizeOf x.f3 + SizeOf.sizeOf x.f4 := by cases x; simp
      have ew : wrap64 (dp - 1) = dp - 1 := by unfold wrap64; omega
      exact ih _ (by omega) _ (by omega) (by omega)
  exact this _ x (Nat.lt_succ_self _) dp h1 h5
open laws_szJson laws_toJson in
theorem szL_ok : ∀ (l : List ByteArray) (a : Int), (∀ y, y ∈ l → y.size ≤ 9223372036854775807) → 0 ≤ a → a ≤ 1048576 → szL l a ≤ a
  | [], a, _, _, _ => Int.le_refl _
  | t :: ts, a, h, h0, h1 => by
    have ht := h t (List.mem_cons_self ..)
    have e : wrap64 (a - (t.size : Int)) = a - (t.size : Int) := by unfold wrap64; omega
    rw [szL, e]
    split
    · omega
    · have := szL_ok ts (a - (t.size : Int)) (fun y hy => h y (List.mem_cons_of_mem _ hy)) (by omega) (by omega)
      omega
open laws_szJson laws_toJson in
mutual
theorem szJ_ok : ∀ (x : S83) (a : Int), ok83 x → 0 ≤ a → a ≤ 1048576 → 0 ≤ szJ x a → okJ x = true ∧ szJ x a ≤ a
  | ⟨k, n, t, ns, xs⟩, a, hx, h0, h1, h2 => by
    cases hx with
    | mk _ w0 w1 s2 s3 s4 s5 =>
    simp only at s2 s3 s4 s5
    have e : wrap64 (a - (t.size : Int)) = a - (t.size : Int) := by unfold wrap64; omega
    rw [szJ_eq] at h2 ⊢
    simp only [e] at h2 ⊢
    by_cases c1 : a - (t.size : Int) < 0
    · rw [if_pos c1] at h2; omega
    rw [if_neg c1] at h2 ⊢
    have eS : wrap64 (a - (t.size : Int) - (ns.length : Int)) = a - (t.size : Int) - (ns.length : Int) := by unfold wrap64; omega
    by_cases c2 : szS ns (a - (t.size : Int)) < 0
    · rw [if_pos c2] at h2; omega
    rw [if_neg c2] at h2 ⊢
    have hS : szS ns (a - (t.size : Int)) ≤ a ∧ ns.length ≤ 1048576 := by
      rw [szS, eS] at c2 ⊢
      split at c2
      · omega
      · rename_i q
        rw [if_neg q]
        have := szL_ok ns (a - (t.size : Int) - (ns.length : Int)) s3.2 (by omega) (by omega)
        omega
    generalize szS ns (a - (t.size : Int)) = b at h2 c2 hS ⊢
    by_cases c3 : szJS xs b < 0
    · rw [if_pos c3] at h2; omega
    rw [if_neg c3] at h2 ⊢
    have eJ : wrap64 (b - (xs.length : Int)) = b - (xs.length : Int) := by unfold wrap64; omega
    rw [szJS, eJ] at h2 ⊢
    by_cases c4 : b - (xs.length : Int) < 0
    · rw [if_pos c4] at h2; omega
    rw [if_neg c4] at h2 ⊢
    have hJ := szJL_ok xs (b - (xs.length : Int)) s5 (by omega) (by omega) h2
    refine ⟨?_, by omega⟩
    rw [okJ, hJ.1, decide_eq_true hS.2, decide_eq_true (by omega : xs.length ≤ 1048576)]; rfl
theorem szJL_ok : ∀ (l : List S83) (a : Int), (∀ y, y ∈ l → ok83 y) → 0 ≤ a → a ≤ 1048576 → 0 ≤ szJL l a → okJL l = true ∧ szJL l a ≤ a
  | [], a, _, _, _, h2 => by rw [okJL, szJL]; exact ⟨rfl, Int.le_refl _⟩
  | x :: xs, a, h, h0, h1, h2 => by
    rw [szJL] at h2 ⊢
    by_cases c : szJ x a < 0
    · rw [if_pos c] at h2; omega
    rw [if_neg c] at h2 ⊢
    have h3 := szJ_ok x a (h x (List.mem_cons_self ..)) h0 h1 (by omega)
    have h4 := szJL_ok xs (szJ x a) (fun y hy => h y (List.mem_cons_of_mem _ hy)) (by omega) (by omega) h2
    refine ⟨?_, by omega⟩
    rw [okJL, h3.1, h4.1]; rfl
end
mutual
theorem eqJ_self : ∀ x : S88, laws_eqJson.eqJ x x = true
  | ⟨k, n, t, ns, xs⟩ => by rw [laws_eqJson.eqJ, eqJL_self xs]; simp
theorem eqJL_self : ∀ l : List S88, laws_eqJson.eqJL l l = true
  | [] => by rw [laws_eqJson.eqJL]
  | x :: xs => by rw [laws_eqJson.eqJL, eqJ_self x, eqJL_self xs]; rfl
end

open impl_Json_same in
theorem stx_l0 (l m : List ByteArray) (hl : l.length = m.length) (hb : l.length ≤ 1048576) : ∀ (d n k : Nat), n + d = l.length → d + 1 ≤ k → spec_l00SameTexts.l0 k l m (n : Int) = some (eN (l.drop n) (m.drop n)) := by
  intro d
  induction d with
  | zero =>
    intro n k h hk
    obtain ⟨k, rfl⟩ : ∃ q, k = q + 1 := ⟨k - 1, by omega⟩
    rw [spec_l00SameTexts.l0, if_neg (by omega), List.drop_eq_nil_of_le (by omega), List.drop_eq_nil_of_le (by omega), eN]
  | succ d ih =>
    intro n k h hk
    obtain ⟨k, rfl⟩ : ∃ q, k = q + 1 := ⟨k - 1, by omega⟩
    have hn : n < l.length := by omega
    have hm : n < m.length := by omega
    have e : rdOf ByteArray.empty l (n : Int) = l[n] := by simp [rdOf, List.getD, hn]
    have e' : rdOf ByteArray.empty m (n : Int) = m[n] := by simp [rdOf, List.getD, hm]
    rw [spec_l00SameTexts.l0, if_pos (by omega), if_pos (by omega), if_pos (by omega), List.drop_eq_getElem_cons hn, List.drop_eq_getElem_cons hm, eN, e, e', show wrap64 ((n : Int) + 1) = ((n + 1 : Nat) : Int) from by unfold wrap64; omega]
    by_cases hq : l[n].toList = m[n].toList
    · rw [if_pos hq, ih (n + 1) k (by omega) (by omega), beq_iff_eq.mpr hq, Bool.true_and]
    · rw [if_neg hq, beq_eq_false_iff_ne.mpr hq, Bool.false_and]
open impl_Json_same in
theorem stx (l m : List ByteArray) (hb : l.length ≤ 1048576) (k : Nat) (hk : l.length + 1 ≤ k) : spec_l00SameTexts.f k l m = some (eN l m) := by
  rw [spec_l00SameTexts.f]
  by_cases h : l.length = m.length
  · rw [if_pos (by omega)]
    exact stx_l0 l m h hb l.length 0 k (by omega) hk
  · rw [if_neg (by omega), eN_ne l m h]
open impl_Json_same in
theorem same_loop (a0 a1 : Int) (a2 : ByteArray) (a3 : List ByteArray) (xs : List S88) (b0 b1 : Int) (b2 : ByteArray) (b3 : List ByteArray) (ys : List S88) (hl : xs.length = ys.length) (hb : xs.length ≤ 1048576) (K : Nat)
    (hK : ∀ i, i < xs.length → ∀ k, K ≤ k → spec_l02Same.f k (rd_T88 xs (i : Int)).f0 (rd_T88 xs (i : Int)).f1 (rd_T88 xs (i : Int)).f2 (rd_T88 xs (i : Int)).f3 (rd_T88 xs (i : Int)).f4 (rd_T88 ys (i : Int)).f0 (rd_T88 ys (i : Int)).f1 (rd_T88 ys (i : Int)).f2 (rd_T88 ys (i : Int)).f3 (rd_T88 ys (i : Int)).f4 = some (sJ (rd_T88 xs (i : Int)) (rd_T88 ys (i : Int)))) :
    ∀ (d n k : Nat), n + d = xs.length → K + d + 1 ≤ k → spec_l02Same.l0 k (n : Int) a0 a1 a2 a3 xs b0 b1 b2 b3 ys = some (sL (xs.drop n) (ys.drop n)) := by
  intro d
  induction d with
  | zero =>
    intro n k h hk
    obtain ⟨k, rfl⟩ : ∃ q, k = q + 1 := ⟨k - 1, by omega⟩
    rw [spec_l02Same.l0, if_neg (by omega), List.drop_eq_nil_of_le (by omega), List.drop_eq_nil_of_le (by omega), sL]
  | succ d ih =>
    intro n k h hk
    obtain ⟨k, rfl⟩ : ∃ q, k = q + 1 := ⟨k - 1, by omega⟩
    have hn : n < xs.length := by omega
    have hm : n < ys.length := by omega
    have e : rd_T88 xs (n : Int) = xs[n] := by simp [rd_T88, List.getD, hn]
    have e' : rd_T88 ys (n : Int) = ys[n] := by simp [rd_T88, List.getD, hm]
    rw [spec_l02Same.l0, if_pos (by omega), if_pos (by omega), if_pos (by omega), hK n hn k (by omega), Option.bind_some, List.drop_eq_getElem_cons hn, List.drop_eq_getElem_cons hm, sL, e, e', show wrap64 ((n : Int) + 1) = ((n + 1 : Nat) : Int) from by unfold wrap64; omega]
    cases sJ xs[n] ys[n] with
    | false => rw [if_neg Bool.false_ne_true, Bool.false_and]
    | true => rw [if_pos rfl, ih (n + 1) k (by omega) (by omega), Bool.true_and]
open impl_Json_same in
theorem same_of (x y : S88) (h3 : x.f3.length ≤ 1048576) (h4 : x.f4.length ≤ 1048576)
    (ih : ∃ K, ∀ i, i < x.f4.length → ∀ k, K ≤ k → spec_l02Same.f k (rd_T88 x.f4 (i : Int)).f0 (rd_T88 x.f4 (i : Int)).f1 (rd_T88 x.f4 (i : Int)).f2 (rd_T88 x.f4 (i : Int)).f3 (rd_T88 x.f4 (i : Int)).f4 (rd_T88 y.f4 (i : Int)).f0 (rd_T88 y.f4 (i : Int)).f1 (rd_T88 y.f4 (i : Int)).f2 (rd_T88 y.f4 (i : Int)).f3 (rd_T88 y.f4 (i : Int)).f4 = some (sJ (rd_T88 x.f4 (i : Int)) (rd_T88 y.f4 (i : Int)))) :
    ∃ K, ∀ k, K ≤ k → spec_l02Same.f k x.f0 x.f1 x.f2 x.f3 x.f4 y.f0 y.f1 y.f2 y.f3 y.f4 = some (sJ x y) := by
  obtain ⟨K, hK⟩ := ih
  refine ⟨K + x.f4.length + x.f3.length + 5, fun k hk => ?_⟩
  obtain ⟨k, rfl⟩ : ∃ q, k = q + 2 := ⟨k - 2, by omega⟩
  have hT : spec_l02Same.j0 (k + 1) true x.f0 x.f1 x.f2 x.f3 x.f4 y.f0 y.f1 y.f2 y.f3 y.f4 = some false := by rw [spec_l02Same.j0, if_pos rfl]
  rw [spec_l02Same.f, hT, sJ_eq, stx x.f3 y.f3 h3 (k + 1) (by omega), Option.bind_some]
  by_cases e0 : x.f0 = y.f0
  · rw [if_pos e0, beq_iff_eq.mpr e0, Bool.true_and]
    by_cases e1 : x.f1 = y.f1
    · rw [if_pos e1, beq_iff_eq.mpr e1, Bool.true_and]
      by_cases e2 : x.f2.toList = y.f2.toList
      · rw [if_pos e2, beq_iff_eq.mpr e2, Bool.true_and]
        cases eN x.f3 y.f3 with
        | false => rw [if_neg Bool.false_ne_true, Bool.false_and]
        | true =>
          rw [if_pos rfl, Bool.true_and, spec_l02Same.j0]
          by_cases hl : x.f4.length = y.f4.length
          · have hb : ((x.f4.length : Int) != (y.f4.length : Int)) = false := by simp; omega
            rw [hb, if_neg Bool.false_ne_true]
            exact same_loop x.f0 x.f1 x.f2 x.f3 x.f4 y.f0 y.f1 y.f2 y.f3 y.f4 hl h4 K hK x.f4.length 0 k (by omega) (by omega)
          · have hb : ((x.f4.length : Int) != (y.f4.length : Int)) = true := by simp; omega
            rw [hb, if_pos rfl, sL_ne _ _ hl]
      · rw [if_neg e2, beq_eq_false_iff_ne.mpr e2]; rfl
    · rw [if_neg e1, beq_eq_false_iff_ne.mpr e1]; rfl
  · rw [if_neg e0, beq_eq_false_iff_ne.mpr e0]; rfl
open impl_Json_same laws_toJson in
theorem same_is (x : S83) (hx : okJ x = true) (y : S88) : ∃ K, ∀ k, K ≤ k → spec_l02Same.f k (toJ x).f0 (toJ x).f1 (toJ x).f2 (toJ x).f3 (toJ x).f4 y.f0 y.f1 y.f2 y.f3 y.f4 = some (sJ (toJ x) y) := by
  have : ∀ n : Nat, ∀ x : S83, SizeOf.sizeOf x < n → okJ x = true → ∀ y : S88, ∃ K, ∀ k, K ≤ k → spec_l02Same.f k (toJ x).f0 (toJ x).f1 (toJ x).f2 (toJ x).f3 (toJ x).f4 y.f0 y.f1 y.f2 y.f3 y.f4 = some (sJ (toJ x) y) := by
    intro n
    induction n with
    | zero => intro x h; omega
    | succ n ih =>
      intro x h hx y
      have e2 : SizeOf.sizeOf x = 1 + SizeOf.sizeOf x.f0 + SizeOf.sizeOf x.f1 + SizeOf.sizeOf x.f2 + SizeOf.sizeOf x.f3 + SizeOf.sizeOf x.f4 := by cases x; simp
      have e3 : (toJ x).f3 = x.f3 := by cases x; rw [toJ]
      have e4 : (toJ x).f4 = toJL x.f4 := by cases x; rw [toJ]
      have hk : x.f3.length ≤ 1048576 ∧ x.f4.length ≤ 1048576 ∧ okJL x.f4 = true := by
        cases x; simp only [okJ, Bool.and_eq_true, decide_eq_true_eq] at hx; exact ⟨hx.1.1, hx.1.2, hx.2⟩
      refine same_of (toJ x) y (by rw [e3]; exact hk.1) (by rw [e4, toJL_len]; exact hk.2.1) (unif _ fun i hi => ?_)
      rw [e4, toJL_len] at hi
      have hm : rd_T83 x.f4 (i : Int) ∈ x.f4 := by simp [rd_T83, List.getD, hi]
      have e1 := List.sizeOf_lt_of_mem hm
      have er : rd_T88 (toJ x).f4 (i : Int) = toJ (rd_T83 x.f4 (i : Int)) := by
        rw [e4, toJL_map]; simp [rd_T88, rd_T83, List.getD, hi]
      rw [er]
      exact ih _ (by omega) (okJL_all _ hk.2.2 _ hm) _
  exact this _ x (Nat.lt_succ_self _) hx y

theorem FnExactSameJson : (∀ (a0_0 : Int) (a0_1 : Int) (a0_2 : ByteArray) (l0_3 : List ByteArray) (l0_4 : List (S83)) (a1_0 : Int) (a1_1 : Int) (a1_2 : ByteArray) (l1_3 : List ByteArray) (l1_4 : List (S83)), ((Lit.int .i64 a0_0).wf = true) → ((Lit.int .i64 a0_1).wf = true) → (a0_2.size ≤ 9223372036854775807) → (l0_3.length ≤ 9223372036854775807 ∧ ∀ y_, y_ ∈ l0_3 → y_.size ≤ 9223372036854775807) → (l0_4.length ≤ 9223372036854775807 ∧ ∀ y_, y_ ∈ l0_4 → ok83 y_) → ((Lit.int .i64 a1_0).wf = true) → ((Lit.int .i64 a1_1).wf = true) → (a1_2.size ≤ 9223372036854775807) → (l1_3.length ≤ 9223372036854775807 ∧ ∀ y_, y_ ∈ l1_3 → y_.size ≤ 9223372036854775807) → (l1_4.length ≤ 9223372036854775807 ∧ ∀ y_, y_ ∈ l1_4 → ok83 y_) → ∃ k, laws_FnExactSameJson.f k a0_0 a0_1 a0_2 l0_3 l0_4 a1_0 a1_1 a1_2 l1_3 l1_4 = some true) := by
  intro a0 a1 a2 l3 l4 b0 b1 b2 m3 m4 w0 w1 s2 s3 s4 v0 v1 u2 u3 u4
  have hok : ok83 ⟨a0, a1, a2, l3, l4⟩ := ok83.mk _ w0 w1 s2 s3 s4.1 s4.2
  have hok2 : ok83 ⟨b0, b1, b2, m3, m4⟩ := ok83.mk _ v0 v1 u2 u3 u4.1 u4.2
  by_cases hz : laws_szJson.szJ ⟨a0, a1, a2, l3, l4⟩ 1048576 < 0
  · exact ⟨0, by rw [laws_FnExactSameJson.f, laws_szJson.f, Option.bind_some, if_pos hz]⟩
  have hk := szJ_ok _ 1048576 hok (by omega) (by omega) (by omega)
  by_cases hz2 : laws_szJson.szJ ⟨b0, b1, b2, m3, m4⟩ (laws_szJson.szJ ⟨a0, a1, a2, l3, l4⟩ 1048576) < 0
  · exact ⟨0, by rw [laws_FnExactSameJson.f, laws_szJson.f, Option.bind_some, if_neg hz, laws_szJson.f, Option.bind_some, if_pos hz2]⟩
  have hk2 := (szJ_ok _ _ hok2 (by omega) hk.2 (by omega)).1
  obtain ⟨K, hK⟩ := spec_is (laws_toJson.toJ ⟨a0, a1, a2, l3, l4⟩) 5 (by omega) (by omega)
  obtain ⟨K2, hK2⟩ := spec_is (laws_toJson.toJ ⟨b0, b1, b2, m3, m4⟩) 5 (by omega) (by omega)
  obtain ⟨K3, hK3⟩ := same_is ⟨a0, a1, a2, l3, l4⟩ hk.1 (laws_toJson.toJ ⟨b0, b1, b2, m3, m4⟩)
  refine ⟨K + K2 + K3, ?_⟩
  have h1 := hK (K + K2 + K3) (by omega)
  have h2 := hK2 (K + K2 + K3) (by omega)
  have h3 := hK3 (K + K2 + K3) (by omega)
  rw [laws_toJson.toJ] at h1 h2
  rw [laws_toJson.toJ, laws_toJson.toJ] at h3
  rw [laws_FnExactSameJson.f, laws_szJson.f, Option.bind_some, if_neg hz, laws_szJson.f, Option.bind_some, if_neg hz2]
  simp only [laws_toJson.f, if_pos hk.1, if_pos hk2, Option.bind_some, spec_SameJson.f, impl_SameJson.f, impl_JsonOK.f, impl_Json_valid.f, impl_Json_same.f, h1, h2, h3, laws_eqJson.f, eqJ_self]
  generalize impl_Json_valid.vJ _ 5 = p
  generalize impl_Json_valid.vJ _ 5 = q
  generalize impl_Json_same.sJ _ _ = s
  cases p <;> cases q <;> cases s <;> simp

end Go.Proofs.Ytmfnaaeglfhnmaa.Pure
