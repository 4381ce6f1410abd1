/- The law's walk and what its calls do, put together. -/
import Derived.Test.YtljpmdeobmmhlaaQLaw
import Derived.Test.YtljpmdeobmmhlaaQToJ
import Derived.Test.YtljpmdeobmmhlaaQImp
import Derived.Test.YtljpmdeobmmhlaaQFnExactMemberx7
import Derived.Test.YtljpmdeobmmhlaaPureFnExactMember
namespace Go.Proofs.Ytljpmdeobmmhlaa.QFnExactMember
open Go.RowKit Go.Proofs.YtljpmdeobmmhlaaW.PrintWords Go.Proofs.YtljpmdeobmmhlaaW.PrintLast Go.Proofs.YtljpmdeobmmhlaaW.PrintMore
open Go.Proofs.Ytljpmdeobmmhlaa.Pure
set_option linter.unusedVariables false
set_option linter.unusedSimpArgs false
theorem b3_nd {w : World} {base : Nat} {v3 v4 : Value} {X : List JB} (h4 : kB.R 29 w base (fun k => some k ≠ v3.ownBlock) v4 X) (nd : (blkL X).Nodup) : (b3 v3 v4 X).Nodup := by
  have h34 := R_ok h4
  have h5 : ∀ q, v4.ownBlock = some q → q ∉ blkL X := fun q hq => R_not h4 hq
  show (blk _).Nodup
  rw [blk, List.nodup_append, List.nodup_append]
  refine ⟨?_, ⟨?_, nd, ?_⟩, ?_⟩
  · cases v3.ownBlock <;> simp
  · cases v4.ownBlock <;> simp
  · intro q hq r hr e
    subst e
    exact h5 q (by simpa [Option.mem_toList] using hq) hr
  · intro q hq r hr e
    subst e
    have hq' : v3.ownBlock = some q := by simpa [Option.mem_toList] using hq
    refine h34 q ?_ hq'.symm
    rcases List.mem_append.1 hr with hr | hr
    · exact .inl (by simpa [Option.mem_toList] using hr)
    · exact .inr hr
theorem rb_of {w : World} {base : Nat} {v3 v4 : Value} {l : List ByteArray} {X : List JB} {L : List S29} (h3 : Kd.string.R 9 w base (fun _ => True) v3 l) (h4 : kB.R 29 w base (fun k => some k ≠ v3.ownBlock) v4 X) (e : eraL X = L) : ∃ A c B d, v3 = .slice A l.length c ∧ v4 = .slice B L.length d ∧ RB w base v3 v4 l X := by
  obtain ⟨A, c, e3⟩ := Kd.R_slice h3
  obtain ⟨B, d, e4⟩ := Kd.R_slice h4
  refine ⟨A, c, B, d, e3, ?_, h3, Kd.R_mono h4 (fun _ _ => trivial)⟩
  rw [e4, ← e, eraL_len]
theorem eq_self (a b : Int) (s : ByteArray) (l : List ByteArray) (L : List S29) : laws_eqJson.f a b s l L a b s l L = some true := by rw [laws_eqJson.f, eqJ_self]; rfl
/-- The law's own code answers true. -/
theorem law_all (a0 a1 : Int) (a2 : ByteArray) (A3 : Option Addr) (c3 : Nat) (l3 : List ByteArray) (A4 : Option Addr) (c4 : Nat) (l4 : List S25) (nm : ByteArray) (w : World) (hr3 : Kd.C Kd.string w A3 l3.length l3) (hc3 : l3.length ≤ c3) (hr4 : Kd.C k25 w A4 l4.length l4) (hc4 : l4.length ≤ c4) (hok : ok25 ⟨a0, a1, a2, l3, l4⟩) :
    Calls Try.prog 3 #[.agg #[.int .i64 a0, .int .i64 a1, .string a2, .slice A3 l3.length c3, .slice A4 l4.length c4], .string nm] w fun e w' => e = .returned (.bool true) ∧ Below w.heap.size w w' := by
  by_cases hn : (nm.size : Int) > 1048576
  · exact law0_ w a0 a1 a2 A3 c3 l3 A4 c4 l4 nm 0 (decide_eq_true hn)
  have hsz := fun W (hW : Below w.heap.size w W) => laws_szJson.calls a0 a1 a2 A3 c3 l3 A4 c4 l4 1048576 _ W (Kd.C_below hr3 hW) hc3 (Kd.C_below hr4 hW) hc4 rfl
  by_cases ht : laws_szJson.szJ ⟨a0, a1, a2, l3, l4⟩ 1048576 < 0
  · exact law1_ w a0 a1 a2 A3 c3 l3 A4 c4 l4 nm _ hsz (decide_eq_false hn) (decide_eq_true ht)
  have hj := (szJ_ok _ 1048576 hok (by omega) (by omega) (by omega)).1
  have hcn := szJ_cnt _ 1048576 hok (by omega) (by omega) (by omega)
  simp only at hcn
  obtain ⟨L4, hL⟩ : ∃ L4, laws_toJson.toJL l4 = L4 := ⟨_, rfl⟩
  have hf : laws_toJson.f a0 a1 a2 l3 l4 = some (a0, a1, a2, l3, L4) := by rw [laws_toJson.f, if_pos hj, hL]
  rw [hL] at hcn
  obtain ⟨r1, r2, r3, r4, r5, r6, K, hK, hb⟩ := member_same a0 a1 a2 l3 L4 nm (by omega)
  refine law_ w mT a0 a1 a2 A3 c3 l3 A4 c4 l4 L4 nm _ r1 r2 r3 r4 r5 r6 markT_pre markS_pre hsz ?_ ?_ ?_ ?_ ?_ ?_ ?_ ?_ ?_ (decide_eq_false hn) (decide_eq_false ht)
  · intro W hW
    refine (laws_toJson.calls a0 a1 a2 A3 c3 l3 A4 c4 l4 a0 a1 a2 l3 L4 W (Kd.C_below hr3 hW) hc3 (Kd.C_below hr4 hW) hc4 hf).mono ?_
    rintro e w' ⟨v3, v4, rfl, h3, h4, hb'⟩
    obtain ⟨A, c, e3⟩ := Kd.R_slice h3
    obtain ⟨B, d, e4⟩ := Kd.R_slice h4
    subst e3 e4
    exact ⟨A, c, B, d, rfl, Js_of h3 h4, hb'⟩
  · intro W hW
    refine (laws_toJson.all2 ⟨a0, a1, a2, l3, l4⟩ A3 c3 A4 c4 W (Kd.C_below hr3 hW) hc3 (Kd.C_below hr4 hW) hc4 hj).mono ?_
    rintro e w' ⟨v3, v4, X, rfl, h3, h4, hX, nd, hb'⟩
    simp only at h3 hX
    rw [hL] at hX
    obtain ⟨A, c, B, d, e3, e4, hR⟩ := rb_of h3 h4 hX
    have hnd := b3_nd h4 nd
    subst e3 e4
    exact ⟨A, c, B, d, X, rfl, hR, hX, hnd, hb'⟩
  · intro W A c B d hJ
    refine (spec_Member.calls K a0 a1 a2 A c l3 B d L4 nm r1 r2 r3 r4 r5 r6 W hJ.1 hJ.2.1 hJ.2.2.1 hJ.2.2.2 (hK K (Nat.le_refl _)).1).mono ?_
    rintro e w' ⟨v3, v4, rfl, h3, h4, hb'⟩
    obtain ⟨A, c, e3⟩ := Kd.R_slice h3
    obtain ⟨B, d, e4⟩ := Kd.R_slice h4
    subst e3 e4
    exact ⟨A, c, B, d, rfl, h3, Kd.R_mono h4 (fun _ _ => trivial), hb'⟩
  · intro W A c B d hJ
    refine (impl_Member.calls2 K a0 a1 a2 A c l3 B d L4 nm r1 r2 r3 r4 r5 r6 W hJ.1 hJ.2.1 hJ.2.2.1 hJ.2.2.2 (hK K (Nat.le_refl _)).2).mono ?_
    rintro e w' ⟨v3, v4, X, rfl, h3, h4, hX, nd, hb'⟩
    obtain ⟨A, c, B, d, e3, e4, hR⟩ := rb_of h3 h4 hX
    have hnd := b3_nd h4 nd
    subst e3 e4
    exact ⟨A, c, B, d, X, rfl, hR, hX, hnd, hb'⟩
  · intro W A c B d A' c' B' d' h h'
    exact laws_eqJson.calls r1 r2 r3 A c r4 B d r5 r1 r2 r3 A' c' r4 B' d' r5 true W h.1 h.2.1 h.2.2.1 h.2.2.2 h'.1 h'.2.1 h'.2.2.1 h'.2.2.2 (eq_self r1 r2 r3 r4 r5)
  · intro W A c B d A' c' B' d' h h'
    exact laws_eqJson.calls a0 a1 a2 A c l3 B d L4 a0 a1 a2 A' c' l3 B' d' L4 true W h.1 h.2.1 h.2.2.1 h.2.2.2 h'.1 h'.2.1 h'.2.2.1 h'.2.2.2 (eq_self a0 a1 a2 l3 L4)
  · intro W A c B d X hX hR
    have hJ := RB.js hR rfl
    have hx : X.length = r5.length := by rw [← hX, eraL_len]
    have e3 := nmS_len mT 1 r4.length
    have e4 : (eraL (mkL mT X (1 + r4.length))).length = r5.length := by rw [eraL_len, mkL_len, hx]
    have hc : cntL X = cJL r5 := by rw [cntL_era, hX]
    obtain ⟨q, hq⟩ := heldJ r1 r2 r3 (⟨0, 0, ⟨#[]⟩, r4, none, X, none⟩ : JB) 1 (Nat.le_refl _) (by simp only; omega)
    have h := laws_heldJson.calls q r1 r2 r3 A c (nmS mT 1 r4.length) B d (eraL (mkL mT X (1 + r4.length))) 1 ((1 + r4.length + cntL X : Nat) : Int) W hJ.1 hJ.2.1 hJ.2.2.1 hJ.2.2.2 (hq q (Nat.le_refl _))
    rw [e3, e4] at h
    exact h
  · intro X hX
    rw [cntL_era, hX]; omega
  · intro X hX
    rw [cntL_era, hX]; omega
end Go.Proofs.Ytljpmdeobmmhlaa.QFnExactMember
