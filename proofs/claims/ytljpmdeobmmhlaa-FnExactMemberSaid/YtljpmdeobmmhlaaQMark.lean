/- Marks written into a value's rows: the program's own walk. -/
import Derived.Test.YtljpmdeobmmhlaaQShort
import Derived.Test.YtljpmdeobmmhlaaQFnExactMemberx6
import Derived.Test.YtljpmdeobmmhlaaQMem
namespace Go.Proofs.Ytljpmdeobmmhlaa.QFnExactMember
open Go.RowKit Go.Proofs.YtljpmdeobmmhlaaW.PrintWords Go.Proofs.YtljpmdeobmmhlaaW.PrintLast Go.Proofs.YtljpmdeobmmhlaaW.PrintMore
open Go.Proofs.Ytljpmdeobmmhlaa.Short
set_option linter.unusedVariables false
set_option linter.unusedSimpArgs false
/-! laws.markJsonS -/
abbrev Pm (tx : Nat → ByteArray) (l : List JB) : Prop := ∀ (v : Value) (k : Nat) (w0 w : World), Below w0.heap.size w0 w → kB.R 29 w w0.heap.size (fun _ => True) v l → (blkL l).Nodup → 1 ≤ k → k + cntL l ≤ 1000000000 →
  Calls Try.prog 27 #[v, .int .i64 (k : Int)] w fun e w' => e = .returned (.int .i64 ((k + cntL l : Nat) : Int)) ∧ kB.R 29 w' w0.heap.size (fun _ => True) v (mkL tx l k) ∧ Below w0.heap.size w0 w' ∧ Kept w w' (fun b => v.ownBlock = some b ∨ b ∈ blkL l)
theorem R_not {w : World} {base : Nat} {ok : Nat → Prop} {v : Value} {xs : List JB} (h : kB.R 29 w base ok v xs) {b : Nat} (hb : v.ownBlock = some b) : b ∉ blkL xs := by
  intro hm
  obtain ⟨y, hy, hky⟩ := blkL_mem.1 hm
  obtain ⟨i, hi⟩ := List.getElem?_of_mem hy
  obtain ⟨_, inner, _, hr⟩ := h
  exact (M_ok y (hr.2 i y hi) b hky).2 hb.symm
theorem w64_ (m : Nat) (h : m ≤ 2000000000) : wrap64 ((m : Int) + 1) = ((m + 1 : Nat) : Int) := by unfold wrap64; omega
theorem le_of_take (l : List JB) (n : Nat) : cntL (l.take n) ≤ cntL l := by
  have := cntL_append (l.take n) (l.drop n)
  rw [List.take_append_drop] at this
  omega
set_option maxHeartbeats 8000000 in
set_option maxRecDepth 100000 in
theorem markL_ (tx : Nat → ByteArray) (hT : ∀ v : Nat, 1 ≤ v → v ≤ 1000000000 → ∃ q, laws_markText.f q (v : Int) = some (tx v)) (hS : ∀ (l : List ByteArray) (v : Nat), 1 ≤ v → v + l.length ≤ 1000000000 → ∃ q, laws_markStringS.f q l (v : Int) = some (((v + l.length : Nat) : Int), nmS tx v l.length)) (l : List JB) (ih : ∀ x, x ∈ l → Pm tx x.f4) : Pm tx l := by
  intro v k w0 w hB ho nd hk hk'
  have HG := Aside0.mk (fun b (hb : v.ownBlock = some b) => R_not ho hb)
  have HO := Aside0.mk (by rw [part_zero]; exact ho : kB.R 29 w w0.heap.size (fun _ => True) v (part tx l k 0))
  have HK := Aside0.mk (Kept.refl w (fun b => v.ownBlock = some b ∨ b ∈ blkL l))
  have HB := Aside0.mk hB
  have HT := Aside0.mk hT
  have HS := Aside0.mk hS
  have HI := Aside0.mk ih
  have ND := Aside0.mk nd
  obtain ⟨A, c, ev⟩ := Kd.R_slice ho
  subst ev
  clear ho hB hT hS ih nd
  go_enter Try.func27, Try.ntmps27
  go_wp2
  go_loopw [1, 5] (fun kv iv W => ∃ n m : Nat, n ≤ l.length ∧ m = k + cntL (l.take n) ∧ kv = .int .i64 (m : Int) ∧ iv = .int .i64 (n : Int) ∧ Aside0 (kB.R 29 W w0.heap.size (fun _ => True) (.slice A l.length c) (part tx l k n)) ∧ Aside0 (Kept w W (fun b => (Value.slice A l.length c).ownBlock = some b ∨ b ∈ blkL l)) ∧ Aside0 (Below w0.heap.size w0 W)) (fun _ iv _ => l.length - (intOf iv).toNat)
  case atStart => exact ⟨0, k, Nat.zero_le _, by simp [cntL], rfl, rfl, HO, HK, HB⟩
  case round =>
    clear HO HK HB
    obtain ⟨n, m, hn, hm, rfl, rfl, HO, HK, HB⟩ := hrel
    by_cases hlt : n < l.length
    ·
      have q : (n : Int) < (l.length : Int) := by omega
      have p : 0 ≤ (n : Int) := by omega
      have hdec : decide ((n : Int) < (l.length : Int)) = true := decide_eq_true q
      obtain ⟨x, hx⟩ : ∃ x, l[n]? = some x := ⟨_, List.getElem?_eq_getElem hlt⟩
      have hc := part_cnt l n x hx
      have hle := le_of_take l (n + 1)
      have hce := cntE_is x
      have hb9 : m + cntE x ≤ 1000000000 := by omega
      have b1 : m ≤ 2000000000 := by omega
      have b2 : m + 1 ≤ 2000000000 := by omega
      have b3 : m + 2 ≤ 2000000000 := by omega
      obtain ⟨qt, hqt⟩ := HT.out (m + 2) (by omega) (by omega)
      obtain ⟨qs, hqs⟩ := HS.out x.f3 (m + 3) (by omega) (by omega)
      have E1 := Aside0.mk (w64_ m b1)
      have E2 := Aside0.mk (w64_ (m + 1) b2)
      have E3 := Aside0.mk (w64_ (m + 2) b3)
      have HQT := Aside0.mk hqt
      have HQS := Aside0.mk hqs
      clear hqt hqs
      have HI1 := Aside0.mk (HI.out x (List.mem_of_getElem? hx))
      have HX := Aside0.mk hx
      have hy0 := part_at tx l k n x hx
      have hyl := part_len tx l k n
      have hyb := blkL_part tx l k n
      have hend := part_step tx l k n x hx
      generalize part tx l k n = y at HO hy0 hyl hyb hend
      have HY := Aside0.mk hy0
      have NDY := Aside0.mk (show (blkL y).Nodup by rw [hyb]; exact ND.out)
      have HEND := Aside0.mk hend
      have HYB := Aside0.mk hyb
      have HYL := Aside0.mk hyl
      obtain ⟨go, co, eg, gb, gl, _⟩ := Kd.R_form HO.out (by omega)
      rw [hyl] at eg
      obtain ⟨rfl, rfl⟩ : A = some ⟨go, 0, none⟩ ∧ c = co := by
        injection eg with a1 a2 a3
        exact ⟨a1, a3⟩
      have GGN := Aside0.mk (show go ∉ blkL y by rw [hyb]; exact HG.out go (by simp [Value.ownBlock]))
      have GB := Aside0.mk gb
      clear eg gb hyl hyb hend hy0 hx
      have GL := Aside0.mk gl
      clear gl
      obtain ⟨a3, a4, z0, z1, z2, z3, z4, f0, f1, f2, f3, f4, _⟩ := E_cells HO.out n hlt x HY.out
      have ND4 := Aside0.mk (show (blkL x.f4).Nodup by
        have h_ := blkL_one NDY.out HY.out
        cases x with
        | mk a b c d o3 e o4 => rw [blk, List.nodup_append, List.nodup_append] at h_; exact h_.2.1.2.1)
      have HN9 := Aside0.mk (w64_ n (by have := len_cnt l; omega))
      have HM := Aside0.mk hm
      have H9 := Aside0.mk hb9
      have HC1 := Aside0.mk hc
      have HE1 := Aside0.mk hce
      have HK1 := Aside0.mk hk
      clear hm hb9 hc hce hle b1 b2 b3 hk'
      go_wp2_with (first | ((with_reducible refine gate_store (t := 3) (p := 16) rfl ?_); refine store_event (t := 3) (p := 16) (v := ?vo_w1) (w1 := wr.setCell ⟨go, n * 5, none⟩ (.int .i64 (m : Int))) ?hg ?ho ?hn ?hr ?_; (case ho => rfl); (case hg => rfl); (case hn => rfl); (case hr => first | (go_simp; done) | (go_simp; rfl)); intro w1 hw; have n0 := Aside0.mk (by rw [hw]; have h_ := R_f0 HO.out n hlt _ HY.out (m : Int); exact h_ : kB.R 29 w1 w0.heap.size (fun _ => True) (.slice (some ⟨go, 0, none⟩) l.length c) (y.set n { x with f0 := (m : Int) })); have n1 := Aside0.mk (by rw [hw]; exact Kept.setCell (by repeat (first | (with_reducible first | exact HK.out | apply Kept.alloc | apply Kept.drewN | apply Kept.drew) | exact HK.out)) (.inl (by simp [Value.ownBlock])) _ : Kept w w1 (fun b => (Value.slice (some ⟨go, 0, none⟩) l.length c).ownBlock = some b ∨ b ∈ blkL l)); have n2 := Aside0.mk (by rw [hw]; exact below_set (by repeat (first | (with_reducible first | exact HB.out | apply below_alloc | apply pw_below_drewN | apply below_drew1) | exact HB.out)) GB.out : Below w0.heap.size w0 w1); clear HO HK HB z0 z1 z2 z3 z4 f0 f1 f2 f3 f4; have HO := n0; have HK := n1; have HB := n2; clear n0 n1 n2 hw; obtain ⟨b3, b4, z0, z1, z2, z3, z4, f0, f1, f2, f3, f4, g3, o3, g4, o4⟩ := E_cells HO.out n hlt { x with f0 := (m : Int) } (at_set (by have := HYL.out; omega) _); clear g3 o3 g4 o4) | ((with_reducible refine gate_store (t := 3) (p := 23) rfl ?_); refine store_event (t := 3) (p := 23) (v := ?vo_w2) (w1 := w1.setCell ⟨go, n * 5 + 1, none⟩ (.int .i64 (wrap64 ((m : Int) + 1)))) ?hg ?ho ?hn ?hr ?_; (case ho => rfl); (case hg => rfl); (case hn => rfl); (case hr => first | (go_simp; done) | (go_simp; rfl)); intro w2 hw; rw [E1.out] at hw; have n0 := Aside0.mk (by rw [hw]; have h_ := R_f1 HO.out n hlt _ (at_set (by have := HYL.out; omega) _) ((m + 1 : Nat) : Int); rw [List.set_set] at h_; exact h_ : kB.R 29 w2 w0.heap.size (fun _ => True) (.slice (some ⟨go, 0, none⟩) l.length c) (y.set n { x with f0 := (m : Int), f1 := ((m + 1 : Nat) : Int) })); have n1 := Aside0.mk (by rw [hw]; exact Kept.setCell (by repeat (first | (with_reducible first | exact HK.out | apply Kept.alloc | apply Kept.drewN | apply Kept.drew) | exact HK.out)) (.inl (by simp [Value.ownBlock])) _ : Kept w w2 (fun b => (Value.slice (some ⟨go, 0, none⟩) l.length c).ownBlock = some b ∨ b ∈ blkL l)); have n2 := Aside0.mk (by rw [hw]; exact below_set (by repeat (first | (with_reducible first | exact HB.out | apply below_alloc | apply pw_below_drewN | apply below_drew1) | exact HB.out)) GB.out : Below w0.heap.size w0 w2); clear HO HK HB z0 z1 z2 z3 z4 f0 f1 f2 f3 f4; have HO := n0; have HK := n1; have HB := n2; clear n0 n1 n2 hw; obtain ⟨b3, b4, z0, z1, z2, z3, z4, f0, f1, f2, f3, f4, g3, o3, g4, o4⟩ := E_cells HO.out n hlt { x with f0 := (m : Int), f1 := ((m + 1 : Nat) : Int) } (at_set (by have := HYL.out; omega) _); clear g3 o3 g4 o4) | ((with_reducible refine gate_callee (f := 35) rfl ?_); refine cU_ (some 29) Try.func35 #[.int .i64 (wrap64 (wrap64 ((m : Int) + 1) + 1))] ?_; (with_reducible refine (laws_markText.calls qt _ (tx (m + 2)) _ (by rw [E1.out, E2.out]; exact HQT.out)).mono ?_); rintro e w3 ⟨rfl, hb⟩; refine ⟨_, rfl, ?_⟩; have n0 := Aside0.mk (Kd.R_below (by (with_reducible repeat (first | apply Kd.R_alloc | apply Kd.R_drewN | apply Kd.R_drew)); exact HO.out) hb : kB.R 29 w3 w0.heap.size (fun _ => True) (.slice (some ⟨go, 0, none⟩) l.length c) (y.set n { x with f0 := (m : Int), f1 := ((m + 1 : Nat) : Int) })); have n1 := Aside0.mk (Kept.below (by repeat (first | (with_reducible first | exact HK.out | apply Kept.alloc | apply Kept.drewN | apply Kept.drew) | exact HK.out)) hb : Kept w w3 (fun b => (Value.slice (some ⟨go, 0, none⟩) l.length c).ownBlock = some b ∨ b ∈ blkL l)); have n2 := Aside0.mk (below_step (by repeat (first | (with_reducible first | exact HB.out | apply below_alloc | apply pw_below_drewN | apply below_drew1) | exact HB.out)) hb); clear HO HK HB z0 z1 z2 z3 z4 f0 f1 f2 f3 f4 hb; have HO := n0; have HK := n1; have HB := n2; clear n0 n1 n2; obtain ⟨b3, b4, z0, z1, z2, z3, z4, f0, f1, f2, f3, f4, g3, o3, g4, o4⟩ := E_cells HO.out n hlt { x with f0 := (m : Int), f1 := ((m + 1 : Nat) : Int) } (at_set (by have := HYL.out; omega) _); clear g3 o3 g4 o4) | ((with_reducible refine gate_store (t := 9) (p := 31) rfl ?_); refine store_event (t := 9) (p := 31) (v := ?vo_w4) (w1 := w3.setCell ⟨go, n * 5 + 2, none⟩ (.string (tx (m + 2)))) ?hg ?ho ?hn ?hr ?_; (case ho => rfl); (case hg => rfl); (case hn => rfl); (case hr => first | (go_simp; done) | (go_simp; rfl)); intro w4 hw; have n0 := Aside0.mk (by rw [hw]; have h_ := R_f2 HO.out n hlt _ (at_set (by have := HYL.out; omega) _) (tx (m + 2)); rw [List.set_set] at h_; exact h_ : kB.R 29 w4 w0.heap.size (fun _ => True) (.slice (some ⟨go, 0, none⟩) l.length c) (y.set n { x with f0 := (m : Int), f1 := ((m + 1 : Nat) : Int), f2 := tx (m + 2) })); have n1 := Aside0.mk (by rw [hw]; exact Kept.setCell (by repeat (first | (with_reducible first | exact HK.out | apply Kept.alloc | apply Kept.drewN | apply Kept.drew) | exact HK.out)) (.inl (by simp [Value.ownBlock])) _ : Kept w w4 (fun b => (Value.slice (some ⟨go, 0, none⟩) l.length c).ownBlock = some b ∨ b ∈ blkL l)); have n2 := Aside0.mk (by rw [hw]; exact below_set (by repeat (first | (with_reducible first | exact HB.out | apply below_alloc | apply pw_below_drewN | apply below_drew1) | exact HB.out)) GB.out : Below w0.heap.size w0 w4); clear HO HK HB z0 z1 z2 z3 z4 f0 f1 f2 f3 f4; have HO := n0; have HK := n1; have HB := n2; clear n0 n1 n2 hw; obtain ⟨b3, b4, z0, z1, z2, z3, z4, f0, f1, f2, f3, f4, g3, o3, g4, o4⟩ := E_cells HO.out n hlt { x with f0 := (m : Int), f1 := ((m + 1 : Nat) : Int), f2 := tx (m + 2) } (at_set (by have := HYL.out; omega) _); have G3 := Aside0.mk g3; have O3 := Aside0.mk o3; have G4 := Aside0.mk g4; have O4 := Aside0.mk o4; clear g3 o3 g4 o4; obtain ⟨Ao, ao, e3⟩ := Kd.R_slice G3.out; subst e3; obtain ⟨Bo, bo, e4⟩ := Kd.R_slice G4.out; subst e4) | ((with_reducible refine gate_callee (f := 26) rfl ?_); refine cU_ (some 40) Try.func26 #[.slice Ao x.f3.length ao, .int .i64 (wrap64 (wrap64 (wrap64 ((m : Int) + 1) + 1) + 1))] ?_; (with_reducible refine (laws_markStringS.calls qs (fun b => (Value.slice Ao x.f3.length ao).ownBlock = some b) (.slice Ao x.f3.length ao) x.f3 _ _ _ w0 _ ?s1 ?s2 (by rw [E1.out, E2.out, E3.out]; exact HQS.out)).mono ?_); (case s1 => exact (by repeat (first | (with_reducible first | exact HB.out | apply below_alloc | apply pw_below_drewN | apply below_drew1) | exact HB.out))); (case s2 => (with_reducible repeat (first | apply Kd.R_alloc | apply Kd.R_drewN | apply Kd.R_drew)); exact str_ok G3.out (fun k hk => hk)); rintro e w5 ⟨rfl, hy, hb, hkp⟩; refine ⟨_, rfl, ?_⟩; have n0 := Aside0.mk (by have h_ := R_names (by (with_reducible repeat (first | apply Kd.R_alloc | apply Kd.R_drewN | apply Kd.R_drew)); exact HO.out) n _ (at_set (by have := HYL.out; omega) _) (World.block_lt_of_cell? _ _ z3) (set_not (x' := { x with f0 := (m : Int), f1 := ((m + 1 : Nat) : Int), f2 := tx (m + 2) }) HY.out (blk_eq rfl rfl rfl) GGN.out) (set_nd (x' := { x with f0 := (m : Int), f1 := ((m + 1 : Nat) : Int), f2 := tx (m + 2) }) HY.out (blk_eq rfl rfl rfl) NDY.out) z3 hkp (fun _ h => h) (Kd.R_mono hy (fun _ _ => trivial)); rw [List.set_set] at h_; exact h_ : kB.R 29 w5 w0.heap.size (fun _ => True) (.slice (some ⟨go, 0, none⟩) l.length c) (y.set n { x with f0 := (m : Int), f1 := ((m + 1 : Nat) : Int), f2 := tx (m + 2), f3 := nmS tx (m + 3) x.f3.length })); have n1 := Aside0.mk (Kept.then_ (by repeat (first | (with_reducible first | exact HK.out | apply Kept.alloc | apply Kept.drewN | apply Kept.drew) | exact HK.out)) hkp (fun b hb_ => .inl (.inr (HYB.out ▸ blkL_mem.2 ⟨x, List.mem_of_getElem? HY.out, blk_mem.2 (.inl (O3.out.symm.trans hb_))⟩))) : Kept w w5 (fun b => (Value.slice (some ⟨go, 0, none⟩) l.length c).ownBlock = some b ∨ b ∈ blkL l)); have n2 := Aside0.mk hb; clear HO HK HB z0 z1 z2 z3 z4 f0 f1 f2 f3 f4 hy hb hkp G3 O3 G4; have HO := n0; have HK := n1; have HB := n2; clear n0 n1 n2; obtain ⟨b3, b4, z0, z1, z2, z3, z4, f0, f1, f2, f3, f4, g3, o3, g4, o4⟩ := E_cells HO.out n hlt { x with f0 := (m : Int), f1 := ((m + 1 : Nat) : Int), f2 := tx (m + 2), f3 := nmS tx (m + 3) x.f3.length } (at_set (by have := HYL.out; omega) _); have G4 := Aside0.mk g4; have O4 := Aside0.mk o4; clear g3 o3 g4 o4; obtain ⟨Co, co_, e4⟩ := Kd.R_slice G4.out; subst e4) | ((with_reducible refine gate_callee (f := 27) rfl ?_); refine cU_ (some 47) Try.func27 #[.slice Co x.f4.length co_, .int .i64 ((m + 3 + x.f3.length : Nat) : Int)] ?_; (with_reducible refine (HI1.out (.slice Co x.f4.length co_) (m + 3 + x.f3.length) w0 _ ?s1 ?s2 ?s3 ?s4 ?s5).mono ?_); (case s1 => exact (by repeat (first | (with_reducible first | exact HB.out | apply below_alloc | apply pw_below_drewN | apply below_drew1) | exact HB.out))); (case s2 => (with_reducible repeat (first | apply Kd.R_alloc | apply Kd.R_drewN | apply Kd.R_drew)); exact Kd.R_mono G4.out (fun _ _ => trivial)); (case s3 => exact ND4.out); (case s4 => omega); (case s5 => have h1 := HE1.out; have h2 := H9.out; omega); rintro e w7 ⟨rfl, hy, hb, hkp⟩; refine ⟨_, rfl, ?_⟩; have n0 := Aside0.mk (by have h_ := R_items (by (with_reducible repeat (first | apply Kd.R_alloc | apply Kd.R_drewN | apply Kd.R_drew)); exact HO.out) n _ (at_set (by have := HYL.out; omega) _) (World.block_lt_of_cell? _ _ z4) (set_not (x' := { x with f0 := (m : Int), f1 := ((m + 1 : Nat) : Int), f2 := tx (m + 2), f3 := nmS tx (m + 3) x.f3.length }) HY.out (blk_eq rfl rfl rfl) GGN.out) (set_nd (x' := { x with f0 := (m : Int), f1 := ((m + 1 : Nat) : Int), f2 := tx (m + 2), f3 := nmS tx (m + 3) x.f3.length }) HY.out (blk_eq rfl rfl rfl) NDY.out) z4 hkp (fun _ h => h) (blkL_mkL tx x.f4 (m + 3 + x.f3.length)) hy; rw [List.set_set] at h_; exact h_ : kB.R 29 w7 w0.heap.size (fun _ => True) (.slice (some ⟨go, 0, none⟩) l.length c) (y.set n { x with f0 := (m : Int), f1 := ((m + 1 : Nat) : Int), f2 := tx (m + 2), f3 := nmS tx (m + 3) x.f3.length, f4 := mkL tx x.f4 (m + 3 + x.f3.length) })); have n1 := Aside0.mk (Kept.then_ (by repeat (first | (with_reducible first | exact HK.out | apply Kept.alloc | apply Kept.drewN | apply Kept.drew) | exact HK.out)) hkp (fun b hb_ => .inl (.inr (HYB.out ▸ blkL_mem.2 ⟨x, List.mem_of_getElem? HY.out, blk_mem.2 (hb_.elim (fun h => .inr (.inl (O4.out.symm.trans h))) (fun h => .inr (.inr h)))⟩))) : Kept w w7 (fun b => (Value.slice (some ⟨go, 0, none⟩) l.length c).ownBlock = some b ∨ b ∈ blkL l)); have n2 := Aside0.mk hb; clear HO HK HB z0 z1 z2 z3 z4 f0 f1 f2 f3 f4 hy hb hkp G4 O4; have HO := n0; have HK := n1; have HB := n2; clear n0 n1 n2))
      go_roundw
      case rel =>
        rw [HN9.out]
        refine ⟨n + 1, m + cntE x, by omega, by have h1 := HM.out; have h2 := HC1.out; omega, ?_, rfl, ⟨?_⟩, ⟨(by repeat (first | (with_reducible first | exact HK.out | apply Kept.alloc | apply Kept.drewN | apply Kept.drew) | exact HK.out))⟩, ⟨(by repeat (first | (with_reducible first | exact HB.out | apply below_alloc | apply pw_below_drewN | apply below_drew1) | exact HB.out))⟩⟩
        · rw [HE1.out]; congr 1; omega
        · have h_ := HO.out
          have e_ := HEND.out
          rw [mkE_is, ← HM.out] at e_
          (with_reducible repeat (first | apply Kd.R_alloc | apply Kd.R_drewN | apply Kd.R_drew))
          rw [← e_]
          exact h_
      case measure => rw [HN9.out]; simp [intOf]; omega
    · have hdec : decide ((n : Int) < (l.length : Int)) = false := decide_eq_false (by omega)
      go_wp2
      go_ret
      have en : l.take n = l := List.take_of_length_le (by omega)
      rw [en] at hm
      subst hm
      exact ⟨rfl, by have h := HO.out; rw [part_all tx l k n (by omega)] at h; exact h, HB.out, HK.out⟩
theorem markE_all (tx : Nat → ByteArray) (hT : ∀ v : Nat, 1 ≤ v → v ≤ 1000000000 → ∃ q, laws_markText.f q (v : Int) = some (tx v)) (hS : ∀ (l : List ByteArray) (v : Nat), 1 ≤ v → v + l.length ≤ 1000000000 → ∃ q, laws_markStringS.f q l (v : Int) = some (((v + l.length : Nat) : Int), nmS tx v l.length)) (x : JB) : Pm tx x.f4 :=
  ind_ (p := fun x => Pm tx x.f4) (fun x ih => markL_ tx hT hS x.f4 (fun y hy => ih y hy)) x
theorem markL_all (tx : Nat → ByteArray) (hT : ∀ v : Nat, 1 ≤ v → v ≤ 1000000000 → ∃ q, laws_markText.f q (v : Int) = some (tx v)) (hS : ∀ (l : List ByteArray) (v : Nat), 1 ≤ v → v + l.length ≤ 1000000000 → ∃ q, laws_markStringS.f q l (v : Int) = some (((v + l.length : Nat) : Int), nmS tx v l.length)) (l : List JB) : Pm tx l :=
  markL_ tx hT hS l (fun x _ => markE_all tx hT hS x)
set_option maxHeartbeats 8000000 in
set_option maxRecDepth 100000 in
/-- laws.markJson -/
theorem markJ_ (tx : Nat → ByteArray) (hT : ∀ v : Nat, 1 ≤ v → v ≤ 1000000000 → ∃ q, laws_markText.f q (v : Int) = some (tx v)) (hS : ∀ (l : List ByteArray) (v : Nat), 1 ≤ v → v + l.length ≤ 1000000000 → ∃ q, laws_markStringS.f q l (v : Int) = some (((v + l.length : Nat) : Int), nmS tx v l.length))
    (x : JB) (a b : Int) (s : ByteArray) (v3 v4 : Value) (k : Nat) (w0 w : World) (hB : Below w0.heap.size w0 w) (h3 : Kd.string.R 9 w w0.heap.size (fun _ => True) v3 x.f3) (o3 : v3.ownBlock = x.o3) (h4 : kB.R 29 w w0.heap.size (fun _ => True) v4 x.f4) (o4 : v4.ownBlock = x.o4) (nd : (blk x).Nodup) (hk : 1 ≤ k) (hk' : k + x.f3.length + cntL x.f4 ≤ 1000000000) :
    Calls Try.prog 9 #[.agg #[.int .i64 a, .int .i64 b, .string s, v3, v4], .int .i64 (k : Int)] w fun e w' => e = .returned (.int .i64 ((k + x.f3.length + cntL x.f4 : Nat) : Int)) ∧ Kd.string.R 9 w' w0.heap.size (fun _ => True) v3 (nmS tx k x.f3.length) ∧ kB.R 29 w' w0.heap.size (fun _ => True) v4 (mkL tx x.f4 (k + x.f3.length)) ∧ Below w0.heap.size w0 w' ∧ Kept w w' (fun b => b ∈ blk x) := by
  obtain ⟨qs, hqs⟩ := hS x.f3 k hk (by omega)
  have HQS := Aside0.mk hqs
  have HI := Aside0.mk (markL_all tx hT hS x.f4)
  have N34 := Aside0.mk (show ∀ q, v3.ownBlock = some q → ¬ (v4.ownBlock = some q ∨ q ∈ blkL x.f4) by
    intro q hq hm
    have h1 : x.o3 = some q := o3.symm.trans hq
    have h2 : x.o4 = some q ∨ q ∈ blkL x.f4 := hm.imp (fun h => o4.symm.trans h) id
    cases x with
    | mk a b c d o3 e o4 =>
      rw [blk, List.nodup_append] at nd
      simp only at h1 h2
      subst h1
      exact nd.2.2 q (by simp) q (by rcases h2 with h2 | h2 <;> simp [h2]) rfl)
  have NDL := Aside0.mk (show (blkL x.f4).Nodup by
    cases x with
    | mk a b c d o3 e o4 => rw [blk, List.nodup_append, List.nodup_append] at nd; exact nd.2.1.2.1)
  have L3 := Aside0.mk (fun q (hq : v3.ownBlock = some q) => ((Kd.R_bound h3).1 q hq).2.2.1)
  have L4 := Aside0.mk (fun q (hq : v4.ownBlock = some q ∨ q ∈ blkL x.f4) => (R_ok (Kd.R_bound h4) q hq).2.2.1)
  have I3 := Aside0.mk (fun q (hq : v3.ownBlock = some q) => (blk_mem.2 (.inl (o3.symm.trans hq)) : q ∈ blk x))
  have I4 := Aside0.mk (fun q (hq : v4.ownBlock = some q ∨ q ∈ blkL x.f4) => (blk_mem.2 (hq.elim (fun h => .inr (.inl (o4.symm.trans h))) (fun h => .inr (.inr h))) : q ∈ blk x))
  have HB := Aside0.mk hB
  have H3 := Aside0.mk h3
  have H4 := Aside0.mk h4
  obtain ⟨Ao, ao, e3⟩ := Kd.R_slice h3
  obtain ⟨Bo, bo, e4⟩ := Kd.R_slice h4
  subst e3 e4
  have K1 := Aside0.mk hk
  have K2 := Aside0.mk hk'
  have hu29 := Try.underlying29
  clear hB h3 h4 o3 o4 nd hT hS hqs hk hk'
  go_enter Try.func9, Try.ntmps9
  go_wp2_with (first | ((with_reducible refine gate_dst (N := 2) rfl ?_); refine box_event ?hg (N := 2) ?hd (cs := #[.int .i64 a, .int .i64 b, .string s, .slice Ao x.f3.length ao, .slice Bo x.f4.length bo]) (t := 29) ?hr ?_; (case hd => rfl); (case hg => rfl); (case hr => first | (go_simp; done) | (go_simp; rfl)); intro g hg w1 hx hb; have n0 := Aside0.mk (Kd.R_below H3.out hb); have n1 := Aside0.mk (Kd.R_below H4.out hb); have n2 := Aside0.mk (below_step HB.out hb); have HK := Aside0.mk (Kept.of_below hb (fun b => b ∈ blk x)); have BK := Aside0.mk hx; have F3 := Aside0.mk (fun q (hq : (Value.slice Ao x.f3.length ao).ownBlock = some q) (e_ : q = g) => (absurd (L3.out q hq) (by rw [e_, hg]; exact Nat.lt_irrefl _) : False)); have F4 := Aside0.mk (fun q (hq : (Value.slice Bo x.f4.length bo).ownBlock = some q ∨ q ∈ blkL x.f4) (e_ : q = g) => (absurd (L4.out q hq) (by rw [e_, hg]; exact Nat.lt_irrefl _) : False)); clear H3 H4 HB hx hb hg; have H3 := n0; have H4 := n1; have HB := n2; clear n0 n1 n2; have z3 : w1.cell? ⟨g, 3, none⟩ = some (.slice Ao x.f3.length ao) := (blk_cell BK.out 3).trans rfl; have zf3 := blk_frozen BK.out 3; have z4 : w1.cell? ⟨g, 4, none⟩ = some (.slice Bo x.f4.length bo) := (blk_cell BK.out 4).trans rfl; have zf4 := blk_frozen BK.out 4) | ((with_reducible refine gate_callee (f := 26) rfl ?_); refine cU_ (some 8) Try.func26 #[.slice Ao x.f3.length ao, .int .i64 (k : Int)] ?_; (with_reducible refine (laws_markStringS.calls qs (fun b => (Value.slice Ao x.f3.length ao).ownBlock = some b) (.slice Ao x.f3.length ao) x.f3 _ _ _ w0 _ ?s1 ?s2 HQS.out).mono ?_); (case s1 => exact (by repeat (first | (with_reducible first | exact HB.out | apply below_alloc | apply pw_below_drewN | apply below_drew1) | exact HB.out))); (case s2 => (with_reducible repeat (first | apply Kd.R_alloc | apply Kd.R_drewN | apply Kd.R_drew)); exact str_ok H3.out (fun k hk => hk)); rintro e w2 ⟨rfl, hy, hb, hkp⟩; refine ⟨_, rfl, ?_⟩; have n0 := Aside0.mk (Kd.R_mono (ok' := fun _ => True) hy (fun _ _ => trivial)); have n1 := Aside0.mk (R_frame (w1 := w2) (by (with_reducible repeat (first | apply Kd.R_alloc | apply Kd.R_drewN | apply Kd.R_drew)); exact H4.out) (fun q hq hl => hkp.2 q hl (fun hs => N34.out q hs hq))); have n2 := Aside0.mk hb; have n3 := Aside0.mk (blk_kept (g := g) (o := .cells #[.int .i64 a, .int .i64 b, .string s, .slice Ao x.f3.length ao, .slice Bo x.f4.length bo] 29 (0, 0)) (by (with_reducible repeat (first | refine blk_drewN ?_ _ | refine blk_drew ?_ | refine blk_alloc ?_ _)); exact BK.out) hkp (fun hs => F3.out g hs rfl)); have n4 := Aside0.mk (Kept.then_ (by repeat (first | (with_reducible first | exact HK.out | apply Kept.alloc | apply Kept.drewN | apply Kept.drew) | exact HK.out)) hkp (fun q hq => .inl (I3.out q hq)) : Kept w w2 (fun b => b ∈ blk x)); clear H3 H4 HB BK HK hy hb hkp z3 zf3 z4 zf4; have H3 := n0; have H4 := n1; have HB := n2; have BK := n3; have HK := n4; clear n0 n1 n2 n3 n4; have z4 : w2.cell? ⟨g, 4, none⟩ = some (.slice Bo x.f4.length bo) := (blk_cell BK.out 4).trans rfl; have zf4 := blk_frozen BK.out 4) | ((with_reducible refine gate_callee (f := 27) rfl ?_); refine cU_ (some 12) Try.func27 #[.slice Bo x.f4.length bo, .int .i64 ((k + x.f3.length : Nat) : Int)] ?_; (with_reducible refine (HI.out (.slice Bo x.f4.length bo) (k + x.f3.length) w0 _ ?s1 ?s2 ?s3 ?s4 ?s5).mono ?_); (case s1 => exact (by repeat (first | (with_reducible first | exact HB.out | apply below_alloc | apply pw_below_drewN | apply below_drew1) | exact HB.out))); (case s2 => (with_reducible repeat (first | apply Kd.R_alloc | apply Kd.R_drewN | apply Kd.R_drew)); exact H4.out); (case s3 => exact NDL.out); (case s4 => have := K1.out; omega); (case s5 => exact K2.out); rintro e w3 ⟨rfl, hy, hb, hkp⟩; refine ⟨_, rfl, ?_⟩; have n0 := Aside0.mk (Kd.R_mono (ok' := fun _ => True) (Kd.R_kept (by (with_reducible repeat (first | apply Kd.R_alloc | apply Kd.R_drewN | apply Kd.R_drew)); exact str_ok (ok' := fun q => (Value.slice Ao x.f3.length ao).ownBlock = some q) H3.out (fun k hk => hk)) hkp (fun q hq hs => N34.out q hq hs)) (fun _ _ => trivial)); have n1 := Aside0.mk hy; have n2 := Aside0.mk hb; have n4 := Aside0.mk (Kept.then_ (by repeat (first | (with_reducible first | exact HK.out | apply Kept.alloc | apply Kept.drewN | apply Kept.drew) | exact HK.out)) hkp (fun q hq => .inl (I4.out q hq)) : Kept w w3 (fun b => b ∈ blk x)); clear H3 H4 HB BK HK hy hb hkp z4 zf4; have H3 := n0; have H4 := n1; have HB := n2; have HK := n4; clear n0 n1 n2 n4))
  go_ret
  exact ⟨rfl, H3.out, H4.out, HB.out, HK.out⟩
end Go.Proofs.Ytljpmdeobmmhlaa.QFnExactMember
