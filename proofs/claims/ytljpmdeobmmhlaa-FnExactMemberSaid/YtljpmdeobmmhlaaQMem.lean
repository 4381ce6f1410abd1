/- Rows told with their blocks' numbers; marks written into them. -/
import Derived.Test.YtljpmdeobmmhlaaQFnExactMemberx0
import Derived.Test.YtljpmdeobmmhlaaWKept
namespace Go.Proofs.Ytljpmdeobmmhlaa.QFnExactMember
open Go.RowKit Go.Proofs.YtljpmdeobmmhlaaW.PrintWords
set_option linter.unusedVariables false
set_option linter.unusedSimpArgs false
/-- What is known of a value that came in. -/
inductive ok25 : S25 → Prop where
  | mk (x : S25) (h0 : (Lit.int .i64 x.f0).wf = true) (h1 : (Lit.int .i64 x.f1).wf = true) (h2 : x.f2.size ≤ 9223372036854775807) (h3 : x.f3.length ≤ 9223372036854775807 ∧ ∀ y_, y_ ∈ x.f3 → y_.size ≤ 9223372036854775807) (l4 : x.f4.length ≤ 9223372036854775807) (h4 : ∀ y, y ∈ x.f4 → ok25 y) : ok25 x
/-- A row, told with its own block's number. -/
def sliceB {α : Type} (e : Nat) (d : Kd α) : Kd (List α × Option Nat) where
  sz := 1
  E := e :: d.E
  K := fun w x cs => ∃ A c, cs = [.slice A x.1.length c] ∧ x.1.length ≤ c ∧ d.C w A x.1.length x.1
  M := fun w base ok x cs => ∃ v, cs = [v] ∧ d.R e w base ok v x.1 ∧ v.ownBlock = x.2
  K_len := by
    rintro w x cs ⟨A, c, rfl, _⟩
    rfl
  K_one := by
    rintro w x cs ⟨A, c, rfl, _⟩ u hu
    rw [List.mem_singleton.1 hu]
    rfl
  K_below := by
    rintro w w1 x cs hb ⟨A, c, rfl, hl, hr⟩
    exact ⟨A, c, rfl, hl, Kd.C_below hr hb⟩
  K_of_M := by
    rintro w base ok x cs ⟨v, rfl, h, _⟩
    obtain ⟨A, c, rfl, hl, hr⟩ := Kd.R_reads h
    exact ⟨A, c, rfl, hl, hr⟩
  M_mono := by
    rintro w base ok ok' x cs hok ⟨v, rfl, h, hb⟩
    exact ⟨v, rfl, Kd.R_mono h hok, hb⟩
  M_bound := by
    rintro w base ok x cs ⟨v, rfl, h, hb⟩
    exact ⟨v, rfl, Kd.R_bound h, hb⟩
  M_move := by
    rintro w w1 base ok x cs hm ⟨v, rfl, h, hb⟩
    exact ⟨v, rfl, Kd.R_move h hm, hb⟩
  M_lower := by
    rintro w base base' ok x cs hb ⟨v, rfl, h, ho⟩
    exact ⟨v, rfl, Kd.R_lower h hb, ho⟩
theorem mono_sliceB {α β : Type} (e : Nat) {G : Kd α → Kd β} (hG : Kd.Mono G) : Kd.Mono (fun d => sliceB e (G d)) := by
  refine ⟨fun _ _ _ => rfl, ?_, ?_⟩
  · rintro d d' hs h w x cs ⟨A, c, rfl, hl, hr⟩
    exact ⟨A, c, rfl, hl, Kd.C_imp (hG.sz d d' hs) (hG.K d d' hs h) hr⟩
  · rintro d d' hs h w base ok x cs ⟨v, rfl, hr, ho⟩
    exact ⟨v, rfl, Kd.R_imp (hG.sz d d' hs) (hG.M d d' hs h) hr, ho⟩
theorem sub_sliceB {α β : Type} {E : List Nat} (e : Nat) {G : Kd α → Kd β} (he : e ∈ E) (hG : Kd.Sub G E) : Kd.Sub (fun d => sliceB e (G d)) E := fun d h q hq => by
  rcases List.mem_cons.1 hq with rfl | hq
  · exact he
  · exact hG d h q hq
/-- A value of the program's with the blocks' numbers that its rows lie in. -/
structure JB where
  f0 : Int
  f1 : Int
  f2 : ByteArray
  f3 : List ByteArray
  o3 : Option Nat
  f4 : List JB
  o4 : Option Nat
def zB : JB := ⟨0, 0, ⟨#[]⟩, [], none, [], none⟩
mutual
/-- Its blocks. -/
def blk : JB → List Nat
  | ⟨_, _, _, _, o3, f4, o4⟩ => o3.toList ++ (o4.toList ++ blkL f4)
def blkL : List JB → List Nat
  | [] => []
  | x :: xs => blk x ++ blkL xs
end
mutual
/-- The value without its blocks. -/
def era : JB → S29
  | ⟨a, b, c, d, _, e, _⟩ => ⟨a, b, c, d, eraL e⟩
def eraL : List JB → List S29
  | [] => []
  | x :: xs => era x :: eraL xs
end
theorem eraL_map : ∀ l : List JB, eraL l = l.map era
  | [] => by rw [eraL]; rfl
  | x :: xs => by rw [eraL, eraL_map xs]; rfl
theorem eraL_len (l : List JB) : (eraL l).length = l.length := by rw [eraL_map, List.length_map]
theorem blkL_mem {l : List JB} {k : Nat} : k ∈ blkL l ↔ ∃ x, x ∈ l ∧ k ∈ blk x := by
  induction l with
  | nil => rw [blkL]; simp
  | cons x xs ih => rw [blkL, List.mem_append, ih]; simp
theorem blk_mem {x : JB} {k : Nat} : k ∈ blk x ↔ x.o3 = some k ∨ x.o4 = some k ∨ k ∈ blkL x.f4 := by
  cases x with
  | mk a b c d o3 e o4 => rw [blk]; simp [Option.mem_toList]
theorem blkL_append (l m : List JB) : blkL (l ++ m) = blkL l ++ blkL m := by
  induction l with
  | nil => rw [List.nil_append, blkL, List.nil_append]
  | cons x xs ih => rw [List.cons_append, blkL, blkL, ih, List.append_assoc]
def FB (d : Kd JB) : Kd JB := Kd.iso (Kd.pair (Kd.int .i64) (Kd.pair (Kd.int .i64) (Kd.pair Kd.string (Kd.pair (sliceB 9 Kd.string) (sliceB 29 d))))) (fun x : JB => (x.f0, x.f1, x.f2, (x.f3, x.o3), (x.f4, x.o4)))
theorem monoB : Kd.Mono FB := Kd.mono_iso _ (Kd.mono_pair (Kd.mono_const _) (Kd.mono_pair (Kd.mono_const _) (Kd.mono_pair (Kd.mono_const _) (Kd.mono_pair (Kd.mono_const _) (mono_sliceB 29 Kd.mono_id)))))
theorem subB : Kd.Sub FB [9, 29] := Kd.sub_iso _ (Kd.sub_pair (Kd.sub_const _ (by decide)) (Kd.sub_pair (Kd.sub_const _ (by decide)) (Kd.sub_pair (Kd.sub_const _ (by decide)) (Kd.sub_pair (Kd.sub_const _ (by decide)) (sub_sliceB 29 (by decide) Kd.sub_id)))))
theorem szB : ∀ n, (Kd.upto FB 5 [9, 29] n).sz = 5 := Kd.upto_sz (fun _ => rfl)
def kB : Kd JB := Kd.fix FB 5 [9, 29] szB (Kd.upto_E subB)
theorem kB_openM {w : World} {base : Nat} {ok : Nat → Prop} {x : JB} {cs : List Value} (h : kB.M w base ok x cs) : ∃ v3 v4, cs = [.int .i64 x.f0, .int .i64 x.f1, .string x.f2, v3, v4] ∧ Kd.string.R 9 w base ok v3 x.f3 ∧ v3.ownBlock = x.o3 ∧ kB.R 29 w base ok v4 x.f4 ∧ v4.ownBlock = x.o4 := by
  obtain ⟨n, h⟩ := h
  cases n with
  | zero => exact h.elim
  | succ n =>
    obtain ⟨_, _, rfl, rfl, ⟨_, _, rfl, rfl, ⟨_, _, rfl, rfl, ⟨_, _, rfl, ⟨v3, rfl, g3, o3⟩, ⟨v4, rfl, g4, o4⟩⟩⟩⟩⟩ := h
    exact ⟨v3, v4, rfl, g3, o3, Kd.fix_R g4, o4⟩
theorem kB_mkM (w : World) (base : Nat) (ok : Nat → Prop) (x : JB) {v3 : Value} (g3 : Kd.string.R 9 w base ok v3 x.f3) (o3 : v3.ownBlock = x.o3) {v4 : Value} (g4 : kB.R 29 w base ok v4 x.f4) (o4 : v4.ownBlock = x.o4) : kB.M w base ok x [.int .i64 x.f0, .int .i64 x.f1, .string x.f2, v3, v4] := by
  obtain ⟨n4, q4⟩ := Kd.fix_R_back monoB g4
  have r4 := Kd.upto_R_le monoB szB (show n4 ≤ n4 by omega) q4
  exact ⟨n4 + 1, ⟨[.int .i64 x.f0], [.int .i64 x.f1, .string x.f2, v3, v4], rfl, rfl, ⟨[.int .i64 x.f1], [.string x.f2, v3, v4], rfl, rfl, ⟨[.string x.f2], [v3, v4], rfl, rfl, ⟨[v3], [v4], rfl, ⟨v3, rfl, g3, o3⟩, ⟨v4, rfl, r4, o4⟩⟩⟩⟩⟩⟩
/-- What is said of the elements' cells, of the row. -/
theorem R_each {α β : Type} {d : Kd α} {d' : Kd β} (f : α → β) (hs : d.sz = d'.sz) {e : Nat} {w w' : World} {base base' : Nat} {ok ok' : Nat → Prop} {v : Value} {xs : List α} (h : d.R e w base ok v xs) (h0 : ∀ k, v.ownBlock = some k → ok' k) (hw : ∀ inner, w.ownsRow base e d.sz v xs.length inner → w'.ownsRow base' e d.sz v xs.length inner)
    (hM : ∀ x cs, x ∈ xs → d.M w base (fun k => ok k ∧ some k ≠ v.ownBlock) x cs → d'.M w' base' (fun k => ok' k ∧ some k ≠ v.ownBlock) (f x) cs) : d'.R e w' base' ok' v (xs.map f) := by
  obtain ⟨_, inner, ho, hr⟩ := h
  refine ⟨h0, inner, ?_, ?_⟩
  · rw [List.length_map, ← hs]; exact hw _ ho
  · rw [← hs]
    refine ⟨by rw [List.length_map]; exact hr.1, fun i p hp => ?_⟩
    rw [List.getElem?_map] at hp
    cases hx : xs[i]? with
    | none => rw [hx] at hp; cases hp
    | some x =>
      rw [hx] at hp
      cases hp
      exact hM x _ (List.mem_of_getElem? hx) (hr.2 i x hx)
theorem str_ok {w : World} {base : Nat} {ok ok' : Nat → Prop} {v : Value} {xs : List ByteArray} (h : Kd.string.R 9 w base ok v xs) (h0 : ∀ k, v.ownBlock = some k → ok' k) : Kd.string.R 9 w base ok' v xs := by
  have := R_each (d' := Kd.string) (ok' := ok') (base' := base) (w' := w) (fun x => x) rfl h h0 (fun _ hi => hi) (fun x cs _ hm => hm)
  rwa [List.map_id'] at this
theorem sizeB (x : JB) : SizeOf.sizeOf x = 1 + SizeOf.sizeOf x.f0 + SizeOf.sizeOf x.f1 + SizeOf.sizeOf x.f2 + SizeOf.sizeOf x.f3 + SizeOf.sizeOf x.o3 + SizeOf.sizeOf x.f4 + SizeOf.sizeOf x.o4 := by cases x; simp
theorem ind_ {p : JB → Prop} (h : ∀ x, (∀ y, y ∈ x.f4 → p y) → p x) (x : JB) : p x := by
  have : ∀ n : Nat, ∀ x : JB, SizeOf.sizeOf x < n → p x := by
    intro n
    induction n with
    | zero => intro x h; omega
    | succ n ih =>
      intro x hx
      refine h x fun y hy => ih y ?_
      have h1 := List.sizeOf_lt_of_mem hy
      have h2 := sizeB x
      omega
  exact this _ x (Nat.lt_succ_self _)
/-- A value's rows lie in its blocks. -/
theorem M_blk (x : JB) : ∀ {w : World} {base : Nat} {ok : Nat → Prop} {cs : List Value}, kB.M w base ok x cs → kB.M w base (fun k => ok k ∧ k ∈ blk x) x cs := by
  refine ind_ (p := fun x => ∀ {w : World} {base : Nat} {ok : Nat → Prop} {cs : List Value}, kB.M w base ok x cs → kB.M w base (fun k => ok k ∧ k ∈ blk x) x cs) (fun x ih => ?_) x
  intro w base ok cs h
  obtain ⟨v3, v4, rfl, g3, o3, g4, o4⟩ := kB_openM h
  refine kB_mkM _ _ _ _ (str_ok g3 fun k hk => ⟨g3.1 k hk, blk_mem.2 (.inl (o3 ▸ hk))⟩) o3 ?_ o4
  have := R_each (d' := kB) (ok' := fun k => ok k ∧ k ∈ blk x) (base' := base) (w' := w) (fun x => x) rfl g4 (fun k hk => ⟨g4.1 k hk, blk_mem.2 (.inr (.inl (o4 ▸ hk)))⟩) (fun _ hi => hi)
    (fun y cs hy hm => kB.M_mono (fun k hk => ⟨⟨hk.1.1, blk_mem.2 (.inr (.inr (blkL_mem.2 ⟨y, hy, hk.2⟩)))⟩, hk.1.2⟩) (ih y hy hm))
  rwa [List.map_id'] at this
theorem R_blk {w : World} {base : Nat} {ok : Nat → Prop} {v : Value} {xs : List JB} (h : kB.R 29 w base ok v xs) : kB.R 29 w base (fun k => ok k ∧ (v.ownBlock = some k ∨ k ∈ blkL xs)) v xs := by
  have := R_each (d' := kB) (ok' := fun k => ok k ∧ (v.ownBlock = some k ∨ k ∈ blkL xs)) (base' := base) (w' := w) (fun x => x) rfl h (fun k hk => ⟨h.1 k hk, .inl hk⟩) (fun _ hi => hi)
    (fun y cs hy hm => kB.M_mono (fun k hk => ⟨⟨hk.1.1, .inr (blkL_mem.2 ⟨y, hy, hk.2⟩)⟩, hk.1.2⟩) (M_blk y hm))
  rwa [List.map_id'] at this
theorem M_frame {w w1 : World} {base : Nat} {ok : Nat → Prop} {x : JB} {cs : List Value} (h : kB.M w base ok x cs) (hm : ∀ k, k ∈ blk x → k < w.heap.size → w1.heap[k]? = w.heap[k]?) : kB.M w1 base ok x cs :=
  kB.M_mono (fun _ hk => hk.1) (Kd.M_step (M_blk x h) (fun k hk hl => hm k hk.2 hl))
theorem R_frame {w w1 : World} {base : Nat} {ok : Nat → Prop} {v : Value} {xs : List JB} (h : kB.R 29 w base ok v xs) (hm : ∀ k, v.ownBlock = some k ∨ k ∈ blkL xs → k < w.heap.size → w1.heap[k]? = w.heap[k]?) : kB.R 29 w1 base ok v xs :=
  Kd.R_mono (Kd.R_step (R_blk h) (fun k hk hl => hm k hk.2 hl)) (fun _ hk => hk.1)
/-- The value without its blocks is held, too. -/
theorem M_era (x : JB) : ∀ {w : World} {base : Nat} {ok : Nat → Prop} {cs : List Value}, kB.M w base ok x cs → k29.M w base ok (era x) cs := by
  refine ind_ (p := fun x => ∀ {w : World} {base : Nat} {ok : Nat → Prop} {cs : List Value}, kB.M w base ok x cs → k29.M w base ok (era x) cs) (fun x ih => ?_) x
  intro w base ok cs h
  obtain ⟨v3, v4, rfl, g3, o3, g4, o4⟩ := kB_openM h
  have := R_each (d' := k29) (ok' := ok) (base' := base) (w' := w) era rfl g4 g4.1 (fun _ hi => hi) (fun y cs hy hm => ih y hy hm)
  rw [← eraL_map] at this
  cases x with
  | mk a b c d o e o' => exact k29_mkM w base ok (era ⟨a, b, c, d, o, e, o'⟩) g3 this
theorem R_era {w : World} {base : Nat} {ok : Nat → Prop} {v : Value} {xs : List JB} (h : kB.R 29 w base ok v xs) : k29.R 29 w base ok v (eraL xs) := by
  have := R_each (d' := k29) (ok' := ok) (base' := base) (w' := w) era rfl h h.1 (fun _ hi => hi) (fun y cs hy hm => M_era y hm)
  rwa [← eraL_map] at this
/-- Its blocks are the call's own, and there. -/
theorem R_blk_lt {w : World} {base : Nat} {ok : Nat → Prop} {v : Value} {xs : List JB} (h : kB.R 29 w base ok v xs) {k : Nat} (hk : v.ownBlock = some k) : base ≤ k ∧ k < w.heap.size := ⟨(Kd.R_bound h).1 k hk |>.2.1, (Kd.R_bound h).1 k hk |>.2.2.1⟩
/-! Marks: what is written into a value's rows. -/
def nmS (tx : Nat → ByteArray) (k n : Nat) : List ByteArray := (List.range n).map fun i => tx (k + i)
theorem nmS_len (tx : Nat → ByteArray) (k n : Nat) : (nmS tx k n).length = n := by rw [nmS, List.length_map, List.length_range]
mutual
/-- How many marks an element takes. -/
def cntE : JB → Nat
  | ⟨_, _, _, d, _, e, _⟩ => 3 + d.length + cntL e
def cntL : List JB → Nat
  | [] => 0
  | x :: xs => cntE x + cntL xs
end
mutual
/-- An element, marked from k on. -/
def mkE (tx : Nat → ByteArray) : JB → Nat → JB
  | ⟨_, _, _, d, o3, e, o4⟩, k => ⟨(k : Int), ((k + 1 : Nat) : Int), tx (k + 2), nmS tx (k + 3) d.length, o3, mkL tx e (k + 3 + d.length), o4⟩
def mkL (tx : Nat → ByteArray) : List JB → Nat → List JB
  | [], _ => []
  | x :: xs, k => mkE tx x k :: mkL tx xs (k + cntE x)
end
theorem mkE_is (tx : Nat → ByteArray) (x : JB) (k : Nat) : mkE tx x k = ⟨(k : Int), ((k + 1 : Nat) : Int), tx (k + 2), nmS tx (k + 3) x.f3.length, x.o3, mkL tx x.f4 (k + 3 + x.f3.length), x.o4⟩ := by cases x; rw [mkE]
theorem cntE_is (x : JB) : cntE x = 3 + x.f3.length + cntL x.f4 := by cases x; rw [cntE]
theorem mkL_append (tx : Nat → ByteArray) (a b : List JB) : ∀ k, mkL tx (a ++ b) k = mkL tx a k ++ mkL tx b (k + cntL a) := by
  induction a with
  | nil => intro k; rw [List.nil_append, mkL, cntL, List.nil_append, Nat.add_zero]
  | cons x xs ih => intro k; rw [List.cons_append, mkL, mkL, ih, cntL, List.cons_append, Nat.add_assoc]
theorem cntL_append (a b : List JB) : cntL (a ++ b) = cntL a + cntL b := by
  induction a with
  | nil => rw [List.nil_append, cntL, Nat.zero_add]
  | cons x xs ih => rw [List.cons_append, cntL, cntL, ih, Nat.add_assoc]
theorem mkL_len (tx : Nat → ByteArray) (a : List JB) : ∀ k, (mkL tx a k).length = a.length := by
  induction a with
  | nil => intro k; rw [mkL]
  | cons x xs ih => intro k; rw [mkL, List.length_cons, ih, List.length_cons]
theorem blkL_mk (tx : Nat → ByteArray) (a : List JB) (h : ∀ x, x ∈ a → ∀ k, blk (mkE tx x k) = blk x) : ∀ k, blkL (mkL tx a k) = blkL a := by
  induction a with
  | nil => intro k; rw [mkL]
  | cons x xs ih => intro k; rw [mkL, blkL, blkL, h x (List.mem_cons_self) k, ih (fun y hy => h y (List.mem_cons_of_mem _ hy))]
theorem blkE_mk (tx : Nat → ByteArray) (x : JB) : ∀ k, blk (mkE tx x k) = blk x := by
  refine ind_ (p := fun x => ∀ k, blk (mkE tx x k) = blk x) (fun x ih => ?_) x
  intro k
  have := blkL_mk tx x.f4 ih (k + 3 + x.f3.length)
  cases x with
  | mk a b c d o3 e o4 => rw [mkE, blk, blk]; rw [this]
theorem blkL_mkL (tx : Nat → ByteArray) (a : List JB) (k : Nat) : blkL (mkL tx a k) = blkL a := blkL_mk tx a (fun x _ => blkE_mk tx x) k
/-- The list when i elements are marked, and one more. -/
def part (tx : Nat → ByteArray) (l : List JB) (k i : Nat) : List JB := mkL tx (l.take i) k ++ l.drop i
theorem part_len (tx : Nat → ByteArray) (l : List JB) (k i : Nat) : (part tx l k i).length = l.length := by
  rw [part, List.length_append, mkL_len, List.length_take, List.length_drop]; omega
theorem part_at (tx : Nat → ByteArray) (l : List JB) (k i : Nat) (x : JB) (h : l[i]? = some x) : (part tx l k i)[i]? = some x := by
  have hi : i < l.length := (List.getElem?_eq_some_iff.1 h).1
  rw [part, List.getElem?_append_right (by rw [mkL_len, List.length_take]; omega), mkL_len, List.length_take, Nat.min_eq_left (by omega), Nat.sub_self, List.getElem?_drop, Nat.add_zero, h]
theorem part_step (tx : Nat → ByteArray) (l : List JB) (k i : Nat) (x : JB) (h : l[i]? = some x) : (part tx l k i).set i (mkE tx x (k + cntL (l.take i))) = part tx l k (i + 1) := by
  have hi : i < l.length := (List.getElem?_eq_some_iff.1 h).1
  have e : (mkL tx (l.take i) k).length = i := by rw [mkL_len, List.length_take]; omega
  rw [part, part, List.set_append_right _ _ (by omega), e, Nat.sub_self, List.drop_eq_getElem_cons hi, List.set_cons_zero, List.take_add_one, h, mkL_append]
  simp [mkL]
theorem part_cnt (l : List JB) (i : Nat) (x : JB) (h : l[i]? = some x) : cntL (l.take (i + 1)) = cntL (l.take i) + cntE x := by
  rw [List.take_add_one, h, cntL_append]; simp [cntL]
theorem part_zero (tx : Nat → ByteArray) (l : List JB) (k : Nat) : part tx l k 0 = l := by rw [part, List.take_zero, mkL, List.nil_append, List.drop_zero]
theorem part_all (tx : Nat → ByteArray) (l : List JB) (k i : Nat) (h : l.length ≤ i) : part tx l k i = mkL tx l k := by rw [part, List.take_of_length_le h, List.drop_of_length_le h, List.append_nil]
theorem blkL_part (tx : Nat → ByteArray) (l : List JB) (k i : Nat) : blkL (part tx l k i) = blkL l := by
  rw [part, blkL_append, blkL_mkL, ← blkL_append, List.take_append_drop]
/-- One element's rows are written, the others stay. -/
theorem R_upd {w w' : World} {base : Nat} {ok : Nat → Prop} {v : Value} {y : List JB} (h : kB.R 29 w base ok v y) (i : Nat) (x x' : JB) (hx : y[i]? = some x) (hown : ∀ k, v.ownBlock = some k → w'.heap[k]? = w.heap[k]?)
    (hoth : ∀ j z, y[j]? = some z → j ≠ i → ∀ k, k ∈ blk z → k < w.heap.size → w'.heap[k]? = w.heap[k]?)
    (hM : ∀ cs, kB.M w base (fun k => ok k ∧ some k ≠ v.ownBlock) x cs → kB.M w' base (fun k => ok k ∧ some k ≠ v.ownBlock) x' cs) : kB.R 29 w' base ok v (y.set i x') := by
  obtain ⟨h0, inner, ho, hr⟩ := h
  refine ⟨h0, inner, ?_, ?_⟩
  · rw [List.length_set]; exact own_move ho hown
  · refine ⟨by rw [List.length_set]; exact hr.1, fun j p hp => ?_⟩
    by_cases e : j = i
    · subst e
      have hj : j < y.length := (List.getElem?_eq_some_iff.1 hx).1
      rw [List.getElem?_set_self hj] at hp
      cases hp
      exact hM _ (hr.2 j x hx)
    · rw [List.getElem?_set_ne (fun h => e h.symm)] at hp
      exact M_frame (hr.2 j p hp) (fun k hk hl => hoth j p hp e k hk hl)
/-- Different elements' blocks are different. -/
theorem blkL_apart {l : List JB} (h : (blkL l).Nodup) : ∀ {i j : Nat} {x z : JB}, l[i]? = some x → l[j]? = some z → j ≠ i → ∀ k, k ∈ blk z → k ∉ blk x := by
  induction l with
  | nil => intro i j x z hx; simp at hx
  | cons a zs ih =>
    rw [blkL, List.nodup_append] at h
    obtain ⟨h1, h2, h3⟩ := h
    intro i j x z hx hz hne k hk hkx
    cases i with
    | zero =>
      cases j with
      | zero => exact hne rfl
      | succ j =>
        simp only [List.getElem?_cons_zero, Option.some.injEq] at hx
        subst hx
        simp only [List.getElem?_cons_succ] at hz
        exact h3 k hkx k (blkL_mem.2 ⟨z, List.mem_of_getElem? hz, hk⟩) rfl
    | succ i =>
      simp only [List.getElem?_cons_succ] at hx
      cases j with
      | zero =>
        simp only [List.getElem?_cons_zero, Option.some.injEq] at hz
        subst hz
        exact h3 k hk k (blkL_mem.2 ⟨x, List.mem_of_getElem? hx, hkx⟩) rfl
      | succ j =>
        simp only [List.getElem?_cons_succ] at hz
        exact ih h2 hx hz (by omega) k hk hkx
theorem blkL_one {l : List JB} (h : (blkL l).Nodup) {i : Nat} {x : JB} (hx : l[i]? = some x) : (blk x).Nodup := by
  have : ∀ l : List JB, (blkL l).Nodup → x ∈ l → (blk x).Nodup := by
    intro l
    induction l with
    | nil => intro _ hm; cases hm
    | cons a zs ih =>
      intro h hm
      rw [blkL, List.nodup_append] at h
      rcases List.mem_cons.1 hm with rfl | hm
      · exact h.1
      · exact ih h.2.1 hm
  exact this l h (List.mem_of_getElem? hx)
/-! One element's rows are written. -/
theorem M_ok (x : JB) : ∀ {w : World} {base : Nat} {ok : Nat → Prop} {cs : List Value}, kB.M w base ok x cs → ∀ k, k ∈ blk x → ok k := by
  refine ind_ (p := fun x => ∀ {w : World} {base : Nat} {ok : Nat → Prop} {cs : List Value}, kB.M w base ok x cs → ∀ k, k ∈ blk x → ok k) (fun x ih => ?_) x
  intro w base ok cs h k hk
  obtain ⟨v3, v4, rfl, g3, o3, g4, o4⟩ := kB_openM h
  rcases blk_mem.1 hk with hk | hk | hk
  · exact g3.1 k (o3.trans hk)
  · exact g4.1 k (o4.trans hk)
  · obtain ⟨y, hy, hky⟩ := blkL_mem.1 hk
    obtain ⟨i, hi⟩ := List.getElem?_of_mem hy
    obtain ⟨_, inner, _, hr⟩ := g4
    exact (ih y hy (hr.2 i y hi) k hky).1
theorem R_ok {w : World} {base : Nat} {ok : Nat → Prop} {v : Value} {xs : List JB} (h : kB.R 29 w base ok v xs) : ∀ k, v.ownBlock = some k ∨ k ∈ blkL xs → ok k := by
  intro k hk
  rcases hk with hk | hk
  · exact h.1 k hk
  · obtain ⟨y, hy, hky⟩ := blkL_mem.1 hk
    obtain ⟨i, hi⟩ := List.getElem?_of_mem hy
    obtain ⟨_, inner, _, hr⟩ := h
    exact (M_ok y (hr.2 i y hi) k hky).1
theorem R_upd2 {w w' : World} {base n cap g : Nat} {ok : Nat → Prop} {y : List JB} (h : kB.R 29 w base ok (.slice (some ⟨g, 0, none⟩) n cap) y) (i : Nat) (x x' : JB) (hx : y[i]? = some x) (hown : w'.heap[g]? = w.heap[g]?)
    (hoth : ∀ j z, y[j]? = some z → j ≠ i → ∀ k, k ∈ blk z → k < w.heap.size → w'.heap[k]? = w.heap[k]?)
    (hM : ∀ cs, (∀ j u, cs[j]? = some u → w.cell? ⟨g, i * 5 + j, none⟩ = some u) → kB.M w base (fun k => ok k ∧ some k ≠ (Value.slice (some ⟨g, 0, none⟩) n cap).ownBlock) x cs → kB.M w' base (fun k => ok k ∧ some k ≠ (Value.slice (some ⟨g, 0, none⟩) n cap).ownBlock) x' cs) : kB.R 29 w' base ok (.slice (some ⟨g, 0, none⟩) n cap) (y.set i x') := by
  obtain ⟨h0, inner, ho, hr⟩ := h
  refine ⟨h0, inner, ?_, ?_⟩
  · rw [List.length_set]; exact own_move ho (fun k hk => by have : g = k := by simpa [Value.ownBlock] using hk
                                                            rw [← this]; exact hown)
  · refine ⟨by rw [List.length_set]; exact hr.1, fun j p hp => ?_⟩
    by_cases e : j = i
    · subst e
      have hj : j < y.length := (List.getElem?_eq_some_iff.1 hx).1
      rw [List.getElem?_set_self hj] at hp
      cases hp
      refine hM _ (fun q u hu => ?_) (hr.2 j x hx)
      rw [List.getElem?_take] at hu
      split at hu
      · rw [List.getElem?_drop] at hu
        have := ho.cells (g := g) (by simp [Value.ownBlock]) _ u hu
        rwa [add_plain] at this
      · cases hu
    · rw [List.getElem?_set_ne (fun h => e h.symm)] at hp
      exact M_frame (hr.2 j p hp) (fun k hk hl => hoth j p hp e k hk hl)
/-- An element's names are written. -/
theorem R_names {w w' : World} {base n cap g : Nat} {ok S : Nat → Prop} {y : List JB} (h : kB.R 29 w base ok (.slice (some ⟨g, 0, none⟩) n cap) y) (i : Nat) (x : JB) (hx : y[i]? = some x) (hg : g < w.heap.size) (hgn : g ∉ blkL y) (nd : (blkL y).Nodup)
    {v3 : Value} (c3 : w.cell? ⟨g, i * 5 + 3, none⟩ = some v3) (hk : Kept w w' S) (hS : ∀ k, S k → v3.ownBlock = some k) {d' : List ByteArray} (g3 : Kd.string.R 9 w' base (fun _ => True) v3 d') :
    kB.R 29 w' base ok (.slice (some ⟨g, 0, none⟩) n cap) (y.set i { x with f3 := d' }) := by
  have ha : ∀ cs, (∀ j u, cs[j]? = some u → w.cell? ⟨g, i * 5 + j, none⟩ = some u) → ∀ {ok'}, kB.M w base ok' x cs → v3.ownBlock = x.o3 := by
    intro cs hc ok' hM
    obtain ⟨u3, u4, rfl, _, o3, _, _⟩ := kB_openM hM
    have := (hc 3 u3 rfl).symm.trans c3
    cases this
    exact o3
  have hm : ∃ cs, (∀ j u, cs[j]? = some u → w.cell? ⟨g, i * 5 + j, none⟩ = some u) ∧ kB.M w base (fun k => ok k ∧ some k ≠ (Value.slice (some ⟨g, 0, none⟩) n cap).ownBlock) x cs := by
    obtain ⟨_, inner, ho, hr⟩ := h
    refine ⟨_, fun q u hu => ?_, hr.2 i x hx⟩
    rw [List.getElem?_take] at hu
    split at hu
    · rw [List.getElem?_drop] at hu
      have := ho.cells (g := g) (by simp [Value.ownBlock]) _ u hu
      rwa [add_plain] at this
    · cases hu
  obtain ⟨cs0, hc0, hM0⟩ := hm
  have o3 := ha cs0 hc0 hM0
  have inx : ∀ k, S k → k ∈ blk x := fun k hk => blk_mem.2 (.inl (o3.symm.trans (hS k hk)))
  have xin : x ∈ y := List.mem_of_getElem? hx
  have same : ∀ k, k < w.heap.size → k ∉ blk x → w'.heap[k]? = w.heap[k]? := fun k hl hn => hk.2 k hl (fun hs => hn (inx k hs))
  refine R_upd2 h i x _ hx (same g hg (fun hb => hgn (blkL_mem.2 ⟨x, xin, hb⟩))) (fun j z hz hj k hkz hl => same k hl (blkL_apart nd hx hz hj k hkz)) (fun cs hc hM => ?_)
  obtain ⟨u3, u4, rfl, q3, r3, q4, r4⟩ := kB_openM hM
  have : u3 = v3 := by have := (hc 3 u3 rfl).symm.trans c3; cases this; rfl
  subst this
  have nx := blkL_one nd hx
  refine kB_mkM _ _ _ { x with f3 := d' } (str_ok g3 q3.1) r3 (R_frame q4 fun k hkk hl => hk.2 k hl fun hs => ?_) r4
  have h3 : x.o3 = some k := o3.symm.trans (hS k hs)
  have h4 : x.o4 = some k ∨ k ∈ blkL x.f4 := hkk.imp (fun h => r4.symm.trans h) id
  cases x with
  | mk a b c d o3 e o4 =>
    rw [blk, List.nodup_append] at nx
    simp only at h3 h4
    subst h3
    exact nx.2.2 k (by simp) k (by rcases h4 with h4 | h4 <;> simp [h4]) rfl
/-- An element's items are written. -/
theorem R_items {w w' : World} {base n cap g : Nat} {ok S : Nat → Prop} {y : List JB} (h : kB.R 29 w base ok (.slice (some ⟨g, 0, none⟩) n cap) y) (i : Nat) (x : JB) (hx : y[i]? = some x) (hg : g < w.heap.size) (hgn : g ∉ blkL y) (nd : (blkL y).Nodup)
    {v4 : Value} (c4 : w.cell? ⟨g, i * 5 + 4, none⟩ = some v4) (hk : Kept w w' S) (hS : ∀ k, S k → v4.ownBlock = some k ∨ k ∈ blkL x.f4) {e' : List JB} (he : blkL e' = blkL x.f4) (g4 : kB.R 29 w' base (fun _ => True) v4 e') :
    kB.R 29 w' base ok (.slice (some ⟨g, 0, none⟩) n cap) (y.set i { x with f4 := e' }) := by
  have hm : ∃ cs, (∀ j u, cs[j]? = some u → w.cell? ⟨g, i * 5 + j, none⟩ = some u) ∧ kB.M w base (fun k => ok k ∧ some k ≠ (Value.slice (some ⟨g, 0, none⟩) n cap).ownBlock) x cs := by
    obtain ⟨_, inner, ho, hr⟩ := h
    refine ⟨_, fun q u hu => ?_, hr.2 i x hx⟩
    rw [List.getElem?_take] at hu
    split at hu
    · rw [List.getElem?_drop] at hu
      have := ho.cells (g := g) (by simp [Value.ownBlock]) _ u hu
      rwa [add_plain] at this
    · cases hu
  obtain ⟨cs0, hc0, hM0⟩ := hm
  have o4 : v4.ownBlock = x.o4 := by
    obtain ⟨u3, u4, rfl, _, _, _, r4⟩ := kB_openM hM0
    have := (hc0 4 u4 rfl).symm.trans c4
    cases this
    exact r4
  have inx : ∀ k, S k → k ∈ blk x := fun k hk => blk_mem.2 ((hS k hk).elim (fun h => .inr (.inl (o4.symm.trans h))) (fun h => .inr (.inr h)))
  have xin : x ∈ y := List.mem_of_getElem? hx
  have same : ∀ k, k < w.heap.size → k ∉ blk x → w'.heap[k]? = w.heap[k]? := fun k hl hn => hk.2 k hl (fun hs => hn (inx k hs))
  refine R_upd2 h i x _ hx (same g hg (fun hb => hgn (blkL_mem.2 ⟨x, xin, hb⟩))) (fun j z hz hj k hkz hl => same k hl (blkL_apart nd hx hz hj k hkz)) (fun cs hc hM => ?_)
  obtain ⟨u3, u4, rfl, q3, r3, q4, r4⟩ := kB_openM hM
  have : u4 = v4 := by have := (hc 4 u4 rfl).symm.trans c4; cases this; rfl
  subst this
  have nx := blkL_one nd hx
  have q4' : kB.R 29 w' base (fun k => ok k ∧ some k ≠ (Value.slice (some ⟨g, 0, none⟩) n cap).ownBlock) u4 e' :=
    Kd.R_mono (R_blk g4) (fun k hkk => R_ok q4 k (hkk.2.imp id (fun h => he ▸ h)))
  refine kB_mkM _ _ _ { x with f4 := e' } ?_ r3 q4' r4
  refine Kd.R_mono (Kd.R_step (str_ok (ok' := fun k => (ok k ∧ some k ≠ (Value.slice (some ⟨g, 0, none⟩) n cap).ownBlock) ∧ u3.ownBlock = some k) q3 (fun k hkk => ⟨q3.1 k hkk, hkk⟩)) (fun k hkk hl => hk.2 k hl fun hs => ?_)) (fun _ hkk => hkk.1)
  have h3 : x.o3 = some k := r3.symm.trans hkk.2
  have h4 : x.o4 = some k ∨ k ∈ blkL x.f4 := (hS k hs).imp (fun h => o4.symm.trans h) id
  cases x with
  | mk a b c d o3 e o4 =>
    rw [blk, List.nodup_append] at nx
    simp only at h3 h4
    subst h3
    exact nx.2.2 k (by simp) k (by rcases h4 with h4 | h4 <;> simp [h4]) rfl
/-! An element's cells, and stores into them. -/
theorem blk_f0 (x : JB) (K : Int) : blk { x with f0 := K } = blk x := by cases x; simp only [blk]
theorem blk_f1 (x : JB) (K : Int) : blk { x with f1 := K } = blk x := by cases x; simp only [blk]
theorem blk_f2 (x : JB) (t : ByteArray) : blk { x with f2 := t } = blk x := by cases x; simp only [blk]
theorem blk_f3 (x : JB) (d : List ByteArray) : blk { x with f3 := d } = blk x := by cases x; simp only [blk]
theorem blk_f4 (x : JB) (e : List JB) (h : blkL e = blkL x.f4) : blk { x with f4 := e } = blk x := by cases x; simp only at h; simp only [blk, h]
theorem blkL_set {y : List JB} {i : Nat} {x x' : JB} (hx : y[i]? = some x) (h : blk x' = blk x) : blkL (y.set i x') = blkL y := by
  induction y generalizing i with
  | nil => simp at hx
  | cons a zs ih =>
    cases i with
    | zero =>
      simp only [List.getElem?_cons_zero, Option.some.injEq] at hx
      subst hx
      rw [List.set_cons_zero, blkL, blkL, h]
    | succ i =>
      simp only [List.getElem?_cons_succ] at hx
      rw [List.set_cons_succ, blkL, blkL, ih hx]
theorem E_cells {W : World} {base n cap g : Nat} {ok : Nat → Prop} {y : List JB} (h : kB.R 29 W base ok (.slice (some ⟨g, 0, none⟩) n cap) y) (i : Nat) (hi : i < n) (x : JB) (hx : y[i]? = some x) :
    ∃ u3 u4, W.cell? ⟨g, i * 5, none⟩ = some (.int .i64 x.f0) ∧ W.cell? ⟨g, i * 5 + 1, none⟩ = some (.int .i64 x.f1) ∧ W.cell? ⟨g, i * 5 + 2, none⟩ = some (.string x.f2) ∧ W.cell? ⟨g, i * 5 + 3, none⟩ = some u3 ∧ W.cell? ⟨g, i * 5 + 4, none⟩ = some u4 ∧
      W.frozen? ⟨g, i * 5, none⟩ = false ∧ W.frozen? ⟨g, i * 5 + 1, none⟩ = false ∧ W.frozen? ⟨g, i * 5 + 2, none⟩ = false ∧ W.frozen? ⟨g, i * 5 + 3, none⟩ = false ∧ W.frozen? ⟨g, i * 5 + 4, none⟩ = false ∧
      Kd.string.R 9 W base (fun k => ok k ∧ k ≠ g) u3 x.f3 ∧ u3.ownBlock = x.o3 ∧ kB.R 29 W base (fun k => ok k ∧ k ≠ g) u4 x.f4 ∧ u4.ownBlock = x.o4 := by
  obtain ⟨ce, hcl, hM, hcc, hfr⟩ := Kd.R_elem h zB (i : Int) (by omega) (by omega)
  have e : y.getD (i : Int).toNat zB = x := by rw [Int.toNat_natCast, List.getD_eq_getElem?_getD, hx]; rfl
  rw [e] at hM
  obtain ⟨u3, u4, rfl, g3, o3, g4, o4⟩ := kB_openM hM
  rw [Int.toNat_natCast] at hcc hfr
  exact ⟨u3, u4, hcc 0 _ rfl, hcc 1 _ rfl, hcc 2 _ rfl, hcc 3 _ rfl, hcc 4 _ rfl, hfr 0, hfr 1, hfr 2, hfr 3, hfr 4, g3, o3, g4, o4⟩
theorem R_f0 {W : World} {base n cap g : Nat} {ok : Nat → Prop} {y : List JB} (h : kB.R 29 W base ok (.slice (some ⟨g, 0, none⟩) n cap) y) (i : Nat) (hi : i < n) (x : JB) (hx : y[i]? = some x) (K : Int) :
    kB.R 29 (W.setCell ⟨g, i * 5, none⟩ (.int .i64 K)) base ok (.slice (some ⟨g, 0, none⟩) n cap) (y.set i { x with f0 := K }) := by
  obtain ⟨ce, hcl, hM, hcc, hfr⟩ := Kd.R_elem h zB (i : Int) (by omega) (by omega)
  have e : y.getD (i : Int).toNat zB = x := by rw [Int.toNat_natCast, List.getD_eq_getElem?_getD, hx]; rfl
  rw [e] at hM
  obtain ⟨u3, u4, rfl, g3, o3, g4, o4⟩ := kB_openM hM
  have := (Kd.R_seg h (i : Int) (by omega) (by omega) (seg := [.int .i64 K]) (j := 0) hcl hcc (show 1 ≤ 5 from by decide) (x' := { x with f0 := K }) (kB_mkM _ _ _ { x with f0 := K } g3 o3 g4 o4) (fun _ hk => hk)).1
  rw [Int.toNat_natCast] at this
  exact this
theorem R_f1 {W : World} {base n cap g : Nat} {ok : Nat → Prop} {y : List JB} (h : kB.R 29 W base ok (.slice (some ⟨g, 0, none⟩) n cap) y) (i : Nat) (hi : i < n) (x : JB) (hx : y[i]? = some x) (K : Int) :
    kB.R 29 (W.setCell ⟨g, i * 5 + 1, none⟩ (.int .i64 K)) base ok (.slice (some ⟨g, 0, none⟩) n cap) (y.set i { x with f1 := K }) := by
  obtain ⟨ce, hcl, hM, hcc, hfr⟩ := Kd.R_elem h zB (i : Int) (by omega) (by omega)
  have e : y.getD (i : Int).toNat zB = x := by rw [Int.toNat_natCast, List.getD_eq_getElem?_getD, hx]; rfl
  rw [e] at hM
  obtain ⟨u3, u4, rfl, g3, o3, g4, o4⟩ := kB_openM hM
  have := (Kd.R_seg h (i : Int) (by omega) (by omega) (seg := [.int .i64 K]) (j := 1) hcl hcc (show 2 ≤ 5 from by decide) (x' := { x with f1 := K }) (kB_mkM _ _ _ { x with f1 := K } g3 o3 g4 o4) (fun _ hk => hk)).1
  rw [Int.toNat_natCast] at this
  exact this
theorem R_f2 {W : World} {base n cap g : Nat} {ok : Nat → Prop} {y : List JB} (h : kB.R 29 W base ok (.slice (some ⟨g, 0, none⟩) n cap) y) (i : Nat) (hi : i < n) (x : JB) (hx : y[i]? = some x) (t : ByteArray) :
    kB.R 29 (W.setCell ⟨g, i * 5 + 2, none⟩ (.string t)) base ok (.slice (some ⟨g, 0, none⟩) n cap) (y.set i { x with f2 := t }) := by
  obtain ⟨ce, hcl, hM, hcc, hfr⟩ := Kd.R_elem h zB (i : Int) (by omega) (by omega)
  have e : y.getD (i : Int).toNat zB = x := by rw [Int.toNat_natCast, List.getD_eq_getElem?_getD, hx]; rfl
  rw [e] at hM
  obtain ⟨u3, u4, rfl, g3, o3, g4, o4⟩ := kB_openM hM
  have := (Kd.R_seg h (i : Int) (by omega) (by omega) (seg := [.string t]) (j := 2) hcl hcc (show 3 ≤ 5 from by decide) (x' := { x with f2 := t }) (kB_mkM _ _ _ { x with f2 := t } g3 o3 g4 o4) (fun _ hk => hk)).1
  rw [Int.toNat_natCast] at this
  exact this
theorem at_set {y : List JB} {i : Nat} (hi : i < y.length) (x : JB) : (y.set i x)[i]? = some x := List.getElem?_set_self hi
theorem blk_eq {x x' : JB} (h3 : x'.o3 = x.o3) (h4 : x'.o4 = x.o4) (h5 : blkL x'.f4 = blkL x.f4) : blk x' = blk x := by
  cases x; cases x'; simp only at h3 h4 h5; subst h3 h4; simp only [blk, h5]
theorem set_not {y : List JB} {i g : Nat} {x x' : JB} (hx : y[i]? = some x) (h : blk x' = blk x) (hg : g ∉ blkL y) : g ∉ blkL (y.set i x') := by rw [blkL_set hx h]; exact hg
theorem set_nd {y : List JB} {i : Nat} {x x' : JB} (hx : y[i]? = some x) (h : blk x' = blk x) (hg : (blkL y).Nodup) : (blkL (y.set i x')).Nodup := by rw [blkL_set hx h]; exact hg
theorem len_cnt (l : List JB) : l.length ≤ cntL l := by
  induction l with
  | nil => exact Nat.zero_le _
  | cons x xs ih => rw [cntL, cntE_is, List.length_cons]; omega
end Go.Proofs.Ytljpmdeobmmhlaa.QFnExactMember
