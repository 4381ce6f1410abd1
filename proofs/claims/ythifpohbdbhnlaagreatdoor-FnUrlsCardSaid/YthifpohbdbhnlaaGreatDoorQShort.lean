/- A tool of this session wrote this text out of the translation: functions as plain Lean, and proofs that the machine's calls come to their answers. -/
import Derived.Test.YthifpohbdbhnlaaGreatDoorTWords
import Derived.Test.YthifpohbdbhnlaaGreatDoorTLast
import Derived.Test.YthifpohbdbhnlaaGreatDoorTTab
set_option linter.unusedVariables false
namespace Go.Proofs.YthifpohbdbhnlaaGreatDoor.Short
open Go.RowKit Go.Proofs.YthifpohbdbhnlaaGreatDoorW.PrintWords Go.Proofs.YthifpohbdbhnlaaGreatDoorW.PrintLast
/-- What has come up, as the bits of b; i: the next one in the text's order, to be counted on. -/
def mk_ (i n b : Nat) : Array Bool := ((List.range n).map fun k => b.testBit k).toArray
section
variable {P : Program} {md : Region.Mode} {ops : Array Oper} {S : World → Prop} {ds : List Nat} {Q : Exit → Act → World → Prop} {T : Bool × List (List Nat × List Nat)} {B : List Nat}
/-! The next operation in the text's order (or, with an X, number k): where it yields in every world; a reading; passed over; shown by itself. -/
theorem pU_ {v : Value} {oi : Oper} {a a' : Act} {w : World} {fuel i j n m b c : Nat} (h : wpAnyLast P md ops Q S ds fuel (mk_ j n c) a' w)
    (hT : rtab md ops = T := by exact HT_.out) (hj : i + 1 = j := by simp only [Nat.reduceAdd]; rfl) (hb : b + 2 ^ i = c := by simp only [Nat.reducePow, Nat.reduceAdd]; rfl) (hi : ops[i]? = some oi := by rfl) (hN : oi.dst = some m := by rfl) (hc : anyT T (mk_ i n b).toList (mk_ j n c).toList i = true := by kernel_rfl)
    (hQ : ∀ c a w, Q (.panic c) (a.put oi.dst v) w → Q (.panic c) a w := by exact fun _ _ _ h => h) (hy : Yields P ops oi v a := by exact Or.inl ⟨by rfl, by intro w'; go_simp; with_reducible rfl⟩)
    (ha : a.put (some m) v = a' := by simp only [Act.put, List.setIfInBounds_toArray, List.set_cons_zero, List.set_cons_succ, i64_w, i32_w]; rfl) : wpAnyLast P md ops Q S ds (fuel + 1) (mk_ i n b) a w :=
  pure_ _ hi hN (any_of hT hc) hQ hy ha h
theorem tU_ {v : Value} {oi : Oper} {a a' : Act} {w : World} {fuel i j n m b c : Nat} (h : wpAnyLast P md ops Q S ds fuel (mk_ j n c) a' w)
    (hT : rtab md ops = T := by exact HT_.out) (hB : waitsOk T.2 B = true := by exact HW_.out) (hS : S w := by exact hHeld) (hj : i + 1 = j := by simp only [Nat.reduceAdd]; rfl) (hb : b + 2 ^ i = c := by simp only [Nat.reducePow, Nat.reduceAdd]; rfl) (hi : ops[i]? = some oi := by rfl) (hN : oi.dst = some m := by rfl) (hc : takeW T B ds (mk_ i n b).toList (mk_ j n c).toList i = true := by kernel_rfl)
    (hQ : ∀ c a w, Q (.panic c) (a.put oi.dst v) w → Q (.panic c) a w := by exact fun _ _ _ h => h) (hy : YieldsIf P ops S oi v a := by exact Or.inl ⟨by rfl, by intro w' h; (repeat (have h0 := And.left h; replace h := And.right h)); go_simp; with_reducible rfl⟩)
    (ha : a.put (some m) v = a' := by simp only [Act.put, List.setIfInBounds_toArray, List.set_cons_zero, List.set_cons_succ, i64_w, i32_w]; rfl) : wpAnyLast P md ops Q S ds (fuel + 1) (mk_ i n b) a w :=
  take_ _ hi hN (take_ofW hT hB hc) hQ hy hS ha h
theorem sU_ {oi : Oper} {a a' : Act} {w : World} {fuel i j n m b c : Nat} (h : wpAnyLast P md ops Q S ds fuel (mk_ j n c) a' w)
    (hT : rtab md ops = T := by exact HT_.out) (hj : i + 1 = j := by simp only [Nat.reduceAdd]; rfl) (hb : b + 2 ^ i = c := by simp only [Nat.reducePow, Nat.reduceAdd]; rfl) (hi : ops[i]? = some oi := by rfl) (hN : oi.dst = some m := by rfl) (hc : anyT T (mk_ i n b).toList (mk_ j n c).toList i = true := by kernel_rfl)
    (hQ : ∀ c a w, Q (.panic c) (a.put oi.dst undef) w → Q (.panic c) a w := by exact fun _ _ _ h => h) (hy : Region.wanted oi (yielded ops a.tmps) = false := by rfl)
    (ha : a.put (some m) undef = a' := by simp only [Act.put, List.setIfInBounds_toArray, List.set_cons_zero, List.set_cons_succ, i64_w, i32_w]; rfl) : wpAnyLast P md ops Q S ds (fuel + 1) (mk_ i n b) a w :=
  pure_ _ hi hN (any_of hT hc) hQ (Or.inr ⟨hy, rfl⟩) ha h
theorem oU_ {oi : Oper} {a : Act} {w : World} {fuel i j n m b c : Nat}
    (h : ∀ K : Act → World → Prop, Shut (∀ a' w', S w' → (S w' → wpAnyLast P md ops Q S ds fuel (mk_ j n c) a' w') → K a' w') → if Region.wanted oi (yielded ops a.tmps) = true then Oper.wp P oi a w K Q else K (a.put (some m) undef) w)
    (hT : rtab md ops = T := by exact HT_.out) (hj : i + 1 = j := by simp only [Nat.reduceAdd]; rfl) (hb : b + 2 ^ i = c := by simp only [Nat.reducePow, Nat.reduceAdd]; rfl) (hi : ops[i]? = some oi := by rfl) (hN : oi.dst = some m := by rfl)
    (hc : (readyT T.2 (mk_ i n b).toList == [i] && (mk_ i n b).toList.set i true == (mk_ j n c).toList) = true := by kernel_rfl) (hd : i ∉ ds := by decide) : wpAnyLast P md ops Q S ds (fuel + 1) (mk_ i n b) a w :=
  one_ _ hi hN (one_of hT hc) hd h
theorem pUX_ {v : Value} {oi : Oper} {a a' : Act} {w : World} {fuel i n m b c : Nat} (k : Nat) (h : wpAnyLast P md ops Q S ds fuel (mk_ i n c) a' w)
    (hT : rtab md ops = T := by exact HT_.out) (hb : b + 2 ^ k = c := by simp only [Nat.reducePow, Nat.reduceAdd]; rfl) (hi : ops[k]? = some oi := by rfl) (hN : oi.dst = some m := by rfl) (hc : anyT T (mk_ i n b).toList (mk_ i n c).toList k = true := by kernel_rfl)
    (hQ : ∀ c a w, Q (.panic c) (a.put oi.dst v) w → Q (.panic c) a w := by exact fun _ _ _ h => h) (hy : Yields P ops oi v a := by exact Or.inl ⟨by rfl, by intro w'; go_simp; with_reducible rfl⟩)
    (ha : a.put (some m) v = a' := by simp only [Act.put, List.setIfInBounds_toArray, List.set_cons_zero, List.set_cons_succ, i64_w, i32_w]; rfl) : wpAnyLast P md ops Q S ds (fuel + 1) (mk_ i n b) a w :=
  pure_ _ hi hN (any_of hT hc) hQ hy ha h
theorem tUX_ {v : Value} {oi : Oper} {a a' : Act} {w : World} {fuel i n m b c : Nat} (k : Nat) (h : wpAnyLast P md ops Q S ds fuel (mk_ i n c) a' w)
    (hT : rtab md ops = T := by exact HT_.out) (hB : waitsOk T.2 B = true := by exact HW_.out) (hS : S w := by exact hHeld) (hb : b + 2 ^ k = c := by simp only [Nat.reducePow, Nat.reduceAdd]; rfl) (hi : ops[k]? = some oi := by rfl) (hN : oi.dst = some m := by rfl) (hc : takeW T B ds (mk_ i n b).toList (mk_ i n c).toList k = true := by kernel_rfl)
    (hQ : ∀ c a w, Q (.panic c) (a.put oi.dst v) w → Q (.panic c) a w := by exact fun _ _ _ h => h) (hy : YieldsIf P ops S oi v a := by exact Or.inl ⟨by rfl, by intro w' h; (repeat (have h0 := And.left h; replace h := And.right h)); go_simp; with_reducible rfl⟩)
    (ha : a.put (some m) v = a' := by simp only [Act.put, List.setIfInBounds_toArray, List.set_cons_zero, List.set_cons_succ, i64_w, i32_w]; rfl) : wpAnyLast P md ops Q S ds (fuel + 1) (mk_ i n b) a w :=
  take_ _ hi hN (take_ofW hT hB hc) hQ hy hS ha h
theorem aU_ {fuel i j n b : Nat} {a : Act} {w : World} (h : wpAnyLast P md ops Q S ds fuel (mk_ j n b) a w) (hj : i + 1 = j := by simp only [Nat.reduceAdd]; rfl) : wpAnyLast P md ops Q S ds fuel (mk_ i n b) a w := h
theorem gU_ {oi : Oper} {N : Option Tmp} {a : Act} {w : World} {K : Act → World → Prop} {f : FuncId} {fn : Func} {as : Array Operand} {ts : Array TypeId} (hf : P.funcs[f]? = some fn) (args : Array Value)
    (h : Calls P f args w fun e w' => ∃ v, e = .returned v ∧ K (a.put N v) w')
    (hname : (fn.name == "runtime.NumGoroutine") = false := by kernel_rfl) (hb : fn.body.isSome = true := by rfl) (hw : Region.wanted oi (yielded ops a.tmps) = true := by rfl) (hN : oi.dst = N := by rfl) (hop : oi.op = .call { callee := .value (.func f), args := as, argTypes := ts } := by rfl)
    (hargs : as.map a.eval = args := by (try simp only [List.map_toArray, List.map_cons, List.map_nil]); first | done | rfl | (simp only [List.length_drop, List.length_take]; rfl)) :
    if Region.wanted oi (yielded ops a.tmps) = true then Oper.wp P oi a w K Q else K (a.put N undef) w :=
  goes_ hf hname hb args hw hN hop hargs h
theorem nU_ {fuel : Nat} {l : Array Bool} {a a' : Act} {w : World} (h : wpAnyLast P md ops Q S ds fuel l a' w) (ha : a = a' := by show Act.put _ _ _ = _; simp only [Act.put, List.setIfInBounds_toArray, List.set_cons_zero, List.set_cons_succ, i64_w, i32_w]; rfl) : wpAnyLast P md ops Q S ds fuel l a w := norm_ ha h
theorem startU_ {id n : Nat} {a : Act} {w : World} (hS : S w.drew) (h : S w.drew → wpAnyLast P .any ops Q S ds n (mk_ 0 n 0) a w.drew)
    (hm : P.follows .mixedOrders = true := by kernel_rfl) (hn : ops.size = n := by rfl) (hl : Array.replicate n false = mk_ 0 n 0 := by kernel_rfl) : (Code.region id ops true).wp P Q a w :=
  start_ _ hm hn hl hS h
theorem doneU_ {i n b fuel : Nat} {a : Act} {w : World} (h : Q .normal a w) (hT : rtab md ops = T := by exact HT_.out) (hc : (readyT T.2 (mk_ i n b).toList == []) = true := by kernel_rfl) : wpAnyLast P md ops Q S ds fuel (mk_ i n b) a w :=
  done_ (done_of hT hc) h
/-- A call in a plain region, as an arm of the walk. -/
theorem cU_ {rest : List Oper} {oi : Oper} {a : Act} {w : World} (N : Option Tmp) {f : FuncId} {fn : Func} {as : Array Operand} {ts : Array TypeId} (hf : P.funcs[f]? = some fn) (args : Array Value)
    (h : Calls P f args w fun e w' => ∃ v, e = .returned v ∧ wpList P ops Q rest (a.put N v) w') (hd : oi.dst = N := by rfl) (hg : oi.guard = none := by rfl) (hname : (fn.name == "runtime.NumGoroutine") = false := by kernel_rfl) (hb : fn.body.isSome = true := by rfl)
    (hop : oi.op = .call { callee := .value (.func f), args := as, argTypes := ts } := by rfl)
    (hargs : as.map a.eval = args := by (try simp only [List.map_toArray, List.map_cons, List.map_nil]); first | done | rfl | (simp only [List.length_drop, List.length_take]; rfl)) : wpList P ops Q (oi :: rest) a w :=
  goesL_ N hd hg hf hname hb args hop hargs h
end
/-! What is known of the call's own blocks, behind a step. -/
theorem blkE_ {w : World} {g : Nat} {o : Obj} (h : w.heap[g]? = some o := by (with_reducible repeat (first | refine blk_drewN ?_ _ | refine blk_drew ?_ | refine blk_alloc ?_ _)); exact Aside0.out (by assumption)) : w.heap[g]? = some o := h
theorem farE_ {w : World} {g : Nat} {o : Obj} (h : w.heap[g]? = some o := by (with_reducible repeat (first | refine blk_drewN ?_ _ | refine blk_drew ?_ | refine blk_alloc ?_ _ | refine blk_far ?_ (Aside0.out (by assumption)) _)); exact Aside0.out (by assumption)) : w.heap[g]? = some o := h
theorem blkK_ {w0 w1 w : World} {g : Nat} {o : Obj} (_k : Aside0 (w0.heap[g]? = some o)) (hb : Below w.heap.size w w1) (h : w.heap[g]? = some o := by (with_reducible repeat (first | refine blk_drewN ?_ _ | refine blk_drew ?_ | refine blk_alloc ?_ _)); exact Aside0.out (by assumption)) : Aside0 (w1.heap[g]? = some o) := ⟨blk_below h hb⟩
theorem belE_ {w W : World} (h : Below w.heap.size w W := by repeat (first | (with_reducible first | exact HB.out | apply below_alloc | apply pw_below_drewN | apply below_drew1 | refine below_set ?_ (Aside0.out (by assumption))) | exact HB.out)) : Below w.heap.size w W := h
theorem belB_ {w W w2 : World} (hb : Below W.heap.size W w2) (h : Below w.heap.size w W := by repeat (first | (with_reducible first | exact HB.out | apply below_alloc | apply pw_below_drewN | apply below_drew1 | refine below_set ?_ (Aside0.out (by assumption))) | exact HB.out)) : Aside0 (Below w.heap.size w w2) := ⟨below_step h hb⟩
theorem retE_ {p : Prop} (h : p := by first | rfl | (simp [errW_none, errW_some] <;> rfl) | (simp [*, errW_none, errW_some] <;> rfl)) : p := h
theorem leE_ {p : Prop} (h : p := by first | omega | exact Nat.le_refl _) : p := h
theorem eqE_ {p : Prop} (h : p := by first | rfl | (simp; done) | (simp [*]; done) | (simp only [bne_empty_]; rfl)) : p := h
/-! The function's own tests. -/
theorem ifT_ {α : Type} {c : Prop} [Decidable c] {a b r : α} (H : (if c then a else b) = r) (h : c := by rfl) : a = r := (if_pos h).symm.trans H
theorem ifF_ {α : Type} {c : Prop} [Decidable c] {a b r : α} (H : (if c then a else b) = r) (h : ¬ c := by decide) : b = r := (if_neg h).symm.trans H
theorem bindE_ {α β : Type} {g : Option α} {f : α → Option β} {r : β} (H : g.bind f = some r) : ∃ t, Aside0 (g = some t) ∧ f t = some r := by
  obtain ⟨t, h1, h2⟩ := Option.bind_eq_some_iff.mp H
  exact ⟨t, ⟨h1⟩, h2⟩
/-! A whole row (not an empty one) appended to a queue. -/
section
variable {P : Program} {ops : Array Oper} {rest : List Oper} {o : Oper} {a : Act} {Q' : Exit → Act → World → Prop} {Kc : Act → World → Prop} {α : Type}
end
theorem held9_ {w : World} {g : Nat} {c0 c1 c2 c3 c4 c5 c6 c7 c8 : Value} {t : TypeId} (h : w.heap[g]? = some (.cells #[c0, c1, c2, c3, c4, c5, c6, c7, c8] t (0, 0))) : w.cell? ⟨g, 0, none⟩ = some c0 ∧ w.cell? ⟨g, 1, none⟩ = some c1 ∧ w.cell? ⟨g, 2, none⟩ = some c2 ∧ w.cell? ⟨g, 3, none⟩ = some c3 ∧ w.cell? ⟨g, 4, none⟩ = some c4 ∧ w.cell? ⟨g, 5, none⟩ = some c5 ∧ w.cell? ⟨g, 6, none⟩ = some c6 ∧ w.cell? ⟨g, 7, none⟩ = some c7 ∧ w.cell? ⟨g, 8, none⟩ = some c8 := ⟨(blk_cell h 0).trans rfl, (blk_cell h 1).trans rfl, (blk_cell h 2).trans rfl, (blk_cell h 3).trans rfl, (blk_cell h 4).trans rfl, (blk_cell h 5).trans rfl, (blk_cell h 6).trans rfl, (blk_cell h 7).trans rfl, (blk_cell h 8).trans rfl⟩
theorem cz9_ {w : World} {g : Nat} {c0 c1 c2 c3 c4 c5 c6 c7 c8 : Value} {t : TypeId} (h : Aside0 (w.heap[g]? = some (.cells #[c0, c1, c2, c3, c4, c5, c6, c7, c8] t (0, 0)))) : w.cell? ⟨g, 0, none⟩ = some c0 ∧ w.cell? ⟨g, 1, none⟩ = some c1 ∧ w.cell? ⟨g, 2, none⟩ = some c2 ∧ w.cell? ⟨g, 3, none⟩ = some c3 ∧ w.cell? ⟨g, 4, none⟩ = some c4 ∧ w.cell? ⟨g, 5, none⟩ = some c5 ∧ w.cell? ⟨g, 6, none⟩ = some c6 ∧ w.cell? ⟨g, 7, none⟩ = some c7 ∧ w.cell? ⟨g, 8, none⟩ = some c8 ∧ w.frozen? ⟨g, 0, none⟩ = false ∧ w.frozen? ⟨g, 1, none⟩ = false ∧ w.frozen? ⟨g, 2, none⟩ = false ∧ w.frozen? ⟨g, 3, none⟩ = false ∧ w.frozen? ⟨g, 4, none⟩ = false ∧ w.frozen? ⟨g, 5, none⟩ = false ∧ w.frozen? ⟨g, 6, none⟩ = false ∧ w.frozen? ⟨g, 7, none⟩ = false ∧ w.frozen? ⟨g, 8, none⟩ = false := ⟨(blk_cell h.out 0).trans rfl, (blk_cell h.out 1).trans rfl, (blk_cell h.out 2).trans rfl, (blk_cell h.out 3).trans rfl, (blk_cell h.out 4).trans rfl, (blk_cell h.out 5).trans rfl, (blk_cell h.out 6).trans rfl, (blk_cell h.out 7).trans rfl, (blk_cell h.out 8).trans rfl, blk_frozen h.out 0, blk_frozen h.out 1, blk_frozen h.out 2, blk_frozen h.out 3, blk_frozen h.out 4, blk_frozen h.out 5, blk_frozen h.out 6, blk_frozen h.out 7, blk_frozen h.out 8⟩
/-! Said shortly. -/
theorem ofd_ {p : Prop} [Decidable p] (h : decide p = true := by first | (with_reducible assumption) | assumption) : p := of_decide_eq_true h
theorem f_ {w : World} {g g' i j : Nat} {v : Value} {r : Option Value} (e : Aside0 (g ≠ g')) (h : w.cell? ⟨g, i, none⟩ = r) : (w.setCell ⟨g', j, none⟩ v).cell? ⟨g, i, none⟩ = r := (cell_far (p := ⟨g', j, none⟩) e.out _).trans h
/-- What a step leaves where it was. -/
class Over_ (W : World) (w : outParam World) : Prop where
  over : ∀ {g : Nat} {o : Obj}, w.heap[g]? = some o → W.heap[g]? = some o
instance (w : World) (n : Nat) : Over_ (w.drewN n) w := ⟨fun h => blk_drewN h n⟩
instance (w : World) : Over_ w.drew w := ⟨fun h => blk_drew h⟩
instance (w : World) (o : Obj) : Over_ (w.alloc o) w := ⟨fun h => blk_alloc h o⟩
theorem f9_ {w : World} {g g' i j1 j2 j3 j4 j5 j6 j7 j8 j9 : Nat} {v1 v2 v3 v4 v5 v6 v7 v8 v9 : Value} {r : Option Value} (e : Aside0 (g ≠ g')) (h : w.cell? ⟨g, i, none⟩ = r) : (((((((((w.setCell ⟨g', j1, none⟩ v1).setCell ⟨g', j2, none⟩ v2).setCell ⟨g', j3, none⟩ v3).setCell ⟨g', j4, none⟩ v4).setCell ⟨g', j5, none⟩ v5).setCell ⟨g', j6, none⟩ v6).setCell ⟨g', j7, none⟩ v7).setCell ⟨g', j8, none⟩ v8).setCell ⟨g', j9, none⟩ v9).cell? ⟨g, i, none⟩ = r := f_ e (f_ e (f_ e (f_ e (f_ e (f_ e (f_ e (f_ e (f_ e h))))))))
theorem drE_ {p : Prop} (h : p := by repeat (first | exact Drawn0.refl _ | apply Drawn0.step)) : p := h
theorem geE_ {g : Nat} {w W : World} (hg : g = W.heap.size) (h : Below w.heap.size w W := by repeat (first | (with_reducible first | exact HB.out | apply below_alloc | apply pw_below_drewN | apply below_drew1 | refine below_set ?_ (Aside0.out (by assumption))) | exact HB.out)) : Aside0 (w.heap.size ≤ g) := ⟨hg ▸ below_size h⟩
/-- What leaves a block as it was. -/
class OvT_ (W w : World) : Prop where
  over : ∀ {g : Nat} {o : Obj}, w.heap[g]? = some o → W.heap[g]? = some o
instance (w : World) : OvT_ w w := ⟨id⟩
instance (W w : World) [c : OvT_ W w] : OvT_ W.drew w := ⟨fun h => blk_drew (c.over h)⟩
instance (W w : World) (n : Nat) [c : OvT_ W w] : OvT_ (W.drewN n) w := ⟨fun h => blk_drewN (c.over h) n⟩
instance (W w : World) (o : Obj) [c : OvT_ W w] : OvT_ (W.alloc o) w := ⟨fun h => blk_alloc (c.over h) o⟩
theorem blkX_ {w W w1 : World} {g : Nat} {o : Obj} (k : Aside0 (w.heap[g]? = some o)) (hb : Below W.heap.size W w1) [c : OvT_ W w] : Aside0 (w1.heap[g]? = some o) := ⟨blk_below (c.over k.out) hb⟩
theorem neL_ {w W : World} {g g' : Nat} {o : Obj} (k : Aside0 (w.heap[g]? = some o)) (hg : g' = W.heap.size) [c : OvT_ W w] : Aside0 (g ≠ g') := ⟨hg ▸ Nat.ne_of_lt (blk_lt (c.over k.out))⟩
theorem neG_ {w W : World} {g g' : Nat} {o : Obj} (k : Aside0 (w.heap[g]? = some o)) (hg : g' = W.heap.size) [c : OvT_ W w] : Aside0 (g' ≠ g) := ⟨hg ▸ Nat.ne_of_gt (blk_lt (c.over k.out))⟩
/-- What leaves a row where it was. -/
class Lay_ (W w : World) : Prop where
  lay : ∀ {α : Type} {d : Kd α} {e : TypeId} {base : Nat} {ok : Nat → Prop} {v : Value} {xs : List α}, d.R e w base ok v xs → d.R e W base ok v xs
instance (w : World) : Lay_ w w := ⟨id⟩
instance (W w : World) [c : Lay_ W w] : Lay_ W.drew w := ⟨fun h => Kd.R_drew (c.lay h)⟩
instance (W w : World) (n : Nat) [c : Lay_ W w] : Lay_ (W.drewN n) w := ⟨fun h => Kd.R_drewN (c.lay h) n⟩
instance (W w : World) (o : Obj) [c : Lay_ W w] : Lay_ (W.alloc o) w := ⟨fun h => Kd.R_alloc (c.lay h) o⟩
theorem rE_ {α : Type} {d : Kd α} {e : TypeId} {W w : World} {base : Nat} {ok : Nat → Prop} {v : Value} {xs : List α} (h : d.R e w base ok v xs) [c : Lay_ W w] : d.R e W base ok v xs := c.lay h
/-- What a run of stores makes of a block's cells. -/
class Put_ (W w : World) (g : Nat) (cs : Array Value) (cs' : outParam (Array Value)) : Prop where
  put : ∀ {t : TypeId}, w.heap[g]? = some (.cells cs t (0, 0)) → W.heap[g]? = some (.cells cs' t (0, 0))
instance (w : World) (g : Nat) (cs : Array Value) : Put_ w w g cs cs := ⟨id⟩
instance (W w : World) (g : Nat) (cs cs' : Array Value) [c : Put_ W w g cs cs'] : Put_ W.drew w g cs cs' := ⟨fun h => blk_drew (c.put h)⟩
instance (W w : World) (g n : Nat) (cs cs' : Array Value) [c : Put_ W w g cs cs'] : Put_ (W.drewN n) w g cs cs' := ⟨fun h => blk_drewN (c.put h) n⟩
instance (W w : World) (g : Nat) (o : Obj) (cs cs' : Array Value) [c : Put_ W w g cs cs'] : Put_ (W.alloc o) w g cs cs' := ⟨fun h => blk_alloc (c.put h) o⟩
instance (W w : World) (g i : Nat) (u : Value) (cs cs' : Array Value) [c : Put_ W w g cs cs'] : Put_ (W.setCell ⟨g, i, none⟩ u) w g cs (cs'.setIfInBounds i u) := ⟨fun h => blk_set (c.put h) i u⟩
theorem bk_ {W w : World} {g : Nat} {cs cs' cs2 : Array Value} {t : TypeId} (h : w.heap[g]? = some (.cells cs t (0, 0))) [c : Put_ W w g cs cs'] (e : cs' = cs2 := by kernel_rfl) : W.heap[g]? = some (.cells cs2 t (0, 0)) := e ▸ c.put h
theorem bt_ {w : World} {g : Nat} {cs cs' : Array Value} {t : TypeId} (h : w.heap[g]? = some (.cells cs t (0, 0))) (e : cs = cs') : w.heap[g]? = some (.cells cs' t (0, 0)) := e ▸ h
theorem bd_ {W w : World} [c : Over_ W w] {g : Nat} {o : Obj} (h : w.heap[g]? = some o) : W.heap[g]? = some o := c.over h
theorem hold9_ {a0 a1 a2 a3 a4 a5 a6 a7 a8 b : Prop} (h : a0 ∧ a1 ∧ a2 ∧ a3 ∧ a4 ∧ a5 ∧ a6 ∧ a7 ∧ a8) (k : b) : a0 ∧ a1 ∧ a2 ∧ a3 ∧ a4 ∧ a5 ∧ a6 ∧ a7 ∧ a8 ∧ b := ⟨h.1, h.2.1, h.2.2.1, h.2.2.2.1, h.2.2.2.2.1, h.2.2.2.2.2.1, h.2.2.2.2.2.2.1, h.2.2.2.2.2.2.2.1, h.2.2.2.2.2.2.2.2, k⟩
end Go.Proofs.YthifpohbdbhnlaaGreatDoor.Short
