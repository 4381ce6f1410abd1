/- What comes in is opened. -/
import Derived.Test.YtljpmdeobmmhlaaWWords
import Derived.ChangeArms
import Derived.Deep.Slices
import Derived.ProofKit
set_option linter.unusedVariables false
set_option linter.unusedSimpArgs false
/-! ### What came in, opened by its kind -/
namespace Go.Proofs.Ytljpmdeobmmhlaa.Opening
open Go.ChangeShapes Go.WideShapes Go.RowKit Go.Proofs.YtljpmdeobmmhlaaW.PrintWords
/-- Whatever reads as a datum of type t, with at most m of fuel, is of the kind d and meets ok. -/
def OpensTo {α : Type} (P : Program) (m : Nat) (t : TypeId) (d : Kd α) (ok : α → Prop) : Prop :=
  ∀ (H : Type) (enc : TypeId × Value → H) (w : World) (fuel : Nat) (cs : List Value) (x : DataW H × List MemPlace),
    fuel ≤ m → DataW.trod enc P w 0 (fun _ => true) true fuel t cs = some x → ∃ y : α, d.K w y cs ∧ ok y
/-- What is known of two in line. -/
def OkPair {α β : Type} (ok : α → Prop) (okb : β → Prop) : α × β → Prop := fun y => ok y.1 ∧ okb y.2
def OpensF {α : Type} (P : Program) (m : Nat) (fs : List Field) (off : Nat) (d : Kd α) (ok : α → Prop) : Prop :=
  ∀ (H : Type) (enc : TypeId × Value → H) (w : World) (cs : List Value), cs.length = d.sz →
    (∀ f, f ∈ fs → ∃ fuel x, fuel ≤ m ∧ DataW.trod enc P w 0 (fun _ => true) true fuel f.type ((cs.drop (f.offset - off)).take (P.cellsOf f.type)) = some x) →
    ∃ y : α, d.K w y cs ∧ ok y
section
variable {α β : Type} {P : Program} {m : Nat} {t : TypeId} {d : Kd α} {ok : α → Prop}
theorem opens_int {k : IntKind} (hu : P.underlying t = some (.int k)) : OpensTo P m t (Kd.int k) (fun y => (Lit.int k y).wf = true) := by
  intro H enc w fuel cs x _ h
  obtain ⟨n, rfl, _, hw⟩ := DataW.trod_int hu h
  exact ⟨n, rfl, hw⟩
theorem opens_bool (hu : P.underlying t = some .bool) : OpensTo P m t Kd.bool (fun _ => True) := by
  intro H enc w fuel cs x _ h
  obtain ⟨n, rfl, _⟩ := DataW.trod_bool hu h
  exact ⟨n, rfl, trivial⟩
theorem opens_string (hu : P.underlying t = some .string) : OpensTo P m t Kd.string (fun y => y.size ≤ 9223372036854775807) := by
  intro H enc w fuel cs x _ h
  obtain ⟨s, rfl, _, hs⟩ := DataW.trod_string hu h
  exact ⟨s, rfl, by simpa [maxLen] using hs⟩
theorem opens_iso {f : β → α} (g : α → β) (hfg : ∀ y, f (g y) = y) {okb : β → Prop} (hok : ∀ y, ok y → okb (g y)) (h : OpensTo P m t d ok) : OpensTo P m t (Kd.iso d f) okb := by
  intro H enc w fuel cs x hm hx
  obtain ⟨y, hK, hy⟩ := h _ _ _ _ _ _ hm hx
  exact ⟨g y, by show d.K w (f (g y)) cs; rw [hfg]; exact hK, hok y hy⟩
theorem opens_mono {ok' : α → Prop} (hok : ∀ y, ok y → ok' y) (h : OpensTo P m t d ok) : OpensTo P m t d ok' := by
  intro H enc w fuel cs x hm hx
  obtain ⟨y, hK, hy⟩ := h _ _ _ _ _ _ hm hx
  exact ⟨y, hK, hok y hy⟩
theorem opens_last {f : Field} {off : Nat} (hoff : f.offset = off) (hsz : d.sz = P.cellsOf f.type) (h : OpensTo P m f.type d ok) : OpensF P m [f] off d ok := by
  intro H enc w cs hl hf
  obtain ⟨fuel, x, hm, hx⟩ := hf f (by simp)
  rw [hoff, Nat.sub_self, List.drop_zero, List.take_of_length_le (by omega)] at hx
  exact h _ _ _ _ _ _ hm hx
theorem opens_more {f : Field} {fs : List Field} {off : Nat} {b : Kd β} {okb : β → Prop} (hoff : f.offset = off) (hsz : d.sz = P.cellsOf f.type) (hrest : ∀ g, g ∈ fs → off + d.sz ≤ g.offset)
    (h : OpensTo P m f.type d ok) (hr : OpensF P m fs (off + d.sz) b okb) : OpensF P m (f :: fs) off (Kd.pair d b) (OkPair ok okb) := by
  intro H enc w cs hl hf
  have hl' : cs.length = d.sz + b.sz := hl
  obtain ⟨fuel, x, hm, hx⟩ := hf f (by simp)
  rw [hoff, Nat.sub_self, List.drop_zero, ← hsz] at hx
  obtain ⟨y, hK, hy⟩ := h _ _ _ _ _ _ hm hx
  obtain ⟨z, hK', hz⟩ := hr H enc w (cs.drop d.sz) (by rw [List.length_drop]; omega) (fun g hg => by
    obtain ⟨fuel', x', hm', hx'⟩ := hf g (by simp [hg])
    have := hrest g hg
    rw [List.drop_drop, show d.sz + (g.offset - (off + d.sz)) = g.offset - off by omega]
    exact ⟨fuel', x', hm', hx'⟩)
  exact ⟨(y, z), ⟨cs.take d.sz, cs.drop d.sz, (List.take_append_drop _ _).symm, hK, hK'⟩, hy, hz⟩
theorem opens_struct {fs : Array Field} (hu : P.underlying t = some (.struct fs)) (hsz : d.sz = P.cellsOf t) (h : OpensF P m fs.toList 0 d ok) : OpensTo P (m + 1) t d ok := by
  intro H enc w fuel cs x hm hx
  obtain ⟨xs, n, rfl, _, hl, hlen, hf⟩ := DataW.trod_struct hu hx
  refine h H enc w cs (by omega) (fun f hfm => ?_)
  obtain ⟨i, hi⟩ := List.mem_iff_getElem?.1 hfm
  have hi' : fs[i]? = some f := by simpa using hi
  have hlt : i < fs.size := (Array.getElem?_eq_some_iff.1 hi').1
  refine ⟨n, xs[i]'(by omega), by omega, ?_⟩
  rw [Nat.sub_zero, hf i f hi', List.getElem?_eq_getElem (by omega)]
theorem opens_slice {e : TypeId} (hu : P.underlying t = some (.slice e)) (hsz : d.sz = P.cellsOf e) (h : OpensTo P m e d ok) :
    OpensTo P (m + 1) t (Kd.slice e d) (fun ys => ys.length ≤ 9223372036854775807 ∧ ∀ y, y ∈ ys → ok y) := by
  intro H enc w fuel cs x hm hx
  rcases DataW.trod_slice hu hx with ⟨rfl, _⟩ | ⟨a, len, cap, elems, rest, n, hn, rfl, _, hb, hl, hmx, hlen, hel, _⟩
  · exact ⟨[], ⟨none, 0, rfl, Nat.le_refl _, rfl, by simp, fun h0 => absurd h0 (Nat.lt_irrefl 0)⟩, by simp, fun y hy => by simp at hy⟩
  · have each : ∀ i, i < len → ∃ y : α, (∃ c, c.length = d.sz ∧ d.K w y c ∧ ∀ j u, c[j]? = some u → w.cell? (a.add (i * d.sz + j)) = some u) ∧ ok y := by
      intro i hi
      have h1 := hel i hi
      rw [List.getElem?_eq_getElem (by omega)] at h1
      obtain ⟨c, hc, ht⟩ := Option.bind_eq_some_iff.1 h1
      obtain ⟨y, hK, hy⟩ := h _ _ _ _ _ _ (by omega) ht
      obtain ⟨_, hcl, hcell⟩ := World.cells?_some hc
      refine ⟨y, ⟨c, d.K_len hK, hK, fun j u hj => ?_⟩, hy⟩
      have hjl : j < P.cellsOf e := by have := (List.getElem?_eq_some_iff.1 hj).1; omega
      have := hcell j hjl
      rw [Go.Deep.add_add, ← hsz] at this
      rw [this, hj]
    classical
    let f : Nat → Option α := fun i => if hi : i < len then some (Classical.choose (each i hi)) else none
    let ys : List α := (List.range len).filterMap f
    have hfm : ∀ n, n ≤ len → ((List.range n).filterMap f).length = n ∧ ∀ i, i < n → ((List.range n).filterMap f)[i]? = f i := by
      intro n
      induction n with
      | zero => intro _; exact ⟨rfl, fun i hi => absurd hi (Nat.not_lt_zero _)⟩
      | succ n ih =>
        intro hn'
        obtain ⟨h1, h2⟩ := ih (by omega)
        have hfn : f n = some (Classical.choose (each n (by omega))) := dif_pos (by omega)
        have hsplit : (List.range (n + 1)).filterMap f = (List.range n).filterMap f ++ [Classical.choose (each n (by omega))] := by
          rw [List.range_succ, List.filterMap_append]; simp [hfn]
        rw [hsplit]
        refine ⟨by simp [h1], fun i hi => ?_⟩
        rcases Nat.lt_succ_iff_lt_or_eq.1 hi with hlt | rfl
        · rw [List.getElem?_append_left (by omega)]; exact h2 i hlt
        · rw [List.getElem?_append_right (by omega), h1, Nat.sub_self, hfn]; rfl
    obtain ⟨hyl, hyi⟩ := hfm len (Nat.le_refl _)
    have hspec : ∀ (i : Nat) (y : α), ys[i]? = some y → i < len ∧ (∃ c, c.length = d.sz ∧ d.K w y c ∧ ∀ j u, c[j]? = some u → w.cell? (a.add (i * d.sz + j)) = some u) ∧ ok y := by
      intro i y hy
      have hil : i < len := by have := (List.getElem?_eq_some_iff.1 hy).1; rw [hyl] at this; exact this
      have h1 : f i = some y := (hyi i hil).symm.trans hy
      have h2 : f i = some (Classical.choose (each i hil)) := dif_pos hil
      rw [h2] at h1
      injection h1 with h1
      subst h1
      exact ⟨hil, Classical.choose_spec (each i hil)⟩
    have hmax : cap ≤ 9223372036854775807 := by simpa [maxLen] using hmx
    have hyl' : ys.length = len := hyl
    refine ⟨ys, ⟨some a, cap, by rw [hyl'], by omega, rfl, by omega, fun _ => ⟨a, rfl, fun j p hj => (hspec j p hj).2.1⟩⟩, by omega, fun y hy => ?_⟩
    obtain ⟨i, hi⟩ := List.mem_iff_getElem?.1 hy
    exact (hspec i y hi).2.2
theorem opens_zero : OpensTo P 0 t d ok := by
  intro H enc w fuel cs x hm hx
  obtain rfl : fuel = 0 := by omega
  exact absurd hx (by simp [DataW.trod])
theorem opens_slice_all {e : TypeId} (hu : P.underlying t = some (.slice e)) (hsz : d.sz = P.cellsOf e) (h : ∀ m, OpensTo P m e d ok) :
    ∀ m, OpensTo P m t (Kd.slice e d) (fun ys => ys.length ≤ 9223372036854775807 ∧ ∀ y, y ∈ ys → ok y)
  | 0 => opens_zero
  | m + 1 => opens_slice hu hsz (h m)
theorem opens_struct_all {fs : Array Field} (hu : P.underlying t = some (.struct fs)) (hsz : d.sz = P.cellsOf t) (h : ∀ m, OpensF P m fs.toList 0 d ok) : ∀ m, OpensTo P m t d ok
  | 0 => opens_zero
  | m + 1 => opens_struct hu hsz (h m)
theorem opens_iso_all {f : β → α} (g : α → β) (hfg : ∀ y, f (g y) = y) {okb : β → Prop} (hok : ∀ y, ok y → okb (g y)) (h : ∀ m, OpensTo P m t d ok) : ∀ m, OpensTo P m t (Kd.iso d f) okb :=
  fun m => opens_iso g hfg hok (h m)
end
end Go.Proofs.Ytljpmdeobmmhlaa.Opening
