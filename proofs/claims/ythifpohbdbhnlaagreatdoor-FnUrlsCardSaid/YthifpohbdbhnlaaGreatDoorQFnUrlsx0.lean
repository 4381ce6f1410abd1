/- A tool of this session wrote this text out of the translation: functions as plain Lean, and proofs that the machine's calls come to their answers. -/
import Derived.Test.YthifpohbdbhnlaaGreatDoorQFnStpx0
import Derived.Test.YthifpohbdbhnlaaGreatDoorQFnStpx1
import Derived.Test.YthifpohbdbhnlaaGreatDoorQFnStpx2
import Derived.Test.YthifpohbdbhnlaaGreatDoorQFnStpx3
import Derived.Test.YthifpohbdbhnlaaGreatDoorQFnStpx4
import Derived.Test.YthifpohbdbhnlaaGreatDoorQFnStpx5
import Derived.Test.YthifpohbdbhnlaaGreatDoorQFnStpx6
import Derived.Test.YthifpohbdbhnlaaGreatDoorQFnStpx7
import Derived.Test.YthifpohbdbhnlaaGreatDoorQFnStpx8
import Derived.Test.YthifpohbdbhnlaaGreatDoorQFnStpx9
import Derived.Test.YthifpohbdbhnlaaGreatDoorQFnStpx10
import Derived.Test.YthifpohbdbhnlaaGreatDoorQFnStpx11
import Derived.Test.YthifpohbdbhnlaaGreatDoorQFnStpx12
import Derived.Test.YthifpohbdbhnlaaGreatDoorQFnStpx13
import Derived.Test.YthifpohbdbhnlaaGreatDoorQFnStpx14
import Derived.Deep.RegionWith
import Derived.Lib.AtoiErrMem
import Derived.Lib.AtoiAllCases
import Derived.Lib.Hide
import Derived.Lib.SmallJoins
import Derived.Lib.SlBytesRow
import Derived.Lib.AppendIntMem
import Derived.Test.YthifpohbdbhnlaaGreatDoorShelf
import Derived.LoopTactic
import Derived.Test.YthifpohbdbhnlaaGreatDoorProg
import Derived.Below
import Derived.Deep.Draws
import Derived.Deep.AppendLies
import Derived.Maps.AppendAt
import Derived.OwnWalk
import Derived.Laws.BytesArg
import Derived.Laws.MakeOwn
import Derived.Laws.OwnMore
import Derived.Deep.OwnRows
import Derived.Tactics
import Derived.Lib.ConvBytes
import Derived.Laws.Slices
import Derived.WalkKit
import Derived.KernelRfl
import Derived.RowKit3
import Derived.Deep.LoopGhost
import Derived.Deep.QuietTactic
import Derived.BigQuiet
import Derived.WideLaws
import Derived.Deep.DeepCutAuto
import Derived.Deep.CutBlock
import Derived.Deep.RegionHeld3
import Derived.Laws.Rows
import Derived.Lib.AppendStr
import Derived.ArgAppend
import Derived.Laws.IdiomCopy
import Derived.OrdersHeld
import Derived.Laws.BitsLemmas
import Derived.RowKit
import Derived.Test.YthifpohbdbhnlaaGreatDoorTWords
import Derived.Test.YthifpohbdbhnlaaGreatDoorTLast
import Derived.Test.YthifpohbdbhnlaaGreatDoorTTab
import Derived.Test.YthifpohbdbhnlaaGreatDoorTApart
import Derived.Test.YthifpohbdbhnlaaGreatDoorTKept
import Derived.Test.YthifpohbdbhnlaaGreatDoorTN
import Derived.Test.YthifpohbdbhnlaaGreatDoorTEqStruct
import Derived.Test.YthifpohbdbhnlaaGreatDoorTRepsOne
import Derived.Test.YthifpohbdbhnlaaGreatDoorTGuard
import Derived.Test.YthifpohbdbhnlaaGreatDoorTMore
import Derived.Test.YthifpohbdbhnlaaGreatDoorQShort
namespace Go.Proofs.YthifpohbdbhnlaaGreatDoor.QFnUrls
open Go.RowKit Go.Proofs.YthifpohbdbhnlaaGreatDoorW.PrintWords Go.Proofs.YthifpohbdbhnlaaGreatDoorW.PrintLast Go.Proofs.YthifpohbdbhnlaaGreatDoorW.PrintMore
open Bool renaming true → Y, false → Z
open Go.Proofs.YthifpohbdbhnlaaGreatDoor.Short
open Go.Proofs.YthifpohbdbhnlaaGreatDoor.QFnStp
attribute [local go_sem] max2_int min2_int max_two min_two max_three min_three max_four min_four   -- for this text's walks alone
set_option linter.unusedVariables false
set_option linter.unusedSimpArgs false
attribute [local go_sem high] eqA32

theorem info9 : (Tryz.prog.info? 9).map (fun i => (i.zero, i.size, i.bytes)) = some (some (.string ⟨#[]⟩), 1, 16) := by kernel_rfl

theorem eqA32 (d : Nat) (w : World) (x0 y0 : ByteArray) (x1 y1 : ByteArray) (x2 y2 : ByteArray) (x3 y3 : Int) (x4 y4 : ByteArray) (x5 y5 : ByteArray) (x6 y6 : ByteArray) (x7 y7 : Bool) (x8 y8 : Bool) :
    (Op.equalIn (d + 2) 32 (.agg #[.string x0, .string x1, .string x2, .int .i64 x3, .string x4, .string x5, .string x6, .bool x7, .bool x8]) (.agg #[.string y0, .string y1, .string y2, .int .i64 y3, .string y4, .string y5, .string y6, .bool y7, .bool y8])).run Tryz.prog w = .ok (x0.toList == y0.toList && (x1.toList == y1.toList && (x2.toList == y2.toList && (x3 == y3 && (x4.toList == y4.toList && (x5.toList == y5.toList && (x6.toList == y6.toList && (x7 == y7 && (x8 == y8))))))))) w := by
  refine eqA_of Tryz.underlying32 (by kernel_rfl) ?_; refine eqf_cons (by rfl) (by go_simp; rfl) (by go_simp; rfl) (by go_simp) ?_; refine eqf_cons (by rfl) (by go_simp; rfl) (by go_simp; rfl) (by go_simp) ?_; refine eqf_cons (by rfl) (by go_simp; rfl) (by go_simp; rfl) (by go_simp) ?_; refine eqf_cons (by rfl) (by go_simp; rfl) (by go_simp; rfl) (by go_simp) ?_; refine eqf_cons (by rfl) (by go_simp; rfl) (by go_simp; rfl) (by go_simp) ?_; refine eqf_cons (by rfl) (by go_simp; rfl) (by go_simp; rfl) (by go_simp) ?_; refine eqf_cons (by rfl) (by go_simp; rfl) (by go_simp; rfl) (by go_simp) ?_; refine eqf_cons (by rfl) (by go_simp; rfl) (by go_simp; rfl) (by go_simp) ?_; exact eqf_last (by rfl) (by go_simp; rfl) (by go_simp; rfl) (by go_simp)

/-- A state of type 99 at block g of W; what its slices lead to came in by w0. -/

theorem IsS99.grown {w0 W : World} {g : Nat} {f0 : List Int} {f1 : Int} {f2 : Int} {W1 : World} {row : Option Nat} (h : IsS99 w0 W g f0 f1 f2) (hw : W.grownBy W1 row) (hne : some g ≠ row) : IsS99 w0 W1 g f0 f1 f2 := by
  obtain ⟨A0, c0, hb, hg, hr0⟩ := h; exact ⟨A0, c0, blk_grown hb hw hne, hg, hr0⟩

theorem IsS99.own_neN {w0 W : World} {g : Nat} {f0 : List Int} {f1 : Int} {f2 : Int} {α : Type} {d : Kd α} {e : Nat} {base : Nat} {ok : Nat → Prop} {v : Value} {xs : List α} (h : IsS99 w0 W g f0 f1 f2) (ho : Kd.N d e W base ok v xs) (ht : e ≠ 99) : some g ≠ v.ownBlock := by
  obtain ⟨A0, c0, hb, hg, hr0⟩ := h; exact Kd.N_ne ho hb ht

theorem IsS99.fresh {w0 W : World} {g : Nat} {f0 : List Int} {f1 : Int} {f2 : Int} (h : IsS99 w0 W g f0 f1 f2) : ∀ k, W.heap.size ≤ k → k ≠ g := by
  obtain ⟨A0, c0, hb, hg, hr0⟩ := h; exact Kd.freshB hb

theorem IsS99.kept {w0 W : World} {g : Nat} {f0 : List Int} {f1 : Int} {f2 : Int} {W1 : World} {S : Nat → Prop} (h : IsS99 w0 W g f0 f1 f2) (hk : Kept W W1 S) (hne : ¬ S g) : IsS99 w0 W1 g f0 f1 f2 := by
  obtain ⟨A0, c0, hb, hg, hr0⟩ := h; exact ⟨A0, c0, blk_kept hb hk hne, hg, hr0⟩

theorem IsS99.apart {w0 W : World} {g : Nat} {f0 : List Int} {f1 : Int} {f2 : Int} {α : Type} {d : Kd α} {e : Nat} {base : Nat} {ok : Nat → Prop} {v : Value} {xs : List α} (h : IsS99 w0 W g f0 f1 f2) (ho : d.R e W base ok v xs) (ht : ∀ q, q ∈ e :: d.E → q ≠ 99) : d.R e W base (fun k => ok k ∧ k ≠ g) v xs := by
  obtain ⟨A0, c0, hb, hg, hr0⟩ := h; exact Kd.R_types ho hb ht

theorem IsS99.own_ne {w0 W : World} {g : Nat} {f0 : List Int} {f1 : Int} {f2 : Int} {α : Type} {d : Kd α} {e : Nat} {base : Nat} {ok : Nat → Prop} {v : Value} {xs : List α} (h : IsS99 w0 W g f0 f1 f2) (ho : d.R e W base ok v xs) (ht : e ≠ 99) : some g ≠ v.ownBlock := by
  obtain ⟨A0, c0, hb, hg, hr0⟩ := h; exact Kd.R_ne ho hb ht

theorem IsS99.apartQ {w0 W : World} {g : Nat} {f0 : List Int} {f1 : Int} {f2 : Int} {α : Type} {d : Kd α} {e : Nat} {base : Nat} {ok : Nat → Prop} {v : Value} {xs : List α} (h : IsS99 w0 W g f0 f1 f2) (ho : d.Q e W base ok v xs) (ht : ∀ q, q ∈ e :: d.E → q ≠ 99) : d.Q e W base (fun k => ok k ∧ k ≠ g) v xs := by
  obtain ⟨A0, c0, hb, hg, hr0⟩ := h; exact Kd.Q_types ho hb ht

theorem IsS99.own_neQ {w0 W : World} {g : Nat} {f0 : List Int} {f1 : Int} {f2 : Int} {α : Type} {d : Kd α} {e : Nat} {base : Nat} {ok : Nat → Prop} {v : Value} {xs : List α} (h : IsS99 w0 W g f0 f1 f2) (ho : d.Q e W base ok v xs) (ht : e ≠ 99) : some g ≠ v.ownBlock := by
  obtain ⟨A0, c0, hb, hg, hr0⟩ := h; exact Kd.Q_ne ho hb ht

theorem IsS99.apartS {w0 W : World} {g : Nat} {f0 : List Int} {f1 : Int} {f2 : Int} {α : Type} {d : Kd α} {e : Nat} {base : Nat} {ok : Nat → Prop} {v : Value} {xs : List α} (h : IsS99 w0 W g f0 f1 f2) (ho : d.S e W base ok v xs) (ht : ∀ q, q ∈ e :: d.E → q ≠ 99) : d.S e W base (fun k => ok k ∧ k ≠ g) v xs := by
  obtain ⟨A0, c0, hb, hg, hr0⟩ := h; exact Kd.S_types ho hb ht

theorem IsS99.own_neS {w0 W : World} {g : Nat} {f0 : List Int} {f1 : Int} {f2 : Int} {α : Type} {d : Kd α} {e : Nat} {base : Nat} {ok : Nat → Prop} {v : Value} {xs : List α} (h : IsS99 w0 W g f0 f1 f2) (ho : d.S e W base ok v xs) (ht : e ≠ 99) : some g ≠ v.ownBlock := by
  obtain ⟨A0, c0, hb, hg, hr0⟩ := h; exact Kd.S_ne ho hb ht

theorem IsS99.lt {w0 W : World} {g : Nat} {f0 : List Int} {f1 : Int} {f2 : Int} (h : IsS99 w0 W g f0 f1 f2) : g < W.heap.size := by
  obtain ⟨A0, c0, hb, hg, hr0⟩ := h; exact blk_lt hb

theorem IsS99.ge {w0 W : World} {g : Nat} {f0 : List Int} {f1 : Int} {f2 : Int} (h : IsS99 w0 W g f0 f1 f2) : w0.heap.size ≤ g := by
  obtain ⟨A0, c0, hb, hg, hr0⟩ := h; exact hg

theorem IsS99.ne_blk {w0 W : World} {g : Nat} {f0 : List Int} {f1 : Int} {f2 : Int} {a : Nat} {cs : Array Value} {t : TypeId} {fr : Nat × Nat} (h : IsS99 w0 W g f0 f1 f2) (hb2 : W.heap[a]? = some (.cells cs t fr)) (ht : t ≠ 99) : g ≠ a := by
  obtain ⟨A0, c0, hb, hg, hr0⟩ := h; rintro rfl; rw [hb] at hb2; injection hb2 with hb2
  injection hb2 with _ ht2
  exact ht ht2.symm

theorem IsS99.far {w0 W : World} {g : Nat} {f0 : List Int} {f1 : Int} {f2 : Int} {p : Addr} (h : IsS99 w0 W g f0 f1 f2) (hne : g ≠ p.block) (u : Value) : IsS99 w0 (W.setCell p u) g f0 f1 f2 := by
  obtain ⟨A0, c0, hb, hg, hr0⟩ := h; exact ⟨A0, c0, blk_far hb hne u, hg, hr0⟩

theorem IsS99.set_1 {w0 W : World} {g : Nat} {f0 : List Int} {f1 : Int} {f2 : Int} (h : IsS99 w0 W g f0 f1 f2) (x : Int) : IsS99 w0 (W.setCell ⟨g, 1, none⟩ (.int .i64 x)) g f0 x f2 := by
  obtain ⟨A0, c0, hb, hg, hr0⟩ := h; exact ⟨A0, c0, by simpa using blk_set hb 1 (.int .i64 x), hg, hr0⟩

theorem IsS99.set_2 {w0 W : World} {g : Nat} {f0 : List Int} {f1 : Int} {f2 : Int} (h : IsS99 w0 W g f0 f1 f2) (x : Int) : IsS99 w0 (W.setCell ⟨g, 2, none⟩ (.int .i64 x)) g f0 f1 x := by
  obtain ⟨A0, c0, hb, hg, hr0⟩ := h; exact ⟨A0, c0, by simpa using blk_set hb 2 (.int .i64 x), hg, hr0⟩

theorem isE_ {w0 W : World} {g : Nat} {f0 : List Int} {f1 : Int} {f2 : Int}  (h : IsS99 w0 W g f0 f1 f2 := by repeat (first | (with_reducible first | exact HI0.out | apply IsS99.alloc | apply IsS99.drewN | apply IsS99.drew | apply IsS99.set_1 | apply IsS99.set_2) | exact HI0.out)) : IsS99 w0 W g f0 f1 f2 := h
theorem kpE_ {w W : World} {g : Nat} {row : Option Nat} (h : KeepBut w W g row := by repeat (first | (with_reducible first | exact HK.out | apply KeepBut.set_ | apply keep_drewN | apply keep_drew | apply keep_alloc) | exact HK.out)) : KeepBut w W g row := h
theorem beI_ {w W : World} (h : Below w.heap.size w W := by repeat (first | (with_reducible first | exact HB.out | apply below_alloc | apply pw_below_drewN | apply below_drew1 | refine below_set ?_ (IsS99.ge HI0.out)) | exact HB.out)) : Below w.heap.size w W := h

/-! ### spec_l00Source: function 50 -/
def spec_l00Source.f (l0 : List Int) : Option (List Int × Int × Int) := some (l0, 0, (l0.length : Int) % 1000)
set_option maxHeartbeats 8000000 in
set_option maxRecDepth 100000 in
theorem spec_l00Source.calls (A0 : Option Addr) (c0 : Nat) (l0 : List Int) (r1 : List Int) (r2 : Int) (r3 : Int) (w0 w : World) (hB : Below w0.heap.size w0 w) (b : Kd.C (Kd.int .u8) w0 A0 l0.length l0) (hc0 : l0.length ≤ c0) (h : spec_l00Source.f l0 = some (r1, r2, r3)) :
    Calls Tryz.prog 50 #[.slice A0 l0.length c0] w fun e w' => ∃ g_ : Nat, e = .returned (.pointer (some ⟨g_, 0, none⟩)) ∧ IsS99 w0 w' g_ r1 r2 r3 ∧ Below w0.heap.size w0 w' ∧ Below w.heap.size w w' := by
 have hu99 := Tryz.underlying99; have HR0 := Aside0.mk b; have n := Aside0.mk hc0; clear b hc0; have HBW := Aside0.mk (Below.refl w.heap.size w); have HW0 := Aside0.mk hB.size; have HB := Aside0.mk hB; clear hB; have H : (some (l0, 0, (l0.length : Int) % 1000)) = some (r1, r2, r3) := h; clear h; simp only [Option.some.injEq, Prod.mk.injEq] at H; obtain ⟨rfl, rfl, rfl⟩ := H; go_enter Tryz.func50, Tryz.ntmps50; go_wp2_with (first | ((with_reducible refine gate_dst (N := 8) rfl ?_); refine box_event ?hg (N := 8) ?hd (cs := #[.slice A0 l0.length c0, .int .i64 0, .int .i64 ((l0.length : Int) % 1000)]) (t := 99) ?hr ?_; (case hd => rfl); (case hg => rfl); (case hr => first | (go_simp; done) | (go_simp; rfl)); intro a hg w2 hbox hb; have c := Aside0.mk (below_step HBW.out hb); have d := belB_ hb; have g := Aside0.mk (hbox); have i := Aside0.mk ((by rw [hg]; exact (below_size (by repeat (first | (with_reducible first | exact HBW.out | apply below_alloc | apply pw_below_drewN | apply below_drew1) | exact HBW.out))) : w.heap.size ≤ a)); have j := Aside0.mk ((Nat.le_trans HW0.out (by rw [hg]; exact (below_size (by repeat (first | (with_reducible first | exact HBW.out | apply below_alloc | apply pw_below_drewN | apply below_drew1) | exact HBW.out))) : w.heap.size ≤ a) : w0.heap.size ≤ a)); clear HBW; clear HB; have HBW := c; have HB := d; have k := g; have l := i; have m := j; clear c d g i j; clear hb hbox hg)); go_ret; exact ⟨_, rfl, (show IsS99 w0 _ a l0 0 ((l0.length : Int) % 1000) from ⟨_, _, by (with_reducible repeat apply bd_); exact k.out, m.out, HR0.out⟩), belE_, by repeat (first | (with_reducible first | exact HBW.out | apply below_alloc | apply pw_below_drewN | apply below_drew1 | refine below_set ?_ l.out) | exact HBW.out)⟩

/-! ### spec_l00Src_byte: function 147, by hand -/
/-- One byte out of the source. -/
def spec_l00Src_byte.f (l0 : List Int) (a1 : Int) (a2 : Int) : Option (Int × Int × Int) :=
  if 0 ≤ a1 ∧ a1 ≤ 1000000 ∧ 0 ≤ a2 ∧ a2 < 2147483648 ∧ l0.length ≤ 1000000000 then
    (if a1 < (l0.length : Int) then (if 0 ≤ rd l0 a1 ∧ rd l0 a1 ≤ 255 then some (rd l0 a1, a1 + 1, Int.tmod (a2 * 31 + rd l0 a1 + 7) 2147483648) else none)
      else if 2999 < a1 then some (0, a1 + 1, a2) else some ((a2 * 1103515245 + 12345) % 2147483648 / 65536 % 256, a1 + 1, (a2 * 1103515245 + 12345) % 2147483648)) else none
theorem spec_l00Src_byte.worldR {P : Program} {c : Code} {Q : Exit → Act → World → Prop} {a : Act} {w : World} (R : World → Prop) (h : R w) (k : ∀ w', R w' → c.wp P Q a w') : c.wp P Q a w := k w h
theorem spec_l00Src_byte.far_ {W : World} {g i j : Nat} {u v : Value} (h : i ≠ j) (hc : W.cell? ⟨g, i, none⟩ = some u) : (W.setCell ⟨g, j, none⟩ v).cell? ⟨g, i, none⟩ = some u := by
  have e := World.cell?_setCell_other (w := W) (a := ⟨g, j, none⟩) (b := ⟨g, i, none⟩) (v := v) (fun e => h (congrArg Addr.off e).symm); exact e.trans hc
set_option maxHeartbeats 8000000 in
set_option maxRecDepth 100000 in
theorem spec_l00Src_byte.calls (g : Nat) (s0_0 : List Int) (s0_1 : Int) (s0_2 : Int) (r1 : Int) (r2 : Int) (r3 : Int) (w0 w : World) (hI : IsS99 w0 w g s0_0 s0_1 s0_2) (hB : Below w0.heap.size w0 w) (h : spec_l00Src_byte.f s0_0 s0_1 s0_2 = some (r1, r2, r3)) :
    Calls Tryz.prog 147 #[.pointer (some ⟨g, 0, none⟩)] w fun e w' => e = .returned (.int .i64 r1) ∧ IsS99 w0 w' g s0_0 r2 r3 ∧ Below w0.heap.size w0 w' ∧ KeepBut w w' g none := by
  have hu_ := Tryz.underlying99; unfold spec_l00Src_byte.f at h; by_cases hg : 0 ≤ s0_1 ∧ s0_1 ≤ 1000000 ∧ 0 ≤ s0_2 ∧ s0_2 < 2147483648 ∧ s0_0.length ≤ 1000000000; rotate_left
  · rw [if_neg hg] at h; cases h
  rw [if_pos hg] at h; obtain ⟨g1, g2, g3, g4, g5⟩ := hg; have HI := Aside0.mk hI; have HB := Aside0.mk hB; obtain ⟨A0, c0, hb, hge, b⟩ := hI; have HG := Aside0.mk hge; have HB0 := Aside0.mk hb; have HR := Aside0.mk b; have k1 := cellS99_1 hb; have z1 := blk_frozen hb 1; have c : IntKind.i64.wrap (s0_1 + 1) = s0_1 + 1 := by rw [IntKind.wrap_i64]; omega
  have d : wrap64 (s0_1 + 1) = s0_1 + 1 := by unfold wrap64; omega
  clear hB hb hge b; by_cases c1 : s0_1 < (s0_0.length : Int)
  · rw [if_pos c1] at h
    have hd1 : decide (s0_1 + 1 ≤ (s0_0.length : Int)) = true := decide_eq_true (by omega); by_cases c2 : 0 ≤ rd s0_0 s0_1 ∧ rd s0_0 s0_1 ≤ 255; rotate_left
    · rw [if_neg c2] at h; cases h
    rw [if_pos c2] at h; simp only [Option.some.injEq, Prod.mk.injEq] at h; obtain ⟨rfl, rfl, rfl⟩ := h; obtain ⟨d1, d2⟩ := c2; obtain ⟨ad, rfl, hx⟩ := Kd.at_int (Kd.C_below HR.out HB.out) s0_1 g1 c1
    have hne : (ad.add s0_1.toNat).block ≠ g := by
      obtain ⟨ad', e', hx'⟩ := Kd.at_int HR.out s0_1 g1 c1; cases e'; have l := World.block_lt_of_cell? _ _ hx'; have m := HG.out; omega
    go_enter Tryz.func147, Tryz.ntmps147; go_upto_region 2 with fail
    refine spec_l00Src_byte.worldR (fun W => W.heap[g]? = some (.cells #[.slice (some ad) s0_0.length c0, .int .i64 (s0_1 + 1), .int .i64 s0_2] 99 (0, 0)) ∧ W.cell? (ad.add s0_1.toNat) = some (.int .u8 (rd s0_0 s0_1)) ∧ Below w0.heap.size w0 W ∧ KeepBut w W g none) ?_ ?_
    · refine ⟨by simpa using blk_set HB0.out 1 (.int .i64 (s0_1 + 1)), (cell_far (p := ⟨g, 1, none⟩) hne _).trans hx, below_set HB.out HG.out, (KeepBut.refl w g none).set_ _ _⟩
    intro w1 K1; obtain ⟨b1, x1, B1, KB1⟩ := K1; have B1 := Aside0.mk B1; have KB1 := Aside0.mk KB1; have q0 := cellS99_0 b1; have q1 := cellS99_1 b1; have q2 := cellS99_2 b1; have z2 := blk_frozen b1 2; have BK := Aside0.mk b1; clear b1 k1 z1 hx; go_quiet (fail); go_upto_region 3 with fail
    have e1 : IntKind.i64.wrap (s0_1 + 1 - 1) = s0_1 := by rw [IntKind.wrap_i64]; omega
    have e0 : IntKind.i64.wrap s0_1 = s0_1 := by rw [IntKind.wrap_i64]; omega
    have e2 : IntKind.i64.wrap (s0_2 * 31) = s0_2 * 31 := by rw [IntKind.wrap_i64]; omega
    have e3 : IntKind.i64.wrap (rd s0_0 s0_1) = rd s0_0 s0_1 := by rw [IntKind.wrap_i64]; omega
    have e4 : IntKind.i64.wrap (s0_2 * 31 + rd s0_0 s0_1) = s0_2 * 31 + rd s0_0 s0_1 := by rw [IntKind.wrap_i64]; omega
    have e5 : IntKind.i64.wrap (s0_2 * 31 + rd s0_0 s0_1 + 7) = s0_2 * 31 + rd s0_0 s0_1 + 7 := by rw [IntKind.wrap_i64]; omega
    refine spec_l00Src_byte.worldR (fun W => W.heap[g]? = some (.cells #[.slice (some ad) s0_0.length c0, .int .i64 (s0_1 + 1), .int .i64 s0_2] 99 (0, 0)) ∧ W.cell? (ad.add s0_1.toNat) = some (.int .u8 (rd s0_0 s0_1)) ∧ Below w0.heap.size w0 W ∧ KeepBut w W g none) ⟨blk_drewN BK.out _, x1, pw_below_drewN B1.out _, keep_drewN KB1.out _⟩ ?_; intro w2 K2; obtain ⟨b2, x2, B2, KB2⟩ := K2; have B2 := Aside0.mk B2; have KB2 := Aside0.mk KB2; clear q0 q1 q2 z2 BK B1 KB1 x1; have q0 := cellS99_0 b2; have q1 := cellS99_1 b2; have q2 := cellS99_2 b2; have z2 := blk_frozen b2 2; have BK := Aside0.mk b2; clear b2; refine start_ (n := 24) (S := fun w' => w'.cell? ⟨g, 0, none⟩ = some (.slice (some ad) s0_0.length c0) ∧ w'.cell? ⟨g, 1, none⟩ = some (.int .i64 (s0_1 + 1)) ∧ w'.cell? (ad.add s0_1.toNat) = some (.int .u8 (rd s0_0 s0_1)) ∧ w'.cell? ⟨g, 2, none⟩ = some (.int .i64 s0_2)) (ds := [23]) #[Z, Z, Z, Z, Z, Z, Z, Z, Z, Z, Z, Z, Z, Z, Z, Z, Z, Z, Z, Z, Z, Z, Z, Z] (by kernel_rfl) rfl rfl ⟨q0, q1, x2, q2⟩ (fun hHeld => ?_); refine pure_ (i := 0) (N := some 20) (v := ?_) (a' := ?_) #[Y, Z, Z, Z, Z, Z, Z, Z, Z, Z, Z, Z, Z, Z, Z, Z, Z, Z, Z, Z, Z, Z, Z, Z] rfl rfl (by kernel_rfl) (fun _ _ _ h => h) (Or.inl ⟨by rfl, ?_⟩) ?_ ?_; rotate_left
    · intro w'
      go_simp; with_reducible rfl
    rotate_left
    · simp only [Act.put, List.setIfInBounds_toArray, List.set_cons_zero, List.set_cons_succ, i64_w, i32_w]
      rfl
    refine pure_ (i := 1) (N := some 21) (v := ?_) (a' := ?_) #[Y, Y, Z, Z, Z, Z, Z, Z, Z, Z, Z, Z, Z, Z, Z, Z, Z, Z, Z, Z, Z, Z, Z, Z] rfl rfl (by kernel_rfl) (fun _ _ _ h => h) (Or.inl ⟨by rfl, ?_⟩) ?_ ?_; rotate_left
    · intro w'
      go_simp; with_reducible rfl
    rotate_left
    · simp only [Act.put, List.setIfInBounds_toArray, List.set_cons_zero, List.set_cons_succ, i64_w, i32_w]
      rfl
    refine pure_ (i := 2) (N := some 22) (v := ?_) (a' := ?_) #[Y, Y, Y, Z, Z, Z, Z, Z, Z, Z, Z, Z, Z, Z, Z, Z, Z, Z, Z, Z, Z, Z, Z, Z] rfl rfl (by kernel_rfl) (fun _ _ _ h => h) (Or.inl ⟨by rfl, ?_⟩) ?_ ?_; rotate_left
    · intro w'
      go_simp; with_reducible rfl
    rotate_left
    · simp only [Act.put, List.setIfInBounds_toArray, List.set_cons_zero, List.set_cons_succ, i64_w, i32_w]
      rfl
    refine pure_ (i := 3) (N := some 23) (v := ?_) (a' := ?_) #[Y, Y, Y, Y, Z, Z, Z, Z, Z, Z, Z, Z, Z, Z, Z, Z, Z, Z, Z, Z, Z, Z, Z, Z] rfl rfl (by kernel_rfl) (fun _ _ _ h => h) (Or.inl ⟨by rfl, ?_⟩) ?_ ?_; rotate_left
    · intro w'
      go_simp; with_reducible rfl
    rotate_left
    · simp only [Act.put, List.setIfInBounds_toArray, List.set_cons_zero, List.set_cons_succ, i64_w, i32_w]
      rfl
    refine pure_ (i := 6) (N := some 26) (v := ?_) (a' := ?_) #[Y, Y, Y, Y, Z, Z, Y, Z, Z, Z, Z, Z, Z, Z, Z, Z, Z, Z, Z, Z, Z, Z, Z, Z] rfl rfl (by kernel_rfl) (fun _ _ _ h => h) (Or.inl ⟨by rfl, ?_⟩) ?_ ?_; rotate_left
    · intro w'
      go_simp; with_reducible rfl
    rotate_left
    · simp only [Act.put, List.setIfInBounds_toArray, List.set_cons_zero, List.set_cons_succ, i64_w, i32_w]
      rfl
    refine pure_ (i := 7) (N := some 27) (v := ?_) (a' := ?_) #[Y, Y, Y, Y, Z, Z, Y, Y, Z, Z, Z, Z, Z, Z, Z, Z, Z, Z, Z, Z, Z, Z, Z, Z] rfl rfl (by kernel_rfl) (fun _ _ _ h => h) (Or.inl ⟨by rfl, ?_⟩) ?_ ?_; rotate_left
    · intro w'
      go_simp; with_reducible rfl
    rotate_left
    · simp only [Act.put, List.setIfInBounds_toArray, List.set_cons_zero, List.set_cons_succ, i64_w, i32_w]
      rfl
    refine pure_ (i := 8) (N := some 28) (v := ?_) (a' := ?_) #[Y, Y, Y, Y, Z, Z, Y, Y, Y, Z, Z, Z, Z, Z, Z, Z, Z, Z, Z, Z, Z, Z, Z, Z] rfl rfl (by kernel_rfl) (fun _ _ _ h => h) (Or.inl ⟨by rfl, ?_⟩) ?_ ?_; rotate_left
    · intro w'
      go_simp; with_reducible rfl
    rotate_left
    · simp only [Act.put, List.setIfInBounds_toArray, List.set_cons_zero, List.set_cons_succ, i64_w, i32_w]
      rfl
    refine pure_ (i := 10) (N := some 30) (v := ?_) (a' := ?_) #[Y, Y, Y, Y, Z, Z, Y, Y, Y, Z, Y, Z, Z, Z, Z, Z, Z, Z, Z, Z, Z, Z, Z, Z] rfl rfl (by kernel_rfl) (fun _ _ _ h => h) (Or.inl ⟨by rfl, ?_⟩) ?_ ?_; rotate_left
    · intro w'
      go_simp; with_reducible rfl
    rotate_left
    · simp only [Act.put, List.setIfInBounds_toArray, List.set_cons_zero, List.set_cons_succ, i64_w, i32_w]
      rfl
    refine pure_ (i := 11) (N := some 31) (v := ?_) (a' := ?_) #[Y, Y, Y, Y, Z, Z, Y, Y, Y, Z, Y, Y, Z, Z, Z, Z, Z, Z, Z, Z, Z, Z, Z, Z] rfl rfl (by kernel_rfl) (fun _ _ _ h => h) (Or.inl ⟨by rfl, ?_⟩) ?_ ?_; rotate_left
    · intro w'
      go_simp; with_reducible rfl
    rotate_left
    · simp only [Act.put, List.setIfInBounds_toArray, List.set_cons_zero, List.set_cons_succ, i64_w, i32_w]
      rfl
    refine pure_ (i := 12) (N := some 32) (v := ?_) (a' := ?_) #[Y, Y, Y, Y, Z, Z, Y, Y, Y, Z, Y, Y, Y, Z, Z, Z, Z, Z, Z, Z, Z, Z, Z, Z] rfl rfl (by kernel_rfl) (fun _ _ _ h => h) (Or.inl ⟨by rfl, ?_⟩) ?_ ?_; rotate_left
    · intro w'
      go_simp; with_reducible rfl
    rotate_left
    · simp only [Act.put, List.setIfInBounds_toArray, List.set_cons_zero, List.set_cons_succ, i64_w, i32_w]
      rfl
    refine take_ (i := 4) (N := some 24) (v := ?_) (a' := ?_) #[Y, Y, Y, Y, Y, Z, Y, Y, Y, Z, Y, Y, Y, Z, Z, Z, Z, Z, Z, Z, Z, Z, Z, Z] rfl rfl (by kernel_rfl) (fun _ _ _ h => h) (Or.inl ⟨by rfl, ?_⟩) hHeld ?_ ?_; rotate_left
    · rintro w' ⟨s0, s1, s2, s3⟩
      go_simp; with_reducible rfl
    rotate_left
    · simp only [Act.put, List.setIfInBounds_toArray, List.set_cons_zero, List.set_cons_succ, i64_w, i32_w]
      rfl
    refine pure_ (i := 5) (N := some 25) (v := ?_) (a' := ?_) #[Y, Y, Y, Y, Y, Y, Y, Y, Y, Z, Y, Y, Y, Z, Z, Z, Z, Z, Z, Z, Z, Z, Z, Z] rfl rfl (by kernel_rfl) (fun _ _ _ h => h) (Or.inl ⟨by rfl, ?_⟩) ?_ ?_; rotate_left
    · intro w'
      go_simp; with_reducible rfl
    rotate_left
    · simp only [Act.put, List.setIfInBounds_toArray, List.set_cons_zero, List.set_cons_succ, i64_w, i32_w]
      rfl
    refine take_ (i := 9) (N := some 29) (v := ?_) (a' := ?_) #[Y, Y, Y, Y, Y, Y, Y, Y, Y, Y, Y, Y, Y, Z, Z, Z, Z, Z, Z, Z, Z, Z, Z, Z] rfl rfl (by kernel_rfl) (fun _ _ _ h => h) (Or.inl ⟨by rfl, ?_⟩) hHeld ?_ ?_; rotate_left
    · rintro w' ⟨s0, s1, s2, s3⟩
      go_simp; with_reducible rfl
    rotate_left
    · simp only [Act.put, List.setIfInBounds_toArray, List.set_cons_zero, List.set_cons_succ, i64_w, i32_w]
      rfl
    refine take_ (i := 13) (N := some 33) (v := ?_) (a' := ?_) #[Y, Y, Y, Y, Y, Y, Y, Y, Y, Y, Y, Y, Y, Y, Z, Z, Z, Z, Z, Z, Z, Z, Z, Z] rfl rfl (by kernel_rfl) (fun _ _ _ h => h) (Or.inl ⟨by rfl, ?_⟩) hHeld ?_ ?_; rotate_left
    · rintro w' ⟨s0, s1, s2, s3⟩
      go_simp; with_reducible rfl
    rotate_left
    · simp only [Act.put, List.setIfInBounds_toArray, List.set_cons_zero, List.set_cons_succ, i64_w, i32_w]
      rfl
    refine pure_ (i := 14) (N := some 34) (v := ?_) (a' := ?_) #[Y, Y, Y, Y, Y, Y, Y, Y, Y, Y, Y, Y, Y, Y, Y, Z, Z, Z, Z, Z, Z, Z, Z, Z] rfl rfl (by kernel_rfl) (fun _ _ _ h => h) (Or.inl ⟨by rfl, ?_⟩) ?_ ?_; rotate_left
    · intro w'
      go_simp; with_reducible rfl
    rotate_left
    · simp only [Act.put, List.setIfInBounds_toArray, List.set_cons_zero, List.set_cons_succ, i64_w, i32_w]
      rfl
    refine pure_ (i := 15) (N := some 35) (v := ?_) (a' := ?_) #[Y, Y, Y, Y, Y, Y, Y, Y, Y, Y, Y, Y, Y, Y, Y, Y, Z, Z, Z, Z, Z, Z, Z, Z] rfl rfl (by kernel_rfl) (fun _ _ _ h => h) (Or.inl ⟨by rfl, ?_⟩) ?_ ?_; rotate_left
    · intro w'
      go_simp; with_reducible rfl
    rotate_left
    · simp only [Act.put, List.setIfInBounds_toArray, List.set_cons_zero, List.set_cons_succ, i64_w, i32_w]
      rfl
    refine take_ (i := 16) (N := some 36) (v := ?_) (a' := ?_) #[Y, Y, Y, Y, Y, Y, Y, Y, Y, Y, Y, Y, Y, Y, Y, Y, Y, Z, Z, Z, Z, Z, Z, Z] rfl rfl (by kernel_rfl) (fun _ _ _ h => h) (Or.inl ⟨by rfl, ?_⟩) hHeld ?_ ?_; rotate_left
    · rintro w' ⟨s0, s1, s2, s3⟩
      go_simp; with_reducible rfl
    rotate_left
    · simp only [Act.put, List.setIfInBounds_toArray, List.set_cons_zero, List.set_cons_succ, i64_w, i32_w]
      rfl
    refine pure_ (i := 17) (N := some 37) (v := ?_) (a' := ?_) #[Y, Y, Y, Y, Y, Y, Y, Y, Y, Y, Y, Y, Y, Y, Y, Y, Y, Y, Z, Z, Z, Z, Z, Z] rfl rfl (by kernel_rfl) (fun _ _ _ h => h) (Or.inl ⟨by rfl, ?_⟩) ?_ ?_; rotate_left
    · intro w'
      go_simp; with_reducible rfl
    rotate_left
    · simp only [Act.put, List.setIfInBounds_toArray, List.set_cons_zero, List.set_cons_succ, i64_w, i32_w]
      rfl
    refine pure_ (i := 18) (N := some 38) (v := ?_) (a' := ?_) #[Y, Y, Y, Y, Y, Y, Y, Y, Y, Y, Y, Y, Y, Y, Y, Y, Y, Y, Y, Z, Z, Z, Z, Z] rfl rfl (by kernel_rfl) (fun _ _ _ h => h) (Or.inl ⟨by rfl, ?_⟩) ?_ ?_; rotate_left
    · intro w'
      go_simp; with_reducible rfl
    rotate_left
    · simp only [Act.put, List.setIfInBounds_toArray, List.set_cons_zero, List.set_cons_succ, i64_w, i32_w]
      rfl
    refine pure_ (i := 19) (N := some 39) (v := ?_) (a' := ?_) #[Y, Y, Y, Y, Y, Y, Y, Y, Y, Y, Y, Y, Y, Y, Y, Y, Y, Y, Y, Y, Z, Z, Z, Z] rfl rfl (by kernel_rfl) (fun _ _ _ h => h) (Or.inl ⟨by rfl, ?_⟩) ?_ ?_; rotate_left
    · intro w'
      go_simp; with_reducible rfl
    rotate_left
    · simp only [Act.put, List.setIfInBounds_toArray, List.set_cons_zero, List.set_cons_succ, i64_w, i32_w]
      rfl
    refine pure_ (i := 20) (N := some 40) (v := ?_) (a' := ?_) #[Y, Y, Y, Y, Y, Y, Y, Y, Y, Y, Y, Y, Y, Y, Y, Y, Y, Y, Y, Y, Y, Z, Z, Z] rfl rfl (by kernel_rfl) (fun _ _ _ h => h) (Or.inl ⟨by rfl, ?_⟩) ?_ ?_; rotate_left
    · intro w'
      go_simp; with_reducible rfl
    rotate_left
    · simp only [Act.put, List.setIfInBounds_toArray, List.set_cons_zero, List.set_cons_succ, i64_w, i32_w]
      rfl
    refine pure_ (i := 21) (N := some 41) (v := ?_) (a' := ?_) #[Y, Y, Y, Y, Y, Y, Y, Y, Y, Y, Y, Y, Y, Y, Y, Y, Y, Y, Y, Y, Y, Y, Z, Z] rfl rfl (by kernel_rfl) (fun _ _ _ h => h) (Or.inl ⟨by rfl, ?_⟩) ?_ ?_; rotate_left
    · intro w'
      go_simp; with_reducible rfl
    rotate_left
    · simp only [Act.put, List.setIfInBounds_toArray, List.set_cons_zero, List.set_cons_succ, i64_w, i32_w]
      rfl
    refine pure_ (i := 22) (N := some 42) (v := ?_) (a' := ?_) #[Y, Y, Y, Y, Y, Y, Y, Y, Y, Y, Y, Y, Y, Y, Y, Y, Y, Y, Y, Y, Y, Y, Y, Z] rfl rfl (by kernel_rfl) (fun _ _ _ h => h) (Or.inl ⟨by rfl, ?_⟩) ?_ ?_; rotate_left
    · intro w'
      go_simp; with_reducible rfl
    rotate_left
    · simp only [Act.put, List.setIfInBounds_toArray, List.set_cons_zero, List.set_cons_succ, i64_w, i32_w]
      rfl
    refine last_ (i := 23) (N := none) #[Y, Y, Y, Y, Y, Y, Y, Y, Y, Y, Y, Y, Y, Y, Y, Y, Y, Y, Y, Y, Y, Y, Y, Y] rfl rfl (by kernel_rfl) (by decide) (fun K hK => ?_); refine skip_ (w1 := ?_) (by rfl) rfl ?_ ?_; rotate_left
    · go_simp
      rfl
    refine hK.out _ _ ?_; clear hK K; refine done_ (by kernel_rfl) ?_; go_upto_region 4 with fail
    refine spec_l00Src_byte.worldR (fun W => W.heap[g]? = some (.cells #[.slice (some ad) s0_0.length c0, .int .i64 (s0_1 + 1), .int .i64 (Int.tmod (s0_2 * 31 + rd s0_0 s0_1 + 7) 2147483648)] 99 (0, 0)) ∧ W.cell? (ad.add s0_1.toNat) = some (.int .u8 (rd s0_0 s0_1)) ∧ Below w0.heap.size w0 W ∧ KeepBut w W g none) ?_ ?_
    · exact ⟨blk_drew (by simpa using blk_set BK.out 2 (.int .i64 (Int.tmod (s0_2 * 31 + rd s0_0 s0_1 + 7) 2147483648))), (cell_far (W := w2) (a := ad.add s0_1.toNat) (p := ⟨g, 2, none⟩) hne _).trans x2, below_drew1 (below_set B2.out HG.out), keep_drew (KB2.out.set_ _ _)⟩
    intro w3 K3; obtain ⟨b3, x3, B3, KB3⟩ := K3; have B3 := Aside0.mk B3; have KB3 := Aside0.mk KB3; clear q0 q1 q2 z2 BK B2 KB2 x2; have q0 := cellS99_0 b3; have q1 := cellS99_1 b3; have BK := Aside0.mk b3; clear b3; go_quiet (fail); go_wp2; go_ret; exact ⟨rfl, ⟨some ad, c0, blk_drewN BK.out _, HG.out, HR.out⟩, pw_below_drewN B3.out _, keep_drewN KB3.out _⟩
  · rw [if_neg c1] at h
    have hd1 : decide (s0_1 + 1 ≤ (s0_0.length : Int)) = false := decide_eq_false (by omega); by_cases c2 : 2999 < s0_1
    · rw [if_pos c2] at h
      simp only [Option.some.injEq, Prod.mk.injEq] at h; obtain ⟨rfl, rfl, rfl⟩ := h; have hd2 : decide (3000 < s0_1 + 1) = true := decide_eq_true (by omega); go_enter Tryz.func147, Tryz.ntmps147; go_upto_region 2 with fail
      refine spec_l00Src_byte.worldR (fun W => W.heap[g]? = some (.cells #[.slice A0 s0_0.length c0, .int .i64 (s0_1 + 1), .int .i64 s0_2] 99 (0, 0)) ∧ Below w0.heap.size w0 W ∧ KeepBut w W g none) ?_ ?_
      · exact ⟨by simpa using blk_set HB0.out 1 (.int .i64 (s0_1 + 1)), below_set HB.out HG.out, (KeepBut.refl w g none).set_ _ _⟩
      intro w1 K1; obtain ⟨b1, B1, KB1⟩ := K1; have B1 := Aside0.mk B1; have KB1 := Aside0.mk KB1; have q0 := cellS99_0 b1; have q1 := cellS99_1 b1; have BK := Aside0.mk b1; clear b1 k1 z1; go_quiet (fail); go_wp2; go_ret; exact ⟨rfl, ⟨A0, c0, blk_drewN BK.out _, HG.out, HR.out⟩, pw_below_drewN B1.out _, keep_drewN KB1.out _⟩
    · rw [if_neg c2] at h
      simp only [Option.some.injEq, Prod.mk.injEq] at h; obtain ⟨rfl, rfl, rfl⟩ := h; have hd2 : decide (3000 < s0_1 + 1) = false := decide_eq_false (by omega); have e2 : IntKind.i64.wrap (s0_2 * 1103515245) = s0_2 * 1103515245 := by rw [IntKind.wrap_i64]; omega
      have e3 : IntKind.i64.wrap (s0_2 * 1103515245 + 12345) = s0_2 * 1103515245 + 12345 := by rw [IntKind.wrap_i64]; omega
      go_enter Tryz.func147, Tryz.ntmps147; go_upto_region 2 with fail
      refine spec_l00Src_byte.worldR (fun W => W.heap[g]? = some (.cells #[.slice A0 s0_0.length c0, .int .i64 (s0_1 + 1), .int .i64 s0_2] 99 (0, 0)) ∧ Below w0.heap.size w0 W ∧ KeepBut w W g none) ?_ ?_
      · exact ⟨by simpa using blk_set HB0.out 1 (.int .i64 (s0_1 + 1)), below_set HB.out HG.out, (KeepBut.refl w g none).set_ _ _⟩
      intro w1 K1; obtain ⟨b1, B1, KB1⟩ := K1; have B1 := Aside0.mk B1; have KB1 := Aside0.mk KB1; have q0 := cellS99_0 b1; have q1 := cellS99_1 b1; have BK := Aside0.mk b1; clear b1 k1 z1; go_quiet (fail); go_upto_region 7 with fail
      refine spec_l00Src_byte.worldR (fun W => W.heap[g]? = some (.cells #[.slice A0 s0_0.length c0, .int .i64 (s0_1 + 1), .int .i64 s0_2] 99 (0, 0)) ∧ Below w0.heap.size w0 W ∧ KeepBut w W g none) ⟨blk_drewN BK.out _, pw_below_drewN B1.out _, keep_drewN KB1.out _⟩ ?_; intro w2 K2; obtain ⟨b2, B2, KB2⟩ := K2; have B2 := Aside0.mk B2; have KB2 := Aside0.mk KB2; clear q0 q1 BK B1 KB1; have q1 := cellS99_1 b2; have q2 := cellS99_2 b2; have z2 := blk_frozen b2 2; have BK := Aside0.mk b2; clear b2; go_upto_region 8 with fail
      refine spec_l00Src_byte.worldR (fun W => W.heap[g]? = some (.cells #[.slice A0 s0_0.length c0, .int .i64 (s0_1 + 1), .int .i64 ((s0_2 * 1103515245 + 12345) % 2147483648)] 99 (0, 0)) ∧ Below w0.heap.size w0 W ∧ KeepBut w W g none) ?_ ?_
      · exact ⟨by simpa using blk_set BK.out 2 (.int .i64 ((s0_2 * 1103515245 + 12345) % 2147483648)), below_set B2.out HG.out, KB2.out.set_ _ _⟩
      intro w3 K3; obtain ⟨b3, B3, KB3⟩ := K3; have B3 := Aside0.mk B3; have KB3 := Aside0.mk KB3; clear q1 q2 z2 BK B2 KB2; have q2 := cellS99_2 b3; have BK := Aside0.mk b3; clear b3; go_wp2; go_ret; exact ⟨rfl, ⟨A0, c0, BK.out, HG.out, HR.out⟩, B3.out, KB3.out⟩

/-! ### spec_l00Src_next: function 121 -/
def spec_l00Src_next.f (s0_0 : List Int) (s0_1 : Int) (s0_2 : Int) (a1 : Int) : Option (Int × Int × Int) := if a1 ≤ 1 then (some (0, s0_1, s0_2)) else (if a1 ≤ 256 then ((spec_l00Src_byte.f s0_0 s0_1 s0_2).bind fun bt102 => (if a1 = 0 then (none) else (some (Int.tmod bt102.1 a1, bt102.2.1, bt102.2.2)))) else ((spec_l00Src_byte.f s0_0 s0_1 s0_2).bind fun bt105 => ((spec_l00Src_byte.f s0_0 bt105.2.1 bt105.2.2).bind fun bt108 => ((spec_l00Src_byte.f s0_0 bt108.2.1 bt108.2.2).bind fun bt111 => (if a1 = 0 then (none) else (some (Int.tmod (wrap64 ((wrap64 ((wrap64 (bt105.1 * 65536)) + (wrap64 (bt108.1 * 256)))) + bt111.1)) a1, bt111.2.1, bt111.2.2)))))))
set_option maxHeartbeats 8000000 in
set_option maxRecDepth 100000 in
theorem spec_l00Src_next.calls (g : Nat) (s0_0 : List Int) (s0_1 : Int) (s0_2 : Int) (a1 : Int) (r1 : Int) (r2 : Int) (r3 : Int) (w0 w : World) (hI : IsS99 w0 w g s0_0 s0_1 s0_2) (hB : Below w0.heap.size w0 w) (h : spec_l00Src_next.f s0_0 s0_1 s0_2 a1 = some (r1, r2, r3)) :
    Calls Tryz.prog 121 #[.pointer (some ⟨g, 0, none⟩), .int .i64 a1] w fun e w' => e = .returned (.int .i64 r1) ∧ IsS99 w0 w' g s0_0 r2 r3 ∧ Below w0.heap.size w0 w' ∧ KeepBut w w' g none := by
 have HI0 := Aside0.mk hI; have HK := Aside0.mk (KeepBut.refl w g none); have HL := Aside0.mk hB.size; clear hI; have HW0 := Aside0.mk hB.size; have HB := Aside0.mk hB; clear hB; have H := h; clear h; unfold spec_l00Src_next.f at H; by_cases c3 : a1 ≤ 1
 · rw [if_pos c3] at H; have r : decide (a1 ≤ 1) = true := decide_eq_true c3; clear c3; simp only [Option.some.injEq, Prod.mk.injEq] at H; obtain ⟨rfl, rfl, rfl⟩ := H; go_enter Tryz.func121, Tryz.ntmps121; go_wp2; go_ret; exact ⟨retE_, isE_, beI_, kpE_⟩
 ·
  rw [if_neg c3] at H; have r : decide (a1 ≤ 1) = false := decide_eq_false c3; clear c3; by_cases c4 : a1 ≤ 256
  ·
   rw [if_pos c4] at H; have s : decide (a1 ≤ 256) = true := decide_eq_true c4; clear c4; replace H := Option.bind_eq_some_iff.mp H; obtain ⟨⟨t, u, v⟩, o, H⟩ := H; dsimp only at H; have A5 := Aside0.mk o; clear o; by_cases c6 : a1 = 0
   · rw [if_pos c6] at H; exact absurd H (by simp)
   · rw [if_neg c6] at H; have F : (a1 == 0) = false := beq_eq_false_iff_ne.mpr c6; have G : (a1 != 0) = true := bne_iff_ne.mpr c6; simp only [Option.some.injEq, Prod.mk.injEq] at H; obtain ⟨rfl, rfl, rfl⟩ := H; go_enter Tryz.func121, Tryz.ntmps121; go_wp2_with (first | ((with_reducible refine gate_callee (f := 147) rfl ?_); refine cU_ (some 13) Tryz.func147 #[.pointer (some ⟨g, 0, none⟩)] ?_; (with_reducible refine (spec_l00Src_byte.calls g s0_0 s0_1 s0_2 t u v w0 _ ?side1 ?side2 A5.out).mono ?_); (case side1 => exact isE_); (case side2 => exact beI_); rintro e w7 ⟨rfl, hi, hb, hk⟩; refine ⟨_, rfl, ?_⟩; have a := Aside0.mk (KeepBut.trans kpE_ hk (.inl rfl)); have b := Aside0.mk (hb); have c := Aside0.mk (hi); clear HK; clear HB; clear HI0; have HK := a; have HB := b; have HI0 := c; clear a b c; (try clear hb); (try clear i); (try clear hk); (try clear hi))); go_ret; exact ⟨retE_, isE_, beI_, kpE_⟩
  ·
   rw [if_neg c4] at H; have s : decide (a1 ≤ 256) = false := decide_eq_false c4; clear c4; replace H := Option.bind_eq_some_iff.mp H; obtain ⟨⟨x, j, k⟩, p, H⟩ := H; dsimp only at H; have A8 := Aside0.mk p; clear p; replace H := Option.bind_eq_some_iff.mp H; obtain ⟨⟨y, l, m⟩, q, H⟩ := H; dsimp only at H; have A9 := Aside0.mk q; clear q; replace H := Option.bind_eq_some_iff.mp H; obtain ⟨⟨z, A, B⟩, n, H⟩ := H; dsimp only at H; have C := Aside0.mk n; clear n; by_cases d : a1 = 0
   · rw [if_pos d] at H; exact absurd H (by simp)
   · rw [if_neg d] at H; have D : (a1 == 0) = false := beq_eq_false_iff_ne.mpr d; have E : (a1 != 0) = true := bne_iff_ne.mpr d; simp only [Option.some.injEq, Prod.mk.injEq] at H; obtain ⟨rfl, rfl, rfl⟩ := H; go_enter Tryz.func121, Tryz.ntmps121; go_wp2_with (first | ((with_reducible refine gate_callee (f := 147) rfl ?_); refine cU_ (some 17) Tryz.func147 #[.pointer (some ⟨g, 0, none⟩)] ?_; (with_reducible refine (spec_l00Src_byte.calls g s0_0 s0_1 s0_2 x j k w0 _ ?side1 ?side2 A8.out).mono ?_); (case side1 => exact isE_); (case side2 => exact beI_); rintro e I ⟨rfl, hi, hb, hk⟩; refine ⟨_, rfl, ?_⟩; have a := Aside0.mk (KeepBut.trans kpE_ hk (.inl rfl)); have b := Aside0.mk (hb); have c := Aside0.mk (hi); clear HK; clear HB; clear HI0; have HK := a; have HB := b; have HI0 := c; clear a b c; (try clear hb); (try clear i); (try clear hk); (try clear hi)) | ((with_reducible refine gate_callee (f := 147) rfl ?_); refine cU_ (some 19) Tryz.func147 #[.pointer (some ⟨g, 0, none⟩)] ?_; (with_reducible refine (spec_l00Src_byte.calls g s0_0 j k y l m w0 _ ?side1 ?side2 A9.out).mono ?_); (case side1 => exact isE_); (case side2 => exact beI_); rintro e J ⟨rfl, hi, hb, hk⟩; refine ⟨_, rfl, ?_⟩; have a := Aside0.mk (KeepBut.trans kpE_ hk (.inl rfl)); have b := Aside0.mk (hb); have c := Aside0.mk (hi); clear HK; clear HB; clear HI0; have HK := a; have HB := b; have HI0 := c; clear a b c; (try clear hb); (try clear i); (try clear hk); (try clear hi)) | ((with_reducible refine gate_callee (f := 147) rfl ?_); refine cU_ (some 21) Tryz.func147 #[.pointer (some ⟨g, 0, none⟩)] ?_; (with_reducible refine (spec_l00Src_byte.calls g s0_0 l m z A B w0 _ ?side1 ?side2 C.out).mono ?_); (case side1 => exact isE_); (case side2 => exact beI_); rintro e K ⟨rfl, hi, hb, hk⟩; refine ⟨_, rfl, ?_⟩; have a := Aside0.mk (KeepBut.trans kpE_ hk (.inl rfl)); have b := Aside0.mk (hb); have c := Aside0.mk (hi); clear HK; clear HB; clear HI0; have HK := a; have HB := b; have HI0 := c; clear a b c; (try clear hb); (try clear i); (try clear hk); (try clear hi))); go_ret; exact ⟨retE_, isE_, beI_, kpE_⟩

/-! ### spec_l00Src_pick: function 106 -/
def spec_l00Src_pick.f (s0_0 : List Int) (s0_1 : Int) (s0_2 : Int) (l1 : List ByteArray) : Option (ByteArray × Int × Int) := if (l1.length : Int) = 0 then (some ((⟨#[]⟩ : ByteArray), s0_1, s0_2)) else ((spec_l00Src_next.f s0_0 s0_1 s0_2 (l1.length : Int)).bind fun bt114 => (if 0 ≤ bt114.1 then (if bt114.1 < (l1.length : Int) then (some (rdOf ByteArray.empty l1 bt114.1, bt114.2.1, bt114.2.2)) else (none)) else (none)))
set_option maxHeartbeats 8000000 in
set_option maxRecDepth 100000 in
theorem spec_l00Src_pick.calls (g : Nat) (s0_0 : List Int) (s0_1 : Int) (s0_2 : Int) (A1 : Option Addr) (c1 : Nat) (l1 : List ByteArray) (r1 : ByteArray) (r2 : Int) (r3 : Int) (w0 w : World) (hI : IsS99 w0 w g s0_0 s0_1 s0_2) (hB : Below w0.heap.size w0 w) (i : Kd.C Kd.string w A1 l1.length l1) (hc1 : l1.length ≤ c1) (hf1 : ∀ ad, A1 = some ad → 0 < l1.length → ad.block ≠ g) (h : spec_l00Src_pick.f s0_0 s0_1 s0_2 l1 = some (r1, r2, r3)) :
    Calls Tryz.prog 106 #[.pointer (some ⟨g, 0, none⟩), .slice A1 l1.length c1] w fun e w' => e = .returned (.string r1) ∧ IsS99 w0 w' g s0_0 r2 r3 ∧ Below w0.heap.size w0 w' ∧ KeepBut w w' g none := by
 have HR1 := Aside0.mk i; have x := Aside0.mk hc1; clear i hc1; have HI0 := Aside0.mk hI; have HK := Aside0.mk (KeepBut.refl w g none); have HL := Aside0.mk hB.size; clear hI; have HW0 := Aside0.mk hB.size; have HB := Aside0.mk hB; clear hB; have H := h; clear h; unfold spec_l00Src_pick.f at H; by_cases c3 : (l1.length : Int) = 0
 · rw [if_pos c3] at H; have o : ((l1.length : Int) == 0) = true := beq_iff_eq.mpr c3; have p : ((l1.length : Int) != 0) = false := bne_eq_false_iff_eq.mpr c3; clear c3; simp only [Option.some.injEq, Prod.mk.injEq] at H; obtain ⟨rfl, rfl, rfl⟩ := H; go_enter Tryz.func106, Tryz.ntmps106; go_wp2; go_ret; exact ⟨retE_, isE_, beI_, kpE_⟩
 ·
  rw [if_neg c3] at H; have o : ((l1.length : Int) == 0) = false := beq_eq_false_iff_ne.mpr c3; have p : ((l1.length : Int) != 0) = true := bne_iff_ne.mpr c3; have t : ¬ (l1 = []) := fun h_ => c3 (by rw [h_]; rfl); replace H := Option.bind_eq_some_iff.mp H; obtain ⟨⟨a, q, r⟩, j, H⟩ := H; dsimp only at H; have A4 := Aside0.mk j; clear j; by_cases c5 : 0 ≤ a
  ·
   rw [if_pos c5] at H; have u : decide (0 ≤ a) = true := decide_eq_true c5; clear c5; by_cases c6 : a < (l1.length : Int)
   · rw [if_pos c6] at H; have v : decide (a < (l1.length : Int)) = true := decide_eq_true c6; clear c6; simp only [Option.some.injEq, Prod.mk.injEq] at H; obtain ⟨rfl, rfl, rfl⟩ := H; go_enter Tryz.func106, Tryz.ntmps106; go_wp2_with (first | ((with_reducible refine gate_callee (f := 121) rfl ?_); refine cU_ (some 12) Tryz.func121 #[.pointer (some ⟨g, 0, none⟩), .int .i64 (l1.length : Int)] ?_; (with_reducible refine (spec_l00Src_next.calls g s0_0 s0_1 s0_2 (l1.length : Int) a q r w0 _ ?side1 ?side2 A4.out).mono ?_); (case side1 => exact isE_); (case side2 => exact beI_); rintro e w7 ⟨rfl, hi, hb, hk⟩; refine ⟨_, rfl, ?_⟩; have k := Aside0.mk (KeepBut.trans kpE_ hk (.inl rfl)); have l := Aside0.mk (hb); have m := Aside0.mk (hi); clear HK; clear HB; clear HI0; have HK := k; have HB := l; have HI0 := m; clear k l m; (try clear hb); (try clear y); (try clear hk); (try clear hi); have b : 0 ≤ (a : Int) := ofd_; have c : a < (l1.length : Int) := ofd_; obtain ⟨n, s, d⟩ := Kd.at_string HR1.out a b c; cases s; replace d := keep_cell HK.out d (by first | (rw [add_block]; exact hf1 _ rfl (by omega)) | exact hf1 _ rfl (by omega) | exact hf1 n rfl (by omega)); replace b := eq_true b; replace c := eq_true c)); go_ret; exact ⟨retE_, isE_, beI_, kpE_⟩
   · rw [if_neg c6] at H; exact absurd H (by simp)
  · rw [if_neg c5] at H; exact absurd H (by simp)

/-! ### spec_l00Src_chance: function 107 -/
def spec_l00Src_chance.f (s0_0 : List Int) (s0_1 : Int) (s0_2 : Int) (a1 : Int) : Option (Bool × Int × Int) := (spec_l00Src_next.f s0_0 s0_1 s0_2 a1).bind fun bt118 => (some ((bt118.1 == (wrap64 (a1 - 1))), bt118.2.1, bt118.2.2))
set_option maxHeartbeats 8000000 in
set_option maxRecDepth 100000 in
theorem spec_l00Src_chance.calls (g : Nat) (s0_0 : List Int) (s0_1 : Int) (s0_2 : Int) (a1 : Int) (r1 : Bool) (r2 : Int) (r3 : Int) (w0 w : World) (hI : IsS99 w0 w g s0_0 s0_1 s0_2) (hB : Below w0.heap.size w0 w) (h : spec_l00Src_chance.f s0_0 s0_1 s0_2 a1 = some (r1, r2, r3)) :
    Calls Tryz.prog 107 #[.pointer (some ⟨g, 0, none⟩), .int .i64 a1] w fun e w' => e = .returned (.bool r1) ∧ IsS99 w0 w' g s0_0 r2 r3 ∧ Below w0.heap.size w0 w' ∧ KeepBut w w' g none := by
 have HI0 := Aside0.mk hI; have HK := Aside0.mk (KeepBut.refl w g none); have HL := Aside0.mk hB.size; clear hI; have HW0 := Aside0.mk hB.size; have HB := Aside0.mk hB; clear hB; have H := h; clear h; unfold spec_l00Src_chance.f at H; replace H := Option.bind_eq_some_iff.mp H; obtain ⟨⟨i, j, k⟩, a, H⟩ := H; dsimp only at H; have A3 := Aside0.mk a; clear a; simp only [Option.some.injEq, Prod.mk.injEq] at H; obtain ⟨rfl, rfl, rfl⟩ := H; go_enter Tryz.func107, Tryz.ntmps107; go_wp2_with (first | ((with_reducible refine gate_callee (f := 121) rfl ?_); refine cU_ (some 7) Tryz.func121 #[.pointer (some ⟨g, 0, none⟩), .int .i64 a1] ?_; (with_reducible refine (spec_l00Src_next.calls g s0_0 s0_1 s0_2 a1 i j k w0 _ ?side1 ?side2 A3.out).mono ?_); (case side1 => exact isE_); (case side2 => exact beI_); rintro e w4 ⟨rfl, hi, hb, hk⟩; refine ⟨_, rfl, ?_⟩; have b := Aside0.mk (KeepBut.trans kpE_ hk (.inl rfl)); have c := Aside0.mk (hb); have d := Aside0.mk (hi); clear HK; clear HB; clear HI0; have HK := b; have HB := c; have HI0 := d; clear b c d; (try clear hb); (try clear l); (try clear hk); (try clear hi))); go_ret; exact ⟨retE_, isE_, beI_, kpE_⟩

/-! ### spec_l00Src_host: function 108 -/
def spec_l00Src_host.f (s0_0 : List Int) (s0_1 : Int) (s0_2 : Int) : Option (ByteArray × Int × Int) := (spec_l00Src_pick.f s0_0 s0_1 s0_2 (([(⟨#[97, 46, 101, 120, 97, 109, 112, 108, 101]⟩ : ByteArray), (⟨#[98, 46, 101, 120, 97, 109, 112, 108, 101]⟩ : ByteArray), (⟨#[114, 46, 116, 101, 115, 116]⟩ : ByteArray), (⟨#[120]⟩ : ByteArray)] : List ByteArray))).bind fun bt124 => (some (bt124.1, bt124.2.1, bt124.2.2))
set_option maxHeartbeats 8000000 in
set_option maxRecDepth 100000 in
theorem spec_l00Src_host.calls (g : Nat) (s0_0 : List Int) (s0_1 : Int) (s0_2 : Int) (r1 : ByteArray) (r2 : Int) (r3 : Int) (w0 w : World) (hI : IsS99 w0 w g s0_0 s0_1 s0_2) (hB : Below w0.heap.size w0 w) (h : spec_l00Src_host.f s0_0 s0_1 s0_2 = some (r1, r2, r3)) :
    Calls Tryz.prog 108 #[.pointer (some ⟨g, 0, none⟩)] w fun e w' => e = .returned (.string r1) ∧ IsS99 w0 w' g s0_0 r2 r3 ∧ Below w0.heap.size w0 w' ∧ KeepBut w w' g none := by
 have HI0 := Aside0.mk hI; have HK := Aside0.mk (KeepBut.refl w g none); have HL := Aside0.mk hB.size; clear hI; have HW0 := Aside0.mk hB.size; have HB := Aside0.mk hB; clear hB; have H := h; clear h; unfold spec_l00Src_host.f at H; obtain ⟨l, hy121⟩ : ∃ y_ : List ByteArray, y_ = (([(⟨#[97, 46, 101, 120, 97, 109, 112, 108, 101]⟩ : ByteArray), (⟨#[98, 46, 101, 120, 97, 109, 112, 108, 101]⟩ : ByteArray), (⟨#[114, 46, 116, 101, 115, 116]⟩ : ByteArray), (⟨#[120]⟩ : ByteArray)] : List ByteArray)) := ⟨_, rfl⟩
 replace H : ((spec_l00Src_pick.f s0_0 s0_1 s0_2 l).bind fun k => (some (k.1, k.2.1, k.2.2))) = some (r1, r2, r3) := by first | (rw [hy121]; with_reducible exact H) | (have H2_ := (Option.bind_some _ _).symm.trans H; rw [hy121]; with_reducible exact H2_) | (have H2_ := (Option.bind_some _ _).symm.trans H; with_reducible exact H2_) | with_reducible exact H | (rw [hy121]; exact H) | exact H
 have Ny121 := Aside0.mk hy121; clear hy121; replace H := Option.bind_eq_some_iff.mp H; obtain ⟨⟨n, o, p⟩, m, H⟩ := H; dsimp only at H; have A2 := Aside0.mk m; clear m; simp only [Option.some.injEq, Prod.mk.injEq] at H; obtain ⟨rfl, rfl, rfl⟩ := H; go_enter Tryz.func108, Tryz.ntmps108; go_wp2_with (first | ((with_reducible refine gate_dst (N := 4) rfl ?_); refine Kd.R_lit Kd.string _ 9 ?hg (N := 4) ?hd (xs := ([(⟨#[97, 46, 101, 120, 97, 109, 112, 108, 101]⟩ : ByteArray), (⟨#[98, 46, 101, 120, 97, 109, 112, 108, 101]⟩ : ByteArray), (⟨#[114, 46, 116, 101, 115, 116]⟩ : ByteArray), (⟨#[120]⟩ : ByteArray)] : List ByteArray)) (inner := [.string (⟨#[97, 46, 101, 120, 97, 109, 112, 108, 101]⟩ : ByteArray), .string (⟨#[98, 46, 101, 120, 97, 109, 112, 108, 101]⟩ : ByteArray), .string (⟨#[114, 46, 116, 101, 115, 116]⟩ : ByteArray), .string (⟨#[120]⟩ : ByteArray)]) (ok := fun _ => True) (okp := fun _ => True) ?hr ?hp (fun _ hk => hk) trivial (Below.refl _ _) (Nat.le_refl _) (by simp) ?_; (case hd => rfl); (case hg => rfl); (case hr => first | (go_simp; done) | (go_simp; rfl)); (case hp => exact (Reps.one (show Kd.M Kd.string _ _ _ (⟨#[97, 46, 101, 120, 97, 109, 112, 108, 101]⟩ : ByteArray) [.string (⟨#[97, 46, 101, 120, 97, 109, 112, 108, 101]⟩ : ByteArray)] from rfl) (Reps.one (show Kd.M Kd.string _ _ _ (⟨#[98, 46, 101, 120, 97, 109, 112, 108, 101]⟩ : ByteArray) [.string (⟨#[98, 46, 101, 120, 97, 109, 112, 108, 101]⟩ : ByteArray)] from rfl) (Reps.one (show Kd.M Kd.string _ _ _ (⟨#[114, 46, 116, 101, 115, 116]⟩ : ByteArray) [.string (⟨#[114, 46, 116, 101, 115, 116]⟩ : ByteArray)] from rfl) (Reps.one (show Kd.M Kd.string _ _ _ (⟨#[120]⟩ : ByteArray) [.string (⟨#[120]⟩ : ByteArray)] from rfl) (Reps.none _ _)))))); intro q w3 b hb hg_ hnew_; clear hg_ hnew_; (first | rw [← Ny121.out] at b | (simp only [Int.reduceToNat] at b; rw [← Ny121.out] at b)); have c := Aside0.mk (Kd.R_lower b (keep_size (w := w) (g := g) (row := none) kpE_)); have d := Aside0.mk (IsS99.below isE_ hb); have i := Aside0.mk (KeepBut.trans kpE_ (KeepBut.of_below hb g none) (.inl rfl)); have j := Aside0.mk (below_step beI_ hb); clear HI0; clear HK; clear HB; have a := c; have HI0 := d; have HK := i; have HB := j; clear c d i j; clear hb b; obtain ⟨Ao5, co5, eo5⟩ := Kd.R_slice a.out; subst eo5) | ((with_reducible refine gate_callee (f := 106) rfl ?_); refine cU_ (some 5) Tryz.func106 #[.pointer (some ⟨g, 0, none⟩), .slice Ao5 l.length co5] ?_; (with_reducible refine (spec_l00Src_pick.calls g s0_0 s0_1 s0_2 _ _ l n o p w0 _ ?side1 ?side2 ?side3 ?side4 ?side5 A2.out).mono ?_); (case side1 => exact isE_); (case side2 => exact beI_); (case side3 => repeat (first | exact (Kd.R_reads' a.out).2.2 | (with_reducible refine Kd.C_alloc ?_ _) | (with_reducible refine Kd.C_drewN ?_ _) | (with_reducible refine Kd.C_drew ?_))); (case side4 => exact (Kd.R_reads' a.out).2.1); (case side5 => exact far_slice (IsS99.own_ne HI0.out a.out (by decide))); rintro e w6 ⟨rfl, hi, hb, hk⟩; refine ⟨_, rfl, ?_⟩; have c := Aside0.mk (Kd.R_mono (Kd.R_keep (IsS99.apart (show IsS99 w0 _ g s0_0 s0_1 s0_2 from isE_) (rE_ a.out) (by decide)) hk (fun _ h => h.2)) (fun _ h => h.1)); have d := Aside0.mk (KeepBut.trans kpE_ hk (.inl rfl)); have i := Aside0.mk (hb); have j := Aside0.mk (hi); clear a; clear HK; clear HB; clear HI0; have a := c; have HK := d; have HB := i; have HI0 := j; clear c d i j; (try clear hb); (try clear r); (try clear hk); (try clear hi))); go_ret; exact ⟨retE_, isE_, beI_, kpE_⟩
end Go.Proofs.YthifpohbdbhnlaaGreatDoor.QFnUrls
