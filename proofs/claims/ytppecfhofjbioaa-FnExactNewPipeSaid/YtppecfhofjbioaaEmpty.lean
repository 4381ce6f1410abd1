/- The functions that NewPipe's law runs, walked at empty slices, and the law itself. -/
import Derived.Test.YtppecfhofjbioaaProg
import Derived.WalkKit
import Derived.LoopTactic
import Derived.Below
import Derived.KernelRfl
import Derived.Lib.Hide
import Derived.RowKit
set_option linter.unusedVariables false
set_option linter.unusedSimpArgs false
namespace Go.Proofs.Ytppecfhofjbioaa.Empty
open Go.RowKit
set_option maxHeartbeats 400000 in
theorem eqChannelS (A0 A1 : Option Addr) (c0 c1 : Nat) (w : World) : Calls Try.prog 10 #[.slice A0 0 c0, .slice A1 0 c1] w fun e w' => e = .returned (.bool true) ∧ w = w' := by
  go_enter Try.func10, Try.ntmps10
  go_wp2
  go_loop [5] (fun i => i = .int .i64 0) (fun _ => 0)
  case atStart => rfl
  case round =>
    obtain rfl := hrel
    go_wp2
    go_ret
    exact ⟨rfl, rfl⟩
set_option maxHeartbeats 400000 in
theorem eqStringS (A0 A1 : Option Addr) (c0 c1 : Nat) (w : World) : Calls Try.prog 24 #[.slice A0 0 c0, .slice A1 0 c1] w fun e w' => e = .returned (.bool true) ∧ w = w' := by
  go_enter Try.func24, Try.ntmps24
  go_wp2
  go_loop [5] (fun i => i = .int .i64 0) (fun _ => 0)
  case atStart => rfl
  case round =>
    obtain rfl := hrel
    go_wp2
    go_ret
    exact ⟨rfl, rfl⟩
set_option maxHeartbeats 400000 in
theorem eqRuleS (A0 A1 : Option Addr) (c0 c1 : Nat) (w : World) : Calls Try.prog 25 #[.slice A0 0 c0, .slice A1 0 c1] w fun e w' => e = .returned (.bool true) ∧ w = w' := by
  go_enter Try.func25, Try.ntmps25
  go_wp2
  go_loop [5] (fun i => i = .int .i64 0) (fun _ => 0)
  case atStart => rfl
  case round =>
    obtain rfl := hrel
    go_wp2
    go_ret
    exact ⟨rfl, rfl⟩
set_option maxHeartbeats 400000 in
theorem eqEntryS (A0 A1 : Option Addr) (c0 c1 : Nat) (w : World) : Calls Try.prog 12 #[.slice A0 0 c0, .slice A1 0 c1] w fun e w' => e = .returned (.bool true) ∧ w = w' := by
  go_enter Try.func12, Try.ntmps12
  go_wp2
  go_loop [5] (fun i => i = .int .i64 0) (fun _ => 0)
  case atStart => rfl
  case round =>
    obtain rfl := hrel
    go_wp2
    go_ret
    exact ⟨rfl, rfl⟩
set_option maxHeartbeats 400000 in
theorem eqWireS (A0 A1 : Option Addr) (c0 c1 : Nat) (w : World) : Calls Try.prog 13 #[.slice A0 0 c0, .slice A1 0 c1] w fun e w' => e = .returned (.bool true) ∧ w = w' := by
  go_enter Try.func13, Try.ntmps13
  go_wp2
  go_loop [5] (fun i => i = .int .i64 0) (fun _ => 0)
  case atStart => rfl
  case round =>
    obtain rfl := hrel
    go_wp2
    go_ret
    exact ⟨rfl, rfl⟩
set_option maxHeartbeats 400000 in
theorem markChannelS (A0 : Option Addr) (c0 : Nat) (m : Int) (w : World) : Calls Try.prog 14 #[.slice A0 0 c0, .int .i64 m] w fun e w' => e = .returned (.int .i64 m) ∧ w = w' := by
  go_enter Try.func14, Try.ntmps14
  go_wp2
  go_loop [1, 5] (fun v i => v = .int .i64 m ∧ i = .int .i64 0) (fun _ _ => 0)
  case atStart => exact ⟨rfl, rfl⟩
  case round =>
    obtain ⟨rfl, rfl⟩ := hrel
    go_wp2
    go_ret
    exact ⟨rfl, rfl⟩
set_option maxHeartbeats 400000 in
theorem markStringS (A0 : Option Addr) (c0 : Nat) (m : Int) (w : World) : Calls Try.prog 32 #[.slice A0 0 c0, .int .i64 m] w fun e w' => e = .returned (.int .i64 m) ∧ w = w' := by
  go_enter Try.func32, Try.ntmps32
  go_wp2
  go_loop [1, 5] (fun v i => v = .int .i64 m ∧ i = .int .i64 0) (fun _ _ => 0)
  case atStart => exact ⟨rfl, rfl⟩
  case round =>
    obtain ⟨rfl, rfl⟩ := hrel
    go_wp2
    go_ret
    exact ⟨rfl, rfl⟩
set_option maxHeartbeats 400000 in
theorem markRuleS (A0 : Option Addr) (c0 : Nat) (m : Int) (w : World) : Calls Try.prog 33 #[.slice A0 0 c0, .int .i64 m] w fun e w' => e = .returned (.int .i64 m) ∧ w = w' := by
  go_enter Try.func33, Try.ntmps33
  go_wp2
  go_loop [1, 5] (fun v i => v = .int .i64 m ∧ i = .int .i64 0) (fun _ _ => 0)
  case atStart => exact ⟨rfl, rfl⟩
  case round =>
    obtain ⟨rfl, rfl⟩ := hrel
    go_wp2
    go_ret
    exact ⟨rfl, rfl⟩
set_option maxHeartbeats 400000 in
theorem markEntryS (A0 : Option Addr) (c0 : Nat) (m : Int) (w : World) : Calls Try.prog 16 #[.slice A0 0 c0, .int .i64 m] w fun e w' => e = .returned (.int .i64 m) ∧ w = w' := by
  go_enter Try.func16, Try.ntmps16
  go_wp2
  go_loop [1, 5] (fun v i => v = .int .i64 m ∧ i = .int .i64 0) (fun _ _ => 0)
  case atStart => exact ⟨rfl, rfl⟩
  case round =>
    obtain ⟨rfl, rfl⟩ := hrel
    go_wp2
    go_ret
    exact ⟨rfl, rfl⟩
set_option maxHeartbeats 400000 in
theorem markWireS (A0 : Option Addr) (c0 : Nat) (m : Int) (w : World) : Calls Try.prog 17 #[.slice A0 0 c0, .int .i64 m] w fun e w' => e = .returned (.int .i64 m) ∧ w = w' := by
  go_enter Try.func17, Try.ntmps17
  go_wp2
  go_loop [1, 5] (fun v i => v = .int .i64 m ∧ i = .int .i64 0) (fun _ _ => 0)
  case atStart => exact ⟨rfl, rfl⟩
  case round =>
    obtain ⟨rfl, rfl⟩ := hrel
    go_wp2
    go_ret
    exact ⟨rfl, rfl⟩
set_option maxHeartbeats 400000 in
theorem heldChannelS (A0 : Option Addr) (c0 : Nat) (m : Int) (w : World) : Calls Try.prog 18 #[.slice A0 0 c0, .int .i64 m] w fun e w' => e = .returned (.int .i64 m) ∧ w = w' := by
  go_enter Try.func18, Try.ntmps18
  go_wp2
  go_loop [1, 5] (fun v i => v = .int .i64 m ∧ i = .int .i64 0) (fun _ _ => 0)
  case atStart => exact ⟨rfl, rfl⟩
  case round =>
    obtain ⟨rfl, rfl⟩ := hrel
    go_wp2
    go_ret
    exact ⟨rfl, rfl⟩
set_option maxHeartbeats 400000 in
theorem heldStringS (A0 : Option Addr) (c0 : Nat) (m : Int) (w : World) : Calls Try.prog 38 #[.slice A0 0 c0, .int .i64 m] w fun e w' => e = .returned (.int .i64 m) ∧ w = w' := by
  go_enter Try.func38, Try.ntmps38
  go_wp2
  go_loop [1, 5] (fun v i => v = .int .i64 m ∧ i = .int .i64 0) (fun _ _ => 0)
  case atStart => exact ⟨rfl, rfl⟩
  case round =>
    obtain ⟨rfl, rfl⟩ := hrel
    go_wp2
    go_ret
    exact ⟨rfl, rfl⟩
set_option maxHeartbeats 400000 in
theorem heldRuleS (A0 : Option Addr) (c0 : Nat) (m : Int) (w : World) : Calls Try.prog 39 #[.slice A0 0 c0, .int .i64 m] w fun e w' => e = .returned (.int .i64 m) ∧ w = w' := by
  go_enter Try.func39, Try.ntmps39
  go_wp2
  go_loop [1, 5] (fun v i => v = .int .i64 m ∧ i = .int .i64 0) (fun _ _ => 0)
  case atStart => exact ⟨rfl, rfl⟩
  case round =>
    obtain ⟨rfl, rfl⟩ := hrel
    go_wp2
    go_ret
    exact ⟨rfl, rfl⟩
set_option maxHeartbeats 400000 in
theorem heldEntryS (A0 : Option Addr) (c0 : Nat) (m : Int) (w : World) : Calls Try.prog 20 #[.slice A0 0 c0, .int .i64 m] w fun e w' => e = .returned (.int .i64 m) ∧ w = w' := by
  go_enter Try.func20, Try.ntmps20
  go_wp2
  go_loop [1, 5] (fun v i => v = .int .i64 m ∧ i = .int .i64 0) (fun _ _ => 0)
  case atStart => exact ⟨rfl, rfl⟩
  case round =>
    obtain ⟨rfl, rfl⟩ := hrel
    go_wp2
    go_ret
    exact ⟨rfl, rfl⟩
set_option maxHeartbeats 400000 in
theorem heldWireS (A0 : Option Addr) (c0 : Nat) (m : Int) (w : World) : Calls Try.prog 21 #[.slice A0 0 c0, .int .i64 m] w fun e w' => e = .returned (.int .i64 m) ∧ w = w' := by
  go_enter Try.func21, Try.ntmps21
  go_wp2
  go_loop [1, 5] (fun v i => v = .int .i64 m ∧ i = .int .i64 0) (fun _ _ => 0)
  case atStart => exact ⟨rfl, rfl⟩
  case round =>
    obtain ⟨rfl, rfl⟩ := hrel
    go_wp2
    go_ret
    exact ⟨rfl, rfl⟩
set_option maxHeartbeats 1000000 in
theorem eqPolicy (s : ByteArray) (A1 A2 B1 B2 : Option Addr) (c1 c2 d1 d2 : Nat) (w : World) : Calls Try.prog 11 #[.agg #[.string s, .slice A1 0 c1, .slice A2 0 c2], .agg #[.string s, .slice B1 0 d1, .slice B2 0 d2]] w fun e w' => e = .returned (.bool true) ∧ Below w.heap.size w w' := by
  have hu := Try.underlying26
  go_enter Try.func11, Try.ntmps11
  go_wp2_with (first | (go_at_call 24; refine (eqStringS _ _ _ _ _).mono ?_; rintro e w' ⟨rfl, rfl⟩) | (go_at_call 25; refine (eqRuleS _ _ _ _ _).mono ?_; rintro e w' ⟨rfl, rfl⟩))
  go_ret
  exact ⟨rfl, ((Below.refl _ _).alloc (Nat.le_refl _) _).alloc (by simp) _⟩
set_option maxHeartbeats 1000000 in
theorem markPolicy (s : ByteArray) (A1 A2 : Option Addr) (c1 c2 : Nat) (m : Int) (hm : (m < 0) = False) (hm2 : decide (m < 0) = false) (w : World) : Calls Try.prog 15 #[.agg #[.string s, .slice A1 0 c1, .slice A2 0 c2], .int .i64 m] w fun e w' => e = .returned (.int .i64 m) ∧ Below w.heap.size w w' := by
  have hu := Try.underlying26
  go_enter Try.func15, Try.ntmps15
  go_wp2_with (first | (go_at_call 32; refine (markStringS _ _ _ _).mono ?_; rintro e w' ⟨rfl, rfl⟩) | (go_at_call 33; refine (markRuleS _ _ _ _).mono ?_; rintro e w' ⟨rfl, rfl⟩))
  go_ret
  exact ⟨rfl, (Below.refl _ _).alloc (Nat.le_refl _) _⟩
set_option maxHeartbeats 1000000 in
theorem heldPolicy (s : ByteArray) (A1 A2 : Option Addr) (c1 c2 : Nat) (m : Int) (hm : (m < 0) = False) (hm2 : decide (m < 0) = false) (w : World) : Calls Try.prog 19 #[.agg #[.string s, .slice A1 0 c1, .slice A2 0 c2], .int .i64 m] w fun e w' => e = .returned (.int .i64 m) ∧ Below w.heap.size w w' := by
  have hu := Try.underlying26
  go_enter Try.func19, Try.ntmps19
  go_wp2_with (first | (go_at_call 38; refine (heldStringS _ _ _ _).mono ?_; rintro e w' ⟨rfl, rfl⟩) | (go_at_call 39; refine (heldRuleS _ _ _ _).mono ?_; rintro e w' ⟨rfl, rfl⟩))
  go_ret
  exact ⟨rfl, (Below.refl _ _).alloc (Nat.le_refl _) _⟩
theorem bcell {W w1 : World} (hb : Below W.heap.size W w1) : (∀ b o, b < W.heap.size → w1.cell? ⟨b, o, none⟩ = W.cell? ⟨b, o, none⟩) ∧ (∀ b o, b < W.heap.size → w1.frozen? ⟨b, o, none⟩ = W.frozen? ⟨b, o, none⟩) :=
  ⟨fun b o h => hb.cell (p := ⟨b, o, none⟩) h, fun b o h => hb.frozen (p := ⟨b, o, none⟩) h⟩
set_option maxHeartbeats 1000000 in
theorem eqPipe (s : ByteArray) (A0 A1 A2 A3 A4 : Option Addr) (Ac0 Ac1 Ac2 Ac3 Ac4 : Nat) (B0 B1 B2 B3 B4 : Option Addr) (Bc0 Bc1 Bc2 Bc3 Bc4 : Nat) (w : World) : Calls Try.prog 6 #[.agg #[.slice A0 0 Ac0, .string s, .slice A1 0 Ac1, .slice A2 0 Ac2, .int .i64 0, .int .i64 1, .slice A3 0 Ac3, .slice A4 0 Ac4], .agg #[.slice B0 0 Bc0, .string s, .slice B1 0 Bc1, .slice B2 0 Bc2, .int .i64 0, .int .i64 1, .slice B3 0 Bc3, .slice B4 0 Bc4]] w fun e w' => e = .returned (.bool true) ∧ Below w.heap.size w w' := by
  have hu := Try.underlying30
  have hu2 := Try.underlying26
  go_enter Try.func6, Try.ntmps6
  go_wp2_with (first | (go_at_call 10; refine (eqChannelS _ _ _ _ _).mono ?_; rintro e w' ⟨rfl, rfl⟩) | (go_at_call 11; refine (eqPolicy _ _ _ _ _ _ _ _ _ _).mono ?_; rintro e w1 ⟨rfl, hb⟩; obtain ⟨hc, hf⟩ := bcell hb; have HB := Lib.hid hb; clear hb) | (go_at_call 12; refine (eqEntryS _ _ _ _ _).mono ?_; rintro e w' ⟨rfl, rfl⟩) | (go_at_call 13; refine (eqWireS _ _ _ _ _).mono ?_; rintro e w' ⟨rfl, rfl⟩))
  go_ret
  exact ⟨rfl, (((Below.refl _ _).alloc (Nat.le_refl _) _).alloc (by simp) _).trans (HB.out.mono (by simp; omega))⟩
set_option maxHeartbeats 1000000 in
theorem markPipe (s : ByteArray) (A0 A1 A2 A3 A4 : Option Addr) (Ac0 Ac1 Ac2 Ac3 Ac4 : Nat) (w : World) : Calls Try.prog 7 #[.agg #[.slice A0 0 Ac0, .string s, .slice A1 0 Ac1, .slice A2 0 Ac2, .int .i64 0, .int .i64 1, .slice A3 0 Ac3, .slice A4 0 Ac4], .int .i64 1] w fun e w' => e = .returned (.int .i64 1) ∧ Below w.heap.size w w' := by
  have hu := Try.underlying30
  have hu2 := Try.underlying26
  go_enter Try.func7, Try.ntmps7
  go_wp2_with (first | (go_at_call 14; refine (markChannelS _ _ _ _).mono ?_; rintro e w' ⟨rfl, rfl⟩) | (go_at_call 15; refine (markPolicy _ _ _ _ _ _ (by simp) (by simp) _).mono ?_; rintro e w1 ⟨rfl, hb⟩; obtain ⟨hc, hf⟩ := bcell hb; have HB := Lib.hid hb; clear hb) | (go_at_call 16; refine (markEntryS _ _ _ _).mono ?_; rintro e w' ⟨rfl, rfl⟩) | (go_at_call 17; refine (markWireS _ _ _ _).mono ?_; rintro e w' ⟨rfl, rfl⟩))
  go_ret
  exact ⟨rfl, ((Below.refl _ _).alloc (Nat.le_refl _) _).trans (HB.out.mono (by first | (simp; done) | (simp; omega)))⟩
set_option maxHeartbeats 1000000 in
theorem heldPipe (s : ByteArray) (A0 A1 A2 A3 A4 : Option Addr) (Ac0 Ac1 Ac2 Ac3 Ac4 : Nat) (w : World) : Calls Try.prog 8 #[.agg #[.slice A0 0 Ac0, .string s, .slice A1 0 Ac1, .slice A2 0 Ac2, .int .i64 0, .int .i64 1, .slice A3 0 Ac3, .slice A4 0 Ac4], .int .i64 1] w fun e w' => e = .returned (.int .i64 1) ∧ Below w.heap.size w w' := by
  have hu := Try.underlying30
  have hu2 := Try.underlying26
  go_enter Try.func8, Try.ntmps8
  go_wp2_with (first | (go_at_call 18; refine (heldChannelS _ _ _ _).mono ?_; rintro e w' ⟨rfl, rfl⟩) | (go_at_call 19; refine (heldPolicy _ _ _ _ _ _ (by simp) (by simp) _).mono ?_; rintro e w1 ⟨rfl, hb⟩; obtain ⟨hc, hf⟩ := bcell hb; have HB := Lib.hid hb; clear hb) | (go_at_call 20; refine (heldEntryS _ _ _ _).mono ?_; rintro e w' ⟨rfl, rfl⟩) | (go_at_call 21; refine (heldWireS _ _ _ _).mono ?_; rintro e w' ⟨rfl, rfl⟩))
  go_ret
  exact ⟨rfl, ((Below.refl _ _).alloc (Nat.le_refl _) _).trans (HB.out.mono (by first | (simp; done) | (simp; omega)))⟩
set_option maxHeartbeats 400000 in
theorem l04At (A0 : Option Addr) (c0 : Nat) (s : ByteArray) (w : World) : Calls Try.prog 41 #[.slice A0 0 c0, .string s] w fun e w' => e = .returned (.int .i64 (-1)) ∧ w = w' := by
  go_enter Try.func41, Try.ntmps41
  go_wp2
  go_loop [5] (fun i => i = .int .i64 0) (fun _ => 0)
  case atStart => rfl
  case round =>
    obtain rfl := hrel
    go_wp2
    go_ret
    exact ⟨rfl, rfl⟩
theorem bstep {w W w2 : World} (h : Below w.heap.size w W) (k : Below W.heap.size W w2) : Below w.heap.size w w2 := h.trans (k.mono h.size)
theorem balloc {w W : World} {o : Obj} (h : Below w.heap.size w W) : Below w.heap.size w (W.alloc o) := h.alloc h.size o
/-- A policy of no rules, in memory of the call's own. -/
def PolOut (A0 : Option Addr) (c0 : Nat) (w : World) (e : Ending) (w' : World) : Prop := ∃ (B : Option Addr) (b : Nat), e = .returned (.agg #[.string ⟨#[]⟩, .slice B 0 b, .slice A0 0 c0]) ∧ Below w.heap.size w w'
/-- A pipeline of nothing. -/
def PipeOut (w : World) (e : Ending) (w' : World) : Prop := ∃ (A0 A1 A2 A3 A4 : Option Addr) (c0 c1 c2 c3 c4 : Nat), e = .returned (.agg #[.slice A0 0 c0, .string ⟨#[]⟩, .slice A1 0 c1, .slice A2 0 c2, .int .i64 0, .int .i64 1, .slice A3 0 c3, .slice A4 0 c4]) ∧ Below w.heap.size w w'
set_option maxHeartbeats 1000000 in
theorem l04Make (A0 : Option Addr) (c0 : Nat) (w : World) : Calls Try.prog 22 #[.slice A0 0 c0] w (PolOut A0 c0 w) := by
  have hu2 := Try.underlying26
  go_enter Try.func22, Try.ntmps22
  go_wp2_with (first | (go_at_call 41; refine (l04At _ _ _ _).mono ?_; rintro e w' ⟨rfl, rfl⟩))
  refine bodyPost_ret (v := .agg #[.string ⟨#[]⟩, .slice (some ⟨w.heap.size + 1, 0, none⟩) 0 0, .slice A0 0 c0]) (by simp [results, Try.results22, go_sem]) rfl ⟨_, _, rfl, (((Below.refl _ _).alloc (Nat.le_refl _) _).alloc (by simp) _).alloc (by simp; omega) _⟩
set_option maxHeartbeats 1000000 in
theorem implNew (w : World) : Calls Try.prog 5 #[] w (PipeOut w) := by
  have hu2 := Try.underlying30
  go_enter Try.func5, Try.ntmps5
  go_wp2
  refine bodyPost_ret (v := .agg #[.slice none 0 0, .string ⟨#[]⟩, .slice none 0 0, .slice none 0 0, .int .i64 0, .int .i64 1, .slice none 0 0, .slice none 0 0]) (by simp [results, Try.results5, go_sem]) rfl ⟨_, _, _, _, _, _, _, _, _, _, rfl, (Below.refl _ _).alloc (Nat.le_refl _) _⟩
set_option maxHeartbeats 1000000 in
set_option maxRecDepth 100000 in
theorem l08New (w : World) : Calls Try.prog 9 #[] w (PipeOut w) := by
  have hu2 := Try.underlying30
  have hu3 := Try.underlying26
  go_enter Try.func9, Try.ntmps9
  go_wp2_with (first | (go_at_call 22; refine (l04Make _ _ _).mono ?_; rintro e w1 ⟨B, b, rfl, hb⟩; have hc := fun o : Nat => hb.cell (p := ⟨w.heap.size, o, none⟩) (by simp; omega); have hf := fun o : Nat => hb.frozen (p := ⟨w.heap.size, o, none⟩) (by simp; omega); have e0 : w1.cell? ⟨w.heap.size, 0, none⟩ = some (.slice none 0 0) := (hc 0).trans (by go_simp); have g0 : w1.frozen? ⟨w.heap.size, 0, none⟩ = false := (hf 0).trans (by go_simp); have e1 : w1.cell? ⟨w.heap.size, 1, none⟩ = some (.string ⟨#[]⟩) := (hc 1).trans (by go_simp); have g1 : w1.frozen? ⟨w.heap.size, 1, none⟩ = false := (hf 1).trans (by go_simp); have e2 : w1.cell? ⟨w.heap.size, 2, none⟩ = some (.slice none 0 0) := (hc 2).trans (by go_simp); have g2 : w1.frozen? ⟨w.heap.size, 2, none⟩ = false := (hf 2).trans (by go_simp); have e3 : w1.cell? ⟨w.heap.size, 3, none⟩ = some (.slice none 0 0) := (hc 3).trans (by go_simp); have g3 : w1.frozen? ⟨w.heap.size, 3, none⟩ = false := (hf 3).trans (by go_simp); have e4 : w1.cell? ⟨w.heap.size, 4, none⟩ = some (.int .i64 0) := (hc 4).trans (by go_simp); have g4 : w1.frozen? ⟨w.heap.size, 4, none⟩ = false := (hf 4).trans (by go_simp); have e5 : w1.cell? ⟨w.heap.size, 5, none⟩ = some (.int .i64 0) := (hc 5).trans (by go_simp); have g5 : w1.frozen? ⟨w.heap.size, 5, none⟩ = false := (hf 5).trans (by go_simp); have e6 : w1.cell? ⟨w.heap.size, 6, none⟩ = some (.slice none 0 0) := (hc 6).trans (by go_simp); have g6 : w1.frozen? ⟨w.heap.size, 6, none⟩ = false := (hf 6).trans (by go_simp); have e7 : w1.cell? ⟨w.heap.size, 7, none⟩ = some (.slice none 0 0) := (hc 7).trans (by go_simp); have g7 : w1.frozen? ⟨w.heap.size, 7, none⟩ = false := (hf 7).trans (by go_simp); clear hc hf; have hz : w.heap.size < w1.heap.size := (by have := hb.size; simp at this; omega); have hz1 : w.heap.size < w1.heap.size + 1 := (by omega); have HB := Lib.hid hb; clear hb))
  refine bodyPost_ret (v := .agg #[.slice (some ⟨w.heap.size + 1, 0, none⟩) 0 0, .string ⟨#[]⟩, .slice B 0 b, .slice (some ⟨w.heap.size + 1 + 1, 0, none⟩) 0 0, .int .i64 0, .int .i64 1, .slice (some ⟨w1.heap.size, 0, none⟩) 0 0, .slice (some ⟨w1.heap.size + 1, 0, none⟩) 0 0]) (by simp only [results, Try.results9]; go_simp) rfl ⟨_, _, _, _, _, _, _, _, _, _, rfl, ?_⟩
  have h0 := ((((Below.refl w.heap.size w).alloc (Nat.le_refl _) (Obj.cells #[Value.slice none 0 0, Value.string { data := #[] }, Value.slice none 0 0, Value.slice none 0 0, Value.int IntKind.i64 0, Value.int IntKind.i64 0, Value.slice none 0 0, Value.slice none 0 0] 30)).alloc (by simp) (Obj.cells #[] 53)).alloc (by simp; omega) (Obj.cells #[] 72)).trans (HB.out.mono (by simp; omega))
  exact (((((((((h0.setCell (Nat.le_refl _) _).setCell (Nat.le_refl _) _).setCell (Nat.le_refl _) _).setCell (Nat.le_refl _) _).setCell (Nat.le_refl _) _).setCell (Nat.le_refl _) _).setCell (Nat.le_refl _) _).setCell (Nat.le_refl _) _).alloc (by simp; omega) _).alloc (by simp; omega) _
set_option maxHeartbeats 1000000 in
theorem specNew (w : World) : Calls Try.prog 4 #[] w (PipeOut w) := by
  have hu2 := Try.underlying30
  go_enter Try.func4, Try.ntmps4
  go_wp2_with (first | (go_at_call 9; refine (l08New _).mono ?_; rintro e w1 ⟨A0, A1, A2, A3, A4, c0, c1, c2, c3, c4, rfl, hb⟩; obtain ⟨hc, hf⟩ := bcell hb; have hz : w.heap.size < w1.heap.size := (by have := hb.size; simp at this; omega); have HB := Lib.hid hb; clear hb))
  refine bodyPost_ret (v := .agg #[.slice A0 0 c0, .string ⟨#[]⟩, .slice A1 0 c1, .slice A2 0 c2, .int .i64 0, .int .i64 1, .slice A3 0 c3, .slice A4 0 c4]) (by simp [results, Try.results4, go_sem, hc, hz]) rfl ⟨_, _, _, _, _, _, _, _, _, _, rfl, ?_⟩
  have h0 := ((Below.refl w.heap.size w).alloc (Nat.le_refl _) (Obj.cells #[Value.slice none 0 0, Value.string { data := #[] }, Value.slice none 0 0, Value.slice none 0 0, Value.int IntKind.i64 0, Value.int IntKind.i64 0, Value.slice none 0 0, Value.slice none 0 0] 30)).trans (HB.out.mono (by simp))
  exact (((((((h0.setCell (Nat.le_refl _) _).setCell (Nat.le_refl _) _).setCell (Nat.le_refl _) _).setCell (Nat.le_refl _) _).setCell (Nat.le_refl _) _).setCell (Nat.le_refl _) _).setCell (Nat.le_refl _) _).setCell (Nat.le_refl _) _

set_option maxHeartbeats 4000000 in
set_option maxRecDepth 100000 in
theorem law (w : World) : Calls Try.prog 3 #[] w fun e w' => e = .returned (.bool true) ∧ Below w.heap.size w w' := by
  have hu2 := Try.underlying30
  go_enter Try.func3, Try.ntmps3
  go_wp2_with fail
  refine (specNew _).mono ?_
  rintro e w1 ⟨A0, A1, A2, A3, A4, c0, c1, c2, c3, c4, rfl, hb⟩
  have HB1 := Lib.hid hb
  clear hb
  go_wp2_with fail
  refine (implNew _).mono ?_
  rintro e w2 ⟨B0, B1, B2, B3, B4, d0, d1, d2, d3, d4, rfl, hb⟩
  have k1 : ∀ o, w2.cell? ⟨w1.heap.size, o, none⟩ = _ := fun o => hb.cell (p := ⟨w1.heap.size, o, none⟩) (by simp)
  have z1 : w1.heap.size < w2.heap.size := by have := hb.size; simp at this; omega
  have HB2 := Lib.hid hb
  clear hb
  go_wp2_with fail
  refine (eqPipe _ _ _ _ _ _ _ _ _ _ _ _ _ _ _ _ _ _ _ _ _ _).mono ?_
  rintro e w3 ⟨rfl, hb⟩
  have k2 : ∀ o, w3.cell? ⟨w2.heap.size, o, none⟩ = _ := fun o => hb.cell (p := ⟨w2.heap.size, o, none⟩) (by simp)
  have k3 : ∀ o, w3.cell? ⟨w1.heap.size, o, none⟩ = _ := fun o => hb.cell (p := ⟨w1.heap.size, o, none⟩) (by simp; omega)
  have z2 : w2.heap.size < w3.heap.size := by have := hb.size; simp at this; omega
  have z3 : w1.heap.size < w3.heap.size := by omega
  have HB3 := Lib.hid hb
  clear hb
  go_wp2_with fail
  refine (markPipe _ _ _ _ _ _ _ _ _ _ _ _).mono ?_
  rintro e w4 ⟨rfl, hb⟩
  have k4 : ∀ o, w4.cell? ⟨w2.heap.size, o, none⟩ = _ := fun o => hb.cell (p := ⟨w2.heap.size, o, none⟩) z2
  have k5 : ∀ o, w4.cell? ⟨w1.heap.size, o, none⟩ = _ := fun o => hb.cell (p := ⟨w1.heap.size, o, none⟩) z3
  have z4 : w2.heap.size < w4.heap.size := by have := hb.size; omega
  have z5 : w1.heap.size < w4.heap.size := by omega
  have HB4 := Lib.hid hb
  clear hb
  go_wp2_with fail
  refine (heldPipe _ _ _ _ _ _ _ _ _ _ _ _).mono ?_
  rintro e w5 ⟨rfl, hb⟩
  have k6 : ∀ o, w5.cell? ⟨w2.heap.size, o, none⟩ = _ := fun o => hb.cell (p := ⟨w2.heap.size, o, none⟩) z4
  have k7 : ∀ o, w5.cell? ⟨w1.heap.size, o, none⟩ = _ := fun o => hb.cell (p := ⟨w1.heap.size, o, none⟩) z5
  have z6 : w2.heap.size < w5.heap.size := by have := hb.size; omega
  have z7 : w1.heap.size < w5.heap.size := by omega
  have HB5 := Lib.hid hb
  clear hb
  go_wp2_with fail
  refine (implNew _).mono ?_
  rintro e w6 ⟨C0, C1, C2, C3, C4, e0, e1, e2, e3, e4, rfl, hb⟩
  have k8 : ∀ o, w6.cell? ⟨w2.heap.size, o, none⟩ = _ := fun o => hb.cell (p := ⟨w2.heap.size, o, none⟩) z6
  have k9 : ∀ o, w6.cell? ⟨w1.heap.size, o, none⟩ = _ := fun o => hb.cell (p := ⟨w1.heap.size, o, none⟩) z7
  have z8 : w2.heap.size < w6.heap.size := by have := hb.size; omega
  have z9 : w1.heap.size < w6.heap.size := by omega
  have HB6 := Lib.hid hb
  clear hb
  go_wp2_with fail
  refine (eqPipe _ _ _ _ _ _ _ _ _ _ _ _ _ _ _ _ _ _ _ _ _ _).mono ?_
  rintro e w7 ⟨rfl, hb⟩
  have k10 : ∀ o, w7.cell? ⟨w2.heap.size, o, none⟩ = _ := fun o => hb.cell (p := ⟨w2.heap.size, o, none⟩) (by simp; omega)
  have HB7 := Lib.hid hb
  clear hb
  go_wp2_with fail
  refine (heldPipe _ _ _ _ _ _ _ _ _ _ _ _).mono ?_
  rintro e w8 ⟨rfl, hb⟩
  have HB8 := Lib.hid hb
  clear hb
  go_wp2_with fail
  go_ret
  exact ⟨rfl, bstep (bstep (balloc (bstep (bstep (bstep (bstep (balloc (bstep (balloc HB1.out) HB2.out)) HB3.out) HB4.out) HB5.out) HB6.out)) HB7.out) HB8.out⟩
end Go.Proofs.Ytppecfhofjbioaa.Empty
