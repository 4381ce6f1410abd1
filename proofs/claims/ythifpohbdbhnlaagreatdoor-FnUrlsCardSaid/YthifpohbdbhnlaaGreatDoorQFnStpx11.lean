/- A tool of this session wrote this text out of the translation: functions as plain Lean, and proofs that the machine's calls come to their answers. -/
import Derived.Test.YthifpohbdbhnlaaGreatDoorQShort
import Derived.Test.YthifpohbdbhnlaaGreatDoorQFnStpx0
import Derived.Test.YthifpohbdbhnlaaGreatDoorQFnStpx1
import Derived.Test.YthifpohbdbhnlaaGreatDoorQFnStpx9
import Derived.Test.YthifpohbdbhnlaaGreatDoorQFnStpx10
namespace Go.Proofs.YthifpohbdbhnlaaGreatDoor.QFnStp
open Go.RowKit Go.Proofs.YthifpohbdbhnlaaGreatDoorW.PrintWords Go.Proofs.YthifpohbdbhnlaaGreatDoorW.PrintLast Go.Proofs.YthifpohbdbhnlaaGreatDoorW.PrintMore
open Go.Proofs.YthifpohbdbhnlaaGreatDoor.Short
attribute [local go_sem] max2_int min2_int max_two min_two max_three min_three max_four min_four   -- for this text's walks alone
set_option linter.unusedVariables false
set_option linter.unusedSimpArgs false

attribute [local go_sem high] eqA32
/-! ### impl_UrlOK: function 27 -/
def impl_UrlOK.j0 : Nat → Bool → ByteArray → ByteArray → ByteArray → Int → ByteArray → ByteArray → ByteArray → Bool → Bool → Option (Bool)
  | 0, _, _, _, _, _, _, _, _, _, _ => none
  | k + 1, x52, x204000, x204001, x204002, x204003, x204004, x204005, x204006, x204007, x204008 => if x52 = true then (some false) else ((strings_ContainsAny.f x204004 (⟨#[63, 35]⟩ : ByteArray)).bind fun t207 => (if t207 = true then (some false) else ((impl_Url_web.f x204000 x204001 x204002 x204003 x204004 x204005 x204006 x204007 x204008).bind fun t208 => (if t208 = true then ((strings_ContainsAny.f x204001 (⟨#[47, 63, 35, 64]⟩ : ByteArray)).bind fun t209 => (if t209 = true then (some false) else ((impl_isHost.f k x204002).bind fun t210 => (if t210 = true then ((impl_within.f x204003 0 65535).bind fun t211 => (if t211 = true then ((impl_usual.f x204000).bind fun t212 => (if x204003 = t212 then (some false) else ((strings_HasPrefix.f x204004 (⟨#[47]⟩ : ByteArray)).bind fun t213 => (if t213 = true then ((strings_Contains.f x204005 (⟨#[35]⟩ : ByteArray)).bind fun t214 => (if t214 = true then (some false) else (if x204007 = true then (if x204008 = true then (some true) else (some (x204006.toList == ([] : List UInt8)))) else (if x204005.toList = ([] : List UInt8) then (if x204008 = true then (some true) else (some (x204006.toList == ([] : List UInt8)))) else (some false))))) else (some false))))) else (some false))) else (some false))))) else (some (x204001.toList == ([] : List UInt8) && (x204002.toList == ([] : List UInt8) && (x204003 == 0 && (x204005.toList == ([] : List UInt8) && (x204006.toList == ([] : List UInt8) && (!x204007 && (!x204008))))))))))))
def impl_UrlOK.f (k : Nat) (a0_0 : ByteArray) (a0_1 : ByteArray) (a0_2 : ByteArray) (a0_3 : Int) (a0_4 : ByteArray) (a0_5 : ByteArray) (a0_6 : ByteArray) (a0_7 : Bool) (a0_8 : Bool) : Option (Bool) := (impl_isScheme.f k a0_0).bind fun t204 => (if t204 = true then (if (wrap64 ((wrap64 ((wrap64 ((wrap64 ((a0_1.size : Int) + (a0_2.size : Int))) + (a0_4.size : Int))) + (a0_5.size : Int))) + (a0_6.size : Int))) > 100 then (impl_UrlOK.j0 k true a0_0 a0_1 a0_2 a0_3 a0_4 a0_5 a0_6 a0_7 a0_8) else ((impl_Url_text.f k a0_0 a0_1 a0_2 a0_3 a0_4 a0_5 a0_6 a0_7 a0_8).bind fun t205 => (if (t205.size : Int) > 100 then (impl_UrlOK.j0 k true a0_0 a0_1 a0_2 a0_3 a0_4 a0_5 a0_6 a0_7 a0_8) else (if a0_1.size + a0_2.size ≤ 9223372036854775807 then (if (a0_1 ++ a0_2).size + a0_4.size ≤ 9223372036854775807 then (if ((a0_1 ++ a0_2) ++ a0_4).size + a0_5.size ≤ 9223372036854775807 then (if (((a0_1 ++ a0_2) ++ a0_4) ++ a0_5).size + a0_6.size ≤ 9223372036854775807 then ((impl_areShown.f k ((((a0_1 ++ a0_2) ++ a0_4) ++ a0_5) ++ a0_6)).bind fun t206 => (impl_UrlOK.j0 k (!t206) a0_0 a0_1 a0_2 a0_3 a0_4 a0_5 a0_6 a0_7 a0_8)) else (none)) else (none)) else (none)) else (none))))) else (impl_UrlOK.j0 k true a0_0 a0_1 a0_2 a0_3 a0_4 a0_5 a0_6 a0_7 a0_8))
theorem impl_UrlOK.mono_l : ∀ k, (∀ y0 y1 y2 y3 y4 y5 y6 y7 y8 y9, LeO (impl_UrlOK.j0 k y0 y1 y2 y3 y4 y5 y6 y7 y8 y9) (impl_UrlOK.j0 (k + 1) y0 y1 y2 y3 y4 y5 y6 y7 y8 y9))
  | 0 => fun _ _ _ _ _ _ _ _ _ _ r h => by simp [impl_UrlOK.j0] at h
  | k + 1 => by
    have ih0 := impl_UrlOK.mono_l k
    · intro y0 y1 y2 y3 y4 y5 y6 y7 y8 y9
      unfold impl_UrlOK.j0; repeat' first | (with_reducible exact ih0 _ _ _ _ _ _ _ _ _ _) | (with_reducible exact impl_Url_text.mono _ _ _ _ _ _ _ _ _ _) | (with_reducible exact impl_areShown.mono _ _) | (with_reducible exact impl_isHost.mono _ _) | (with_reducible exact impl_isScheme.mono _ _) | (with_reducible first | exact LeO.refl _ | exact LeO.none _ | refine LeO.ite ?_ ?_ | refine LeO.bind ?_ (fun _ => ?_)) | exact ih0 _ _ _ _ _ _ _ _ _ _ | exact impl_Url_text.mono _ _ _ _ _ _ _ _ _ _ | exact impl_areShown.mono _ _ | exact impl_isHost.mono _ _ | exact impl_isScheme.mono _ _ | exact LeO.none _ | refine LeO.ite ?_ ?_ | refine LeO.bind ?_ (fun _ => ?_)
theorem impl_UrlOK.mono : ∀ a0 a1 a2 a3 a4 a5 a6 a7 a8 k, LeO (impl_UrlOK.f k a0 a1 a2 a3 a4 a5 a6 a7 a8) (impl_UrlOK.f (k + 1) a0 a1 a2 a3 a4 a5 a6 a7 a8) := by
  intro a0 a1 a2 a3 a4 a5 a6 a7 a8 k; have ih0 := impl_UrlOK.mono_l k; unfold impl_UrlOK.f; repeat' first | (with_reducible exact ih0 _ _ _ _ _ _ _ _ _ _) | (with_reducible exact impl_Url_text.mono _ _ _ _ _ _ _ _ _ _) | (with_reducible exact impl_areShown.mono _ _) | (with_reducible exact impl_isHost.mono _ _) | (with_reducible exact impl_isScheme.mono _ _) | (with_reducible first | exact LeO.refl _ | exact LeO.none _ | refine LeO.ite ?_ ?_ | refine LeO.bind ?_ (fun _ => ?_)) | exact ih0 _ _ _ _ _ _ _ _ _ _ | exact impl_Url_text.mono _ _ _ _ _ _ _ _ _ _ | exact impl_areShown.mono _ _ | exact impl_isHost.mono _ _ | exact impl_isScheme.mono _ _ | exact LeO.none _ | refine LeO.ite ?_ ?_ | refine LeO.bind ?_ (fun _ => ?_)
def impl_UrlOK.T7 : Bool × List (List Nat × List Nat) := (true, [([], []), ([0], [0]), ([1], [1]), ([2], [2]), ([3, 2], [3]), ([4], [4]), ([5, 4], [4, 5]), ([6, 4, 4], [4, 6]), ([4, 7], [4, 7]), ([8, 7], [8]), ([9], [9]), ([10, 9], [9, 10]), ([11, 9, 9], [9, 11]), ([9, 12], [9, 12]), ([13, 12], [13]), ([14], [14]), ([15, 14], [14, 15]), ([14], [14]), ([17, 14], [14, 17]), ([18, 14, 14], [14, 18]), ([16, 19, 14], [14, 16, 19]), ([14, 20], [14, 20]), ([21, 19], [21]), ([22], [22]), ([23, 22], [22, 23]), ([24, 22, 22], [22, 24]), ([22, 25], [22, 25]), ([26, 25], [26]), ([27], [27]), ([28, 27], [27, 28]), ([29, 27, 27], [27, 29]), ([30, 27], [27, 30]), ([27, 31], [27, 31]), ([32, 30], [32]), ([33], [33]), ([34, 33], [33, 34]), ([35, 33, 33], [33, 35]), ([36], [36]), ([37, 36], [36, 37]), ([38, 36], [36, 38]), ([36, 39, 33], [33, 36, 39]), ([33, 40], [33, 40]), ([41, 36], [41]), ([42], [42]), ([43, 42], [42, 43]), ([44, 42, 42], [42, 44]), ([45], [45]), ([46, 45], [45, 46]), ([47, 45], [45, 47]), ([45, 48, 42], [42, 45, 48]), ([42, 49], [42, 49]), ([50, 45, 0, 1, 2, 3, 4, 5, 6, 7, 8, 9, 10, 11, 12, 13, 14, 15, 16, 17, 18, 19, 20, 21, 22, 23, 24, 25, 26, 27, 28, 29, 30, 31, 32, 33, 34, 35, 36, 37, 38, 39, 40, 41, 42, 43, 44, 45, 46, 47, 48, 49, 50], [50])])
def impl_UrlOK.B7 : List Nat := [0, 1, 3, 7, 15, 31, 63, 127, 255, 511, 1023, 2047, 4095, 8191, 16383, 32767, 65535, 32767, 163839, 425983, 1048575, 2097151, 4194303, 8388607, 16777215, 33554431, 67108863, 134217727, 268435455, 536870911, 1073741823, 2147483647, 4294967295, 8589934591, 17179869183, 34359738367, 68719476735, 137438953471, 274877906943, 549755813887, 1099511627775, 2199023255551, 4398046511103, 8796093022207, 17592186044415, 35184372088831, 70368744177663, 140737488355327, 281474976710655, 562949953421311, 1125899906842623, 2251799813685247]
theorem impl_UrlOK.tab7 : rtab .any (opsOf Tryz.f27 7) = impl_UrlOK.T7 := by kernel_rfl
theorem impl_UrlOK.bits7 : waitsOk impl_UrlOK.T7.2 impl_UrlOK.B7 = true := by kernel_rfl
set_option maxHeartbeats 8000000 in
set_option maxRecDepth 100000 in
theorem impl_UrlOK.calls (k : Nat) (a0_0 : ByteArray) (a0_1 : ByteArray) (a0_2 : ByteArray) (a0_3 : Int) (a0_4 : ByteArray) (a0_5 : ByteArray) (a0_6 : ByteArray) (a0_7 : Bool) (a0_8 : Bool) (r : Bool) (w : World) (hM : Amb w) (h : impl_UrlOK.f k a0_0 a0_1 a0_2 a0_3 a0_4 a0_5 a0_6 a0_7 a0_8 = some r) :
    Calls Tryz.prog 27 #[.agg #[.string a0_0, .string a0_1, .string a0_2, .int .i64 a0_3, .string a0_4, .string a0_5, .string a0_6, .bool a0_7, .bool a0_8]] w fun e w' => e = .returned (.bool r) ∧ Below w.heap.size w w' := by
 have hu32 := Tryz.underlying32; have HB := Aside0.mk (Below.refl w.heap.size w); have HM := Aside0.mk hM; clear hM; have H := h; clear h; unfold impl_UrlOK.f at H; have T := Aside0.mk H; clear H; go_enter Tryz.func27, Tryz.ntmps27; go_upto_region 1 with (first | ((with_reducible refine gate_dst (N := 1) rfl ?_); (try (refine gate_guard (by rfl) ?_; dsimp only)); refine box_event ?hg (N := 1) ?hd (cs := #[.string a0_0, .string a0_1, .string a0_2, .int .i64 a0_3, .string a0_4, .string a0_5, .string a0_6, .bool a0_7, .bool a0_8]) (t := 32) ?hr ?_; (case hd => rfl); (case hg => rfl); (case hr => first | (go_simp; done) | (go_simp; rfl)); intro b hg w3 hbox hb; have V := belB_ hb; have W := Aside0.mk (hbox); have X := geE_ (w := w) hg; have Y := geE_ (w := w) hg; clear HB; have HB := V; have a := W; have cR := X; have cS := Y; clear V W X Y; clear hb hbox hg))
 (try simp only [Act.put, List.setIfInBounds_toArray, List.set_cons_zero, List.set_cons_succ]); go_cut [52] (fun ai wc => ∃ (kq : Nat) (D : Bool), ai = .bool D ∧ Aside0 (impl_UrlOK.j0 kq D a0_0 a0_1 a0_2 a0_3 a0_4 a0_5 a0_6 a0_7 a0_8 = some r) ∧ Aside0 (kq ≤ k) ∧ Aside0 (wc.heap[b]? = some (.cells #[.string a0_0, .string a0_1, .string a0_2, .int .i64 a0_3, .string a0_4, .string a0_5, .string a0_6, .bool a0_7, .bool a0_8] 32 (0, 0))) ∧ Aside0 (Below w.heap.size w wc))
 case first =>
  have H := T.out; clear T; obtain ⟨a7, A4, H⟩ := bindE_ H; by_cases c5 : a7 = true
  ·
   subst c5; replace H := ifT_ H; by_cases c6 : (wrap64 ((wrap64 ((wrap64 ((wrap64 ((a0_1.size : Int) + (a0_2.size : Int))) + (a0_4.size : Int))) + (a0_5.size : Int))) + (a0_6.size : Int))) > 100
   ·
    rw [if_pos c6] at H; have q : decide (100 < (wrap64 ((wrap64 ((wrap64 ((wrap64 ((a0_1.size : Int) + (a0_2.size : Int))) + (a0_4.size : Int))) + (a0_5.size : Int))) + (a0_6.size : Int)))) = true := decide_eq_true c6; clear c6; (first | rw [q] | (simp only [i64_w, i32_w]; rw [q]) | skip); have H' := Aside0.mk H; clear H; obtain ⟨kd, ke, kf, kg, kh, ki, kj, kk, kl, km, kn, ko, kp, kr, ks, kt, ku, kv⟩ := cz9_ a; go_wp2_with (first | ((with_reducible refine gate_callee (f := 67) rfl ?_); refine cU_ (some 5) Tryz.func67 #[.string a0_0] ?_; (with_reducible refine (impl_isScheme.calls k a0_0 true _ A4.out).mono ?_); rintro e w8 ⟨rfl, hb⟩; refine ⟨_, rfl, ?_⟩; replace a := blkK_ a hb; replace HB := belB_ hb; (try clear hb); obtain ⟨kw, kx, ky, kz, kA, kB, kC, kD, kE, kF, kG, kH, kI, kJ, kK, kL, kM, kN⟩ := cz9_ a)); go_meet
    case rel => exact ⟨_, (true), eqE_, H', ⟨leE_⟩, ⟨blkE_⟩, ⟨belE_⟩⟩
   ·
    rw [if_neg c6] at H; have q : decide (100 < (wrap64 ((wrap64 ((wrap64 ((wrap64 ((a0_1.size : Int) + (a0_2.size : Int))) + (a0_4.size : Int))) + (a0_5.size : Int))) + (a0_6.size : Int)))) = false := decide_eq_false c6; clear c6; (first | rw [q] | (simp only [i64_w, i32_w]; rw [q]) | skip); obtain ⟨s, Z, H⟩ := bindE_ H; by_cases x : (s.size : Int) > 100
    ·
     rw [if_pos x] at H; have a0 : decide (100 < (s.size : Int)) = true := decide_eq_true x; have a1 : decide (100 < s.size) = true := decide_eq_true (by omega); clear x; have H' := Aside0.mk H; clear H; obtain ⟨cT, cU, cV, cW, cX, cY, cZ, c_, d0, d1, d2, d3, d4, d5, d6, d7, d8, d9⟩ := cz9_ a; go_wp2_with (first | ((with_reducible refine gate_callee (f := 67) rfl ?_); refine cU_ (some 5) Tryz.func67 #[.string a0_0] ?_; (with_reducible refine (impl_isScheme.calls k a0_0 true _ A4.out).mono ?_); rintro e kZ ⟨rfl, hb⟩; refine ⟨_, rfl, ?_⟩; replace a := blkK_ a hb; replace HB := belB_ hb; (try clear hb); obtain ⟨da, db, dc, dd, de, df, dg, dh, di, dj, dk, dl, dm, dn, dp, dq, dr, dt⟩ := cz9_ a) | (go_at_call 65; (with_reducible refine (impl_Url_text.calls k a0_0 a0_1 a0_2 a0_3 a0_4 a0_5 a0_6 a0_7 a0_8 s _ ?side1 Z.out).mono ?_); (case side1 => exact Amb.on HM.out belE_); rintro e k_ ⟨rfl, hb⟩; replace a := blkK_ a hb; replace HB := belB_ hb; (try clear hb))); go_meet
     case rel => exact ⟨_, (true), eqE_, H', ⟨leE_⟩, ⟨blkE_⟩, ⟨belE_⟩⟩
    ·
     rw [if_neg x] at H; have a0 : decide (100 < (s.size : Int)) = false := decide_eq_false x; have a1 : decide (100 < s.size) = false := decide_eq_false (by omega); clear x; by_cases z : a0_1.size + a0_2.size ≤ 9223372036854775807
     ·
      rw [if_pos z] at H; (have wq_ : wrap64 ((a0_1.size : Int) + (a0_2.size : Int)) = (a0_1.size : Int) + (a0_2.size : Int) := by unfold wrap64; omega); (try rw [wq_] at q); clear wq_; (have wq_ : wrap64 ((a0_1.size : Int) + (a0_2.size : Int)) = (a0_1.size : Int) + (a0_2.size : Int) := by unfold wrap64; omega); (try rw [wq_] at q); clear wq_; have du := eq_true z; have dv : decide (a0_1.size + a0_2.size ≤ 9223372036854775807) = true := decide_eq_true z; try have dw : (9223372036854775807 < a0_1.size + a0_2.size) = False := eq_false (Nat.not_lt.2 z)
      by_cases A : (a0_1 ++ a0_2).size + a0_4.size ≤ 9223372036854775807
      ·
       rw [if_pos A] at H; have dx := eq_true A; have dy : decide ((a0_1 ++ a0_2).size + a0_4.size ≤ 9223372036854775807) = true := decide_eq_true A; try have dz : (9223372036854775807 < (a0_1 ++ a0_2).size + a0_4.size) = False := eq_false (Nat.not_lt.2 A)
       by_cases B : ((a0_1 ++ a0_2) ++ a0_4).size + a0_5.size ≤ 9223372036854775807
       ·
        rw [if_pos B] at H; have dA := eq_true B; have dB : decide (((a0_1 ++ a0_2) ++ a0_4).size + a0_5.size ≤ 9223372036854775807) = true := decide_eq_true B; try have dC : (9223372036854775807 < ((a0_1 ++ a0_2) ++ a0_4).size + a0_5.size) = False := eq_false (Nat.not_lt.2 B)
        by_cases C : (((a0_1 ++ a0_2) ++ a0_4) ++ a0_5).size + a0_6.size ≤ 9223372036854775807
        ·
         rw [if_pos C] at H; have dD := eq_true C; have dE : decide ((((a0_1 ++ a0_2) ++ a0_4) ++ a0_5).size + a0_6.size ≤ 9223372036854775807) = true := decide_eq_true C; try have dF : (9223372036854775807 < (((a0_1 ++ a0_2) ++ a0_4) ++ a0_5).size + a0_6.size) = False := eq_false (Nat.not_lt.2 C)
         obtain ⟨U, aj, H⟩ := bindE_ H; have H' := Aside0.mk H; clear H; obtain ⟨dG, dH, dI, dJ, dK, dL, dM, dN, dO, dP, dQ, dR, dS, dT, dU, dV, dW, dX⟩ := cz9_ a; go_wp2_with (first | ((with_reducible refine gate_callee (f := 67) rfl ?_); refine cU_ (some 5) Tryz.func67 #[.string a0_0] ?_; (with_reducible refine (impl_isScheme.calls k a0_0 true _ A4.out).mono ?_); rintro e l0 ⟨rfl, hb⟩; refine ⟨_, rfl, ?_⟩; replace a := blkK_ a hb; replace HB := belB_ hb; (try clear hb); obtain ⟨dY, dZ, d_, e0, e1, e2, e3, e4, e5, e6, e7, e8, e9, ea, eb, ec, ed, ee⟩ := cz9_ a) | (go_at_call 65; (with_reducible refine (impl_Url_text.calls k a0_0 a0_1 a0_2 a0_3 a0_4 a0_5 a0_6 a0_7 a0_8 s _ ?side1 Z.out).mono ?_); (case side1 => exact Amb.on HM.out belE_); rintro e l1 ⟨rfl, hb⟩; replace a := blkK_ a hb; replace HB := belB_ hb; (try clear hb); obtain ⟨ef, eg, eh, ei, ej, ek, el, em, en, eo, ep, er, es, et, eu, ev, ew, ex⟩ := cz9_ a) | (go_at_call 68; (with_reducible refine (impl_areShown.calls k ((((a0_1 ++ a0_2) ++ a0_4) ++ a0_5) ++ a0_6) U _ aj.out).mono ?_); rintro e w' ⟨rfl, ⟨nd, rfl⟩⟩)); go_meet
         case rel => exact ⟨_, (!U), eqE_, H', ⟨leE_⟩, ⟨blkE_⟩, ⟨belE_⟩⟩
        · rw [if_neg C] at H; exact absurd H (by simp)
       · rw [if_neg B] at H; exact absurd H (by simp)
      · rw [if_neg A] at H; exact absurd H (by simp)
     · rw [if_neg z] at H; exact absurd H (by simp)
  ·
   replace c5 := Bool.eq_false_iff.mpr c5; subst c5; replace H := ifF_ H; have H' := Aside0.mk H; clear H; obtain ⟨ey, ez, eA, eB, eC, eD, eE, eF, eG, eH, eI, eJ, eK, eL, eM, eN, eO, eP⟩ := cz9_ a; go_wp2_with (first | ((with_reducible refine gate_callee (f := 67) rfl ?_); refine cU_ (some 5) Tryz.func67 #[.string a0_0] ?_; (with_reducible refine (impl_isScheme.calls k a0_0 false _ A4.out).mono ?_); rintro e l2 ⟨rfl, hb⟩; refine ⟨_, rfl, ?_⟩; replace a := blkK_ a hb; replace HB := belB_ hb; (try clear hb))); go_meet
   case rel => exact ⟨_, (true), eqE_, H', ⟨leE_⟩, ⟨blkE_⟩, ⟨belE_⟩⟩
 case rest =>
  clear T; obtain ⟨kq, D, rfl, HA, l3, a, HB⟩ := hcut; cases kq with
  | zero => exact absurd HA.out (by simp [impl_UrlOK.j0])
  | succ j =>
   have H := HA.out; clear HA; simp only [impl_UrlOK.j0] at H; by_cases E : D = true
   · subst E; replace H := ifT_ H; obtain rfl := Option.some.inj H; go_wp2; go_ret; exact ⟨retE_, belE_⟩
   ·
    replace E := Bool.eq_false_iff.mpr E; subst E; replace H := ifF_ H; obtain ⟨a8, d, H⟩ := bindE_ H; by_cases F : a8 = true
    · subst F; replace H := ifT_ H; obtain rfl := Option.some.inj H; obtain ⟨eQ, eR, eS, eT, eU, eV, eW, eX, eY, eZ, e_, f0, f1, f2, f3, f4, f5, f6⟩ := cz9_ a; go_wp2_with (first | ((with_reducible refine gate_callee (f := 69) rfl ?_); refine cU_ (some 55) Tryz.func69 #[.string a0_4, .string (⟨#[63, 35]⟩ : ByteArray)] ?_; (with_reducible refine (strings_ContainsAny.calls a0_4 (⟨#[63, 35]⟩ : ByteArray) true _ d.out).mono ?_); rintro e l4 ⟨rfl, hb⟩; refine ⟨_, rfl, ?_⟩; replace a := blkK_ a hb; replace HB := belB_ hb; (try clear hb))); go_ret; exact ⟨retE_, belE_⟩
    ·
     replace F := Bool.eq_false_iff.mpr F; subst F; replace H := ifF_ H; obtain ⟨a9, g, H⟩ := bindE_ H; by_cases G : a9 = true
     ·
      subst G; replace H := ifT_ H; obtain ⟨aa, i, H⟩ := bindE_ H; by_cases I : aa = true
      ·
       subst I; replace H := ifT_ H; obtain rfl := Option.some.inj H; obtain ⟨f7, f8, f9, fa, fb, fc, fd, fe, ff, fg, fh, fi, fj, fk, fl, fm, fn, fo⟩ := cz9_ a; try go_wp2_with (first | ((with_reducible refine gate_callee (f := 69) rfl ?_); refine cU_ (some 55) Tryz.func69 #[.string a0_4, .string (⟨#[63, 35]⟩ : ByteArray)] ?_; (with_reducible refine (strings_ContainsAny.calls a0_4 (⟨#[63, 35]⟩ : ByteArray) false _ d.out).mono ?_); rintro e l5 ⟨rfl, hb⟩; refine ⟨_, rfl, ?_⟩; replace a := blkK_ a hb; replace HB := belB_ hb; (try clear hb); obtain ⟨fp, fq, fr, fs, ft, fu, fv, fw, fx, fy, fz, fA, fB, fC, fD, fE, fF, fG⟩ := cz9_ a) | ((with_reducible refine gate_callee (f := 59) rfl ?_); refine cU_ (some 57) Tryz.func59 #[.agg #[.string a0_0, .string a0_1, .string a0_2, .int .i64 a0_3, .string a0_4, .string a0_5, .string a0_6, .bool a0_7, .bool a0_8]] ?_; (with_reducible refine (impl_Url_web.calls a0_0 a0_1 a0_2 a0_3 a0_4 a0_5 a0_6 a0_7 a0_8 true _ g.out).mono ?_); rintro e ak ⟨rfl, hb⟩; refine ⟨_, rfl, ?_⟩; replace a := blkK_ a hb; replace HB := belB_ hb; (try clear hb)))
       replace a := Aside0.mk (blk_drew a.out); replace HB := Aside0.mk (below_drew1 HB.out); refine startU_ (n := 52) (S := fun w' => w'.cell? ⟨b, 0, none⟩ = some (.string a0_0) ∧ w'.cell? ⟨b, 1, none⟩ = some (.string a0_1) ∧ w'.cell? ⟨b, 2, none⟩ = some (.string a0_2) ∧ w'.cell? ⟨b, 3, none⟩ = some (.int .i64 a0_3) ∧ w'.cell? ⟨b, 4, none⟩ = some (.string a0_4) ∧ w'.cell? ⟨b, 5, none⟩ = some (.string a0_5) ∧ w'.cell? ⟨b, 6, none⟩ = some (.string a0_6) ∧ w'.cell? ⟨b, 7, none⟩ = some (.bool a0_7) ∧ w'.cell? ⟨b, 8, none⟩ = some (.bool a0_8)) (ds := []) (held9_ a.out) (fun hHeld => ?_); refine with_tabW impl_UrlOK.tab7 impl_UrlOK.bits7 (fun HT_ HW_ => ?_); generalize ak.drew = l6 at a HB hHeld ⊢; refine pU_ ?_; refine tU_ ?_; refine oU_ (fun K hK => ?_); refine gU_ Tryz.func69 #[.string a0_1, .string (⟨#[47, 63, 35, 64]⟩ : ByteArray)] ?_; with_reducible refine (strings_ContainsAny.calls a0_1 (⟨#[47, 63, 35, 64]⟩ : ByteArray) true _ i.out).mono ?_
       rintro e l7 ⟨rfl, hb⟩; refine ⟨_, rfl, ?_⟩; replace a := blkK_ a hb; replace HB := belB_ hb; (try clear hb); refine hK.out _ _ (held9_ a.out) (fun hHeld => ?_); clear hK K; refine nU_ ?_; iterate 2 refine pU_ ?_
       iterate 3 refine sU_ ?_
       iterate 2 refine pU_ ?_
       iterate 3 refine sU_ ?_
       iterate 2 refine pU_ ?_
       iterate 6 refine sU_ ?_
       iterate 2 refine pU_ ?_
       iterate 3 refine sU_ ?_
       iterate 2 refine pU_ ?_
       iterate 4 refine sU_ ?_
       iterate 2 refine pU_ ?_
       iterate 7 refine sU_ ?_
       iterate 2 refine pU_ ?_
       iterate 7 refine sU_ ?_
       iterate 2 refine pU_ ?_
       refine doneU_ ?_; try go_wp2
       go_ret; exact ⟨retE_, belE_⟩
      ·
       replace I := Bool.eq_false_iff.mpr I; subst I; replace H := ifF_ H; obtain ⟨ab, l, H⟩ := bindE_ H; by_cases J : ab = true
       ·
        subst J; replace H := ifT_ H; obtain ⟨ac, m, H⟩ := bindE_ H; by_cases L : ac = true
        ·
         subst L; replace H := ifT_ H; obtain ⟨c, p, H⟩ := bindE_ H; by_cases u : a0_3 = c
         ·
          rw [if_pos u] at H; have a2 : (a0_3 == c) = true := beq_iff_eq.mpr u; have a3 : (a0_3 != c) = false := bne_eq_false_iff_eq.mpr u; clear u; obtain rfl := Option.some.inj H; obtain ⟨fH, fI, fJ, fK, fL, fM, fN, fO, fP, fQ, fR, fS, fT, fU, fV, fW, fX, fY⟩ := cz9_ a; try go_wp2_with (first | ((with_reducible refine gate_callee (f := 69) rfl ?_); refine cU_ (some 55) Tryz.func69 #[.string a0_4, .string (⟨#[63, 35]⟩ : ByteArray)] ?_; (with_reducible refine (strings_ContainsAny.calls a0_4 (⟨#[63, 35]⟩ : ByteArray) false _ d.out).mono ?_); rintro e l8 ⟨rfl, hb⟩; refine ⟨_, rfl, ?_⟩; replace a := blkK_ a hb; replace HB := belB_ hb; (try clear hb); obtain ⟨fZ, f_, g0, g1, g2, g3, g4, g5, g6, g7, g8, g9, ga, gb, gc, gd, gf, gg⟩ := cz9_ a) | ((with_reducible refine gate_callee (f := 59) rfl ?_); refine cU_ (some 57) Tryz.func59 #[.agg #[.string a0_0, .string a0_1, .string a0_2, .int .i64 a0_3, .string a0_4, .string a0_5, .string a0_6, .bool a0_7, .bool a0_8]] ?_; (with_reducible refine (impl_Url_web.calls a0_0 a0_1 a0_2 a0_3 a0_4 a0_5 a0_6 a0_7 a0_8 true _ g.out).mono ?_); rintro e al ⟨rfl, hb⟩; refine ⟨_, rfl, ?_⟩; replace a := blkK_ a hb; replace HB := belB_ hb; (try clear hb)))
          replace a := Aside0.mk (blk_drew a.out); replace HB := Aside0.mk (below_drew1 HB.out); refine startU_ (n := 52) (S := fun w' => w'.cell? ⟨b, 0, none⟩ = some (.string a0_0) ∧ w'.cell? ⟨b, 1, none⟩ = some (.string a0_1) ∧ w'.cell? ⟨b, 2, none⟩ = some (.string a0_2) ∧ w'.cell? ⟨b, 3, none⟩ = some (.int .i64 a0_3) ∧ w'.cell? ⟨b, 4, none⟩ = some (.string a0_4) ∧ w'.cell? ⟨b, 5, none⟩ = some (.string a0_5) ∧ w'.cell? ⟨b, 6, none⟩ = some (.string a0_6) ∧ w'.cell? ⟨b, 7, none⟩ = some (.bool a0_7) ∧ w'.cell? ⟨b, 8, none⟩ = some (.bool a0_8)) (ds := []) (held9_ a.out) (fun hHeld => ?_); refine with_tabW impl_UrlOK.tab7 impl_UrlOK.bits7 (fun HT_ HW_ => ?_); generalize al.drew = l9 at a HB hHeld ⊢; refine pU_ ?_; refine tU_ ?_; refine oU_ (fun K hK => ?_); refine gU_ Tryz.func69 #[.string a0_1, .string (⟨#[47, 63, 35, 64]⟩ : ByteArray)] ?_; with_reducible refine (strings_ContainsAny.calls a0_1 (⟨#[47, 63, 35, 64]⟩ : ByteArray) false _ i.out).mono ?_
          rintro e la ⟨rfl, hb⟩; refine ⟨_, rfl, ?_⟩; replace a := blkK_ a hb; replace HB := belB_ hb; (try clear hb); refine hK.out _ _ (held9_ a.out) (fun hHeld => ?_); clear hK K; refine nU_ ?_; iterate 3 refine pU_ ?_
          refine tU_ ?_; refine oU_ (fun K hK => ?_); refine gU_ Tryz.func70 #[.string a0_2] ?_; with_reducible refine (impl_isHost.calls j a0_2 true _ l.out).mono ?_
          rintro e w' ⟨rfl, ⟨nd, rfl⟩⟩; refine ⟨_, rfl, ?_⟩; refine hK.out _ _ (held9_ a.out) (fun hHeld => ?_); clear hK K; refine nU_ ?_; iterate 3 refine pU_ ?_
          refine tU_ ?_; refine oU_ (fun K hK => ?_); refine gU_ Tryz.func71 #[.int .i64 a0_3, .int .i64 0, .int .i64 65535] ?_; with_reducible refine (impl_within.calls a0_3 0 65535 true _ m.out).mono ?_
          rintro e w' ⟨rfl, ⟨nd, rfl⟩⟩; refine ⟨_, rfl, ?_⟩; refine hK.out _ _ (held9_ a.out) (fun hHeld => ?_); clear hK K; refine nU_ ?_; iterate 3 refine pU_ ?_
          refine pUX_ 17 ?_; refine tU_ ?_; refine aU_ ?_; refine tU_ ?_; refine oU_ (fun K hK => ?_); refine gU_ Tryz.func72 #[.string a0_0] ?_; with_reducible refine (impl_usual.calls a0_0 c _ p.out).mono ?_
          rintro e w' ⟨rfl, ⟨nd, rfl⟩⟩; refine ⟨_, rfl, ?_⟩; refine hK.out _ _ (held9_ a.out) (fun hHeld => ?_); clear hK K; refine nU_ ?_; iterate 3 refine pU_ ?_
          iterate 3 refine sU_ ?_
          iterate 2 refine pU_ ?_
          iterate 4 refine sU_ ?_
          iterate 2 refine pU_ ?_
          iterate 7 refine sU_ ?_
          iterate 2 refine pU_ ?_
          iterate 7 refine sU_ ?_
          iterate 2 refine pU_ ?_
          refine doneU_ ?_; try go_wp2
          go_ret; exact ⟨retE_, belE_⟩
         ·
          rw [if_neg u] at H; have a2 : (a0_3 == c) = false := beq_eq_false_iff_ne.mpr u; have a3 : (a0_3 != c) = true := bne_iff_ne.mpr u; obtain ⟨ad, v, H⟩ := bindE_ H; by_cases M : ad = true
          ·
           subst M; replace H := ifT_ H; obtain ⟨ae, y, H⟩ := bindE_ H; by_cases O : ae = true
           ·
            subst O; replace H := ifT_ H; obtain rfl := Option.some.inj H; obtain ⟨gh, gi, gj, gk, gl, gm, gn, gp, gq, gr, gs, gu, gv, gw, gx, gy, gz, gA⟩ := cz9_ a; try go_wp2_with (first | ((with_reducible refine gate_callee (f := 69) rfl ?_); refine cU_ (some 55) Tryz.func69 #[.string a0_4, .string (⟨#[63, 35]⟩ : ByteArray)] ?_; (with_reducible refine (strings_ContainsAny.calls a0_4 (⟨#[63, 35]⟩ : ByteArray) false _ d.out).mono ?_); rintro e lb ⟨rfl, hb⟩; refine ⟨_, rfl, ?_⟩; replace a := blkK_ a hb; replace HB := belB_ hb; (try clear hb); obtain ⟨gB, gC, gD, gE, gF, gG, gH, gI, gJ, gK, gL, gM, gN, gO, gP, gQ, gR, gS⟩ := cz9_ a) | ((with_reducible refine gate_callee (f := 59) rfl ?_); refine cU_ (some 57) Tryz.func59 #[.agg #[.string a0_0, .string a0_1, .string a0_2, .int .i64 a0_3, .string a0_4, .string a0_5, .string a0_6, .bool a0_7, .bool a0_8]] ?_; (with_reducible refine (impl_Url_web.calls a0_0 a0_1 a0_2 a0_3 a0_4 a0_5 a0_6 a0_7 a0_8 true _ g.out).mono ?_); rintro e am ⟨rfl, hb⟩; refine ⟨_, rfl, ?_⟩; replace a := blkK_ a hb; replace HB := belB_ hb; (try clear hb)))
            replace a := Aside0.mk (blk_drew a.out); replace HB := Aside0.mk (below_drew1 HB.out); refine startU_ (n := 52) (S := fun w' => w'.cell? ⟨b, 0, none⟩ = some (.string a0_0) ∧ w'.cell? ⟨b, 1, none⟩ = some (.string a0_1) ∧ w'.cell? ⟨b, 2, none⟩ = some (.string a0_2) ∧ w'.cell? ⟨b, 3, none⟩ = some (.int .i64 a0_3) ∧ w'.cell? ⟨b, 4, none⟩ = some (.string a0_4) ∧ w'.cell? ⟨b, 5, none⟩ = some (.string a0_5) ∧ w'.cell? ⟨b, 6, none⟩ = some (.string a0_6) ∧ w'.cell? ⟨b, 7, none⟩ = some (.bool a0_7) ∧ w'.cell? ⟨b, 8, none⟩ = some (.bool a0_8)) (ds := []) (held9_ a.out) (fun hHeld => ?_); refine with_tabW impl_UrlOK.tab7 impl_UrlOK.bits7 (fun HT_ HW_ => ?_); generalize am.drew = lc at a HB hHeld ⊢; refine pU_ ?_; refine tU_ ?_; refine oU_ (fun K hK => ?_); refine gU_ Tryz.func69 #[.string a0_1, .string (⟨#[47, 63, 35, 64]⟩ : ByteArray)] ?_; with_reducible refine (strings_ContainsAny.calls a0_1 (⟨#[47, 63, 35, 64]⟩ : ByteArray) false _ i.out).mono ?_
            rintro e ld ⟨rfl, hb⟩; refine ⟨_, rfl, ?_⟩; replace a := blkK_ a hb; replace HB := belB_ hb; (try clear hb); refine hK.out _ _ (held9_ a.out) (fun hHeld => ?_); clear hK K; refine nU_ ?_; iterate 3 refine pU_ ?_
            refine tU_ ?_; refine oU_ (fun K hK => ?_); refine gU_ Tryz.func70 #[.string a0_2] ?_; with_reducible refine (impl_isHost.calls j a0_2 true _ l.out).mono ?_
            rintro e w' ⟨rfl, ⟨nd, rfl⟩⟩; refine ⟨_, rfl, ?_⟩; refine hK.out _ _ (held9_ a.out) (fun hHeld => ?_); clear hK K; refine nU_ ?_; iterate 3 refine pU_ ?_
            refine tU_ ?_; refine oU_ (fun K hK => ?_); refine gU_ Tryz.func71 #[.int .i64 a0_3, .int .i64 0, .int .i64 65535] ?_; with_reducible refine (impl_within.calls a0_3 0 65535 true _ m.out).mono ?_
            rintro e w' ⟨rfl, ⟨nd, rfl⟩⟩; refine ⟨_, rfl, ?_⟩; refine hK.out _ _ (held9_ a.out) (fun hHeld => ?_); clear hK K; refine nU_ ?_; iterate 3 refine pU_ ?_
            refine pUX_ 17 ?_; refine tU_ ?_; refine aU_ ?_; refine tU_ ?_; refine oU_ (fun K hK => ?_); refine gU_ Tryz.func72 #[.string a0_0] ?_; with_reducible refine (impl_usual.calls a0_0 c _ p.out).mono ?_
            rintro e w' ⟨rfl, ⟨nd, rfl⟩⟩; refine ⟨_, rfl, ?_⟩; refine hK.out _ _ (held9_ a.out) (fun hHeld => ?_); clear hK K; refine nU_ ?_; iterate 4 refine pU_ ?_
            refine tU_ ?_; refine oU_ (fun K hK => ?_); refine gU_ Tryz.func73 #[.string a0_4, .string (⟨#[47]⟩ : ByteArray)] ?_; with_reducible refine (strings_HasPrefix.calls a0_4 (⟨#[47]⟩ : ByteArray) true _ v.out).mono ?_
            rintro e w' ⟨rfl, ⟨nd, rfl⟩⟩; refine ⟨_, rfl, ?_⟩; refine hK.out _ _ (held9_ a.out) (fun hHeld => ?_); clear hK K; refine nU_ ?_; iterate 3 refine pU_ ?_
            refine tU_ ?_; refine oU_ (fun K hK => ?_); refine gU_ Tryz.func74 #[.string a0_5, .string (⟨#[35]⟩ : ByteArray)] ?_; with_reducible refine (strings_Contains.calls a0_5 (⟨#[35]⟩ : ByteArray) true _ y.out).mono ?_
            rintro e w' ⟨rfl, ⟨nd, rfl⟩⟩; refine ⟨_, rfl, ?_⟩; refine hK.out _ _ (held9_ a.out) (fun hHeld => ?_); clear hK K; refine nU_ ?_; iterate 3 refine pU_ ?_
            iterate 7 refine sU_ ?_
            iterate 2 refine pU_ ?_
            iterate 7 refine sU_ ?_
            iterate 2 refine pU_ ?_
            refine doneU_ ?_; try go_wp2
            go_ret; exact ⟨retE_, belE_⟩
           ·
            replace O := Bool.eq_false_iff.mpr O; subst O; replace H := ifF_ H; by_cases P : a0_7 = true
            ·
             subst P; replace H := ifT_ H; by_cases Q : a0_8 = true
             ·
              subst Q; replace H := ifT_ H; obtain rfl := Option.some.inj H; obtain ⟨gT, gU, gV, gW, gX, gY, gZ, g_, h0, h1, h2, h3, h4, h5, h6, h7, h8, h9⟩ := cz9_ a; try go_wp2_with (first | ((with_reducible refine gate_callee (f := 69) rfl ?_); refine cU_ (some 55) Tryz.func69 #[.string a0_4, .string (⟨#[63, 35]⟩ : ByteArray)] ?_; (with_reducible refine (strings_ContainsAny.calls a0_4 (⟨#[63, 35]⟩ : ByteArray) false _ d.out).mono ?_); rintro e lf ⟨rfl, hb⟩; refine ⟨_, rfl, ?_⟩; replace a := blkK_ a hb; replace HB := belB_ hb; (try clear hb); obtain ⟨ha, hc, he, hf, hh, hi, hj, hk, hl, hm, hn, ho, hp, hq, hs, ht, hu, hv⟩ := cz9_ a) | ((with_reducible refine gate_callee (f := 59) rfl ?_); refine cU_ (some 57) Tryz.func59 #[.agg #[.string a0_0, .string a0_1, .string a0_2, .int .i64 a0_3, .string a0_4, .string a0_5, .string a0_6, .bool true, .bool true]] ?_; (with_reducible refine (impl_Url_web.calls a0_0 a0_1 a0_2 a0_3 a0_4 a0_5 a0_6 true true true _ g.out).mono ?_); rintro e an ⟨rfl, hb⟩; refine ⟨_, rfl, ?_⟩; replace a := blkK_ a hb; replace HB := belB_ hb; (try clear hb)))
              replace a := Aside0.mk (blk_drew a.out); replace HB := Aside0.mk (below_drew1 HB.out); refine startU_ (n := 52) (S := fun w' => w'.cell? ⟨b, 0, none⟩ = some (.string a0_0) ∧ w'.cell? ⟨b, 1, none⟩ = some (.string a0_1) ∧ w'.cell? ⟨b, 2, none⟩ = some (.string a0_2) ∧ w'.cell? ⟨b, 3, none⟩ = some (.int .i64 a0_3) ∧ w'.cell? ⟨b, 4, none⟩ = some (.string a0_4) ∧ w'.cell? ⟨b, 5, none⟩ = some (.string a0_5) ∧ w'.cell? ⟨b, 6, none⟩ = some (.string a0_6) ∧ w'.cell? ⟨b, 7, none⟩ = some (.bool true) ∧ w'.cell? ⟨b, 8, none⟩ = some (.bool true)) (ds := []) (held9_ a.out) (fun hHeld => ?_); refine with_tabW impl_UrlOK.tab7 impl_UrlOK.bits7 (fun HT_ HW_ => ?_); generalize an.drew = lg at a HB hHeld ⊢; refine pU_ ?_; refine tU_ ?_; refine oU_ (fun K hK => ?_); refine gU_ Tryz.func69 #[.string a0_1, .string (⟨#[47, 63, 35, 64]⟩ : ByteArray)] ?_; with_reducible refine (strings_ContainsAny.calls a0_1 (⟨#[47, 63, 35, 64]⟩ : ByteArray) false _ i.out).mono ?_
              rintro e lh ⟨rfl, hb⟩; refine ⟨_, rfl, ?_⟩; replace a := blkK_ a hb; replace HB := belB_ hb; (try clear hb); refine hK.out _ _ (held9_ a.out) (fun hHeld => ?_); clear hK K; refine nU_ ?_; iterate 3 refine pU_ ?_
              refine tU_ ?_; refine oU_ (fun K hK => ?_); refine gU_ Tryz.func70 #[.string a0_2] ?_; with_reducible refine (impl_isHost.calls j a0_2 true _ l.out).mono ?_
              rintro e w' ⟨rfl, ⟨nd, rfl⟩⟩; refine ⟨_, rfl, ?_⟩; refine hK.out _ _ (held9_ a.out) (fun hHeld => ?_); clear hK K; refine nU_ ?_; iterate 3 refine pU_ ?_
              refine tU_ ?_; refine oU_ (fun K hK => ?_); refine gU_ Tryz.func71 #[.int .i64 a0_3, .int .i64 0, .int .i64 65535] ?_; with_reducible refine (impl_within.calls a0_3 0 65535 true _ m.out).mono ?_
              rintro e w' ⟨rfl, ⟨nd, rfl⟩⟩; refine ⟨_, rfl, ?_⟩; refine hK.out _ _ (held9_ a.out) (fun hHeld => ?_); clear hK K; refine nU_ ?_; iterate 3 refine pU_ ?_
              refine pUX_ 17 ?_; refine tU_ ?_; refine aU_ ?_; refine tU_ ?_; refine oU_ (fun K hK => ?_); refine gU_ Tryz.func72 #[.string a0_0] ?_; with_reducible refine (impl_usual.calls a0_0 c _ p.out).mono ?_
              rintro e w' ⟨rfl, ⟨nd, rfl⟩⟩; refine ⟨_, rfl, ?_⟩; refine hK.out _ _ (held9_ a.out) (fun hHeld => ?_); clear hK K; refine nU_ ?_; iterate 4 refine pU_ ?_
              refine tU_ ?_; refine oU_ (fun K hK => ?_); refine gU_ Tryz.func73 #[.string a0_4, .string (⟨#[47]⟩ : ByteArray)] ?_; with_reducible refine (strings_HasPrefix.calls a0_4 (⟨#[47]⟩ : ByteArray) true _ v.out).mono ?_
              rintro e w' ⟨rfl, ⟨nd, rfl⟩⟩; refine ⟨_, rfl, ?_⟩; refine hK.out _ _ (held9_ a.out) (fun hHeld => ?_); clear hK K; refine nU_ ?_; iterate 3 refine pU_ ?_
              refine tU_ ?_; refine oU_ (fun K hK => ?_); refine gU_ Tryz.func74 #[.string a0_5, .string (⟨#[35]⟩ : ByteArray)] ?_; with_reducible refine (strings_Contains.calls a0_5 (⟨#[35]⟩ : ByteArray) false _ y.out).mono ?_
              rintro e w' ⟨rfl, ⟨nd, rfl⟩⟩; refine ⟨_, rfl, ?_⟩; refine hK.out _ _ (held9_ a.out) (fun hHeld => ?_); clear hK K; refine nU_ ?_; iterate 4 refine pU_ ?_
              refine tU_ ?_; refine pU_ ?_; iterate 3 refine sU_ ?_
              iterate 4 refine pU_ ?_
              refine tU_ ?_; refine pU_ ?_; iterate 3 refine sU_ ?_
              iterate 3 refine pU_ ?_
              refine doneU_ ?_; try go_wp2
              go_ret; exact ⟨retE_, belE_⟩
             ·
              replace Q := Bool.eq_false_iff.mpr Q; subst Q; replace H := ifF_ H; obtain rfl := Option.some.inj H; obtain ⟨hw, hx, hy, hz, hA, hB, hC, hD, hE, hF, hG, hH, hI, hJ, hL, hN, hO, hP⟩ := cz9_ a; try go_wp2_with (first | ((with_reducible refine gate_callee (f := 69) rfl ?_); refine cU_ (some 55) Tryz.func69 #[.string a0_4, .string (⟨#[63, 35]⟩ : ByteArray)] ?_; (with_reducible refine (strings_ContainsAny.calls a0_4 (⟨#[63, 35]⟩ : ByteArray) false _ d.out).mono ?_); rintro e li ⟨rfl, hb⟩; refine ⟨_, rfl, ?_⟩; replace a := blkK_ a hb; replace HB := belB_ hb; (try clear hb); obtain ⟨hQ, hR, hS, hT, hU, hV, hW, hX, hY, hZ, h_, i0, i1, i2, i3, i4, i5, i6⟩ := cz9_ a) | ((with_reducible refine gate_callee (f := 59) rfl ?_); refine cU_ (some 57) Tryz.func59 #[.agg #[.string a0_0, .string a0_1, .string a0_2, .int .i64 a0_3, .string a0_4, .string a0_5, .string a0_6, .bool true, .bool false]] ?_; (with_reducible refine (impl_Url_web.calls a0_0 a0_1 a0_2 a0_3 a0_4 a0_5 a0_6 true false true _ g.out).mono ?_); rintro e ao ⟨rfl, hb⟩; refine ⟨_, rfl, ?_⟩; replace a := blkK_ a hb; replace HB := belB_ hb; (try clear hb)))
              replace a := Aside0.mk (blk_drew a.out); replace HB := Aside0.mk (below_drew1 HB.out); refine startU_ (n := 52) (S := fun w' => w'.cell? ⟨b, 0, none⟩ = some (.string a0_0) ∧ w'.cell? ⟨b, 1, none⟩ = some (.string a0_1) ∧ w'.cell? ⟨b, 2, none⟩ = some (.string a0_2) ∧ w'.cell? ⟨b, 3, none⟩ = some (.int .i64 a0_3) ∧ w'.cell? ⟨b, 4, none⟩ = some (.string a0_4) ∧ w'.cell? ⟨b, 5, none⟩ = some (.string a0_5) ∧ w'.cell? ⟨b, 6, none⟩ = some (.string a0_6) ∧ w'.cell? ⟨b, 7, none⟩ = some (.bool true) ∧ w'.cell? ⟨b, 8, none⟩ = some (.bool false)) (ds := []) (held9_ a.out) (fun hHeld => ?_); refine with_tabW impl_UrlOK.tab7 impl_UrlOK.bits7 (fun HT_ HW_ => ?_); generalize ao.drew = lj at a HB hHeld ⊢; refine pU_ ?_; refine tU_ ?_; refine oU_ (fun K hK => ?_); refine gU_ Tryz.func69 #[.string a0_1, .string (⟨#[47, 63, 35, 64]⟩ : ByteArray)] ?_; with_reducible refine (strings_ContainsAny.calls a0_1 (⟨#[47, 63, 35, 64]⟩ : ByteArray) false _ i.out).mono ?_
              rintro e lk ⟨rfl, hb⟩; refine ⟨_, rfl, ?_⟩; replace a := blkK_ a hb; replace HB := belB_ hb; (try clear hb); refine hK.out _ _ (held9_ a.out) (fun hHeld => ?_); clear hK K; refine nU_ ?_; iterate 3 refine pU_ ?_
              refine tU_ ?_; refine oU_ (fun K hK => ?_); refine gU_ Tryz.func70 #[.string a0_2] ?_; with_reducible refine (impl_isHost.calls j a0_2 true _ l.out).mono ?_
              rintro e w' ⟨rfl, ⟨nd, rfl⟩⟩; refine ⟨_, rfl, ?_⟩; refine hK.out _ _ (held9_ a.out) (fun hHeld => ?_); clear hK K; refine nU_ ?_; iterate 3 refine pU_ ?_
              refine tU_ ?_; refine oU_ (fun K hK => ?_); refine gU_ Tryz.func71 #[.int .i64 a0_3, .int .i64 0, .int .i64 65535] ?_; with_reducible refine (impl_within.calls a0_3 0 65535 true _ m.out).mono ?_
              rintro e w' ⟨rfl, ⟨nd, rfl⟩⟩; refine ⟨_, rfl, ?_⟩; refine hK.out _ _ (held9_ a.out) (fun hHeld => ?_); clear hK K; refine nU_ ?_; iterate 3 refine pU_ ?_
              refine pUX_ 17 ?_; refine tU_ ?_; refine aU_ ?_; refine tU_ ?_; refine oU_ (fun K hK => ?_); refine gU_ Tryz.func72 #[.string a0_0] ?_; with_reducible refine (impl_usual.calls a0_0 c _ p.out).mono ?_
              rintro e w' ⟨rfl, ⟨nd, rfl⟩⟩; refine ⟨_, rfl, ?_⟩; refine hK.out _ _ (held9_ a.out) (fun hHeld => ?_); clear hK K; refine nU_ ?_; iterate 4 refine pU_ ?_
              refine tU_ ?_; refine oU_ (fun K hK => ?_); refine gU_ Tryz.func73 #[.string a0_4, .string (⟨#[47]⟩ : ByteArray)] ?_; with_reducible refine (strings_HasPrefix.calls a0_4 (⟨#[47]⟩ : ByteArray) true _ v.out).mono ?_
              rintro e w' ⟨rfl, ⟨nd, rfl⟩⟩; refine ⟨_, rfl, ?_⟩; refine hK.out _ _ (held9_ a.out) (fun hHeld => ?_); clear hK K; refine nU_ ?_; iterate 3 refine pU_ ?_
              refine tU_ ?_; refine oU_ (fun K hK => ?_); refine gU_ Tryz.func74 #[.string a0_5, .string (⟨#[35]⟩ : ByteArray)] ?_; with_reducible refine (strings_Contains.calls a0_5 (⟨#[35]⟩ : ByteArray) false _ y.out).mono ?_
              rintro e w' ⟨rfl, ⟨nd, rfl⟩⟩; refine ⟨_, rfl, ?_⟩; refine hK.out _ _ (held9_ a.out) (fun hHeld => ?_); clear hK K; refine nU_ ?_; iterate 4 refine pU_ ?_
              refine tU_ ?_; refine pU_ ?_; iterate 3 refine sU_ ?_
              iterate 4 refine pU_ ?_
              refine tU_ ?_; iterate 2 refine pU_ ?_
              refine tU_ ?_; iterate 4 refine pU_ ?_
              refine doneU_ ?_; try go_wp2
              go_ret; exact ⟨retE_, belE_⟩
            ·
             replace P := Bool.eq_false_iff.mpr P; subst P; replace H := ifF_ H; by_cases o : a0_5.toList = ([] : List UInt8)
             ·
              rw [if_pos o] at H; have a4 : (a0_5.toList == ([] : List UInt8)) = true := beq_iff_eq.mpr o; have a5 : (a0_5.toList != ([] : List UInt8)) = false := bne_eq_false_iff_eq.mpr o; (try (have a6 : a0_5.toList.isEmpty = true := by simpa using o)); clear o; by_cases R : a0_8 = true
              ·
               subst R; replace H := ifT_ H; obtain rfl := Option.some.inj H; obtain ⟨i7, i8, i9, ia, ib, ic, ie, ig, ih, ii, ij, ik, il, im, io, ip, iq, ir⟩ := cz9_ a; try go_wp2_with (first | ((with_reducible refine gate_callee (f := 69) rfl ?_); refine cU_ (some 55) Tryz.func69 #[.string a0_4, .string (⟨#[63, 35]⟩ : ByteArray)] ?_; (with_reducible refine (strings_ContainsAny.calls a0_4 (⟨#[63, 35]⟩ : ByteArray) false _ d.out).mono ?_); rintro e ll ⟨rfl, hb⟩; refine ⟨_, rfl, ?_⟩; replace a := blkK_ a hb; replace HB := belB_ hb; (try clear hb); obtain ⟨iu, iv, iw, ix, iy, iz, iA, iB, iC, iD, iE, iF, iG, iH, iI, iJ, iK, iL⟩ := cz9_ a) | ((with_reducible refine gate_callee (f := 59) rfl ?_); refine cU_ (some 57) Tryz.func59 #[.agg #[.string a0_0, .string a0_1, .string a0_2, .int .i64 a0_3, .string a0_4, .string a0_5, .string a0_6, .bool false, .bool true]] ?_; (with_reducible refine (impl_Url_web.calls a0_0 a0_1 a0_2 a0_3 a0_4 a0_5 a0_6 false true true _ g.out).mono ?_); rintro e ap ⟨rfl, hb⟩; refine ⟨_, rfl, ?_⟩; replace a := blkK_ a hb; replace HB := belB_ hb; (try clear hb)))
               replace a := Aside0.mk (blk_drew a.out); replace HB := Aside0.mk (below_drew1 HB.out); refine startU_ (n := 52) (S := fun w' => w'.cell? ⟨b, 0, none⟩ = some (.string a0_0) ∧ w'.cell? ⟨b, 1, none⟩ = some (.string a0_1) ∧ w'.cell? ⟨b, 2, none⟩ = some (.string a0_2) ∧ w'.cell? ⟨b, 3, none⟩ = some (.int .i64 a0_3) ∧ w'.cell? ⟨b, 4, none⟩ = some (.string a0_4) ∧ w'.cell? ⟨b, 5, none⟩ = some (.string a0_5) ∧ w'.cell? ⟨b, 6, none⟩ = some (.string a0_6) ∧ w'.cell? ⟨b, 7, none⟩ = some (.bool false) ∧ w'.cell? ⟨b, 8, none⟩ = some (.bool true)) (ds := []) (held9_ a.out) (fun hHeld => ?_); refine with_tabW impl_UrlOK.tab7 impl_UrlOK.bits7 (fun HT_ HW_ => ?_); generalize ap.drew = lm at a HB hHeld ⊢; refine pU_ ?_; refine tU_ ?_; refine oU_ (fun K hK => ?_); refine gU_ Tryz.func69 #[.string a0_1, .string (⟨#[47, 63, 35, 64]⟩ : ByteArray)] ?_; with_reducible refine (strings_ContainsAny.calls a0_1 (⟨#[47, 63, 35, 64]⟩ : ByteArray) false _ i.out).mono ?_
               rintro e ln ⟨rfl, hb⟩; refine ⟨_, rfl, ?_⟩; replace a := blkK_ a hb; replace HB := belB_ hb; (try clear hb); refine hK.out _ _ (held9_ a.out) (fun hHeld => ?_); clear hK K; refine nU_ ?_; iterate 3 refine pU_ ?_
               refine tU_ ?_; refine oU_ (fun K hK => ?_); refine gU_ Tryz.func70 #[.string a0_2] ?_; with_reducible refine (impl_isHost.calls j a0_2 true _ l.out).mono ?_
               rintro e w' ⟨rfl, ⟨nd, rfl⟩⟩; refine ⟨_, rfl, ?_⟩; refine hK.out _ _ (held9_ a.out) (fun hHeld => ?_); clear hK K; refine nU_ ?_; iterate 3 refine pU_ ?_
               refine tU_ ?_; refine oU_ (fun K hK => ?_); refine gU_ Tryz.func71 #[.int .i64 a0_3, .int .i64 0, .int .i64 65535] ?_; with_reducible refine (impl_within.calls a0_3 0 65535 true _ m.out).mono ?_
               rintro e w' ⟨rfl, ⟨nd, rfl⟩⟩; refine ⟨_, rfl, ?_⟩; refine hK.out _ _ (held9_ a.out) (fun hHeld => ?_); clear hK K; refine nU_ ?_; iterate 3 refine pU_ ?_
               refine pUX_ 17 ?_; refine tU_ ?_; refine aU_ ?_; refine tU_ ?_; refine oU_ (fun K hK => ?_); refine gU_ Tryz.func72 #[.string a0_0] ?_; with_reducible refine (impl_usual.calls a0_0 c _ p.out).mono ?_
               rintro e w' ⟨rfl, ⟨nd, rfl⟩⟩; refine ⟨_, rfl, ?_⟩; refine hK.out _ _ (held9_ a.out) (fun hHeld => ?_); clear hK K; refine nU_ ?_; iterate 4 refine pU_ ?_
               refine tU_ ?_; refine oU_ (fun K hK => ?_); refine gU_ Tryz.func73 #[.string a0_4, .string (⟨#[47]⟩ : ByteArray)] ?_; with_reducible refine (strings_HasPrefix.calls a0_4 (⟨#[47]⟩ : ByteArray) true _ v.out).mono ?_
               rintro e w' ⟨rfl, ⟨nd, rfl⟩⟩; refine ⟨_, rfl, ?_⟩; refine hK.out _ _ (held9_ a.out) (fun hHeld => ?_); clear hK K; refine nU_ ?_; iterate 3 refine pU_ ?_
               refine tU_ ?_; refine oU_ (fun K hK => ?_); refine gU_ Tryz.func74 #[.string a0_5, .string (⟨#[35]⟩ : ByteArray)] ?_; with_reducible refine (strings_Contains.calls a0_5 (⟨#[35]⟩ : ByteArray) false _ y.out).mono ?_
               rintro e w' ⟨rfl, ⟨nd, rfl⟩⟩; refine ⟨_, rfl, ?_⟩; refine hK.out _ _ (held9_ a.out) (fun hHeld => ?_); clear hK K; refine nU_ ?_; iterate 4 refine pU_ ?_
               refine tU_ ?_; iterate 2 refine pU_ ?_
               refine tU_ ?_; iterate 5 refine pU_ ?_
               refine tU_ ?_; refine pU_ ?_; iterate 3 refine sU_ ?_
               iterate 3 refine pU_ ?_
               refine doneU_ ?_; try go_wp2
               go_ret; exact ⟨retE_, belE_⟩
              ·
               replace R := Bool.eq_false_iff.mpr R; subst R; replace H := ifF_ H; obtain rfl := Option.some.inj H; obtain ⟨iM, iN, iO, iP, iQ, iR, iS, iT, iU, iV, iW, iX, iY, iZ, i_, j1, j2, j3⟩ := cz9_ a; try go_wp2_with (first | ((with_reducible refine gate_callee (f := 69) rfl ?_); refine cU_ (some 55) Tryz.func69 #[.string a0_4, .string (⟨#[63, 35]⟩ : ByteArray)] ?_; (with_reducible refine (strings_ContainsAny.calls a0_4 (⟨#[63, 35]⟩ : ByteArray) false _ d.out).mono ?_); rintro e lo ⟨rfl, hb⟩; refine ⟨_, rfl, ?_⟩; replace a := blkK_ a hb; replace HB := belB_ hb; (try clear hb); obtain ⟨j4, j5, j6, j7, j8, j9, ja, jb, jc, jd, je, jf, jg, jh, ji, jj, jk, jl⟩ := cz9_ a) | ((with_reducible refine gate_callee (f := 59) rfl ?_); refine cU_ (some 57) Tryz.func59 #[.agg #[.string a0_0, .string a0_1, .string a0_2, .int .i64 a0_3, .string a0_4, .string a0_5, .string a0_6, .bool false, .bool false]] ?_; (with_reducible refine (impl_Url_web.calls a0_0 a0_1 a0_2 a0_3 a0_4 a0_5 a0_6 false false true _ g.out).mono ?_); rintro e aq ⟨rfl, hb⟩; refine ⟨_, rfl, ?_⟩; replace a := blkK_ a hb; replace HB := belB_ hb; (try clear hb)))
               replace a := Aside0.mk (blk_drew a.out); replace HB := Aside0.mk (below_drew1 HB.out); refine startU_ (n := 52) (S := fun w' => w'.cell? ⟨b, 0, none⟩ = some (.string a0_0) ∧ w'.cell? ⟨b, 1, none⟩ = some (.string a0_1) ∧ w'.cell? ⟨b, 2, none⟩ = some (.string a0_2) ∧ w'.cell? ⟨b, 3, none⟩ = some (.int .i64 a0_3) ∧ w'.cell? ⟨b, 4, none⟩ = some (.string a0_4) ∧ w'.cell? ⟨b, 5, none⟩ = some (.string a0_5) ∧ w'.cell? ⟨b, 6, none⟩ = some (.string a0_6) ∧ w'.cell? ⟨b, 7, none⟩ = some (.bool false) ∧ w'.cell? ⟨b, 8, none⟩ = some (.bool false)) (ds := []) (held9_ a.out) (fun hHeld => ?_); refine with_tabW impl_UrlOK.tab7 impl_UrlOK.bits7 (fun HT_ HW_ => ?_); generalize aq.drew = lp at a HB hHeld ⊢; refine pU_ ?_; refine tU_ ?_; refine oU_ (fun K hK => ?_); refine gU_ Tryz.func69 #[.string a0_1, .string (⟨#[47, 63, 35, 64]⟩ : ByteArray)] ?_; with_reducible refine (strings_ContainsAny.calls a0_1 (⟨#[47, 63, 35, 64]⟩ : ByteArray) false _ i.out).mono ?_
               rintro e lq ⟨rfl, hb⟩; refine ⟨_, rfl, ?_⟩; replace a := blkK_ a hb; replace HB := belB_ hb; (try clear hb); refine hK.out _ _ (held9_ a.out) (fun hHeld => ?_); clear hK K; refine nU_ ?_; iterate 3 refine pU_ ?_
               refine tU_ ?_; refine oU_ (fun K hK => ?_); refine gU_ Tryz.func70 #[.string a0_2] ?_; with_reducible refine (impl_isHost.calls j a0_2 true _ l.out).mono ?_
               rintro e w' ⟨rfl, ⟨nd, rfl⟩⟩; refine ⟨_, rfl, ?_⟩; refine hK.out _ _ (held9_ a.out) (fun hHeld => ?_); clear hK K; refine nU_ ?_; iterate 3 refine pU_ ?_
               refine tU_ ?_; refine oU_ (fun K hK => ?_); refine gU_ Tryz.func71 #[.int .i64 a0_3, .int .i64 0, .int .i64 65535] ?_; with_reducible refine (impl_within.calls a0_3 0 65535 true _ m.out).mono ?_
               rintro e w' ⟨rfl, ⟨nd, rfl⟩⟩; refine ⟨_, rfl, ?_⟩; refine hK.out _ _ (held9_ a.out) (fun hHeld => ?_); clear hK K; refine nU_ ?_; iterate 3 refine pU_ ?_
               refine pUX_ 17 ?_; refine tU_ ?_; refine aU_ ?_; refine tU_ ?_; refine oU_ (fun K hK => ?_); refine gU_ Tryz.func72 #[.string a0_0] ?_; with_reducible refine (impl_usual.calls a0_0 c _ p.out).mono ?_
               rintro e w' ⟨rfl, ⟨nd, rfl⟩⟩; refine ⟨_, rfl, ?_⟩; refine hK.out _ _ (held9_ a.out) (fun hHeld => ?_); clear hK K; refine nU_ ?_; iterate 4 refine pU_ ?_
               refine tU_ ?_; refine oU_ (fun K hK => ?_); refine gU_ Tryz.func73 #[.string a0_4, .string (⟨#[47]⟩ : ByteArray)] ?_; with_reducible refine (strings_HasPrefix.calls a0_4 (⟨#[47]⟩ : ByteArray) true _ v.out).mono ?_
               rintro e w' ⟨rfl, ⟨nd, rfl⟩⟩; refine ⟨_, rfl, ?_⟩; refine hK.out _ _ (held9_ a.out) (fun hHeld => ?_); clear hK K; refine nU_ ?_; iterate 3 refine pU_ ?_
               refine tU_ ?_; refine oU_ (fun K hK => ?_); refine gU_ Tryz.func74 #[.string a0_5, .string (⟨#[35]⟩ : ByteArray)] ?_; with_reducible refine (strings_Contains.calls a0_5 (⟨#[35]⟩ : ByteArray) false _ y.out).mono ?_
               rintro e w' ⟨rfl, ⟨nd, rfl⟩⟩; refine ⟨_, rfl, ?_⟩; refine hK.out _ _ (held9_ a.out) (fun hHeld => ?_); clear hK K; refine nU_ ?_; iterate 4 refine pU_ ?_
               refine tU_ ?_; iterate 2 refine pU_ ?_
               refine tU_ ?_; iterate 5 refine pU_ ?_
               refine tU_ ?_; iterate 2 refine pU_ ?_
               refine tU_ ?_; iterate 4 refine pU_ ?_
               refine doneU_ ?_; try go_wp2
               go_ret; exact ⟨retE_, belE_⟩
             ·
              rw [if_neg o] at H; have a4 : (a0_5.toList == ([] : List UInt8)) = false := beq_eq_false_iff_ne.mpr o; have a5 : (a0_5.toList != ([] : List UInt8)) = true := bne_iff_ne.mpr o; (try (have a6 : a0_5.toList.isEmpty = false := by simpa using o)); obtain rfl := Option.some.inj H; obtain ⟨jm, jn, jo, jp, jq, jr, js, jt, ju, jv, jw, jx, jy, jz, jA, jB, jC, jD⟩ := cz9_ a; try go_wp2_with (first | ((with_reducible refine gate_callee (f := 69) rfl ?_); refine cU_ (some 55) Tryz.func69 #[.string a0_4, .string (⟨#[63, 35]⟩ : ByteArray)] ?_; (with_reducible refine (strings_ContainsAny.calls a0_4 (⟨#[63, 35]⟩ : ByteArray) false _ d.out).mono ?_); rintro e lr ⟨rfl, hb⟩; refine ⟨_, rfl, ?_⟩; replace a := blkK_ a hb; replace HB := belB_ hb; (try clear hb); obtain ⟨jE, jF, jG, jH, jI, jJ, jK, jL, jM, jN, jO, jP, jQ, jR, jS, jT, jU, jV⟩ := cz9_ a) | ((with_reducible refine gate_callee (f := 59) rfl ?_); refine cU_ (some 57) Tryz.func59 #[.agg #[.string a0_0, .string a0_1, .string a0_2, .int .i64 a0_3, .string a0_4, .string a0_5, .string a0_6, .bool false, .bool a0_8]] ?_; (with_reducible refine (impl_Url_web.calls a0_0 a0_1 a0_2 a0_3 a0_4 a0_5 a0_6 false a0_8 true _ g.out).mono ?_); rintro e ar ⟨rfl, hb⟩; refine ⟨_, rfl, ?_⟩; replace a := blkK_ a hb; replace HB := belB_ hb; (try clear hb)))
              replace a := Aside0.mk (blk_drew a.out); replace HB := Aside0.mk (below_drew1 HB.out); refine startU_ (n := 52) (S := fun w' => w'.cell? ⟨b, 0, none⟩ = some (.string a0_0) ∧ w'.cell? ⟨b, 1, none⟩ = some (.string a0_1) ∧ w'.cell? ⟨b, 2, none⟩ = some (.string a0_2) ∧ w'.cell? ⟨b, 3, none⟩ = some (.int .i64 a0_3) ∧ w'.cell? ⟨b, 4, none⟩ = some (.string a0_4) ∧ w'.cell? ⟨b, 5, none⟩ = some (.string a0_5) ∧ w'.cell? ⟨b, 6, none⟩ = some (.string a0_6) ∧ w'.cell? ⟨b, 7, none⟩ = some (.bool false) ∧ w'.cell? ⟨b, 8, none⟩ = some (.bool a0_8)) (ds := []) (held9_ a.out) (fun hHeld => ?_); refine with_tabW impl_UrlOK.tab7 impl_UrlOK.bits7 (fun HT_ HW_ => ?_); generalize ar.drew = ls at a HB hHeld ⊢; refine pU_ ?_; refine tU_ ?_; refine oU_ (fun K hK => ?_); refine gU_ Tryz.func69 #[.string a0_1, .string (⟨#[47, 63, 35, 64]⟩ : ByteArray)] ?_; with_reducible refine (strings_ContainsAny.calls a0_1 (⟨#[47, 63, 35, 64]⟩ : ByteArray) false _ i.out).mono ?_
              rintro e lu ⟨rfl, hb⟩; refine ⟨_, rfl, ?_⟩; replace a := blkK_ a hb; replace HB := belB_ hb; (try clear hb); refine hK.out _ _ (held9_ a.out) (fun hHeld => ?_); clear hK K; refine nU_ ?_; iterate 3 refine pU_ ?_
              refine tU_ ?_; refine oU_ (fun K hK => ?_); refine gU_ Tryz.func70 #[.string a0_2] ?_; with_reducible refine (impl_isHost.calls j a0_2 true _ l.out).mono ?_
              rintro e w' ⟨rfl, ⟨nd, rfl⟩⟩; refine ⟨_, rfl, ?_⟩; refine hK.out _ _ (held9_ a.out) (fun hHeld => ?_); clear hK K; refine nU_ ?_; iterate 3 refine pU_ ?_
              refine tU_ ?_; refine oU_ (fun K hK => ?_); refine gU_ Tryz.func71 #[.int .i64 a0_3, .int .i64 0, .int .i64 65535] ?_; with_reducible refine (impl_within.calls a0_3 0 65535 true _ m.out).mono ?_
              rintro e w' ⟨rfl, ⟨nd, rfl⟩⟩; refine ⟨_, rfl, ?_⟩; refine hK.out _ _ (held9_ a.out) (fun hHeld => ?_); clear hK K; refine nU_ ?_; iterate 3 refine pU_ ?_
              refine pUX_ 17 ?_; refine tU_ ?_; refine aU_ ?_; refine tU_ ?_; refine oU_ (fun K hK => ?_); refine gU_ Tryz.func72 #[.string a0_0] ?_; with_reducible refine (impl_usual.calls a0_0 c _ p.out).mono ?_
              rintro e w' ⟨rfl, ⟨nd, rfl⟩⟩; refine ⟨_, rfl, ?_⟩; refine hK.out _ _ (held9_ a.out) (fun hHeld => ?_); clear hK K; refine nU_ ?_; iterate 4 refine pU_ ?_
              refine tU_ ?_; refine oU_ (fun K hK => ?_); refine gU_ Tryz.func73 #[.string a0_4, .string (⟨#[47]⟩ : ByteArray)] ?_; with_reducible refine (strings_HasPrefix.calls a0_4 (⟨#[47]⟩ : ByteArray) true _ v.out).mono ?_
              rintro e w' ⟨rfl, ⟨nd, rfl⟩⟩; refine ⟨_, rfl, ?_⟩; refine hK.out _ _ (held9_ a.out) (fun hHeld => ?_); clear hK K; refine nU_ ?_; iterate 3 refine pU_ ?_
              refine tU_ ?_; refine oU_ (fun K hK => ?_); refine gU_ Tryz.func74 #[.string a0_5, .string (⟨#[35]⟩ : ByteArray)] ?_; with_reducible refine (strings_Contains.calls a0_5 (⟨#[35]⟩ : ByteArray) false _ y.out).mono ?_
              rintro e w' ⟨rfl, ⟨nd, rfl⟩⟩; refine ⟨_, rfl, ?_⟩; refine hK.out _ _ (held9_ a.out) (fun hHeld => ?_); clear hK K; refine nU_ ?_; iterate 4 refine pU_ ?_
              refine tU_ ?_; iterate 2 refine pU_ ?_
              refine tU_ ?_; iterate 4 refine pU_ ?_
              iterate 7 refine sU_ ?_
              iterate 2 refine pU_ ?_
              refine doneU_ ?_; try go_wp2
              go_ret; exact ⟨retE_, belE_⟩
          ·
           replace M := Bool.eq_false_iff.mpr M; subst M; replace H := ifF_ H; obtain rfl := Option.some.inj H; obtain ⟨jW, jX, jY, jZ, j_, k0, k1, k2, k3, k4, k5, k6, k7, k8, k9, ka, kb, kc⟩ := cz9_ a; try go_wp2_with (first | ((with_reducible refine gate_callee (f := 69) rfl ?_); refine cU_ (some 55) Tryz.func69 #[.string a0_4, .string (⟨#[63, 35]⟩ : ByteArray)] ?_; (with_reducible refine (strings_ContainsAny.calls a0_4 (⟨#[63, 35]⟩ : ByteArray) false _ d.out).mono ?_); rintro e kO ⟨rfl, hb⟩; refine ⟨_, rfl, ?_⟩; replace a := blkK_ a hb; replace HB := belB_ hb; (try clear hb); obtain ⟨au, av, aw, ax, ay, az, aA, aB, aC, aD, aE, aF, aG, aH, aI, aJ, aK, aL⟩ := cz9_ a) | ((with_reducible refine gate_callee (f := 59) rfl ?_); refine cU_ (some 57) Tryz.func59 #[.agg #[.string a0_0, .string a0_1, .string a0_2, .int .i64 a0_3, .string a0_4, .string a0_5, .string a0_6, .bool a0_7, .bool a0_8]] ?_; (with_reducible refine (impl_Url_web.calls a0_0 a0_1 a0_2 a0_3 a0_4 a0_5 a0_6 a0_7 a0_8 true _ g.out).mono ?_); rintro e af ⟨rfl, hb⟩; refine ⟨_, rfl, ?_⟩; replace a := blkK_ a hb; replace HB := belB_ hb; (try clear hb)))
           replace a := Aside0.mk (blk_drew a.out); replace HB := Aside0.mk (below_drew1 HB.out); refine startU_ (n := 52) (S := fun w' => w'.cell? ⟨b, 0, none⟩ = some (.string a0_0) ∧ w'.cell? ⟨b, 1, none⟩ = some (.string a0_1) ∧ w'.cell? ⟨b, 2, none⟩ = some (.string a0_2) ∧ w'.cell? ⟨b, 3, none⟩ = some (.int .i64 a0_3) ∧ w'.cell? ⟨b, 4, none⟩ = some (.string a0_4) ∧ w'.cell? ⟨b, 5, none⟩ = some (.string a0_5) ∧ w'.cell? ⟨b, 6, none⟩ = some (.string a0_6) ∧ w'.cell? ⟨b, 7, none⟩ = some (.bool a0_7) ∧ w'.cell? ⟨b, 8, none⟩ = some (.bool a0_8)) (ds := []) (held9_ a.out) (fun hHeld => ?_); refine with_tabW impl_UrlOK.tab7 impl_UrlOK.bits7 (fun HT_ HW_ => ?_); generalize af.drew = kP at a HB hHeld ⊢; refine pU_ ?_; refine tU_ ?_; refine oU_ (fun K hK => ?_); refine gU_ Tryz.func69 #[.string a0_1, .string (⟨#[47, 63, 35, 64]⟩ : ByteArray)] ?_; with_reducible refine (strings_ContainsAny.calls a0_1 (⟨#[47, 63, 35, 64]⟩ : ByteArray) false _ i.out).mono ?_
           rintro e kQ ⟨rfl, hb⟩; refine ⟨_, rfl, ?_⟩; replace a := blkK_ a hb; replace HB := belB_ hb; (try clear hb); refine hK.out _ _ (held9_ a.out) (fun hHeld => ?_); clear hK K; refine nU_ ?_; iterate 3 refine pU_ ?_
           refine tU_ ?_; refine oU_ (fun K hK => ?_); refine gU_ Tryz.func70 #[.string a0_2] ?_; with_reducible refine (impl_isHost.calls j a0_2 true _ l.out).mono ?_
           rintro e w' ⟨rfl, ⟨nd, rfl⟩⟩; refine ⟨_, rfl, ?_⟩; refine hK.out _ _ (held9_ a.out) (fun hHeld => ?_); clear hK K; refine nU_ ?_; iterate 3 refine pU_ ?_
           refine tU_ ?_; refine oU_ (fun K hK => ?_); refine gU_ Tryz.func71 #[.int .i64 a0_3, .int .i64 0, .int .i64 65535] ?_; with_reducible refine (impl_within.calls a0_3 0 65535 true _ m.out).mono ?_
           rintro e w' ⟨rfl, ⟨nd, rfl⟩⟩; refine ⟨_, rfl, ?_⟩; refine hK.out _ _ (held9_ a.out) (fun hHeld => ?_); clear hK K; refine nU_ ?_; iterate 3 refine pU_ ?_
           refine pUX_ 17 ?_; refine tU_ ?_; refine aU_ ?_; refine tU_ ?_; refine oU_ (fun K hK => ?_); refine gU_ Tryz.func72 #[.string a0_0] ?_; with_reducible refine (impl_usual.calls a0_0 c _ p.out).mono ?_
           rintro e w' ⟨rfl, ⟨nd, rfl⟩⟩; refine ⟨_, rfl, ?_⟩; refine hK.out _ _ (held9_ a.out) (fun hHeld => ?_); clear hK K; refine nU_ ?_; iterate 4 refine pU_ ?_
           refine tU_ ?_; refine oU_ (fun K hK => ?_); refine gU_ Tryz.func73 #[.string a0_4, .string (⟨#[47]⟩ : ByteArray)] ?_; with_reducible refine (strings_HasPrefix.calls a0_4 (⟨#[47]⟩ : ByteArray) false _ v.out).mono ?_
           rintro e w' ⟨rfl, ⟨nd, rfl⟩⟩; refine ⟨_, rfl, ?_⟩; refine hK.out _ _ (held9_ a.out) (fun hHeld => ?_); clear hK K; refine nU_ ?_; iterate 2 refine pU_ ?_
           iterate 4 refine sU_ ?_
           iterate 2 refine pU_ ?_
           iterate 7 refine sU_ ?_
           iterate 2 refine pU_ ?_
           iterate 7 refine sU_ ?_
           iterate 2 refine pU_ ?_
           refine doneU_ ?_; try go_wp2
           go_ret; exact ⟨retE_, belE_⟩
        ·
         replace L := Bool.eq_false_iff.mpr L; subst L; replace H := ifF_ H; obtain rfl := Option.some.inj H; obtain ⟨aM, aN, aO, aP, aQ, aR, aS, aT, aU, aV, aW, aX, aY, aZ, a_, b0, b1, b2⟩ := cz9_ a; try go_wp2_with (first | ((with_reducible refine gate_callee (f := 69) rfl ?_); refine cU_ (some 55) Tryz.func69 #[.string a0_4, .string (⟨#[63, 35]⟩ : ByteArray)] ?_; (with_reducible refine (strings_ContainsAny.calls a0_4 (⟨#[63, 35]⟩ : ByteArray) false _ d.out).mono ?_); rintro e kR ⟨rfl, hb⟩; refine ⟨_, rfl, ?_⟩; replace a := blkK_ a hb; replace HB := belB_ hb; (try clear hb); obtain ⟨b3, b4, b5, b6, b7, b8, b9, ba, bb, bc, bd, bf, bg, bh, bi, bj, bk, bl⟩ := cz9_ a) | ((with_reducible refine gate_callee (f := 59) rfl ?_); refine cU_ (some 57) Tryz.func59 #[.agg #[.string a0_0, .string a0_1, .string a0_2, .int .i64 a0_3, .string a0_4, .string a0_5, .string a0_6, .bool a0_7, .bool a0_8]] ?_; (with_reducible refine (impl_Url_web.calls a0_0 a0_1 a0_2 a0_3 a0_4 a0_5 a0_6 a0_7 a0_8 true _ g.out).mono ?_); rintro e ag ⟨rfl, hb⟩; refine ⟨_, rfl, ?_⟩; replace a := blkK_ a hb; replace HB := belB_ hb; (try clear hb)))
         replace a := Aside0.mk (blk_drew a.out); replace HB := Aside0.mk (below_drew1 HB.out); refine startU_ (n := 52) (S := fun w' => w'.cell? ⟨b, 0, none⟩ = some (.string a0_0) ∧ w'.cell? ⟨b, 1, none⟩ = some (.string a0_1) ∧ w'.cell? ⟨b, 2, none⟩ = some (.string a0_2) ∧ w'.cell? ⟨b, 3, none⟩ = some (.int .i64 a0_3) ∧ w'.cell? ⟨b, 4, none⟩ = some (.string a0_4) ∧ w'.cell? ⟨b, 5, none⟩ = some (.string a0_5) ∧ w'.cell? ⟨b, 6, none⟩ = some (.string a0_6) ∧ w'.cell? ⟨b, 7, none⟩ = some (.bool a0_7) ∧ w'.cell? ⟨b, 8, none⟩ = some (.bool a0_8)) (ds := []) (held9_ a.out) (fun hHeld => ?_); refine with_tabW impl_UrlOK.tab7 impl_UrlOK.bits7 (fun HT_ HW_ => ?_); generalize ag.drew = kS at a HB hHeld ⊢; refine pU_ ?_; refine tU_ ?_; refine oU_ (fun K hK => ?_); refine gU_ Tryz.func69 #[.string a0_1, .string (⟨#[47, 63, 35, 64]⟩ : ByteArray)] ?_; with_reducible refine (strings_ContainsAny.calls a0_1 (⟨#[47, 63, 35, 64]⟩ : ByteArray) false _ i.out).mono ?_
         rintro e kT ⟨rfl, hb⟩; refine ⟨_, rfl, ?_⟩; replace a := blkK_ a hb; replace HB := belB_ hb; (try clear hb); refine hK.out _ _ (held9_ a.out) (fun hHeld => ?_); clear hK K; refine nU_ ?_; iterate 3 refine pU_ ?_
         refine tU_ ?_; refine oU_ (fun K hK => ?_); refine gU_ Tryz.func70 #[.string a0_2] ?_; with_reducible refine (impl_isHost.calls j a0_2 true _ l.out).mono ?_
         rintro e w' ⟨rfl, ⟨nd, rfl⟩⟩; refine ⟨_, rfl, ?_⟩; refine hK.out _ _ (held9_ a.out) (fun hHeld => ?_); clear hK K; refine nU_ ?_; iterate 3 refine pU_ ?_
         refine tU_ ?_; refine oU_ (fun K hK => ?_); refine gU_ Tryz.func71 #[.int .i64 a0_3, .int .i64 0, .int .i64 65535] ?_; with_reducible refine (impl_within.calls a0_3 0 65535 false _ m.out).mono ?_
         rintro e w' ⟨rfl, ⟨nd, rfl⟩⟩; refine ⟨_, rfl, ?_⟩; refine hK.out _ _ (held9_ a.out) (fun hHeld => ?_); clear hK K; refine nU_ ?_; iterate 2 refine pU_ ?_
         iterate 6 refine sU_ ?_
         iterate 2 refine pU_ ?_
         iterate 3 refine sU_ ?_
         iterate 2 refine pU_ ?_
         iterate 4 refine sU_ ?_
         iterate 2 refine pU_ ?_
         iterate 7 refine sU_ ?_
         iterate 2 refine pU_ ?_
         iterate 7 refine sU_ ?_
         iterate 2 refine pU_ ?_
         refine doneU_ ?_; try go_wp2
         go_ret; exact ⟨retE_, belE_⟩
       ·
        replace J := Bool.eq_false_iff.mpr J; subst J; replace H := ifF_ H; obtain rfl := Option.some.inj H; obtain ⟨bm, bn, bo, bp, bq, br, bs, bt, bu, bv, bw, bx, bz, bA, bB, bC, bD, bE⟩ := cz9_ a; try go_wp2_with (first | ((with_reducible refine gate_callee (f := 69) rfl ?_); refine cU_ (some 55) Tryz.func69 #[.string a0_4, .string (⟨#[63, 35]⟩ : ByteArray)] ?_; (with_reducible refine (strings_ContainsAny.calls a0_4 (⟨#[63, 35]⟩ : ByteArray) false _ d.out).mono ?_); rintro e kU ⟨rfl, hb⟩; refine ⟨_, rfl, ?_⟩; replace a := blkK_ a hb; replace HB := belB_ hb; (try clear hb); obtain ⟨bF, bG, bH, bI, bJ, bK, bL, bM, bN, bO, bP, bQ, bR, bS, bT, bU, bV, bW⟩ := cz9_ a) | ((with_reducible refine gate_callee (f := 59) rfl ?_); refine cU_ (some 57) Tryz.func59 #[.agg #[.string a0_0, .string a0_1, .string a0_2, .int .i64 a0_3, .string a0_4, .string a0_5, .string a0_6, .bool a0_7, .bool a0_8]] ?_; (with_reducible refine (impl_Url_web.calls a0_0 a0_1 a0_2 a0_3 a0_4 a0_5 a0_6 a0_7 a0_8 true _ g.out).mono ?_); rintro e ah ⟨rfl, hb⟩; refine ⟨_, rfl, ?_⟩; replace a := blkK_ a hb; replace HB := belB_ hb; (try clear hb)))
        replace a := Aside0.mk (blk_drew a.out); replace HB := Aside0.mk (below_drew1 HB.out); refine startU_ (n := 52) (S := fun w' => w'.cell? ⟨b, 0, none⟩ = some (.string a0_0) ∧ w'.cell? ⟨b, 1, none⟩ = some (.string a0_1) ∧ w'.cell? ⟨b, 2, none⟩ = some (.string a0_2) ∧ w'.cell? ⟨b, 3, none⟩ = some (.int .i64 a0_3) ∧ w'.cell? ⟨b, 4, none⟩ = some (.string a0_4) ∧ w'.cell? ⟨b, 5, none⟩ = some (.string a0_5) ∧ w'.cell? ⟨b, 6, none⟩ = some (.string a0_6) ∧ w'.cell? ⟨b, 7, none⟩ = some (.bool a0_7) ∧ w'.cell? ⟨b, 8, none⟩ = some (.bool a0_8)) (ds := []) (held9_ a.out) (fun hHeld => ?_); refine with_tabW impl_UrlOK.tab7 impl_UrlOK.bits7 (fun HT_ HW_ => ?_); generalize ah.drew = kV at a HB hHeld ⊢; refine pU_ ?_; refine tU_ ?_; refine oU_ (fun K hK => ?_); refine gU_ Tryz.func69 #[.string a0_1, .string (⟨#[47, 63, 35, 64]⟩ : ByteArray)] ?_; with_reducible refine (strings_ContainsAny.calls a0_1 (⟨#[47, 63, 35, 64]⟩ : ByteArray) false _ i.out).mono ?_
        rintro e kW ⟨rfl, hb⟩; refine ⟨_, rfl, ?_⟩; replace a := blkK_ a hb; replace HB := belB_ hb; (try clear hb); refine hK.out _ _ (held9_ a.out) (fun hHeld => ?_); clear hK K; refine nU_ ?_; iterate 3 refine pU_ ?_
        refine tU_ ?_; refine oU_ (fun K hK => ?_); refine gU_ Tryz.func70 #[.string a0_2] ?_; with_reducible refine (impl_isHost.calls j a0_2 false _ l.out).mono ?_
        rintro e w' ⟨rfl, ⟨nd, rfl⟩⟩; refine ⟨_, rfl, ?_⟩; refine hK.out _ _ (held9_ a.out) (fun hHeld => ?_); clear hK K; refine nU_ ?_; iterate 2 refine pU_ ?_
        iterate 3 refine sU_ ?_
        iterate 2 refine pU_ ?_
        iterate 6 refine sU_ ?_
        iterate 2 refine pU_ ?_
        iterate 3 refine sU_ ?_
        iterate 2 refine pU_ ?_
        iterate 4 refine sU_ ?_
        iterate 2 refine pU_ ?_
        iterate 7 refine sU_ ?_
        iterate 2 refine pU_ ?_
        iterate 7 refine sU_ ?_
        iterate 2 refine pU_ ?_
        refine doneU_ ?_; try go_wp2
        go_ret; exact ⟨retE_, belE_⟩
     · replace G := Bool.eq_false_iff.mpr G; subst G; replace H := ifF_ H; obtain rfl := Option.some.inj H; obtain ⟨bX, bY, bZ, b_, c0, c1, c2, c3, c4, c7, c8, c9, ca, cb, cc, cd, ce, cf⟩ := cz9_ a; go_wp2_with (first | ((with_reducible refine gate_callee (f := 69) rfl ?_); refine cU_ (some 55) Tryz.func69 #[.string a0_4, .string (⟨#[63, 35]⟩ : ByteArray)] ?_; (with_reducible refine (strings_ContainsAny.calls a0_4 (⟨#[63, 35]⟩ : ByteArray) false _ d.out).mono ?_); rintro e kX ⟨rfl, hb⟩; refine ⟨_, rfl, ?_⟩; replace a := blkK_ a hb; replace HB := belB_ hb; (try clear hb); obtain ⟨cg, ch, ci, cj, ck, cl, cm, cn, co, cp, cq, cr, ct, cu, cv, cw, cx, cy⟩ := cz9_ a) | ((with_reducible refine gate_callee (f := 59) rfl ?_); refine cU_ (some 57) Tryz.func59 #[.agg #[.string a0_0, .string a0_1, .string a0_2, .int .i64 a0_3, .string a0_4, .string a0_5, .string a0_6, .bool a0_7, .bool a0_8]] ?_; (with_reducible refine (impl_Url_web.calls a0_0 a0_1 a0_2 a0_3 a0_4 a0_5 a0_6 a0_7 a0_8 false _ g.out).mono ?_); rintro e kY ⟨rfl, hb⟩; refine ⟨_, rfl, ?_⟩; replace a := blkK_ a hb; replace HB := belB_ hb; (try clear hb); obtain ⟨cz, cA, cB, cC, cD, cE, cF, cG, cH, cI, cJ, cK, cL, cM, cN, cO, cP, cQ⟩ := cz9_ a)); go_ret; exact ⟨retE_, belE_⟩

end Go.Proofs.YthifpohbdbhnlaaGreatDoor.QFnStp
