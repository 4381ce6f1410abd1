/- A tool of this session wrote this text out of the translation: functions as plain Lean, and proofs that the machine's calls come to their answers. -/
import Derived.Test.YthifpohbdbhnlaaGreatDoorQShort
import Derived.Test.YthifpohbdbhnlaaGreatDoorQFnStripx0
import Derived.Test.YthifpohbdbhnlaaGreatDoorQFnStripx9
import Derived.Test.YthifpohbdbhnlaaGreatDoorQFnStripx10
import Derived.Test.YthifpohbdbhnlaaGreatDoorQFnStripx11
import Derived.Test.YthifpohbdbhnlaaGreatDoorQFnStripx12
namespace Go.Proofs.YthifpohbdbhnlaaGreatDoor.QFnStrip
open Go.RowKit Go.Proofs.YthifpohbdbhnlaaGreatDoorW.PrintWords Go.Proofs.YthifpohbdbhnlaaGreatDoorW.PrintLast Go.Proofs.YthifpohbdbhnlaaGreatDoorW.PrintMore
open Go.Proofs.YthifpohbdbhnlaaGreatDoor.Short
attribute [local go_sem] max2_int min2_int max_two min_two max_three min_three max_four min_four   -- for this text's walks alone
set_option linter.unusedVariables false
set_option linter.unusedSimpArgs false
theorem worldR_ {P : Program} {c : Code} {Q : Exit → Act → World → Prop} {a : Act} {w : World} (R : World → Prop) (h : R w) (k : ∀ w', R w' → c.wp P Q a w') : c.wp P Q a w := k w h

/-! ### impl_parse: function 64 -/
mutual
def impl_parse.j0 : Nat → ByteArray → ByteArray → ByteArray → ByteArray → Int → ByteArray → ByteArray → ByteArray → Bool → Bool → Option (ByteArray × ByteArray × ByteArray × Int × ByteArray × ByteArray × ByteArray × Bool × Bool × Bool)
  | 0, _, _, _, _, _, _, _, _, _, _ => none
  | k + 1, x5, x242000, x242001, x242002, x242003, x242004, x242005, x242006, x242007, x242008 => (strings_Cut.f x5 (⟨#[64]⟩ : ByteArray)).bind fun bt259 => (if bt259.2.2 = true then (impl_parse.j1 k bt259.2.1 x242000 bt259.1 x242002 x242003 x242004 x242005 x242006 x242007 x242008) else (impl_parse.j1 k x5 x242000 x242001 x242002 x242003 x242004 x242005 x242006 x242007 x242008))
def impl_parse.j1 : Nat → ByteArray → ByteArray → ByteArray → ByteArray → Int → ByteArray → ByteArray → ByteArray → Bool → Bool → Option (ByteArray × ByteArray × ByteArray × Int × ByteArray × ByteArray × ByteArray × Bool × Bool × Bool)
  | 0, _, _, _, _, _, _, _, _, _, _ => none
  | k + 1, x5, x242000, x242001, x242002, x242003, x242004, x242005, x242006, x242007, x242008 => (strings_Cut.f x5 (⟨#[58]⟩ : ByteArray)).bind fun bt262 => (if bt262.2.2 = true then ((impl_number.f bt262.2.1).bind fun bt265 => (if bt265.2 = true then ((impl_within.f bt265.1 1 65535).bind fun t267 => (impl_parse.j2 k bt262.1 bt265.1 (!t267) x242000 x242001 x242002 x242003 x242004 x242005 x242006 x242007 x242008)) else (impl_parse.j2 k bt262.1 bt265.1 true x242000 x242001 x242002 x242003 x242004 x242005 x242006 x242007 x242008))) else ((impl_lower.f bt262.1).bind fun t273 => ((impl_UrlOK.f k x242000 x242001 t273 x242003 x242004 x242005 x242006 x242007 x242008).bind fun t274 => (some (x242000, x242001, t273, x242003, x242004, x242005, x242006, x242007, x242008, t274)))))
def impl_parse.j2 : Nat → ByteArray → Int → Bool → ByteArray → ByteArray → ByteArray → Int → ByteArray → ByteArray → ByteArray → Bool → Bool → Option (ByteArray × ByteArray × ByteArray × Int × ByteArray × ByteArray × ByteArray × Bool × Bool × Bool)
  | 0, _, _, _, _, _, _, _, _, _, _, _, _ => none
  | k + 1, x12, x14, x111, x242000, x242001, x242002, x242003, x242004, x242005, x242006, x242007, x242008 => if x111 = true then (some ((⟨#[]⟩ : ByteArray), (⟨#[]⟩ : ByteArray), (⟨#[]⟩ : ByteArray), 0, (⟨#[]⟩ : ByteArray), (⟨#[]⟩ : ByteArray), (⟨#[]⟩ : ByteArray), false, false, false)) else ((impl_usual.f x242000).bind fun t268 => (if x14 = t268 then ((impl_lower.f x12).bind fun t269 => ((impl_UrlOK.f k x242000 x242001 t269 x242003 x242004 x242005 x242006 x242007 x242008).bind fun t270 => (some (x242000, x242001, t269, x242003, x242004, x242005, x242006, x242007, x242008, t270)))) else ((impl_lower.f x12).bind fun t271 => ((impl_UrlOK.f k x242000 x242001 t271 x14 x242004 x242005 x242006 x242007 x242008).bind fun t272 => (some (x242000, x242001, t271, x14, x242004, x242005, x242006, x242007, x242008, t272))))))
end
def impl_parse.f (k : Nat) (a0 : ByteArray) : Option (ByteArray × ByteArray × ByteArray × Int × ByteArray × ByteArray × ByteArray × Bool × Bool × Bool) := (strings_Cut.f a0 (⟨#[58]⟩ : ByteArray)).bind fun bt237 => ((impl_lower.f bt237.1).bind fun t240 => (if bt237.2.2 = true then ((impl_Url_web.f t240 (⟨#[]⟩ : ByteArray) (⟨#[]⟩ : ByteArray) 0 (⟨#[]⟩ : ByteArray) (⟨#[]⟩ : ByteArray) (⟨#[]⟩ : ByteArray) false false).bind fun t242 => (if t242 = true then ((strings_CutPrefix.f bt237.2.1 (⟨#[47, 47]⟩ : ByteArray)).bind fun bt250 => (if bt250.2 = true then ((strings_Cut.f bt250.1 (⟨#[35]⟩ : ByteArray)).bind fun bt252 => ((strings_Cut.f bt252.1 (⟨#[63]⟩ : ByteArray)).bind fun bt255 => ((strings_IndexByte.f bt255.1 47).bind fun t258 => (if t258 ≥ 0 then (if 0 ≤ t258 then (if t258 ≤ (bt255.1.size : Int) then (impl_parse.j0 k (bt255.1.extract 0 (t258 : Int).toNat) t240 (⟨#[]⟩ : ByteArray) (⟨#[]⟩ : ByteArray) 0 (bt255.1.extract (t258 : Int).toNat bt255.1.size) bt255.2.1 bt252.2.1 bt255.2.2 bt252.2.2) else (none)) else (none)) else (impl_parse.j0 k bt255.1 t240 (⟨#[]⟩ : ByteArray) (⟨#[]⟩ : ByteArray) 0 (⟨#[47]⟩ : ByteArray) bt255.2.1 bt252.2.1 bt255.2.2 bt252.2.2))))) else (some ((⟨#[]⟩ : ByteArray), (⟨#[]⟩ : ByteArray), (⟨#[]⟩ : ByteArray), 0, (⟨#[]⟩ : ByteArray), (⟨#[]⟩ : ByteArray), (⟨#[]⟩ : ByteArray), false, false, false)))) else ((strings_Cut.f bt237.2.1 (⟨#[35]⟩ : ByteArray)).bind fun bt243 => ((strings_Cut.f bt243.1 (⟨#[63]⟩ : ByteArray)).bind fun bt246 => ((impl_UrlOK.f k t240 (⟨#[]⟩ : ByteArray) (⟨#[]⟩ : ByteArray) 0 bt246.1 (⟨#[]⟩ : ByteArray) (⟨#[]⟩ : ByteArray) false false).bind fun t249 => (some (t240, (⟨#[]⟩ : ByteArray), (⟨#[]⟩ : ByteArray), 0, bt246.1, (⟨#[]⟩ : ByteArray), (⟨#[]⟩ : ByteArray), false, false, t249))))))) else (some ((⟨#[]⟩ : ByteArray), (⟨#[]⟩ : ByteArray), (⟨#[]⟩ : ByteArray), 0, (⟨#[]⟩ : ByteArray), (⟨#[]⟩ : ByteArray), (⟨#[]⟩ : ByteArray), false, false, false))))
theorem impl_parse.mono_l : ∀ k, (∀ y0 y1 y2 y3 y4 y5 y6 y7 y8 y9, LeO (impl_parse.j0 k y0 y1 y2 y3 y4 y5 y6 y7 y8 y9) (impl_parse.j0 (k + 1) y0 y1 y2 y3 y4 y5 y6 y7 y8 y9)) ∧ (∀ y0 y1 y2 y3 y4 y5 y6 y7 y8 y9, LeO (impl_parse.j1 k y0 y1 y2 y3 y4 y5 y6 y7 y8 y9) (impl_parse.j1 (k + 1) y0 y1 y2 y3 y4 y5 y6 y7 y8 y9)) ∧ (∀ y0 y1 y2 y3 y4 y5 y6 y7 y8 y9 y10 y11, LeO (impl_parse.j2 k y0 y1 y2 y3 y4 y5 y6 y7 y8 y9 y10 y11) (impl_parse.j2 (k + 1) y0 y1 y2 y3 y4 y5 y6 y7 y8 y9 y10 y11))
  | 0 => ⟨fun _ _ _ _ _ _ _ _ _ _ r h => by simp [impl_parse.j0] at h, fun _ _ _ _ _ _ _ _ _ _ r h => by simp [impl_parse.j1] at h, fun _ _ _ _ _ _ _ _ _ _ _ _ r h => by simp [impl_parse.j2] at h⟩
  | k + 1 => by
    obtain ⟨ih0, ih1, ih2⟩ := impl_parse.mono_l k
    refine ⟨?_, ?_, ?_⟩
    · intro y0 y1 y2 y3 y4 y5 y6 y7 y8 y9
      unfold impl_parse.j0
      repeat' first
      | (with_reducible exact ih0 _ _ _ _ _ _ _ _ _ _)
      | (with_reducible exact ih1 _ _ _ _ _ _ _ _ _ _)
      | (with_reducible exact ih2 _ _ _ _ _ _ _ _ _ _ _ _)
      | (with_reducible exact impl_UrlOK.mono _ _ _ _ _ _ _ _ _ _)
      | (with_reducible exact LeO.refl _)
      | (with_reducible exact LeO.none _)
      | (with_reducible refine LeO.ite ?_ ?_)
      | (with_reducible refine LeO.bind ?_ (fun _ => ?_))
      | exact ih0 _ _ _ _ _ _ _ _ _ _
      | exact ih1 _ _ _ _ _ _ _ _ _ _
      | exact ih2 _ _ _ _ _ _ _ _ _ _ _ _
      | exact impl_UrlOK.mono _ _ _ _ _ _ _ _ _ _
      | exact LeO.none _
      | refine LeO.ite ?_ ?_
      | refine LeO.bind ?_ (fun _ => ?_)
    · intro y0 y1 y2 y3 y4 y5 y6 y7 y8 y9
      unfold impl_parse.j1
      repeat' first
      | (with_reducible exact ih0 _ _ _ _ _ _ _ _ _ _)
      | (with_reducible exact ih1 _ _ _ _ _ _ _ _ _ _)
      | (with_reducible exact ih2 _ _ _ _ _ _ _ _ _ _ _ _)
      | (with_reducible exact impl_UrlOK.mono _ _ _ _ _ _ _ _ _ _)
      | (with_reducible exact LeO.refl _)
      | (with_reducible exact LeO.none _)
      | (with_reducible refine LeO.ite ?_ ?_)
      | (with_reducible refine LeO.bind ?_ (fun _ => ?_))
      | exact ih0 _ _ _ _ _ _ _ _ _ _
      | exact ih1 _ _ _ _ _ _ _ _ _ _
      | exact ih2 _ _ _ _ _ _ _ _ _ _ _ _
      | exact impl_UrlOK.mono _ _ _ _ _ _ _ _ _ _
      | exact LeO.none _
      | refine LeO.ite ?_ ?_
      | refine LeO.bind ?_ (fun _ => ?_)
    · intro y0 y1 y2 y3 y4 y5 y6 y7 y8 y9 y10 y11
      unfold impl_parse.j2
      repeat' first
      | (with_reducible exact ih0 _ _ _ _ _ _ _ _ _ _)
      | (with_reducible exact ih1 _ _ _ _ _ _ _ _ _ _)
      | (with_reducible exact ih2 _ _ _ _ _ _ _ _ _ _ _ _)
      | (with_reducible exact impl_UrlOK.mono _ _ _ _ _ _ _ _ _ _)
      | (with_reducible exact LeO.refl _)
      | (with_reducible exact LeO.none _)
      | (with_reducible refine LeO.ite ?_ ?_)
      | (with_reducible refine LeO.bind ?_ (fun _ => ?_))
      | exact ih0 _ _ _ _ _ _ _ _ _ _
      | exact ih1 _ _ _ _ _ _ _ _ _ _
      | exact ih2 _ _ _ _ _ _ _ _ _ _ _ _
      | exact impl_UrlOK.mono _ _ _ _ _ _ _ _ _ _
      | exact LeO.none _
      | refine LeO.ite ?_ ?_
      | refine LeO.bind ?_ (fun _ => ?_)
theorem impl_parse.mono : ∀ a0 k, LeO (impl_parse.f k a0) (impl_parse.f (k + 1) a0) := by
  intro a0 k
  obtain ⟨ih0, ih1, ih2⟩ := impl_parse.mono_l k
  unfold impl_parse.f
  repeat' first
      | (with_reducible exact ih0 _ _ _ _ _ _ _ _ _ _)
      | (with_reducible exact ih1 _ _ _ _ _ _ _ _ _ _)
      | (with_reducible exact ih2 _ _ _ _ _ _ _ _ _ _ _ _)
      | (with_reducible exact impl_UrlOK.mono _ _ _ _ _ _ _ _ _ _)
      | (with_reducible exact LeO.refl _)
      | (with_reducible exact LeO.none _)
      | (with_reducible refine LeO.ite ?_ ?_)
      | (with_reducible refine LeO.bind ?_ (fun _ => ?_))
      | exact ih0 _ _ _ _ _ _ _ _ _ _
      | exact ih1 _ _ _ _ _ _ _ _ _ _
      | exact ih2 _ _ _ _ _ _ _ _ _ _ _ _
      | exact impl_UrlOK.mono _ _ _ _ _ _ _ _ _ _
      | exact LeO.none _
      | refine LeO.ite ?_ ?_
      | refine LeO.bind ?_ (fun _ => ?_)
def impl_parse.T17 : Bool × List (List Nat × List Nat) := (true, [([], []), ([], []), ([0, 1], [0, 1]), ([], []), ([], []), ([3, 4], [3, 4]), ([2, 0, 1, 2, 3], [0, 2, 3]), ([0, 1, 2, 3, 4, 5, 6], []), ([7, 5, 6, 0, 1, 2, 3, 4, 5, 6], [5, 7])])
def impl_parse.B17 : List Nat := [0, 0, 3, 0, 0, 24, 15, 127, 255]
theorem impl_parse.tab17 : rtab .any (opsOf Tryz.f64 17) = impl_parse.T17 := by kernel_rfl
theorem impl_parse.bits17 : waitsOk impl_parse.T17.2 impl_parse.B17 = true := by kernel_rfl
set_option maxHeartbeats 40000000 in
set_option maxRecDepth 100000 in
theorem impl_parse.calls (k : Nat) (a0 : ByteArray) (r1 : ByteArray) (r2 : ByteArray) (r3 : ByteArray) (r4 : Int) (r5 : ByteArray) (r6 : ByteArray) (r7 : ByteArray) (r8 : Bool) (r9 : Bool) (r10 : Bool) (w : World) (hM : Amb w) (h : impl_parse.f k a0 = some (r1, r2, r3, r4, r5, r6, r7, r8, r9, r10)) :
    Calls Tryz.prog 64 #[.string a0] w fun e w' => e = .returned (.tuple #[.agg #[.string r1, .string r2, .string r3, .int .i64 r4, .string r5, .string r6, .string r7, .bool r8, .bool r9], .bool r10]) ∧ Below w.heap.size w w' := by
 have hu32 := Tryz.underlying32
 have HB := Aside0.mk (Below.refl w.heap.size w)
 have HM := Aside0.mk hM
 clear hM
 have H : ((strings_Cut.f a0 (⟨#[58]⟩ : ByteArray)).bind fun bt237 => ((impl_lower.f bt237.1).bind fun t240 => (if bt237.2.2 = true then ((impl_Url_web.f t240 (⟨#[]⟩ : ByteArray) (⟨#[]⟩ : ByteArray) 0 (⟨#[]⟩ : ByteArray) (⟨#[]⟩ : ByteArray) (⟨#[]⟩ : ByteArray) false false).bind fun t242 => (if t242 = true then ((strings_CutPrefix.f bt237.2.1 (⟨#[47, 47]⟩ : ByteArray)).bind fun bt250 => (if bt250.2 = true then ((strings_Cut.f bt250.1 (⟨#[35]⟩ : ByteArray)).bind fun bt252 => ((strings_Cut.f bt252.1 (⟨#[63]⟩ : ByteArray)).bind fun bt255 => ((strings_IndexByte.f bt255.1 47).bind fun t258 => (if t258 ≥ 0 then (if 0 ≤ t258 then (if t258 ≤ (bt255.1.size : Int) then (impl_parse.j0 k (bt255.1.extract 0 (t258 : Int).toNat) t240 (⟨#[]⟩ : ByteArray) (⟨#[]⟩ : ByteArray) 0 (bt255.1.extract (t258 : Int).toNat bt255.1.size) bt255.2.1 bt252.2.1 bt255.2.2 bt252.2.2) else (none)) else (none)) else (impl_parse.j0 k bt255.1 t240 (⟨#[]⟩ : ByteArray) (⟨#[]⟩ : ByteArray) 0 (⟨#[47]⟩ : ByteArray) bt255.2.1 bt252.2.1 bt255.2.2 bt252.2.2))))) else (some ((⟨#[]⟩ : ByteArray), (⟨#[]⟩ : ByteArray), (⟨#[]⟩ : ByteArray), 0, (⟨#[]⟩ : ByteArray), (⟨#[]⟩ : ByteArray), (⟨#[]⟩ : ByteArray), false, false, false)))) else ((strings_Cut.f bt237.2.1 (⟨#[35]⟩ : ByteArray)).bind fun bt243 => ((strings_Cut.f bt243.1 (⟨#[63]⟩ : ByteArray)).bind fun bt246 => ((impl_UrlOK.f k t240 (⟨#[]⟩ : ByteArray) (⟨#[]⟩ : ByteArray) 0 bt246.1 (⟨#[]⟩ : ByteArray) (⟨#[]⟩ : ByteArray) false false).bind fun t249 => (some (t240, (⟨#[]⟩ : ByteArray), (⟨#[]⟩ : ByteArray), 0, bt246.1, (⟨#[]⟩ : ByteArray), (⟨#[]⟩ : ByteArray), false, false, t249))))))) else (some ((⟨#[]⟩ : ByteArray), (⟨#[]⟩ : ByteArray), (⟨#[]⟩ : ByteArray), 0, (⟨#[]⟩ : ByteArray), (⟨#[]⟩ : ByteArray), (⟨#[]⟩ : ByteArray), false, false, false))))) = some (r1, r2, r3, r4, r5, r6, r7, r8, r9, r10) := h
 clear h
 replace H := Option.bind_eq_some_iff.mp H
 obtain ⟨⟨t237, t238, t239⟩, A20, H⟩ := H
 replace H : ((impl_lower.f t237).bind fun t240 => (if t239 = true then ((impl_Url_web.f t240 (⟨#[]⟩ : ByteArray) (⟨#[]⟩ : ByteArray) 0 (⟨#[]⟩ : ByteArray) (⟨#[]⟩ : ByteArray) (⟨#[]⟩ : ByteArray) false false).bind fun t242 => (if t242 = true then ((strings_CutPrefix.f t238 (⟨#[47, 47]⟩ : ByteArray)).bind fun bt250 => (if bt250.2 = true then ((strings_Cut.f bt250.1 (⟨#[35]⟩ : ByteArray)).bind fun bt252 => ((strings_Cut.f bt252.1 (⟨#[63]⟩ : ByteArray)).bind fun bt255 => ((strings_IndexByte.f bt255.1 47).bind fun t258 => (if t258 ≥ 0 then (if 0 ≤ t258 then (if t258 ≤ (bt255.1.size : Int) then (impl_parse.j0 k (bt255.1.extract 0 (t258 : Int).toNat) t240 (⟨#[]⟩ : ByteArray) (⟨#[]⟩ : ByteArray) 0 (bt255.1.extract (t258 : Int).toNat bt255.1.size) bt255.2.1 bt252.2.1 bt255.2.2 bt252.2.2) else (none)) else (none)) else (impl_parse.j0 k bt255.1 t240 (⟨#[]⟩ : ByteArray) (⟨#[]⟩ : ByteArray) 0 (⟨#[47]⟩ : ByteArray) bt255.2.1 bt252.2.1 bt255.2.2 bt252.2.2))))) else (some ((⟨#[]⟩ : ByteArray), (⟨#[]⟩ : ByteArray), (⟨#[]⟩ : ByteArray), 0, (⟨#[]⟩ : ByteArray), (⟨#[]⟩ : ByteArray), (⟨#[]⟩ : ByteArray), false, false, false)))) else ((strings_Cut.f t238 (⟨#[35]⟩ : ByteArray)).bind fun bt243 => ((strings_Cut.f bt243.1 (⟨#[63]⟩ : ByteArray)).bind fun bt246 => ((impl_UrlOK.f k t240 (⟨#[]⟩ : ByteArray) (⟨#[]⟩ : ByteArray) 0 bt246.1 (⟨#[]⟩ : ByteArray) (⟨#[]⟩ : ByteArray) false false).bind fun t249 => (some (t240, (⟨#[]⟩ : ByteArray), (⟨#[]⟩ : ByteArray), 0, bt246.1, (⟨#[]⟩ : ByteArray), (⟨#[]⟩ : ByteArray), false, false, t249))))))) else (some ((⟨#[]⟩ : ByteArray), (⟨#[]⟩ : ByteArray), (⟨#[]⟩ : ByteArray), 0, (⟨#[]⟩ : ByteArray), (⟨#[]⟩ : ByteArray), (⟨#[]⟩ : ByteArray), false, false, false)))) = some (r1, r2, r3, r4, r5, r6, r7, r8, r9, r10) := H
 have A2 := Aside0.mk A20
 clear A20
 obtain ⟨t240, A3, H⟩ := bindE_ H
 by_cases c4 : t239 = true
 ·
  subst c4
  replace H := ifT_ H
  obtain ⟨t242, A5, H⟩ := bindE_ H
  by_cases c6 : t242 = true
  ·
   subst c6
   replace H := ifT_ H
   replace H := Option.bind_eq_some_iff.mp H
   obtain ⟨⟨t250, t251⟩, A70, H⟩ := H
   replace H : (if t251 = true then ((strings_Cut.f t250 (⟨#[35]⟩ : ByteArray)).bind fun bt252 => ((strings_Cut.f bt252.1 (⟨#[63]⟩ : ByteArray)).bind fun bt255 => ((strings_IndexByte.f bt255.1 47).bind fun t258 => (if t258 ≥ 0 then (if 0 ≤ t258 then (if t258 ≤ (bt255.1.size : Int) then (impl_parse.j0 k (bt255.1.extract 0 (t258 : Int).toNat) t240 (⟨#[]⟩ : ByteArray) (⟨#[]⟩ : ByteArray) 0 (bt255.1.extract (t258 : Int).toNat bt255.1.size) bt255.2.1 bt252.2.1 bt255.2.2 bt252.2.2) else (none)) else (none)) else (impl_parse.j0 k bt255.1 t240 (⟨#[]⟩ : ByteArray) (⟨#[]⟩ : ByteArray) 0 (⟨#[47]⟩ : ByteArray) bt255.2.1 bt252.2.1 bt255.2.2 bt252.2.2))))) else (some ((⟨#[]⟩ : ByteArray), (⟨#[]⟩ : ByteArray), (⟨#[]⟩ : ByteArray), 0, (⟨#[]⟩ : ByteArray), (⟨#[]⟩ : ByteArray), (⟨#[]⟩ : ByteArray), false, false, false))) = some (r1, r2, r3, r4, r5, r6, r7, r8, r9, r10) := H
   have A7 := Aside0.mk A70
   clear A70
   by_cases c8 : t251 = true
   ·
    subst c8
    replace H := ifT_ H
    replace H := Option.bind_eq_some_iff.mp H
    obtain ⟨⟨t252, t253, t254⟩, A90, H⟩ := H
    replace H : ((strings_Cut.f t252 (⟨#[63]⟩ : ByteArray)).bind fun bt255 => ((strings_IndexByte.f bt255.1 47).bind fun t258 => (if t258 ≥ 0 then (if 0 ≤ t258 then (if t258 ≤ (bt255.1.size : Int) then (impl_parse.j0 k (bt255.1.extract 0 (t258 : Int).toNat) t240 (⟨#[]⟩ : ByteArray) (⟨#[]⟩ : ByteArray) 0 (bt255.1.extract (t258 : Int).toNat bt255.1.size) bt255.2.1 t253 bt255.2.2 t254) else (none)) else (none)) else (impl_parse.j0 k bt255.1 t240 (⟨#[]⟩ : ByteArray) (⟨#[]⟩ : ByteArray) 0 (⟨#[47]⟩ : ByteArray) bt255.2.1 t253 bt255.2.2 t254)))) = some (r1, r2, r3, r4, r5, r6, r7, r8, r9, r10) := H
    have A9 := Aside0.mk A90
    clear A90
    replace H := Option.bind_eq_some_iff.mp H
    obtain ⟨⟨t255, t256, t257⟩, A100, H⟩ := H
    replace H : ((strings_IndexByte.f t255 47).bind fun t258 => (if t258 ≥ 0 then (if 0 ≤ t258 then (if t258 ≤ (t255.size : Int) then (impl_parse.j0 k (t255.extract 0 (t258 : Int).toNat) t240 (⟨#[]⟩ : ByteArray) (⟨#[]⟩ : ByteArray) 0 (t255.extract (t258 : Int).toNat t255.size) t256 t253 t257 t254) else (none)) else (none)) else (impl_parse.j0 k t255 t240 (⟨#[]⟩ : ByteArray) (⟨#[]⟩ : ByteArray) 0 (⟨#[47]⟩ : ByteArray) t256 t253 t257 t254))) = some (r1, r2, r3, r4, r5, r6, r7, r8, r9, r10) := H
    have A10 := Aside0.mk A100
    clear A100
    obtain ⟨t258, A11, H⟩ := bindE_ H
    have HC12 := Aside0.mk H
    clear H
    go_enter Tryz.func64, Tryz.ntmps64
    go_upto_if 75 with (first | ((with_reducible refine gate_dst (N := 2) rfl ?_); refine box_event ?hg (N := 2) ?hd (cs := #[.string ⟨#[]⟩, .string ⟨#[]⟩, .string ⟨#[]⟩, .int .i64 0, .string ⟨#[]⟩, .string ⟨#[]⟩, .string ⟨#[]⟩, .bool false, .bool false]) (t := 32) ?hr ?_; (case hd => rfl); (case hg => rfl); (case hr => first | (go_simp; done) | (go_simp; rfl)); intro gb236 hg w13 hbox hb; have n0_ := belB_ hb; have n1_ := Aside0.mk (hbox); have n2_ := Aside0.mk ((by rw [hg]; exact (below_size belE_) : w.heap.size ≤ gb236)); have n3_ := Aside0.mk ((by rw [hg]; exact (below_size belE_) : w.heap.size ≤ gb236)); clear HB; have HB := n0_; have BK236 := n1_; have GW236 := n2_; have GE236 := n3_; clear n0_ n1_ n2_ n3_; clear hb hbox hg) | ((with_reducible refine gate_callee (f := 110) rfl ?_); refine cU_ (some 18) Tryz.func110 #[.string a0, .string (⟨#[58]⟩ : ByteArray)] ?_; (with_reducible refine (strings_Cut.calls a0 (⟨#[58]⟩ : ByteArray) t237 t238 true _ A2.out).mono ?_); rintro e w' ⟨rfl, ⟨nd, rfl⟩⟩; refine ⟨_, rfl, ?_⟩; (try (rw [drewN_self w13]; generalize hq_ : World.drewN w13 _ = w13; have n0_ : Aside0 (w13.heap[gb236]? = some (.cells #[.string ⟨#[]⟩, .string ⟨#[]⟩, .string ⟨#[]⟩, .int .i64 0, .string ⟨#[]⟩, .string ⟨#[]⟩, .string ⟨#[]⟩, .bool false, .bool false] 32 (0, 0))) := ⟨by rw [← hq_]; exact (by (with_reducible repeat apply bd_); exact BK236.out)⟩; have n1_ : Aside0 (Below w.heap.size w w13) := ⟨by rw [← hq_]; exact belE_⟩; clear BK236 HB hq_; have BK236 := n0_; have HB := n1_; clear n0_ n1_))) | ((with_reducible refine gate_callee (f := 111) rfl ?_); refine cU_ (some 23) Tryz.func111 #[.string t237] ?_; (with_reducible refine (impl_lower.calls t237 t240 _ A3.out).mono ?_); rintro e w14 ⟨rfl, hb⟩; refine ⟨_, rfl, ?_⟩; replace BK236 := blkK_ BK236 hb; replace HB := belB_ hb; (try clear hb)) | ((with_reducible refine gate_dst (N := 7) rfl ?_); refine box_event ?hg (N := 7) ?hd (cs := #[.string ⟨#[]⟩, .string ⟨#[]⟩, .string ⟨#[]⟩, .int .i64 0, .string ⟨#[]⟩, .string ⟨#[]⟩, .string ⟨#[]⟩, .bool false, .bool false]) (t := 32) ?hr ?_; (case hd => rfl); (case hg => rfl); (case hr => first | (go_simp; done) | (go_simp; rfl)); intro gb241 hg w15 hbox hb; have n0_ := blkB_ (g := gb236) (o := .cells #[.string ⟨#[]⟩, .string ⟨#[]⟩, .string ⟨#[]⟩, .int .i64 0, .string ⟨#[]⟩, .string ⟨#[]⟩, .string ⟨#[]⟩, .bool false, .bool false] 32 (0, 0)) hb; have n1_ := belB_ hb; have n2_ := Aside0.mk (hbox); have n3_ := Aside0.mk ((by rw [hg]; exact (below_size belE_) : w.heap.size ≤ gb241)); have n4_ := Aside0.mk ((by rw [hg]; exact (below_size belE_) : w.heap.size ≤ gb241)); have n5_ := Aside0.mk ((by rw [hg]; exact Nat.ne_of_lt (blk_lt (g := gb236) (o := .cells #[.string ⟨#[]⟩, .string ⟨#[]⟩, .string ⟨#[]⟩, .int .i64 0, .string ⟨#[]⟩, .string ⟨#[]⟩, .string ⟨#[]⟩, .bool false, .bool false] 32 (0, 0)) (by (with_reducible repeat apply bd_); exact BK236.out)) : gb236 ≠ gb241)); have n6_ := Aside0.mk ((by rw [hg]; exact Nat.ne_of_gt (blk_lt (g := gb236) (o := .cells #[.string ⟨#[]⟩, .string ⟨#[]⟩, .string ⟨#[]⟩, .int .i64 0, .string ⟨#[]⟩, .string ⟨#[]⟩, .string ⟨#[]⟩, .bool false, .bool false] 32 (0, 0)) (by (with_reducible repeat apply bd_); exact BK236.out)) : gb241 ≠ gb236)); clear BK236; clear HB; have BK236 := n0_; have HB := n1_; have BK241 := n2_; have GW241 := n3_; have GE241 := n4_; have NB236_241 := n5_; have NB241_236 := n6_; clear n0_ n1_ n2_ n3_ n4_ n5_ n6_; clear hb hbox hg; have hnb16 := NB241_236.out; have hnc16 := NB236_241.out; obtain ⟨hcz17_0, hcz17_1, hcz17_2, hcz17_3, hcz17_4, hcz17_5, hcz17_6, hcz17_7, hcz17_8, hfz17_0, hfz17_1, hfz17_2, hfz17_3, hfz17_4, hfz17_5, hfz17_6, hfz17_7, hfz17_8⟩ := cz9_ BK241) | ((with_reducible refine gate_callee (f := 59) rfl ?_); refine cU_ (some 29) Tryz.func59 #[.agg #[.string t240, .string ⟨#[]⟩, .string ⟨#[]⟩, .int .i64 0, .string ⟨#[]⟩, .string ⟨#[]⟩, .string ⟨#[]⟩, .bool false, .bool false]] ?_; (with_reducible refine (impl_Url_web.calls t240 (⟨#[]⟩ : ByteArray) (⟨#[]⟩ : ByteArray) 0 (⟨#[]⟩ : ByteArray) (⟨#[]⟩ : ByteArray) (⟨#[]⟩ : ByteArray) false false true _ A5.out).mono ?_); rintro e w18 ⟨rfl, hb⟩; refine ⟨_, rfl, ?_⟩; have n0_ := Aside0.mk (blk_below (g := gb236) (o := .cells #[.string ⟨#[]⟩, .string ⟨#[]⟩, .string ⟨#[]⟩, .int .i64 0, .string ⟨#[]⟩, .string ⟨#[]⟩, .string ⟨#[]⟩, .bool false, .bool false] 32 (0, 0)) farE_ hb); have n1_ := Aside0.mk (blk_below (g := gb241) (o := .cells #[.string t240, .string ⟨#[]⟩, .string ⟨#[]⟩, .int .i64 0, .string ⟨#[]⟩, .string ⟨#[]⟩, .string ⟨#[]⟩, .bool false, .bool false] 32 (0, 0)) (by (with_reducible repeat apply bd_); refine blk_put (cs := #[.string t240, .string ⟨#[]⟩, .string ⟨#[]⟩, .int .i64 0, .string ⟨#[]⟩, .string ⟨#[]⟩, .string ⟨#[]⟩, .bool false, .bool false]) ?_ 8 _ rfl; (with_reducible repeat apply bd_); refine blk_put (cs := #[.string t240, .string ⟨#[]⟩, .string ⟨#[]⟩, .int .i64 0, .string ⟨#[]⟩, .string ⟨#[]⟩, .string ⟨#[]⟩, .bool false, .bool false]) ?_ 7 _ rfl; (with_reducible repeat apply bd_); refine blk_put (cs := #[.string t240, .string ⟨#[]⟩, .string ⟨#[]⟩, .int .i64 0, .string ⟨#[]⟩, .string ⟨#[]⟩, .string ⟨#[]⟩, .bool false, .bool false]) ?_ 6 _ rfl; (with_reducible repeat apply bd_); refine blk_put (cs := #[.string t240, .string ⟨#[]⟩, .string ⟨#[]⟩, .int .i64 0, .string ⟨#[]⟩, .string ⟨#[]⟩, .string ⟨#[]⟩, .bool false, .bool false]) ?_ 5 _ rfl; (with_reducible repeat apply bd_); refine blk_put (cs := #[.string t240, .string ⟨#[]⟩, .string ⟨#[]⟩, .int .i64 0, .string ⟨#[]⟩, .string ⟨#[]⟩, .string ⟨#[]⟩, .bool false, .bool false]) ?_ 4 _ rfl; (with_reducible repeat apply bd_); refine blk_put (cs := #[.string t240, .string ⟨#[]⟩, .string ⟨#[]⟩, .int .i64 0, .string ⟨#[]⟩, .string ⟨#[]⟩, .string ⟨#[]⟩, .bool false, .bool false]) ?_ 3 _ rfl; (with_reducible repeat apply bd_); refine blk_put (cs := #[.string t240, .string ⟨#[]⟩, .string ⟨#[]⟩, .int .i64 0, .string ⟨#[]⟩, .string ⟨#[]⟩, .string ⟨#[]⟩, .bool false, .bool false]) ?_ 2 _ rfl; (with_reducible repeat apply bd_); refine blk_put (cs := #[.string t240, .string ⟨#[]⟩, .string ⟨#[]⟩, .int .i64 0, .string ⟨#[]⟩, .string ⟨#[]⟩, .string ⟨#[]⟩, .bool false, .bool false]) ?_ 1 _ rfl; (with_reducible repeat apply bd_); refine blk_put (cs := #[.string ⟨#[]⟩, .string ⟨#[]⟩, .string ⟨#[]⟩, .int .i64 0, .string ⟨#[]⟩, .string ⟨#[]⟩, .string ⟨#[]⟩, .bool false, .bool false]) ?_ 0 _ rfl; (with_reducible repeat apply bd_); exact BK241.out) hb); have n2_ := Aside0.mk (below_step belE_ hb); clear BK236; clear BK241; clear HB; have BK236 := n0_; have BK241 := n1_; have HB := n2_; clear n0_ n1_ n2_; (try clear hb); (try clear hb2); (try clear hk); (try clear hi)) | ((with_reducible refine gate_callee (f := 112) rfl ?_); refine cU_ (some 49) Tryz.func112 #[.string t238, .string (⟨#[47, 47]⟩ : ByteArray)] ?_; (with_reducible refine (strings_CutPrefix.calls t238 (⟨#[47, 47]⟩ : ByteArray) t250 true _ A7.out).mono ?_); rintro e w' ⟨rfl, ⟨nd, rfl⟩⟩; refine ⟨_, rfl, ?_⟩; (try (rw [drewN_self w18]; generalize hq_ : World.drewN w18 _ = w18; have n0_ : Aside0 (w18.heap[gb236]? = some (.cells #[.string ⟨#[]⟩, .string ⟨#[]⟩, .string ⟨#[]⟩, .int .i64 0, .string ⟨#[]⟩, .string ⟨#[]⟩, .string ⟨#[]⟩, .bool false, .bool false] 32 (0, 0))) := ⟨by rw [← hq_]; exact (by (with_reducible repeat apply bd_); exact BK236.out)⟩; have n1_ : Aside0 (w18.heap[gb241]? = some (.cells #[.string t240, .string ⟨#[]⟩, .string ⟨#[]⟩, .int .i64 0, .string ⟨#[]⟩, .string ⟨#[]⟩, .string ⟨#[]⟩, .bool false, .bool false] 32 (0, 0))) := ⟨by rw [← hq_]; exact (by (with_reducible repeat apply bd_); exact BK241.out)⟩; have n2_ : Aside0 (Below w.heap.size w w18) := ⟨by rw [← hq_]; exact belE_⟩; clear BK236 BK241 HB hq_; have BK236 := n0_; have BK241 := n1_; have HB := n2_; clear n0_ n1_ n2_))) | ((with_reducible refine gate_callee (f := 110) rfl ?_); refine cU_ (some 57) Tryz.func110 #[.string t250, .string (⟨#[35]⟩ : ByteArray)] ?_; (with_reducible refine (strings_Cut.calls t250 (⟨#[35]⟩ : ByteArray) t252 t253 t254 _ A9.out).mono ?_); rintro e w' ⟨rfl, ⟨nd, rfl⟩⟩; refine ⟨_, rfl, ?_⟩; (try (rw [drewN_self w18]; generalize hq_ : World.drewN w18 _ = w18; have n0_ : Aside0 (w18.heap[gb236]? = some (.cells #[.string ⟨#[]⟩, .string ⟨#[]⟩, .string ⟨#[]⟩, .int .i64 0, .string ⟨#[]⟩, .string ⟨#[]⟩, .string ⟨#[]⟩, .bool false, .bool false] 32 (0, 0))) := ⟨by rw [← hq_]; exact (by (with_reducible repeat apply bd_); exact BK236.out)⟩; have n1_ : Aside0 (w18.heap[gb241]? = some (.cells #[.string t240, .string ⟨#[]⟩, .string ⟨#[]⟩, .int .i64 0, .string ⟨#[]⟩, .string ⟨#[]⟩, .string ⟨#[]⟩, .bool false, .bool false] 32 (0, 0))) := ⟨by rw [← hq_]; exact (by (with_reducible repeat apply bd_); exact BK241.out)⟩; have n2_ : Aside0 (Below w.heap.size w w18) := ⟨by rw [← hq_]; exact belE_⟩; clear BK236 BK241 HB hq_; have BK236 := n0_; have BK241 := n1_; have HB := n2_; clear n0_ n1_ n2_)); obtain ⟨hcz19_0, hcz19_1, hcz19_2, hcz19_3, hcz19_4, hcz19_5, hcz19_6, hcz19_7, hcz19_8, hfz19_0, hfz19_1, hfz19_2, hfz19_3, hfz19_4, hfz19_5, hfz19_6, hfz19_7, hfz19_8⟩ := cz9_ BK241) | ((with_reducible refine gate_callee (f := 110) rfl ?_); refine cU_ (some 65) Tryz.func110 #[.string t252, .string (⟨#[63]⟩ : ByteArray)] ?_; (with_reducible refine (strings_Cut.calls t252 (⟨#[63]⟩ : ByteArray) t255 t256 t257 _ A10.out).mono ?_); rintro e w' ⟨rfl, ⟨nd, rfl⟩⟩; refine ⟨_, rfl, ?_⟩) | ((with_reducible refine gate_callee (f := 113) rfl ?_); refine cU_ (some 73) Tryz.func113 #[.string t255, .int .u8 47] ?_; (with_reducible refine (strings_IndexByte.calls t255 47 t258 _ A11.out).mono ?_); rintro e w' ⟨rfl, ⟨nd, rfl⟩⟩; refine ⟨_, rfl, ?_⟩))
    (try simp only [Act.put, List.setIfInBounds_toArray, List.set_cons_zero, List.set_cons_succ])
    go_cut [5] (fun v5 wc => ∃ (kq : Nat) (x5_11 : ByteArray) (x242004_11 : ByteArray), v5 = .string x5_11 ∧ Aside0 (impl_parse.j0 kq x5_11 t240 (⟨#[]⟩ : ByteArray) (⟨#[]⟩ : ByteArray) 0 x242004_11 t256 t253 t257 t254 = some (r1, r2, r3, r4, r5, r6, r7, r8, r9, r10)) ∧ Aside0 (kq ≤ k) ∧ Aside0 (wc.heap[gb236]? = some (.cells #[.string ⟨#[]⟩, .string ⟨#[]⟩, .string ⟨#[]⟩, .int .i64 0, .string ⟨#[]⟩, .string ⟨#[]⟩, .string ⟨#[]⟩, .bool false, .bool false] 32 (0, 0))) ∧ Aside0 (wc.heap[gb241]? = some (.cells #[.string t240, .string ⟨#[]⟩, .string ⟨#[]⟩, .int .i64 0, .string x242004_11, .string t256, .string t253, .bool t257, .bool t254] 32 (0, 0))) ∧ Aside0 (Below w.heap.size w wc))
    case first =>
     have H := HC12.out
     clear HC12
     by_cases c20 : t258 ≥ 0
     ·
      rw [if_pos c20] at H
      have c20b0 : decide (0 ≤ t258) = true := decide_eq_true c20
      clear c20
      (first | rw [c20b0] | (simp only [i64_w, i32_w]; rw [c20b0]) | skip)
      by_cases c21 : 0 ≤ t258
      ·
       rw [if_pos c21] at H
       have c21b0 := eq_true c21
       have c21b1 : decide (0 ≤ t258) = true := decide_eq_true c21
       clear c21
       by_cases c22 : t258 ≤ (t255.size : Int)
       ·
        rw [if_pos c22] at H
        have c22b0 := eq_true c22
        have c22b1 : decide (t258 ≤ (t255.size : Int)) = true := decide_eq_true c22
        clear c22
        have c23b0 := eq_true (ofd_ : 0 ≤ t258)
        have c24b0 := eq_true (ofd_ : t258 ≤ (t255.size : Int))
        have H' := Aside0.mk H
        clear H
        try go_wp2
        refine worldR_ (R := fun W_ => Aside0 (W_.heap[gb236]? = some (.cells #[.string ⟨#[]⟩, .string ⟨#[]⟩, .string ⟨#[]⟩, .int .i64 0, .string ⟨#[]⟩, .string ⟨#[]⟩, .string ⟨#[]⟩, .bool false, .bool false] 32 (0, 0))) ∧ Aside0 (W_.heap[gb241]? = some (.cells #[.string t240, .string ⟨#[]⟩, .string ⟨#[]⟩, .int .i64 0, .string (⟨#[47]⟩ : ByteArray), .string t256, .string t253, .bool t257, .bool t254] 32 (0, 0))) ∧ Aside0 (Below w.heap.size w W_)) ⟨⟨farE_⟩, ⟨by (with_reducible repeat apply bd_); refine blk_put (cs := #[.string t240, .string ⟨#[]⟩, .string ⟨#[]⟩, .int .i64 0, .string ⟨#[]⟩, .string t256, .string t253, .bool t257, .bool t254]) ?_ 4 _ rfl; (with_reducible repeat apply bd_); refine blk_put (cs := #[.string t240, .string ⟨#[]⟩, .string ⟨#[]⟩, .int .i64 0, .string ⟨#[]⟩, .string t256, .string t253, .bool false, .bool t254]) ?_ 7 _ rfl; (with_reducible repeat apply bd_); refine blk_put (cs := #[.string t240, .string ⟨#[]⟩, .string ⟨#[]⟩, .int .i64 0, .string ⟨#[]⟩, .string ⟨#[]⟩, .string t253, .bool false, .bool t254]) ?_ 5 _ rfl; (with_reducible repeat apply bd_); refine blk_put (cs := #[.string t240, .string ⟨#[]⟩, .string ⟨#[]⟩, .int .i64 0, .string ⟨#[]⟩, .string ⟨#[]⟩, .string t253, .bool false, .bool false]) ?_ 8 _ rfl; (with_reducible repeat apply bd_); refine blk_put (cs := #[.string t240, .string ⟨#[]⟩, .string ⟨#[]⟩, .int .i64 0, .string ⟨#[]⟩, .string ⟨#[]⟩, .string ⟨#[]⟩, .bool false, .bool false]) ?_ 6 _ rfl; (with_reducible repeat apply bd_); exact BK241.out⟩, ⟨belE_⟩⟩ ?_
        (try clear BK236)
        (try clear BK241)
        (try clear HB)
        rintro w25 ⟨n0_, n1_, n2_⟩
        have BK236 := n0_
        have BK241 := n1_
        have HB := n2_
        clear n0_ n1_ n2_
        replace BK236 := Aside0.mk (blk_drew BK236.out)
        replace BK241 := Aside0.mk (blk_drew BK241.out)
        replace HB := Aside0.mk (below_drew1 HB.out)
        refine start_ (n := 9) (S := fun w' => True) (ds := []) #[false, false, false, false, false, false, false, false, false] (by kernel_rfl) rfl rfl trivial (fun hHeld => ?_); refine with_tabW impl_parse.tab17 impl_parse.bits17 (fun HT_ HW_ => ?_)
        generalize w25.drew = w26 at BK236 BK241 HB hHeld ⊢
        refine pure_ (i := 0) (N := some 76) (v := ?_) (a' := ?_) #[true, false, false, false, false, false, false, false, false] rfl rfl (any_of HT_.out (by kernel_rfl)) (fun _ _ _ h => h) (Or.inl ⟨by rfl, ?_⟩) ?_ ?_
        rotate_left
        ·
         intro w'
         go_simp
         with_reducible rfl
        rotate_left
        ·
         simp only [Act.put, List.setIfInBounds_toArray, List.set_cons_zero, List.set_cons_succ, i64_w, i32_w]
         rfl
        refine pure_ (i := 1) (N := some 77) (v := ?_) (a' := ?_) #[true, true, false, false, false, false, false, false, false] rfl rfl (any_of HT_.out (by kernel_rfl)) (fun _ _ _ h => h) (Or.inl ⟨by rfl, ?_⟩) ?_ ?_
        rotate_left
        ·
         intro w'
         go_simp
         with_reducible rfl
        rotate_left
        ·
         simp only [Act.put, List.setIfInBounds_toArray, List.set_cons_zero, List.set_cons_succ, i64_w, i32_w]
         rfl
        refine pure_ (i := 2) (N := some 78) (v := ?_) (a' := ?_) #[true, true, true, false, false, false, false, false, false] rfl rfl (any_of HT_.out (by kernel_rfl)) (fun _ _ _ h => h) (Or.inl ⟨by rfl, ?_⟩) ?_ ?_
        rotate_left
        ·
         intro w'
         go_simp
         with_reducible rfl
        rotate_left
        ·
         simp only [Act.put, List.setIfInBounds_toArray, List.set_cons_zero, List.set_cons_succ, i64_w, i32_w]
         rfl
        refine pure_ (i := 3) (N := some 79) (v := ?_) (a' := ?_) #[true, true, true, true, false, false, false, false, false] rfl rfl (any_of HT_.out (by kernel_rfl)) (fun _ _ _ h => h) (Or.inl ⟨by rfl, ?_⟩) ?_ ?_
        rotate_left
        ·
         intro w'
         go_simp
         with_reducible rfl
        rotate_left
        ·
         simp only [Act.put, List.setIfInBounds_toArray, List.set_cons_zero, List.set_cons_succ, i64_w, i32_w]
         rfl
        refine pure_ (i := 4) (N := some 80) (v := ?_) (a' := ?_) #[true, true, true, true, true, false, false, false, false] rfl rfl (any_of HT_.out (by kernel_rfl)) (fun _ _ _ h => h) (Or.inl ⟨by rfl, ?_⟩) ?_ ?_
        rotate_left
        ·
         intro w'
         go_simp
         with_reducible rfl
        rotate_left
        ·
         simp only [Act.put, List.setIfInBounds_toArray, List.set_cons_zero, List.set_cons_succ, i64_w, i32_w]
         rfl
        refine pure_ (i := 5) (N := some 81) (v := ?_) (a' := ?_) #[true, true, true, true, true, true, false, false, false] rfl rfl (any_of HT_.out (by kernel_rfl)) (fun _ _ _ h => h) (Or.inl ⟨by rfl, ?_⟩) ?_ ?_
        rotate_left
        ·
         intro w'
         go_simp
         with_reducible rfl
        rotate_left
        ·
         simp only [Act.put, List.setIfInBounds_toArray, List.set_cons_zero, List.set_cons_succ, i64_w, i32_w]
         rfl
        refine pure_ (i := 6) (N := some 5) (v := ?_) (a' := ?_) #[true, true, true, true, true, true, true, false, false] rfl rfl (any_of HT_.out (by kernel_rfl)) (fun _ _ _ h => h) (Or.inl ⟨by rfl, ?_⟩) ?_ ?_
        rotate_left
        ·
         intro w'
         go_simp
         with_reducible rfl
        rotate_left
        ·
         simp only [Act.put, List.setIfInBounds_toArray, List.set_cons_zero, List.set_cons_succ, i64_w, i32_w]
         rfl
        refine pure_ (i := 7) (N := some 82) (v := ?_) (a' := ?_) #[true, true, true, true, true, true, true, true, false] rfl rfl (any_of HT_.out (by kernel_rfl)) (fun _ _ _ h => h) (Or.inl ⟨by rfl, ?_⟩) ?_ ?_
        rotate_left
        ·
         intro w'
         go_simp
         with_reducible rfl
        rotate_left
        ·
         simp only [Act.put, List.setIfInBounds_toArray, List.set_cons_zero, List.set_cons_succ, i64_w, i32_w]
         rfl
        refine one_ (i := 8) (N := none) #[true, true, true, true, true, true, true, true, true] rfl rfl (one_of HT_.out (by kernel_rfl)) (by decide) (fun K hK => ?_)
        have hs27 : w26.cell? ⟨gb241, 4, none⟩ = some (.string (⟨#[47]⟩ : ByteArray)) := (blk_cell BK241.out 4).trans rfl
        have hfs27 := blk_frozen BK241.out 4
        have hns27_0 := NB236_241.out
        have hms27_0 := NB241_236.out
        refine skip_ (w1 := ?_) (by rfl) rfl ?_ ?_
        rotate_left
        ·
         go_simp
         rfl
        refine hK.out _ _ trivial (fun hHeld => ?_)
        clear hK K
        refine done_ (done_of HT_.out (by kernel_rfl)) ?_
        try go_wp2
        go_meet
        case rel => exact ⟨_, (t255.extract 0 (t258 : Int).toNat), (t255.extract (t258 : Int).toNat t255.size), eqE_, H', ⟨leE_⟩, ⟨farE_⟩, ⟨by (with_reducible repeat apply bd_); refine blk_put (cs := #[.string t240, .string ⟨#[]⟩, .string ⟨#[]⟩, .int .i64 0, .string (⟨#[47]⟩ : ByteArray), .string t256, .string t253, .bool t257, .bool t254]) ?_ 4 _ rfl; (with_reducible repeat apply bd_); exact BK241.out⟩, ⟨belE_⟩⟩
       ·
        rw [if_neg c22] at H
        exact absurd H (by simp)
      ·
       rw [if_neg c21] at H
       exact absurd H (by simp)
     ·
      rw [if_neg c20] at H
      have c20b0 : decide (0 ≤ t258) = false := decide_eq_false c20
      clear c20
      (first | rw [c20b0] | (simp only [i64_w, i32_w]; rw [c20b0]) | skip)
      have H' := Aside0.mk H
      clear H
      go_wp2
      go_meet
      case rel => exact ⟨_, (t255), ((⟨#[47]⟩ : ByteArray)), eqE_, H', ⟨leE_⟩, ⟨farE_⟩, ⟨by (with_reducible repeat apply bd_); refine blk_put (cs := #[.string t240, .string ⟨#[]⟩, .string ⟨#[]⟩, .int .i64 0, .string ⟨#[]⟩, .string t256, .string t253, .bool t257, .bool t254]) ?_ 4 _ rfl; (with_reducible repeat apply bd_); refine blk_put (cs := #[.string t240, .string ⟨#[]⟩, .string ⟨#[]⟩, .int .i64 0, .string ⟨#[]⟩, .string t256, .string t253, .bool false, .bool t254]) ?_ 7 _ rfl; (with_reducible repeat apply bd_); refine blk_put (cs := #[.string t240, .string ⟨#[]⟩, .string ⟨#[]⟩, .int .i64 0, .string ⟨#[]⟩, .string ⟨#[]⟩, .string t253, .bool false, .bool t254]) ?_ 5 _ rfl; (with_reducible repeat apply bd_); refine blk_put (cs := #[.string t240, .string ⟨#[]⟩, .string ⟨#[]⟩, .int .i64 0, .string ⟨#[]⟩, .string ⟨#[]⟩, .string t253, .bool false, .bool false]) ?_ 8 _ rfl; (with_reducible repeat apply bd_); refine blk_put (cs := #[.string t240, .string ⟨#[]⟩, .string ⟨#[]⟩, .int .i64 0, .string ⟨#[]⟩, .string ⟨#[]⟩, .string ⟨#[]⟩, .bool false, .bool false]) ?_ 6 _ rfl; (with_reducible repeat apply bd_); exact BK241.out⟩, ⟨belE_⟩⟩
    case rest =>
     clear HC12
     try clear c4
     try clear c6
     try clear c8
     try clear hcz17_0 hcz17_1 hcz17_2 hcz17_3 hcz17_4 hcz17_5 hcz17_6 hcz17_7 hcz17_8
     try clear hcz19_0 hcz19_1 hcz19_2 hcz19_3 hcz19_4 hcz19_5 hcz19_6 hcz19_7 hcz19_8
     try clear hfz17_0 hfz17_1 hfz17_2 hfz17_3 hfz17_4 hfz17_5 hfz17_6 hfz17_7 hfz17_8
     try clear hfz19_0 hfz19_1 hfz19_2 hfz19_3 hfz19_4 hfz19_5 hfz19_6 hfz19_7 hfz19_8
     obtain ⟨kq, x5_11, x242004_11, rfl, HA, HJ11, BK236, BK241, HB⟩ := hcut
     cases kq with
     | zero => exact absurd HA.out (by simp [impl_parse.j0])
     | succ kj11 =>
      have H := HA.out
      clear HA
      simp only [impl_parse.j0] at H
      replace H := Option.bind_eq_some_iff.mp H
      obtain ⟨⟨t259, t260, t261⟩, A280, H⟩ := H
      replace H : (if t261 = true then (impl_parse.j1 kj11 t260 t240 t259 (⟨#[]⟩ : ByteArray) 0 x242004_11 t256 t253 t257 t254) else (impl_parse.j1 kj11 x5_11 t240 (⟨#[]⟩ : ByteArray) (⟨#[]⟩ : ByteArray) 0 x242004_11 t256 t253 t257 t254)) = some (r1, r2, r3, r4, r5, r6, r7, r8, r9, r10) := H
      have A28 := Aside0.mk A280
      clear A280
      have HC29 := Aside0.mk H
      clear H
      go_upto_if 89 with (first | ((with_reducible refine gate_callee (f := 110) rfl ?_); refine cU_ (some 85) Tryz.func110 #[.string x5_11, .string (⟨#[64]⟩ : ByteArray)] ?_; (with_reducible refine (strings_Cut.calls x5_11 (⟨#[64]⟩ : ByteArray) t259 t260 t261 _ A28.out).mono ?_); rintro e w' ⟨rfl, ⟨nd, rfl⟩⟩; refine ⟨_, rfl, ?_⟩))
      (try simp only [Act.put, List.setIfInBounds_toArray, List.set_cons_zero, List.set_cons_succ])
      go_cut [5] (fun v5 wc => ∃ (kq : Nat) (x5_28 : ByteArray) (x242001_28 : ByteArray), v5 = .string x5_28 ∧ Aside0 (impl_parse.j1 kq x5_28 t240 x242001_28 (⟨#[]⟩ : ByteArray) 0 x242004_11 t256 t253 t257 t254 = some (r1, r2, r3, r4, r5, r6, r7, r8, r9, r10)) ∧ Aside0 (kq ≤ kj11) ∧ Aside0 (wc.heap[gb236]? = some (.cells #[.string ⟨#[]⟩, .string ⟨#[]⟩, .string ⟨#[]⟩, .int .i64 0, .string ⟨#[]⟩, .string ⟨#[]⟩, .string ⟨#[]⟩, .bool false, .bool false] 32 (0, 0))) ∧ Aside0 (wc.heap[gb241]? = some (.cells #[.string t240, .string x242001_28, .string ⟨#[]⟩, .int .i64 0, .string x242004_11, .string t256, .string t253, .bool t257, .bool t254] 32 (0, 0))) ∧ Aside0 (Below w.heap.size w wc))
      case first =>
       have H := HC29.out
       clear HC29
       by_cases c30 : t261 = true
       ·
        subst c30
        replace H := ifT_ H
        have H' := Aside0.mk H
        clear H
        have hnb31 := NB241_236.out
        have hnc31 := NB236_241.out
        obtain ⟨hcz32_0, hcz32_1, hcz32_2, hcz32_3, hcz32_4, hcz32_5, hcz32_6, hcz32_7, hcz32_8, hfz32_0, hfz32_1, hfz32_2, hfz32_3, hfz32_4, hfz32_5, hfz32_6, hfz32_7, hfz32_8⟩ := cz9_ BK241
        go_wp2
        go_meet
        case rel => exact ⟨_, (t260), (t259), eqE_, H', ⟨by have := HJ11.out; first | omega | exact Nat.le_refl _⟩, ⟨farE_⟩, ⟨by (with_reducible repeat apply bd_); refine blk_put (cs := #[.string t240, .string ⟨#[]⟩, .string ⟨#[]⟩, .int .i64 0, .string x242004_11, .string t256, .string t253, .bool t257, .bool t254]) ?_ 1 _ rfl; (with_reducible repeat apply bd_); exact BK241.out⟩, ⟨belE_⟩⟩
       ·
        replace c30 := Bool.eq_false_iff.mpr c30
        subst c30
        replace H := ifF_ H
        have H' := Aside0.mk H
        clear H
        go_wp2
        go_meet
        case rel => exact ⟨_, (x5_11), ((⟨#[]⟩ : ByteArray)), eqE_, H', ⟨by have := HJ11.out; first | omega | exact Nat.le_refl _⟩, ⟨blkE_⟩, ⟨blkE_⟩, ⟨belE_⟩⟩
      case rest =>
       clear HC29
       try clear c4
       try clear c6
       try clear c8
       try clear hcz17_0 hcz17_1 hcz17_2 hcz17_3 hcz17_4 hcz17_5 hcz17_6 hcz17_7 hcz17_8
       try clear hcz19_0 hcz19_1 hcz19_2 hcz19_3 hcz19_4 hcz19_5 hcz19_6 hcz19_7 hcz19_8
       try clear hfz17_0 hfz17_1 hfz17_2 hfz17_3 hfz17_4 hfz17_5 hfz17_6 hfz17_7 hfz17_8
       try clear hfz19_0 hfz19_1 hfz19_2 hfz19_3 hfz19_4 hfz19_5 hfz19_6 hfz19_7 hfz19_8
       obtain ⟨kq, x5_28, x242001_28, rfl, HA, HJ28, BK236, BK241, HB⟩ := hcut
       cases kq with
       | zero => exact absurd HA.out (by simp [impl_parse.j1])
       | succ kj28 =>
        have H := HA.out
        clear HA
        simp only [impl_parse.j1] at H
        replace H := Option.bind_eq_some_iff.mp H
        obtain ⟨⟨t262, t263, t264⟩, A330, H⟩ := H
        replace H : (if t264 = true then ((impl_number.f t263).bind fun bt265 => (if bt265.2 = true then ((impl_within.f bt265.1 1 65535).bind fun t267 => (impl_parse.j2 kj28 t262 bt265.1 (!t267) t240 x242001_28 (⟨#[]⟩ : ByteArray) 0 x242004_11 t256 t253 t257 t254)) else (impl_parse.j2 kj28 t262 bt265.1 true t240 x242001_28 (⟨#[]⟩ : ByteArray) 0 x242004_11 t256 t253 t257 t254))) else ((impl_lower.f t262).bind fun t273 => ((impl_UrlOK.f kj28 t240 x242001_28 t273 0 x242004_11 t256 t253 t257 t254).bind fun t274 => (some (t240, x242001_28, t273, 0, x242004_11, t256, t253, t257, t254, t274))))) = some (r1, r2, r3, r4, r5, r6, r7, r8, r9, r10) := H
        have A33 := Aside0.mk A330
        clear A330
        by_cases c34 : t264 = true
        ·
         subst c34
         replace H := ifT_ H
         replace H := Option.bind_eq_some_iff.mp H
         obtain ⟨⟨t265, t266⟩, A350, H⟩ := H
         replace H : (if t266 = true then ((impl_within.f t265 1 65535).bind fun t267 => (impl_parse.j2 kj28 t262 t265 (!t267) t240 x242001_28 (⟨#[]⟩ : ByteArray) 0 x242004_11 t256 t253 t257 t254)) else (impl_parse.j2 kj28 t262 t265 true t240 x242001_28 (⟨#[]⟩ : ByteArray) 0 x242004_11 t256 t253 t257 t254)) = some (r1, r2, r3, r4, r5, r6, r7, r8, r9, r10) := H
         have A35 := Aside0.mk A350
         clear A350
         have HC36 := Aside0.mk H
         clear H
         go_upto_region 24 with (first | ((with_reducible refine gate_callee (f := 110) rfl ?_); refine cU_ (some 95) Tryz.func110 #[.string x5_28, .string (⟨#[58]⟩ : ByteArray)] ?_; (with_reducible refine (strings_Cut.calls x5_28 (⟨#[58]⟩ : ByteArray) t262 t263 true _ A33.out).mono ?_); rintro e w' ⟨rfl, ⟨nd, rfl⟩⟩; refine ⟨_, rfl, ?_⟩) | ((with_reducible refine gate_callee (f := 114) rfl ?_); refine cU_ (some 102) Tryz.func114 #[.string t263] ?_; (with_reducible refine (impl_number.calls t263 t265 t266 _ ?side1 A35.out).mono ?_); (case side1 => exact Amb.on HM.out belE_); rintro e w37 ⟨rfl, hb⟩; refine ⟨_, rfl, ?_⟩; have n0_ := blkB_ (g := gb236) (o := .cells #[.string ⟨#[]⟩, .string ⟨#[]⟩, .string ⟨#[]⟩, .int .i64 0, .string ⟨#[]⟩, .string ⟨#[]⟩, .string ⟨#[]⟩, .bool false, .bool false] 32 (0, 0)) hb; have n1_ := blkB_ (g := gb241) (o := .cells #[.string t240, .string x242001_28, .string ⟨#[]⟩, .int .i64 0, .string x242004_11, .string t256, .string t253, .bool t257, .bool t254] 32 (0, 0)) hb; have n2_ := Aside0.mk (below_step belE_ hb); clear BK236; clear BK241; clear HB; have BK236 := n0_; have BK241 := n1_; have HB := n2_; clear n0_ n1_ n2_; (try clear hb); (try clear hb2); (try clear hk); (try clear hi)))
         (try simp only [Act.put, List.setIfInBounds_toArray, List.set_cons_zero, List.set_cons_succ])
         go_cut [111] (fun v111 wc => ∃ (kq : Nat) (x111_35 : Bool), v111 = .bool x111_35 ∧ Aside0 (impl_parse.j2 kq t262 t265 x111_35 t240 x242001_28 (⟨#[]⟩ : ByteArray) 0 x242004_11 t256 t253 t257 t254 = some (r1, r2, r3, r4, r5, r6, r7, r8, r9, r10)) ∧ Aside0 (kq ≤ kj28) ∧ Aside0 (wc.heap[gb236]? = some (.cells #[.string ⟨#[]⟩, .string ⟨#[]⟩, .string ⟨#[]⟩, .int .i64 0, .string ⟨#[]⟩, .string ⟨#[]⟩, .string ⟨#[]⟩, .bool false, .bool false] 32 (0, 0))) ∧ Aside0 (wc.heap[gb241]? = some (.cells #[.string t240, .string x242001_28, .string ⟨#[]⟩, .int .i64 0, .string x242004_11, .string t256, .string t253, .bool t257, .bool t254] 32 (0, 0))) ∧ Aside0 (Below w.heap.size w wc))
         case first =>
          have H := HC36.out
          clear HC36
          by_cases c38 : t266 = true
          ·
           subst c38
           replace H := ifT_ H
           obtain ⟨t267, A39, H⟩ := bindE_ H
           have H' := Aside0.mk H
           clear H
           go_wp2_with (first | (go_at_call 71; (with_reducible refine (impl_within.calls t265 1 65535 t267 _ A39.out).mono ?_); rintro e w' ⟨rfl, ⟨nd, rfl⟩⟩))
           go_meet
           case rel => exact ⟨_, (!t267), eqE_, H', ⟨by have := HJ11.out; have := HJ28.out; first | omega | exact Nat.le_refl _⟩, ⟨blkE_⟩, ⟨blkE_⟩, ⟨belE_⟩⟩
          ·
           replace c38 := Bool.eq_false_iff.mpr c38
           subst c38
           replace H := ifF_ H
           have H' := Aside0.mk H
           clear H
           go_wp2
           go_meet
           case rel => exact ⟨_, (true), eqE_, H', ⟨by have := HJ11.out; have := HJ28.out; first | omega | exact Nat.le_refl _⟩, ⟨blkE_⟩, ⟨blkE_⟩, ⟨belE_⟩⟩
         case rest =>
          clear HC36
          try clear c4
          try clear c6
          try clear c8
          try clear c34
          try clear hcz17_0 hcz17_1 hcz17_2 hcz17_3 hcz17_4 hcz17_5 hcz17_6 hcz17_7 hcz17_8
          try clear hcz19_0 hcz19_1 hcz19_2 hcz19_3 hcz19_4 hcz19_5 hcz19_6 hcz19_7 hcz19_8
          try clear hfz17_0 hfz17_1 hfz17_2 hfz17_3 hfz17_4 hfz17_5 hfz17_6 hfz17_7 hfz17_8
          try clear hfz19_0 hfz19_1 hfz19_2 hfz19_3 hfz19_4 hfz19_5 hfz19_6 hfz19_7 hfz19_8
          obtain ⟨kq, x111_35, rfl, HA, HJ35, BK236, BK241, HB⟩ := hcut
          cases kq with
          | zero => exact absurd HA.out (by simp [impl_parse.j2])
          | succ kj35 =>
           have H := HA.out
           clear HA
           simp only [impl_parse.j2] at H
           by_cases c40 : x111_35 = true
           ·
            subst c40
            replace H := ifT_ H
            simp only [Option.some.injEq, Prod.mk.injEq] at H
            obtain ⟨rfl, rfl, rfl, rfl, rfl, rfl, rfl, rfl, rfl, rfl⟩ := H
            have hnb41 := NB236_241.out
            have hnc41 := NB241_236.out
            obtain ⟨hcz42_0, hcz42_1, hcz42_2, hcz42_3, hcz42_4, hcz42_5, hcz42_6, hcz42_7, hcz42_8, hfz42_0, hfz42_1, hfz42_2, hfz42_3, hfz42_4, hfz42_5, hfz42_6, hfz42_7, hfz42_8⟩ := cz9_ BK236
            go_wp2
            refine bodyPost_ret (results_ct rfl _ _ gb236 32 #[.string ⟨#[]⟩, .string ⟨#[]⟩, .string ⟨#[]⟩, .int .i64 0, .string ⟨#[]⟩, .string ⟨#[]⟩, .string ⟨#[]⟩, .bool false, .bool false] (0, 0) _ rfl (by (with_reducible repeat apply bd_); refine blk_put (cs := #[.string ⟨#[]⟩, .string ⟨#[]⟩, .string ⟨#[]⟩, .int .i64 0, .string ⟨#[]⟩, .string ⟨#[]⟩, .string ⟨#[]⟩, .bool false, .bool false]) ?_ 8 _ rfl; (with_reducible repeat apply bd_); refine blk_put (cs := #[.string ⟨#[]⟩, .string ⟨#[]⟩, .string ⟨#[]⟩, .int .i64 0, .string ⟨#[]⟩, .string ⟨#[]⟩, .string ⟨#[]⟩, .bool false, .bool false]) ?_ 7 _ rfl; (with_reducible repeat apply bd_); refine blk_put (cs := #[.string ⟨#[]⟩, .string ⟨#[]⟩, .string ⟨#[]⟩, .int .i64 0, .string ⟨#[]⟩, .string ⟨#[]⟩, .string ⟨#[]⟩, .bool false, .bool false]) ?_ 6 _ rfl; (with_reducible repeat apply bd_); refine blk_put (cs := #[.string ⟨#[]⟩, .string ⟨#[]⟩, .string ⟨#[]⟩, .int .i64 0, .string ⟨#[]⟩, .string ⟨#[]⟩, .string ⟨#[]⟩, .bool false, .bool false]) ?_ 5 _ rfl; (with_reducible repeat apply bd_); refine blk_put (cs := #[.string ⟨#[]⟩, .string ⟨#[]⟩, .string ⟨#[]⟩, .int .i64 0, .string ⟨#[]⟩, .string ⟨#[]⟩, .string ⟨#[]⟩, .bool false, .bool false]) ?_ 4 _ rfl; (with_reducible repeat apply bd_); refine blk_put (cs := #[.string ⟨#[]⟩, .string ⟨#[]⟩, .string ⟨#[]⟩, .int .i64 0, .string ⟨#[]⟩, .string ⟨#[]⟩, .string ⟨#[]⟩, .bool false, .bool false]) ?_ 3 _ rfl; (with_reducible repeat apply bd_); refine blk_put (cs := #[.string ⟨#[]⟩, .string ⟨#[]⟩, .string ⟨#[]⟩, .int .i64 0, .string ⟨#[]⟩, .string ⟨#[]⟩, .string ⟨#[]⟩, .bool false, .bool false]) ?_ 2 _ rfl; (with_reducible repeat apply bd_); refine blk_put (cs := #[.string ⟨#[]⟩, .string ⟨#[]⟩, .string ⟨#[]⟩, .int .i64 0, .string ⟨#[]⟩, .string ⟨#[]⟩, .string ⟨#[]⟩, .bool false, .bool false]) ?_ 1 _ rfl; (with_reducible repeat apply bd_); refine blk_put (cs := #[.string ⟨#[]⟩, .string ⟨#[]⟩, .string ⟨#[]⟩, .int .i64 0, .string ⟨#[]⟩, .string ⟨#[]⟩, .string ⟨#[]⟩, .bool false, .bool false]) ?_ 0 _ rfl; (with_reducible repeat apply bd_); exact BK236.out) Tryz.underlying32 rfl (by kernel_rfl)) rfl ?_
            exact ⟨retE_, belE_⟩
           ·
            replace c40 := Bool.eq_false_iff.mpr c40
            subst c40
            replace H := ifF_ H
            obtain ⟨t268, A43, H⟩ := bindE_ H
            by_cases c44 : t265 = t268
            ·
             rw [if_pos c44] at H
             have c44b0 : (t265 == t268) = true := beq_iff_eq.mpr c44
             have c44b1 : (t265 != t268) = false := bne_eq_false_iff_eq.mpr c44
             clear c44
             obtain ⟨t269, A45, H⟩ := bindE_ H
             obtain ⟨t270, A46, H⟩ := bindE_ H
             simp only [Option.some.injEq, Prod.mk.injEq] at H
             obtain ⟨rfl, rfl, rfl, rfl, rfl, rfl, rfl, rfl, rfl, rfl⟩ := H
             have hnb47 := NB241_236.out
             have hnc47 := NB236_241.out
             obtain ⟨hcz48_0, hcz48_1, hcz48_2, hcz48_3, hcz48_4, hcz48_5, hcz48_6, hcz48_7, hcz48_8, hfz48_0, hfz48_1, hfz48_2, hfz48_3, hfz48_4, hfz48_5, hfz48_6, hfz48_7, hfz48_8⟩ := cz9_ BK241
             try go_wp2_with (first | ((with_reducible refine gate_callee (f := 72) rfl ?_); refine cU_ (some 116) Tryz.func72 #[.string t240] ?_; (with_reducible refine (impl_usual.calls t240 t268 _ A43.out).mono ?_); rintro e w' ⟨rfl, ⟨nd, rfl⟩⟩; refine ⟨_, rfl, ?_⟩; (try (rw [drewN_self wc]; generalize hq_ : World.drewN wc _ = wc; have n0_ : Aside0 (wc.heap[gb236]? = some (.cells #[.string ⟨#[]⟩, .string ⟨#[]⟩, .string ⟨#[]⟩, .int .i64 0, .string ⟨#[]⟩, .string ⟨#[]⟩, .string ⟨#[]⟩, .bool false, .bool false] 32 (0, 0))) := ⟨by rw [← hq_]; exact (by (with_reducible repeat apply bd_); exact BK236.out)⟩; have n1_ : Aside0 (wc.heap[gb241]? = some (.cells #[.string t240, .string x242001_28, .string ⟨#[]⟩, .int .i64 0, .string x242004_11, .string t256, .string t253, .bool t257, .bool t254] 32 (0, 0))) := ⟨by rw [← hq_]; exact (by (with_reducible repeat apply bd_); exact BK241.out)⟩; have n2_ : Aside0 (Below w.heap.size w wc) := ⟨by rw [← hq_]; exact belE_⟩; clear BK236 BK241 HB hq_; have BK236 := n0_; have BK241 := n1_; have HB := n2_; clear n0_ n1_ n2_; obtain ⟨hcz48_0, hcz48_1, hcz48_2, hcz48_3, hcz48_4, hcz48_5, hcz48_6, hcz48_7, hcz48_8, hfz48_0, hfz48_1, hfz48_2, hfz48_3, hfz48_4, hfz48_5, hfz48_6, hfz48_7, hfz48_8⟩ := cz9_ BK241))) | ((with_reducible refine gate_callee (f := 111) rfl ?_); refine cU_ (some 121) Tryz.func111 #[.string t262] ?_; (with_reducible refine (impl_lower.calls t262 t269 _ A45.out).mono ?_); rintro e w49 ⟨rfl, hb⟩; refine ⟨_, rfl, ?_⟩; have n0_ := blkB_ (g := gb236) (o := .cells #[.string ⟨#[]⟩, .string ⟨#[]⟩, .string ⟨#[]⟩, .int .i64 0, .string ⟨#[]⟩, .string ⟨#[]⟩, .string ⟨#[]⟩, .bool false, .bool false] 32 (0, 0)) hb; have n1_ := blkB_ (g := gb241) (o := .cells #[.string t240, .string x242001_28, .string ⟨#[]⟩, .int .i64 0, .string x242004_11, .string t256, .string t253, .bool t257, .bool t254] 32 (0, 0)) hb; have n2_ := Aside0.mk (below_step belE_ hb); clear BK236; clear BK241; clear HB; have BK236 := n0_; have BK241 := n1_; have HB := n2_; clear n0_ n1_ n2_; (try clear hb); (try clear hb2); (try clear hk); (try clear hi); obtain ⟨hcz50_0, hcz50_1, hcz50_2, hcz50_3, hcz50_4, hcz50_5, hcz50_6, hcz50_7, hcz50_8, hfz50_0, hfz50_1, hfz50_2, hfz50_3, hfz50_4, hfz50_5, hfz50_6, hfz50_7, hfz50_8⟩ := cz9_ BK241))
             refine worldR_ (R := fun W_ => Aside0 (W_.heap[gb236]? = some (.cells #[.string ⟨#[]⟩, .string ⟨#[]⟩, .string ⟨#[]⟩, .int .i64 0, .string ⟨#[]⟩, .string ⟨#[]⟩, .string ⟨#[]⟩, .bool false, .bool false] 32 (0, 0))) ∧ Aside0 (W_.heap[gb241]? = some (.cells #[.string t240, .string x242001_28, .string t269, .int .i64 0, .string x242004_11, .string t256, .string t253, .bool t257, .bool t254] 32 (0, 0))) ∧ Aside0 (Below w.heap.size w W_)) ⟨⟨farE_⟩, ⟨by (with_reducible repeat apply bd_); refine blk_put (cs := #[.string t240, .string x242001_28, .string ⟨#[]⟩, .int .i64 0, .string x242004_11, .string t256, .string t253, .bool t257, .bool t254]) ?_ 2 _ rfl; (with_reducible repeat apply bd_); exact BK241.out⟩, ⟨belE_⟩⟩ ?_
             (try clear BK236)
             (try clear BK241)
             (try clear HB)
             rintro w51 ⟨n0_, n1_, n2_⟩
             have BK236 := n0_
             have BK241 := n1_
             have HB := n2_
             clear n0_ n1_ n2_
             replace BK236 := Aside0.mk (blk_drew BK236.out)
             replace BK241 := Aside0.mk (blk_drew BK241.out)
             replace HB := Aside0.mk (below_drew1 HB.out)
             refine start_ (n := 5) (S := fun w' => w'.cell? ⟨gb241, 0, none⟩ = some (.string t240) ∧ w'.cell? ⟨gb241, 1, none⟩ = some (.string x242001_28) ∧ w'.cell? ⟨gb241, 2, none⟩ = some (.string t269) ∧ w'.cell? ⟨gb241, 3, none⟩ = some (.int .i64 0) ∧ w'.cell? ⟨gb241, 4, none⟩ = some (.string x242004_11) ∧ w'.cell? ⟨gb241, 5, none⟩ = some (.string t256) ∧ w'.cell? ⟨gb241, 6, none⟩ = some (.string t253) ∧ w'.cell? ⟨gb241, 7, none⟩ = some (.bool t257) ∧ w'.cell? ⟨gb241, 8, none⟩ = some (.bool t254)) (ds := []) #[false, false, false, false, false] (by kernel_rfl) rfl rfl (held9_ BK241.out) (fun hHeld => ?_)
             generalize w51.drew = w52 at BK236 BK241 HB hHeld ⊢
             refine take_ (i := 0) (N := some 123) (v := ?_) (a' := ?_) #[true, false, false, false, false] rfl rfl (by kernel_rfl) (fun _ _ _ h => h) (Or.inl ⟨by rfl, ?_⟩) hHeld ?_ ?_
             rotate_left
             ·
              rintro w' ⟨s0, s1, s2, s3, s4, s5, s6, s7, s8⟩
              go_simp
              with_reducible rfl
             rotate_left
             ·
              simp only [Act.put, List.setIfInBounds_toArray, List.set_cons_zero, List.set_cons_succ, i64_w, i32_w]
              rfl
             refine take_ (i := 1) (N := some 124) (v := ?_) (a' := ?_) #[true, true, false, false, false] rfl rfl (by kernel_rfl) (fun _ _ _ h => h) (Or.inl ⟨by rfl, ?_⟩) hHeld ?_ ?_
             rotate_left
             ·
              rintro w' ⟨s0, s1, s2, s3, s4, s5, s6, s7, s8⟩
              go_simp
              with_reducible rfl
             rotate_left
             ·
              simp only [Act.put, List.setIfInBounds_toArray, List.set_cons_zero, List.set_cons_succ, i64_w, i32_w]
              rfl
             refine one_ (i := 2) (N := some 125) #[true, true, true, false, false] rfl rfl (by kernel_rfl) (by decide) (fun K hK => ?_)
             refine goes_ Tryz.func27 (by kernel_rfl) rfl #[.agg #[.string t240, .string x242001_28, .string t269, .int .i64 0, .string x242004_11, .string t256, .string t253, .bool t257, .bool t254]] (by rfl) rfl rfl (by (try simp only [List.map_toArray, List.map_cons, List.map_nil]); first | done | rfl | (simp only [List.length_drop, List.length_take]; rfl)) ?_
             with_reducible refine (impl_UrlOK.calls kj35 t240 x242001_28 t269 0 x242004_11 t256 t253 t257 t254 t270 _ ?side1 A46.out).mono ?_
             (case side1 => exact Amb.on HM.out belE_)
             rintro e w53 ⟨rfl, hb⟩
             refine ⟨_, rfl, ?_⟩
             replace BK236 := blkB_ (g := gb236) (o := .cells #[.string ⟨#[]⟩, .string ⟨#[]⟩, .string ⟨#[]⟩, .int .i64 0, .string ⟨#[]⟩, .string ⟨#[]⟩, .string ⟨#[]⟩, .bool false, .bool false] 32 (0, 0)) hb
             replace BK241 := blkB_ (g := gb241) (o := .cells #[.string t240, .string x242001_28, .string t269, .int .i64 0, .string x242004_11, .string t256, .string t253, .bool t257, .bool t254] 32 (0, 0)) hb
             replace HB := Aside0.mk (below_step belE_ hb)
             (try clear hb)
             (try clear hb2)
             (try clear hk)
             (try clear hi)
             refine hK.out _ _ (held9_ BK241.out) (fun hHeld => ?_)
             clear hK K
             refine norm_ (a' := ?_) ?_ ?_
             rotate_left
             ·
              show Act.put _ (some 125) _ = _
              simp only [Act.put, List.setIfInBounds_toArray, List.set_cons_zero, List.set_cons_succ, i64_w, i32_w]
              rfl
             refine one_ (i := 3) (N := none) #[true, true, true, true, false] rfl rfl (by kernel_rfl) (by decide) (fun K hK => ?_)
             have hs54 : w53.cell? ⟨gb236, 0, none⟩ = some (.string ⟨#[]⟩) := (blk_cell BK236.out 0).trans rfl
             have hfs54 := blk_frozen BK236.out 0
             have hns54_1 := NB241_236.out
             have hms54_1 := NB236_241.out
             have hs55 : w53.cell? ⟨gb236, 1, none⟩ = some (.string ⟨#[]⟩) := (blk_cell BK236.out 1).trans rfl
             have hfs55 := blk_frozen BK236.out 1
             have hns55_1 := NB241_236.out
             have hms55_1 := NB236_241.out
             have hs56 : w53.cell? ⟨gb236, 2, none⟩ = some (.string ⟨#[]⟩) := (blk_cell BK236.out 2).trans rfl
             have hfs56 := blk_frozen BK236.out 2
             have hns56_1 := NB241_236.out
             have hms56_1 := NB236_241.out
             have hs57 : w53.cell? ⟨gb236, 3, none⟩ = some (.int .i64 0) := (blk_cell BK236.out 3).trans rfl
             have hfs57 := blk_frozen BK236.out 3
             have hns57_1 := NB241_236.out
             have hms57_1 := NB236_241.out
             have hs58 : w53.cell? ⟨gb236, 4, none⟩ = some (.string ⟨#[]⟩) := (blk_cell BK236.out 4).trans rfl
             have hfs58 := blk_frozen BK236.out 4
             have hns58_1 := NB241_236.out
             have hms58_1 := NB236_241.out
             have hs59 : w53.cell? ⟨gb236, 5, none⟩ = some (.string ⟨#[]⟩) := (blk_cell BK236.out 5).trans rfl
             have hfs59 := blk_frozen BK236.out 5
             have hns59_1 := NB241_236.out
             have hms59_1 := NB236_241.out
             have hs60 : w53.cell? ⟨gb236, 6, none⟩ = some (.string ⟨#[]⟩) := (blk_cell BK236.out 6).trans rfl
             have hfs60 := blk_frozen BK236.out 6
             have hns60_1 := NB241_236.out
             have hms60_1 := NB236_241.out
             have hs61 : w53.cell? ⟨gb236, 7, none⟩ = some (.bool false) := (blk_cell BK236.out 7).trans rfl
             have hfs61 := blk_frozen BK236.out 7
             have hns61_1 := NB241_236.out
             have hms61_1 := NB236_241.out
             have hs62 : w53.cell? ⟨gb236, 8, none⟩ = some (.bool false) := (blk_cell BK236.out 8).trans rfl
             have hfs62 := blk_frozen BK236.out 8
             have hns62_1 := NB241_236.out
             have hms62_1 := NB236_241.out
             refine skip_ (w1 := ?_) (by rfl) rfl ?_ ?_
             rotate_left
             ·
              go_simp
              rfl
             refine hK.out _ _ ⟨(f_ NB241_236 ((f_ NB241_236 ((f_ NB241_236 ((f_ NB241_236 ((f_ NB241_236 ((f_ NB241_236 ((f_ NB241_236 ((f_ NB241_236 ((f_ NB241_236 (hHeld.1)))))))))))))))))), (f_ NB241_236 ((f_ NB241_236 ((f_ NB241_236 ((f_ NB241_236 ((f_ NB241_236 ((f_ NB241_236 ((f_ NB241_236 ((f_ NB241_236 ((f_ NB241_236 (hHeld.2.1)))))))))))))))))), (f_ NB241_236 ((f_ NB241_236 ((f_ NB241_236 ((f_ NB241_236 ((f_ NB241_236 ((f_ NB241_236 ((f_ NB241_236 ((f_ NB241_236 ((f_ NB241_236 (hHeld.2.2.1)))))))))))))))))), (f_ NB241_236 ((f_ NB241_236 ((f_ NB241_236 ((f_ NB241_236 ((f_ NB241_236 ((f_ NB241_236 ((f_ NB241_236 ((f_ NB241_236 ((f_ NB241_236 (hHeld.2.2.2.1)))))))))))))))))), (f_ NB241_236 ((f_ NB241_236 ((f_ NB241_236 ((f_ NB241_236 ((f_ NB241_236 ((f_ NB241_236 ((f_ NB241_236 ((f_ NB241_236 ((f_ NB241_236 (hHeld.2.2.2.2.1)))))))))))))))))), (f_ NB241_236 ((f_ NB241_236 ((f_ NB241_236 ((f_ NB241_236 ((f_ NB241_236 ((f_ NB241_236 ((f_ NB241_236 ((f_ NB241_236 ((f_ NB241_236 (hHeld.2.2.2.2.2.1)))))))))))))))))), (f_ NB241_236 ((f_ NB241_236 ((f_ NB241_236 ((f_ NB241_236 ((f_ NB241_236 ((f_ NB241_236 ((f_ NB241_236 ((f_ NB241_236 ((f_ NB241_236 (hHeld.2.2.2.2.2.2.1)))))))))))))))))), (f_ NB241_236 ((f_ NB241_236 ((f_ NB241_236 ((f_ NB241_236 ((f_ NB241_236 ((f_ NB241_236 ((f_ NB241_236 ((f_ NB241_236 ((f_ NB241_236 (hHeld.2.2.2.2.2.2.2.1)))))))))))))))))), (f_ NB241_236 ((f_ NB241_236 ((f_ NB241_236 ((f_ NB241_236 ((f_ NB241_236 ((f_ NB241_236 ((f_ NB241_236 ((f_ NB241_236 ((f_ NB241_236 (hHeld.2.2.2.2.2.2.2.2))))))))))))))))))⟩ (fun hHeld => ?_)
             clear hK K
             refine pure_ (i := 4) (N := some 3) (v := ?_) (a' := ?_) #[true, true, true, true, true] rfl rfl (by kernel_rfl) (fun _ _ _ h => h) (Or.inl ⟨by rfl, ?_⟩) ?_ ?_
             rotate_left
             ·
              intro w'
              go_simp
              with_reducible rfl
             rotate_left
             ·
              simp only [Act.put, List.setIfInBounds_toArray, List.set_cons_zero, List.set_cons_succ, i64_w, i32_w]
              rfl
             refine done_ (by kernel_rfl) ?_
             try go_wp2
             refine bodyPost_ret (results_ct rfl _ _ gb236 32 #[.string t240, .string x242001_28, .string t269, .int .i64 0, .string x242004_11, .string t256, .string t253, .bool t257, .bool t254] (0, 0) _ rfl (by (with_reducible repeat apply bd_); refine blk_put (cs := #[.string t240, .string x242001_28, .string t269, .int .i64 0, .string x242004_11, .string t256, .string t253, .bool t257, .bool false]) ?_ 8 _ rfl; (with_reducible repeat apply bd_); refine blk_put (cs := #[.string t240, .string x242001_28, .string t269, .int .i64 0, .string x242004_11, .string t256, .string t253, .bool false, .bool false]) ?_ 7 _ rfl; (with_reducible repeat apply bd_); refine blk_put (cs := #[.string t240, .string x242001_28, .string t269, .int .i64 0, .string x242004_11, .string t256, .string ⟨#[]⟩, .bool false, .bool false]) ?_ 6 _ rfl; (with_reducible repeat apply bd_); refine blk_put (cs := #[.string t240, .string x242001_28, .string t269, .int .i64 0, .string x242004_11, .string ⟨#[]⟩, .string ⟨#[]⟩, .bool false, .bool false]) ?_ 5 _ rfl; (with_reducible repeat apply bd_); refine blk_put (cs := #[.string t240, .string x242001_28, .string t269, .int .i64 0, .string ⟨#[]⟩, .string ⟨#[]⟩, .string ⟨#[]⟩, .bool false, .bool false]) ?_ 4 _ rfl; (with_reducible repeat apply bd_); refine blk_put (cs := #[.string t240, .string x242001_28, .string t269, .int .i64 0, .string ⟨#[]⟩, .string ⟨#[]⟩, .string ⟨#[]⟩, .bool false, .bool false]) ?_ 3 _ rfl; (with_reducible repeat apply bd_); refine blk_put (cs := #[.string t240, .string x242001_28, .string ⟨#[]⟩, .int .i64 0, .string ⟨#[]⟩, .string ⟨#[]⟩, .string ⟨#[]⟩, .bool false, .bool false]) ?_ 2 _ rfl; (with_reducible repeat apply bd_); refine blk_put (cs := #[.string t240, .string ⟨#[]⟩, .string ⟨#[]⟩, .int .i64 0, .string ⟨#[]⟩, .string ⟨#[]⟩, .string ⟨#[]⟩, .bool false, .bool false]) ?_ 1 _ rfl; (with_reducible repeat apply bd_); refine blk_put (cs := #[.string ⟨#[]⟩, .string ⟨#[]⟩, .string ⟨#[]⟩, .int .i64 0, .string ⟨#[]⟩, .string ⟨#[]⟩, .string ⟨#[]⟩, .bool false, .bool false]) ?_ 0 _ rfl; (with_reducible repeat apply bd_); exact BK236.out) Tryz.underlying32 rfl (by kernel_rfl)) rfl ?_
             exact ⟨retE_, belE_⟩
            ·
             rw [if_neg c44] at H
             have c44b0 : (t265 == t268) = false := beq_eq_false_iff_ne.mpr c44
             have c44b1 : (t265 != t268) = true := bne_iff_ne.mpr c44
             obtain ⟨t271, A63, H⟩ := bindE_ H
             obtain ⟨t272, A64, H⟩ := bindE_ H
             simp only [Option.some.injEq, Prod.mk.injEq] at H
             obtain ⟨rfl, rfl, rfl, rfl, rfl, rfl, rfl, rfl, rfl, rfl⟩ := H
             have hnb65 := NB241_236.out
             have hnc65 := NB236_241.out
             obtain ⟨hcz66_0, hcz66_1, hcz66_2, hcz66_3, hcz66_4, hcz66_5, hcz66_6, hcz66_7, hcz66_8, hfz66_0, hfz66_1, hfz66_2, hfz66_3, hfz66_4, hfz66_5, hfz66_6, hfz66_7, hfz66_8⟩ := cz9_ BK241
             try go_wp2_with (first | ((with_reducible refine gate_callee (f := 72) rfl ?_); refine cU_ (some 116) Tryz.func72 #[.string t240] ?_; (with_reducible refine (impl_usual.calls t240 t268 _ A43.out).mono ?_); rintro e w' ⟨rfl, ⟨nd, rfl⟩⟩; refine ⟨_, rfl, ?_⟩; (try (rw [drewN_self wc]; generalize hq_ : World.drewN wc _ = wc; have n0_ : Aside0 (wc.heap[gb236]? = some (.cells #[.string ⟨#[]⟩, .string ⟨#[]⟩, .string ⟨#[]⟩, .int .i64 0, .string ⟨#[]⟩, .string ⟨#[]⟩, .string ⟨#[]⟩, .bool false, .bool false] 32 (0, 0))) := ⟨by rw [← hq_]; exact (by (with_reducible repeat apply bd_); exact BK236.out)⟩; have n1_ : Aside0 (wc.heap[gb241]? = some (.cells #[.string t240, .string x242001_28, .string ⟨#[]⟩, .int .i64 0, .string x242004_11, .string t256, .string t253, .bool t257, .bool t254] 32 (0, 0))) := ⟨by rw [← hq_]; exact (by (with_reducible repeat apply bd_); exact BK241.out)⟩; have n2_ : Aside0 (Below w.heap.size w wc) := ⟨by rw [← hq_]; exact belE_⟩; clear BK236 BK241 HB hq_; have BK236 := n0_; have BK241 := n1_; have HB := n2_; clear n0_ n1_ n2_; obtain ⟨hcz66_0, hcz66_1, hcz66_2, hcz66_3, hcz66_4, hcz66_5, hcz66_6, hcz66_7, hcz66_8, hfz66_0, hfz66_1, hfz66_2, hfz66_3, hfz66_4, hfz66_5, hfz66_6, hfz66_7, hfz66_8⟩ := cz9_ BK241))) | ((with_reducible refine gate_callee (f := 111) rfl ?_); refine cU_ (some 121) Tryz.func111 #[.string t262] ?_; (with_reducible refine (impl_lower.calls t262 t271 _ A63.out).mono ?_); rintro e w67 ⟨rfl, hb⟩; refine ⟨_, rfl, ?_⟩; have n0_ := Aside0.mk (blk_below (g := gb236) (o := .cells #[.string ⟨#[]⟩, .string ⟨#[]⟩, .string ⟨#[]⟩, .int .i64 0, .string ⟨#[]⟩, .string ⟨#[]⟩, .string ⟨#[]⟩, .bool false, .bool false] 32 (0, 0)) farE_ hb); have n1_ := Aside0.mk (blk_below (g := gb241) (o := .cells #[.string t240, .string x242001_28, .string ⟨#[]⟩, .int .i64 t265, .string x242004_11, .string t256, .string t253, .bool t257, .bool t254] 32 (0, 0)) (by (with_reducible repeat apply bd_); refine blk_put (cs := #[.string t240, .string x242001_28, .string ⟨#[]⟩, .int .i64 0, .string x242004_11, .string t256, .string t253, .bool t257, .bool t254]) ?_ 3 _ rfl; (with_reducible repeat apply bd_); exact BK241.out) hb); have n2_ := Aside0.mk (below_step belE_ hb); clear BK236; clear BK241; clear HB; have BK236 := n0_; have BK241 := n1_; have HB := n2_; clear n0_ n1_ n2_; (try clear hb); (try clear hb2); (try clear hk); (try clear hi); obtain ⟨hcz68_0, hcz68_1, hcz68_2, hcz68_3, hcz68_4, hcz68_5, hcz68_6, hcz68_7, hcz68_8, hfz68_0, hfz68_1, hfz68_2, hfz68_3, hfz68_4, hfz68_5, hfz68_6, hfz68_7, hfz68_8⟩ := cz9_ BK241))
             refine worldR_ (R := fun W_ => Aside0 (W_.heap[gb236]? = some (.cells #[.string ⟨#[]⟩, .string ⟨#[]⟩, .string ⟨#[]⟩, .int .i64 0, .string ⟨#[]⟩, .string ⟨#[]⟩, .string ⟨#[]⟩, .bool false, .bool false] 32 (0, 0))) ∧ Aside0 (W_.heap[gb241]? = some (.cells #[.string t240, .string x242001_28, .string t271, .int .i64 t265, .string x242004_11, .string t256, .string t253, .bool t257, .bool t254] 32 (0, 0))) ∧ Aside0 (Below w.heap.size w W_)) ⟨⟨farE_⟩, ⟨by (with_reducible repeat apply bd_); refine blk_put (cs := #[.string t240, .string x242001_28, .string ⟨#[]⟩, .int .i64 t265, .string x242004_11, .string t256, .string t253, .bool t257, .bool t254]) ?_ 2 _ rfl; (with_reducible repeat apply bd_); exact BK241.out⟩, ⟨belE_⟩⟩ ?_
             (try clear BK236)
             (try clear BK241)
             (try clear HB)
             rintro w69 ⟨n0_, n1_, n2_⟩
             have BK236 := n0_
             have BK241 := n1_
             have HB := n2_
             clear n0_ n1_ n2_
             replace BK236 := Aside0.mk (blk_drew BK236.out)
             replace BK241 := Aside0.mk (blk_drew BK241.out)
             replace HB := Aside0.mk (below_drew1 HB.out)
             refine start_ (n := 5) (S := fun w' => w'.cell? ⟨gb241, 0, none⟩ = some (.string t240) ∧ w'.cell? ⟨gb241, 1, none⟩ = some (.string x242001_28) ∧ w'.cell? ⟨gb241, 2, none⟩ = some (.string t271) ∧ w'.cell? ⟨gb241, 3, none⟩ = some (.int .i64 t265) ∧ w'.cell? ⟨gb241, 4, none⟩ = some (.string x242004_11) ∧ w'.cell? ⟨gb241, 5, none⟩ = some (.string t256) ∧ w'.cell? ⟨gb241, 6, none⟩ = some (.string t253) ∧ w'.cell? ⟨gb241, 7, none⟩ = some (.bool t257) ∧ w'.cell? ⟨gb241, 8, none⟩ = some (.bool t254)) (ds := []) #[false, false, false, false, false] (by kernel_rfl) rfl rfl (held9_ BK241.out) (fun hHeld => ?_)
             generalize w69.drew = w70 at BK236 BK241 HB hHeld ⊢
             refine take_ (i := 0) (N := some 123) (v := ?_) (a' := ?_) #[true, false, false, false, false] rfl rfl (by kernel_rfl) (fun _ _ _ h => h) (Or.inl ⟨by rfl, ?_⟩) hHeld ?_ ?_
             rotate_left
             ·
              rintro w' ⟨s0, s1, s2, s3, s4, s5, s6, s7, s8⟩
              go_simp
              with_reducible rfl
             rotate_left
             ·
              simp only [Act.put, List.setIfInBounds_toArray, List.set_cons_zero, List.set_cons_succ, i64_w, i32_w]
              rfl
             refine take_ (i := 1) (N := some 124) (v := ?_) (a' := ?_) #[true, true, false, false, false] rfl rfl (by kernel_rfl) (fun _ _ _ h => h) (Or.inl ⟨by rfl, ?_⟩) hHeld ?_ ?_
             rotate_left
             ·
              rintro w' ⟨s0, s1, s2, s3, s4, s5, s6, s7, s8⟩
              go_simp
              with_reducible rfl
             rotate_left
             ·
              simp only [Act.put, List.setIfInBounds_toArray, List.set_cons_zero, List.set_cons_succ, i64_w, i32_w]
              rfl
             refine one_ (i := 2) (N := some 125) #[true, true, true, false, false] rfl rfl (by kernel_rfl) (by decide) (fun K hK => ?_)
             refine goes_ Tryz.func27 (by kernel_rfl) rfl #[.agg #[.string t240, .string x242001_28, .string t271, .int .i64 t265, .string x242004_11, .string t256, .string t253, .bool t257, .bool t254]] (by rfl) rfl rfl (by (try simp only [List.map_toArray, List.map_cons, List.map_nil]); first | done | rfl | (simp only [List.length_drop, List.length_take]; rfl)) ?_
             with_reducible refine (impl_UrlOK.calls kj35 t240 x242001_28 t271 t265 x242004_11 t256 t253 t257 t254 t272 _ ?side1 A64.out).mono ?_
             (case side1 => exact Amb.on HM.out belE_)
             rintro e w71 ⟨rfl, hb⟩
             refine ⟨_, rfl, ?_⟩
             replace BK236 := blkB_ (g := gb236) (o := .cells #[.string ⟨#[]⟩, .string ⟨#[]⟩, .string ⟨#[]⟩, .int .i64 0, .string ⟨#[]⟩, .string ⟨#[]⟩, .string ⟨#[]⟩, .bool false, .bool false] 32 (0, 0)) hb
             replace BK241 := blkB_ (g := gb241) (o := .cells #[.string t240, .string x242001_28, .string t271, .int .i64 t265, .string x242004_11, .string t256, .string t253, .bool t257, .bool t254] 32 (0, 0)) hb
             replace HB := Aside0.mk (below_step belE_ hb)
             (try clear hb)
             (try clear hb2)
             (try clear hk)
             (try clear hi)
             refine hK.out _ _ (held9_ BK241.out) (fun hHeld => ?_)
             clear hK K
             refine norm_ (a' := ?_) ?_ ?_
             rotate_left
             ·
              show Act.put _ (some 125) _ = _
              simp only [Act.put, List.setIfInBounds_toArray, List.set_cons_zero, List.set_cons_succ, i64_w, i32_w]
              rfl
             refine one_ (i := 3) (N := none) #[true, true, true, true, false] rfl rfl (by kernel_rfl) (by decide) (fun K hK => ?_)
             have hs72 : w71.cell? ⟨gb236, 0, none⟩ = some (.string ⟨#[]⟩) := (blk_cell BK236.out 0).trans rfl
             have hfs72 := blk_frozen BK236.out 0
             have hns72_1 := NB241_236.out
             have hms72_1 := NB236_241.out
             have hs73 : w71.cell? ⟨gb236, 1, none⟩ = some (.string ⟨#[]⟩) := (blk_cell BK236.out 1).trans rfl
             have hfs73 := blk_frozen BK236.out 1
             have hns73_1 := NB241_236.out
             have hms73_1 := NB236_241.out
             have hs74 : w71.cell? ⟨gb236, 2, none⟩ = some (.string ⟨#[]⟩) := (blk_cell BK236.out 2).trans rfl
             have hfs74 := blk_frozen BK236.out 2
             have hns74_1 := NB241_236.out
             have hms74_1 := NB236_241.out
             have hs75 : w71.cell? ⟨gb236, 3, none⟩ = some (.int .i64 0) := (blk_cell BK236.out 3).trans rfl
             have hfs75 := blk_frozen BK236.out 3
             have hns75_1 := NB241_236.out
             have hms75_1 := NB236_241.out
             have hs76 : w71.cell? ⟨gb236, 4, none⟩ = some (.string ⟨#[]⟩) := (blk_cell BK236.out 4).trans rfl
             have hfs76 := blk_frozen BK236.out 4
             have hns76_1 := NB241_236.out
             have hms76_1 := NB236_241.out
             have hs77 : w71.cell? ⟨gb236, 5, none⟩ = some (.string ⟨#[]⟩) := (blk_cell BK236.out 5).trans rfl
             have hfs77 := blk_frozen BK236.out 5
             have hns77_1 := NB241_236.out
             have hms77_1 := NB236_241.out
             have hs78 : w71.cell? ⟨gb236, 6, none⟩ = some (.string ⟨#[]⟩) := (blk_cell BK236.out 6).trans rfl
             have hfs78 := blk_frozen BK236.out 6
             have hns78_1 := NB241_236.out
             have hms78_1 := NB236_241.out
             have hs79 : w71.cell? ⟨gb236, 7, none⟩ = some (.bool false) := (blk_cell BK236.out 7).trans rfl
             have hfs79 := blk_frozen BK236.out 7
             have hns79_1 := NB241_236.out
             have hms79_1 := NB236_241.out
             have hs80 : w71.cell? ⟨gb236, 8, none⟩ = some (.bool false) := (blk_cell BK236.out 8).trans rfl
             have hfs80 := blk_frozen BK236.out 8
             have hns80_1 := NB241_236.out
             have hms80_1 := NB236_241.out
             refine skip_ (w1 := ?_) (by rfl) rfl ?_ ?_
             rotate_left
             ·
              go_simp
              rfl
             refine hK.out _ _ ⟨(f_ NB241_236 ((f_ NB241_236 ((f_ NB241_236 ((f_ NB241_236 ((f_ NB241_236 ((f_ NB241_236 ((f_ NB241_236 ((f_ NB241_236 ((f_ NB241_236 (hHeld.1)))))))))))))))))), (f_ NB241_236 ((f_ NB241_236 ((f_ NB241_236 ((f_ NB241_236 ((f_ NB241_236 ((f_ NB241_236 ((f_ NB241_236 ((f_ NB241_236 ((f_ NB241_236 (hHeld.2.1)))))))))))))))))), (f_ NB241_236 ((f_ NB241_236 ((f_ NB241_236 ((f_ NB241_236 ((f_ NB241_236 ((f_ NB241_236 ((f_ NB241_236 ((f_ NB241_236 ((f_ NB241_236 (hHeld.2.2.1)))))))))))))))))), (f_ NB241_236 ((f_ NB241_236 ((f_ NB241_236 ((f_ NB241_236 ((f_ NB241_236 ((f_ NB241_236 ((f_ NB241_236 ((f_ NB241_236 ((f_ NB241_236 (hHeld.2.2.2.1)))))))))))))))))), (f_ NB241_236 ((f_ NB241_236 ((f_ NB241_236 ((f_ NB241_236 ((f_ NB241_236 ((f_ NB241_236 ((f_ NB241_236 ((f_ NB241_236 ((f_ NB241_236 (hHeld.2.2.2.2.1)))))))))))))))))), (f_ NB241_236 ((f_ NB241_236 ((f_ NB241_236 ((f_ NB241_236 ((f_ NB241_236 ((f_ NB241_236 ((f_ NB241_236 ((f_ NB241_236 ((f_ NB241_236 (hHeld.2.2.2.2.2.1)))))))))))))))))), (f_ NB241_236 ((f_ NB241_236 ((f_ NB241_236 ((f_ NB241_236 ((f_ NB241_236 ((f_ NB241_236 ((f_ NB241_236 ((f_ NB241_236 ((f_ NB241_236 (hHeld.2.2.2.2.2.2.1)))))))))))))))))), (f_ NB241_236 ((f_ NB241_236 ((f_ NB241_236 ((f_ NB241_236 ((f_ NB241_236 ((f_ NB241_236 ((f_ NB241_236 ((f_ NB241_236 ((f_ NB241_236 (hHeld.2.2.2.2.2.2.2.1)))))))))))))))))), (f_ NB241_236 ((f_ NB241_236 ((f_ NB241_236 ((f_ NB241_236 ((f_ NB241_236 ((f_ NB241_236 ((f_ NB241_236 ((f_ NB241_236 ((f_ NB241_236 (hHeld.2.2.2.2.2.2.2.2))))))))))))))))))⟩ (fun hHeld => ?_)
             clear hK K
             refine pure_ (i := 4) (N := some 3) (v := ?_) (a' := ?_) #[true, true, true, true, true] rfl rfl (by kernel_rfl) (fun _ _ _ h => h) (Or.inl ⟨by rfl, ?_⟩) ?_ ?_
             rotate_left
             ·
              intro w'
              go_simp
              with_reducible rfl
             rotate_left
             ·
              simp only [Act.put, List.setIfInBounds_toArray, List.set_cons_zero, List.set_cons_succ, i64_w, i32_w]
              rfl
             refine done_ (by kernel_rfl) ?_
             try go_wp2
             refine bodyPost_ret (results_ct rfl _ _ gb236 32 #[.string t240, .string x242001_28, .string t271, .int .i64 t265, .string x242004_11, .string t256, .string t253, .bool t257, .bool t254] (0, 0) _ rfl (by (with_reducible repeat apply bd_); refine blk_put (cs := #[.string t240, .string x242001_28, .string t271, .int .i64 t265, .string x242004_11, .string t256, .string t253, .bool t257, .bool false]) ?_ 8 _ rfl; (with_reducible repeat apply bd_); refine blk_put (cs := #[.string t240, .string x242001_28, .string t271, .int .i64 t265, .string x242004_11, .string t256, .string t253, .bool false, .bool false]) ?_ 7 _ rfl; (with_reducible repeat apply bd_); refine blk_put (cs := #[.string t240, .string x242001_28, .string t271, .int .i64 t265, .string x242004_11, .string t256, .string ⟨#[]⟩, .bool false, .bool false]) ?_ 6 _ rfl; (with_reducible repeat apply bd_); refine blk_put (cs := #[.string t240, .string x242001_28, .string t271, .int .i64 t265, .string x242004_11, .string ⟨#[]⟩, .string ⟨#[]⟩, .bool false, .bool false]) ?_ 5 _ rfl; (with_reducible repeat apply bd_); refine blk_put (cs := #[.string t240, .string x242001_28, .string t271, .int .i64 t265, .string ⟨#[]⟩, .string ⟨#[]⟩, .string ⟨#[]⟩, .bool false, .bool false]) ?_ 4 _ rfl; (with_reducible repeat apply bd_); refine blk_put (cs := #[.string t240, .string x242001_28, .string t271, .int .i64 0, .string ⟨#[]⟩, .string ⟨#[]⟩, .string ⟨#[]⟩, .bool false, .bool false]) ?_ 3 _ rfl; (with_reducible repeat apply bd_); refine blk_put (cs := #[.string t240, .string x242001_28, .string ⟨#[]⟩, .int .i64 0, .string ⟨#[]⟩, .string ⟨#[]⟩, .string ⟨#[]⟩, .bool false, .bool false]) ?_ 2 _ rfl; (with_reducible repeat apply bd_); refine blk_put (cs := #[.string t240, .string ⟨#[]⟩, .string ⟨#[]⟩, .int .i64 0, .string ⟨#[]⟩, .string ⟨#[]⟩, .string ⟨#[]⟩, .bool false, .bool false]) ?_ 1 _ rfl; (with_reducible repeat apply bd_); refine blk_put (cs := #[.string ⟨#[]⟩, .string ⟨#[]⟩, .string ⟨#[]⟩, .int .i64 0, .string ⟨#[]⟩, .string ⟨#[]⟩, .string ⟨#[]⟩, .bool false, .bool false]) ?_ 0 _ rfl; (with_reducible repeat apply bd_); exact BK236.out) Tryz.underlying32 rfl (by kernel_rfl)) rfl ?_
             exact ⟨retE_, belE_⟩
        ·
         replace c34 := Bool.eq_false_iff.mpr c34
         subst c34
         replace H := ifF_ H
         obtain ⟨t273, A81, H⟩ := bindE_ H
         obtain ⟨t274, A82, H⟩ := bindE_ H
         simp only [Option.some.injEq, Prod.mk.injEq] at H
         obtain ⟨rfl, rfl, rfl, rfl, rfl, rfl, rfl, rfl, rfl, rfl⟩ := H
         try go_wp2_with (first | ((with_reducible refine gate_callee (f := 110) rfl ?_); refine cU_ (some 95) Tryz.func110 #[.string x5_28, .string (⟨#[58]⟩ : ByteArray)] ?_; (with_reducible refine (strings_Cut.calls x5_28 (⟨#[58]⟩ : ByteArray) t262 t263 false _ A33.out).mono ?_); rintro e w' ⟨rfl, ⟨nd, rfl⟩⟩; refine ⟨_, rfl, ?_⟩; (try (rw [drewN_self wc]; generalize hq_ : World.drewN wc _ = wc; have n0_ : Aside0 (wc.heap[gb236]? = some (.cells #[.string ⟨#[]⟩, .string ⟨#[]⟩, .string ⟨#[]⟩, .int .i64 0, .string ⟨#[]⟩, .string ⟨#[]⟩, .string ⟨#[]⟩, .bool false, .bool false] 32 (0, 0))) := ⟨by rw [← hq_]; exact (by (with_reducible repeat apply bd_); exact BK236.out)⟩; have n1_ : Aside0 (wc.heap[gb241]? = some (.cells #[.string t240, .string x242001_28, .string ⟨#[]⟩, .int .i64 0, .string x242004_11, .string t256, .string t253, .bool t257, .bool t254] 32 (0, 0))) := ⟨by rw [← hq_]; exact (by (with_reducible repeat apply bd_); exact BK241.out)⟩; have n2_ : Aside0 (Below w.heap.size w wc) := ⟨by rw [← hq_]; exact belE_⟩; clear BK236 BK241 HB hq_; have BK236 := n0_; have BK241 := n1_; have HB := n2_; clear n0_ n1_ n2_))) | ((with_reducible refine gate_callee (f := 111) rfl ?_); refine cU_ (some 121) Tryz.func111 #[.string t262] ?_; (with_reducible refine (impl_lower.calls t262 t273 _ A81.out).mono ?_); rintro e w83 ⟨rfl, hb⟩; refine ⟨_, rfl, ?_⟩; have n0_ := blkB_ (g := gb236) (o := .cells #[.string ⟨#[]⟩, .string ⟨#[]⟩, .string ⟨#[]⟩, .int .i64 0, .string ⟨#[]⟩, .string ⟨#[]⟩, .string ⟨#[]⟩, .bool false, .bool false] 32 (0, 0)) hb; have n1_ := blkB_ (g := gb241) (o := .cells #[.string t240, .string x242001_28, .string ⟨#[]⟩, .int .i64 0, .string x242004_11, .string t256, .string t253, .bool t257, .bool t254] 32 (0, 0)) hb; have n2_ := Aside0.mk (below_step belE_ hb); clear BK236; clear BK241; clear HB; have BK236 := n0_; have BK241 := n1_; have HB := n2_; clear n0_ n1_ n2_; (try clear hb); (try clear hb2); (try clear hk); (try clear hi); have hnb84 := NB241_236.out; have hnc84 := NB236_241.out; obtain ⟨hcz85_0, hcz85_1, hcz85_2, hcz85_3, hcz85_4, hcz85_5, hcz85_6, hcz85_7, hcz85_8, hfz85_0, hfz85_1, hfz85_2, hfz85_3, hfz85_4, hfz85_5, hfz85_6, hfz85_7, hfz85_8⟩ := cz9_ BK241))
         refine worldR_ (R := fun W_ => Aside0 (W_.heap[gb236]? = some (.cells #[.string ⟨#[]⟩, .string ⟨#[]⟩, .string ⟨#[]⟩, .int .i64 0, .string ⟨#[]⟩, .string ⟨#[]⟩, .string ⟨#[]⟩, .bool false, .bool false] 32 (0, 0))) ∧ Aside0 (W_.heap[gb241]? = some (.cells #[.string t240, .string x242001_28, .string t273, .int .i64 0, .string x242004_11, .string t256, .string t253, .bool t257, .bool t254] 32 (0, 0))) ∧ Aside0 (Below w.heap.size w W_)) ⟨⟨farE_⟩, ⟨by (with_reducible repeat apply bd_); refine blk_put (cs := #[.string t240, .string x242001_28, .string ⟨#[]⟩, .int .i64 0, .string x242004_11, .string t256, .string t253, .bool t257, .bool t254]) ?_ 2 _ rfl; (with_reducible repeat apply bd_); exact BK241.out⟩, ⟨belE_⟩⟩ ?_
         (try clear BK236)
         (try clear BK241)
         (try clear HB)
         rintro w86 ⟨n0_, n1_, n2_⟩
         have BK236 := n0_
         have BK241 := n1_
         have HB := n2_
         clear n0_ n1_ n2_
         replace BK236 := Aside0.mk (blk_drew BK236.out)
         replace BK241 := Aside0.mk (blk_drew BK241.out)
         replace HB := Aside0.mk (below_drew1 HB.out)
         refine start_ (n := 5) (S := fun w' => w'.cell? ⟨gb241, 0, none⟩ = some (.string t240) ∧ w'.cell? ⟨gb241, 1, none⟩ = some (.string x242001_28) ∧ w'.cell? ⟨gb241, 2, none⟩ = some (.string t273) ∧ w'.cell? ⟨gb241, 3, none⟩ = some (.int .i64 0) ∧ w'.cell? ⟨gb241, 4, none⟩ = some (.string x242004_11) ∧ w'.cell? ⟨gb241, 5, none⟩ = some (.string t256) ∧ w'.cell? ⟨gb241, 6, none⟩ = some (.string t253) ∧ w'.cell? ⟨gb241, 7, none⟩ = some (.bool t257) ∧ w'.cell? ⟨gb241, 8, none⟩ = some (.bool t254)) (ds := []) #[false, false, false, false, false] (by kernel_rfl) rfl rfl (held9_ BK241.out) (fun hHeld => ?_)
         generalize w86.drew = w87 at BK236 BK241 HB hHeld ⊢
         refine take_ (i := 0) (N := some 123) (v := ?_) (a' := ?_) #[true, false, false, false, false] rfl rfl (by kernel_rfl) (fun _ _ _ h => h) (Or.inl ⟨by rfl, ?_⟩) hHeld ?_ ?_
         rotate_left
         ·
          rintro w' ⟨s0, s1, s2, s3, s4, s5, s6, s7, s8⟩
          go_simp
          with_reducible rfl
         rotate_left
         ·
          simp only [Act.put, List.setIfInBounds_toArray, List.set_cons_zero, List.set_cons_succ, i64_w, i32_w]
          rfl
         refine take_ (i := 1) (N := some 124) (v := ?_) (a' := ?_) #[true, true, false, false, false] rfl rfl (by kernel_rfl) (fun _ _ _ h => h) (Or.inl ⟨by rfl, ?_⟩) hHeld ?_ ?_
         rotate_left
         ·
          rintro w' ⟨s0, s1, s2, s3, s4, s5, s6, s7, s8⟩
          go_simp
          with_reducible rfl
         rotate_left
         ·
          simp only [Act.put, List.setIfInBounds_toArray, List.set_cons_zero, List.set_cons_succ, i64_w, i32_w]
          rfl
         refine one_ (i := 2) (N := some 125) #[true, true, true, false, false] rfl rfl (by kernel_rfl) (by decide) (fun K hK => ?_)
         refine goes_ Tryz.func27 (by kernel_rfl) rfl #[.agg #[.string t240, .string x242001_28, .string t273, .int .i64 0, .string x242004_11, .string t256, .string t253, .bool t257, .bool t254]] (by rfl) rfl rfl (by (try simp only [List.map_toArray, List.map_cons, List.map_nil]); first | done | rfl | (simp only [List.length_drop, List.length_take]; rfl)) ?_
         with_reducible refine (impl_UrlOK.calls kj28 t240 x242001_28 t273 0 x242004_11 t256 t253 t257 t254 t274 _ ?side1 A82.out).mono ?_
         (case side1 => exact Amb.on HM.out belE_)
         rintro e w88 ⟨rfl, hb⟩
         refine ⟨_, rfl, ?_⟩
         replace BK236 := blkB_ (g := gb236) (o := .cells #[.string ⟨#[]⟩, .string ⟨#[]⟩, .string ⟨#[]⟩, .int .i64 0, .string ⟨#[]⟩, .string ⟨#[]⟩, .string ⟨#[]⟩, .bool false, .bool false] 32 (0, 0)) hb
         replace BK241 := blkB_ (g := gb241) (o := .cells #[.string t240, .string x242001_28, .string t273, .int .i64 0, .string x242004_11, .string t256, .string t253, .bool t257, .bool t254] 32 (0, 0)) hb
         replace HB := Aside0.mk (below_step belE_ hb)
         (try clear hb)
         (try clear hb2)
         (try clear hk)
         (try clear hi)
         refine hK.out _ _ (held9_ BK241.out) (fun hHeld => ?_)
         clear hK K
         refine norm_ (a' := ?_) ?_ ?_
         rotate_left
         ·
          show Act.put _ (some 125) _ = _
          simp only [Act.put, List.setIfInBounds_toArray, List.set_cons_zero, List.set_cons_succ, i64_w, i32_w]
          rfl
         refine one_ (i := 3) (N := none) #[true, true, true, true, false] rfl rfl (by kernel_rfl) (by decide) (fun K hK => ?_)
         have hs89 : w88.cell? ⟨gb236, 0, none⟩ = some (.string ⟨#[]⟩) := (blk_cell BK236.out 0).trans rfl
         have hfs89 := blk_frozen BK236.out 0
         have hns89_1 := NB241_236.out
         have hms89_1 := NB236_241.out
         have hs90 : w88.cell? ⟨gb236, 1, none⟩ = some (.string ⟨#[]⟩) := (blk_cell BK236.out 1).trans rfl
         have hfs90 := blk_frozen BK236.out 1
         have hns90_1 := NB241_236.out
         have hms90_1 := NB236_241.out
         have hs91 : w88.cell? ⟨gb236, 2, none⟩ = some (.string ⟨#[]⟩) := (blk_cell BK236.out 2).trans rfl
         have hfs91 := blk_frozen BK236.out 2
         have hns91_1 := NB241_236.out
         have hms91_1 := NB236_241.out
         have hs92 : w88.cell? ⟨gb236, 3, none⟩ = some (.int .i64 0) := (blk_cell BK236.out 3).trans rfl
         have hfs92 := blk_frozen BK236.out 3
         have hns92_1 := NB241_236.out
         have hms92_1 := NB236_241.out
         have hs93 : w88.cell? ⟨gb236, 4, none⟩ = some (.string ⟨#[]⟩) := (blk_cell BK236.out 4).trans rfl
         have hfs93 := blk_frozen BK236.out 4
         have hns93_1 := NB241_236.out
         have hms93_1 := NB236_241.out
         have hs94 : w88.cell? ⟨gb236, 5, none⟩ = some (.string ⟨#[]⟩) := (blk_cell BK236.out 5).trans rfl
         have hfs94 := blk_frozen BK236.out 5
         have hns94_1 := NB241_236.out
         have hms94_1 := NB236_241.out
         have hs95 : w88.cell? ⟨gb236, 6, none⟩ = some (.string ⟨#[]⟩) := (blk_cell BK236.out 6).trans rfl
         have hfs95 := blk_frozen BK236.out 6
         have hns95_1 := NB241_236.out
         have hms95_1 := NB236_241.out
         have hs96 : w88.cell? ⟨gb236, 7, none⟩ = some (.bool false) := (blk_cell BK236.out 7).trans rfl
         have hfs96 := blk_frozen BK236.out 7
         have hns96_1 := NB241_236.out
         have hms96_1 := NB236_241.out
         have hs97 : w88.cell? ⟨gb236, 8, none⟩ = some (.bool false) := (blk_cell BK236.out 8).trans rfl
         have hfs97 := blk_frozen BK236.out 8
         have hns97_1 := NB241_236.out
         have hms97_1 := NB236_241.out
         refine skip_ (w1 := ?_) (by rfl) rfl ?_ ?_
         rotate_left
         ·
          go_simp
          rfl
         refine hK.out _ _ ⟨(f_ NB241_236 ((f_ NB241_236 ((f_ NB241_236 ((f_ NB241_236 ((f_ NB241_236 ((f_ NB241_236 ((f_ NB241_236 ((f_ NB241_236 ((f_ NB241_236 (hHeld.1)))))))))))))))))), (f_ NB241_236 ((f_ NB241_236 ((f_ NB241_236 ((f_ NB241_236 ((f_ NB241_236 ((f_ NB241_236 ((f_ NB241_236 ((f_ NB241_236 ((f_ NB241_236 (hHeld.2.1)))))))))))))))))), (f_ NB241_236 ((f_ NB241_236 ((f_ NB241_236 ((f_ NB241_236 ((f_ NB241_236 ((f_ NB241_236 ((f_ NB241_236 ((f_ NB241_236 ((f_ NB241_236 (hHeld.2.2.1)))))))))))))))))), (f_ NB241_236 ((f_ NB241_236 ((f_ NB241_236 ((f_ NB241_236 ((f_ NB241_236 ((f_ NB241_236 ((f_ NB241_236 ((f_ NB241_236 ((f_ NB241_236 (hHeld.2.2.2.1)))))))))))))))))), (f_ NB241_236 ((f_ NB241_236 ((f_ NB241_236 ((f_ NB241_236 ((f_ NB241_236 ((f_ NB241_236 ((f_ NB241_236 ((f_ NB241_236 ((f_ NB241_236 (hHeld.2.2.2.2.1)))))))))))))))))), (f_ NB241_236 ((f_ NB241_236 ((f_ NB241_236 ((f_ NB241_236 ((f_ NB241_236 ((f_ NB241_236 ((f_ NB241_236 ((f_ NB241_236 ((f_ NB241_236 (hHeld.2.2.2.2.2.1)))))))))))))))))), (f_ NB241_236 ((f_ NB241_236 ((f_ NB241_236 ((f_ NB241_236 ((f_ NB241_236 ((f_ NB241_236 ((f_ NB241_236 ((f_ NB241_236 ((f_ NB241_236 (hHeld.2.2.2.2.2.2.1)))))))))))))))))), (f_ NB241_236 ((f_ NB241_236 ((f_ NB241_236 ((f_ NB241_236 ((f_ NB241_236 ((f_ NB241_236 ((f_ NB241_236 ((f_ NB241_236 ((f_ NB241_236 (hHeld.2.2.2.2.2.2.2.1)))))))))))))))))), (f_ NB241_236 ((f_ NB241_236 ((f_ NB241_236 ((f_ NB241_236 ((f_ NB241_236 ((f_ NB241_236 ((f_ NB241_236 ((f_ NB241_236 ((f_ NB241_236 (hHeld.2.2.2.2.2.2.2.2))))))))))))))))))⟩ (fun hHeld => ?_)
         clear hK K
         refine pure_ (i := 4) (N := some 3) (v := ?_) (a' := ?_) #[true, true, true, true, true] rfl rfl (by kernel_rfl) (fun _ _ _ h => h) (Or.inl ⟨by rfl, ?_⟩) ?_ ?_
         rotate_left
         ·
          intro w'
          go_simp
          with_reducible rfl
         rotate_left
         ·
          simp only [Act.put, List.setIfInBounds_toArray, List.set_cons_zero, List.set_cons_succ, i64_w, i32_w]
          rfl
         refine done_ (by kernel_rfl) ?_
         try go_wp2
         refine bodyPost_ret (results_ct rfl _ _ gb236 32 #[.string t240, .string x242001_28, .string t273, .int .i64 0, .string x242004_11, .string t256, .string t253, .bool t257, .bool t254] (0, 0) _ rfl (by (with_reducible repeat apply bd_); refine blk_put (cs := #[.string t240, .string x242001_28, .string t273, .int .i64 0, .string x242004_11, .string t256, .string t253, .bool t257, .bool false]) ?_ 8 _ rfl; (with_reducible repeat apply bd_); refine blk_put (cs := #[.string t240, .string x242001_28, .string t273, .int .i64 0, .string x242004_11, .string t256, .string t253, .bool false, .bool false]) ?_ 7 _ rfl; (with_reducible repeat apply bd_); refine blk_put (cs := #[.string t240, .string x242001_28, .string t273, .int .i64 0, .string x242004_11, .string t256, .string ⟨#[]⟩, .bool false, .bool false]) ?_ 6 _ rfl; (with_reducible repeat apply bd_); refine blk_put (cs := #[.string t240, .string x242001_28, .string t273, .int .i64 0, .string x242004_11, .string ⟨#[]⟩, .string ⟨#[]⟩, .bool false, .bool false]) ?_ 5 _ rfl; (with_reducible repeat apply bd_); refine blk_put (cs := #[.string t240, .string x242001_28, .string t273, .int .i64 0, .string ⟨#[]⟩, .string ⟨#[]⟩, .string ⟨#[]⟩, .bool false, .bool false]) ?_ 4 _ rfl; (with_reducible repeat apply bd_); refine blk_put (cs := #[.string t240, .string x242001_28, .string t273, .int .i64 0, .string ⟨#[]⟩, .string ⟨#[]⟩, .string ⟨#[]⟩, .bool false, .bool false]) ?_ 3 _ rfl; (with_reducible repeat apply bd_); refine blk_put (cs := #[.string t240, .string x242001_28, .string ⟨#[]⟩, .int .i64 0, .string ⟨#[]⟩, .string ⟨#[]⟩, .string ⟨#[]⟩, .bool false, .bool false]) ?_ 2 _ rfl; (with_reducible repeat apply bd_); refine blk_put (cs := #[.string t240, .string ⟨#[]⟩, .string ⟨#[]⟩, .int .i64 0, .string ⟨#[]⟩, .string ⟨#[]⟩, .string ⟨#[]⟩, .bool false, .bool false]) ?_ 1 _ rfl; (with_reducible repeat apply bd_); refine blk_put (cs := #[.string ⟨#[]⟩, .string ⟨#[]⟩, .string ⟨#[]⟩, .int .i64 0, .string ⟨#[]⟩, .string ⟨#[]⟩, .string ⟨#[]⟩, .bool false, .bool false]) ?_ 0 _ rfl; (with_reducible repeat apply bd_); exact BK236.out) Tryz.underlying32 rfl (by kernel_rfl)) rfl ?_
         exact ⟨retE_, belE_⟩
   ·
    replace c8 := Bool.eq_false_iff.mpr c8
    subst c8
    replace H := ifF_ H
    simp only [Option.some.injEq, Prod.mk.injEq] at H
    obtain ⟨rfl, rfl, rfl, rfl, rfl, rfl, rfl, rfl, rfl, rfl⟩ := H
    go_enter Tryz.func64, Tryz.ntmps64
    go_wp2_with (first | ((with_reducible refine gate_dst (N := 2) rfl ?_); refine box_event ?hg (N := 2) ?hd (cs := #[.string ⟨#[]⟩, .string ⟨#[]⟩, .string ⟨#[]⟩, .int .i64 0, .string ⟨#[]⟩, .string ⟨#[]⟩, .string ⟨#[]⟩, .bool false, .bool false]) (t := 32) ?hr ?_; (case hd => rfl); (case hg => rfl); (case hr => first | (go_simp; done) | (go_simp; rfl)); intro gb236 hg w98 hbox hb; have n0_ := belB_ hb; have n1_ := Aside0.mk (hbox); have n2_ := Aside0.mk ((by rw [hg]; exact (below_size belE_) : w.heap.size ≤ gb236)); have n3_ := Aside0.mk ((by rw [hg]; exact (below_size belE_) : w.heap.size ≤ gb236)); clear HB; have HB := n0_; have BK236 := n1_; have GW236 := n2_; have GE236 := n3_; clear n0_ n1_ n2_ n3_; clear hb hbox hg) | ((with_reducible refine gate_callee (f := 110) rfl ?_); refine cU_ (some 18) Tryz.func110 #[.string a0, .string (⟨#[58]⟩ : ByteArray)] ?_; (with_reducible refine (strings_Cut.calls a0 (⟨#[58]⟩ : ByteArray) t237 t238 true _ A2.out).mono ?_); rintro e w' ⟨rfl, ⟨nd, rfl⟩⟩; refine ⟨_, rfl, ?_⟩; (try (rw [drewN_self w98]; generalize hq_ : World.drewN w98 _ = w98; have n0_ : Aside0 (w98.heap[gb236]? = some (.cells #[.string ⟨#[]⟩, .string ⟨#[]⟩, .string ⟨#[]⟩, .int .i64 0, .string ⟨#[]⟩, .string ⟨#[]⟩, .string ⟨#[]⟩, .bool false, .bool false] 32 (0, 0))) := ⟨by rw [← hq_]; exact (by (with_reducible repeat apply bd_); exact BK236.out)⟩; have n1_ : Aside0 (Below w.heap.size w w98) := ⟨by rw [← hq_]; exact belE_⟩; clear BK236 HB hq_; have BK236 := n0_; have HB := n1_; clear n0_ n1_))) | ((with_reducible refine gate_callee (f := 111) rfl ?_); refine cU_ (some 23) Tryz.func111 #[.string t237] ?_; (with_reducible refine (impl_lower.calls t237 t240 _ A3.out).mono ?_); rintro e w99 ⟨rfl, hb⟩; refine ⟨_, rfl, ?_⟩; replace BK236 := blkK_ BK236 hb; replace HB := belB_ hb; (try clear hb)) | ((with_reducible refine gate_dst (N := 7) rfl ?_); refine box_event ?hg (N := 7) ?hd (cs := #[.string ⟨#[]⟩, .string ⟨#[]⟩, .string ⟨#[]⟩, .int .i64 0, .string ⟨#[]⟩, .string ⟨#[]⟩, .string ⟨#[]⟩, .bool false, .bool false]) (t := 32) ?hr ?_; (case hd => rfl); (case hg => rfl); (case hr => first | (go_simp; done) | (go_simp; rfl)); intro gb241 hg w100 hbox hb; have n0_ := blkB_ (g := gb236) (o := .cells #[.string ⟨#[]⟩, .string ⟨#[]⟩, .string ⟨#[]⟩, .int .i64 0, .string ⟨#[]⟩, .string ⟨#[]⟩, .string ⟨#[]⟩, .bool false, .bool false] 32 (0, 0)) hb; have n1_ := belB_ hb; have n2_ := Aside0.mk (hbox); have n3_ := Aside0.mk ((by rw [hg]; exact (below_size belE_) : w.heap.size ≤ gb241)); have n4_ := Aside0.mk ((by rw [hg]; exact (below_size belE_) : w.heap.size ≤ gb241)); have n5_ := Aside0.mk ((by rw [hg]; exact Nat.ne_of_lt (blk_lt (g := gb236) (o := .cells #[.string ⟨#[]⟩, .string ⟨#[]⟩, .string ⟨#[]⟩, .int .i64 0, .string ⟨#[]⟩, .string ⟨#[]⟩, .string ⟨#[]⟩, .bool false, .bool false] 32 (0, 0)) (by (with_reducible repeat apply bd_); exact BK236.out)) : gb236 ≠ gb241)); have n6_ := Aside0.mk ((by rw [hg]; exact Nat.ne_of_gt (blk_lt (g := gb236) (o := .cells #[.string ⟨#[]⟩, .string ⟨#[]⟩, .string ⟨#[]⟩, .int .i64 0, .string ⟨#[]⟩, .string ⟨#[]⟩, .string ⟨#[]⟩, .bool false, .bool false] 32 (0, 0)) (by (with_reducible repeat apply bd_); exact BK236.out)) : gb241 ≠ gb236)); clear BK236; clear HB; have BK236 := n0_; have HB := n1_; have BK241 := n2_; have GW241 := n3_; have GE241 := n4_; have NB236_241 := n5_; have NB241_236 := n6_; clear n0_ n1_ n2_ n3_ n4_ n5_ n6_; clear hb hbox hg; have hnb101 := NB241_236.out; have hnc101 := NB236_241.out; obtain ⟨hcz102_0, hcz102_1, hcz102_2, hcz102_3, hcz102_4, hcz102_5, hcz102_6, hcz102_7, hcz102_8, hfz102_0, hfz102_1, hfz102_2, hfz102_3, hfz102_4, hfz102_5, hfz102_6, hfz102_7, hfz102_8⟩ := cz9_ BK241) | ((with_reducible refine gate_callee (f := 59) rfl ?_); refine cU_ (some 29) Tryz.func59 #[.agg #[.string t240, .string ⟨#[]⟩, .string ⟨#[]⟩, .int .i64 0, .string ⟨#[]⟩, .string ⟨#[]⟩, .string ⟨#[]⟩, .bool false, .bool false]] ?_; (with_reducible refine (impl_Url_web.calls t240 (⟨#[]⟩ : ByteArray) (⟨#[]⟩ : ByteArray) 0 (⟨#[]⟩ : ByteArray) (⟨#[]⟩ : ByteArray) (⟨#[]⟩ : ByteArray) false false true _ A5.out).mono ?_); rintro e w103 ⟨rfl, hb⟩; refine ⟨_, rfl, ?_⟩; have n0_ := Aside0.mk (blk_below (g := gb236) (o := .cells #[.string ⟨#[]⟩, .string ⟨#[]⟩, .string ⟨#[]⟩, .int .i64 0, .string ⟨#[]⟩, .string ⟨#[]⟩, .string ⟨#[]⟩, .bool false, .bool false] 32 (0, 0)) farE_ hb); have n1_ := Aside0.mk (blk_below (g := gb241) (o := .cells #[.string t240, .string ⟨#[]⟩, .string ⟨#[]⟩, .int .i64 0, .string ⟨#[]⟩, .string ⟨#[]⟩, .string ⟨#[]⟩, .bool false, .bool false] 32 (0, 0)) (by (with_reducible repeat apply bd_); refine blk_put (cs := #[.string t240, .string ⟨#[]⟩, .string ⟨#[]⟩, .int .i64 0, .string ⟨#[]⟩, .string ⟨#[]⟩, .string ⟨#[]⟩, .bool false, .bool false]) ?_ 8 _ rfl; (with_reducible repeat apply bd_); refine blk_put (cs := #[.string t240, .string ⟨#[]⟩, .string ⟨#[]⟩, .int .i64 0, .string ⟨#[]⟩, .string ⟨#[]⟩, .string ⟨#[]⟩, .bool false, .bool false]) ?_ 7 _ rfl; (with_reducible repeat apply bd_); refine blk_put (cs := #[.string t240, .string ⟨#[]⟩, .string ⟨#[]⟩, .int .i64 0, .string ⟨#[]⟩, .string ⟨#[]⟩, .string ⟨#[]⟩, .bool false, .bool false]) ?_ 6 _ rfl; (with_reducible repeat apply bd_); refine blk_put (cs := #[.string t240, .string ⟨#[]⟩, .string ⟨#[]⟩, .int .i64 0, .string ⟨#[]⟩, .string ⟨#[]⟩, .string ⟨#[]⟩, .bool false, .bool false]) ?_ 5 _ rfl; (with_reducible repeat apply bd_); refine blk_put (cs := #[.string t240, .string ⟨#[]⟩, .string ⟨#[]⟩, .int .i64 0, .string ⟨#[]⟩, .string ⟨#[]⟩, .string ⟨#[]⟩, .bool false, .bool false]) ?_ 4 _ rfl; (with_reducible repeat apply bd_); refine blk_put (cs := #[.string t240, .string ⟨#[]⟩, .string ⟨#[]⟩, .int .i64 0, .string ⟨#[]⟩, .string ⟨#[]⟩, .string ⟨#[]⟩, .bool false, .bool false]) ?_ 3 _ rfl; (with_reducible repeat apply bd_); refine blk_put (cs := #[.string t240, .string ⟨#[]⟩, .string ⟨#[]⟩, .int .i64 0, .string ⟨#[]⟩, .string ⟨#[]⟩, .string ⟨#[]⟩, .bool false, .bool false]) ?_ 2 _ rfl; (with_reducible repeat apply bd_); refine blk_put (cs := #[.string t240, .string ⟨#[]⟩, .string ⟨#[]⟩, .int .i64 0, .string ⟨#[]⟩, .string ⟨#[]⟩, .string ⟨#[]⟩, .bool false, .bool false]) ?_ 1 _ rfl; (with_reducible repeat apply bd_); refine blk_put (cs := #[.string ⟨#[]⟩, .string ⟨#[]⟩, .string ⟨#[]⟩, .int .i64 0, .string ⟨#[]⟩, .string ⟨#[]⟩, .string ⟨#[]⟩, .bool false, .bool false]) ?_ 0 _ rfl; (with_reducible repeat apply bd_); exact BK241.out) hb); have n2_ := Aside0.mk (below_step belE_ hb); clear BK236; clear BK241; clear HB; have BK236 := n0_; have BK241 := n1_; have HB := n2_; clear n0_ n1_ n2_; (try clear hb); (try clear hb2); (try clear hk); (try clear hi)) | ((with_reducible refine gate_callee (f := 112) rfl ?_); refine cU_ (some 49) Tryz.func112 #[.string t238, .string (⟨#[47, 47]⟩ : ByteArray)] ?_; (with_reducible refine (strings_CutPrefix.calls t238 (⟨#[47, 47]⟩ : ByteArray) t250 false _ A7.out).mono ?_); rintro e w' ⟨rfl, ⟨nd, rfl⟩⟩; refine ⟨_, rfl, ?_⟩; (try (rw [drewN_self w103]; generalize hq_ : World.drewN w103 _ = w103; have n0_ : Aside0 (w103.heap[gb236]? = some (.cells #[.string ⟨#[]⟩, .string ⟨#[]⟩, .string ⟨#[]⟩, .int .i64 0, .string ⟨#[]⟩, .string ⟨#[]⟩, .string ⟨#[]⟩, .bool false, .bool false] 32 (0, 0))) := ⟨by rw [← hq_]; exact (by (with_reducible repeat apply bd_); exact BK236.out)⟩; have n1_ : Aside0 (w103.heap[gb241]? = some (.cells #[.string t240, .string ⟨#[]⟩, .string ⟨#[]⟩, .int .i64 0, .string ⟨#[]⟩, .string ⟨#[]⟩, .string ⟨#[]⟩, .bool false, .bool false] 32 (0, 0))) := ⟨by rw [← hq_]; exact (by (with_reducible repeat apply bd_); exact BK241.out)⟩; have n2_ : Aside0 (Below w.heap.size w w103) := ⟨by rw [← hq_]; exact belE_⟩; clear BK236 BK241 HB hq_; have BK236 := n0_; have BK241 := n1_; have HB := n2_; clear n0_ n1_ n2_)); obtain ⟨hcz104_0, hcz104_1, hcz104_2, hcz104_3, hcz104_4, hcz104_5, hcz104_6, hcz104_7, hcz104_8, hfz104_0, hfz104_1, hfz104_2, hfz104_3, hfz104_4, hfz104_5, hfz104_6, hfz104_7, hfz104_8⟩ := cz9_ BK236))
    refine bodyPost_ret (results_ct rfl _ _ gb236 32 #[.string ⟨#[]⟩, .string ⟨#[]⟩, .string ⟨#[]⟩, .int .i64 0, .string ⟨#[]⟩, .string ⟨#[]⟩, .string ⟨#[]⟩, .bool false, .bool false] (0, 0) _ rfl (by (with_reducible repeat apply bd_); refine blk_put (cs := #[.string ⟨#[]⟩, .string ⟨#[]⟩, .string ⟨#[]⟩, .int .i64 0, .string ⟨#[]⟩, .string ⟨#[]⟩, .string ⟨#[]⟩, .bool false, .bool false]) ?_ 8 _ rfl; (with_reducible repeat apply bd_); refine blk_put (cs := #[.string ⟨#[]⟩, .string ⟨#[]⟩, .string ⟨#[]⟩, .int .i64 0, .string ⟨#[]⟩, .string ⟨#[]⟩, .string ⟨#[]⟩, .bool false, .bool false]) ?_ 7 _ rfl; (with_reducible repeat apply bd_); refine blk_put (cs := #[.string ⟨#[]⟩, .string ⟨#[]⟩, .string ⟨#[]⟩, .int .i64 0, .string ⟨#[]⟩, .string ⟨#[]⟩, .string ⟨#[]⟩, .bool false, .bool false]) ?_ 6 _ rfl; (with_reducible repeat apply bd_); refine blk_put (cs := #[.string ⟨#[]⟩, .string ⟨#[]⟩, .string ⟨#[]⟩, .int .i64 0, .string ⟨#[]⟩, .string ⟨#[]⟩, .string ⟨#[]⟩, .bool false, .bool false]) ?_ 5 _ rfl; (with_reducible repeat apply bd_); refine blk_put (cs := #[.string ⟨#[]⟩, .string ⟨#[]⟩, .string ⟨#[]⟩, .int .i64 0, .string ⟨#[]⟩, .string ⟨#[]⟩, .string ⟨#[]⟩, .bool false, .bool false]) ?_ 4 _ rfl; (with_reducible repeat apply bd_); refine blk_put (cs := #[.string ⟨#[]⟩, .string ⟨#[]⟩, .string ⟨#[]⟩, .int .i64 0, .string ⟨#[]⟩, .string ⟨#[]⟩, .string ⟨#[]⟩, .bool false, .bool false]) ?_ 3 _ rfl; (with_reducible repeat apply bd_); refine blk_put (cs := #[.string ⟨#[]⟩, .string ⟨#[]⟩, .string ⟨#[]⟩, .int .i64 0, .string ⟨#[]⟩, .string ⟨#[]⟩, .string ⟨#[]⟩, .bool false, .bool false]) ?_ 2 _ rfl; (with_reducible repeat apply bd_); refine blk_put (cs := #[.string ⟨#[]⟩, .string ⟨#[]⟩, .string ⟨#[]⟩, .int .i64 0, .string ⟨#[]⟩, .string ⟨#[]⟩, .string ⟨#[]⟩, .bool false, .bool false]) ?_ 1 _ rfl; (with_reducible repeat apply bd_); refine blk_put (cs := #[.string ⟨#[]⟩, .string ⟨#[]⟩, .string ⟨#[]⟩, .int .i64 0, .string ⟨#[]⟩, .string ⟨#[]⟩, .string ⟨#[]⟩, .bool false, .bool false]) ?_ 0 _ rfl; (with_reducible repeat apply bd_); exact BK236.out) Tryz.underlying32 rfl (by kernel_rfl)) rfl ?_
    exact ⟨retE_, belE_⟩
  ·
   replace c6 := Bool.eq_false_iff.mpr c6
   subst c6
   replace H := ifF_ H
   replace H := Option.bind_eq_some_iff.mp H
   obtain ⟨⟨t243, t244, t245⟩, A1050, H⟩ := H
   replace H : ((strings_Cut.f t243 (⟨#[63]⟩ : ByteArray)).bind fun bt246 => ((impl_UrlOK.f k t240 (⟨#[]⟩ : ByteArray) (⟨#[]⟩ : ByteArray) 0 bt246.1 (⟨#[]⟩ : ByteArray) (⟨#[]⟩ : ByteArray) false false).bind fun t249 => (some (t240, (⟨#[]⟩ : ByteArray), (⟨#[]⟩ : ByteArray), 0, bt246.1, (⟨#[]⟩ : ByteArray), (⟨#[]⟩ : ByteArray), false, false, t249)))) = some (r1, r2, r3, r4, r5, r6, r7, r8, r9, r10) := H
   have A105 := Aside0.mk A1050
   clear A1050
   replace H := Option.bind_eq_some_iff.mp H
   obtain ⟨⟨t246, t247, t248⟩, A1060, H⟩ := H
   replace H : ((impl_UrlOK.f k t240 (⟨#[]⟩ : ByteArray) (⟨#[]⟩ : ByteArray) 0 t246 (⟨#[]⟩ : ByteArray) (⟨#[]⟩ : ByteArray) false false).bind fun t249 => (some (t240, (⟨#[]⟩ : ByteArray), (⟨#[]⟩ : ByteArray), 0, t246, (⟨#[]⟩ : ByteArray), (⟨#[]⟩ : ByteArray), false, false, t249))) = some (r1, r2, r3, r4, r5, r6, r7, r8, r9, r10) := H
   have A106 := Aside0.mk A1060
   clear A1060
   obtain ⟨t249, A107, H⟩ := bindE_ H
   simp only [Option.some.injEq, Prod.mk.injEq] at H
   obtain ⟨rfl, rfl, rfl, rfl, rfl, rfl, rfl, rfl, rfl, rfl⟩ := H
   go_enter Tryz.func64, Tryz.ntmps64
   try go_wp2_with (first | ((with_reducible refine gate_dst (N := 2) rfl ?_); refine box_event ?hg (N := 2) ?hd (cs := #[.string ⟨#[]⟩, .string ⟨#[]⟩, .string ⟨#[]⟩, .int .i64 0, .string ⟨#[]⟩, .string ⟨#[]⟩, .string ⟨#[]⟩, .bool false, .bool false]) (t := 32) ?hr ?_; (case hd => rfl); (case hg => rfl); (case hr => first | (go_simp; done) | (go_simp; rfl)); intro gb236 hg w108 hbox hb; have n0_ := belB_ hb; have n1_ := Aside0.mk (hbox); have n2_ := Aside0.mk ((by rw [hg]; exact (below_size belE_) : w.heap.size ≤ gb236)); have n3_ := Aside0.mk ((by rw [hg]; exact (below_size belE_) : w.heap.size ≤ gb236)); clear HB; have HB := n0_; have BK236 := n1_; have GW236 := n2_; have GE236 := n3_; clear n0_ n1_ n2_ n3_; clear hb hbox hg) | ((with_reducible refine gate_callee (f := 110) rfl ?_); refine cU_ (some 18) Tryz.func110 #[.string a0, .string (⟨#[58]⟩ : ByteArray)] ?_; (with_reducible refine (strings_Cut.calls a0 (⟨#[58]⟩ : ByteArray) t237 t238 true _ A2.out).mono ?_); rintro e w' ⟨rfl, ⟨nd, rfl⟩⟩; refine ⟨_, rfl, ?_⟩; (try (rw [drewN_self w108]; generalize hq_ : World.drewN w108 _ = w108; have n0_ : Aside0 (w108.heap[gb236]? = some (.cells #[.string ⟨#[]⟩, .string ⟨#[]⟩, .string ⟨#[]⟩, .int .i64 0, .string ⟨#[]⟩, .string ⟨#[]⟩, .string ⟨#[]⟩, .bool false, .bool false] 32 (0, 0))) := ⟨by rw [← hq_]; exact (by (with_reducible repeat apply bd_); exact BK236.out)⟩; have n1_ : Aside0 (Below w.heap.size w w108) := ⟨by rw [← hq_]; exact belE_⟩; clear BK236 HB hq_; have BK236 := n0_; have HB := n1_; clear n0_ n1_))) | ((with_reducible refine gate_callee (f := 111) rfl ?_); refine cU_ (some 23) Tryz.func111 #[.string t237] ?_; (with_reducible refine (impl_lower.calls t237 t240 _ A3.out).mono ?_); rintro e w109 ⟨rfl, hb⟩; refine ⟨_, rfl, ?_⟩; replace BK236 := blkK_ BK236 hb; replace HB := belB_ hb; (try clear hb)) | ((with_reducible refine gate_dst (N := 7) rfl ?_); refine box_event ?hg (N := 7) ?hd (cs := #[.string ⟨#[]⟩, .string ⟨#[]⟩, .string ⟨#[]⟩, .int .i64 0, .string ⟨#[]⟩, .string ⟨#[]⟩, .string ⟨#[]⟩, .bool false, .bool false]) (t := 32) ?hr ?_; (case hd => rfl); (case hg => rfl); (case hr => first | (go_simp; done) | (go_simp; rfl)); intro gb241 hg w110 hbox hb; have n0_ := blkB_ (g := gb236) (o := .cells #[.string ⟨#[]⟩, .string ⟨#[]⟩, .string ⟨#[]⟩, .int .i64 0, .string ⟨#[]⟩, .string ⟨#[]⟩, .string ⟨#[]⟩, .bool false, .bool false] 32 (0, 0)) hb; have n1_ := belB_ hb; have n2_ := Aside0.mk (hbox); have n3_ := Aside0.mk ((by rw [hg]; exact (below_size belE_) : w.heap.size ≤ gb241)); have n4_ := Aside0.mk ((by rw [hg]; exact (below_size belE_) : w.heap.size ≤ gb241)); have n5_ := Aside0.mk ((by rw [hg]; exact Nat.ne_of_lt (blk_lt (g := gb236) (o := .cells #[.string ⟨#[]⟩, .string ⟨#[]⟩, .string ⟨#[]⟩, .int .i64 0, .string ⟨#[]⟩, .string ⟨#[]⟩, .string ⟨#[]⟩, .bool false, .bool false] 32 (0, 0)) (by (with_reducible repeat apply bd_); exact BK236.out)) : gb236 ≠ gb241)); have n6_ := Aside0.mk ((by rw [hg]; exact Nat.ne_of_gt (blk_lt (g := gb236) (o := .cells #[.string ⟨#[]⟩, .string ⟨#[]⟩, .string ⟨#[]⟩, .int .i64 0, .string ⟨#[]⟩, .string ⟨#[]⟩, .string ⟨#[]⟩, .bool false, .bool false] 32 (0, 0)) (by (with_reducible repeat apply bd_); exact BK236.out)) : gb241 ≠ gb236)); clear BK236; clear HB; have BK236 := n0_; have HB := n1_; have BK241 := n2_; have GW241 := n3_; have GE241 := n4_; have NB236_241 := n5_; have NB241_236 := n6_; clear n0_ n1_ n2_ n3_ n4_ n5_ n6_; clear hb hbox hg; have hnb111 := NB241_236.out; have hnc111 := NB236_241.out; obtain ⟨hcz112_0, hcz112_1, hcz112_2, hcz112_3, hcz112_4, hcz112_5, hcz112_6, hcz112_7, hcz112_8, hfz112_0, hfz112_1, hfz112_2, hfz112_3, hfz112_4, hfz112_5, hfz112_6, hfz112_7, hfz112_8⟩ := cz9_ BK241) | ((with_reducible refine gate_callee (f := 59) rfl ?_); refine cU_ (some 29) Tryz.func59 #[.agg #[.string t240, .string ⟨#[]⟩, .string ⟨#[]⟩, .int .i64 0, .string ⟨#[]⟩, .string ⟨#[]⟩, .string ⟨#[]⟩, .bool false, .bool false]] ?_; (with_reducible refine (impl_Url_web.calls t240 (⟨#[]⟩ : ByteArray) (⟨#[]⟩ : ByteArray) 0 (⟨#[]⟩ : ByteArray) (⟨#[]⟩ : ByteArray) (⟨#[]⟩ : ByteArray) false false false _ A5.out).mono ?_); rintro e w113 ⟨rfl, hb⟩; refine ⟨_, rfl, ?_⟩; have n0_ := Aside0.mk (blk_below (g := gb236) (o := .cells #[.string ⟨#[]⟩, .string ⟨#[]⟩, .string ⟨#[]⟩, .int .i64 0, .string ⟨#[]⟩, .string ⟨#[]⟩, .string ⟨#[]⟩, .bool false, .bool false] 32 (0, 0)) farE_ hb); have n1_ := Aside0.mk (blk_below (g := gb241) (o := .cells #[.string t240, .string ⟨#[]⟩, .string ⟨#[]⟩, .int .i64 0, .string ⟨#[]⟩, .string ⟨#[]⟩, .string ⟨#[]⟩, .bool false, .bool false] 32 (0, 0)) (by (with_reducible repeat apply bd_); refine blk_put (cs := #[.string t240, .string ⟨#[]⟩, .string ⟨#[]⟩, .int .i64 0, .string ⟨#[]⟩, .string ⟨#[]⟩, .string ⟨#[]⟩, .bool false, .bool false]) ?_ 8 _ rfl; (with_reducible repeat apply bd_); refine blk_put (cs := #[.string t240, .string ⟨#[]⟩, .string ⟨#[]⟩, .int .i64 0, .string ⟨#[]⟩, .string ⟨#[]⟩, .string ⟨#[]⟩, .bool false, .bool false]) ?_ 7 _ rfl; (with_reducible repeat apply bd_); refine blk_put (cs := #[.string t240, .string ⟨#[]⟩, .string ⟨#[]⟩, .int .i64 0, .string ⟨#[]⟩, .string ⟨#[]⟩, .string ⟨#[]⟩, .bool false, .bool false]) ?_ 6 _ rfl; (with_reducible repeat apply bd_); refine blk_put (cs := #[.string t240, .string ⟨#[]⟩, .string ⟨#[]⟩, .int .i64 0, .string ⟨#[]⟩, .string ⟨#[]⟩, .string ⟨#[]⟩, .bool false, .bool false]) ?_ 5 _ rfl; (with_reducible repeat apply bd_); refine blk_put (cs := #[.string t240, .string ⟨#[]⟩, .string ⟨#[]⟩, .int .i64 0, .string ⟨#[]⟩, .string ⟨#[]⟩, .string ⟨#[]⟩, .bool false, .bool false]) ?_ 4 _ rfl; (with_reducible repeat apply bd_); refine blk_put (cs := #[.string t240, .string ⟨#[]⟩, .string ⟨#[]⟩, .int .i64 0, .string ⟨#[]⟩, .string ⟨#[]⟩, .string ⟨#[]⟩, .bool false, .bool false]) ?_ 3 _ rfl; (with_reducible repeat apply bd_); refine blk_put (cs := #[.string t240, .string ⟨#[]⟩, .string ⟨#[]⟩, .int .i64 0, .string ⟨#[]⟩, .string ⟨#[]⟩, .string ⟨#[]⟩, .bool false, .bool false]) ?_ 2 _ rfl; (with_reducible repeat apply bd_); refine blk_put (cs := #[.string t240, .string ⟨#[]⟩, .string ⟨#[]⟩, .int .i64 0, .string ⟨#[]⟩, .string ⟨#[]⟩, .string ⟨#[]⟩, .bool false, .bool false]) ?_ 1 _ rfl; (with_reducible repeat apply bd_); refine blk_put (cs := #[.string ⟨#[]⟩, .string ⟨#[]⟩, .string ⟨#[]⟩, .int .i64 0, .string ⟨#[]⟩, .string ⟨#[]⟩, .string ⟨#[]⟩, .bool false, .bool false]) ?_ 0 _ rfl; (with_reducible repeat apply bd_); exact BK241.out) hb); have n2_ := Aside0.mk (below_step belE_ hb); clear BK236; clear BK241; clear HB; have BK236 := n0_; have BK241 := n1_; have HB := n2_; clear n0_ n1_ n2_; (try clear hb); (try clear hb2); (try clear hk); (try clear hi)) | ((with_reducible refine gate_callee (f := 110) rfl ?_); refine cU_ (some 33) Tryz.func110 #[.string t238, .string (⟨#[35]⟩ : ByteArray)] ?_; (with_reducible refine (strings_Cut.calls t238 (⟨#[35]⟩ : ByteArray) t243 t244 t245 _ A105.out).mono ?_); rintro e w' ⟨rfl, ⟨nd, rfl⟩⟩; refine ⟨_, rfl, ?_⟩; (try (rw [drewN_self w113]; generalize hq_ : World.drewN w113 _ = w113; have n0_ : Aside0 (w113.heap[gb236]? = some (.cells #[.string ⟨#[]⟩, .string ⟨#[]⟩, .string ⟨#[]⟩, .int .i64 0, .string ⟨#[]⟩, .string ⟨#[]⟩, .string ⟨#[]⟩, .bool false, .bool false] 32 (0, 0))) := ⟨by rw [← hq_]; exact (by (with_reducible repeat apply bd_); exact BK236.out)⟩; have n1_ : Aside0 (w113.heap[gb241]? = some (.cells #[.string t240, .string ⟨#[]⟩, .string ⟨#[]⟩, .int .i64 0, .string ⟨#[]⟩, .string ⟨#[]⟩, .string ⟨#[]⟩, .bool false, .bool false] 32 (0, 0))) := ⟨by rw [← hq_]; exact (by (with_reducible repeat apply bd_); exact BK241.out)⟩; have n2_ : Aside0 (Below w.heap.size w w113) := ⟨by rw [← hq_]; exact belE_⟩; clear BK236 BK241 HB hq_; have BK236 := n0_; have BK241 := n1_; have HB := n2_; clear n0_ n1_ n2_))) | ((with_reducible refine gate_callee (f := 110) rfl ?_); refine cU_ (some 39) Tryz.func110 #[.string t243, .string (⟨#[63]⟩ : ByteArray)] ?_; (with_reducible refine (strings_Cut.calls t243 (⟨#[63]⟩ : ByteArray) t246 t247 t248 _ A106.out).mono ?_); rintro e w' ⟨rfl, ⟨nd, rfl⟩⟩; refine ⟨_, rfl, ?_⟩; (try (rw [drewN_self w113]; generalize hq_ : World.drewN w113 _ = w113; have n0_ : Aside0 (w113.heap[gb236]? = some (.cells #[.string ⟨#[]⟩, .string ⟨#[]⟩, .string ⟨#[]⟩, .int .i64 0, .string ⟨#[]⟩, .string ⟨#[]⟩, .string ⟨#[]⟩, .bool false, .bool false] 32 (0, 0))) := ⟨by rw [← hq_]; exact (by (with_reducible repeat apply bd_); exact BK236.out)⟩; have n1_ : Aside0 (w113.heap[gb241]? = some (.cells #[.string t240, .string ⟨#[]⟩, .string ⟨#[]⟩, .int .i64 0, .string ⟨#[]⟩, .string ⟨#[]⟩, .string ⟨#[]⟩, .bool false, .bool false] 32 (0, 0))) := ⟨by rw [← hq_]; exact (by (with_reducible repeat apply bd_); exact BK241.out)⟩; have n2_ : Aside0 (Below w.heap.size w w113) := ⟨by rw [← hq_]; exact belE_⟩; clear BK236 BK241 HB hq_; have BK236 := n0_; have BK241 := n1_; have HB := n2_; clear n0_ n1_ n2_)); obtain ⟨hcz114_0, hcz114_1, hcz114_2, hcz114_3, hcz114_4, hcz114_5, hcz114_6, hcz114_7, hcz114_8, hfz114_0, hfz114_1, hfz114_2, hfz114_3, hfz114_4, hfz114_5, hfz114_6, hfz114_7, hfz114_8⟩ := cz9_ BK241))
   refine worldR_ (R := fun W_ => Aside0 (W_.heap[gb236]? = some (.cells #[.string ⟨#[]⟩, .string ⟨#[]⟩, .string ⟨#[]⟩, .int .i64 0, .string ⟨#[]⟩, .string ⟨#[]⟩, .string ⟨#[]⟩, .bool false, .bool false] 32 (0, 0))) ∧ Aside0 (W_.heap[gb241]? = some (.cells #[.string t240, .string ⟨#[]⟩, .string ⟨#[]⟩, .int .i64 0, .string t246, .string ⟨#[]⟩, .string ⟨#[]⟩, .bool false, .bool false] 32 (0, 0))) ∧ Aside0 (Below w.heap.size w W_)) ⟨⟨farE_⟩, ⟨by (with_reducible repeat apply bd_); refine blk_put (cs := #[.string t240, .string ⟨#[]⟩, .string ⟨#[]⟩, .int .i64 0, .string ⟨#[]⟩, .string ⟨#[]⟩, .string ⟨#[]⟩, .bool false, .bool false]) ?_ 4 _ rfl; (with_reducible repeat apply bd_); exact BK241.out⟩, ⟨belE_⟩⟩ ?_
   (try clear BK236)
   (try clear BK241)
   (try clear HB)
   rintro w115 ⟨n0_, n1_, n2_⟩
   have BK236 := n0_
   have BK241 := n1_
   have HB := n2_
   clear n0_ n1_ n2_
   replace BK236 := Aside0.mk (blk_drew BK236.out)
   replace BK241 := Aside0.mk (blk_drew BK241.out)
   replace HB := Aside0.mk (below_drew1 HB.out)
   refine start_ (n := 5) (S := fun w' => w'.cell? ⟨gb241, 0, none⟩ = some (.string t240) ∧ w'.cell? ⟨gb241, 1, none⟩ = some (.string ⟨#[]⟩) ∧ w'.cell? ⟨gb241, 2, none⟩ = some (.string ⟨#[]⟩) ∧ w'.cell? ⟨gb241, 3, none⟩ = some (.int .i64 0) ∧ w'.cell? ⟨gb241, 4, none⟩ = some (.string t246) ∧ w'.cell? ⟨gb241, 5, none⟩ = some (.string ⟨#[]⟩) ∧ w'.cell? ⟨gb241, 6, none⟩ = some (.string ⟨#[]⟩) ∧ w'.cell? ⟨gb241, 7, none⟩ = some (.bool false) ∧ w'.cell? ⟨gb241, 8, none⟩ = some (.bool false)) (ds := []) #[false, false, false, false, false] (by kernel_rfl) rfl rfl (held9_ BK241.out) (fun hHeld => ?_)
   generalize w115.drew = w116 at BK236 BK241 HB hHeld ⊢
   refine take_ (i := 0) (N := some 44) (v := ?_) (a' := ?_) #[true, false, false, false, false] rfl rfl (by kernel_rfl) (fun _ _ _ h => h) (Or.inl ⟨by rfl, ?_⟩) hHeld ?_ ?_
   rotate_left
   ·
    rintro w' ⟨s0, s1, s2, s3, s4, s5, s6, s7, s8⟩
    go_simp
    with_reducible rfl
   rotate_left
   ·
    simp only [Act.put, List.setIfInBounds_toArray, List.set_cons_zero, List.set_cons_succ, i64_w, i32_w]
    rfl
   refine take_ (i := 1) (N := some 45) (v := ?_) (a' := ?_) #[true, true, false, false, false] rfl rfl (by kernel_rfl) (fun _ _ _ h => h) (Or.inl ⟨by rfl, ?_⟩) hHeld ?_ ?_
   rotate_left
   ·
    rintro w' ⟨s0, s1, s2, s3, s4, s5, s6, s7, s8⟩
    go_simp
    with_reducible rfl
   rotate_left
   ·
    simp only [Act.put, List.setIfInBounds_toArray, List.set_cons_zero, List.set_cons_succ, i64_w, i32_w]
    rfl
   refine one_ (i := 2) (N := some 46) #[true, true, true, false, false] rfl rfl (by kernel_rfl) (by decide) (fun K hK => ?_)
   refine goes_ Tryz.func27 (by kernel_rfl) rfl #[.agg #[.string t240, .string ⟨#[]⟩, .string ⟨#[]⟩, .int .i64 0, .string t246, .string ⟨#[]⟩, .string ⟨#[]⟩, .bool false, .bool false]] (by rfl) rfl rfl (by (try simp only [List.map_toArray, List.map_cons, List.map_nil]); first | done | rfl | (simp only [List.length_drop, List.length_take]; rfl)) ?_
   with_reducible refine (impl_UrlOK.calls k t240 (⟨#[]⟩ : ByteArray) (⟨#[]⟩ : ByteArray) 0 t246 (⟨#[]⟩ : ByteArray) (⟨#[]⟩ : ByteArray) false false t249 _ ?side1 A107.out).mono ?_
   (case side1 => exact Amb.on HM.out belE_)
   rintro e w117 ⟨rfl, hb⟩
   refine ⟨_, rfl, ?_⟩
   replace BK236 := blkB_ (g := gb236) (o := .cells #[.string ⟨#[]⟩, .string ⟨#[]⟩, .string ⟨#[]⟩, .int .i64 0, .string ⟨#[]⟩, .string ⟨#[]⟩, .string ⟨#[]⟩, .bool false, .bool false] 32 (0, 0)) hb
   replace BK241 := blkB_ (g := gb241) (o := .cells #[.string t240, .string ⟨#[]⟩, .string ⟨#[]⟩, .int .i64 0, .string t246, .string ⟨#[]⟩, .string ⟨#[]⟩, .bool false, .bool false] 32 (0, 0)) hb
   replace HB := Aside0.mk (below_step belE_ hb)
   (try clear hb)
   (try clear hb2)
   (try clear hk)
   (try clear hi)
   refine hK.out _ _ (held9_ BK241.out) (fun hHeld => ?_)
   clear hK K
   refine norm_ (a' := ?_) ?_ ?_
   rotate_left
   ·
    show Act.put _ (some 46) _ = _
    simp only [Act.put, List.setIfInBounds_toArray, List.set_cons_zero, List.set_cons_succ, i64_w, i32_w]
    rfl
   refine one_ (i := 3) (N := none) #[true, true, true, true, false] rfl rfl (by kernel_rfl) (by decide) (fun K hK => ?_)
   have hs118 : w117.cell? ⟨gb236, 0, none⟩ = some (.string ⟨#[]⟩) := (blk_cell BK236.out 0).trans rfl
   have hfs118 := blk_frozen BK236.out 0
   have hns118_1 := NB241_236.out
   have hms118_1 := NB236_241.out
   have hs119 : w117.cell? ⟨gb236, 1, none⟩ = some (.string ⟨#[]⟩) := (blk_cell BK236.out 1).trans rfl
   have hfs119 := blk_frozen BK236.out 1
   have hns119_1 := NB241_236.out
   have hms119_1 := NB236_241.out
   have hs120 : w117.cell? ⟨gb236, 2, none⟩ = some (.string ⟨#[]⟩) := (blk_cell BK236.out 2).trans rfl
   have hfs120 := blk_frozen BK236.out 2
   have hns120_1 := NB241_236.out
   have hms120_1 := NB236_241.out
   have hs121 : w117.cell? ⟨gb236, 3, none⟩ = some (.int .i64 0) := (blk_cell BK236.out 3).trans rfl
   have hfs121 := blk_frozen BK236.out 3
   have hns121_1 := NB241_236.out
   have hms121_1 := NB236_241.out
   have hs122 : w117.cell? ⟨gb236, 4, none⟩ = some (.string ⟨#[]⟩) := (blk_cell BK236.out 4).trans rfl
   have hfs122 := blk_frozen BK236.out 4
   have hns122_1 := NB241_236.out
   have hms122_1 := NB236_241.out
   have hs123 : w117.cell? ⟨gb236, 5, none⟩ = some (.string ⟨#[]⟩) := (blk_cell BK236.out 5).trans rfl
   have hfs123 := blk_frozen BK236.out 5
   have hns123_1 := NB241_236.out
   have hms123_1 := NB236_241.out
   have hs124 : w117.cell? ⟨gb236, 6, none⟩ = some (.string ⟨#[]⟩) := (blk_cell BK236.out 6).trans rfl
   have hfs124 := blk_frozen BK236.out 6
   have hns124_1 := NB241_236.out
   have hms124_1 := NB236_241.out
   have hs125 : w117.cell? ⟨gb236, 7, none⟩ = some (.bool false) := (blk_cell BK236.out 7).trans rfl
   have hfs125 := blk_frozen BK236.out 7
   have hns125_1 := NB241_236.out
   have hms125_1 := NB236_241.out
   have hs126 : w117.cell? ⟨gb236, 8, none⟩ = some (.bool false) := (blk_cell BK236.out 8).trans rfl
   have hfs126 := blk_frozen BK236.out 8
   have hns126_1 := NB241_236.out
   have hms126_1 := NB236_241.out
   refine skip_ (w1 := ?_) (by rfl) rfl ?_ ?_
   rotate_left
   ·
    go_simp
    rfl
   refine hK.out _ _ ⟨(f_ NB241_236 ((f_ NB241_236 ((f_ NB241_236 ((f_ NB241_236 ((f_ NB241_236 ((f_ NB241_236 ((f_ NB241_236 ((f_ NB241_236 ((f_ NB241_236 (hHeld.1)))))))))))))))))), (f_ NB241_236 ((f_ NB241_236 ((f_ NB241_236 ((f_ NB241_236 ((f_ NB241_236 ((f_ NB241_236 ((f_ NB241_236 ((f_ NB241_236 ((f_ NB241_236 (hHeld.2.1)))))))))))))))))), (f_ NB241_236 ((f_ NB241_236 ((f_ NB241_236 ((f_ NB241_236 ((f_ NB241_236 ((f_ NB241_236 ((f_ NB241_236 ((f_ NB241_236 ((f_ NB241_236 (hHeld.2.2.1)))))))))))))))))), (f_ NB241_236 ((f_ NB241_236 ((f_ NB241_236 ((f_ NB241_236 ((f_ NB241_236 ((f_ NB241_236 ((f_ NB241_236 ((f_ NB241_236 ((f_ NB241_236 (hHeld.2.2.2.1)))))))))))))))))), (f_ NB241_236 ((f_ NB241_236 ((f_ NB241_236 ((f_ NB241_236 ((f_ NB241_236 ((f_ NB241_236 ((f_ NB241_236 ((f_ NB241_236 ((f_ NB241_236 (hHeld.2.2.2.2.1)))))))))))))))))), (f_ NB241_236 ((f_ NB241_236 ((f_ NB241_236 ((f_ NB241_236 ((f_ NB241_236 ((f_ NB241_236 ((f_ NB241_236 ((f_ NB241_236 ((f_ NB241_236 (hHeld.2.2.2.2.2.1)))))))))))))))))), (f_ NB241_236 ((f_ NB241_236 ((f_ NB241_236 ((f_ NB241_236 ((f_ NB241_236 ((f_ NB241_236 ((f_ NB241_236 ((f_ NB241_236 ((f_ NB241_236 (hHeld.2.2.2.2.2.2.1)))))))))))))))))), (f_ NB241_236 ((f_ NB241_236 ((f_ NB241_236 ((f_ NB241_236 ((f_ NB241_236 ((f_ NB241_236 ((f_ NB241_236 ((f_ NB241_236 ((f_ NB241_236 (hHeld.2.2.2.2.2.2.2.1)))))))))))))))))), (f_ NB241_236 ((f_ NB241_236 ((f_ NB241_236 ((f_ NB241_236 ((f_ NB241_236 ((f_ NB241_236 ((f_ NB241_236 ((f_ NB241_236 ((f_ NB241_236 (hHeld.2.2.2.2.2.2.2.2))))))))))))))))))⟩ (fun hHeld => ?_)
   clear hK K
   refine pure_ (i := 4) (N := some 3) (v := ?_) (a' := ?_) #[true, true, true, true, true] rfl rfl (by kernel_rfl) (fun _ _ _ h => h) (Or.inl ⟨by rfl, ?_⟩) ?_ ?_
   rotate_left
   ·
    intro w'
    go_simp
    with_reducible rfl
   rotate_left
   ·
    simp only [Act.put, List.setIfInBounds_toArray, List.set_cons_zero, List.set_cons_succ, i64_w, i32_w]
    rfl
   refine done_ (by kernel_rfl) ?_
   try go_wp2
   refine bodyPost_ret (results_ct rfl _ _ gb236 32 #[.string t240, .string ⟨#[]⟩, .string ⟨#[]⟩, .int .i64 0, .string t246, .string ⟨#[]⟩, .string ⟨#[]⟩, .bool false, .bool false] (0, 0) _ rfl (by (with_reducible repeat apply bd_); refine blk_put (cs := #[.string t240, .string ⟨#[]⟩, .string ⟨#[]⟩, .int .i64 0, .string t246, .string ⟨#[]⟩, .string ⟨#[]⟩, .bool false, .bool false]) ?_ 8 _ rfl; (with_reducible repeat apply bd_); refine blk_put (cs := #[.string t240, .string ⟨#[]⟩, .string ⟨#[]⟩, .int .i64 0, .string t246, .string ⟨#[]⟩, .string ⟨#[]⟩, .bool false, .bool false]) ?_ 7 _ rfl; (with_reducible repeat apply bd_); refine blk_put (cs := #[.string t240, .string ⟨#[]⟩, .string ⟨#[]⟩, .int .i64 0, .string t246, .string ⟨#[]⟩, .string ⟨#[]⟩, .bool false, .bool false]) ?_ 6 _ rfl; (with_reducible repeat apply bd_); refine blk_put (cs := #[.string t240, .string ⟨#[]⟩, .string ⟨#[]⟩, .int .i64 0, .string t246, .string ⟨#[]⟩, .string ⟨#[]⟩, .bool false, .bool false]) ?_ 5 _ rfl; (with_reducible repeat apply bd_); refine blk_put (cs := #[.string t240, .string ⟨#[]⟩, .string ⟨#[]⟩, .int .i64 0, .string ⟨#[]⟩, .string ⟨#[]⟩, .string ⟨#[]⟩, .bool false, .bool false]) ?_ 4 _ rfl; (with_reducible repeat apply bd_); refine blk_put (cs := #[.string t240, .string ⟨#[]⟩, .string ⟨#[]⟩, .int .i64 0, .string ⟨#[]⟩, .string ⟨#[]⟩, .string ⟨#[]⟩, .bool false, .bool false]) ?_ 3 _ rfl; (with_reducible repeat apply bd_); refine blk_put (cs := #[.string t240, .string ⟨#[]⟩, .string ⟨#[]⟩, .int .i64 0, .string ⟨#[]⟩, .string ⟨#[]⟩, .string ⟨#[]⟩, .bool false, .bool false]) ?_ 2 _ rfl; (with_reducible repeat apply bd_); refine blk_put (cs := #[.string t240, .string ⟨#[]⟩, .string ⟨#[]⟩, .int .i64 0, .string ⟨#[]⟩, .string ⟨#[]⟩, .string ⟨#[]⟩, .bool false, .bool false]) ?_ 1 _ rfl; (with_reducible repeat apply bd_); refine blk_put (cs := #[.string ⟨#[]⟩, .string ⟨#[]⟩, .string ⟨#[]⟩, .int .i64 0, .string ⟨#[]⟩, .string ⟨#[]⟩, .string ⟨#[]⟩, .bool false, .bool false]) ?_ 0 _ rfl; (with_reducible repeat apply bd_); exact BK236.out) Tryz.underlying32 rfl (by kernel_rfl)) rfl ?_
   exact ⟨retE_, belE_⟩
 ·
  replace c4 := Bool.eq_false_iff.mpr c4
  subst c4
  replace H := ifF_ H
  simp only [Option.some.injEq, Prod.mk.injEq] at H
  obtain ⟨rfl, rfl, rfl, rfl, rfl, rfl, rfl, rfl, rfl, rfl⟩ := H
  go_enter Tryz.func64, Tryz.ntmps64
  go_wp2_with (first | ((with_reducible refine gate_dst (N := 2) rfl ?_); refine box_event ?hg (N := 2) ?hd (cs := #[.string ⟨#[]⟩, .string ⟨#[]⟩, .string ⟨#[]⟩, .int .i64 0, .string ⟨#[]⟩, .string ⟨#[]⟩, .string ⟨#[]⟩, .bool false, .bool false]) (t := 32) ?hr ?_; (case hd => rfl); (case hg => rfl); (case hr => first | (go_simp; done) | (go_simp; rfl)); intro gb236 hg w127 hbox hb; have n0_ := belB_ hb; have n1_ := Aside0.mk (hbox); have n2_ := Aside0.mk ((by rw [hg]; exact (below_size belE_) : w.heap.size ≤ gb236)); have n3_ := Aside0.mk ((by rw [hg]; exact (below_size belE_) : w.heap.size ≤ gb236)); clear HB; have HB := n0_; have BK236 := n1_; have GW236 := n2_; have GE236 := n3_; clear n0_ n1_ n2_ n3_; clear hb hbox hg) | ((with_reducible refine gate_callee (f := 110) rfl ?_); refine cU_ (some 18) Tryz.func110 #[.string a0, .string (⟨#[58]⟩ : ByteArray)] ?_; (with_reducible refine (strings_Cut.calls a0 (⟨#[58]⟩ : ByteArray) t237 t238 false _ A2.out).mono ?_); rintro e w' ⟨rfl, ⟨nd, rfl⟩⟩; refine ⟨_, rfl, ?_⟩; (try (rw [drewN_self w127]; generalize hq_ : World.drewN w127 _ = w127; have n0_ : Aside0 (w127.heap[gb236]? = some (.cells #[.string ⟨#[]⟩, .string ⟨#[]⟩, .string ⟨#[]⟩, .int .i64 0, .string ⟨#[]⟩, .string ⟨#[]⟩, .string ⟨#[]⟩, .bool false, .bool false] 32 (0, 0))) := ⟨by rw [← hq_]; exact (by (with_reducible repeat apply bd_); exact BK236.out)⟩; have n1_ : Aside0 (Below w.heap.size w w127) := ⟨by rw [← hq_]; exact belE_⟩; clear BK236 HB hq_; have BK236 := n0_; have HB := n1_; clear n0_ n1_))) | ((with_reducible refine gate_callee (f := 111) rfl ?_); refine cU_ (some 23) Tryz.func111 #[.string t237] ?_; (with_reducible refine (impl_lower.calls t237 t240 _ A3.out).mono ?_); rintro e w128 ⟨rfl, hb⟩; refine ⟨_, rfl, ?_⟩; replace BK236 := blkK_ BK236 hb; replace HB := belB_ hb; (try clear hb)) | ((with_reducible refine gate_dst (N := 7) rfl ?_); refine box_event ?hg (N := 7) ?hd (cs := #[.string ⟨#[]⟩, .string ⟨#[]⟩, .string ⟨#[]⟩, .int .i64 0, .string ⟨#[]⟩, .string ⟨#[]⟩, .string ⟨#[]⟩, .bool false, .bool false]) (t := 32) ?hr ?_; (case hd => rfl); (case hg => rfl); (case hr => first | (go_simp; done) | (go_simp; rfl)); intro gb241 hg w129 hbox hb; have n0_ := blkB_ (g := gb236) (o := .cells #[.string ⟨#[]⟩, .string ⟨#[]⟩, .string ⟨#[]⟩, .int .i64 0, .string ⟨#[]⟩, .string ⟨#[]⟩, .string ⟨#[]⟩, .bool false, .bool false] 32 (0, 0)) hb; have n1_ := belB_ hb; have n2_ := Aside0.mk (hbox); have n3_ := Aside0.mk ((by rw [hg]; exact (below_size belE_) : w.heap.size ≤ gb241)); have n4_ := Aside0.mk ((by rw [hg]; exact (below_size belE_) : w.heap.size ≤ gb241)); have n5_ := Aside0.mk ((by rw [hg]; exact Nat.ne_of_lt (blk_lt (g := gb236) (o := .cells #[.string ⟨#[]⟩, .string ⟨#[]⟩, .string ⟨#[]⟩, .int .i64 0, .string ⟨#[]⟩, .string ⟨#[]⟩, .string ⟨#[]⟩, .bool false, .bool false] 32 (0, 0)) (by (with_reducible repeat apply bd_); exact BK236.out)) : gb236 ≠ gb241)); have n6_ := Aside0.mk ((by rw [hg]; exact Nat.ne_of_gt (blk_lt (g := gb236) (o := .cells #[.string ⟨#[]⟩, .string ⟨#[]⟩, .string ⟨#[]⟩, .int .i64 0, .string ⟨#[]⟩, .string ⟨#[]⟩, .string ⟨#[]⟩, .bool false, .bool false] 32 (0, 0)) (by (with_reducible repeat apply bd_); exact BK236.out)) : gb241 ≠ gb236)); clear BK236; clear HB; have BK236 := n0_; have HB := n1_; have BK241 := n2_; have GW241 := n3_; have GE241 := n4_; have NB236_241 := n5_; have NB241_236 := n6_; clear n0_ n1_ n2_ n3_ n4_ n5_ n6_; clear hb hbox hg; have hnb130 := NB241_236.out; have hnc130 := NB236_241.out; obtain ⟨hcz131_0, hcz131_1, hcz131_2, hcz131_3, hcz131_4, hcz131_5, hcz131_6, hcz131_7, hcz131_8, hfz131_0, hfz131_1, hfz131_2, hfz131_3, hfz131_4, hfz131_5, hfz131_6, hfz131_7, hfz131_8⟩ := cz9_ BK241; obtain ⟨hcz132_0, hcz132_1, hcz132_2, hcz132_3, hcz132_4, hcz132_5, hcz132_6, hcz132_7, hcz132_8, hfz132_0, hfz132_1, hfz132_2, hfz132_3, hfz132_4, hfz132_5, hfz132_6, hfz132_7, hfz132_8⟩ := cz9_ BK236))
  refine bodyPost_ret (results_ct rfl _ _ gb236 32 #[.string ⟨#[]⟩, .string ⟨#[]⟩, .string ⟨#[]⟩, .int .i64 0, .string ⟨#[]⟩, .string ⟨#[]⟩, .string ⟨#[]⟩, .bool false, .bool false] (0, 0) _ rfl (by (with_reducible repeat apply bd_); refine blk_put (cs := #[.string ⟨#[]⟩, .string ⟨#[]⟩, .string ⟨#[]⟩, .int .i64 0, .string ⟨#[]⟩, .string ⟨#[]⟩, .string ⟨#[]⟩, .bool false, .bool false]) ?_ 8 _ rfl; (with_reducible repeat apply bd_); refine blk_put (cs := #[.string ⟨#[]⟩, .string ⟨#[]⟩, .string ⟨#[]⟩, .int .i64 0, .string ⟨#[]⟩, .string ⟨#[]⟩, .string ⟨#[]⟩, .bool false, .bool false]) ?_ 7 _ rfl; (with_reducible repeat apply bd_); refine blk_put (cs := #[.string ⟨#[]⟩, .string ⟨#[]⟩, .string ⟨#[]⟩, .int .i64 0, .string ⟨#[]⟩, .string ⟨#[]⟩, .string ⟨#[]⟩, .bool false, .bool false]) ?_ 6 _ rfl; (with_reducible repeat apply bd_); refine blk_put (cs := #[.string ⟨#[]⟩, .string ⟨#[]⟩, .string ⟨#[]⟩, .int .i64 0, .string ⟨#[]⟩, .string ⟨#[]⟩, .string ⟨#[]⟩, .bool false, .bool false]) ?_ 5 _ rfl; (with_reducible repeat apply bd_); refine blk_put (cs := #[.string ⟨#[]⟩, .string ⟨#[]⟩, .string ⟨#[]⟩, .int .i64 0, .string ⟨#[]⟩, .string ⟨#[]⟩, .string ⟨#[]⟩, .bool false, .bool false]) ?_ 4 _ rfl; (with_reducible repeat apply bd_); refine blk_put (cs := #[.string ⟨#[]⟩, .string ⟨#[]⟩, .string ⟨#[]⟩, .int .i64 0, .string ⟨#[]⟩, .string ⟨#[]⟩, .string ⟨#[]⟩, .bool false, .bool false]) ?_ 3 _ rfl; (with_reducible repeat apply bd_); refine blk_put (cs := #[.string ⟨#[]⟩, .string ⟨#[]⟩, .string ⟨#[]⟩, .int .i64 0, .string ⟨#[]⟩, .string ⟨#[]⟩, .string ⟨#[]⟩, .bool false, .bool false]) ?_ 2 _ rfl; (with_reducible repeat apply bd_); refine blk_put (cs := #[.string ⟨#[]⟩, .string ⟨#[]⟩, .string ⟨#[]⟩, .int .i64 0, .string ⟨#[]⟩, .string ⟨#[]⟩, .string ⟨#[]⟩, .bool false, .bool false]) ?_ 1 _ rfl; (with_reducible repeat apply bd_); refine blk_put (cs := #[.string ⟨#[]⟩, .string ⟨#[]⟩, .string ⟨#[]⟩, .int .i64 0, .string ⟨#[]⟩, .string ⟨#[]⟩, .string ⟨#[]⟩, .bool false, .bool false]) ?_ 0 _ rfl; (with_reducible repeat apply bd_); refine blk_far ?_ NB236_241.out _; (with_reducible repeat apply bd_); refine blk_far ?_ NB236_241.out _; (with_reducible repeat apply bd_); refine blk_far ?_ NB236_241.out _; (with_reducible repeat apply bd_); refine blk_far ?_ NB236_241.out _; (with_reducible repeat apply bd_); refine blk_far ?_ NB236_241.out _; (with_reducible repeat apply bd_); refine blk_far ?_ NB236_241.out _; (with_reducible repeat apply bd_); refine blk_far ?_ NB236_241.out _; (with_reducible repeat apply bd_); refine blk_far ?_ NB236_241.out _; (with_reducible repeat apply bd_); refine blk_far ?_ NB236_241.out _; (with_reducible repeat apply bd_); exact BK236.out) Tryz.underlying32 rfl (by kernel_rfl)) rfl ?_
  exact ⟨retE_, belE_⟩

end Go.Proofs.YthifpohbdbhnlaaGreatDoor.QFnStrip
