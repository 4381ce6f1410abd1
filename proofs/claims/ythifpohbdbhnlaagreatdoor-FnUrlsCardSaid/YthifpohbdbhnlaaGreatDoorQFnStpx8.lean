/- A tool of this session wrote this text out of the translation: functions as plain Lean, and proofs that the machine's calls come to their answers. -/
import Derived.Test.YthifpohbdbhnlaaGreatDoorQShort
import Derived.Test.YthifpohbdbhnlaaGreatDoorQFnStpx0
import Derived.Test.YthifpohbdbhnlaaGreatDoorQFnStpx2
import Derived.Test.YthifpohbdbhnlaaGreatDoorQFnStpx3
import Derived.Test.YthifpohbdbhnlaaGreatDoorQFnStpx4
import Derived.Test.YthifpohbdbhnlaaGreatDoorQFnStpx5
import Derived.Test.YthifpohbdbhnlaaGreatDoorQFnStpx6
import Derived.Test.YthifpohbdbhnlaaGreatDoorQFnStpx7
namespace Go.Proofs.YthifpohbdbhnlaaGreatDoor.QFnStp
open Go.RowKit Go.Proofs.YthifpohbdbhnlaaGreatDoorW.PrintWords Go.Proofs.YthifpohbdbhnlaaGreatDoorW.PrintLast Go.Proofs.YthifpohbdbhnlaaGreatDoorW.PrintMore
open Bool renaming true → Y, false → Z
open Go.Proofs.YthifpohbdbhnlaaGreatDoor.Short
attribute [local go_sem] max2_int min2_int max_two min_two max_three min_three max_four min_four   -- for this text's walks alone
set_option linter.unusedVariables false
set_option linter.unusedSimpArgs false
theorem worldR_ {P : Program} {c : Code} {Q : Exit → Act → World → Prop} {a : Act} {w : World} (R : World → Prop) (h : R w) (k : ∀ w', R w' → c.wp P Q a w') : c.wp P Q a w := k w h

/-! ### spec_l01Parse: function 76 -/
mutual
def spec_l01Parse.j0 : Nat → ByteArray → Bool → ByteArray → ByteArray → ByteArray → Int → ByteArray → ByteArray → ByteArray → Bool → Bool → Option (ByteArray × ByteArray × ByteArray × Int × ByteArray × ByteArray × ByteArray × Bool × Bool × Bool)
  | 0, _, _, _, _, _, _, _, _, _, _, _ => none
  | k + 1, x6, x54, x168000, x168001, x168002, x168003, x168004, x168005, x168006, x168007, x168008 => if x54 = true then (some ((⟨#[]⟩ : ByteArray), (⟨#[]⟩ : ByteArray), (⟨#[]⟩ : ByteArray), 0, (⟨#[]⟩ : ByteArray), (⟨#[]⟩ : ByteArray), (⟨#[]⟩ : ByteArray), false, false, false)) else (if 2 ≤ (x6.size : Int) then ((spec_l01Find.f k (x6.extract 2 x6.size) 35).bind fun t172 => (if t172 < ((x6.extract 2 x6.size).size : Int) then (if 0 ≤ (wrap64 (t172 + 1)) then (if (wrap64 (t172 + 1)) ≤ ((x6.extract 2 x6.size).size : Int) then (if 0 ≤ t172 then (if t172 ≤ ((x6.extract 2 x6.size).size : Int) then (spec_l01Parse.j1 k ((x6.extract 2 x6.size).extract 0 (t172 : Int).toNat) x168000 x168001 x168002 x168003 x168004 x168005 ((x6.extract 2 x6.size).extract ((wrap64 (t172 + 1)) : Int).toNat (x6.extract 2 x6.size).size) x168007 true) else (none)) else (none)) else (none)) else (none)) else (spec_l01Parse.j1 k (x6.extract 2 x6.size) x168000 x168001 x168002 x168003 x168004 x168005 x168006 x168007 x168008))) else (none))
def spec_l01Parse.j1 : Nat → ByteArray → ByteArray → ByteArray → ByteArray → Int → ByteArray → ByteArray → ByteArray → Bool → Bool → Option (ByteArray × ByteArray × ByteArray × Int × ByteArray × ByteArray × ByteArray × Bool × Bool × Bool)
  | 0, _, _, _, _, _, _, _, _, _, _ => none
  | k + 1, x6, x168000, x168001, x168002, x168003, x168004, x168005, x168006, x168007, x168008 => (spec_l01Find.f k x6 63).bind fun t173 => (if t173 < (x6.size : Int) then (if 0 ≤ (wrap64 (t173 + 1)) then (if (wrap64 (t173 + 1)) ≤ (x6.size : Int) then (if 0 ≤ t173 then (if t173 ≤ (x6.size : Int) then (spec_l01Parse.j2 k (x6.extract 0 (t173 : Int).toNat) x168000 x168001 x168002 x168003 x168004 (x6.extract ((wrap64 (t173 + 1)) : Int).toNat x6.size) x168006 true x168008) else (none)) else (none)) else (none)) else (none)) else (spec_l01Parse.j2 k x6 x168000 x168001 x168002 x168003 x168004 x168005 x168006 x168007 x168008))
def spec_l01Parse.j2 : Nat → ByteArray → ByteArray → ByteArray → ByteArray → Int → ByteArray → ByteArray → ByteArray → Bool → Bool → Option (ByteArray × ByteArray × ByteArray × Int × ByteArray × ByteArray × ByteArray × Bool × Bool × Bool)
  | 0, _, _, _, _, _, _, _, _, _, _ => none
  | k + 1, x6, x168000, x168001, x168002, x168003, x168004, x168005, x168006, x168007, x168008 => (spec_l01Find.f k x6 47).bind fun t174 => (if 0 ≤ t174 then (if t174 ≤ (x6.size : Int) then (if (x6.extract (t174 : Int).toNat x6.size).toList = ([] : List UInt8) then (spec_l01Parse.j3 k t174 x6 x168000 x168001 x168002 x168003 (⟨#[47]⟩ : ByteArray) x168005 x168006 x168007 x168008) else (spec_l01Parse.j3 k t174 x6 x168000 x168001 x168002 x168003 (x6.extract (t174 : Int).toNat x6.size) x168005 x168006 x168007 x168008)) else (none)) else (none))
def spec_l01Parse.j3 : Nat → Int → ByteArray → ByteArray → ByteArray → ByteArray → Int → ByteArray → ByteArray → ByteArray → Bool → Bool → Option (ByteArray × ByteArray × ByteArray × Int × ByteArray × ByteArray × ByteArray × Bool × Bool × Bool)
  | 0, _, _, _, _, _, _, _, _, _, _, _ => none
  | k + 1, x4, x6, x168000, x168001, x168002, x168003, x168004, x168005, x168006, x168007, x168008 => if 0 ≤ x4 then (if x4 ≤ (x6.size : Int) then ((spec_l01Find.f k (x6.extract 0 (x4 : Int).toNat) 64).bind fun t175 => (if t175 < ((x6.extract 0 (x4 : Int).toNat).size : Int) then (if 0 ≤ t175 then (if t175 ≤ ((x6.extract 0 (x4 : Int).toNat).size : Int) then (if 0 ≤ (wrap64 (t175 + 1)) then (if (wrap64 (t175 + 1)) ≤ ((x6.extract 0 (x4 : Int).toNat).size : Int) then (spec_l01Parse.j4 k ((x6.extract 0 (x4 : Int).toNat).extract ((wrap64 (t175 + 1)) : Int).toNat (x6.extract 0 (x4 : Int).toNat).size) x168000 ((x6.extract 0 (x4 : Int).toNat).extract 0 (t175 : Int).toNat) x168002 x168003 x168004 x168005 x168006 x168007 x168008) else (none)) else (none)) else (none)) else (none)) else (spec_l01Parse.j4 k (x6.extract 0 (x4 : Int).toNat) x168000 x168001 x168002 x168003 x168004 x168005 x168006 x168007 x168008))) else (none)) else (none)
def spec_l01Parse.j4 : Nat → ByteArray → ByteArray → ByteArray → ByteArray → Int → ByteArray → ByteArray → ByteArray → Bool → Bool → Option (ByteArray × ByteArray × ByteArray × Int × ByteArray × ByteArray × ByteArray × Bool × Bool × Bool)
  | 0, _, _, _, _, _, _, _, _, _, _ => none
  | k + 1, x6, x168000, x168001, x168002, x168003, x168004, x168005, x168006, x168007, x168008 => (spec_l01Find.f k x6 58).bind fun t176 => (if 0 ≤ t176 then (if t176 ≤ (x6.size : Int) then ((spec_l01Lower.f k (x6.extract 0 (t176 : Int).toNat)).bind fun t177 => (if t176 < (x6.size : Int) then (if 0 ≤ (wrap64 (t176 + 1)) then (if (wrap64 (t176 + 1)) ≤ (x6.size : Int) then ((spec_l00Number.f k (x6.extract ((wrap64 (t176 + 1)) : Int).toNat x6.size)).bind fun bt178 => (if bt178.2 = true then ((spec_l01In.f bt178.1 1 65535).bind fun t180 => (spec_l01Parse.j5 k bt178.1 (!t180) x168000 x168001 t177 x168003 x168004 x168005 x168006 x168007 x168008)) else (spec_l01Parse.j5 k bt178.1 true x168000 x168001 t177 x168003 x168004 x168005 x168006 x168007 x168008))) else (none)) else (none)) else ((spec_l01OK.f k x168000 x168001 t177 x168003 x168004 x168005 x168006 x168007 x168008).bind fun t184 => (some (x168000, x168001, t177, x168003, x168004, x168005, x168006, x168007, x168008, t184))))) else (none)) else (none))
def spec_l01Parse.j5 : Nat → Int → Bool → ByteArray → ByteArray → ByteArray → Int → ByteArray → ByteArray → ByteArray → Bool → Bool → Option (ByteArray × ByteArray × ByteArray × Int × ByteArray × ByteArray × ByteArray × Bool × Bool × Bool)
  | 0, _, _, _, _, _, _, _, _, _, _, _ => none
  | k + 1, x11, x140, x168000, x168001, x168002, x168003, x168004, x168005, x168006, x168007, x168008 => if x140 = true then (some ((⟨#[]⟩ : ByteArray), (⟨#[]⟩ : ByteArray), (⟨#[]⟩ : ByteArray), 0, (⟨#[]⟩ : ByteArray), (⟨#[]⟩ : ByteArray), (⟨#[]⟩ : ByteArray), false, false, false)) else ((spec_l01Usual.f x168000).bind fun t181 => (if x11 = t181 then ((spec_l01OK.f k x168000 x168001 x168002 x168003 x168004 x168005 x168006 x168007 x168008).bind fun t182 => (some (x168000, x168001, x168002, x168003, x168004, x168005, x168006, x168007, x168008, t182))) else ((spec_l01OK.f k x168000 x168001 x168002 x11 x168004 x168005 x168006 x168007 x168008).bind fun t183 => (some (x168000, x168001, x168002, x11, x168004, x168005, x168006, x168007, x168008, t183)))))
end
def spec_l01Parse.f (k : Nat) (a0 : ByteArray) : Option (ByteArray × ByteArray × ByteArray × Int × ByteArray × ByteArray × ByteArray × Bool × Bool × Bool) := (spec_l01Find.f k a0 58).bind fun t165 => (if t165 = (a0.size : Int) then (some ((⟨#[]⟩ : ByteArray), (⟨#[]⟩ : ByteArray), (⟨#[]⟩ : ByteArray), 0, (⟨#[]⟩ : ByteArray), (⟨#[]⟩ : ByteArray), (⟨#[]⟩ : ByteArray), false, false, false)) else (if 0 ≤ t165 then (if t165 ≤ (a0.size : Int) then ((spec_l01Lower.f k (a0.extract 0 (t165 : Int).toNat)).bind fun t166 => (if 0 ≤ (wrap64 (t165 + 1)) then (if (wrap64 (t165 + 1)) ≤ (a0.size : Int) then ((spec_l01Web.f t166).bind fun t168 => (if t168 = true then (if ((a0.extract ((wrap64 (t165 + 1)) : Int).toNat a0.size).size : Int) < 2 then (spec_l01Parse.j0 k (a0.extract ((wrap64 (t165 + 1)) : Int).toNat a0.size) true t166 (⟨#[]⟩ : ByteArray) (⟨#[]⟩ : ByteArray) 0 (⟨#[]⟩ : ByteArray) (⟨#[]⟩ : ByteArray) (⟨#[]⟩ : ByteArray) false false) else (if 0 ≤ 2 then (if 2 ≤ ((a0.extract ((wrap64 (t165 + 1)) : Int).toNat a0.size).size : Int) then (spec_l01Parse.j0 k (a0.extract ((wrap64 (t165 + 1)) : Int).toNat a0.size) (((a0.extract ((wrap64 (t165 + 1)) : Int).toNat a0.size).extract 0 2).toList != ([47, 47] : List UInt8)) t166 (⟨#[]⟩ : ByteArray) (⟨#[]⟩ : ByteArray) 0 (⟨#[]⟩ : ByteArray) (⟨#[]⟩ : ByteArray) (⟨#[]⟩ : ByteArray) false false) else (none)) else (none))) else ((spec_l01Find.f k (a0.extract ((wrap64 (t165 + 1)) : Int).toNat a0.size) 35).bind fun t169 => (if 0 ≤ t169 then (if t169 ≤ ((a0.extract ((wrap64 (t165 + 1)) : Int).toNat a0.size).size : Int) then ((spec_l01Find.f k ((a0.extract ((wrap64 (t165 + 1)) : Int).toNat a0.size).extract 0 (t169 : Int).toNat) 63).bind fun t170 => (if 0 ≤ t170 then (if t170 ≤ (((a0.extract ((wrap64 (t165 + 1)) : Int).toNat a0.size).extract 0 (t169 : Int).toNat).size : Int) then ((spec_l01OK.f k t166 (⟨#[]⟩ : ByteArray) (⟨#[]⟩ : ByteArray) 0 (((a0.extract ((wrap64 (t165 + 1)) : Int).toNat a0.size).extract 0 (t169 : Int).toNat).extract 0 (t170 : Int).toNat) (⟨#[]⟩ : ByteArray) (⟨#[]⟩ : ByteArray) false false).bind fun t171 => (some (t166, (⟨#[]⟩ : ByteArray), (⟨#[]⟩ : ByteArray), 0, ((a0.extract ((wrap64 (t165 + 1)) : Int).toNat a0.size).extract 0 (t169 : Int).toNat).extract 0 (t170 : Int).toNat, (⟨#[]⟩ : ByteArray), (⟨#[]⟩ : ByteArray), false, false, t171))) else (none)) else (none))) else (none)) else (none))))) else (none)) else (none))) else (none)) else (none)))
theorem spec_l01Parse.mono_l : ∀ k, (∀ y0 y1 y2 y3 y4 y5 y6 y7 y8 y9 a, LeO (spec_l01Parse.j0 k y0 y1 y2 y3 y4 y5 y6 y7 y8 y9 a) (spec_l01Parse.j0 (k + 1) y0 y1 y2 y3 y4 y5 y6 y7 y8 y9 a)) ∧ (∀ y0 y1 y2 y3 y4 y5 y6 y7 y8 y9, LeO (spec_l01Parse.j1 k y0 y1 y2 y3 y4 y5 y6 y7 y8 y9) (spec_l01Parse.j1 (k + 1) y0 y1 y2 y3 y4 y5 y6 y7 y8 y9)) ∧ (∀ y0 y1 y2 y3 y4 y5 y6 y7 y8 y9, LeO (spec_l01Parse.j2 k y0 y1 y2 y3 y4 y5 y6 y7 y8 y9) (spec_l01Parse.j2 (k + 1) y0 y1 y2 y3 y4 y5 y6 y7 y8 y9)) ∧ (∀ y0 y1 y2 y3 y4 y5 y6 y7 y8 y9 a, LeO (spec_l01Parse.j3 k y0 y1 y2 y3 y4 y5 y6 y7 y8 y9 a) (spec_l01Parse.j3 (k + 1) y0 y1 y2 y3 y4 y5 y6 y7 y8 y9 a)) ∧ (∀ y0 y1 y2 y3 y4 y5 y6 y7 y8 y9, LeO (spec_l01Parse.j4 k y0 y1 y2 y3 y4 y5 y6 y7 y8 y9) (spec_l01Parse.j4 (k + 1) y0 y1 y2 y3 y4 y5 y6 y7 y8 y9)) ∧ (∀ y0 y1 y2 y3 y4 y5 y6 y7 y8 y9 a, LeO (spec_l01Parse.j5 k y0 y1 y2 y3 y4 y5 y6 y7 y8 y9 a) (spec_l01Parse.j5 (k + 1) y0 y1 y2 y3 y4 y5 y6 y7 y8 y9 a))
  | 0 => ⟨fun _ _ _ _ _ _ _ _ _ _ _ r h => by simp [spec_l01Parse.j0] at h, fun _ _ _ _ _ _ _ _ _ _ r h => by simp [spec_l01Parse.j1] at h, fun _ _ _ _ _ _ _ _ _ _ r h => by simp [spec_l01Parse.j2] at h, fun _ _ _ _ _ _ _ _ _ _ _ r h => by simp [spec_l01Parse.j3] at h, fun _ _ _ _ _ _ _ _ _ _ r h => by simp [spec_l01Parse.j4] at h, fun _ _ _ _ _ _ _ _ _ _ _ r h => by simp [spec_l01Parse.j5] at h⟩
  | k + 1 => by
    obtain ⟨ih0, ih1, ih2, ih3, ih4, ih5⟩ := spec_l01Parse.mono_l k; refine ⟨?_, ?_, ?_, ?_, ?_, ?_⟩
    · intro y0 y1 y2 y3 y4 y5 y6 y7 y8 y9 a
      unfold spec_l01Parse.j0; repeat' first | (with_reducible exact ih0 _ _ _ _ _ _ _ _ _ _ _) | (with_reducible exact ih1 _ _ _ _ _ _ _ _ _ _) | (with_reducible exact ih2 _ _ _ _ _ _ _ _ _ _) | (with_reducible exact ih3 _ _ _ _ _ _ _ _ _ _ _) | (with_reducible exact ih4 _ _ _ _ _ _ _ _ _ _) | (with_reducible exact ih5 _ _ _ _ _ _ _ _ _ _ _) | (with_reducible exact spec_l00Number.mono _ _) | (with_reducible exact spec_l01Find.mono _ _ _) | (with_reducible exact spec_l01Lower.mono _ _) | (with_reducible exact spec_l01OK.mono _ _ _ _ _ _ _ _ _ _) | (with_reducible first | exact LeO.refl _ | exact LeO.none _ | refine LeO.ite ?_ ?_ | refine LeO.bind ?_ (fun _ => ?_)) | exact ih0 _ _ _ _ _ _ _ _ _ _ _ | exact ih1 _ _ _ _ _ _ _ _ _ _ | exact ih2 _ _ _ _ _ _ _ _ _ _ | exact ih3 _ _ _ _ _ _ _ _ _ _ _ | exact ih4 _ _ _ _ _ _ _ _ _ _ | exact ih5 _ _ _ _ _ _ _ _ _ _ _ | exact spec_l00Number.mono _ _ | exact spec_l01Find.mono _ _ _ | exact spec_l01Lower.mono _ _ | exact spec_l01OK.mono _ _ _ _ _ _ _ _ _ _ | exact LeO.none _ | refine LeO.ite ?_ ?_ | refine LeO.bind ?_ (fun _ => ?_)
    · intro y0 y1 y2 y3 y4 y5 y6 y7 y8 y9
      unfold spec_l01Parse.j1; repeat' first | (with_reducible exact ih0 _ _ _ _ _ _ _ _ _ _ _) | (with_reducible exact ih1 _ _ _ _ _ _ _ _ _ _) | (with_reducible exact ih2 _ _ _ _ _ _ _ _ _ _) | (with_reducible exact ih3 _ _ _ _ _ _ _ _ _ _ _) | (with_reducible exact ih4 _ _ _ _ _ _ _ _ _ _) | (with_reducible exact ih5 _ _ _ _ _ _ _ _ _ _ _) | (with_reducible exact spec_l00Number.mono _ _) | (with_reducible exact spec_l01Find.mono _ _ _) | (with_reducible exact spec_l01Lower.mono _ _) | (with_reducible exact spec_l01OK.mono _ _ _ _ _ _ _ _ _ _) | (with_reducible first | exact LeO.refl _ | exact LeO.none _ | refine LeO.ite ?_ ?_ | refine LeO.bind ?_ (fun _ => ?_)) | exact ih0 _ _ _ _ _ _ _ _ _ _ _ | exact ih1 _ _ _ _ _ _ _ _ _ _ | exact ih2 _ _ _ _ _ _ _ _ _ _ | exact ih3 _ _ _ _ _ _ _ _ _ _ _ | exact ih4 _ _ _ _ _ _ _ _ _ _ | exact ih5 _ _ _ _ _ _ _ _ _ _ _ | exact spec_l00Number.mono _ _ | exact spec_l01Find.mono _ _ _ | exact spec_l01Lower.mono _ _ | exact spec_l01OK.mono _ _ _ _ _ _ _ _ _ _ | exact LeO.none _ | refine LeO.ite ?_ ?_ | refine LeO.bind ?_ (fun _ => ?_)
    · intro y0 y1 y2 y3 y4 y5 y6 y7 y8 y9
      unfold spec_l01Parse.j2; repeat' first | (with_reducible exact ih0 _ _ _ _ _ _ _ _ _ _ _) | (with_reducible exact ih1 _ _ _ _ _ _ _ _ _ _) | (with_reducible exact ih2 _ _ _ _ _ _ _ _ _ _) | (with_reducible exact ih3 _ _ _ _ _ _ _ _ _ _ _) | (with_reducible exact ih4 _ _ _ _ _ _ _ _ _ _) | (with_reducible exact ih5 _ _ _ _ _ _ _ _ _ _ _) | (with_reducible exact spec_l00Number.mono _ _) | (with_reducible exact spec_l01Find.mono _ _ _) | (with_reducible exact spec_l01Lower.mono _ _) | (with_reducible exact spec_l01OK.mono _ _ _ _ _ _ _ _ _ _) | (with_reducible first | exact LeO.refl _ | exact LeO.none _ | refine LeO.ite ?_ ?_ | refine LeO.bind ?_ (fun _ => ?_)) | exact ih0 _ _ _ _ _ _ _ _ _ _ _ | exact ih1 _ _ _ _ _ _ _ _ _ _ | exact ih2 _ _ _ _ _ _ _ _ _ _ | exact ih3 _ _ _ _ _ _ _ _ _ _ _ | exact ih4 _ _ _ _ _ _ _ _ _ _ | exact ih5 _ _ _ _ _ _ _ _ _ _ _ | exact spec_l00Number.mono _ _ | exact spec_l01Find.mono _ _ _ | exact spec_l01Lower.mono _ _ | exact spec_l01OK.mono _ _ _ _ _ _ _ _ _ _ | exact LeO.none _ | refine LeO.ite ?_ ?_ | refine LeO.bind ?_ (fun _ => ?_)
    · intro y0 y1 y2 y3 y4 y5 y6 y7 y8 y9 a
      unfold spec_l01Parse.j3; repeat' first | (with_reducible exact ih0 _ _ _ _ _ _ _ _ _ _ _) | (with_reducible exact ih1 _ _ _ _ _ _ _ _ _ _) | (with_reducible exact ih2 _ _ _ _ _ _ _ _ _ _) | (with_reducible exact ih3 _ _ _ _ _ _ _ _ _ _ _) | (with_reducible exact ih4 _ _ _ _ _ _ _ _ _ _) | (with_reducible exact ih5 _ _ _ _ _ _ _ _ _ _ _) | (with_reducible exact spec_l00Number.mono _ _) | (with_reducible exact spec_l01Find.mono _ _ _) | (with_reducible exact spec_l01Lower.mono _ _) | (with_reducible exact spec_l01OK.mono _ _ _ _ _ _ _ _ _ _) | (with_reducible first | exact LeO.refl _ | exact LeO.none _ | refine LeO.ite ?_ ?_ | refine LeO.bind ?_ (fun _ => ?_)) | exact ih0 _ _ _ _ _ _ _ _ _ _ _ | exact ih1 _ _ _ _ _ _ _ _ _ _ | exact ih2 _ _ _ _ _ _ _ _ _ _ | exact ih3 _ _ _ _ _ _ _ _ _ _ _ | exact ih4 _ _ _ _ _ _ _ _ _ _ | exact ih5 _ _ _ _ _ _ _ _ _ _ _ | exact spec_l00Number.mono _ _ | exact spec_l01Find.mono _ _ _ | exact spec_l01Lower.mono _ _ | exact spec_l01OK.mono _ _ _ _ _ _ _ _ _ _ | exact LeO.none _ | refine LeO.ite ?_ ?_ | refine LeO.bind ?_ (fun _ => ?_)
    · intro y0 y1 y2 y3 y4 y5 y6 y7 y8 y9
      unfold spec_l01Parse.j4; repeat' first | (with_reducible exact ih0 _ _ _ _ _ _ _ _ _ _ _) | (with_reducible exact ih1 _ _ _ _ _ _ _ _ _ _) | (with_reducible exact ih2 _ _ _ _ _ _ _ _ _ _) | (with_reducible exact ih3 _ _ _ _ _ _ _ _ _ _ _) | (with_reducible exact ih4 _ _ _ _ _ _ _ _ _ _) | (with_reducible exact ih5 _ _ _ _ _ _ _ _ _ _ _) | (with_reducible exact spec_l00Number.mono _ _) | (with_reducible exact spec_l01Find.mono _ _ _) | (with_reducible exact spec_l01Lower.mono _ _) | (with_reducible exact spec_l01OK.mono _ _ _ _ _ _ _ _ _ _) | (with_reducible first | exact LeO.refl _ | exact LeO.none _ | refine LeO.ite ?_ ?_ | refine LeO.bind ?_ (fun _ => ?_)) | exact ih0 _ _ _ _ _ _ _ _ _ _ _ | exact ih1 _ _ _ _ _ _ _ _ _ _ | exact ih2 _ _ _ _ _ _ _ _ _ _ | exact ih3 _ _ _ _ _ _ _ _ _ _ _ | exact ih4 _ _ _ _ _ _ _ _ _ _ | exact ih5 _ _ _ _ _ _ _ _ _ _ _ | exact spec_l00Number.mono _ _ | exact spec_l01Find.mono _ _ _ | exact spec_l01Lower.mono _ _ | exact spec_l01OK.mono _ _ _ _ _ _ _ _ _ _ | exact LeO.none _ | refine LeO.ite ?_ ?_ | refine LeO.bind ?_ (fun _ => ?_)
    · intro y0 y1 y2 y3 y4 y5 y6 y7 y8 y9 a
      unfold spec_l01Parse.j5; repeat' first | (with_reducible exact ih0 _ _ _ _ _ _ _ _ _ _ _) | (with_reducible exact ih1 _ _ _ _ _ _ _ _ _ _) | (with_reducible exact ih2 _ _ _ _ _ _ _ _ _ _) | (with_reducible exact ih3 _ _ _ _ _ _ _ _ _ _ _) | (with_reducible exact ih4 _ _ _ _ _ _ _ _ _ _) | (with_reducible exact ih5 _ _ _ _ _ _ _ _ _ _ _) | (with_reducible exact spec_l00Number.mono _ _) | (with_reducible exact spec_l01Find.mono _ _ _) | (with_reducible exact spec_l01Lower.mono _ _) | (with_reducible exact spec_l01OK.mono _ _ _ _ _ _ _ _ _ _) | (with_reducible first | exact LeO.refl _ | exact LeO.none _ | refine LeO.ite ?_ ?_ | refine LeO.bind ?_ (fun _ => ?_)) | exact ih0 _ _ _ _ _ _ _ _ _ _ _ | exact ih1 _ _ _ _ _ _ _ _ _ _ | exact ih2 _ _ _ _ _ _ _ _ _ _ | exact ih3 _ _ _ _ _ _ _ _ _ _ _ | exact ih4 _ _ _ _ _ _ _ _ _ _ | exact ih5 _ _ _ _ _ _ _ _ _ _ _ | exact spec_l00Number.mono _ _ | exact spec_l01Find.mono _ _ _ | exact spec_l01Lower.mono _ _ | exact spec_l01OK.mono _ _ _ _ _ _ _ _ _ _ | exact LeO.none _ | refine LeO.ite ?_ ?_ | refine LeO.bind ?_ (fun _ => ?_)
theorem spec_l01Parse.mono : ∀ a0 k, LeO (spec_l01Parse.f k a0) (spec_l01Parse.f (k + 1) a0) := by
  intro a0 k; obtain ⟨ih0, ih1, ih2, ih3, ih4, ih5⟩ := spec_l01Parse.mono_l k; unfold spec_l01Parse.f; repeat' first | (with_reducible exact ih0 _ _ _ _ _ _ _ _ _ _ _) | (with_reducible exact ih1 _ _ _ _ _ _ _ _ _ _) | (with_reducible exact ih2 _ _ _ _ _ _ _ _ _ _) | (with_reducible exact ih3 _ _ _ _ _ _ _ _ _ _ _) | (with_reducible exact ih4 _ _ _ _ _ _ _ _ _ _) | (with_reducible exact ih5 _ _ _ _ _ _ _ _ _ _ _) | (with_reducible exact spec_l00Number.mono _ _) | (with_reducible exact spec_l01Find.mono _ _ _) | (with_reducible exact spec_l01Lower.mono _ _) | (with_reducible exact spec_l01OK.mono _ _ _ _ _ _ _ _ _ _) | (with_reducible first | exact LeO.refl _ | exact LeO.none _ | refine LeO.ite ?_ ?_ | refine LeO.bind ?_ (fun _ => ?_)) | exact ih0 _ _ _ _ _ _ _ _ _ _ _ | exact ih1 _ _ _ _ _ _ _ _ _ _ | exact ih2 _ _ _ _ _ _ _ _ _ _ | exact ih3 _ _ _ _ _ _ _ _ _ _ _ | exact ih4 _ _ _ _ _ _ _ _ _ _ | exact ih5 _ _ _ _ _ _ _ _ _ _ _ | exact spec_l00Number.mono _ _ | exact spec_l01Find.mono _ _ _ | exact spec_l01Lower.mono _ _ | exact spec_l01OK.mono _ _ _ _ _ _ _ _ _ _ | exact LeO.none _ | refine LeO.ite ?_ ?_ | refine LeO.bind ?_ (fun _ => ?_)
set_option maxHeartbeats 40000000 in
set_option maxRecDepth 100000 in
theorem spec_l01Parse.calls (k : Nat) (a0 : ByteArray) (r1 : ByteArray) (r2 : ByteArray) (r3 : ByteArray) (r4 : Int) (r5 : ByteArray) (r6 : ByteArray) (r7 : ByteArray) (r8 : Bool) (r9 : Bool) (Q : Bool) (w : World) (h : spec_l01Parse.f k a0 = some (r1, r2, r3, r4, r5, r6, r7, r8, r9, Q)) :
    Calls Tryz.prog 76 #[.string a0] w fun e w' => e = .returned (.tuple #[.agg #[.string r1, .string r2, .string r3, .int .i64 r4, .string r5, .string r6, .string r7, .bool r8, .bool r9], .bool Q]) ∧ Below w.heap.size w w' := by
 have hu32 := Tryz.underlying32; have HB := Aside0.mk (Below.refl w.heap.size w); have H := h; clear h; unfold spec_l01Parse.f at H; obtain ⟨F, A2, H⟩ := bindE_ H; by_cases c3 : F = (a0.size : Int)
 · rw [if_pos c3] at H; have ae : (F == (a0.size : Int)) = true := beq_iff_eq.mpr c3; have af : (F != (a0.size : Int)) = false := bne_eq_false_iff_eq.mpr c3; clear c3; simp only [Option.some.injEq, Prod.mk.injEq] at H; obtain ⟨rfl, rfl, rfl, rfl, rfl, rfl, rfl, rfl, rfl, rfl⟩ := H; go_enter Tryz.func76, Tryz.ntmps76; go_wp2_with (first | ((with_reducible refine gate_dst (N := 2) rfl ?_); refine box_event ?hg (N := 2) ?hd (cs := #[.string ⟨#[]⟩, .string ⟨#[]⟩, .string ⟨#[]⟩, .int .i64 0, .string ⟨#[]⟩, .string ⟨#[]⟩, .string ⟨#[]⟩, .bool false, .bool false]) (t := 32) ?hr ?_; (case hd => rfl); (case hg => rfl); (case hr => first | (go_simp; done) | (go_simp; rfl)); intro d hg w4 hbox hb; have j := belB_ hb; have l := Aside0.mk (hbox); have p := geE_ (w := w) hg; have M := geE_ (w := w) hg; clear HB; have HB := j; have a := l; have bx := p; have bz := M; clear j l p M; clear hb hbox hg) | ((with_reducible refine gate_callee (f := 122) rfl ?_); refine cU_ (some 14) Tryz.func122 #[.string a0, .int .u8 58] ?_; (with_reducible refine (spec_l01Find.calls k a0 58 F _ A2.out).mono ?_); rintro e w' ⟨rfl, ⟨nd, rfl⟩⟩; refine ⟨_, rfl, ?_⟩; (try (rw [drewN_self w4]; generalize hq_ : World.drewN w4 _ = w4; have j : Aside0 (w4.heap[d]? = some (.cells #[.string ⟨#[]⟩, .string ⟨#[]⟩, .string ⟨#[]⟩, .int .i64 0, .string ⟨#[]⟩, .string ⟨#[]⟩, .string ⟨#[]⟩, .bool false, .bool false] 32 (0, 0))) := ⟨by rw [← hq_]; exact (by (with_reducible repeat apply bd_); exact a.out)⟩; have l : Aside0 (Below w.heap.size w w4) := ⟨by rw [← hq_]; exact belE_⟩; clear a HB hq_; have a := j; have HB := l; clear j l; obtain ⟨hcz5_0, hcz5_1, hcz5_2, hcz5_3, hcz5_4, hcz5_5, hcz5_6, hcz5_7, hcz5_8, hfz5_0, hfz5_1, hfz5_2, hfz5_3, hfz5_4, hfz5_5, hfz5_6, hfz5_7, hfz5_8⟩ := cz9_ a)); obtain ⟨hcz5_0, hcz5_1, hcz5_2, hcz5_3, hcz5_4, hcz5_5, hcz5_6, hcz5_7, hcz5_8, hfz5_0, hfz5_1, hfz5_2, hfz5_3, hfz5_4, hfz5_5, hfz5_6, hfz5_7, hfz5_8⟩ := cz9_ a)); refine bodyPost_ret (results_ct rfl _ _ d 32 #[.string ⟨#[]⟩, .string ⟨#[]⟩, .string ⟨#[]⟩, .int .i64 0, .string ⟨#[]⟩, .string ⟨#[]⟩, .string ⟨#[]⟩, .bool false, .bool false] (0, 0) _ rfl (bk_ a.out) Tryz.underlying32 rfl (by kernel_rfl)) rfl ?_; exact ⟨retE_, belE_⟩
 ·
  rw [if_neg c3] at H; have ae : (F == (a0.size : Int)) = false := beq_eq_false_iff_ne.mpr c3; have af : (F != (a0.size : Int)) = true := bne_iff_ne.mpr c3; by_cases c6 : 0 ≤ F
  ·
   rw [if_pos c6] at H; have ar := eq_true c6; have au : decide (0 ≤ F) = true := decide_eq_true c6; clear c6; by_cases c7 : F ≤ (a0.size : Int)
   ·
    rw [if_pos c7] at H; have av := eq_true c7; have aw : decide (F ≤ (a0.size : Int)) = true := decide_eq_true c7; clear c7; obtain ⟨g, A8, H⟩ := bindE_ H; obtain ⟨ji9, hji9⟩ : ∃ j_ : Int, (wrap64 (F + 1)) = j_ := ⟨_, rfl⟩
    replace H : (if 0 ≤ (ji9) then (if (ji9) ≤ (a0.size : Int) then ((spec_l01Web.f g).bind fun bk => (if bk = true then (if ((a0.extract ((ji9) : Int).toNat a0.size).size : Int) < 2 then (spec_l01Parse.j0 k (a0.extract ((ji9) : Int).toNat a0.size) true g (⟨#[]⟩ : ByteArray) (⟨#[]⟩ : ByteArray) 0 (⟨#[]⟩ : ByteArray) (⟨#[]⟩ : ByteArray) (⟨#[]⟩ : ByteArray) false false) else (if 0 ≤ 2 then (if 2 ≤ ((a0.extract ((ji9) : Int).toNat a0.size).size : Int) then (spec_l01Parse.j0 k (a0.extract ((ji9) : Int).toNat a0.size) (((a0.extract ((ji9) : Int).toNat a0.size).extract 0 2).toList != ([47, 47] : List UInt8)) g (⟨#[]⟩ : ByteArray) (⟨#[]⟩ : ByteArray) 0 (⟨#[]⟩ : ByteArray) (⟨#[]⟩ : ByteArray) (⟨#[]⟩ : ByteArray) false false) else (none)) else (none))) else ((spec_l01Find.f k (a0.extract ((ji9) : Int).toNat a0.size) 35).bind fun B => (if 0 ≤ B then (if B ≤ ((a0.extract ((ji9) : Int).toNat a0.size).size : Int) then ((spec_l01Find.f k ((a0.extract ((ji9) : Int).toNat a0.size).extract 0 (B : Int).toNat) 63).bind fun G => (if 0 ≤ G then (if G ≤ (((a0.extract ((ji9) : Int).toNat a0.size).extract 0 (B : Int).toNat).size : Int) then ((spec_l01OK.f k g (⟨#[]⟩ : ByteArray) (⟨#[]⟩ : ByteArray) 0 (((a0.extract ((ji9) : Int).toNat a0.size).extract 0 (B : Int).toNat).extract 0 (G : Int).toNat) (⟨#[]⟩ : ByteArray) (⟨#[]⟩ : ByteArray) false false).bind fun bl => (some (g, (⟨#[]⟩ : ByteArray), (⟨#[]⟩ : ByteArray), 0, ((a0.extract ((ji9) : Int).toNat a0.size).extract 0 (B : Int).toNat).extract 0 (G : Int).toNat, (⟨#[]⟩ : ByteArray), (⟨#[]⟩ : ByteArray), false, false, bl))) else (none)) else (none))) else (none)) else (none))))) else (none)) else (none)) = some (r1, r2, r3, r4, r5, r6, r7, r8, r9, Q) := by first | (rw [hji9] at H; exact H) | (simp only [hji9] at H ⊢; exact H)
    (try rw [hji9] at A2); (try rw [hji9] at A8); have hji9w : (IntKind.i64.wrap (F + 1)) = ji9 := (i64_w _).trans hji9; by_cases T : 0 ≤ (ji9)
    ·
     rw [if_pos T] at H; have am := eq_true T; have an : decide (0 ≤ (ji9)) = true := decide_eq_true T; clear T; by_cases U : (ji9) ≤ (a0.size : Int)
     ·
      rw [if_pos U] at H; have ao := eq_true U; have ap : decide ((ji9) ≤ (a0.size : Int)) = true := decide_eq_true U; clear U; obtain ⟨bk, bK, H⟩ := bindE_ H; by_cases X : bk = true
      ·
       subst X; replace H := ifT_ H; have bm := Aside0.mk H; clear H; go_enter Tryz.func76, Tryz.ntmps76; go_upto_region 12 with (first | ((with_reducible refine gate_dst (N := 2) rfl ?_); refine box_event ?hg (N := 2) ?hd (cs := #[.string ⟨#[]⟩, .string ⟨#[]⟩, .string ⟨#[]⟩, .int .i64 0, .string ⟨#[]⟩, .string ⟨#[]⟩, .string ⟨#[]⟩, .bool false, .bool false]) (t := 32) ?hr ?_; (case hd => rfl); (case hg => rfl); (case hr => first | (go_simp; done) | (go_simp; rfl)); intro d hg aO hbox hb; have j := belB_ hb; have l := Aside0.mk (hbox); have p := geE_ (w := w) hg; have M := geE_ (w := w) hg; clear HB; have HB := j; have a := l; have bx := p; have bz := M; clear j l p M; clear hb hbox hg) | ((with_reducible refine gate_callee (f := 122) rfl ?_); refine cU_ (some 14) Tryz.func122 #[.string a0, .int .u8 58] ?_; (with_reducible refine (spec_l01Find.calls k a0 58 F _ A2.out).mono ?_); rintro e w' ⟨rfl, ⟨nd, rfl⟩⟩; refine ⟨_, rfl, ?_⟩; (try (rw [drewN_self aO]; generalize hq_ : World.drewN aO _ = aO; have j : Aside0 (aO.heap[d]? = some (.cells #[.string ⟨#[]⟩, .string ⟨#[]⟩, .string ⟨#[]⟩, .int .i64 0, .string ⟨#[]⟩, .string ⟨#[]⟩, .string ⟨#[]⟩, .bool false, .bool false] 32 (0, 0))) := ⟨by rw [← hq_]; exact (by (with_reducible repeat apply bd_); exact a.out)⟩; have l : Aside0 (Below w.heap.size w aO) := ⟨by rw [← hq_]; exact belE_⟩; clear a HB hq_; have a := j; have HB := l; clear j l))) | ((with_reducible refine gate_callee (f := 123) rfl ?_); refine cU_ (some 23) Tryz.func123 #[.string (a0.extract 0 (F : Int).toNat)] ?_; (with_reducible refine (spec_l01Lower.calls k (a0.extract 0 (F : Int).toNat) g _ A8.out).mono ?_); rintro e e2 ⟨rfl, hb⟩; refine ⟨_, rfl, ?_⟩; replace a := blkK_ a hb; replace HB := belB_ hb; (try clear hb)) | ((with_reducible refine gate_dst (N := 5) rfl ?_); refine box_event ?hg (N := 5) ?hd (cs := #[.string ⟨#[]⟩, .string ⟨#[]⟩, .string ⟨#[]⟩, .int .i64 0, .string ⟨#[]⟩, .string ⟨#[]⟩, .string ⟨#[]⟩, .bool false, .bool false]) (t := 32) ?hr ?_; (case hd => rfl); (case hg => rfl); (case hr => first | (go_simp; done) | (go_simp; rfl)); intro m hg e3 hbox hb; have j := blkX_ a hb; have l := belB_ hb; have p := Aside0.mk (hbox); have M := geE_ (w := w) hg; have aP := geE_ (w := w) hg; have aQ := neL_ a hg; have aR := neG_ a hg; clear a; clear HB; have a := j; have HB := l; have b := p; have bP := M; have bQ := aP; have o := aQ; have c := aR; clear j l p M aP aQ aR; clear hb hbox hg; have cE := c.out; have cF := o.out; obtain ⟨hcz19_0, hcz19_1, hcz19_2, hcz19_3, hcz19_4, hcz19_5, hcz19_6, hcz19_7, hcz19_8, hfz19_0, hfz19_1, hfz19_2, hfz19_3, hfz19_4, hfz19_5, hfz19_6, hfz19_7, hfz19_8⟩ := cz9_ b) | ((with_reducible refine gate_callee (f := 61) rfl ?_); refine cU_ (some 31) Tryz.func61 #[.string g] ?_; (with_reducible refine (spec_l01Web.calls g true _ bK.out).mono ?_); rintro e w' ⟨rfl, ⟨nd, rfl⟩⟩; refine ⟨_, rfl, ?_⟩))
       (try simp only [Act.put, List.setIfInBounds_toArray, List.set_cons_zero, List.set_cons_succ]); go_cut [54] (fun ck wc => ∃ (kq : Nat) (b7 : Bool), ck = .bool b7 ∧ Aside0 (spec_l01Parse.j0 kq (a0.extract ((ji9) : Int).toNat a0.size) b7 g (⟨#[]⟩ : ByteArray) (⟨#[]⟩ : ByteArray) 0 (⟨#[]⟩ : ByteArray) (⟨#[]⟩ : ByteArray) (⟨#[]⟩ : ByteArray) false false = some (r1, r2, r3, r4, r5, r6, r7, r8, r9, Q)) ∧ Aside0 (kq ≤ k) ∧ Aside0 (wc.heap[d]? = some (.cells #[.string ⟨#[]⟩, .string ⟨#[]⟩, .string ⟨#[]⟩, .int .i64 0, .string ⟨#[]⟩, .string ⟨#[]⟩, .string ⟨#[]⟩, .bool false, .bool false] 32 (0, 0))) ∧ Aside0 (wc.heap[m]? = some (.cells #[.string g, .string ⟨#[]⟩, .string ⟨#[]⟩, .int .i64 0, .string ⟨#[]⟩, .string ⟨#[]⟩, .string ⟨#[]⟩, .bool false, .bool false] 32 (0, 0))) ∧ Aside0 (Below w.heap.size w wc))
       case first =>
        have H := bm.out; clear bm; by_cases ay : ((a0.extract ((ji9) : Int).toNat a0.size).size : Int) < 2
        ·
         rw [if_pos ay] at H; have ab : decide (((a0.extract ((ji9) : Int).toNat a0.size).size : Int) < 2) = true := decide_eq_true ay; try (have c20e0 := ab; simp only [ByteArray.size_extract, Nat.min_self, Nat.sub_zero] at c20e0)
         have bd : decide ((a0.extract ((ji9) : Int).toNat a0.size).size < 2) = true := decide_eq_true (by omega); try (have c20e1 := bd; simp only [ByteArray.size_extract, Nat.min_self, Nat.sub_zero] at c20e1)
         try (have c20e0 := eq_true (of_decide_eq_true c20e1))
         clear ay; (first | rw [ab] | (simp only [i64_w, i32_w]; rw [ab]) | skip); have H' := Aside0.mk H; clear H; go_wp2; go_meet
         case rel => exact ⟨_, (true), eqE_, H', ⟨leE_⟩, ⟨farE_⟩, ⟨bk_ b.out⟩, ⟨belE_⟩⟩
        ·
         rw [if_neg ay] at H; have ab : decide (((a0.extract ((ji9) : Int).toNat a0.size).size : Int) < 2) = false := decide_eq_false ay; try (have c20e0 := ab; simp only [ByteArray.size_extract, Nat.min_self, Nat.sub_zero] at c20e0)
         have bd : decide ((a0.extract ((ji9) : Int).toNat a0.size).size < 2) = false := decide_eq_false (by omega); try (have c20e1 := bd; simp only [ByteArray.size_extract, Nat.min_self, Nat.sub_zero] at c20e1)
         try (have c20e0 := eq_true (of_decide_eq_true c20e1))
         clear ay; (first | rw [ab] | (simp only [i64_w, i32_w]; rw [ab]) | skip); by_cases aS : 0 ≤ 2
         ·
          rw [if_pos aS] at H; have cG := eq_true aS; have cH : decide (0 ≤ 2) = true := decide_eq_true aS; clear aS; by_cases aT : 2 ≤ ((a0.extract ((ji9) : Int).toNat a0.size).size : Int)
          ·
           rw [if_pos aT] at H; have cI := eq_true aT; have bR : decide (2 ≤ ((a0.extract ((ji9) : Int).toNat a0.size).size : Int)) = true := decide_eq_true aT; try (have c22e1 := bR; simp only [ByteArray.size_extract, Nat.min_self, Nat.sub_zero] at c22e1)
           try (have c22e0 := eq_true (of_decide_eq_true c22e1))
           try (have c22e8 := of_decide_eq_true c22e1; simp only [Int.ofNat_le] at c22e8)
           clear aT; have H' := Aside0.mk H; clear H; go_wp2; go_meet
           case rel => exact ⟨_, ((((a0.extract ((ji9) : Int).toNat a0.size).extract 0 2).toList != ([47, 47] : List UInt8))), (by first | rfl | (simp; done) | (simp only [← hji9] <;> (first | rfl | simp)) | (simp [*]; done)), H', ⟨leE_⟩, ⟨farE_⟩, ⟨bk_ b.out⟩, ⟨belE_⟩⟩
          · rw [if_neg aT] at H; exact absurd H (by simp)
         · rw [if_neg aS] at H; exact absurd H (by simp)
       case rest =>
        clear bm; try clear c3
        try clear ae
        try clear af
        try clear c6
        try clear ar
        try clear au
        try clear c7
        try clear av
        try clear aw
        try clear T
        try clear am
        try clear an
        try clear U
        try clear ao
        try clear ap
        try clear X
        try clear hcz19_0 hcz19_1 hcz19_2 hcz19_3 hcz19_4 hcz19_5 hcz19_6 hcz19_7 hcz19_8
        try clear hcz5_0 hcz5_1 hcz5_2 hcz5_3 hcz5_4 hcz5_5 hcz5_6 hcz5_7 hcz5_8
        try clear hfz19_0 hfz19_1 hfz19_2 hfz19_3 hfz19_4 hfz19_5 hfz19_6 hfz19_7 hfz19_8
        try clear hfz5_0 hfz5_1 hfz5_2 hfz5_3 hfz5_4 hfz5_5 hfz5_6 hfz5_7 hfz5_8
        obtain ⟨kq, b7, rfl, HA, V, a, b, HB⟩ := hcut; generalize a0.extract ((ji9) : Int).toNat a0.size = s6_ at HA ⊢; cases kq with
        | zero => exact absurd HA.out (by simp [spec_l01Parse.j0])
        | succ bn =>
         have H := HA.out; clear HA; simp only [spec_l01Parse.j0] at H; by_cases a5 : b7 = true
         · subst a5; replace H := ifT_ H; simp only [Option.some.injEq, Prod.mk.injEq] at H; obtain ⟨rfl, rfl, rfl, rfl, rfl, rfl, rfl, rfl, rfl, rfl⟩ := H; have cJ := o.out; have cK := c.out; obtain ⟨hcz25_0, hcz25_1, hcz25_2, hcz25_3, hcz25_4, hcz25_5, hcz25_6, hcz25_7, hcz25_8, hfz25_0, hfz25_1, hfz25_2, hfz25_3, hfz25_4, hfz25_5, hfz25_6, hfz25_7, hfz25_8⟩ := cz9_ a; go_wp2; refine bodyPost_ret (results_ct rfl _ _ d 32 #[.string ⟨#[]⟩, .string ⟨#[]⟩, .string ⟨#[]⟩, .int .i64 0, .string ⟨#[]⟩, .string ⟨#[]⟩, .string ⟨#[]⟩, .bool false, .bool false] (0, 0) _ rfl (bk_ a.out) Tryz.underlying32 rfl (by kernel_rfl)) rfl ?_; exact ⟨by first | rfl | (simp [errW_none, errW_some] <;> rfl) | (simp only [← hji9]; first | rfl | (simp [errW_none, errW_some] <;> rfl)) | (simp [*, errW_none, errW_some] <;> rfl), belE_⟩
         ·
          replace a5 := Bool.eq_false_iff.mpr a5; subst a5; replace H := ifF_ H; by_cases a1 : 2 ≤ (s6_.size : Int)
          ·
           rw [if_pos a1] at H; have aG := eq_true a1; have aq : decide (2 ≤ (s6_.size : Int)) = true := decide_eq_true a1; try (have c26e1 := aq; simp only [ByteArray.size_extract, Nat.min_self, Nat.sub_zero] at c26e1)
           try (have c26e0 := eq_true (of_decide_eq_true c26e1))
           try (have c26e8 := of_decide_eq_true c26e1; simp only [Int.ofNat_le] at c26e8)
           clear a1; obtain ⟨J, cl, H⟩ := bindE_ H; have bo := Aside0.mk H; clear H; go_upto_if 63 with (first | ((with_reducible refine gate_callee (f := 122) rfl ?_); generalize (s6_.extract 2 s6_.size) = s7_ at *; refine goesL_ (some 59) rfl rfl Tryz.func122 (by kernel_rfl) rfl #[.string s7_, .int .u8 35] rfl (by (try simp only [List.map_toArray, List.map_cons, List.map_nil]); first | done | (simp only [hji9]; rfl) | rfl | (simp only [List.length_drop, List.length_take]; rfl)) ?_; (with_reducible refine (spec_l01Find.calls bn s7_ 35 J _ cl.out).mono ?_); rintro e w' ⟨rfl, ⟨nd, rfl⟩⟩; refine ⟨_, rfl, ?_⟩))
           (try simp only [Act.put, List.setIfInBounds_toArray, List.set_cons_zero, List.set_cons_succ]); go_cut [6] (fun v6 wc => ∃ (kq : Nat) (D : ByteArray) (q : ByteArray) (r : Bool), v6 = .string D ∧ Aside0 (spec_l01Parse.j1 kq D g (⟨#[]⟩ : ByteArray) (⟨#[]⟩ : ByteArray) 0 (⟨#[]⟩ : ByteArray) (⟨#[]⟩ : ByteArray) q false r = some (r1, r2, r3, r4, r5, r6, r7, r8, r9, Q)) ∧ Aside0 (kq ≤ bn) ∧ Aside0 (wc.heap[d]? = some (.cells #[.string ⟨#[]⟩, .string ⟨#[]⟩, .string ⟨#[]⟩, .int .i64 0, .string ⟨#[]⟩, .string ⟨#[]⟩, .string ⟨#[]⟩, .bool false, .bool false] 32 (0, 0))) ∧ Aside0 (wc.heap[m]? = some (.cells #[.string g, .string ⟨#[]⟩, .string ⟨#[]⟩, .int .i64 0, .string ⟨#[]⟩, .string ⟨#[]⟩, .string q, .bool false, .bool r] 32 (0, 0))) ∧ Aside0 (Below w.heap.size w wc))
           case first =>
            have H := bo.out; clear bo; by_cases az : J < (s7_.size : Int)
            ·
             rw [if_pos az] at H; have ac : decide (J < (s7_.size : Int)) = true := decide_eq_true az; try (have c29e0 := ac; simp only [ByteArray.size_extract, Nat.min_self, Nat.sub_zero] at c29e0)
             clear az; (first | rw [ac] | (simp only [i64_w, i32_w]; rw [ac]) | skip); obtain ⟨ji30, hji30⟩ : ∃ j_ : Int, (wrap64 (J + 1)) = j_ := ⟨_, rfl⟩
             replace H : (if 0 ≤ (ji30) then (if (ji30) ≤ (s7_.size : Int) then (if 0 ≤ J then (if J ≤ (s7_.size : Int) then (spec_l01Parse.j1 bn (s7_.extract 0 (J : Int).toNat) g (⟨#[]⟩ : ByteArray) (⟨#[]⟩ : ByteArray) 0 (⟨#[]⟩ : ByteArray) (⟨#[]⟩ : ByteArray) (s7_.extract ((ji30) : Int).toNat s7_.size) false true) else (none)) else (none)) else (none)) else (none)) = some (r1, r2, r3, r4, r5, r6, r7, r8, r9, Q) := by first | (rw [hji30] at H; exact H) | (simp only [hji30] at H ⊢; exact H)
             have hji30w : (IntKind.i64.wrap (J + 1)) = ji30 := (i64_w _).trans hji30; by_cases aU : 0 ≤ (ji30)
             ·
              rw [if_pos aU] at H; have cL := eq_true aU; have cM : decide (0 ≤ (ji30)) = true := decide_eq_true aU; clear aU; by_cases aV : (ji30) ≤ (s7_.size : Int)
              ·
               rw [if_pos aV] at H; have cN := eq_true aV; have bS : decide ((ji30) ≤ (s7_.size : Int)) = true := decide_eq_true aV; try (have c32e1 := bS; simp only [ByteArray.size_extract, Nat.min_self, Nat.sub_zero] at c32e1)
               try (have c32e0 := eq_true (of_decide_eq_true c32e1))
               clear aV; by_cases aW : 0 ≤ J
               ·
                rw [if_pos aW] at H; have cO := eq_true aW; have cP : decide (0 ≤ J) = true := decide_eq_true aW; clear aW; by_cases aX : J ≤ (s7_.size : Int)
                ·
                 rw [if_pos aX] at H; have cQ := eq_true aX; have bT : decide (J ≤ (s7_.size : Int)) = true := decide_eq_true aX; try (have c34e1 := bT; simp only [ByteArray.size_extract, Nat.min_self, Nat.sub_zero] at c34e1)
                 try (have c34e0 := eq_true (of_decide_eq_true c34e1))
                 clear aX; have H' := Aside0.mk H; clear H; have cR := c.out; have cS := o.out; obtain ⟨hcz36_0, hcz36_1, hcz36_2, hcz36_3, hcz36_4, hcz36_5, hcz36_6, hcz36_7, hcz36_8, hfz36_0, hfz36_1, hfz36_2, hfz36_3, hfz36_4, hfz36_5, hfz36_6, hfz36_7, hfz36_8⟩ := cz9_ b; go_wp2; go_meet
                 case rel => exact ⟨_, (s7_.extract 0 (J : Int).toNat), (s7_.extract ((ji30) : Int).toNat s7_.size), (true), (by first | rfl | (simp; done) | (simp only [← hji9] <;> (first | rfl | simp)) | (simp [*]; done)), H', ⟨by have := V.out; first | omega | exact Nat.le_refl _⟩, ⟨farE_⟩, ⟨bk_ b.out⟩, ⟨belE_⟩⟩
                · rw [if_neg aX] at H; exact absurd H (by simp)
               · rw [if_neg aW] at H; exact absurd H (by simp)
              · rw [if_neg aV] at H; exact absurd H (by simp)
             · rw [if_neg aU] at H; exact absurd H (by simp)
            ·
             rw [if_neg az] at H; have ac : decide (J < (s7_.size : Int)) = false := decide_eq_false az; try (have c29e0 := ac; simp only [ByteArray.size_extract, Nat.min_self, Nat.sub_zero] at c29e0)
             clear az; (first | rw [ac] | (simp only [i64_w, i32_w]; rw [ac]) | skip); have H' := Aside0.mk H; clear H; go_wp2; go_meet
             case rel => exact ⟨_, s7_, ((⟨#[]⟩ : ByteArray)), (false), (by first | rfl | (simp; done) | (simp only [← hji9] <;> (first | rfl | simp)) | (simp [*]; done)), H', ⟨by have := V.out; first | omega | exact Nat.le_refl _⟩, ⟨blkE_⟩, ⟨blkE_⟩, ⟨belE_⟩⟩
           case rest =>
            clear bo; try clear c3
            try clear ae
            try clear af
            try clear c6
            try clear ar
            try clear au
            try clear c7
            try clear av
            try clear aw
            try clear T
            try clear am
            try clear an
            try clear U
            try clear ao
            try clear ap
            try clear X
            try clear a5
            try clear a1
            try clear aG
            try clear aq
            try clear hcz19_0 hcz19_1 hcz19_2 hcz19_3 hcz19_4 hcz19_5 hcz19_6 hcz19_7 hcz19_8
            try clear hcz25_0 hcz25_1 hcz25_2 hcz25_3 hcz25_4 hcz25_5 hcz25_6 hcz25_7 hcz25_8
            try clear hcz5_0 hcz5_1 hcz5_2 hcz5_3 hcz5_4 hcz5_5 hcz5_6 hcz5_7 hcz5_8
            try clear hfz19_0 hfz19_1 hfz19_2 hfz19_3 hfz19_4 hfz19_5 hfz19_6 hfz19_7 hfz19_8
            try clear hfz25_0 hfz25_1 hfz25_2 hfz25_3 hfz25_4 hfz25_5 hfz25_6 hfz25_7 hfz25_8
            try clear hfz5_0 hfz5_1 hfz5_2 hfz5_3 hfz5_4 hfz5_5 hfz5_6 hfz5_7 hfz5_8
            obtain ⟨kq, D, q, r, rfl, HA, a8, a, b, HB⟩ := hcut; cases kq with
            | zero => exact absurd HA.out (by simp [spec_l01Parse.j1])
            | succ bp =>
             have H := HA.out; clear HA; simp only [spec_l01Parse.j1] at H; obtain ⟨L, cm, H⟩ := bindE_ H; have bq := Aside0.mk H; clear H; go_upto_if 78 with (first | ((with_reducible refine gate_callee (f := 122) rfl ?_); refine cU_ (some 74) Tryz.func122 #[.string D, .int .u8 63] ?_; (with_reducible refine (spec_l01Find.calls bp D 63 L _ cm.out).mono ?_); rintro e w' ⟨rfl, ⟨nd, rfl⟩⟩; refine ⟨_, rfl, ?_⟩))
             (try simp only [Act.put, List.setIfInBounds_toArray, List.set_cons_zero, List.set_cons_succ]); go_cut [6] (fun v6 wc => ∃ (kq : Nat) (y : ByteArray) (s : ByteArray) (u : Bool), v6 = .string y ∧ Aside0 (spec_l01Parse.j2 kq y g (⟨#[]⟩ : ByteArray) (⟨#[]⟩ : ByteArray) 0 (⟨#[]⟩ : ByteArray) s q u r = some (r1, r2, r3, r4, r5, r6, r7, r8, r9, Q)) ∧ Aside0 (kq ≤ bp) ∧ Aside0 (wc.heap[d]? = some (.cells #[.string ⟨#[]⟩, .string ⟨#[]⟩, .string ⟨#[]⟩, .int .i64 0, .string ⟨#[]⟩, .string ⟨#[]⟩, .string ⟨#[]⟩, .bool false, .bool false] 32 (0, 0))) ∧ Aside0 (wc.heap[m]? = some (.cells #[.string g, .string ⟨#[]⟩, .string ⟨#[]⟩, .int .i64 0, .string ⟨#[]⟩, .string s, .string q, .bool u, .bool r] 32 (0, 0))) ∧ Aside0 (Below w.heap.size w wc))
             case first =>
              have H := bq.out; clear bq; by_cases aA : L < (D.size : Int)
              ·
               rw [if_pos aA] at H; have aH : decide (L < (D.size : Int)) = true := decide_eq_true aA; clear aA; (first | rw [aH] | (simp only [i64_w, i32_w]; rw [aH]) | skip); obtain ⟨ji40, hji40⟩ : ∃ j_ : Int, (wrap64 (L + 1)) = j_ := ⟨_, rfl⟩
               replace H : (if 0 ≤ (ji40) then (if (ji40) ≤ (D.size : Int) then (if 0 ≤ L then (if L ≤ (D.size : Int) then (spec_l01Parse.j2 bp (D.extract 0 (L : Int).toNat) g (⟨#[]⟩ : ByteArray) (⟨#[]⟩ : ByteArray) 0 (⟨#[]⟩ : ByteArray) (D.extract ((ji40) : Int).toNat D.size) q true r) else (none)) else (none)) else (none)) else (none)) = some (r1, r2, r3, r4, r5, r6, r7, r8, r9, Q) := by first | (rw [hji40] at H; exact H) | (simp only [hji40] at H ⊢; exact H)
               have hji40w : (IntKind.i64.wrap (L + 1)) = ji40 := (i64_w _).trans hji40; by_cases aY : 0 ≤ (ji40)
               ·
                rw [if_pos aY] at H; have cT := eq_true aY; have cU : decide (0 ≤ (ji40)) = true := decide_eq_true aY; clear aY; by_cases aZ : (ji40) ≤ (D.size : Int)
                ·
                 rw [if_pos aZ] at H; have cV := eq_true aZ; have cW : decide ((ji40) ≤ (D.size : Int)) = true := decide_eq_true aZ; clear aZ; by_cases a_ : 0 ≤ L
                 ·
                  rw [if_pos a_] at H; have cX := eq_true a_; have cY : decide (0 ≤ L) = true := decide_eq_true a_; clear a_; by_cases b0 : L ≤ (D.size : Int)
                  ·
                   rw [if_pos b0] at H; have cZ := eq_true b0; have c_ : decide (L ≤ (D.size : Int)) = true := decide_eq_true b0; clear b0; have H' := Aside0.mk H; clear H; have d0 := c.out; have d1 := o.out; obtain ⟨hcz46_0, hcz46_1, hcz46_2, hcz46_3, hcz46_4, hcz46_5, hcz46_6, hcz46_7, hcz46_8, hfz46_0, hfz46_1, hfz46_2, hfz46_3, hfz46_4, hfz46_5, hfz46_6, hfz46_7, hfz46_8⟩ := cz9_ b; go_wp2; go_meet
                   case rel => exact ⟨_, (D.extract 0 (L : Int).toNat), (D.extract ((ji40) : Int).toNat D.size), (true), eqE_, H', ⟨by have := V.out; have := a8.out; first | omega | exact Nat.le_refl _⟩, ⟨farE_⟩, ⟨bk_ b.out⟩, ⟨belE_⟩⟩
                  · rw [if_neg b0] at H; exact absurd H (by simp)
                 · rw [if_neg a_] at H; exact absurd H (by simp)
                · rw [if_neg aZ] at H; exact absurd H (by simp)
               · rw [if_neg aY] at H; exact absurd H (by simp)
              ·
               rw [if_neg aA] at H; have aH : decide (L < (D.size : Int)) = false := decide_eq_false aA; clear aA; (first | rw [aH] | (simp only [i64_w, i32_w]; rw [aH]) | skip); have H' := Aside0.mk H; clear H; go_wp2; go_meet
               case rel => exact ⟨_, (D), ((⟨#[]⟩ : ByteArray)), (false), eqE_, H', ⟨by have := V.out; have := a8.out; first | omega | exact Nat.le_refl _⟩, ⟨blkE_⟩, ⟨blkE_⟩, ⟨belE_⟩⟩
             case rest =>
              clear bq; try clear c3
              try clear ae
              try clear af
              try clear c6
              try clear ar
              try clear au
              try clear c7
              try clear av
              try clear aw
              try clear T
              try clear am
              try clear an
              try clear U
              try clear ao
              try clear ap
              try clear X
              try clear a5
              try clear a1
              try clear aG
              try clear aq
              try clear hcz19_0 hcz19_1 hcz19_2 hcz19_3 hcz19_4 hcz19_5 hcz19_6 hcz19_7 hcz19_8
              try clear hcz25_0 hcz25_1 hcz25_2 hcz25_3 hcz25_4 hcz25_5 hcz25_6 hcz25_7 hcz25_8
              try clear hcz5_0 hcz5_1 hcz5_2 hcz5_3 hcz5_4 hcz5_5 hcz5_6 hcz5_7 hcz5_8
              try clear hfz19_0 hfz19_1 hfz19_2 hfz19_3 hfz19_4 hfz19_5 hfz19_6 hfz19_7 hfz19_8
              try clear hfz25_0 hfz25_1 hfz25_2 hfz25_3 hfz25_4 hfz25_5 hfz25_6 hfz25_7 hfz25_8
              try clear hfz5_0 hfz5_1 hfz5_2 hfz5_3 hfz5_4 hfz5_5 hfz5_6 hfz5_7 hfz5_8
              obtain ⟨kq, y, s, u, rfl, HA, ax, a, b, HB⟩ := hcut; cases kq with
              | zero => exact absurd HA.out (by simp [spec_l01Parse.j2])
              | succ bF =>
               have H := HA.out; clear HA; simp only [spec_l01Parse.j2] at H; obtain ⟨E, cn, H⟩ := bindE_ H; by_cases a9 : 0 ≤ E
               ·
                rw [if_pos a9] at H; have bf := eq_true a9; have bg : decide (0 ≤ E) = true := decide_eq_true a9; clear a9; by_cases aa : E ≤ (y.size : Int)
                ·
                 rw [if_pos aa] at H; have bh := eq_true aa; have bi : decide (E ≤ (y.size : Int)) = true := decide_eq_true aa; clear aa; have br := Aside0.mk H; clear H; go_upto_if 96 with (first | ((with_reducible refine gate_callee (f := 122) rfl ?_); refine cU_ (some 89) Tryz.func122 #[.string y, .int .u8 47] ?_; (with_reducible refine (spec_l01Find.calls bF y 47 E _ cn.out).mono ?_); rintro e w' ⟨rfl, ⟨nd, rfl⟩⟩; refine ⟨_, rfl, ?_⟩; (try (rw [drewN_self wc]; generalize hq_ : World.drewN wc _ = wc; have j : Aside0 (wc.heap[d]? = some (.cells #[.string ⟨#[]⟩, .string ⟨#[]⟩, .string ⟨#[]⟩, .int .i64 0, .string ⟨#[]⟩, .string ⟨#[]⟩, .string ⟨#[]⟩, .bool false, .bool false] 32 (0, 0))) := ⟨by rw [← hq_]; exact (by (with_reducible repeat apply bd_); exact a.out)⟩; have l : Aside0 (wc.heap[m]? = some (.cells #[.string g, .string ⟨#[]⟩, .string ⟨#[]⟩, .int .i64 0, .string ⟨#[]⟩, .string s, .string q, .bool u, .bool r] 32 (0, 0))) := ⟨by rw [← hq_]; exact (by (with_reducible repeat apply bd_); exact b.out)⟩; have p : Aside0 (Below w.heap.size w wc) := ⟨by rw [← hq_]; exact belE_⟩; clear a b HB hq_; have a := j; have b := l; have HB := p; clear j l p)); have d2 := c.out; have d3 := o.out; obtain ⟨hcz52_0, hcz52_1, hcz52_2, hcz52_3, hcz52_4, hcz52_5, hcz52_6, hcz52_7, hcz52_8, hfz52_0, hfz52_1, hfz52_2, hfz52_3, hfz52_4, hfz52_5, hfz52_6, hfz52_7, hfz52_8⟩ := cz9_ b))
                 (try simp only [Act.put, List.setIfInBounds_toArray, List.set_cons_zero, List.set_cons_succ]); go_cut [] (fun wc => ∃ (kq : Nat) (x : ByteArray), Aside0 (spec_l01Parse.j3 kq E y g (⟨#[]⟩ : ByteArray) (⟨#[]⟩ : ByteArray) 0 x s q u r = some (r1, r2, r3, r4, r5, r6, r7, r8, r9, Q)) ∧ Aside0 (kq ≤ bF) ∧ Aside0 (wc.heap[d]? = some (.cells #[.string ⟨#[]⟩, .string ⟨#[]⟩, .string ⟨#[]⟩, .int .i64 0, .string ⟨#[]⟩, .string ⟨#[]⟩, .string ⟨#[]⟩, .bool false, .bool false] 32 (0, 0))) ∧ Aside0 (wc.heap[m]? = some (.cells #[.string g, .string ⟨#[]⟩, .string ⟨#[]⟩, .int .i64 0, .string x, .string s, .string q, .bool u, .bool r] 32 (0, 0))) ∧ Aside0 (Below w.heap.size w wc))
                 case first =>
                  have H := br.out; clear br; by_cases a6 : (y.extract (E : Int).toNat y.size).toList = ([] : List UInt8)
                  ·
                   rw [if_pos a6] at H; have aI : ((y.extract (E : Int).toNat y.size).toList == ([] : List UInt8)) = true := beq_iff_eq.mpr a6; have bU : ((y.extract (E : Int).toNat y.size).toList != ([] : List UInt8)) = false := bne_eq_false_iff_eq.mpr a6; (try (have bj : (y.extract (E : Int).toNat y.size).toList.isEmpty = true := by simpa using a6)); clear a6; (first | rw [aI] | rw [bj] | (simp only [i64_w, i32_w]; rw [aI]) | skip); have H' := Aside0.mk H; clear H; have d4 := c.out; have d5 := o.out; obtain ⟨hcz55_0, hcz55_1, hcz55_2, hcz55_3, hcz55_4, hcz55_5, hcz55_6, hcz55_7, hcz55_8, hfz55_0, hfz55_1, hfz55_2, hfz55_3, hfz55_4, hfz55_5, hfz55_6, hfz55_7, hfz55_8⟩ := cz9_ b; go_wp2; go_meet
                   case rel => exact ⟨_, ((⟨#[47]⟩ : ByteArray)), H', ⟨by have := V.out; have := a8.out; have := ax.out; first | omega | exact Nat.le_refl _⟩, ⟨farE_⟩, ⟨bk_ b.out⟩, ⟨belE_⟩⟩
                  ·
                   rw [if_neg a6] at H; have aI : ((y.extract (E : Int).toNat y.size).toList == ([] : List UInt8)) = false := beq_eq_false_iff_ne.mpr a6; have bU : ((y.extract (E : Int).toNat y.size).toList != ([] : List UInt8)) = true := bne_iff_ne.mpr a6; (try (have bj : (y.extract (E : Int).toNat y.size).toList.isEmpty = false := by simpa using a6)); (first | rw [aI] | rw [bj] | (simp only [i64_w, i32_w]; rw [aI]) | skip); have H' := Aside0.mk H; clear H; go_wp2; go_meet
                   case rel => exact ⟨_, (y.extract (E : Int).toNat y.size), H', ⟨by have := V.out; have := a8.out; have := ax.out; first | omega | exact Nat.le_refl _⟩, ⟨farE_⟩, ⟨bk_ b.out⟩, ⟨belE_⟩⟩
                 case rest =>
                  clear br; try clear c3
                  try clear ae
                  try clear af
                  try clear c6
                  try clear ar
                  try clear au
                  try clear c7
                  try clear av
                  try clear aw
                  try clear T
                  try clear am
                  try clear an
                  try clear U
                  try clear ao
                  try clear ap
                  try clear X
                  try clear a5
                  try clear a1
                  try clear aG
                  try clear aq
                  try clear a9
                  try clear bf
                  try clear bg
                  try clear aa
                  try clear bh
                  try clear bi
                  try clear hcz19_0 hcz19_1 hcz19_2 hcz19_3 hcz19_4 hcz19_5 hcz19_6 hcz19_7 hcz19_8
                  try clear hcz25_0 hcz25_1 hcz25_2 hcz25_3 hcz25_4 hcz25_5 hcz25_6 hcz25_7 hcz25_8
                  try clear hcz52_0 hcz52_1 hcz52_2 hcz52_3 hcz52_4 hcz52_5 hcz52_6 hcz52_7 hcz52_8
                  try clear hcz5_0 hcz5_1 hcz5_2 hcz5_3 hcz5_4 hcz5_5 hcz5_6 hcz5_7 hcz5_8
                  try clear hfz19_0 hfz19_1 hfz19_2 hfz19_3 hfz19_4 hfz19_5 hfz19_6 hfz19_7 hfz19_8
                  try clear hfz25_0 hfz25_1 hfz25_2 hfz25_3 hfz25_4 hfz25_5 hfz25_6 hfz25_7 hfz25_8
                  try clear hfz52_0 hfz52_1 hfz52_2 hfz52_3 hfz52_4 hfz52_5 hfz52_6 hfz52_7 hfz52_8
                  try clear hfz5_0 hfz5_1 hfz5_2 hfz5_3 hfz5_4 hfz5_5 hfz5_6 hfz5_7 hfz5_8
                  obtain ⟨kq, x, HA, b9, a, b, HB⟩ := hcut; cases kq with
                  | zero => exact absurd HA.out (by simp [spec_l01Parse.j3])
                  | succ bs =>
                   have H := HA.out; clear HA; simp only [spec_l01Parse.j3] at H; by_cases ai : 0 ≤ E
                   ·
                    rw [if_pos ai] at H; have bA := eq_true ai; have bB : decide (0 ≤ E) = true := decide_eq_true ai; clear ai; by_cases aj : E ≤ (y.size : Int)
                    ·
                     rw [if_pos aj] at H; have bC := eq_true aj; have bD : decide (E ≤ (y.size : Int)) = true := decide_eq_true aj; clear aj; obtain ⟨O, co, H⟩ := bindE_ H; have bt := Aside0.mk H; clear H; go_upto_if 106 with (first | ((with_reducible refine gate_callee (f := 122) rfl ?_); generalize (y.extract 0 (E : Int).toNat) = s8_ at *; refine cU_ (some 102) Tryz.func122 #[.string s8_, .int .u8 64] ?_; (with_reducible refine (spec_l01Find.calls bs s8_ 64 O _ co.out).mono ?_); rintro e w' ⟨rfl, ⟨nd, rfl⟩⟩; refine ⟨_, rfl, ?_⟩))
                     (try simp only [Act.put, List.setIfInBounds_toArray, List.set_cons_zero, List.set_cons_succ]); go_cut [6] (fun v6 wc => ∃ (kq : Nat) (A : ByteArray) (z : ByteArray), v6 = .string A ∧ Aside0 (spec_l01Parse.j4 kq A g z (⟨#[]⟩ : ByteArray) 0 x s q u r = some (r1, r2, r3, r4, r5, r6, r7, r8, r9, Q)) ∧ Aside0 (kq ≤ bs) ∧ Aside0 (wc.heap[d]? = some (.cells #[.string ⟨#[]⟩, .string ⟨#[]⟩, .string ⟨#[]⟩, .int .i64 0, .string ⟨#[]⟩, .string ⟨#[]⟩, .string ⟨#[]⟩, .bool false, .bool false] 32 (0, 0))) ∧ Aside0 (wc.heap[m]? = some (.cells #[.string g, .string z, .string ⟨#[]⟩, .int .i64 0, .string x, .string s, .string q, .bool u, .bool r] 32 (0, 0))) ∧ Aside0 (Below w.heap.size w wc))
                     case first =>
                      have H := bt.out; clear bt; by_cases aB : O < (s8_.size : Int)
                      ·
                       rw [if_pos aB] at H; have ad : decide (O < (s8_.size : Int)) = true := decide_eq_true aB; try (have c60e0 := ad; simp only [ByteArray.size_extract, Nat.min_self, Nat.sub_zero] at c60e0)
                       clear aB; (first | rw [ad] | (simp only [i64_w, i32_w]; rw [ad]) | skip); by_cases b1 : 0 ≤ O
                       ·
                        rw [if_pos b1] at H; have d6 := eq_true b1; have d7 : decide (0 ≤ O) = true := decide_eq_true b1; clear b1; by_cases b2 : O ≤ (s8_.size : Int)
                        ·
                         rw [if_pos b2] at H; have d8 := eq_true b2; have bV : decide (O ≤ (s8_.size : Int)) = true := decide_eq_true b2; try (have c62e1 := bV; simp only [ByteArray.size_extract, Nat.min_self, Nat.sub_zero] at c62e1)
                         try (have c62e0 := eq_true (of_decide_eq_true c62e1))
                         try (have c62e9 : (max E 0 < O) = False := eq_false (by have q_ := of_decide_eq_true c62e1; omega))
                         clear b2; obtain ⟨ji63, hji63⟩ : ∃ j_ : Int, (wrap64 (O + 1)) = j_ := ⟨_, rfl⟩
                         replace H : (if 0 ≤ (ji63) then (if (ji63) ≤ (s8_.size : Int) then (spec_l01Parse.j4 bs (s8_.extract ((ji63) : Int).toNat s8_.size) g (s8_.extract 0 (O : Int).toNat) (⟨#[]⟩ : ByteArray) 0 x s q u r) else (none)) else (none)) = some (r1, r2, r3, r4, r5, r6, r7, r8, r9, Q) := by first | (rw [hji63] at H; exact H) | (simp only [hji63] at H ⊢; exact H)
                         have hji63w : (IntKind.i64.wrap (O + 1)) = ji63 := (i64_w _).trans hji63; by_cases b3 : 0 ≤ (ji63)
                         ·
                          rw [if_pos b3] at H; have d9 := eq_true b3; have da : decide (0 ≤ (ji63)) = true := decide_eq_true b3; clear b3; by_cases b4 : (ji63) ≤ (s8_.size : Int)
                          ·
                           rw [if_pos b4] at H; have db := eq_true b4; have bW : decide ((ji63) ≤ (s8_.size : Int)) = true := decide_eq_true b4; try (have c65e1 := bW; simp only [ByteArray.size_extract, Nat.min_self, Nat.sub_zero] at c65e1)
                           try (have c65e0 := eq_true (of_decide_eq_true c65e1))
                           clear b4; have H' := Aside0.mk H; clear H; have dc := c.out; have dd := o.out; obtain ⟨hcz67_0, hcz67_1, hcz67_2, hcz67_3, hcz67_4, hcz67_5, hcz67_6, hcz67_7, hcz67_8, hfz67_0, hfz67_1, hfz67_2, hfz67_3, hfz67_4, hfz67_5, hfz67_6, hfz67_7, hfz67_8⟩ := cz9_ b; go_wp2; go_meet
                           case rel => exact ⟨_, (s8_.extract ((ji63) : Int).toNat s8_.size), (s8_.extract 0 (O : Int).toNat), (by first | rfl | (simp; done) | (simp only [← hji63] <;> (first | rfl | simp)) | (simp [*]; done)), H', ⟨by have := V.out; have := a8.out; have := ax.out; have := b9.out; first | omega | exact Nat.le_refl _⟩, ⟨farE_⟩, ⟨bk_ b.out⟩, ⟨belE_⟩⟩
                          · rw [if_neg b4] at H; exact absurd H (by simp)
                         · rw [if_neg b3] at H; exact absurd H (by simp)
                        · rw [if_neg b2] at H; exact absurd H (by simp)
                       · rw [if_neg b1] at H; exact absurd H (by simp)
                      ·
                       rw [if_neg aB] at H; have ad : decide (O < (s8_.size : Int)) = false := decide_eq_false aB; try (have c60e0 := ad; simp only [ByteArray.size_extract, Nat.min_self, Nat.sub_zero] at c60e0)
                       clear aB; (first | rw [ad] | (simp only [i64_w, i32_w]; rw [ad]) | skip); have H' := Aside0.mk H; clear H; go_wp2; go_meet
                       case rel => exact ⟨_, s8_, ((⟨#[]⟩ : ByteArray)), eqE_, H', ⟨by have := V.out; have := a8.out; have := ax.out; have := b9.out; first | omega | exact Nat.le_refl _⟩, ⟨blkE_⟩, ⟨blkE_⟩, ⟨belE_⟩⟩
                     case rest =>
                      clear bt; try clear c3
                      try clear ae
                      try clear af
                      try clear c6
                      try clear ar
                      try clear au
                      try clear c7
                      try clear av
                      try clear aw
                      try clear T
                      try clear am
                      try clear an
                      try clear U
                      try clear ao
                      try clear ap
                      try clear X
                      try clear a5
                      try clear a1
                      try clear aG
                      try clear aq
                      try clear a9
                      try clear bf
                      try clear bg
                      try clear aa
                      try clear bh
                      try clear bi
                      try clear ai
                      try clear bA
                      try clear bB
                      try clear aj
                      try clear bC
                      try clear bD
                      try clear hcz19_0 hcz19_1 hcz19_2 hcz19_3 hcz19_4 hcz19_5 hcz19_6 hcz19_7 hcz19_8
                      try clear hcz25_0 hcz25_1 hcz25_2 hcz25_3 hcz25_4 hcz25_5 hcz25_6 hcz25_7 hcz25_8
                      try clear hcz52_0 hcz52_1 hcz52_2 hcz52_3 hcz52_4 hcz52_5 hcz52_6 hcz52_7 hcz52_8
                      try clear hcz5_0 hcz5_1 hcz5_2 hcz5_3 hcz5_4 hcz5_5 hcz5_6 hcz5_7 hcz5_8
                      try clear hfz19_0 hfz19_1 hfz19_2 hfz19_3 hfz19_4 hfz19_5 hfz19_6 hfz19_7 hfz19_8
                      try clear hfz25_0 hfz25_1 hfz25_2 hfz25_3 hfz25_4 hfz25_5 hfz25_6 hfz25_7 hfz25_8
                      try clear hfz52_0 hfz52_1 hfz52_2 hfz52_3 hfz52_4 hfz52_5 hfz52_6 hfz52_7 hfz52_8
                      try clear hfz5_0 hfz5_1 hfz5_2 hfz5_3 hfz5_4 hfz5_5 hfz5_6 hfz5_7 hfz5_8
                      obtain ⟨kq, A, z, rfl, HA, bG, a, b, HB⟩ := hcut; cases kq with
                      | zero => exact absurd HA.out (by simp [spec_l01Parse.j4])
                      | succ W =>
                       have H := HA.out; clear HA; simp only [spec_l01Parse.j4] at H; obtain ⟨I, bv, H⟩ := bindE_ H; by_cases aC : 0 ≤ I
                       ·
                        rw [if_pos aC] at H; have bX := eq_true aC; have bY : decide (0 ≤ I) = true := decide_eq_true aC; clear aC; by_cases aD : I ≤ (A.size : Int)
                        ·
                         rw [if_pos aD] at H; have bZ := eq_true aD; have b_ : decide (I ≤ (A.size : Int)) = true := decide_eq_true aD; clear aD; obtain ⟨C, bw, H⟩ := bindE_ H; by_cases ak : I < (A.size : Int)
                         ·
                          rw [if_pos ak] at H; have bE : decide (I < (A.size : Int)) = true := decide_eq_true ak; clear ak; obtain ⟨ji73, hji73⟩ : ∃ j_ : Int, (wrap64 (I + 1)) = j_ := ⟨_, rfl⟩
                          replace H : (if 0 ≤ (ji73) then (if (ji73) ≤ (A.size : Int) then ((spec_l00Number.f W (A.extract ((ji73) : Int).toNat A.size)).bind fun b8 => (if b8.2 = true then ((spec_l01In.f b8.1 1 65535).bind fun ba => (spec_l01Parse.j5 W b8.1 (!ba) g z C 0 x s q u r)) else (spec_l01Parse.j5 W b8.1 true g z C 0 x s q u r))) else (none)) else (none)) = some (r1, r2, r3, r4, r5, r6, r7, r8, r9, Q) := by first | (rw [hji73] at H; exact H) | (simp only [hji73] at H ⊢; exact H)
                          (try rw [hji73] at bv); (try rw [hji73] at bw); have hji73w : (IntKind.i64.wrap (I + 1)) = ji73 := (i64_w _).trans hji73; by_cases aE : 0 ≤ (ji73)
                          ·
                           rw [if_pos aE] at H; have c0 := eq_true aE; have c1 : decide (0 ≤ (ji73)) = true := decide_eq_true aE; clear aE; by_cases aF : (ji73) ≤ (A.size : Int)
                           ·
                            rw [if_pos aF] at H; have c2 := eq_true aF; have c4 : decide ((ji73) ≤ (A.size : Int)) = true := decide_eq_true aF; clear aF; replace H := Option.bind_eq_some_iff.mp H; obtain ⟨⟨P, bH⟩, bI, H⟩ := H; dsimp only at H; have cp := Aside0.mk bI; clear bI; have bu := Aside0.mk H; clear H; go_upto_region 38 with (first | ((with_reducible refine gate_callee (f := 122) rfl ?_); refine cU_ (some 116) Tryz.func122 #[.string A, .int .u8 58] ?_; (with_reducible refine (spec_l01Find.calls W A 58 I _ bv.out).mono ?_); rintro e w' ⟨rfl, ⟨nd, rfl⟩⟩; refine ⟨_, rfl, ?_⟩; (try (rw [drewN_self wc]; generalize hq_ : World.drewN wc _ = wc; have j : Aside0 (wc.heap[d]? = some (.cells #[.string ⟨#[]⟩, .string ⟨#[]⟩, .string ⟨#[]⟩, .int .i64 0, .string ⟨#[]⟩, .string ⟨#[]⟩, .string ⟨#[]⟩, .bool false, .bool false] 32 (0, 0))) := ⟨by rw [← hq_]; exact (by (with_reducible repeat apply bd_); exact a.out)⟩; have l : Aside0 (wc.heap[m]? = some (.cells #[.string g, .string z, .string ⟨#[]⟩, .int .i64 0, .string x, .string s, .string q, .bool u, .bool r] 32 (0, 0))) := ⟨by rw [← hq_]; exact (by (with_reducible repeat apply bd_); exact b.out)⟩; have p : Aside0 (Below w.heap.size w wc) := ⟨by rw [← hq_]; exact belE_⟩; clear a b HB hq_; have a := j; have b := l; have HB := p; clear j l p))) | ((with_reducible refine gate_callee (f := 123) rfl ?_); refine cU_ (some 120) Tryz.func123 #[.string (A.extract 0 (I : Int).toNat)] ?_; (with_reducible refine (spec_l01Lower.calls W (A.extract 0 (I : Int).toNat) C _ bw.out).mono ?_); rintro e e4 ⟨rfl, hb⟩; refine ⟨_, rfl, ?_⟩; have j := blkX_ a hb; have l := blkX_ b hb; have p := Aside0.mk (below_step belE_ hb); clear a; clear b; clear HB; have a := j; have b := l; have HB := p; clear j l p; (try clear hb); (try clear b5); (try clear hk); (try clear hi); have de := c.out; have df := o.out; obtain ⟨hcz80_0, hcz80_1, hcz80_2, hcz80_3, hcz80_4, hcz80_5, hcz80_6, hcz80_7, hcz80_8, hfz80_0, hfz80_1, hfz80_2, hfz80_3, hfz80_4, hfz80_5, hfz80_6, hfz80_7, hfz80_8⟩ := cz9_ b) | ((with_reducible refine gate_callee (f := 124) rfl ?_); refine goesL_ (some 131) rfl rfl Tryz.func124 (by kernel_rfl) rfl #[.string (A.extract ((ji73) : Int).toNat A.size)] rfl (by (try simp only [List.map_toArray, List.map_cons, List.map_nil]); first | done | (simp only [hji73]; rfl) | rfl | (simp only [List.length_drop, List.length_take]; rfl)) ?_; (with_reducible refine (spec_l00Number.calls W (A.extract ((ji73) : Int).toNat A.size) P bH _ cp.out).mono ?_); rintro e w' ⟨rfl, ⟨nd, rfl⟩⟩; refine ⟨_, rfl, ?_⟩))
                            (try simp only [Act.put, List.setIfInBounds_toArray, List.set_cons_zero, List.set_cons_succ]); go_cut [140] (fun c9 wc => ∃ (kq : Nat) (b6 : Bool), c9 = .bool b6 ∧ Aside0 (spec_l01Parse.j5 kq P b6 g z C 0 x s q u r = some (r1, r2, r3, r4, r5, r6, r7, r8, r9, Q)) ∧ Aside0 (kq ≤ W) ∧ Aside0 (wc.heap[d]? = some (.cells #[.string ⟨#[]⟩, .string ⟨#[]⟩, .string ⟨#[]⟩, .int .i64 0, .string ⟨#[]⟩, .string ⟨#[]⟩, .string ⟨#[]⟩, .bool false, .bool false] 32 (0, 0))) ∧ Aside0 (wc.heap[m]? = some (.cells #[.string g, .string z, .string C, .int .i64 0, .string x, .string s, .string q, .bool u, .bool r] 32 (0, 0))) ∧ Aside0 (Below w.heap.size w wc))
                            case first =>
                             have H := bu.out; clear bu; by_cases bb : bH = true
                             ·
                              subst bb; replace H := ifT_ H; obtain ⟨ba, cq, H⟩ := bindE_ H; have H' := Aside0.mk H; clear H; go_wp2_with (first | (go_at_call 97; (with_reducible refine (spec_l01In.calls P 1 65535 ba _ cq.out).mono ?_); rintro e w' ⟨rfl, ⟨nd, rfl⟩⟩)); go_meet
                              case rel => exact ⟨_, (!ba), eqE_, H', ⟨by have := V.out; have := a8.out; have := ax.out; have := b9.out; have := bG.out; first | omega | exact Nat.le_refl _⟩, ⟨farE_⟩, ⟨bk_ b.out⟩, ⟨belE_⟩⟩
                             ·
                              replace bb := Bool.eq_false_iff.mpr bb; subst bb; replace H := ifF_ H; have H' := Aside0.mk H; clear H; go_wp2; go_meet
                              case rel => exact ⟨_, (true), eqE_, H', ⟨by have := V.out; have := a8.out; have := ax.out; have := b9.out; have := bG.out; first | omega | exact Nat.le_refl _⟩, ⟨farE_⟩, ⟨bk_ b.out⟩, ⟨belE_⟩⟩
                            case rest =>
                             clear bu; try clear c3
                             try clear ae
                             try clear af
                             try clear c6
                             try clear ar
                             try clear au
                             try clear c7
                             try clear av
                             try clear aw
                             try clear T
                             try clear am
                             try clear an
                             try clear U
                             try clear ao
                             try clear ap
                             try clear X
                             try clear a5
                             try clear a1
                             try clear aG
                             try clear aq
                             try clear a9
                             try clear bf
                             try clear bg
                             try clear aa
                             try clear bh
                             try clear bi
                             try clear ai
                             try clear bA
                             try clear bB
                             try clear aj
                             try clear bC
                             try clear bD
                             try clear aC
                             try clear bX
                             try clear bY
                             try clear aD
                             try clear bZ
                             try clear b_
                             try clear ak
                             try clear bE
                             try clear aE
                             try clear c0
                             try clear c1
                             try clear aF
                             try clear c2
                             try clear c4
                             try clear hcz19_0 hcz19_1 hcz19_2 hcz19_3 hcz19_4 hcz19_5 hcz19_6 hcz19_7 hcz19_8
                             try clear hcz25_0 hcz25_1 hcz25_2 hcz25_3 hcz25_4 hcz25_5 hcz25_6 hcz25_7 hcz25_8
                             try clear hcz52_0 hcz52_1 hcz52_2 hcz52_3 hcz52_4 hcz52_5 hcz52_6 hcz52_7 hcz52_8
                             try clear hcz5_0 hcz5_1 hcz5_2 hcz5_3 hcz5_4 hcz5_5 hcz5_6 hcz5_7 hcz5_8
                             try clear hcz80_0 hcz80_1 hcz80_2 hcz80_3 hcz80_4 hcz80_5 hcz80_6 hcz80_7 hcz80_8
                             try clear hfz19_0 hfz19_1 hfz19_2 hfz19_3 hfz19_4 hfz19_5 hfz19_6 hfz19_7 hfz19_8
                             try clear hfz25_0 hfz25_1 hfz25_2 hfz25_3 hfz25_4 hfz25_5 hfz25_6 hfz25_7 hfz25_8
                             try clear hfz52_0 hfz52_1 hfz52_2 hfz52_3 hfz52_4 hfz52_5 hfz52_6 hfz52_7 hfz52_8
                             try clear hfz5_0 hfz5_1 hfz5_2 hfz5_3 hfz5_4 hfz5_5 hfz5_6 hfz5_7 hfz5_8
                             try clear hfz80_0 hfz80_1 hfz80_2 hfz80_3 hfz80_4 hfz80_5 hfz80_6 hfz80_7 hfz80_8
                             obtain ⟨kq, b6, rfl, HA, dP, a, b, HB⟩ := hcut; cases kq with
                             | zero => exact absurd HA.out (by simp [spec_l01Parse.j5])
                             | succ bJ =>
                              have H := HA.out; clear HA; simp only [spec_l01Parse.j5] at H; by_cases bc : b6 = true
                              · subst bc; replace H := ifT_ H; simp only [Option.some.injEq, Prod.mk.injEq] at H; obtain ⟨rfl, rfl, rfl, rfl, rfl, rfl, rfl, rfl, rfl, rfl⟩ := H; have dg := o.out; have dh := c.out; obtain ⟨hcz85_0, hcz85_1, hcz85_2, hcz85_3, hcz85_4, hcz85_5, hcz85_6, hcz85_7, hcz85_8, hfz85_0, hfz85_1, hfz85_2, hfz85_3, hfz85_4, hfz85_5, hfz85_6, hfz85_7, hfz85_8⟩ := cz9_ a; go_wp2; refine bodyPost_ret (results_ct rfl _ _ d 32 #[.string ⟨#[]⟩, .string ⟨#[]⟩, .string ⟨#[]⟩, .int .i64 0, .string ⟨#[]⟩, .string ⟨#[]⟩, .string ⟨#[]⟩, .bool false, .bool false] (0, 0) _ rfl (bk_ a.out) Tryz.underlying32 rfl (by kernel_rfl)) rfl ?_; exact ⟨by first | rfl | (simp [errW_none, errW_some] <;> rfl) | (simp only [← hji9, ← hji73]; first | rfl | (simp [errW_none, errW_some] <;> rfl)) | (simp [*, errW_none, errW_some] <;> rfl), belE_⟩
                              ·
                               replace bc := Bool.eq_false_iff.mpr bc; subst bc; replace H := ifF_ H; obtain ⟨ag, bL, H⟩ := bindE_ H; by_cases al : P = ag
                               ·
                                rw [if_pos al] at H; have c5 : (P == ag) = true := beq_iff_eq.mpr al; have c8 : (P != ag) = false := bne_eq_false_iff_eq.mpr al; clear al; obtain ⟨ca, cr, H⟩ := bindE_ H; simp only [Option.some.injEq, Prod.mk.injEq] at H; obtain ⟨rfl, rfl, rfl, rfl, rfl, rfl, rfl, rfl, rfl, rfl⟩ := H; have di := c.out; have dj := o.out; obtain ⟨hcz90_0, hcz90_1, hcz90_2, hcz90_3, hcz90_4, hcz90_5, hcz90_6, hcz90_7, hcz90_8, hfz90_0, hfz90_1, hfz90_2, hfz90_3, hfz90_4, hfz90_5, hfz90_6, hfz90_7, hfz90_8⟩ := cz9_ b; try go_wp2_with (first | ((with_reducible refine gate_callee (f := 105) rfl ?_); refine cU_ (some 145) Tryz.func105 #[.string g] ?_; (with_reducible refine (spec_l01Usual.calls g ag _ bL.out).mono ?_); rintro e w' ⟨rfl, ⟨nd, rfl⟩⟩; refine ⟨_, rfl, ?_⟩; (try (rw [drewN_self wc]; generalize hq_ : World.drewN wc _ = wc; have j : Aside0 (wc.heap[d]? = some (.cells #[.string ⟨#[]⟩, .string ⟨#[]⟩, .string ⟨#[]⟩, .int .i64 0, .string ⟨#[]⟩, .string ⟨#[]⟩, .string ⟨#[]⟩, .bool false, .bool false] 32 (0, 0))) := ⟨by rw [← hq_]; exact (by (with_reducible repeat apply bd_); exact a.out)⟩; have l : Aside0 (wc.heap[m]? = some (.cells #[.string g, .string z, .string C, .int .i64 0, .string x, .string s, .string q, .bool u, .bool r] 32 (0, 0))) := ⟨by rw [← hq_]; exact (by (with_reducible repeat apply bd_); exact b.out)⟩; have p : Aside0 (Below w.heap.size w wc) := ⟨by rw [← hq_]; exact belE_⟩; clear a b HB hq_; have a := j; have b := l; have HB := p; clear j l p; obtain ⟨hcz90_0, hcz90_1, hcz90_2, hcz90_3, hcz90_4, hcz90_5, hcz90_6, hcz90_7, hcz90_8, hfz90_0, hfz90_1, hfz90_2, hfz90_3, hfz90_4, hfz90_5, hfz90_6, hfz90_7, hfz90_8⟩ := cz9_ b))))
                                replace a := Aside0.mk (blk_drew a.out); replace b := Aside0.mk (blk_drew b.out); replace HB := Aside0.mk (below_drew1 HB.out); refine start_ (n := 5) (S := fun w' => w'.cell? ⟨m, 0, none⟩ = some (.string g) ∧ w'.cell? ⟨m, 1, none⟩ = some (.string z) ∧ w'.cell? ⟨m, 2, none⟩ = some (.string C) ∧ w'.cell? ⟨m, 3, none⟩ = some (.int .i64 0) ∧ w'.cell? ⟨m, 4, none⟩ = some (.string x) ∧ w'.cell? ⟨m, 5, none⟩ = some (.string s) ∧ w'.cell? ⟨m, 6, none⟩ = some (.string q) ∧ w'.cell? ⟨m, 7, none⟩ = some (.bool u) ∧ w'.cell? ⟨m, 8, none⟩ = some (.bool r)) (ds := []) #[Z, Z, Z, Z, Z] (by kernel_rfl) rfl rfl (held9_ b.out) (fun hHeld => ?_); generalize wc.drew = e5 at a b HB hHeld ⊢; refine take_ (i := 0) (N := some 149) (v := ?_) (a' := ?_) #[Y, Z, Z, Z, Z] rfl rfl (by kernel_rfl) (fun _ _ _ h => h) (Or.inl ⟨by rfl, ?_⟩) hHeld ?_ ?_; rotate_left
                                · rintro w' ⟨s0, s1, s2, s3, s4, s5, s6, s7, s8⟩; go_simp; with_reducible rfl
                                rotate_left
                                · simp only [Act.put, List.setIfInBounds_toArray, List.set_cons_zero, List.set_cons_succ, i64_w, i32_w]; rfl
                                refine take_ (i := 1) (N := some 150) (v := ?_) (a' := ?_) #[Y, Y, Z, Z, Z] rfl rfl (by kernel_rfl) (fun _ _ _ h => h) (Or.inl ⟨by rfl, ?_⟩) hHeld ?_ ?_; rotate_left
                                · rintro w' ⟨s0, s1, s2, s3, s4, s5, s6, s7, s8⟩; go_simp; with_reducible rfl
                                rotate_left
                                · simp only [Act.put, List.setIfInBounds_toArray, List.set_cons_zero, List.set_cons_succ, i64_w, i32_w]; rfl
                                refine one_ (i := 2) (N := some 151) #[Y, Y, Y, Z, Z] rfl rfl (by kernel_rfl) (by decide) (fun K hK => ?_); refine goes_ Tryz.func53 (by kernel_rfl) rfl #[.agg #[.string g, .string z, .string C, .int .i64 0, .string x, .string s, .string q, .bool u, .bool r]] (by rfl) rfl rfl (by (try simp only [List.map_toArray, List.map_cons, List.map_nil]); first | done | rfl | (simp only [List.length_drop, List.length_take]; rfl)) ?_; with_reducible refine (spec_l01OK.calls bJ g z C 0 x s q u r ca _ cr.out).mono ?_
                                rintro e a7 ⟨rfl, hb⟩; refine ⟨_, rfl, ?_⟩; replace a := blkX_ a hb; replace b := blkX_ b hb; replace HB := Aside0.mk (below_step belE_ hb); (try clear hb); (try clear b5); (try clear hk); (try clear hi); refine hK.out _ _ (held9_ b.out) (fun hHeld => ?_); clear hK K; refine norm_ (a' := ?_) ?_ ?_; rotate_left
                                · show Act.put _ (some 151) _ = _; simp only [Act.put, List.setIfInBounds_toArray, List.set_cons_zero, List.set_cons_succ, i64_w, i32_w]; rfl
                                refine one_ (i := 3) (N := none) #[Y, Y, Y, Y, Z] rfl rfl (by kernel_rfl) (by decide) (fun K hK => ?_); have dQ : a7.cell? ⟨d, 0, none⟩ = some (.string ⟨#[]⟩) := (blk_cell a.out 0).trans rfl; have hfs93 := blk_frozen a.out 0; have hns93_1 := c.out; have hms93_1 := o.out; have dR : a7.cell? ⟨d, 1, none⟩ = some (.string ⟨#[]⟩) := (blk_cell a.out 1).trans rfl; have hfs94 := blk_frozen a.out 1; have hns94_1 := c.out; have hms94_1 := o.out; have dS : a7.cell? ⟨d, 2, none⟩ = some (.string ⟨#[]⟩) := (blk_cell a.out 2).trans rfl; have hfs95 := blk_frozen a.out 2; have hns95_1 := c.out; have hms95_1 := o.out; have dT : a7.cell? ⟨d, 3, none⟩ = some (.int .i64 0) := (blk_cell a.out 3).trans rfl; have hfs96 := blk_frozen a.out 3; have hns96_1 := c.out; have hms96_1 := o.out; have dU : a7.cell? ⟨d, 4, none⟩ = some (.string ⟨#[]⟩) := (blk_cell a.out 4).trans rfl; have hfs97 := blk_frozen a.out 4; have hns97_1 := c.out; have hms97_1 := o.out; have dV : a7.cell? ⟨d, 5, none⟩ = some (.string ⟨#[]⟩) := (blk_cell a.out 5).trans rfl; have hfs98 := blk_frozen a.out 5; have hns98_1 := c.out; have hms98_1 := o.out; have dW : a7.cell? ⟨d, 6, none⟩ = some (.string ⟨#[]⟩) := (blk_cell a.out 6).trans rfl; have hfs99 := blk_frozen a.out 6; have hns99_1 := c.out; have hms99_1 := o.out; have dk : a7.cell? ⟨d, 7, none⟩ = some (.bool false) := (blk_cell a.out 7).trans rfl; have hfs100 := blk_frozen a.out 7; have hns100_1 := c.out; have hms100_1 := o.out; have dl : a7.cell? ⟨d, 8, none⟩ = some (.bool false) := (blk_cell a.out 8).trans rfl; have hfs101 := blk_frozen a.out 8; have hns101_1 := c.out; have hms101_1 := o.out; refine skip_ (w1 := ?_) (by rfl) rfl ?_ ?_; rotate_left
                                · go_simp; rfl
                                refine hK.out _ _ ⟨(f9_ c hHeld.1), (f9_ c hHeld.2.1), (f9_ c hHeld.2.2.1), (f9_ c hHeld.2.2.2.1), (f9_ c hHeld.2.2.2.2.1), (f9_ c hHeld.2.2.2.2.2.1), (f9_ c hHeld.2.2.2.2.2.2.1), (f9_ c hHeld.2.2.2.2.2.2.2.1), (f9_ c hHeld.2.2.2.2.2.2.2.2)⟩ (fun hHeld => ?_); clear hK K; refine pure_ (i := 4) (N := some 3) (v := ?_) (a' := ?_) #[Y, Y, Y, Y, Y] rfl rfl (by kernel_rfl) (fun _ _ _ h => h) (Or.inl ⟨by rfl, ?_⟩) ?_ ?_; rotate_left
                                · intro w'; go_simp; with_reducible rfl
                                rotate_left
                                · simp only [Act.put, List.setIfInBounds_toArray, List.set_cons_zero, List.set_cons_succ, i64_w, i32_w]; rfl
                                refine done_ (by kernel_rfl) ?_; try go_wp2
                                refine bodyPost_ret (results_ct rfl _ _ d 32 #[.string g, .string z, .string C, .int .i64 0, .string x, .string s, .string q, .bool u, .bool r] (0, 0) _ rfl (bk_ a.out) Tryz.underlying32 rfl (by kernel_rfl)) rfl ?_; exact ⟨by first | rfl | (simp [errW_none, errW_some] <;> rfl) | (simp only [← hji9, ← hji73]; first | rfl | (simp [errW_none, errW_some] <;> rfl)) | (simp [*, errW_none, errW_some] <;> rfl), belE_⟩
                               ·
                                rw [if_neg al] at H; have c5 : (P == ag) = false := beq_eq_false_iff_ne.mpr al; have c8 : (P != ag) = true := bne_iff_ne.mpr al; obtain ⟨cb, cc, H⟩ := bindE_ H; simp only [Option.some.injEq, Prod.mk.injEq] at H; obtain ⟨rfl, rfl, rfl, rfl, rfl, rfl, rfl, rfl, rfl, rfl⟩ := H; have ct := c.out; have cu := o.out; obtain ⟨hcz104_0, hcz104_1, hcz104_2, hcz104_3, hcz104_4, hcz104_5, hcz104_6, hcz104_7, hcz104_8, hfz104_0, hfz104_1, hfz104_2, hfz104_3, hfz104_4, hfz104_5, hfz104_6, hfz104_7, hfz104_8⟩ := cz9_ b; try go_wp2_with (first | ((with_reducible refine gate_callee (f := 105) rfl ?_); refine cU_ (some 145) Tryz.func105 #[.string g] ?_; (with_reducible refine (spec_l01Usual.calls g ag _ bL.out).mono ?_); rintro e w' ⟨rfl, ⟨nd, rfl⟩⟩; refine ⟨_, rfl, ?_⟩; (try (rw [drewN_self wc]; generalize hq_ : World.drewN wc _ = wc; have j : Aside0 (wc.heap[d]? = some (.cells #[.string ⟨#[]⟩, .string ⟨#[]⟩, .string ⟨#[]⟩, .int .i64 0, .string ⟨#[]⟩, .string ⟨#[]⟩, .string ⟨#[]⟩, .bool false, .bool false] 32 (0, 0))) := ⟨by rw [← hq_]; exact (by (with_reducible repeat apply bd_); exact a.out)⟩; have l : Aside0 (wc.heap[m]? = some (.cells #[.string g, .string z, .string C, .int .i64 0, .string x, .string s, .string q, .bool u, .bool r] 32 (0, 0))) := ⟨by rw [← hq_]; exact (by (with_reducible repeat apply bd_); exact b.out)⟩; have p : Aside0 (Below w.heap.size w wc) := ⟨by rw [← hq_]; exact belE_⟩; clear a b HB hq_; have a := j; have b := l; have HB := p; clear j l p; obtain ⟨hcz104_0, hcz104_1, hcz104_2, hcz104_3, hcz104_4, hcz104_5, hcz104_6, hcz104_7, hcz104_8, hfz104_0, hfz104_1, hfz104_2, hfz104_3, hfz104_4, hfz104_5, hfz104_6, hfz104_7, hfz104_8⟩ := cz9_ b))))
                                refine worldR_ (R := fun W_ => Aside0 (W_.heap[d]? = some (.cells #[.string ⟨#[]⟩, .string ⟨#[]⟩, .string ⟨#[]⟩, .int .i64 0, .string ⟨#[]⟩, .string ⟨#[]⟩, .string ⟨#[]⟩, .bool false, .bool false] 32 (0, 0))) ∧ Aside0 (W_.heap[m]? = some (.cells #[.string g, .string z, .string C, .int .i64 P, .string x, .string s, .string q, .bool u, .bool r] 32 (0, 0))) ∧ Aside0 (Below w.heap.size w W_)) ⟨⟨farE_⟩, ⟨bk_ b.out⟩, ⟨belE_⟩⟩ ?_; (try clear a); (try clear b); (try clear HB); rintro cd ⟨j, l, p⟩; have a := j; have b := l; have HB := p; clear j l p; replace a := Aside0.mk (blk_drew a.out); replace b := Aside0.mk (blk_drew b.out); replace HB := Aside0.mk (below_drew1 HB.out); refine start_ (n := 5) (S := fun w' => w'.cell? ⟨m, 0, none⟩ = some (.string g) ∧ w'.cell? ⟨m, 1, none⟩ = some (.string z) ∧ w'.cell? ⟨m, 2, none⟩ = some (.string C) ∧ w'.cell? ⟨m, 3, none⟩ = some (.int .i64 P) ∧ w'.cell? ⟨m, 4, none⟩ = some (.string x) ∧ w'.cell? ⟨m, 5, none⟩ = some (.string s) ∧ w'.cell? ⟨m, 6, none⟩ = some (.string q) ∧ w'.cell? ⟨m, 7, none⟩ = some (.bool u) ∧ w'.cell? ⟨m, 8, none⟩ = some (.bool r)) (ds := []) #[Z, Z, Z, Z, Z] (by kernel_rfl) rfl rfl (held9_ b.out) (fun hHeld => ?_); generalize cd.drew = dX at a b HB hHeld ⊢; refine take_ (i := 0) (N := some 149) (v := ?_) (a' := ?_) #[Y, Z, Z, Z, Z] rfl rfl (by kernel_rfl) (fun _ _ _ h => h) (Or.inl ⟨by rfl, ?_⟩) hHeld ?_ ?_; rotate_left
                                · rintro w' ⟨s0, s1, s2, s3, s4, s5, s6, s7, s8⟩; go_simp; with_reducible rfl
                                rotate_left
                                · simp only [Act.put, List.setIfInBounds_toArray, List.set_cons_zero, List.set_cons_succ, i64_w, i32_w]; rfl
                                refine take_ (i := 1) (N := some 150) (v := ?_) (a' := ?_) #[Y, Y, Z, Z, Z] rfl rfl (by kernel_rfl) (fun _ _ _ h => h) (Or.inl ⟨by rfl, ?_⟩) hHeld ?_ ?_; rotate_left
                                · rintro w' ⟨s0, s1, s2, s3, s4, s5, s6, s7, s8⟩; go_simp; with_reducible rfl
                                rotate_left
                                · simp only [Act.put, List.setIfInBounds_toArray, List.set_cons_zero, List.set_cons_succ, i64_w, i32_w]; rfl
                                refine one_ (i := 2) (N := some 151) #[Y, Y, Y, Z, Z] rfl rfl (by kernel_rfl) (by decide) (fun K hK => ?_); refine goes_ Tryz.func53 (by kernel_rfl) rfl #[.agg #[.string g, .string z, .string C, .int .i64 P, .string x, .string s, .string q, .bool u, .bool r]] (by rfl) rfl rfl (by (try simp only [List.map_toArray, List.map_cons, List.map_nil]); first | done | rfl | (simp only [List.length_drop, List.length_take]; rfl)) ?_; with_reducible refine (spec_l01OK.calls bJ g z C P x s q u r cb _ cc.out).mono ?_
                                rintro e a2 ⟨rfl, hb⟩; refine ⟨_, rfl, ?_⟩; replace a := blkX_ a hb; replace b := blkX_ b hb; replace HB := Aside0.mk (below_step belE_ hb); (try clear hb); (try clear b5); (try clear hk); (try clear hi); refine hK.out _ _ (held9_ b.out) (fun hHeld => ?_); clear hK K; refine norm_ (a' := ?_) ?_ ?_; rotate_left
                                · show Act.put _ (some 151) _ = _; simp only [Act.put, List.setIfInBounds_toArray, List.set_cons_zero, List.set_cons_succ, i64_w, i32_w]; rfl
                                refine one_ (i := 3) (N := none) #[Y, Y, Y, Y, Z] rfl rfl (by kernel_rfl) (by decide) (fun K hK => ?_); have dm : a2.cell? ⟨d, 0, none⟩ = some (.string ⟨#[]⟩) := (blk_cell a.out 0).trans rfl; have hfs108 := blk_frozen a.out 0; have hns108_1 := c.out; have hms108_1 := o.out; have dn : a2.cell? ⟨d, 1, none⟩ = some (.string ⟨#[]⟩) := (blk_cell a.out 1).trans rfl; have hfs109 := blk_frozen a.out 1; have hns109_1 := c.out; have hms109_1 := o.out; have dp : a2.cell? ⟨d, 2, none⟩ = some (.string ⟨#[]⟩) := (blk_cell a.out 2).trans rfl; have hfs110 := blk_frozen a.out 2; have hns110_1 := c.out; have hms110_1 := o.out; have dq : a2.cell? ⟨d, 3, none⟩ = some (.int .i64 0) := (blk_cell a.out 3).trans rfl; have hfs111 := blk_frozen a.out 3; have hns111_1 := c.out; have hms111_1 := o.out; have dr : a2.cell? ⟨d, 4, none⟩ = some (.string ⟨#[]⟩) := (blk_cell a.out 4).trans rfl; have hfs112 := blk_frozen a.out 4; have hns112_1 := c.out; have hms112_1 := o.out; have dt : a2.cell? ⟨d, 5, none⟩ = some (.string ⟨#[]⟩) := (blk_cell a.out 5).trans rfl; have hfs113 := blk_frozen a.out 5; have hns113_1 := c.out; have hms113_1 := o.out; have du : a2.cell? ⟨d, 6, none⟩ = some (.string ⟨#[]⟩) := (blk_cell a.out 6).trans rfl; have hfs114 := blk_frozen a.out 6; have hns114_1 := c.out; have hms114_1 := o.out; have dv : a2.cell? ⟨d, 7, none⟩ = some (.bool false) := (blk_cell a.out 7).trans rfl; have hfs115 := blk_frozen a.out 7; have hns115_1 := c.out; have hms115_1 := o.out; have dw : a2.cell? ⟨d, 8, none⟩ = some (.bool false) := (blk_cell a.out 8).trans rfl; have hfs116 := blk_frozen a.out 8; have hns116_1 := c.out; have hms116_1 := o.out; refine skip_ (w1 := ?_) (by rfl) rfl ?_ ?_; rotate_left
                                · go_simp; rfl
                                refine hK.out _ _ ⟨(f9_ c hHeld.1), (f9_ c hHeld.2.1), (f9_ c hHeld.2.2.1), (f9_ c hHeld.2.2.2.1), (f9_ c hHeld.2.2.2.2.1), (f9_ c hHeld.2.2.2.2.2.1), (f9_ c hHeld.2.2.2.2.2.2.1), (f9_ c hHeld.2.2.2.2.2.2.2.1), (f9_ c hHeld.2.2.2.2.2.2.2.2)⟩ (fun hHeld => ?_); clear hK K; refine pure_ (i := 4) (N := some 3) (v := ?_) (a' := ?_) #[Y, Y, Y, Y, Y] rfl rfl (by kernel_rfl) (fun _ _ _ h => h) (Or.inl ⟨by rfl, ?_⟩) ?_ ?_; rotate_left
                                · intro w'; go_simp; with_reducible rfl
                                rotate_left
                                · simp only [Act.put, List.setIfInBounds_toArray, List.set_cons_zero, List.set_cons_succ, i64_w, i32_w]; rfl
                                refine done_ (by kernel_rfl) ?_; try go_wp2
                                refine bodyPost_ret (results_ct rfl _ _ d 32 #[.string g, .string z, .string C, .int .i64 P, .string x, .string s, .string q, .bool u, .bool r] (0, 0) _ rfl (bk_ a.out) Tryz.underlying32 rfl (by kernel_rfl)) rfl ?_; exact ⟨by first | rfl | (simp [errW_none, errW_some] <;> rfl) | (simp only [← hji9, ← hji73]; first | rfl | (simp [errW_none, errW_some] <;> rfl)) | (simp [*, errW_none, errW_some] <;> rfl), belE_⟩
                           · rw [if_neg aF] at H; exact absurd H (by simp)
                          · rw [if_neg aE] at H; exact absurd H (by simp)
                         ·
                          rw [if_neg ak] at H; have bE : decide (I < (A.size : Int)) = false := decide_eq_false ak; clear ak; obtain ⟨ce, cf, H⟩ := bindE_ H; simp only [Option.some.injEq, Prod.mk.injEq] at H; obtain ⟨rfl, rfl, rfl, rfl, rfl, rfl, rfl, rfl, rfl, rfl⟩ := H; try go_wp2_with (first | ((with_reducible refine gate_callee (f := 122) rfl ?_); refine cU_ (some 116) Tryz.func122 #[.string A, .int .u8 58] ?_; (with_reducible refine (spec_l01Find.calls W A 58 I _ bv.out).mono ?_); rintro e w' ⟨rfl, ⟨nd, rfl⟩⟩; refine ⟨_, rfl, ?_⟩; (try (rw [drewN_self wc]; generalize hq_ : World.drewN wc _ = wc; have j : Aside0 (wc.heap[d]? = some (.cells #[.string ⟨#[]⟩, .string ⟨#[]⟩, .string ⟨#[]⟩, .int .i64 0, .string ⟨#[]⟩, .string ⟨#[]⟩, .string ⟨#[]⟩, .bool false, .bool false] 32 (0, 0))) := ⟨by rw [← hq_]; exact (by (with_reducible repeat apply bd_); exact a.out)⟩; have l : Aside0 (wc.heap[m]? = some (.cells #[.string g, .string z, .string ⟨#[]⟩, .int .i64 0, .string x, .string s, .string q, .bool u, .bool r] 32 (0, 0))) := ⟨by rw [← hq_]; exact (by (with_reducible repeat apply bd_); exact b.out)⟩; have p : Aside0 (Below w.heap.size w wc) := ⟨by rw [← hq_]; exact belE_⟩; clear a b HB hq_; have a := j; have b := l; have HB := p; clear j l p))) | ((with_reducible refine gate_callee (f := 123) rfl ?_); refine cU_ (some 120) Tryz.func123 #[.string (A.extract 0 (I : Int).toNat)] ?_; (with_reducible refine (spec_l01Lower.calls W (A.extract 0 (I : Int).toNat) C _ bw.out).mono ?_); rintro e dY ⟨rfl, hb⟩; refine ⟨_, rfl, ?_⟩; have j := blkX_ a hb; have l := blkX_ b hb; have p := Aside0.mk (below_step belE_ hb); clear a; clear b; clear HB; have a := j; have b := l; have HB := p; clear j l p; (try clear hb); (try clear b5); (try clear hk); (try clear hi); have cv := c.out; have cw := o.out; obtain ⟨hcz120_0, hcz120_1, hcz120_2, hcz120_3, hcz120_4, hcz120_5, hcz120_6, hcz120_7, hcz120_8, hfz120_0, hfz120_1, hfz120_2, hfz120_3, hfz120_4, hfz120_5, hfz120_6, hfz120_7, hfz120_8⟩ := cz9_ b))
                          refine worldR_ (R := fun W_ => Aside0 (W_.heap[d]? = some (.cells #[.string ⟨#[]⟩, .string ⟨#[]⟩, .string ⟨#[]⟩, .int .i64 0, .string ⟨#[]⟩, .string ⟨#[]⟩, .string ⟨#[]⟩, .bool false, .bool false] 32 (0, 0))) ∧ Aside0 (W_.heap[m]? = some (.cells #[.string g, .string z, .string C, .int .i64 0, .string x, .string s, .string q, .bool u, .bool r] 32 (0, 0))) ∧ Aside0 (Below w.heap.size w W_)) ⟨⟨farE_⟩, ⟨bk_ b.out⟩, ⟨belE_⟩⟩ ?_; (try clear a); (try clear b); (try clear HB); rintro cg ⟨j, l, p⟩; have a := j; have b := l; have HB := p; clear j l p; replace a := Aside0.mk (blk_drew a.out); replace b := Aside0.mk (blk_drew b.out); replace HB := Aside0.mk (below_drew1 HB.out); refine start_ (n := 5) (S := fun w' => w'.cell? ⟨m, 0, none⟩ = some (.string g) ∧ w'.cell? ⟨m, 1, none⟩ = some (.string z) ∧ w'.cell? ⟨m, 2, none⟩ = some (.string C) ∧ w'.cell? ⟨m, 3, none⟩ = some (.int .i64 0) ∧ w'.cell? ⟨m, 4, none⟩ = some (.string x) ∧ w'.cell? ⟨m, 5, none⟩ = some (.string s) ∧ w'.cell? ⟨m, 6, none⟩ = some (.string q) ∧ w'.cell? ⟨m, 7, none⟩ = some (.bool u) ∧ w'.cell? ⟨m, 8, none⟩ = some (.bool r)) (ds := []) #[Z, Z, Z, Z, Z] (by kernel_rfl) rfl rfl (held9_ b.out) (fun hHeld => ?_); generalize cg.drew = dZ at a b HB hHeld ⊢; refine take_ (i := 0) (N := some 149) (v := ?_) (a' := ?_) #[Y, Z, Z, Z, Z] rfl rfl (by kernel_rfl) (fun _ _ _ h => h) (Or.inl ⟨by rfl, ?_⟩) hHeld ?_ ?_; rotate_left
                          · rintro w' ⟨s0, s1, s2, s3, s4, s5, s6, s7, s8⟩; go_simp; with_reducible rfl
                          rotate_left
                          · simp only [Act.put, List.setIfInBounds_toArray, List.set_cons_zero, List.set_cons_succ, i64_w, i32_w]; rfl
                          refine take_ (i := 1) (N := some 150) (v := ?_) (a' := ?_) #[Y, Y, Z, Z, Z] rfl rfl (by kernel_rfl) (fun _ _ _ h => h) (Or.inl ⟨by rfl, ?_⟩) hHeld ?_ ?_; rotate_left
                          · rintro w' ⟨s0, s1, s2, s3, s4, s5, s6, s7, s8⟩; go_simp; with_reducible rfl
                          rotate_left
                          · simp only [Act.put, List.setIfInBounds_toArray, List.set_cons_zero, List.set_cons_succ, i64_w, i32_w]; rfl
                          refine one_ (i := 2) (N := some 151) #[Y, Y, Y, Z, Z] rfl rfl (by kernel_rfl) (by decide) (fun K hK => ?_); refine goes_ Tryz.func53 (by kernel_rfl) rfl #[.agg #[.string g, .string z, .string C, .int .i64 0, .string x, .string s, .string q, .bool u, .bool r]] (by rfl) rfl rfl (by (try simp only [List.map_toArray, List.map_cons, List.map_nil]); first | done | rfl | (simp only [List.length_drop, List.length_take]; rfl)) ?_; with_reducible refine (spec_l01OK.calls W g z C 0 x s q u r ce _ cf.out).mono ?_
                          rintro e a3 ⟨rfl, hb⟩; refine ⟨_, rfl, ?_⟩; replace a := blkX_ a hb; replace b := blkX_ b hb; replace HB := Aside0.mk (below_step belE_ hb); (try clear hb); (try clear b5); (try clear hk); (try clear hi); refine hK.out _ _ (held9_ b.out) (fun hHeld => ?_); clear hK K; refine norm_ (a' := ?_) ?_ ?_; rotate_left
                          · show Act.put _ (some 151) _ = _; simp only [Act.put, List.setIfInBounds_toArray, List.set_cons_zero, List.set_cons_succ, i64_w, i32_w]; rfl
                          refine one_ (i := 3) (N := none) #[Y, Y, Y, Y, Z] rfl rfl (by kernel_rfl) (by decide) (fun K hK => ?_); have dx : a3.cell? ⟨d, 0, none⟩ = some (.string ⟨#[]⟩) := (blk_cell a.out 0).trans rfl; have hfs124 := blk_frozen a.out 0; have hns124_1 := c.out; have hms124_1 := o.out; have dy : a3.cell? ⟨d, 1, none⟩ = some (.string ⟨#[]⟩) := (blk_cell a.out 1).trans rfl; have hfs125 := blk_frozen a.out 1; have hns125_1 := c.out; have hms125_1 := o.out; have dz : a3.cell? ⟨d, 2, none⟩ = some (.string ⟨#[]⟩) := (blk_cell a.out 2).trans rfl; have hfs126 := blk_frozen a.out 2; have hns126_1 := c.out; have hms126_1 := o.out; have dA : a3.cell? ⟨d, 3, none⟩ = some (.int .i64 0) := (blk_cell a.out 3).trans rfl; have hfs127 := blk_frozen a.out 3; have hns127_1 := c.out; have hms127_1 := o.out; have dB : a3.cell? ⟨d, 4, none⟩ = some (.string ⟨#[]⟩) := (blk_cell a.out 4).trans rfl; have hfs128 := blk_frozen a.out 4; have hns128_1 := c.out; have hms128_1 := o.out; have dC : a3.cell? ⟨d, 5, none⟩ = some (.string ⟨#[]⟩) := (blk_cell a.out 5).trans rfl; have hfs129 := blk_frozen a.out 5; have hns129_1 := c.out; have hms129_1 := o.out; have dD : a3.cell? ⟨d, 6, none⟩ = some (.string ⟨#[]⟩) := (blk_cell a.out 6).trans rfl; have hfs130 := blk_frozen a.out 6; have hns130_1 := c.out; have hms130_1 := o.out; have dE : a3.cell? ⟨d, 7, none⟩ = some (.bool false) := (blk_cell a.out 7).trans rfl; have hfs131 := blk_frozen a.out 7; have hns131_1 := c.out; have hms131_1 := o.out; have dF : a3.cell? ⟨d, 8, none⟩ = some (.bool false) := (blk_cell a.out 8).trans rfl; have hfs132 := blk_frozen a.out 8; have hns132_1 := c.out; have hms132_1 := o.out; refine skip_ (w1 := ?_) (by rfl) rfl ?_ ?_; rotate_left
                          · go_simp; rfl
                          refine hK.out _ _ ⟨(f9_ c hHeld.1), (f9_ c hHeld.2.1), (f9_ c hHeld.2.2.1), (f9_ c hHeld.2.2.2.1), (f9_ c hHeld.2.2.2.2.1), (f9_ c hHeld.2.2.2.2.2.1), (f9_ c hHeld.2.2.2.2.2.2.1), (f9_ c hHeld.2.2.2.2.2.2.2.1), (f9_ c hHeld.2.2.2.2.2.2.2.2)⟩ (fun hHeld => ?_); clear hK K; refine pure_ (i := 4) (N := some 3) (v := ?_) (a' := ?_) #[Y, Y, Y, Y, Y] rfl rfl (by kernel_rfl) (fun _ _ _ h => h) (Or.inl ⟨by rfl, ?_⟩) ?_ ?_; rotate_left
                          · intro w'; go_simp; with_reducible rfl
                          rotate_left
                          · simp only [Act.put, List.setIfInBounds_toArray, List.set_cons_zero, List.set_cons_succ, i64_w, i32_w]; rfl
                          refine done_ (by kernel_rfl) ?_; try go_wp2
                          refine bodyPost_ret (results_ct rfl _ _ d 32 #[.string g, .string z, .string C, .int .i64 0, .string x, .string s, .string q, .bool u, .bool r] (0, 0) _ rfl (bk_ a.out) Tryz.underlying32 rfl (by kernel_rfl)) rfl ?_; exact ⟨by first | rfl | (simp [errW_none, errW_some] <;> rfl) | (simp only [← hji9]; first | rfl | (simp [errW_none, errW_some] <;> rfl)) | (simp [*, errW_none, errW_some] <;> rfl), belE_⟩
                        · rw [if_neg aD] at H; exact absurd H (by simp)
                       · rw [if_neg aC] at H; exact absurd H (by simp)
                    · rw [if_neg aj] at H; exact absurd H (by simp)
                   · rw [if_neg ai] at H; exact absurd H (by simp)
                · rw [if_neg aa] at H; exact absurd H (by simp)
               · rw [if_neg a9] at H; exact absurd H (by simp)
          · rw [if_neg a1] at H; exact absurd H (by simp)
      ·
       replace X := Bool.eq_false_iff.mpr X; subst X; replace H := ifF_ H; obtain ⟨B, ch, H⟩ := bindE_ H; by_cases aJ : 0 ≤ B
       ·
        rw [if_pos aJ] at H; have cx := eq_true aJ; have bM : decide (0 ≤ B) = true := decide_eq_true aJ; clear aJ; by_cases aK : B ≤ ((a0.extract ((ji9) : Int).toNat a0.size).size : Int)
        ·
         rw [if_pos aK] at H; have cy := eq_true aK; have bN : decide (B ≤ ((a0.extract ((ji9) : Int).toNat a0.size).size : Int)) = true := decide_eq_true aK; try (have c135e1 := bN; simp only [ByteArray.size_extract, Nat.min_self, Nat.sub_zero] at c135e1)
         try (have c135e0 := eq_true (of_decide_eq_true c135e1))
         clear aK; obtain ⟨G, ci, H⟩ := bindE_ H; by_cases aL : 0 ≤ G
         ·
          rw [if_pos aL] at H; have cz := eq_true aL; have cA : decide (0 ≤ G) = true := decide_eq_true aL; clear aL; by_cases aM : G ≤ (((a0.extract ((ji9) : Int).toNat a0.size).extract 0 (B : Int).toNat).size : Int)
          ·
           rw [if_pos aM] at H; have cB := eq_true aM; have bO : decide (G ≤ (((a0.extract ((ji9) : Int).toNat a0.size).extract 0 (B : Int).toNat).size : Int)) = true := decide_eq_true aM; try (have c138e1 := bO; simp only [ByteArray.size_extract, Nat.min_self, Nat.sub_zero] at c138e1)
           try (have c138e0 := eq_true (of_decide_eq_true c138e1))
           try (have c138e9 : (max B 0 < G) = False := eq_false (by have q_ := of_decide_eq_true c138e1; omega))
           clear aM; obtain ⟨bl, cj, H⟩ := bindE_ H; simp only [Option.some.injEq, Prod.mk.injEq] at H; obtain ⟨rfl, rfl, rfl, rfl, rfl, rfl, rfl, rfl, rfl, rfl⟩ := H; go_enter Tryz.func76, Tryz.ntmps76; try go_wp2_with (first | ((with_reducible refine gate_dst (N := 2) rfl ?_); refine box_event ?hg (N := 2) ?hd (cs := #[.string ⟨#[]⟩, .string ⟨#[]⟩, .string ⟨#[]⟩, .int .i64 0, .string ⟨#[]⟩, .string ⟨#[]⟩, .string ⟨#[]⟩, .bool false, .bool false]) (t := 32) ?hr ?_; (case hd => rfl); (case hg => rfl); (case hr => first | (go_simp; done) | (go_simp; rfl)); intro d hg aN hbox hb; have j := belB_ hb; have l := Aside0.mk (hbox); have p := geE_ (w := w) hg; have M := geE_ (w := w) hg; clear HB; have HB := j; have a := l; have bx := p; have bz := M; clear j l p M; clear hb hbox hg) | ((with_reducible refine gate_callee (f := 122) rfl ?_); refine cU_ (some 14) Tryz.func122 #[.string a0, .int .u8 58] ?_; (with_reducible refine (spec_l01Find.calls k a0 58 F _ A2.out).mono ?_); rintro e w' ⟨rfl, ⟨nd, rfl⟩⟩; refine ⟨_, rfl, ?_⟩; (try (rw [drewN_self aN]; generalize hq_ : World.drewN aN _ = aN; have j : Aside0 (aN.heap[d]? = some (.cells #[.string ⟨#[]⟩, .string ⟨#[]⟩, .string ⟨#[]⟩, .int .i64 0, .string ⟨#[]⟩, .string ⟨#[]⟩, .string ⟨#[]⟩, .bool false, .bool false] 32 (0, 0))) := ⟨by rw [← hq_]; exact (by (with_reducible repeat apply bd_); exact a.out)⟩; have l : Aside0 (Below w.heap.size w aN) := ⟨by rw [← hq_]; exact belE_⟩; clear a HB hq_; have a := j; have HB := l; clear j l))) | ((with_reducible refine gate_callee (f := 123) rfl ?_); refine cU_ (some 23) Tryz.func123 #[.string (a0.extract 0 (F : Int).toNat)] ?_; (with_reducible refine (spec_l01Lower.calls k (a0.extract 0 (F : Int).toNat) g _ A8.out).mono ?_); rintro e d_ ⟨rfl, hb⟩; refine ⟨_, rfl, ?_⟩; replace a := blkK_ a hb; replace HB := belB_ hb; (try clear hb)) | ((with_reducible refine gate_dst (N := 5) rfl ?_); refine box_event ?hg (N := 5) ?hd (cs := #[.string ⟨#[]⟩, .string ⟨#[]⟩, .string ⟨#[]⟩, .int .i64 0, .string ⟨#[]⟩, .string ⟨#[]⟩, .string ⟨#[]⟩, .bool false, .bool false]) (t := 32) ?hr ?_; (case hd => rfl); (case hg => rfl); (case hr => first | (go_simp; done) | (go_simp; rfl)); intro m hg e0 hbox hb; have j := blkX_ a hb; have l := belB_ hb; have p := Aside0.mk (hbox); have M := geE_ (w := w) hg; have aP := geE_ (w := w) hg; have aQ := neL_ a hg; have aR := neG_ a hg; clear a; clear HB; have a := j; have HB := l; have b := p; have bP := M; have bQ := aP; have o := aQ; have c := aR; clear j l p M aP aQ aR; clear hb hbox hg; have cC := c.out; have cD := o.out; obtain ⟨hcz144_0, hcz144_1, hcz144_2, hcz144_3, hcz144_4, hcz144_5, hcz144_6, hcz144_7, hcz144_8, hfz144_0, hfz144_1, hfz144_2, hfz144_3, hfz144_4, hfz144_5, hfz144_6, hfz144_7, hfz144_8⟩ := cz9_ b) | ((with_reducible refine gate_callee (f := 61) rfl ?_); refine cU_ (some 31) Tryz.func61 #[.string g] ?_; (with_reducible refine (spec_l01Web.calls g false _ bK.out).mono ?_); rintro e w' ⟨rfl, ⟨nd, rfl⟩⟩; refine ⟨_, rfl, ?_⟩) | ((with_reducible refine gate_callee (f := 122) rfl ?_); refine goesL_ (some 34) rfl rfl Tryz.func122 (by kernel_rfl) rfl #[.string (a0.extract ((ji9) : Int).toNat a0.size), .int .u8 35] rfl (by (try simp only [List.map_toArray, List.map_cons, List.map_nil]); first | done | (simp only [hji9]; rfl) | rfl | (simp only [List.length_drop, List.length_take]; rfl)) ?_; (with_reducible refine (spec_l01Find.calls k (a0.extract ((ji9) : Int).toNat a0.size) 35 B _ ch.out).mono ?_); rintro e w' ⟨rfl, ⟨nd, rfl⟩⟩; refine ⟨_, rfl, ?_⟩) | ((with_reducible refine gate_callee (f := 122) rfl ?_); refine goesL_ (some 39) rfl rfl Tryz.func122 (by kernel_rfl) rfl #[.string ((a0.extract ((ji9) : Int).toNat a0.size).extract 0 (B : Int).toNat), .int .u8 63] rfl (by (try simp only [List.map_toArray, List.map_cons, List.map_nil]); first | done | (simp only [hji9]; rfl) | rfl | (simp only [List.length_drop, List.length_take]; rfl)) ?_; (with_reducible refine (spec_l01Find.calls k ((a0.extract ((ji9) : Int).toNat a0.size).extract 0 (B : Int).toNat) 63 G _ ci.out).mono ?_); rintro e w' ⟨rfl, ⟨nd, rfl⟩⟩; refine ⟨_, rfl, ?_⟩))
           refine worldR_ (R := fun W_ => Aside0 (W_.heap[d]? = some (.cells #[.string ⟨#[]⟩, .string ⟨#[]⟩, .string ⟨#[]⟩, .int .i64 0, .string ⟨#[]⟩, .string ⟨#[]⟩, .string ⟨#[]⟩, .bool false, .bool false] 32 (0, 0))) ∧ Aside0 (W_.heap[m]? = some (.cells #[.string g, .string ⟨#[]⟩, .string ⟨#[]⟩, .int .i64 0, .string (((a0.extract ((ji9) : Int).toNat a0.size).extract 0 (B : Int).toNat).extract 0 (G : Int).toNat), .string ⟨#[]⟩, .string ⟨#[]⟩, .bool false, .bool false] 32 (0, 0))) ∧ Aside0 (Below w.heap.size w W_)) ⟨⟨farE_⟩, ⟨bk_ b.out⟩, ⟨belE_⟩⟩ ?_; (try clear a); (try clear b); (try clear HB); rintro ah ⟨j, l, p⟩; have a := j; have b := l; have HB := p; clear j l p; (try (rw [drewN_self ah]; generalize hq_ : World.drewN ah _ = ah; have j : Aside0 (ah.heap[d]? = some (.cells #[.string ⟨#[]⟩, .string ⟨#[]⟩, .string ⟨#[]⟩, .int .i64 0, .string ⟨#[]⟩, .string ⟨#[]⟩, .string ⟨#[]⟩, .bool false, .bool false] 32 (0, 0))) := ⟨by rw [← hq_]; exact (by (with_reducible repeat apply bd_); exact a.out)⟩; have l : Aside0 (ah.heap[m]? = some (.cells #[.string g, .string ⟨#[]⟩, .string ⟨#[]⟩, .int .i64 0, .string (((a0.extract ((ji9) : Int).toNat a0.size).extract 0 (B : Int).toNat).extract 0 (G : Int).toNat), .string ⟨#[]⟩, .string ⟨#[]⟩, .bool false, .bool false] 32 (0, 0))) := ⟨by rw [← hq_]; exact (by (with_reducible repeat apply bd_); exact b.out)⟩; have p : Aside0 (Below w.heap.size w ah) := ⟨by rw [← hq_]; exact belE_⟩; clear a b HB hq_; have a := j; have b := l; have HB := p; clear j l p)); replace a := Aside0.mk (blk_drew a.out); replace b := Aside0.mk (blk_drew b.out); replace HB := Aside0.mk (below_drew1 HB.out); refine start_ (n := 5) (S := fun w' => w'.cell? ⟨m, 0, none⟩ = some (.string g) ∧ w'.cell? ⟨m, 1, none⟩ = some (.string ⟨#[]⟩) ∧ w'.cell? ⟨m, 2, none⟩ = some (.string ⟨#[]⟩) ∧ w'.cell? ⟨m, 3, none⟩ = some (.int .i64 0) ∧ w'.cell? ⟨m, 4, none⟩ = some (.string (((a0.extract ((ji9) : Int).toNat a0.size).extract 0 (B : Int).toNat).extract 0 (G : Int).toNat)) ∧ w'.cell? ⟨m, 5, none⟩ = some (.string ⟨#[]⟩) ∧ w'.cell? ⟨m, 6, none⟩ = some (.string ⟨#[]⟩) ∧ w'.cell? ⟨m, 7, none⟩ = some (.bool false) ∧ w'.cell? ⟨m, 8, none⟩ = some (.bool false)) (ds := []) #[Z, Z, Z, Z, Z] (by kernel_rfl) rfl rfl (held9_ b.out) (fun hHeld => ?_); generalize ah.drew = e1 at a b HB hHeld ⊢; refine take_ (i := 0) (N := some 44) (v := ?_) (a' := ?_) #[Y, Z, Z, Z, Z] rfl rfl (by kernel_rfl) (fun _ _ _ h => h) (Or.inl ⟨by rfl, ?_⟩) hHeld ?_ ?_; rotate_left
           · rintro w' ⟨s0, s1, s2, s3, s4, s5, s6, s7, s8⟩; go_simp; with_reducible rfl
           rotate_left
           · simp only [Act.put, List.setIfInBounds_toArray, List.set_cons_zero, List.set_cons_succ, i64_w, i32_w]; rfl
           refine take_ (i := 1) (N := some 45) (v := ?_) (a' := ?_) #[Y, Y, Z, Z, Z] rfl rfl (by kernel_rfl) (fun _ _ _ h => h) (Or.inl ⟨by rfl, ?_⟩) hHeld ?_ ?_; rotate_left
           · rintro w' ⟨s0, s1, s2, s3, s4, s5, s6, s7, s8⟩; go_simp; with_reducible rfl
           rotate_left
           · simp only [Act.put, List.setIfInBounds_toArray, List.set_cons_zero, List.set_cons_succ, i64_w, i32_w]; rfl
           refine one_ (i := 2) (N := some 46) #[Y, Y, Y, Z, Z] rfl rfl (by kernel_rfl) (by decide) (fun K hK => ?_); refine goes_ Tryz.func53 (by kernel_rfl) rfl #[.agg #[.string g, .string ⟨#[]⟩, .string ⟨#[]⟩, .int .i64 0, .string (((a0.extract ((ji9) : Int).toNat a0.size).extract 0 (B : Int).toNat).extract 0 (G : Int).toNat), .string ⟨#[]⟩, .string ⟨#[]⟩, .bool false, .bool false]] (by rfl) rfl rfl (by (try simp only [List.map_toArray, List.map_cons, List.map_nil]); first | done | (simp only [hji9]; rfl) | rfl | (simp only [List.length_drop, List.length_take]; rfl)) ?_; with_reducible refine (spec_l01OK.calls k g (⟨#[]⟩ : ByteArray) (⟨#[]⟩ : ByteArray) 0 (((a0.extract ((ji9) : Int).toNat a0.size).extract 0 (B : Int).toNat).extract 0 (G : Int).toNat) (⟨#[]⟩ : ByteArray) (⟨#[]⟩ : ByteArray) false false bl _ cj.out).mono ?_
           rintro e a4 ⟨rfl, hb⟩; refine ⟨_, rfl, ?_⟩; replace a := blkX_ a hb; replace b := blkX_ b hb; replace HB := Aside0.mk (below_step belE_ hb); (try clear hb); (try clear b5); (try clear hk); (try clear hi); refine hK.out _ _ (held9_ b.out) (fun hHeld => ?_); clear hK K; refine norm_ (a' := ?_) ?_ ?_; rotate_left
           · show Act.put _ (some 46) _ = _; simp only [Act.put, List.setIfInBounds_toArray, List.set_cons_zero, List.set_cons_succ, i64_w, i32_w]; rfl
           refine one_ (i := 3) (N := none) #[Y, Y, Y, Y, Z] rfl rfl (by kernel_rfl) (by decide) (fun K hK => ?_); have dG : a4.cell? ⟨d, 0, none⟩ = some (.string ⟨#[]⟩) := (blk_cell a.out 0).trans rfl; have hfs148 := blk_frozen a.out 0; have hns148_1 := c.out; have hms148_1 := o.out; have dH : a4.cell? ⟨d, 1, none⟩ = some (.string ⟨#[]⟩) := (blk_cell a.out 1).trans rfl; have hfs149 := blk_frozen a.out 1; have hns149_1 := c.out; have hms149_1 := o.out; have dI : a4.cell? ⟨d, 2, none⟩ = some (.string ⟨#[]⟩) := (blk_cell a.out 2).trans rfl; have hfs150 := blk_frozen a.out 2; have hns150_1 := c.out; have hms150_1 := o.out; have dJ : a4.cell? ⟨d, 3, none⟩ = some (.int .i64 0) := (blk_cell a.out 3).trans rfl; have hfs151 := blk_frozen a.out 3; have hns151_1 := c.out; have hms151_1 := o.out; have dK : a4.cell? ⟨d, 4, none⟩ = some (.string ⟨#[]⟩) := (blk_cell a.out 4).trans rfl; have hfs152 := blk_frozen a.out 4; have hns152_1 := c.out; have hms152_1 := o.out; have dL : a4.cell? ⟨d, 5, none⟩ = some (.string ⟨#[]⟩) := (blk_cell a.out 5).trans rfl; have hfs153 := blk_frozen a.out 5; have hns153_1 := c.out; have hms153_1 := o.out; have dM : a4.cell? ⟨d, 6, none⟩ = some (.string ⟨#[]⟩) := (blk_cell a.out 6).trans rfl; have hfs154 := blk_frozen a.out 6; have hns154_1 := c.out; have hms154_1 := o.out; have dN : a4.cell? ⟨d, 7, none⟩ = some (.bool false) := (blk_cell a.out 7).trans rfl; have hfs155 := blk_frozen a.out 7; have hns155_1 := c.out; have hms155_1 := o.out; have dO : a4.cell? ⟨d, 8, none⟩ = some (.bool false) := (blk_cell a.out 8).trans rfl; have hfs156 := blk_frozen a.out 8; have hns156_1 := c.out; have hms156_1 := o.out; refine skip_ (w1 := ?_) (by rfl) rfl ?_ ?_; rotate_left
           · go_simp; rfl
           refine hK.out _ _ ⟨(f9_ c hHeld.1), (f9_ c hHeld.2.1), (f9_ c hHeld.2.2.1), (f9_ c hHeld.2.2.2.1), (f9_ c hHeld.2.2.2.2.1), (f9_ c hHeld.2.2.2.2.2.1), (f9_ c hHeld.2.2.2.2.2.2.1), (f9_ c hHeld.2.2.2.2.2.2.2.1), (f9_ c hHeld.2.2.2.2.2.2.2.2)⟩ (fun hHeld => ?_); clear hK K; refine pure_ (i := 4) (N := some 3) (v := ?_) (a' := ?_) #[Y, Y, Y, Y, Y] rfl rfl (by kernel_rfl) (fun _ _ _ h => h) (Or.inl ⟨by rfl, ?_⟩) ?_ ?_; rotate_left
           · intro w'; go_simp; with_reducible rfl
           rotate_left
           · simp only [Act.put, List.setIfInBounds_toArray, List.set_cons_zero, List.set_cons_succ, i64_w, i32_w]; rfl
           refine done_ (by kernel_rfl) ?_; try go_wp2
           refine bodyPost_ret (results_ct rfl _ _ d 32 #[.string g, .string ⟨#[]⟩, .string ⟨#[]⟩, .int .i64 0, .string (((a0.extract ((ji9) : Int).toNat a0.size).extract 0 (B : Int).toNat).extract 0 (G : Int).toNat), .string ⟨#[]⟩, .string ⟨#[]⟩, .bool false, .bool false] (0, 0) _ rfl (bk_ a.out) Tryz.underlying32 rfl (by kernel_rfl)) rfl ?_; exact ⟨by first | rfl | (simp [errW_none, errW_some] <;> rfl) | (simp only [← hji9]; first | rfl | (simp [errW_none, errW_some] <;> rfl)) | (simp [*, errW_none, errW_some] <;> rfl), belE_⟩; all_goals (exfalso; have q1_ := of_decide_eq_true bM; have q2_ := of_decide_eq_true c135e1; have q3_ := of_decide_eq_true c138e1; omega)
          · rw [if_neg aM] at H; exact absurd H (by simp)
         · rw [if_neg aL] at H; exact absurd H (by simp)
        · rw [if_neg aK] at H; exact absurd H (by simp)
       · rw [if_neg aJ] at H; exact absurd H (by simp)
     · rw [if_neg U] at H; exact absurd H (by simp)
    · rw [if_neg T] at H; exact absurd H (by simp)
   · rw [if_neg c7] at H; exact absurd H (by simp)
  · rw [if_neg c6] at H; exact absurd H (by simp)

end Go.Proofs.YthifpohbdbhnlaaGreatDoor.QFnStp
