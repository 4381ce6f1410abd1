/- A tool of this session wrote this text out of the translation: functions as plain Lean, and proofs that the machine's calls come to their answers. -/
import Derived.Test.YthifpohbdbhnlaaGreatDoorQShort
import Derived.Test.YthifpohbdbhnlaaGreatDoorQFnStripx0
import Derived.Test.YthifpohbdbhnlaaGreatDoorQFnStripx2
import Derived.Test.YthifpohbdbhnlaaGreatDoorQFnStripx3
import Derived.Test.YthifpohbdbhnlaaGreatDoorQFnStripx4
import Derived.Test.YthifpohbdbhnlaaGreatDoorQFnStripx5
import Derived.Test.YthifpohbdbhnlaaGreatDoorQFnStripx6
import Derived.Test.YthifpohbdbhnlaaGreatDoorQFnStripx7
namespace Go.Proofs.YthifpohbdbhnlaaGreatDoor.QFnStrip
open Go.RowKit Go.Proofs.YthifpohbdbhnlaaGreatDoorW.PrintWords Go.Proofs.YthifpohbdbhnlaaGreatDoorW.PrintLast Go.Proofs.YthifpohbdbhnlaaGreatDoorW.PrintMore
open Go.Proofs.YthifpohbdbhnlaaGreatDoor.Short
attribute [local go_sem] max2_int min2_int max_two min_two max_three min_three max_four min_four   -- for this text's walks alone
set_option linter.unusedVariables false
set_option linter.unusedSimpArgs false
theorem worldR_ {P : Program} {c : Code} {Q : Exit → Act → World → Prop} {a : Act} {w : World} (R : World → Prop) (h : R w) (k : ∀ w', R w' → c.wp P Q a w') : c.wp P Q a w := k w h

/-! ### spec_l01Parse: function 76 -/
mutual
def spec_l01Parse.j0 : Nat → ByteArray → Bool → ByteArray → ByteArray → ByteArray → Int → ByteArray → ByteArray → ByteArray → Bool → Bool → Option (ByteArray × ByteArray × ByteArray × Int × ByteArray × ByteArray × ByteArray × Bool × Bool × Bool)
  | 0, _, _, _, _, _, _, _, _, _, _, _ => none
  | k + 1, x6, x54, x168000, x168001, x168002, x168003, x168004, x168005, x168006, x168007, x168008 => if x54 = true then (some ((⟨#[]⟩ : ByteArray), (⟨#[]⟩ : ByteArray), (⟨#[]⟩ : ByteArray), 0, (⟨#[]⟩ : ByteArray), (⟨#[]⟩ : ByteArray), (⟨#[]⟩ : ByteArray), false, false, false)) else (if 2 ≤ (x6.size : Int) then ((spec_l01Find.f k (x6.extract 2 x6.size) 35).bind fun t172 => (if t172 < ((x6.extract 2 x6.size).size : Int) then (if 0 ≤ (wrap64 (t172 + 1)) then (if (wrap64 (t172 + 1)) ≤ ((x6.extract 2 x6.size).size : Int) then (if 0 ≤ t172 then (if t172 ≤ ((x6.extract 2 x6.size).size : Int) then (spec_l01Parse.j1 k ((x6.extract 2 x6.size).extract 0 (t172 : Int).toNat) x168000 x168001 x168002 x168003 x168004 x168005 ((x6.extract 2 x6.size).extract ((wrap64 (t172 + 1)) : Int).toNat (x6.extract 2 x6.size).size) x168007 true) else (none)) else (none)) else (none)) else (none)) else (spec_l01Parse.j1 k (x6.extract 2 x6.size) x168000 x168001 x168002 x168003 x168004 x168005 x168006 x168007 x168008))) else (none))
def spec_l01Parse.j1 : Nat → ByteArray → ByteArray → ByteArray → ByteArray → Int → ByteArray → ByteArray → ByteArray → Bool → Bool → Option (ByteArray × ByteArray × ByteArray × Int × ByteArray × ByteArray × ByteArray × Bool × Bool × Bool)
  | 0, _, _, _, _, _, _, _, _, _, _ => none
  | k + 1, x6, x168000, x168001, x168002, x168003, x168004, x168005, x168006, x168007, x168008 => (spec_l01Find.f k x6 63).bind fun t173 => (if t173 < (x6.size : Int) then (if 0 ≤ (wrap64 (t173 + 1)) then (if (wrap64 (t173 + 1)) ≤ (x6.size : Int) then (if 0 ≤ t173 then (if t173 ≤ (x6.size : Int) then (spec_l01Parse.j2 k (x6.extract 0 (t173 : Int).toNat) x168000 x168001 x168002 x168003 x168004 (x6.extract ((wrap64 (t173 + 1)) : Int).toNat x6.size) x168006 true x168008) else (none)) else (none)) else (none)) else (none)) else (spec_l01Parse.j2 k x6 x168000 x168001 x168002 x168003 x168004 x168005 x168006 x168007 x168008))
def spec_l01Parse.j2 : Nat → ByteArray → ByteArray → ByteArray → ByteArray → Int → ByteArray → ByteArray → ByteArray → Bool → Bool → Option (ByteArray × ByteArray × ByteArray × Int × ByteArray × ByteArray × ByteArray × Bool × Bool × Bool)
  | 0, _, _, _, _, _, _, _, _, _, _ => none
  | k + 1, x6, x168000, x168001, x168002, x168003, x168004, x168005, x168006, x168007, x168008 => (spec_l01Find.f k x6 47).bind fun t174 => (if 0 ≤ t174 then (if t174 ≤ (x6.size : Int) then (if (x6.extract (t174 : Int).toNat x6.size).toList = ([] : List UInt8) then (spec_l01Parse.j3 k t174 x6 x168000 x168001 x168002 x168003 (⟨#[47]⟩ : ByteArray) x168005 x168006 x168007 x168008) else (spec_l01Parse.j3 k t174 x6 x168000 x168001 x168002 x168003 (x6.extract (t174 : Int).toNat x6.size) x168005 x168006 x168007 x168008)) else (none)) else (none))
def spec_l01Parse.j3 : Nat → Int → ByteArray → ByteArray → ByteArray → ByteArray → Int → ByteArray → ByteArray → ByteArray → Bool → Bool → Option (ByteArray × ByteArray × ByteArray × Int × ByteArray × ByteArray × ByteArray × Bool × Bool × Bool)
  | 0, _, _, _, _, _, _, _, _, _, _, _ => none
  | k + 1, x4, x6, x168000, x168001, x168002, x168003, x168004, x168005, x168006, x168007, x168008 => if 0 ≤ x4 then (if x4 ≤ (x6.size : Int) then ((spec_l01Find.f k (x6.extract 0 (x4 : Int).toNat) 64).bind fun t175 => (if t175 < ((x6.extract 0 (x4 : Int).toNat).size : Int) then (if 0 ≤ t175 then (if t175 ≤ ((x6.extract 0 (x4 : Int).toNat).size : Int) then (if 0 ≤ (wrap64 (t175 + 1)) then (if (wrap64 (t175 + 1)) ≤ ((x6.extract 0 (x4 : Int).toNat).size : Int) then (spec_l01Parse.j4 k ((x6.extract 0 (x4 : Int).toNat).extract ((wrap64 (t175 + 1)) : Int).toNat (x6.extract 0 (x4 : Int).toNat).size) x168000 ((x6.extract 0 (x4 : Int).toNat).extract 0 (t175 : Int).toNat) x168002 x168003 x168004 x168005 x168006 x168007 x168008) else (none)) else (none)) else (none)) else (none)) else (spec_l01Parse.j4 k (x6.extract 0 (x4 : Int).toNat) x168000 x168001 x168002 x168003 x168004 x168005 x168006 x168007 x168008))) else (none)) else (none)
def spec_l01Parse.j4 : Nat → ByteArray → ByteArray → ByteArray → ByteArray → Int → ByteArray → ByteArray → ByteArray → Bool → Bool → Option (ByteArray × ByteArray × ByteArray × Int × ByteArray × ByteArray × ByteArray × Bool × Bool × Bool)
  | 0, _, _, _, _, _, _, _, _, _, _ => none
  | k + 1, x6, x168000, x168001, x168002, x168003, x168004, x168005, x168006, x168007, x168008 => (spec_l01Find.f k x6 58).bind fun t176 => (if 0 ≤ t176 then (if t176 ≤ (x6.size : Int) then ((spec_l01Lower.f k (x6.extract 0 (t176 : Int).toNat)).bind fun t177 => (if t176 < (x6.size : Int) then (if 0 ≤ (wrap64 (t176 + 1)) then (if (wrap64 (t176 + 1)) ≤ (x6.size : Int) then ((spec_l00Number.f k (x6.extract ((wrap64 (t176 + 1)) : Int).toNat x6.size)).bind fun bt178 => (if bt178.2 = true then ((spec_l01In.f bt178.1 1 65535).bind fun t180 => (spec_l01Parse.j5 k bt178.1 (!t180) x168000 x168001 t177 x168003 x168004 x168005 x168006 x168007 x168008)) else (spec_l01Parse.j5 k bt178.1 true x168000 x168001 t177 x168003 x168004 x168005 x168006 x168007 x168008))) else (none)) else (none)) else ((spec_l01OK.f k x168000 x168001 t177 x168003 x168004 x168005 x168006 x168007 x168008).bind fun t184 => (some (x168000, x168001, t177, x168003, x168004, x168005, x168006, x168007, x168008, t184))))) else (none)) else (none))
def spec_l01Parse.j5 : Nat → Int → Bool → ByteArray → ByteArray → ByteArray → Int → ByteArray → ByteArray → ByteArray → Bool → Bool → Option (ByteArray × ByteArray × ByteArray × Int × ByteArray × ByteArray × ByteArray × Bool × Bool × Bool)
  | 0, _, _, _, _, _, _, _, _, _, _, _ => none
  | k + 1, x11, x140, x168000, x168001, x168002, x168003, x168004, x168005, x168006, x168007, x168008 => if x140 = true then (some ((⟨#[]⟩ : ByteArray), (⟨#[]⟩ : ByteArray), (⟨#[]⟩ : ByteArray), 0, (⟨#[]⟩ : ByteArray), (⟨#[]⟩ : ByteArray), (⟨#[]⟩ : ByteArray), false, false, false)) else ((spec_l01Usual.f x168000).bind fun t181 => (if x11 = t181 then ((spec_l01OK.f k x168000 x168001 x168002 x168003 x168004 x168005 x168006 x168007 x168008).bind fun t182 => (some (x168000, x168001, x168002, x168003, x168004, x168005, x168006, x168007, x168008, t182))) else ((spec_l01OK.f k x168000 x168001 x168002 x11 x168004 x168005 x168006 x168007 x168008).bind fun t183 => (some (x168000, x168001, x168002, x11, x168004, x168005, x168006, x168007, x168008, t183)))))
end
def spec_l01Parse.f (k : Nat) (a0 : ByteArray) : Option (ByteArray × ByteArray × ByteArray × Int × ByteArray × ByteArray × ByteArray × Bool × Bool × Bool) := (spec_l01Find.f k a0 58).bind fun t165 => (if t165 = (a0.size : Int) then (some ((⟨#[]⟩ : ByteArray), (⟨#[]⟩ : ByteArray), (⟨#[]⟩ : ByteArray), 0, (⟨#[]⟩ : ByteArray), (⟨#[]⟩ : ByteArray), (⟨#[]⟩ : ByteArray), false, false, false)) else (if 0 ≤ t165 then (if t165 ≤ (a0.size : Int) then ((spec_l01Lower.f k (a0.extract 0 (t165 : Int).toNat)).bind fun t166 => (if 0 ≤ (wrap64 (t165 + 1)) then (if (wrap64 (t165 + 1)) ≤ (a0.size : Int) then ((spec_l01Web.f t166).bind fun t168 => (if t168 = true then (if ((a0.extract ((wrap64 (t165 + 1)) : Int).toNat a0.size).size : Int) < 2 then (spec_l01Parse.j0 k (a0.extract ((wrap64 (t165 + 1)) : Int).toNat a0.size) true t166 (⟨#[]⟩ : ByteArray) (⟨#[]⟩ : ByteArray) 0 (⟨#[]⟩ : ByteArray) (⟨#[]⟩ : ByteArray) (⟨#[]⟩ : ByteArray) false false) else (if 0 ≤ 2 then (if 2 ≤ ((a0.extract ((wrap64 (t165 + 1)) : Int).toNat a0.size).size : Int) then (spec_l01Parse.j0 k (a0.extract ((wrap64 (t165 + 1)) : Int).toNat a0.size) (((a0.extract ((wrap64 (t165 + 1)) : Int).toNat a0.size).extract 0 2).toList != ([47, 47] : List UInt8)) t166 (⟨#[]⟩ : ByteArray) (⟨#[]⟩ : ByteArray) 0 (⟨#[]⟩ : ByteArray) (⟨#[]⟩ : ByteArray) (⟨#[]⟩ : ByteArray) false false) else (none)) else (none))) else ((spec_l01Find.f k (a0.extract ((wrap64 (t165 + 1)) : Int).toNat a0.size) 35).bind fun t169 => (if 0 ≤ t169 then (if t169 ≤ ((a0.extract ((wrap64 (t165 + 1)) : Int).toNat a0.size).size : Int) then ((spec_l01Find.f k ((a0.extract ((wrap64 (t165 + 1)) : Int).toNat a0.size).extract 0 (t169 : Int).toNat) 63).bind fun t170 => (if 0 ≤ t170 then (if t170 ≤ (((a0.extract ((wrap64 (t165 + 1)) : Int).toNat a0.size).extract 0 (t169 : Int).toNat).size : Int) then ((spec_l01OK.f k t166 (⟨#[]⟩ : ByteArray) (⟨#[]⟩ : ByteArray) 0 (((a0.extract ((wrap64 (t165 + 1)) : Int).toNat a0.size).extract 0 (t169 : Int).toNat).extract 0 (t170 : Int).toNat) (⟨#[]⟩ : ByteArray) (⟨#[]⟩ : ByteArray) false false).bind fun t171 => (some (t166, (⟨#[]⟩ : ByteArray), (⟨#[]⟩ : ByteArray), 0, ((a0.extract ((wrap64 (t165 + 1)) : Int).toNat a0.size).extract 0 (t169 : Int).toNat).extract 0 (t170 : Int).toNat, (⟨#[]⟩ : ByteArray), (⟨#[]⟩ : ByteArray), false, false, t171))) else (none)) else (none))) else (none)) else (none))))) else (none)) else (none))) else (none)) else (none)))
theorem spec_l01Parse.mono_l : ∀ k, (∀ y0 y1 y2 y3 y4 y5 y6 y7 y8 y9 y10, LeO (spec_l01Parse.j0 k y0 y1 y2 y3 y4 y5 y6 y7 y8 y9 y10) (spec_l01Parse.j0 (k + 1) y0 y1 y2 y3 y4 y5 y6 y7 y8 y9 y10)) ∧ (∀ y0 y1 y2 y3 y4 y5 y6 y7 y8 y9, LeO (spec_l01Parse.j1 k y0 y1 y2 y3 y4 y5 y6 y7 y8 y9) (spec_l01Parse.j1 (k + 1) y0 y1 y2 y3 y4 y5 y6 y7 y8 y9)) ∧ (∀ y0 y1 y2 y3 y4 y5 y6 y7 y8 y9, LeO (spec_l01Parse.j2 k y0 y1 y2 y3 y4 y5 y6 y7 y8 y9) (spec_l01Parse.j2 (k + 1) y0 y1 y2 y3 y4 y5 y6 y7 y8 y9)) ∧ (∀ y0 y1 y2 y3 y4 y5 y6 y7 y8 y9 y10, LeO (spec_l01Parse.j3 k y0 y1 y2 y3 y4 y5 y6 y7 y8 y9 y10) (spec_l01Parse.j3 (k + 1) y0 y1 y2 y3 y4 y5 y6 y7 y8 y9 y10)) ∧ (∀ y0 y1 y2 y3 y4 y5 y6 y7 y8 y9, LeO (spec_l01Parse.j4 k y0 y1 y2 y3 y4 y5 y6 y7 y8 y9) (spec_l01Parse.j4 (k + 1) y0 y1 y2 y3 y4 y5 y6 y7 y8 y9)) ∧ (∀ y0 y1 y2 y3 y4 y5 y6 y7 y8 y9 y10, LeO (spec_l01Parse.j5 k y0 y1 y2 y3 y4 y5 y6 y7 y8 y9 y10) (spec_l01Parse.j5 (k + 1) y0 y1 y2 y3 y4 y5 y6 y7 y8 y9 y10))
  | 0 => ⟨fun _ _ _ _ _ _ _ _ _ _ _ r h => by simp [spec_l01Parse.j0] at h, fun _ _ _ _ _ _ _ _ _ _ r h => by simp [spec_l01Parse.j1] at h, fun _ _ _ _ _ _ _ _ _ _ r h => by simp [spec_l01Parse.j2] at h, fun _ _ _ _ _ _ _ _ _ _ _ r h => by simp [spec_l01Parse.j3] at h, fun _ _ _ _ _ _ _ _ _ _ r h => by simp [spec_l01Parse.j4] at h, fun _ _ _ _ _ _ _ _ _ _ _ r h => by simp [spec_l01Parse.j5] at h⟩
  | k + 1 => by
    obtain ⟨ih0, ih1, ih2, ih3, ih4, ih5⟩ := spec_l01Parse.mono_l k
    refine ⟨?_, ?_, ?_, ?_, ?_, ?_⟩
    · intro y0 y1 y2 y3 y4 y5 y6 y7 y8 y9 y10
      unfold spec_l01Parse.j0
      repeat' first
      | (with_reducible exact ih0 _ _ _ _ _ _ _ _ _ _ _)
      | (with_reducible exact ih1 _ _ _ _ _ _ _ _ _ _)
      | (with_reducible exact ih2 _ _ _ _ _ _ _ _ _ _)
      | (with_reducible exact ih3 _ _ _ _ _ _ _ _ _ _ _)
      | (with_reducible exact ih4 _ _ _ _ _ _ _ _ _ _)
      | (with_reducible exact ih5 _ _ _ _ _ _ _ _ _ _ _)
      | (with_reducible exact spec_l00Number.mono _ _)
      | (with_reducible exact spec_l01Find.mono _ _ _)
      | (with_reducible exact spec_l01Lower.mono _ _)
      | (with_reducible exact spec_l01OK.mono _ _ _ _ _ _ _ _ _ _)
      | (with_reducible exact LeO.refl _)
      | (with_reducible exact LeO.none _)
      | (with_reducible refine LeO.ite ?_ ?_)
      | (with_reducible refine LeO.bind ?_ (fun _ => ?_))
      | exact ih0 _ _ _ _ _ _ _ _ _ _ _
      | exact ih1 _ _ _ _ _ _ _ _ _ _
      | exact ih2 _ _ _ _ _ _ _ _ _ _
      | exact ih3 _ _ _ _ _ _ _ _ _ _ _
      | exact ih4 _ _ _ _ _ _ _ _ _ _
      | exact ih5 _ _ _ _ _ _ _ _ _ _ _
      | exact spec_l00Number.mono _ _
      | exact spec_l01Find.mono _ _ _
      | exact spec_l01Lower.mono _ _
      | exact spec_l01OK.mono _ _ _ _ _ _ _ _ _ _
      | exact LeO.none _
      | refine LeO.ite ?_ ?_
      | refine LeO.bind ?_ (fun _ => ?_)
    · intro y0 y1 y2 y3 y4 y5 y6 y7 y8 y9
      unfold spec_l01Parse.j1
      repeat' first
      | (with_reducible exact ih0 _ _ _ _ _ _ _ _ _ _ _)
      | (with_reducible exact ih1 _ _ _ _ _ _ _ _ _ _)
      | (with_reducible exact ih2 _ _ _ _ _ _ _ _ _ _)
      | (with_reducible exact ih3 _ _ _ _ _ _ _ _ _ _ _)
      | (with_reducible exact ih4 _ _ _ _ _ _ _ _ _ _)
      | (with_reducible exact ih5 _ _ _ _ _ _ _ _ _ _ _)
      | (with_reducible exact spec_l00Number.mono _ _)
      | (with_reducible exact spec_l01Find.mono _ _ _)
      | (with_reducible exact spec_l01Lower.mono _ _)
      | (with_reducible exact spec_l01OK.mono _ _ _ _ _ _ _ _ _ _)
      | (with_reducible exact LeO.refl _)
      | (with_reducible exact LeO.none _)
      | (with_reducible refine LeO.ite ?_ ?_)
      | (with_reducible refine LeO.bind ?_ (fun _ => ?_))
      | exact ih0 _ _ _ _ _ _ _ _ _ _ _
      | exact ih1 _ _ _ _ _ _ _ _ _ _
      | exact ih2 _ _ _ _ _ _ _ _ _ _
      | exact ih3 _ _ _ _ _ _ _ _ _ _ _
      | exact ih4 _ _ _ _ _ _ _ _ _ _
      | exact ih5 _ _ _ _ _ _ _ _ _ _ _
      | exact spec_l00Number.mono _ _
      | exact spec_l01Find.mono _ _ _
      | exact spec_l01Lower.mono _ _
      | exact spec_l01OK.mono _ _ _ _ _ _ _ _ _ _
      | exact LeO.none _
      | refine LeO.ite ?_ ?_
      | refine LeO.bind ?_ (fun _ => ?_)
    · intro y0 y1 y2 y3 y4 y5 y6 y7 y8 y9
      unfold spec_l01Parse.j2
      repeat' first
      | (with_reducible exact ih0 _ _ _ _ _ _ _ _ _ _ _)
      | (with_reducible exact ih1 _ _ _ _ _ _ _ _ _ _)
      | (with_reducible exact ih2 _ _ _ _ _ _ _ _ _ _)
      | (with_reducible exact ih3 _ _ _ _ _ _ _ _ _ _ _)
      | (with_reducible exact ih4 _ _ _ _ _ _ _ _ _ _)
      | (with_reducible exact ih5 _ _ _ _ _ _ _ _ _ _ _)
      | (with_reducible exact spec_l00Number.mono _ _)
      | (with_reducible exact spec_l01Find.mono _ _ _)
      | (with_reducible exact spec_l01Lower.mono _ _)
      | (with_reducible exact spec_l01OK.mono _ _ _ _ _ _ _ _ _ _)
      | (with_reducible exact LeO.refl _)
      | (with_reducible exact LeO.none _)
      | (with_reducible refine LeO.ite ?_ ?_)
      | (with_reducible refine LeO.bind ?_ (fun _ => ?_))
      | exact ih0 _ _ _ _ _ _ _ _ _ _ _
      | exact ih1 _ _ _ _ _ _ _ _ _ _
      | exact ih2 _ _ _ _ _ _ _ _ _ _
      | exact ih3 _ _ _ _ _ _ _ _ _ _ _
      | exact ih4 _ _ _ _ _ _ _ _ _ _
      | exact ih5 _ _ _ _ _ _ _ _ _ _ _
      | exact spec_l00Number.mono _ _
      | exact spec_l01Find.mono _ _ _
      | exact spec_l01Lower.mono _ _
      | exact spec_l01OK.mono _ _ _ _ _ _ _ _ _ _
      | exact LeO.none _
      | refine LeO.ite ?_ ?_
      | refine LeO.bind ?_ (fun _ => ?_)
    · intro y0 y1 y2 y3 y4 y5 y6 y7 y8 y9 y10
      unfold spec_l01Parse.j3
      repeat' first
      | (with_reducible exact ih0 _ _ _ _ _ _ _ _ _ _ _)
      | (with_reducible exact ih1 _ _ _ _ _ _ _ _ _ _)
      | (with_reducible exact ih2 _ _ _ _ _ _ _ _ _ _)
      | (with_reducible exact ih3 _ _ _ _ _ _ _ _ _ _ _)
      | (with_reducible exact ih4 _ _ _ _ _ _ _ _ _ _)
      | (with_reducible exact ih5 _ _ _ _ _ _ _ _ _ _ _)
      | (with_reducible exact spec_l00Number.mono _ _)
      | (with_reducible exact spec_l01Find.mono _ _ _)
      | (with_reducible exact spec_l01Lower.mono _ _)
      | (with_reducible exact spec_l01OK.mono _ _ _ _ _ _ _ _ _ _)
      | (with_reducible exact LeO.refl _)
      | (with_reducible exact LeO.none _)
      | (with_reducible refine LeO.ite ?_ ?_)
      | (with_reducible refine LeO.bind ?_ (fun _ => ?_))
      | exact ih0 _ _ _ _ _ _ _ _ _ _ _
      | exact ih1 _ _ _ _ _ _ _ _ _ _
      | exact ih2 _ _ _ _ _ _ _ _ _ _
      | exact ih3 _ _ _ _ _ _ _ _ _ _ _
      | exact ih4 _ _ _ _ _ _ _ _ _ _
      | exact ih5 _ _ _ _ _ _ _ _ _ _ _
      | exact spec_l00Number.mono _ _
      | exact spec_l01Find.mono _ _ _
      | exact spec_l01Lower.mono _ _
      | exact spec_l01OK.mono _ _ _ _ _ _ _ _ _ _
      | exact LeO.none _
      | refine LeO.ite ?_ ?_
      | refine LeO.bind ?_ (fun _ => ?_)
    · intro y0 y1 y2 y3 y4 y5 y6 y7 y8 y9
      unfold spec_l01Parse.j4
      repeat' first
      | (with_reducible exact ih0 _ _ _ _ _ _ _ _ _ _ _)
      | (with_reducible exact ih1 _ _ _ _ _ _ _ _ _ _)
      | (with_reducible exact ih2 _ _ _ _ _ _ _ _ _ _)
      | (with_reducible exact ih3 _ _ _ _ _ _ _ _ _ _ _)
      | (with_reducible exact ih4 _ _ _ _ _ _ _ _ _ _)
      | (with_reducible exact ih5 _ _ _ _ _ _ _ _ _ _ _)
      | (with_reducible exact spec_l00Number.mono _ _)
      | (with_reducible exact spec_l01Find.mono _ _ _)
      | (with_reducible exact spec_l01Lower.mono _ _)
      | (with_reducible exact spec_l01OK.mono _ _ _ _ _ _ _ _ _ _)
      | (with_reducible exact LeO.refl _)
      | (with_reducible exact LeO.none _)
      | (with_reducible refine LeO.ite ?_ ?_)
      | (with_reducible refine LeO.bind ?_ (fun _ => ?_))
      | exact ih0 _ _ _ _ _ _ _ _ _ _ _
      | exact ih1 _ _ _ _ _ _ _ _ _ _
      | exact ih2 _ _ _ _ _ _ _ _ _ _
      | exact ih3 _ _ _ _ _ _ _ _ _ _ _
      | exact ih4 _ _ _ _ _ _ _ _ _ _
      | exact ih5 _ _ _ _ _ _ _ _ _ _ _
      | exact spec_l00Number.mono _ _
      | exact spec_l01Find.mono _ _ _
      | exact spec_l01Lower.mono _ _
      | exact spec_l01OK.mono _ _ _ _ _ _ _ _ _ _
      | exact LeO.none _
      | refine LeO.ite ?_ ?_
      | refine LeO.bind ?_ (fun _ => ?_)
    · intro y0 y1 y2 y3 y4 y5 y6 y7 y8 y9 y10
      unfold spec_l01Parse.j5
      repeat' first
      | (with_reducible exact ih0 _ _ _ _ _ _ _ _ _ _ _)
      | (with_reducible exact ih1 _ _ _ _ _ _ _ _ _ _)
      | (with_reducible exact ih2 _ _ _ _ _ _ _ _ _ _)
      | (with_reducible exact ih3 _ _ _ _ _ _ _ _ _ _ _)
      | (with_reducible exact ih4 _ _ _ _ _ _ _ _ _ _)
      | (with_reducible exact ih5 _ _ _ _ _ _ _ _ _ _ _)
      | (with_reducible exact spec_l00Number.mono _ _)
      | (with_reducible exact spec_l01Find.mono _ _ _)
      | (with_reducible exact spec_l01Lower.mono _ _)
      | (with_reducible exact spec_l01OK.mono _ _ _ _ _ _ _ _ _ _)
      | (with_reducible exact LeO.refl _)
      | (with_reducible exact LeO.none _)
      | (with_reducible refine LeO.ite ?_ ?_)
      | (with_reducible refine LeO.bind ?_ (fun _ => ?_))
      | exact ih0 _ _ _ _ _ _ _ _ _ _ _
      | exact ih1 _ _ _ _ _ _ _ _ _ _
      | exact ih2 _ _ _ _ _ _ _ _ _ _
      | exact ih3 _ _ _ _ _ _ _ _ _ _ _
      | exact ih4 _ _ _ _ _ _ _ _ _ _
      | exact ih5 _ _ _ _ _ _ _ _ _ _ _
      | exact spec_l00Number.mono _ _
      | exact spec_l01Find.mono _ _ _
      | exact spec_l01Lower.mono _ _
      | exact spec_l01OK.mono _ _ _ _ _ _ _ _ _ _
      | exact LeO.none _
      | refine LeO.ite ?_ ?_
      | refine LeO.bind ?_ (fun _ => ?_)
theorem spec_l01Parse.mono : ∀ a0 k, LeO (spec_l01Parse.f k a0) (spec_l01Parse.f (k + 1) a0) := by
  intro a0 k
  obtain ⟨ih0, ih1, ih2, ih3, ih4, ih5⟩ := spec_l01Parse.mono_l k
  unfold spec_l01Parse.f
  repeat' first
      | (with_reducible exact ih0 _ _ _ _ _ _ _ _ _ _ _)
      | (with_reducible exact ih1 _ _ _ _ _ _ _ _ _ _)
      | (with_reducible exact ih2 _ _ _ _ _ _ _ _ _ _)
      | (with_reducible exact ih3 _ _ _ _ _ _ _ _ _ _ _)
      | (with_reducible exact ih4 _ _ _ _ _ _ _ _ _ _)
      | (with_reducible exact ih5 _ _ _ _ _ _ _ _ _ _ _)
      | (with_reducible exact spec_l00Number.mono _ _)
      | (with_reducible exact spec_l01Find.mono _ _ _)
      | (with_reducible exact spec_l01Lower.mono _ _)
      | (with_reducible exact spec_l01OK.mono _ _ _ _ _ _ _ _ _ _)
      | (with_reducible exact LeO.refl _)
      | (with_reducible exact LeO.none _)
      | (with_reducible refine LeO.ite ?_ ?_)
      | (with_reducible refine LeO.bind ?_ (fun _ => ?_))
      | exact ih0 _ _ _ _ _ _ _ _ _ _ _
      | exact ih1 _ _ _ _ _ _ _ _ _ _
      | exact ih2 _ _ _ _ _ _ _ _ _ _
      | exact ih3 _ _ _ _ _ _ _ _ _ _ _
      | exact ih4 _ _ _ _ _ _ _ _ _ _
      | exact ih5 _ _ _ _ _ _ _ _ _ _ _
      | exact spec_l00Number.mono _ _
      | exact spec_l01Find.mono _ _ _
      | exact spec_l01Lower.mono _ _
      | exact spec_l01OK.mono _ _ _ _ _ _ _ _ _ _
      | exact LeO.none _
      | refine LeO.ite ?_ ?_
      | refine LeO.bind ?_ (fun _ => ?_)
set_option maxHeartbeats 40000000 in
set_option maxRecDepth 100000 in
theorem spec_l01Parse.calls (k : Nat) (a0 : ByteArray) (r1 : ByteArray) (r2 : ByteArray) (r3 : ByteArray) (r4 : Int) (r5 : ByteArray) (r6 : ByteArray) (r7 : ByteArray) (r8 : Bool) (r9 : Bool) (r10 : Bool) (w : World) (h : spec_l01Parse.f k a0 = some (r1, r2, r3, r4, r5, r6, r7, r8, r9, r10)) :
    Calls Tryz.prog 76 #[.string a0] w fun e w' => e = .returned (.tuple #[.agg #[.string r1, .string r2, .string r3, .int .i64 r4, .string r5, .string r6, .string r7, .bool r8, .bool r9], .bool r10]) ∧ Below w.heap.size w w' := by
 have hu32 := Tryz.underlying32
 have HB := Aside0.mk (Below.refl w.heap.size w)
 have H : ((spec_l01Find.f k a0 58).bind fun t165 => (if t165 = (a0.size : Int) then (some ((⟨#[]⟩ : ByteArray), (⟨#[]⟩ : ByteArray), (⟨#[]⟩ : ByteArray), 0, (⟨#[]⟩ : ByteArray), (⟨#[]⟩ : ByteArray), (⟨#[]⟩ : ByteArray), false, false, false)) else (if 0 ≤ t165 then (if t165 ≤ (a0.size : Int) then ((spec_l01Lower.f k (a0.extract 0 (t165 : Int).toNat)).bind fun t166 => (if 0 ≤ (wrap64 (t165 + 1)) then (if (wrap64 (t165 + 1)) ≤ (a0.size : Int) then ((spec_l01Web.f t166).bind fun t168 => (if t168 = true then (if ((a0.extract ((wrap64 (t165 + 1)) : Int).toNat a0.size).size : Int) < 2 then (spec_l01Parse.j0 k (a0.extract ((wrap64 (t165 + 1)) : Int).toNat a0.size) true t166 (⟨#[]⟩ : ByteArray) (⟨#[]⟩ : ByteArray) 0 (⟨#[]⟩ : ByteArray) (⟨#[]⟩ : ByteArray) (⟨#[]⟩ : ByteArray) false false) else (if 0 ≤ 2 then (if 2 ≤ ((a0.extract ((wrap64 (t165 + 1)) : Int).toNat a0.size).size : Int) then (spec_l01Parse.j0 k (a0.extract ((wrap64 (t165 + 1)) : Int).toNat a0.size) (((a0.extract ((wrap64 (t165 + 1)) : Int).toNat a0.size).extract 0 2).toList != ([47, 47] : List UInt8)) t166 (⟨#[]⟩ : ByteArray) (⟨#[]⟩ : ByteArray) 0 (⟨#[]⟩ : ByteArray) (⟨#[]⟩ : ByteArray) (⟨#[]⟩ : ByteArray) false false) else (none)) else (none))) else ((spec_l01Find.f k (a0.extract ((wrap64 (t165 + 1)) : Int).toNat a0.size) 35).bind fun t169 => (if 0 ≤ t169 then (if t169 ≤ ((a0.extract ((wrap64 (t165 + 1)) : Int).toNat a0.size).size : Int) then ((spec_l01Find.f k ((a0.extract ((wrap64 (t165 + 1)) : Int).toNat a0.size).extract 0 (t169 : Int).toNat) 63).bind fun t170 => (if 0 ≤ t170 then (if t170 ≤ (((a0.extract ((wrap64 (t165 + 1)) : Int).toNat a0.size).extract 0 (t169 : Int).toNat).size : Int) then ((spec_l01OK.f k t166 (⟨#[]⟩ : ByteArray) (⟨#[]⟩ : ByteArray) 0 (((a0.extract ((wrap64 (t165 + 1)) : Int).toNat a0.size).extract 0 (t169 : Int).toNat).extract 0 (t170 : Int).toNat) (⟨#[]⟩ : ByteArray) (⟨#[]⟩ : ByteArray) false false).bind fun t171 => (some (t166, (⟨#[]⟩ : ByteArray), (⟨#[]⟩ : ByteArray), 0, ((a0.extract ((wrap64 (t165 + 1)) : Int).toNat a0.size).extract 0 (t169 : Int).toNat).extract 0 (t170 : Int).toNat, (⟨#[]⟩ : ByteArray), (⟨#[]⟩ : ByteArray), false, false, t171))) else (none)) else (none))) else (none)) else (none))))) else (none)) else (none))) else (none)) else (none)))) = some (r1, r2, r3, r4, r5, r6, r7, r8, r9, r10) := h
 clear h
 obtain ⟨t165, A2, H⟩ := bindE_ H
 by_cases c3 : t165 = (a0.size : Int)
 ·
  rw [if_pos c3] at H
  have c3b0 : (t165 == (a0.size : Int)) = true := beq_iff_eq.mpr c3
  have c3b1 : (t165 != (a0.size : Int)) = false := bne_eq_false_iff_eq.mpr c3
  clear c3
  simp only [Option.some.injEq, Prod.mk.injEq] at H
  obtain ⟨rfl, rfl, rfl, rfl, rfl, rfl, rfl, rfl, rfl, rfl⟩ := H
  go_enter Tryz.func76, Tryz.ntmps76
  go_wp2_with (first | ((with_reducible refine gate_dst (N := 2) rfl ?_); refine box_event ?hg (N := 2) ?hd (cs := #[.string ⟨#[]⟩, .string ⟨#[]⟩, .string ⟨#[]⟩, .int .i64 0, .string ⟨#[]⟩, .string ⟨#[]⟩, .string ⟨#[]⟩, .bool false, .bool false]) (t := 32) ?hr ?_; (case hd => rfl); (case hg => rfl); (case hr => first | (go_simp; done) | (go_simp; rfl)); intro gb164 hg w4 hbox hb; have n0_ := belB_ hb; have n1_ := Aside0.mk (hbox); have n2_ := Aside0.mk ((by rw [hg]; exact (below_size belE_) : w.heap.size ≤ gb164)); have n3_ := Aside0.mk ((by rw [hg]; exact (below_size belE_) : w.heap.size ≤ gb164)); clear HB; have HB := n0_; have BK164 := n1_; have GW164 := n2_; have GE164 := n3_; clear n0_ n1_ n2_ n3_; clear hb hbox hg) | ((with_reducible refine gate_callee (f := 122) rfl ?_); refine cU_ (some 14) Tryz.func122 #[.string a0, .int .u8 58] ?_; (with_reducible refine (spec_l01Find.calls k a0 58 t165 _ A2.out).mono ?_); rintro e w' ⟨rfl, ⟨nd, rfl⟩⟩; refine ⟨_, rfl, ?_⟩; (try (rw [drewN_self w4]; generalize hq_ : World.drewN w4 _ = w4; have n0_ : Aside0 (w4.heap[gb164]? = some (.cells #[.string ⟨#[]⟩, .string ⟨#[]⟩, .string ⟨#[]⟩, .int .i64 0, .string ⟨#[]⟩, .string ⟨#[]⟩, .string ⟨#[]⟩, .bool false, .bool false] 32 (0, 0))) := ⟨by rw [← hq_]; exact (by (with_reducible repeat apply bd_); exact BK164.out)⟩; have n1_ : Aside0 (Below w.heap.size w w4) := ⟨by rw [← hq_]; exact belE_⟩; clear BK164 HB hq_; have BK164 := n0_; have HB := n1_; clear n0_ n1_; obtain ⟨hcz5_0, hcz5_1, hcz5_2, hcz5_3, hcz5_4, hcz5_5, hcz5_6, hcz5_7, hcz5_8, hfz5_0, hfz5_1, hfz5_2, hfz5_3, hfz5_4, hfz5_5, hfz5_6, hfz5_7, hfz5_8⟩ := cz9_ BK164)); obtain ⟨hcz5_0, hcz5_1, hcz5_2, hcz5_3, hcz5_4, hcz5_5, hcz5_6, hcz5_7, hcz5_8, hfz5_0, hfz5_1, hfz5_2, hfz5_3, hfz5_4, hfz5_5, hfz5_6, hfz5_7, hfz5_8⟩ := cz9_ BK164))
  refine bodyPost_ret (results_ct rfl _ _ gb164 32 #[.string ⟨#[]⟩, .string ⟨#[]⟩, .string ⟨#[]⟩, .int .i64 0, .string ⟨#[]⟩, .string ⟨#[]⟩, .string ⟨#[]⟩, .bool false, .bool false] (0, 0) _ rfl (by (with_reducible repeat apply bd_); refine blk_put (cs := #[.string ⟨#[]⟩, .string ⟨#[]⟩, .string ⟨#[]⟩, .int .i64 0, .string ⟨#[]⟩, .string ⟨#[]⟩, .string ⟨#[]⟩, .bool false, .bool false]) ?_ 8 _ rfl; (with_reducible repeat apply bd_); refine blk_put (cs := #[.string ⟨#[]⟩, .string ⟨#[]⟩, .string ⟨#[]⟩, .int .i64 0, .string ⟨#[]⟩, .string ⟨#[]⟩, .string ⟨#[]⟩, .bool false, .bool false]) ?_ 7 _ rfl; (with_reducible repeat apply bd_); refine blk_put (cs := #[.string ⟨#[]⟩, .string ⟨#[]⟩, .string ⟨#[]⟩, .int .i64 0, .string ⟨#[]⟩, .string ⟨#[]⟩, .string ⟨#[]⟩, .bool false, .bool false]) ?_ 6 _ rfl; (with_reducible repeat apply bd_); refine blk_put (cs := #[.string ⟨#[]⟩, .string ⟨#[]⟩, .string ⟨#[]⟩, .int .i64 0, .string ⟨#[]⟩, .string ⟨#[]⟩, .string ⟨#[]⟩, .bool false, .bool false]) ?_ 5 _ rfl; (with_reducible repeat apply bd_); refine blk_put (cs := #[.string ⟨#[]⟩, .string ⟨#[]⟩, .string ⟨#[]⟩, .int .i64 0, .string ⟨#[]⟩, .string ⟨#[]⟩, .string ⟨#[]⟩, .bool false, .bool false]) ?_ 4 _ rfl; (with_reducible repeat apply bd_); refine blk_put (cs := #[.string ⟨#[]⟩, .string ⟨#[]⟩, .string ⟨#[]⟩, .int .i64 0, .string ⟨#[]⟩, .string ⟨#[]⟩, .string ⟨#[]⟩, .bool false, .bool false]) ?_ 3 _ rfl; (with_reducible repeat apply bd_); refine blk_put (cs := #[.string ⟨#[]⟩, .string ⟨#[]⟩, .string ⟨#[]⟩, .int .i64 0, .string ⟨#[]⟩, .string ⟨#[]⟩, .string ⟨#[]⟩, .bool false, .bool false]) ?_ 2 _ rfl; (with_reducible repeat apply bd_); refine blk_put (cs := #[.string ⟨#[]⟩, .string ⟨#[]⟩, .string ⟨#[]⟩, .int .i64 0, .string ⟨#[]⟩, .string ⟨#[]⟩, .string ⟨#[]⟩, .bool false, .bool false]) ?_ 1 _ rfl; (with_reducible repeat apply bd_); refine blk_put (cs := #[.string ⟨#[]⟩, .string ⟨#[]⟩, .string ⟨#[]⟩, .int .i64 0, .string ⟨#[]⟩, .string ⟨#[]⟩, .string ⟨#[]⟩, .bool false, .bool false]) ?_ 0 _ rfl; (with_reducible repeat apply bd_); exact BK164.out) Tryz.underlying32 rfl (by kernel_rfl)) rfl ?_
  exact ⟨retE_, belE_⟩
 ·
  rw [if_neg c3] at H
  have c3b0 : (t165 == (a0.size : Int)) = false := beq_eq_false_iff_ne.mpr c3
  have c3b1 : (t165 != (a0.size : Int)) = true := bne_iff_ne.mpr c3
  by_cases c6 : 0 ≤ t165
  ·
   rw [if_pos c6] at H
   have c6b0 := eq_true c6
   have c6b1 : decide (0 ≤ t165) = true := decide_eq_true c6
   clear c6
   by_cases c7 : t165 ≤ (a0.size : Int)
   ·
    rw [if_pos c7] at H
    have c7b0 := eq_true c7
    have c7b1 : decide (t165 ≤ (a0.size : Int)) = true := decide_eq_true c7
    clear c7
    obtain ⟨t166, A8, H⟩ := bindE_ H
    obtain ⟨ji9, hji9⟩ : ∃ j_ : Int, (wrap64 (t165 + 1)) = j_ := ⟨_, rfl⟩
    replace H : (if 0 ≤ (ji9) then (if (ji9) ≤ (a0.size : Int) then ((spec_l01Web.f t166).bind fun t168 => (if t168 = true then (if ((a0.extract ((ji9) : Int).toNat a0.size).size : Int) < 2 then (spec_l01Parse.j0 k (a0.extract ((ji9) : Int).toNat a0.size) true t166 (⟨#[]⟩ : ByteArray) (⟨#[]⟩ : ByteArray) 0 (⟨#[]⟩ : ByteArray) (⟨#[]⟩ : ByteArray) (⟨#[]⟩ : ByteArray) false false) else (if 0 ≤ 2 then (if 2 ≤ ((a0.extract ((ji9) : Int).toNat a0.size).size : Int) then (spec_l01Parse.j0 k (a0.extract ((ji9) : Int).toNat a0.size) (((a0.extract ((ji9) : Int).toNat a0.size).extract 0 2).toList != ([47, 47] : List UInt8)) t166 (⟨#[]⟩ : ByteArray) (⟨#[]⟩ : ByteArray) 0 (⟨#[]⟩ : ByteArray) (⟨#[]⟩ : ByteArray) (⟨#[]⟩ : ByteArray) false false) else (none)) else (none))) else ((spec_l01Find.f k (a0.extract ((ji9) : Int).toNat a0.size) 35).bind fun t169 => (if 0 ≤ t169 then (if t169 ≤ ((a0.extract ((ji9) : Int).toNat a0.size).size : Int) then ((spec_l01Find.f k ((a0.extract ((ji9) : Int).toNat a0.size).extract 0 (t169 : Int).toNat) 63).bind fun t170 => (if 0 ≤ t170 then (if t170 ≤ (((a0.extract ((ji9) : Int).toNat a0.size).extract 0 (t169 : Int).toNat).size : Int) then ((spec_l01OK.f k t166 (⟨#[]⟩ : ByteArray) (⟨#[]⟩ : ByteArray) 0 (((a0.extract ((ji9) : Int).toNat a0.size).extract 0 (t169 : Int).toNat).extract 0 (t170 : Int).toNat) (⟨#[]⟩ : ByteArray) (⟨#[]⟩ : ByteArray) false false).bind fun t171 => (some (t166, (⟨#[]⟩ : ByteArray), (⟨#[]⟩ : ByteArray), 0, ((a0.extract ((ji9) : Int).toNat a0.size).extract 0 (t169 : Int).toNat).extract 0 (t170 : Int).toNat, (⟨#[]⟩ : ByteArray), (⟨#[]⟩ : ByteArray), false, false, t171))) else (none)) else (none))) else (none)) else (none))))) else (none)) else (none)) = some (r1, r2, r3, r4, r5, r6, r7, r8, r9, r10) := by first | (rw [hji9] at H; exact H) | (simp only [hji9] at H ⊢; exact H)
    (try rw [hji9] at A2)
    (try rw [hji9] at A8)
    have hji9w : (IntKind.i64.wrap (t165 + 1)) = ji9 := (i64_w _).trans hji9
    by_cases c10 : 0 ≤ (ji9)
    ·
     rw [if_pos c10] at H
     have c10b0 := eq_true c10
     have c10b1 : decide (0 ≤ (ji9)) = true := decide_eq_true c10
     clear c10
     by_cases c11 : (ji9) ≤ (a0.size : Int)
     ·
      rw [if_pos c11] at H
      have c11b0 := eq_true c11
      have c11b1 : decide ((ji9) ≤ (a0.size : Int)) = true := decide_eq_true c11
      clear c11
      obtain ⟨t168, A12, H⟩ := bindE_ H
      by_cases c13 : t168 = true
      ·
       subst c13
       replace H := ifT_ H
       have HC14 := Aside0.mk H
       clear H
       go_enter Tryz.func76, Tryz.ntmps76
       go_upto_region 12 with (first | ((with_reducible refine gate_dst (N := 2) rfl ?_); refine box_event ?hg (N := 2) ?hd (cs := #[.string ⟨#[]⟩, .string ⟨#[]⟩, .string ⟨#[]⟩, .int .i64 0, .string ⟨#[]⟩, .string ⟨#[]⟩, .string ⟨#[]⟩, .bool false, .bool false]) (t := 32) ?hr ?_; (case hd => rfl); (case hg => rfl); (case hr => first | (go_simp; done) | (go_simp; rfl)); intro gb164 hg w15 hbox hb; have n0_ := belB_ hb; have n1_ := Aside0.mk (hbox); have n2_ := Aside0.mk ((by rw [hg]; exact (below_size belE_) : w.heap.size ≤ gb164)); have n3_ := Aside0.mk ((by rw [hg]; exact (below_size belE_) : w.heap.size ≤ gb164)); clear HB; have HB := n0_; have BK164 := n1_; have GW164 := n2_; have GE164 := n3_; clear n0_ n1_ n2_ n3_; clear hb hbox hg) | ((with_reducible refine gate_callee (f := 122) rfl ?_); refine cU_ (some 14) Tryz.func122 #[.string a0, .int .u8 58] ?_; (with_reducible refine (spec_l01Find.calls k a0 58 t165 _ A2.out).mono ?_); rintro e w' ⟨rfl, ⟨nd, rfl⟩⟩; refine ⟨_, rfl, ?_⟩; (try (rw [drewN_self w15]; generalize hq_ : World.drewN w15 _ = w15; have n0_ : Aside0 (w15.heap[gb164]? = some (.cells #[.string ⟨#[]⟩, .string ⟨#[]⟩, .string ⟨#[]⟩, .int .i64 0, .string ⟨#[]⟩, .string ⟨#[]⟩, .string ⟨#[]⟩, .bool false, .bool false] 32 (0, 0))) := ⟨by rw [← hq_]; exact (by (with_reducible repeat apply bd_); exact BK164.out)⟩; have n1_ : Aside0 (Below w.heap.size w w15) := ⟨by rw [← hq_]; exact belE_⟩; clear BK164 HB hq_; have BK164 := n0_; have HB := n1_; clear n0_ n1_))) | ((with_reducible refine gate_callee (f := 123) rfl ?_); refine cU_ (some 23) Tryz.func123 #[.string (a0.extract 0 (t165 : Int).toNat)] ?_; (with_reducible refine (spec_l01Lower.calls k (a0.extract 0 (t165 : Int).toNat) t166 _ A8.out).mono ?_); rintro e w16 ⟨rfl, hb⟩; refine ⟨_, rfl, ?_⟩; replace BK164 := blkK_ BK164 hb; replace HB := belB_ hb; (try clear hb)) | ((with_reducible refine gate_dst (N := 5) rfl ?_); refine box_event ?hg (N := 5) ?hd (cs := #[.string ⟨#[]⟩, .string ⟨#[]⟩, .string ⟨#[]⟩, .int .i64 0, .string ⟨#[]⟩, .string ⟨#[]⟩, .string ⟨#[]⟩, .bool false, .bool false]) (t := 32) ?hr ?_; (case hd => rfl); (case hg => rfl); (case hr => first | (go_simp; done) | (go_simp; rfl)); intro gb167 hg w17 hbox hb; have n0_ := blkB_ (g := gb164) (o := .cells #[.string ⟨#[]⟩, .string ⟨#[]⟩, .string ⟨#[]⟩, .int .i64 0, .string ⟨#[]⟩, .string ⟨#[]⟩, .string ⟨#[]⟩, .bool false, .bool false] 32 (0, 0)) hb; have n1_ := belB_ hb; have n2_ := Aside0.mk (hbox); have n3_ := Aside0.mk ((by rw [hg]; exact (below_size belE_) : w.heap.size ≤ gb167)); have n4_ := Aside0.mk ((by rw [hg]; exact (below_size belE_) : w.heap.size ≤ gb167)); have n5_ := Aside0.mk ((by rw [hg]; exact Nat.ne_of_lt (blk_lt (g := gb164) (o := .cells #[.string ⟨#[]⟩, .string ⟨#[]⟩, .string ⟨#[]⟩, .int .i64 0, .string ⟨#[]⟩, .string ⟨#[]⟩, .string ⟨#[]⟩, .bool false, .bool false] 32 (0, 0)) (by (with_reducible repeat apply bd_); exact BK164.out)) : gb164 ≠ gb167)); have n6_ := Aside0.mk ((by rw [hg]; exact Nat.ne_of_gt (blk_lt (g := gb164) (o := .cells #[.string ⟨#[]⟩, .string ⟨#[]⟩, .string ⟨#[]⟩, .int .i64 0, .string ⟨#[]⟩, .string ⟨#[]⟩, .string ⟨#[]⟩, .bool false, .bool false] 32 (0, 0)) (by (with_reducible repeat apply bd_); exact BK164.out)) : gb167 ≠ gb164)); clear BK164; clear HB; have BK164 := n0_; have HB := n1_; have BK167 := n2_; have GW167 := n3_; have GE167 := n4_; have NB164_167 := n5_; have NB167_164 := n6_; clear n0_ n1_ n2_ n3_ n4_ n5_ n6_; clear hb hbox hg; have hnb18 := NB167_164.out; have hnc18 := NB164_167.out; obtain ⟨hcz19_0, hcz19_1, hcz19_2, hcz19_3, hcz19_4, hcz19_5, hcz19_6, hcz19_7, hcz19_8, hfz19_0, hfz19_1, hfz19_2, hfz19_3, hfz19_4, hfz19_5, hfz19_6, hfz19_7, hfz19_8⟩ := cz9_ BK167) | ((with_reducible refine gate_callee (f := 61) rfl ?_); refine cU_ (some 31) Tryz.func61 #[.string t166] ?_; (with_reducible refine (spec_l01Web.calls t166 true _ A12.out).mono ?_); rintro e w' ⟨rfl, ⟨nd, rfl⟩⟩; refine ⟨_, rfl, ?_⟩))
       (try simp only [Act.put, List.setIfInBounds_toArray, List.set_cons_zero, List.set_cons_succ])
       go_cut [54] (fun v54 wc => ∃ (kq : Nat) (x54_13 : Bool), v54 = .bool x54_13 ∧ Aside0 (spec_l01Parse.j0 kq (a0.extract ((ji9) : Int).toNat a0.size) x54_13 t166 (⟨#[]⟩ : ByteArray) (⟨#[]⟩ : ByteArray) 0 (⟨#[]⟩ : ByteArray) (⟨#[]⟩ : ByteArray) (⟨#[]⟩ : ByteArray) false false = some (r1, r2, r3, r4, r5, r6, r7, r8, r9, r10)) ∧ Aside0 (kq ≤ k) ∧ Aside0 (wc.heap[gb164]? = some (.cells #[.string ⟨#[]⟩, .string ⟨#[]⟩, .string ⟨#[]⟩, .int .i64 0, .string ⟨#[]⟩, .string ⟨#[]⟩, .string ⟨#[]⟩, .bool false, .bool false] 32 (0, 0))) ∧ Aside0 (wc.heap[gb167]? = some (.cells #[.string t166, .string ⟨#[]⟩, .string ⟨#[]⟩, .int .i64 0, .string ⟨#[]⟩, .string ⟨#[]⟩, .string ⟨#[]⟩, .bool false, .bool false] 32 (0, 0))) ∧ Aside0 (Below w.heap.size w wc))
       case first =>
        have H := HC14.out
        clear HC14
        by_cases c20 : ((a0.extract ((ji9) : Int).toNat a0.size).size : Int) < 2
        ·
         rw [if_pos c20] at H
         have c20b0 : decide (((a0.extract ((ji9) : Int).toNat a0.size).size : Int) < 2) = true := decide_eq_true c20
         try (have c20e0 := c20b0; simp only [ByteArray.size_extract, Nat.min_self, Nat.sub_zero] at c20e0)
         have c20b1 : decide ((a0.extract ((ji9) : Int).toNat a0.size).size < 2) = true := decide_eq_true (by omega)
         try (have c20e1 := c20b1; simp only [ByteArray.size_extract, Nat.min_self, Nat.sub_zero] at c20e1)
         try (have c20e0 := eq_true (of_decide_eq_true c20e1))
         clear c20
         (first | rw [c20b0] | (simp only [i64_w, i32_w]; rw [c20b0]) | skip)
         have H' := Aside0.mk H
         clear H
         go_wp2
         go_meet
         case rel => exact ⟨_, (true), eqE_, H', ⟨leE_⟩, ⟨farE_⟩, ⟨by (with_reducible repeat apply bd_); refine blk_put (cs := #[.string t166, .string ⟨#[]⟩, .string ⟨#[]⟩, .int .i64 0, .string ⟨#[]⟩, .string ⟨#[]⟩, .string ⟨#[]⟩, .bool false, .bool false]) ?_ 8 _ rfl; (with_reducible repeat apply bd_); refine blk_put (cs := #[.string t166, .string ⟨#[]⟩, .string ⟨#[]⟩, .int .i64 0, .string ⟨#[]⟩, .string ⟨#[]⟩, .string ⟨#[]⟩, .bool false, .bool false]) ?_ 7 _ rfl; (with_reducible repeat apply bd_); refine blk_put (cs := #[.string t166, .string ⟨#[]⟩, .string ⟨#[]⟩, .int .i64 0, .string ⟨#[]⟩, .string ⟨#[]⟩, .string ⟨#[]⟩, .bool false, .bool false]) ?_ 6 _ rfl; (with_reducible repeat apply bd_); refine blk_put (cs := #[.string t166, .string ⟨#[]⟩, .string ⟨#[]⟩, .int .i64 0, .string ⟨#[]⟩, .string ⟨#[]⟩, .string ⟨#[]⟩, .bool false, .bool false]) ?_ 5 _ rfl; (with_reducible repeat apply bd_); refine blk_put (cs := #[.string t166, .string ⟨#[]⟩, .string ⟨#[]⟩, .int .i64 0, .string ⟨#[]⟩, .string ⟨#[]⟩, .string ⟨#[]⟩, .bool false, .bool false]) ?_ 4 _ rfl; (with_reducible repeat apply bd_); refine blk_put (cs := #[.string t166, .string ⟨#[]⟩, .string ⟨#[]⟩, .int .i64 0, .string ⟨#[]⟩, .string ⟨#[]⟩, .string ⟨#[]⟩, .bool false, .bool false]) ?_ 3 _ rfl; (with_reducible repeat apply bd_); refine blk_put (cs := #[.string t166, .string ⟨#[]⟩, .string ⟨#[]⟩, .int .i64 0, .string ⟨#[]⟩, .string ⟨#[]⟩, .string ⟨#[]⟩, .bool false, .bool false]) ?_ 2 _ rfl; (with_reducible repeat apply bd_); refine blk_put (cs := #[.string t166, .string ⟨#[]⟩, .string ⟨#[]⟩, .int .i64 0, .string ⟨#[]⟩, .string ⟨#[]⟩, .string ⟨#[]⟩, .bool false, .bool false]) ?_ 1 _ rfl; (with_reducible repeat apply bd_); refine blk_put (cs := #[.string ⟨#[]⟩, .string ⟨#[]⟩, .string ⟨#[]⟩, .int .i64 0, .string ⟨#[]⟩, .string ⟨#[]⟩, .string ⟨#[]⟩, .bool false, .bool false]) ?_ 0 _ rfl; (with_reducible repeat apply bd_); exact BK167.out⟩, ⟨belE_⟩⟩
        ·
         rw [if_neg c20] at H
         have c20b0 : decide (((a0.extract ((ji9) : Int).toNat a0.size).size : Int) < 2) = false := decide_eq_false c20
         try (have c20e0 := c20b0; simp only [ByteArray.size_extract, Nat.min_self, Nat.sub_zero] at c20e0)
         have c20b1 : decide ((a0.extract ((ji9) : Int).toNat a0.size).size < 2) = false := decide_eq_false (by omega)
         try (have c20e1 := c20b1; simp only [ByteArray.size_extract, Nat.min_self, Nat.sub_zero] at c20e1)
         try (have c20e0 := eq_true (of_decide_eq_true c20e1))
         clear c20
         (first | rw [c20b0] | (simp only [i64_w, i32_w]; rw [c20b0]) | skip)
         by_cases c21 : 0 ≤ 2
         ·
          rw [if_pos c21] at H
          have c21b0 := eq_true c21
          have c21b1 : decide (0 ≤ 2) = true := decide_eq_true c21
          clear c21
          by_cases c22 : 2 ≤ ((a0.extract ((ji9) : Int).toNat a0.size).size : Int)
          ·
           rw [if_pos c22] at H
           have c22b0 := eq_true c22
           have c22b1 : decide (2 ≤ ((a0.extract ((ji9) : Int).toNat a0.size).size : Int)) = true := decide_eq_true c22
           try (have c22e1 := c22b1; simp only [ByteArray.size_extract, Nat.min_self, Nat.sub_zero] at c22e1)
           try (have c22e0 := eq_true (of_decide_eq_true c22e1))
           try (have c22e8 := of_decide_eq_true c22e1; simp only [Int.ofNat_le] at c22e8)
           clear c22
           have H' := Aside0.mk H
           clear H
           go_wp2
           go_meet
           case rel => exact ⟨_, ((((a0.extract ((ji9) : Int).toNat a0.size).extract 0 2).toList != ([47, 47] : List UInt8))), (by first | rfl | (simp; done) | (simp only [← hji9] <;> (first | rfl | simp)) | (simp [*]; done)), H', ⟨leE_⟩, ⟨farE_⟩, ⟨by (with_reducible repeat apply bd_); refine blk_put (cs := #[.string t166, .string ⟨#[]⟩, .string ⟨#[]⟩, .int .i64 0, .string ⟨#[]⟩, .string ⟨#[]⟩, .string ⟨#[]⟩, .bool false, .bool false]) ?_ 8 _ rfl; (with_reducible repeat apply bd_); refine blk_put (cs := #[.string t166, .string ⟨#[]⟩, .string ⟨#[]⟩, .int .i64 0, .string ⟨#[]⟩, .string ⟨#[]⟩, .string ⟨#[]⟩, .bool false, .bool false]) ?_ 7 _ rfl; (with_reducible repeat apply bd_); refine blk_put (cs := #[.string t166, .string ⟨#[]⟩, .string ⟨#[]⟩, .int .i64 0, .string ⟨#[]⟩, .string ⟨#[]⟩, .string ⟨#[]⟩, .bool false, .bool false]) ?_ 6 _ rfl; (with_reducible repeat apply bd_); refine blk_put (cs := #[.string t166, .string ⟨#[]⟩, .string ⟨#[]⟩, .int .i64 0, .string ⟨#[]⟩, .string ⟨#[]⟩, .string ⟨#[]⟩, .bool false, .bool false]) ?_ 5 _ rfl; (with_reducible repeat apply bd_); refine blk_put (cs := #[.string t166, .string ⟨#[]⟩, .string ⟨#[]⟩, .int .i64 0, .string ⟨#[]⟩, .string ⟨#[]⟩, .string ⟨#[]⟩, .bool false, .bool false]) ?_ 4 _ rfl; (with_reducible repeat apply bd_); refine blk_put (cs := #[.string t166, .string ⟨#[]⟩, .string ⟨#[]⟩, .int .i64 0, .string ⟨#[]⟩, .string ⟨#[]⟩, .string ⟨#[]⟩, .bool false, .bool false]) ?_ 3 _ rfl; (with_reducible repeat apply bd_); refine blk_put (cs := #[.string t166, .string ⟨#[]⟩, .string ⟨#[]⟩, .int .i64 0, .string ⟨#[]⟩, .string ⟨#[]⟩, .string ⟨#[]⟩, .bool false, .bool false]) ?_ 2 _ rfl; (with_reducible repeat apply bd_); refine blk_put (cs := #[.string t166, .string ⟨#[]⟩, .string ⟨#[]⟩, .int .i64 0, .string ⟨#[]⟩, .string ⟨#[]⟩, .string ⟨#[]⟩, .bool false, .bool false]) ?_ 1 _ rfl; (with_reducible repeat apply bd_); refine blk_put (cs := #[.string ⟨#[]⟩, .string ⟨#[]⟩, .string ⟨#[]⟩, .int .i64 0, .string ⟨#[]⟩, .string ⟨#[]⟩, .string ⟨#[]⟩, .bool false, .bool false]) ?_ 0 _ rfl; (with_reducible repeat apply bd_); exact BK167.out⟩, ⟨belE_⟩⟩
          ·
           rw [if_neg c22] at H
           exact absurd H (by simp)
         ·
          rw [if_neg c21] at H
          exact absurd H (by simp)
       case rest =>
        clear HC14
        try clear c3
        try clear c3b0
        try clear c3b1
        try clear c6
        try clear c6b0
        try clear c6b1
        try clear c7
        try clear c7b0
        try clear c7b1
        try clear c10
        try clear c10b0
        try clear c10b1
        try clear c11
        try clear c11b0
        try clear c11b1
        try clear c13
        try clear hcz19_0 hcz19_1 hcz19_2 hcz19_3 hcz19_4 hcz19_5 hcz19_6 hcz19_7 hcz19_8
        try clear hcz5_0 hcz5_1 hcz5_2 hcz5_3 hcz5_4 hcz5_5 hcz5_6 hcz5_7 hcz5_8
        try clear hfz19_0 hfz19_1 hfz19_2 hfz19_3 hfz19_4 hfz19_5 hfz19_6 hfz19_7 hfz19_8
        try clear hfz5_0 hfz5_1 hfz5_2 hfz5_3 hfz5_4 hfz5_5 hfz5_6 hfz5_7 hfz5_8
        obtain ⟨kq, x54_13, rfl, HA, HJ13, BK164, BK167, HB⟩ := hcut
        generalize a0.extract ((ji9) : Int).toNat a0.size = s6_ at HA ⊢
        cases kq with
        | zero => exact absurd HA.out (by simp [spec_l01Parse.j0])
        | succ kj13 =>
         have H := HA.out
         clear HA
         simp only [spec_l01Parse.j0] at H
         by_cases c23 : x54_13 = true
         ·
          subst c23
          replace H := ifT_ H
          simp only [Option.some.injEq, Prod.mk.injEq] at H
          obtain ⟨rfl, rfl, rfl, rfl, rfl, rfl, rfl, rfl, rfl, rfl⟩ := H
          have hnb24 := NB164_167.out
          have hnc24 := NB167_164.out
          obtain ⟨hcz25_0, hcz25_1, hcz25_2, hcz25_3, hcz25_4, hcz25_5, hcz25_6, hcz25_7, hcz25_8, hfz25_0, hfz25_1, hfz25_2, hfz25_3, hfz25_4, hfz25_5, hfz25_6, hfz25_7, hfz25_8⟩ := cz9_ BK164
          go_wp2
          refine bodyPost_ret (results_ct rfl _ _ gb164 32 #[.string ⟨#[]⟩, .string ⟨#[]⟩, .string ⟨#[]⟩, .int .i64 0, .string ⟨#[]⟩, .string ⟨#[]⟩, .string ⟨#[]⟩, .bool false, .bool false] (0, 0) _ rfl (by (with_reducible repeat apply bd_); refine blk_put (cs := #[.string ⟨#[]⟩, .string ⟨#[]⟩, .string ⟨#[]⟩, .int .i64 0, .string ⟨#[]⟩, .string ⟨#[]⟩, .string ⟨#[]⟩, .bool false, .bool false]) ?_ 8 _ rfl; (with_reducible repeat apply bd_); refine blk_put (cs := #[.string ⟨#[]⟩, .string ⟨#[]⟩, .string ⟨#[]⟩, .int .i64 0, .string ⟨#[]⟩, .string ⟨#[]⟩, .string ⟨#[]⟩, .bool false, .bool false]) ?_ 7 _ rfl; (with_reducible repeat apply bd_); refine blk_put (cs := #[.string ⟨#[]⟩, .string ⟨#[]⟩, .string ⟨#[]⟩, .int .i64 0, .string ⟨#[]⟩, .string ⟨#[]⟩, .string ⟨#[]⟩, .bool false, .bool false]) ?_ 6 _ rfl; (with_reducible repeat apply bd_); refine blk_put (cs := #[.string ⟨#[]⟩, .string ⟨#[]⟩, .string ⟨#[]⟩, .int .i64 0, .string ⟨#[]⟩, .string ⟨#[]⟩, .string ⟨#[]⟩, .bool false, .bool false]) ?_ 5 _ rfl; (with_reducible repeat apply bd_); refine blk_put (cs := #[.string ⟨#[]⟩, .string ⟨#[]⟩, .string ⟨#[]⟩, .int .i64 0, .string ⟨#[]⟩, .string ⟨#[]⟩, .string ⟨#[]⟩, .bool false, .bool false]) ?_ 4 _ rfl; (with_reducible repeat apply bd_); refine blk_put (cs := #[.string ⟨#[]⟩, .string ⟨#[]⟩, .string ⟨#[]⟩, .int .i64 0, .string ⟨#[]⟩, .string ⟨#[]⟩, .string ⟨#[]⟩, .bool false, .bool false]) ?_ 3 _ rfl; (with_reducible repeat apply bd_); refine blk_put (cs := #[.string ⟨#[]⟩, .string ⟨#[]⟩, .string ⟨#[]⟩, .int .i64 0, .string ⟨#[]⟩, .string ⟨#[]⟩, .string ⟨#[]⟩, .bool false, .bool false]) ?_ 2 _ rfl; (with_reducible repeat apply bd_); refine blk_put (cs := #[.string ⟨#[]⟩, .string ⟨#[]⟩, .string ⟨#[]⟩, .int .i64 0, .string ⟨#[]⟩, .string ⟨#[]⟩, .string ⟨#[]⟩, .bool false, .bool false]) ?_ 1 _ rfl; (with_reducible repeat apply bd_); refine blk_put (cs := #[.string ⟨#[]⟩, .string ⟨#[]⟩, .string ⟨#[]⟩, .int .i64 0, .string ⟨#[]⟩, .string ⟨#[]⟩, .string ⟨#[]⟩, .bool false, .bool false]) ?_ 0 _ rfl; (with_reducible repeat apply bd_); exact BK164.out) Tryz.underlying32 rfl (by kernel_rfl)) rfl ?_
          exact ⟨by first | rfl | (simp [errW_none, errW_some] <;> rfl) | (simp only [← hji9]; first | rfl | (simp [errW_none, errW_some] <;> rfl)) | (simp [*, errW_none, errW_some] <;> rfl), belE_⟩
         ·
          replace c23 := Bool.eq_false_iff.mpr c23
          subst c23
          replace H := ifF_ H
          by_cases c26 : 2 ≤ (s6_.size : Int)
          ·
           rw [if_pos c26] at H
           have c26b0 := eq_true c26
           have c26b1 : decide (2 ≤ (s6_.size : Int)) = true := decide_eq_true c26
           try (have c26e1 := c26b1; simp only [ByteArray.size_extract, Nat.min_self, Nat.sub_zero] at c26e1)
           try (have c26e0 := eq_true (of_decide_eq_true c26e1))
           try (have c26e8 := of_decide_eq_true c26e1; simp only [Int.ofNat_le] at c26e8)
           clear c26
           obtain ⟨t172, A27, H⟩ := bindE_ H
           have HC28 := Aside0.mk H
           clear H
           go_upto_if 63 with (first | ((with_reducible refine gate_callee (f := 122) rfl ?_); generalize (s6_.extract 2 s6_.size) = s7_ at *; refine goesL_ (some 59) rfl rfl Tryz.func122 (by kernel_rfl) rfl #[.string s7_, .int .u8 35] rfl (by (try simp only [List.map_toArray, List.map_cons, List.map_nil]); first | done | (simp only [hji9]; rfl) | rfl | (simp only [List.length_drop, List.length_take]; rfl)) ?_; (with_reducible refine (spec_l01Find.calls kj13 s7_ 35 t172 _ A27.out).mono ?_); rintro e w' ⟨rfl, ⟨nd, rfl⟩⟩; refine ⟨_, rfl, ?_⟩))
           (try simp only [Act.put, List.setIfInBounds_toArray, List.set_cons_zero, List.set_cons_succ])
           go_cut [6] (fun v6 wc => ∃ (kq : Nat) (x6_27 : ByteArray) (x168006_27 : ByteArray) (x168008_27 : Bool), v6 = .string x6_27 ∧ Aside0 (spec_l01Parse.j1 kq x6_27 t166 (⟨#[]⟩ : ByteArray) (⟨#[]⟩ : ByteArray) 0 (⟨#[]⟩ : ByteArray) (⟨#[]⟩ : ByteArray) x168006_27 false x168008_27 = some (r1, r2, r3, r4, r5, r6, r7, r8, r9, r10)) ∧ Aside0 (kq ≤ kj13) ∧ Aside0 (wc.heap[gb164]? = some (.cells #[.string ⟨#[]⟩, .string ⟨#[]⟩, .string ⟨#[]⟩, .int .i64 0, .string ⟨#[]⟩, .string ⟨#[]⟩, .string ⟨#[]⟩, .bool false, .bool false] 32 (0, 0))) ∧ Aside0 (wc.heap[gb167]? = some (.cells #[.string t166, .string ⟨#[]⟩, .string ⟨#[]⟩, .int .i64 0, .string ⟨#[]⟩, .string ⟨#[]⟩, .string x168006_27, .bool false, .bool x168008_27] 32 (0, 0))) ∧ Aside0 (Below w.heap.size w wc))
           case first =>
            have H := HC28.out
            clear HC28
            by_cases c29 : t172 < (s7_.size : Int)
            ·
             rw [if_pos c29] at H
             have c29b0 : decide (t172 < (s7_.size : Int)) = true := decide_eq_true c29
             try (have c29e0 := c29b0; simp only [ByteArray.size_extract, Nat.min_self, Nat.sub_zero] at c29e0)
             clear c29
             (first | rw [c29b0] | (simp only [i64_w, i32_w]; rw [c29b0]) | skip)
             obtain ⟨ji30, hji30⟩ : ∃ j_ : Int, (wrap64 (t172 + 1)) = j_ := ⟨_, rfl⟩
             replace H : (if 0 ≤ (ji30) then (if (ji30) ≤ (s7_.size : Int) then (if 0 ≤ t172 then (if t172 ≤ (s7_.size : Int) then (spec_l01Parse.j1 kj13 (s7_.extract 0 (t172 : Int).toNat) t166 (⟨#[]⟩ : ByteArray) (⟨#[]⟩ : ByteArray) 0 (⟨#[]⟩ : ByteArray) (⟨#[]⟩ : ByteArray) (s7_.extract ((ji30) : Int).toNat s7_.size) false true) else (none)) else (none)) else (none)) else (none)) = some (r1, r2, r3, r4, r5, r6, r7, r8, r9, r10) := by first | (rw [hji30] at H; exact H) | (simp only [hji30] at H ⊢; exact H)
             have hji30w : (IntKind.i64.wrap (t172 + 1)) = ji30 := (i64_w _).trans hji30
             by_cases c31 : 0 ≤ (ji30)
             ·
              rw [if_pos c31] at H
              have c31b0 := eq_true c31
              have c31b1 : decide (0 ≤ (ji30)) = true := decide_eq_true c31
              clear c31
              by_cases c32 : (ji30) ≤ (s7_.size : Int)
              ·
               rw [if_pos c32] at H
               have c32b0 := eq_true c32
               have c32b1 : decide ((ji30) ≤ (s7_.size : Int)) = true := decide_eq_true c32
               try (have c32e1 := c32b1; simp only [ByteArray.size_extract, Nat.min_self, Nat.sub_zero] at c32e1)
               try (have c32e0 := eq_true (of_decide_eq_true c32e1))
               clear c32
               by_cases c33 : 0 ≤ t172
               ·
                rw [if_pos c33] at H
                have c33b0 := eq_true c33
                have c33b1 : decide (0 ≤ t172) = true := decide_eq_true c33
                clear c33
                by_cases c34 : t172 ≤ (s7_.size : Int)
                ·
                 rw [if_pos c34] at H
                 have c34b0 := eq_true c34
                 have c34b1 : decide (t172 ≤ (s7_.size : Int)) = true := decide_eq_true c34
                 try (have c34e1 := c34b1; simp only [ByteArray.size_extract, Nat.min_self, Nat.sub_zero] at c34e1)
                 try (have c34e0 := eq_true (of_decide_eq_true c34e1))
                 clear c34
                 have H' := Aside0.mk H
                 clear H
                 have hnb35 := NB167_164.out
                 have hnc35 := NB164_167.out
                 obtain ⟨hcz36_0, hcz36_1, hcz36_2, hcz36_3, hcz36_4, hcz36_5, hcz36_6, hcz36_7, hcz36_8, hfz36_0, hfz36_1, hfz36_2, hfz36_3, hfz36_4, hfz36_5, hfz36_6, hfz36_7, hfz36_8⟩ := cz9_ BK167
                 go_wp2
                 go_meet
                 case rel => exact ⟨_, (s7_.extract 0 (t172 : Int).toNat), (s7_.extract ((ji30) : Int).toNat s7_.size), (true), (by first | rfl | (simp; done) | (simp only [← hji9] <;> (first | rfl | simp)) | (simp [*]; done)), H', ⟨by have := HJ13.out; first | omega | exact Nat.le_refl _⟩, ⟨farE_⟩, ⟨by (with_reducible repeat apply bd_); refine blk_put (cs := #[.string t166, .string ⟨#[]⟩, .string ⟨#[]⟩, .int .i64 0, .string ⟨#[]⟩, .string ⟨#[]⟩, .string ⟨#[]⟩, .bool false, .bool true]) ?_ 6 _ rfl; (with_reducible repeat apply bd_); refine blk_put (cs := #[.string t166, .string ⟨#[]⟩, .string ⟨#[]⟩, .int .i64 0, .string ⟨#[]⟩, .string ⟨#[]⟩, .string ⟨#[]⟩, .bool false, .bool false]) ?_ 8 _ rfl; (with_reducible repeat apply bd_); exact BK167.out⟩, ⟨belE_⟩⟩
                ·
                 rw [if_neg c34] at H
                 exact absurd H (by simp)
               ·
                rw [if_neg c33] at H
                exact absurd H (by simp)
              ·
               rw [if_neg c32] at H
               exact absurd H (by simp)
             ·
              rw [if_neg c31] at H
              exact absurd H (by simp)
            ·
             rw [if_neg c29] at H
             have c29b0 : decide (t172 < (s7_.size : Int)) = false := decide_eq_false c29
             try (have c29e0 := c29b0; simp only [ByteArray.size_extract, Nat.min_self, Nat.sub_zero] at c29e0)
             clear c29
             (first | rw [c29b0] | (simp only [i64_w, i32_w]; rw [c29b0]) | skip)
             have H' := Aside0.mk H
             clear H
             go_wp2
             go_meet
             case rel => exact ⟨_, s7_, ((⟨#[]⟩ : ByteArray)), (false), (by first | rfl | (simp; done) | (simp only [← hji9] <;> (first | rfl | simp)) | (simp [*]; done)), H', ⟨by have := HJ13.out; first | omega | exact Nat.le_refl _⟩, ⟨blkE_⟩, ⟨blkE_⟩, ⟨belE_⟩⟩
           case rest =>
            clear HC28
            try clear c3
            try clear c3b0
            try clear c3b1
            try clear c6
            try clear c6b0
            try clear c6b1
            try clear c7
            try clear c7b0
            try clear c7b1
            try clear c10
            try clear c10b0
            try clear c10b1
            try clear c11
            try clear c11b0
            try clear c11b1
            try clear c13
            try clear c23
            try clear c26
            try clear c26b0
            try clear c26b1
            try clear hcz19_0 hcz19_1 hcz19_2 hcz19_3 hcz19_4 hcz19_5 hcz19_6 hcz19_7 hcz19_8
            try clear hcz25_0 hcz25_1 hcz25_2 hcz25_3 hcz25_4 hcz25_5 hcz25_6 hcz25_7 hcz25_8
            try clear hcz5_0 hcz5_1 hcz5_2 hcz5_3 hcz5_4 hcz5_5 hcz5_6 hcz5_7 hcz5_8
            try clear hfz19_0 hfz19_1 hfz19_2 hfz19_3 hfz19_4 hfz19_5 hfz19_6 hfz19_7 hfz19_8
            try clear hfz25_0 hfz25_1 hfz25_2 hfz25_3 hfz25_4 hfz25_5 hfz25_6 hfz25_7 hfz25_8
            try clear hfz5_0 hfz5_1 hfz5_2 hfz5_3 hfz5_4 hfz5_5 hfz5_6 hfz5_7 hfz5_8
            obtain ⟨kq, x6_27, x168006_27, x168008_27, rfl, HA, HJ27, BK164, BK167, HB⟩ := hcut
            cases kq with
            | zero => exact absurd HA.out (by simp [spec_l01Parse.j1])
            | succ kj27 =>
             have H := HA.out
             clear HA
             simp only [spec_l01Parse.j1] at H
             obtain ⟨t173, A37, H⟩ := bindE_ H
             have HC38 := Aside0.mk H
             clear H
             go_upto_if 78 with (first | ((with_reducible refine gate_callee (f := 122) rfl ?_); refine cU_ (some 74) Tryz.func122 #[.string x6_27, .int .u8 63] ?_; (with_reducible refine (spec_l01Find.calls kj27 x6_27 63 t173 _ A37.out).mono ?_); rintro e w' ⟨rfl, ⟨nd, rfl⟩⟩; refine ⟨_, rfl, ?_⟩))
             (try simp only [Act.put, List.setIfInBounds_toArray, List.set_cons_zero, List.set_cons_succ])
             go_cut [6] (fun v6 wc => ∃ (kq : Nat) (x6_37 : ByteArray) (x168005_37 : ByteArray) (x168007_37 : Bool), v6 = .string x6_37 ∧ Aside0 (spec_l01Parse.j2 kq x6_37 t166 (⟨#[]⟩ : ByteArray) (⟨#[]⟩ : ByteArray) 0 (⟨#[]⟩ : ByteArray) x168005_37 x168006_27 x168007_37 x168008_27 = some (r1, r2, r3, r4, r5, r6, r7, r8, r9, r10)) ∧ Aside0 (kq ≤ kj27) ∧ Aside0 (wc.heap[gb164]? = some (.cells #[.string ⟨#[]⟩, .string ⟨#[]⟩, .string ⟨#[]⟩, .int .i64 0, .string ⟨#[]⟩, .string ⟨#[]⟩, .string ⟨#[]⟩, .bool false, .bool false] 32 (0, 0))) ∧ Aside0 (wc.heap[gb167]? = some (.cells #[.string t166, .string ⟨#[]⟩, .string ⟨#[]⟩, .int .i64 0, .string ⟨#[]⟩, .string x168005_37, .string x168006_27, .bool x168007_37, .bool x168008_27] 32 (0, 0))) ∧ Aside0 (Below w.heap.size w wc))
             case first =>
              have H := HC38.out
              clear HC38
              by_cases c39 : t173 < (x6_27.size : Int)
              ·
               rw [if_pos c39] at H
               have c39b0 : decide (t173 < (x6_27.size : Int)) = true := decide_eq_true c39
               clear c39
               (first | rw [c39b0] | (simp only [i64_w, i32_w]; rw [c39b0]) | skip)
               obtain ⟨ji40, hji40⟩ : ∃ j_ : Int, (wrap64 (t173 + 1)) = j_ := ⟨_, rfl⟩
               replace H : (if 0 ≤ (ji40) then (if (ji40) ≤ (x6_27.size : Int) then (if 0 ≤ t173 then (if t173 ≤ (x6_27.size : Int) then (spec_l01Parse.j2 kj27 (x6_27.extract 0 (t173 : Int).toNat) t166 (⟨#[]⟩ : ByteArray) (⟨#[]⟩ : ByteArray) 0 (⟨#[]⟩ : ByteArray) (x6_27.extract ((ji40) : Int).toNat x6_27.size) x168006_27 true x168008_27) else (none)) else (none)) else (none)) else (none)) = some (r1, r2, r3, r4, r5, r6, r7, r8, r9, r10) := by first | (rw [hji40] at H; exact H) | (simp only [hji40] at H ⊢; exact H)
               have hji40w : (IntKind.i64.wrap (t173 + 1)) = ji40 := (i64_w _).trans hji40
               by_cases c41 : 0 ≤ (ji40)
               ·
                rw [if_pos c41] at H
                have c41b0 := eq_true c41
                have c41b1 : decide (0 ≤ (ji40)) = true := decide_eq_true c41
                clear c41
                by_cases c42 : (ji40) ≤ (x6_27.size : Int)
                ·
                 rw [if_pos c42] at H
                 have c42b0 := eq_true c42
                 have c42b1 : decide ((ji40) ≤ (x6_27.size : Int)) = true := decide_eq_true c42
                 clear c42
                 by_cases c43 : 0 ≤ t173
                 ·
                  rw [if_pos c43] at H
                  have c43b0 := eq_true c43
                  have c43b1 : decide (0 ≤ t173) = true := decide_eq_true c43
                  clear c43
                  by_cases c44 : t173 ≤ (x6_27.size : Int)
                  ·
                   rw [if_pos c44] at H
                   have c44b0 := eq_true c44
                   have c44b1 : decide (t173 ≤ (x6_27.size : Int)) = true := decide_eq_true c44
                   clear c44
                   have H' := Aside0.mk H
                   clear H
                   have hnb45 := NB167_164.out
                   have hnc45 := NB164_167.out
                   obtain ⟨hcz46_0, hcz46_1, hcz46_2, hcz46_3, hcz46_4, hcz46_5, hcz46_6, hcz46_7, hcz46_8, hfz46_0, hfz46_1, hfz46_2, hfz46_3, hfz46_4, hfz46_5, hfz46_6, hfz46_7, hfz46_8⟩ := cz9_ BK167
                   go_wp2
                   go_meet
                   case rel => exact ⟨_, (x6_27.extract 0 (t173 : Int).toNat), (x6_27.extract ((ji40) : Int).toNat x6_27.size), (true), eqE_, H', ⟨by have := HJ13.out; have := HJ27.out; first | omega | exact Nat.le_refl _⟩, ⟨farE_⟩, ⟨by (with_reducible repeat apply bd_); refine blk_put (cs := #[.string t166, .string ⟨#[]⟩, .string ⟨#[]⟩, .int .i64 0, .string ⟨#[]⟩, .string ⟨#[]⟩, .string x168006_27, .bool true, .bool x168008_27]) ?_ 5 _ rfl; (with_reducible repeat apply bd_); refine blk_put (cs := #[.string t166, .string ⟨#[]⟩, .string ⟨#[]⟩, .int .i64 0, .string ⟨#[]⟩, .string ⟨#[]⟩, .string x168006_27, .bool false, .bool x168008_27]) ?_ 7 _ rfl; (with_reducible repeat apply bd_); exact BK167.out⟩, ⟨belE_⟩⟩
                  ·
                   rw [if_neg c44] at H
                   exact absurd H (by simp)
                 ·
                  rw [if_neg c43] at H
                  exact absurd H (by simp)
                ·
                 rw [if_neg c42] at H
                 exact absurd H (by simp)
               ·
                rw [if_neg c41] at H
                exact absurd H (by simp)
              ·
               rw [if_neg c39] at H
               have c39b0 : decide (t173 < (x6_27.size : Int)) = false := decide_eq_false c39
               clear c39
               (first | rw [c39b0] | (simp only [i64_w, i32_w]; rw [c39b0]) | skip)
               have H' := Aside0.mk H
               clear H
               go_wp2
               go_meet
               case rel => exact ⟨_, (x6_27), ((⟨#[]⟩ : ByteArray)), (false), eqE_, H', ⟨by have := HJ13.out; have := HJ27.out; first | omega | exact Nat.le_refl _⟩, ⟨blkE_⟩, ⟨blkE_⟩, ⟨belE_⟩⟩
             case rest =>
              clear HC38
              try clear c3
              try clear c3b0
              try clear c3b1
              try clear c6
              try clear c6b0
              try clear c6b1
              try clear c7
              try clear c7b0
              try clear c7b1
              try clear c10
              try clear c10b0
              try clear c10b1
              try clear c11
              try clear c11b0
              try clear c11b1
              try clear c13
              try clear c23
              try clear c26
              try clear c26b0
              try clear c26b1
              try clear hcz19_0 hcz19_1 hcz19_2 hcz19_3 hcz19_4 hcz19_5 hcz19_6 hcz19_7 hcz19_8
              try clear hcz25_0 hcz25_1 hcz25_2 hcz25_3 hcz25_4 hcz25_5 hcz25_6 hcz25_7 hcz25_8
              try clear hcz5_0 hcz5_1 hcz5_2 hcz5_3 hcz5_4 hcz5_5 hcz5_6 hcz5_7 hcz5_8
              try clear hfz19_0 hfz19_1 hfz19_2 hfz19_3 hfz19_4 hfz19_5 hfz19_6 hfz19_7 hfz19_8
              try clear hfz25_0 hfz25_1 hfz25_2 hfz25_3 hfz25_4 hfz25_5 hfz25_6 hfz25_7 hfz25_8
              try clear hfz5_0 hfz5_1 hfz5_2 hfz5_3 hfz5_4 hfz5_5 hfz5_6 hfz5_7 hfz5_8
              obtain ⟨kq, x6_37, x168005_37, x168007_37, rfl, HA, HJ37, BK164, BK167, HB⟩ := hcut
              cases kq with
              | zero => exact absurd HA.out (by simp [spec_l01Parse.j2])
              | succ kj37 =>
               have H := HA.out
               clear HA
               simp only [spec_l01Parse.j2] at H
               obtain ⟨t174, A47, H⟩ := bindE_ H
               by_cases c48 : 0 ≤ t174
               ·
                rw [if_pos c48] at H
                have c48b0 := eq_true c48
                have c48b1 : decide (0 ≤ t174) = true := decide_eq_true c48
                clear c48
                by_cases c49 : t174 ≤ (x6_37.size : Int)
                ·
                 rw [if_pos c49] at H
                 have c49b0 := eq_true c49
                 have c49b1 : decide (t174 ≤ (x6_37.size : Int)) = true := decide_eq_true c49
                 clear c49
                 have HC50 := Aside0.mk H
                 clear H
                 go_upto_if 96 with (first | ((with_reducible refine gate_callee (f := 122) rfl ?_); refine cU_ (some 89) Tryz.func122 #[.string x6_37, .int .u8 47] ?_; (with_reducible refine (spec_l01Find.calls kj37 x6_37 47 t174 _ A47.out).mono ?_); rintro e w' ⟨rfl, ⟨nd, rfl⟩⟩; refine ⟨_, rfl, ?_⟩; (try (rw [drewN_self wc]; generalize hq_ : World.drewN wc _ = wc; have n0_ : Aside0 (wc.heap[gb164]? = some (.cells #[.string ⟨#[]⟩, .string ⟨#[]⟩, .string ⟨#[]⟩, .int .i64 0, .string ⟨#[]⟩, .string ⟨#[]⟩, .string ⟨#[]⟩, .bool false, .bool false] 32 (0, 0))) := ⟨by rw [← hq_]; exact (by (with_reducible repeat apply bd_); exact BK164.out)⟩; have n1_ : Aside0 (wc.heap[gb167]? = some (.cells #[.string t166, .string ⟨#[]⟩, .string ⟨#[]⟩, .int .i64 0, .string ⟨#[]⟩, .string x168005_37, .string x168006_27, .bool x168007_37, .bool x168008_27] 32 (0, 0))) := ⟨by rw [← hq_]; exact (by (with_reducible repeat apply bd_); exact BK167.out)⟩; have n2_ : Aside0 (Below w.heap.size w wc) := ⟨by rw [← hq_]; exact belE_⟩; clear BK164 BK167 HB hq_; have BK164 := n0_; have BK167 := n1_; have HB := n2_; clear n0_ n1_ n2_)); have hnb51 := NB167_164.out; have hnc51 := NB164_167.out; obtain ⟨hcz52_0, hcz52_1, hcz52_2, hcz52_3, hcz52_4, hcz52_5, hcz52_6, hcz52_7, hcz52_8, hfz52_0, hfz52_1, hfz52_2, hfz52_3, hfz52_4, hfz52_5, hfz52_6, hfz52_7, hfz52_8⟩ := cz9_ BK167))
                 (try simp only [Act.put, List.setIfInBounds_toArray, List.set_cons_zero, List.set_cons_succ])
                 go_cut [] (fun wc => ∃ (kq : Nat) (x168004_49 : ByteArray), Aside0 (spec_l01Parse.j3 kq t174 x6_37 t166 (⟨#[]⟩ : ByteArray) (⟨#[]⟩ : ByteArray) 0 x168004_49 x168005_37 x168006_27 x168007_37 x168008_27 = some (r1, r2, r3, r4, r5, r6, r7, r8, r9, r10)) ∧ Aside0 (kq ≤ kj37) ∧ Aside0 (wc.heap[gb164]? = some (.cells #[.string ⟨#[]⟩, .string ⟨#[]⟩, .string ⟨#[]⟩, .int .i64 0, .string ⟨#[]⟩, .string ⟨#[]⟩, .string ⟨#[]⟩, .bool false, .bool false] 32 (0, 0))) ∧ Aside0 (wc.heap[gb167]? = some (.cells #[.string t166, .string ⟨#[]⟩, .string ⟨#[]⟩, .int .i64 0, .string x168004_49, .string x168005_37, .string x168006_27, .bool x168007_37, .bool x168008_27] 32 (0, 0))) ∧ Aside0 (Below w.heap.size w wc))
                 case first =>
                  have H := HC50.out
                  clear HC50
                  by_cases c53 : (x6_37.extract (t174 : Int).toNat x6_37.size).toList = ([] : List UInt8)
                  ·
                   rw [if_pos c53] at H
                   have c53b0 : ((x6_37.extract (t174 : Int).toNat x6_37.size).toList == ([] : List UInt8)) = true := beq_iff_eq.mpr c53
                   have c53b1 : ((x6_37.extract (t174 : Int).toNat x6_37.size).toList != ([] : List UInt8)) = false := bne_eq_false_iff_eq.mpr c53
                   (try (have c53b2 : (x6_37.extract (t174 : Int).toNat x6_37.size).toList.isEmpty = true := by simpa using c53))
                   clear c53
                   (first | rw [c53b0] | rw [c53b2] | (simp only [i64_w, i32_w]; rw [c53b0]) | skip)
                   have H' := Aside0.mk H
                   clear H
                   have hnb54 := NB167_164.out
                   have hnc54 := NB164_167.out
                   obtain ⟨hcz55_0, hcz55_1, hcz55_2, hcz55_3, hcz55_4, hcz55_5, hcz55_6, hcz55_7, hcz55_8, hfz55_0, hfz55_1, hfz55_2, hfz55_3, hfz55_4, hfz55_5, hfz55_6, hfz55_7, hfz55_8⟩ := cz9_ BK167
                   go_wp2
                   go_meet
                   case rel => exact ⟨_, ((⟨#[47]⟩ : ByteArray)), H', ⟨by have := HJ13.out; have := HJ27.out; have := HJ37.out; first | omega | exact Nat.le_refl _⟩, ⟨farE_⟩, ⟨by (with_reducible repeat apply bd_); refine blk_put (cs := #[.string t166, .string ⟨#[]⟩, .string ⟨#[]⟩, .int .i64 0, .string (x6_37.extract (t174 : Int).toNat x6_37.size), .string x168005_37, .string x168006_27, .bool x168007_37, .bool x168008_27]) ?_ 4 _ rfl; (with_reducible repeat apply bd_); refine blk_put (cs := #[.string t166, .string ⟨#[]⟩, .string ⟨#[]⟩, .int .i64 0, .string ⟨#[]⟩, .string x168005_37, .string x168006_27, .bool x168007_37, .bool x168008_27]) ?_ 4 _ rfl; (with_reducible repeat apply bd_); exact BK167.out⟩, ⟨belE_⟩⟩
                  ·
                   rw [if_neg c53] at H
                   have c53b0 : ((x6_37.extract (t174 : Int).toNat x6_37.size).toList == ([] : List UInt8)) = false := beq_eq_false_iff_ne.mpr c53
                   have c53b1 : ((x6_37.extract (t174 : Int).toNat x6_37.size).toList != ([] : List UInt8)) = true := bne_iff_ne.mpr c53
                   (try (have c53b2 : (x6_37.extract (t174 : Int).toNat x6_37.size).toList.isEmpty = false := by simpa using c53))
                   (first | rw [c53b0] | rw [c53b2] | (simp only [i64_w, i32_w]; rw [c53b0]) | skip)
                   have H' := Aside0.mk H
                   clear H
                   go_wp2
                   go_meet
                   case rel => exact ⟨_, (x6_37.extract (t174 : Int).toNat x6_37.size), H', ⟨by have := HJ13.out; have := HJ27.out; have := HJ37.out; first | omega | exact Nat.le_refl _⟩, ⟨farE_⟩, ⟨by (with_reducible repeat apply bd_); refine blk_put (cs := #[.string t166, .string ⟨#[]⟩, .string ⟨#[]⟩, .int .i64 0, .string ⟨#[]⟩, .string x168005_37, .string x168006_27, .bool x168007_37, .bool x168008_27]) ?_ 4 _ rfl; (with_reducible repeat apply bd_); exact BK167.out⟩, ⟨belE_⟩⟩
                 case rest =>
                  clear HC50
                  try clear c3
                  try clear c3b0
                  try clear c3b1
                  try clear c6
                  try clear c6b0
                  try clear c6b1
                  try clear c7
                  try clear c7b0
                  try clear c7b1
                  try clear c10
                  try clear c10b0
                  try clear c10b1
                  try clear c11
                  try clear c11b0
                  try clear c11b1
                  try clear c13
                  try clear c23
                  try clear c26
                  try clear c26b0
                  try clear c26b1
                  try clear c48
                  try clear c48b0
                  try clear c48b1
                  try clear c49
                  try clear c49b0
                  try clear c49b1
                  try clear hcz19_0 hcz19_1 hcz19_2 hcz19_3 hcz19_4 hcz19_5 hcz19_6 hcz19_7 hcz19_8
                  try clear hcz25_0 hcz25_1 hcz25_2 hcz25_3 hcz25_4 hcz25_5 hcz25_6 hcz25_7 hcz25_8
                  try clear hcz52_0 hcz52_1 hcz52_2 hcz52_3 hcz52_4 hcz52_5 hcz52_6 hcz52_7 hcz52_8
                  try clear hcz5_0 hcz5_1 hcz5_2 hcz5_3 hcz5_4 hcz5_5 hcz5_6 hcz5_7 hcz5_8
                  try clear hfz19_0 hfz19_1 hfz19_2 hfz19_3 hfz19_4 hfz19_5 hfz19_6 hfz19_7 hfz19_8
                  try clear hfz25_0 hfz25_1 hfz25_2 hfz25_3 hfz25_4 hfz25_5 hfz25_6 hfz25_7 hfz25_8
                  try clear hfz52_0 hfz52_1 hfz52_2 hfz52_3 hfz52_4 hfz52_5 hfz52_6 hfz52_7 hfz52_8
                  try clear hfz5_0 hfz5_1 hfz5_2 hfz5_3 hfz5_4 hfz5_5 hfz5_6 hfz5_7 hfz5_8
                  obtain ⟨kq, x168004_49, HA, HJ49, BK164, BK167, HB⟩ := hcut
                  cases kq with
                  | zero => exact absurd HA.out (by simp [spec_l01Parse.j3])
                  | succ kj49 =>
                   have H := HA.out
                   clear HA
                   simp only [spec_l01Parse.j3] at H
                   by_cases c56 : 0 ≤ t174
                   ·
                    rw [if_pos c56] at H
                    have c56b0 := eq_true c56
                    have c56b1 : decide (0 ≤ t174) = true := decide_eq_true c56
                    clear c56
                    by_cases c57 : t174 ≤ (x6_37.size : Int)
                    ·
                     rw [if_pos c57] at H
                     have c57b0 := eq_true c57
                     have c57b1 : decide (t174 ≤ (x6_37.size : Int)) = true := decide_eq_true c57
                     clear c57
                     obtain ⟨t175, A58, H⟩ := bindE_ H
                     have HC59 := Aside0.mk H
                     clear H
                     go_upto_if 106 with (first | ((with_reducible refine gate_callee (f := 122) rfl ?_); generalize (x6_37.extract 0 (t174 : Int).toNat) = s8_ at *; refine cU_ (some 102) Tryz.func122 #[.string s8_, .int .u8 64] ?_; (with_reducible refine (spec_l01Find.calls kj49 s8_ 64 t175 _ A58.out).mono ?_); rintro e w' ⟨rfl, ⟨nd, rfl⟩⟩; refine ⟨_, rfl, ?_⟩))
                     (try simp only [Act.put, List.setIfInBounds_toArray, List.set_cons_zero, List.set_cons_succ])
                     go_cut [6] (fun v6 wc => ∃ (kq : Nat) (x6_58 : ByteArray) (x168001_58 : ByteArray), v6 = .string x6_58 ∧ Aside0 (spec_l01Parse.j4 kq x6_58 t166 x168001_58 (⟨#[]⟩ : ByteArray) 0 x168004_49 x168005_37 x168006_27 x168007_37 x168008_27 = some (r1, r2, r3, r4, r5, r6, r7, r8, r9, r10)) ∧ Aside0 (kq ≤ kj49) ∧ Aside0 (wc.heap[gb164]? = some (.cells #[.string ⟨#[]⟩, .string ⟨#[]⟩, .string ⟨#[]⟩, .int .i64 0, .string ⟨#[]⟩, .string ⟨#[]⟩, .string ⟨#[]⟩, .bool false, .bool false] 32 (0, 0))) ∧ Aside0 (wc.heap[gb167]? = some (.cells #[.string t166, .string x168001_58, .string ⟨#[]⟩, .int .i64 0, .string x168004_49, .string x168005_37, .string x168006_27, .bool x168007_37, .bool x168008_27] 32 (0, 0))) ∧ Aside0 (Below w.heap.size w wc))
                     case first =>
                      have H := HC59.out
                      clear HC59
                      by_cases c60 : t175 < (s8_.size : Int)
                      ·
                       rw [if_pos c60] at H
                       have c60b0 : decide (t175 < (s8_.size : Int)) = true := decide_eq_true c60
                       try (have c60e0 := c60b0; simp only [ByteArray.size_extract, Nat.min_self, Nat.sub_zero] at c60e0)
                       clear c60
                       (first | rw [c60b0] | (simp only [i64_w, i32_w]; rw [c60b0]) | skip)
                       by_cases c61 : 0 ≤ t175
                       ·
                        rw [if_pos c61] at H
                        have c61b0 := eq_true c61
                        have c61b1 : decide (0 ≤ t175) = true := decide_eq_true c61
                        clear c61
                        by_cases c62 : t175 ≤ (s8_.size : Int)
                        ·
                         rw [if_pos c62] at H
                         have c62b0 := eq_true c62
                         have c62b1 : decide (t175 ≤ (s8_.size : Int)) = true := decide_eq_true c62
                         try (have c62e1 := c62b1; simp only [ByteArray.size_extract, Nat.min_self, Nat.sub_zero] at c62e1)
                         try (have c62e0 := eq_true (of_decide_eq_true c62e1))
                         try (have c62e9 : (max t174 0 < t175) = False := eq_false (by have q_ := of_decide_eq_true c62e1; omega))
                         clear c62
                         obtain ⟨ji63, hji63⟩ : ∃ j_ : Int, (wrap64 (t175 + 1)) = j_ := ⟨_, rfl⟩
                         replace H : (if 0 ≤ (ji63) then (if (ji63) ≤ (s8_.size : Int) then (spec_l01Parse.j4 kj49 (s8_.extract ((ji63) : Int).toNat s8_.size) t166 (s8_.extract 0 (t175 : Int).toNat) (⟨#[]⟩ : ByteArray) 0 x168004_49 x168005_37 x168006_27 x168007_37 x168008_27) else (none)) else (none)) = some (r1, r2, r3, r4, r5, r6, r7, r8, r9, r10) := by first | (rw [hji63] at H; exact H) | (simp only [hji63] at H ⊢; exact H)
                         have hji63w : (IntKind.i64.wrap (t175 + 1)) = ji63 := (i64_w _).trans hji63
                         by_cases c64 : 0 ≤ (ji63)
                         ·
                          rw [if_pos c64] at H
                          have c64b0 := eq_true c64
                          have c64b1 : decide (0 ≤ (ji63)) = true := decide_eq_true c64
                          clear c64
                          by_cases c65 : (ji63) ≤ (s8_.size : Int)
                          ·
                           rw [if_pos c65] at H
                           have c65b0 := eq_true c65
                           have c65b1 : decide ((ji63) ≤ (s8_.size : Int)) = true := decide_eq_true c65
                           try (have c65e1 := c65b1; simp only [ByteArray.size_extract, Nat.min_self, Nat.sub_zero] at c65e1)
                           try (have c65e0 := eq_true (of_decide_eq_true c65e1))
                           clear c65
                           have H' := Aside0.mk H
                           clear H
                           have hnb66 := NB167_164.out
                           have hnc66 := NB164_167.out
                           obtain ⟨hcz67_0, hcz67_1, hcz67_2, hcz67_3, hcz67_4, hcz67_5, hcz67_6, hcz67_7, hcz67_8, hfz67_0, hfz67_1, hfz67_2, hfz67_3, hfz67_4, hfz67_5, hfz67_6, hfz67_7, hfz67_8⟩ := cz9_ BK167
                           go_wp2
                           go_meet
                           case rel => exact ⟨_, (s8_.extract ((ji63) : Int).toNat s8_.size), (s8_.extract 0 (t175 : Int).toNat), (by first | rfl | (simp; done) | (simp only [← hji63] <;> (first | rfl | simp)) | (simp [*]; done)), H', ⟨by have := HJ13.out; have := HJ27.out; have := HJ37.out; have := HJ49.out; first | omega | exact Nat.le_refl _⟩, ⟨farE_⟩, ⟨by (with_reducible repeat apply bd_); refine blk_put (cs := #[.string t166, .string ⟨#[]⟩, .string ⟨#[]⟩, .int .i64 0, .string x168004_49, .string x168005_37, .string x168006_27, .bool x168007_37, .bool x168008_27]) ?_ 1 _ rfl; (with_reducible repeat apply bd_); exact BK167.out⟩, ⟨belE_⟩⟩
                          ·
                           rw [if_neg c65] at H
                           exact absurd H (by simp)
                         ·
                          rw [if_neg c64] at H
                          exact absurd H (by simp)
                        ·
                         rw [if_neg c62] at H
                         exact absurd H (by simp)
                       ·
                        rw [if_neg c61] at H
                        exact absurd H (by simp)
                      ·
                       rw [if_neg c60] at H
                       have c60b0 : decide (t175 < (s8_.size : Int)) = false := decide_eq_false c60
                       try (have c60e0 := c60b0; simp only [ByteArray.size_extract, Nat.min_self, Nat.sub_zero] at c60e0)
                       clear c60
                       (first | rw [c60b0] | (simp only [i64_w, i32_w]; rw [c60b0]) | skip)
                       have H' := Aside0.mk H
                       clear H
                       go_wp2
                       go_meet
                       case rel => exact ⟨_, s8_, ((⟨#[]⟩ : ByteArray)), eqE_, H', ⟨by have := HJ13.out; have := HJ27.out; have := HJ37.out; have := HJ49.out; first | omega | exact Nat.le_refl _⟩, ⟨blkE_⟩, ⟨blkE_⟩, ⟨belE_⟩⟩
                     case rest =>
                      clear HC59
                      try clear c3
                      try clear c3b0
                      try clear c3b1
                      try clear c6
                      try clear c6b0
                      try clear c6b1
                      try clear c7
                      try clear c7b0
                      try clear c7b1
                      try clear c10
                      try clear c10b0
                      try clear c10b1
                      try clear c11
                      try clear c11b0
                      try clear c11b1
                      try clear c13
                      try clear c23
                      try clear c26
                      try clear c26b0
                      try clear c26b1
                      try clear c48
                      try clear c48b0
                      try clear c48b1
                      try clear c49
                      try clear c49b0
                      try clear c49b1
                      try clear c56
                      try clear c56b0
                      try clear c56b1
                      try clear c57
                      try clear c57b0
                      try clear c57b1
                      try clear hcz19_0 hcz19_1 hcz19_2 hcz19_3 hcz19_4 hcz19_5 hcz19_6 hcz19_7 hcz19_8
                      try clear hcz25_0 hcz25_1 hcz25_2 hcz25_3 hcz25_4 hcz25_5 hcz25_6 hcz25_7 hcz25_8
                      try clear hcz52_0 hcz52_1 hcz52_2 hcz52_3 hcz52_4 hcz52_5 hcz52_6 hcz52_7 hcz52_8
                      try clear hcz5_0 hcz5_1 hcz5_2 hcz5_3 hcz5_4 hcz5_5 hcz5_6 hcz5_7 hcz5_8
                      try clear hfz19_0 hfz19_1 hfz19_2 hfz19_3 hfz19_4 hfz19_5 hfz19_6 hfz19_7 hfz19_8
                      try clear hfz25_0 hfz25_1 hfz25_2 hfz25_3 hfz25_4 hfz25_5 hfz25_6 hfz25_7 hfz25_8
                      try clear hfz52_0 hfz52_1 hfz52_2 hfz52_3 hfz52_4 hfz52_5 hfz52_6 hfz52_7 hfz52_8
                      try clear hfz5_0 hfz5_1 hfz5_2 hfz5_3 hfz5_4 hfz5_5 hfz5_6 hfz5_7 hfz5_8
                      obtain ⟨kq, x6_58, x168001_58, rfl, HA, HJ58, BK164, BK167, HB⟩ := hcut
                      cases kq with
                      | zero => exact absurd HA.out (by simp [spec_l01Parse.j4])
                      | succ kj58 =>
                       have H := HA.out
                       clear HA
                       simp only [spec_l01Parse.j4] at H
                       obtain ⟨t176, A68, H⟩ := bindE_ H
                       by_cases c69 : 0 ≤ t176
                       ·
                        rw [if_pos c69] at H
                        have c69b0 := eq_true c69
                        have c69b1 : decide (0 ≤ t176) = true := decide_eq_true c69
                        clear c69
                        by_cases c70 : t176 ≤ (x6_58.size : Int)
                        ·
                         rw [if_pos c70] at H
                         have c70b0 := eq_true c70
                         have c70b1 : decide (t176 ≤ (x6_58.size : Int)) = true := decide_eq_true c70
                         clear c70
                         obtain ⟨t177, A71, H⟩ := bindE_ H
                         by_cases c72 : t176 < (x6_58.size : Int)
                         ·
                          rw [if_pos c72] at H
                          have c72b0 : decide (t176 < (x6_58.size : Int)) = true := decide_eq_true c72
                          clear c72
                          obtain ⟨ji73, hji73⟩ : ∃ j_ : Int, (wrap64 (t176 + 1)) = j_ := ⟨_, rfl⟩
                          replace H : (if 0 ≤ (ji73) then (if (ji73) ≤ (x6_58.size : Int) then ((spec_l00Number.f kj58 (x6_58.extract ((ji73) : Int).toNat x6_58.size)).bind fun bt178 => (if bt178.2 = true then ((spec_l01In.f bt178.1 1 65535).bind fun t180 => (spec_l01Parse.j5 kj58 bt178.1 (!t180) t166 x168001_58 t177 0 x168004_49 x168005_37 x168006_27 x168007_37 x168008_27)) else (spec_l01Parse.j5 kj58 bt178.1 true t166 x168001_58 t177 0 x168004_49 x168005_37 x168006_27 x168007_37 x168008_27))) else (none)) else (none)) = some (r1, r2, r3, r4, r5, r6, r7, r8, r9, r10) := by first | (rw [hji73] at H; exact H) | (simp only [hji73] at H ⊢; exact H)
                          (try rw [hji73] at A68)
                          (try rw [hji73] at A71)
                          have hji73w : (IntKind.i64.wrap (t176 + 1)) = ji73 := (i64_w _).trans hji73
                          by_cases c74 : 0 ≤ (ji73)
                          ·
                           rw [if_pos c74] at H
                           have c74b0 := eq_true c74
                           have c74b1 : decide (0 ≤ (ji73)) = true := decide_eq_true c74
                           clear c74
                           by_cases c75 : (ji73) ≤ (x6_58.size : Int)
                           ·
                            rw [if_pos c75] at H
                            have c75b0 := eq_true c75
                            have c75b1 : decide ((ji73) ≤ (x6_58.size : Int)) = true := decide_eq_true c75
                            clear c75
                            replace H := Option.bind_eq_some_iff.mp H
                            obtain ⟨⟨t178, t179⟩, A760, H⟩ := H
                            replace H : (if t179 = true then ((spec_l01In.f t178 1 65535).bind fun t180 => (spec_l01Parse.j5 kj58 t178 (!t180) t166 x168001_58 t177 0 x168004_49 x168005_37 x168006_27 x168007_37 x168008_27)) else (spec_l01Parse.j5 kj58 t178 true t166 x168001_58 t177 0 x168004_49 x168005_37 x168006_27 x168007_37 x168008_27)) = some (r1, r2, r3, r4, r5, r6, r7, r8, r9, r10) := H
                            have A76 := Aside0.mk A760
                            clear A760
                            have HC77 := Aside0.mk H
                            clear H
                            go_upto_region 38 with (first | ((with_reducible refine gate_callee (f := 122) rfl ?_); refine cU_ (some 116) Tryz.func122 #[.string x6_58, .int .u8 58] ?_; (with_reducible refine (spec_l01Find.calls kj58 x6_58 58 t176 _ A68.out).mono ?_); rintro e w' ⟨rfl, ⟨nd, rfl⟩⟩; refine ⟨_, rfl, ?_⟩; (try (rw [drewN_self wc]; generalize hq_ : World.drewN wc _ = wc; have n0_ : Aside0 (wc.heap[gb164]? = some (.cells #[.string ⟨#[]⟩, .string ⟨#[]⟩, .string ⟨#[]⟩, .int .i64 0, .string ⟨#[]⟩, .string ⟨#[]⟩, .string ⟨#[]⟩, .bool false, .bool false] 32 (0, 0))) := ⟨by rw [← hq_]; exact (by (with_reducible repeat apply bd_); exact BK164.out)⟩; have n1_ : Aside0 (wc.heap[gb167]? = some (.cells #[.string t166, .string x168001_58, .string ⟨#[]⟩, .int .i64 0, .string x168004_49, .string x168005_37, .string x168006_27, .bool x168007_37, .bool x168008_27] 32 (0, 0))) := ⟨by rw [← hq_]; exact (by (with_reducible repeat apply bd_); exact BK167.out)⟩; have n2_ : Aside0 (Below w.heap.size w wc) := ⟨by rw [← hq_]; exact belE_⟩; clear BK164 BK167 HB hq_; have BK164 := n0_; have BK167 := n1_; have HB := n2_; clear n0_ n1_ n2_))) | ((with_reducible refine gate_callee (f := 123) rfl ?_); refine cU_ (some 120) Tryz.func123 #[.string (x6_58.extract 0 (t176 : Int).toNat)] ?_; (with_reducible refine (spec_l01Lower.calls kj58 (x6_58.extract 0 (t176 : Int).toNat) t177 _ A71.out).mono ?_); rintro e w78 ⟨rfl, hb⟩; refine ⟨_, rfl, ?_⟩; have n0_ := blkB_ (g := gb164) (o := .cells #[.string ⟨#[]⟩, .string ⟨#[]⟩, .string ⟨#[]⟩, .int .i64 0, .string ⟨#[]⟩, .string ⟨#[]⟩, .string ⟨#[]⟩, .bool false, .bool false] 32 (0, 0)) hb; have n1_ := blkB_ (g := gb167) (o := .cells #[.string t166, .string x168001_58, .string ⟨#[]⟩, .int .i64 0, .string x168004_49, .string x168005_37, .string x168006_27, .bool x168007_37, .bool x168008_27] 32 (0, 0)) hb; have n2_ := Aside0.mk (below_step belE_ hb); clear BK164; clear BK167; clear HB; have BK164 := n0_; have BK167 := n1_; have HB := n2_; clear n0_ n1_ n2_; (try clear hb); (try clear hb2); (try clear hk); (try clear hi); have hnb79 := NB167_164.out; have hnc79 := NB164_167.out; obtain ⟨hcz80_0, hcz80_1, hcz80_2, hcz80_3, hcz80_4, hcz80_5, hcz80_6, hcz80_7, hcz80_8, hfz80_0, hfz80_1, hfz80_2, hfz80_3, hfz80_4, hfz80_5, hfz80_6, hfz80_7, hfz80_8⟩ := cz9_ BK167) | ((with_reducible refine gate_callee (f := 124) rfl ?_); refine goesL_ (some 131) rfl rfl Tryz.func124 (by kernel_rfl) rfl #[.string (x6_58.extract ((ji73) : Int).toNat x6_58.size)] rfl (by (try simp only [List.map_toArray, List.map_cons, List.map_nil]); first | done | (simp only [hji73]; rfl) | rfl | (simp only [List.length_drop, List.length_take]; rfl)) ?_; (with_reducible refine (spec_l00Number.calls kj58 (x6_58.extract ((ji73) : Int).toNat x6_58.size) t178 t179 _ A76.out).mono ?_); rintro e w' ⟨rfl, ⟨nd, rfl⟩⟩; refine ⟨_, rfl, ?_⟩))
                            (try simp only [Act.put, List.setIfInBounds_toArray, List.set_cons_zero, List.set_cons_succ])
                            go_cut [140] (fun v140 wc => ∃ (kq : Nat) (x140_76 : Bool), v140 = .bool x140_76 ∧ Aside0 (spec_l01Parse.j5 kq t178 x140_76 t166 x168001_58 t177 0 x168004_49 x168005_37 x168006_27 x168007_37 x168008_27 = some (r1, r2, r3, r4, r5, r6, r7, r8, r9, r10)) ∧ Aside0 (kq ≤ kj58) ∧ Aside0 (wc.heap[gb164]? = some (.cells #[.string ⟨#[]⟩, .string ⟨#[]⟩, .string ⟨#[]⟩, .int .i64 0, .string ⟨#[]⟩, .string ⟨#[]⟩, .string ⟨#[]⟩, .bool false, .bool false] 32 (0, 0))) ∧ Aside0 (wc.heap[gb167]? = some (.cells #[.string t166, .string x168001_58, .string t177, .int .i64 0, .string x168004_49, .string x168005_37, .string x168006_27, .bool x168007_37, .bool x168008_27] 32 (0, 0))) ∧ Aside0 (Below w.heap.size w wc))
                            case first =>
                             have H := HC77.out
                             clear HC77
                             by_cases c81 : t179 = true
                             ·
                              subst c81
                              replace H := ifT_ H
                              obtain ⟨t180, A82, H⟩ := bindE_ H
                              have H' := Aside0.mk H
                              clear H
                              go_wp2_with (first | (go_at_call 97; (with_reducible refine (spec_l01In.calls t178 1 65535 t180 _ A82.out).mono ?_); rintro e w' ⟨rfl, ⟨nd, rfl⟩⟩))
                              go_meet
                              case rel => exact ⟨_, (!t180), eqE_, H', ⟨by have := HJ13.out; have := HJ27.out; have := HJ37.out; have := HJ49.out; have := HJ58.out; first | omega | exact Nat.le_refl _⟩, ⟨farE_⟩, ⟨by (with_reducible repeat apply bd_); refine blk_put (cs := #[.string t166, .string x168001_58, .string ⟨#[]⟩, .int .i64 0, .string x168004_49, .string x168005_37, .string x168006_27, .bool x168007_37, .bool x168008_27]) ?_ 2 _ rfl; (with_reducible repeat apply bd_); exact BK167.out⟩, ⟨belE_⟩⟩
                             ·
                              replace c81 := Bool.eq_false_iff.mpr c81
                              subst c81
                              replace H := ifF_ H
                              have H' := Aside0.mk H
                              clear H
                              go_wp2
                              go_meet
                              case rel => exact ⟨_, (true), eqE_, H', ⟨by have := HJ13.out; have := HJ27.out; have := HJ37.out; have := HJ49.out; have := HJ58.out; first | omega | exact Nat.le_refl _⟩, ⟨farE_⟩, ⟨by (with_reducible repeat apply bd_); refine blk_put (cs := #[.string t166, .string x168001_58, .string ⟨#[]⟩, .int .i64 0, .string x168004_49, .string x168005_37, .string x168006_27, .bool x168007_37, .bool x168008_27]) ?_ 2 _ rfl; (with_reducible repeat apply bd_); exact BK167.out⟩, ⟨belE_⟩⟩
                            case rest =>
                             clear HC77
                             try clear c3
                             try clear c3b0
                             try clear c3b1
                             try clear c6
                             try clear c6b0
                             try clear c6b1
                             try clear c7
                             try clear c7b0
                             try clear c7b1
                             try clear c10
                             try clear c10b0
                             try clear c10b1
                             try clear c11
                             try clear c11b0
                             try clear c11b1
                             try clear c13
                             try clear c23
                             try clear c26
                             try clear c26b0
                             try clear c26b1
                             try clear c48
                             try clear c48b0
                             try clear c48b1
                             try clear c49
                             try clear c49b0
                             try clear c49b1
                             try clear c56
                             try clear c56b0
                             try clear c56b1
                             try clear c57
                             try clear c57b0
                             try clear c57b1
                             try clear c69
                             try clear c69b0
                             try clear c69b1
                             try clear c70
                             try clear c70b0
                             try clear c70b1
                             try clear c72
                             try clear c72b0
                             try clear c74
                             try clear c74b0
                             try clear c74b1
                             try clear c75
                             try clear c75b0
                             try clear c75b1
                             try clear hcz19_0 hcz19_1 hcz19_2 hcz19_3 hcz19_4 hcz19_5 hcz19_6 hcz19_7 hcz19_8
                             try clear hcz25_0 hcz25_1 hcz25_2 hcz25_3 hcz25_4 hcz25_5 hcz25_6 hcz25_7 hcz25_8
                             try clear hcz52_0 hcz52_1 hcz52_2 hcz52_3 hcz52_4 hcz52_5 hcz52_6 hcz52_7 hcz52_8
                             try clear hcz5_0 hcz5_1 hcz5_2 hcz5_3 hcz5_4 hcz5_5 hcz5_6 hcz5_7 hcz5_8
                             try clear hcz80_0 hcz80_1 hcz80_2 hcz80_3 hcz80_4 hcz80_5 hcz80_6 hcz80_7 hcz80_8
                             try clear hfz19_0 hfz19_1 hfz19_2 hfz19_3 hfz19_4 hfz19_5 hfz19_6 hfz19_7 hfz19_8
                             try clear hfz25_0 hfz25_1 hfz25_2 hfz25_3 hfz25_4 hfz25_5 hfz25_6 hfz25_7 hfz25_8
                             try clear hfz52_0 hfz52_1 hfz52_2 hfz52_3 hfz52_4 hfz52_5 hfz52_6 hfz52_7 hfz52_8
                             try clear hfz5_0 hfz5_1 hfz5_2 hfz5_3 hfz5_4 hfz5_5 hfz5_6 hfz5_7 hfz5_8
                             try clear hfz80_0 hfz80_1 hfz80_2 hfz80_3 hfz80_4 hfz80_5 hfz80_6 hfz80_7 hfz80_8
                             obtain ⟨kq, x140_76, rfl, HA, HJ76, BK164, BK167, HB⟩ := hcut
                             cases kq with
                             | zero => exact absurd HA.out (by simp [spec_l01Parse.j5])
                             | succ kj76 =>
                              have H := HA.out
                              clear HA
                              simp only [spec_l01Parse.j5] at H
                              by_cases c83 : x140_76 = true
                              ·
                               subst c83
                               replace H := ifT_ H
                               simp only [Option.some.injEq, Prod.mk.injEq] at H
                               obtain ⟨rfl, rfl, rfl, rfl, rfl, rfl, rfl, rfl, rfl, rfl⟩ := H
                               have hnb84 := NB164_167.out
                               have hnc84 := NB167_164.out
                               obtain ⟨hcz85_0, hcz85_1, hcz85_2, hcz85_3, hcz85_4, hcz85_5, hcz85_6, hcz85_7, hcz85_8, hfz85_0, hfz85_1, hfz85_2, hfz85_3, hfz85_4, hfz85_5, hfz85_6, hfz85_7, hfz85_8⟩ := cz9_ BK164
                               go_wp2
                               refine bodyPost_ret (results_ct rfl _ _ gb164 32 #[.string ⟨#[]⟩, .string ⟨#[]⟩, .string ⟨#[]⟩, .int .i64 0, .string ⟨#[]⟩, .string ⟨#[]⟩, .string ⟨#[]⟩, .bool false, .bool false] (0, 0) _ rfl (by (with_reducible repeat apply bd_); refine blk_put (cs := #[.string ⟨#[]⟩, .string ⟨#[]⟩, .string ⟨#[]⟩, .int .i64 0, .string ⟨#[]⟩, .string ⟨#[]⟩, .string ⟨#[]⟩, .bool false, .bool false]) ?_ 8 _ rfl; (with_reducible repeat apply bd_); refine blk_put (cs := #[.string ⟨#[]⟩, .string ⟨#[]⟩, .string ⟨#[]⟩, .int .i64 0, .string ⟨#[]⟩, .string ⟨#[]⟩, .string ⟨#[]⟩, .bool false, .bool false]) ?_ 7 _ rfl; (with_reducible repeat apply bd_); refine blk_put (cs := #[.string ⟨#[]⟩, .string ⟨#[]⟩, .string ⟨#[]⟩, .int .i64 0, .string ⟨#[]⟩, .string ⟨#[]⟩, .string ⟨#[]⟩, .bool false, .bool false]) ?_ 6 _ rfl; (with_reducible repeat apply bd_); refine blk_put (cs := #[.string ⟨#[]⟩, .string ⟨#[]⟩, .string ⟨#[]⟩, .int .i64 0, .string ⟨#[]⟩, .string ⟨#[]⟩, .string ⟨#[]⟩, .bool false, .bool false]) ?_ 5 _ rfl; (with_reducible repeat apply bd_); refine blk_put (cs := #[.string ⟨#[]⟩, .string ⟨#[]⟩, .string ⟨#[]⟩, .int .i64 0, .string ⟨#[]⟩, .string ⟨#[]⟩, .string ⟨#[]⟩, .bool false, .bool false]) ?_ 4 _ rfl; (with_reducible repeat apply bd_); refine blk_put (cs := #[.string ⟨#[]⟩, .string ⟨#[]⟩, .string ⟨#[]⟩, .int .i64 0, .string ⟨#[]⟩, .string ⟨#[]⟩, .string ⟨#[]⟩, .bool false, .bool false]) ?_ 3 _ rfl; (with_reducible repeat apply bd_); refine blk_put (cs := #[.string ⟨#[]⟩, .string ⟨#[]⟩, .string ⟨#[]⟩, .int .i64 0, .string ⟨#[]⟩, .string ⟨#[]⟩, .string ⟨#[]⟩, .bool false, .bool false]) ?_ 2 _ rfl; (with_reducible repeat apply bd_); refine blk_put (cs := #[.string ⟨#[]⟩, .string ⟨#[]⟩, .string ⟨#[]⟩, .int .i64 0, .string ⟨#[]⟩, .string ⟨#[]⟩, .string ⟨#[]⟩, .bool false, .bool false]) ?_ 1 _ rfl; (with_reducible repeat apply bd_); refine blk_put (cs := #[.string ⟨#[]⟩, .string ⟨#[]⟩, .string ⟨#[]⟩, .int .i64 0, .string ⟨#[]⟩, .string ⟨#[]⟩, .string ⟨#[]⟩, .bool false, .bool false]) ?_ 0 _ rfl; (with_reducible repeat apply bd_); exact BK164.out) Tryz.underlying32 rfl (by kernel_rfl)) rfl ?_
                               exact ⟨by first | rfl | (simp [errW_none, errW_some] <;> rfl) | (simp only [← hji9, ← hji73]; first | rfl | (simp [errW_none, errW_some] <;> rfl)) | (simp [*, errW_none, errW_some] <;> rfl), belE_⟩
                              ·
                               replace c83 := Bool.eq_false_iff.mpr c83
                               subst c83
                               replace H := ifF_ H
                               obtain ⟨t181, A86, H⟩ := bindE_ H
                               by_cases c87 : t178 = t181
                               ·
                                rw [if_pos c87] at H
                                have c87b0 : (t178 == t181) = true := beq_iff_eq.mpr c87
                                have c87b1 : (t178 != t181) = false := bne_eq_false_iff_eq.mpr c87
                                clear c87
                                obtain ⟨t182, A88, H⟩ := bindE_ H
                                simp only [Option.some.injEq, Prod.mk.injEq] at H
                                obtain ⟨rfl, rfl, rfl, rfl, rfl, rfl, rfl, rfl, rfl, rfl⟩ := H
                                have hnb89 := NB167_164.out
                                have hnc89 := NB164_167.out
                                obtain ⟨hcz90_0, hcz90_1, hcz90_2, hcz90_3, hcz90_4, hcz90_5, hcz90_6, hcz90_7, hcz90_8, hfz90_0, hfz90_1, hfz90_2, hfz90_3, hfz90_4, hfz90_5, hfz90_6, hfz90_7, hfz90_8⟩ := cz9_ BK167
                                try go_wp2_with (first | ((with_reducible refine gate_callee (f := 105) rfl ?_); refine cU_ (some 145) Tryz.func105 #[.string t166] ?_; (with_reducible refine (spec_l01Usual.calls t166 t181 _ A86.out).mono ?_); rintro e w' ⟨rfl, ⟨nd, rfl⟩⟩; refine ⟨_, rfl, ?_⟩; (try (rw [drewN_self wc]; generalize hq_ : World.drewN wc _ = wc; have n0_ : Aside0 (wc.heap[gb164]? = some (.cells #[.string ⟨#[]⟩, .string ⟨#[]⟩, .string ⟨#[]⟩, .int .i64 0, .string ⟨#[]⟩, .string ⟨#[]⟩, .string ⟨#[]⟩, .bool false, .bool false] 32 (0, 0))) := ⟨by rw [← hq_]; exact (by (with_reducible repeat apply bd_); exact BK164.out)⟩; have n1_ : Aside0 (wc.heap[gb167]? = some (.cells #[.string t166, .string x168001_58, .string t177, .int .i64 0, .string x168004_49, .string x168005_37, .string x168006_27, .bool x168007_37, .bool x168008_27] 32 (0, 0))) := ⟨by rw [← hq_]; exact (by (with_reducible repeat apply bd_); exact BK167.out)⟩; have n2_ : Aside0 (Below w.heap.size w wc) := ⟨by rw [← hq_]; exact belE_⟩; clear BK164 BK167 HB hq_; have BK164 := n0_; have BK167 := n1_; have HB := n2_; clear n0_ n1_ n2_; obtain ⟨hcz90_0, hcz90_1, hcz90_2, hcz90_3, hcz90_4, hcz90_5, hcz90_6, hcz90_7, hcz90_8, hfz90_0, hfz90_1, hfz90_2, hfz90_3, hfz90_4, hfz90_5, hfz90_6, hfz90_7, hfz90_8⟩ := cz9_ BK167))))
                                replace BK164 := Aside0.mk (blk_drew BK164.out)
                                replace BK167 := Aside0.mk (blk_drew BK167.out)
                                replace HB := Aside0.mk (below_drew1 HB.out)
                                refine start_ (n := 5) (S := fun w' => w'.cell? ⟨gb167, 0, none⟩ = some (.string t166) ∧ w'.cell? ⟨gb167, 1, none⟩ = some (.string x168001_58) ∧ w'.cell? ⟨gb167, 2, none⟩ = some (.string t177) ∧ w'.cell? ⟨gb167, 3, none⟩ = some (.int .i64 0) ∧ w'.cell? ⟨gb167, 4, none⟩ = some (.string x168004_49) ∧ w'.cell? ⟨gb167, 5, none⟩ = some (.string x168005_37) ∧ w'.cell? ⟨gb167, 6, none⟩ = some (.string x168006_27) ∧ w'.cell? ⟨gb167, 7, none⟩ = some (.bool x168007_37) ∧ w'.cell? ⟨gb167, 8, none⟩ = some (.bool x168008_27)) (ds := []) #[false, false, false, false, false] (by kernel_rfl) rfl rfl (held9_ BK167.out) (fun hHeld => ?_)
                                generalize wc.drew = w91 at BK164 BK167 HB hHeld ⊢
                                refine take_ (i := 0) (N := some 149) (v := ?_) (a' := ?_) #[true, false, false, false, false] rfl rfl (by kernel_rfl) (fun _ _ _ h => h) (Or.inl ⟨by rfl, ?_⟩) hHeld ?_ ?_
                                rotate_left
                                ·
                                 rintro w' ⟨s0, s1, s2, s3, s4, s5, s6, s7, s8⟩
                                 go_simp
                                 with_reducible rfl
                                rotate_left
                                ·
                                 simp only [Act.put, List.setIfInBounds_toArray, List.set_cons_zero, List.set_cons_succ, i64_w, i32_w]
                                 rfl
                                refine take_ (i := 1) (N := some 150) (v := ?_) (a' := ?_) #[true, true, false, false, false] rfl rfl (by kernel_rfl) (fun _ _ _ h => h) (Or.inl ⟨by rfl, ?_⟩) hHeld ?_ ?_
                                rotate_left
                                ·
                                 rintro w' ⟨s0, s1, s2, s3, s4, s5, s6, s7, s8⟩
                                 go_simp
                                 with_reducible rfl
                                rotate_left
                                ·
                                 simp only [Act.put, List.setIfInBounds_toArray, List.set_cons_zero, List.set_cons_succ, i64_w, i32_w]
                                 rfl
                                refine one_ (i := 2) (N := some 151) #[true, true, true, false, false] rfl rfl (by kernel_rfl) (by decide) (fun K hK => ?_)
                                refine goes_ Tryz.func53 (by kernel_rfl) rfl #[.agg #[.string t166, .string x168001_58, .string t177, .int .i64 0, .string x168004_49, .string x168005_37, .string x168006_27, .bool x168007_37, .bool x168008_27]] (by rfl) rfl rfl (by (try simp only [List.map_toArray, List.map_cons, List.map_nil]); first | done | rfl | (simp only [List.length_drop, List.length_take]; rfl)) ?_
                                with_reducible refine (spec_l01OK.calls kj76 t166 x168001_58 t177 0 x168004_49 x168005_37 x168006_27 x168007_37 x168008_27 t182 _ A88.out).mono ?_
                                rintro e w92 ⟨rfl, hb⟩
                                refine ⟨_, rfl, ?_⟩
                                replace BK164 := blkB_ (g := gb164) (o := .cells #[.string ⟨#[]⟩, .string ⟨#[]⟩, .string ⟨#[]⟩, .int .i64 0, .string ⟨#[]⟩, .string ⟨#[]⟩, .string ⟨#[]⟩, .bool false, .bool false] 32 (0, 0)) hb
                                replace BK167 := blkB_ (g := gb167) (o := .cells #[.string t166, .string x168001_58, .string t177, .int .i64 0, .string x168004_49, .string x168005_37, .string x168006_27, .bool x168007_37, .bool x168008_27] 32 (0, 0)) hb
                                replace HB := Aside0.mk (below_step belE_ hb)
                                (try clear hb)
                                (try clear hb2)
                                (try clear hk)
                                (try clear hi)
                                refine hK.out _ _ (held9_ BK167.out) (fun hHeld => ?_)
                                clear hK K
                                refine norm_ (a' := ?_) ?_ ?_
                                rotate_left
                                ·
                                 show Act.put _ (some 151) _ = _
                                 simp only [Act.put, List.setIfInBounds_toArray, List.set_cons_zero, List.set_cons_succ, i64_w, i32_w]
                                 rfl
                                refine one_ (i := 3) (N := none) #[true, true, true, true, false] rfl rfl (by kernel_rfl) (by decide) (fun K hK => ?_)
                                have hs93 : w92.cell? ⟨gb164, 0, none⟩ = some (.string ⟨#[]⟩) := (blk_cell BK164.out 0).trans rfl
                                have hfs93 := blk_frozen BK164.out 0
                                have hns93_1 := NB167_164.out
                                have hms93_1 := NB164_167.out
                                have hs94 : w92.cell? ⟨gb164, 1, none⟩ = some (.string ⟨#[]⟩) := (blk_cell BK164.out 1).trans rfl
                                have hfs94 := blk_frozen BK164.out 1
                                have hns94_1 := NB167_164.out
                                have hms94_1 := NB164_167.out
                                have hs95 : w92.cell? ⟨gb164, 2, none⟩ = some (.string ⟨#[]⟩) := (blk_cell BK164.out 2).trans rfl
                                have hfs95 := blk_frozen BK164.out 2
                                have hns95_1 := NB167_164.out
                                have hms95_1 := NB164_167.out
                                have hs96 : w92.cell? ⟨gb164, 3, none⟩ = some (.int .i64 0) := (blk_cell BK164.out 3).trans rfl
                                have hfs96 := blk_frozen BK164.out 3
                                have hns96_1 := NB167_164.out
                                have hms96_1 := NB164_167.out
                                have hs97 : w92.cell? ⟨gb164, 4, none⟩ = some (.string ⟨#[]⟩) := (blk_cell BK164.out 4).trans rfl
                                have hfs97 := blk_frozen BK164.out 4
                                have hns97_1 := NB167_164.out
                                have hms97_1 := NB164_167.out
                                have hs98 : w92.cell? ⟨gb164, 5, none⟩ = some (.string ⟨#[]⟩) := (blk_cell BK164.out 5).trans rfl
                                have hfs98 := blk_frozen BK164.out 5
                                have hns98_1 := NB167_164.out
                                have hms98_1 := NB164_167.out
                                have hs99 : w92.cell? ⟨gb164, 6, none⟩ = some (.string ⟨#[]⟩) := (blk_cell BK164.out 6).trans rfl
                                have hfs99 := blk_frozen BK164.out 6
                                have hns99_1 := NB167_164.out
                                have hms99_1 := NB164_167.out
                                have hs100 : w92.cell? ⟨gb164, 7, none⟩ = some (.bool false) := (blk_cell BK164.out 7).trans rfl
                                have hfs100 := blk_frozen BK164.out 7
                                have hns100_1 := NB167_164.out
                                have hms100_1 := NB164_167.out
                                have hs101 : w92.cell? ⟨gb164, 8, none⟩ = some (.bool false) := (blk_cell BK164.out 8).trans rfl
                                have hfs101 := blk_frozen BK164.out 8
                                have hns101_1 := NB167_164.out
                                have hms101_1 := NB164_167.out
                                refine skip_ (w1 := ?_) (by rfl) rfl ?_ ?_
                                rotate_left
                                ·
                                 go_simp
                                 rfl
                                refine hK.out _ _ ⟨(f_ NB167_164 ((f_ NB167_164 ((f_ NB167_164 ((f_ NB167_164 ((f_ NB167_164 ((f_ NB167_164 ((f_ NB167_164 ((f_ NB167_164 ((f_ NB167_164 (hHeld.1)))))))))))))))))), (f_ NB167_164 ((f_ NB167_164 ((f_ NB167_164 ((f_ NB167_164 ((f_ NB167_164 ((f_ NB167_164 ((f_ NB167_164 ((f_ NB167_164 ((f_ NB167_164 (hHeld.2.1)))))))))))))))))), (f_ NB167_164 ((f_ NB167_164 ((f_ NB167_164 ((f_ NB167_164 ((f_ NB167_164 ((f_ NB167_164 ((f_ NB167_164 ((f_ NB167_164 ((f_ NB167_164 (hHeld.2.2.1)))))))))))))))))), (f_ NB167_164 ((f_ NB167_164 ((f_ NB167_164 ((f_ NB167_164 ((f_ NB167_164 ((f_ NB167_164 ((f_ NB167_164 ((f_ NB167_164 ((f_ NB167_164 (hHeld.2.2.2.1)))))))))))))))))), (f_ NB167_164 ((f_ NB167_164 ((f_ NB167_164 ((f_ NB167_164 ((f_ NB167_164 ((f_ NB167_164 ((f_ NB167_164 ((f_ NB167_164 ((f_ NB167_164 (hHeld.2.2.2.2.1)))))))))))))))))), (f_ NB167_164 ((f_ NB167_164 ((f_ NB167_164 ((f_ NB167_164 ((f_ NB167_164 ((f_ NB167_164 ((f_ NB167_164 ((f_ NB167_164 ((f_ NB167_164 (hHeld.2.2.2.2.2.1)))))))))))))))))), (f_ NB167_164 ((f_ NB167_164 ((f_ NB167_164 ((f_ NB167_164 ((f_ NB167_164 ((f_ NB167_164 ((f_ NB167_164 ((f_ NB167_164 ((f_ NB167_164 (hHeld.2.2.2.2.2.2.1)))))))))))))))))), (f_ NB167_164 ((f_ NB167_164 ((f_ NB167_164 ((f_ NB167_164 ((f_ NB167_164 ((f_ NB167_164 ((f_ NB167_164 ((f_ NB167_164 ((f_ NB167_164 (hHeld.2.2.2.2.2.2.2.1)))))))))))))))))), (f_ NB167_164 ((f_ NB167_164 ((f_ NB167_164 ((f_ NB167_164 ((f_ NB167_164 ((f_ NB167_164 ((f_ NB167_164 ((f_ NB167_164 ((f_ NB167_164 (hHeld.2.2.2.2.2.2.2.2))))))))))))))))))⟩ (fun hHeld => ?_)
                                clear hK K
                                refine pure_ (i := 4) (N := some 3) (v := ?_) (a' := ?_) #[true, true, true, true, true] rfl rfl (by kernel_rfl) (fun _ _ _ h => h) (Or.inl ⟨by rfl, ?_⟩) ?_ ?_
                                rotate_left
                                ·
                                 intro w'
                                 go_simp
                                 with_reducible rfl
                                rotate_left
                                ·
                                 simp only [Act.put, List.setIfInBounds_toArray, List.set_cons_zero, List.set_cons_succ, i64_w, i32_w]
                                 rfl
                                refine done_ (by kernel_rfl) ?_
                                try go_wp2
                                refine bodyPost_ret (results_ct rfl _ _ gb164 32 #[.string t166, .string x168001_58, .string t177, .int .i64 0, .string x168004_49, .string x168005_37, .string x168006_27, .bool x168007_37, .bool x168008_27] (0, 0) _ rfl (by (with_reducible repeat apply bd_); refine blk_put (cs := #[.string t166, .string x168001_58, .string t177, .int .i64 0, .string x168004_49, .string x168005_37, .string x168006_27, .bool x168007_37, .bool false]) ?_ 8 _ rfl; (with_reducible repeat apply bd_); refine blk_put (cs := #[.string t166, .string x168001_58, .string t177, .int .i64 0, .string x168004_49, .string x168005_37, .string x168006_27, .bool false, .bool false]) ?_ 7 _ rfl; (with_reducible repeat apply bd_); refine blk_put (cs := #[.string t166, .string x168001_58, .string t177, .int .i64 0, .string x168004_49, .string x168005_37, .string ⟨#[]⟩, .bool false, .bool false]) ?_ 6 _ rfl; (with_reducible repeat apply bd_); refine blk_put (cs := #[.string t166, .string x168001_58, .string t177, .int .i64 0, .string x168004_49, .string ⟨#[]⟩, .string ⟨#[]⟩, .bool false, .bool false]) ?_ 5 _ rfl; (with_reducible repeat apply bd_); refine blk_put (cs := #[.string t166, .string x168001_58, .string t177, .int .i64 0, .string ⟨#[]⟩, .string ⟨#[]⟩, .string ⟨#[]⟩, .bool false, .bool false]) ?_ 4 _ rfl; (with_reducible repeat apply bd_); refine blk_put (cs := #[.string t166, .string x168001_58, .string t177, .int .i64 0, .string ⟨#[]⟩, .string ⟨#[]⟩, .string ⟨#[]⟩, .bool false, .bool false]) ?_ 3 _ rfl; (with_reducible repeat apply bd_); refine blk_put (cs := #[.string t166, .string x168001_58, .string ⟨#[]⟩, .int .i64 0, .string ⟨#[]⟩, .string ⟨#[]⟩, .string ⟨#[]⟩, .bool false, .bool false]) ?_ 2 _ rfl; (with_reducible repeat apply bd_); refine blk_put (cs := #[.string t166, .string ⟨#[]⟩, .string ⟨#[]⟩, .int .i64 0, .string ⟨#[]⟩, .string ⟨#[]⟩, .string ⟨#[]⟩, .bool false, .bool false]) ?_ 1 _ rfl; (with_reducible repeat apply bd_); refine blk_put (cs := #[.string ⟨#[]⟩, .string ⟨#[]⟩, .string ⟨#[]⟩, .int .i64 0, .string ⟨#[]⟩, .string ⟨#[]⟩, .string ⟨#[]⟩, .bool false, .bool false]) ?_ 0 _ rfl; (with_reducible repeat apply bd_); exact BK164.out) Tryz.underlying32 rfl (by kernel_rfl)) rfl ?_
                                exact ⟨by first | rfl | (simp [errW_none, errW_some] <;> rfl) | (simp only [← hji9, ← hji73]; first | rfl | (simp [errW_none, errW_some] <;> rfl)) | (simp [*, errW_none, errW_some] <;> rfl), belE_⟩
                               ·
                                rw [if_neg c87] at H
                                have c87b0 : (t178 == t181) = false := beq_eq_false_iff_ne.mpr c87
                                have c87b1 : (t178 != t181) = true := bne_iff_ne.mpr c87
                                obtain ⟨t183, A102, H⟩ := bindE_ H
                                simp only [Option.some.injEq, Prod.mk.injEq] at H
                                obtain ⟨rfl, rfl, rfl, rfl, rfl, rfl, rfl, rfl, rfl, rfl⟩ := H
                                have hnb103 := NB167_164.out
                                have hnc103 := NB164_167.out
                                obtain ⟨hcz104_0, hcz104_1, hcz104_2, hcz104_3, hcz104_4, hcz104_5, hcz104_6, hcz104_7, hcz104_8, hfz104_0, hfz104_1, hfz104_2, hfz104_3, hfz104_4, hfz104_5, hfz104_6, hfz104_7, hfz104_8⟩ := cz9_ BK167
                                try go_wp2_with (first | ((with_reducible refine gate_callee (f := 105) rfl ?_); refine cU_ (some 145) Tryz.func105 #[.string t166] ?_; (with_reducible refine (spec_l01Usual.calls t166 t181 _ A86.out).mono ?_); rintro e w' ⟨rfl, ⟨nd, rfl⟩⟩; refine ⟨_, rfl, ?_⟩; (try (rw [drewN_self wc]; generalize hq_ : World.drewN wc _ = wc; have n0_ : Aside0 (wc.heap[gb164]? = some (.cells #[.string ⟨#[]⟩, .string ⟨#[]⟩, .string ⟨#[]⟩, .int .i64 0, .string ⟨#[]⟩, .string ⟨#[]⟩, .string ⟨#[]⟩, .bool false, .bool false] 32 (0, 0))) := ⟨by rw [← hq_]; exact (by (with_reducible repeat apply bd_); exact BK164.out)⟩; have n1_ : Aside0 (wc.heap[gb167]? = some (.cells #[.string t166, .string x168001_58, .string t177, .int .i64 0, .string x168004_49, .string x168005_37, .string x168006_27, .bool x168007_37, .bool x168008_27] 32 (0, 0))) := ⟨by rw [← hq_]; exact (by (with_reducible repeat apply bd_); exact BK167.out)⟩; have n2_ : Aside0 (Below w.heap.size w wc) := ⟨by rw [← hq_]; exact belE_⟩; clear BK164 BK167 HB hq_; have BK164 := n0_; have BK167 := n1_; have HB := n2_; clear n0_ n1_ n2_; obtain ⟨hcz104_0, hcz104_1, hcz104_2, hcz104_3, hcz104_4, hcz104_5, hcz104_6, hcz104_7, hcz104_8, hfz104_0, hfz104_1, hfz104_2, hfz104_3, hfz104_4, hfz104_5, hfz104_6, hfz104_7, hfz104_8⟩ := cz9_ BK167))))
                                refine worldR_ (R := fun W_ => Aside0 (W_.heap[gb164]? = some (.cells #[.string ⟨#[]⟩, .string ⟨#[]⟩, .string ⟨#[]⟩, .int .i64 0, .string ⟨#[]⟩, .string ⟨#[]⟩, .string ⟨#[]⟩, .bool false, .bool false] 32 (0, 0))) ∧ Aside0 (W_.heap[gb167]? = some (.cells #[.string t166, .string x168001_58, .string t177, .int .i64 t178, .string x168004_49, .string x168005_37, .string x168006_27, .bool x168007_37, .bool x168008_27] 32 (0, 0))) ∧ Aside0 (Below w.heap.size w W_)) ⟨⟨farE_⟩, ⟨by (with_reducible repeat apply bd_); refine blk_put (cs := #[.string t166, .string x168001_58, .string t177, .int .i64 0, .string x168004_49, .string x168005_37, .string x168006_27, .bool x168007_37, .bool x168008_27]) ?_ 3 _ rfl; (with_reducible repeat apply bd_); exact BK167.out⟩, ⟨belE_⟩⟩ ?_
                                (try clear BK164)
                                (try clear BK167)
                                (try clear HB)
                                rintro w105 ⟨n0_, n1_, n2_⟩
                                have BK164 := n0_
                                have BK167 := n1_
                                have HB := n2_
                                clear n0_ n1_ n2_
                                replace BK164 := Aside0.mk (blk_drew BK164.out)
                                replace BK167 := Aside0.mk (blk_drew BK167.out)
                                replace HB := Aside0.mk (below_drew1 HB.out)
                                refine start_ (n := 5) (S := fun w' => w'.cell? ⟨gb167, 0, none⟩ = some (.string t166) ∧ w'.cell? ⟨gb167, 1, none⟩ = some (.string x168001_58) ∧ w'.cell? ⟨gb167, 2, none⟩ = some (.string t177) ∧ w'.cell? ⟨gb167, 3, none⟩ = some (.int .i64 t178) ∧ w'.cell? ⟨gb167, 4, none⟩ = some (.string x168004_49) ∧ w'.cell? ⟨gb167, 5, none⟩ = some (.string x168005_37) ∧ w'.cell? ⟨gb167, 6, none⟩ = some (.string x168006_27) ∧ w'.cell? ⟨gb167, 7, none⟩ = some (.bool x168007_37) ∧ w'.cell? ⟨gb167, 8, none⟩ = some (.bool x168008_27)) (ds := []) #[false, false, false, false, false] (by kernel_rfl) rfl rfl (held9_ BK167.out) (fun hHeld => ?_)
                                generalize w105.drew = w106 at BK164 BK167 HB hHeld ⊢
                                refine take_ (i := 0) (N := some 149) (v := ?_) (a' := ?_) #[true, false, false, false, false] rfl rfl (by kernel_rfl) (fun _ _ _ h => h) (Or.inl ⟨by rfl, ?_⟩) hHeld ?_ ?_
                                rotate_left
                                ·
                                 rintro w' ⟨s0, s1, s2, s3, s4, s5, s6, s7, s8⟩
                                 go_simp
                                 with_reducible rfl
                                rotate_left
                                ·
                                 simp only [Act.put, List.setIfInBounds_toArray, List.set_cons_zero, List.set_cons_succ, i64_w, i32_w]
                                 rfl
                                refine take_ (i := 1) (N := some 150) (v := ?_) (a' := ?_) #[true, true, false, false, false] rfl rfl (by kernel_rfl) (fun _ _ _ h => h) (Or.inl ⟨by rfl, ?_⟩) hHeld ?_ ?_
                                rotate_left
                                ·
                                 rintro w' ⟨s0, s1, s2, s3, s4, s5, s6, s7, s8⟩
                                 go_simp
                                 with_reducible rfl
                                rotate_left
                                ·
                                 simp only [Act.put, List.setIfInBounds_toArray, List.set_cons_zero, List.set_cons_succ, i64_w, i32_w]
                                 rfl
                                refine one_ (i := 2) (N := some 151) #[true, true, true, false, false] rfl rfl (by kernel_rfl) (by decide) (fun K hK => ?_)
                                refine goes_ Tryz.func53 (by kernel_rfl) rfl #[.agg #[.string t166, .string x168001_58, .string t177, .int .i64 t178, .string x168004_49, .string x168005_37, .string x168006_27, .bool x168007_37, .bool x168008_27]] (by rfl) rfl rfl (by (try simp only [List.map_toArray, List.map_cons, List.map_nil]); first | done | rfl | (simp only [List.length_drop, List.length_take]; rfl)) ?_
                                with_reducible refine (spec_l01OK.calls kj76 t166 x168001_58 t177 t178 x168004_49 x168005_37 x168006_27 x168007_37 x168008_27 t183 _ A102.out).mono ?_
                                rintro e w107 ⟨rfl, hb⟩
                                refine ⟨_, rfl, ?_⟩
                                replace BK164 := blkB_ (g := gb164) (o := .cells #[.string ⟨#[]⟩, .string ⟨#[]⟩, .string ⟨#[]⟩, .int .i64 0, .string ⟨#[]⟩, .string ⟨#[]⟩, .string ⟨#[]⟩, .bool false, .bool false] 32 (0, 0)) hb
                                replace BK167 := blkB_ (g := gb167) (o := .cells #[.string t166, .string x168001_58, .string t177, .int .i64 t178, .string x168004_49, .string x168005_37, .string x168006_27, .bool x168007_37, .bool x168008_27] 32 (0, 0)) hb
                                replace HB := Aside0.mk (below_step belE_ hb)
                                (try clear hb)
                                (try clear hb2)
                                (try clear hk)
                                (try clear hi)
                                refine hK.out _ _ (held9_ BK167.out) (fun hHeld => ?_)
                                clear hK K
                                refine norm_ (a' := ?_) ?_ ?_
                                rotate_left
                                ·
                                 show Act.put _ (some 151) _ = _
                                 simp only [Act.put, List.setIfInBounds_toArray, List.set_cons_zero, List.set_cons_succ, i64_w, i32_w]
                                 rfl
                                refine one_ (i := 3) (N := none) #[true, true, true, true, false] rfl rfl (by kernel_rfl) (by decide) (fun K hK => ?_)
                                have hs108 : w107.cell? ⟨gb164, 0, none⟩ = some (.string ⟨#[]⟩) := (blk_cell BK164.out 0).trans rfl
                                have hfs108 := blk_frozen BK164.out 0
                                have hns108_1 := NB167_164.out
                                have hms108_1 := NB164_167.out
                                have hs109 : w107.cell? ⟨gb164, 1, none⟩ = some (.string ⟨#[]⟩) := (blk_cell BK164.out 1).trans rfl
                                have hfs109 := blk_frozen BK164.out 1
                                have hns109_1 := NB167_164.out
                                have hms109_1 := NB164_167.out
                                have hs110 : w107.cell? ⟨gb164, 2, none⟩ = some (.string ⟨#[]⟩) := (blk_cell BK164.out 2).trans rfl
                                have hfs110 := blk_frozen BK164.out 2
                                have hns110_1 := NB167_164.out
                                have hms110_1 := NB164_167.out
                                have hs111 : w107.cell? ⟨gb164, 3, none⟩ = some (.int .i64 0) := (blk_cell BK164.out 3).trans rfl
                                have hfs111 := blk_frozen BK164.out 3
                                have hns111_1 := NB167_164.out
                                have hms111_1 := NB164_167.out
                                have hs112 : w107.cell? ⟨gb164, 4, none⟩ = some (.string ⟨#[]⟩) := (blk_cell BK164.out 4).trans rfl
                                have hfs112 := blk_frozen BK164.out 4
                                have hns112_1 := NB167_164.out
                                have hms112_1 := NB164_167.out
                                have hs113 : w107.cell? ⟨gb164, 5, none⟩ = some (.string ⟨#[]⟩) := (blk_cell BK164.out 5).trans rfl
                                have hfs113 := blk_frozen BK164.out 5
                                have hns113_1 := NB167_164.out
                                have hms113_1 := NB164_167.out
                                have hs114 : w107.cell? ⟨gb164, 6, none⟩ = some (.string ⟨#[]⟩) := (blk_cell BK164.out 6).trans rfl
                                have hfs114 := blk_frozen BK164.out 6
                                have hns114_1 := NB167_164.out
                                have hms114_1 := NB164_167.out
                                have hs115 : w107.cell? ⟨gb164, 7, none⟩ = some (.bool false) := (blk_cell BK164.out 7).trans rfl
                                have hfs115 := blk_frozen BK164.out 7
                                have hns115_1 := NB167_164.out
                                have hms115_1 := NB164_167.out
                                have hs116 : w107.cell? ⟨gb164, 8, none⟩ = some (.bool false) := (blk_cell BK164.out 8).trans rfl
                                have hfs116 := blk_frozen BK164.out 8
                                have hns116_1 := NB167_164.out
                                have hms116_1 := NB164_167.out
                                refine skip_ (w1 := ?_) (by rfl) rfl ?_ ?_
                                rotate_left
                                ·
                                 go_simp
                                 rfl
                                refine hK.out _ _ ⟨(f_ NB167_164 ((f_ NB167_164 ((f_ NB167_164 ((f_ NB167_164 ((f_ NB167_164 ((f_ NB167_164 ((f_ NB167_164 ((f_ NB167_164 ((f_ NB167_164 (hHeld.1)))))))))))))))))), (f_ NB167_164 ((f_ NB167_164 ((f_ NB167_164 ((f_ NB167_164 ((f_ NB167_164 ((f_ NB167_164 ((f_ NB167_164 ((f_ NB167_164 ((f_ NB167_164 (hHeld.2.1)))))))))))))))))), (f_ NB167_164 ((f_ NB167_164 ((f_ NB167_164 ((f_ NB167_164 ((f_ NB167_164 ((f_ NB167_164 ((f_ NB167_164 ((f_ NB167_164 ((f_ NB167_164 (hHeld.2.2.1)))))))))))))))))), (f_ NB167_164 ((f_ NB167_164 ((f_ NB167_164 ((f_ NB167_164 ((f_ NB167_164 ((f_ NB167_164 ((f_ NB167_164 ((f_ NB167_164 ((f_ NB167_164 (hHeld.2.2.2.1)))))))))))))))))), (f_ NB167_164 ((f_ NB167_164 ((f_ NB167_164 ((f_ NB167_164 ((f_ NB167_164 ((f_ NB167_164 ((f_ NB167_164 ((f_ NB167_164 ((f_ NB167_164 (hHeld.2.2.2.2.1)))))))))))))))))), (f_ NB167_164 ((f_ NB167_164 ((f_ NB167_164 ((f_ NB167_164 ((f_ NB167_164 ((f_ NB167_164 ((f_ NB167_164 ((f_ NB167_164 ((f_ NB167_164 (hHeld.2.2.2.2.2.1)))))))))))))))))), (f_ NB167_164 ((f_ NB167_164 ((f_ NB167_164 ((f_ NB167_164 ((f_ NB167_164 ((f_ NB167_164 ((f_ NB167_164 ((f_ NB167_164 ((f_ NB167_164 (hHeld.2.2.2.2.2.2.1)))))))))))))))))), (f_ NB167_164 ((f_ NB167_164 ((f_ NB167_164 ((f_ NB167_164 ((f_ NB167_164 ((f_ NB167_164 ((f_ NB167_164 ((f_ NB167_164 ((f_ NB167_164 (hHeld.2.2.2.2.2.2.2.1)))))))))))))))))), (f_ NB167_164 ((f_ NB167_164 ((f_ NB167_164 ((f_ NB167_164 ((f_ NB167_164 ((f_ NB167_164 ((f_ NB167_164 ((f_ NB167_164 ((f_ NB167_164 (hHeld.2.2.2.2.2.2.2.2))))))))))))))))))⟩ (fun hHeld => ?_)
                                clear hK K
                                refine pure_ (i := 4) (N := some 3) (v := ?_) (a' := ?_) #[true, true, true, true, true] rfl rfl (by kernel_rfl) (fun _ _ _ h => h) (Or.inl ⟨by rfl, ?_⟩) ?_ ?_
                                rotate_left
                                ·
                                 intro w'
                                 go_simp
                                 with_reducible rfl
                                rotate_left
                                ·
                                 simp only [Act.put, List.setIfInBounds_toArray, List.set_cons_zero, List.set_cons_succ, i64_w, i32_w]
                                 rfl
                                refine done_ (by kernel_rfl) ?_
                                try go_wp2
                                refine bodyPost_ret (results_ct rfl _ _ gb164 32 #[.string t166, .string x168001_58, .string t177, .int .i64 t178, .string x168004_49, .string x168005_37, .string x168006_27, .bool x168007_37, .bool x168008_27] (0, 0) _ rfl (by (with_reducible repeat apply bd_); refine blk_put (cs := #[.string t166, .string x168001_58, .string t177, .int .i64 t178, .string x168004_49, .string x168005_37, .string x168006_27, .bool x168007_37, .bool false]) ?_ 8 _ rfl; (with_reducible repeat apply bd_); refine blk_put (cs := #[.string t166, .string x168001_58, .string t177, .int .i64 t178, .string x168004_49, .string x168005_37, .string x168006_27, .bool false, .bool false]) ?_ 7 _ rfl; (with_reducible repeat apply bd_); refine blk_put (cs := #[.string t166, .string x168001_58, .string t177, .int .i64 t178, .string x168004_49, .string x168005_37, .string ⟨#[]⟩, .bool false, .bool false]) ?_ 6 _ rfl; (with_reducible repeat apply bd_); refine blk_put (cs := #[.string t166, .string x168001_58, .string t177, .int .i64 t178, .string x168004_49, .string ⟨#[]⟩, .string ⟨#[]⟩, .bool false, .bool false]) ?_ 5 _ rfl; (with_reducible repeat apply bd_); refine blk_put (cs := #[.string t166, .string x168001_58, .string t177, .int .i64 t178, .string ⟨#[]⟩, .string ⟨#[]⟩, .string ⟨#[]⟩, .bool false, .bool false]) ?_ 4 _ rfl; (with_reducible repeat apply bd_); refine blk_put (cs := #[.string t166, .string x168001_58, .string t177, .int .i64 0, .string ⟨#[]⟩, .string ⟨#[]⟩, .string ⟨#[]⟩, .bool false, .bool false]) ?_ 3 _ rfl; (with_reducible repeat apply bd_); refine blk_put (cs := #[.string t166, .string x168001_58, .string ⟨#[]⟩, .int .i64 0, .string ⟨#[]⟩, .string ⟨#[]⟩, .string ⟨#[]⟩, .bool false, .bool false]) ?_ 2 _ rfl; (with_reducible repeat apply bd_); refine blk_put (cs := #[.string t166, .string ⟨#[]⟩, .string ⟨#[]⟩, .int .i64 0, .string ⟨#[]⟩, .string ⟨#[]⟩, .string ⟨#[]⟩, .bool false, .bool false]) ?_ 1 _ rfl; (with_reducible repeat apply bd_); refine blk_put (cs := #[.string ⟨#[]⟩, .string ⟨#[]⟩, .string ⟨#[]⟩, .int .i64 0, .string ⟨#[]⟩, .string ⟨#[]⟩, .string ⟨#[]⟩, .bool false, .bool false]) ?_ 0 _ rfl; (with_reducible repeat apply bd_); exact BK164.out) Tryz.underlying32 rfl (by kernel_rfl)) rfl ?_
                                exact ⟨by first | rfl | (simp [errW_none, errW_some] <;> rfl) | (simp only [← hji9, ← hji73]; first | rfl | (simp [errW_none, errW_some] <;> rfl)) | (simp [*, errW_none, errW_some] <;> rfl), belE_⟩
                           ·
                            rw [if_neg c75] at H
                            exact absurd H (by simp)
                          ·
                           rw [if_neg c74] at H
                           exact absurd H (by simp)
                         ·
                          rw [if_neg c72] at H
                          have c72b0 : decide (t176 < (x6_58.size : Int)) = false := decide_eq_false c72
                          clear c72
                          obtain ⟨t184, A117, H⟩ := bindE_ H
                          simp only [Option.some.injEq, Prod.mk.injEq] at H
                          obtain ⟨rfl, rfl, rfl, rfl, rfl, rfl, rfl, rfl, rfl, rfl⟩ := H
                          try go_wp2_with (first | ((with_reducible refine gate_callee (f := 122) rfl ?_); refine cU_ (some 116) Tryz.func122 #[.string x6_58, .int .u8 58] ?_; (with_reducible refine (spec_l01Find.calls kj58 x6_58 58 t176 _ A68.out).mono ?_); rintro e w' ⟨rfl, ⟨nd, rfl⟩⟩; refine ⟨_, rfl, ?_⟩; (try (rw [drewN_self wc]; generalize hq_ : World.drewN wc _ = wc; have n0_ : Aside0 (wc.heap[gb164]? = some (.cells #[.string ⟨#[]⟩, .string ⟨#[]⟩, .string ⟨#[]⟩, .int .i64 0, .string ⟨#[]⟩, .string ⟨#[]⟩, .string ⟨#[]⟩, .bool false, .bool false] 32 (0, 0))) := ⟨by rw [← hq_]; exact (by (with_reducible repeat apply bd_); exact BK164.out)⟩; have n1_ : Aside0 (wc.heap[gb167]? = some (.cells #[.string t166, .string x168001_58, .string ⟨#[]⟩, .int .i64 0, .string x168004_49, .string x168005_37, .string x168006_27, .bool x168007_37, .bool x168008_27] 32 (0, 0))) := ⟨by rw [← hq_]; exact (by (with_reducible repeat apply bd_); exact BK167.out)⟩; have n2_ : Aside0 (Below w.heap.size w wc) := ⟨by rw [← hq_]; exact belE_⟩; clear BK164 BK167 HB hq_; have BK164 := n0_; have BK167 := n1_; have HB := n2_; clear n0_ n1_ n2_))) | ((with_reducible refine gate_callee (f := 123) rfl ?_); refine cU_ (some 120) Tryz.func123 #[.string (x6_58.extract 0 (t176 : Int).toNat)] ?_; (with_reducible refine (spec_l01Lower.calls kj58 (x6_58.extract 0 (t176 : Int).toNat) t177 _ A71.out).mono ?_); rintro e w118 ⟨rfl, hb⟩; refine ⟨_, rfl, ?_⟩; have n0_ := blkB_ (g := gb164) (o := .cells #[.string ⟨#[]⟩, .string ⟨#[]⟩, .string ⟨#[]⟩, .int .i64 0, .string ⟨#[]⟩, .string ⟨#[]⟩, .string ⟨#[]⟩, .bool false, .bool false] 32 (0, 0)) hb; have n1_ := blkB_ (g := gb167) (o := .cells #[.string t166, .string x168001_58, .string ⟨#[]⟩, .int .i64 0, .string x168004_49, .string x168005_37, .string x168006_27, .bool x168007_37, .bool x168008_27] 32 (0, 0)) hb; have n2_ := Aside0.mk (below_step belE_ hb); clear BK164; clear BK167; clear HB; have BK164 := n0_; have BK167 := n1_; have HB := n2_; clear n0_ n1_ n2_; (try clear hb); (try clear hb2); (try clear hk); (try clear hi); have hnb119 := NB167_164.out; have hnc119 := NB164_167.out; obtain ⟨hcz120_0, hcz120_1, hcz120_2, hcz120_3, hcz120_4, hcz120_5, hcz120_6, hcz120_7, hcz120_8, hfz120_0, hfz120_1, hfz120_2, hfz120_3, hfz120_4, hfz120_5, hfz120_6, hfz120_7, hfz120_8⟩ := cz9_ BK167))
                          refine worldR_ (R := fun W_ => Aside0 (W_.heap[gb164]? = some (.cells #[.string ⟨#[]⟩, .string ⟨#[]⟩, .string ⟨#[]⟩, .int .i64 0, .string ⟨#[]⟩, .string ⟨#[]⟩, .string ⟨#[]⟩, .bool false, .bool false] 32 (0, 0))) ∧ Aside0 (W_.heap[gb167]? = some (.cells #[.string t166, .string x168001_58, .string t177, .int .i64 0, .string x168004_49, .string x168005_37, .string x168006_27, .bool x168007_37, .bool x168008_27] 32 (0, 0))) ∧ Aside0 (Below w.heap.size w W_)) ⟨⟨farE_⟩, ⟨by (with_reducible repeat apply bd_); refine blk_put (cs := #[.string t166, .string x168001_58, .string ⟨#[]⟩, .int .i64 0, .string x168004_49, .string x168005_37, .string x168006_27, .bool x168007_37, .bool x168008_27]) ?_ 2 _ rfl; (with_reducible repeat apply bd_); exact BK167.out⟩, ⟨belE_⟩⟩ ?_
                          (try clear BK164)
                          (try clear BK167)
                          (try clear HB)
                          rintro w121 ⟨n0_, n1_, n2_⟩
                          have BK164 := n0_
                          have BK167 := n1_
                          have HB := n2_
                          clear n0_ n1_ n2_
                          replace BK164 := Aside0.mk (blk_drew BK164.out)
                          replace BK167 := Aside0.mk (blk_drew BK167.out)
                          replace HB := Aside0.mk (below_drew1 HB.out)
                          refine start_ (n := 5) (S := fun w' => w'.cell? ⟨gb167, 0, none⟩ = some (.string t166) ∧ w'.cell? ⟨gb167, 1, none⟩ = some (.string x168001_58) ∧ w'.cell? ⟨gb167, 2, none⟩ = some (.string t177) ∧ w'.cell? ⟨gb167, 3, none⟩ = some (.int .i64 0) ∧ w'.cell? ⟨gb167, 4, none⟩ = some (.string x168004_49) ∧ w'.cell? ⟨gb167, 5, none⟩ = some (.string x168005_37) ∧ w'.cell? ⟨gb167, 6, none⟩ = some (.string x168006_27) ∧ w'.cell? ⟨gb167, 7, none⟩ = some (.bool x168007_37) ∧ w'.cell? ⟨gb167, 8, none⟩ = some (.bool x168008_27)) (ds := []) #[false, false, false, false, false] (by kernel_rfl) rfl rfl (held9_ BK167.out) (fun hHeld => ?_)
                          generalize w121.drew = w122 at BK164 BK167 HB hHeld ⊢
                          refine take_ (i := 0) (N := some 149) (v := ?_) (a' := ?_) #[true, false, false, false, false] rfl rfl (by kernel_rfl) (fun _ _ _ h => h) (Or.inl ⟨by rfl, ?_⟩) hHeld ?_ ?_
                          rotate_left
                          ·
                           rintro w' ⟨s0, s1, s2, s3, s4, s5, s6, s7, s8⟩
                           go_simp
                           with_reducible rfl
                          rotate_left
                          ·
                           simp only [Act.put, List.setIfInBounds_toArray, List.set_cons_zero, List.set_cons_succ, i64_w, i32_w]
                           rfl
                          refine take_ (i := 1) (N := some 150) (v := ?_) (a' := ?_) #[true, true, false, false, false] rfl rfl (by kernel_rfl) (fun _ _ _ h => h) (Or.inl ⟨by rfl, ?_⟩) hHeld ?_ ?_
                          rotate_left
                          ·
                           rintro w' ⟨s0, s1, s2, s3, s4, s5, s6, s7, s8⟩
                           go_simp
                           with_reducible rfl
                          rotate_left
                          ·
                           simp only [Act.put, List.setIfInBounds_toArray, List.set_cons_zero, List.set_cons_succ, i64_w, i32_w]
                           rfl
                          refine one_ (i := 2) (N := some 151) #[true, true, true, false, false] rfl rfl (by kernel_rfl) (by decide) (fun K hK => ?_)
                          refine goes_ Tryz.func53 (by kernel_rfl) rfl #[.agg #[.string t166, .string x168001_58, .string t177, .int .i64 0, .string x168004_49, .string x168005_37, .string x168006_27, .bool x168007_37, .bool x168008_27]] (by rfl) rfl rfl (by (try simp only [List.map_toArray, List.map_cons, List.map_nil]); first | done | rfl | (simp only [List.length_drop, List.length_take]; rfl)) ?_
                          with_reducible refine (spec_l01OK.calls kj58 t166 x168001_58 t177 0 x168004_49 x168005_37 x168006_27 x168007_37 x168008_27 t184 _ A117.out).mono ?_
                          rintro e w123 ⟨rfl, hb⟩
                          refine ⟨_, rfl, ?_⟩
                          replace BK164 := blkB_ (g := gb164) (o := .cells #[.string ⟨#[]⟩, .string ⟨#[]⟩, .string ⟨#[]⟩, .int .i64 0, .string ⟨#[]⟩, .string ⟨#[]⟩, .string ⟨#[]⟩, .bool false, .bool false] 32 (0, 0)) hb
                          replace BK167 := blkB_ (g := gb167) (o := .cells #[.string t166, .string x168001_58, .string t177, .int .i64 0, .string x168004_49, .string x168005_37, .string x168006_27, .bool x168007_37, .bool x168008_27] 32 (0, 0)) hb
                          replace HB := Aside0.mk (below_step belE_ hb)
                          (try clear hb)
                          (try clear hb2)
                          (try clear hk)
                          (try clear hi)
                          refine hK.out _ _ (held9_ BK167.out) (fun hHeld => ?_)
                          clear hK K
                          refine norm_ (a' := ?_) ?_ ?_
                          rotate_left
                          ·
                           show Act.put _ (some 151) _ = _
                           simp only [Act.put, List.setIfInBounds_toArray, List.set_cons_zero, List.set_cons_succ, i64_w, i32_w]
                           rfl
                          refine one_ (i := 3) (N := none) #[true, true, true, true, false] rfl rfl (by kernel_rfl) (by decide) (fun K hK => ?_)
                          have hs124 : w123.cell? ⟨gb164, 0, none⟩ = some (.string ⟨#[]⟩) := (blk_cell BK164.out 0).trans rfl
                          have hfs124 := blk_frozen BK164.out 0
                          have hns124_1 := NB167_164.out
                          have hms124_1 := NB164_167.out
                          have hs125 : w123.cell? ⟨gb164, 1, none⟩ = some (.string ⟨#[]⟩) := (blk_cell BK164.out 1).trans rfl
                          have hfs125 := blk_frozen BK164.out 1
                          have hns125_1 := NB167_164.out
                          have hms125_1 := NB164_167.out
                          have hs126 : w123.cell? ⟨gb164, 2, none⟩ = some (.string ⟨#[]⟩) := (blk_cell BK164.out 2).trans rfl
                          have hfs126 := blk_frozen BK164.out 2
                          have hns126_1 := NB167_164.out
                          have hms126_1 := NB164_167.out
                          have hs127 : w123.cell? ⟨gb164, 3, none⟩ = some (.int .i64 0) := (blk_cell BK164.out 3).trans rfl
                          have hfs127 := blk_frozen BK164.out 3
                          have hns127_1 := NB167_164.out
                          have hms127_1 := NB164_167.out
                          have hs128 : w123.cell? ⟨gb164, 4, none⟩ = some (.string ⟨#[]⟩) := (blk_cell BK164.out 4).trans rfl
                          have hfs128 := blk_frozen BK164.out 4
                          have hns128_1 := NB167_164.out
                          have hms128_1 := NB164_167.out
                          have hs129 : w123.cell? ⟨gb164, 5, none⟩ = some (.string ⟨#[]⟩) := (blk_cell BK164.out 5).trans rfl
                          have hfs129 := blk_frozen BK164.out 5
                          have hns129_1 := NB167_164.out
                          have hms129_1 := NB164_167.out
                          have hs130 : w123.cell? ⟨gb164, 6, none⟩ = some (.string ⟨#[]⟩) := (blk_cell BK164.out 6).trans rfl
                          have hfs130 := blk_frozen BK164.out 6
                          have hns130_1 := NB167_164.out
                          have hms130_1 := NB164_167.out
                          have hs131 : w123.cell? ⟨gb164, 7, none⟩ = some (.bool false) := (blk_cell BK164.out 7).trans rfl
                          have hfs131 := blk_frozen BK164.out 7
                          have hns131_1 := NB167_164.out
                          have hms131_1 := NB164_167.out
                          have hs132 : w123.cell? ⟨gb164, 8, none⟩ = some (.bool false) := (blk_cell BK164.out 8).trans rfl
                          have hfs132 := blk_frozen BK164.out 8
                          have hns132_1 := NB167_164.out
                          have hms132_1 := NB164_167.out
                          refine skip_ (w1 := ?_) (by rfl) rfl ?_ ?_
                          rotate_left
                          ·
                           go_simp
                           rfl
                          refine hK.out _ _ ⟨(f_ NB167_164 ((f_ NB167_164 ((f_ NB167_164 ((f_ NB167_164 ((f_ NB167_164 ((f_ NB167_164 ((f_ NB167_164 ((f_ NB167_164 ((f_ NB167_164 (hHeld.1)))))))))))))))))), (f_ NB167_164 ((f_ NB167_164 ((f_ NB167_164 ((f_ NB167_164 ((f_ NB167_164 ((f_ NB167_164 ((f_ NB167_164 ((f_ NB167_164 ((f_ NB167_164 (hHeld.2.1)))))))))))))))))), (f_ NB167_164 ((f_ NB167_164 ((f_ NB167_164 ((f_ NB167_164 ((f_ NB167_164 ((f_ NB167_164 ((f_ NB167_164 ((f_ NB167_164 ((f_ NB167_164 (hHeld.2.2.1)))))))))))))))))), (f_ NB167_164 ((f_ NB167_164 ((f_ NB167_164 ((f_ NB167_164 ((f_ NB167_164 ((f_ NB167_164 ((f_ NB167_164 ((f_ NB167_164 ((f_ NB167_164 (hHeld.2.2.2.1)))))))))))))))))), (f_ NB167_164 ((f_ NB167_164 ((f_ NB167_164 ((f_ NB167_164 ((f_ NB167_164 ((f_ NB167_164 ((f_ NB167_164 ((f_ NB167_164 ((f_ NB167_164 (hHeld.2.2.2.2.1)))))))))))))))))), (f_ NB167_164 ((f_ NB167_164 ((f_ NB167_164 ((f_ NB167_164 ((f_ NB167_164 ((f_ NB167_164 ((f_ NB167_164 ((f_ NB167_164 ((f_ NB167_164 (hHeld.2.2.2.2.2.1)))))))))))))))))), (f_ NB167_164 ((f_ NB167_164 ((f_ NB167_164 ((f_ NB167_164 ((f_ NB167_164 ((f_ NB167_164 ((f_ NB167_164 ((f_ NB167_164 ((f_ NB167_164 (hHeld.2.2.2.2.2.2.1)))))))))))))))))), (f_ NB167_164 ((f_ NB167_164 ((f_ NB167_164 ((f_ NB167_164 ((f_ NB167_164 ((f_ NB167_164 ((f_ NB167_164 ((f_ NB167_164 ((f_ NB167_164 (hHeld.2.2.2.2.2.2.2.1)))))))))))))))))), (f_ NB167_164 ((f_ NB167_164 ((f_ NB167_164 ((f_ NB167_164 ((f_ NB167_164 ((f_ NB167_164 ((f_ NB167_164 ((f_ NB167_164 ((f_ NB167_164 (hHeld.2.2.2.2.2.2.2.2))))))))))))))))))⟩ (fun hHeld => ?_)
                          clear hK K
                          refine pure_ (i := 4) (N := some 3) (v := ?_) (a' := ?_) #[true, true, true, true, true] rfl rfl (by kernel_rfl) (fun _ _ _ h => h) (Or.inl ⟨by rfl, ?_⟩) ?_ ?_
                          rotate_left
                          ·
                           intro w'
                           go_simp
                           with_reducible rfl
                          rotate_left
                          ·
                           simp only [Act.put, List.setIfInBounds_toArray, List.set_cons_zero, List.set_cons_succ, i64_w, i32_w]
                           rfl
                          refine done_ (by kernel_rfl) ?_
                          try go_wp2
                          refine bodyPost_ret (results_ct rfl _ _ gb164 32 #[.string t166, .string x168001_58, .string t177, .int .i64 0, .string x168004_49, .string x168005_37, .string x168006_27, .bool x168007_37, .bool x168008_27] (0, 0) _ rfl (by (with_reducible repeat apply bd_); refine blk_put (cs := #[.string t166, .string x168001_58, .string t177, .int .i64 0, .string x168004_49, .string x168005_37, .string x168006_27, .bool x168007_37, .bool false]) ?_ 8 _ rfl; (with_reducible repeat apply bd_); refine blk_put (cs := #[.string t166, .string x168001_58, .string t177, .int .i64 0, .string x168004_49, .string x168005_37, .string x168006_27, .bool false, .bool false]) ?_ 7 _ rfl; (with_reducible repeat apply bd_); refine blk_put (cs := #[.string t166, .string x168001_58, .string t177, .int .i64 0, .string x168004_49, .string x168005_37, .string ⟨#[]⟩, .bool false, .bool false]) ?_ 6 _ rfl; (with_reducible repeat apply bd_); refine blk_put (cs := #[.string t166, .string x168001_58, .string t177, .int .i64 0, .string x168004_49, .string ⟨#[]⟩, .string ⟨#[]⟩, .bool false, .bool false]) ?_ 5 _ rfl; (with_reducible repeat apply bd_); refine blk_put (cs := #[.string t166, .string x168001_58, .string t177, .int .i64 0, .string ⟨#[]⟩, .string ⟨#[]⟩, .string ⟨#[]⟩, .bool false, .bool false]) ?_ 4 _ rfl; (with_reducible repeat apply bd_); refine blk_put (cs := #[.string t166, .string x168001_58, .string t177, .int .i64 0, .string ⟨#[]⟩, .string ⟨#[]⟩, .string ⟨#[]⟩, .bool false, .bool false]) ?_ 3 _ rfl; (with_reducible repeat apply bd_); refine blk_put (cs := #[.string t166, .string x168001_58, .string ⟨#[]⟩, .int .i64 0, .string ⟨#[]⟩, .string ⟨#[]⟩, .string ⟨#[]⟩, .bool false, .bool false]) ?_ 2 _ rfl; (with_reducible repeat apply bd_); refine blk_put (cs := #[.string t166, .string ⟨#[]⟩, .string ⟨#[]⟩, .int .i64 0, .string ⟨#[]⟩, .string ⟨#[]⟩, .string ⟨#[]⟩, .bool false, .bool false]) ?_ 1 _ rfl; (with_reducible repeat apply bd_); refine blk_put (cs := #[.string ⟨#[]⟩, .string ⟨#[]⟩, .string ⟨#[]⟩, .int .i64 0, .string ⟨#[]⟩, .string ⟨#[]⟩, .string ⟨#[]⟩, .bool false, .bool false]) ?_ 0 _ rfl; (with_reducible repeat apply bd_); exact BK164.out) Tryz.underlying32 rfl (by kernel_rfl)) rfl ?_
                          exact ⟨by first | rfl | (simp [errW_none, errW_some] <;> rfl) | (simp only [← hji9]; first | rfl | (simp [errW_none, errW_some] <;> rfl)) | (simp [*, errW_none, errW_some] <;> rfl), belE_⟩
                        ·
                         rw [if_neg c70] at H
                         exact absurd H (by simp)
                       ·
                        rw [if_neg c69] at H
                        exact absurd H (by simp)
                    ·
                     rw [if_neg c57] at H
                     exact absurd H (by simp)
                   ·
                    rw [if_neg c56] at H
                    exact absurd H (by simp)
                ·
                 rw [if_neg c49] at H
                 exact absurd H (by simp)
               ·
                rw [if_neg c48] at H
                exact absurd H (by simp)
          ·
           rw [if_neg c26] at H
           exact absurd H (by simp)
      ·
       replace c13 := Bool.eq_false_iff.mpr c13
       subst c13
       replace H := ifF_ H
       obtain ⟨t169, A133, H⟩ := bindE_ H
       by_cases c134 : 0 ≤ t169
       ·
        rw [if_pos c134] at H
        have c134b0 := eq_true c134
        have c134b1 : decide (0 ≤ t169) = true := decide_eq_true c134
        clear c134
        by_cases c135 : t169 ≤ ((a0.extract ((ji9) : Int).toNat a0.size).size : Int)
        ·
         rw [if_pos c135] at H
         have c135b0 := eq_true c135
         have c135b1 : decide (t169 ≤ ((a0.extract ((ji9) : Int).toNat a0.size).size : Int)) = true := decide_eq_true c135
         try (have c135e1 := c135b1; simp only [ByteArray.size_extract, Nat.min_self, Nat.sub_zero] at c135e1)
         try (have c135e0 := eq_true (of_decide_eq_true c135e1))
         clear c135
         obtain ⟨t170, A136, H⟩ := bindE_ H
         by_cases c137 : 0 ≤ t170
         ·
          rw [if_pos c137] at H
          have c137b0 := eq_true c137
          have c137b1 : decide (0 ≤ t170) = true := decide_eq_true c137
          clear c137
          by_cases c138 : t170 ≤ (((a0.extract ((ji9) : Int).toNat a0.size).extract 0 (t169 : Int).toNat).size : Int)
          ·
           rw [if_pos c138] at H
           have c138b0 := eq_true c138
           have c138b1 : decide (t170 ≤ (((a0.extract ((ji9) : Int).toNat a0.size).extract 0 (t169 : Int).toNat).size : Int)) = true := decide_eq_true c138
           try (have c138e1 := c138b1; simp only [ByteArray.size_extract, Nat.min_self, Nat.sub_zero] at c138e1)
           try (have c138e0 := eq_true (of_decide_eq_true c138e1))
           try (have c138e9 : (max t169 0 < t170) = False := eq_false (by have q_ := of_decide_eq_true c138e1; omega))
           clear c138
           obtain ⟨t171, A139, H⟩ := bindE_ H
           simp only [Option.some.injEq, Prod.mk.injEq] at H
           obtain ⟨rfl, rfl, rfl, rfl, rfl, rfl, rfl, rfl, rfl, rfl⟩ := H
           go_enter Tryz.func76, Tryz.ntmps76
           try go_wp2_with (first | ((with_reducible refine gate_dst (N := 2) rfl ?_); refine box_event ?hg (N := 2) ?hd (cs := #[.string ⟨#[]⟩, .string ⟨#[]⟩, .string ⟨#[]⟩, .int .i64 0, .string ⟨#[]⟩, .string ⟨#[]⟩, .string ⟨#[]⟩, .bool false, .bool false]) (t := 32) ?hr ?_; (case hd => rfl); (case hg => rfl); (case hr => first | (go_simp; done) | (go_simp; rfl)); intro gb164 hg w140 hbox hb; have n0_ := belB_ hb; have n1_ := Aside0.mk (hbox); have n2_ := Aside0.mk ((by rw [hg]; exact (below_size belE_) : w.heap.size ≤ gb164)); have n3_ := Aside0.mk ((by rw [hg]; exact (below_size belE_) : w.heap.size ≤ gb164)); clear HB; have HB := n0_; have BK164 := n1_; have GW164 := n2_; have GE164 := n3_; clear n0_ n1_ n2_ n3_; clear hb hbox hg) | ((with_reducible refine gate_callee (f := 122) rfl ?_); refine cU_ (some 14) Tryz.func122 #[.string a0, .int .u8 58] ?_; (with_reducible refine (spec_l01Find.calls k a0 58 t165 _ A2.out).mono ?_); rintro e w' ⟨rfl, ⟨nd, rfl⟩⟩; refine ⟨_, rfl, ?_⟩; (try (rw [drewN_self w140]; generalize hq_ : World.drewN w140 _ = w140; have n0_ : Aside0 (w140.heap[gb164]? = some (.cells #[.string ⟨#[]⟩, .string ⟨#[]⟩, .string ⟨#[]⟩, .int .i64 0, .string ⟨#[]⟩, .string ⟨#[]⟩, .string ⟨#[]⟩, .bool false, .bool false] 32 (0, 0))) := ⟨by rw [← hq_]; exact (by (with_reducible repeat apply bd_); exact BK164.out)⟩; have n1_ : Aside0 (Below w.heap.size w w140) := ⟨by rw [← hq_]; exact belE_⟩; clear BK164 HB hq_; have BK164 := n0_; have HB := n1_; clear n0_ n1_))) | ((with_reducible refine gate_callee (f := 123) rfl ?_); refine cU_ (some 23) Tryz.func123 #[.string (a0.extract 0 (t165 : Int).toNat)] ?_; (with_reducible refine (spec_l01Lower.calls k (a0.extract 0 (t165 : Int).toNat) t166 _ A8.out).mono ?_); rintro e w141 ⟨rfl, hb⟩; refine ⟨_, rfl, ?_⟩; replace BK164 := blkK_ BK164 hb; replace HB := belB_ hb; (try clear hb)) | ((with_reducible refine gate_dst (N := 5) rfl ?_); refine box_event ?hg (N := 5) ?hd (cs := #[.string ⟨#[]⟩, .string ⟨#[]⟩, .string ⟨#[]⟩, .int .i64 0, .string ⟨#[]⟩, .string ⟨#[]⟩, .string ⟨#[]⟩, .bool false, .bool false]) (t := 32) ?hr ?_; (case hd => rfl); (case hg => rfl); (case hr => first | (go_simp; done) | (go_simp; rfl)); intro gb167 hg w142 hbox hb; have n0_ := blkB_ (g := gb164) (o := .cells #[.string ⟨#[]⟩, .string ⟨#[]⟩, .string ⟨#[]⟩, .int .i64 0, .string ⟨#[]⟩, .string ⟨#[]⟩, .string ⟨#[]⟩, .bool false, .bool false] 32 (0, 0)) hb; have n1_ := belB_ hb; have n2_ := Aside0.mk (hbox); have n3_ := Aside0.mk ((by rw [hg]; exact (below_size belE_) : w.heap.size ≤ gb167)); have n4_ := Aside0.mk ((by rw [hg]; exact (below_size belE_) : w.heap.size ≤ gb167)); have n5_ := Aside0.mk ((by rw [hg]; exact Nat.ne_of_lt (blk_lt (g := gb164) (o := .cells #[.string ⟨#[]⟩, .string ⟨#[]⟩, .string ⟨#[]⟩, .int .i64 0, .string ⟨#[]⟩, .string ⟨#[]⟩, .string ⟨#[]⟩, .bool false, .bool false] 32 (0, 0)) (by (with_reducible repeat apply bd_); exact BK164.out)) : gb164 ≠ gb167)); have n6_ := Aside0.mk ((by rw [hg]; exact Nat.ne_of_gt (blk_lt (g := gb164) (o := .cells #[.string ⟨#[]⟩, .string ⟨#[]⟩, .string ⟨#[]⟩, .int .i64 0, .string ⟨#[]⟩, .string ⟨#[]⟩, .string ⟨#[]⟩, .bool false, .bool false] 32 (0, 0)) (by (with_reducible repeat apply bd_); exact BK164.out)) : gb167 ≠ gb164)); clear BK164; clear HB; have BK164 := n0_; have HB := n1_; have BK167 := n2_; have GW167 := n3_; have GE167 := n4_; have NB164_167 := n5_; have NB167_164 := n6_; clear n0_ n1_ n2_ n3_ n4_ n5_ n6_; clear hb hbox hg; have hnb143 := NB167_164.out; have hnc143 := NB164_167.out; obtain ⟨hcz144_0, hcz144_1, hcz144_2, hcz144_3, hcz144_4, hcz144_5, hcz144_6, hcz144_7, hcz144_8, hfz144_0, hfz144_1, hfz144_2, hfz144_3, hfz144_4, hfz144_5, hfz144_6, hfz144_7, hfz144_8⟩ := cz9_ BK167) | ((with_reducible refine gate_callee (f := 61) rfl ?_); refine cU_ (some 31) Tryz.func61 #[.string t166] ?_; (with_reducible refine (spec_l01Web.calls t166 false _ A12.out).mono ?_); rintro e w' ⟨rfl, ⟨nd, rfl⟩⟩; refine ⟨_, rfl, ?_⟩) | ((with_reducible refine gate_callee (f := 122) rfl ?_); refine goesL_ (some 34) rfl rfl Tryz.func122 (by kernel_rfl) rfl #[.string (a0.extract ((ji9) : Int).toNat a0.size), .int .u8 35] rfl (by (try simp only [List.map_toArray, List.map_cons, List.map_nil]); first | done | (simp only [hji9]; rfl) | rfl | (simp only [List.length_drop, List.length_take]; rfl)) ?_; (with_reducible refine (spec_l01Find.calls k (a0.extract ((ji9) : Int).toNat a0.size) 35 t169 _ A133.out).mono ?_); rintro e w' ⟨rfl, ⟨nd, rfl⟩⟩; refine ⟨_, rfl, ?_⟩) | ((with_reducible refine gate_callee (f := 122) rfl ?_); refine goesL_ (some 39) rfl rfl Tryz.func122 (by kernel_rfl) rfl #[.string ((a0.extract ((ji9) : Int).toNat a0.size).extract 0 (t169 : Int).toNat), .int .u8 63] rfl (by (try simp only [List.map_toArray, List.map_cons, List.map_nil]); first | done | (simp only [hji9]; rfl) | rfl | (simp only [List.length_drop, List.length_take]; rfl)) ?_; (with_reducible refine (spec_l01Find.calls k ((a0.extract ((ji9) : Int).toNat a0.size).extract 0 (t169 : Int).toNat) 63 t170 _ A136.out).mono ?_); rintro e w' ⟨rfl, ⟨nd, rfl⟩⟩; refine ⟨_, rfl, ?_⟩))
           refine worldR_ (R := fun W_ => Aside0 (W_.heap[gb164]? = some (.cells #[.string ⟨#[]⟩, .string ⟨#[]⟩, .string ⟨#[]⟩, .int .i64 0, .string ⟨#[]⟩, .string ⟨#[]⟩, .string ⟨#[]⟩, .bool false, .bool false] 32 (0, 0))) ∧ Aside0 (W_.heap[gb167]? = some (.cells #[.string t166, .string ⟨#[]⟩, .string ⟨#[]⟩, .int .i64 0, .string (((a0.extract ((ji9) : Int).toNat a0.size).extract 0 (t169 : Int).toNat).extract 0 (t170 : Int).toNat), .string ⟨#[]⟩, .string ⟨#[]⟩, .bool false, .bool false] 32 (0, 0))) ∧ Aside0 (Below w.heap.size w W_)) ⟨⟨farE_⟩, ⟨by (with_reducible repeat apply bd_); refine blk_put (cs := #[.string t166, .string ⟨#[]⟩, .string ⟨#[]⟩, .int .i64 0, .string ⟨#[]⟩, .string ⟨#[]⟩, .string ⟨#[]⟩, .bool false, .bool false]) ?_ 4 _ rfl; (with_reducible repeat apply bd_); refine blk_put (cs := #[.string t166, .string ⟨#[]⟩, .string ⟨#[]⟩, .int .i64 0, .string ⟨#[]⟩, .string ⟨#[]⟩, .string ⟨#[]⟩, .bool false, .bool false]) ?_ 8 _ rfl; (with_reducible repeat apply bd_); refine blk_put (cs := #[.string t166, .string ⟨#[]⟩, .string ⟨#[]⟩, .int .i64 0, .string ⟨#[]⟩, .string ⟨#[]⟩, .string ⟨#[]⟩, .bool false, .bool false]) ?_ 7 _ rfl; (with_reducible repeat apply bd_); refine blk_put (cs := #[.string t166, .string ⟨#[]⟩, .string ⟨#[]⟩, .int .i64 0, .string ⟨#[]⟩, .string ⟨#[]⟩, .string ⟨#[]⟩, .bool false, .bool false]) ?_ 6 _ rfl; (with_reducible repeat apply bd_); refine blk_put (cs := #[.string t166, .string ⟨#[]⟩, .string ⟨#[]⟩, .int .i64 0, .string ⟨#[]⟩, .string ⟨#[]⟩, .string ⟨#[]⟩, .bool false, .bool false]) ?_ 5 _ rfl; (with_reducible repeat apply bd_); refine blk_put (cs := #[.string t166, .string ⟨#[]⟩, .string ⟨#[]⟩, .int .i64 0, .string ⟨#[]⟩, .string ⟨#[]⟩, .string ⟨#[]⟩, .bool false, .bool false]) ?_ 4 _ rfl; (with_reducible repeat apply bd_); refine blk_put (cs := #[.string t166, .string ⟨#[]⟩, .string ⟨#[]⟩, .int .i64 0, .string ⟨#[]⟩, .string ⟨#[]⟩, .string ⟨#[]⟩, .bool false, .bool false]) ?_ 3 _ rfl; (with_reducible repeat apply bd_); refine blk_put (cs := #[.string t166, .string ⟨#[]⟩, .string ⟨#[]⟩, .int .i64 0, .string ⟨#[]⟩, .string ⟨#[]⟩, .string ⟨#[]⟩, .bool false, .bool false]) ?_ 2 _ rfl; (with_reducible repeat apply bd_); refine blk_put (cs := #[.string t166, .string ⟨#[]⟩, .string ⟨#[]⟩, .int .i64 0, .string ⟨#[]⟩, .string ⟨#[]⟩, .string ⟨#[]⟩, .bool false, .bool false]) ?_ 1 _ rfl; (with_reducible repeat apply bd_); refine blk_put (cs := #[.string ⟨#[]⟩, .string ⟨#[]⟩, .string ⟨#[]⟩, .int .i64 0, .string ⟨#[]⟩, .string ⟨#[]⟩, .string ⟨#[]⟩, .bool false, .bool false]) ?_ 0 _ rfl; (with_reducible repeat apply bd_); exact BK167.out⟩, ⟨belE_⟩⟩ ?_
           (try clear BK164)
           (try clear BK167)
           (try clear HB)
           rintro w145 ⟨n0_, n1_, n2_⟩
           have BK164 := n0_
           have BK167 := n1_
           have HB := n2_
           clear n0_ n1_ n2_
           (try (rw [drewN_self w145]; generalize hq_ : World.drewN w145 _ = w145; have n0_ : Aside0 (w145.heap[gb164]? = some (.cells #[.string ⟨#[]⟩, .string ⟨#[]⟩, .string ⟨#[]⟩, .int .i64 0, .string ⟨#[]⟩, .string ⟨#[]⟩, .string ⟨#[]⟩, .bool false, .bool false] 32 (0, 0))) := ⟨by rw [← hq_]; exact (by (with_reducible repeat apply bd_); exact BK164.out)⟩; have n1_ : Aside0 (w145.heap[gb167]? = some (.cells #[.string t166, .string ⟨#[]⟩, .string ⟨#[]⟩, .int .i64 0, .string (((a0.extract ((ji9) : Int).toNat a0.size).extract 0 (t169 : Int).toNat).extract 0 (t170 : Int).toNat), .string ⟨#[]⟩, .string ⟨#[]⟩, .bool false, .bool false] 32 (0, 0))) := ⟨by rw [← hq_]; exact (by (with_reducible repeat apply bd_); exact BK167.out)⟩; have n2_ : Aside0 (Below w.heap.size w w145) := ⟨by rw [← hq_]; exact belE_⟩; clear BK164 BK167 HB hq_; have BK164 := n0_; have BK167 := n1_; have HB := n2_; clear n0_ n1_ n2_))
           replace BK164 := Aside0.mk (blk_drew BK164.out)
           replace BK167 := Aside0.mk (blk_drew BK167.out)
           replace HB := Aside0.mk (below_drew1 HB.out)
           refine start_ (n := 5) (S := fun w' => w'.cell? ⟨gb167, 0, none⟩ = some (.string t166) ∧ w'.cell? ⟨gb167, 1, none⟩ = some (.string ⟨#[]⟩) ∧ w'.cell? ⟨gb167, 2, none⟩ = some (.string ⟨#[]⟩) ∧ w'.cell? ⟨gb167, 3, none⟩ = some (.int .i64 0) ∧ w'.cell? ⟨gb167, 4, none⟩ = some (.string (((a0.extract ((ji9) : Int).toNat a0.size).extract 0 (t169 : Int).toNat).extract 0 (t170 : Int).toNat)) ∧ w'.cell? ⟨gb167, 5, none⟩ = some (.string ⟨#[]⟩) ∧ w'.cell? ⟨gb167, 6, none⟩ = some (.string ⟨#[]⟩) ∧ w'.cell? ⟨gb167, 7, none⟩ = some (.bool false) ∧ w'.cell? ⟨gb167, 8, none⟩ = some (.bool false)) (ds := []) #[false, false, false, false, false] (by kernel_rfl) rfl rfl (held9_ BK167.out) (fun hHeld => ?_)
           generalize w145.drew = w146 at BK164 BK167 HB hHeld ⊢
           refine take_ (i := 0) (N := some 44) (v := ?_) (a' := ?_) #[true, false, false, false, false] rfl rfl (by kernel_rfl) (fun _ _ _ h => h) (Or.inl ⟨by rfl, ?_⟩) hHeld ?_ ?_
           rotate_left
           ·
            rintro w' ⟨s0, s1, s2, s3, s4, s5, s6, s7, s8⟩
            go_simp
            with_reducible rfl
           rotate_left
           ·
            simp only [Act.put, List.setIfInBounds_toArray, List.set_cons_zero, List.set_cons_succ, i64_w, i32_w]
            rfl
           refine take_ (i := 1) (N := some 45) (v := ?_) (a' := ?_) #[true, true, false, false, false] rfl rfl (by kernel_rfl) (fun _ _ _ h => h) (Or.inl ⟨by rfl, ?_⟩) hHeld ?_ ?_
           rotate_left
           ·
            rintro w' ⟨s0, s1, s2, s3, s4, s5, s6, s7, s8⟩
            go_simp
            with_reducible rfl
           rotate_left
           ·
            simp only [Act.put, List.setIfInBounds_toArray, List.set_cons_zero, List.set_cons_succ, i64_w, i32_w]
            rfl
           refine one_ (i := 2) (N := some 46) #[true, true, true, false, false] rfl rfl (by kernel_rfl) (by decide) (fun K hK => ?_)
           refine goes_ Tryz.func53 (by kernel_rfl) rfl #[.agg #[.string t166, .string ⟨#[]⟩, .string ⟨#[]⟩, .int .i64 0, .string (((a0.extract ((ji9) : Int).toNat a0.size).extract 0 (t169 : Int).toNat).extract 0 (t170 : Int).toNat), .string ⟨#[]⟩, .string ⟨#[]⟩, .bool false, .bool false]] (by rfl) rfl rfl (by (try simp only [List.map_toArray, List.map_cons, List.map_nil]); first | done | (simp only [hji9]; rfl) | rfl | (simp only [List.length_drop, List.length_take]; rfl)) ?_
           with_reducible refine (spec_l01OK.calls k t166 (⟨#[]⟩ : ByteArray) (⟨#[]⟩ : ByteArray) 0 (((a0.extract ((ji9) : Int).toNat a0.size).extract 0 (t169 : Int).toNat).extract 0 (t170 : Int).toNat) (⟨#[]⟩ : ByteArray) (⟨#[]⟩ : ByteArray) false false t171 _ A139.out).mono ?_
           rintro e w147 ⟨rfl, hb⟩
           refine ⟨_, rfl, ?_⟩
           replace BK164 := blkB_ (g := gb164) (o := .cells #[.string ⟨#[]⟩, .string ⟨#[]⟩, .string ⟨#[]⟩, .int .i64 0, .string ⟨#[]⟩, .string ⟨#[]⟩, .string ⟨#[]⟩, .bool false, .bool false] 32 (0, 0)) hb
           replace BK167 := blkB_ (g := gb167) (o := .cells #[.string t166, .string ⟨#[]⟩, .string ⟨#[]⟩, .int .i64 0, .string (((a0.extract ((ji9) : Int).toNat a0.size).extract 0 (t169 : Int).toNat).extract 0 (t170 : Int).toNat), .string ⟨#[]⟩, .string ⟨#[]⟩, .bool false, .bool false] 32 (0, 0)) hb
           replace HB := Aside0.mk (below_step belE_ hb)
           (try clear hb)
           (try clear hb2)
           (try clear hk)
           (try clear hi)
           refine hK.out _ _ (held9_ BK167.out) (fun hHeld => ?_)
           clear hK K
           refine norm_ (a' := ?_) ?_ ?_
           rotate_left
           ·
            show Act.put _ (some 46) _ = _
            simp only [Act.put, List.setIfInBounds_toArray, List.set_cons_zero, List.set_cons_succ, i64_w, i32_w]
            rfl
           refine one_ (i := 3) (N := none) #[true, true, true, true, false] rfl rfl (by kernel_rfl) (by decide) (fun K hK => ?_)
           have hs148 : w147.cell? ⟨gb164, 0, none⟩ = some (.string ⟨#[]⟩) := (blk_cell BK164.out 0).trans rfl
           have hfs148 := blk_frozen BK164.out 0
           have hns148_1 := NB167_164.out
           have hms148_1 := NB164_167.out
           have hs149 : w147.cell? ⟨gb164, 1, none⟩ = some (.string ⟨#[]⟩) := (blk_cell BK164.out 1).trans rfl
           have hfs149 := blk_frozen BK164.out 1
           have hns149_1 := NB167_164.out
           have hms149_1 := NB164_167.out
           have hs150 : w147.cell? ⟨gb164, 2, none⟩ = some (.string ⟨#[]⟩) := (blk_cell BK164.out 2).trans rfl
           have hfs150 := blk_frozen BK164.out 2
           have hns150_1 := NB167_164.out
           have hms150_1 := NB164_167.out
           have hs151 : w147.cell? ⟨gb164, 3, none⟩ = some (.int .i64 0) := (blk_cell BK164.out 3).trans rfl
           have hfs151 := blk_frozen BK164.out 3
           have hns151_1 := NB167_164.out
           have hms151_1 := NB164_167.out
           have hs152 : w147.cell? ⟨gb164, 4, none⟩ = some (.string ⟨#[]⟩) := (blk_cell BK164.out 4).trans rfl
           have hfs152 := blk_frozen BK164.out 4
           have hns152_1 := NB167_164.out
           have hms152_1 := NB164_167.out
           have hs153 : w147.cell? ⟨gb164, 5, none⟩ = some (.string ⟨#[]⟩) := (blk_cell BK164.out 5).trans rfl
           have hfs153 := blk_frozen BK164.out 5
           have hns153_1 := NB167_164.out
           have hms153_1 := NB164_167.out
           have hs154 : w147.cell? ⟨gb164, 6, none⟩ = some (.string ⟨#[]⟩) := (blk_cell BK164.out 6).trans rfl
           have hfs154 := blk_frozen BK164.out 6
           have hns154_1 := NB167_164.out
           have hms154_1 := NB164_167.out
           have hs155 : w147.cell? ⟨gb164, 7, none⟩ = some (.bool false) := (blk_cell BK164.out 7).trans rfl
           have hfs155 := blk_frozen BK164.out 7
           have hns155_1 := NB167_164.out
           have hms155_1 := NB164_167.out
           have hs156 : w147.cell? ⟨gb164, 8, none⟩ = some (.bool false) := (blk_cell BK164.out 8).trans rfl
           have hfs156 := blk_frozen BK164.out 8
           have hns156_1 := NB167_164.out
           have hms156_1 := NB164_167.out
           refine skip_ (w1 := ?_) (by rfl) rfl ?_ ?_
           rotate_left
           ·
            go_simp
            rfl
           refine hK.out _ _ ⟨(f_ NB167_164 ((f_ NB167_164 ((f_ NB167_164 ((f_ NB167_164 ((f_ NB167_164 ((f_ NB167_164 ((f_ NB167_164 ((f_ NB167_164 ((f_ NB167_164 (hHeld.1)))))))))))))))))), (f_ NB167_164 ((f_ NB167_164 ((f_ NB167_164 ((f_ NB167_164 ((f_ NB167_164 ((f_ NB167_164 ((f_ NB167_164 ((f_ NB167_164 ((f_ NB167_164 (hHeld.2.1)))))))))))))))))), (f_ NB167_164 ((f_ NB167_164 ((f_ NB167_164 ((f_ NB167_164 ((f_ NB167_164 ((f_ NB167_164 ((f_ NB167_164 ((f_ NB167_164 ((f_ NB167_164 (hHeld.2.2.1)))))))))))))))))), (f_ NB167_164 ((f_ NB167_164 ((f_ NB167_164 ((f_ NB167_164 ((f_ NB167_164 ((f_ NB167_164 ((f_ NB167_164 ((f_ NB167_164 ((f_ NB167_164 (hHeld.2.2.2.1)))))))))))))))))), (f_ NB167_164 ((f_ NB167_164 ((f_ NB167_164 ((f_ NB167_164 ((f_ NB167_164 ((f_ NB167_164 ((f_ NB167_164 ((f_ NB167_164 ((f_ NB167_164 (hHeld.2.2.2.2.1)))))))))))))))))), (f_ NB167_164 ((f_ NB167_164 ((f_ NB167_164 ((f_ NB167_164 ((f_ NB167_164 ((f_ NB167_164 ((f_ NB167_164 ((f_ NB167_164 ((f_ NB167_164 (hHeld.2.2.2.2.2.1)))))))))))))))))), (f_ NB167_164 ((f_ NB167_164 ((f_ NB167_164 ((f_ NB167_164 ((f_ NB167_164 ((f_ NB167_164 ((f_ NB167_164 ((f_ NB167_164 ((f_ NB167_164 (hHeld.2.2.2.2.2.2.1)))))))))))))))))), (f_ NB167_164 ((f_ NB167_164 ((f_ NB167_164 ((f_ NB167_164 ((f_ NB167_164 ((f_ NB167_164 ((f_ NB167_164 ((f_ NB167_164 ((f_ NB167_164 (hHeld.2.2.2.2.2.2.2.1)))))))))))))))))), (f_ NB167_164 ((f_ NB167_164 ((f_ NB167_164 ((f_ NB167_164 ((f_ NB167_164 ((f_ NB167_164 ((f_ NB167_164 ((f_ NB167_164 ((f_ NB167_164 (hHeld.2.2.2.2.2.2.2.2))))))))))))))))))⟩ (fun hHeld => ?_)
           clear hK K
           refine pure_ (i := 4) (N := some 3) (v := ?_) (a' := ?_) #[true, true, true, true, true] rfl rfl (by kernel_rfl) (fun _ _ _ h => h) (Or.inl ⟨by rfl, ?_⟩) ?_ ?_
           rotate_left
           ·
            intro w'
            go_simp
            with_reducible rfl
           rotate_left
           ·
            simp only [Act.put, List.setIfInBounds_toArray, List.set_cons_zero, List.set_cons_succ, i64_w, i32_w]
            rfl
           refine done_ (by kernel_rfl) ?_
           try go_wp2
           refine bodyPost_ret (results_ct rfl _ _ gb164 32 #[.string t166, .string ⟨#[]⟩, .string ⟨#[]⟩, .int .i64 0, .string (((a0.extract ((ji9) : Int).toNat a0.size).extract 0 (t169 : Int).toNat).extract 0 (t170 : Int).toNat), .string ⟨#[]⟩, .string ⟨#[]⟩, .bool false, .bool false] (0, 0) _ rfl (by (with_reducible repeat apply bd_); refine blk_put (cs := #[.string t166, .string ⟨#[]⟩, .string ⟨#[]⟩, .int .i64 0, .string (((a0.extract ((ji9) : Int).toNat a0.size).extract 0 (t169 : Int).toNat).extract 0 (t170 : Int).toNat), .string ⟨#[]⟩, .string ⟨#[]⟩, .bool false, .bool false]) ?_ 8 _ rfl; (with_reducible repeat apply bd_); refine blk_put (cs := #[.string t166, .string ⟨#[]⟩, .string ⟨#[]⟩, .int .i64 0, .string (((a0.extract ((ji9) : Int).toNat a0.size).extract 0 (t169 : Int).toNat).extract 0 (t170 : Int).toNat), .string ⟨#[]⟩, .string ⟨#[]⟩, .bool false, .bool false]) ?_ 7 _ rfl; (with_reducible repeat apply bd_); refine blk_put (cs := #[.string t166, .string ⟨#[]⟩, .string ⟨#[]⟩, .int .i64 0, .string (((a0.extract ((ji9) : Int).toNat a0.size).extract 0 (t169 : Int).toNat).extract 0 (t170 : Int).toNat), .string ⟨#[]⟩, .string ⟨#[]⟩, .bool false, .bool false]) ?_ 6 _ rfl; (with_reducible repeat apply bd_); refine blk_put (cs := #[.string t166, .string ⟨#[]⟩, .string ⟨#[]⟩, .int .i64 0, .string (((a0.extract ((ji9) : Int).toNat a0.size).extract 0 (t169 : Int).toNat).extract 0 (t170 : Int).toNat), .string ⟨#[]⟩, .string ⟨#[]⟩, .bool false, .bool false]) ?_ 5 _ rfl; (with_reducible repeat apply bd_); refine blk_put (cs := #[.string t166, .string ⟨#[]⟩, .string ⟨#[]⟩, .int .i64 0, .string ⟨#[]⟩, .string ⟨#[]⟩, .string ⟨#[]⟩, .bool false, .bool false]) ?_ 4 _ rfl; (with_reducible repeat apply bd_); refine blk_put (cs := #[.string t166, .string ⟨#[]⟩, .string ⟨#[]⟩, .int .i64 0, .string ⟨#[]⟩, .string ⟨#[]⟩, .string ⟨#[]⟩, .bool false, .bool false]) ?_ 3 _ rfl; (with_reducible repeat apply bd_); refine blk_put (cs := #[.string t166, .string ⟨#[]⟩, .string ⟨#[]⟩, .int .i64 0, .string ⟨#[]⟩, .string ⟨#[]⟩, .string ⟨#[]⟩, .bool false, .bool false]) ?_ 2 _ rfl; (with_reducible repeat apply bd_); refine blk_put (cs := #[.string t166, .string ⟨#[]⟩, .string ⟨#[]⟩, .int .i64 0, .string ⟨#[]⟩, .string ⟨#[]⟩, .string ⟨#[]⟩, .bool false, .bool false]) ?_ 1 _ rfl; (with_reducible repeat apply bd_); refine blk_put (cs := #[.string ⟨#[]⟩, .string ⟨#[]⟩, .string ⟨#[]⟩, .int .i64 0, .string ⟨#[]⟩, .string ⟨#[]⟩, .string ⟨#[]⟩, .bool false, .bool false]) ?_ 0 _ rfl; (with_reducible repeat apply bd_); exact BK164.out) Tryz.underlying32 rfl (by kernel_rfl)) rfl ?_
           exact ⟨by first | rfl | (simp [errW_none, errW_some] <;> rfl) | (simp only [← hji9]; first | rfl | (simp [errW_none, errW_some] <;> rfl)) | (simp [*, errW_none, errW_some] <;> rfl), belE_⟩
           all_goals (exfalso; have q1_ := of_decide_eq_true c134b1; have q2_ := of_decide_eq_true c135e1; have q3_ := of_decide_eq_true c138e1; omega)
          ·
           rw [if_neg c138] at H
           exact absurd H (by simp)
         ·
          rw [if_neg c137] at H
          exact absurd H (by simp)
        ·
         rw [if_neg c135] at H
         exact absurd H (by simp)
       ·
        rw [if_neg c134] at H
        exact absurd H (by simp)
     ·
      rw [if_neg c11] at H
      exact absurd H (by simp)
    ·
     rw [if_neg c10] at H
     exact absurd H (by simp)
   ·
    rw [if_neg c7] at H
    exact absurd H (by simp)
  ·
   rw [if_neg c6] at H
   exact absurd H (by simp)

end Go.Proofs.YthifpohbdbhnlaaGreatDoor.QFnStrip
