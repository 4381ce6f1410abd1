/- The program's ParseUrl answers as the reference's at every text; no condition. -/
import Derived.Test.YthfcmloofifipaaDoorQFnExactParseUrlx0
import Derived.Test.YthfcmloofifipaaDoorPureParseBase
set_option linter.unusedVariables false
set_option linter.unusedSimpArgs false
namespace Go.Proofs.YthfcmloofifipaaDoor.Pure
open Go.RowKit Go.Proofs.YthfcmloofifipaaDoor.QFnExactParseUrl Go.Proofs.YthfcmloofifipaaDoor.QFnExactUrlOK Go.Proofs.YthfcmloofifipaaDoorW.PrintWords Go.Proofs.YthfcmloofifipaaDoorW.PrintLast

theorem eqUrl_refl (a b c : ByteArray) (p : Int) (d e f : ByteArray) (g h : Bool) : laws_eqUrl.f a b c p d e f g h a b c p d e f g h = some true := by
  unfold laws_eqUrl.f
  simp
theorem long_is (t : ByteArray) : impl_long.f t = some (if (t.size : Int) ≤ 65536 then 0 else 2) := by
  unfold impl_long.f impl_unless.f
  by_cases h : (t.size : Int) ≤ 65536
  · rw [decide_eq_true h, if_pos rfl, if_pos h]; rfl
  · rw [decide_eq_false h, if_neg Bool.false_ne_true, if_neg h]; rfl
abbrev Told := ByteArray × ByteArray × ByteArray × Int × ByteArray × ByteArray × ByteArray × Bool × Bool × Int
theorem parseUrl_both (t : ByteArray) : ∃ r : Told, Ev (fun k => spec_ParseUrl.f k t) r ∧ Ev (fun k => impl_ParseUrl.f k t) r := by
  by_cases h : (t.size : Int) > 65536
  · refine ⟨((⟨#[]⟩ : ByteArray), (⟨#[]⟩ : ByteArray), (⟨#[]⟩ : ByteArray), 0, (⟨#[]⟩ : ByteArray), (⟨#[]⟩ : ByteArray), (⟨#[]⟩ : ByteArray), false, false, 2), ?_, ?_⟩
    · unfold spec_ParseUrl.f
      simp only [if_pos h]
      exact Ev.now _
    · unfold impl_ParseUrl.f
      have h' : ¬ (t.size : Int) ≤ 65536 := by omega
      have h2 : ¬ ((2 : Int) = 0) := by omega
      simp only [long_is, if_neg h', Option.bind_some, if_neg h2]
      exact Ev.now _
  · have h' : (t.size : Int) ≤ 65536 := by omega
    have a := parse_spec t (by omega)
    have b := parse_impl t (by omega)
    generalize parseU t = u at a b
    obtain ⟨u1, u2, u3, u4, u5, u6, u7, u8, u9, u10⟩ := u
    refine ⟨if u10 = true then (u1, u2, u3, u4, u5, u6, u7, u8, u9, 0) else ((⟨#[]⟩ : ByteArray), (⟨#[]⟩ : ByteArray), (⟨#[]⟩ : ByteArray), 0, (⟨#[]⟩ : ByteArray), (⟨#[]⟩ : ByteArray), (⟨#[]⟩ : ByteArray), false, false, 3), ?_, ?_⟩
    · unfold spec_ParseUrl.f
      simp only [if_neg h]
      refine Ev.bind a ?_
      cases u10 <;> simp only [Bool.false_eq_true, if_false, if_true] <;> exact Ev.now _
    · unfold impl_ParseUrl.f
      simp only [long_is, if_pos h', Option.bind_some, if_true]
      refine Ev.bind b ?_
      cases u10 <;> simp only [Bool.false_eq_true, if_false, if_true] <;> exact Ev.now _
theorem FnExactParseUrl : (∀ (a0 : ByteArray), (a0.size ≤ 9223372036854775807) → ∃ k, laws_FnExactParseUrl.f k a0 = some true) := by
  intro t ht
  refine Ev.rounds ?_
  unfold laws_FnExactParseUrl.f
  by_cases h : (t.size : Int) > 1048576
  · simp only [if_pos h]; exact Ev.now _
  simp only [if_neg h]
  obtain ⟨r, a, b⟩ := parseUrl_both t
  obtain ⟨u1, u2, u3, u4, u5, u6, u7, u8, u9, u10⟩ := r
  refine Ev.bind a (Ev.bind b ?_)
  simp only [eqUrl_refl, Option.bind_some, if_true]
  exact Ev.now _

end Go.Proofs.YthfcmloofifipaaDoor.Pure
