/- The program's StripText answers as the reference's at every text; no condition. -/
import Derived.Test.YthfcmloofifipaaDoorQFnExactStripTextx0
import Derived.Test.YthfcmloofifipaaDoorPureParseBase
set_option linter.unusedVariables false
set_option linter.unusedSimpArgs false
namespace Go.Proofs.YthfcmloofifipaaDoor.Pure
open Go.RowKit Go.Proofs.YthfcmloofifipaaDoor.QFnExactStripText Go.Proofs.YthfcmloofifipaaDoor.QFnExactUrlOK Go.Proofs.YthfcmloofifipaaDoorW.PrintWords Go.Proofs.YthfcmloofifipaaDoorW.PrintLast

theorem strip_same (sch user host path q fr : ByteArray) (p : Int) (hq hf : Bool) (hs : sch.size ≤ 1048576) (hh : host.size ≤ 1048576) (hp : path.size ≤ 1048576) (hqs : q.size ≤ 1048576) (h0 : -9223372036854775808 ≤ p) (h1 : p ≤ 9223372036854775807) (hw : webB sch = true → 0 ≤ p) :
    ∃ t, Ev (fun k => spec_l01Strip.f k sch user host p path q fr hq hf) t ∧ Ev (fun k => impl_Url_strip.f k sch user host p path q fr hq hf) t := by
  have t1 := text_spec sch (⟨#[]⟩ : ByteArray) host path q (⟨#[]⟩ : ByteArray) p hq false (by omega) (by rw [c0_size]; omega) (by omega) (by omega) (by omega) (by rw [c0_size]; omega) h0 h1
  have t2 := text_impl sch (⟨#[]⟩ : ByteArray) host path q (⟨#[]⟩ : ByteArray) p hq false (by omega) (by rw [c0_size]; omega) (by omega) (by omega) (by omega) (by rw [c0_size]; omega) h0 h1
  rw [urlT_ports hw] at t2
  by_cases w : webB sch = true
  · refine ⟨urlT sch (⟨#[]⟩ : ByteArray) host (portS p) path q (⟨#[]⟩ : ByteArray) hq false, ?_, ?_⟩
    · unfold spec_l01Strip.f
      rw [web_spec]
      simp only [Option.bind_some, if_pos w]
      exact Ev.bind t1 (Ev.now _)
    · unfold impl_Url_strip.f
      rw [web_impl]
      simp only [Option.bind_some, if_pos w]
      exact Ev.bind t2 (Ev.now _)
  · refine ⟨sch, ?_, ?_⟩
    · unfold spec_l01Strip.f
      rw [web_spec]
      simp only [Option.bind_some, if_neg w]
      exact Ev.now _
    · unfold impl_Url_strip.f
      rw [web_impl]
      simp only [Option.bind_some, if_neg w]
      exact Ev.now _

theorem long_is (t : ByteArray) : impl_long.f t = some (if (t.size : Int) ≤ 65536 then 0 else 2) := by
  unfold impl_long.f impl_unless.f
  by_cases h : (t.size : Int) ≤ 65536
  · rw [decide_eq_true h, if_pos rfl, if_pos h]; rfl
  · rw [decide_eq_false h, if_neg Bool.false_ne_true, if_neg h]; rfl
theorem stripText_both (t : ByteArray) : ∃ r : ByteArray, Ev (fun k => spec_StripText.f k t) r ∧ Ev (fun k => impl_StripText.f k t) r := by
  by_cases h : (t.size : Int) > 65536
  · refine ⟨(⟨#[]⟩ : ByteArray), ?_, ?_⟩
    · unfold spec_StripText.f
      simp only [if_pos h]
      exact Ev.now _
    · unfold impl_StripText.f impl_ParseUrl.f
      have h' : ¬ (t.size : Int) ≤ 65536 := by omega
      have h2 : ¬ ((2 : Int) = 0) := by omega
      simp only [long_is, if_neg h', Option.bind_some, if_neg h2]
      exact Ev.now _
  · have h' : (t.size : Int) ≤ 65536 := by omega
    have a := parse_spec t (by omega)
    have b := parse_impl t (by omega)
    have bd := parse_end t (by omega)
    generalize parseU t = u at a b bd
    have none : ∀ x : Parsed, x.2.2.2.2.2.2.2.2.2 = false → Ev (fun k => spec_l01Parse.f k t) x → Ev (fun k => impl_parse.f k t) x → ∃ r : ByteArray, Ev (fun k => spec_StripText.f k t) r ∧ Ev (fun k => impl_StripText.f k t) r := by
      intro x hx a b
      obtain ⟨u1, u2, u3, u4, u5, u6, u7, u8, u9, u10⟩ := x
      have hx' : u10 = false := hx
      subst hx'
      have h3 : ¬ ((3 : Int) = 0) := by omega
      refine ⟨(⟨#[]⟩ : ByteArray), ?_, ?_⟩
      · unfold spec_StripText.f spec_l01StripText.f
        simp only [if_neg h]
        refine Ev.bind (a := (⟨#[]⟩ : ByteArray)) (Ev.bind a ?_) (Ev.now _)
        simp only [Bool.false_eq_true, if_false]; exact Ev.now _
      · unfold impl_StripText.f impl_ParseUrl.f
        simp only [long_is, if_pos h', Option.bind_some, if_true]
        refine Ev.bind (Ev.bind b (by simp only [Bool.false_eq_true, if_false]; exact Ev.now _)) ?_
        simp only [if_neg h3]; exact Ev.now _
    rcases bd with rfl | ⟨sch, user, host, p, path, q, fr, hq, hf, rfl, s1, s2, s3, s4, s5, s6, p0, p1⟩
    · exact none _ rfl a b
    · cases ho : urlB sch user host p path q fr hq hf (usualN sch) with
      | false => exact none _ ho a b
      | true =>
        unfold endU at a b
        rw [ho] at a b
        obtain ⟨r, t1, t2⟩ := strip_same sch user host path q fr p hq hf (by omega) (by omega) (by omega) (by omega) (by omega) (by omega) (fun _ => p0)
        refine ⟨r, ?_, ?_⟩
        · unfold spec_StripText.f spec_l01StripText.f
          simp only [if_neg h]
          refine Ev.bind (Ev.bind a ?_) (Ev.now _)
          simp only [if_true]; exact Ev.bind t1 (Ev.now _)
        · unfold impl_StripText.f impl_ParseUrl.f
          simp only [long_is, if_pos h', Option.bind_some, if_true]
          refine Ev.bind (Ev.bind b (by simp only [if_true]; exact Ev.now _)) ?_
          simp only [if_true]; exact Ev.bind t2 (Ev.now _)
theorem FnExactStripText : (∀ (a0 : ByteArray), (a0.size ≤ 9223372036854775807) → ∃ k, laws_FnExactStripText.f k a0 = some true) := by
  intro t ht
  refine Ev.rounds ?_
  unfold laws_FnExactStripText.f
  by_cases h : (t.size : Int) > 1048576
  · simp only [if_pos h]; exact Ev.now _
  simp only [if_neg h]
  obtain ⟨r, a, b⟩ := stripText_both t
  refine Ev.bind a (Ev.bind b ?_)
  simp only [if_true]
  exact Ev.now _

end Go.Proofs.YthfcmloofifipaaDoor.Pure
