/- The program's BlockedPart answers as the reference's at every violation; no condition. -/
import Derived.Test.YthifpohbdbhnlaaGreatDoorQFnExactBlockedPartx0
import Derived.Test.YthifpohbdbhnlaaGreatDoorPureParseBase
set_option linter.unusedVariables false
set_option linter.unusedSimpArgs false
namespace Go.Proofs.YthifpohbdbhnlaaGreatDoor.Pure
open Go.RowKit Go.Proofs.YthifpohbdbhnlaaGreatDoor.QFnExactBlockedPart Go.Proofs.YthifpohbdbhnlaaGreatDoor.QFnStrip Go.Proofs.YthifpohbdbhnlaaGreatDoorW.PrintWords Go.Proofs.YthifpohbdbhnlaaGreatDoorW.PrintLast

theorem isLower_is (c : Int) : impl_isLower.f c = some (decide (97 ≤ c) && decide (c ≤ 122)) := by
  unfold impl_isLower.f
  by_cases h : 97 ≤ c <;> simp [h]
def ruleFrom (s : ByteArray) : Int → Nat → Bool
  | _, 0 => true
  | i, d + 1 => if (97 ≤ bt s i ∧ bt s i ≤ 122) ∨ (bt s i = 45 ∧ i ≠ 0) then ruleFrom s (i + 1) d else false
theorem ruleFrom_succ (s : ByteArray) (i : Int) (d : Nat) : ruleFrom s i (d + 1) = if (97 ≤ bt s i ∧ bt s i ≤ 122) ∨ (bt s i = 45 ∧ i ≠ 0) then ruleFrom s (i + 1) d else false := rfl
theorem rule_spec_loop (s : ByteArray) (hs : s.size ≤ 24) (d : Nat) : ∀ i : Int, 0 ≤ i → i + d = s.size → spec_l04Name.l0 (d + 1) s i = some (ruleFrom s i d) := by
  induction d with
  | zero => intro i h0 h1; rw [spec_l04Name.l0, if_neg (by omega)]; rfl
  | succ d ih =>
    intro i h0 h1
    rw [spec_l04Name.l0, if_pos (by omega), if_pos h0, wr (by omega) (by omega), ih (i + 1) (by omega) (by omega), ruleFrom_succ]
    generalize ruleFrom s (i + 1) d = R
    generalize bt s i = c
    by_cases g : (97 ≤ c ∧ c ≤ 122) ∨ (c = 45 ∧ i ≠ 0)
    · rw [if_pos g]; (repeat' split) <;> first | rfl | (exfalso; omega)
    · rw [if_neg g]; (repeat' split) <;> first | rfl | (exfalso; omega)
theorem rule_impl_loop (s : ByteArray) (n : Int) (hn : n ≤ s.size) (hn' : n ≤ 1000) (d : Nat) : ∀ i : Int, 0 ≤ i → i + d = n → impl_isRule.l0 (d + 1) s n i = some (if ruleFrom s i d then inB s.size 1 24 else false) := by
  induction d with
  | zero => intro i h0 h1; rw [impl_isRule.l0, if_neg (by omega), within_is]; simp [ruleFrom]
  | succ d ih =>
    intro i h0 h1
    rw [impl_isRule.l0, if_pos (by omega), if_pos h0, if_pos (by omega), wr (by omega) (by omega), ih (i + 1) (by omega) (by omega), isLower_is, ruleFrom_succ]
    generalize ruleFrom s (i + 1) d = R
    generalize bt s i = c
    simp only [Option.bind_some]
    by_cases g : 97 ≤ c ∧ c ≤ 122
    · rw [if_pos (by simpa using g), if_pos (show (97 ≤ c ∧ c ≤ 122) ∨ (c = 45 ∧ i ≠ 0) from Or.inl g)]
    · rw [if_neg (by simpa using g)]
      by_cases h : c = 45 ∧ i ≠ 0
      · rw [if_pos h.1, if_neg h.2, if_pos (show (97 ≤ c ∧ c ≤ 122) ∨ (c = 45 ∧ i ≠ 0) from Or.inr h)]
      · rw [if_neg (show ¬ ((97 ≤ c ∧ c ≤ 122) ∨ (c = 45 ∧ i ≠ 0)) by omega)]
        (repeat' split) <;> first | rfl | (exfalso; omega) | simp_all
def ruleB (s : ByteArray) : Bool := inB s.size 1 24 && ruleFrom s 0 s.size
theorem rule_spec (s : ByteArray) : Ev (fun k => spec_l04Name.f k s) (ruleB s) := by
  unfold spec_l04Name.f ruleB
  simp only [in_is, Option.bind_some]
  cases h : inB s.size 1 24 with
  | false => simpa using Ev.now false
  | true =>
    have hs : s.size ≤ 24 := by simp [inB] at h; omega
    simp only [if_true, Bool.true_and]
    exact Ev.of (fun k => spec_l04Name.mono_l k s 0) (rule_spec_loop s hs s.size 0 (by omega) (by omega))
theorem rule_impl (s : ByteArray) : Ev (fun k => impl_isRule.f k s) (ruleB s) := by
  unfold impl_isRule.f
  by_cases hs : s.size ≤ 24
  · have h1 := rule_impl_loop s s.size (by omega) (by omega) s.size 0 (by omega) (by omega)
    have e : mn (s.size : Int) 25 = s.size := by unfold mn; rw [if_neg (by omega)]
    rw [e]
    have e2 : (if ruleFrom s 0 s.size then inB s.size 1 24 else false) = ruleB s := by unfold ruleB; cases ruleFrom s 0 s.size <;> simp
    rw [e2] at h1
    exact Ev.of (fun k => impl_isRule.mono_l k s s.size 0) h1
  · have e : mn (s.size : Int) 25 = 25 := by unfold mn; split <;> omega
    rw [e]
    have h1 := rule_impl_loop s 25 (by omega) (by omega) 25 0 (by omega) (by omega)
    have e2 : (if ruleFrom s 0 25 then inB s.size 1 24 else false) = ruleB s := by
      have : inB s.size 1 24 = false := by unfold inB; simp; omega
      unfold ruleB; rw [this]; simp
    rw [e2] at h1
    exact Ev.of (fun k => impl_isRule.mono_l k s 25 0) h1

def violB (a0 a1 a2 a3 a4 a5 : ByteArray) (l c : Int) : Bool :=
  decide (a0.size ≤ 100 ∧ a1.size ≤ 100 ∧ a2.size ≤ 100 ∧ a3.size ≤ 100) && (ruleB a4 && (decide ((a5.size : Int) ≤ 200) && (inB l 0 9999 && inB c 0 9999)))
theorem viol_impl (a0 a1 a2 a3 a4 a5 : ByteArray) (l c : Int) (b : Bool) : Ev (fun k => impl_ViolationOK.f k a0 a1 a2 a3 a4 a5 l c b) (violB a0 a1 a2 a3 a4 a5 l c) := by
  unfold impl_ViolationOK.f violB
  have hm : (mx (mx (mx (a0.size : Int) (a1.size : Int)) (a2.size : Int)) (a3.size : Int) ≤ 100) ↔ (a0.size ≤ 100 ∧ a1.size ≤ 100 ∧ a2.size ≤ 100 ∧ a3.size ≤ 100) := by
    unfold mx; (repeat' split) <;> omega
  by_cases h : a0.size ≤ 100 ∧ a1.size ≤ 100 ∧ a2.size ≤ 100 ∧ a3.size ≤ 100
  · simp only [if_pos (hm.2 h), decide_eq_true h, Bool.true_and]
    refine Ev.bind (rule_impl a4) ?_
    simp only [within_is, Option.bind_some]
    cases ruleB a4 with
    | false => simpa using Ev.now false
    | true =>
      by_cases h5 : (a5.size : Int) ≤ 200
      · simp only [if_true, if_pos h5, decide_eq_true h5, Bool.true_and]
        cases inB l 0 9999 <;> simpa using Ev.now _
      · simp only [if_true, if_neg h5, decide_eq_false h5, Bool.false_and, Bool.and_false]
        exact Ev.now false
  · simp only [if_neg (fun e => h (hm.1 e)), decide_eq_false h, Bool.false_and]
    exact Ev.now false
theorem viol_spec (a0 a1 a2 a3 a4 a5 : ByteArray) (l c : Int) (b : Bool) : Ev (fun k => spec_l05OK.f k a0 a1 a2 a3 a4 a5 l c b) (violB a0 a1 a2 a3 a4 a5 l c) := by
  unfold spec_l05OK.f
  have step : ∀ (i : Int) (x : ByteArray) (r : Bool), 0 ≤ i → i < 4 → rdOf ByteArray.empty [a0, a1, a2, a3] i = x →
      (x.size ≤ 100 → Ev (fun k => spec_l05OK.l0 k [a0, a1, a2, a3] (i + 1) a0 a1 a2 a3 a4 a5 l c b) r) → (¬ x.size ≤ 100 → r = false) →
      Ev (fun k => spec_l05OK.l0 k [a0, a1, a2, a3] i a0 a1 a2 a3 a4 a5 l c b) r := by
    intro i x r h0 h1 hx hy hn
    refine Ev.step (f := fun k => if (x.size : Int) > 100 then some false else spec_l05OK.l0 k [a0, a1, a2, a3] (i + 1) a0 a1 a2 a3 a4 a5 l c b) (fun k => ?_) ?_
    · rw [spec_l05OK.l0, if_pos (by simp only [List.length_cons, List.length_nil]; omega), if_pos h0, hx, wr (by omega) (by omega)]
    · by_cases h : x.size ≤ 100
      · simp only [if_neg (show ¬ (x.size : Int) > 100 by omega)]; exact hy h
      · simp only [if_pos (show (x.size : Int) > 100 by omega)]; rw [hn h]; exact Ev.now false
  have last : Ev (fun k => spec_l05OK.l0 k [a0, a1, a2, a3] 4 a0 a1 a2 a3 a4 a5 l c b) (ruleB a4 && (decide ((a5.size : Int) ≤ 200) && (inB l 0 9999 && inB c 0 9999))) := by
    refine Ev.step (f := fun k => (spec_l04Name.f k a4).bind fun t => if t = true then (if (a5.size : Int) ≤ 200 then some (inB l 0 9999 && inB c 0 9999) else some false) else some false) (fun k => ?_) ?_
    · rw [spec_l05OK.l0, if_neg (by simp)]
      simp only [in_is, Option.bind_some]
      congr 1
      funext t
      cases inB l 0 9999 <;> simp
    · refine Ev.bind (rule_spec a4) ?_
      cases ruleB a4 with
      | false => simpa using Ev.now false
      | true =>
        by_cases h5 : (a5.size : Int) ≤ 200
        · simpa [h5] using Ev.now _
        · simpa [h5] using Ev.now _
  unfold violB
  refine step 0 a0 _ (by omega) (by omega) rfl (fun h0 => ?_) (fun h => by simp [h])
  refine step 1 a1 _ (by omega) (by omega) rfl (fun h1 => ?_) (fun h => by simp [h])
  refine step 2 a2 _ (by omega) (by omega) rfl (fun h2 => ?_) (fun h => by simp [h])
  refine step 3 a3 _ (by omega) (by omega) rfl (fun h3 => ?_) (fun h => by simp [h])
  rw [decide_eq_true ⟨h0, h1, h2, h3⟩, Bool.true_and]
  exact last

def siteB (sch host P : ByteArray) : ByteArray := sch ++ (⟨#[58, 47, 47]⟩ : ByteArray) ++ (host ++ P)
theorem origin_eq {sch host P : ByteArray} (w : webB sch = true) : urlT sch (⟨#[]⟩ : ByteArray) host P (⟨#[]⟩ : ByteArray) (⟨#[]⟩ : ByteArray) (⟨#[]⟩ : ByteArray) false false = siteB sch host P := by
  unfold urlT tailB headB siteB
  rw [if_pos w, if_neg Bool.false_ne_true, if_neg Bool.false_ne_true, if_pos ((emptyB _).2 rfl), b_nil]
theorem origin_impl (sch user host path q fr : ByteArray) (p : Int) (hq hf : Bool) (hs : sch.size ≤ 1048576) (hh : host.size ≤ 1048576) (h0 : -9223372036854775808 ≤ p) (h1 : p ≤ 9223372036854775807) (w : webB sch = true) (hp : 0 ≤ p) :
    Ev (fun k => impl_Url_origin.f k sch user host p path q fr hq hf) (siteB sch host (portS p)) := by
  have t2 := text_impl sch (⟨#[]⟩ : ByteArray) host (⟨#[]⟩ : ByteArray) (⟨#[]⟩ : ByteArray) (⟨#[]⟩ : ByteArray) p false false (by omega) (by rw [c0_size]; omega) (by omega) (by rw [c0_size]; omega) (by rw [c0_size]; omega) (by rw [c0_size]; omega) h0 h1
  rw [origin_eq w, ports_eq hp] at t2
  unfold impl_Url_origin.f
  exact Ev.bind t2 (Ev.now _)

theorem strip_same (sch user host path q fr : ByteArray) (p : Int) (hq hf : Bool) (hs : sch.size ≤ 1048576) (hh : host.size ≤ 1048576) (hp : path.size ≤ 1048576) (hqs : q.size ≤ 1048576) (h0 : -9223372036854775808 ≤ p) (h1 : p ≤ 9223372036854775807) (hw : webB sch = true → 0 ≤ p) :
    ∃ t, Ev (fun k => spec_l01Strip.f k sch user host p path q fr hq hf) t ∧ Ev (fun k => impl_Url_strip.f k sch user host p path q fr hq hf) t := by
  have t1 := text_spec sch (⟨#[]⟩ : ByteArray) host path q (⟨#[]⟩ : ByteArray) p hq false (by omega) (by rw [c0_size]; omega) (by omega) (by omega) (by omega) (by rw [c0_size]; omega) h0 h1
  have t2 := text_impl sch (⟨#[]⟩ : ByteArray) host path q (⟨#[]⟩ : ByteArray) p hq false (by omega) (by rw [c0_size]; omega) (by omega) (by omega) (by omega) (by rw [c0_size]; omega) h0 h1
  rw [urlT_ports hw] at t2
  by_cases w : webB sch = true
  · refine ⟨urlT sch (⟨#[]⟩ : ByteArray) host (portS p) path q (⟨#[]⟩ : ByteArray) hq false, ?_, ?_⟩
    · unfold spec_l01Strip.f
      rw [web_spec]
      simp only [Option.bind_some, if_pos w]
      exact Ev.bind t1 (Ev.now _)
    · unfold impl_Url_strip.f
      rw [web_impl]
      simp only [Option.bind_some, if_pos w]
      exact Ev.bind t2 (Ev.now _)
  · refine ⟨sch, ?_, ?_⟩
    · unfold spec_l01Strip.f
      rw [web_spec]
      simp only [Option.bind_some, if_neg w]
      exact Ev.now _
    · unfold impl_Url_strip.f
      rw [web_impl]
      simp only [Option.bind_some, if_neg w]
      exact Ev.now _

theorem site_gen (sch user host path q fr : ByteArray) (p : Int) (hq hf : Bool) (hs : sch.size ≤ 1048576) (hh : host.size ≤ 1048576) (h0 : -9223372036854775808 ≤ p) (h1 : p ≤ 9223372036854775807) :
    Ev (fun k => spec_l01Site.f k sch user host p path q fr hq hf) (siteB sch host (portS p)) := by
  have d := itoaB_size p h0 h1
  have e := digits_is p h0 h1
  have cs1 : (⟨#[58, 47, 47]⟩ : ByteArray).size = 3 := rfl
  have cs2 : (⟨#[58]⟩ : ByteArray).size = 1 := rfl
  have c1 : sch.size + 3 ≤ 9223372036854775807 := by (try simp only [ByteArray.size_append, cs1, cs2]); omega
  have c2 : (sch ++ (⟨#[58, 47, 47]⟩ : ByteArray)).size + host.size ≤ 9223372036854775807 := by (try simp only [ByteArray.size_append, cs1, cs2]); omega
  have c3 : 1 + (itoaB p).size ≤ 9223372036854775807 := by (try simp only [ByteArray.size_append, cs1, cs2]); omega
  have c4 : ((sch ++ (⟨#[58, 47, 47]⟩ : ByteArray)) ++ host).size + ((⟨#[58]⟩ : ByteArray) ++ (itoaB p)).size ≤ 9223372036854775807 := by (try simp only [ByteArray.size_append, cs1, cs2]); omega
  unfold spec_l01Site.f portS siteB
  simp only [if_pos c1, if_pos c2, if_pos c3, if_pos c4]
  by_cases hpos : p > 0
  · simp only [if_pos hpos]
    refine Ev.bind e ?_
    simp only [if_pos c1, if_pos c2, if_pos c3, if_pos c4]
    rw [← b_assoc _ host]
    exact Ev.now _
  · simp only [if_neg hpos, b_nil]
    exact Ev.now _

/-- What the two parsers say of a short text: nothing, or one valid address. -/
theorem parse_cases (t : ByteArray) (ht : t.size ≤ 65536) : (∃ x : Parsed, x.2.2.2.2.2.2.2.2.2 = false ∧ Ev (fun k => spec_l01Parse.f k t) x ∧ Ev (fun k => impl_parse.f k t) x) ∨
    ∃ sch user host p path q fr hq hf, sch.size ≤ 70000 ∧ user.size ≤ 70000 ∧ host.size ≤ 70000 ∧ path.size ≤ 70000 ∧ q.size ≤ 70000 ∧ fr.size ≤ 70000 ∧ 0 ≤ p ∧ p ≤ 65535 ∧ urlB sch user host p path q fr hq hf (usualN sch) = true ∧
      Ev (fun k => spec_l01Parse.f k t) (sch, user, host, p, path, q, fr, hq, hf, true) ∧ Ev (fun k => impl_parse.f k t) (sch, user, host, p, path, q, fr, hq, hf, true) := by
  have a := parse_spec t (by omega)
  have b := parse_impl t (by omega)
  have bd := parse_end t (by omega)
  generalize parseU t = u at a b bd
  rcases bd with rfl | ⟨sch, user, host, p, path, q, fr, hq, hf, rfl, s1, s2, s3, s4, s5, s6, p0, p1⟩
  · exact .inl ⟨_, rfl, a, b⟩
  · cases ho : urlB sch user host p path q fr hq hf (usualN sch) with
    | false => exact .inl ⟨_, ho, a, b⟩
    | true =>
      unfold endU at a b
      rw [ho] at a b
      exact .inr ⟨sch, user, host, p, path, q, fr, hq, hf, s1, s2, s3, s4, s5, s6, p0, p1, ho, a, b⟩
/-- The origin of a web address, else its scheme, else nothing. -/
theorem site_both (t : ByteArray) (ht : t.size ≤ 65536) : ∃ r : ByteArray, Ev (fun k => spec_l05Site.f k t) r ∧ Ev (fun k => impl_site.f k t) r := by
  rcases parse_cases t ht with ⟨x, hx, a, b⟩ | ⟨sch, user, host, p, path, q, fr, hq, hf, s1, s2, s3, s4, s5, s6, p0, p1, ho, a, b⟩
  · obtain ⟨u1, u2, u3, u4, u5, u6, u7, u8, u9, u10⟩ := x
    have hx' : u10 = false := hx
    subst hx'
    refine ⟨(⟨#[]⟩ : ByteArray), ?_, ?_⟩
    · unfold spec_l05Site.f
      refine Ev.bind a ?_
      simp only [Bool.false_eq_true, if_false]; exact Ev.now _
    · unfold impl_site.f
      refine Ev.bind b ?_
      simp only [Bool.false_eq_true, if_false]; exact Ev.now _
  · by_cases w : webB sch = true
    · have t1 := site_gen sch user host path q fr p hq hf (by omega) (by omega) (by omega) (by omega)
      have t2 := origin_impl sch user host path q fr p hq hf (by omega) (by omega) (by omega) (by omega) w p0
      refine ⟨siteB sch host (portS p), ?_, ?_⟩
      · unfold spec_l05Site.f
        refine Ev.bind a ?_
        simp only [if_true, web_spec, Option.bind_some, if_pos w]
        exact Ev.bind t1 (Ev.now _)
      · unfold impl_site.f
        refine Ev.bind b ?_
        simp only [if_true, web_impl, Option.bind_some, if_pos w]
        exact Ev.bind t2 (Ev.now _)
    · refine ⟨sch, ?_, ?_⟩
      · unfold spec_l05Site.f
        refine Ev.bind a ?_
        simp only [if_true, web_spec, Option.bind_some, if_neg w]
        exact Ev.now _
      · unfold impl_site.f
        refine Ev.bind b ?_
        simp only [if_true, web_impl, Option.bind_some, if_neg w]
        exact Ev.now _
theorem viol_sizes {a0 a1 a2 a3 a4 a5 : ByteArray} {l c : Int} (h : violB a0 a1 a2 a3 a4 a5 l c = true) : a0.size ≤ 100 ∧ a1.size ≤ 100 ∧ a2.size ≤ 100 ∧ a3.size ≤ 100 := by
  unfold violB at h
  exact of_decide_eq_true (Bool.and_eq_true_iff.1 h).1
theorem ev_rounds {α : Type} {f : Nat → Option α} {r : α} (h : Ev f r) : ∃ k, f k = some r := by
  obtain ⟨k, hk⟩ := h
  exact ⟨k, hk k (Nat.le_refl k)⟩

theorem has_ev (x : ByteArray) : Ev (fun k => spec_l01Has.f k [(⟨#[105, 110, 108, 105, 110, 101]⟩ : ByteArray), (⟨#[101, 118, 97, 108]⟩ : ByteArray), (⟨#[115, 101, 108, 102]⟩ : ByteArray)] x)
    (decide (x.toList = ([105, 110, 108, 105, 110, 101] : List UInt8)) || (decide (x.toList = ([101, 118, 97, 108] : List UInt8)) || decide (x.toList = ([115, 101, 108, 102] : List UInt8)))) := by
  unfold spec_l01Has.f
  have step : ∀ (i : Int) (w : ByteArray) (W : List UInt8) (r : Bool), 0 ≤ i → i < 3 → rdOf ByteArray.empty [(⟨#[105, 110, 108, 105, 110, 101]⟩ : ByteArray), (⟨#[101, 118, 97, 108]⟩ : ByteArray), (⟨#[115, 101, 108, 102]⟩ : ByteArray)] i = w → w.toList = W →
      (Ev (fun k => spec_l01Has.l0 k [(⟨#[105, 110, 108, 105, 110, 101]⟩ : ByteArray), (⟨#[101, 118, 97, 108]⟩ : ByteArray), (⟨#[115, 101, 108, 102]⟩ : ByteArray)] x (i + 1)) r) →
      Ev (fun k => spec_l01Has.l0 k [(⟨#[105, 110, 108, 105, 110, 101]⟩ : ByteArray), (⟨#[101, 118, 97, 108]⟩ : ByteArray), (⟨#[115, 101, 108, 102]⟩ : ByteArray)] x i) (decide (x.toList = W) || r) := by
    intro i w W r h0 h1 hw hW hn
    refine Ev.step (f := fun k => if W = x.toList then some true else spec_l01Has.l0 k [(⟨#[105, 110, 108, 105, 110, 101]⟩ : ByteArray), (⟨#[101, 118, 97, 108]⟩ : ByteArray), (⟨#[115, 101, 108, 102]⟩ : ByteArray)] x (i + 1)) (fun k => ?_) ?_
    · rw [spec_l01Has.l0, if_pos (by simp only [List.length_cons, List.length_nil]; omega), if_pos h0, hw, hW, wr (by omega) (by omega)]
    · by_cases h : W = x.toList
      · simp only [if_pos h, decide_eq_true h.symm, Bool.true_or]; exact Ev.now _
      · simp only [if_neg h, decide_eq_false (fun e : x.toList = W => h e.symm), Bool.false_or]; exact hn
  have last : Ev (fun k => spec_l01Has.l0 k [(⟨#[105, 110, 108, 105, 110, 101]⟩ : ByteArray), (⟨#[101, 118, 97, 108]⟩ : ByteArray), (⟨#[115, 101, 108, 102]⟩ : ByteArray)] x 3) false :=
    Ev.step (f := fun _ => some false) (fun k => by rw [spec_l01Has.l0, if_neg (by simp)]) (Ev.now _)
  have h := step 0 _ _ _ (by omega) (by omega) rfl (toList_data _) (step 1 _ _ _ (by omega) (by omega) rfl (toList_data _) (step 2 _ _ _ (by omega) (by omega) rfl (toList_data _) last))
  rw [Bool.or_false] at h
  exact h
theorem long_is (t : ByteArray) : impl_long.f t = some (if (t.size : Int) ≤ 65536 then 0 else 2) := by
  unfold impl_long.f impl_unless.f
  by_cases h : (t.size : Int) ≤ 65536
  · rw [decide_eq_true h, if_pos rfl, if_pos h]; rfl
  · rw [decide_eq_false h, if_neg Bool.false_ne_true, if_neg h]; rfl
theorem stripT_both (t : ByteArray) (ht : t.size ≤ 100) : ∃ r : ByteArray, Ev (fun k => spec_l01StripText.f k t) r ∧ Ev (fun k => impl_StripText.f k t) r := by
  have h' : (t.size : Int) ≤ 65536 := by omega
  rcases parse_cases t (by omega) with ⟨x, hx, a, b⟩ | ⟨sch, user, host, p, path, q, fr, hq, hf, s1, s2, s3, s4, s5, s6, p0, p1, ho, a, b⟩
  · obtain ⟨u1, u2, u3, u4, u5, u6, u7, u8, u9, u10⟩ := x
    have hx' : u10 = false := hx
    subst hx'
    have h3 : ¬ ((3 : Int) = 0) := by omega
    refine ⟨(⟨#[]⟩ : ByteArray), ?_, ?_⟩
    · unfold spec_l01StripText.f
      refine Ev.bind a ?_
      simp only [Bool.false_eq_true, if_false]; exact Ev.now _
    · unfold impl_StripText.f impl_ParseUrl.f
      simp only [long_is, if_pos h', Option.bind_some, if_true]
      refine Ev.bind (Ev.bind b (by simp only [Bool.false_eq_true, if_false]; exact Ev.now _)) ?_
      simp only [if_neg h3]; exact Ev.now _
  · obtain ⟨r, t1, t2⟩ := strip_same sch user host path q fr p hq hf (by omega) (by omega) (by omega) (by omega) (by omega) (by omega) (fun _ => p0)
    refine ⟨r, ?_, ?_⟩
    · unfold spec_l01StripText.f
      refine Ev.bind a ?_
      simp only [if_true]; exact Ev.bind t1 (Ev.now _)
    · unfold impl_StripText.f impl_ParseUrl.f
      simp only [long_is, if_pos h', Option.bind_some, if_true]
      refine Ev.bind (Ev.bind b (by simp only [if_true]; exact Ev.now _)) ?_
      simp only [if_true]; exact Ev.bind t2 (Ev.now _)
theorem blocked_both (a0 a1 a2 a3 a4 a5 : ByteArray) (l c : Int) (b : Bool) (z0 : a0.size ≤ 100) (z2 : a2.size ≤ 100) :
    ∃ r : ByteArray, Ev (fun k => spec_l05Blocked.f k a0 a1 a2 a3 a4 a5 l c b) r ∧ Ev (fun k => impl_Violation_blocked.f k a0 a1 a2 a3 a4 a5 l c b) r := by
  obtain ⟨r, e, f⟩ := site_both a2 (by omega)
  obtain ⟨r2, e2, f2⟩ := stripT_both a2 z2
  have hv := has_ev a2
  unfold spec_l05Blocked.f impl_Violation_blocked.f
  have jt : Ev (fun k => impl_Violation_blocked.j0 k true a0 a1 a2 a3 a4 a5 l c b) a2 := Ev.step (f := fun _ => some a2) (fun k => by rw [impl_Violation_blocked.j0, if_pos rfl]) (Ev.now _)
  by_cases c1 : a2.toList = ([105, 110, 108, 105, 110, 101] : List UInt8)
  · rw [decide_eq_true c1, Bool.true_or] at hv
    refine ⟨a2, Ev.bind hv (by simp only [if_true]; exact Ev.now _), ?_⟩
    simp only [if_pos c1]; exact jt
  by_cases c2 : a2.toList = ([101, 118, 97, 108] : List UInt8)
  · rw [decide_eq_true c2, Bool.true_or, Bool.or_true] at hv
    refine ⟨a2, Ev.bind hv (by simp only [if_true]; exact Ev.now _), ?_⟩
    simp only [if_neg c1, if_pos c2]; exact jt
  by_cases c3 : a2.toList = ([115, 101, 108, 102] : List UInt8)
  · rw [decide_eq_true c3, Bool.or_true, Bool.or_true] at hv
    refine ⟨a2, Ev.bind hv (by simp only [if_true]; exact Ev.now _), ?_⟩
    have e3 : (a2.toList == ([115, 101, 108, 102] : List UInt8)) = true := by rw [c3]; rfl
    simp only [if_neg c1, if_neg c2, e3]; exact jt
  have e3 : (a2.toList == ([115, 101, 108, 102] : List UInt8)) = false := beq_eq_false_iff_ne.mpr c3
  rw [decide_eq_false c1, decide_eq_false c2, decide_eq_false c3] at hv
  simp only [if_neg c1, if_neg c2, e3]
  cases b with
  | true =>
    refine ⟨r, Ev.bind hv (by simp only [Bool.or_self, Bool.false_eq_true, if_false, if_true]; exact Ev.bind e (Ev.now _)), ?_⟩
    exact Ev.step (f := fun k => (impl_site.f k a2).bind fun t => some t) (fun k => by rw [impl_Violation_blocked.j0, if_neg Bool.false_ne_true, if_pos rfl]) (Ev.bind f (Ev.now _))
  | false =>
    refine ⟨r2, Ev.bind hv (by simp only [Bool.or_self, Bool.false_eq_true, if_false]; exact Ev.bind e2 (Ev.now _)), ?_⟩
    exact Ev.step (f := fun k => (impl_StripText.f k a2).bind fun t => some t) (fun k => by rw [impl_Violation_blocked.j0, if_neg Bool.false_ne_true, if_neg Bool.false_ne_true]) (Ev.bind f2 (Ev.now _))
theorem FnExactBlockedPart : (∀ (a0_0 : ByteArray) (a0_1 : ByteArray) (a0_2 : ByteArray) (a0_3 : ByteArray) (a0_4 : ByteArray) (a0_5 : ByteArray) (a0_6 : Int) (a0_7 : Int) (a0_8 : Bool), (a0_0.size ≤ 9223372036854775807) → (a0_1.size ≤ 9223372036854775807) → (a0_2.size ≤ 9223372036854775807) → (a0_3.size ≤ 9223372036854775807) → (a0_4.size ≤ 9223372036854775807) → (a0_5.size ≤ 9223372036854775807) → ((Lit.int .i64 a0_6).wf = true) → ((Lit.int .i64 a0_7).wf = true) → ∃ k, laws_FnExactBlockedPart.f k a0_0 a0_1 a0_2 a0_3 a0_4 a0_5 a0_6 a0_7 a0_8 = some true) := by
  intro a0 a1 a2 a3 a4 a5 l c b _ _ _ _ _ _ _ _
  refine ev_rounds ?_
  unfold laws_FnExactBlockedPart.f laws_toViolation.f spec_BlockedPart.f impl_BlockedPart.f
  cases h : laws_szViolation.f a0 a1 a2 a3 a4 a5 l c b 1048576 with
  | none => exact absurd h (by unfold laws_szViolation.f; (repeat' split) <;> simp)
  | some t =>
    simp only [Option.bind_some]
    split
    · exact Ev.now true
    · cases hv : violB a0 a1 a2 a3 a4 a5 l c with
      | false =>
        have s := viol_spec a0 a1 a2 a3 a4 a5 l c b
        have i := viol_impl a0 a1 a2 a3 a4 a5 l c b
        rw [hv] at s i
        refine Ev.bind (a := ((⟨#[]⟩ : ByteArray), (1 : Int))) (Ev.bind s (by simp only [Bool.false_eq_true, if_false]; exact Ev.now _)) (Ev.bind (a := ((⟨#[]⟩ : ByteArray), (1 : Int))) (Ev.bind i (by simp only [Bool.false_eq_true, if_false]; exact Ev.now _)) ?_)
        simpa using Ev.now true
      | true =>
        have s := viol_spec a0 a1 a2 a3 a4 a5 l c b
        have i := viol_impl a0 a1 a2 a3 a4 a5 l c b
        obtain ⟨z0, z1, z2, z3⟩ := viol_sizes hv
        rw [hv] at s i
        obtain ⟨r, e, f⟩ := blocked_both a0 a1 a2 a3 a4 a5 l c b (by omega) (by omega)
        refine Ev.bind (a := (r, (0 : Int))) (Ev.bind s (by simp only [if_true]; exact Ev.bind e (Ev.now _))) (Ev.bind (a := (r, (0 : Int))) (Ev.bind i (by simp only [if_true]; exact Ev.bind f (Ev.now _))) ?_)
        simpa using Ev.now true

end Go.Proofs.YthifpohbdbhnlaaGreatDoor.Pure
