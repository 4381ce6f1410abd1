/- The program's SourcePart answers as the reference's at every violation; no condition. -/
import Derived.Test.YthifpohbdbhnlaaGreatDoorQFnExactSourcePartx0
import Derived.Test.YthifpohbdbhnlaaGreatDoorPureParseBase
set_option linter.unusedVariables false
set_option linter.unusedSimpArgs false
namespace Go.Proofs.YthifpohbdbhnlaaGreatDoor.Pure
open Go.RowKit Go.Proofs.YthifpohbdbhnlaaGreatDoor.QFnExactSourcePart Go.Proofs.YthifpohbdbhnlaaGreatDoor.QFnStrip Go.Proofs.YthifpohbdbhnlaaGreatDoorW.PrintWords Go.Proofs.YthifpohbdbhnlaaGreatDoorW.PrintLast

theorem isLower_is (c : Int) : impl_isLower.f c = some (decide (97 ≤ c) && decide (c ≤ 122)) := by
  unfold impl_isLower.f
  by_cases h : 97 ≤ c <;> simp [h]
def ruleFrom (s : ByteArray) : Int → Nat → Bool
  | _, 0 => true
  | i, d + 1 => if (97 ≤ bt s i ∧ bt s i ≤ 122) ∨ (bt s i = 45 ∧ i ≠ 0) then ruleFrom s (i + 1) d else false
theorem ruleFrom_succ (s : ByteArray) (i : Int) (d : Nat) : ruleFrom s i (d + 1) = if (97 ≤ bt s i ∧ bt s i ≤ 122) ∨ (bt s i = 45 ∧ i ≠ 0) then ruleFrom s (i + 1) d else false := rfl
theorem rule_spec_loop (s : ByteArray) (hs : s.size ≤ 24) (d : Nat) : ∀ i : Int, 0 ≤ i → i + d = s.size → spec_l04Name.l0 (d + 1) s i = some (ruleFrom s i d) := by
  induction d with
  | zero => intro i h0 h1; rw [spec_l04Name.l0, if_neg (by omega)]; rfl
  | succ d ih =>
    intro i h0 h1
    rw [spec_l04Name.l0, if_pos (by omega), if_pos h0, wr (by omega) (by omega), ih (i + 1) (by omega) (by omega), ruleFrom_succ]
    generalize ruleFrom s (i + 1) d = R
    generalize bt s i = c
    by_cases g : (97 ≤ c ∧ c ≤ 122) ∨ (c = 45 ∧ i ≠ 0)
    · rw [if_pos g]; (repeat' split) <;> first | rfl | (exfalso; omega)
    · rw [if_neg g]; (repeat' split) <;> first | rfl | (exfalso; omega)
theorem rule_impl_loop (s : ByteArray) (n : Int) (hn : n ≤ s.size) (hn' : n ≤ 1000) (d : Nat) : ∀ i : Int, 0 ≤ i → i + d = n → impl_isRule.l0 (d + 1) s n i = some (if ruleFrom s i d then inB s.size 1 24 else false) := by
  induction d with
  | zero => intro i h0 h1; rw [impl_isRule.l0, if_neg (by omega), within_is]; simp [ruleFrom]
  | succ d ih =>
    intro i h0 h1
    rw [impl_isRule.l0, if_pos (by omega), if_pos h0, if_pos (by omega), wr (by omega) (by omega), ih (i + 1) (by omega) (by omega), isLower_is, ruleFrom_succ]
    generalize ruleFrom s (i + 1) d = R
    generalize bt s i = c
    simp only [Option.bind_some]
    by_cases g : 97 ≤ c ∧ c ≤ 122
    · rw [if_pos (by simpa using g), if_pos (show (97 ≤ c ∧ c ≤ 122) ∨ (c = 45 ∧ i ≠ 0) from Or.inl g)]
    · rw [if_neg (by simpa using g)]
      by_cases h : c = 45 ∧ i ≠ 0
      · rw [if_pos h.1, if_neg h.2, if_pos (show (97 ≤ c ∧ c ≤ 122) ∨ (c = 45 ∧ i ≠ 0) from Or.inr h)]
      · rw [if_neg (show ¬ ((97 ≤ c ∧ c ≤ 122) ∨ (c = 45 ∧ i ≠ 0)) by omega)]
        (repeat' split) <;> first | rfl | (exfalso; omega) | simp_all
def ruleB (s : ByteArray) : Bool := inB s.size 1 24 && ruleFrom s 0 s.size
theorem rule_spec (s : ByteArray) : Ev (fun k => spec_l04Name.f k s) (ruleB s) := by
  unfold spec_l04Name.f ruleB
  simp only [in_is, Option.bind_some]
  cases h : inB s.size 1 24 with
  | false => simpa using Ev.now false
  | true =>
    have hs : s.size ≤ 24 := by simp [inB] at h; omega
    simp only [if_true, Bool.true_and]
    exact Ev.of (fun k => spec_l04Name.mono_l k s 0) (rule_spec_loop s hs s.size 0 (by omega) (by omega))
theorem rule_impl (s : ByteArray) : Ev (fun k => impl_isRule.f k s) (ruleB s) := by
  unfold impl_isRule.f
  by_cases hs : s.size ≤ 24
  · have h1 := rule_impl_loop s s.size (by omega) (by omega) s.size 0 (by omega) (by omega)
    have e : mn (s.size : Int) 25 = s.size := by unfold mn; rw [if_neg (by omega)]
    rw [e]
    have e2 : (if ruleFrom s 0 s.size then inB s.size 1 24 else false) = ruleB s := by unfold ruleB; cases ruleFrom s 0 s.size <;> simp
    rw [e2] at h1
    exact Ev.of (fun k => impl_isRule.mono_l k s s.size 0) h1
  · have e : mn (s.size : Int) 25 = 25 := by unfold mn; split <;> omega
    rw [e]
    have h1 := rule_impl_loop s 25 (by omega) (by omega) 25 0 (by omega) (by omega)
    have e2 : (if ruleFrom s 0 25 then inB s.size 1 24 else false) = ruleB s := by
      have : inB s.size 1 24 = false := by unfold inB; simp; omega
      unfold ruleB; rw [this]; simp
    rw [e2] at h1
    exact Ev.of (fun k => impl_isRule.mono_l k s 25 0) h1

def violB (a0 a1 a2 a3 a4 a5 : ByteArray) (l c : Int) : Bool :=
  decide (a0.size ≤ 100 ∧ a1.size ≤ 100 ∧ a2.size ≤ 100 ∧ a3.size ≤ 100) && (ruleB a4 && (decide ((a5.size : Int) ≤ 200) && (inB l 0 9999 && inB c 0 9999)))
theorem viol_impl (a0 a1 a2 a3 a4 a5 : ByteArray) (l c : Int) (b : Bool) : Ev (fun k => impl_ViolationOK.f k a0 a1 a2 a3 a4 a5 l c b) (violB a0 a1 a2 a3 a4 a5 l c) := by
  unfold impl_ViolationOK.f violB
  have hm : (mx (mx (mx (a0.size : Int) (a1.size : Int)) (a2.size : Int)) (a3.size : Int) ≤ 100) ↔ (a0.size ≤ 100 ∧ a1.size ≤ 100 ∧ a2.size ≤ 100 ∧ a3.size ≤ 100) := by
    unfold mx; (repeat' split) <;> omega
  by_cases h : a0.size ≤ 100 ∧ a1.size ≤ 100 ∧ a2.size ≤ 100 ∧ a3.size ≤ 100
  · simp only [if_pos (hm.2 h), decide_eq_true h, Bool.true_and]
    refine Ev.bind (rule_impl a4) ?_
    simp only [within_is, Option.bind_some]
    cases ruleB a4 with
    | false => simpa using Ev.now false
    | true =>
      by_cases h5 : (a5.size : Int) ≤ 200
      · simp only [if_true, if_pos h5, decide_eq_true h5, Bool.true_and]
        cases inB l 0 9999 <;> simpa using Ev.now _
      · simp only [if_true, if_neg h5, decide_eq_false h5, Bool.false_and, Bool.and_false]
        exact Ev.now false
  · simp only [if_neg (fun e => h (hm.1 e)), decide_eq_false h, Bool.false_and]
    exact Ev.now false
theorem viol_spec (a0 a1 a2 a3 a4 a5 : ByteArray) (l c : Int) (b : Bool) : Ev (fun k => spec_l05OK.f k a0 a1 a2 a3 a4 a5 l c b) (violB a0 a1 a2 a3 a4 a5 l c) := by
  unfold spec_l05OK.f
  have step : ∀ (i : Int) (x : ByteArray) (r : Bool), 0 ≤ i → i < 4 → rdOf ByteArray.empty [a0, a1, a2, a3] i = x →
      (x.size ≤ 100 → Ev (fun k => spec_l05OK.l0 k [a0, a1, a2, a3] (i + 1) a0 a1 a2 a3 a4 a5 l c b) r) → (¬ x.size ≤ 100 → r = false) →
      Ev (fun k => spec_l05OK.l0 k [a0, a1, a2, a3] i a0 a1 a2 a3 a4 a5 l c b) r := by
    intro i x r h0 h1 hx hy hn
    refine Ev.step (f := fun k => if (x.size : Int) > 100 then some false else spec_l05OK.l0 k [a0, a1, a2, a3] (i + 1) a0 a1 a2 a3 a4 a5 l c b) (fun k => ?_) ?_
    · rw [spec_l05OK.l0, if_pos (by simp only [List.length_cons, List.length_nil]; omega), if_pos h0, hx, wr (by omega) (by omega)]
    · by_cases h : x.size ≤ 100
      · simp only [if_neg (show ¬ (x.size : Int) > 100 by omega)]; exact hy h
      · simp only [if_pos (show (x.size : Int) > 100 by omega)]; rw [hn h]; exact Ev.now false
  have last : Ev (fun k => spec_l05OK.l0 k [a0, a1, a2, a3] 4 a0 a1 a2 a3 a4 a5 l c b) (ruleB a4 && (decide ((a5.size : Int) ≤ 200) && (inB l 0 9999 && inB c 0 9999))) := by
    refine Ev.step (f := fun k => (spec_l04Name.f k a4).bind fun t => if t = true then (if (a5.size : Int) ≤ 200 then some (inB l 0 9999 && inB c 0 9999) else some false) else some false) (fun k => ?_) ?_
    · rw [spec_l05OK.l0, if_neg (by simp)]
      simp only [in_is, Option.bind_some]
      congr 1
      funext t
      cases inB l 0 9999 <;> simp
    · refine Ev.bind (rule_spec a4) ?_
      cases ruleB a4 with
      | false => simpa using Ev.now false
      | true =>
        by_cases h5 : (a5.size : Int) ≤ 200
        · simpa [h5] using Ev.now _
        · simpa [h5] using Ev.now _
  unfold violB
  refine step 0 a0 _ (by omega) (by omega) rfl (fun h0 => ?_) (fun h => by simp [h])
  refine step 1 a1 _ (by omega) (by omega) rfl (fun h1 => ?_) (fun h => by simp [h])
  refine step 2 a2 _ (by omega) (by omega) rfl (fun h2 => ?_) (fun h => by simp [h])
  refine step 3 a3 _ (by omega) (by omega) rfl (fun h3 => ?_) (fun h => by simp [h])
  rw [decide_eq_true ⟨h0, h1, h2, h3⟩, Bool.true_and]
  exact last

def siteB (sch host P : ByteArray) : ByteArray := sch ++ (⟨#[58, 47, 47]⟩ : ByteArray) ++ (host ++ P)
theorem origin_eq {sch host P : ByteArray} (w : webB sch = true) : urlT sch (⟨#[]⟩ : ByteArray) host P (⟨#[]⟩ : ByteArray) (⟨#[]⟩ : ByteArray) (⟨#[]⟩ : ByteArray) false false = siteB sch host P := by
  unfold urlT tailB headB siteB
  rw [if_pos w, if_neg Bool.false_ne_true, if_neg Bool.false_ne_true, if_pos ((emptyB _).2 rfl), b_nil]
theorem origin_impl (sch user host path q fr : ByteArray) (p : Int) (hq hf : Bool) (hs : sch.size ≤ 1048576) (hh : host.size ≤ 1048576) (h0 : -9223372036854775808 ≤ p) (h1 : p ≤ 9223372036854775807) (w : webB sch = true) (hp : 0 ≤ p) :
    Ev (fun k => impl_Url_origin.f k sch user host p path q fr hq hf) (siteB sch host (portS p)) := by
  have t2 := text_impl sch (⟨#[]⟩ : ByteArray) host (⟨#[]⟩ : ByteArray) (⟨#[]⟩ : ByteArray) (⟨#[]⟩ : ByteArray) p false false (by omega) (by rw [c0_size]; omega) (by omega) (by rw [c0_size]; omega) (by rw [c0_size]; omega) (by rw [c0_size]; omega) h0 h1
  rw [origin_eq w, ports_eq hp] at t2
  unfold impl_Url_origin.f
  exact Ev.bind t2 (Ev.now _)

theorem strip_same (sch user host path q fr : ByteArray) (p : Int) (hq hf : Bool) (hs : sch.size ≤ 1048576) (hh : host.size ≤ 1048576) (hp : path.size ≤ 1048576) (hqs : q.size ≤ 1048576) (h0 : -9223372036854775808 ≤ p) (h1 : p ≤ 9223372036854775807) (hw : webB sch = true → 0 ≤ p) :
    ∃ t, Ev (fun k => spec_l01Strip.f k sch user host p path q fr hq hf) t ∧ Ev (fun k => impl_Url_strip.f k sch user host p path q fr hq hf) t := by
  have t1 := text_spec sch (⟨#[]⟩ : ByteArray) host path q (⟨#[]⟩ : ByteArray) p hq false (by omega) (by rw [c0_size]; omega) (by omega) (by omega) (by omega) (by rw [c0_size]; omega) h0 h1
  have t2 := text_impl sch (⟨#[]⟩ : ByteArray) host path q (⟨#[]⟩ : ByteArray) p hq false (by omega) (by rw [c0_size]; omega) (by omega) (by omega) (by omega) (by rw [c0_size]; omega) h0 h1
  rw [urlT_ports hw] at t2
  by_cases w : webB sch = true
  · refine ⟨urlT sch (⟨#[]⟩ : ByteArray) host (portS p) path q (⟨#[]⟩ : ByteArray) hq false, ?_, ?_⟩
    · unfold spec_l01Strip.f
      rw [web_spec]
      simp only [Option.bind_some, if_pos w]
      exact Ev.bind t1 (Ev.now _)
    · unfold impl_Url_strip.f
      rw [web_impl]
      simp only [Option.bind_some, if_pos w]
      exact Ev.bind t2 (Ev.now _)
  · refine ⟨sch, ?_, ?_⟩
    · unfold spec_l01Strip.f
      rw [web_spec]
      simp only [Option.bind_some, if_neg w]
      exact Ev.now _
    · unfold impl_Url_strip.f
      rw [web_impl]
      simp only [Option.bind_some, if_neg w]
      exact Ev.now _

theorem site_gen (sch user host path q fr : ByteArray) (p : Int) (hq hf : Bool) (hs : sch.size ≤ 1048576) (hh : host.size ≤ 1048576) (h0 : -9223372036854775808 ≤ p) (h1 : p ≤ 9223372036854775807) :
    Ev (fun k => spec_l01Site.f k sch user host p path q fr hq hf) (siteB sch host (portS p)) := by
  have d := itoaB_size p h0 h1
  have e := digits_is p h0 h1
  have cs1 : (⟨#[58, 47, 47]⟩ : ByteArray).size = 3 := rfl
  have cs2 : (⟨#[58]⟩ : ByteArray).size = 1 := rfl
  have c1 : sch.size + 3 ≤ 9223372036854775807 := by (try simp only [ByteArray.size_append, cs1, cs2]); omega
  have c2 : (sch ++ (⟨#[58, 47, 47]⟩ : ByteArray)).size + host.size ≤ 9223372036854775807 := by (try simp only [ByteArray.size_append, cs1, cs2]); omega
  have c3 : 1 + (itoaB p).size ≤ 9223372036854775807 := by (try simp only [ByteArray.size_append, cs1, cs2]); omega
  have c4 : ((sch ++ (⟨#[58, 47, 47]⟩ : ByteArray)) ++ host).size + ((⟨#[58]⟩ : ByteArray) ++ (itoaB p)).size ≤ 9223372036854775807 := by (try simp only [ByteArray.size_append, cs1, cs2]); omega
  unfold spec_l01Site.f portS siteB
  simp only [if_pos c1, if_pos c2, if_pos c3, if_pos c4]
  by_cases hpos : p > 0
  · simp only [if_pos hpos]
    refine Ev.bind e ?_
    simp only [if_pos c1, if_pos c2, if_pos c3, if_pos c4]
    rw [← b_assoc _ host]
    exact Ev.now _
  · simp only [if_neg hpos, b_nil]
    exact Ev.now _

/-- What the two parsers say of a short text: nothing, or one valid address. -/
theorem parse_cases (t : ByteArray) (ht : t.size ≤ 65536) : (∃ x : Parsed, x.2.2.2.2.2.2.2.2.2 = false ∧ Ev (fun k => spec_l01Parse.f k t) x ∧ Ev (fun k => impl_parse.f k t) x) ∨
    ∃ sch user host p path q fr hq hf, sch.size ≤ 70000 ∧ user.size ≤ 70000 ∧ host.size ≤ 70000 ∧ path.size ≤ 70000 ∧ q.size ≤ 70000 ∧ fr.size ≤ 70000 ∧ 0 ≤ p ∧ p ≤ 65535 ∧ urlB sch user host p path q fr hq hf (usualN sch) = true ∧
      Ev (fun k => spec_l01Parse.f k t) (sch, user, host, p, path, q, fr, hq, hf, true) ∧ Ev (fun k => impl_parse.f k t) (sch, user, host, p, path, q, fr, hq, hf, true) := by
  have a := parse_spec t (by omega)
  have b := parse_impl t (by omega)
  have bd := parse_end t (by omega)
  generalize parseU t = u at a b bd
  rcases bd with rfl | ⟨sch, user, host, p, path, q, fr, hq, hf, rfl, s1, s2, s3, s4, s5, s6, p0, p1⟩
  · exact .inl ⟨_, rfl, a, b⟩
  · cases ho : urlB sch user host p path q fr hq hf (usualN sch) with
    | false => exact .inl ⟨_, ho, a, b⟩
    | true =>
      unfold endU at a b
      rw [ho] at a b
      exact .inr ⟨sch, user, host, p, path, q, fr, hq, hf, s1, s2, s3, s4, s5, s6, p0, p1, ho, a, b⟩
/-- The origin of a web address, else its scheme, else nothing. -/
theorem site_both (t : ByteArray) (ht : t.size ≤ 65536) : ∃ r : ByteArray, Ev (fun k => spec_l05Site.f k t) r ∧ Ev (fun k => impl_site.f k t) r := by
  rcases parse_cases t ht with ⟨x, hx, a, b⟩ | ⟨sch, user, host, p, path, q, fr, hq, hf, s1, s2, s3, s4, s5, s6, p0, p1, ho, a, b⟩
  · obtain ⟨u1, u2, u3, u4, u5, u6, u7, u8, u9, u10⟩ := x
    have hx' : u10 = false := hx
    subst hx'
    refine ⟨(⟨#[]⟩ : ByteArray), ?_, ?_⟩
    · unfold spec_l05Site.f
      refine Ev.bind a ?_
      simp only [Bool.false_eq_true, if_false]; exact Ev.now _
    · unfold impl_site.f
      refine Ev.bind b ?_
      simp only [Bool.false_eq_true, if_false]; exact Ev.now _
  · by_cases w : webB sch = true
    · have t1 := site_gen sch user host path q fr p hq hf (by omega) (by omega) (by omega) (by omega)
      have t2 := origin_impl sch user host path q fr p hq hf (by omega) (by omega) (by omega) (by omega) w p0
      refine ⟨siteB sch host (portS p), ?_, ?_⟩
      · unfold spec_l05Site.f
        refine Ev.bind a ?_
        simp only [if_true, web_spec, Option.bind_some, if_pos w]
        exact Ev.bind t1 (Ev.now _)
      · unfold impl_site.f
        refine Ev.bind b ?_
        simp only [if_true, web_impl, Option.bind_some, if_pos w]
        exact Ev.bind t2 (Ev.now _)
    · refine ⟨sch, ?_, ?_⟩
      · unfold spec_l05Site.f
        refine Ev.bind a ?_
        simp only [if_true, web_spec, Option.bind_some, if_neg w]
        exact Ev.now _
      · unfold impl_site.f
        refine Ev.bind b ?_
        simp only [if_true, web_impl, Option.bind_some, if_neg w]
        exact Ev.now _
theorem viol_sizes {a0 a1 a2 a3 a4 a5 : ByteArray} {l c : Int} (h : violB a0 a1 a2 a3 a4 a5 l c = true) : a0.size ≤ 100 ∧ a1.size ≤ 100 ∧ a2.size ≤ 100 ∧ a3.size ≤ 100 := by
  unfold violB at h
  exact of_decide_eq_true (Bool.and_eq_true_iff.1 h).1
theorem ev_rounds {α : Type} {f : Nat → Option α} {r : α} (h : Ev f r) : ∃ k, f k = some r := by
  obtain ⟨k, hk⟩ := h
  exact ⟨k, hk k (Nat.le_refl k)⟩

theorem host_no58 : ∀ (l : List UInt8) (last : Bool), hostB last l = true → ∀ b ∈ l, b ≠ 58
  | [], _, _ => fun b hb => by cases hb
  | c :: l, last, h => by
    have hc : c ≠ 58 ∧ (∃ x, hostB x l = true) := by
      rw [hostB] at h
      by_cases a : lowB c = true ∨ digB c = true
      · rw [if_pos a] at h
        refine ⟨?_, _, h⟩
        rintro rfl
        rcases a with a | a <;> simp [lowB, digB] at a
      · rw [if_neg a] at h
        by_cases hl : last = true
        · rw [if_pos hl] at h; cases h
        · rw [if_neg hl] at h
          by_cases sp : sepB c = true
          · rw [if_pos sp] at h
            refine ⟨?_, _, h⟩
            rintro rfl
            simp [sepB] at sp
          · rw [if_neg sp] at h; cases h
    obtain ⟨h1, x, h2⟩ := hc
    intro b hb
    rcases List.mem_cons.1 hb with rfl | hb
    · exact h1
    · exact host_no58 l x h2 b hb
theorem part_58 : ∀ (a b p q : List UInt8), (∀ x ∈ a, x ≠ 58) → (∀ x ∈ b, x ≠ 58) → (p = [] ∨ ∃ t, p = 58 :: t) → (q = [] ∨ ∃ t, q = 58 :: t) → a ++ p = b ++ q → a = b ∧ p = q
  | [], [], p, q, _, _, _, _, h => ⟨rfl, h⟩
  | [], y :: b, p, q, _, hb, hp, _, h => by
    exfalso
    have hy := hb y (List.mem_cons_self ..)
    rcases hp with rfl | ⟨t, rfl⟩
    · cases h
    · injection h with h1 _; exact hy h1.symm
  | x :: a, [], p, q, ha, _, _, hq, h => by
    exfalso
    have hx := ha x (List.mem_cons_self ..)
    rcases hq with rfl | ⟨t, rfl⟩
    · cases h
    · injection h with h1 _; exact hx h1
  | x :: a, y :: b, p, q, ha, hb, hp, hq, h => by
    injection h with h1 h2
    obtain ⟨e1, e2⟩ := part_58 a b p q (fun z hz => ha z (List.mem_cons_of_mem _ hz)) (fun z hz => hb z (List.mem_cons_of_mem _ hz)) hp hq h2
    exact ⟨by rw [h1, e1], e2⟩
theorem portS_58 (p : Int) : (portS p).data.toList = [] ∨ ∃ t, (portS p).data.toList = 58 :: t := by
  unfold portS
  split
  · exact .inr ⟨_, by rw [ByteArray.data_append, Array.toList_append]; rfl⟩
  · exact .inl rfl
theorem portS_inj {p q : Int} (hp : 0 ≤ p) (hq : 0 ≤ q) (h : (portS p).data.toList = (portS q).data.toList) : p = q := by
  unfold portS at h
  by_cases a : p > 0 <;> by_cases b : q > 0
  · rw [if_pos a, if_pos b, ByteArray.data_append, ByteArray.data_append, Array.toList_append, Array.toList_append] at h
    have h' := List.append_cancel_left h
    exact itoa_inj hp hq h'
  · rw [if_pos a, if_neg b, ByteArray.data_append, Array.toList_append] at h
    cases h
  · rw [if_neg a, if_pos b, ByteArray.data_append, Array.toList_append] at h
    cases h
  · omega
theorem siteB_list (sch host P : ByteArray) : (siteB sch host P).toList = sch.toList ++ ([58, 47, 47] ++ (host.toList ++ P.toList)) := by
  simp only [toList_data]
  unfold siteB
  simp only [ByteArray.data_append, Array.toList_append, List.append_assoc]
theorem web_cases {s : ByteArray} (w : webB s = true) : s.toList = ([104, 116, 116, 112] : List UInt8) ∨ s.toList = ([104, 116, 116, 112, 115] : List UInt8) := by
  unfold webB at w
  simpa using w
/-- Two origins have one text just where scheme, host and port are one. -/
theorem site_iff {s1 h1 s2 h2 : ByteArray} {p1 p2 : Int} (w1 : webB s1 = true) (w2 : webB s2 = true) (g1 : 0 ≤ p1 ∧ hostB true h1.data.toList = true) (g2 : 0 ≤ p2 ∧ hostB true h2.data.toList = true) :
    ((siteB s1 h1 (portS p1)).toList == (siteB s2 h2 (portS p2)).toList) = (decide (s1.toList = s2.toList) && (decide (h1.toList = h2.toList) && (p1 == p2))) := by
  rw [Bool.eq_iff_iff]
  simp only [beq_iff_eq, Bool.and_eq_true, decide_eq_true_eq, siteB_list]
  constructor
  · intro h
    have hs : s1.toList = s2.toList := by
      rcases web_cases w1 with a | a <;> rcases web_cases w2 with b | b
      · rw [a, b]
      · rw [a, b] at h; simp at h
      · rw [a, b] at h; simp at h
      · rw [a, b]
    rw [hs] at h
    have h' := List.append_cancel_left (List.append_cancel_left h)
    simp only [toList_data] at h' ⊢
    obtain ⟨e1, e2⟩ := part_58 _ _ _ _ (host_no58 _ _ g1.2) (host_no58 _ _ g2.2) (portS_58 p1) (portS_58 p2) h'
    refine ⟨?_, e1, portS_inj g1.1 g2.1 e2⟩
    simpa only [toList_data] using hs
  · rintro ⟨a, b, rfl⟩
    rw [a, b]
theorem web_congr {a b : ByteArray} (h : a.toList = b.toList) : webB a = webB b := by unfold webB; rw [h]

/-- Two valid addresses: the origins are one to both. -/
theorem so_both {s1 u1 h1 t1 q1 f1 s2 u2 h2 t2 q2 f2 : ByteArray} {p1 p2 : Int} {a1 b1 a2 b2 : Bool} (hs1 : s1.size ≤ 70000) (hu1 : u1.size ≤ 70000) (hh1 : h1.size ≤ 70000) (ht1 : t1.size ≤ 70000) (hq1 : q1.size ≤ 70000) (hf1 : f1.size ≤ 70000) (hp1 : 0 ≤ p1) (hp1' : p1 ≤ 65535)
    (hs2 : s2.size ≤ 70000) (hu2 : u2.size ≤ 70000) (hh2 : h2.size ≤ 70000) (ht2 : t2.size ≤ 70000) (hq2 : q2.size ≤ 70000) (hf2 : f2.size ≤ 70000) (hp2 : 0 ≤ p2) (hp2' : p2 ≤ 65535)
    (e1 : urlB s1 u1 h1 p1 t1 q1 f1 a1 b1 (usualN s1) = true) (e2 : urlB s2 u2 h2 p2 t2 q2 f2 a2 b2 (usualN s2) = true) :
    ∃ b : Bool, spec_l01SameOrigin.f s1 u1 h1 p1 t1 q1 f1 a1 b1 s2 u2 h2 p2 t2 q2 f2 a2 b2 = some b ∧ Ev (fun k => impl_SameOrigin.f k s1 u1 h1 p1 t1 q1 f1 a1 b1 s2 u2 h2 p2 t2 q2 f2 a2 b2) b := by
  have y1 := url_impl s1 u1 h1 t1 q1 f1 p1 a1 b1 (by omega) (by omega) (by omega) (by omega) (by omega) (by omega) (by omega) (by omega) _ (usual_is s1).2
  have y2 := url_impl s2 u2 h2 t2 q2 f2 p2 a2 b2 (by omega) (by omega) (by omega) (by omega) (by omega) (by omega) (by omega) (by omega) _ (usual_is s2).2
  rw [← url_eq, e1] at y1
  rw [← url_eq, e2] at y2
  have g1 := fun w => url_web e1 w
  have g2 := fun w => url_web e2 w
  have sp : spec_l01SameOrigin.f s1 u1 h1 p1 t1 q1 f1 a1 b1 s2 u2 h2 p2 t2 q2 f2 a2 b2 = some (webB s1 && (decide (s1.toList = s2.toList) && (decide (h1.toList = h2.toList) && (p1 == p2)))) := by
    unfold spec_l01SameOrigin.f
    simp only [web_spec, Option.bind_some]
    by_cases w : webB s1 = true
    · by_cases c : s1.toList = s2.toList
      · by_cases d : h1.toList = h2.toList
        · simp only [w, if_true, if_pos c, if_pos d, decide_eq_true c, decide_eq_true d, Bool.true_and]
        · simp only [w, if_true, if_pos c, if_neg d, decide_eq_true c, decide_eq_false d, Bool.true_and, Bool.false_and]
      · simp only [w, if_true, if_neg c, decide_eq_false c, Bool.true_and, Bool.false_and]
    · have w' : webB s1 = false := by simpa using w
      simp only [w', Bool.false_eq_true, if_false, Bool.false_and]
  refine ⟨_, sp, ?_⟩
  unfold impl_SameOrigin.f
  refine Ev.bind y1 ?_
  simp only [if_true]
  refine Ev.bind y2 ?_
  simp only [if_true, web_impl, Option.bind_some]
  by_cases w1 : webB s1 = true
  · by_cases w2 : webB s2 = true
    · have o1 := origin_impl s1 u1 h1 t1 q1 f1 p1 a1 b1 (by omega) (by omega) (by omega) (by omega) w1 (g1 w1).1
      have o2 := origin_impl s2 u2 h2 t2 q2 f2 p2 a2 b2 (by omega) (by omega) (by omega) (by omega) w2 (g2 w2).1
      simp only [if_pos w1, if_pos w2]
      refine Ev.bind o1 (Ev.bind o2 ?_)
      simp only [site_iff w1 w2 (g1 w1) (g2 w2), w1, Bool.true_and]
      exact Ev.now _
    · have c : ¬ s1.toList = s2.toList := fun h => w2 (by rw [← web_congr h]; exact w1)
      simp only [if_pos w1, if_neg w2, decide_eq_false c, Bool.false_and, Bool.and_false]
      exact Ev.now _
  · have w' : webB s1 = false := by simpa using w1
    simp only [w', Bool.false_eq_true, if_false, Bool.false_and]
    exact Ev.now _
theorem source_both (a0 a1 a2 a3 a4 a5 : ByteArray) (l c : Int) (b : Bool) (z0 : a0.size ≤ 65536) (z3 : a3.size ≤ 65536) :
    ∃ r : ByteArray, Ev (fun k => spec_l05Source.f k a0 a1 a2 a3 a4 a5 l c b) r ∧ Ev (fun k => impl_Violation_source.f k a0 a1 a2 a3 a4 a5 l c b) r := by
  obtain ⟨r, e, f⟩ := site_both a3 z3
  have sj : ∀ u1 u2 u3 u4 u5 u6 u7 u8 u9, Ev (fun k => spec_l05Source.j0 k true a0 a1 a2 a3 a4 a5 l c b u1 u2 u3 u4 u5 u6 u7 u8 u9) r := fun u1 u2 u3 u4 u5 u6 u7 u8 u9 =>
    Ev.step (f := fun k => (spec_l05Site.f k a3).bind fun t => some t) (fun k => by rw [spec_l05Source.j0, if_pos rfl]) (Ev.bind e (Ev.now _))
  have ij : ∀ u1 u2 u3 u4 u5 u6 u7 u8 u9, Ev (fun k => impl_Violation_source.j0 k false a0 a1 a2 a3 a4 a5 l c b u1 u2 u3 u4 u5 u6 u7 u8 u9) r := fun u1 u2 u3 u4 u5 u6 u7 u8 u9 =>
    Ev.step (f := fun k => (impl_site.f k a3).bind fun t => some t) (fun k => by rw [impl_Violation_source.j0, if_neg Bool.false_ne_true]) (Ev.bind f (Ev.now _))
  unfold spec_l05Source.f impl_Violation_source.f
  rcases parse_cases a3 z3 with ⟨x, hx, m, n⟩ | ⟨s1, u1, h1, p1, t1, q1, f1, a1', b1, hs1, hu1, hh1, ht1, hq1, hf1, hp1, hp1', e1, m, n⟩
  · obtain ⟨y, m', n'⟩ : ∃ y : Parsed, Ev (fun k => spec_l01Parse.f k a0) y ∧ Ev (fun k => impl_parse.f k a0) y := ⟨_, parse_spec a0 (by omega), parse_impl a0 (by omega)⟩
    obtain ⟨v1, v2, v3, v4, v5, v6, v7, v8, v9, v10⟩ := x
    have hx' : v10 = false := hx
    subst hx'
    refine ⟨r, Ev.bind m (Ev.bind m' ?_), Ev.bind n (Ev.bind n' ?_)⟩
    · simp only [Bool.false_eq_true, if_false]; exact sj _ _ _ _ _ _ _ _ _
    · simp only [Bool.false_eq_true, if_false]; exact ij _ _ _ _ _ _ _ _ _
  rcases parse_cases a0 z0 with ⟨x, hx, m', n'⟩ | ⟨s2, u2, h2, p2, t2, q2, f2, a2', b2, hs2, hu2, hh2, ht2, hq2, hf2, hp2, hp2', e2, m', n'⟩
  · obtain ⟨v1, v2, v3, v4, v5, v6, v7, v8, v9, v10⟩ := x
    have hx' : v10 = false := hx
    subst hx'
    refine ⟨r, Ev.bind m (Ev.bind m' ?_), Ev.bind n (Ev.bind n' ?_)⟩
    · simp only [if_true, Bool.false_eq_true, if_false]; exact sj _ _ _ _ _ _ _ _ _
    · simp only [if_true, Bool.false_eq_true, if_false]; exact ij _ _ _ _ _ _ _ _ _
  obtain ⟨d, g1, g2⟩ := so_both hs1 hu1 hh1 ht1 hq1 hf1 hp1 hp1' hs2 hu2 hh2 ht2 hq2 hf2 hp2 hp2' e1 e2
  cases d with
  | false =>
    refine ⟨r, Ev.bind m (Ev.bind m' ?_), Ev.bind n (Ev.bind n' ?_)⟩
    · simp only [if_true, g1, Option.bind_some, Bool.not_false]; exact sj _ _ _ _ _ _ _ _ _
    · simp only [if_true]; exact Ev.bind g2 (ij _ _ _ _ _ _ _ _ _)
  | true =>
    obtain ⟨r', k1, k2⟩ := strip_same s1 u1 h1 t1 q1 f1 p1 a1' b1 (by omega) (by omega) (by omega) (by omega) (by omega) (by omega) (fun _ => hp1)
    refine ⟨r', Ev.bind m (Ev.bind m' ?_), Ev.bind n (Ev.bind n' ?_)⟩
    · simp only [if_true, g1, Option.bind_some, Bool.not_true]
      exact Ev.step (f := fun k => (spec_l01Strip.f k s1 u1 h1 p1 t1 q1 f1 a1' b1).bind fun t => some t) (fun k => by rw [spec_l05Source.j0, if_neg Bool.false_ne_true]) (Ev.bind k1 (Ev.now _))
    · simp only [if_true]
      exact Ev.bind g2 (Ev.step (f := fun k => (impl_Url_strip.f k s1 u1 h1 p1 t1 q1 f1 a1' b1).bind fun t => some t) (fun k => by rw [impl_Violation_source.j0, if_pos rfl]) (Ev.bind k2 (Ev.now _)))
theorem FnExactSourcePart : (∀ (a0_0 : ByteArray) (a0_1 : ByteArray) (a0_2 : ByteArray) (a0_3 : ByteArray) (a0_4 : ByteArray) (a0_5 : ByteArray) (a0_6 : Int) (a0_7 : Int) (a0_8 : Bool), (a0_0.size ≤ 9223372036854775807) → (a0_1.size ≤ 9223372036854775807) → (a0_2.size ≤ 9223372036854775807) → (a0_3.size ≤ 9223372036854775807) → (a0_4.size ≤ 9223372036854775807) → (a0_5.size ≤ 9223372036854775807) → ((Lit.int .i64 a0_6).wf = true) → ((Lit.int .i64 a0_7).wf = true) → ∃ k, laws_FnExactSourcePart.f k a0_0 a0_1 a0_2 a0_3 a0_4 a0_5 a0_6 a0_7 a0_8 = some true) := by
  intro a0 a1 a2 a3 a4 a5 l c b _ _ _ _ _ _ _ _
  refine ev_rounds ?_
  unfold laws_FnExactSourcePart.f laws_toViolation.f spec_SourcePart.f impl_SourcePart.f
  cases h : laws_szViolation.f a0 a1 a2 a3 a4 a5 l c b 1048576 with
  | none => exact absurd h (by unfold laws_szViolation.f; (repeat' split) <;> simp)
  | some t =>
    simp only [Option.bind_some]
    split
    · exact Ev.now true
    · cases hv : violB a0 a1 a2 a3 a4 a5 l c with
      | false =>
        have s := viol_spec a0 a1 a2 a3 a4 a5 l c b
        have i := viol_impl a0 a1 a2 a3 a4 a5 l c b
        rw [hv] at s i
        refine Ev.bind (a := ((⟨#[]⟩ : ByteArray), (1 : Int))) (Ev.bind s (by simp only [Bool.false_eq_true, if_false]; exact Ev.now _)) (Ev.bind (a := ((⟨#[]⟩ : ByteArray), (1 : Int))) (Ev.bind i (by simp only [Bool.false_eq_true, if_false]; exact Ev.now _)) ?_)
        simpa using Ev.now true
      | true =>
        have s := viol_spec a0 a1 a2 a3 a4 a5 l c b
        have i := viol_impl a0 a1 a2 a3 a4 a5 l c b
        obtain ⟨z0, z1, z2, z3⟩ := viol_sizes hv
        rw [hv] at s i
        obtain ⟨r, e, f⟩ := source_both a0 a1 a2 a3 a4 a5 l c b (by omega) (by omega)
        refine Ev.bind (a := (r, (0 : Int))) (Ev.bind s (by simp only [if_true]; exact Ev.bind e (Ev.now _))) (Ev.bind (a := (r, (0 : Int))) (Ev.bind i (by simp only [if_true]; exact Ev.bind f (Ev.now _))) ?_)
        simpa using Ev.now true

end Go.Proofs.YthifpohbdbhnlaaGreatDoor.Pure
