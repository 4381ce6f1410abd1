/- The program's ReportOK answers as the reference's at every report; no condition. -/
import Derived.Test.YtgjeefjmcmionaaQFnExactReportOKx1
set_option linter.unusedVariables false
set_option linter.unusedSimpArgs false
namespace Go.Proofs.Ytgjeefjmcmionaa.Pure
open Go.RowKit Go.Proofs.Ytgjeefjmcmionaa.QFnExactReportOK Go.Proofs.YtgjeefjmcmionaaW.PrintWords Go.Proofs.YtgjeefjmcmionaaW.PrintLast

def inB (n lo hi : Int) : Bool := decide (lo ≤ n) && decide (n ≤ hi)
theorem within_is (n lo hi : Int) : impl_within.f n lo hi = some (inB n lo hi) := by
  unfold impl_within.f inB
  by_cases h : lo ≤ n <;> simp [h]

theorem in_is (n lo hi : Int) : spec_l01In.f n lo hi = some (inB n lo hi) := by
  unfold spec_l01In.f inB
  by_cases h : lo ≤ n
  · rw [if_pos h]; simp [h]
  · rw [if_neg h]; simp [h]

def reportB (id born tries : Int) (body : ByteArray) : Bool := inB id 1 1000000 && (inB born 0 1000000 && (inB tries 0 3 && inB body.size 1 8000))
theorem report_impl (id born tries : Int) (body : ByteArray) : impl_ReportOK.f id born tries body = some (reportB id born tries body) := by
  unfold impl_ReportOK.f impl_isBody.f reportB
  simp only [within_is, Option.bind_some]
  cases inB id 1 1000000 <;> cases inB born 0 1000000 <;> cases inB tries 0 3 <;> rfl
theorem report_spec (id born tries : Int) (body : ByteArray) : spec_l06Report.f id born tries body = some (reportB id born tries body) := by
  unfold spec_l06Report.f reportB
  simp only [in_is, Option.bind_some]
  cases inB id 1 1000000 <;> cases inB born 0 1000000 <;> cases inB tries 0 3 <;> rfl

theorem FnExactReportOK : (∀ (a0_0 : Int) (a0_1 : Int) (a0_2 : Int) (a0_3 : ByteArray), ((Lit.int .i64 a0_0).wf = true) → ((Lit.int .i64 a0_1).wf = true) → ((Lit.int .i64 a0_2).wf = true) → (a0_3.size ≤ 9223372036854775807) → laws_FnExactReportOK.f a0_0 a0_1 a0_2 a0_3 = some true) := by
  intro id born tries body _ _ _ _
  unfold laws_FnExactReportOK.f laws_szReport.f laws_toReport.f spec_ReportOK.f
  simp only [report_impl, report_spec, Option.bind_some]
  split <;> simp

end Go.Proofs.Ytgjeefjmcmionaa.Pure
