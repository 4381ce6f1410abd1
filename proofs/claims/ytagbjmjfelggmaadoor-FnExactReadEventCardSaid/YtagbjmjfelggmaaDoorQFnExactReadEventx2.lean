/- A tool of this session wrote this text out of the translation: functions as plain Lean, and proofs that the machine's calls come to their answers. -/
import Derived.Test.YtagbjmjfelggmaaDoorQFnExactReadEventx0
import Derived.Test.YtagbjmjfelggmaaDoorQFnExactReadEventx1
namespace Go.Proofs.YtagbjmjfelggmaaDoor.QFnExactReadEvent
open Go.RowKit Go.Proofs.YtagbjmjfelggmaaDoorW.PrintWords Go.Proofs.YtagbjmjfelggmaaDoorW.PrintLast Go.Proofs.YtagbjmjfelggmaaDoorW.PrintMore
attribute [local go_sem] max2_int min2_int max_two min_two max_three min_three max_four min_four   -- for this text's walks alone
set_option linter.unusedVariables false
set_option linter.unusedSimpArgs false

theorem eqA31 (d : Nat) (w : World) (x0 y0 : Int) (x1 y1 : Int) (x2 y2 : Int) (x3 y3 : Int) (x4 y4 : ByteArray) (x5 y5 : ByteArray) (x6 y6 : ByteArray) (x7 y7 : ByteArray) (x8 y8 : ByteArray) (x9 y9 : ByteArray) (x10 y10 : ByteArray) (x11 y11 : ByteArray) (x12 y12 : Int) (x13 y13 : Int) (x14 y14 : Bool) (x15 y15 : Bool) :
    (Op.equalIn (d + 3) 31 (.agg #[.int .i64 x0, .int .i64 x1, .int .i64 x2, .int .i64 x3, .string x4, .string x5, .string x6, .string x7, .string x8, .string x9, .string x10, .string x11, .int .i64 x12, .int .i64 x13, .bool x14, .bool x15]) (.agg #[.int .i64 y0, .int .i64 y1, .int .i64 y2, .int .i64 y3, .string y4, .string y5, .string y6, .string y7, .string y8, .string y9, .string y10, .string y11, .int .i64 y12, .int .i64 y13, .bool y14, .bool y15])).run Tryd.prog w = .ok (x0 == y0 && (x1 == y1 && (x2 == y2 && (x3 == y3 && (x4.toList == y4.toList && (x5.toList == y5.toList && ((x6.toList == y6.toList && (x7.toList == y7.toList && (x8.toList == y8.toList && (x9.toList == y9.toList && (x10.toList == y10.toList && (x11.toList == y11.toList && (x12 == y12 && (x13 == y13 && (x14 == y14))))))))) && (x15 == y15)))))))) w := by
  refine eqA_of Tryd.underlying31 (by kernel_rfl) ?_; refine eqf_cons (by rfl) (by go_simp; rfl) (by go_simp; rfl) (by go_simp) ?_; refine eqf_cons (by rfl) (by go_simp; rfl) (by go_simp; rfl) (by go_simp) ?_; refine eqf_cons (by rfl) (by go_simp; rfl) (by go_simp; rfl) (by go_simp) ?_; refine eqf_cons (by rfl) (by go_simp; rfl) (by go_simp; rfl) (by go_simp) ?_; refine eqf_cons (by rfl) (by go_simp; rfl) (by go_simp; rfl) (by go_simp) ?_; refine eqf_cons (by rfl) (by go_simp; rfl) (by go_simp; rfl) (by go_simp) ?_; refine eqf_cons (by rfl) (by go_simp) (by go_simp) (eqA29 (d + 0) w _ _ _ _ _ _ _ _ _ _ _ _ _ _ _ _ _ _) ?_; exact eqf_last (by rfl) (by go_simp; rfl) (by go_simp; rfl) (by go_simp)
end Go.Proofs.YtagbjmjfelggmaaDoor.QFnExactReadEvent
