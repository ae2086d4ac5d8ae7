-- Printed by wip/print2.py (a program of this session, over the kit's printer) out of the translation.
import Derived.Test.YtncghlamcbhpmaaPFnWinnerx0
namespace Go.Proofs.Ytncghlamcbhpmaa.PFnWinner
open Go.RowKit Go.Proofs.YtncghlamcbhpmaaW.PrintWords Go.Proofs.YtncghlamcbhpmaaW.PrintLast Go.Proofs.YtncghlamcbhpmaaW.PrintMore
attribute [local go_sem] max2_int min2_int max_two min_two max_three min_three max_four min_four   -- for this text's walks alone
set_option linter.unusedVariables false
set_option linter.unusedSimpArgs false

theorem eqA25 (d : Nat) (w : World) (x0 y0 : ByteArray) (x1 y1 : Int) (x2 y2 : Int) (x3 y3 : Bool) (x4 y4 : ByteArray) :
    (Op.equalIn (d + 2) 25 (.agg #[.string x0, .int .i64 x1, .int .i64 x2, .bool x3, .string x4]) (.agg #[.string y0, .int .i64 y1, .int .i64 y2, .bool y3, .string y4])).run Try.prog w = .ok (x0.toList == y0.toList && (x1 == y1 && (x2 == y2 && (x3 == y3 && (x4.toList == y4.toList))))) w := by
  refine eqA_of Try.underlying25 (by kernel_rfl) ?_
  refine eqf_cons (by rfl) (by go_simp; rfl) (by go_simp; rfl) (by go_simp) ?_
  refine eqf_cons (by rfl) (by go_simp; rfl) (by go_simp; rfl) (by go_simp) ?_
  refine eqf_cons (by rfl) (by go_simp; rfl) (by go_simp; rfl) (by go_simp) ?_
  refine eqf_cons (by rfl) (by go_simp; rfl) (by go_simp; rfl) (by go_simp) ?_
  exact eqf_last (by rfl) (by go_simp; rfl) (by go_simp; rfl) (by go_simp)
end Go.Proofs.Ytncghlamcbhpmaa.PFnWinner
