-- Written by xprint.py, a program of this work, round the kit's print.
import Derived.Test.YtjalbacdcfbmgaaPx0
import Derived.Test.YtjalbacdcfbmgaaPx1
namespace Go.Proofs.Ytjalbacdcfbmgaa.P
open Go.RowKit Go.Proofs.YtjalbacdcfbmgaaW.PrintWords Go.Proofs.YtjalbacdcfbmgaaW.PrintLast Go.Proofs.YtjalbacdcfbmgaaW.PrintMore
attribute [local go_sem] max2_int min2_int max_two min_two max_three min_three max_four min_four   -- for this text's walks alone
attribute [local go_sem] add64_run carryOk_zero   -- for this text's walks alone
set_option linter.unusedVariables false
set_option linter.unusedSimpArgs false

theorem eqA31 (d : Nat) (w : World) (x0 y0 : Int) (x1 y1 : Int) (x2 y2 : Int) (x3 y3 : Int) :
    (Op.equalIn (d + 3) 31 (.agg #[.int .i64 x0, .int .i64 x1, .int .u64 x2, .int .u64 x3]) (.agg #[.int .i64 y0, .int .i64 y1, .int .u64 y2, .int .u64 y3])).run Try.prog w = .ok (x0 == y0 && (x1 == y1 && ((x2 == y2 && (x3 == y3))))) w := by
  refine eqA_of Try.underlying31 (by kernel_rfl) ?_
  refine eqf_cons (by rfl) (by go_simp; rfl) (by go_simp; rfl) (by go_simp) ?_
  refine eqf_cons (by rfl) (by go_simp; rfl) (by go_simp; rfl) (by go_simp) ?_
  exact eqf_last (by rfl) (by go_simp) (by go_simp) (eqA29 (d + 0) w _ _ _ _)
end Go.Proofs.Ytjalbacdcfbmgaa.P
