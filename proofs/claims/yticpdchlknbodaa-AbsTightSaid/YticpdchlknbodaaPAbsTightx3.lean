-- Written by a program of this session (wip/tools/myprint.py over the print of the kit).
import Derived.Test.YticpdchlknbodaaPAbsTightx0
import Derived.Test.YticpdchlknbodaaPAbsTightx1
import Derived.Test.YticpdchlknbodaaPAbsTightx2
namespace Go.Proofs.Yticpdchlknbodaa.PAbsTight
open Go.Proofs.Yticpdchlknbodaa.Ext
open Go.RowKit Go.Proofs.YticpdchlknbodaaW.PrintWords Go.Proofs.YticpdchlknbodaaW.PrintLast Go.Proofs.YticpdchlknbodaaW.PrintMore
attribute [local go_sem] max2_int min2_int max_two min_two max_three min_three max_four min_four   -- for this text's walks alone
set_option linter.unusedVariables false
set_option linter.unusedSimpArgs false

theorem eqA28 (d : Nat) (w : World) (x0 y0 : Int) (x1 y1 : Int) (x2 y2 : Int) (x3 y3 : Int) :
    (Op.equalIn (d + 3) 28 (.agg #[.int .u64 x0, .int .u64 x1, .int .i64 x2, .int .u64 x3]) (.agg #[.int .u64 y0, .int .u64 y1, .int .i64 y2, .int .u64 y3])).run Try.prog w = .ok ((x0 == y0 && (x1 == y1)) && ((x2 == y2 && (x3 == y3)))) w := by
  refine eqA_of Try.underlying28 (by kernel_rfl) ?_
  refine eqf_cons (by rfl) (by go_simp) (by go_simp) (eqA24 (d + 0) w _ _ _ _) ?_
  exact eqf_last (by rfl) (by go_simp) (by go_simp) (eqA26 (d + 0) w _ _ _ _)
end Go.Proofs.Yticpdchlknbodaa.PAbsTight
