-- written by wip/pr.py for this claim: functions' plain forms and walks
import Derived.Test.YthhlnghpbjmfpaaDoorPTrydx0
namespace Go.Proofs.YthhlnghpbjmfpaaDoor.PTryd
attribute [local go_sem] Go.Proofs.YthhlnghpbjmfpaaDoor.Extern.cell_twice
attribute [local go_sem] Go.Proofs.YthhlnghpbjmfpaaDoor.Fields.bits0 Go.Proofs.YthhlnghpbjmfpaaDoor.Fields.bits1 Go.Proofs.YthhlnghpbjmfpaaDoor.Fields.bits2
open Go.Proofs.YthhlnghpbjmfpaaDoor.Press Go.Proofs.YthhlnghpbjmfpaaDoor
open Go.RowKit Go.Proofs.YthhlnghpbjmfpaaDoorW.PrintWords Go.Proofs.YthhlnghpbjmfpaaDoorW.PrintLast Go.Proofs.YthhlnghpbjmfpaaDoorW.PrintMore
attribute [local go_sem] max2_int min2_int max_two min_two max_three min_three max_four min_four   -- for this text's walks alone
set_option linter.unusedVariables false
set_option linter.unusedSimpArgs false

theorem eqA27 (d : Nat) (w : World) (x0 y0 : Int) (x1 y1 : Int) (x2 y2 : Int) :
    (Op.equalIn (d + 2) 27 (.agg #[.int .i64 x0, .int .u64 x1, .int .u64 x2]) (.agg #[.int .i64 y0, .int .u64 y1, .int .u64 y2])).run Tryd.prog w = .ok (x0 == y0 && (x1 == y1 && (x2 == y2))) w := by
  refine eqA_of Tryd.underlying27 (by kernel_rfl) ?_
  refine eqf_cons (by rfl) (by go_simp; rfl) (by go_simp; rfl) (by go_simp) ?_
  refine eqf_cons (by rfl) (by go_simp; rfl) (by go_simp; rfl) (by go_simp) ?_
  exact eqf_last (by rfl) (by go_simp; rfl) (by go_simp; rfl) (by go_simp)
end Go.Proofs.YthhlnghpbjmfpaaDoor.PTryd
