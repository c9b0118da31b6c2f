/- Contracts of package bits' functions, over data. -/
import Derived.Test.YthhlnghpbjmfpaaDoorAbCore
import Derived.Test.YthhlnghpbjmfpaaDoorPTrydx4
import Derived.Test.YthhlnghpbjmfpaaDoorPress
import Derived.Test.YthhlnghpbjmfpaaDoorProg
namespace Go.Proofs.YthhlnghpbjmfpaaDoor.AbBits
open Go Go.RowKit Go.Ab
set_option linter.unusedVariables false
set_option linter.unusedSimpArgs false
theorem below_of {w w' : World} (h : Below w.heap.size w w') : Below w.heap.size w w' := h
theorem mixed : Tryd.prog.follows .mixedOrders = true := by kernel_rfl
variable {Γ : World → Prop}
theorem check_c {a0 a1 a2 : Int} {r : Bool} (h : Go.Proofs.YthhlnghpbjmfpaaDoor.PTryd.bits_Check.f a0 a1 a2 = some r) : CallsP Tryd.prog Γ 15 [.agg [.sc (.int .i64 a0), .sc (.int .u64 a1), .sc (.int .u64 a2)]] (.sc (.bool r)) :=
  lift rfl rfl fun w hg => (Go.Proofs.YthhlnghpbjmfpaaDoor.PTryd.bits_Check.calls a0 a1 a2 r w h).mono fun _ _ q => ⟨q.1, below_of q.2⟩

theorem of_c {a0 a1 a2 r0 r1 r2 r3 : Int} (h : Go.Proofs.YthhlnghpbjmfpaaDoor.PTryd.bits_Of.f a0 a1 a2 = some (r0, r1, r2, r3)) : CallsP Tryd.prog Γ 13 [.sc (.int .i64 a0), .sc (.int .u64 a1), .sc (.int .u64 a2)] (.tup [.agg [.sc (.int .i64 r0), .sc (.int .u64 r1), .sc (.int .u64 r2)], .sc (.int .i64 r3)]) :=
  lift rfl rfl fun w hg => (Go.Proofs.YthhlnghpbjmfpaaDoor.PTryd.bits_Of.calls a0 a1 a2 r0 r1 r2 r3 w h).mono fun _ _ q => ⟨q.1, below_of q.2⟩

theorem down_c {a0 a1 a2 n r0 r1 r2 : Int} (h : Go.Proofs.YthhlnghpbjmfpaaDoor.PTryd.bits_down.f a0 a1 a2 n = some (r0, r1, r2)) : CallsP Tryd.prog Γ 28 [.agg [.sc (.int .i64 a0), .sc (.int .u64 a1), .sc (.int .u64 a2)], .sc (.int .u64 n)] (.agg [.sc (.int .i64 r0), .sc (.int .u64 r1), .sc (.int .u64 r2)]) :=
  lift rfl rfl fun w hg => (Go.Proofs.YthhlnghpbjmfpaaDoor.PTryd.bits_down.calls a0 a1 a2 n r0 r1 r2 w h).mono fun _ _ q => ⟨q.1, below_of q.2⟩

theorem Do_c {op a0 a1 a2 b0 b1 b2 n m r0 r1 r2 r3 : Int} (h : Go.Proofs.YthhlnghpbjmfpaaDoor.PTryd.bits_Do.f op a0 a1 a2 b0 b1 b2 n m = some (r0, r1, r2, r3)) : CallsP Tryd.prog Γ 16 [.sc (.int .u8 op), .agg [.sc (.int .i64 a0), .sc (.int .u64 a1), .sc (.int .u64 a2)], .agg [.sc (.int .i64 b0), .sc (.int .u64 b1), .sc (.int .u64 b2)], .sc (.int .i64 n), .sc (.int .i64 m)] (.tup [.agg [.sc (.int .i64 r0), .sc (.int .u64 r1), .sc (.int .u64 r2)], .sc (.int .i64 r3)]) :=
  lift rfl rfl fun w hg => (Go.Proofs.YthhlnghpbjmfpaaDoor.PTryd.bits_Do.calls op a0 a1 a2 b0 b1 b2 n m r0 r1 r2 r3 w h).mono fun _ _ q => ⟨q.1, below_of q.2⟩

theorem do_c {op a0 a1 a2 b0 b1 b2 r0 r1 r2 : Int} (h : Go.Proofs.YthhlnghpbjmfpaaDoor.PTryd.pointsmanlaw01_do.f op a0 a1 a2 b0 b1 b2 = some (r0, r1, r2)) : CallsP Tryd.prog Γ 11 [.sc (.int .u8 op), .agg [.sc (.int .i64 a0), .sc (.int .u64 a1), .sc (.int .u64 a2)], .agg [.sc (.int .i64 b0), .sc (.int .u64 b1), .sc (.int .u64 b2)]] (.agg [.sc (.int .i64 r0), .sc (.int .u64 r1), .sc (.int .u64 r2)]) :=
  lift rfl rfl fun w hg => (Go.Proofs.YthhlnghpbjmfpaaDoor.PTryd.pointsmanlaw01_do.calls op a0 a1 a2 b0 b1 b2 r0 r1 r2 w h).mono fun _ _ q => ⟨q.1, below_of q.2⟩

theorem num_c {a0 a1 : Int} : CallsP Tryd.prog Γ 12 [.sc (.int .i64 a0), .sc (.int .u64 a1)] (.agg [.sc (.int .i64 a0), .sc (.int .u64 0), .sc (.int .u64 a1)]) :=
  lift rfl rfl fun w hg => (Go.Proofs.YthhlnghpbjmfpaaDoor.PTryd.pointsmanlaw01_num.calls a0 a1 a0 0 a1 w rfl).mono fun _ _ q => ⟨q.1, below_of q.2⟩

theorem lcut_c {a0 a1 a2 n m r0 r1 r2 : Int} (h : Go.Proofs.YthhlnghpbjmfpaaDoor.PTryd.pointsmanlaw01_cut.f a0 a1 a2 n m = some (r0, r1, r2)) : CallsP Tryd.prog Γ 14 [.agg [.sc (.int .i64 a0), .sc (.int .u64 a1), .sc (.int .u64 a2)], .sc (.int .i64 n), .sc (.int .i64 m)] (.agg [.sc (.int .i64 r0), .sc (.int .u64 r1), .sc (.int .u64 r2)]) :=
  lift rfl rfl fun w hg => (Go.Proofs.YthhlnghpbjmfpaaDoor.PTryd.pointsmanlaw01_cut.calls a0 a1 a2 n m r0 r1 r2 w h).mono fun _ _ q => ⟨q.1, below_of q.2⟩

end Go.Proofs.YthhlnghpbjmfpaaDoor.AbBits
