/- A field of a number that lies in no memory. -/
import Derived.Test.YthhlnghpbjmfpaaDoorProg
import Derived.WalkKit
namespace Go.Proofs.YthhlnghpbjmfpaaDoor.Fields
open Go.RowKit
theorem asAgg_run {P : Program} (cs : Array Value) (w : World) : (asAgg (.agg cs)).run P w = .ok cs w := rfl
theorem bits0 (a b c : Value) (w : World) : (Instr.field 27 (.agg #[a, b, c]) 0).run Tryd.prog w = .ok a w := by
  simp only [Instr.field]
  go_simp
  rfl
theorem bits1 (a b c : Value) (w : World) : (Instr.field 27 (.agg #[a, b, c]) 1).run Tryd.prog w = .ok b w := by
  simp only [Instr.field]
  go_simp
  rfl
theorem bits2 (a b c : Value) (w : World) : (Instr.field 27 (.agg #[a, b, c]) 2).run Tryd.prog w = .ok c w := by
  simp only [Instr.field]
  go_simp
  rfl
end Go.Proofs.YthhlnghpbjmfpaaDoor.Fields
