/- Closed facts of the program, one by one. -/
import Derived.Test.YtbgeejmhkmjfdaaGreatDoorProg
import Derived.JoinedOf
namespace Go.Proofs.YtbgeejmhkmjfdaaGreatDoor.Facts
open Go
theorem fact1 : (laidOutB Tryz.prog) = true := by kernel_rfl
theorem fact2 : (mapsRowed Tryz.prog) = true := by kernel_rfl
theorem fact6 : ((Tryz.prog.stops == [])) = true := by kernel_rfl
theorem fact8 : ((Tryz.prog.stopKnobs == [])) = true := by kernel_rfl
theorem fact24 : (Tryz.prog.stopsHeard) = true := by kernel_rfl
theorem fact25 : (Tryz.prog.mayEnter) = true := by kernel_rfl
end Go.Proofs.YtbgeejmhkmjfdaaGreatDoor.Facts
