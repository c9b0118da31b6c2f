import Derived.Test.YthhlnghpbjmfpaaDoorWInv
import Derived.Test.YthhlnghpbjmfpaaDoorWFootNe
namespace Go.Proofs.YthhlnghpbjmfpaaDoorW.PrintWords
open Go.RowKit
end Go.Proofs.YthhlnghpbjmfpaaDoorW.PrintWords
namespace Go.Proofs.YthhlnghpbjmfpaaDoorW.PrintLast
section
variable {ops : Array Oper} {a : Act} {o og : Oper} {g : Nat} {t : Tmp} {u : Bool}
end
end Go.Proofs.YthhlnghpbjmfpaaDoorW.PrintLast
