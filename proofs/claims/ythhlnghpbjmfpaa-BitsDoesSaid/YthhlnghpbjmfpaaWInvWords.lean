import Derived.Test.YthhlnghpbjmfpaaWInv
import Derived.Test.YthhlnghpbjmfpaaWFootNe
namespace Go.Proofs.YthhlnghpbjmfpaaW.PrintWords
open Go.RowKit
end Go.Proofs.YthhlnghpbjmfpaaW.PrintWords
namespace Go.Proofs.YthhlnghpbjmfpaaW.PrintLast
section
variable {ops : Array Oper} {a : Act} {o og : Oper} {g : Nat} {t : Tmp} {u : Bool}
end
end Go.Proofs.YthhlnghpbjmfpaaW.PrintLast
