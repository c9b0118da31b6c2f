/- Lists with known data in the room behind them: a list made empty, with room; parts of lists; how many find room. No program. -/
import Derived.Test.YtbgeejmhkmjfdaaGreatDoorAbHeap
import Derived.Laws.MakeOwn
namespace Go.Ab
open Go Go.RowKit
set_option linter.unusedVariables false
set_option linter.unusedSimpArgs false
variable {P : Program} {E : Env} {st : St} {G : Gh} {a : Act} {w : World}
variable {d : Nat} {ty : TypeId} {pos : String} {af : Array Edge} {g : Option (Nat × Bool)} {x y z : Operand}
variable {Q : Exit → Act → World → Prop}
end Go.Ab
