-- written by wip/pr.py for this claim: functions' plain forms and walks
import Derived.Test.YthhlnghpbjmfpaaProg
import Derived.Below
import Derived.Deep.Draws
import Derived.Deep.AppendLies
import Derived.Maps.AppendAt
import Derived.OwnWalk
import Derived.Laws.BytesArg
import Derived.Laws.MakeOwn
import Derived.Laws.OwnMore
import Derived.Deep.OwnRows
import Derived.Tactics
import Derived.Lib.ConvBytes
import Derived.Laws.Slices
import Derived.WalkKit
import Derived.KernelRfl
import Derived.RowKit3
import Derived.Deep.LoopGhost
import Derived.Deep.QuietTactic
import Derived.BigQuiet
import Derived.WideLaws
import Derived.Deep.DeepCutAuto
import Derived.Deep.CutBlock
import Derived.Deep.RegionHeld3
import Derived.Laws.Rows
import Derived.Lib.AppendStr
import Derived.ArgAppend
import Derived.Laws.IdiomCopy
import Derived.OrdersHeld
import Derived.Laws.BitsLemmas
import Derived.RowKit
import Derived.Test.YthhlnghpbjmfpaaExtern
import Derived.Test.YthhlnghpbjmfpaaMaps
import Derived.Test.YthhlnghpbjmfpaaThree
import Derived.Test.YthhlnghpbjmfpaaWWords
import Derived.Test.YthhlnghpbjmfpaaWLast
import Derived.Test.YthhlnghpbjmfpaaWTab
import Derived.Test.YthhlnghpbjmfpaaWFour
import Derived.Test.YthhlnghpbjmfpaaWQPut
import Derived.Test.YthhlnghpbjmfpaaWApart
import Derived.Test.YthhlnghpbjmfpaaWArr
import Derived.Test.YthhlnghpbjmfpaaWZeros
import Derived.Test.YthhlnghpbjmfpaaWFoot
import Derived.Test.YthhlnghpbjmfpaaWKept
import Derived.Test.YthhlnghpbjmfpaaWShare
import Derived.Test.YthhlnghpbjmfpaaWN
import Derived.Test.YthhlnghpbjmfpaaWFootNe
import Derived.Test.YthhlnghpbjmfpaaWAt
import Derived.Test.YthhlnghpbjmfpaaWEqStruct
import Derived.Test.YthhlnghpbjmfpaaWRepsOne
import Derived.Test.YthhlnghpbjmfpaaWInv
import Derived.Test.YthhlnghpbjmfpaaWInvWords
import Derived.Test.YthhlnghpbjmfpaaWGuard
import Derived.Test.YthhlnghpbjmfpaaWNEv
import Derived.Test.YthhlnghpbjmfpaaWMore
namespace Go.Proofs.Ythhlnghpbjmfpaa.PTry
attribute [local go_sem] Go.Proofs.Ythhlnghpbjmfpaa.Extern.cell_twice
open Go.RowKit Go.Proofs.YthhlnghpbjmfpaaW.PrintWords Go.Proofs.YthhlnghpbjmfpaaW.PrintLast Go.Proofs.YthhlnghpbjmfpaaW.PrintMore
attribute [local go_sem] max2_int min2_int max_two min_two max_three min_three max_four min_four   -- for this text's walks alone
set_option linter.unusedVariables false
set_option linter.unusedSimpArgs false



def errW : Option Int → Value
  | none => .nilIface
  | some c => .iface 0 (.int .i64 c)
theorem errW_none : errW none = .nilIface := rfl
theorem errW_some (c : Int) : errW (some c) = .iface 0 (.int .i64 c) := rfl

theorem info4 : (Try.prog.info? 4).map (fun i => (i.zero, i.size, i.bytes)) = some (some (.bool false), 1, 1) := by kernel_rfl
-- the values' own types

end Go.Proofs.Ythhlnghpbjmfpaa.PTry
