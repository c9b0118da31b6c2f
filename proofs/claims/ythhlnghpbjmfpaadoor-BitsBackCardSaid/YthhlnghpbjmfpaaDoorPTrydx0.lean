-- written by wip/pr.py for this claim: functions' plain forms and walks
import Derived.Test.YthhlnghpbjmfpaaDoorProg
import Derived.Below
import Derived.Deep.Draws
import Derived.Deep.AppendLies
import Derived.Maps.AppendAt
import Derived.OwnWalk
import Derived.Laws.BytesArg
import Derived.Laws.MakeOwn
import Derived.Laws.OwnMore
import Derived.Deep.OwnRows
import Derived.Tactics
import Derived.Lib.ConvBytes
import Derived.Laws.Slices
import Derived.WalkKit
import Derived.KernelRfl
import Derived.RowKit3
import Derived.Deep.LoopGhost
import Derived.Deep.QuietTactic
import Derived.BigQuiet
import Derived.WideLaws
import Derived.Deep.DeepCutAuto
import Derived.Deep.CutBlock
import Derived.Deep.RegionHeld3
import Derived.Laws.Rows
import Derived.Lib.AppendStr
import Derived.ArgAppend
import Derived.Laws.IdiomCopy
import Derived.OrdersHeld
import Derived.Laws.BitsLemmas
import Derived.RowKit
import Derived.Test.YthhlnghpbjmfpaaDoorExtern
import Derived.Test.YthhlnghpbjmfpaaDoorMaps
import Derived.Test.YthhlnghpbjmfpaaDoorThree
import Derived.Test.YthhlnghpbjmfpaaDoorHex
import Derived.Test.YthhlnghpbjmfpaaDoorField
import Derived.Test.YthhlnghpbjmfpaaDoorPress
import Derived.Test.YthhlnghpbjmfpaaDoorShelf
import Derived.Test.YthhlnghpbjmfpaaDoorWWords
import Derived.Test.YthhlnghpbjmfpaaDoorWLast
import Derived.Test.YthhlnghpbjmfpaaDoorWTab
import Derived.Test.YthhlnghpbjmfpaaDoorWFour
import Derived.Test.YthhlnghpbjmfpaaDoorWQPut
import Derived.Test.YthhlnghpbjmfpaaDoorWApart
import Derived.Test.YthhlnghpbjmfpaaDoorWArr
import Derived.Test.YthhlnghpbjmfpaaDoorWZeros
import Derived.Test.YthhlnghpbjmfpaaDoorWFoot
import Derived.Test.YthhlnghpbjmfpaaDoorWKept
import Derived.Test.YthhlnghpbjmfpaaDoorWShare
import Derived.Test.YthhlnghpbjmfpaaDoorWN
import Derived.Test.YthhlnghpbjmfpaaDoorWFootNe
import Derived.Test.YthhlnghpbjmfpaaDoorWAt
import Derived.Test.YthhlnghpbjmfpaaDoorWEqStruct
import Derived.Test.YthhlnghpbjmfpaaDoorWRepsOne
import Derived.Test.YthhlnghpbjmfpaaDoorWInv
import Derived.Test.YthhlnghpbjmfpaaDoorWInvWords
import Derived.Test.YthhlnghpbjmfpaaDoorWGuard
import Derived.Test.YthhlnghpbjmfpaaDoorWNEv
import Derived.Test.YthhlnghpbjmfpaaDoorWMore
namespace Go.Proofs.YthhlnghpbjmfpaaDoor.PTryd
attribute [local go_sem] Go.Proofs.YthhlnghpbjmfpaaDoor.Extern.cell_twice
attribute [local go_sem] Go.Proofs.YthhlnghpbjmfpaaDoor.Fields.bits0 Go.Proofs.YthhlnghpbjmfpaaDoor.Fields.bits1 Go.Proofs.YthhlnghpbjmfpaaDoor.Fields.bits2
open Go.Proofs.YthhlnghpbjmfpaaDoor.Press Go.Proofs.YthhlnghpbjmfpaaDoor
open Go.RowKit Go.Proofs.YthhlnghpbjmfpaaDoorW.PrintWords Go.Proofs.YthhlnghpbjmfpaaDoorW.PrintLast Go.Proofs.YthhlnghpbjmfpaaDoorW.PrintMore
attribute [local go_sem] max2_int min2_int max_two min_two max_three min_three max_four min_four   -- for this text's walks alone
set_option linter.unusedVariables false
set_option linter.unusedSimpArgs false



def errW : Option Int → Value
  | none => .nilIface
  | some c => .iface 0 (.int .i64 c)
theorem errW_none : errW none = .nilIface := rfl
theorem errW_some (c : Int) : errW (some c) = .iface 0 (.int .i64 c) := rfl

theorem info5 : (Tryd.prog.info? 5).map (fun i => (i.zero, i.size, i.bytes)) = some (some (.int .u8 0), 1, 1) := by kernel_rfl
-- the values' own types

end Go.Proofs.YthhlnghpbjmfpaaDoor.PTryd
