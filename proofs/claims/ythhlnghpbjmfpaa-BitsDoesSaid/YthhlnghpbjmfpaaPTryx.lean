-- written by wip/pr.py for this claim: functions' plain forms and walks
import Derived.Test.YthhlnghpbjmfpaaPTryx0
import Derived.Test.YthhlnghpbjmfpaaPTryx1
import Derived.Test.YthhlnghpbjmfpaaPTryx2
import Derived.Test.YthhlnghpbjmfpaaPTryx3
import Derived.Test.YthhlnghpbjmfpaaPTryx4
import Derived.Test.YthhlnghpbjmfpaaPTryx5
import Derived.Test.YthhlnghpbjmfpaaPTryx6
import Derived.Test.YthhlnghpbjmfpaaPTryx7
import Derived.Test.YthhlnghpbjmfpaaPTryx8
import Derived.Test.YthhlnghpbjmfpaaPTryx9
import Derived.Test.YthhlnghpbjmfpaaPTryx10
import Derived.Test.YthhlnghpbjmfpaaPTryx11
namespace Go.Proofs.Ythhlnghpbjmfpaa.PTry
attribute [local go_sem] Go.Proofs.Ythhlnghpbjmfpaa.Extern.cell_twice
open Go.RowKit Go.Proofs.YthhlnghpbjmfpaaW.PrintWords Go.Proofs.YthhlnghpbjmfpaaW.PrintLast Go.Proofs.YthhlnghpbjmfpaaW.PrintMore
attribute [local go_sem] max2_int min2_int max_two min_two max_three min_three max_four min_four   -- for this text's walks alone
set_option linter.unusedVariables false
set_option linter.unusedSimpArgs false

end Go.Proofs.Ythhlnghpbjmfpaa.PTry
