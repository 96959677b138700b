/- slices.Values, Collect and Sorted on a list of integers. -/
import Derived.Test.YtijaojnaamkinaaSort
import Derived.Test.YtijaojnaamkinaaLay
import Derived.Shelf.SlIterI.Collect
import Derived.Shelf.SlIterI.Sorted
import Derived.RangeFuncKeeps
import Derived.OwnWalkIn
import Derived.TacticsInMore
import Derived.LoopNIn
import Derived.LoopIn
import Derived.Deep.LoopGhost
namespace Go.Proofs.Ytijaojnaamkinaa
open Go.RowKit Go.Sort Go.Shelf
set_option linter.unusedSimpArgs false
set_option linter.unusedVariables false
end Go.Proofs.Ytijaojnaamkinaa
