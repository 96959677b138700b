/- spec.roGood, spec.IsRootedProblem, (impl.RootedProblem).hasLabels, impl.IsRootedProblem: plain functions, and the walks that show that the program computes them (printed by gen.py). -/
import Derived.Test.YtijaojnaamkinaaGA
namespace Go.Proofs.Ytijaojnaamkinaa
open Go.RowKit
set_option linter.unusedSimpArgs false
set_option linter.unusedVariables false

end Go.Proofs.Ytijaojnaamkinaa
