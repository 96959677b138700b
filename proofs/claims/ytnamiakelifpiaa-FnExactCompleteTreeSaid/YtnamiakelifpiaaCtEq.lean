/- The plain law: both CompleteTree functions compute the same. -/
import Derived.Test.YtnamiakelifpiaaCt
namespace Go.Proofs.Ytnamiakelifpiaa
open Go.RowKit

theorem ct_small : ∀ d ∈ List.range 201, ∀ c ∈ [1, 2, 3], ctGo c d [-1] 0 = ciGo c d 1000 0 [-1] [0] := by decide +kernel
end Go.Proofs.Ytnamiakelifpiaa
