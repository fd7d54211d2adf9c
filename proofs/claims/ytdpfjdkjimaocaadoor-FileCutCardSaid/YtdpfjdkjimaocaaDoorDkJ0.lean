/- A disk that is not great is small. -/
import Derived.Test.YtdpfjdkjimaocaaDoorDkP
namespace Go.Proofs.YtdpfjdkjimaocaaDoor
open Go Go.RowKit
set_option maxHeartbeats 4000000
set_option maxRecDepth 100000
set_option linter.unusedVariables false
set_option linter.unusedSimpArgs false
end Go.Proofs.YtdpfjdkjimaocaaDoor
