/- Disks: Crash, Arm. -/
import Derived.Test.YtdpfjdkjimaocaaDoorDkG
namespace Go.Proofs.YtdpfjdkjimaocaaDoor
open Go Go.RowKit
set_option maxHeartbeats 1000000
set_option maxRecDepth 100000
set_option linter.unusedVariables false
set_option linter.unusedSimpArgs false
set_option maxHeartbeats 8000000
end Go.Proofs.YtdpfjdkjimaocaaDoor
