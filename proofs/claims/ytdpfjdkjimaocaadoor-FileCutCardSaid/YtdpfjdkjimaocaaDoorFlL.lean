/- The document's frames: First, All, Bytes. -/
import Derived.Test.YtdpfjdkjimaocaaDoorFlI
import Derived.Test.YtdpfjdkjimaocaaDoorDkU
namespace Go.Proofs.YtdpfjdkjimaocaaDoor
open Go Go.RowKit
set_option maxHeartbeats 8000000
set_option maxRecDepth 100000
set_option linter.unusedVariables false
set_option linter.unusedSimpArgs false
end Go.Proofs.YtdpfjdkjimaocaaDoor
