/- Disks, plain: what is done to a disk that may be leaves one that may be. -/
import Derived.Test.YtdpfjdkjimaocaaDoorDkP
namespace Go.Proofs.YtdpfjdkjimaocaaDoor
open Go Go.RowKit
set_option linter.unusedVariables false
set_option linter.unusedSimpArgs false
end Go.Proofs.YtdpfjdkjimaocaaDoor
