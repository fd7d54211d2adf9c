/- The reference of disks: Name, New, Used, Get, may. -/
import Derived.Test.YtepcpdionlfkhaaDoorDkR
namespace Go.Proofs.YtepcpdionlfkhaaDoor
open Go Go.RowKit
set_option maxHeartbeats 4000000
set_option maxRecDepth 100000
set_option linter.unusedVariables false
set_option linter.unusedSimpArgs false
end Go.Proofs.YtepcpdionlfkhaaDoor
