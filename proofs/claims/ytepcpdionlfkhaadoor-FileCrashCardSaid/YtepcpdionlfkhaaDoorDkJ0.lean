/- A disk that is not great is small. -/
import Derived.Test.YtepcpdionlfkhaaDoorDkP
namespace Go.Proofs.YtepcpdionlfkhaaDoor
open Go Go.RowKit
set_option maxHeartbeats 4000000
set_option maxRecDepth 100000
set_option linter.unusedVariables false
set_option linter.unusedSimpArgs false
end Go.Proofs.YtepcpdionlfkhaaDoor
