/- The document's frames: First, All, Bytes. -/
import Derived.Test.YtepcpdionlfkhaaDoorFlI
import Derived.Test.YtepcpdionlfkhaaDoorDkU
namespace Go.Proofs.YtepcpdionlfkhaaDoor
open Go Go.RowKit
set_option maxHeartbeats 8000000
set_option maxRecDepth 100000
set_option linter.unusedVariables false
set_option linter.unusedSimpArgs false
end Go.Proofs.YtepcpdionlfkhaaDoor
