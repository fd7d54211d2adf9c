/- The reference's Check of parts; its Check, To, Back, Join, Same, Great, Make of tables. -/
import Derived.Test.YticbdcpdooahjaaDoorTbE
namespace Go.Proofs.YticbdcpdooahjaaDoor
open Go Go.RowKit
set_option maxHeartbeats 4000000
set_option maxRecDepth 100000
set_option linter.unusedVariables false
set_option linter.unusedSimpArgs false
end Go.Proofs.YticbdcpdooahjaaDoor
