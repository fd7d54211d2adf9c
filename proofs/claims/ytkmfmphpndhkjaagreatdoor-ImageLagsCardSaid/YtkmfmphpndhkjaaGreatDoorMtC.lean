/- Package meta: Same;equality of arrays. -/
import Derived.Test.YtkmfmphpndhkjaaGreatDoorMtM
namespace Go.Proofs.YtkmfmphpndhkjaaGreatDoor
open Go Go.RowKit
set_option maxHeartbeats 8000000
set_option maxRecDepth 100000
set_option linter.unusedVariables false
set_option linter.unusedSimpArgs false
section
variable {P:Program} {d:Nat} {t:TypeId}
end
end Go.Proofs.YtkmfmphpndhkjaaGreatDoor
