/- The reference of layer 7: too great entries. -/
import Derived.Test.YtkmfmphpndhkjaaGreatDoorApA
namespace Go.Proofs.YtkmfmphpndhkjaaGreatDoor
open Go Go.RowKit
set_option maxHeartbeats 8000000
set_option maxRecDepth 100000
set_option linter.unusedVariables false
set_option linter.unusedSimpArgs false
/-! too great? -/
end Go.Proofs.YtkmfmphpndhkjaaGreatDoor
