/- The abstract machine (CpE, CpF). -/
import Derived.Test.YtkmfmphpndhkjaaGreatDoorCpMa
namespace Go.Proofs.YtkmfmphpndhkjaaGreatDoor
open Go Go.RowKit
set_option maxHeartbeats 8000000
set_option maxRecDepth 100000
set_option linter.unusedVariables false
set_option linter.unusedSimpArgs false

end Go.Proofs.YtkmfmphpndhkjaaGreatDoor
