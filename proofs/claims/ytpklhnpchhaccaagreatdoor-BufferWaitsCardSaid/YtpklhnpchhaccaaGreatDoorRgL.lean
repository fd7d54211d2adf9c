/- Layer 12's statements: InlineTurns. -/
import Derived.Test.YtpklhnpchhaccaaGreatDoorRgN
import Derived.Test.YtpklhnpchhaccaaGreatDoorPlM
import Derived.Test.YtpklhnpchhaccaaGreatDoorMpQ
namespace Go.Proofs.YtpklhnpchhaccaaGreatDoor
open Go Go.RowKit
set_option maxHeartbeats 8000000
set_option maxRecDepth 100000
set_option linter.unusedVariables false
set_option linter.unusedSimpArgs false
end Go.Proofs.YtpklhnpchhaccaaGreatDoor
