/- The abstract machine (SqD, SqF, SqG). -/
import Derived.Test.YtpklhnpchhaccaaGreatDoorSqM
import Derived.Test.YtpklhnpchhaccaaGreatDoorSqN
import Derived.Test.YtpklhnpchhaccaaGreatDoorCpMc
namespace Go.Proofs.YtpklhnpchhaccaaGreatDoor
open Go Go.RowKit
set_option maxHeartbeats 4000000
set_option maxRecDepth 100000
set_option linter.unusedVariables false
set_option linter.unusedSimpArgs false


end Go.Proofs.YtpklhnpchhaccaaGreatDoor
