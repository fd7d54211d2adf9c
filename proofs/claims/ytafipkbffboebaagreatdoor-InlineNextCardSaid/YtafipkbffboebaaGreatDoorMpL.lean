/- The machine: an empty literal to which a list is appended begins a row of one's own that may be written. -/
import Derived.Test.YtafipkbffboebaaGreatDoorMpK
namespace Go.Proofs.YtafipkbffboebaaGreatDoor
open Go Go.RowKit
set_option linter.unusedVariables false
set_option linter.unusedSimpArgs false
set_option maxHeartbeats 2000000
end Go.Proofs.YtafipkbffboebaaGreatDoor
