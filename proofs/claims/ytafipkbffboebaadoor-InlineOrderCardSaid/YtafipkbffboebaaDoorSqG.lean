/- Layer 10's statements: great, wakes; the reference's Take. -/
import Derived.Test.YtafipkbffboebaaDoorSqF
namespace Go.Proofs.YtafipkbffboebaaDoor
open Go Go.RowKit
set_option maxHeartbeats 4000000
set_option maxRecDepth 100000
set_option linter.unusedVariables false
set_option linter.unusedSimpArgs false
end Go.Proofs.YtafipkbffboebaaDoor
