/- The reference of layer 10: place, Set, Find, May, Same, Great; great batches. -/
import Derived.Test.YtafipkbffboebaaDoorSqM
namespace Go.Proofs.YtafipkbffboebaaDoor
open Go Go.RowKit
set_option maxHeartbeats 4000000
set_option maxRecDepth 100000
set_option linter.unusedVariables false
set_option linter.unusedSimpArgs false
end Go.Proofs.YtafipkbffboebaaDoor
