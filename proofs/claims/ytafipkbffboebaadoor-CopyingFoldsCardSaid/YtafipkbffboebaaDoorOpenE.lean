/- Opening arguments: entries. -/
import Derived.Test.YtafipkbffboebaaDoorOpenT
import Derived.Test.YtafipkbffboebaaDoorEnt
namespace Go.Proofs.YtafipkbffboebaaDoor
open Go Go.RowKit Go.ChangeShapes Go.WideShapes Go.Deep Go.Joins
set_option linter.unusedVariables false
set_option linter.unusedSimpArgs false
end Go.Proofs.YtafipkbffboebaaDoor
