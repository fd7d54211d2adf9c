/- Opening arguments that are lists of texts. -/
import Derived.Test.YtepcpdionlfkhaaDoorOpenDk
namespace Go.Proofs.YtepcpdionlfkhaaDoor
open Go Go.RowKit Go.ChangeShapes Go.WideShapes Go.Deep Go.Joins
set_option linter.unusedVariables false
set_option linter.unusedSimpArgs false
end Go.Proofs.YtepcpdionlfkhaaDoor
