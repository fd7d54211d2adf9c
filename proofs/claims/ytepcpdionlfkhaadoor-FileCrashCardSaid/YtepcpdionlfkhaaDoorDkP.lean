/- Disks, plain: the order of names, finding a file, a disk with a file put. -/
import Derived.Test.YtepcpdionlfkhaaDoorDkI
namespace Go.Proofs.YtepcpdionlfkhaaDoor
open Go Go.RowKit
set_option linter.unusedVariables false
set_option linter.unusedSimpArgs false
end Go.Proofs.YtepcpdionlfkhaaDoor
