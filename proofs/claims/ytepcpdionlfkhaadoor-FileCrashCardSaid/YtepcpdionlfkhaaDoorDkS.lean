/- Disks, plain: files by name; two operations on unlike files. -/
import Derived.Test.YtepcpdionlfkhaaDoorDkR
namespace Go.Proofs.YtepcpdionlfkhaaDoor
open Go Go.RowKit
set_option linter.unusedVariables false
set_option linter.unusedSimpArgs false
end Go.Proofs.YtepcpdionlfkhaaDoor
