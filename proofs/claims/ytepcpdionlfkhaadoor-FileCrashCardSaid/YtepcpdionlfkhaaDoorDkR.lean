/- Disks: equality of files; slices.Equal, Same. -/
import Derived.Test.YtepcpdionlfkhaaDoorDkQ
namespace Go.Proofs.YtepcpdionlfkhaaDoor
open Go Go.RowKit
set_option maxHeartbeats 4000000
set_option maxRecDepth 100000
set_option linter.unusedVariables false
set_option linter.unusedSimpArgs false
instance : DecidableEq FileD := fun a b => decidable_of_iff (a.name = b.name ∧ a.b = b.b ∧ a.sure = b.sure) (by cases a; cases b; simp)
end Go.Proofs.YtepcpdionlfkhaaDoor
