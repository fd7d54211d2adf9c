/- Package table: Join. The reference's parts that can be read. -/
import Derived.Test.YticbdcpdooahjaaDoorTbD
namespace Go.Proofs.YticbdcpdooahjaaDoor
open Go Go.RowKit
set_option maxHeartbeats 4000000
set_option maxRecDepth 100000
set_option linter.unusedVariables false
set_option linter.unusedSimpArgs false
def prevOf {α : Type} (l : List α) (k : Nat) : Option α := if k = 0 then none else l[k - 1]?
end Go.Proofs.YticbdcpdooahjaaDoor
