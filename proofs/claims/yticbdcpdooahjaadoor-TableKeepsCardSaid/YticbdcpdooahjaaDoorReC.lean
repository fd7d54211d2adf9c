/- Package read: place, from, Clone. -/
import Derived.Test.YticbdcpdooahjaaDoorReB
namespace Go.Proofs.YticbdcpdooahjaaDoor
open Go Go.RowKit
set_option maxHeartbeats 4000000
set_option maxRecDepth 100000
set_option linter.unusedVariables false
set_option linter.unusedSimpArgs false
structure Small (p : PartD) : Prop where
  rows : p.rows.length ≤ 100000
  opens : p.opens.length ≤ 100000
/-- The rows from an offset on. -/
def fromI (p : PartD) (off : Int) : Nat := p.rows.findIdx (fun r => decide (off ≤ r.off))
theorem from_le (p : PartD) (off : Int) : fromI p off ≤ p.rows.length := List.findIdx_le_length
end Go.Proofs.YticbdcpdooahjaaDoor
