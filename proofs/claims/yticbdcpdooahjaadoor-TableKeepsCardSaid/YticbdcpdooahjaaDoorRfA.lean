/- The reference of layer 13: Great.., SameRows. -/
import Derived.Test.YticbdcpdooahjaaDoorEqA
namespace Go.Proofs.YticbdcpdooahjaaDoor
open Go Go.RowKit
set_option maxHeartbeats 4000000
set_option maxRecDepth 100000
set_option linter.unusedVariables false
set_option linter.unusedSimpArgs false
def greatRow (r : RowD) : Bool := decide (200 < (r.key.length : Int)) || decide (200 < (r.value.length : Int))
def greatRows (l : List RowD) : Bool := decide (300 < l.length) || l.any greatRow
def greatRec (r : RecD) : Bool := decide (200 < (r.key.length : Int)) || decide (200 < (r.value.length : Int))
def greatBat (b : BatD) : Bool := decide (40 < b.recs.length) || b.recs.any greatRec
def greatBats (l : List BatD) : Bool := decide (40 < l.length) || l.any greatBat
def greatP (p : PartD) : Bool := greatRows p.rows || decide (40 < p.opens.length) || decide (40 < p.prods.length) || p.opens.any (fun o => greatBats o.bats) || p.prods.any (fun q => decide (40 < q.seen.length))
end Go.Proofs.YticbdcpdooahjaaDoor
