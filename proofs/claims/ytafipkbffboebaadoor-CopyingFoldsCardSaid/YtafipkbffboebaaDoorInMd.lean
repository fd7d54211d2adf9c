/- The abstract machine (InQ, InR, InS). -/
import Derived.Test.YtafipkbffboebaaDoorInMc
import Derived.Test.YtafipkbffboebaaDoorSqJ
import Derived.Test.YtafipkbffboebaaDoorCpD
import Derived.Test.YtafipkbffboebaaDoorMacD
namespace Go.Proofs.YtafipkbffboebaaDoor
open Go Go.RowKit
set_option maxHeartbeats 4000000
set_option maxRecDepth 100000
set_option linter.unusedVariables false
set_option linter.unusedSimpArgs false
end Go.Proofs.YtafipkbffboebaaDoor
namespace Go.Proofs.YtafipkbffboebaaDoor
open Go Go.RowKit
set_option maxHeartbeats 4000000
set_option maxRecDepth 100000
set_option linter.unusedVariables false
set_option linter.unusedSimpArgs false
def rowB (r : RowD) : Bool := r.off == 0 && prodB r.pid 0 && decide (0 ≤ r.seq) && decide (r.seq < 1048576) && decide ((r.key.length : Int) ≤ 16) && decide ((r.value.length : Int) ≤ 16)
def batZ : BatD := ⟨0, 0, 0, false, []⟩
def zE (k : Int) : EntD := ⟨k, batZ, false, 0, 0, rowZ, prodZ⟩
end Go.Proofs.YtafipkbffboebaaDoor
namespace Go.Proofs.YtafipkbffboebaaDoor
open Go Go.RowKit
set_option maxHeartbeats 8000000
set_option maxRecDepth 100000
set_option linter.unusedVariables false
set_option linter.unusedSimpArgs false
def mayI (e : EntD) : Bool :=
  if e.kind = 0 then batB e.b && decide ((⟨0, batZ, e.yes, e.next, e.off, e.row, e.prod⟩ : EntD) = zE 0)
  else if e.kind = 1 then prodB e.b.pid e.b.epoch && decide ((⟨1, ⟨0, 0, e.b.seq, e.b.txn, e.b.recs⟩, false, e.next, e.off, e.row, e.prod⟩ : EntD) = zE 1)
  else if e.kind = 2 then withB e.off 0 1048576 && decide ((⟨2, e.b, e.yes, e.next, 0, e.row, e.prod⟩ : EntD) = zE 2)
  else if e.kind = 3 then e.b.txn && ((!e.yes || withB e.next 0 1048576) && (batB e.b && decide ((⟨3, batZ, false, if e.yes then 0 else e.next, e.off, e.row, e.prod⟩ : EntD) = zE 3)))
  else if e.kind = 4 then !e.yes && (withB e.next 0 1048576 && (prodB e.b.pid e.b.epoch && decide ((⟨4, ⟨0, 0, e.b.seq, e.b.txn, e.b.recs⟩, false, 0, e.off, e.row, e.prod⟩ : EntD) = zE 4)))
  else if e.kind = 5 then rowB e.row && decide ((⟨5, e.b, e.yes, e.next, e.off, rowZ, e.prod⟩ : EntD) = zE 5)
  else knownB e.prod && decide ((⟨6, e.b, e.yes, e.next, e.off, e.row, prodZ⟩ : EntD) = zE 6)
def okKind (e : EntD) : Bool := decide (0 ≤ e.kind) && decide (e.kind < 7) && mayI e
end Go.Proofs.YtafipkbffboebaaDoor
