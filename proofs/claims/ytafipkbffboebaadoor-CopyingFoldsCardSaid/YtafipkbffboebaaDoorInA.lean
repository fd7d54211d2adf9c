/- Package inline: reach, open, fits, impossible. -/
import Derived.Test.YtafipkbffboebaaDoorEnt
import Derived.Test.YtafipkbffboebaaDoorErIn
namespace Go.Proofs.YtafipkbffboebaaDoor
open Go Go.RowKit
set_option maxHeartbeats 4000000
set_option maxRecDepth 100000
set_option linter.unusedVariables false
set_option linter.unusedSimpArgs false
/-- Where a producer's open transaction stands, or would; is there one? -/
def openI (l : List OpenD) (pid : Int) : Nat := l.findIdx (fun x => decide (pid ≤ x.pid))
def openB (l : List OpenD) (pid : Int) : Bool := match l[openI l pid]? with
  | some o => o.pid == pid
  | none => false
theorem openI_le (l : List OpenD) (pid : Int) : openI l pid ≤ l.length := List.findIdx_le_length
end Go.Proofs.YtafipkbffboebaaDoor
