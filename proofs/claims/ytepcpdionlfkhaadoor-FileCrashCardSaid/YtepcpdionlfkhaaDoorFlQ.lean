/- FileCut. -/
import Derived.Test.YtepcpdionlfkhaaDoorFlP
import Derived.Test.YtepcpdionlfkhaaDoorFlN
import Derived.Test.YtepcpdionlfkhaaDoorFlO
namespace Go.Proofs.YtepcpdionlfkhaaDoor
open Go Go.RowKit
set_option maxHeartbeats 8000000
set_option maxRecDepth 100000
set_option linter.unusedVariables false
set_option linter.unusedSimpArgs false
abbrev nwS : DiskS := ⟨[], 65536, -1, false⟩
abbrev oneS (x : List UInt8) (sure : Int) : DiskS := ⟨[⟨[97], x, sure⟩], 65536, -1, false⟩
theorem nw_new : newF 65536 = (nwS, 0) := by rfl
theorem get_one (x : List UInt8) (n : Int) : getB [⟨[97], x, n⟩] [97] = x := rfl
end Go.Proofs.YtepcpdionlfkhaaDoor
