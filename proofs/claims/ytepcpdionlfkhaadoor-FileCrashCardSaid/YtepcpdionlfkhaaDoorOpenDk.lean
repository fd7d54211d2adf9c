/- Opening arguments that are disks and operations. -/
import Derived.Test.YtepcpdionlfkhaaDoorOpenT
import Derived.Test.YtepcpdionlfkhaaDoorDkC
import Derived.Test.YtepcpdionlfkhaaDoorDkL0
namespace Go.Proofs.YtepcpdionlfkhaaDoor
open Go Go.RowKit Go.ChangeShapes Go.WideShapes Go.Deep Go.Joins
set_option linter.unusedVariables false
set_option linter.unusedSimpArgs false
structure DkA where
  fs : List FileD
  cap : Int
  left : Int
  down : Bool
def DkA.dv (d : DkA) : List D := [.lst 3 (d.fs.map FileD.dv), int d.cap, int d.left, boo d.down]
end Go.Proofs.YtepcpdionlfkhaaDoor
