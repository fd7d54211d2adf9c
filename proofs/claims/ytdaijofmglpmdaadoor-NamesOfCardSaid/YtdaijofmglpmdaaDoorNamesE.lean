/- The names' contracts and the disks' together. -/
import Derived.Test.YtdaijofmglpmdaaDoorNamesD
import Derived.Test.YtdaijofmglpmdaaDoorDiskA
import Derived.Maps.AppendAt
