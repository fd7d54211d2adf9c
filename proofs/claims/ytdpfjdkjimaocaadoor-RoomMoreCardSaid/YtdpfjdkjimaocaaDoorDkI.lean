/- Disks: what the document says of a crash. -/
import Derived.Test.YtdpfjdkjimaocaaDoorDkH
namespace Go.Proofs.YtdpfjdkjimaocaaDoor
open Go Go.RowKit
set_option maxHeartbeats 1000000
set_option maxRecDepth 100000
set_option linter.unusedVariables false
set_option linter.unusedSimpArgs false
set_option maxHeartbeats 8000000
theorem small_one (f : FileD) (h1 : f.name.length ≤ 1000000) (h2 : f.b.length ≤ 1000000) : Small [f] := ⟨by simp, by simp [h1, h2]⟩
end Go.Proofs.YtdpfjdkjimaocaaDoor
