/- Operations that are not too great. -/
import Derived.Test.YtepcpdionlfkhaaDoorDkQ
namespace Go.Proofs.YtepcpdionlfkhaaDoor
open Go Go.RowKit
set_option maxHeartbeats 4000000
set_option maxRecDepth 100000
set_option linter.unusedVariables false
set_option linter.unusedSimpArgs false
theorem Fun.args {P : Program} {f : FuncId} {as1 as2 : List D} {r : D} (h : Fun P f as1 r) (hl : as2.length = as1.length) (hc : ∀ K vs, RepL K as2 vs → RepL K as1 vs) : Fun P f as2 r :=
  ⟨h.1, fun K w vs hB hk hL => h.2 K w vs hB hk (hc K vs hL)⟩
end Go.Proofs.YtepcpdionlfkhaaDoor
