/- Opening arguments of the types of package api. -/
import Derived.Test.YtepcpdionlfkhaaDoorOpenG
import Derived.Test.YtepcpdionlfkhaaDoorApi
namespace Go.Proofs.YtepcpdionlfkhaaDoor
open Go Go.RowKit Go.ChangeShapes Go.WideShapes Go.Deep Go.Joins
set_option linter.unusedVariables false
set_option linter.unusedSimpArgs false
def I64 (n : Int) : Prop := -9223372036854775808 ≤ n ∧ n ≤ 9223372036854775807
theorem I64.of {n : Int} (h : (Lit.int .i64 n).wf = true) : I64 n := by
  have h : decide (-9223372036854775808 ≤ n) && decide (n ≤ 9223372036854775807) := h
  simp at h; exact h
end Go.Proofs.YtepcpdionlfkhaaDoor
