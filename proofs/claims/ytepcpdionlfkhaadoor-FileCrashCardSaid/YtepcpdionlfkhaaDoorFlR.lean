/- FileMends, plain: a disk that is mended. -/
import Derived.Test.YtepcpdionlfkhaaDoorFlP
import Derived.Test.YtepcpdionlfkhaaDoorFlK
import Derived.Test.YtepcpdionlfkhaaDoorDkS
namespace Go.Proofs.YtepcpdionlfkhaaDoor
open Go Go.RowKit
set_option maxHeartbeats 1000000
set_option maxRecDepth 100000
set_option linter.unusedVariables false
set_option linter.unusedSimpArgs false
theorem mendW_zero {fs : List FileD} {nm : List UInt8} (h : tornF (getB fs nm) = 0) : mendW fs nm = [] := by
  unfold mendW; rw [if_neg (by omega)]
/-- What is cut to its whole frames. -/
theorem torn_take (b : List UInt8) : ∃ k : Nat, (b.length : Int) - tornF b = k ∧ k ≤ b.length ∧ b.take k = joinF (lodF b) := by
  obtain ⟨rest, h1, h2, h3⟩ := lod_join b
  have hl : b.length = (joinF (lodF b)).length + rest.length := by rw [← List.length_append, ← h1]
  refine ⟨(joinF (lodF b)).length, by omega, by omega, ?_⟩
  have h5 : b.take (joinF (lodF b)).length = (joinF (lodF b) ++ rest).take (joinF (lodF b)).length := congrArg (List.take _) h1
  rw [h5]
  exact List.take_left' rfl
end Go.Proofs.YtepcpdionlfkhaaDoor
