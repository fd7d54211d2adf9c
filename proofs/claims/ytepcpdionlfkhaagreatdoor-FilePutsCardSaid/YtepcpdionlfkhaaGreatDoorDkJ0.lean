/- A disk that is not great is small. -/
import Derived.Test.YtepcpdionlfkhaaGreatDoorDkP
namespace Go.Proofs.YtepcpdionlfkhaaGreatDoor
open Go Go.RowKit
set_option maxHeartbeats 4000000
set_option maxRecDepth 100000
set_option linter.unusedVariables false
set_option linter.unusedSimpArgs false
theorem great_small {fs : List FileD} (h : greatD fs = false) : Small fs ∧ ∀ f ∈ fs, f.b.length ≤ 131072 ∧ f.name.length ≤ 100 := by
  simp only [greatD, Bool.or_eq_false_iff, decide_eq_false_iff_not] at h
  have h2 : ∀ f ∈ fs, f.b.length ≤ 131072 ∧ f.name.length ≤ 100 := by
    intro f hf
    have h3 := List.any_eq_false.1 h.2 f hf
    simp only [greatF, Bool.or_eq_true, decide_eq_true_eq, not_or] at h3
    omega
  exact ⟨⟨by omega, fun f hf => by have := h2 f hf; omega⟩, h2⟩
end Go.Proofs.YtepcpdionlfkhaaGreatDoor
