/- Opening arguments that are lists of texts. -/
import Derived.Test.YtepcpdionlfkhaaGreatDoorOpenDk
namespace Go.Proofs.YtepcpdionlfkhaaGreatDoor
open Go Go.RowKit Go.ChangeShapes Go.WideShapes Go.Deep Go.Joins
set_option linter.unusedVariables false
set_option linter.unusedSimpArgs false
theorem txt_of {ds : List D} (h : IsD .str ds) : ∃ l : List UInt8, ds = [str l] ∧ True := by
  obtain ⟨l, rfl, b⟩ := h
  exact ⟨l, rfl, trivial⟩
end Go.Proofs.YtepcpdionlfkhaaGreatDoor
