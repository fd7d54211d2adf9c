/- Opening arguments that are tables. -/
import Derived.Test.YticbdcpdooahjaaDoorOpenT
import Derived.Test.YticbdcpdooahjaaDoorTbB
namespace Go.Proofs.YticbdcpdooahjaaDoor
open Go Go.RowKit Go.ChangeShapes Go.WideShapes Go.Deep Go.Joins
set_option linter.unusedVariables false
set_option linter.unusedSimpArgs false
abbrev shTab : Sh := .cat shI (.cat shI (.slice shI))
theorem tab_of {ds : List D} (h : IsD shTab ds) : ∃ t : TabD, ds = t.dv ∧ t.Fits := by
  obtain ⟨_, _, rfl, ⟨n1, rfl, b1⟩, ⟨_, _, rfl, ⟨n2, rfl, b2⟩, ⟨xs, rfl, hl, hx⟩⟩⟩ := h
  obtain ⟨l, rfl, hk⟩ := all_dv (dv := fun n => [int n]) (fun ds h => int_of h) xs hx
  exact ⟨⟨n1, n2, l⟩, rfl, ⟨by simpa using hl, I64.of b1, I64.of b2⟩⟩
end Go.Proofs.YticbdcpdooahjaaDoor
