/- Opening arguments: entries. -/
import Derived.Test.YtijnajohkljonaaDoorOpenT
import Derived.Test.YtijnajohkljonaaDoorEnt
namespace Go.Proofs.YtijnajohkljonaaDoor
open Go Go.RowKit Go.ChangeShapes Go.WideShapes Go.Deep Go.Joins
set_option linter.unusedVariables false
set_option linter.unusedSimpArgs false
abbrev shEnt : Sh := .cat (.int .i8) (.cat shBat (.cat .bool (.cat shI (.cat shI (.cat shRow shProd)))))
theorem ent_of {ds : List D} (h : IsD shEnt ds) : ∃ e : EntD, ds = e.dv ∧ True := by
  obtain ⟨_, _, rfl, ⟨k, rfl, _⟩, _, _, rfl, hb, _, _, rfl, ⟨y, rfl⟩, _, _, rfl, ⟨n1, rfl, _⟩, _, _, rfl, ⟨n2, rfl, _⟩, _, _, rfl, hr, hp⟩ := h
  obtain ⟨b, rfl, _⟩ := bat_of hb
  obtain ⟨r, rfl, _⟩ := row_of hr
  obtain ⟨p, rfl, _⟩ := prod_of hp
  exact ⟨⟨k, b, y, n1, n2, r, p⟩, rfl, trivial⟩
end Go.Proofs.YtijnajohkljonaaDoor
