/- Opening arguments: entries. -/
import Derived.Test.YtafipkbffboebaaDoorOpenT
import Derived.Test.YtafipkbffboebaaDoorEnt
namespace Go.Proofs.YtafipkbffboebaaDoor
open Go Go.RowKit Go.ChangeShapes Go.WideShapes Go.Deep Go.Joins
set_option linter.unusedVariables false
set_option linter.unusedSimpArgs false
abbrev shEnt : Sh := .cat (.int .i8) (.cat shBat (.cat .bool (.cat shI (.cat shI (.cat shRow shProd)))))
theorem i8_inE {n : Int} (h : (Lit.int .i8 n).wf = true) : -128 ≤ n ∧ n ≤ 127 := by
  have h' : (decide (IntKind.i8.min ≤ n) && decide (n ≤ IntKind.i8.max)) = true := h
  have e1 : IntKind.i8.max = 127 := by decide +kernel
  have e2 : IntKind.i8.min = -128 := by decide +kernel
  rw [e1, e2, Bool.and_eq_true, decide_eq_true_eq, decide_eq_true_eq] at h'
  exact h'
theorem ent_of {ds : List D} (h : IsD shEnt ds) : ∃ e : EntD, ds = e.dv ∧ (-128 ≤ e.kind ∧ e.kind ≤ 127) := by
  obtain ⟨_, _, rfl, ⟨k, rfl, wk⟩, _, _, rfl, hb, _, _, rfl, ⟨y, rfl⟩, _, _, rfl, ⟨n1, rfl, _⟩, _, _, rfl, ⟨n2, rfl, _⟩, _, _, rfl, hr, hp⟩ := h
  obtain ⟨b, rfl, _⟩ := bat_of hb
  obtain ⟨r, rfl, _⟩ := row_of hr
  obtain ⟨p, rfl, _⟩ := prod_of hp
  exact ⟨⟨k, b, y, n1, n2, r, p⟩, rfl, i8_inE wk⟩
end Go.Proofs.YtafipkbffboebaaDoor
