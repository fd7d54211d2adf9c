/- Opening arguments that are acts. -/
import Derived.Test.YtdpfjdkjimaocaaDoorOpenDk
import Derived.Test.YtdpfjdkjimaocaaDoorDsA
namespace Go.Proofs.YtdpfjdkjimaocaaDoor
open Go Go.RowKit Go.ChangeShapes Go.WideShapes Go.Deep Go.Joins
set_option linter.unusedVariables false
set_option linter.unusedSimpArgs false
abbrev shAct : Sh := .cat shI (.cat shWrite (.cat (.slice shI) shI))
theorem act_of {ds : List D} (h : IsD shAct ds) : ∃ x : ActD, ds = x.dv ∧ x.n ≤ 9223372036854775807 := by
  obtain ⟨_, _, rfl, ⟨n1, rfl, w1⟩, _, _, rfl, hw, _, _, rfl, ⟨xs, rfl, hl, hx⟩, ⟨n2, rfl, w2⟩⟩ := h
  obtain ⟨w, rfl, _⟩ := write_of hw
  obtain ⟨l, rfl, hk⟩ := all_dv (dv := fun n => [int n]) (fun ds h => int_of h) xs hx
  exact ⟨⟨n1, w, l, n2⟩, rfl, i64_le w2⟩
end Go.Proofs.YtdpfjdkjimaocaaDoor
