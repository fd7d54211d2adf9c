/- Disks, plain: what is done to a disk that may be leaves one that may be. -/
import Derived.Test.YtepcpdionlfkhaaDoorDkP
namespace Go.Proofs.YtepcpdionlfkhaaDoor
open Go Go.RowKit
set_option linter.unusedVariables false
set_option linter.unusedSimpArgs false
theorem mem_used {fs : List FileD} : ∀ f ∈ fs, f.b.length ≤ usedF fs := by
  induction fs with
  | nil => intro f hf; simp at hf
  | cons g fs ih =>
    intro f hf
    have e : usedF (g :: fs) = g.b.length + usedF fs := by simp only [usedF, List.map_cons, List.sum_cons]
    rcases List.mem_cons.1 hf with rfl | hf
    · omega
    · have := ih f hf; omega
theorem valid_small {fs : List FileD} {cap : Int} (h : validB fs cap = true) : Small fs := by
  obtain ⟨h1, h2, h3, h4, h5⟩ := valid_ok h
  refine ⟨by omega, fun f hf => ?_⟩
  have a := mem_used f hf
  have b := (ok_mem h1 f hf).1
  simp only [nameB, Bool.and_eq_true, decide_eq_true_eq] at b
  omega
end Go.Proofs.YtepcpdionlfkhaaDoor
