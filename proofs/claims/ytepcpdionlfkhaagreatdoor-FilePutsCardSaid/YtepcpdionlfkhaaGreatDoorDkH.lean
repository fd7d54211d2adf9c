/- Disks: Crash, Arm. -/
import Derived.Test.YtepcpdionlfkhaaGreatDoorDkG
namespace Go.Proofs.YtepcpdionlfkhaaGreatDoor
open Go Go.RowKit
set_option maxHeartbeats 1000000
set_option maxRecDepth 100000
set_option linter.unusedVariables false
set_option linter.unusedSimpArgs false
set_option maxHeartbeats 8000000
theorem ok_mem : ∀ {fs : List FileD} {last : List UInt8}, okFiles last fs = true → ∀ f ∈ fs, nameB f.name = true ∧ f.b ≠ [] ∧ 0 ≤ f.sure ∧ f.sure ≤ f.b.length
  | [], _, _, f, hf => by simp at hf
  | g :: fs, last, h, f, hf => by
    simp only [okFiles, Bool.and_eq_true, Bool.not_eq_true', badF, Bool.or_eq_false_iff, decide_eq_false_iff_not, Bool.not_eq_false'] at h
    rcases List.mem_cons.1 hf with rfl | hf
    · obtain ⟨⟨⟨⟨⟨h1, h2⟩, h3⟩, h4⟩, h5⟩, h6⟩ := h
      exact ⟨h1, by simpa using h3, by omega, by omega⟩
    · exact ok_mem h.2 f hf
theorem valid_ok {fs : List FileD} {cap : Int} (h : validB fs cap = true) : okFiles [] fs = true ∧ 0 ≤ cap ∧ cap ≤ 65536 ∧ fs.length ≤ 64 ∧ (usedF fs : Int) ≤ cap := by
  simp only [validB, badTop, Bool.and_eq_true, Bool.not_eq_true', Bool.or_eq_false_iff, decide_eq_false_iff_not] at h
  obtain ⟨⟨⟨⟨h1, h2⟩, h3⟩, h4⟩, h5⟩ := h
  exact ⟨h4, by omega, by omega, by omega, by omega⟩
end Go.Proofs.YtepcpdionlfkhaaGreatDoor
