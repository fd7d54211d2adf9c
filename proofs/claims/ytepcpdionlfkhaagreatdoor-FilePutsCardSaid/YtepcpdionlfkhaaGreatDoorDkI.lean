/- Disks: what the document says of a crash. -/
import Derived.Test.YtepcpdionlfkhaaGreatDoorDkH
namespace Go.Proofs.YtepcpdionlfkhaaGreatDoor
open Go Go.RowKit
set_option maxHeartbeats 1000000
set_option maxRecDepth 100000
set_option linter.unusedVariables false
set_option linter.unusedSimpArgs false
set_option maxHeartbeats 8000000
def newF (n : Int) : DiskS × Int := if decide (n < 0) || decide (65536 < n) then (⟨[], 0, 0, false⟩, 2) else (⟨[], n, -1, false⟩, 0)
theorem new_fun' (n : Int) : Fun Tryz.prog 39 [int n] (.tup [(newF n).1.d, int (newF n).2]) := by
  refine (new_fun n).weaken (fun K v h => ?_)
  by_cases hc : n < 0 ∨ 65536 < n
  · have : newF n = (⟨[], 0, 0, false⟩, 2) := by unfold newF; rw [if_pos (by simpa using hc)]
    rw [if_pos hc] at h
    rw [this]; exact zeroDisk h
  · have : newF n = (⟨[], n, -1, false⟩, 0) := by unfold newF; rw [if_neg (by simpa using hc)]
    rw [if_neg hc] at h
    rw [this]; exact zeroDisk h
theorem small_nil : Small [] := ⟨by simp, by simp⟩
theorem small_one (f : FileD) (h1 : f.name.length ≤ 1000000) (h2 : f.b.length ≤ 1000000) : Small [f] := ⟨by simp, by simp [h1, h2]⟩
end Go.Proofs.YtepcpdionlfkhaaGreatDoor
