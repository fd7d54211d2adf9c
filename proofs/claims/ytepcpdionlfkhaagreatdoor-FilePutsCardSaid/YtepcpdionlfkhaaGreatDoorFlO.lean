/- FileLoads: the walk. -/
import Derived.Test.YtepcpdionlfkhaaGreatDoorFlN
import Derived.Test.YtepcpdionlfkhaaGreatDoorDkJ0
namespace Go.Proofs.YtepcpdionlfkhaaGreatDoor
open Go Go.RowKit
set_option maxHeartbeats 8000000
set_option maxRecDepth 100000
set_option linter.unusedVariables false
set_option linter.unusedSimpArgs false
theorem great5_mem {l : List (List UInt8)} (h : great5 l = false) : ∀ s ∈ l, s.length ≤ 3000 := fun s hs => by
  unfold great5 at h
  rw [List.any_eq_false] at h
  have := h s hs
  simpa using this
theorem bytesF_len {ls : List (List UInt8)} {n : Nat} (h : ls.length ≤ n) : (bytesF ls).length ≤ n * 1028 := by
  unfold bytesF
  split
  · rename_i hk
    have h1 := joinF_len (ls.take (goodN ls)) (good_take (Nat.le_refl _))
    rw [hk, List.take_length] at h1
    omega
  · simp
end Go.Proofs.YtepcpdionlfkhaaGreatDoor
