/- Package read: place, from, Clone. -/
import Derived.Test.YticbdcpdooahjaaDoorReB
namespace Go.Proofs.YticbdcpdooahjaaDoor
open Go Go.RowKit
set_option maxHeartbeats 4000000
set_option maxRecDepth 100000
set_option linter.unusedVariables false
set_option linter.unusedSimpArgs false
abbrev placeTxt : D := str [97, 32, 112, 108, 97, 99, 101]
def inB (p : PartD) (off : Int) : Bool := !(decide (off < p.start) || decide (p.fin < off))
def placeD (p : PartD) (off : Int) : D := if partB p then (if inB p off then .val .nilIface else err_read placeTxt 130) else err_read partTxt 2
structure Small (p : PartD) : Prop where
  rows : p.rows.length ≤ 100000
  opens : p.opens.length ≤ 100000
/-- The rows from an offset on. -/
def fromI (p : PartD) (off : Int) : Nat := p.rows.findIdx (fun r => decide (off ≤ r.off))
theorem ris_get : ∀ (l : List Int), risB l = true → ∀ (i j : Nat) (hj : j < l.length) (hij : i < j), l[i] < l[j]
  | [], _, i, j, hj, _ => by simp at hj
  | [a], _, i, j, hj, hij => by simp at hj; omega
  | a :: b :: l, h, i, j, hj, hij => by
    simp only [risB, Bool.and_eq_true, decide_eq_true_eq] at h
    match j, i with
    | j + 1, 0 =>
      rcases Nat.eq_zero_or_pos j with h0 | h0
      · subst h0; exact h.1
      · have := ris_get (b :: l) h.2 0 j (by simpa using hj) h0
        simp only [List.getElem_cons_zero, List.getElem_cons_succ] at this ⊢
        omega
    | j + 1, i + 1 => 
      have := ris_get (b :: l) h.2 i j (by simpa using hj) (by omega)
      simpa using this
theorem from_le (p : PartD) (off : Int) : fromI p off ≤ p.rows.length := List.findIdx_le_length
theorem from_ge {p : PartD} (h : risB (p.rows.map (·.off)) = true) (off : Int) (k : Nat) (hk : k < p.rows.length) : decide (off ≤ p.rows[k].off) = decide (fromI p off ≤ k) := by
  rcases Nat.lt_or_ge k (fromI p off) with h1 | h1
  · have := List.not_of_lt_findIdx h1
    have e : decide (fromI p off ≤ k) = false := decide_eq_false (by omega)
    rw [e]
    simpa using this
  · have hlt : fromI p off < p.rows.length := by omega
    have h2 : decide (off ≤ (p.rows[fromI p off]).off) = true := List.findIdx_getElem (p := fun r : RowD => decide (off ≤ r.off)) (xs := p.rows) (w := hlt)
    have e : decide (fromI p off ≤ k) = true := decide_eq_true h1
    rw [e]
    simp only [decide_eq_true_eq] at h2 ⊢
    rcases Nat.lt_or_ge (fromI p off) k with h3 | h3
    · have := ris_get _ h (fromI p off) k (by simpa using hk) h3
      simp only [List.getElem_map] at this
      omega
    · obtain rfl : k = fromI p off := by omega
      exact h2
end Go.Proofs.YticbdcpdooahjaaDoor
