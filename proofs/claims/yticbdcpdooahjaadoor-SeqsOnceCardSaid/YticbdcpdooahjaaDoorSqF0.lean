/- Take: what it answers. -/
import Derived.Test.YticbdcpdooahjaaDoorSqE
namespace Go.Proofs.YticbdcpdooahjaaDoor
open Go Go.RowKit
set_option maxHeartbeats 4000000
set_option maxRecDepth 100000
set_option linter.unusedVariables false
set_option linter.unusedSimpArgs false
def oldS (l : List ProdD) (b : BatD) : List SeenD := if (findF l b.pid).1.epoch != b.epoch then [] else (findF l b.pid).1.seen
def newS (l : List ProdD) (b : BatD) (base : Int) : List SeenD := (oldS l b ++ [(⟨b.seq, (b.recs.length : Int), base⟩ : SeenD)]).drop ((oldS l b).length - 2)
def takeF (l : List ProdD) (b : BatD) (base : Int) : List ProdD × Int :=
  if decide (base < -1) || decide (1048576 < base) then ([], 2) else
  if (checkF l b).2.2 ≠ 0 then ([], (checkF l b).2.2) else if (checkF l b).2.1 then ([], 101) else
  (setF l ⟨b.pid, b.epoch, behF b, newS l b base⟩, 0)
theorem checkF_may {l : List ProdD} {b : BatD} (h : (checkF l b).2.2 = 0) : mayL l = true ∧ batB b = true := by
  unfold checkF at h
  cases q1 : mayL l <;> cases q2 : batB b <;> simp [q1, q2] at h ⊢
theorem may_known {l : List ProdD} (h : mayL l = true) : ∀ p ∈ l, knownB p = true := by
  intro p hp
  obtain ⟨k, hk, rfl⟩ := List.getElem_of_mem hp
  have := (mayL_all l).1 h k l[k] (List.getElem?_eq_getElem hk)
  simp only [Bool.or_eq_false_iff, Bool.not_eq_false'] at this
  exact this.2
theorem known_seen {p : ProdD} (h : knownB p = true) : p.seen.length ≤ 3 := by
  simp only [knownB, headBad, Bool.and_eq_true, Bool.not_eq_true', Bool.or_eq_false_iff, decide_eq_false_iff_not] at h
  omega
theorem find_seen {l : List ProdD} (h : mayL l = true) (pid : Int) : (findF l pid).1.seen.length ≤ 3 := by
  cases hq : findF l pid with
  | mk p kn => cases kn with
    | true => exact known_seen (may_known h p (findF_mem hq))
    | false => rw [findF_none hq]; simp
end Go.Proofs.YticbdcpdooahjaaDoor
