/- Package table: tables as plain data, and what its functions answer. -/
import Derived.Test.YticbdcpdooahjaaDoorReD
namespace Go.Proofs.YticbdcpdooahjaaDoor
open Go Go.RowKit
set_option maxHeartbeats 4000000
set_option maxRecDepth 100000
set_option linter.unusedVariables false
set_option linter.unusedSimpArgs false
structure TabD where
  start : Int
  fin : Int
  news : List Int
abbrev intsT (l : List Int) : D := .lst 1 (l.map fun n => [int n])
def TabD.dv (t : TabD) : List D := [int t.start, int t.fin, .lst 1 (t.news.map fun n => [int n])]
def tabZ : TabD := ⟨0, 0, []⟩
def upB : Int → List Int → Bool
  | _, [] => true
  | m, n :: l => !(decide (n < m) || decide (1048576 < n)) && upB n l
def tabBad (t : TabD) : Bool := decide (t.start < 0) || decide (t.fin < t.start) || decide (1048576 < t.fin)
def tabLen (t : TabD) : Bool := (t.news.length : Int) == t.fin - t.start + 1
/-- A table that is valid. -/
def tabB (t : TabD) : Bool := !tabBad t && tabLen t && upB 0 t.news
theorem upB_take : ∀ (m : Int) (l : List Int) (k : Nat), upB m l = true → upB m (l.take k) = true
  | _, [], k, _ => by simp [upB]
  | m, n :: l, 0, _ => by simp [upB]
  | m, n :: l, k + 1, h => by
    simp only [upB, Bool.and_eq_true, List.take_succ_cons] at h ⊢
    exact ⟨h.1, upB_take n l k h.2⟩
theorem upB_get : ∀ (m : Int) (l : List Int), upB m l = true → ∀ (i : Nat) (hi : i < l.length), m ≤ l[i] ∧ l[i] ≤ 1048576
  | m, n :: l, h, 0, hi => by
    simp only [upB, Bool.and_eq_true, Bool.not_eq_true', Bool.or_eq_false_iff, decide_eq_false_iff_not] at h
    simp only [List.getElem_cons_zero]; omega
  | m, n :: l, h, i + 1, hi => by
    simp only [upB, Bool.and_eq_true, Bool.not_eq_true', Bool.or_eq_false_iff, decide_eq_false_iff_not] at h
    have := upB_get n l h.2 i (by simpa using hi)
    simp only [List.getElem_cons_succ]; omega
theorem upB_mono : ∀ (m : Int) (l : List Int), upB m l = true → ∀ (i j : Nat) (hj : j < l.length) (hij : i ≤ j), l[i] ≤ l[j]
  | m, n :: l, h, 0, 0, hj, _ => Int.le_refl _
  | m, n :: l, h, 0, j + 1, hj, hij => by
    simp only [upB, Bool.and_eq_true] at h
    have := upB_get n l h.2 j (by simpa using hj)
    simp only [List.getElem_cons_zero, List.getElem_cons_succ]; omega
  | m, n :: l, h, i + 1, j + 1, hj, hij => by
    simp only [upB, Bool.and_eq_true] at h
    have := upB_mono n l h.2 i j (by simpa using hj) (by omega)
    simpa using this
theorem upB_of : ∀ (m : Int) (l : List Int), (∀ (i : Nat) (hi : i < l.length), m ≤ l[i] ∧ l[i] ≤ 1048576) → (∀ (i : Nat) (hi : i + 1 < l.length), l[i] ≤ l[i + 1]) → upB m l = true
  | _, [], _, _ => rfl
  | m, n :: l, h, hs => by
    have h0 := h 0 (by simp)
    simp only [List.getElem_cons_zero] at h0
    simp only [upB, Bool.and_eq_true, Bool.not_eq_true', Bool.or_eq_false_iff, decide_eq_false_iff_not]
    refine ⟨by omega, upB_of n l (fun i hi => ?_) (fun i hi => by have := hs (i + 1) (by simpa using hi); simpa using this)⟩
    have h1 := h (i + 1) (by simpa using hi)
    simp only [List.getElem_cons_succ] at h1
    refine ⟨?_, h1.2⟩
    have key : ∀ (k : Nat) (hk : k < (n :: l).length), n ≤ (n :: l)[k] := by
      intro k
      induction k with
      | zero => intro _; exact Int.le_refl _
      | succ k ih => intro hk; have := ih (by omega); have := hs k hk; omega
    have := key (i + 1) (by simpa using hi)
    simpa using this
theorem tab_range {t : TabD} (h : tabB t = true) : 0 ≤ t.start ∧ t.start ≤ t.fin ∧ t.fin ≤ 1048576 ∧ (t.news.length : Int) = t.fin - t.start + 1 ∧ upB 0 t.news = true := by
  simp only [tabB, tabBad, tabLen, Bool.and_eq_true, Bool.not_eq_true', Bool.or_eq_false_iff, decide_eq_false_iff_not, beq_iff_eq] at h
  refine ⟨?_, ?_, ?_, h.1.2, h.2⟩ <;> omega
/-- The new offset of an old one, in the table from old to fresh. -/
def newAt (old fresh : PartD) (n : Int) : Int := match fresh.rows[fromI old n]? with
  | some r => r.off
  | none => fresh.fin
def newsF (old fresh : PartD) (k : Nat) : List Int := (List.range k).map fun i : Nat => newAt old fresh (old.start + (i : Int))
def matchB (old fresh : PartD) : Bool := partB old && partB fresh && old.rows.length == fresh.rows.length
def tabOf (old fresh : PartD) : TabD := ⟨old.start, old.fin, newsF old fresh (old.fin - old.start + 1).toNat⟩
def makeF (old fresh : PartD) : TabD × Int := if matchB old fresh then (tabOf old fresh, 0) else (tabZ, 2)
def toF (t : TabD) (off : Int) : Int × Int :=
  if !tabB t then (0, 2) else if off == -1 then (-1, 0) else if decide (off < -1) || decide (t.fin < off) then (0, 130) else (t.news.getD (off - t.start).toNat 0, 0)
def aboveI (t : TabD) (off : Int) : Nat := t.news.findIdx fun n => decide (off < n)
def backF (t : TabD) (off : Int) : Int × Bool :=
  if !tabB t then (0, false) else if aboveI t off = 0 then (0, false) else if t.news.getD (aboveI t off - 1) 0 == off then (t.start + (aboveI t off - 1 : Nat), true) else (0, false)
theorem newsF_len (old fresh : PartD) (k : Nat) : (newsF old fresh k).length = k := by simp [newsF]
theorem newsF_succ (old fresh : PartD) (k : Nat) : newsF old fresh (k + 1) = newsF old fresh k ++ [newAt old fresh (old.start + k)] := by
  simp [newsF, List.range_succ]
theorem match_of {old fresh : PartD} (h : matchB old fresh = true) : partB old = true ∧ partB fresh = true ∧ old.rows.length = fresh.rows.length := by
  simp only [matchB, Bool.and_eq_true, beq_iff_eq] at h
  exact ⟨h.1.1, h.1.2, h.2⟩
/-! the laws -/
theorem above_le (t : TabD) (off : Int) : aboveI t off ≤ t.news.length := List.findIdx_le_length
theorem below_above {t : TabD} {off : Int} {k : Nat} (hk : k < aboveI t off) (hl : k < t.news.length) : t.news[k] ≤ off := by
  have := List.not_of_lt_findIdx hk
  simp at this
  omega
end Go.Proofs.YticbdcpdooahjaaDoor
