/- Layer 13's statements: some, wakes; plain facts. -/
import Derived.Test.YticbdcpdooahjaaDoorReD
import Derived.Test.YticbdcpdooahjaaDoorRfA
namespace Go.Proofs.YticbdcpdooahjaaDoor
open Go Go.RowKit
set_option maxHeartbeats 4000000
set_option maxRecDepth 100000
set_option linter.unusedVariables false
set_option linter.unusedSimpArgs false
def someP : PartD := ⟨0, 10, [⟨2, 1, 0, [], []⟩, ⟨4, 1, 1, [], []⟩, ⟨5, 1, 2, [], []⟩, ⟨9, 1, 3, [], []⟩], [], []⟩
theorem zeroPart {K : Know} {v : Value} {a b : Int} {x : D} (h : Rep K (.agg [int a, int b, x, nilV, nilV]) v) : Rep K (.agg [int a, int b, x, .lst 3 [], .lst 4 []]) v := by
  cases h with
  | agg hl hv h1 =>
    refine .agg hl (fun j x v hx hvv => ?_) h1
    match j with
    | 0 => exact hv 0 x v hx hvv
    | 1 => exact hv 1 x v hx hvv
    | 2 => exact hv 2 x v hx hvv
    | 3 =>
      have := hv 3 _ v rfl hvv
      simp only [List.getElem?_cons_succ, List.getElem?_cons_zero, Option.some.injEq] at hx
      subst hx; cases this; exact rep_nil _ _
    | 4 =>
      have := hv 4 _ v rfl hvv
      simp only [List.getElem?_cons_succ, List.getElem?_cons_zero, Option.some.injEq] at hx
      subst hx; cases this; exact rep_nil _ _
    | j + 5 => simp at hx
/-! plain facts -/
theorem from_at {p : PartD} (h : risB (p.rows.map (·.off)) = true) (i : Nat) (hi : i < p.rows.length) : fromI p (p.rows[i].off + 1) = i + 1 := by
  have h1 := from_ge h (p.rows[i].off + 1) i hi
  have h2 : ¬ fromI p (p.rows[i].off + 1) ≤ i := by
    intro hc
    rw [decide_eq_true hc] at h1
    simp only [decide_eq_true_eq] at h1
    omega
  rcases Nat.lt_or_ge (i + 1) p.rows.length with h3 | h3
  · have h4 := from_ge h (p.rows[i].off + 1) (i + 1) h3
    have h5 := ris_get _ h i (i + 1) (by simpa using h3) (by omega)
    simp only [List.getElem_map] at h5
    rw [decide_eq_true (show p.rows[i].off + 1 ≤ p.rows[i + 1].off by omega)] at h4
    have := of_decide_eq_true h4.symm
    omega
  · have := from_le p (p.rows[i].off + 1)
    omega
theorem from_end {p : PartD} (hp : partB p = true) : fromI p p.fin = p.rows.length := by
  have h1 := from_le p p.fin
  rcases Nat.lt_or_ge (fromI p p.fin) p.rows.length with h2 | h2
  · have h3 := from_ge (part_ris hp) p.fin _ h2
    rw [decide_eq_true (Nat.le_refl (fromI p p.fin))] at h3
    have := of_decide_eq_true h3
    have := (part_rows hp _ (List.getElem_mem h2)).2
    omega
  · omega
theorem from_start {p : PartD} (hp : partB p = true) : fromI p p.start = 0 := by
  rcases Nat.eq_zero_or_pos p.rows.length with h0 | h0
  · have := from_le p p.start; omega
  · have h3 := from_ge (part_ris hp) p.start 0 h0
    have := (part_rows hp _ (List.getElem_mem h0)).1
    rw [decide_eq_true this] at h3
    have := of_decide_eq_true h3.symm
    omega
/-- One fetch on. -/
theorem on_step {p : PartD} (hp : partB p = true) {at_ : Int} {m : Nat} (hm : 1 ≤ m) (h1 : p.start ≤ at_) (h2 : at_ < p.fin) :
    at_ < (fetchF p at_ m true).2 ∧ (fetchF p at_ m true).2 ≤ p.fin ∧ (fetchF p at_ m true).1.length ≤ m ∧ p.rows.take (fromI p at_) ++ (fetchF p at_ m true).1 = p.rows.take (fromI p (fetchF p at_ m true).2) ∧
      ((fetchF p at_ m true).2 = p.fin ∨ fromI p at_ + 1 ≤ fromI p (fetchF p at_ m true).2) := by
  have hle := from_le p at_
  have hlen : (fromF p at_).length = p.rows.length - fromI p at_ := by simp [fromF]
  unfold fetchF
  split
  · rename_i hl
    obtain ⟨k, rfl⟩ : ∃ k, m = k + 1 := ⟨m - 1, by omega⟩
    have hk : fromI p at_ + k < p.rows.length := by omega
    have hg : (fromF p at_)[k]? = some (p.rows[fromI p at_ + k]) := by unfold fromF; rw [List.getElem?_drop, List.getElem?_eq_getElem hk]
    simp only [nextF, hg]
    have h3 := from_ge (part_ris hp) at_ _ hk
    rw [decide_eq_true (show fromI p at_ ≤ fromI p at_ + k by omega)] at h3
    have h4 := of_decide_eq_true h3
    have h5 := (part_rows hp _ (List.getElem_mem hk)).2
    have h6 := from_at (part_ris hp) _ hk
    refine ⟨by omega, by omega, by rw [List.length_take]; omega, ?_, .inr (by omega)⟩
    rw [h6]
    unfold fromF
    rw [show fromI p at_ + k + 1 = fromI p at_ + (k + 1) by omega]
    conv => rhs; rw [List.take_add]
  · rename_i hl
    refine ⟨h2, by omega, ?_, ?_, .inl rfl⟩
    · simp only [if_true, List.append_nil]; omega
    · simp only [if_true, List.append_nil]
      rw [from_end hp, List.take_length]
      exact List.take_append_drop _ _
theorem great_small {p : PartD} (h : greatP p = false) : p.rows.length ≤ 300 ∧ p.opens.length ≤ 40 ∧ p.prods.length ≤ 40 := by
  simp only [greatP, greatRows, Bool.or_eq_false_iff, decide_eq_false_iff_not] at h
  omega
end Go.Proofs.YticbdcpdooahjaaDoor
