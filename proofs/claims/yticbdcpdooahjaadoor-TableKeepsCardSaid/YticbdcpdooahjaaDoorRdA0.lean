/- Layer 13's statements: some, wakes; plain facts. -/
import Derived.Test.YticbdcpdooahjaaDoorReD
import Derived.Test.YticbdcpdooahjaaDoorRfA
namespace Go.Proofs.YticbdcpdooahjaaDoor
open Go Go.RowKit
set_option maxHeartbeats 4000000
set_option maxRecDepth 100000
set_option linter.unusedVariables false
set_option linter.unusedSimpArgs false
theorem zeroPart {K : Know} {v : Value} {a b : Int} {x : D} (h : Rep K (.agg [int a, int b, x, nilV, nilV]) v) : Rep K (.agg [int a, int b, x, .lst 3 [], .lst 4 []]) v := by
  cases h with
  | agg hl hv h1 =>
    refine .agg hl (fun j x v hx hvv => ?_) h1
    match j with
    | 0 => exact hv 0 x v hx hvv
    | 1 => exact hv 1 x v hx hvv
    | 2 => exact hv 2 x v hx hvv
    | 3 =>
      have := hv 3 _ v rfl hvv
      simp only [List.getElem?_cons_succ, List.getElem?_cons_zero, Option.some.injEq] at hx
      subst hx; cases this; exact rep_nil _ _
    | 4 =>
      have := hv 4 _ v rfl hvv
      simp only [List.getElem?_cons_succ, List.getElem?_cons_zero, Option.some.injEq] at hx
      subst hx; cases this; exact rep_nil _ _
    | j + 5 => simp at hx
/-! plain facts -/
theorem great_small {p : PartD} (h : greatP p = false) : p.rows.length ≤ 300 ∧ p.opens.length ≤ 40 ∧ p.prods.length ≤ 40 := by
  simp only [greatP, greatRows, Bool.or_eq_false_iff, decide_eq_false_iff_not] at h
  omega
end Go.Proofs.YticbdcpdooahjaaDoor
