/- Package seqs: Same. -/
import Derived.Test.YtafipkbffboebaaDoorSqN
namespace Go.Proofs.YtafipkbffboebaaDoor
open Go Go.RowKit
set_option maxHeartbeats 4000000
set_option maxRecDepth 100000
set_option linter.unusedVariables false
set_option linter.unusedSimpArgs false
theorem eqSeen_fun (a b : List SeenD) (hl : a.length ≤ 100000) : Fun Tryd.prog 126 [.lst 3 (a.map SeenD.dv), .lst 3 (b.map SeenD.dv)] (boo (decide (a = b))) := by
  (refine Fun.of_body Tryd.func126 rfl rfl Tryd.ntmps126 Tryd.results126 (by simp) ?_)
  by_cases hlen : a.length = b.length
  · have hne : ((a.length : Int) != (b.length : Int)) = false := by simp [hlen]
    (refine gO (hne) ?_; try (with_reducible exact True.intro))
    refine Wp.loop (fun k : Nat => ⟨ofL [(0, .c (.d (.lst 3 (a.map SeenD.dv)))), (1, .c (.d (.lst 3 (b.map SeenD.dv)))), (12, vi .i64 a.length), (13, vi .i64 k)], ofH [], 0, 26, 0⟩) (fun k => k ≤ a.length ∧ a.take k = b.take k) (fun k => a.length - k) 0 ⟨Nat.zero_le _, rfl⟩ ?_ ?_
    · refine Weak.keep rfl rfl ?_
      (refine rO0 ?_; try (with_reducible exact True.intro))
    rintro k ⟨hk, hall⟩
    (refine gO0 ?_; try (with_reducible exact True.intro))
    refine Wp.cond (by (refine rO0 ?_; try (with_reducible exact True.intro)); rfl) (fun h => ?_) (fun h => ?_)
    · have hlt : k < a.length := by simpa using h
      have hlt2 : k < b.length := by omega
      have g1 : a[k]? = some a[k] := List.getElem?_eq_getElem hlt
      have g2 : b[k]? = some b[k] := List.getElem?_eq_getElem hlt2
      have t1 := take_succ_get a k hlt
      have t2 := take_succ_get b k hlt2
      have hne : a[k] ≠ b[k] → ¬ a = b := fun hx e => by subst e; exact hx rfl
      generalize a[k] = x at *
      generalize b[k] = y at *
      (refine gO (And.intro g1 (And.intro g2 (And.intro @SeenD.dv.eq_1 (SeenD_bin)))) ?_; try (with_reducible exact True.intro))
      refine Wp.cond (by (refine rO0 ?_; try (with_reducible exact True.intro)); rfl) (fun h => ?_) (fun h => ?_)
      · have hf : decide (a = b) = false := decide_eq_false (hne (by simpa using h))
        (refine gO0 ?_; try (with_reducible exact True.intro))
        (refine rO (hf) ?_; try (with_reducible exact True.intro))
      · simp only [Bool.not_eq_false', decide_eq_true_eq] at h
        (refine gO0 ?_; try (with_reducible exact True.intro))
        refine ⟨k + 1, ⟨by omega, by rw [t1, t2, hall, h]⟩, by omega, Weak.keep rfl rfl ?_⟩
        (refine rO0 ?_; try (with_reducible exact True.intro))
    · have hk : k = a.length := by simp only [decide_eq_false_iff_not] at h; omega
      have hf : decide (a = b) = true := by
        rw [List.take_of_length_le (by omega), List.take_of_length_le (by omega)] at hall; simp [hall]
      (refine gO0 ?_; try (with_reducible exact True.intro))
      (refine rO (hf) ?_; try (with_reducible exact True.intro))
  · have hne : ((a.length : Int) != (b.length : Int)) = true := by simp; omega
    have hf : decide (a = b) = false := decide_eq_false (fun e => hlen (by rw [e]))
    (refine gO (hne) ?_; try (with_reducible exact True.intro))
    (refine rO (hf) ?_; try (with_reducible exact True.intro))
def prodEq (a b : ProdD) : Bool := a.pid == b.pid && a.epoch == b.epoch && a.next == b.next && decide (a.seen = b.seen)
theorem prodEq_eq (a b : ProdD) : prodEq a b = decide (a = b) := by
  rw [Bool.eq_iff_iff]
  obtain ⟨a1, a2, a3, a4⟩ := a
  obtain ⟨b1, b2, b3, b4⟩ := b
  simp only [prodEq, Bool.and_eq_true, beq_iff_eq, decide_eq_true_eq, ProdD.mk.injEq, and_assoc]
theorem eqProd_fun (a b : ProdD) (hl : a.seen.length ≤ 100000) : Fun Tryd.prog 118 [.agg a.dv, .agg b.dv] (boo (decide (a = b))) := by
  have c1 := eqSeen_fun a.seen b.seen hl
  rw [← prodEq_eq]
  (refine Fun.of_body Tryd.func118 rfl rfl Tryd.ntmps118 Tryd.results118 (by simp) ?_)
  (refine gO (@ProdD.dv.eq_1) ?_; try (with_reducible exact True.intro))
  (first | refine Wp.sto 4 (vb (prodEq a b)) ?_ ?_ | refine Wp.rtoS 4 (vb (prodEq a b)) ?_ ?_ | (refine Wp.seq ?_; first | refine Wp.sto 4 (vb (prodEq a b)) ?_ ?_ | refine Wp.rtoS 4 (vb (prodEq a b)) ?_ ?_))
  · unfold prodEq; ((rcases Bool.eq_false_or_eq_true (a.pid == b.pid) with hL1 | hL1) <;> (rcases Bool.eq_false_or_eq_true (a.epoch == b.epoch) with hL2 | hL2) <;> (rcases Bool.eq_false_or_eq_true (a.next == b.next) with hL3 | hL3) <;> (rcases Bool.eq_false_or_eq_true (decide (a.seen = b.seen)) with hL4 | hL4) <;> (((refine rO (And.intro hL1 (And.intro hL2 (And.intro hL3 (And.intro hL4 (@ProdD.dv.eq_1))))) ?_; try (with_reducible exact True.intro)); (repeat (refine bcf (by assumption) ?_; (refine rO (And.intro hL1 (And.intro hL2 (And.intro hL3 (And.intro hL4 (@ProdD.dv.eq_1))))) ?_; try (with_reducible exact True.intro))))); all_goals (exact (show okTr _ _ = true by kernel_rfl))))
  (refine gO0 ?_; try (with_reducible exact True.intro))
  (refine rO0 ?_; try (with_reducible exact True.intro))
end Go.Proofs.YtafipkbffboebaaDoor
