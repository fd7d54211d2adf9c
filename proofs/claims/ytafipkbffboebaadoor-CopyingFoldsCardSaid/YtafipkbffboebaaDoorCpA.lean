/- Packages record, copying and their references: batches that may be. -/
import Derived.Test.YtafipkbffboebaaDoorEnt
import Derived.Test.YtafipkbffboebaaDoorErM
namespace Go.Proofs.YtafipkbffboebaaDoor
open Go Go.RowKit
set_option maxHeartbeats 4000000
set_option maxRecDepth 100000
set_option linter.unusedVariables false
set_option linter.unusedSimpArgs false
theorem idx_take' {α : Type} {p : α → Bool} {l : List α} {k : Nat} (h : k < l.length) (hn : (l.take k).any p = false) (hp : p l[k] = true) : l.findIdx p = k := by
  rw [List.findIdx_eq h]
  refine ⟨hp, fun j hj => ?_⟩
  have := List.any_eq_false.1 hn (l[j]) (by rw [List.mem_take_iff_getElem]; exact ⟨j, by omega, rfl⟩)
  simpa using this
def badRec (r : RecD) : Bool := decide (16 < (r.key.length : Int)) || decide (16 < (r.value.length : Int))
theorem badRec_fun (r : RecD) : Fun Tryd.prog 65 [.agg r.dv] (boo (badRec r)) := by
  (refine Fun.of_body Tryd.func65 rfl rfl Tryd.ntmps65 Tryd.results65 (by simp) ?_)
  (refine gO (@RecD.dv.eq_1) ?_; try (with_reducible exact True.intro))
  (first | refine Wp.sto 2 (vb (badRec r)) ?_ ?_ | refine Wp.rtoS 2 (vb (badRec r)) ?_ ?_ | (refine Wp.seq ?_; first | refine Wp.sto 2 (vb (badRec r)) ?_ ?_ | refine Wp.rtoS 2 (vb (badRec r)) ?_ ?_))
  · unfold badRec; ((rcases Bool.eq_false_or_eq_true (decide (16 < (r.key.length : Int))) with hL1 | hL1) <;> (rcases Bool.eq_false_or_eq_true (decide (16 < (r.value.length : Int))) with hL2 | hL2) <;> (((refine rO (And.intro hL1 (And.intro hL2 (@RecD.dv.eq_1))) ?_; try (with_reducible exact True.intro)); (repeat (refine bcf (by assumption) ?_; (refine rO (And.intro hL1 (And.intro hL2 (@RecD.dv.eq_1))) ?_; try (with_reducible exact True.intro))))); all_goals (exact (show okTr _ _ = true by kernel_rfl))))
  (refine gO0 ?_; try (with_reducible exact True.intro))
  (refine rO0 ?_; try (with_reducible exact True.intro))
theorem indexFunc_Record (l : List RecD) (f : Nat) (caps : List D) (p : RecD → Bool) (hp : ∀ x ∈ l, Fun Tryd.prog f (.agg x.dv :: caps) (boo (p x))) (hl : l.length < 2 ^ 40) :
    Fun Tryd.prog 97 [.lst 2 (l.map RecD.dv), .fn (.func f) caps] (int (if l.any p then (l.findIdx p : Int) else -1)) := by
  (refine Fun.of_body Tryd.func97 rfl rfl Tryd.ntmps97 Tryd.results97 (by simp) ?_)
  (refine gO0 ?_; try (with_reducible exact True.intro))
  refine Wp.loop (fun k : Nat => ⟨ofL [(0, .c (.d (.lst 2 (l.map RecD.dv)))), (1, .c (.d (.fn (.func f) caps))), (7, vi .i64 l.length), (8, vi .i64 k)], ofH [], 0, 19, 0⟩) (fun k => k ≤ l.length ∧ (l.take k).any p = false) (fun k => l.length - k) 0 ⟨Nat.zero_le _, rfl⟩ ?_ ?_
  · refine Weak.keep rfl rfl ?_
    (refine rO0 ?_; try (with_reducible exact True.intro))
  rintro k ⟨hk, hall⟩
  (refine gO0 ?_; try (with_reducible exact True.intro))
  refine Wp.cond (by (refine rO0 ?_; try (with_reducible exact True.intro)); rfl) (fun h => ?_) (fun h => ?_)
  · have hlt : k < l.length := by simpa using h
    have c1 := hp l[k] (List.getElem_mem hlt)
    have hs := any_take_succ p l k hlt
    simp only [RecD.dv] at c1
    (refine gO (And.intro (List.getElem?_eq_getElem hlt) (@RecD.dv.eq_1)) ?_; try (with_reducible exact True.intro))
    refine Wp.cond (by (refine rO0 ?_; try (with_reducible exact True.intro)); rfl) (fun h => ?_) (fun h => ?_)
    · have hi := idx_take' hlt hall h
      have ha : l.any p = true := List.any_eq_true.2 ⟨l[k], List.getElem_mem hlt, h⟩
      (refine gO0 ?_; try (with_reducible exact True.intro))
      (refine rO (And.intro hi (ha)) ?_; try (with_reducible exact True.intro))
    · (refine gO0 ?_; try (with_reducible exact True.intro))
      refine ⟨k + 1, ⟨by omega, by rw [hs, hall, h]; rfl⟩, by omega, Weak.keep rfl rfl ?_⟩
      (refine rO0 ?_; try (with_reducible exact True.intro))
  · have ha : l.any p = false := by
      rw [List.take_of_length_le (by simp only [decide_eq_false_iff_not] at h; omega)] at hall; exact hall
    (refine gO0 ?_; try (with_reducible exact True.intro))
    (refine rO (ha) ?_; try (with_reducible exact True.intro))
theorem containsFunc_Record (l : List RecD) (f : Nat) (caps : List D) (p : RecD → Bool) (hp : ∀ x ∈ l, Fun Tryd.prog f (.agg x.dv :: caps) (boo (p x))) (hl : l.length < 2 ^ 40) :
    Fun Tryd.prog 64 [.lst 2 (l.map RecD.dv), .fn (.func f) caps] (boo (l.any p)) := by
  have h1 := indexFunc_Record l f caps p hp hl
  (refine Fun.of_body Tryd.func64 rfl rfl Tryd.ntmps64 Tryd.results64 (by simp) ?_)
  cases ha : l.any p with
  | false =>
    rw [ha] at h1
    simp only [Bool.false_eq_true, if_false] at h1
    (refine gO0 ?_; try (with_reducible exact True.intro))
    (refine rO0 ?_; try (with_reducible exact True.intro))
  | true =>
    rw [ha, if_pos rfl] at h1
    (refine gO0 ?_; try (with_reducible exact True.intro))
    (refine rO0 ?_; try (with_reducible exact True.intro))
def batB (b : BatD) : Bool := !(decide (b.pid < 1) || decide (8 < b.pid)) && !(decide (b.epoch < 0) || decide (100 < b.epoch)) && !(decide ((b.recs.length : Int) < 1) || decide (4 < (b.recs.length : Int))) && !(decide (b.seq < 0) || decide (1048576 - (b.recs.length : Int) < b.seq)) && !b.recs.any badRec
theorem recMay_fun (b : BatD) (hl : b.recs.length ≤ 100000) : Fun Tryd.prog 34 [.agg b.dv] (boo (batB b)) := by
  have c1 := containsFunc_Record b.recs 65 [] badRec (fun x _ => badRec_fun x) (by omega)
  (refine Fun.of_body Tryd.func34 rfl rfl Tryd.ntmps34 Tryd.results34 (by simp) ?_)
  (refine gO (@BatD.dv.eq_1) ?_; try (with_reducible exact True.intro))
  (first | refine Wp.sto 7 (vb (decide (b.pid < 1) || decide (8 < b.pid))) ?_ ?_ | refine Wp.rtoS 7 (vb (decide (b.pid < 1) || decide (8 < b.pid))) ?_ ?_ | (refine Wp.seq ?_; first | refine Wp.sto 7 (vb (decide (b.pid < 1) || decide (8 < b.pid))) ?_ ?_ | refine Wp.rtoS 7 (vb (decide (b.pid < 1) || decide (8 < b.pid))) ?_ ?_))
  · ((rcases Bool.eq_false_or_eq_true (decide (b.pid < 1)) with hL1 | hL1) <;> (rcases Bool.eq_false_or_eq_true (decide (8 < b.pid)) with hL2 | hL2) <;> (((refine rO (And.intro hL1 (And.intro hL2 (@BatD.dv.eq_1))) ?_; try (with_reducible exact True.intro)); (repeat (refine bcf (by assumption) ?_; (refine rO (And.intro hL1 (And.intro hL2 (@BatD.dv.eq_1))) ?_; try (with_reducible exact True.intro))))); all_goals (exact (show okTr _ _ = true by kernel_rfl))))
  refine Wp.cond (by (refine rO0 ?_; try (with_reducible exact True.intro)); rfl) (fun h => ?_) (fun h => ?_)
  · have hf : batB b = false := by simp only [batB, h, Bool.not_true, Bool.false_and]
    (refine gO0 ?_; try (with_reducible exact True.intro))
    (refine rO (hf) ?_; try (with_reducible exact True.intro))
  have h1 := h
  (refine gO (@BatD.dv.eq_1) ?_; try (with_reducible exact True.intro))
  (first | refine Wp.sto 16 (vb (decide (b.epoch < 0) || decide (100 < b.epoch))) ?_ ?_ | refine Wp.rtoS 16 (vb (decide (b.epoch < 0) || decide (100 < b.epoch))) ?_ ?_ | (refine Wp.seq ?_; first | refine Wp.sto 16 (vb (decide (b.epoch < 0) || decide (100 < b.epoch))) ?_ ?_ | refine Wp.rtoS 16 (vb (decide (b.epoch < 0) || decide (100 < b.epoch))) ?_ ?_))
  · ((rcases Bool.eq_false_or_eq_true (decide (b.epoch < 0)) with hL1 | hL1) <;> (rcases Bool.eq_false_or_eq_true (decide (100 < b.epoch)) with hL2 | hL2) <;> (((refine rO (And.intro hL1 (And.intro hL2 (@BatD.dv.eq_1))) ?_; try (with_reducible exact True.intro)); (repeat (refine bcf (by assumption) ?_; (refine rO (And.intro hL1 (And.intro hL2 (@BatD.dv.eq_1))) ?_; try (with_reducible exact True.intro))))); all_goals (exact (show okTr _ _ = true by kernel_rfl))))
  refine Wp.cond (by (refine rO0 ?_; try (with_reducible exact True.intro)); rfl) (fun h => ?_) (fun h => ?_)
  · have hf : batB b = false := by simp only [batB, h, Bool.not_true, Bool.and_false, Bool.false_and]
    (refine gO0 ?_; try (with_reducible exact True.intro))
    (refine rO (hf) ?_; try (with_reducible exact True.intro))
  have h2 := h
  (refine gO (@BatD.dv.eq_1) ?_; try (with_reducible exact True.intro))
  (first | refine Wp.sto 25 (vb (decide ((b.recs.length : Int) < 1) || decide (4 < (b.recs.length : Int)))) ?_ ?_ | refine Wp.rtoS 25 (vb (decide ((b.recs.length : Int) < 1) || decide (4 < (b.recs.length : Int)))) ?_ ?_ | (refine Wp.seq ?_; first | refine Wp.sto 25 (vb (decide ((b.recs.length : Int) < 1) || decide (4 < (b.recs.length : Int)))) ?_ ?_ | refine Wp.rtoS 25 (vb (decide ((b.recs.length : Int) < 1) || decide (4 < (b.recs.length : Int)))) ?_ ?_))
  · ((rcases Bool.eq_false_or_eq_true (decide ((b.recs.length : Int) < 1)) with hL1 | hL1) <;> (rcases Bool.eq_false_or_eq_true (decide (4 < (b.recs.length : Int))) with hL2 | hL2) <;> (((refine rO (And.intro hL1 (And.intro hL2 (@BatD.dv.eq_1))) ?_; try (with_reducible exact True.intro)); (repeat (refine bcf (by assumption) ?_; (refine rO (And.intro hL1 (And.intro hL2 (@BatD.dv.eq_1))) ?_; try (with_reducible exact True.intro))))); all_goals (exact (show okTr _ _ = true by kernel_rfl))))
  refine Wp.cond (by (refine rO0 ?_; try (with_reducible exact True.intro)); rfl) (fun h => ?_) (fun h => ?_)
  · have hf : batB b = false := by simp only [batB, h, Bool.not_true, Bool.and_false, Bool.false_and]
    (refine gO0 ?_; try (with_reducible exact True.intro))
    (refine rO (hf) ?_; try (with_reducible exact True.intro))
  have h3 := h
  (refine gO (@BatD.dv.eq_1) ?_; try (with_reducible exact True.intro))
  (first | refine Wp.sto 32 (vb (decide (b.seq < 0) || decide (1048576 - (b.recs.length : Int) < b.seq))) ?_ ?_ | refine Wp.rtoS 32 (vb (decide (b.seq < 0) || decide (1048576 - (b.recs.length : Int) < b.seq))) ?_ ?_ | (refine Wp.seq ?_; first | refine Wp.sto 32 (vb (decide (b.seq < 0) || decide (1048576 - (b.recs.length : Int) < b.seq))) ?_ ?_ | refine Wp.rtoS 32 (vb (decide (b.seq < 0) || decide (1048576 - (b.recs.length : Int) < b.seq))) ?_ ?_))
  · ((rcases Bool.eq_false_or_eq_true (decide (b.seq < 0)) with hL1 | hL1) <;> (rcases Bool.eq_false_or_eq_true (decide (1048576 - (b.recs.length : Int) < b.seq)) with hL2 | hL2) <;> (((refine rO (And.intro hL1 (And.intro hL2 (@BatD.dv.eq_1))) ?_; try (with_reducible exact True.intro)); (repeat (refine bcf (by assumption) ?_; (refine rO (And.intro hL1 (And.intro hL2 (@BatD.dv.eq_1))) ?_; try (with_reducible exact True.intro))))); all_goals (exact (show okTr _ _ = true by kernel_rfl))))
  refine Wp.cond (by (refine rO0 ?_; try (with_reducible exact True.intro)); rfl) (fun h => ?_) (fun h => ?_)
  · have hf : batB b = false := by simp only [batB, h, Bool.not_true, Bool.and_false, Bool.false_and]
    (refine gO0 ?_; try (with_reducible exact True.intro))
    (refine rO (hf) ?_; try (with_reducible exact True.intro))
  have h4 := h
  have hf : batB b = !b.recs.any badRec := by simp only [batB, h1, h2, h3, h4, Bool.not_false, Bool.true_and]
  (refine gO (@BatD.dv.eq_1) ?_; try (with_reducible exact True.intro))
  (refine rO (hf) ?_; try (with_reducible exact True.intro))
def behF (b : BatD) : Int := IntKind.i64.wrap (b.seq + (b.recs.length : Int))
theorem beh_fun (b : BatD) : Fun Tryd.prog 35 [.agg b.dv] (int (behF b)) := by
  (refine Fun.of_body Tryd.func35 rfl rfl Tryd.ntmps35 Tryd.results35 (by simp) ?_)
  (refine gO (@BatD.dv.eq_1) ?_; try (with_reducible exact True.intro))
  (refine rO (@behF.eq_1) ?_; try (with_reducible exact True.intro))
end Go.Proofs.YtafipkbffboebaaDoor
