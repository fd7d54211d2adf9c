/- The reference of layer 6: may, behind. -/
import Derived.Test.YtafipkbffboebaaDoorCpA
namespace Go.Proofs.YtafipkbffboebaaDoor
open Go Go.RowKit
set_option maxHeartbeats 8000000
set_option maxRecDepth 100000
set_option linter.unusedVariables false
set_option linter.unusedSimpArgs false
def bat6 (b : BatD) : Bool := decide (b.pid < 1) || decide (8 < b.pid) || decide (b.epoch < 0) || decide (100 < b.epoch) || decide (b.seq < 0) || decide (1048576 < b.seq) || decide ((b.recs.length : Int) < 1) || decide (4 < (b.recs.length : Int)) || decide (1048576 < IntKind.i64.wrap (b.seq + (b.recs.length : Int)))
theorem bat6_eq (b : BatD) (hl : b.recs.length ≤ 100000) : batB b = (!bat6 b && !b.recs.any badRec) := by
  have hw : b.seq ≤ 1048576 → 0 ≤ b.seq → IntKind.i64.wrap (b.seq + (b.recs.length : Int)) = b.seq + (b.recs.length : Int) := fun h h' => wrap_i64 ⟨by omega, by omega⟩
  have key : (!(decide (b.pid < 1) || decide (8 < b.pid)) && !(decide (b.epoch < 0) || decide (100 < b.epoch)) && !(decide ((b.recs.length : Int) < 1) || decide (4 < (b.recs.length : Int))) && !(decide (b.seq < 0) || decide (1048576 - (b.recs.length : Int) < b.seq))) = !bat6 b := by
    rw [Bool.eq_iff_iff]
    simp only [bat6, Bool.and_eq_true, Bool.not_eq_true', Bool.or_eq_false_iff, decide_eq_false_iff_not]
    constructor
    · rintro ⟨⟨⟨⟨h1, h2⟩, h3, h4⟩, h5, h6⟩, h7, h8⟩
      rw [hw (by omega) (by omega)]
      refine ⟨⟨⟨⟨⟨⟨⟨⟨h1, h2⟩, h3⟩, h4⟩, h7⟩, by omega⟩, h5⟩, h6⟩, by omega⟩
    · rintro ⟨⟨⟨⟨⟨⟨⟨⟨h1, h2⟩, h3⟩, h4⟩, h7⟩, h9⟩, h5⟩, h6⟩, h8⟩
      rw [hw (by omega) (by omega)] at h8
      refine ⟨⟨⟨⟨h1, h2⟩, h3, h4⟩, h5, h6⟩, h7, by omega⟩
  unfold batB
  rw [key]
theorem refMay_fun (b : BatD) (hl : b.recs.length ≤ 100000) : Fun Tryd.prog 40 [.agg b.dv] (boo (batB b)) := by
  have heq := bat6_eq b hl
  (refine Fun.of_body Tryd.func40 rfl rfl Tryd.ntmps40 Tryd.results40 (by simp) ?_)
  (refine gO (@BatD.dv.eq_1) ?_; try (with_reducible exact True.intro))
  (first | refine Wp.sto 52 (vb (bat6 b)) ?_ ?_ | refine Wp.rtoS 52 (vb (bat6 b)) ?_ ?_ | (refine Wp.seq ?_; first | refine Wp.sto 52 (vb (bat6 b)) ?_ ?_ | refine Wp.rtoS 52 (vb (bat6 b)) ?_ ?_))
  · unfold bat6; ((rcases Bool.eq_false_or_eq_true (decide (b.pid < 1)) with hL1 | hL1; focus (((refine rO (And.intro hL1 (@BatD.dv.eq_1)) ?_; try (with_reducible exact True.intro)); (repeat (refine bcf (by assumption) ?_; (refine rO (And.intro hL1 (@BatD.dv.eq_1)) ?_; try (with_reducible exact True.intro))))); all_goals (exact (show okTr _ _ = true by kernel_rfl)))); (rcases Bool.eq_false_or_eq_true (decide (8 < b.pid)) with hL2 | hL2; focus (((refine rO (And.intro hL1 (And.intro hL2 (@BatD.dv.eq_1))) ?_; try (with_reducible exact True.intro)); (repeat (refine bcf (by assumption) ?_; (refine rO (And.intro hL1 (And.intro hL2 (@BatD.dv.eq_1))) ?_; try (with_reducible exact True.intro))))); all_goals (exact (show okTr _ _ = true by kernel_rfl)))); (rcases Bool.eq_false_or_eq_true (decide (b.epoch < 0)) with hL3 | hL3; focus (((refine rO (And.intro hL1 (And.intro hL2 (And.intro hL3 (@BatD.dv.eq_1)))) ?_; try (with_reducible exact True.intro)); (repeat (refine bcf (by assumption) ?_; (refine rO (And.intro hL1 (And.intro hL2 (And.intro hL3 (@BatD.dv.eq_1)))) ?_; try (with_reducible exact True.intro))))); all_goals (exact (show okTr _ _ = true by kernel_rfl)))); (rcases Bool.eq_false_or_eq_true (decide (100 < b.epoch)) with hL4 | hL4; focus (((refine rO (And.intro hL1 (And.intro hL2 (And.intro hL3 (And.intro hL4 (@BatD.dv.eq_1))))) ?_; try (with_reducible exact True.intro)); (repeat (refine bcf (by assumption) ?_; (refine rO (And.intro hL1 (And.intro hL2 (And.intro hL3 (And.intro hL4 (@BatD.dv.eq_1))))) ?_; try (with_reducible exact True.intro))))); all_goals (exact (show okTr _ _ = true by kernel_rfl)))); (rcases Bool.eq_false_or_eq_true (decide (b.seq < 0)) with hL5 | hL5; focus (((refine rO (And.intro hL1 (And.intro hL2 (And.intro hL3 (And.intro hL4 (And.intro hL5 (@BatD.dv.eq_1)))))) ?_; try (with_reducible exact True.intro)); (repeat (refine bcf (by assumption) ?_; (refine rO (And.intro hL1 (And.intro hL2 (And.intro hL3 (And.intro hL4 (And.intro hL5 (@BatD.dv.eq_1)))))) ?_; try (with_reducible exact True.intro))))); all_goals (exact (show okTr _ _ = true by kernel_rfl)))); (rcases Bool.eq_false_or_eq_true (decide (1048576 < b.seq)) with hL6 | hL6; focus (((refine rO (And.intro hL1 (And.intro hL2 (And.intro hL3 (And.intro hL4 (And.intro hL5 (And.intro hL6 (@BatD.dv.eq_1))))))) ?_; try (with_reducible exact True.intro)); (repeat (refine bcf (by assumption) ?_; (refine rO (And.intro hL1 (And.intro hL2 (And.intro hL3 (And.intro hL4 (And.intro hL5 (And.intro hL6 (@BatD.dv.eq_1))))))) ?_; try (with_reducible exact True.intro))))); all_goals (exact (show okTr _ _ = true by kernel_rfl)))); (rcases Bool.eq_false_or_eq_true (decide ((b.recs.length : Int) < 1)) with hL7 | hL7; focus (((refine rO (And.intro hL1 (And.intro hL2 (And.intro hL3 (And.intro hL4 (And.intro hL5 (And.intro hL6 (And.intro hL7 (@BatD.dv.eq_1)))))))) ?_; try (with_reducible exact True.intro)); (repeat (refine bcf (by assumption) ?_; (refine rO (And.intro hL1 (And.intro hL2 (And.intro hL3 (And.intro hL4 (And.intro hL5 (And.intro hL6 (And.intro hL7 (@BatD.dv.eq_1)))))))) ?_; try (with_reducible exact True.intro))))); all_goals (exact (show okTr _ _ = true by kernel_rfl)))); (rcases Bool.eq_false_or_eq_true (decide (4 < (b.recs.length : Int))) with hL8 | hL8; focus (((refine rO (And.intro hL1 (And.intro hL2 (And.intro hL3 (And.intro hL4 (And.intro hL5 (And.intro hL6 (And.intro hL7 (And.intro hL8 (@BatD.dv.eq_1))))))))) ?_; try (with_reducible exact True.intro)); (repeat (refine bcf (by assumption) ?_; (refine rO (And.intro hL1 (And.intro hL2 (And.intro hL3 (And.intro hL4 (And.intro hL5 (And.intro hL6 (And.intro hL7 (And.intro hL8 (@BatD.dv.eq_1))))))))) ?_; try (with_reducible exact True.intro))))); all_goals (exact (show okTr _ _ = true by kernel_rfl)))); (rcases Bool.eq_false_or_eq_true (decide (1048576 < IntKind.i64.wrap (b.seq + (b.recs.length : Int)))) with hL9 | hL9; focus (((refine rO (And.intro hL1 (And.intro hL2 (And.intro hL3 (And.intro hL4 (And.intro hL5 (And.intro hL6 (And.intro hL7 (And.intro hL8 (And.intro hL9 (@BatD.dv.eq_1)))))))))) ?_; try (with_reducible exact True.intro)); (repeat (refine bcf (by assumption) ?_; (refine rO (And.intro hL1 (And.intro hL2 (And.intro hL3 (And.intro hL4 (And.intro hL5 (And.intro hL6 (And.intro hL7 (And.intro hL8 (And.intro hL9 (@BatD.dv.eq_1)))))))))) ?_; try (with_reducible exact True.intro))))); all_goals (exact (show okTr _ _ = true by kernel_rfl)))); ((refine rO (And.intro hL1 (And.intro hL2 (And.intro hL3 (And.intro hL4 (And.intro hL5 (And.intro hL6 (And.intro hL7 (And.intro hL8 (And.intro hL9 (@BatD.dv.eq_1)))))))))) ?_; try (with_reducible exact True.intro)); (repeat (refine bcf (by assumption) ?_; (refine rO (And.intro hL1 (And.intro hL2 (And.intro hL3 (And.intro hL4 (And.intro hL5 (And.intro hL6 (And.intro hL7 (And.intro hL8 (And.intro hL9 (@BatD.dv.eq_1)))))))))) ?_; try (with_reducible exact True.intro))))); all_goals (exact (show okTr _ _ = true by kernel_rfl)))
  refine Wp.cond (by (refine rO0 ?_; try (with_reducible exact True.intro)); rfl) (fun h => ?_) (fun h => ?_)
  · have hf : batB b = false := by rw [heq, h]; rfl
    (refine gO0 ?_; try (with_reducible exact True.intro))
    (refine rO (hf) ?_; try (with_reducible exact True.intro))
  have h1 := h
  (refine gO (@BatD.dv.eq_1) ?_; try (with_reducible exact True.intro))
  refine Wp.loop (fun k : Nat => ⟨ofL [(1, .c (.own 0 0)), (3, vi .i64 k)], ofH [(0, .cells (b.dv.map .d))], 1, 78, 0⟩) (fun k => k ≤ b.recs.length ∧ (b.recs.take k).any badRec = false) (fun k => b.recs.length - k) 0 ⟨Nat.zero_le _, rfl⟩ ?_ ?_
  · refine Weak.keep rfl rfl ?_
    (refine rO (@BatD.dv.eq_1) ?_; try (with_reducible exact True.intro))
  rintro k ⟨hk, hall⟩
  (refine gO (@BatD.dv.eq_1) ?_; try (with_reducible exact True.intro))
  refine Wp.cond (by (refine rO0 ?_; try (with_reducible exact True.intro)); rfl) (fun h => ?_) (fun h => ?_)
  · have hlt : k < b.recs.length := by simpa using h
    have hs := any_take_succ badRec b.recs k hlt
    have hm : b.recs[k] ∈ b.recs := List.getElem_mem hlt
    have hge : b.recs[k]? = some b.recs[k] := List.getElem?_eq_getElem hlt
    generalize b.recs[k] = r at *
    (refine gO0 ?_; try (with_reducible exact True.intro))
    (first | refine Wp.sto 77 (vb (badRec r)) ?_ ?_ | refine Wp.rtoS 77 (vb (badRec r)) ?_ ?_ | (refine Wp.seq ?_; first | refine Wp.sto 77 (vb (badRec r)) ?_ ?_ | refine Wp.rtoS 77 (vb (badRec r)) ?_ ?_))
    · unfold badRec; ((rcases Bool.eq_false_or_eq_true (decide (16 < (r.key.length : Int))) with hL1 | hL1) <;> (rcases Bool.eq_false_or_eq_true (decide (16 < (r.value.length : Int))) with hL2 | hL2) <;> (((refine rO (And.intro hL1 (And.intro hL2 (And.intro hge (And.intro @RecD.dv.eq_1 (@BatD.dv.eq_1))))) ?_; try (with_reducible exact True.intro)); (repeat (refine bcf (by assumption) ?_; (refine rO (And.intro hL1 (And.intro hL2 (And.intro hge (And.intro @RecD.dv.eq_1 (@BatD.dv.eq_1))))) ?_; try (with_reducible exact True.intro))))); all_goals (exact (show okTr _ _ = true by kernel_rfl))))
    refine Wp.cond (by (refine rO0 ?_; try (with_reducible exact True.intro)); rfl) (fun h => ?_) (fun h => ?_)
    · have hf : batB b = false := by
        have : b.recs.any badRec = true := List.any_eq_true.2 ⟨r, hm, h⟩
        rw [heq, this]; simp
      (refine gO0 ?_; try (with_reducible exact True.intro))
      (refine rO (hf) ?_; try (with_reducible exact True.intro))
    · (refine gO0 ?_; try (with_reducible exact True.intro))
      refine ⟨k + 1, ⟨by omega, by rw [hs, hall, h]; rfl⟩, by omega, Weak.keep rfl rfl ?_⟩
      (refine rO (@BatD.dv.eq_1) ?_; try (with_reducible exact True.intro))
  · have hf : batB b = true := by
      rw [List.take_of_length_le (by simp only [decide_eq_false_iff_not] at h; omega)] at hall
      rw [heq, h1, hall]; rfl
    (refine gO0 ?_; try (with_reducible exact True.intro))
    (refine rO (hf) ?_; try (with_reducible exact True.intro))
theorem refBeh_fun (b : BatD) : Fun Tryd.prog 75 [.agg b.dv] (int (behF b)) := by
  (refine Fun.of_body Tryd.func75 rfl rfl Tryd.ntmps75 Tryd.results75 (by simp) ?_)
  (refine gO (@BatD.dv.eq_1) ?_; try (with_reducible exact True.intro))
  (refine rO (@behF.eq_1) ?_; try (with_reducible exact True.intro))
end Go.Proofs.YtafipkbffboebaaDoor
