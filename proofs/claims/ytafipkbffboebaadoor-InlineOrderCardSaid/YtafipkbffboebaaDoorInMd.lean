/- The abstract machine (InQ, InR, InS). -/
import Derived.Test.YtafipkbffboebaaDoorInMc
import Derived.Test.YtafipkbffboebaaDoorSqJ
import Derived.Test.YtafipkbffboebaaDoorCpD
import Derived.Test.YtafipkbffboebaaDoorMacD
namespace Go.Proofs.YtafipkbffboebaaDoor
open Go Go.RowKit
set_option maxHeartbeats 4000000
set_option maxRecDepth 100000
set_option linter.unusedVariables false
set_option linter.unusedSimpArgs false
theorem eqRec_fun (a b : List RecD) (hl : a.length ≤ 100000) : Fun Tryd.prog 125 [.lst 2 (a.map RecD.dv), .lst 2 (b.map RecD.dv)] (boo (decide (a = b))) := by
  (refine Fun.of_body Tryd.func125 rfl rfl Tryd.ntmps125 Tryd.results125 (by simp) ?_)
  by_cases hlen : a.length = b.length
  · have hne : ((a.length : Int) != (b.length : Int)) = false := by simp [hlen]
    (refine gO (hne) ?_; try (with_reducible exact True.intro))
    refine Wp.loop (fun k : Nat => ⟨ofL [(0, .c (.d (.lst 2 (a.map RecD.dv)))), (1, .c (.d (.lst 2 (b.map RecD.dv)))), (12, vi .i64 a.length), (13, vi .i64 k)], ofH [], 0, 26, 0⟩) (fun k => k ≤ a.length ∧ a.take k = b.take k) (fun k => a.length - k) 0 ⟨Nat.zero_le _, rfl⟩ ?_ ?_
    · refine Weak.keep rfl rfl ?_
      (refine rO0 ?_; try (with_reducible exact True.intro))
    rintro k ⟨hk, hall⟩
    (refine gO0 ?_; try (with_reducible exact True.intro))
    refine Wp.cond (by (refine rO0 ?_; try (with_reducible exact True.intro)); rfl) (fun h => ?_) (fun h => ?_)
    · have hlt : k < a.length := by simpa using h
      have hlt2 : k < b.length := by omega
      have g1 : a[k]? = some a[k] := List.getElem?_eq_getElem hlt
      have g2 : b[k]? = some b[k] := List.getElem?_eq_getElem hlt2
      have t1 := take_succ_get a k hlt
      have t2 := take_succ_get b k hlt2
      have hne : a[k] ≠ b[k] → ¬ a = b := fun hx e => by subst e; exact hx rfl
      generalize a[k] = x at *
      generalize b[k] = y at *
      (refine gO (And.intro g1 (And.intro g2 (And.intro @RecD.dv.eq_1 (RecD_bin)))) ?_; try (with_reducible exact True.intro))
      refine Wp.cond (by (refine rO0 ?_; try (with_reducible exact True.intro)); rfl) (fun h => ?_) (fun h => ?_)
      · have hf : decide (a = b) = false := decide_eq_false (hne (by simpa using h))
        (refine gO0 ?_; try (with_reducible exact True.intro))
        (refine rO (hf) ?_; try (with_reducible exact True.intro))
      · simp only [Bool.not_eq_false', decide_eq_true_eq] at h
        (refine gO0 ?_; try (with_reducible exact True.intro))
        refine ⟨k + 1, ⟨by omega, by rw [t1, t2, hall, h]⟩, by omega, Weak.keep rfl rfl ?_⟩
        (refine rO0 ?_; try (with_reducible exact True.intro))
    · have hk : k = a.length := by simp only [decide_eq_false_iff_not] at h; omega
      have hf : decide (a = b) = true := by
        rw [List.take_of_length_le (by omega), List.take_of_length_le (by omega)] at hall; simp [hall]
      (refine gO0 ?_; try (with_reducible exact True.intro))
      (refine rO (hf) ?_; try (with_reducible exact True.intro))
  · have hne : ((a.length : Int) != (b.length : Int)) = true := by simp; omega
    have hf : decide (a = b) = false := decide_eq_false (fun e => hlen (by rw [e]))
    (refine gO (hne) ?_; try (with_reducible exact True.intro))
    (refine rO (hf) ?_; try (with_reducible exact True.intro))
def batEqI (a b : BatD) : Bool := a.pid == b.pid && a.epoch == b.epoch && a.seq == b.seq && a.txn == b.txn && decide (a.recs = b.recs)
theorem batEqI_eq (a b : BatD) : batEqI a b = decide (a = b) := by
  rw [Bool.eq_iff_iff]
  obtain ⟨a1, a2, a3, a4, a5⟩ := a
  obtain ⟨b1, b2, b3, b4, b5⟩ := b
  simp only [batEqI, Bool.and_eq_true, beq_iff_eq, decide_eq_true_eq, BatD.mk.injEq, and_assoc]
theorem eqBat_fun (a b : BatD) (hl : a.recs.length ≤ 100000) : Fun Tryd.prog 117 [.agg a.dv, .agg b.dv] (boo (decide (a = b))) := by
  have c1 := eqRec_fun a.recs b.recs hl
  rw [← batEqI_eq]
  (refine Fun.of_body Tryd.func117 rfl rfl Tryd.ntmps117 Tryd.results117 (by simp) ?_)
  (refine gO (@BatD.dv.eq_1) ?_; try (with_reducible exact True.intro))
  (first | refine Wp.sto 4 (vb (batEqI a b)) ?_ ?_ | refine Wp.rtoS 4 (vb (batEqI a b)) ?_ ?_ | (refine Wp.seq ?_; first | refine Wp.sto 4 (vb (batEqI a b)) ?_ ?_ | refine Wp.rtoS 4 (vb (batEqI a b)) ?_ ?_))
  · unfold batEqI; ((rcases (Bool.eq_false_or_eq_true (a.pid == b.pid)).symm with hL1 | hL1; focus (((refine rO (And.intro hL1 (And.intro @BatD.dv.eq_1 (@bin_eqlB))) ?_; try (with_reducible exact True.intro)); (repeat (refine bcf (by assumption) ?_; (refine rO (And.intro hL1 (And.intro @BatD.dv.eq_1 (@bin_eqlB))) ?_; try (with_reducible exact True.intro))))); all_goals (exact (show okTr _ _ = true by kernel_rfl)))); (rcases (Bool.eq_false_or_eq_true (a.epoch == b.epoch)).symm with hL2 | hL2; focus (((refine rO (And.intro hL1 (And.intro hL2 (And.intro @BatD.dv.eq_1 (@bin_eqlB)))) ?_; try (with_reducible exact True.intro)); (repeat (refine bcf (by assumption) ?_; (refine rO (And.intro hL1 (And.intro hL2 (And.intro @BatD.dv.eq_1 (@bin_eqlB)))) ?_; try (with_reducible exact True.intro))))); all_goals (exact (show okTr _ _ = true by kernel_rfl)))); (rcases (Bool.eq_false_or_eq_true (a.seq == b.seq)).symm with hL3 | hL3; focus (((refine rO (And.intro hL1 (And.intro hL2 (And.intro hL3 (And.intro @BatD.dv.eq_1 (@bin_eqlB))))) ?_; try (with_reducible exact True.intro)); (repeat (refine bcf (by assumption) ?_; (refine rO (And.intro hL1 (And.intro hL2 (And.intro hL3 (And.intro @BatD.dv.eq_1 (@bin_eqlB))))) ?_; try (with_reducible exact True.intro))))); all_goals (exact (show okTr _ _ = true by kernel_rfl)))); (rcases (Bool.eq_false_or_eq_true (a.txn == b.txn)).symm with hL4 | hL4; focus (((refine rO (And.intro hL1 (And.intro hL2 (And.intro hL3 (And.intro hL4 (And.intro @BatD.dv.eq_1 (@bin_eqlB)))))) ?_; try (with_reducible exact True.intro)); (repeat (refine bcf (by assumption) ?_; (refine rO (And.intro hL1 (And.intro hL2 (And.intro hL3 (And.intro hL4 (And.intro @BatD.dv.eq_1 (@bin_eqlB)))))) ?_; try (with_reducible exact True.intro))))); all_goals (exact (show okTr _ _ = true by kernel_rfl)))); (rcases (Bool.eq_false_or_eq_true (decide (a.recs = b.recs))).symm with hL5 | hL5; focus (((refine rO (And.intro hL1 (And.intro hL2 (And.intro hL3 (And.intro hL4 (And.intro hL5 (And.intro @BatD.dv.eq_1 (@bin_eqlB))))))) ?_; try (with_reducible exact True.intro)); (repeat (refine bcf (by assumption) ?_; (refine rO (And.intro hL1 (And.intro hL2 (And.intro hL3 (And.intro hL4 (And.intro hL5 (And.intro @BatD.dv.eq_1 (@bin_eqlB))))))) ?_; try (with_reducible exact True.intro))))); all_goals (exact (show okTr _ _ = true by kernel_rfl)))); ((refine rO (And.intro hL1 (And.intro hL2 (And.intro hL3 (And.intro hL4 (And.intro hL5 (And.intro @BatD.dv.eq_1 (@bin_eqlB))))))) ?_; try (with_reducible exact True.intro)); (repeat (refine bcf (by assumption) ?_; (refine rO (And.intro hL1 (And.intro hL2 (And.intro hL3 (And.intro hL4 (And.intro hL5 (And.intro @BatD.dv.eq_1 (@bin_eqlB))))))) ?_; try (with_reducible exact True.intro))))); all_goals (exact (show okTr _ _ = true by kernel_rfl)))
  (refine gO0 ?_; try (with_reducible exact True.intro))
  (refine rO0 ?_; try (with_reducible exact True.intro))
def entEqI (a b : EntD) : Bool := a.kind == b.kind && decide (a.b = b.b) && a.yes == b.yes && a.next == b.next && a.off == b.off && decide (a.row = b.row) && decide (a.prod = b.prod)
theorem entEqI_eq (a b : EntD) : entEqI a b = decide (a = b) := by
  rw [Bool.eq_iff_iff]
  obtain ⟨a1, a2, a3, a4, a5, a6, a7⟩ := a
  obtain ⟨b1, b2, b3, b4, b5, b6, b7⟩ := b
  simp only [entEqI, Bool.and_eq_true, beq_iff_eq, decide_eq_true_eq, EntD.mk.injEq, and_assoc]
theorem eqEnt_fun (a b : EntD) (hr : a.b.recs.length ≤ 100000) (hq : a.prod.seen.length ≤ 100000) : Fun Tryd.prog 95 [.agg a.dv, .agg b.dv] (boo (decide (a = b))) := by
  have c1 := eqBat_fun a.b b.b hr
  have c2 := eqProd_fun a.prod b.prod hq
  have hbin := fun x y => (RowD_bin x y a.row b.row).1
  simp only [BatD.dv, ProdD.dv] at c1 c2
  rw [← entEqI_eq]
  (refine Fun.of_body Tryd.func95 rfl rfl Tryd.ntmps95 Tryd.results95 (by simp) ?_)
  (refine gO (@EntD.dv.eq_1) ?_; try (with_reducible exact True.intro))
  (first | refine Wp.sto 4 (vb (entEqI a b)) ?_ ?_ | refine Wp.rtoS 4 (vb (entEqI a b)) ?_ ?_ | (refine Wp.seq ?_; first | refine Wp.sto 4 (vb (entEqI a b)) ?_ ?_ | refine Wp.rtoS 4 (vb (entEqI a b)) ?_ ?_))
  · unfold entEqI; ((rcases (Bool.eq_false_or_eq_true (a.kind == b.kind)).symm with hL1 | hL1; focus (((refine rO (And.intro hL1 (And.intro @EntD.dv.eq_1 (And.intro hbin (@bin_eqlB)))) ?_; try (with_reducible exact True.intro)); (repeat (refine bcf (by assumption) ?_; (refine rO (And.intro hL1 (And.intro @EntD.dv.eq_1 (And.intro hbin (@bin_eqlB)))) ?_; try (with_reducible exact True.intro))))); all_goals (exact (show okTr _ _ = true by kernel_rfl)))); (rcases (Bool.eq_false_or_eq_true (decide (a.b = b.b))).symm with hL2 | hL2; focus (((refine rO (And.intro hL1 (And.intro hL2 (And.intro @EntD.dv.eq_1 (And.intro hbin (@bin_eqlB))))) ?_; try (with_reducible exact True.intro)); (repeat (refine bcf (by assumption) ?_; (refine rO (And.intro hL1 (And.intro hL2 (And.intro @EntD.dv.eq_1 (And.intro hbin (@bin_eqlB))))) ?_; try (with_reducible exact True.intro))))); all_goals (exact (show okTr _ _ = true by kernel_rfl)))); (rcases (Bool.eq_false_or_eq_true (a.yes == b.yes)).symm with hL3 | hL3; focus (((refine rO (And.intro hL1 (And.intro hL2 (And.intro hL3 (And.intro @EntD.dv.eq_1 (And.intro hbin (@bin_eqlB)))))) ?_; try (with_reducible exact True.intro)); (repeat (refine bcf (by assumption) ?_; (refine rO (And.intro hL1 (And.intro hL2 (And.intro hL3 (And.intro @EntD.dv.eq_1 (And.intro hbin (@bin_eqlB)))))) ?_; try (with_reducible exact True.intro))))); all_goals (exact (show okTr _ _ = true by kernel_rfl)))); (rcases (Bool.eq_false_or_eq_true (a.next == b.next)).symm with hL4 | hL4; focus (((refine rO (And.intro hL1 (And.intro hL2 (And.intro hL3 (And.intro hL4 (And.intro @EntD.dv.eq_1 (And.intro hbin (@bin_eqlB))))))) ?_; try (with_reducible exact True.intro)); (repeat (refine bcf (by assumption) ?_; (refine rO (And.intro hL1 (And.intro hL2 (And.intro hL3 (And.intro hL4 (And.intro @EntD.dv.eq_1 (And.intro hbin (@bin_eqlB))))))) ?_; try (with_reducible exact True.intro))))); all_goals (exact (show okTr _ _ = true by kernel_rfl)))); (rcases (Bool.eq_false_or_eq_true (a.off == b.off)).symm with hL5 | hL5; focus (((refine rO (And.intro hL1 (And.intro hL2 (And.intro hL3 (And.intro hL4 (And.intro hL5 (And.intro @EntD.dv.eq_1 (And.intro hbin (@bin_eqlB)))))))) ?_; try (with_reducible exact True.intro)); (repeat (refine bcf (by assumption) ?_; (refine rO (And.intro hL1 (And.intro hL2 (And.intro hL3 (And.intro hL4 (And.intro hL5 (And.intro @EntD.dv.eq_1 (And.intro hbin (@bin_eqlB)))))))) ?_; try (with_reducible exact True.intro))))); all_goals (exact (show okTr _ _ = true by kernel_rfl)))); (rcases (Bool.eq_false_or_eq_true (decide (a.row = b.row))).symm with hL6 | hL6; focus (((refine rO (And.intro hL1 (And.intro hL2 (And.intro hL3 (And.intro hL4 (And.intro hL5 (And.intro hL6 (And.intro @EntD.dv.eq_1 (And.intro hbin (@bin_eqlB))))))))) ?_; try (with_reducible exact True.intro)); (repeat (refine bcf (by assumption) ?_; (refine rO (And.intro hL1 (And.intro hL2 (And.intro hL3 (And.intro hL4 (And.intro hL5 (And.intro hL6 (And.intro @EntD.dv.eq_1 (And.intro hbin (@bin_eqlB))))))))) ?_; try (with_reducible exact True.intro))))); all_goals (exact (show okTr _ _ = true by kernel_rfl)))); (rcases (Bool.eq_false_or_eq_true (decide (a.prod = b.prod))).symm with hL7 | hL7; focus (((refine rO (And.intro hL1 (And.intro hL2 (And.intro hL3 (And.intro hL4 (And.intro hL5 (And.intro hL6 (And.intro hL7 (And.intro @EntD.dv.eq_1 (And.intro hbin (@bin_eqlB)))))))))) ?_; try (with_reducible exact True.intro)); (repeat (refine bcf (by assumption) ?_; (refine rO (And.intro hL1 (And.intro hL2 (And.intro hL3 (And.intro hL4 (And.intro hL5 (And.intro hL6 (And.intro hL7 (And.intro @EntD.dv.eq_1 (And.intro hbin (@bin_eqlB)))))))))) ?_; try (with_reducible exact True.intro))))); all_goals (exact (show okTr _ _ = true by kernel_rfl)))); ((refine rO (And.intro hL1 (And.intro hL2 (And.intro hL3 (And.intro hL4 (And.intro hL5 (And.intro hL6 (And.intro hL7 (And.intro @EntD.dv.eq_1 (And.intro hbin (@bin_eqlB)))))))))) ?_; try (with_reducible exact True.intro)); (repeat (refine bcf (by assumption) ?_; (refine rO (And.intro hL1 (And.intro hL2 (And.intro hL3 (And.intro hL4 (And.intro hL5 (And.intro hL6 (And.intro hL7 (And.intro @EntD.dv.eq_1 (And.intro hbin (@bin_eqlB)))))))))) ?_; try (with_reducible exact True.intro))))); all_goals (exact (show okTr _ _ = true by kernel_rfl)))
  (refine gO0 ?_; try (with_reducible exact True.intro))
  (refine rO0 ?_; try (with_reducible exact True.intro))
end Go.Proofs.YtafipkbffboebaaDoor
namespace Go.Proofs.YtafipkbffboebaaDoor
open Go Go.RowKit
set_option maxHeartbeats 4000000
set_option maxRecDepth 100000
set_option linter.unusedVariables false
set_option linter.unusedSimpArgs false
def rowB (r : RowD) : Bool := r.off == 0 && prodB r.pid 0 && decide (0 ≤ r.seq) && decide (r.seq < 1048576) && decide ((r.key.length : Int) ≤ 16) && decide ((r.value.length : Int) ≤ 16)
theorem rowI_fun (r : RowD) : Fun Tryd.prog 93 [.agg r.dv] (boo (rowB r)) := by
  have c1 := producer_fun r.pid 0
  (refine Fun.of_body Tryd.func93 rfl rfl Tryd.ntmps93 Tryd.results93 (by simp) ?_)
  (refine gO (@RowD.dv.eq_1) ?_; try (with_reducible exact True.intro))
  (first | refine Wp.sto 2 (vb (rowB r)) ?_ ?_ | refine Wp.rtoS 2 (vb (rowB r)) ?_ ?_ | (refine Wp.seq ?_; first | refine Wp.sto 2 (vb (rowB r)) ?_ ?_ | refine Wp.rtoS 2 (vb (rowB r)) ?_ ?_))
  · unfold rowB; ((rcases (Bool.eq_false_or_eq_true (r.off == 0)).symm with hL1 | hL1; focus (((refine rO (And.intro hL1 (@RowD.dv.eq_1)) ?_; try (with_reducible exact True.intro)); (repeat (refine bcf (by assumption) ?_; (refine rO (And.intro hL1 (@RowD.dv.eq_1)) ?_; try (with_reducible exact True.intro))))); all_goals (exact (show okTr _ _ = true by kernel_rfl)))); (rcases (Bool.eq_false_or_eq_true (prodB r.pid 0)).symm with hL2 | hL2; focus (((refine rO (And.intro hL1 (And.intro hL2 (@RowD.dv.eq_1))) ?_; try (with_reducible exact True.intro)); (repeat (refine bcf (by assumption) ?_; (refine rO (And.intro hL1 (And.intro hL2 (@RowD.dv.eq_1))) ?_; try (with_reducible exact True.intro))))); all_goals (exact (show okTr _ _ = true by kernel_rfl)))); (rcases (Bool.eq_false_or_eq_true (decide (0 ≤ r.seq))).symm with hL3 | hL3; focus (((refine rO (And.intro hL1 (And.intro hL2 (And.intro hL3 (@RowD.dv.eq_1)))) ?_; try (with_reducible exact True.intro)); (repeat (refine bcf (by assumption) ?_; (refine rO (And.intro hL1 (And.intro hL2 (And.intro hL3 (@RowD.dv.eq_1)))) ?_; try (with_reducible exact True.intro))))); all_goals (exact (show okTr _ _ = true by kernel_rfl)))); (rcases (Bool.eq_false_or_eq_true (decide (r.seq < 1048576))).symm with hL4 | hL4; focus (((refine rO (And.intro hL1 (And.intro hL2 (And.intro hL3 (And.intro hL4 (@RowD.dv.eq_1))))) ?_; try (with_reducible exact True.intro)); (repeat (refine bcf (by assumption) ?_; (refine rO (And.intro hL1 (And.intro hL2 (And.intro hL3 (And.intro hL4 (@RowD.dv.eq_1))))) ?_; try (with_reducible exact True.intro))))); all_goals (exact (show okTr _ _ = true by kernel_rfl)))); (rcases (Bool.eq_false_or_eq_true (decide ((r.key.length : Int) ≤ 16))).symm with hL5 | hL5; focus (((refine rO (And.intro hL1 (And.intro hL2 (And.intro hL3 (And.intro hL4 (And.intro hL5 (@RowD.dv.eq_1)))))) ?_; try (with_reducible exact True.intro)); (repeat (refine bcf (by assumption) ?_; (refine rO (And.intro hL1 (And.intro hL2 (And.intro hL3 (And.intro hL4 (And.intro hL5 (@RowD.dv.eq_1)))))) ?_; try (with_reducible exact True.intro))))); all_goals (exact (show okTr _ _ = true by kernel_rfl)))); (rcases (Bool.eq_false_or_eq_true (decide ((r.value.length : Int) ≤ 16))).symm with hL6 | hL6; focus (((refine rO (And.intro hL1 (And.intro hL2 (And.intro hL3 (And.intro hL4 (And.intro hL5 (And.intro hL6 (@RowD.dv.eq_1))))))) ?_; try (with_reducible exact True.intro)); (repeat (refine bcf (by assumption) ?_; (refine rO (And.intro hL1 (And.intro hL2 (And.intro hL3 (And.intro hL4 (And.intro hL5 (And.intro hL6 (@RowD.dv.eq_1))))))) ?_; try (with_reducible exact True.intro))))); all_goals (exact (show okTr _ _ = true by kernel_rfl)))); ((refine rO (And.intro hL1 (And.intro hL2 (And.intro hL3 (And.intro hL4 (And.intro hL5 (And.intro hL6 (@RowD.dv.eq_1))))))) ?_; try (with_reducible exact True.intro)); (repeat (refine bcf (by assumption) ?_; (refine rO (And.intro hL1 (And.intro hL2 (And.intro hL3 (And.intro hL4 (And.intro hL5 (And.intro hL6 (@RowD.dv.eq_1))))))) ?_; try (with_reducible exact True.intro))))); all_goals (exact (show okTr _ _ = true by kernel_rfl)))
  (refine gO0 ?_; try (with_reducible exact True.intro))
  (refine rO0 ?_; try (with_reducible exact True.intro))
def batZ : BatD := ⟨0, 0, 0, false, []⟩
def zE (k : Int) : EntD := ⟨k, batZ, false, 0, 0, rowZ, prodZ⟩
theorem zE_le (k : Int) : AllLe (zE k).dvn (zE k).dv := dvn_le _ rfl rfl
/-- Records nil. -/
def EntD.dvb (e : EntD) : List D := [i8 e.kind, int e.b.pid, int e.b.epoch, int e.b.seq, boo e.b.txn, nilV, boo e.yes, int e.next, int e.off, int e.row.off, int e.row.pid, int e.row.seq, str e.row.key, str e.row.value, int e.prod.pid, int e.prod.epoch, int e.prod.next, .lst 3 (e.prod.seen.map SeenD.dv)]
theorem dvb_le (e : EntD) (h' : e.b.recs = []) : AllLe e.dvb e.dv := by
  unfold EntD.dvb EntD.dv
  rw [h']
  exact .cons (.refl _) (.cons (.refl _) (.cons (.refl _) (.cons (.refl _) (.cons (.refl _) (.cons (.nil 2) (AllLe.refl _))))))
theorem may0_fun (b : BatD) (yes : Bool) (next off : Int) (row : RowD) (prod : ProdD) (hr : b.recs.length ≤ 100000) (hq : prod.seen.length ≤ 100000) :
    Fun Tryd.prog 59 [.agg (EntD.mk 0 b yes next off row prod).dv] (boo (batB b && decide ((⟨0, batZ, yes, next, off, row, prod⟩ : EntD) = zE 0))) := by
  have c1 := recMay_fun b hr
  have c2 := (eqEnt_fun ⟨0, batZ, yes, next, off, row, prod⟩ (zE 0) (by simp [batZ]) hq).args (.cons (.agg (dvb_le ⟨0, batZ, yes, next, off, row, prod⟩ rfl)) (.cons (.agg (zE_le 0)) .nil))
  simp only [BatD.dv, EntD.dvb, EntD.dvn, zE, batZ, rowZ, prodZ] at c1 c2 ⊢
  (refine Fun.of_body Tryd.func59 rfl rfl Tryd.ntmps59 Tryd.results59 (by simp) ?_)
  cases hb : batB b <;> rw [hb] at c1 <;> ((refine gO (@EntD.dv.eq_1) ?_; try (with_reducible exact True.intro)); (refine rO0 ?_; try (with_reducible exact True.intro)))
theorem may1_fun (b : BatD) (yes : Bool) (next off : Int) (row : RowD) (prod : ProdD) (hr : b.recs.length ≤ 100000) (hq : prod.seen.length ≤ 100000) :
    Fun Tryd.prog 59 [.agg (EntD.mk 1 b yes next off row prod).dv] (boo (prodB b.pid b.epoch && decide ((⟨1, ⟨0, 0, b.seq, b.txn, b.recs⟩, false, next, off, row, prod⟩ : EntD) = zE 1))) := by
  have c1 := producer_fun b.pid b.epoch
  have c2 := (eqEnt_fun ⟨1, ⟨0, 0, b.seq, b.txn, b.recs⟩, false, next, off, row, prod⟩ (zE 1) hr hq).args (.cons (.refl _) (.cons (.agg (zE_le 1)) .nil))
  simp only [EntD.dv, EntD.dvn, zE, batZ, rowZ, prodZ] at c2 ⊢
  (refine Fun.of_body Tryd.func59 rfl rfl Tryd.ntmps59 Tryd.results59 (by simp) ?_)
  cases hb : prodB b.pid b.epoch <;> rw [hb] at c1 <;> ((refine gO (@EntD.dv.eq_1) ?_; try (with_reducible exact True.intro)); (refine rO0 ?_; try (with_reducible exact True.intro)))
theorem may2_fun (b : BatD) (yes : Bool) (next off : Int) (row : RowD) (prod : ProdD) (hr : b.recs.length ≤ 100000) (hq : prod.seen.length ≤ 100000) :
    Fun Tryd.prog 59 [.agg (EntD.mk 2 b yes next off row prod).dv] (boo (withB off 0 1048576 && decide ((⟨2, b, yes, next, 0, row, prod⟩ : EntD) = zE 2))) := by
  have c2 := (eqEnt_fun ⟨2, b, yes, next, 0, row, prod⟩ (zE 2) hr hq).args (.cons (.refl _) (.cons (.agg (zE_le 2)) .nil))
  simp only [EntD.dv, EntD.dvn, zE, batZ, rowZ, prodZ] at c2 ⊢
  (refine Fun.of_body Tryd.func59 rfl rfl Tryd.ntmps59 Tryd.results59 (by simp) ?_)
  cases h1 : decide (0 ≤ off) <;> cases h2 : decide (off ≤ 1048576) <;> ((refine gO (And.intro @EntD.dv.eq_1 (And.intro h1 (h2))) ?_; try (with_reducible exact True.intro)); (refine rO (And.intro @withB.eq_1 (And.intro h1 (h2))) ?_; try (with_reducible exact True.intro)))
theorem may3_fun (b : BatD) (yes : Bool) (next off : Int) (row : RowD) (prod : ProdD) (hr : b.recs.length ≤ 100000) (hq : prod.seen.length ≤ 100000) :
    Fun Tryd.prog 59 [.agg (EntD.mk 3 b yes next off row prod).dv] (boo (b.txn && ((!yes || withB next 0 1048576) && (batB b && decide ((⟨3, batZ, false, if yes then 0 else next, off, row, prod⟩ : EntD) = zE 3))))) := by
  have c1 := recMay_fun b hr
  have c3 := sequence_fun next
  have c2 := (eqEnt_fun ⟨3, batZ, false, if yes then 0 else next, off, row, prod⟩ (zE 3) (by simp [batZ]) hq).args (.cons (.agg (dvb_le ⟨3, batZ, false, if yes then 0 else next, off, row, prod⟩ rfl)) (.cons (.agg (zE_le 3)) .nil))
  simp only [BatD.dv, EntD.dvb, EntD.dvn, zE, batZ, rowZ, prodZ] at c1 c2 ⊢
  (refine Fun.of_body Tryd.func59 rfl rfl Tryd.ntmps59 Tryd.results59 (by simp) ?_)
  cases ht : b.txn
  · (refine gO (And.intro @EntD.dv.eq_1 (ht)) ?_; try (with_reducible exact True.intro))
    (refine rO (ht) ?_; try (with_reducible exact True.intro))
  rw [ht] at c1
  cases yes
  · simp only [Bool.false_eq_true, if_false] at c2 ⊢
    cases hb : batB b <;> rw [hb] at c1 <;> ((refine gO (And.intro @EntD.dv.eq_1 (ht)) ?_; try (with_reducible exact True.intro)); (refine rO (ht) ?_; try (with_reducible exact True.intro)))
  · simp only [if_true] at c2 ⊢
    cases hw : withB next 0 1048576 <;> rw [hw] at c3
    · (refine gO (And.intro @EntD.dv.eq_1 (ht)) ?_; try (with_reducible exact True.intro))
      (refine rO (ht) ?_; try (with_reducible exact True.intro))
    · cases hb : batB b <;> rw [hb] at c1 <;> ((refine gO (And.intro @EntD.dv.eq_1 (ht)) ?_; try (with_reducible exact True.intro)); (refine rO (ht) ?_; try (with_reducible exact True.intro)))
theorem may4_fun (b : BatD) (yes : Bool) (next off : Int) (row : RowD) (prod : ProdD) (hr : b.recs.length ≤ 100000) (hq : prod.seen.length ≤ 100000) :
    Fun Tryd.prog 59 [.agg (EntD.mk 4 b yes next off row prod).dv] (boo (!yes && (withB next 0 1048576 && (prodB b.pid b.epoch && decide ((⟨4, ⟨0, 0, b.seq, b.txn, b.recs⟩, false, 0, off, row, prod⟩ : EntD) = zE 4))))) := by
  have c1 := producer_fun b.pid b.epoch
  have c3 := sequence_fun next
  have c2 := (eqEnt_fun ⟨4, ⟨0, 0, b.seq, b.txn, b.recs⟩, false, 0, off, row, prod⟩ (zE 4) hr hq).args (.cons (.refl _) (.cons (.agg (zE_le 4)) .nil))
  simp only [EntD.dv, EntD.dvn, zE, batZ, rowZ, prodZ] at c2 ⊢
  (refine Fun.of_body Tryd.func59 rfl rfl Tryd.ntmps59 Tryd.results59 (by simp) ?_)
  cases hy : yes
  rotate_left
  · (refine gO (And.intro @EntD.dv.eq_1 (hy)) ?_; try (with_reducible exact True.intro))
    (refine rO (hy) ?_; try (with_reducible exact True.intro))
  cases hw : withB next 0 1048576 <;> rw [hw] at c3
  · (refine gO (And.intro @EntD.dv.eq_1 (hy)) ?_; try (with_reducible exact True.intro))
    (refine rO (hy) ?_; try (with_reducible exact True.intro))
  · cases hb : prodB b.pid b.epoch <;> rw [hb] at c1 <;> ((refine gO (And.intro @EntD.dv.eq_1 (hy)) ?_; try (with_reducible exact True.intro)); (refine rO (hy) ?_; try (with_reducible exact True.intro)))
theorem may5_fun (b : BatD) (yes : Bool) (next off : Int) (row : RowD) (prod : ProdD) (hr : b.recs.length ≤ 100000) (hq : prod.seen.length ≤ 100000) :
    Fun Tryd.prog 59 [.agg (EntD.mk 5 b yes next off row prod).dv] (boo (rowB row && decide ((⟨5, b, yes, next, off, rowZ, prod⟩ : EntD) = zE 5))) := by
  have c1 := rowI_fun row
  have c2 := (eqEnt_fun ⟨5, b, yes, next, off, rowZ, prod⟩ (zE 5) hr hq).args (.cons (.refl _) (.cons (.agg (zE_le 5)) .nil))
  simp only [RowD.dv, EntD.dv, EntD.dvn, zE, batZ, rowZ, prodZ] at c1 c2 ⊢
  (refine Fun.of_body Tryd.func59 rfl rfl Tryd.ntmps59 Tryd.results59 (by simp) ?_)
  cases hb : rowB row <;> rw [hb] at c1 <;> ((refine gO (@EntD.dv.eq_1) ?_; try (with_reducible exact True.intro)); (refine rO0 ?_; try (with_reducible exact True.intro)))
theorem may6_fun (b : BatD) (yes : Bool) (next off : Int) (row : RowD) (prod : ProdD) (hr : b.recs.length ≤ 100000) (hq : prod.seen.length ≤ 100000) :
    Fun Tryd.prog 59 [.agg (EntD.mk 6 b yes next off row prod).dv] (boo (knownB prod && decide ((⟨6, b, yes, next, off, row, prodZ⟩ : EntD) = zE 6))) := by
  have c1 := known_fun prod hq
  have c2 := (eqEnt_fun ⟨6, b, yes, next, off, row, prodZ⟩ (zE 6) hr (by simp [prodZ])).args (.cons (.agg (dvz_le ⟨6, b, yes, next, off, row, prodZ⟩ rfl)) (.cons (.agg (zE_le 6)) .nil))
  simp only [ProdD.dv, EntD.dvz, EntD.dvn, zE, batZ, rowZ, prodZ] at c1 c2 ⊢
  (refine Fun.of_body Tryd.func59 rfl rfl Tryd.ntmps59 Tryd.results59 (by simp) ?_)
  cases hb : knownB prod <;> rw [hb] at c1 <;> ((refine gO (@EntD.dv.eq_1) ?_; try (with_reducible exact True.intro)); (refine rO0 ?_; try (with_reducible exact True.intro)))
end Go.Proofs.YtafipkbffboebaaDoor
namespace Go.Proofs.YtafipkbffboebaaDoor
open Go Go.RowKit
set_option maxHeartbeats 8000000
set_option maxRecDepth 100000
set_option linter.unusedVariables false
set_option linter.unusedSimpArgs false
def mayI (e : EntD) : Bool :=
  if e.kind = 0 then batB e.b && decide ((⟨0, batZ, e.yes, e.next, e.off, e.row, e.prod⟩ : EntD) = zE 0)
  else if e.kind = 1 then prodB e.b.pid e.b.epoch && decide ((⟨1, ⟨0, 0, e.b.seq, e.b.txn, e.b.recs⟩, false, e.next, e.off, e.row, e.prod⟩ : EntD) = zE 1)
  else if e.kind = 2 then withB e.off 0 1048576 && decide ((⟨2, e.b, e.yes, e.next, 0, e.row, e.prod⟩ : EntD) = zE 2)
  else if e.kind = 3 then e.b.txn && ((!e.yes || withB e.next 0 1048576) && (batB e.b && decide ((⟨3, batZ, false, if e.yes then 0 else e.next, e.off, e.row, e.prod⟩ : EntD) = zE 3)))
  else if e.kind = 4 then !e.yes && (withB e.next 0 1048576 && (prodB e.b.pid e.b.epoch && decide ((⟨4, ⟨0, 0, e.b.seq, e.b.txn, e.b.recs⟩, false, 0, e.off, e.row, e.prod⟩ : EntD) = zE 4)))
  else if e.kind = 5 then rowB e.row && decide ((⟨5, e.b, e.yes, e.next, e.off, rowZ, e.prod⟩ : EntD) = zE 5)
  else knownB e.prod && decide ((⟨6, e.b, e.yes, e.next, e.off, e.row, prodZ⟩ : EntD) = zE 6)
theorem entMay_fun (e : EntD) (hk : 0 ≤ e.kind ∧ e.kind < 7) (hr : e.b.recs.length ≤ 100000) (hq : e.prod.seen.length ≤ 100000) : Fun Tryd.prog 59 [.agg e.dv] (boo (mayI e)) := by
  obtain ⟨k, b, yes, next, off, row, prod⟩ := e
  have : k = 0 ∨ k = 1 ∨ k = 2 ∨ k = 3 ∨ k = 4 ∨ k = 5 ∨ k = 6 := by simp only at hk; omega
  rcases this with rfl | rfl | rfl | rfl | rfl | rfl | rfl
  · exact may0_fun b yes next off row prod hr hq
  · exact may1_fun b yes next off row prod hr hq
  · exact may2_fun b yes next off row prod hr hq
  · exact may3_fun b yes next off row prod hr hq
  · exact may4_fun b yes next off row prod hr hq
  · exact may5_fun b yes next off row prod hr hq
  · exact may6_fun b yes next off row prod hr hq
theorem nx_ty : Tryd.prog.underlying 110 = some (.array 7 109) := by kernel_rfl
theorem nx_info : ∃ j, Tryd.prog.info? 109 = some j ∧ j.size = 1 := by
  obtain ⟨j, h1, h2⟩ := Option.map_eq_some_iff.1 (show (Tryd.prog.info? 109).map (·.size) = some 1 by kernel_rfl)
  exact ⟨j, h1, h2⟩
abbrev nilFs7 : Value := .agg #[.nilFunc, .nilFunc, .nilFunc, .nilFunc, .nilFunc, .nilFunc, .nilFunc]
theorem nilFs7_cells : nilFs7.cells.toList = [.nilFunc, .nilFunc, .nilFunc, .nilFunc, .nilFunc, .nilFunc, .nilFunc] := rfl
theorem nx_z : pureRun Tryd.prog (zeroValue 110) = some nilFs7 := by kernel_rfl
abbrev fnC (f : FuncId) : CV := .d (.fn (.func f) [])
abbrev nxB : List CV := [fnC 53, fnC 54, fnC 55, fnC 56, fnC 56, fnC 57, fnC 58]
def nxF (k : Int) : FuncId := if k = 0 then 53 else if k = 1 then 54 else if k = 2 then 55 else if k = 3 then 56 else if k = 4 then 56 else if k = 5 then 57 else 58
theorem nx_TI : ∃ j, TI Tryd.prog 109 = some j ∧ j.agg = false := by
  obtain ⟨j, h1, h2⟩ := Option.map_eq_some_iff.1 (show (TI Tryd.prog 109).map (·.agg) = some false by kernel_rfl)
  exact ⟨j, h1, h2⟩
theorem nx_get (k : Int) (h0 : 0 ≤ k) (h5 : k < 7) : nxB[k.toNat * 1]? = some (fnC (nxF k)) := by
  have : k = 0 ∨ k = 1 ∨ k = 2 ∨ k = 3 ∨ k = 4 ∨ k = 5 ∨ k = 6 := by omega
  rcases this with e | e | e | e | e | e | e <;> subst e <;> rfl
abbrev nxMsg : List UInt8 := [97, 110, 32, 101, 110, 116, 114, 121, 32, 116, 104, 97, 116, 32, 105, 115, 32, 110, 111, 116, 32, 118, 97, 108, 105, 100, 44, 32, 111, 114, 32, 97, 110, 32, 101, 110, 100, 32, 116, 104, 97, 116, 32, 105, 115, 32, 116, 111, 111, 32, 103, 114, 101, 97, 116]
theorem nextGo_fun (s t : FoldS) (e : EntD) (r : SV) (hp : OpOk s.p.opens) (hpt : PidOk t.p.opens) (hrid : subB r.ids inK = true) (hk : 0 ≤ e.kind ∧ e.kind < 7) (hr : e.b.recs.length ≤ 100000) (hq : e.prod.seen.length ≤ 100000) (hm : mayI e = true) (hf : s.p.fin ≤ 1048576)
    (hgo : FunG Tryd.prog (nxF e.kind) [.c (.own 0 0), entV e] inK (ofH (inM s)) r inK (ofH (inM t))) :
    FunG Tryd.prog 30 [.c (.own 0 0), entV e] inK (ofH (inM s)) r inK (ofH (inM t)) := by
  have c1 := entMay_fun e hk hr hq
  rw [hm] at c1
  have c2 := fits_fun s.p 0
  rw [show IntKind.i64.wrap (1048576 - 0) = 1048576 from wrap_i64 (by decide), show decide (s.p.fin ≤ 1048576) = true from decide_eq_true hf] at c2
  have d1 : decide (e.kind < 0) = false := decide_eq_false (by omega)
  have d2 : decide (7 ≤ e.kind) = false := decide_eq_false (by omega)
  have hwr : IntKind.i64.wrap e.kind = e.kind := wrap_i64 (by omega)
  have hk0 := hk.1
  have hbV : entV e = .agg [.d (i8 e.kind), .d (int e.b.pid), .d (int e.b.epoch), .d (int e.b.seq), .d (boo e.b.txn), .d (.lst 2 (e.b.recs.map RecD.dv)), .d (boo e.yes), .d (int e.next), .d (int e.off), .d (int e.row.off), .d (int e.row.pid), .d (int e.row.seq), .d (str e.row.key), .d (str e.row.value), .d (int e.prod.pid), .d (int e.prod.epoch), .d (int e.prod.next), .d (.lst 3 (e.prod.seen.map SeenD.dv))] := rfl
  simp only [EntD.dv] at c1
  obtain ⟨fi, fi1, fi2⟩ := nx_info
  refine FunG.of_bodyH rfl rfl Tryd.func30 rfl rfl Tryd.ntmps30 Tryd.results30 (Nat.le_of_ble_eq_true rfl) (okG_in rfl hrid hp.pid hpt) ?_
  (refine gO (And.intro @GRUN (@EntD.dv.eq_1)) ?_; try (with_reducible exact True.intro))
  (first | refine Wp.sregG ?_ | refine Wp.regG ?_ | (refine Wp.seq ?_; first | refine Wp.sregG ?_ | refine Wp.regG ?_))
  refine GRun.arrNew (s := 1) (cs := nxB) rfl nx_ty fi1 fi2 nx_z (by rfl) ⟨by kernel_rfl, by kernel_rfl, ?_⟩ ?_
  · simp (maxSteps := 2000000) (disch := omega) only [RUN, TY, RUNB, aop, ofV, SV.ofD, aLd, aSt, aFd, aPt, aLen, aSl, aIf, aMF, aXt, aBu, aCX, aCL, aCy, CV.exact, CV.lstOf, CV.lenOf, CV.one, D.one, Value.oneCell', CV.toD0, iFl, oWn, pLk, nD0, rD0, bQ0, tQ0, kQ0, reduceCtorEq, reduceIte, Nat.reduceBEq, Nat.reduceEqDiff, Nat.reduceAdd, Nat.reduceMul, Nat.reduceSub, Nat.reduceLT, Nat.reduceLeDiff, Nat.reduceBNe, Int.reduceLE, Int.reduceLT, Int.reduceBEq, Int.reduceBNe, Int.reduceEq, Int.reduceNeg, Int.reduceAdd, Int.reduceSub, Int.reduceToNat, forall_const, List.map_cons, List.map_nil, nilFs7_cells, afill, SV.cells, CV.one, splice, List.length_cons, List.length_nil, List.drop_succ_cons, List.drop_zero, List.take_succ_cons, List.take_zero]
  (refine GRun.done (fun K hK => ?_); (refine rO (@GRUN) ?_; try (with_reducible exact True.intro)); refine hK _ ?_; clear hK K)
  (first | refine Wp.sreg (fun K hK => ?_) | refine Wp.reg (fun K hK => ?_) | (refine Wp.seq ?_; first | refine Wp.sreg (fun K hK => ?_) | refine Wp.reg (fun K hK => ?_)))
  (refine rO (And.intro @GRUN (And.intro @EntD.dv.eq_1 (And.intro d1 (And.intro d2 (And.intro @sc_conv (hwr)))))) ?_; try (with_reducible exact True.intro))
  refine bcf c1 ?_
  (refine rO (And.intro @GRUN (And.intro @EntD.dv.eq_1 (And.intro d1 (And.intro d2 (And.intro @sc_conv (hwr)))))) ?_; try (with_reducible exact True.intro))
  refine bcall_s c2 rfl (snap_arg hp (by (refine rO (And.intro @GRUN (And.intro @endB.eq_1 (@endB.eq_2))) ?_; try (with_reducible exact True.intro)))) ?_
  (refine rO (@GRUN) ?_; try (with_reducible exact True.intro))
  refine hK _ ?_
  clear hK K
  (refine gO (And.intro @GRUN (@EntD.dv.eq_1)) ?_; try (with_reducible exact True.intro))
  (first | refine Wp.sregM mixed ?_ | refine Wp.regM mixed ?_ | (refine Wp.seq ?_; first | refine Wp.sregM mixed ?_ | refine Wp.regM mixed ?_))
  (refine MTr.at 2 (fun K hK => ?_); (refine rO (@GRUN) ?_; try (with_reducible exact True.intro)); refine hK _ _ ?_; clear hK K)
  refine MTr.arrAt rfl 1001 0 e.kind.toNat nx_ty fi1 fi2 (by omega) ⟨by kernel_rfl, by kernel_rfl, ?_, ?_⟩ ?_
  · (refine rO (@GRUN) ?_; try (with_reducible exact True.intro))
  · (refine rO (And.intro @GRUN (hk0)) ?_; try (with_reducible exact True.intro))
  have hld := nx_get e.kind hk.1 hk.2
  obtain ⟨fj, fj1, fj2⟩ := nx_TI
  (refine MTr.at 3 (fun K hK => ?_); (refine rO (And.intro @GRUN (And.intro hld (And.intro fj1 (And.intro fj2 (@EntD.dv.eq_1))))) ?_; try (with_reducible exact True.intro)); refine hK _ _ ?_; clear hK K)
  (refine MTr.call (hgo) [] 1004 rfl rfl ?_ ?_; (focus ((refine rOs (And.intro @HEREN (And.intro @GRUN (And.intro @HE_ren_id (hbV)))) ?_; try (with_reducible exact True.intro)); done)))
  (refine MTr.done (fun K hK => ?_); (refine rOt (And.intro @GRUN (And.intro @putB.eq_1 (And.intro @putB.eq_2 (And.intro @HE_ren_id (@SV_ren_id))))) ?_; try (with_reducible exact True.intro)); refine hK _ _ ?_; clear hK K; refine ⟨by kernel_rfl, ?_⟩)
  (refine gO0 ?_; try (with_reducible exact True.intro))
  refine bodyQG.ret ?_
  (refine rO (And.intro @GRUN (And.intro @endB.eq_1 (@endB.eq_2))) ?_; try (with_reducible exact True.intro))
def okKind (e : EntD) : Bool := decide (0 ≤ e.kind) && decide (e.kind < 7) && mayI e
theorem nextBad_fun (s : FoldS) (e : EntD) (hp : OpOk s.p.opens) (hi8 : -128 ≤ e.kind ∧ e.kind ≤ 127) (hr : e.b.recs.length ≤ 100000) (hq : e.prod.seen.length ≤ 100000) (hm : okKind e = false) :
    FunG Tryd.prog 30 [.c (.own 0 0), entV e] inK (ofH (inM s)) (imposV nxMsg) inK (ofH (inM s)) := by
  have c3 := impos_fun nxMsg
  obtain ⟨fi, fi1, fi2⟩ := nx_info
  have hwr : IntKind.i64.wrap e.kind = e.kind := wrap_i64 (by omega)
  refine FunG.of_bodyH rfl rfl Tryd.func30 rfl rfl Tryd.ntmps30 Tryd.results30 (Nat.le_of_ble_eq_true rfl) (okG_in rfl rfl hp.pid hp.pid) ?_
  (refine gO (And.intro @GRUN (@EntD.dv.eq_1)) ?_; try (with_reducible exact True.intro))
  (first | refine Wp.sregG ?_ | refine Wp.regG ?_ | (refine Wp.seq ?_; first | refine Wp.sregG ?_ | refine Wp.regG ?_))
  refine GRun.arrNew (s := 1) (cs := nxB) rfl nx_ty fi1 fi2 nx_z (by rfl) ⟨by kernel_rfl, by kernel_rfl, ?_⟩ ?_
  · simp (maxSteps := 2000000) (disch := omega) only [RUN, TY, RUNB, aop, ofV, SV.ofD, aLd, aSt, aFd, aPt, aLen, aSl, aIf, aMF, aXt, aBu, aCX, aCL, aCy, CV.exact, CV.lstOf, CV.lenOf, CV.one, D.one, Value.oneCell', CV.toD0, iFl, oWn, pLk, nD0, rD0, bQ0, tQ0, kQ0, reduceCtorEq, reduceIte, Nat.reduceBEq, Nat.reduceEqDiff, Nat.reduceAdd, Nat.reduceMul, Nat.reduceSub, Nat.reduceLT, Nat.reduceLeDiff, Nat.reduceBNe, Int.reduceLE, Int.reduceLT, Int.reduceBEq, Int.reduceBNe, Int.reduceEq, Int.reduceNeg, Int.reduceAdd, Int.reduceSub, Int.reduceToNat, forall_const, List.map_cons, List.map_nil, nilFs7_cells, afill, SV.cells, CV.one, splice, List.length_cons, List.length_nil, List.drop_succ_cons, List.drop_zero, List.take_succ_cons, List.take_zero]
  (refine GRun.done (fun K hK => ?_); (refine rO (@GRUN) ?_; try (with_reducible exact True.intro)); refine hK _ ?_; clear hK K)
  by_cases h1 : e.kind < 0
  · have d1 : decide (e.kind < 0) = true := decide_eq_true h1
    (refine gO (And.intro @GRUN (And.intro @EntD.dv.eq_1 (And.intro d1 (And.intro @sc_conv (hwr))))) ?_; try (with_reducible exact True.intro))
    refine bodyQG.ret ?_
    (refine rO (And.intro @GRUN (And.intro @endB.eq_1 (@endB.eq_2))) ?_; try (with_reducible exact True.intro))
  have d1 : decide (e.kind < 0) = false := decide_eq_false h1
  by_cases h2 : 7 ≤ e.kind
  · have d2 : decide (7 ≤ e.kind) = true := decide_eq_true h2
    (refine gO (And.intro @GRUN (And.intro @EntD.dv.eq_1 (And.intro d1 (And.intro d2 (And.intro @sc_conv (hwr)))))) ?_; try (with_reducible exact True.intro))
    refine bodyQG.ret ?_
    (refine rO (And.intro @GRUN (And.intro @endB.eq_1 (@endB.eq_2))) ?_; try (with_reducible exact True.intro))
  have d2 : decide (7 ≤ e.kind) = false := decide_eq_false h2
  have c1 := entMay_fun e (by omega) hr hq
  have hm2 : mayI e = false := by
    unfold okKind at hm
    rw [show decide (0 ≤ e.kind) = true from decide_eq_true (by omega), show decide (e.kind < 7) = true from decide_eq_true (by omega)] at hm
    exact hm
  rw [hm2] at c1
  simp only [EntD.dv] at c1
  (refine gO (And.intro @GRUN (And.intro @EntD.dv.eq_1 (And.intro d1 (And.intro d2 (And.intro @sc_conv (hwr)))))) ?_; try (with_reducible exact True.intro))
  refine bodyQG.ret ?_
  (refine rO (And.intro @GRUN (And.intro @endB.eq_1 (@endB.eq_2))) ?_; try (with_reducible exact True.intro))
end Go.Proofs.YtafipkbffboebaaDoor
