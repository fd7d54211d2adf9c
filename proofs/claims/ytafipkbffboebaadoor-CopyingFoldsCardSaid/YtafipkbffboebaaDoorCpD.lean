/- The reference of layer 7: the same entries? too great ones? -/
import Derived.Test.YtafipkbffboebaaDoorCpD0
import Derived.Test.YtafipkbffboebaaDoorSqM
namespace Go.Proofs.YtafipkbffboebaaDoor
open Go Go.RowKit
set_option maxHeartbeats 8000000
set_option maxRecDepth 100000
set_option linter.unusedVariables false
set_option linter.unusedSimpArgs false
theorem RecD_fs (f g : RecD) : ∃ fs, Tryd.prog.underlying 70 = some (.struct fs) ∧ eqFs Tryd.prog 9999 #[.string ⟨List.toArray f.key⟩, .string ⟨List.toArray f.value⟩] #[.string ⟨List.toArray g.key⟩, .string ⟨List.toArray g.value⟩] fs.toList = some (decide (f = g)) := by
  refine ⟨_, Tryd.underlying70, ?_⟩
  have is : pureRun Tryd.prog (isAgg 9) = some false := by kernel_rfl
  have ss := fun x y => eqIn_str (d := 9998) Tryd.underlying9 x y
  simp only [Nat.reduceAdd] at ss
  obtain ⟨a1, a2⟩ := f
  obtain ⟨b1, b2⟩ := g
  have e : decide (RecD.mk a1 a2 = RecD.mk b1 b2) = (a1 == b1 && (a2 == b2)) := by rw [Bool.eq_iff_iff]; simp only [RecD.mk.injEq, Bool.and_eq_true, beq_iff_eq, decide_eq_true_eq]
  rw [e]
  cases h1 : (a1 == b1) <;> cases h2 : (a2 == b2) <;> simp [eqFs, is, ss, bs_beq, h1, h2]
theorem RecD_bin (x y : Operand) (f g : RecD) : aBin Tryd.prog .eql 70 x y (.agg [.d (str f.key), .d (str f.value)]) (.agg [.d (str g.key), .d (str g.value)]) = some (Res.pure (vb (decide (f = g)))) ∧ aBin Tryd.prog .neq 70 x y (.agg [.d (str f.key), .d (str f.value)]) (.agg [.d (str g.key), .d (str g.value)]) = some (Res.pure (vb (!decide (f = g)))) := by
  obtain ⟨fs, hu, he⟩ := RecD_fs f g
  exact agg_eql hu (by kernel_rfl) (by kernel_rfl) he
def batNe (a b : BatD) : Bool := a.pid != b.pid || a.epoch != b.epoch || a.seq != b.seq || !(a.txn == b.txn) || (a.recs.length : Int) != (b.recs.length : Int)
theorem sameBat_fun (a b : BatD) (hl : a.recs.length < 2 ^ 40) : Fun Tryd.prog 52 [.agg a.dv, .agg b.dv] (boo (decide (a = b))) := by
  (refine Fun.of_body Tryd.func52 rfl rfl Tryd.ntmps52 Tryd.results52 (by simp) ?_)
  (refine gO (@BatD.dv.eq_1) ?_; try (with_reducible exact True.intro))
  (first | refine Wp.sto 40 (vb (batNe a b)) ?_ ?_ | refine Wp.rtoS 40 (vb (batNe a b)) ?_ ?_ | (refine Wp.seq ?_; first | refine Wp.sto 40 (vb (batNe a b)) ?_ ?_ | refine Wp.rtoS 40 (vb (batNe a b)) ?_ ?_))
  · unfold batNe; ((rcases Bool.eq_false_or_eq_true (a.pid != b.pid) with hL1 | hL1; focus (((refine rO (And.intro hL1 (@BatD.dv.eq_1)) ?_; try (with_reducible exact True.intro)); (repeat (refine bcf (by assumption) ?_; (refine rO (And.intro hL1 (@BatD.dv.eq_1)) ?_; try (with_reducible exact True.intro))))); all_goals (exact (show okTr _ _ = true by kernel_rfl)))); (rcases Bool.eq_false_or_eq_true (a.epoch != b.epoch) with hL2 | hL2; focus (((refine rO (And.intro hL1 (And.intro hL2 (@BatD.dv.eq_1))) ?_; try (with_reducible exact True.intro)); (repeat (refine bcf (by assumption) ?_; (refine rO (And.intro hL1 (And.intro hL2 (@BatD.dv.eq_1))) ?_; try (with_reducible exact True.intro))))); all_goals (exact (show okTr _ _ = true by kernel_rfl)))); (rcases Bool.eq_false_or_eq_true (a.seq != b.seq) with hL3 | hL3; focus (((refine rO (And.intro hL1 (And.intro hL2 (And.intro hL3 (@BatD.dv.eq_1)))) ?_; try (with_reducible exact True.intro)); (repeat (refine bcf (by assumption) ?_; (refine rO (And.intro hL1 (And.intro hL2 (And.intro hL3 (@BatD.dv.eq_1)))) ?_; try (with_reducible exact True.intro))))); all_goals (exact (show okTr _ _ = true by kernel_rfl)))); (rcases Bool.eq_false_or_eq_true (!(a.txn == b.txn)) with hL4 | hL4; focus (((refine rO (And.intro hL1 (And.intro hL2 (And.intro hL3 (And.intro hL4 (@BatD.dv.eq_1))))) ?_; try (with_reducible exact True.intro)); (repeat (refine bcf (by assumption) ?_; (refine rO (And.intro hL1 (And.intro hL2 (And.intro hL3 (And.intro hL4 (@BatD.dv.eq_1))))) ?_; try (with_reducible exact True.intro))))); all_goals (exact (show okTr _ _ = true by kernel_rfl)))); (rcases Bool.eq_false_or_eq_true ((a.recs.length : Int) != (b.recs.length : Int)) with hL5 | hL5; focus (((refine rO (And.intro hL1 (And.intro hL2 (And.intro hL3 (And.intro hL4 (And.intro hL5 (@BatD.dv.eq_1)))))) ?_; try (with_reducible exact True.intro)); (repeat (refine bcf (by assumption) ?_; (refine rO (And.intro hL1 (And.intro hL2 (And.intro hL3 (And.intro hL4 (And.intro hL5 (@BatD.dv.eq_1)))))) ?_; try (with_reducible exact True.intro))))); all_goals (exact (show okTr _ _ = true by kernel_rfl)))); ((refine rO (And.intro hL1 (And.intro hL2 (And.intro hL3 (And.intro hL4 (And.intro hL5 (@BatD.dv.eq_1)))))) ?_; try (with_reducible exact True.intro)); (repeat (refine bcf (by assumption) ?_; (refine rO (And.intro hL1 (And.intro hL2 (And.intro hL3 (And.intro hL4 (And.intro hL5 (@BatD.dv.eq_1)))))) ?_; try (with_reducible exact True.intro))))); all_goals (exact (show okTr _ _ = true by kernel_rfl)))
  refine Wp.cond (by (refine rO0 ?_; try (with_reducible exact True.intro)); rfl) (fun h => ?_) (fun h => ?_)
  · have hf : decide (a = b) = false := by
      refine decide_eq_false (fun e => ?_)
      subst e
      simp [batNe] at h
    (refine gO0 ?_; try (with_reducible exact True.intro))
    (refine rO (hf) ?_; try (with_reducible exact True.intro))
  simp only [batNe, Bool.or_eq_false_iff, bne_eq_false_iff_eq, Bool.not_eq_false', beq_iff_eq] at h
  obtain ⟨⟨⟨⟨h1, h2⟩, h3⟩, h4⟩, h5⟩ := h
  have hlen : a.recs.length = b.recs.length := by omega
  (refine gO (@BatD.dv.eq_1) ?_; try (with_reducible exact True.intro))
  refine Wp.loop (fun k : Nat => ⟨ofL [(2, .c (.own 0 0)), (3, .c (.own 1 0)), (5, vi .i64 k)], ofH [(0, .cells (a.dv.map .d)), (1, .cells (b.dv.map .d))], 2, 59, 0⟩) (fun k => k ≤ a.recs.length ∧ a.recs.take k = b.recs.take k) (fun k => a.recs.length - k) 0 ⟨Nat.zero_le _, rfl⟩ ?_ ?_
  · refine Weak.keep rfl rfl ?_
    (refine rO (@BatD.dv.eq_1) ?_; try (with_reducible exact True.intro))
  rintro k ⟨hk, hall⟩
  (refine gO (@BatD.dv.eq_1) ?_; try (with_reducible exact True.intro))
  refine Wp.cond (by (refine rO0 ?_; try (with_reducible exact True.intro)); rfl) (fun h => ?_) (fun h => ?_)
  · have hlt : k < a.recs.length := by simpa using h
    have hlt2 : k < b.recs.length := by omega
    have g1 : a.recs[k]? = some a.recs[k] := List.getElem?_eq_getElem hlt
    have g2 : b.recs[k]? = some b.recs[k] := List.getElem?_eq_getElem hlt2
    have t1 := take_succ_get a.recs k hlt
    have t2 := take_succ_get b.recs k hlt2
    have hne : a.recs[k] ≠ b.recs[k] → ¬ a = b := fun hx e => by subst e; exact hx rfl
    generalize a.recs[k] = x at *
    generalize b.recs[k] = y at *
    (refine gO (And.intro g1 (And.intro g2 (And.intro @RecD.dv.eq_1 (@RecD_bin)))) ?_; try (with_reducible exact True.intro))
    refine Wp.cond (by (refine rO0 ?_; try (with_reducible exact True.intro)); rfl) (fun h => ?_) (fun h => ?_)
    · have hf : decide (a = b) = false := decide_eq_false (hne (by simpa using h))
      (refine gO0 ?_; try (with_reducible exact True.intro))
      (refine rO (hf) ?_; try (with_reducible exact True.intro))
    · simp only [Bool.not_eq_false', decide_eq_true_eq] at h
      (refine gO0 ?_; try (with_reducible exact True.intro))
      refine ⟨k + 1, ⟨by omega, by rw [t1, t2, hall, h]⟩, by omega, Weak.keep rfl rfl ?_⟩
      (refine rO (@BatD.dv.eq_1) ?_; try (with_reducible exact True.intro))
  · have hk : k = a.recs.length := by simp only [decide_eq_false_iff_not] at h; omega
    have hf : decide (a = b) = true := by
      rw [List.take_of_length_le (by omega), List.take_of_length_le (by omega)] at hall
      obtain ⟨a1, a2, a3, a4, a5⟩ := a
      obtain ⟨b1, b2, b3, b4, b5⟩ := b
      simp only at h1 h2 h3 h4 hall
      subst h1 h2 h3 h4 hall
      simp
    (refine gO0 ?_; try (with_reducible exact True.intro))
    (refine rO (hf) ?_; try (with_reducible exact True.intro))
def entEq (a b : EntD) : Bool := a.kind == b.kind && decide (a.b = b.b) && a.yes == b.yes && a.next == b.next && a.off == b.off && decide (a.row = b.row) && decide (a.prod = b.prod)
theorem entEq_eq (a b : EntD) : entEq a b = decide (a = b) := by
  rw [Bool.eq_iff_iff]
  obtain ⟨a1, a2, a3, a4, a5, a6, a7⟩ := a
  obtain ⟨b1, b2, b3, b4, b5, b6, b7⟩ := b
  simp only [entEq, Bool.and_eq_true, beq_iff_eq, decide_eq_true_eq, EntD.mk.injEq, and_assoc]
theorem same_fun (a b : EntD) (hs : SmallE a) : Fun Tryd.prog 38 [.agg a.dv, .agg b.dv] (boo (decide (a = b))) := by
  have hr := hs.recs
  have hq := hs.seen
  have c1 := sameBat_fun a.b b.b (by omega)
  have c2 := sameProd_fun a.prod b.prod (by omega)
  have hbin := fun x y => (RowD_bin x y a.row b.row).1
  simp only [BatD.dv, ProdD.dv] at c1 c2
  rw [← entEq_eq]
  (refine Fun.of_body Tryd.func38 rfl rfl Tryd.ntmps38 Tryd.results38 (by simp) ?_)
  (refine gO (@EntD.dv.eq_1) ?_; try (with_reducible exact True.intro))
  (first | refine Wp.sto 4 (vb (entEq a b)) ?_ ?_ | refine Wp.rtoS 4 (vb (entEq a b)) ?_ ?_ | (refine Wp.seq ?_; first | refine Wp.sto 4 (vb (entEq a b)) ?_ ?_ | refine Wp.rtoS 4 (vb (entEq a b)) ?_ ?_))
  · unfold entEq; ((rcases (Bool.eq_false_or_eq_true (a.kind == b.kind)).symm with hL1 | hL1; focus (((refine rO (And.intro hL1 (And.intro @EntD.dv.eq_1 (hbin))) ?_; try (with_reducible exact True.intro)); (repeat (refine bcf (by assumption) ?_; (refine rO (And.intro hL1 (And.intro @EntD.dv.eq_1 (hbin))) ?_; try (with_reducible exact True.intro))))); all_goals (exact (show okTr _ _ = true by kernel_rfl)))); (rcases (Bool.eq_false_or_eq_true (decide (a.b = b.b))).symm with hL2 | hL2; focus (((refine rO (And.intro hL1 (And.intro hL2 (And.intro @EntD.dv.eq_1 (hbin)))) ?_; try (with_reducible exact True.intro)); (repeat (refine bcf (by assumption) ?_; (refine rO (And.intro hL1 (And.intro hL2 (And.intro @EntD.dv.eq_1 (hbin)))) ?_; try (with_reducible exact True.intro))))); all_goals (exact (show okTr _ _ = true by kernel_rfl)))); (rcases (Bool.eq_false_or_eq_true (a.yes == b.yes)).symm with hL3 | hL3; focus (((refine rO (And.intro hL1 (And.intro hL2 (And.intro hL3 (And.intro @EntD.dv.eq_1 (hbin))))) ?_; try (with_reducible exact True.intro)); (repeat (refine bcf (by assumption) ?_; (refine rO (And.intro hL1 (And.intro hL2 (And.intro hL3 (And.intro @EntD.dv.eq_1 (hbin))))) ?_; try (with_reducible exact True.intro))))); all_goals (exact (show okTr _ _ = true by kernel_rfl)))); (rcases (Bool.eq_false_or_eq_true (a.next == b.next)).symm with hL4 | hL4; focus (((refine rO (And.intro hL1 (And.intro hL2 (And.intro hL3 (And.intro hL4 (And.intro @EntD.dv.eq_1 (hbin)))))) ?_; try (with_reducible exact True.intro)); (repeat (refine bcf (by assumption) ?_; (refine rO (And.intro hL1 (And.intro hL2 (And.intro hL3 (And.intro hL4 (And.intro @EntD.dv.eq_1 (hbin)))))) ?_; try (with_reducible exact True.intro))))); all_goals (exact (show okTr _ _ = true by kernel_rfl)))); (rcases (Bool.eq_false_or_eq_true (a.off == b.off)).symm with hL5 | hL5; focus (((refine rO (And.intro hL1 (And.intro hL2 (And.intro hL3 (And.intro hL4 (And.intro hL5 (And.intro @EntD.dv.eq_1 (hbin))))))) ?_; try (with_reducible exact True.intro)); (repeat (refine bcf (by assumption) ?_; (refine rO (And.intro hL1 (And.intro hL2 (And.intro hL3 (And.intro hL4 (And.intro hL5 (And.intro @EntD.dv.eq_1 (hbin))))))) ?_; try (with_reducible exact True.intro))))); all_goals (exact (show okTr _ _ = true by kernel_rfl)))); (rcases (Bool.eq_false_or_eq_true (decide (a.row = b.row))).symm with hL6 | hL6; focus (((refine rO (And.intro hL1 (And.intro hL2 (And.intro hL3 (And.intro hL4 (And.intro hL5 (And.intro hL6 (And.intro @EntD.dv.eq_1 (hbin)))))))) ?_; try (with_reducible exact True.intro)); (repeat (refine bcf (by assumption) ?_; (refine rO (And.intro hL1 (And.intro hL2 (And.intro hL3 (And.intro hL4 (And.intro hL5 (And.intro hL6 (And.intro @EntD.dv.eq_1 (hbin)))))))) ?_; try (with_reducible exact True.intro))))); all_goals (exact (show okTr _ _ = true by kernel_rfl)))); (rcases (Bool.eq_false_or_eq_true (decide (a.prod = b.prod))).symm with hL7 | hL7; focus (((refine rO (And.intro hL1 (And.intro hL2 (And.intro hL3 (And.intro hL4 (And.intro hL5 (And.intro hL6 (And.intro hL7 (And.intro @EntD.dv.eq_1 (hbin))))))))) ?_; try (with_reducible exact True.intro)); (repeat (refine bcf (by assumption) ?_; (refine rO (And.intro hL1 (And.intro hL2 (And.intro hL3 (And.intro hL4 (And.intro hL5 (And.intro hL6 (And.intro hL7 (And.intro @EntD.dv.eq_1 (hbin))))))))) ?_; try (with_reducible exact True.intro))))); all_goals (exact (show okTr _ _ = true by kernel_rfl)))); ((refine rO (And.intro hL1 (And.intro hL2 (And.intro hL3 (And.intro hL4 (And.intro hL5 (And.intro hL6 (And.intro hL7 (And.intro @EntD.dv.eq_1 (hbin))))))))) ?_; try (with_reducible exact True.intro)); (repeat (refine bcf (by assumption) ?_; (refine rO (And.intro hL1 (And.intro hL2 (And.intro hL3 (And.intro hL4 (And.intro hL5 (And.intro hL6 (And.intro hL7 (And.intro @EntD.dv.eq_1 (hbin))))))))) ?_; try (with_reducible exact True.intro))))); all_goals (exact (show okTr _ _ = true by kernel_rfl)))
  (refine gO0 ?_; try (with_reducible exact True.intro))
  (refine rO0 ?_; try (with_reducible exact True.intro))
end Go.Proofs.YtafipkbffboebaaDoor
