/- The reference's Check; Take and the reference's. -/
import Derived.Test.YtafipkbffboebaaDoorSqN
import Derived.Test.YtafipkbffboebaaDoorSqD
import Derived.Test.YtafipkbffboebaaDoorCpR6
namespace Go.Proofs.YtafipkbffboebaaDoor
open Go Go.RowKit
set_option maxHeartbeats 4000000
set_option maxRecDepth 100000
set_option linter.unusedVariables false
set_option linter.unusedSimpArgs false
abbrev rkS (b : BatD) (p : ProdD) (k : Nat) : St := ⟨ofL [(3, .c (.own 0 0)), (7, .c (.own 1 0)), (9, vi .i64 k)], ofH [(0, .cells (b.dv.map .d)), (1, .cells (p.dv.map .d))], 2, 81, 0⟩
theorem refCheck_fun10 (l : List ProdD) (b : BatD) (hs : SmallL l) (hb : b.recs.length ≤ 100000) : Fun Tryd.prog 79 [.lst 4 (l.map ProdD.dv), .agg b.dv] (.tup [int (checkF l b).1, boo (checkF l b).2.1, int (checkF l b).2.2]) := by
  have c1 := refMay_fun10 l hs
  have c2 := refMay_fun b hb
  have c3 := refFind_fun10 l b.pid hs
  have hmem := fun p => findF_mem (l := l) (pid := b.pid) (p := p)
  unfold checkF
  (refine Fun.of_body Tryd.func79 rfl rfl Tryd.ntmps79 Tryd.results79 (by simp) ?_)
  cases q1 : mayL l with
  | false =>
    rw [q1] at c1
    simp only [Bool.not_false, Bool.true_or, if_true]
    (refine gO (@BatD.dv.eq_1) ?_; try (with_reducible exact True.intro))
    (refine rO0 ?_; try (with_reducible exact True.intro))
  | true =>
  rw [q1] at c1
  cases q2 : batB b with
  | false =>
    rw [q2] at c2
    simp only [Bool.not_true, Bool.not_false, Bool.false_or, if_true]
    simp only [BatD.dv] at c2
    (refine gO (@BatD.dv.eq_1) ?_; try (with_reducible exact True.intro))
    (refine rO0 ?_; try (with_reducible exact True.intro))
  | true =>
  rw [q2] at c2
  simp only [Bool.not_true, Bool.false_or, Bool.false_eq_true, if_false]
  unfold judgeF effP
  generalize findF l b.pid = fr at *
  obtain ⟨p, kn⟩ := fr
  have hz : dupF b pzD = if b.seq != 0 then (0, false, 101) else (-1, false, 0) := rfl
  simp only [ProdD.dv, BatD.dv] at c2 c3 hmem ⊢
  cases kn with
  | false =>
    simp only [Bool.false_and, Bool.false_eq_true, if_false, Bool.not_false, Bool.true_or, if_true, hz]
    cases q5 : (b.seq != 0) with
    | true =>
      (refine gO (And.intro @BatD.dv.eq_1 (And.intro @ProdD.dv.eq_1 (q5))) ?_; try (with_reducible exact True.intro))
      (refine rO0 ?_; try (with_reducible exact True.intro))
    | false =>
      (refine gO (And.intro @BatD.dv.eq_1 (And.intro @ProdD.dv.eq_1 (q5))) ?_; try (with_reducible exact True.intro))
      (refine rO0 ?_; try (with_reducible exact True.intro))
  | true =>
    have hm := hmem p rfl
    have hps := hs.seen p hm
    cases q2b : decide (p.epoch < b.epoch) with
    | true =>
      have q1b : decide (b.epoch < p.epoch) = false := by have := of_decide_eq_true q2b; exact decide_eq_false (by omega)
      simp only [q1b, Bool.and_false, Bool.false_eq_true, if_false, Bool.not_true, Bool.false_or, if_true, hz]
      cases q5 : (b.seq != 0) with
      | true =>
        (refine gO (And.intro @BatD.dv.eq_1 (And.intro @ProdD.dv.eq_1 (And.intro q5 (q2b)))) ?_; try (with_reducible exact True.intro))
        (refine rO0 ?_; try (with_reducible exact True.intro))
      | false =>
        (refine gO (And.intro @BatD.dv.eq_1 (And.intro @ProdD.dv.eq_1 (And.intro q5 (q2b)))) ?_; try (with_reducible exact True.intro))
        (refine rO0 ?_; try (with_reducible exact True.intro))
    | false =>
    cases q1b : decide (b.epoch < p.epoch) with
    | true =>
      simp only [Bool.and_self, if_true]
      (refine gO (And.intro @BatD.dv.eq_1 (And.intro @ProdD.dv.eq_1 (And.intro q1b (q2b)))) ?_; try (with_reducible exact True.intro))
      (refine rO0 ?_; try (with_reducible exact True.intro))
    | false =>
    simp only [Bool.and_false, Bool.false_eq_true, if_false, Bool.not_true, Bool.false_or]
    (refine gO (And.intro @BatD.dv.eq_1 (And.intro @ProdD.dv.eq_1 (And.intro q1b (q2b)))) ?_; try (with_reducible exact True.intro))
    refine Wp.loop (rkS b p) (fun k => k ≤ p.seen.length ∧ (p.seen.take k).find? (sameS b) = none) (fun k => p.seen.length - k) 0 ⟨Nat.zero_le _, rfl⟩ ?_ ?_
    · refine Weak.keep rfl rfl ?_
      (refine rO (And.intro @BatD.dv.eq_1 (@ProdD.dv.eq_1)) ?_; try (with_reducible exact True.intro))
    rintro k ⟨hk, hall⟩
    (refine gO (And.intro @BatD.dv.eq_1 (@ProdD.dv.eq_1)) ?_; try (with_reducible exact True.intro))
    refine Wp.cond (by (refine rO0 ?_; try (with_reducible exact True.intro)); rfl) (fun h => ?_) (fun h => ?_)
    · have hlt : k < p.seen.length := by simpa using h
      have hge : p.seen[k]? = some p.seen[k] := List.getElem?_eq_getElem hlt
      have hf1 : sameS b p.seen[k] = true → dupF b p = (p.seen[k].base, true, 0) := fun hp => by
        have : p.seen.find? (sameS b) = some p.seen[k] := by
          conv => lhs; rw [← List.take_append_drop k p.seen, List.drop_eq_getElem_cons hlt]
          rw [List.find?_append, hall, List.find?_cons, hp]; rfl
        simp only [dupF, this]
      have hn1 : sameS b p.seen[k] = false → (p.seen.take (k + 1)).find? (sameS b) = none := fun hp => by
        rw [take_succ_get p.seen k hlt, List.find?_append, hall, List.find?_cons, hp]; rfl
      generalize p.seen[k] = s at *
      (refine gO (And.intro @BatD.dv.eq_1 (@ProdD.dv.eq_1)) ?_; try (with_reducible exact True.intro))
      (first | refine Wp.stoD 69 (vb (sameS b s)) mixed ?_ ?_ | refine Wp.rtoDS 69 (vb (sameS b s)) mixed ?_ ?_ | (refine Wp.seq ?_; first | refine Wp.stoD 69 (vb (sameS b s)) mixed ?_ ?_ | refine Wp.rtoDS 69 (vb (sameS b s)) mixed ?_ ?_))
      · unfold sameS; ((rcases Bool.eq_false_or_eq_true (s.seq == b.seq) with hL1 | hL1) <;> (rcases Bool.eq_false_or_eq_true (s.count == (b.recs.length : Int)) with hL2 | hL2) <;> (((refine rO (And.intro hL1 (And.intro hL2 (And.intro hge (And.intro @SeenD.dv.eq_1 (And.intro @BatD.dv.eq_1 (@ProdD.dv.eq_1)))))) ?_; try (with_reducible exact True.intro)); (repeat (refine bcf (by assumption) ?_; (refine rO (And.intro hL1 (And.intro hL2 (And.intro hge (And.intro @SeenD.dv.eq_1 (And.intro @BatD.dv.eq_1 (@ProdD.dv.eq_1)))))) ?_; try (with_reducible exact True.intro))))); all_goals (exact (show okTr _ _ = true by kernel_rfl))))
      refine Wp.cond (by (refine rO0 ?_; try (with_reducible exact True.intro)); rfl) (fun h => ?_) (fun h => ?_)
      · rw [hf1 h]
        (refine gO (And.intro @BatD.dv.eq_1 (And.intro @ProdD.dv.eq_1 (And.intro hge (@SeenD.dv.eq_1)))) ?_; try (with_reducible exact True.intro))
        (refine rO0 ?_; try (with_reducible exact True.intro))
      · have hn2 := hn1 h
        (refine gO0 ?_; try (with_reducible exact True.intro))
        refine ⟨k + 1, ⟨by omega, hn2⟩, by omega, Weak.keep rfl rfl ?_⟩
        (refine rO (And.intro @BatD.dv.eq_1 (@ProdD.dv.eq_1)) ?_; try (with_reducible exact True.intro))
    · have hall2 : p.seen.find? (sameS b) = none := by
        rw [List.take_of_length_le (by simp only [decide_eq_false_iff_not] at h; omega)] at hall; exact hall
      have hd : dupF b p = if b.seq != p.next then (0, false, 101) else (-1, false, 0) := by simp only [dupF, hall2]
      rw [hd]
      cases q5 : (b.seq != p.next) with
      | true =>
        (refine gO (And.intro @BatD.dv.eq_1 (And.intro @ProdD.dv.eq_1 (q5))) ?_; try (with_reducible exact True.intro))
        (refine rO0 ?_; try (with_reducible exact True.intro))
      | false =>
        (refine gO (And.intro @BatD.dv.eq_1 (And.intro @ProdD.dv.eq_1 (q5))) ?_; try (with_reducible exact True.intro))
        (refine rO0 ?_; try (with_reducible exact True.intro))
end Go.Proofs.YtafipkbffboebaaDoor
