/- Layer 10's statements: great, wakes; the reference's Take. -/
import Derived.Test.YtafipkbffboebaaDoorSqF
namespace Go.Proofs.YtafipkbffboebaaDoor
open Go Go.RowKit
set_option maxHeartbeats 4000000
set_option maxRecDepth 100000
set_option linter.unusedVariables false
set_option linter.unusedSimpArgs false
theorem refTake_fun10 (l : List ProdD) (b : BatD) (base : Int) (hs : SmallL l) (hb : b.recs.length ≤ 100000) : Fun Tryd.prog 49 [.lst 4 (l.map ProdD.dv), .agg b.dv, int base] (.tup [.lst 4 ((takeF l b base).1.map ProdD.dv), int (takeF l b base).2]) := by
  have c1 := refCheck_fun10 l b hs hb
  have c2 := refFind_fun10 l b.pid hs
  have c3 := refBeh_fun b
  have hmay := fun h => checkF_may (l := l) (b := b) h
  have hfs := fun h => find_seen (l := l) h b.pid
  have hnone := fun p => findF_none (l := l) (pid := b.pid) (p := p)
  have hT1 : takeF l b base = if decide (base < -1) || decide (1048576 < base) then ([], 2) else
    if (checkF l b).2.2 ≠ 0 then ([], (checkF l b).2.2) else if (checkF l b).2.1 then ([], 101) else
    (setF l ⟨b.pid, b.epoch, behF b, newS l b base⟩, 0) := rfl
  rw [hT1]
  clear hT1
  simp only [BatD.dv] at c1 c3
  (refine Fun.of_bodyW Tryd.func49 rfl rfl Tryd.ntmps49 Tryd.results49 (by simp) ?_)
  cases q0 : (decide (base < -1) || decide (1048576 < base)) with
  | true =>
    simp only [if_true]
    (refine gO (@BatD.dv.eq_1) ?_; try (with_reducible exact True.intro))
    (first | refine Wp.sto 19 (vb (decide (base < -1) || decide (1048576 < base))) ?_ ?_ | refine Wp.rtoS 19 (vb (decide (base < -1) || decide (1048576 < base))) ?_ ?_ | (refine Wp.seq ?_; first | refine Wp.sto 19 (vb (decide (base < -1) || decide (1048576 < base))) ?_ ?_ | refine Wp.rtoS 19 (vb (decide (base < -1) || decide (1048576 < base))) ?_ ?_))
    · ((rcases Bool.eq_false_or_eq_true (decide (base < -1)) with hL1 | hL1) <;> (rcases Bool.eq_false_or_eq_true (decide (1048576 < base)) with hL2 | hL2) <;> (((refine rO (And.intro hL1 (And.intro hL2 (@BatD.dv.eq_1))) ?_; try (with_reducible exact True.intro)); (repeat (refine bcf (by assumption) ?_; (refine rO (And.intro hL1 (And.intro hL2 (@BatD.dv.eq_1))) ?_; try (with_reducible exact True.intro))))); all_goals (exact (show okTr _ _ = true by kernel_rfl))))
    (refine gO (q0) ?_; try (with_reducible exact True.intro))
    (refine rO (@List.map_nil.{0,0}) ?_; try (with_reducible exact True.intro))
    exact ⟨_, rfl, DLe.tup (.cons (.nil 4) (.cons (.refl _) .nil))⟩
  | false =>
  simp only [Bool.false_eq_true, if_false]
  (refine gO (@BatD.dv.eq_1) ?_; try (with_reducible exact True.intro))
  (first | refine Wp.sto 19 (vb (decide (base < -1) || decide (1048576 < base))) ?_ ?_ | refine Wp.rtoS 19 (vb (decide (base < -1) || decide (1048576 < base))) ?_ ?_ | (refine Wp.seq ?_; first | refine Wp.sto 19 (vb (decide (base < -1) || decide (1048576 < base))) ?_ ?_ | refine Wp.rtoS 19 (vb (decide (base < -1) || decide (1048576 < base))) ?_ ?_))
  · ((rcases Bool.eq_false_or_eq_true (decide (base < -1)) with hL1 | hL1) <;> (rcases Bool.eq_false_or_eq_true (decide (1048576 < base)) with hL2 | hL2) <;> (((refine rO (And.intro hL1 (And.intro hL2 (@BatD.dv.eq_1))) ?_; try (with_reducible exact True.intro)); (repeat (refine bcf (by assumption) ?_; (refine rO (And.intro hL1 (And.intro hL2 (@BatD.dv.eq_1))) ?_; try (with_reducible exact True.intro))))); all_goals (exact (show okTr _ _ = true by kernel_rfl))))
  generalize checkF l b = cf at *
  obtain ⟨x, y, e⟩ := cf
  simp only at c1 hmay ⊢
  by_cases he : e = 0
  · subst he
    have hm := (hmay rfl).1
    have hfl := hfs hm
    rw [if_neg (by simp)]
    cases y with
    | true =>
      rw [if_pos rfl]
      (refine gO (And.intro q0 (And.intro @BatD.dv.eq_1 (@bne_self_eq_false.{0}))) ?_; try (with_reducible exact True.intro))
      (refine rO (@List.map_nil.{0,0}) ?_; try (with_reducible exact True.intro))
      exact ⟨_, rfl, DLe.tup (.cons (.nil 4) (.cons (.refl _) .nil))⟩
    | false =>
      rw [if_neg (by simp)]
      have c4 := fun q => refSet_fun10 l q hs
      have hnew : newS l b base = (oldS l b ++ [(⟨b.seq, (b.recs.length : Int), base⟩ : SeenD)]).drop ((oldS l b).length - 2) := rfl
      have hold : oldS l b = if (findF l b.pid).2 && (findF l b.pid).1.epoch == b.epoch then (findF l b.pid).1.seen else [] := by
        unfold oldS
        cases hq : findF l b.pid with
        | mk p kn =>
          cases kn with
          | true => cases he2 : (p.epoch == b.epoch) <;> simp_all
          | false => rw [findF_none hq]; simp
      rw [hnew, hold]
      clear hnew hold
      generalize findF l b.pid = fr at *
      obtain ⟨p, kn⟩ := fr
      simp only [ProdD.dv] at c2 hfl ⊢
      cases q6 : (kn && p.epoch == b.epoch) with
      | false =>
        simp only [Bool.false_eq_true, if_false, List.nil_append, List.length_nil, Nat.zero_sub, List.drop_zero]
        have c5 := c4 ⟨b.pid, b.epoch, behF b, [(⟨b.seq, (b.recs.length : Int), base⟩ : SeenD)]⟩
        simp only [ProdD.dv, List.map_cons, List.map_nil, SeenD.dv] at c5
        (refine gO (And.intro q0 (And.intro @BatD.dv.eq_1 (And.intro @bne_self_eq_false.{0} (@ProdD.dv.eq_1)))) ?_; try (with_reducible exact True.intro))
        (first | refine Wp.sto 52 (vb (kn && p.epoch == b.epoch)) ?_ ?_ | refine Wp.rtoS 52 (vb (kn && p.epoch == b.epoch)) ?_ ?_ | (refine Wp.seq ?_; first | refine Wp.sto 52 (vb (kn && p.epoch == b.epoch)) ?_ ?_ | refine Wp.rtoS 52 (vb (kn && p.epoch == b.epoch)) ?_ ?_))
        · ((rcases Bool.eq_false_or_eq_true (kn) with hL1 | hL1) <;> (rcases Bool.eq_false_or_eq_true (p.epoch == b.epoch) with hL2 | hL2) <;> (((refine rO (And.intro hL1 (And.intro hL2 (And.intro @BatD.dv.eq_1 (@ProdD.dv.eq_1)))) ?_; try (with_reducible exact True.intro)); (repeat (refine bcf (by assumption) ?_; (refine rO (And.intro hL1 (And.intro hL2 (And.intro @BatD.dv.eq_1 (@ProdD.dv.eq_1)))) ?_; try (with_reducible exact True.intro))))); all_goals (exact (show okTr _ _ = true by kernel_rfl))))
        (refine gO (And.intro q6 (And.intro @BatD.dv.eq_1 (And.intro @Int.cast_ofNat_Int (And.intro @gt_iff_lt.{0} (And.intro @List.nil_append.{0} (And.intro @List.cons_append.{0} (And.intro @List.drop_zero.{0} (And.intro @List.take_succ_cons.{0} (And.intro @List.take_zero.{0} (And.intro @List.length_cons.{0} (@List.length_nil.{0}))))))))))) ?_; try (with_reducible exact True.intro))
        (refine rO0 ?_; try (with_reducible exact True.intro))
        exact ⟨_, rfl, fun K v h => h⟩
      | true =>
        simp only [if_true]
        obtain ⟨pp, pe, pn, sn⟩ := p
        (try simp only at hfl); (try simp only at q6); (try simp only at c2); (try simp only)
        match sn, hfl with
        | [], _ =>
          have c5 := c4 ⟨b.pid, b.epoch, behF b, [(⟨b.seq, (b.recs.length : Int), base⟩ : SeenD)]⟩
          simp only [ProdD.dv, List.map_cons, List.map_nil, SeenD.dv] at c5 c2
          (refine gO (And.intro q0 (And.intro @BatD.dv.eq_1 (And.intro @bne_self_eq_false.{0} (@ProdD.dv.eq_1)))) ?_; try (with_reducible exact True.intro))
          (first | refine Wp.sto 52 (vb (kn && pe == b.epoch)) ?_ ?_ | refine Wp.rtoS 52 (vb (kn && pe == b.epoch)) ?_ ?_ | (refine Wp.seq ?_; first | refine Wp.sto 52 (vb (kn && pe == b.epoch)) ?_ ?_ | refine Wp.rtoS 52 (vb (kn && pe == b.epoch)) ?_ ?_))
          · ((rcases Bool.eq_false_or_eq_true (kn) with hL1 | hL1) <;> (rcases Bool.eq_false_or_eq_true (pe == b.epoch) with hL2 | hL2) <;> (((refine rO (And.intro hL1 (And.intro hL2 (And.intro @BatD.dv.eq_1 (@ProdD.dv.eq_1)))) ?_; try (with_reducible exact True.intro)); (repeat (refine bcf (by assumption) ?_; (refine rO (And.intro hL1 (And.intro hL2 (And.intro @BatD.dv.eq_1 (@ProdD.dv.eq_1)))) ?_; try (with_reducible exact True.intro))))); all_goals (exact (show okTr _ _ = true by kernel_rfl))))
          (refine gO (And.intro q6 (And.intro @BatD.dv.eq_1 (And.intro @Int.cast_ofNat_Int (And.intro @gt_iff_lt.{0} (And.intro @List.nil_append.{0} (And.intro @List.cons_append.{0} (And.intro @List.drop_zero.{0} (And.intro @List.drop_succ_cons.{0} (And.intro @List.take_succ_cons.{0} (And.intro @List.take_zero.{0} (And.intro @List.length_cons.{0} (@List.length_nil.{0})))))))))))) ?_; try (with_reducible exact True.intro))
          (refine rO0 ?_; try (with_reducible exact True.intro))
          exact ⟨_, rfl, fun K v h => h⟩
        | [s1], _ =>
          have c5 := c4 ⟨b.pid, b.epoch, behF b, [s1, (⟨b.seq, (b.recs.length : Int), base⟩ : SeenD)]⟩
          simp only [ProdD.dv, List.map_cons, List.map_nil, SeenD.dv] at c5 c2
          (refine gO (And.intro q0 (And.intro @BatD.dv.eq_1 (And.intro @bne_self_eq_false.{0} (@ProdD.dv.eq_1)))) ?_; try (with_reducible exact True.intro))
          (first | refine Wp.sto 52 (vb (kn && pe == b.epoch)) ?_ ?_ | refine Wp.rtoS 52 (vb (kn && pe == b.epoch)) ?_ ?_ | (refine Wp.seq ?_; first | refine Wp.sto 52 (vb (kn && pe == b.epoch)) ?_ ?_ | refine Wp.rtoS 52 (vb (kn && pe == b.epoch)) ?_ ?_))
          · ((rcases Bool.eq_false_or_eq_true (kn) with hL1 | hL1) <;> (rcases Bool.eq_false_or_eq_true (pe == b.epoch) with hL2 | hL2) <;> (((refine rO (And.intro hL1 (And.intro hL2 (And.intro @BatD.dv.eq_1 (@ProdD.dv.eq_1)))) ?_; try (with_reducible exact True.intro)); (repeat (refine bcf (by assumption) ?_; (refine rO (And.intro hL1 (And.intro hL2 (And.intro @BatD.dv.eq_1 (@ProdD.dv.eq_1)))) ?_; try (with_reducible exact True.intro))))); all_goals (exact (show okTr _ _ = true by kernel_rfl))))
          (refine gO (And.intro q6 (And.intro @BatD.dv.eq_1 (And.intro @Int.cast_ofNat_Int (And.intro @gt_iff_lt.{0} (And.intro @List.nil_append.{0} (And.intro @List.cons_append.{0} (And.intro @List.drop_zero.{0} (And.intro @List.drop_succ_cons.{0} (And.intro @List.take_succ_cons.{0} (And.intro @List.take_zero.{0} (And.intro @List.length_cons.{0} (@List.length_nil.{0})))))))))))) ?_; try (with_reducible exact True.intro))
          (refine rO0 ?_; try (with_reducible exact True.intro))
          exact ⟨_, rfl, fun K v h => h⟩
        | [s1, s2], _ =>
          have c5 := c4 ⟨b.pid, b.epoch, behF b, [s1, s2, (⟨b.seq, (b.recs.length : Int), base⟩ : SeenD)]⟩
          simp only [ProdD.dv, List.map_cons, List.map_nil, SeenD.dv] at c5 c2
          (refine gO (And.intro q0 (And.intro @BatD.dv.eq_1 (And.intro @bne_self_eq_false.{0} (@ProdD.dv.eq_1)))) ?_; try (with_reducible exact True.intro))
          (first | refine Wp.sto 52 (vb (kn && pe == b.epoch)) ?_ ?_ | refine Wp.rtoS 52 (vb (kn && pe == b.epoch)) ?_ ?_ | (refine Wp.seq ?_; first | refine Wp.sto 52 (vb (kn && pe == b.epoch)) ?_ ?_ | refine Wp.rtoS 52 (vb (kn && pe == b.epoch)) ?_ ?_))
          · ((rcases Bool.eq_false_or_eq_true (kn) with hL1 | hL1) <;> (rcases Bool.eq_false_or_eq_true (pe == b.epoch) with hL2 | hL2) <;> (((refine rO (And.intro hL1 (And.intro hL2 (And.intro @BatD.dv.eq_1 (@ProdD.dv.eq_1)))) ?_; try (with_reducible exact True.intro)); (repeat (refine bcf (by assumption) ?_; (refine rO (And.intro hL1 (And.intro hL2 (And.intro @BatD.dv.eq_1 (@ProdD.dv.eq_1)))) ?_; try (with_reducible exact True.intro))))); all_goals (exact (show okTr _ _ = true by kernel_rfl))))
          (refine gO (And.intro q6 (And.intro @BatD.dv.eq_1 (And.intro @Int.cast_ofNat_Int (And.intro @gt_iff_lt.{0} (And.intro @List.nil_append.{0} (And.intro @List.cons_append.{0} (And.intro @List.drop_zero.{0} (And.intro @List.drop_succ_cons.{0} (And.intro @List.take_succ_cons.{0} (And.intro @List.take_zero.{0} (And.intro @List.length_cons.{0} (@List.length_nil.{0})))))))))))) ?_; try (with_reducible exact True.intro))
          (refine rO0 ?_; try (with_reducible exact True.intro))
          exact ⟨_, rfl, fun K v h => h⟩
        | [s1, s2, s3], _ =>
          have c5 := c4 ⟨b.pid, b.epoch, behF b, [s2, s3, (⟨b.seq, (b.recs.length : Int), base⟩ : SeenD)]⟩
          simp only [ProdD.dv, List.map_cons, List.map_nil, SeenD.dv] at c5 c2
          (refine gO (And.intro q0 (And.intro @BatD.dv.eq_1 (And.intro @bne_self_eq_false.{0} (@ProdD.dv.eq_1)))) ?_; try (with_reducible exact True.intro))
          (first | refine Wp.sto 52 (vb (kn && pe == b.epoch)) ?_ ?_ | refine Wp.rtoS 52 (vb (kn && pe == b.epoch)) ?_ ?_ | (refine Wp.seq ?_; first | refine Wp.sto 52 (vb (kn && pe == b.epoch)) ?_ ?_ | refine Wp.rtoS 52 (vb (kn && pe == b.epoch)) ?_ ?_))
          · ((rcases Bool.eq_false_or_eq_true (kn) with hL1 | hL1) <;> (rcases Bool.eq_false_or_eq_true (pe == b.epoch) with hL2 | hL2) <;> (((refine rO (And.intro hL1 (And.intro hL2 (And.intro @BatD.dv.eq_1 (@ProdD.dv.eq_1)))) ?_; try (with_reducible exact True.intro)); (repeat (refine bcf (by assumption) ?_; (refine rO (And.intro hL1 (And.intro hL2 (And.intro @BatD.dv.eq_1 (@ProdD.dv.eq_1)))) ?_; try (with_reducible exact True.intro))))); all_goals (exact (show okTr _ _ = true by kernel_rfl))))
          (refine gO (And.intro q6 (And.intro @BatD.dv.eq_1 (And.intro @Int.cast_ofNat_Int (And.intro @gt_iff_lt.{0} (And.intro @List.nil_append.{0} (And.intro @List.cons_append.{0} (And.intro @List.drop_zero.{0} (And.intro @List.drop_succ_cons.{0} (And.intro @List.take_succ_cons.{0} (And.intro @List.take_zero.{0} (And.intro @List.length_cons.{0} (@List.length_nil.{0})))))))))))) ?_; try (with_reducible exact True.intro))
          (refine rO0 ?_; try (with_reducible exact True.intro))
          exact ⟨_, rfl, fun K v h => h⟩
  · rw [if_pos he]
    have hne : (e != 0) = true := by simpa using he
    (refine gO (And.intro q0 (And.intro @BatD.dv.eq_1 (hne))) ?_; try (with_reducible exact True.intro))
    (refine rO (@List.map_nil.{0,0}) ?_; try (with_reducible exact True.intro))
    exact ⟨_, rfl, DLe.tup (.cons (.nil 4) (.cons (.refl _) .nil))⟩
end Go.Proofs.YtafipkbffboebaaDoor
