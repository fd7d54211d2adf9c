/- Layer 15's statements: CopyingFolds. -/
import Derived.Test.YtafipkbffboebaaDoorRhL
import Derived.Test.YtafipkbffboebaaDoorCpMb
namespace Go.Proofs.YtafipkbffboebaaDoor
open Go Go.RowKit
set_option maxHeartbeats 8000000
set_option maxRecDepth 100000
set_option linter.unusedVariables false
set_option linter.unusedSimpArgs false
theorem okO_has {o : OpenD} (h : okO o = true) (h0 : ∀ b, o.bats[0]? = some b → b.seq = 0) : HasC o.pid o.epoch o.bats := by
  have hlen := okO_pos h
  unfold okO at h
  rw [Bool.and_eq_true] at h
  have hat : ∀ i (hi : i < o.bats.length), batB o.bats[i] = true ∧ o.bats[i].txn = true ∧ o.bats[i].pid = o.pid ∧ o.bats[i].epoch = o.epoch ∧ o.bats[i].seq = nextS o.bats i := fun i hi => by
    have h1 := List.all_eq_true.1 h.2 i (by simpa using hi)
    unfold okAt at h1
    rw [List.getElem?_eq_getElem hi] at h1
    dsimp only at h1
    unfold badAt at h1
    simp only [Bool.not_eq_true', Bool.or_eq_false_iff, Bool.not_eq_false', bne_eq_false_iff_eq] at h1
    exact ⟨h1.1.1.1.1, h1.1.1.1.2, h1.1.1.2, h1.1.2, h1.2⟩
  refine ⟨fun b hb => ?_, ?_, by omega⟩
  · obtain ⟨i, hi, rfl⟩ := List.getElem_of_mem hb
    obtain ⟨q1, q2, q3, q4, _⟩ := hat i hi
    exact ⟨q1, q2, q3, q4⟩
  · have key : ∀ (m k : Nat), m + k = o.bats.length → chN (nextS o.bats k) (o.bats.drop k) := by
      intro m
      induction m with
      | zero => intro k hk; rw [List.drop_eq_nil_of_le (by omega)]; trivial
      | succ m ih =>
        intro k hk
        have hlt : k < o.bats.length := by omega
        rw [List.drop_eq_getElem_cons hlt]
        obtain ⟨q1, q2, q3, q4, q5⟩ := hat k hlt
        refine ⟨q5, ?_⟩
        have h2 := ih (k + 1) (by omega)
        have e : nextS o.bats (k + 1) = nextS o.bats k + (o.bats[k].recs.length : Int) := by
          rw [← q5, ← beh_bat q1]
          simp only [nextS, List.getElem?_eq_getElem hlt]
        rw [← e]; exact h2
    have h3 := key o.bats.length 0 (by omega)
    rw [List.drop_zero] at h3
    have hg : o.bats[0]? = some o.bats[0] := List.getElem?_eq_getElem (by omega)
    have e0 : nextS o.bats 0 = 0 := by
      have := h0 _ hg
      simp only [nextS, hg]; exact this
    rw [e0] at h3; exact h3
theorem tmodk14 (y : Int) (k : Nat) (hk : 0 < k) : ∃ n : Nat, n < k ∧ (y.tmod (k : Int) + (k : Int)).tmod (k : Int) = (n : Int) ∧ -((k : Int)) < y.tmod k ∧ y.tmod k < k := by
  have h1 := Int.lt_tmod_of_pos y (show (0 : Int) < k by omega)
  have h2 := Int.tmod_lt_of_pos y (show (0 : Int) < k by omega)
  have h3 := Int.tmod_nonneg (a := y.tmod (k : Int) + (k : Int)) (k : Int) (by omega)
  have h4 := Int.tmod_lt_of_pos (y.tmod (k : Int) + (k : Int)) (show (0 : Int) < k by omega)
  exact ⟨((y.tmod (k : Int) + (k : Int)).tmod (k : Int)).toNat, by omega, by omega, h1, h2⟩
def batU (b : BatD) : List D := [i8 0, int b.pid, int b.epoch, int b.seq, boo b.txn, .lst 2 (b.recs.map RecD.dv), boo false, int 0, int 0, int 0, int 0, int 0, str [], str [], int 0, int 0, int 0, nilV]
theorem batU_le (b : BatD) : AllLe (batU b) (batE b).dv := dvn2_le (batE b) _ _ (.refl _) (.nil 3)
theorem sides_le (pid : Int) (l : List BatD) : DLe (.lst 2 [[int pid, .lst 18 (l.map batU)]]) (.lst 2 [([⟨pid, l.map batE⟩] : List SideD).map SideD.dv].flatten) := by
  show DLe (.lst 2 [[int pid, .lst 18 (l.map batU)]]) (.lst 2 [[int pid, .lst 18 ((l.map batE).map EntD.dv)]])
  rw [List.map_map]
  exact DLe.lst (.cons (.cons (.refl _) (.cons (DLe.lst (AllLe2.map (fun b => batU_le b) l)) .nil)) .nil)
theorem sumR_takeC (l : List BatD) (k : Nat) (h : k < l.length) : sumR (l.take (k + 1)) = sumR (l.take k) + l[k].recs.length := by
  rw [List.take_succ_eq_append_getElem h, sumR_app]; simp [sumR]
def cfB (o : OpenD) : Bool := gOpen o || (o.bats.length : Int) == 0 || match o.bats[0]? with
  | some b => b.seq != 0
  | none => false
theorem copyingFolds_fun (o : OpenD) (n : Int) : Fun Tryd.prog 3 [.agg o.dv, int n] (boo true) := by
  have cw := wakes15_fun
  have c0 := gOpen_fun o
  simp only [OpenD.dv] at c0
  (refine Fun.of_body Tryd.func3 rfl rfl Tryd.ntmps3 Tryd.results3 (by simp) ?_)
  (refine gO (@OpenD.dv.eq_1) ?_; try (with_reducible exact True.intro))
  (first | refine Wp.sto 33 (vb (cfB o)) ?_ ?_ | refine Wp.rtoS 33 (vb (cfB o)) ?_ ?_ | (refine Wp.seq ?_; first | refine Wp.sto 33 (vb (cfB o)) ?_ ?_ | refine Wp.rtoS 33 (vb (cfB o)) ?_ ?_))
  · unfold cfB
    cases q1 : gOpen o with
    | true =>
      rw [q1] at c0
      ((refine rO (@OpenD.dv.eq_1) ?_; try (with_reducible exact True.intro)); (repeat (refine bcf (by assumption) ?_; (refine rO (@OpenD.dv.eq_1) ?_; try (with_reducible exact True.intro)))))
      all_goals (exact (show okTr _ _ = true by kernel_rfl))
    | false =>
    rw [q1] at c0
    rcases Nat.eq_zero_or_pos o.bats.length with h0 | h0
    · have e0 : ((o.bats.length : Int) == 0) = true := by simp [h0]
      rw [e0]
      ((refine rO (And.intro @OpenD.dv.eq_1 (e0)) ?_; try (with_reducible exact True.intro)); (repeat (refine bcf (by assumption) ?_; (refine rO (And.intro @OpenD.dv.eq_1 (e0)) ?_; try (with_reducible exact True.intro)))))
      all_goals (exact (show okTr _ _ = true by kernel_rfl))
    · have e0 : ((o.bats.length : Int) == 0) = false := beq_eq_false_iff_ne.2 (by omega)
      have hg0 : o.bats[0]? = some o.bats[0] := List.getElem?_eq_getElem h0
      rw [e0, hg0]
      generalize o.bats[0] = b at *
      dsimp only
      cases q2 : (b.seq != 0) <;> (((refine rO (And.intro @OpenD.dv.eq_1 (And.intro e0 (And.intro hg0 (And.intro @BatD.dv.eq_1 (q2))))) ?_; try (with_reducible exact True.intro)); (repeat (refine bcf (by assumption) ?_; (refine rO (And.intro @OpenD.dv.eq_1 (And.intro e0 (And.intro hg0 (And.intro @BatD.dv.eq_1 (q2))))) ?_; try (with_reducible exact True.intro))))); all_goals (exact (show okTr _ _ = true by kernel_rfl)))
  cases hB : cfB o with
  | true =>
    (refine gO0 ?_; try (with_reducible exact True.intro))
    (refine rO0 ?_; try (with_reducible exact True.intro))
  | false =>
  unfold cfB at hB
  simp only [Bool.or_eq_false_iff, beq_eq_false_iff_ne] at hB
  obtain ⟨⟨hg, hl0⟩, hseq⟩ := hB
  have hsm := gOpen_small hg
  have c1 := copies_fun o hsm
  simp only [OpenD.dv] at c1
  unfold cpF at c1
  cases hok : okO o with
  | false =>
    rw [hok, if_neg (by simp)] at c1
    (refine gO (@OpenD.dv.eq_1) ?_; try (with_reducible exact True.intro))
    (refine rO0 ?_; try (with_reducible exact True.intro))
  | true =>
  rw [hok, if_pos rfl] at c1
  have hC := okO_has hok (fun b hb => by rw [hb] at hseq; simpa using hseq)
  obtain ⟨hc1, hc8⟩ := hC.len
  have hcl : (cpL o).length = o.bats.length := mkL_len _ _
  obtain ⟨m, hm⟩ : ∃ m : Nat, m = o.bats.length + 1 := ⟨_, rfl⟩
  obtain ⟨k, hk1, hk2, hk3, hk4⟩ := tmodk14 n m (by omega)
  have hw1 : IntKind.i64.wrap ((o.bats.length : Int) + 1) = (m : Int) := by rw [wrap_i64 (by omega)]; omega
  have hw2 : IntKind.i64.wrap (n.tmod (m : Int) + (m : Int)) = n.tmod (m : Int) + (m : Int) := wrap_i64 (by omega)
  have hm0 : (m : Int) ≠ 0 := by omega
  have hrem : ∀ (t : TypeId) (x y : Operand) (a : Int), aBin Tryd.prog .rem t x y (vi .i64 a) (vi .i64 (m : Int)) = some (Res.pure (vi .i64 (a.tmod (m : Int)))) := fun t x y a => bin_rem hm0
  have hsr := sumR_bound o.bats (fun b hb => (batB_pid (hC.bat b hb).1).2)
  (refine gO (And.intro @OpenD.dv.eq_1 (And.intro @List.length_map.{0,0} (And.intro hcl (And.intro hw1 (And.intro hrem (And.intro hw2 (hk2))))))) ?_; try (with_reducible exact True.intro))
  refine Wp.weak (Weak.nilApp (t := 8) (τ := 30) 41 18 (by (refine rO0 ?_; try (with_reducible exact True.intro))) (by (refine rO0 ?_; try (with_reducible exact True.intro)))) ?_
  refine Wp.loop (fun j : Nat => ⟨ofL [(1, vi .i64 k), (2, .c (.own 0 0)), (5, .c (.d (.lst 18 ((cpL o).map EntD.dv)))), (8, .c (.app 30 18 ((o.bats.take j).map batU))), (9, vi .i64 (sumR (o.bats.take j) : Nat)), (54, .c (.d (.lst 5 (o.bats.map BatD.dv)))), (55, vi .i64 o.bats.length), (56, vi .i64 j)], ofH [(0, .cells (o.dv.map .d)), (30, .row 41 18 j)], 40, 173, 0⟩) (fun j => j ≤ o.bats.length) (fun j => o.bats.length - j) 0 (Nat.zero_le _) ?_ ?_
  · refine Weak.keep rfl rfl ?_
    (refine rO (And.intro @OpenD.dv.eq_1 (And.intro @List.take_zero.{0} (And.intro @List.map_cons.{0,0} (And.intro @List.map_nil.{0,0} (And.intro @sumR.eq_1 (@sumR.eq_2)))))) ?_; try (with_reducible exact True.intro))
  intro j hj
  by_cases hjl : j < o.bats.length
  · have d1 : decide ((j : Int) < (o.bats.length : Int)) = true := decide_eq_true (by omega)
    have hge : o.bats[j]? = some o.bats[j] := List.getElem?_eq_getElem hjl
    have hwj : IntKind.i64.wrap ((j : Int) + 1) = ((j + 1 : Nat) : Int) := by rw [wrap_i64 (by omega)]; rfl
    have hst := sumR_takeC o.bats j hjl
    have hsn : (o.bats.take (j + 1)).map batU = (o.bats.take j).map batU ++ [batU o.bats[j]] := by rw [List.take_succ_eq_append_getElem hjl, List.map_append]; rfl
    have hll : ((o.bats.take j).map batU).length = j := by rw [List.length_map, List.length_take]; omega
    have hr4 := (batB_pid (hC.bat _ (List.getElem_mem hjl)).1).2
    have hsb := sumR_bound (o.bats.take j) (fun b hb => (batB_pid (hC.bat b (List.mem_of_mem_take hb)).1).2)
    have hlt8 : (o.bats.take j).length ≤ 8 := by rw [List.length_take]; omega
    generalize o.bats[j] = b at *
    have hwa : IntKind.i64.wrap (((sumR (o.bats.take j) : Nat) : Int) + (b.recs.length : Int)) = ((sumR (o.bats.take (j + 1)) : Nat) : Int) := by rw [hst, wrap_i64 (by omega)]; omega
    have hsz : (j + 1) * 192 ≤ 140737488355328 := by omega
    generalize (o.bats.take j).map batU = L at *
    (refine gO (And.intro d1 (And.intro hge (And.intro @BatD.dv.eq_1 (And.intro @OpenD.dv.eq_1 (And.intro hll (And.intro hsz (And.intro @List.map_cons.{0,0} (And.intro @List.map_nil.{0,0} (hwa))))))))) ?_; try (with_reducible exact True.intro))
    refine ⟨j + 1, hjl, by omega, Weak.keep rfl rfl ?_⟩
    rw [hsn]
    simp (maxSteps := 2000000) (disch := omega) only [RUN, TY, RUNB, aop, ofV, SV.ofD, aLd, aSt, aFd, aPt, aLen, aSl, aIf, aMF, aXt, aBu, aCX, aCL, aCy, CV.exact, CV.lstOf, CV.lenOf, CV.one, D.one, Value.oneCell', CV.toD0, iFl, oWn, pLk, nD0, rD0, bQ0, tQ0, kQ0, reduceCtorEq, reduceIte, Nat.reduceBEq, Nat.reduceEqDiff, Nat.reduceAdd, Nat.reduceMul, Nat.reduceSub, Nat.reduceLT, Nat.reduceLeDiff, Nat.reduceBNe, Int.reduceLE, Int.reduceLT, Int.reduceBEq, Int.reduceBNe, Int.reduceEq, Int.reduceNeg, Int.reduceAdd, Int.reduceSub, Int.reduceToNat, forall_const, hwj, batU, OpenD.dv, hll, List.map_cons, List.map_nil]
  have hje : j = o.bats.length := by omega
  subst hje
  rw [List.take_length]
  have d1 : decide ((o.bats.length : Int) < (o.bats.length : Int)) = false := by simp
  have hgS : ∀ t ∈ [(⟨o.pid, o.bats.map batE⟩ : SideD)], ∀ e ∈ t.l, e.b.recs.length ≤ 100000 ∧ e.prod.seen.length ≤ 100000 := fun t ht e he => by
    simp only [List.mem_singleton] at ht; subst ht
    obtain ⟨b, hb, rfl⟩ := List.mem_map.1 he
    have := (batB_pid (hC.bat b hb).1).2
    exact ⟨by show b.recs.length ≤ _; omega, by simp [batE, prodZ]⟩
  have hgM : ∀ e ∈ cpL o, e.b.recs.length ≤ 100000 ∧ e.prod.seen.length ≤ 100000 := fun e he => by
    unfold cpL mkL at he
    obtain ⟨⟨b, i⟩, hbi, rfl⟩ := List.mem_map.1 he
    have hb : b ∈ o.bats := by
      have := List.mem_zipIdx hbi
      obtain ⟨_, _, h⟩ := this
      rw [h]; exact List.getElem_mem _
    have := (batB_pid (hC.bat b hb).1).2
    dsimp only
    unfold copyE
    split
    · exact ⟨by show b.recs.length ≤ _; omega, by simp [prodZ]⟩
    · exact ⟨by show b.recs.length ≤ _; omega, by simp [prodZ]⟩
  by_cases hkl : k = o.bats.length
  · have dk : ((k : Int) == (o.bats.length : Int)) = true := by simp [hkl]
    obtain ⟨t, t1, t2, t3, t4, hok14, x, t5, t6, t7⟩ := copies_whole o hC
    have c2 := (fold14_fun (cpL o) [] (by omega) hgM ⟨by simp, fun x hx => by cases hx⟩).args (xs := [.lst 18 ((cpL o).map EntD.dv), nilV]) (.cons (.refl _) (.cons (.nil 2) .nil))
    have c3 := refFind_fun10 t.p.prods o.pid
    rw [t1] at c2
    obtain ⟨pp, hpp⟩ : ∃ pp, pp = t.p := ⟨_, rfl⟩
    have e1 : (r14 (some t)).1 = pp := hpp.symm
    have e2 : (r14 (some t)).2 = 0 := rfl
    rw [e1, e2] at c2
    rw [← hpp] at t2 t3 t4 t5 c3
    rw [← hpp] at hok14
    have c3 := c3 hok14
    rw [t5] at c3
    have f1 : ((pp.rows.length : Int) == ((sumR o.bats : Nat) : Int)) = true := by simp [t2]
    have f2 : (pp.fin == ((sumR o.bats : Nat) : Int)) = true := by simp [t3]
    have f3 : ((pp.opens.length : Int) == 0) = true := by simp [t4]
    have f4 : (x.next == ((sumR o.bats : Nat) : Int)) = true := by simp [t6]
    have f5 : ((x.seen.length : Int) == 0) = true := by simp [t7]
    simp only [PartD.dv, ProdD.dv] at c2 c3
    (refine gO (And.intro d1 (And.intro dk (And.intro hcl (And.intro @List.length_map.{0,0} (And.intro @OpenD.dv.eq_1 (And.intro f1 (And.intro f2 (And.intro f3 (And.intro f4 (And.intro f5 (And.intro @List.map_cons.{0,0} (@List.map_nil.{0,0})))))))))))) ?_; try (with_reducible exact True.intro))
    (refine rO0 ?_; try (with_reducible exact True.intro))
  · have dk : ((k : Int) == (o.bats.length : Int)) = false := by simp; omega
    have hkn : k < o.bats.length := by omega
    obtain ⟨t, t1, t2, t3, t4⟩ := copies_part o hC k hkn
    have c2 := (fold14_fun ((cpL o).take k) [⟨o.pid, o.bats.map batE⟩] (by rw [List.length_take]; omega) (fun e he => hgM e (List.mem_of_mem_take he)) ⟨by simp, hgS⟩).args (xs := [.lst 18 (((cpL o).take k).map EntD.dv), .lst 2 [[int o.pid, .lst 18 (o.bats.map batU)]]]) (.cons (.refl _) (.cons (sides_le o.pid o.bats) .nil))
    rw [t1] at c2
    obtain ⟨pp, hpp⟩ : ∃ pp, pp = t.p := ⟨_, rfl⟩
    have e1 : (r14 (some t)).1 = pp := hpp.symm
    have e2 : (r14 (some t)).2 = 0 := rfl
    rw [e1, e2] at c2
    rw [← hpp] at t2 t3 t4
    have f1 : ((pp.rows.length : Int) == 0) = true := by simp [t2]
    have f2 : (pp.fin == 0) = true := by simp [t3]
    have f3 : ((pp.opens.length : Int) == 1) = true := by simp [t4]
    have f4 : pp.opens[0]? = some ⟨o.pid, o.epoch, o.bats⟩ := by rw [t4]; rfl
    have f5 : ((o.bats.length : Int) == (o.bats.length : Int)) = true := by simp
    have hkt : k ≤ (cpL o).length := by omega
    have hkn2 : (0 : Int) ≤ (k : Int) := by omega
    have hkb : k ≤ o.bats.length := by omega
    simp only [PartD.dv, List.map_take] at c2
    (refine gO (And.intro d1 (And.intro dk (And.intro hcl (And.intro @List.length_map.{0,0} (And.intro @OpenD.dv.eq_1 (And.intro f1 (And.intro f2 (And.intro f3 (And.intro f4 (And.intro f5 (And.intro hkb (And.intro @List.map_cons.{0,0} (@List.map_nil.{0,0}))))))))))))) ?_; try (with_reducible exact True.intro))
    (refine rO0 ?_; try (with_reducible exact True.intro))
end Go.Proofs.YtafipkbffboebaaDoor
