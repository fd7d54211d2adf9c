/- Layer 12's statements: InlineOrder. -/
import Derived.Test.YtafipkbffboebaaDoorRgN
import Derived.Test.YtafipkbffboebaaDoorPlM
namespace Go.Proofs.YtafipkbffboebaaDoor
open Go Go.RowKit
set_option maxHeartbeats 16000000
set_option maxRecDepth 100000
set_option linter.unusedVariables false
set_option linter.unusedSimpArgs false
theorem sumR_le40 : ∀ (l : List BatD), (∀ b ∈ l, b.recs.length ≤ 40) → sumR l ≤ 40 * l.length
  | [], _ => by simp [sumR]
  | b :: l, h => by
    have h1 := h b (List.mem_cons_self ..)
    have h2 := sumR_le40 l (fun x hx => h x (List.mem_cons_of_mem _ hx))
    simp only [sumR, List.length_cons]; omega
theorem selF_snoc (l : List EntD) (e : EntD) (pid : Int) : selF (l ++ [e]) pid = selF l pid ++ (if isTx pid e then [e.b] else []) := by
  unfold selF
  rw [List.filter_append, List.map_append]
  cases h : isTx pid e <;> simp [h]
theorem selF_len (l : List EntD) (pid : Int) : (selF l pid).length ≤ l.length := by
  unfold selF
  rw [List.length_map]; exact List.length_filter_le ..
theorem selF_recs {l : List EntD} {n : Nat} (h : ∀ e ∈ l, e.b.recs.length ≤ n) (pid : Int) : ∀ b ∈ selF l pid, b.recs.length ≤ n := fun b hb => by
  unfold selF at hb
  obtain ⟨e, he, rfl⟩ := List.mem_map.1 hb
  exact h e (List.mem_filter.1 he).1
theorem putsP_snoc (p : PartD) (l : List BatD) (b : BatD) : putsP p (l ++ [b]) = { putsP p l with rows := (putsP p l).rows ++ rowsF b (putsP p l).fin, fin := (putsP p l).fin + (b.recs.length : Int) } := by
  unfold putsP
  rw [List.foldl_append]; rfl
theorem step_rest2 {p q : PartD} {e : EntD} (h : stepP p e = some q) (h0 : e.kind ≠ 0) (h1 : e.kind ≠ 1) (h2 : e.kind ≠ 2) (h5 : e.kind ≠ 5) : q.rows = p.rows ∧ q.fin = p.fin := by
  have ho := step_kind h
  unfold stepP at h
  rw [ho, if_neg (by simp), if_neg h0, if_neg h1, if_neg h2] at h
  split at h
  · cases h
  split at h
  · cases h
  try rw [if_neg h5] at h
  split at h
  · cases h
  · cases h; exact ⟨rfl, rfl⟩
def contB (l : List EntD) (pid : Int) (n : Nat) : Bool := match n with
  | 0 => false
  | k + 1 => match l[k]? with
    | some y => y.kind != 1 || y.b.pid != pid
    | none => false
theorem contB_no {l : List EntD} {pid : Int} {n i : Nat} (hn : n ≤ i) (hi : i ≤ l.length) (h : contB l pid n = false) : n = 0 ∨ ∃ j e, n = j + 1 ∧ (l.take i)[j]? = some e ∧ isMk pid e = true := by
  cases n with
  | zero => exact .inl rfl
  | succ k =>
    right
    have hlt : k < l.length := by omega
    have hge : l[k]? = some l[k] := List.getElem?_eq_getElem hlt
    refine ⟨k, l[k], rfl, by rw [List.getElem?_take_of_lt (by omega), hge], ?_⟩
    simp only [contB, hge] at h
    simp only [Bool.or_eq_false_iff, bne_eq_false_iff_eq] at h
    simp [isMk, h.1, h.2]
theorem inlineOrder_fun (l : List EntD) (hk : ∀ e ∈ l, -128 ≤ e.kind ∧ e.kind ≤ 127) : Fun Tryd.prog 4 [.lst 18 (l.map EntD.dv)] (boo true) := by
  have cw := wakes12_fun
  have c0 := gAll_fun l
  (refine Fun.of_body Tryd.func4 rfl rfl Tryd.ntmps4 Tryd.results4 (by simp) ?_)
  by_cases h3 : (200 : Int) < (l.length : Int)
  · have d2 : decide ((200 : Int) < (l.length : Int)) = true := decide_eq_true h3
    (refine gO (d2) ?_; try (with_reducible exact True.intro))
    (refine rO0 ?_; try (with_reducible exact True.intro))
  have d2 : decide ((200 : Int) < (l.length : Int)) = false := decide_eq_false h3
  cases hg : gAll l with
  | true =>
    rw [hg] at c0
    (refine gO (d2) ?_; try (with_reducible exact True.intro))
    (refine rO0 ?_; try (with_reducible exact True.intro))
  | false =>
  rw [hg] at c0
  obtain ⟨hl, hs⟩ := gAll_in hg
  have hsm : ∀ e ∈ l, SmallEn e := fun e he => ⟨hk e he, by have := (hs e he).1; omega, by have := (hs e he).2; omega⟩
  have c1 := fold_res l (by omega) hsm
  cases hfo : foldP pZ l with
  | none =>
    have hfe : foldE l = 70 := by unfold foldE; rw [hfo]; rfl
    rw [foldR_eq, hfe] at c1
    generalize foldD l = p at *
    simp only [PartD.dv] at c1
    (refine gO (d2) ?_; try (with_reducible exact True.intro))
    (refine rO0 ?_; try (with_reducible exact True.intro))
  | some p =>
  have hfe : foldE l = 0 := by unfold foldE; rw [hfo]; rfl
  have hfd : foldD l = p := by unfold foldD; rw [hfo]; rfl
  obtain ⟨k1, k2, k3⟩ := foldD_ok (l := l) (by omega)
  rw [hfd] at k3
  have c5 := refSameRows_fun p.rows p.rows k3
  rw [show decide (p.rows = p.rows) = true by simp] at c5
  rw [foldR_eq, hfd, hfe] at c1
  simp only [PartD.dv] at c1
  (refine gO (d2) ?_; try (with_reducible exact True.intro))
  refine Wp.weak (Weak.nilApp (t := 5) (τ := 1) 36 5 (by (refine rO0 ?_; try (with_reducible exact True.intro))) (by (refine rO0 ?_; try (with_reducible exact True.intro)))) ?_
  refine Wp.loop (fun i : Nat => ⟨ofL [(0, .c (.d (.lst 18 (l.map EntD.dv)))), (3, .c (.own 0 0)), (5, .c (.app 1 5 ((foldD (l.take i)).rows.map RowD.dv))), (6, vi .i64 (foldD (l.take i)).fin), (7, vi .i64 i)], ofH [(0, .cells (p.dv.map .d)), (1, .row 36 5 (foldD (l.take i)).rows.length)], 2, 166, 0⟩) (fun i => i ≤ l.length) (fun i => l.length - i) 0 (Nat.zero_le _) ?_ ?_
  · refine Weak.keep rfl rfl ?_
    (refine rO (And.intro @PartD.dv.eq_1 (And.intro @List.take_zero.{0} (And.intro @foldD.eq_1 (And.intro @foldP.eq_1 (And.intro @foldP.eq_2 (And.intro @pZ.eq_1 (And.intro @Option.getD_some.{0} (And.intro @List.map_nil.{0,0} (And.intro @List.map_cons.{0,0} (@List.length_nil.{0})))))))))) ?_; try (with_reducible exact True.intro))
  intro i hi
  obtain ⟨q, hq, hM, hpend⟩ := fold_take hfo i hi
  have hfq : foldD (l.take i) = q := by unfold foldD; rw [hq]; rfl
  rw [hfq]
  have hfin := hM.fin
  have hrow := hM.rows
  by_cases hil : i < l.length
  rotate_left
  · have hie : i = l.length := by omega
    subst hie
    have d3 : decide ((l.length : Int) < (l.length : Int)) = false := by simp
    have hqp : q = p := by
      rw [List.take_length, hfo] at hq; cases hq; rfl
    subst hqp
    (refine gO (And.intro d3 (And.intro @PartD.dv.eq_1 (And.intro @List.map_cons.{0,0} (@List.map_nil.{0,0})))) ?_; try (with_reducible exact True.intro))
    (refine rO0 ?_; try (with_reducible exact True.intro))
  have d3 : decide ((i : Int) < (l.length : Int)) = true := decide_eq_true (by omega)
  obtain ⟨q', hst, hq'⟩ := fold_next hfo hil hq
  have hfq' : foldD (l.take (i + 1)) = q' := by unfold foldD; rw [hq']; rfl
  have hge : l[i]? = some l[i] := List.getElem?_eq_getElem hil
  have hmem : l[i] ∈ l := List.getElem_mem hil
  have hwi : IntKind.i64.wrap ((i : Int) + 1) = ((i + 1 : Nat) : Int) := by rw [wrap_i64 (by omega)]; rfl
  generalize l[i] = x at *
  have hxr := (hs x hmem).1
  by_cases hc2 : x.kind = 2
  · have e2 : (x.kind == 2) = true := by simpa using hc2
    (refine gO (And.intro d3 (And.intro hge (And.intro @EntD.dv.eq_1 (e2)))) ?_; try (with_reducible exact True.intro))
    (refine rO0 ?_; try (with_reducible exact True.intro))
  have e2 : (x.kind == 2) = false := by simpa using hc2
  by_cases hc5 : x.kind = 5
  · have e5 : (x.kind == 5) = true := by simpa using hc5
    (refine gO (And.intro d3 (And.intro hge (And.intro @EntD.dv.eq_1 (And.intro e2 (e5))))) ?_; try (with_reducible exact True.intro))
    (refine rO0 ?_; try (with_reducible exact True.intro))
  have e5 : (x.kind == 5) = false := by simpa using hc5
  by_cases hc0 : x.kind = 0
  · have e0 : (x.kind == 0) = true := by simpa using hc0
    have e1 : (x.kind != 1) = true := by simp [hc0]
    rw [step_data (step_kind hst) hc0] at hst
    cases ht : x.b.txn with
    | true =>
      obtain ⟨_, _, hqe⟩ := (data_txn_iff ht).1 hst
      (refine gO (And.intro d3 (And.intro hge (And.intro @EntD.dv.eq_1 (And.intro e2 (And.intro e5 (And.intro e0 (And.intro e1 (And.intro ht (hwi))))))))) ?_; try (with_reducible exact True.intro))
      refine ⟨i + 1, hil, by omega, Weak.keep rfl rfl ?_⟩
      rw [hfq', hqe]
      (refine rO0 ?_; try (with_reducible exact True.intro))
    | false =>
      obtain ⟨_, _, hfl, hqe⟩ := (data_plain_iff ht hfin).1 hst
      have c6 := refRows_fun x.b q.fin (by omega)
      have hrl := rows_len' x.b q.fin
      have hw1 : IntKind.i64.wrap (q.fin + (x.b.recs.length : Int)) = q.fin + (x.b.recs.length : Int) := wrap_i64 (by omega)
      have hb1 : (q.rows.length + x.b.recs.length) * 56 ≤ 140737488355328 := by omega
      simp only [BatD.dv, ht] at c6
      generalize hR : rowsF x.b q.fin = R at *
      (refine gO (And.intro d3 (And.intro hge (And.intro @EntD.dv.eq_1 (And.intro e2 (And.intro e5 (And.intro e0 (And.intro e1 (And.intro ht (And.intro hwi (And.intro @List.length_map.{0,0} (And.intro hrl (And.intro hb1 (hw1))))))))))))) ?_; try (with_reducible exact True.intro))
      refine ⟨i + 1, hil, by omega, Weak.keep rfl rfl ?_⟩
      rw [hfq', hqe]
      (refine rO (And.intro @List.map_append.{0,0} (And.intro @List.length_append.{0} (And.intro hrl (hR)))) ?_; try (with_reducible exact True.intro))
  have e0 : (x.kind == 0) = false := by simpa using hc0
  by_cases hc1 : x.kind = 1
  rotate_left
  · have e1 : (x.kind != 1) = true := by simpa using hc1
    obtain ⟨r1, r2⟩ := step_rest2 hst hc0 hc1 hc2 hc5
    (refine gO (And.intro d3 (And.intro hge (And.intro @EntD.dv.eq_1 (And.intro e2 (And.intro e5 (And.intro e0 (And.intro e1 (hwi)))))))) ?_; try (with_reducible exact True.intro))
    refine ⟨i + 1, hil, by omega, Weak.keep rfl rfl ?_⟩
    rw [hfq', r1, r2]
    (refine rO0 ?_; try (with_reducible exact True.intro))
  have e1 : (x.kind != 1) = false := by simp [hc1]
  rw [step_mark (step_kind hst) hc1] at hst
  obtain ⟨o, ho, hep, hfit, hqe⟩ := mark_iff.1 hst
  have hob : o.bats = pendF (l.take i) x.b.pid := by
    rw [← hpend x.b.pid]; unfold batsO; rw [ho]
  have hwm : IntKind.i64.wrap ((i : Int) - 1) = (i : Int) - 1 := wrap_i64 (by omega)
  (refine gO (And.intro d3 (And.intro hge (And.intro @EntD.dv.eq_1 (And.intro e2 (And.intro e5 (And.intro e0 (And.intro e1 (And.intro hwi (hwm))))))))) ?_; try (with_reducible exact True.intro))
  refine Wp.loop (fun n : Nat => ⟨ofL [(0, .c (.d (.lst 18 (l.map EntD.dv)))), (3, .c (.own 0 0)), (5, .c (.app 1 5 (q.rows.map RowD.dv))), (6, vi .i64 q.fin), (7, vi .i64 i), (8, .c (.own 2 0)), (9, vi .i64 ((n : Int) - 1))], ofH [(0, .cells (p.dv.map .d)), (1, .row 36 5 q.rows.length), (2, .cells (x.dv.map .d))], 3, 166, 0⟩)
    (fun n => n ≤ i ∧ ∀ j e, n ≤ j → (l.take i)[j]? = some e → isMk x.b.pid e = false) (fun n => n) i ⟨Nat.le_refl _, fun j e hj he => by rw [List.getElem?_eq_none (by rw [List.length_take]; omega)] at he; cases he⟩ ?_ ?_
  · refine Weak.keep rfl rfl ?_
    (refine rO (And.intro @EntD.dv.eq_1 (And.intro @List.map_nil.{0,0} (@List.map_cons.{0,0}))) ?_; try (with_reducible exact True.intro))
  rintro n ⟨hn, hall⟩
  have hcast : ((n : Int) - 1 + 1) = (n : Int) := by omega
  have hwn : IntKind.i64.wrap (n : Int) = (n : Int) := wrap_i64 (by omega)
  have hwn1 : IntKind.i64.wrap ((n : Int) - 1 + 1) = (n : Int) := by rw [hcast]; exact hwn
  (refine gO0 ?_; try (with_reducible exact True.intro))
  (first | refine Wp.stoD 93 (vb (contB l x.b.pid n)) mixed ?_ ?_ | refine Wp.rtoDS 93 (vb (contB l x.b.pid n)) mixed ?_ ?_ | (refine Wp.seq ?_; first | refine Wp.stoD 93 (vb (contB l x.b.pid n)) mixed ?_ ?_ | refine Wp.rtoDS 93 (vb (contB l x.b.pid n)) mixed ?_ ?_))
  · cases n with
    | zero =>
      have hd : decide ((0 : Int) ≤ ((0 : Nat) : Int) - 1) = false := by decide
      (simp (maxSteps := 2000000) (disch := omega) only [RUN, TY, RUNB, aop, ofV, SV.ofD, aLd, aSt, aFd, aPt, aLen, aSl, aIf, aMF, aXt, aBu, aCX, aCL, aCy, CV.exact, CV.lstOf, CV.lenOf, CV.one, D.one, Value.oneCell', CV.toD0, iFl, oWn, pLk, nD0, rD0, bQ0, tQ0, kQ0, reduceCtorEq, reduceIte, Nat.reduceBEq, Nat.reduceEqDiff, Nat.reduceAdd, Nat.reduceMul, Nat.reduceSub, Nat.reduceLT, Nat.reduceLeDiff, Nat.reduceBNe, Int.reduceLE, Int.reduceLT, Int.reduceBEq, Int.reduceBNe, Int.reduceEq, Int.reduceNeg, Int.reduceAdd, Int.reduceSub, Int.reduceToNat, forall_const, hd, contB]; (repeat (refine bcf (by assumption) ?_; simp (maxSteps := 2000000) (disch := omega) only [RUN, TY, RUNB, aop, ofV, SV.ofD, aLd, aSt, aFd, aPt, aLen, aSl, aIf, aMF, aXt, aBu, aCX, aCL, aCy, CV.exact, CV.lstOf, CV.lenOf, CV.one, D.one, Value.oneCell', CV.toD0, iFl, oWn, pLk, nD0, rD0, bQ0, tQ0, kQ0, reduceCtorEq, reduceIte, Nat.reduceBEq, Nat.reduceEqDiff, Nat.reduceAdd, Nat.reduceMul, Nat.reduceSub, Nat.reduceLT, Nat.reduceLeDiff, Nat.reduceBNe, Int.reduceLE, Int.reduceLT, Int.reduceBEq, Int.reduceBNe, Int.reduceEq, Int.reduceNeg, Int.reduceAdd, Int.reduceSub, Int.reduceToNat, forall_const, hd, contB])))
      all_goals (exact (show okTr _ _ = true by kernel_rfl))
    | succ m =>
      have hd : decide ((0 : Int) ≤ ((m + 1 : Nat) : Int) - 1) = true := decide_eq_true (by omega)
      have hnn : ((0 : Int) ≤ ((m + 1 : Nat) : Int) - 1) = True := eq_true (by omega)
      have htn : (((m + 1 : Nat) : Int) - 1).toNat = m := by omega
      have hgm : l[m]? = some l[m] := List.getElem?_eq_getElem (by omega)
      have hcb : contB l x.b.pid (m + 1) = (l[m].kind != 1 || l[m].b.pid != x.b.pid) := by simp only [contB, hgm]
      rw [hcb]
      generalize l[m] = y at *
      cases q1 : (y.kind != 1) <;> cases q2 : (y.b.pid != x.b.pid) <;> (((refine rO (And.intro hd (And.intro hnn (And.intro htn (And.intro hgm (And.intro @EntD.dv.eq_1 (And.intro q1 (q2))))))) ?_; try (with_reducible exact True.intro)); (repeat (refine bcf (by assumption) ?_; (refine rO (And.intro hd (And.intro hnn (And.intro htn (And.intro hgm (And.intro @EntD.dv.eq_1 (And.intro q1 (q2))))))) ?_; try (with_reducible exact True.intro))))); all_goals (exact (show okTr _ _ = true by kernel_rfl)))
  refine Wp.cond (by (refine rO0 ?_; try (with_reducible exact True.intro)); rfl) (fun h => ?_) (fun h => ?_)
  · cases n with
    | zero => cases h
    | succ m =>
      have hgm : l[m]? = some l[m] := List.getElem?_eq_getElem (by omega)
      have hw2 : IntKind.i64.wrap (((m + 1 : Nat) : Int) - 1 - 1) = (m : Int) - 1 := by rw [wrap_i64 (by omega)]; omega
      (refine gO0 ?_; try (with_reducible exact True.intro))
      refine ⟨m, ⟨by omega, fun j e hj he => ?_⟩, by omega, Weak.keep rfl rfl ?_⟩
      · rcases Nat.lt_or_ge m j with hjm | hjm
        · exact hall j e (by omega) he
        · have : j = m := by omega
          subst this
          rw [List.getElem?_take_of_lt (by omega), hgm] at he
          cases he
          have h' : contB l x.b.pid (j + 1) = true := h
          simp only [contB, hgm] at h'
          simp only [Bool.or_eq_true, bne_iff_ne] at h'
          unfold isMk
          rcases h' with h' | h' <;> simp [h']
      (refine rO (hw2) ?_; try (with_reducible exact True.intro))
  have hedge := contB_no hn hi h
  have hsel := pend_from x.b.pid (l.take i) n hedge hall
  rw [hsel] at hob
  have htl : ∀ k, n ≤ k → k ≤ i → (selF ((l.take k).drop n) x.b.pid).length ≤ 200 ∧ sumR (selF ((l.take k).drop n) x.b.pid) ≤ 8000 := fun k hk1 hk2 => by
    have a1 := selF_len ((l.take k).drop n) x.b.pid
    have a2 : ((l.take k).drop n).length ≤ 200 := by rw [List.length_drop, List.length_take]; omega
    have a3 := sumR_le40 (selF ((l.take k).drop n) x.b.pid) (selF_recs (n := 40) (fun e he => (hs e (List.mem_of_mem_take (List.mem_of_mem_drop he))).1) _)
    omega
  have hpn : putsP q (selF ((l.take n).drop n) x.b.pid) = q := by
    rw [List.drop_eq_nil_of_le (by rw [List.length_take]; omega)]; rfl
  (refine gO (And.intro hwn (And.intro hwn1 (hcast))) ?_; try (with_reducible exact True.intro))
  refine Wp.loop (fun k : Nat => ⟨ofL [(0, .c (.d (.lst 18 (l.map EntD.dv)))), (3, .c (.own 0 0)), (5, .c (.app 1 5 ((putsP q (selF ((l.take k).drop n) x.b.pid)).rows.map RowD.dv))), (6, vi .i64 (putsP q (selF ((l.take k).drop n) x.b.pid)).fin), (7, vi .i64 i), (8, .c (.own 2 0)), (10, vi .i64 k)], ofH [(0, .cells (p.dv.map .d)), (1, .row 36 5 (putsP q (selF ((l.take k).drop n) x.b.pid)).rows.length), (2, .cells (x.dv.map .d))], 3, 166, 0⟩)
    (fun k => n ≤ k ∧ k ≤ i ∧ (x.yes = false → k = n)) (fun k => i - k) n ⟨Nat.le_refl _, hn, fun _ => rfl⟩ ?_ ?_
  · refine Weak.keep rfl rfl ?_
    rw [hpn]
    (refine rO0 ?_; try (with_reducible exact True.intro))
  rintro k ⟨hk1, hk2, hk3⟩
  obtain ⟨a1, a2⟩ := htl k hk1 hk2
  have hpk := puts_keepP (selF ((l.take k).drop n) x.b.pid) q
  cases hy : x.yes with
  | false =>
    have hkn := hk3 hy
    subst hkn
    rw [hy] at hqe
    rw [hpn]
    have hw1 : IntKind.i64.wrap (q.fin + 1) = q.fin + 1 := wrap_i64 (by omega)
    cases d4 : decide ((k : Int) < (i : Int)) with
    | false =>
      (refine gO (And.intro d4 (And.intro @EntD.dv.eq_1 (And.intro hy (And.intro hw1 (And.intro hwi (And.intro @List.map_nil.{0,0} (@List.map_cons.{0,0}))))))) ?_; try (with_reducible exact True.intro))
      refine ⟨i + 1, hil, by omega, Weak.keep rfl rfl ?_⟩
      rw [hfq', hqe]
      (refine rO (And.intro @putsP.eq_1 (And.intro @List.foldl_nil.{0,0} (And.intro @Bool.false_eq_true (@if_false.{1})))) ?_; try (with_reducible exact True.intro))
    | true =>
      (refine gO (And.intro d4 (And.intro @EntD.dv.eq_1 (And.intro hy (And.intro hw1 (And.intro hwi (And.intro @List.map_nil.{0,0} (@List.map_cons.{0,0}))))))) ?_; try (with_reducible exact True.intro))
      refine ⟨i + 1, hil, by omega, Weak.keep rfl rfl ?_⟩
      rw [hfq', hqe]
      (refine rO (And.intro @putsP.eq_1 (And.intro @List.foldl_nil.{0,0} (And.intro @Bool.false_eq_true (@if_false.{1})))) ?_; try (with_reducible exact True.intro))
  | true =>
    rw [hy, if_pos rfl] at hqe
    by_cases hki : k < i
    rotate_left
    · have hke : k = i := by omega
      have d4 : decide ((k : Int) < (i : Int)) = false := decide_eq_false (by omega)
      rw [hke] at hpk a1 a2 d4 ⊢
      rw [← hob] at hpk a2 ⊢
      have hw1 : IntKind.i64.wrap ((putsP q o.bats).fin + 1) = (putsP q o.bats).fin + 1 := wrap_i64 (by rw [hpk.2.2.2.1]; omega)
      (refine gO (And.intro d4 (And.intro @EntD.dv.eq_1 (And.intro hy (And.intro hw1 (And.intro hwi (And.intro @List.map_nil.{0,0} (@List.map_cons.{0,0}))))))) ?_; try (with_reducible exact True.intro))
      refine ⟨i + 1, hil, by omega, Weak.keep rfl rfl ?_⟩
      rw [hfq', hqe]
      (refine rO0 ?_; try (with_reducible exact True.intro))
    have d4 : decide ((k : Int) < (i : Int)) = true := decide_eq_true (by omega)
    have hkl : k < l.length := by omega
    have hgk : l[k]? = some l[k] := List.getElem?_eq_getElem hkl
    have hmk : l[k] ∈ l := List.getElem_mem hkl
    have hdt : (l.take (k + 1)).drop n = (l.take k).drop n ++ [l[k]] := by
      rw [List.take_succ_eq_append_getElem hkl, List.drop_append_of_le_length (by rw [List.length_take]; omega)]
    have hsn := selF_snoc ((l.take k).drop n) l[k] x.b.pid
    rw [← hdt] at hsn
    have hwk : IntKind.i64.wrap ((k : Int) + 1) = ((k + 1 : Nat) : Int) := by rw [wrap_i64 (by omega)]; rfl
    generalize l[k] = y at *
    have hyr := (hs y hmk).1
    (refine gO (And.intro d4 (And.intro @EntD.dv.eq_1 (And.intro hy (And.intro @List.map_nil.{0,0} (@List.map_cons.{0,0}))))) ?_; try (with_reducible exact True.intro))
    (first | refine Wp.stoD 132 (vb (y.kind == 0 && y.b.txn && y.b.pid == x.b.pid)) mixed ?_ ?_ | refine Wp.rtoDS 132 (vb (y.kind == 0 && y.b.txn && y.b.pid == x.b.pid)) mixed ?_ ?_ | (refine Wp.seq ?_; first | refine Wp.stoD 132 (vb (y.kind == 0 && y.b.txn && y.b.pid == x.b.pid)) mixed ?_ ?_ | refine Wp.rtoDS 132 (vb (y.kind == 0 && y.b.txn && y.b.pid == x.b.pid)) mixed ?_ ?_))
    · cases q1 : (y.kind == 0) <;> cases q2 : y.b.txn <;> cases q3 : (y.b.pid == x.b.pid) <;> (((refine rO (And.intro hgk (And.intro @EntD.dv.eq_1 (And.intro q1 (And.intro q2 (q3))))) ?_; try (with_reducible exact True.intro)); (repeat (refine bcf (by assumption) ?_; (refine rO (And.intro hgk (And.intro @EntD.dv.eq_1 (And.intro q1 (And.intro q2 (q3))))) ?_; try (with_reducible exact True.intro))))); all_goals (exact (show okTr _ _ = true by kernel_rfl)))
    refine Wp.cond (by (refine rO0 ?_; try (with_reducible exact True.intro)); rfl) (fun h => ?_) (fun h => ?_)
    · have htx : isTx x.b.pid y = true := by
        simp only [Bool.and_eq_true, beq_iff_eq] at h
        simp [isTx, h.1.1, h.1.2, h.2]
      rw [htx, if_pos rfl] at hsn
      have hpp := putsP_snoc q (selF ((l.take k).drop n) x.b.pid) y.b
      rw [← hsn] at hpp
      have hfb : -1000000000 ≤ (putsP q (selF ((l.take k).drop n) x.b.pid)).fin ∧ (putsP q (selF ((l.take k).drop n) x.b.pid)).fin ≤ 1000000000 := by rw [hpk.2.2.2.1]; omega
      have hrb : (putsP q (selF ((l.take k).drop n) x.b.pid)).rows.length ≤ 100000 := by rw [hpk.2.2.2.2]; omega
      generalize putsP q (selF ((l.take k).drop n) x.b.pid) = u at *
      have c6 := refRows_fun y.b u.fin (by omega)
      have hrl := rows_len' y.b u.fin
      have hw1 : IntKind.i64.wrap (u.fin + (y.b.recs.length : Int)) = u.fin + (y.b.recs.length : Int) := wrap_i64 (by omega)
      have hb1 : (u.rows.length + y.b.recs.length) * 56 ≤ 140737488355328 := by omega
      simp only [BatD.dv] at c6
      generalize hR : rowsF y.b u.fin = R at *
      (refine gO (And.intro hgk (And.intro @EntD.dv.eq_1 (And.intro @List.length_map.{0,0} (And.intro hrl (And.intro hb1 (hw1)))))) ?_; try (with_reducible exact True.intro))
      refine ⟨k + 1, ⟨by omega, hki, fun e => by cases e⟩, by omega, Weak.keep rfl rfl ?_⟩
      rw [hpp]
      (refine rO (And.intro @List.map_append.{0,0} (And.intro @List.length_append.{0} (And.intro hrl (And.intro hR (And.intro @EntD.dv.eq_1 (And.intro hwk (And.intro hy (And.intro @List.map_nil.{0,0} (@List.map_cons.{0,0}))))))))) ?_; try (with_reducible exact True.intro))
    · have htx : isTx x.b.pid y = false := by
        unfold isTx
        cases q1 : (y.kind == 0) <;> cases q2 : y.b.txn <;> cases q3 : (y.b.pid == x.b.pid) <;> simp_all
      rw [htx, if_neg (by simp), List.append_nil] at hsn
      (refine gO0 ?_; try (with_reducible exact True.intro))
      refine ⟨k + 1, ⟨by omega, hki, fun e => by cases e⟩, by omega, Weak.keep rfl rfl ?_⟩
      rw [hsn]
      (refine rO (And.intro @EntD.dv.eq_1 (And.intro hwk (And.intro hy (And.intro @List.map_nil.{0,0} (@List.map_cons.{0,0}))))) ?_; try (with_reducible exact True.intro))
end Go.Proofs.YtafipkbffboebaaDoor
