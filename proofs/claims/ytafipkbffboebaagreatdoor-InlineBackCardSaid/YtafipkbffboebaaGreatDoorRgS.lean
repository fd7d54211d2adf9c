/- Layer 12's statements: InlineBack. -/
import Derived.Test.YtafipkbffboebaaGreatDoorRgR
import Derived.Test.YtafipkbffboebaaGreatDoorRgN
namespace Go.Proofs.YtafipkbffboebaaGreatDoor
open Go Go.RowKit
set_option maxHeartbeats 8000000
set_option maxRecDepth 100000
set_option linter.unusedVariables false
set_option linter.unusedSimpArgs false
theorem early_seen (l : List OpenD) (q : ProdD) : (earlyF l q).seen.length ≤ q.seen.length := by
  unfold earlyF
  split
  · split
    · exact List.length_filter_le ..
    · exact Nat.le_refl _
  · exact Nat.le_refl _
theorem flatE_len : ∀ l : List OpenD, (∀ o ∈ l, o.bats.length ≤ 8) → (l.flatMap fun o => o.bats.map batE).length ≤ 8 * l.length
  | [], _ => by simp
  | o :: l, h => by
    have h1 := h o (List.mem_cons_self ..)
    have h2 := flatE_len l (fun x hx => h x (List.mem_cons_of_mem _ hx))
    rw [List.flatMap_cons, List.length_append, List.length_map, List.length_cons]; omega
theorem logF_small {k : Nat} {p : PartD} (hM : FOkM k p) : (∀ e ∈ logF p, SmallEn e) ∧ (logF p).length ≤ 41 * k + 64 := by
  constructor
  · intro e he
    unfold logF at he
    rcases List.mem_append.1 he with he | he
    · rcases List.mem_append.1 he with he | he
      · obtain ⟨r, _, rfl⟩ := List.mem_map.1 he
        exact ⟨by simp [rowE], by simp [rowE, batZ], by simp [rowE, prodZ]⟩
      · obtain ⟨q, hq, rfl⟩ := List.mem_map.1 he
        have h1 := early_seen p.opens q
        have h2 := hM.seen q hq
        exact ⟨by simp [prodE], by simp [prodE, batZ], by show (earlyF p.opens q).seen.length ≤ _; omega⟩
    · obtain ⟨o, ho, he⟩ := List.mem_flatMap.1 he
      obtain ⟨b, hb, rfl⟩ := List.mem_map.1 he
      have h1 := hM.recs o ho b hb
      exact ⟨by simp [batE], by show b.recs.length ≤ _; omega, by simp [batE, prodZ]⟩
  · have h1 := hM.rows
    have h2 := hM.prods
    have h3 := flatE_len p.opens hM.bats
    have h4 := hM.ok.len8
    unfold logF
    rw [List.length_append, List.length_append, List.length_map, List.length_map]; omega
theorem log_okfun {k : Nat} {p : PartD} (hM : FOkM k p) (hB : BOk p) (hk : k ≤ 20000) : Fun Tryz.prog 21 [.agg p.dv] (.tup [.lst 18 ((logF p).map EntD.dv), int 0]) :=
  log_fun p (by have := hM.rows; omega) (by have := hM.ok.len8; omega) (by have := hM.prods; omega) hB.rows hM.ok.rise (fun o ho => (hM.ok.pid o ho).1) (fun o ho => by have := hM.bats o ho; omega)
    (fun o ho b hb => by obtain ⟨q, _, hl⟩ := hB.link o ho; exact ⟨(hl.bats b hb).1, by have := hM.recs o ho b hb; omega⟩) hM.may (fun q hq => by have := hM.seen q hq; omega)
theorem inlineBack_fun (l : List EntD) (hk : ∀ e ∈ l, -128 ≤ e.kind ∧ e.kind ≤ 127) : Fun Tryz.prog 6 [.lst 18 (l.map EntD.dv)] (boo true) := by
  have cw := wakes12_fun
  have c0 := gAll_fun l
  (refine Fun.of_body Tryz.func6 rfl rfl Tryz.ntmps6 Tryz.results6 (by simp) ?_)
  by_cases h3 : (200 : Int) < (l.length : Int)
  · have d2 : decide ((200 : Int) < (l.length : Int)) = true := decide_eq_true h3
    (refine gO (d2) ?_; try (with_reducible exact True.intro))
    (refine rO0 ?_; try (with_reducible exact True.intro))
  have d2 : decide ((200 : Int) < (l.length : Int)) = false := decide_eq_false h3
  cases hg : gAll l with
  | true =>
    rw [hg] at c0
    (refine gO (d2) ?_; try (with_reducible exact True.intro))
    (refine rO0 ?_; try (with_reducible exact True.intro))
  | false =>
  rw [hg] at c0
  obtain ⟨hl, hs⟩ := gAll_in hg
  have hsm : ∀ e ∈ l, SmallEn e := fun e he => ⟨hk e he, by have := (hs e he).1; omega, by have := (hs e he).2; omega⟩
  have c1 := fold_res l (by omega) hsm
  cases hfo : foldP pZ l with
  | none =>
    have hfe : foldE l = 70 := by unfold foldE; rw [hfo]; rfl
    rw [foldR_eq, hfe] at c1
    generalize foldD l = p at *
    simp only [PartD.dv] at c1
    (refine gO (d2) ?_; try (with_reducible exact True.intro))
    (refine rO0 ?_; try (with_reducible exact True.intro))
  | some p =>
  have hfe : foldE l = 0 := by unfold foldE; rw [hfo]; rfl
  have hfd : foldD l = p := by unfold foldD; rw [hfo]; rfl
  have hM := fold_okM l 0 pZ p fokM0 hfo
  rw [Nat.zero_add] at hM
  have hB := fold_bok l 0 pZ p fokM0 bok0 hfo
  have hlog := log_fold hM hB hl
  obtain ⟨s1, s2⟩ := logF_small hM
  have hM2 := fold_okM (logF p) 0 pZ (backP p) fokM0 hlog
  rw [Nat.zero_add] at hM2
  have hB2 := fold_bok (logF p) 0 pZ (backP p) fokM0 bok0 hlog
  have c2 := log_okfun hM hB (by omega)
  have c3 := fold_res (logF p) (by omega) s1
  have c4 := log_okfun hM2 hB2 (by omega)
  rw [log_back] at c4
  have hfe2 : foldE (logF p) = 0 := by unfold foldE; rw [hlog]; rfl
  have hfr2 : foldR (logF p) = (backP p).dv := by unfold foldR; rw [hlog]
  rw [hfr2, hfe2] at c3
  rw [foldR_eq, hfd, hfe] at c1
  have c5 := sameOpen_fun p.opens p.opens ⟨by have := hM.ok.len8; omega, fun o ho => by have := hM.bats o ho; omega, fun o ho b hb => by have := hM.recs o ho b hb; omega⟩
  rw [show decide (p.opens = p.opens) = true by simp] at c5
  have c6 := same_fun10 p.prods p.prods (hM.small (by omega))
  rw [show decide (p.prods = p.prods) = true by simp] at c6
  have c7 := sameAll_fun (logF p) (logF p) (by omega) (fun e he => ⟨(s1 e he).recs, (s1 e he).seen⟩)
  rw [show decide (logF p = logF p) = true by simp] at c7
  have hrow := hM.rows
  clear hlog s1 hM2 hB2 hfe2 hfr2 s2
  generalize logF p = m at *
  simp only [PartD.dv] at c1 c2
  simp only [PartD.dv, backP] at c3 c4
  have hrl := renum_len p.rows 0
  have hb1 : ((p.rows.length : Int) != (p.rows.length : Int)) = false := by simp
  (refine gO (And.intro d2 (And.intro hrl (And.intro hb1 (@PartD.dv.eq_1)))) ?_; try (with_reducible exact True.intro))
  refine Wp.loop (fun i : Nat => ⟨ofL [(3, .c (.own 0 0)), (7, .c (.own 1 0)), (11, vi .i64 i)], ofH [(0, .cells (p.dv.map .d)), (1, .cells ((backP p).dv.map .d))], 2, 120, 0⟩) (fun i => i ≤ p.rows.length) (fun i => p.rows.length - i) 0 (Nat.zero_le _) ?_ ?_
  · refine Weak.keep rfl rfl ?_
    simp (maxSteps := 2000000) (disch := omega) only [RUN, TY, RUNB, aop, ofV, SV.ofD, aLd, aSt, aFd, aPt, aLen, aSl, aIf, aMF, aXt, aBu, aCX, aCL, aCy, CV.exact, CV.lstOf, CV.lenOf, CV.one, D.one, Value.oneCell', CV.toD0, iFl, oWn, pLk, nD0, rD0, bQ0, tQ0, kQ0, reduceCtorEq, reduceIte, Nat.reduceBEq, Nat.reduceEqDiff, Nat.reduceAdd, Nat.reduceMul, Nat.reduceSub, Nat.reduceLT, Nat.reduceLeDiff, Nat.reduceBNe, Int.reduceLE, Int.reduceLT, Int.reduceBEq, Int.reduceBNe, Int.reduceEq, Int.reduceNeg, Int.reduceAdd, Int.reduceSub, Int.reduceToNat, forall_const, PartD.dv, backP, List.map_nil, List.map_cons]
  intro i hi
  by_cases hil : i < p.rows.length
  · have d3 : decide ((i : Int) < (p.rows.length : Int)) = true := decide_eq_true (by omega)
    have hge : p.rows[i]? = some p.rows[i] := List.getElem?_eq_getElem hil
    have hg2 := renum_get p.rows 0 i
    rw [hge, Option.map_some, Int.zero_add] at hg2
    have hwi : IntKind.i64.wrap ((i : Int) + 1) = ((i + 1 : Nat) : Int) := by rw [wrap_i64 (by omega)]; rfl
    generalize p.rows[i] = r at *
    have hbin := fun x y => (RowD_bin x y ⟨(i : Int), r.pid, r.seq, r.key, r.value⟩ ⟨(i : Int), r.pid, r.seq, r.key, r.value⟩).2
    simp only [decide_true, Bool.not_true] at hbin
    (repeat (first | apply Wp.skip | apply Wp.exit | apply Wp.ret | apply Wp.block | apply Wp.label | ((first | refine Wp.sreg (fun K hK => ?_) | refine Wp.reg (fun K hK => ?_) | refine Wp.sdrw mixed (fun K hK => ?_) | refine Wp.drw mixed (fun K hK => ?_) | refine Wp.condG (fun K hK hF => ?_)); (repeat (revert hK; intro hK; simp (maxSteps := 2000000) (disch := omega) only [RUN, TY, RUNB, aop, ofV, SV.ofD, aLd, aSt, aFd, aPt, aLen, aSl, aIf, aMF, aXt, aBu, aCX, aCL, aCy, CV.exact, CV.lstOf, CV.lenOf, CV.one, D.one, Value.oneCell', CV.toD0, iFl, oWn, pLk, nD0, rD0, bQ0, tQ0, kQ0, reduceCtorEq, reduceIte, Nat.reduceBEq, Nat.reduceEqDiff, Nat.reduceAdd, Nat.reduceMul, Nat.reduceSub, Nat.reduceLT, Nat.reduceLeDiff, Nat.reduceBNe, Int.reduceLE, Int.reduceLT, Int.reduceBEq, Int.reduceBNe, Int.reduceEq, Int.reduceNeg, Int.reduceAdd, Int.reduceSub, Int.reduceToNat, forall_const, d3, hge, hg2, hrl, hbin, RowD.dv, PartD.dv, backP, List.map_nil, List.map_cons]; (first | (refine hK _ ?_; clear hK K) | (refine ⟨by kernel_rfl, hK _ ?_⟩; clear hK K) | (refine hK ?_; clear hK hF K) | (refine hF ?_; clear hK hF K) | refine bcf (by assumption) ?_ | refine bca (by assumption) ?_))); fail_if_success (revert hK; intro hK)) | apply Wp.seq))
    refine ⟨i + 1, hil, by omega, Weak.keep rfl rfl ?_⟩
    simp (maxSteps := 2000000) (disch := omega) only [RUN, TY, RUNB, aop, ofV, SV.ofD, aLd, aSt, aFd, aPt, aLen, aSl, aIf, aMF, aXt, aBu, aCX, aCL, aCy, CV.exact, CV.lstOf, CV.lenOf, CV.one, D.one, Value.oneCell', CV.toD0, iFl, oWn, pLk, nD0, rD0, bQ0, tQ0, kQ0, reduceCtorEq, reduceIte, Nat.reduceBEq, Nat.reduceEqDiff, Nat.reduceAdd, Nat.reduceMul, Nat.reduceSub, Nat.reduceLT, Nat.reduceLeDiff, Nat.reduceBNe, Int.reduceLE, Int.reduceLT, Int.reduceBEq, Int.reduceBNe, Int.reduceEq, Int.reduceNeg, Int.reduceAdd, Int.reduceSub, Int.reduceToNat, forall_const, hwi, PartD.dv, backP, List.map_nil, List.map_cons]
  · have hie : i = p.rows.length := by omega
    subst hie
    have d3 : decide ((p.rows.length : Int) < (p.rows.length : Int)) = false := by simp
    (repeat (first | apply Wp.skip | apply Wp.exit | apply Wp.ret | apply Wp.block | apply Wp.label | ((first | refine Wp.sreg (fun K hK => ?_) | refine Wp.reg (fun K hK => ?_) | refine Wp.sdrw mixed (fun K hK => ?_) | refine Wp.drw mixed (fun K hK => ?_) | refine Wp.condG (fun K hK hF => ?_)); (repeat (revert hK; intro hK; simp (maxSteps := 2000000) (disch := omega) only [RUN, TY, RUNB, aop, ofV, SV.ofD, aLd, aSt, aFd, aPt, aLen, aSl, aIf, aMF, aXt, aBu, aCX, aCL, aCy, CV.exact, CV.lstOf, CV.lenOf, CV.one, D.one, Value.oneCell', CV.toD0, iFl, oWn, pLk, nD0, rD0, bQ0, tQ0, kQ0, reduceCtorEq, reduceIte, Nat.reduceBEq, Nat.reduceEqDiff, Nat.reduceAdd, Nat.reduceMul, Nat.reduceSub, Nat.reduceLT, Nat.reduceLeDiff, Nat.reduceBNe, Int.reduceLE, Int.reduceLT, Int.reduceBEq, Int.reduceBNe, Int.reduceEq, Int.reduceNeg, Int.reduceAdd, Int.reduceSub, Int.reduceToNat, forall_const, d3, hrl, PartD.dv, backP, List.map_nil, List.map_cons]; (first | (refine hK _ ?_; clear hK K) | (refine ⟨by kernel_rfl, hK _ ?_⟩; clear hK K) | (refine hK ?_; clear hK hF K) | (refine hF ?_; clear hK hF K) | refine bcf (by assumption) ?_ | refine bca (by assumption) ?_))); fail_if_success (revert hK; intro hK)) | apply Wp.seq))
    (refine rO0 ?_; try (with_reducible exact True.intro))
end Go.Proofs.YtafipkbffboebaaGreatDoor
