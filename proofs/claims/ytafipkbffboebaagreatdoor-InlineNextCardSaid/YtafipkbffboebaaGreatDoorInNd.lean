/- Package inline: Next. -/
import Derived.Test.YtafipkbffboebaaGreatDoorInNc
namespace Go.Proofs.YtafipkbffboebaaGreatDoor
open Go Go.RowKit
set_option maxHeartbeats 8000000
set_option maxRecDepth 100000
set_option linter.unusedVariables false
set_option linter.unusedSimpArgs false
theorem opensC_ren3 (e v : Nat) (vt : Nat → Nat) (l : List OpenD) : HE.ren (fun x => if x = 0 then 3 else if x = 3 then 0 else x) (.mrow e 3 v (opensC vt l)) = .mrow e 3 v (opensC vt l) := by
  show HE.mrow e 3 v (List.map _ _) = _
  rw [opensC_renOf _ _ l (fun x hx => by
    have e1 : ¬ 10 + x.pid.toNat = 0 := by omega
    have e2 : ¬ 10 + x.pid.toNat = 3 := by omega
    simp only [e1, e2, if_false])]
def nxtR (p : PartD) (e : EntD) : List D := match stepP p e with
  | some q => q.dv
  | none => partZD
def nxtE (p : PartD) (e : EntD) : Int := if (stepP p e).isSome then 0 else 70
theorem next_res (p : PartD) (e : EntD) (k : Nat) (h : FOk k p) (hk : k ≤ 20000) (he : SmallEn e) : Fun Tryz.prog 19 [.agg p.dv, .agg e.dv] (.tup [.agg (nxtR p e), int (nxtE p e)]) := by
  obtain ⟨r, t, c2, hcase⟩ := nextOk (ownS p) e k h hk he.kind he.recs he.seen
  have hrow := h.rows
  have hprod := h.prods
  have c1 := own_fun p h.ok (by omega) (fun o ho => by have := h.bats o ho; omega) (fun o ho b hb => by have := h.recs o ho b hb; omega) (by omega) (fun q hq => by have := h.seen q hq; omega)
  have hbV : entV e = .agg (e.dv.map CV.d) := rfl
  (refine Fun.of_bodyW Tryz.func19 rfl rfl Tryz.ntmps19 Tryz.results19 (by simp) ?_)
  (refine gO (And.intro @PartD.dv.eq_1 (@EntD.dv.eq_1)) ?_; try (with_reducible exact True.intro))
  (first | refine Wp.sregG ?_ | refine Wp.regG ?_ | (refine Wp.seq ?_; first | refine Wp.sregG ?_ | refine Wp.regG ?_))
  (refine GRun.at 1 (fun K hK => ?_); (refine rO (And.intro @GRUN (And.intro @PartD.dv.eq_1 (And.intro @List.map_cons.{0,0} (@List.map_nil.{0,0})))) ?_; try (with_reducible exact True.intro)); refine hK _ ?_; clear hK K)
  (refine GRun.call (c1) [] 3 rfl rfl ?_ ?_; (focus ((refine rOs (And.intro @HEREN (And.intro @GRUN (And.intro @HE_ren_id (And.intro @PartD.dv.eq_1 (And.intro @List.map_cons.{0,0} (@List.map_nil.{0,0})))))) ?_; try (with_reducible exact True.intro)); done)))
  (refine GRun.done (fun K hK => ?_); simp (maxSteps := 2000000) (disch := omega) only [RUN, TY, RUNB, aop, ofV, SV.ofD, aLd, aSt, aFd, aPt, aLen, aSl, aIf, aMF, aXt, aBu, aCX, aCL, aCy, CV.exact, CV.lstOf, CV.lenOf, CV.one, D.one, Value.oneCell', CV.toD0, iFl, oWn, pLk, nD0, rD0, bQ0, tQ0, kQ0, reduceCtorEq, reduceIte, Nat.reduceBEq, Nat.reduceEqDiff, Nat.reduceAdd, Nat.reduceMul, Nat.reduceSub, Nat.reduceLT, Nat.reduceLeDiff, Nat.reduceBNe, Int.reduceLE, Int.reduceLT, Int.reduceBEq, Int.reduceBNe, Int.reduceEq, Int.reduceNeg, Int.reduceAdd, Int.reduceSub, Int.reduceToNat, forall_const, GRUN, putB, swp, HE_ren_id, SV_ren_id, inM, List.tail_cons, ownS, List.map_cons, List.map_nil]; refine hK _ ?_; clear hK K)
  (first | refine Wp.sregG ?_ | refine Wp.regG ?_ | (refine Wp.seq ?_; first | refine Wp.sregG ?_ | refine Wp.regG ?_))
  (refine GRun.at 2 (fun K hK => ?_); (refine rO (And.intro @GRUN (And.intro @EntD.dv.eq_1 (And.intro @List.map_cons.{0,0} (@List.map_nil.{0,0})))) ?_; try (with_reducible exact True.intro)); refine hK _ ?_; clear hK K)
  (refine GRun.call (c2) [(0, 3)] 200 rfl rfl ?_ ?_; (focus (simp (maxSteps := 2000000) (disch := omega) only [RUN, TY, RUNB, aop, ofV, SV.ofD, aLd, aSt, aFd, aPt, aLen, aSl, aIf, aMF, aXt, aBu, aCX, aCL, aCy, CV.exact, CV.lstOf, CV.lenOf, CV.one, D.one, Value.oneCell', CV.toD0, iFl, oWn, pLk, nD0, rD0, bQ0, tQ0, kQ0, reduceCtorEq, reduceIte, Nat.reduceBEq, Nat.reduceEqDiff, Nat.reduceAdd, Nat.reduceMul, Nat.reduceSub, Nat.reduceLT, Nat.reduceLeDiff, Nat.reduceBNe, Int.reduceLE, Int.reduceLT, Int.reduceBEq, Int.reduceBNe, Int.reduceEq, Int.reduceNeg, Int.reduceAdd, Int.reduceSub, Int.reduceToNat, forall_const, callG, atB, newB, callS, List.nil_append, Cap.sv, swp, SV.ren, CV.ren, HEREN, entry_fx, fx_nil, GRUN, rowsC_ren, batsC_ren, opensC_ren3, hbV, EntD.dv, ownS, List.map_cons, List.map_nil]; done)))
  rcases hcase with ⟨hst, rfl⟩ | ⟨hst, ⟨m, rfl⟩, rfl⟩
  · have hst : stepP p e = some t.p := hst
    have htok := (step_ok (h : FOk k (ownS p).p) hst).ok
    (refine GRun.done (fun K hK => ?_); simp (maxSteps := 2000000) (disch := omega) only [RUN, TY, RUNB, aop, ofV, SV.ofD, aLd, aSt, aFd, aPt, aLen, aSl, aIf, aMF, aXt, aBu, aCX, aCL, aCy, CV.exact, CV.lstOf, CV.lenOf, CV.one, D.one, Value.oneCell', CV.toD0, iFl, oWn, pLk, nD0, rD0, bQ0, tQ0, kQ0, reduceCtorEq, reduceIte, Nat.reduceBEq, Nat.reduceEqDiff, Nat.reduceAdd, Nat.reduceMul, Nat.reduceSub, Nat.reduceLT, Nat.reduceLeDiff, Nat.reduceBNe, Int.reduceLE, Int.reduceLT, Int.reduceBEq, Int.reduceBNe, Int.reduceEq, Int.reduceNeg, Int.reduceAdd, Int.reduceSub, Int.reduceToNat, forall_const, GRUN, putB, swp, HEREN, SV.ren, CV.ren, rowsC_ren, batsC_ren, opensC_ren3, List.map_cons, List.map_nil]; refine hK _ ?_; clear hK K)
    (refine Wp.sreg (fun K hK => ?_); (refine rO0 ?_; try (with_reducible exact True.intro)); refine hK _ ?_; clear hK K)
    refine Wp.condG (fun K hK hF => ?_)
    (refine rO0 ?_; try (with_reducible exact True.intro))
    refine hF ?_
    clear hK hF K
    refine Wp.skip ?_
    refine Wp.weakE (pub_part t 3 (by decide) _ htok (by (refine rO0 ?_; try (with_reducible exact True.intro))) (by (refine rO0 ?_; try (with_reducible exact True.intro))) (by (refine rO0 ?_; try (with_reducible exact True.intro))) (fun q h1 h2 => by
      have hq2 : q = 1 ∨ q = 2 ∨ q = 3 ∨ q = 4 ∨ q = 5 ∨ q = 6 ∨ q = 7 ∨ q = 8 := by omega
      rcases hq2 with rfl | rfl | rfl | rfl | rfl | rfl | rfl | rfl <;> ((refine rO0 ?_; try (with_reducible exact True.intro))))) ?_
    rintro H2 ⟨p1, p2⟩
    simp only [PartD.dv, List.map_cons, List.map_nil] at p1
    have p0 : H2 2 = some (.cells [.d (int 0), .d (int 0), nilC, nilC, nilC]) := (p2 2 (by decide) (by decide)).trans (by simp (maxSteps := 2000000) (disch := omega) only [RUN, TY, RUNB, aop, ofV, SV.ofD, aLd, aSt, aFd, aPt, aLen, aSl, aIf, aMF, aXt, aBu, aCX, aCL, aCy, CV.exact, CV.lstOf, CV.lenOf, CV.one, D.one, Value.oneCell', CV.toD0, iFl, oWn, pLk, nD0, rD0, bQ0, tQ0, kQ0, reduceCtorEq, reduceIte, Nat.reduceBEq, Nat.reduceEqDiff, Nat.reduceAdd, Nat.reduceMul, Nat.reduceSub, Nat.reduceLT, Nat.reduceLeDiff, Nat.reduceBNe, Int.reduceLE, Int.reduceLT, Int.reduceBEq, Int.reduceBNe, Int.reduceEq, Int.reduceNeg, Int.reduceAdd, Int.reduceSub, Int.reduceToNat, forall_const, putB, swp, HEREN, SV.ren, CV.ren, rowsC_ren, batsC_ren, opensC_ren3, List.map_cons, List.map_nil])
    dsimp only
    (refine gO (And.intro p1 (p0)) ?_; try (with_reducible exact True.intro))
    (refine rO (And.intro p0 (@PartD.dv.eq_1)) ?_; try (with_reducible exact True.intro))
    unfold nxtR nxtE
    rw [hst]
    exact ⟨_, rfl, fun _ _ h => h⟩
  · have hst : stepP p e = none := hst
    have c3 := code_err_inline (str m) 70
    (refine GRun.done (fun K hK => ?_); simp (maxSteps := 2000000) (disch := omega) only [RUN, TY, RUNB, aop, ofV, SV.ofD, aLd, aSt, aFd, aPt, aLen, aSl, aIf, aMF, aXt, aBu, aCX, aCL, aCy, CV.exact, CV.lstOf, CV.lenOf, CV.one, D.one, Value.oneCell', CV.toD0, iFl, oWn, pLk, nD0, rD0, bQ0, tQ0, kQ0, reduceCtorEq, reduceIte, Nat.reduceBEq, Nat.reduceEqDiff, Nat.reduceAdd, Nat.reduceMul, Nat.reduceSub, Nat.reduceLT, Nat.reduceLeDiff, Nat.reduceBNe, Int.reduceLE, Int.reduceLT, Int.reduceBEq, Int.reduceBNe, Int.reduceEq, Int.reduceNeg, Int.reduceAdd, Int.reduceSub, Int.reduceToNat, forall_const, GRUN, putB, swp, HEREN, SV.ren, CV.ren, rowsC_ren, batsC_ren, opensC_ren3, List.map_cons, List.map_nil]; refine hK _ ?_; clear hK K)
    (refine gO0 ?_; try (with_reducible exact True.intro))
    (refine rO0 ?_; try (with_reducible exact True.intro))
    unfold nxtR nxtE
    rw [hst]
    exact ⟨_, rfl, DLe.tup (.cons (.agg (.cons (.refl _) (.cons (.refl _) (.cons (.nil 5) (.cons (.nil 3) (.cons (.nil 4) .nil)))))) (.cons (.refl _) .nil))⟩
end Go.Proofs.YtafipkbffboebaaGreatDoor
