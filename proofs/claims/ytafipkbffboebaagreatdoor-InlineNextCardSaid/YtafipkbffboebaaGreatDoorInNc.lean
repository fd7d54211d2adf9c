/- Package inline: own. -/
import Derived.Test.YtafipkbffboebaaGreatDoorInNb
namespace Go.Proofs.YtafipkbffboebaaGreatDoor
open Go Go.RowKit
set_option maxHeartbeats 8000000
set_option maxRecDepth 100000
set_option linter.unusedVariables false
set_option linter.unusedSimpArgs false
theorem ownP_fun (q : ProdD) (hq : q.seen.length ≤ 100000) : Fun Tryz.prog 79 [.agg q.dv] (.agg q.dv) := by
  have c1 := (clone_Seen (q.seen.map SeenD.dv) (by simp; omega)).fun
  (refine Fun.of_body Tryz.func79 rfl rfl Tryz.ntmps79 Tryz.results79 (by simp) ?_)
  (refine gO (@ProdD.dv.eq_1) ?_; try (with_reducible exact True.intro))
  (refine rO (@ProdD.dv.eq_1) ?_; try (with_reducible exact True.intro))
theorem map_snocP {α β : Type} (f : α → β) (l : List α) (k : Nat) (h : k < l.length) : (l.take (k + 1)).map f = (l.take k).map f ++ [f l[k]] := by
  rw [List.take_succ_eq_append_getElem h, List.map_append]; rfl
theorem eachP_fun (l : List ProdD) (hl : l.length ≤ 100000) (hs : ∀ q ∈ l, q.seen.length ≤ 100000) : Fun Tryz.prog 78 [.lst 4 (l.map ProdD.dv), .fn (.func 79) []] (.lst 4 (l.map ProdD.dv)) := by
  (refine Fun.of_body Tryz.func78 rfl rfl Tryz.ntmps78 Tryz.results78 (by simp) ?_)
  (refine gO0 ?_; try (with_reducible exact True.intro))
  refine Wp.weak (Weak.nilApp (t := 5) (τ := 1) 33 4 (by (refine rO0 ?_; try (with_reducible exact True.intro))) (by (refine rO0 ?_; try (with_reducible exact True.intro)))) ?_
  refine Wp.loop (fun k : Nat => ⟨ofL [(1, .c (.d (.fn (.func 79) []))), (5, .c (.app 1 4 ((l.take k).map ProdD.dv))), (8, .c (.d (.lst 4 (l.map ProdD.dv)))), (9, vi .i64 l.length), (10, vi .i64 k)], ofH [(1, .row 33 4 k)], 2, 22, 0⟩) (fun k => k ≤ l.length) (fun k => l.length - k) 0 (Nat.zero_le _) ?_ ?_
  · refine Weak.keep rfl rfl ?_
    (refine rO (And.intro @List.take_zero.{0} (And.intro @List.map_nil.{0,0} (@List.length_nil.{0}))) ?_; try (with_reducible exact True.intro))
  intro k hk
  by_cases hkl : k < l.length
  · have d1 : decide ((k : Int) < (l.length : Int)) = true := decide_eq_true (by omega)
    have hge : l[k]? = some l[k] := List.getElem?_eq_getElem hkl
    have hwk : IntKind.i64.wrap ((k : Int) + 1) = ((k + 1 : Nat) : Int) := by rw [wrap_i64 (by omega)]; rfl
    have hsn := map_snocP ProdD.dv l k hkl
    have hll : ((l.take k).map ProdD.dv).length = k := by rw [List.length_map, List.length_take]; omega
    have hx := hs _ (List.getElem_mem hkl)
    generalize l[k] = q at *
    have c1 := ownP_fun q hx
    simp only [ProdD.dv] at c1
    generalize (l.take k).map ProdD.dv = L at *
    have hsz : (k + 1) * 48 ≤ 140737488355328 := by omega
    (refine gO (And.intro d1 (And.intro hge (And.intro @ProdD.dv.eq_1 (And.intro hll (hsz))))) ?_; try (with_reducible exact True.intro))
    refine ⟨k + 1, hkl, by omega, Weak.keep rfl rfl ?_⟩
    rw [hsn]
    (refine rO (And.intro hwk (And.intro @ProdD.dv.eq_1 (And.intro hll (And.intro @List.map_cons.{0,0} (@List.map_nil.{0,0}))))) ?_; try (with_reducible exact True.intro))
  · have hke : k = l.length := by omega
    subst hke
    rw [List.take_length]
    have d1 : decide ((l.length : Int) < (l.length : Int)) = false := by simp
    (refine gO (d1) ?_; try (with_reducible exact True.intro))
    (refine rO0 ?_; try (with_reducible exact True.intro))
/-- The part as it stands behind own. -/
def ownS (p : PartD) : FoldS := ⟨p, 2, 1 + p.opens.length, vtO p.opens⟩
abbrev inM9 (s : FoldS) : List (Nat × HE) := (inM s).tail
abbrev inK9 : List Nat := [9, 10, 11, 12, 13, 14, 15, 16, 17, 18]
theorem okG_in9 {args : List SV} {r : SV} {s : FoldS} (ha : (args.all fun a => subB a.ids []) = true) (hr : subB r.ids inK9 = true) (h1 : PidOk s.p.opens) : okG args r [] (inM9 s) = true := by
  have h2 := ids_opensK inK9 (fun q h1 h2 => by
    have hq2 : q = 1 ∨ q = 2 ∨ q = 3 ∨ q = 4 ∨ q = 5 ∨ q = 6 ∨ q = 7 ∨ q = 8 := by omega
    rcases hq2 with rfl | rfl | rfl | rfl | rfl | rfl | rfl | rfl <;> rfl) s.vt _ h1
  have e2 : (inM9 s).map (·.1) = inK9 := rfl
  unfold okG
  rw [e2, hr]
  simp only [List.map_nil, ha]
  unfold okB
  simp only [inM, List.tail_cons, List.all_cons, List.all_nil, HE.ids, rowsC, batsC, ids_plain, Bool.and_true, Bool.true_and]
  rw [h2]
  rfl
theorem own_fun (p : PartD) (hp : OpOk p.opens) (hr : p.rows.length ≤ 1000000) (hb : ∀ o ∈ p.opens, o.bats.length ≤ 1000) (hrec : ∀ o ∈ p.opens, ∀ b ∈ o.bats, b.recs.length ≤ 100000) (hpr : p.prods.length ≤ 100000) (hs : ∀ q ∈ p.prods, q.seen.length ≤ 100000) :
    FunG Tryz.prog 42 [.agg (p.dv.map CV.d)] [] (ofH []) (.agg [.d (int p.start), .d (int p.fin), .mt 9 2, .mt 10 (1 + p.opens.length), .d (.lst 4 (p.prods.map ProdD.dv))]) inK9 (ofH (inM9 (ownS p))) := by
  have c1 := cloneRows_fun p.rows hr
  have c2 := eachO_fun p.opens hp hb hrec
  have c3 := eachP_fun p.prods hpr hs
  refine FunG.of_bodyH rfl rfl Tryz.func42 rfl rfl Tryz.ntmps42 Tryz.results42 (Nat.le_of_ble_eq_true rfl) (okG_in9 rfl rfl hp.pid) ?_
  (refine gO (And.intro @GRUN (And.intro @PartD.dv.eq_1 (And.intro @List.map_cons.{0,0} (@List.map_nil.{0,0})))) ?_; try (with_reducible exact True.intro))
  (first | refine Wp.sregG ?_ | refine Wp.regG ?_ | (refine Wp.seq ?_; first | refine Wp.sregG ?_ | refine Wp.regG ?_))
  (refine GRun.at 2 (fun K hK => ?_); (refine rO (@GRUN) ?_; try (with_reducible exact True.intro)); refine hK _ ?_; clear hK K)
  (refine GRun.call (c1) [] 1010 rfl rfl ?_ ?_; (focus ((refine rOs (And.intro @HEREN (And.intro @GRUN (@rowsC_ren))) ?_; try (with_reducible exact True.intro)); done)))
  (refine GRun.done (fun K hK => ?_); (refine rOs (And.intro @GRUN (And.intro @putB.eq_1 (And.intro @putB.eq_2 (And.intro @HEREN (And.intro @rowsC_ren (And.intro @List.map_cons.{0,0} (@List.map_nil.{0,0}))))))) ?_; try (with_reducible exact True.intro)); refine hK _ ?_; clear hK K)
  (first | refine Wp.sregG ?_ | refine Wp.regG ?_ | (refine Wp.seq ?_; first | refine Wp.sregG ?_ | refine Wp.regG ?_))
  (refine GRun.at 2 (fun K hK => ?_); (refine rO (@GRUN) ?_; try (with_reducible exact True.intro)); refine hK _ ?_; clear hK K)
  (refine GRun.call (c2) [] 1010 rfl rfl ?_ ?_; (focus ((refine rOs (And.intro @HEREN (And.intro @GRUN (And.intro @rowsC_ren (@HE_ren_id)))) ?_; try (with_reducible exact True.intro)); done)))
  (refine GRun.done (fun K hK => ?_); (refine rOt (And.intro @GRUN (And.intro @putB.eq_1 (And.intro @putB.eq_2 (And.intro @HE_ren_id (And.intro @SV_ren_id (And.intro @List.map_cons.{0,0} (@List.map_nil.{0,0}))))))) ?_; try (with_reducible exact True.intro)); refine hK _ ?_; clear hK K)
  (refine gO (@GRUN) ?_; try (with_reducible exact True.intro))
  refine bodyQG.ret ?_
  simp (maxSteps := 2000000) (disch := omega) only [RUN, TY, RUNB, aop, ofV, SV.ofD, aLd, aSt, aFd, aPt, aLen, aSl, aIf, aMF, aXt, aBu, aCX, aCL, aCy, CV.exact, CV.lstOf, CV.lenOf, CV.one, D.one, Value.oneCell', CV.toD0, iFl, oWn, pLk, nD0, rD0, bQ0, tQ0, kQ0, reduceCtorEq, reduceIte, Nat.reduceBEq, Nat.reduceEqDiff, Nat.reduceAdd, Nat.reduceMul, Nat.reduceSub, Nat.reduceLT, Nat.reduceLeDiff, Nat.reduceBNe, Int.reduceLE, Int.reduceLT, Int.reduceBEq, Int.reduceBNe, Int.reduceEq, Int.reduceNeg, Int.reduceAdd, Int.reduceSub, Int.reduceToNat, forall_const, GRUN, retG, endB, ownS, inM, List.tail_cons]
end Go.Proofs.YtafipkbffboebaaGreatDoor
