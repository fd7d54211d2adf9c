/- Package inline: Log. -/
import Derived.Test.YtafipkbffboebaaGreatDoorRgQ
namespace Go.Proofs.YtafipkbffboebaaGreatDoor
open Go Go.RowKit
set_option maxHeartbeats 8000000
set_option maxRecDepth 100000
set_option linter.unusedVariables false
set_option linter.unusedSimpArgs false
theorem AllLe2.app : ∀ {a b c d : List (List D)}, AllLe2 a b → AllLe2 c d → AllLe2 (a ++ c) (b ++ d)
  | _, _, _, _, .nil, h => h
  | _, _, _, _, .cons h t, h2 => .cons h (AllLe2.app t h2)
def rowW (r : RowD) : List D := [i8 5, int 0, int 0, int 0, boo false, nilV, boo false, int 0, int 0, int 0, int r.pid, int r.seq, str r.key, str r.value, int 0, int 0, int 0, nilV]
def prodW (q : ProdD) : List D := [i8 6, int 0, int 0, int 0, boo false, nilV, boo false, int 0, int 0, int 0, int 0, int 0, str [], str [], int q.pid, int q.epoch, int q.next, .lst 3 (q.seen.map SeenD.dv)]
def batW (b : BatD) : List D := [i8 0, int b.pid, int b.epoch, int b.seq, boo b.txn, .lst 2 (b.recs.map RecD.dv), boo false, int 0, int 0, int 0, int 0, int 0, str [], str [], int 0, int 0, int 0, nilV]
def flatW (l : List OpenD) : List (List D) := l.flatMap fun o => o.bats.map batW
def logW (p : PartD) : List (List D) := p.rows.map rowW ++ p.prods.map (fun q => prodW (earlyF p.opens q)) ++ flatW p.opens
theorem rowW_le (r : RowD) : AllLe (rowW r) (rowE r).dv := dvn2_le (rowE r) _ _ (.nil 2) (.nil 3)
theorem prodW_le (q : ProdD) : AllLe (prodW q) (prodE q).dv := dvn2_le (prodE q) _ _ (.nil 2) (.refl _)
theorem batW_le (b : BatD) : AllLe (batW b) (batE b).dv := dvn2_le (batE b) _ _ (.refl _) (.nil 3)
theorem flatW_le : ∀ l : List OpenD, AllLe2 (flatW l) ((l.flatMap fun o => o.bats.map batE).map EntD.dv)
  | [] => .nil
  | o :: l => by
    unfold flatW
    rw [List.flatMap_cons, List.flatMap_cons, List.map_append, List.map_map]
    exact (AllLe2.map (fun b => batW_le b) o.bats).app (flatW_le l)
theorem logW_le (p : PartD) : AllLe2 (logW p) ((logF p).map EntD.dv) := by
  unfold logW logF
  rw [List.map_append, List.map_append, List.map_map, List.map_map]
  exact ((AllLe2.map (fun r => rowW_le r) p.rows).app (AllLe2.map (fun q => prodW_le (earlyF p.opens q)) p.prods)).app (flatW_le p.opens)
theorem flatW_snoc (l : List OpenD) (k : Nat) (h : k < l.length) : flatW (l.take (k + 1)) = flatW (l.take k) ++ l[k].bats.map batW := by
  unfold flatW
  rw [List.take_succ_eq_append_getElem h, List.flatMap_append]
  simp
theorem flatW_len : ∀ l : List OpenD, (∀ o ∈ l, o.bats.length ≤ 1000) → (flatW l).length ≤ 1000 * l.length
  | [], _ => by simp [flatW]
  | o :: l, h => by
    have h1 := h o (List.mem_cons_self ..)
    have h2 := flatW_len l (fun x hx => h x (List.mem_cons_of_mem _ hx))
    unfold flatW at h2 ⊢
    rw [List.flatMap_cons, List.length_append, List.length_map, List.length_cons]; omega
theorem map_snoc {α β : Type} (f : α → β) (l : List α) (k : Nat) (h : k < l.length) : (l.take (k + 1)).map f = (l.take k).map f ++ [f l[k]] := by
  rw [List.take_succ_eq_append_getElem h, List.map_append]; rfl
theorem log_fun (p : PartD) (hr : p.rows.length ≤ 1000000) (ho : p.opens.length ≤ 1000) (hp : p.prods.length ≤ 1000000)
    (hrow : ∀ r ∈ p.rows, (0 ≤ r.off ∧ r.off ≤ 1048576) ∧ rowB { r with off := 0 } = true)
    (hrise : p.opens.Pairwise (fun a b => a.pid < b.pid)) (hpid : ∀ o ∈ p.opens, 1 ≤ o.pid)
    (hbl : ∀ o ∈ p.opens, o.bats.length ≤ 1000) (hbat : ∀ o ∈ p.opens, ∀ b ∈ o.bats, batB b = true ∧ b.recs.length ≤ 100000)
    (hm : mayL p.prods = true) (hs : ∀ q ∈ p.prods, q.seen.length ≤ 100000) : Fun Tryz.prog 21 [.agg p.dv] (.tup [.lst 18 ((logF p).map EntD.dv), int 0]) := by
  have c1 := check_fun p hr ho hp hrow hrise hpid hbl hbat hm hs
  simp only [PartD.dv] at c1
  obtain ⟨L0, hL0⟩ : ∃ L0, L0 = p.rows.map rowW := ⟨_, rfl⟩
  obtain ⟨L1, hL1⟩ : ∃ L1, L1 = L0 ++ p.prods.map (fun q => prodW (earlyF p.opens q)) := ⟨_, rfl⟩
  have l0 : L0.length = p.rows.length := by rw [hL0, List.length_map]
  have l1 : L1.length = p.rows.length + p.prods.length := by rw [hL1, List.length_append, l0, List.length_map]
  (refine Fun.of_bodyW Tryz.func21 rfl rfl Tryz.ntmps21 Tryz.results21 (by simp) ?_)
  (refine gO (@PartD.dv.eq_1) ?_; try (with_reducible exact True.intro))
  refine Wp.weak (Weak.nilApp (t := 5) (τ := 1) 35 18 (by (refine rO0 ?_; try (with_reducible exact True.intro))) (by (refine rO0 ?_; try (with_reducible exact True.intro)))) ?_
  refine Wp.loop (fun k : Nat => ⟨ofL [(1, .c (.own 0 0)), (5, .c (.app 1 18 ((p.rows.take k).map rowW))), (21, .c (.d (.lst 5 (p.rows.map RowD.dv)))), (22, vi .i64 p.rows.length), (23, vi .i64 k)], ofH [(0, .cells (p.dv.map .d)), (1, .row 35 18 k)], 2, 73, 0⟩) (fun k => k ≤ p.rows.length) (fun k => p.rows.length - k) 0 (Nat.zero_le _) ?_ ?_
  · refine Weak.keep rfl rfl ?_
    (refine rO (And.intro @PartD.dv.eq_1 (And.intro @List.take_zero.{0} (And.intro @List.map_cons.{0,0} (And.intro @List.map_nil.{0,0} (@List.length_nil.{0}))))) ?_; try (with_reducible exact True.intro))
  intro k hk
  by_cases hkl : k < p.rows.length
  · have d1 : decide ((k : Int) < (p.rows.length : Int)) = true := decide_eq_true (by omega)
    have hge : p.rows[k]? = some p.rows[k] := List.getElem?_eq_getElem hkl
    have hwk : IntKind.i64.wrap ((k : Int) + 1) = ((k + 1 : Nat) : Int) := by rw [wrap_i64 (by omega)]; rfl
    have hsn := map_snoc rowW p.rows k hkl
    have hll : ((p.rows.take k).map rowW).length = k := by rw [List.length_map, List.length_take]; omega
    have hsz : (k + 1) * 192 ≤ 140737488355328 := by omega
    generalize p.rows[k] = r at *
    generalize (p.rows.take k).map rowW = L at *
    (refine gO (And.intro d1 (And.intro hge (And.intro @RowD.dv.eq_1 (And.intro @PartD.dv.eq_1 (And.intro @List.map_cons.{0,0} (And.intro @List.map_nil.{0,0} (And.intro hll (hsz)))))))) ?_; try (with_reducible exact True.intro))
    refine ⟨k + 1, hkl, by omega, Weak.keep rfl rfl ?_⟩
    rw [hsn]
    simp (maxSteps := 2000000) (disch := omega) only [RUN, TY, RUNB, aop, ofV, SV.ofD, aLd, aSt, aFd, aPt, aLen, aSl, aIf, aMF, aXt, aBu, aCX, aCL, aCy, CV.exact, CV.lstOf, CV.lenOf, CV.one, D.one, Value.oneCell', CV.toD0, iFl, oWn, pLk, nD0, rD0, bQ0, tQ0, kQ0, reduceCtorEq, reduceIte, Nat.reduceBEq, Nat.reduceEqDiff, Nat.reduceAdd, Nat.reduceMul, Nat.reduceSub, Nat.reduceLT, Nat.reduceLeDiff, Nat.reduceBNe, Int.reduceLE, Int.reduceLT, Int.reduceBEq, Int.reduceBNe, Int.reduceEq, Int.reduceNeg, Int.reduceAdd, Int.reduceSub, Int.reduceToNat, forall_const, hwk, rowW, PartD.dv, hll, List.map_cons, List.map_nil]
  have hke : k = p.rows.length := by omega
  subst hke
  rw [List.take_length, ← hL0]
  have d1 : decide ((p.rows.length : Int) < (p.rows.length : Int)) = false := by simp
  (refine gO (And.intro d1 (And.intro @PartD.dv.eq_1 (And.intro @List.map_cons.{0,0} (@List.map_nil.{0,0})))) ?_; try (with_reducible exact True.intro))
  refine Wp.loop (fun k : Nat => ⟨ofL [(1, .c (.own 0 0)), (5, .c (.app 1 18 (L0 ++ (p.prods.take k).map (fun q => prodW (earlyF p.opens q))))), (35, .c (.d (.lst 4 (p.prods.map ProdD.dv)))), (36, vi .i64 p.prods.length), (37, vi .i64 k)], ofH [(0, .cells (p.dv.map .d)), (1, .row 35 18 (p.rows.length + k))], 2, 73, 0⟩) (fun k => k ≤ p.prods.length) (fun k => p.prods.length - k) 0 (Nat.zero_le _) ?_ ?_
  · refine Weak.keep rfl rfl ?_
    (refine rO (And.intro @PartD.dv.eq_1 (And.intro @List.take_zero.{0} (And.intro @List.append_nil.{0} (And.intro @List.map_cons.{0,0} (And.intro @List.map_nil.{0,0} (@Nat.add_zero)))))) ?_; try (with_reducible exact True.intro))
  intro k hk
  by_cases hkl : k < p.prods.length
  · have d2 : decide ((k : Int) < (p.prods.length : Int)) = true := decide_eq_true (by omega)
    have hge : p.prods[k]? = some p.prods[k] := List.getElem?_eq_getElem hkl
    have hwk : IntKind.i64.wrap ((k : Int) + 1) = ((k + 1 : Nat) : Int) := by rw [wrap_i64 (by omega)]; rfl
    have hsn := map_snoc (fun q => prodW (earlyF p.opens q)) p.prods k hkl
    have hll : (L0 ++ (p.prods.take k).map (fun q => prodW (earlyF p.opens q))).length = p.rows.length + k := by rw [List.length_append, l0, List.length_map, List.length_take]; omega
    have hsz : (p.rows.length + k + 1) * 192 ≤ 140737488355328 := by omega
    have hx := hs _ (List.getElem_mem hkl)
    generalize p.prods[k] = q at *
    have c2 := early_fun q p.opens (by omega) hx
    generalize (p.prods.take k).map (fun q => prodW (earlyF p.opens q)) = L at *
    generalize earlyF p.opens q = z at *
    simp only [ProdD.dv] at c2
    (refine gO (And.intro d2 (And.intro hge (And.intro @ProdD.dv.eq_1 (And.intro @PartD.dv.eq_1 (And.intro @List.map_cons.{0,0} (And.intro @List.map_nil.{0,0} (And.intro hll (hsz)))))))) ?_; try (with_reducible exact True.intro))
    refine ⟨k + 1, hkl, by omega, Weak.keep rfl rfl ?_⟩
    rw [hsn, ← List.append_assoc]
    simp (maxSteps := 2000000) (disch := omega) only [RUN, TY, RUNB, aop, ofV, SV.ofD, aLd, aSt, aFd, aPt, aLen, aSl, aIf, aMF, aXt, aBu, aCX, aCL, aCy, CV.exact, CV.lstOf, CV.lenOf, CV.one, D.one, Value.oneCell', CV.toD0, iFl, oWn, pLk, nD0, rD0, bQ0, tQ0, kQ0, reduceCtorEq, reduceIte, Nat.reduceBEq, Nat.reduceEqDiff, Nat.reduceAdd, Nat.reduceMul, Nat.reduceSub, Nat.reduceLT, Nat.reduceLeDiff, Nat.reduceBNe, Int.reduceLE, Int.reduceLT, Int.reduceBEq, Int.reduceBNe, Int.reduceEq, Int.reduceNeg, Int.reduceAdd, Int.reduceSub, Int.reduceToNat, forall_const, hwk, prodW, PartD.dv, hll, List.map_cons, List.map_nil, Nat.add_assoc]
  have hke : k = p.prods.length := by omega
  subst hke
  rw [List.take_length, ← hL1]
  have d2 : decide ((p.prods.length : Int) < (p.prods.length : Int)) = false := by simp
  (refine gO (And.intro d2 (And.intro @PartD.dv.eq_1 (And.intro @List.map_cons.{0,0} (@List.map_nil.{0,0})))) ?_; try (with_reducible exact True.intro))
  refine Wp.loop (fun k : Nat => ⟨ofL [(1, .c (.own 0 0)), (5, .c (.app 1 18 (L1 ++ flatW (p.opens.take k)))), (51, .c (.d (.lst 3 (p.opens.map OpenD.dv)))), (52, vi .i64 p.opens.length), (53, vi .i64 k)], ofH [(0, .cells (p.dv.map .d)), (1, .row 35 18 (L1.length + (flatW (p.opens.take k)).length))], 2, 73, 0⟩) (fun k => k ≤ p.opens.length) (fun k => p.opens.length - k) 0 (Nat.zero_le _) ?_ ?_
  · refine Weak.keep rfl rfl ?_
    simp (maxSteps := 2000000) (disch := omega) only [RUN, TY, RUNB, aop, ofV, SV.ofD, aLd, aSt, aFd, aPt, aLen, aSl, aIf, aMF, aXt, aBu, aCX, aCL, aCy, CV.exact, CV.lstOf, CV.lenOf, CV.one, D.one, Value.oneCell', CV.toD0, iFl, oWn, pLk, nD0, rD0, bQ0, tQ0, kQ0, reduceCtorEq, reduceIte, Nat.reduceBEq, Nat.reduceEqDiff, Nat.reduceAdd, Nat.reduceMul, Nat.reduceSub, Nat.reduceLT, Nat.reduceLeDiff, Nat.reduceBNe, Int.reduceLE, Int.reduceLT, Int.reduceBEq, Int.reduceBNe, Int.reduceEq, Int.reduceNeg, Int.reduceAdd, Int.reduceSub, Int.reduceToNat, forall_const, PartD.dv, List.take_zero, flatW, List.flatMap_nil, List.append_nil, List.map_cons, List.map_nil, List.length_nil, Nat.add_zero, l1]
  intro k hk
  by_cases hkl : k < p.opens.length
  · have d3 : decide ((k : Int) < (p.opens.length : Int)) = true := decide_eq_true (by omega)
    have hge : p.opens[k]? = some p.opens[k] := List.getElem?_eq_getElem hkl
    have hwk : IntKind.i64.wrap ((k : Int) + 1) = ((k + 1 : Nat) : Int) := by rw [wrap_i64 (by omega)]; rfl
    have hsn := flatW_snoc p.opens k hkl
    have hfl := flatW_len (p.opens.take k) (fun o ho => hbl o (List.mem_of_mem_take ho))
    rw [List.length_take] at hfl
    have hfl2 : (flatW (p.opens.take k)).length ≤ 1000000 := by omega
    have hol := hbl _ (List.getElem_mem hkl)
    have hob := hbat _ (List.getElem_mem hkl)
    generalize p.opens[k] = o at *
    generalize flatW (p.opens.take k) = F at *
    (refine gO (And.intro d3 (And.intro hge (And.intro @OpenD.dv.eq_1 (And.intro @PartD.dv.eq_1 (And.intro @List.map_cons.{0,0} (@List.map_nil.{0,0})))))) ?_; try (with_reducible exact True.intro))
    refine Wp.loop (fun j : Nat => ⟨ofL [(1, .c (.own 0 0)), (5, .c (.app 1 18 (L1 ++ (F ++ (o.bats.take j).map batW)))), (51, .c (.d (.lst 3 (p.opens.map OpenD.dv)))), (52, vi .i64 p.opens.length), (53, vi .i64 k), (58, .c (.d (.lst 5 (o.bats.map BatD.dv)))), (59, vi .i64 o.bats.length), (60, vi .i64 j)], ofH [(0, .cells (p.dv.map .d)), (1, .row 35 18 (L1.length + F.length + j))], 2, 73, 0⟩) (fun j => j ≤ o.bats.length) (fun j => o.bats.length - j) 0 (Nat.zero_le _) ?_ ?_
    · refine Weak.keep rfl rfl ?_
      (refine rO (And.intro @PartD.dv.eq_1 (And.intro @List.take_zero.{0} (And.intro @List.append_nil.{0} (And.intro @List.map_cons.{0,0} (And.intro @List.map_nil.{0,0} (@Nat.add_zero)))))) ?_; try (with_reducible exact True.intro))
    intro j hj
    by_cases hjl : j < o.bats.length
    · have d4 : decide ((j : Int) < (o.bats.length : Int)) = true := decide_eq_true (by omega)
      have hgj : o.bats[j]? = some o.bats[j] := List.getElem?_eq_getElem hjl
      have hwj : IntKind.i64.wrap ((j : Int) + 1) = ((j + 1 : Nat) : Int) := by rw [wrap_i64 (by omega)]; rfl
      have hsj := map_snoc batW o.bats j hjl
      have hll : (L1 ++ (F ++ (o.bats.take j).map batW)).length = L1.length + F.length + j := by rw [List.length_append, List.length_append, List.length_map, List.length_take]; omega
      have hsz : (L1.length + F.length + j + 1) * 192 ≤ 140737488355328 := by omega
      have hx := hob _ (List.getElem_mem hjl)
      generalize o.bats[j] = b at *
      generalize (o.bats.take j).map batW = L at *
      have c3 := ownBatch_fun b hx.2
      simp only [BatD.dv] at c3
      (refine gO (And.intro d4 (And.intro hgj (And.intro @BatD.dv.eq_1 (And.intro @PartD.dv.eq_1 (And.intro @List.map_cons.{0,0} (And.intro @List.map_nil.{0,0} (And.intro hll (hsz)))))))) ?_; try (with_reducible exact True.intro))
      refine ⟨j + 1, hjl, by omega, Weak.keep rfl rfl ?_⟩
      rw [hsj, show L1 ++ (F ++ (L ++ [batW b])) = L1 ++ (F ++ L) ++ [batW b] by simp only [List.append_assoc]]
      simp (maxSteps := 2000000) (disch := omega) only [RUN, TY, RUNB, aop, ofV, SV.ofD, aLd, aSt, aFd, aPt, aLen, aSl, aIf, aMF, aXt, aBu, aCX, aCL, aCy, CV.exact, CV.lstOf, CV.lenOf, CV.one, D.one, Value.oneCell', CV.toD0, iFl, oWn, pLk, nD0, rD0, bQ0, tQ0, kQ0, reduceCtorEq, reduceIte, Nat.reduceBEq, Nat.reduceEqDiff, Nat.reduceAdd, Nat.reduceMul, Nat.reduceSub, Nat.reduceLT, Nat.reduceLeDiff, Nat.reduceBNe, Int.reduceLE, Int.reduceLT, Int.reduceBEq, Int.reduceBNe, Int.reduceEq, Int.reduceNeg, Int.reduceAdd, Int.reduceSub, Int.reduceToNat, forall_const, hwj, batW, PartD.dv, hll, List.map_cons, List.map_nil, Nat.add_assoc]
    · have hje : j = o.bats.length := by omega
      subst hje
      rw [List.take_length, ← hsn]
      have d4 : decide ((o.bats.length : Int) < (o.bats.length : Int)) = false := by simp
      have hlen : (flatW (p.opens.take (k + 1))).length = F.length + o.bats.length := by rw [hsn, List.length_append, List.length_map]
      (refine gO (And.intro d4 (And.intro @PartD.dv.eq_1 (And.intro @List.map_cons.{0,0} (@List.map_nil.{0,0})))) ?_; try (with_reducible exact True.intro))
      refine ⟨k + 1, hkl, by omega, Weak.keep rfl rfl ?_⟩
      (refine rO (And.intro hwk (And.intro hlen (And.intro @Nat.add_assoc (And.intro @PartD.dv.eq_1 (And.intro @List.map_cons.{0,0} (@List.map_nil.{0,0})))))) ?_; try (with_reducible exact True.intro))
  have hke : k = p.opens.length := by omega
  subst hke
  rw [List.take_length]
  have d3 : decide ((p.opens.length : Int) < (p.opens.length : Int)) = false := by simp
  (refine gO (And.intro d3 (And.intro @PartD.dv.eq_1 (And.intro @List.map_cons.{0,0} (@List.map_nil.{0,0})))) ?_; try (with_reducible exact True.intro))
  (refine rO0 ?_; try (with_reducible exact True.intro))
  refine ⟨_, rfl, DLe.tup (.cons (DLe.lst ?_) (.cons (.refl _) .nil))⟩
  rw [hL1, hL0]
  exact logW_le p
end Go.Proofs.YtafipkbffboebaaGreatDoor
