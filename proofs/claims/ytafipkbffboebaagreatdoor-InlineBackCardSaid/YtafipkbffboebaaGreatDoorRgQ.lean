/- Package inline: check. -/
import Derived.Test.YtafipkbffboebaaGreatDoorRgP
namespace Go.Proofs.YtafipkbffboebaaGreatDoor
open Go Go.RowKit
set_option maxHeartbeats 8000000
set_option maxRecDepth 100000
set_option linter.unusedVariables false
set_option linter.unusedSimpArgs false
def lastO (l : List OpenD) : Nat → Int
  | 0 => 0
  | k + 1 => match l[k]? with
    | some o => o.pid
    | none => 0
theorem lastO_lt {l : List OpenD} (hr : l.Pairwise (fun a b => a.pid < b.pid)) (hp : ∀ o ∈ l, 1 ≤ o.pid) (k : Nat) (h : k < l.length) : lastO l k < l[k].pid := by
  cases k with
  | zero => have := hp l[0] (List.getElem_mem h); show (0 : Int) < _; omega
  | succ k =>
    have h1 : l[k]? = some l[k] := List.getElem?_eq_getElem (by omega)
    simp only [lastO, h1]
    exact List.pairwise_iff_getElem.1 hr k (k + 1) (by omega) h (by omega)
theorem okKind_may {e : EntD} (h : okKind e = true) : mayI e = true := by
  unfold okKind at h
  rw [Bool.and_eq_true] at h
  exact h.2
theorem check_fun (p : PartD) (hr : p.rows.length ≤ 1000000) (ho : p.opens.length ≤ 1000) (hp : p.prods.length ≤ 1000000)
    (hrow : ∀ r ∈ p.rows, (0 ≤ r.off ∧ r.off ≤ 1048576) ∧ rowB { r with off := 0 } = true)
    (hrise : p.opens.Pairwise (fun a b => a.pid < b.pid)) (hpid : ∀ o ∈ p.opens, 1 ≤ o.pid)
    (hbl : ∀ o ∈ p.opens, o.bats.length ≤ 1000) (hbat : ∀ o ∈ p.opens, ∀ b ∈ o.bats, batB b = true ∧ b.recs.length ≤ 100000)
    (hm : mayL p.prods = true) (hs : ∀ q ∈ p.prods, q.seen.length ≤ 100000) : Fun Tryz.prog 45 [.agg p.dv] (.val .nilIface) := by
  (refine Fun.of_body Tryz.func45 rfl rfl Tryz.ntmps45 Tryz.results45 (by simp) ?_)
  (refine gO (@PartD.dv.eq_1) ?_; try (with_reducible exact True.intro))
  refine Wp.loop (fun k : Nat => ⟨ofL [(1, .c (.own 0 0)), (2, .c (.d (.val .nilIface))), (14, .c (.d (.lst 5 (p.rows.map RowD.dv)))), (15, vi .i64 p.rows.length), (16, vi .i64 k)], ofH [(0, .cells (p.dv.map .d))], 1, 92, 0⟩) (fun k => k ≤ p.rows.length) (fun k => p.rows.length - k) 0 (Nat.zero_le _) ?_ ?_
  · refine Weak.keep rfl rfl ?_
    (refine rO (And.intro @PartD.dv.eq_1 (And.intro @List.map_cons.{0,0} (@List.map_nil.{0,0}))) ?_; try (with_reducible exact True.intro))
  intro k hk
  by_cases hkl : k < p.rows.length
  · have d1 : decide ((k : Int) < (p.rows.length : Int)) = true := decide_eq_true (by omega)
    have hge : p.rows[k]? = some p.rows[k] := List.getElem?_eq_getElem hkl
    have hwk : IntKind.i64.wrap ((k : Int) + 1) = ((k + 1 : Nat) : Int) := by rw [wrap_i64 (by omega)]; rfl
    have hx := hrow p.rows[k] (List.getElem_mem hkl)
    generalize p.rows[k] = r at *
    have c1 := (entMay_fun (rowE r) (by simp [rowE]) (by simp [rowE, batZ]) (by simp [rowE, prodZ])).args (.cons (DLe.agg (dvn2_le (rowE r) _ _ (.nil 2) (.nil 3))) .nil)
    rw [okKind_may (okKind_row hx.2)] at c1
    simp only [rowE, batZ, prodZ] at c1
    have d2 : decide (r.off < -1) = false := decide_eq_false (by omega)
    have d3 : decide (1048576 < r.off) = false := decide_eq_false (by omega)
    (refine gO (And.intro d1 (And.intro hge (And.intro @RowD.dv.eq_1 (And.intro d2 (And.intro d3 (And.intro @PartD.dv.eq_1 (And.intro @List.map_cons.{0,0} (@List.map_nil.{0,0})))))))) ?_; try (with_reducible exact True.intro))
    refine ⟨k + 1, hkl, by omega, Weak.keep rfl rfl ?_⟩
    (refine rO (And.intro hwk (And.intro @PartD.dv.eq_1 (And.intro @List.map_cons.{0,0} (@List.map_nil.{0,0})))) ?_; try (with_reducible exact True.intro))
  have hke : k = p.rows.length := by omega
  subst hke
  have d1 : decide ((p.rows.length : Int) < (p.rows.length : Int)) = false := by simp
  (refine gO (And.intro d1 (And.intro @PartD.dv.eq_1 (And.intro @List.map_cons.{0,0} (@List.map_nil.{0,0})))) ?_; try (with_reducible exact True.intro))
  refine Wp.loop (fun k : Nat => ⟨ofL [(1, .c (.own 0 0)), (6, vi .i64 (lastO p.opens k)), (40, .c (.d (.lst 3 (p.opens.map OpenD.dv)))), (41, vi .i64 p.opens.length), (42, vi .i64 k)], ofH [(0, .cells (p.dv.map .d))], 1, 92, 0⟩) (fun k => k ≤ p.opens.length) (fun k => p.opens.length - k) 0 (Nat.zero_le _) ?_ ?_
  · refine Weak.keep rfl rfl ?_
    simp (maxSteps := 2000000) (disch := omega) only [RUN, TY, RUNB, aop, ofV, SV.ofD, aLd, aSt, aFd, aPt, aLen, aSl, aIf, aMF, aXt, aBu, aCX, aCL, aCy, CV.exact, CV.lstOf, CV.lenOf, CV.one, D.one, Value.oneCell', CV.toD0, iFl, oWn, pLk, nD0, rD0, bQ0, tQ0, kQ0, reduceCtorEq, reduceIte, Nat.reduceBEq, Nat.reduceEqDiff, Nat.reduceAdd, Nat.reduceMul, Nat.reduceSub, Nat.reduceLT, Nat.reduceLeDiff, Nat.reduceBNe, Int.reduceLE, Int.reduceLT, Int.reduceBEq, Int.reduceBNe, Int.reduceEq, Int.reduceNeg, Int.reduceAdd, Int.reduceSub, Int.reduceToNat, forall_const, PartD.dv, lastO, List.map_cons, List.map_nil]
  intro k hk
  by_cases hkl : k < p.opens.length
  · have d2 : decide ((k : Int) < (p.opens.length : Int)) = true := decide_eq_true (by omega)
    have hge : p.opens[k]? = some p.opens[k] := List.getElem?_eq_getElem hkl
    have hwk : IntKind.i64.wrap ((k : Int) + 1) = ((k + 1 : Nat) : Int) := by rw [wrap_i64 (by omega)]; rfl
    have hlt := lastO_lt hrise hpid k hkl
    have hln : lastO p.opens (k + 1) = p.opens[k].pid := by simp only [lastO, hge]
    have hol := hbl _ (List.getElem_mem hkl)
    have hob := hbat _ (List.getElem_mem hkl)
    generalize p.opens[k] = o at *
    have d3 : decide (o.pid ≤ lastO p.opens k) = false := decide_eq_false (by omega)
    (refine gO (And.intro d2 (And.intro hge (And.intro @OpenD.dv.eq_1 (And.intro d3 (And.intro @PartD.dv.eq_1 (And.intro @List.map_cons.{0,0} (@List.map_nil.{0,0}))))))) ?_; try (with_reducible exact True.intro))
    refine Wp.loop (fun j : Nat => ⟨ofL [(1, .c (.own 0 0)), (6, vi .i64 o.pid), (40, .c (.d (.lst 3 (p.opens.map OpenD.dv)))), (41, vi .i64 p.opens.length), (42, vi .i64 k), (56, .c (.d (.lst 5 (o.bats.map BatD.dv)))), (57, vi .i64 o.bats.length), (58, vi .i64 j)], ofH [(0, .cells (p.dv.map .d))], 1, 92, 0⟩) (fun j => j ≤ o.bats.length) (fun j => o.bats.length - j) 0 (Nat.zero_le _) ?_ ?_
    · refine Weak.keep rfl rfl ?_
      (refine rO (And.intro @PartD.dv.eq_1 (And.intro @List.map_cons.{0,0} (@List.map_nil.{0,0}))) ?_; try (with_reducible exact True.intro))
    intro j hj
    by_cases hjl : j < o.bats.length
    · have d4 : decide ((j : Int) < (o.bats.length : Int)) = true := decide_eq_true (by omega)
      have hgj : o.bats[j]? = some o.bats[j] := List.getElem?_eq_getElem hjl
      have hwj : IntKind.i64.wrap ((j : Int) + 1) = ((j + 1 : Nat) : Int) := by rw [wrap_i64 (by omega)]; rfl
      have hx := hob _ (List.getElem_mem hjl)
      generalize o.bats[j] = b at *
      have c2 := recMay_fun b hx.2
      rw [hx.1] at c2
      simp only [BatD.dv] at c2
      (refine gO (And.intro d4 (And.intro hgj (And.intro @BatD.dv.eq_1 (And.intro @PartD.dv.eq_1 (And.intro @List.map_cons.{0,0} (@List.map_nil.{0,0})))))) ?_; try (with_reducible exact True.intro))
      refine ⟨j + 1, hjl, by omega, Weak.keep rfl rfl ?_⟩
      (refine rO (And.intro hwj (And.intro @PartD.dv.eq_1 (And.intro @List.map_cons.{0,0} (@List.map_nil.{0,0})))) ?_; try (with_reducible exact True.intro))
    · have hje : j = o.bats.length := by omega
      subst hje
      have d4 : decide ((o.bats.length : Int) < (o.bats.length : Int)) = false := by simp
      (refine gO (And.intro d4 (And.intro @PartD.dv.eq_1 (And.intro @List.map_cons.{0,0} (@List.map_nil.{0,0})))) ?_; try (with_reducible exact True.intro))
      refine ⟨k + 1, hkl, by omega, Weak.keep rfl rfl ?_⟩
      (refine rO (And.intro hwk (And.intro hln (And.intro @PartD.dv.eq_1 (And.intro @List.map_cons.{0,0} (@List.map_nil.{0,0}))))) ?_; try (with_reducible exact True.intro))
  have hke : k = p.opens.length := by omega
  subst hke
  have d2 : decide ((p.opens.length : Int) < (p.opens.length : Int)) = false := by simp
  (refine gO (And.intro d2 (And.intro @PartD.dv.eq_1 (And.intro @List.map_cons.{0,0} (@List.map_nil.{0,0})))) ?_; try (with_reducible exact True.intro))
  refine Wp.loop (fun k : Nat => ⟨ofL [(1, .c (.own 0 0)), (6, vi .i64 (lastL p.prods k)), (71, .c (.d (.lst 4 (p.prods.map ProdD.dv)))), (72, vi .i64 p.prods.length), (73, vi .i64 k)], ofH [(0, .cells (p.dv.map .d))], 1, 92, 0⟩) (fun k => k ≤ p.prods.length) (fun k => p.prods.length - k) 0 (Nat.zero_le _) ?_ ?_
  · refine Weak.keep rfl rfl ?_
    (refine rO (And.intro @PartD.dv.eq_1 (And.intro @lastL.eq_1 (And.intro @lastL.eq_2 (And.intro @List.map_cons.{0,0} (@List.map_nil.{0,0}))))) ?_; try (with_reducible exact True.intro))
  intro k hk
  by_cases hkl : k < p.prods.length
  · have d3 : decide ((k : Int) < (p.prods.length : Int)) = true := decide_eq_true (by omega)
    have hge : p.prods[k]? = some p.prods[k] := List.getElem?_eq_getElem hkl
    have hwk : IntKind.i64.wrap ((k : Int) + 1) = ((k + 1 : Nat) : Int) := by rw [wrap_i64 (by omega)]; rfl
    have hall := (mayL_all p.prods).1 hm k _ hge
    have hln : lastL p.prods (k + 1) = p.prods[k].pid := by simp only [lastL, hge]
    have hx := hs _ (List.getElem_mem hkl)
    generalize p.prods[k] = q at *
    rw [Bool.or_eq_false_iff] at hall
    have d4 := hall.1
    have hkn : knownB q = true := by simpa using hall.2
    have c3 := known_fun q hx
    rw [hkn] at c3
    simp only [ProdD.dv] at c3
    (refine gO (And.intro d3 (And.intro hge (And.intro @ProdD.dv.eq_1 (And.intro d4 (And.intro @PartD.dv.eq_1 (And.intro @List.map_cons.{0,0} (@List.map_nil.{0,0}))))))) ?_; try (with_reducible exact True.intro))
    refine ⟨k + 1, hkl, by omega, Weak.keep rfl rfl ?_⟩
    (refine rO (And.intro hwk (And.intro hln (And.intro @PartD.dv.eq_1 (And.intro @List.map_cons.{0,0} (@List.map_nil.{0,0}))))) ?_; try (with_reducible exact True.intro))
  have hke : k = p.prods.length := by omega
  subst hke
  have d3 : decide ((p.prods.length : Int) < (p.prods.length : Int)) = false := by simp
  (refine gO (And.intro d3 (And.intro @PartD.dv.eq_1 (And.intro @List.map_cons.{0,0} (@List.map_nil.{0,0})))) ?_; try (with_reducible exact True.intro))
  (refine rO0 ?_; try (with_reducible exact True.intro))
end Go.Proofs.YtafipkbffboebaaGreatDoor
