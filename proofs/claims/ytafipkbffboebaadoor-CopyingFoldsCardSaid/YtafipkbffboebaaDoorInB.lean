/- Rows of a batch: package record and its reference. -/
import Derived.Test.YtafipkbffboebaaDoorInA
namespace Go.Proofs.YtafipkbffboebaaDoor
open Go Go.RowKit
set_option maxHeartbeats 4000000
set_option maxRecDepth 100000
set_option linter.unusedVariables false
set_option linter.unusedSimpArgs false
def rowAt (b : BatD) (base : Int) (i : Nat) : RowD := match b.recs[i]? with
  | some r => ⟨if base = -1 then -1 else IntKind.i64.wrap (base + i), b.pid, IntKind.i64.wrap (b.seq + i), r.key, r.value⟩
  | none => ⟨0, 0, 0, [], []⟩
def rowsT (b : BatD) (base : Int) (k : Nat) : List RowD := (List.range k).map (rowAt b base)
def rowsF (b : BatD) (base : Int) : List RowD := rowsT b base b.recs.length
theorem rowsT_len (b : BatD) (base : Int) (k : Nat) : (rowsT b base k).length = k := by simp [rowsT]
theorem rowsT_succ (b : BatD) (base : Int) (k : Nat) : rowsT b base (k + 1) = rowsT b base k ++ [rowAt b base k] := by simp [rowsT, List.range_succ]
theorem rowsT_zero (b : BatD) (base : Int) : rowsT b base 0 = [] := rfl
theorem refRows_fun (b : BatD) (base : Int) (hl : b.recs.length ≤ 100000) : Fun Tryd.prog 13 [.agg b.dv, int base] (.lst 5 ((rowsF b base).map RowD.dv)) := by
  (refine Fun.of_body Tryd.func13 rfl rfl Tryd.ntmps13 Tryd.results13 (by simp) ?_)
  (refine gO (@BatD.dv.eq_1) ?_; try (with_reducible exact True.intro))
  refine Wp.weak (Weak.nilApp (t := 5) (τ := 1) 36 5 (by (refine rO0 ?_; try (with_reducible exact True.intro))) (by (refine rO0 ?_; try (with_reducible exact True.intro)))) ?_
  refine Wp.loop (fun k : Nat => ⟨ofL [(1, vi .i64 base), (2, .c (.own 0 0)), (5, .c (.app 1 5 ((rowsT b base k).map RowD.dv))), (6, vi .i64 k)], ofH [(0, .cells (b.dv.map .d)), (1, .row 36 5 k)], 2, 45, 0⟩) (fun k => k ≤ b.recs.length) (fun k => b.recs.length - k) 0 (Nat.zero_le _) ?_ ?_
  · refine Weak.keep rfl rfl ?_
    (refine rO (And.intro @BatD.dv.eq_1 (And.intro @rowsT_zero (@List.map_nil.{0,0}))) ?_; try (with_reducible exact True.intro))
  intro k hk
  (refine gO (@BatD.dv.eq_1) ?_; try (with_reducible exact True.intro))
  refine Wp.cond (by (refine rO0 ?_; try (with_reducible exact True.intro)); rfl) (fun h => ?_) (fun h => ?_)
  · have hlt : k < b.recs.length := by simpa using h
    have hge : b.recs[k]? = some b.recs[k] := List.getElem?_eq_getElem hlt
    have hr : rowAt b base k = ⟨if base = -1 then -1 else IntKind.i64.wrap (base + k), b.pid, IntKind.i64.wrap (b.seq + k), b.recs[k].key, b.recs[k].value⟩ := by simp only [rowAt, hge]
    have hs := rowsT_succ b base k
    have hll := rowsT_len b base k
    rw [hr] at hs
    have hbb : (k + 1) * 56 ≤ 140737488355328 := by omega
    generalize b.recs[k] = r at *
    by_cases h1 : base = -1
    · have e1 : (base == -1) = true := by simpa using h1
      rw [if_pos h1] at hs
      (refine gO (And.intro @BatD.dv.eq_1 (And.intro hge (And.intro @RecD.dv.eq_1 (And.intro e1 (And.intro hll (hbb)))))) ?_; try (with_reducible exact True.intro))
      refine ⟨k + 1, by omega, by omega, Weak.keep rfl rfl ?_⟩
      (refine rO (And.intro @BatD.dv.eq_1 (And.intro hs (And.intro @RowD.dv.eq_1 (And.intro @List.map_append.{0,0} (And.intro @List.map_cons.{0,0} (@List.map_nil.{0,0})))))) ?_; try (with_reducible exact True.intro))
    · have e1 : (base == -1) = false := by simpa using h1
      rw [if_neg h1] at hs
      (refine gO (And.intro @BatD.dv.eq_1 (And.intro hge (And.intro @RecD.dv.eq_1 (And.intro e1 (And.intro hll (hbb)))))) ?_; try (with_reducible exact True.intro))
      refine ⟨k + 1, by omega, by omega, Weak.keep rfl rfl ?_⟩
      (refine rO (And.intro @BatD.dv.eq_1 (And.intro hs (And.intro @RowD.dv.eq_1 (And.intro @List.map_append.{0,0} (And.intro @List.map_cons.{0,0} (@List.map_nil.{0,0})))))) ?_; try (with_reducible exact True.intro))
  · have hk2 : k = b.recs.length := by simp only [decide_eq_false_iff_not] at h; omega
    subst hk2
    (refine gO0 ?_; try (with_reducible exact True.intro))
    (refine rO (@rowsF.eq_1) ?_; try (with_reducible exact True.intro))
end Go.Proofs.YtafipkbffboebaaDoor
