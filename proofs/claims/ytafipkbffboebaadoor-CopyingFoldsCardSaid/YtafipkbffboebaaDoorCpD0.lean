/- The reference of layer 7: too great entries. -/
import Derived.Test.YtafipkbffboebaaDoorEnt
namespace Go.Proofs.YtafipkbffboebaaDoor
open Go Go.RowKit
set_option maxHeartbeats 8000000
set_option maxRecDepth 100000
set_option linter.unusedVariables false
set_option linter.unusedSimpArgs false
structure SmallE (e : EntD) : Prop where
  recs : e.b.recs.length ≤ 100000
  seen : e.prod.seen.length ≤ 100000
/-! too great? -/
def gRec (r : RecD) : Bool := decide (200 < (r.key.length : Int)) || decide (200 < (r.value.length : Int))
def gEnt0 (e : EntD) : Bool := decide (40 < (e.b.recs.length : Int)) || decide (200 < (e.row.key.length : Int)) || decide (200 < (e.row.value.length : Int)) || decide (40 < (e.prod.seen.length : Int))
def gEnt (e : EntD) : Bool := gEnt0 e || e.b.recs.any gRec
theorem gEnt_fun (e : EntD) : Fun Tryd.prog 15 [.agg e.dv] (boo (gEnt e)) := by
  (refine Fun.of_body Tryd.func15 rfl rfl Tryd.ntmps15 Tryd.results15 (by simp) ?_)
  (refine gO (@EntD.dv.eq_1) ?_; try (with_reducible exact True.intro))
  (first | refine Wp.sto 29 (vb (gEnt0 e)) ?_ ?_ | refine Wp.rtoS 29 (vb (gEnt0 e)) ?_ ?_ | (refine Wp.seq ?_; first | refine Wp.sto 29 (vb (gEnt0 e)) ?_ ?_ | refine Wp.rtoS 29 (vb (gEnt0 e)) ?_ ?_))
  · unfold gEnt0; ((rcases Bool.eq_false_or_eq_true (decide (40 < (e.b.recs.length : Int))) with hL1 | hL1) <;> (rcases Bool.eq_false_or_eq_true (decide (200 < (e.row.key.length : Int))) with hL2 | hL2) <;> (rcases Bool.eq_false_or_eq_true (decide (200 < (e.row.value.length : Int))) with hL3 | hL3) <;> (rcases Bool.eq_false_or_eq_true (decide (40 < (e.prod.seen.length : Int))) with hL4 | hL4) <;> (((refine rO (And.intro hL1 (And.intro hL2 (And.intro hL3 (And.intro hL4 (@EntD.dv.eq_1))))) ?_; try (with_reducible exact True.intro)); (repeat (refine bcf (by assumption) ?_; (refine rO (And.intro hL1 (And.intro hL2 (And.intro hL3 (And.intro hL4 (@EntD.dv.eq_1))))) ?_; try (with_reducible exact True.intro))))); all_goals (exact (show okTr _ _ = true by kernel_rfl))))
  refine Wp.cond (by (refine rO0 ?_; try (with_reducible exact True.intro)); rfl) (fun h => ?_) (fun h => ?_)
  · have hf : gEnt e = true := by simp only [gEnt, h, Bool.true_or]
    (refine gO0 ?_; try (with_reducible exact True.intro))
    (refine rO (hf) ?_; try (with_reducible exact True.intro))
  have h1 := h
  have hl : e.b.recs.length ≤ 40 := by simp only [gEnt0, Bool.or_eq_false_iff, decide_eq_false_iff_not] at h; omega
  (refine gO (@EntD.dv.eq_1) ?_; try (with_reducible exact True.intro))
  refine Wp.loop (fun k : Nat => ⟨ofL [(1, .c (.own 0 0)), (3, vi .i64 k)], ofH [(0, .cells (e.dv.map .d))], 1, 58, 0⟩) (fun k => k ≤ e.b.recs.length ∧ (e.b.recs.take k).any gRec = false) (fun k => e.b.recs.length - k) 0 ⟨Nat.zero_le _, rfl⟩ ?_ ?_
  · refine Weak.keep rfl rfl ?_
    (refine rO (@EntD.dv.eq_1) ?_; try (with_reducible exact True.intro))
  rintro k ⟨hk, hall⟩
  (refine gO (@EntD.dv.eq_1) ?_; try (with_reducible exact True.intro))
  refine Wp.cond (by (refine rO0 ?_; try (with_reducible exact True.intro)); rfl) (fun h => ?_) (fun h => ?_)
  · have hlt : k < e.b.recs.length := by simpa using h
    have hs := any_take_succ gRec e.b.recs k hlt
    have hm : e.b.recs[k] ∈ e.b.recs := List.getElem_mem hlt
    have hge : e.b.recs[k]? = some e.b.recs[k] := List.getElem?_eq_getElem hlt
    generalize e.b.recs[k] = r at *
    (refine gO0 ?_; try (with_reducible exact True.intro))
    (first | refine Wp.sto 57 (vb (gRec r)) ?_ ?_ | refine Wp.rtoS 57 (vb (gRec r)) ?_ ?_ | (refine Wp.seq ?_; first | refine Wp.sto 57 (vb (gRec r)) ?_ ?_ | refine Wp.rtoS 57 (vb (gRec r)) ?_ ?_))
    · unfold gRec; ((rcases Bool.eq_false_or_eq_true (decide (200 < (r.key.length : Int))) with hL1 | hL1) <;> (rcases Bool.eq_false_or_eq_true (decide (200 < (r.value.length : Int))) with hL2 | hL2) <;> (((refine rO (And.intro hL1 (And.intro hL2 (And.intro hge (And.intro @RecD.dv.eq_1 (@EntD.dv.eq_1))))) ?_; try (with_reducible exact True.intro)); (repeat (refine bcf (by assumption) ?_; (refine rO (And.intro hL1 (And.intro hL2 (And.intro hge (And.intro @RecD.dv.eq_1 (@EntD.dv.eq_1))))) ?_; try (with_reducible exact True.intro))))); all_goals (exact (show okTr _ _ = true by kernel_rfl))))
    refine Wp.cond (by (refine rO0 ?_; try (with_reducible exact True.intro)); rfl) (fun h => ?_) (fun h => ?_)
    · have hf : gEnt e = true := by
        have : e.b.recs.any gRec = true := List.any_eq_true.2 ⟨r, hm, h⟩
        simp only [gEnt, this, Bool.or_true]
      (refine gO0 ?_; try (with_reducible exact True.intro))
      (refine rO (hf) ?_; try (with_reducible exact True.intro))
    · (refine gO0 ?_; try (with_reducible exact True.intro))
      refine ⟨k + 1, ⟨by omega, by rw [hs, hall, h]; rfl⟩, by omega, Weak.keep rfl rfl ?_⟩
      (refine rO (@EntD.dv.eq_1) ?_; try (with_reducible exact True.intro))
  · have hf : gEnt e = false := by
      rw [List.take_of_length_le (by simp only [decide_eq_false_iff_not] at h; omega)] at hall
      simp only [gEnt, h1, hall]; rfl
    (refine gO0 ?_; try (with_reducible exact True.intro))
    (refine rO (hf) ?_; try (with_reducible exact True.intro))
end Go.Proofs.YtafipkbffboebaaDoor
