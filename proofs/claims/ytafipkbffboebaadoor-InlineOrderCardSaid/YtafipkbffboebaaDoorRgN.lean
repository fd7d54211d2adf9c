/- The abstract machine (RgE, RgF, RgH, RgI, RgG, RgK). -/
import Derived.Test.YtafipkbffboebaaDoorRgM
import Derived.Test.YtafipkbffboebaaDoorCpR6
import Derived.Test.YtafipkbffboebaaDoorMpK
namespace Go.Proofs.YtafipkbffboebaaDoor
open Go Go.RowKit
set_option maxHeartbeats 8000000
set_option maxRecDepth 100000
set_option linter.unusedVariables false
set_option linter.unusedSimpArgs false
end Go.Proofs.YtafipkbffboebaaDoor
namespace Go.Proofs.YtafipkbffboebaaDoor
open Go Go.RowKit
set_option maxHeartbeats 8000000
set_option maxRecDepth 100000
set_option linter.unusedVariables false
set_option linter.unusedSimpArgs false
theorem dvn2_le (e : EntD) (x y : D) (hx : DLe x (.lst 2 (e.b.recs.map RecD.dv))) (hy : DLe y (.lst 3 (e.prod.seen.map SeenD.dv))) : AllLe [i8 e.kind, int e.b.pid, int e.b.epoch, int e.b.seq, boo e.b.txn, x, boo e.yes, int e.next, int e.off, int e.row.off, int e.row.pid, int e.row.seq, str e.row.key, str e.row.value, int e.prod.pid, int e.prod.epoch, int e.prod.next, y] e.dv :=
  .cons (.refl _) (.cons (.refl _) (.cons (.refl _) (.cons (.refl _) (.cons (.refl _) (.cons hx (.cons (.refl _) (.cons (.refl _) (.cons (.refl _) (.cons (.refl _) (.cons (.refl _) (.cons (.refl _) (.cons (.refl _) (.cons (.refl _) (.cons (.refl _) (.cons (.refl _) (.cons (.refl _) (.cons hy .nil)))))))))))))))))
end Go.Proofs.YtafipkbffboebaaDoor
namespace Go.Proofs.YtafipkbffboebaaDoor
open Go Go.RowKit
set_option maxHeartbeats 8000000
set_option maxRecDepth 100000
set_option linter.unusedVariables false
set_option linter.unusedSimpArgs false
end Go.Proofs.YtafipkbffboebaaDoor
namespace Go.Proofs.YtafipkbffboebaaDoor
open Go Go.RowKit
set_option maxHeartbeats 8000000
set_option maxRecDepth 100000
set_option linter.unusedVariables false
set_option linter.unusedSimpArgs false
structure PSmall (p : PartD) : Prop where
  fin : 0 ≤ p.fin ∧ p.fin ≤ 1048576
  opens : p.opens.length ≤ 1000
  rows : p.rows.length ≤ 100000
  prods : SmallL p.prods
  bats : ∀ o ∈ p.opens, o.bats.length ≤ 8
  recs : ∀ o ∈ p.opens, ∀ b ∈ o.bats, b.recs.length ≤ 4
theorem FOk.ps {k : Nat} {p : PartD} (h : FOk k p) (hk : k ≤ 1000) : PSmall p := ⟨h.fin, by have := h.opens; omega, by have := h.rows; omega, h.small (by omega), h.bats, h.recs⟩
def foldD (l : List EntD) : PartD := (foldP pZ l).getD pZ
theorem foldR_eq (l : List EntD) : foldR l = (foldD l).dv := by
  unfold foldR foldD
  cases foldP pZ l <;> rfl
end Go.Proofs.YtafipkbffboebaaDoor
namespace Go.Proofs.YtafipkbffboebaaDoor
open Go Go.RowKit
set_option maxHeartbeats 8000000
set_option maxRecDepth 100000
set_option linter.unusedVariables false
set_option linter.unusedSimpArgs false
theorem refSameRows_fun (a b : List RowD) (hl : a.length ≤ 1000000) : Fun Tryd.prog 14 [.lst 5 (a.map RowD.dv), .lst 5 (b.map RowD.dv)] (boo (decide (a = b))) := by
  (refine Fun.of_body Tryd.func14 rfl rfl Tryd.ntmps14 Tryd.results14 (by simp) ?_)
  by_cases hlen : a.length = b.length
  · have hne : ((a.length : Int) != (b.length : Int)) = false := by simp [hlen]
    (refine gO (hne) ?_; try (with_reducible exact True.intro))
    refine Wp.loop (fun k : Nat => ⟨ofL [(0, .c (.d (.lst 5 (a.map RowD.dv)))), (1, .c (.d (.lst 5 (b.map RowD.dv)))), (5, vi .i64 k)], ofH [], 0, 26, 0⟩) (fun k => k ≤ a.length ∧ a.take k = b.take k) (fun k => a.length - k) 0 ⟨Nat.zero_le _, rfl⟩ ?_ ?_
    · refine Weak.keep rfl rfl ?_
      (refine rO0 ?_; try (with_reducible exact True.intro))
    rintro k ⟨hk, hall⟩
    (refine gO0 ?_; try (with_reducible exact True.intro))
    refine Wp.cond (by (refine rO0 ?_; try (with_reducible exact True.intro)); rfl) (fun h => ?_) (fun h => ?_)
    · have hlt : k < a.length := by simpa using h
      have hlt2 : k < b.length := by omega
      have g1 : a[k]? = some a[k] := List.getElem?_eq_getElem hlt
      have g2 : b[k]? = some b[k] := List.getElem?_eq_getElem hlt2
      have t1 := take_succ_get a k hlt
      have t2 := take_succ_get b k hlt2
      have hne : a[k] ≠ b[k] → ¬ a = b := fun hx e => by subst e; exact hx rfl
      generalize a[k] = x at *
      generalize b[k] = y at *
      (refine gO (And.intro g1 (And.intro g2 (And.intro @RowD.dv.eq_1 (RowD_bin)))) ?_; try (with_reducible exact True.intro))
      refine Wp.cond (by (refine rO0 ?_; try (with_reducible exact True.intro)); rfl) (fun h => ?_) (fun h => ?_)
      · have hf : decide (a = b) = false := decide_eq_false (hne (by simpa using h))
        (refine gO0 ?_; try (with_reducible exact True.intro))
        (refine rO (hf) ?_; try (with_reducible exact True.intro))
      · simp only [Bool.not_eq_false', decide_eq_true_eq] at h
        (refine gO0 ?_; try (with_reducible exact True.intro))
        refine ⟨k + 1, ⟨by omega, by rw [t1, t2, hall, h]⟩, by omega, Weak.keep rfl rfl ?_⟩
        (refine rO0 ?_; try (with_reducible exact True.intro))
    · have hk : k = a.length := by simp only [decide_eq_false_iff_not] at h; omega
      have hf : decide (a = b) = true := by
        rw [List.take_of_length_le (by omega), List.take_of_length_le (by omega)] at hall; simp [hall]
      (refine gO0 ?_; try (with_reducible exact True.intro))
      (refine rO (hf) ?_; try (with_reducible exact True.intro))
  · have hne : ((a.length : Int) != (b.length : Int)) = true := by simp; omega
    have hf : decide (a = b) = false := decide_eq_false (fun e => hlen (by rw [e]))
    (refine gO (hne) ?_; try (with_reducible exact True.intro))
    (refine rO (hf) ?_; try (with_reducible exact True.intro))
structure SmallOs (l : List OpenD) : Prop where
  len : l.length ≤ 100000
  bats : ∀ o ∈ l, o.bats.length ≤ 100000
  recs : ∀ o ∈ l, ∀ b ∈ o.bats, b.recs.length ≤ 100000
end Go.Proofs.YtafipkbffboebaaDoor
namespace Go.Proofs.YtafipkbffboebaaDoor
open Go Go.RowKit
set_option maxHeartbeats 8000000
set_option maxRecDepth 100000
set_option linter.unusedVariables false
set_option linter.unusedSimpArgs false
theorem gAll_in {l : List EntD} (h : gAll l = false) : l.length ≤ 200 ∧ ∀ e ∈ l, e.b.recs.length ≤ 40 ∧ e.prod.seen.length ≤ 40 := by
  simp only [gAll, Bool.or_eq_false_iff, decide_eq_false_iff_not] at h
  refine ⟨by omega, fun e he => ?_⟩
  have := List.any_eq_false.1 h.2 e he
  simp only [gEnt, gEnt0, Bool.not_eq_true, Bool.or_eq_false_iff, decide_eq_false_iff_not] at this
  exact ⟨by omega, by omega⟩
theorem one12_fun (k : List UInt8) : FunA Tryd.prog 29 [str k] 70 2 [[str k, str []]] := by
  (refine FunA.of_body Tryd.func29 rfl rfl Tryd.ntmps29 Tryd.results29 (by simp) ?_)
  (refine gO0 ?_; try (with_reducible exact True.intro))
  exact .inr (.inl (by (refine rO0 ?_; try (with_reducible exact True.intro))))
def wk12 : List EntD := [⟨0, ⟨1, 0, 0, true, [⟨[97], []⟩, ⟨[98], []⟩]⟩, false, 0, 0, rowZ, prodZ⟩, ⟨0, ⟨2, 0, 0, false, [⟨[99], []⟩]⟩, false, 0, 0, rowZ, prodZ⟩, ⟨1, ⟨1, 0, 0, false, []⟩, true, 0, 0, rowZ, prodZ⟩]
def wkP : PartD := ⟨0, 4, [⟨0, 2, 0, [99], []⟩, ⟨1, 1, 0, [97], []⟩, ⟨2, 1, 1, [98], []⟩], [], [⟨1, 0, 2, []⟩, ⟨2, 0, 1, [⟨0, 1, 0⟩]⟩]⟩
theorem wk12_fold : foldP pZ wk12 = some wkP := by decide +kernel
theorem wakes12_fun : Fun Tryd.prog 11 [] (boo true) := by
  have c1 := one12_fun [97]
  have c2 := (one12_fun [98]).fun
  have c3 := (one12_fun [99]).fun
  have c4 := (fold_res wk12 (by decide) (by intro e he; simp [wk12] at he; rcases he with rfl | rfl | rfl <;> exact ⟨by decide, by decide, by decide⟩)).args
    (.cons (DLe.lst (.cons (dvn2_le ⟨0, ⟨1, 0, 0, true, [⟨[97], []⟩, ⟨[98], []⟩]⟩, false, 0, 0, rowZ, prodZ⟩ _ _ (.refl _) (.nil 3)) (.cons (dvn2_le ⟨0, ⟨2, 0, 0, false, [⟨[99], []⟩]⟩, false, 0, 0, rowZ, prodZ⟩ _ _ (.refl _) (.nil 3)) (.cons (dvn2_le ⟨1, ⟨1, 0, 0, false, []⟩, true, 0, 0, rowZ, prodZ⟩ _ _ (.nil 2) (.nil 3)) .nil)))) .nil)
  unfold foldR foldE at c4
  rw [wk12_fold] at c4
  simp only [PartD.dv, wkP, RowD.dv, ProdD.dv, SeenD.dv, RecD.dv, List.map_cons, List.map_nil, rowZ, prodZ, Option.isSome_some, if_true] at c4
  (refine Fun.of_body Tryd.func11 rfl rfl Tryd.ntmps11 Tryd.results11 (by simp) ?_)
  (refine gO0 ?_; try (with_reducible exact True.intro))
  (refine rO0 ?_; try (with_reducible exact True.intro))
theorem foldD_ok {l : List EntD} (hl : l.length ≤ 20000) : SmallOs (foldD l).opens ∧ SmallL (foldD l).prods ∧ (foldD l).rows.length ≤ 1000000 := by
  unfold foldD
  cases h : foldP pZ l with
  | none => exact ⟨⟨by simp [pZ], by simp [pZ], by simp [pZ]⟩, ⟨by simp [pZ], by simp [pZ]⟩, by simp [pZ]⟩
  | some p =>
    have hM := (fold_okM l 0 pZ p fokM0 h).toFOk
    rw [Nat.zero_add] at hM
    refine ⟨⟨by have := hM.opens; show p.opens.length ≤ _; omega, fun o ho => by have := hM.bats o ho; omega, fun o ho b hb => by have := hM.recs o ho b hb; omega⟩, hM.small hl, by have := hM.rows; show p.rows.length ≤ _; omega⟩
end Go.Proofs.YtafipkbffboebaaDoor
