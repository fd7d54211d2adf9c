/- Layer 12's statements: InlineNext. -/
import Derived.Test.YtafipkbffboebaaGreatDoorRgN
import Derived.Test.YtafipkbffboebaaGreatDoorInNd
namespace Go.Proofs.YtafipkbffboebaaGreatDoor
open Go Go.RowKit
set_option maxHeartbeats 8000000
set_option maxRecDepth 100000
set_option linter.unusedVariables false
set_option linter.unusedSimpArgs false
theorem nxtR_eq (p : PartD) (e : EntD) : nxtR p e = (stepD p e).dv := by
  unfold nxtR stepD
  cases stepP p e <;> rfl
theorem nxtE_eq (p : PartD) (e : EntD) : nxtE p e = stepC p e := rfl
theorem inlineNext_fun (l : List EntD) (x : EntD) (hk : ∀ e ∈ l, -128 ≤ e.kind ∧ e.kind ≤ 127) (hx : -128 ≤ x.kind ∧ x.kind ≤ 127) : Fun Tryz.prog 5 [.lst 18 (l.map EntD.dv), .agg x.dv] (boo true) := by
  have cw := wakes12_fun
  have c0 := gAll_fun l
  have c00 := gEnt_fun x
  (refine Fun.of_body Tryz.func5 rfl rfl Tryz.ntmps5 Tryz.results5 (by simp) ?_)
  by_cases h2 : (200 : Int) < (l.length : Int)
  · have d1 : decide ((200 : Int) < (l.length : Int)) = true := decide_eq_true h2
    (refine gO (And.intro d1 (@EntD.dv.eq_1)) ?_; try (with_reducible exact True.intro))
    (refine rO0 ?_; try (with_reducible exact True.intro))
  have d1 : decide ((200 : Int) < (l.length : Int)) = false := decide_eq_false h2
  cases hg : gAll l with
  | true =>
    rw [hg] at c0
    (refine gO (And.intro d1 (@EntD.dv.eq_1)) ?_; try (with_reducible exact True.intro))
    (refine rO0 ?_; try (with_reducible exact True.intro))
  | false =>
  rw [hg] at c0
  cases hgx : gEnt x with
  | true =>
    rw [hgx] at c00
    simp only [EntD.dv] at c00
    (refine gO (And.intro d1 (@EntD.dv.eq_1)) ?_; try (with_reducible exact True.intro))
    (refine rO0 ?_; try (with_reducible exact True.intro))
  | false =>
  rw [hgx] at c00
  simp only [EntD.dv] at c00
  obtain ⟨hl, hs⟩ := gAll_in hg
  have hsm : ∀ e ∈ l, SmallEn e := fun e he => ⟨hk e he, by have := (hs e he).1; omega, by have := (hs e he).2; omega⟩
  have hsx : SmallEn x := by
    simp only [gEnt, gEnt0, Bool.or_eq_false_iff, decide_eq_false_iff_not] at hgx
    exact ⟨hx, by omega, by omega⟩
  have c1 := refFold_fun l (by omega) hsm
  cases hfo : foldP pZ l with
  | none =>
    have hfe : foldE l = 70 := by unfold foldE; rw [hfo]; rfl
    rw [foldR_eq, hfe] at c1
    generalize foldD l = p at *
    simp only [PartD.dv] at c1
    (refine gO (And.intro d1 (@EntD.dv.eq_1)) ?_; try (with_reducible exact True.intro))
    (refine rO0 ?_; try (with_reducible exact True.intro))
  | some p =>
  have hfe : foldE l = 0 := by unfold foldE; rw [hfo]; rfl
  have hfd : foldD l = p := by unfold foldD; rw [hfo]; rfl
  have hM := fold_okM l 0 pZ p fokM0 hfo
  rw [Nat.zero_add] at hM
  have c2 := next_res p x l.length hM.toFOk (by omega) hsx
  have c3 := refNext12_fun p x (hM.toFOk.ps (by omega)) hM.may hsx
  have c4 := fold_res (l ++ [x]) (by simp; omega) (fun e he => by
    rcases List.mem_append.1 he with he | he
    · exact hsm e he
    · simp only [List.mem_singleton] at he; subst he; exact hsx)
  have hall : foldP pZ (l ++ [x]) = stepP p x := by
    rw [foldP_app, hfo]
    show (match stepP p x with | some p' => foldP p' [] | none => none) = _
    cases stepP p x <;> rfl
  have e4 : foldR (l ++ [x]) = (stepD p x).dv := by rw [foldR_eq]; unfold foldD stepD; rw [hall]
  have e5 : foldE (l ++ [x]) = stepC p x := by unfold foldE stepC; rw [hall]
  rw [e4, e5, List.map_append, List.map_cons, List.map_nil] at c4
  rw [nxtR_eq, nxtE_eq] at c2
  rw [foldR_eq, hfd, hfe] at c1
  have hsmall : SmallOs (stepD p x).opens ∧ SmallL (stepD p x).prods ∧ (stepD p x).rows.length ≤ 1000000 := by
    have h := foldD_ok (l := l ++ [x]) (by simp; omega)
    have e6 : foldD (l ++ [x]) = stepD p x := by unfold foldD stepD; rw [hall]
    rw [e6] at h; exact h
  obtain ⟨k1, k2, k3⟩ := hsmall
  generalize stepD p x = q at *
  generalize stepC p x = n at *
  have c5 := samePart_fun q q k3 k1 k2
  rw [show decide (q = q) = true by simp] at c5
  have hb : (l.length + 1) * 192 ≤ 140737488355328 := by omega
  have hb0 : l.length * 192 ≤ 140737488355328 := by omega
  have hn : (n == n) = true := by simp
  simp only [PartD.dv, EntD.dv] at c1 c2 c3 c4 c5
  (refine gO (And.intro d1 (And.intro hb (And.intro hb0 (And.intro hn (And.intro @PartD.dv.eq_1 (And.intro @EntD.dv.eq_1 (@List.length_map.{0,0}))))))) ?_; try (with_reducible exact True.intro))
  (refine rO0 ?_; try (with_reducible exact True.intro))
end Go.Proofs.YtafipkbffboebaaGreatDoor
