/- The abstract machine (InT, InU, InV, InW, InWb, InWc). -/
import Derived.Test.YtafipkbffboebaaDoorInMd
import Derived.Test.YtafipkbffboebaaDoorMpK
namespace Go.Proofs.YtafipkbffboebaaDoor
open Go Go.RowKit
set_option maxHeartbeats 4000000
set_option maxRecDepth 100000
set_option linter.unusedVariables false
set_option linter.unusedSimpArgs false
def plainO (l : List OpenD) : List CV := (l.map OpenD.dv).flatten.map CV.d
theorem plainO_app (a b : List OpenD) : plainO (a ++ b) = plainO a ++ plainO b := by simp [plainO]
theorem plainO_len (l : List OpenD) : (plainO l).length = l.length * 3 := by
  unfold plainO
  rw [List.length_map, flat_len (sz := 3) (by intro x hx; obtain ⟨r, _, rfl⟩ := List.mem_map.1 hx; rfl), List.length_map]
theorem chunk_bats (l : List BatD) : chunk 5 ((batsC l).length / 5) (l.map BatD.dv).flatten = l.map BatD.dv := by
  rw [batsC_len, Nat.mul_div_cancel _ (by decide)]
  have := chunk_flat 5 (l.map BatD.dv) (fun x hx => by obtain ⟨b, _, rfl⟩ := List.mem_map.1 hx; rfl)
  rwa [List.length_map] at this
theorem chunk_rows (l : List RowD) : chunk 5 ((rowsC l).length / 5) (l.map RowD.dv).flatten = l.map RowD.dv := by
  rw [rowsC_len, Nat.mul_div_cancel _ (by decide)]
  have := chunk_flat 5 (l.map RowD.dv) (fun x hx => by obtain ⟨b, _, rfl⟩ := List.mem_map.1 hx; rfl)
  rwa [List.length_map] at this
theorem chunk_opens (l : List OpenD) : chunk 3 ((plainO l).length / 3) (l.map OpenD.dv).flatten = l.map OpenD.dv := by
  rw [plainO_len, Nat.mul_div_cancel _ (by decide)]
  have := chunk_flat 3 (l.map OpenD.dv) (fun x hx => by obtain ⟨b, _, rfl⟩ := List.mem_map.1 hx; rfl)
  rwa [List.length_map] at this
theorem toD0_plain (ds : List D) : mapO CV.toD0 (ds.map CV.d) = some ds := mapO_plain CV.toD0 (fun _ => rfl) ds
theorem pub_opens (vt : Nat → Nat) (vo : Nat) : ∀ (rest pre : List OpenD) (σ : St), OpOk rest → σ.H 10 = some (.mrow 24 3 vo (plainO pre ++ opensC vt rest)) → (∀ o ∈ rest, σ.H (10 + o.pid.toNat) = some (.mrow 28 5 (vt o.pid.toNat) (batsC o.bats))) →
    ∃ H', Weak σ { σ with H := H' } ∧ H' 10 = some (.mrow 24 3 vo (plainO (pre ++ rest))) ∧ ∀ i, i < 10 ∨ 18 < i → H' i = σ.H i
  | [], pre, σ, _, h10, _ => ⟨σ.H, Weak.refl σ, by rw [h10, List.append_nil]; simp [opensC], fun _ _ => rfl⟩
  | o :: rest, pre, σ, hok, h10, hq => by
    have hp := hok.pid o (List.mem_cons_self ..)
    obtain ⟨hr1, hr2⟩ := List.pairwise_cons.1 hok.rise
    have hok' : OpOk rest := ⟨fun x hx => hok.pid x (List.mem_cons_of_mem _ hx), hr2⟩
    have hqo := hq o (List.mem_cons_self ..)
    have hc : plainO pre ++ opensC vt (o :: rest) = plainO pre ++ (.d (int o.pid) :: .d (int o.epoch) :: .mt (10 + o.pid.toNat) (vt o.pid.toNat) :: opensC vt rest) := by simp [opensC]
    have hk : (plainO pre ++ opensC vt (o :: rest))[(plainO pre).length + 2]? = some (.mt (10 + o.pid.toNat) (vt o.pid.toNat)) := by
      rw [hc, List.getElem?_append_right (by omega), Nat.add_sub_cancel_left]; rfl
    have hw := Weak.pubIn (σ := σ) (id := 10) (by omega) hqo (toD0_plain (o.bats.map BatD.dv).flatten) h10 hk
    rw [chunk_bats] at hw
    have hset : (plainO pre ++ opensC vt (o :: rest)).set ((plainO pre).length + 2) (.d (.lst 5 (o.bats.map BatD.dv))) = plainO (pre ++ [o]) ++ opensC vt rest := by
      rw [hc, List.set_append_right _ _ (by omega), Nat.add_sub_cancel_left, plainO_app]
      simp [plainO, OpenD.dv]
    rw [hset] at hw
    obtain ⟨H', h1, h2, h3⟩ := pub_opens vt vo rest (pre ++ [o]) { σ with H := upd (upd σ.H (10 + o.pid.toNat) (some (.mrow 28 5 (vt o.pid.toNat + 1) []))) 10 (some (.mrow 24 3 vo (plainO (pre ++ [o]) ++ opensC vt rest))) } hok' (by dsimp only; exact upd_same _ _ _) (fun x hx => by
      have hx1 := hr1 x hx
      have hx2 := hok'.pid x hx
      show upd (upd σ.H _ _) 10 _ (10 + x.pid.toNat) = _
      rw [upd_ne _ _ (by omega), upd_ne _ _ (by omega)]
      exact hq x (List.mem_cons_of_mem _ hx))
    refine ⟨H', hw.trans h1, by rw [h2]; simp, fun i hi => ?_⟩
    rw [h3 i hi]
    show upd (upd σ.H _ _) 10 _ i = _
    rw [upd_ne _ _ (by omega), upd_ne _ _ (by omega)]
/-- A part whose rows are its own becomes plain, in the box R. -/
theorem pub_part (s : FoldS) (R : Nat) (hR : R < 9 ∨ 18 < R) (σ : St) (hok : OpOk s.p.opens) (h0 : σ.H R = some (.cells [.d (int s.p.start), .d (int s.p.fin), .mt 9 s.vr, .mt 10 s.vo, .d (.lst 4 (s.p.prods.map ProdD.dv))]))
    (h9 : σ.H 9 = some (.mrow 36 5 s.vr (rowsC s.p.rows))) (h10 : σ.H 10 = some (.mrow 24 3 s.vo (opensC s.vt s.p.opens))) (hq : ∀ q, 1 ≤ q → q ≤ 8 → σ.H (10 + q) = some (.mrow 28 5 (s.vt q) (batsC (batsOf s.p.opens q)))) :
    ∃ H', Weak σ { σ with H := H' } ∧ H' R = some (.cells (s.p.dv.map CV.d)) ∧ ∀ i, i ≠ R → i < 9 ∨ 18 < i → H' i = σ.H i := by
  obtain ⟨H1, w1, e10, e1⟩ := pub_opens s.vt s.vo s.p.opens [] σ hok h10 (fun o ho => by
    have hp := hok.pid o ho
    rw [hq o.pid.toNat (by omega) (by omega), batsOf_mem hok ho])
  rw [List.nil_append] at e10
  have r1 : H1 R = _ := (e1 R (by omega)).trans h0
  have w2 := Weak.publish (σ := { σ with H := H1 }) (id := R) (k := 3) (τ := 10) (by omega) e10 (toD0_plain _) r1 rfl
  rw [chunk_opens] at w2
  have r9 : upd (upd H1 10 (some (.mrow 24 3 (s.vo + 1) []))) R (some (.cells (List.set [.d (int s.p.start), .d (int s.p.fin), .mt 9 s.vr, .mt 10 s.vo, .d (.lst 4 (s.p.prods.map ProdD.dv))] 3 (.d (.lst 3 (s.p.opens.map OpenD.dv)))))) 9 = some (.mrow 36 5 s.vr (rowsC s.p.rows)) := by
    rw [upd_ne _ _ (by omega), upd_ne _ _ (by omega), e1 9 (by omega)]; exact h9
  have w3 := Weak.publish (σ := { σ with H := upd (upd H1 10 (some (.mrow 24 3 (s.vo + 1) []))) R (some (.cells (List.set [.d (int s.p.start), .d (int s.p.fin), .mt 9 s.vr, .mt 10 s.vo, .d (.lst 4 (s.p.prods.map ProdD.dv))] 3 (.d (.lst 3 (s.p.opens.map OpenD.dv)))))) }) (id := R) (k := 2) (τ := 9) (by omega) r9 (toD0_plain _) (by dsimp only; exact upd_same _ _ _) rfl
  rw [chunk_rows] at w3
  refine ⟨_, (w1.trans w2).trans w3, upd_same _ _ _, fun i hi hi2 => ?_⟩
  show upd (upd (upd (upd H1 _ _) R _) 9 _) R _ i = _
  rw [upd_ne _ _ hi, upd_ne _ _ (by omega), upd_ne _ _ hi, upd_ne _ _ (by omega)]
  exact e1 i (by omega)
end Go.Proofs.YtafipkbffboebaaDoor
namespace Go.Proofs.YtafipkbffboebaaDoor
open Go Go.RowKit
set_option maxHeartbeats 8000000
set_option maxRecDepth 100000
set_option linter.unusedVariables false
set_option linter.unusedSimpArgs false
def s0 : FoldS := ⟨⟨0, 0, [], [], []⟩, 0, 0, fun _ => 0⟩
abbrev nilC : CV := .d (.val (.slice none 0 0))
abbrev inM1 (s : FoldS) : List (Nat × HE) :=
  [(0, .cells [.d (int 0), .d (int 0), nilC, nilC, nilC]), (1, .cells [.d (int s.p.start), .d (int s.p.fin), .mt 9 s.vr, .mt 10 s.vo, .d (.lst 4 (s.p.prods.map ProdD.dv))]),
   (9, .mrow 36 5 s.vr (rowsC s.p.rows)), (10, .mrow 24 3 s.vo (opensC s.vt s.p.opens)),
   (11, .mrow 28 5 (s.vt 1) (batsC (batsOf s.p.opens 1))), (12, .mrow 28 5 (s.vt 2) (batsC (batsOf s.p.opens 2))), (13, .mrow 28 5 (s.vt 3) (batsC (batsOf s.p.opens 3))), (14, .mrow 28 5 (s.vt 4) (batsC (batsOf s.p.opens 4))),
   (15, .mrow 28 5 (s.vt 5) (batsC (batsOf s.p.opens 5))), (16, .mrow 28 5 (s.vt 6) (batsC (batsOf s.p.opens 6))), (17, .mrow 28 5 (s.vt 7) (batsC (batsOf s.p.opens 7))), (18, .mrow 28 5 (s.vt 8) (batsC (batsOf s.p.opens 8)))]
theorem ids_opensK (ks : List Nat) (hks : ∀ q, 1 ≤ q → q ≤ 8 → ks.contains (10 + q) = true) (vt : Nat → Nat) : ∀ (l : List OpenD), PidOk l → (((opensC vt l).flatMap CV.ids).all fun i => ks.contains i) = true
  | [], _ => rfl
  | o :: l, h => by
    have h1 := h o (List.mem_cons_self ..)
    have ih := ids_opensK ks hks vt l (fun x hx => h x (List.mem_cons_of_mem _ hx))
    unfold opensC at ih ⊢
    rw [List.flatMap_cons, List.flatMap_append, List.all_append, ih, Bool.and_true]
    show (List.all [10 + o.pid.toNat] fun i => ks.contains i) = true
    simp only [List.all_cons, List.all_nil, Bool.and_true]
    exact hks _ (by omega) (by omega)
theorem okIds_fold {L : List (Nat × SV)} {s : FoldS} (hp : PidOk s.p.opens) (hL : (L.all fun p => p.2.ids.all fun i => [0, 1, 9, 10, 11, 12, 13, 14, 15, 16, 17, 18].contains i) = true) : (okIds L (inM1 s) && keepsLent 0 (inM1 s)) = true := by
  have h2 := ids_opensK [0, 1, 9, 10, 11, 12, 13, 14, 15, 16, 17, 18] (fun q h1 h2 => by
    have hq2 : q = 1 ∨ q = 2 ∨ q = 3 ∨ q = 4 ∨ q = 5 ∨ q = 6 ∨ q = 7 ∨ q = 8 := by omega
    rcases hq2 with rfl | rfl | rfl | rfl | rfl | rfl | rfl | rfl <;> rfl) s.vt _ hp
  have e1 : (inM1 s).map (·.1) = [0, 1, 9, 10, 11, 12, 13, 14, 15, 16, 17, 18] := rfl
  unfold okIds
  rw [e1, hL]
  simp only [inM1, List.all_cons, List.all_nil, HE.ids, rowsC, batsC, ids_plain, Bool.and_true, Bool.true_and]
  rw [h2]
  rfl
abbrev fdS (l : List EntD) (s : FoldS) (k : Nat) : St := ⟨ofL [(2, .c (.own 0 0)), (4, .c (.own 1 0)), (10, .c (.d (.lst 18 (l.map EntD.dv)))), (11, vi .i64 l.length), (12, vi .i64 k)], ofH (inM1 s), 100, 29, 0⟩
theorem mtoks (e sz : Nat) (hsz : 0 < sz) : ∀ (n : Nat) (σ : St) (t : Nat), (∀ i, t ≤ i → i < t + n → σ.H i = none) → ∃ H', Weak σ { σ with H := H' } ∧ (∀ i, t ≤ i → i < t + n → H' i = some (.mrow e sz 0 [])) ∧ ∀ i, i < t ∨ t + n ≤ i → H' i = σ.H i
  | 0, σ, t, _ => ⟨σ.H, Weak.refl σ, fun i h1 h2 => by omega, fun _ _ => rfl⟩
  | n + 1, σ, t, h => by
    have w1 := Weak.mtok (σ := σ) (τ := t) e sz (h t (Nat.le_refl _) (by omega)) hsz
    obtain ⟨H', w2, h1, h2⟩ := mtoks e sz hsz n { σ with H := upd σ.H t (some (.mrow e sz 0 [])) } (t + 1) (fun i h3 h4 => by
      dsimp only
      rw [upd_ne _ _ (by omega)]; exact h i (by omega) (by omega))
    refine ⟨H', w1.trans w2, fun i h3 h4 => ?_, fun i h3 => ?_⟩
    · by_cases hi : i = t
      · subst hi; rw [h2 i (by omega)]; exact upd_same _ _ _
      · exact h1 i (by omega) (by omega)
    · rw [h2 i (by omega)]
      exact upd_ne _ _ (by omega)
/-- The zero part begins. -/
theorem begin_fold (σ : St) (h0 : σ.H 1 = some (.cells [.d (int 0), .d (int 0), nilC, nilC, nilC])) (hn : ∀ i, 9 ≤ i → i ≤ 18 → σ.H i = none) (hdf : σ.fx.dfs.contains 1 = false) :
    ∃ H', Weak σ { σ with H := H' } ∧ H' 1 = some (.cells [.d (int 0), .d (int 0), .mt 9 0, .mt 10 0, .d (.lst 4 [])]) ∧ H' 9 = some (.mrow 36 5 0 []) ∧ H' 10 = some (.mrow 24 3 0 []) ∧ (∀ i, 11 ≤ i → i < 19 → H' i = some (.mrow 28 5 0 [])) ∧ H' 0 = σ.H 0 := by
  have w1 := Weak.mtCell (σ := σ) (id := 1) (k := 2) (τ := 9) 36 5 (by decide) (by decide) (hn 9 (by decide) (by decide)) h0 rfl
  obtain ⟨H1, hH1⟩ : ∃ H1, H1 = upd (upd σ.H 9 (some (.mrow 36 5 0 []))) 1 (some (.cells (List.set [.d (int 0), .d (int 0), nilC, nilC, nilC] 2 (.mt 9 0)))) := ⟨_, rfl⟩
  rw [← hH1] at w1
  have a1 : H1 1 = some (.cells [.d (int 0), .d (int 0), .mt 9 0, nilC, nilC]) := by rw [hH1]; exact upd_same _ _ _
  have a2 : ∀ i, i ≠ 1 → i ≠ 9 → H1 i = σ.H i := fun i h1 h2 => by rw [hH1, upd_ne _ _ h1, upd_ne _ _ h2]
  have a3 : H1 9 = some (.mrow 36 5 0 []) := by rw [hH1, upd_ne _ _ (by decide)]; exact upd_same _ _ _
  have w2 := Weak.mtCell (σ := { σ with H := H1 }) (id := 1) (k := 3) (τ := 10) 24 3 (by decide) (by decide) (by dsimp only; rw [a2 10 (by decide) (by decide)]; exact hn 10 (by decide) (by decide)) a1 rfl
  obtain ⟨H2, hH2⟩ : ∃ H2, H2 = upd (upd H1 10 (some (.mrow 24 3 0 []))) 1 (some (.cells (List.set [.d (int 0), .d (int 0), .mt 9 0, nilC, nilC] 3 (.mt 10 0)))) := ⟨_, rfl⟩
  dsimp only at w2
  rw [← hH2] at w2
  have b1 : H2 1 = some (.cells [.d (int 0), .d (int 0), .mt 9 0, .mt 10 0, nilC]) := by rw [hH2]; exact upd_same _ _ _
  have b2 : ∀ i, i ≠ 1 → i ≠ 10 → H2 i = H1 i := fun i h1 h2 => by rw [hH2, upd_ne _ _ h1, upd_ne _ _ h2]
  have b3 : H2 10 = some (.mrow 24 3 0 []) := by rw [hH2, upd_ne _ _ (by decide)]; exact upd_same _ _ _
  obtain ⟨H3, w3, c1, c2⟩ := mtoks 28 5 (by decide) 8 { σ with H := H2 } 11 (fun i h1 h2 => by
    dsimp only
    rw [b2 i (by omega) (by omega), a2 i (by omega) (by omega)]; exact hn i (by omega) (by omega))
  dsimp only at w3 c2
  have d1 : H3 1 = some (.cells [.d (int 0), .d (int 0), .mt 9 0, .mt 10 0, nilC]) := by rw [c2 1 (by omega)]; exact b1
  have w4 := Weak.cellLe (σ := { σ with H := H3 }) (id := 1) (k := 4) (x := .val (.slice none 0 0)) (y := .lst 4 []) d1 rfl (DLe.nil 4) hdf
  refine ⟨_, ((w1.trans w2).trans w3).trans w4, upd_same _ _ _, ?_, ?_, fun i h1 h2 => ?_, ?_⟩
  · dsimp only; rw [upd_ne _ _ (by decide), c2 9 (by omega), b2 9 (by decide) (by decide)]; exact a3
  · dsimp only; rw [upd_ne _ _ (by decide), c2 10 (by omega)]; exact b3
  · dsimp only; rw [upd_ne _ _ (by omega)]; exact c1 i h1 h2
  · dsimp only; rw [upd_ne _ _ (by decide), c2 0 (by omega), b2 0 (by decide) (by decide), a2 0 (by decide) (by decide)]
end Go.Proofs.YtafipkbffboebaaDoor
namespace Go.Proofs.YtafipkbffboebaaDoor
open Go Go.RowKit
set_option maxHeartbeats 8000000
set_option maxRecDepth 100000
set_option linter.unusedVariables false
set_option linter.unusedSimpArgs false
theorem Wp.weakE {P : Program} {c : Code} {σ : St} {Q : Exit → St → Prop} {R : Hp → Prop} (h : ∃ H', Weak σ { σ with H := H' } ∧ R H') (h2 : ∀ H', R H' → Wp P c { σ with H := H' } Q) : Wp P c σ Q := by
  obtain ⟨H', w, hr⟩ := h
  exact Wp.weak w (h2 H' hr)
theorem batsC_ren (ρ : Nat → Nat) (e v : Nat) (l : List BatD) : HE.ren ρ (.mrow e 5 v (batsC l)) = .mrow e 5 v (batsC l) := by
  show HE.mrow e 5 v ((batsC l).map (CV.ren ρ)) = _
  unfold batsC
  rw [List.map_map]
  congr 1
theorem opensC_ren (e v : Nat) (vt : Nat → Nat) : ∀ (l : List OpenD), HE.ren (fun x => if x = 0 then 1 else if x = 1 then 0 else x) (.mrow e 3 v (opensC vt l)) = .mrow e 3 v (opensC vt l)
  | [] => rfl
  | o :: l => by
    have ih := opensC_ren e v vt l
    simp only [HE.ren, HE.mrow.injEq, true_and] at ih ⊢
    unfold opensC at ih ⊢
    rw [List.flatMap_cons, List.map_append, ih]
    have h0 : ¬ 10 + o.pid.toNat = 0 := by omega
    have h1 : ¬ 10 + o.pid.toNat = 1 := by omega
    simp only [List.map_cons, List.map_nil, CV.ren, h0, h1, if_false]
theorem fold_fun (l : List EntD) (hl : l.length ≤ 20000) (S : Nat → FoldS) (n : Nat) (hS : S 0 = s0) (hn : n ≤ l.length) (hok : ∀ k, k ≤ n → OpOk (S k).p.opens)
    (hgo : ∀ k (hk : k < n), FunG Tryd.prog 30 [.c (.own 0 0), entV (l[k]'(by omega))] inK (ofH (inM (S k))) nilE inK (ofH (inM (S (k + 1)))))
    (hend : ∀ (hk : n < l.length), ∃ m, FunG Tryd.prog 30 [.c (.own 0 0), entV l[n]] inK (ofH (inM (S n))) (imposV m) inK (ofH (inM (S n)))) :
    Fun Tryd.prog 12 [.lst 18 (l.map EntD.dv)] (.tup [.agg (if n = l.length then (S n).p.dv else [int 0, int 0, .lst 5 [], .lst 3 [], .lst 4 []]), int (if n = l.length then 0 else 70)]) := by
  (refine Fun.of_bodyW Tryd.func12 rfl rfl Tryd.ntmps12 Tryd.results12 (by simp) ?_)
  (refine gO0 ?_; try (with_reducible exact True.intro))
  refine Wp.weakE (begin_fold _ (by (refine rO0 ?_; try (with_reducible exact True.intro))) (fun i h1 h2 => by
    have g0 : ¬ i = 0 := by omega
    have g1 : ¬ i = 1 := by omega
    simp [upd, ofH, g0, g1]; rfl) rfl) ?_
  rintro H' ⟨f1, f9, f10, ft, f0⟩
  have f11 := ft 11 (by decide) (by decide); have f12 := ft 12 (by decide) (by decide); have f13 := ft 13 (by decide) (by decide); have f14 := ft 14 (by decide) (by decide)
  have f15 := ft 15 (by decide) (by decide); have f16 := ft 16 (by decide) (by decide); have f17 := ft 17 (by decide) (by decide); have f18 := ft 18 (by decide) (by decide)
  have f0' : H' 0 = some (.cells [.d (int 0), .d (int 0), nilC, nilC, nilC]) := by rw [f0]; (refine rO0 ?_; try (with_reducible exact True.intro))
  clear f0 ft
  refine Wp.loop (fun k : Nat => fdS l (S k) k) (fun k => k ≤ n) (fun k => l.length - k) 0 (Nat.zero_le _) ?_ ?_
  · refine Weak.keep rfl (okIds_fold (hok 0 (Nat.zero_le _)).pid rfl) ?_
    rw [hS]
    (refine rO (And.intro @s0.eq_1 (And.intro @rowsC.eq_1 (And.intro @opensC.eq_1 (And.intro @batsC.eq_1 (And.intro @batsOf.eq_1 (And.intro f1 (And.intro f9 (And.intro f10 (And.intro f11 (And.intro f12 (And.intro f13 (And.intro f14 (And.intro f15 (And.intro f16 (And.intro f17 (And.intro f18 (And.intro f0' (And.intro @List.map_nil.{0,0} (And.intro @List.flatten_nil.{0} (And.intro @List.flatMap_nil.{0,0} (@List.find?_nil.{0}))))))))))))))))))))) ?_; try (with_reducible exact True.intro))
  rintro k hk
  (refine gO0 ?_; try (with_reducible exact True.intro))
  refine Wp.cond (by (refine rO0 ?_; try (with_reducible exact True.intro)); rfl) (fun h => ?_) (fun h => ?_)
  · have hlt : k < l.length := by simpa using h
    have hge : l[k]? = some l[k] := List.getElem?_eq_getElem hlt
    have hpk := (hok k hk).pid
    (refine gO (And.intro hge (@EntD.dv.eq_1)) ?_; try (with_reducible exact True.intro))
    by_cases hkn : k < n
    · have c1 := hgo k hkn
      have hbV : entV l[k] = .agg (l[k].dv.map CV.d) := rfl
      have hpk' := (hok (k + 1) hkn).pid
      have hwk : IntKind.i64.wrap ((k : Int) + 1) = ((k + 1 : Nat) : Int) := by rw [wrap_i64 (by omega)]; rfl
      (first | refine Wp.sregG ?_ | refine Wp.regG ?_ | (refine Wp.seq ?_; first | refine Wp.sregG ?_ | refine Wp.regG ?_))
      (refine GRun.at 2 (fun K hK => ?_); (refine rO (@GRUN) ?_; try (with_reducible exact True.intro)); refine hK _ ?_; clear hK K)
      (refine GRun.call (c1) [(0, 1)] 200 rfl rfl ?_ ?_; (focus ((refine rOs (And.intro @HEREN (And.intro @GRUN (And.intro @rowsC_ren (And.intro @batsC_ren (And.intro @opensC_ren (And.intro hbV (And.intro @EntD.dv.eq_1 (And.intro @List.map_cons.{0,0} (@List.map_nil.{0,0}))))))))) ?_; try (with_reducible exact True.intro)); done)))
      (refine GRun.done (fun K hK => ?_); (refine rOs (And.intro @GRUN (And.intro @putB.eq_1 (And.intro @putB.eq_2 (And.intro @HEREN (And.intro @rowsC_ren (And.intro @batsC_ren (And.intro @opensC_ren (And.intro @List.map_cons.{0,0} (@List.map_nil.{0,0}))))))))) ?_; try (with_reducible exact True.intro)); refine hK _ ?_; clear hK K)
      (refine gO (hwk) ?_; try (with_reducible exact True.intro))
      refine ⟨k + 1, hkn, by omega, Weak.keep rfl (okIds_fold hpk' rfl) ?_⟩
      (refine rO (And.intro @List.map_cons.{0,0} (@List.map_nil.{0,0})) ?_; try (with_reducible exact True.intro))
    · obtain rfl : k = n := by omega
      obtain ⟨m, c1⟩ := hend hlt
      have c2 := code_err_inline (str m) 70
      have hbV : entV l[k] = .agg (l[k].dv.map CV.d) := rfl
      have hne : ¬ k = l.length := by omega
      (first | refine Wp.sregG ?_ | refine Wp.regG ?_ | (refine Wp.seq ?_; first | refine Wp.sregG ?_ | refine Wp.regG ?_))
      (refine GRun.at 2 (fun K hK => ?_); (refine rO (@GRUN) ?_; try (with_reducible exact True.intro)); refine hK _ ?_; clear hK K)
      (refine GRun.call (c1) [(0, 1)] 200 rfl rfl ?_ ?_; (focus ((refine rOs (And.intro @HEREN (And.intro @GRUN (And.intro @rowsC_ren (And.intro @batsC_ren (And.intro @opensC_ren (And.intro hbV (And.intro @EntD.dv.eq_1 (And.intro @List.map_cons.{0,0} (@List.map_nil.{0,0}))))))))) ?_; try (with_reducible exact True.intro)); done)))
      (refine GRun.done (fun K hK => ?_); (refine rOs (And.intro @GRUN (And.intro @putB.eq_1 (And.intro @putB.eq_2 (And.intro @HEREN (And.intro @rowsC_ren (And.intro @batsC_ren (And.intro @opensC_ren (And.intro @List.map_cons.{0,0} (@List.map_nil.{0,0}))))))))) ?_; try (with_reducible exact True.intro)); refine hK _ ?_; clear hK K)
      (refine gO0 ?_; try (with_reducible exact True.intro))
      (refine rO (And.intro hne (@if_false.{1})) ?_; try (with_reducible exact True.intro))
      exact ⟨_, rfl, DLe.tup (.cons (.agg (.cons (.refl _) (.cons (.refl _) (.cons (.nil 5) (.cons (.nil 3) (.cons (.nil 4) .nil)))))) (.cons (.refl _) .nil))⟩
  · have hkl : k = l.length := by
      have : ¬ k < l.length := by simpa using h
      omega
    have hkn : k = n := by omega
    subst hkn
    subst hkl
    refine Wp.weakE (pub_part (S l.length) 1 (by decide) _ (hok _ (Nat.le_refl _)) (by (refine rO0 ?_; try (with_reducible exact True.intro))) (by (refine rO0 ?_; try (with_reducible exact True.intro))) (by (refine rO0 ?_; try (with_reducible exact True.intro))) (fun q h1 h2 => by
      have hq2 : q = 1 ∨ q = 2 ∨ q = 3 ∨ q = 4 ∨ q = 5 ∨ q = 6 ∨ q = 7 ∨ q = 8 := by omega
      rcases hq2 with rfl | rfl | rfl | rfl | rfl | rfl | rfl | rfl <;> rfl)) ?_
    rintro H2 ⟨p1, p2⟩
    have p0 : H2 0 = some (.cells [.d (int 0), .d (int 0), nilC, nilC, nilC]) := (p2 0 (by decide) (by decide)).trans rfl
    simp only [PartD.dv, List.map_cons, List.map_nil] at p1
    dsimp only
    (refine gO (And.intro p1 (p0)) ?_; try (with_reducible exact True.intro))
    (refine rO (And.intro p0 (@PartD.dv.eq_1)) ?_; try (with_reducible exact True.intro))
    exact ⟨_, rfl, fun _ _ h => h⟩
end Go.Proofs.YtafipkbffboebaaDoor
namespace Go.Proofs.YtafipkbffboebaaDoor
open Go Go.RowKit
set_option maxHeartbeats 4000000
set_option maxRecDepth 100000
set_option linter.unusedVariables false
set_option linter.unusedSimpArgs false
def dataP (p : PartD) (b : BatD) : Option PartD :=
  if (checkF p.prods b).2.2 ≠ 0 ∨ (checkF p.prods b).2.1 = true then none else
  match openB p.opens b.pid, p.opens[openI p.opens b.pid]? with
  | true, some o => if b.txn = false ∨ o.epoch ≠ b.epoch ∨ 8 ≤ o.bats.length then none else
      some { p with prods := (takeF p.prods b (-1)).1, opens := p.opens.set (openI p.opens b.pid) ⟨o.pid, o.epoch, o.bats ++ [b]⟩ }
  | _, _ => if b.txn = false then
      (if 1048576 < p.fin + (b.recs.length : Int) then none else some { p with prods := (takeF p.prods b p.fin).1, rows := p.rows ++ rowsF b p.fin, fin := p.fin + (b.recs.length : Int) })
    else some { p with prods := (takeF p.prods b (-1)).1, opens := p.opens.take (openI p.opens b.pid) ++ ⟨b.pid, b.epoch, [b]⟩ :: p.opens.drop (openI p.opens b.pid) }
def putsP (p : PartD) (l : List BatD) : PartD := l.foldl (fun p b => { p with rows := p.rows ++ rowsF b p.fin, fin := p.fin + (b.recs.length : Int) }) p
def markP (p : PartD) (b : BatD) (yes : Bool) : Option PartD :=
  match openB p.opens b.pid, p.opens[openI p.opens b.pid]? with
  | true, some o => if o.epoch ≠ b.epoch then none else
      if 1048576 < p.fin + (sumR (if yes then o.bats else []) : Nat) + 1 then none else
      some { putsP p (if yes then o.bats else []) with fin := (putsP p (if yes then o.bats else [])).fin + 1, opens := p.opens.take (openI p.opens b.pid) ++ p.opens.drop (openI p.opens b.pid + 1), prods := clearF p.prods b.pid }
  | _, _ => none
def stepP (p : PartD) (e : EntD) : Option PartD :=
  if okKind e = false then none else
  if e.kind = 0 then dataP p e.b
  else if e.kind = 1 then markP p e.b e.yes
  else if e.kind = 2 then (if e.off < p.start ∨ p.fin < e.off then none else some { p with start := e.off, rows := keepF (cutP e.off) p.rows })
  else if e.kind = 3 then none
  else if e.kind = 4 then none
  else if e.kind = 5 then (if p.fin = 1048576 then none else some { p with rows := p.rows ++ [{ e.row with off := p.fin }], fin := p.fin + 1 })
  else (if openB p.opens e.prod.pid = true then none else some { p with prods := setF p.prods e.prod })
theorem rise_len : ∀ (l : List OpenD) (n : Int), n ≤ 8 → l.Pairwise (fun a b => a.pid < b.pid) → (∀ o ∈ l, n < o.pid ∧ o.pid ≤ 8) → (l.length : Int) ≤ 8 - n
  | [], n, hn, _, _ => by simp only [List.length_nil]; omega
  | o :: l, n, hn, hp, h => by
    have h1 := h o (List.mem_cons_self ..)
    rw [List.pairwise_cons] at hp
    have := rise_len l o.pid h1.2 hp.2 (fun x hx => ⟨hp.1 x hx, (h x (List.mem_cons_of_mem _ hx)).2⟩)
    rw [List.length_cons]; omega
theorem OpOk.len8 {l : List OpenD} (h : OpOk l) : l.length ≤ 8 := by
  have := rise_len l 0 (by decide) h.rise (fun o ho => by have := h.pid o ho; omega)
  omega
/-- What holds of a part that k entries made. -/
structure FOk (k : Nat) (p : PartD) : Prop where
  ok : OpOk p.opens
  fin : 0 ≤ p.fin ∧ p.fin ≤ 1048576
  rows : p.rows.length ≤ 40 * k
  prods : p.prods.length ≤ k
  seen : ∀ x ∈ p.prods, x.seen.length ≤ 100
  opens : p.opens.length ≤ k
  bats : ∀ o ∈ p.opens, o.bats.length ≤ 8
  recs : ∀ o ∈ p.opens, ∀ b ∈ o.bats, b.recs.length ≤ 4
theorem FOk.small {k : Nat} {p : PartD} (h : FOk k p) (hk : k ≤ 20000) : SmallL p.prods := ⟨by have := h.prods; omega, fun x hx => by have := h.seen x hx; omega⟩
theorem sumR_bound : ∀ (l : List BatD), (∀ b ∈ l, b.recs.length ≤ 4) → sumR l ≤ 4 * l.length
  | [], _ => by simp [sumR]
  | b :: l, h => by
    have h1 := h b (List.mem_cons_self ..)
    have h2 := sumR_bound l (fun x hx => h x (List.mem_cons_of_mem _ hx))
    simp only [sumR, List.length_cons]; omega
theorem takeF_fine (l : List ProdD) (b : BatD) (base : Int) (h1 : (checkF l b).2.2 = 0) (h2 : (checkF l b).2.1 = false) (hb : -1 ≤ base ∧ base ≤ 1048576) : (takeF l b base).2 = 0 := by
  unfold takeF
  rw [show (decide (base < -1) || decide (1048576 < base)) = false by simp; omega]
  simp [h1, h2]
def NextOk (s : FoldS) (e : EntD) : Prop := ∃ r t, FunG Tryd.prog 30 [.c (.own 0 0), entV e] inK (ofH (inM s)) r inK (ofH (inM t)) ∧ ((stepP s.p e = some t.p ∧ r = nilE) ∨ (stepP s.p e = none ∧ (∃ m, r = imposV m) ∧ t = s))
theorem nextOk_cut (s : FoldS) (e : EntD) (k : Nat) (h : FOk k s.p) (hk : k ≤ 20000) (hr : e.b.recs.length ≤ 100000) (hq : e.prod.seen.length ≤ 100000) (ho : okKind e = true) (he : e.kind = 2) : NextOk s e := by
  have hok := ho
  simp only [okKind, Bool.and_eq_true, decide_eq_true_eq] at hok
  have hrow := h.rows
  have hstep : stepP s.p e = (if e.off < s.p.start ∨ s.p.fin < e.off then none else some { s.p with start := e.off, rows := keepF (cutP e.off) s.p.rows }) := by
    unfold stepP; simp [ho, he]
  have hF : nxF e.kind = 55 := by simp [nxF, he]
  by_cases hc : e.off < s.p.start ∨ s.p.fin < e.off
  · exact ⟨_, _, nextGo_fun s s e _ h.ok h.ok.pid rfl hok.1 hr hq hok.2 h.fin.2 (hF ▸ cutNo_fun s e h.ok hc), .inr ⟨by rw [hstep, if_pos hc], ⟨_, rfl⟩, rfl⟩⟩
  · exact ⟨_, _, nextGo_fun s (cutS s e.off) e _ h.ok h.ok.pid rfl hok.1 hr hq hok.2 h.fin.2 (hF ▸ cut_fun s e h.ok (by omega) (by omega)), .inl ⟨by rw [hstep, if_neg hc]; rfl, rfl⟩⟩
theorem nextOk_other (s : FoldS) (e : EntD) (k : Nat) (h : FOk k s.p) (hr : e.b.recs.length ≤ 100000) (hq : e.prod.seen.length ≤ 100000) (ho : okKind e = true) (he : e.kind = 3 ∨ e.kind = 4) : NextOk s e := by
  have hok := ho
  simp only [okKind, Bool.and_eq_true, decide_eq_true_eq] at hok
  have hstep : stepP s.p e = none := by
    unfold stepP; rcases he with he | he <;> simp [ho, he]
  have hF : nxF e.kind = 56 := by rcases he with he | he <;> simp [nxF, he]
  exact ⟨_, _, nextGo_fun s s e _ h.ok h.ok.pid rfl hok.1 hr hq hok.2 h.fin.2 (hF ▸ otherE_fun s e h.ok), .inr ⟨hstep, ⟨_, rfl⟩, rfl⟩⟩
theorem nextOk_row (s : FoldS) (e : EntD) (k : Nat) (h : FOk k s.p) (hk : k ≤ 20000) (hr : e.b.recs.length ≤ 100000) (hq : e.prod.seen.length ≤ 100000) (ho : okKind e = true) (he : e.kind = 5) : NextOk s e := by
  have hok := ho
  simp only [okKind, Bool.and_eq_true, decide_eq_true_eq] at hok
  have hrow := h.rows
  have hfin := h.fin
  have hstep : stepP s.p e = (if s.p.fin = 1048576 then none else some { s.p with rows := s.p.rows ++ [{ e.row with off := s.p.fin }], fin := s.p.fin + 1 }) := by
    unfold stepP; simp [ho, he]
  have hF : nxF e.kind = 57 := by simp [nxF, he]
  by_cases hc : s.p.fin = 1048576
  · exact ⟨_, _, nextGo_fun s s e _ h.ok h.ok.pid rfl hok.1 hr hq hok.2 h.fin.2 (hF ▸ rowE_no s e h.ok hc), .inr ⟨by rw [hstep, if_pos hc], ⟨_, rfl⟩, rfl⟩⟩
  · exact ⟨_, _, nextGo_fun s (rowS s e.row) e _ h.ok h.ok.pid rfl hok.1 hr hq hok.2 h.fin.2 (hF ▸ rowE_fun s e h.ok (by omega) (by omega)), .inl ⟨by rw [hstep, if_neg hc]; rfl, rfl⟩⟩
theorem nextOk_state (s : FoldS) (e : EntD) (k : Nat) (h : FOk k s.p) (hk : k ≤ 20000) (hr : e.b.recs.length ≤ 100000) (hq : e.prod.seen.length ≤ 100000) (ho : okKind e = true) (he : e.kind = 6) : NextOk s e := by
  have hok := ho
  simp only [okKind, Bool.and_eq_true, decide_eq_true_eq] at hok
  have hop := h.ok.len8
  have hstep : stepP s.p e = (if openB s.p.opens e.prod.pid = true then none else some { s.p with prods := setF s.p.prods e.prod }) := by
    unfold stepP; simp [ho, he]
  have hF : nxF e.kind = 58 := by simp [nxF, he]
  cases hc : openB s.p.opens e.prod.pid with
  | true => exact ⟨_, _, nextGo_fun s s e _ h.ok h.ok.pid rfl hok.1 hr hq hok.2 h.fin.2 (hF ▸ stateE_no s e h.ok (by omega) hc), .inr ⟨by rw [hstep, hc]; rfl, ⟨_, rfl⟩, rfl⟩⟩
  | false => exact ⟨_, _, nextGo_fun s (stateS s e.prod) e _ h.ok h.ok.pid rfl hok.1 hr hq hok.2 h.fin.2 (hF ▸ stateE_fun s e h.ok (by omega) hc (h.small hk) hq), .inl ⟨by rw [hstep, hc]; rfl, rfl⟩⟩
theorem puts_plain : ∀ (l : List BatD) (s : FoldS), (putsS s l).p = putsP s.p l
  | [], s => rfl
  | b :: l, s => puts_plain l (putS s b)
theorem openB_get {l : List OpenD} {pid : Int} (h : openB l pid = true) : ∃ o, l[openI l pid]? = some o ∧ o.pid = pid := by
  obtain ⟨hlt, hp⟩ := openB_spec h
  exact ⟨_, List.getElem?_eq_getElem hlt, hp⟩
theorem nextOk_mark (s : FoldS) (e : EntD) (k : Nat) (h : FOk k s.p) (hk : k ≤ 20000) (hr : e.b.recs.length ≤ 100000) (hq : e.prod.seen.length ≤ 100000) (ho : okKind e = true) (he : e.kind = 1) : NextOk s e := by
  have hok := ho
  simp only [okKind, Bool.and_eq_true, decide_eq_true_eq] at hok
  have hop := h.ok.len8
  have hrow := h.rows
  have hfin := h.fin
  have hstep : stepP s.p e = markP s.p e.b e.yes := by
    unfold stepP; simp [ho, he]
  have hF : nxF e.kind = 54 := by simp [nxF, he]
  cases hc : openB s.p.opens e.b.pid with
  | false => exact ⟨_, _, nextGo_fun s s e _ h.ok h.ok.pid rfl hok.1 hr hq hok.2 h.fin.2 (hF ▸ markNo1_fun s e h.ok (by omega) hc), .inr ⟨by rw [hstep]; unfold markP; rw [hc], ⟨_, rfl⟩, rfl⟩⟩
  | true =>
    obtain ⟨o, hi, hpid⟩ := openB_get hc
    obtain ⟨hlt, hoe⟩ := List.getElem?_eq_some_iff.1 hi
    have hmem : o ∈ s.p.opens := hoe ▸ List.getElem_mem hlt
    have hbl := h.bats o hmem
    have hrec := h.recs o hmem
    have hsb := sumR_bound o.bats hrec
    by_cases hep : o.epoch = e.b.epoch
    rotate_left
    · exact ⟨_, _, nextGo_fun s s e _ h.ok h.ok.pid rfl hok.1 hr hq hok.2 h.fin.2 (hF ▸ markNo2_fun s e h.ok (by omega) o hi hpid hep), .inr ⟨by rw [hstep]; unfold markP; rw [hc, hi]; simp [hep], ⟨_, rfl⟩, rfl⟩⟩
    cases hy : e.yes with
    | true =>
      have hm : markP s.p e.b true = (if 1048576 < s.p.fin + (sumR o.bats : Nat) + 1 then none else some { putsP s.p o.bats with fin := (putsP s.p o.bats).fin + 1, opens := s.p.opens.take (openI s.p.opens e.b.pid) ++ s.p.opens.drop (openI s.p.opens e.b.pid + 1), prods := clearF s.p.prods e.b.pid }) := by
        unfold markP; rw [hc, hi]; simp [hep]
      by_cases hf : 1048576 < s.p.fin + (sumR o.bats : Nat) + 1
      · exact ⟨_, _, nextGo_fun s s e _ h.ok h.ok.pid rfl hok.1 hr hq hok.2 h.fin.2 (hF ▸ markYes_fun s e h.ok (by omega) (h.small hk) o hi hpid hep hy (by omega) (fun b hb => by have := hrec b hb; omega) (by omega) (by omega) (imposV markMsg2) s h.ok.pid rfl (.inr ⟨hf, rfl, rfl⟩)), .inr ⟨by rw [hstep, hy, hm, if_pos hf], ⟨_, rfl⟩, rfl⟩⟩
      · have hpk := puts_keep o.bats s
        have hpt : PidOk (withP ((fin1 (putsS s o.bats)).del (openI s.p.opens e.b.pid) o.pid) (clearF s.p.prods e.b.pid)).p.opens := by
          show PidOk ((putsS s o.bats).p.opens.take _ ++ (putsS s o.bats).p.opens.drop _)
          rw [hpk.1]; exact h.ok.pid.erase _
        refine ⟨_, _, nextGo_fun s _ e _ h.ok hpt rfl hok.1 hr hq hok.2 h.fin.2 (hF ▸ markYes_fun s e h.ok (by omega) (h.small hk) o hi hpid hep hy (by omega) (fun b hb => by have := hrec b hb; omega) (by omega) (by omega) nilE _ hpt rfl (.inl ⟨by omega, rfl, rfl⟩)), .inl ⟨?_, rfl⟩⟩
        rw [hstep, hy, hm, if_neg hf]
        show some _ = some ({ (putsS s o.bats).p with fin := (putsS s o.bats).p.fin + 1, opens := (putsS s o.bats).p.opens.take _ ++ (putsS s o.bats).p.opens.drop _, prods := _ } : PartD)
        rw [hpk.1, puts_plain]
    | false =>
      have hm : markP s.p e.b false = (if 1048576 < s.p.fin + (0 : Nat) + 1 then none else some { s.p with fin := s.p.fin + 1, opens := s.p.opens.take (openI s.p.opens e.b.pid) ++ s.p.opens.drop (openI s.p.opens e.b.pid + 1), prods := clearF s.p.prods e.b.pid }) := by
        unfold markP; rw [hc, hi]; simp [hep, sumR, putsP]
      have hpt : PidOk (withP ((fin1 s).del (openI s.p.opens e.b.pid) o.pid) (clearF s.p.prods e.b.pid)).p.opens := h.ok.pid.erase _
      by_cases hf : 1048576 < s.p.fin + (0 : Nat) + 1
      · exact ⟨_, _, nextGo_fun s s e _ h.ok h.ok.pid rfl hok.1 hr hq hok.2 h.fin.2 (hF ▸ markAb_fun s e h.ok (by omega) (h.small hk) o hi hpid hep hy (by omega) (imposV markMsg2) s h.ok.pid rfl (.inr ⟨by omega, rfl, rfl⟩)), .inr ⟨by rw [hstep, hy, hm, if_pos hf], ⟨_, rfl⟩, rfl⟩⟩
      · exact ⟨_, _, nextGo_fun s _ e _ h.ok hpt rfl hok.1 hr hq hok.2 h.fin.2 (hF ▸ markAb_fun s e h.ok (by omega) (h.small hk) o hi hpid hep hy (by omega) nilE _ hpt rfl (.inl ⟨by omega, rfl, rfl⟩)), .inl ⟨by rw [hstep, hy, hm, if_neg hf]; rfl, rfl⟩⟩
theorem may_bat {e : EntD} (hm : mayI e = true) (he : e.kind = 0) : batB e.b = true := by
  unfold mayI at hm
  rw [if_pos he, Bool.and_eq_true] at hm
  exact hm.1
theorem batB_pid {b : BatD} (h : batB b = true) : (1 ≤ b.pid ∧ b.pid ≤ 8) ∧ b.recs.length ≤ 4 := by
  unfold batB at h
  simp only [Bool.and_eq_true, Bool.not_eq_true', Bool.or_eq_false_iff, decide_eq_false_iff_not] at h
  omega
theorem nextOk_data (s : FoldS) (e : EntD) (k : Nat) (h : FOk k s.p) (hk : k ≤ 20000) (hr : e.b.recs.length ≤ 100000) (hq : e.prod.seen.length ≤ 100000) (ho : okKind e = true) (he : e.kind = 0) : NextOk s e := by
  have hok := ho
  simp only [okKind, Bool.and_eq_true, decide_eq_true_eq] at hok
  have hop := h.ok.len8
  have hrow := h.rows
  have hfin := h.fin
  have hsm := h.small hk
  have hbp := (batB_pid (may_bat hok.2 he)).1
  have hstep : stepP s.p e = dataP s.p e.b := by
    unfold stepP; simp [ho, he]
  have hF : nxF e.kind = 53 := by simp [nxF, he]
  by_cases hc : (checkF s.p.prods e.b).2.2 ≠ 0 ∨ (checkF s.p.prods e.b).2.1 = true
  · exact ⟨_, _, nextGo_fun s s e _ h.ok h.ok.pid rfl hok.1 hr hq hok.2 h.fin.2 (hF ▸ dataNo1_fun s e h.ok (by omega) hsm hr hc), .inr ⟨by rw [hstep]; unfold dataP; rw [if_pos hc], ⟨_, rfl⟩, rfl⟩⟩
  have hc' : (checkF s.p.prods e.b).2.2 = 0 ∧ (checkF s.p.prods e.b).2.1 = false := by
    refine ⟨?_, ?_⟩
    · exact Decidable.not_not.1 (fun h => hc (.inl h))
    · cases hh : (checkF s.p.prods e.b).2.1 with
      | true => exact absurd (.inr hh) hc
      | false => rfl
  have ht1 := takeF_fine s.p.prods e.b (-1) hc'.1 hc'.2 (by omega)
  have ht2 := takeF_fine s.p.prods e.b s.p.fin hc'.1 hc'.2 (by omega)
  cases hob : openB s.p.opens e.b.pid with
  | true =>
    obtain ⟨o, hi, hpid⟩ := openB_get hob
    obtain ⟨hlt, hoe⟩ := List.getElem?_eq_some_iff.1 hi
    have hmem : o ∈ s.p.opens := hoe ▸ List.getElem_mem hlt
    have hbl := h.bats o hmem
    have hd : dataP s.p e.b = (if e.b.txn = false ∨ o.epoch ≠ e.b.epoch ∨ 8 ≤ o.bats.length then none else some { s.p with prods := (takeF s.p.prods e.b (-1)).1, opens := s.p.opens.set (openI s.p.opens e.b.pid) ⟨o.pid, o.epoch, o.bats ++ [e.b]⟩ }) := by
      unfold dataP; rw [if_neg hc, hob, hi]
    by_cases hno : e.b.txn = false ∨ o.epoch ≠ e.b.epoch ∨ 8 ≤ o.bats.length
    · exact ⟨_, _, nextGo_fun s s e _ h.ok h.ok.pid rfl hok.1 hr hq hok.2 h.fin.2 (hF ▸ dataNo2_fun s e h.ok (by omega) hsm hr hc' o hi hpid hno (by omega)), .inr ⟨by rw [hstep, hd, if_pos hno], ⟨_, rfl⟩, rfl⟩⟩
    · have g1 : e.b.txn = true := by
        cases hh : e.b.txn with
        | true => rfl
        | false => exact absurd (.inl hh) hno
      have g2 : o.epoch = e.b.epoch := Decidable.not_not.1 (fun hh => hno (.inr (.inl hh)))
      have g3 : o.bats.length < 8 := by
        rcases Nat.lt_or_ge o.bats.length 8 with hh | hh
        · exact hh
        · exact absurd (.inr (.inr hh)) hno
      have hpt : PidOk ((withP s (takeF s.p.prods e.b (-1)).1).addb (openI s.p.opens e.b.pid) o e.b).p.opens := fun x hx => by
        rcases List.mem_or_eq_of_mem_set hx with hh | rfl
        · exact h.ok.pid x hh
        · exact h.ok.pid o hmem
      exact ⟨_, _, nextGo_fun s _ e _ h.ok hpt rfl hok.1 hr hq hok.2 h.fin.2 (hF ▸ dataAdd_fun s e (takeF s.p.prods e.b (-1)).1 h.ok (by omega) hsm hr hc' o hi hpid g1 g2 g3 (by rw [← ht1])), .inl ⟨by rw [hstep, hd, if_neg hno]; rfl, rfl⟩⟩
  | false =>
    have hd : dataP s.p e.b = (if e.b.txn = false then
      (if 1048576 < s.p.fin + (e.b.recs.length : Int) then none else some { s.p with prods := (takeF s.p.prods e.b s.p.fin).1, rows := s.p.rows ++ rowsF e.b s.p.fin, fin := s.p.fin + (e.b.recs.length : Int) })
      else some { s.p with prods := (takeF s.p.prods e.b (-1)).1, opens := s.p.opens.take (openI s.p.opens e.b.pid) ++ ⟨e.b.pid, e.b.epoch, [e.b]⟩ :: s.p.opens.drop (openI s.p.opens e.b.pid) }) := by
      unfold dataP; rw [if_neg hc, hob]
    cases htx : e.b.txn with
    | false =>
      rw [htx, if_pos rfl] at hd
      by_cases hf : 1048576 < s.p.fin + (e.b.recs.length : Int)
      · exact ⟨_, _, nextGo_fun s s e _ h.ok h.ok.pid rfl hok.1 hr hq hok.2 h.fin.2 (hF ▸ dataNo3_fun s e h.ok (by omega) hsm hr hc' hob htx hf), .inr ⟨by rw [hstep, hd, if_pos hf], ⟨_, rfl⟩, rfl⟩⟩
      · exact ⟨_, _, nextGo_fun s (putS (withP s (takeF s.p.prods e.b s.p.fin).1) e.b) e _ h.ok h.ok.pid rfl hok.1 hr hq hok.2 h.fin.2 (hF ▸ dataPut_fun s e (takeF s.p.prods e.b s.p.fin).1 h.ok (by omega) hsm hr hc' hob htx (by omega) (by omega) (by rw [← ht2])), .inl ⟨by rw [hstep, hd, if_neg hf]; rfl, rfl⟩⟩
    | true =>
      rw [htx, if_neg (by simp)] at hd
      have hlt : openI s.p.opens e.b.pid ≤ s.p.opens.length := openI_le _ _
      have hset : (s.p.opens.take (openI s.p.opens e.b.pid) ++ (⟨e.b.pid, e.b.epoch, []⟩ : OpenD) :: s.p.opens.drop (openI s.p.opens e.b.pid)).set (openI s.p.opens e.b.pid) ⟨e.b.pid, e.b.epoch, [] ++ [e.b]⟩ = s.p.opens.take (openI s.p.opens e.b.pid) ++ (⟨e.b.pid, e.b.epoch, [e.b]⟩ : OpenD) :: s.p.opens.drop (openI s.p.opens e.b.pid) := by
        rw [List.set_append_right _ _ (by rw [List.length_take]; omega), List.length_take, Nat.min_eq_left hlt, Nat.sub_self]; rfl
      have hpt : PidOk (((withP s (takeF s.p.prods e.b (-1)).1).ins (openI s.p.opens e.b.pid) e.b.pid e.b.epoch).addb (openI s.p.opens e.b.pid) ⟨e.b.pid, e.b.epoch, []⟩ e.b).p.opens := by
        show PidOk ((s.p.opens.take _ ++ _ :: s.p.opens.drop _).set _ _)
        rw [hset]; exact h.ok.pid.ins _ hbp
      refine ⟨_, _, nextGo_fun s _ e _ h.ok hpt rfl hok.1 hr hq hok.2 h.fin.2 (hF ▸ dataIns_fun s e (takeF s.p.prods e.b (-1)).1 h.ok (by omega) hsm hr hc' hob hbp htx (by rw [← ht1])), .inl ⟨?_, rfl⟩⟩
      rw [hstep, hd, ← hset]
      rfl
theorem nextOk (s : FoldS) (e : EntD) (k : Nat) (h : FOk k s.p) (hk : k ≤ 20000) (hi8 : -128 ≤ e.kind ∧ e.kind ≤ 127) (hr : e.b.recs.length ≤ 100000) (hq : e.prod.seen.length ≤ 100000) : NextOk s e := by
  cases ho : okKind e with
  | false => exact ⟨_, _, nextBad_fun s e h.ok hi8 hr hq ho, .inr ⟨by unfold stepP; rw [if_pos ho], ⟨_, rfl⟩, rfl⟩⟩
  | true =>
    have hok := ho
    simp only [okKind, Bool.and_eq_true, decide_eq_true_eq] at hok
    have : e.kind = 0 ∨ e.kind = 1 ∨ e.kind = 2 ∨ (e.kind = 3 ∨ e.kind = 4) ∨ e.kind = 5 ∨ e.kind = 6 := by omega
    rcases this with he | he | he | he | he | he
    · exact nextOk_data s e k h hk hr hq ho he
    · exact nextOk_mark s e k h hk hr hq ho he
    · exact nextOk_cut s e k h hk hr hq ho he
    · exact nextOk_other s e k h hr hq ho he
    · exact nextOk_row s e k h hk hr hq ho he
    · exact nextOk_state s e k h hk hr hq ho he
end Go.Proofs.YtafipkbffboebaaDoor
namespace Go.Proofs.YtafipkbffboebaaDoor
open Go Go.RowKit
set_option maxHeartbeats 4000000
set_option maxRecDepth 100000
set_option linter.unusedVariables false
set_option linter.unusedSimpArgs false
theorem setF_mem' {l : List ProdD} {p x : ProdD} (h : x ∈ setF l p) : x ∈ l ∨ x = p := by
  unfold setF at h
  rcases List.mem_append.1 h with h | h
  · rcases List.mem_append.1 h with h | h
    · exact .inl (List.mem_of_mem_take h)
    · exact .inr (by simpa using h)
  · exact .inl (List.mem_of_mem_drop h)
theorem setF_len' (l : List ProdD) (p : ProdD) : (setF l p).length ≤ l.length + 1 := by
  unfold setF
  have := placeI_le l p.pid
  rw [List.length_append, List.length_append, List.length_take, List.length_drop]
  simp only [List.length_cons, List.length_nil]
  split <;> omega
theorem clearF_mem' {l : List ProdD} {pid : Int} {x : ProdD} (h : x ∈ clearF l pid) : x ∈ l ∨ x.seen = [] := by
  unfold clearF at h
  split at h
  · rcases List.mem_append.1 h with h | h
    · rcases List.mem_append.1 h with h | h
      · exact .inl (List.mem_of_mem_take h)
      · right; simp at h; rw [h]
    · exact .inl (List.mem_of_mem_drop h)
  · exact .inl h
theorem clearF_len' (l : List ProdD) (pid : Int) : (clearF l pid).length ≤ l.length := by
  unfold clearF
  split
  · rename_i p hp
    have := (List.getElem?_eq_some_iff.1 hp).1
    rw [List.length_append, List.length_append, List.length_take, List.length_drop]
    simp only [List.length_cons, List.length_nil]
    omega
  · omega
theorem keepF_len (pr : RowD → Bool) (l : List RowD) : (keepF pr l).length ≤ l.length := List.length_filter_le ..
theorem rows_len' (b : BatD) (n : Int) : (rowsF b n).length = b.recs.length := rowsT_len _ _ _
theorem newS_len' (l : List ProdD) (b : BatD) (base : Int) : (newS l b base).length ≤ 3 := by
  unfold newS
  rw [List.length_drop, List.length_append]
  simp only [List.length_cons, List.length_nil]
  omega
theorem take_prods {k : Nat} {l : List ProdD} (b : BatD) (base : Int) (hl : l.length ≤ k) (hs : ∀ x ∈ l, x.seen.length ≤ 100) : (takeF l b base).1.length ≤ k + 1 ∧ ∀ x ∈ (takeF l b base).1, x.seen.length ≤ 100 := by
  unfold takeF
  split
  · exact ⟨by simp, fun x hx => by simp at hx⟩
  split
  · exact ⟨by simp, fun x hx => by simp at hx⟩
  split
  · exact ⟨by simp, fun x hx => by simp at hx⟩
  · refine ⟨by have := setF_len' l ⟨b.pid, b.epoch, behF b, newS l b base⟩; simp only; omega, fun x hx => ?_⟩
    rcases setF_mem' hx with h | h
    · exact hs x h
    · subst h
      have := newS_len' l b base
      simp only; omega
theorem puts_keepP : ∀ (l : List BatD) (p : PartD), (putsP p l).opens = p.opens ∧ (putsP p l).prods = p.prods ∧ (putsP p l).start = p.start ∧ (putsP p l).fin = p.fin + (sumR l : Nat) ∧ (putsP p l).rows.length = p.rows.length + sumR l
  | [], p => by simp [putsP, sumR]
  | b :: l, p => by
    obtain ⟨h1, h2, h3, h4, h5⟩ := puts_keepP l { p with rows := p.rows ++ rowsF b p.fin, fin := p.fin + (b.recs.length : Int) }
    refine ⟨h1, h2, h3, ?_, ?_⟩
    · show (putsP _ l).fin = _
      rw [h4]; simp only [sumR, Int.natCast_add]; omega
    · show (putsP _ l).rows.length = _
      rw [h5, List.length_append, rows_len']; simp only [sumR]; omega
theorem FOk.mono {k : Nat} {p : PartD} (h : FOk k p) : FOk (k + 1) p := ⟨h.ok, h.fin, by have := h.rows; omega, by have := h.prods; omega, h.seen, by have := h.opens; omega, h.bats, h.recs⟩
theorem OpOk.erase {l : List OpenD} (h : OpOk l) (i : Nat) : OpOk (l.take i ++ l.drop (i + 1)) := by
  refine ⟨h.pid.erase i, ?_⟩
  have hsub : (l.take i ++ l.drop (i + 1)).Sublist l := by
    conv => rhs; rw [← List.take_append_drop i l]
    exact List.Sublist.append (List.Sublist.refl _) (by rw [← List.drop_drop]; exact List.drop_sublist _ _)
  exact h.rise.sublist hsub
theorem mark_ok {k : Nat} {p p' : PartD} {b : BatD} {yes : Bool} (h : FOk k p) (hm : markP p b yes = some p') : FOk (k + 1) p' := by
  unfold markP at hm
  split at hm
  · rename_i o hob hi
    obtain ⟨L, hL⟩ : ∃ L, L = (if yes then o.bats else []) := ⟨_, rfl⟩
    rw [← hL] at hm
    split at hm
    · cases hm
    split at hm
    · cases hm
    rename_i hf
    cases hm
    obtain ⟨hlt, hoe⟩ := List.getElem?_eq_some_iff.1 hi
    have hmem : o ∈ p.opens := hoe ▸ List.getElem_mem hlt
    have hsb : sumR L ≤ 32 := by
      rw [hL]
      split
      · have h1 := sumR_bound o.bats (h.recs o hmem)
        have h2 := h.bats o hmem
        omega
      · simp [sumR]
    obtain ⟨q1, q2, q3, q4, q5⟩ := puts_keepP L p
    have hfin := h.fin
    have hrow := h.rows
    have hop := h.opens
    have hpr := h.prods
    have hcl := clearF_len' p.prods b.pid
    have hmm : ∀ x ∈ p.opens.take (openI p.opens b.pid) ++ p.opens.drop (openI p.opens b.pid + 1), x ∈ p.opens := fun x hx => (List.mem_append.1 hx).elim List.mem_of_mem_take List.mem_of_mem_drop
    refine ⟨h.ok.erase _, ⟨by show 0 ≤ (putsP p _).fin + 1; rw [q4]; omega, by show (putsP p _).fin + 1 ≤ _; rw [q4]; omega⟩, by show (putsP p _).rows.length ≤ _; rw [q5]; omega, by show (clearF _ _).length ≤ _; omega, fun x hx => ?_, ?_, fun x hx => h.bats x (hmm x hx), fun x hx => h.recs x (hmm x hx)⟩
    · rcases clearF_mem' hx with hx | hx
      · exact h.seen x hx
      · rw [hx]; simp
    · show (p.opens.take _ ++ p.opens.drop _).length ≤ _
      rw [List.length_append, List.length_take, List.length_drop]; omega
  · cases hm
theorem OpOk.set {l : List OpenD} (h : OpOk l) {i : Nat} {o : OpenD} (hi : l[i]? = some o) (x : OpenD) (hx : x.pid = o.pid) : OpOk (l.set i x) := by
  obtain ⟨hlt, hoe⟩ := List.getElem?_eq_some_iff.1 hi
  have hmem : o ∈ l := hoe ▸ List.getElem_mem hlt
  refine ⟨fun y hy => ?_, ?_⟩
  · rcases List.mem_or_eq_of_mem_set hy with h1 | rfl
    · exact h.pid y h1
    · rw [hx]; exact h.pid o hmem
  · have hr := h.rise
    rw [List.pairwise_iff_getElem] at hr ⊢
    intro a b ha hb hab
    rw [List.length_set] at ha hb
    have h1 := hr a b ha hb hab
    have e : ∀ (j : Nat) (hj : j < (l.set i x).length) (hj' : j < l.length), (l.set i x)[j].pid = l[j].pid := fun j hj hj' => by
      rw [List.getElem_set]
      split
      · rename_i hij; subst hij; rw [hx, hoe]
      · rfl
    rw [e a (by rw [List.length_set]; exact ha) ha, e b (by rw [List.length_set]; exact hb) hb]
    exact h1
theorem data_ok {k : Nat} {p p' : PartD} {b : BatD} (h : FOk k p) (hb : batB b = true) (hm : dataP p b = some p') : FOk (k + 1) p' := by
  obtain ⟨hbp, hbr⟩ := batB_pid hb
  have hfin := h.fin
  have hrow := h.rows
  have hop := h.opens
  obtain ⟨t1, t2⟩ := take_prods b (-1) h.prods h.seen
  obtain ⟨t3, t4⟩ := take_prods b p.fin h.prods h.seen
  unfold dataP at hm
  split at hm
  · cases hm
  have hkeep : (match openB p.opens b.pid, p.opens[openI p.opens b.pid]? with
    | true, some o => False
    | _, _ => True) → (if b.txn = false then
      (if 1048576 < p.fin + (b.recs.length : Int) then none else some { p with prods := (takeF p.prods b p.fin).1, rows := p.rows ++ rowsF b p.fin, fin := p.fin + (b.recs.length : Int) })
    else some { p with prods := (takeF p.prods b (-1)).1, opens := p.opens.take (openI p.opens b.pid) ++ ⟨b.pid, b.epoch, [b]⟩ :: p.opens.drop (openI p.opens b.pid) }) = some p' → FOk (k + 1) p' := fun hno hm => by
    have hob : openB p.opens b.pid = false := by
      cases hob : openB p.opens b.pid with
      | false => rfl
      | true =>
        obtain ⟨o, hi, _⟩ := openB_get hob
        rw [hob, hi] at hno
        exact hno.elim
    split at hm
    · split at hm
      · cases hm
      rename_i hf
      cases hm
      exact ⟨h.ok, ⟨by show 0 ≤ p.fin + _; omega, by show p.fin + _ ≤ _; omega⟩, by show (p.rows ++ rowsF b p.fin).length ≤ _; rw [List.length_append, rows_len']; omega, t3, t4, by show p.opens.length ≤ _; omega, h.bats, h.recs⟩
    · cases hm
      have hmm : ∀ x ∈ p.opens.take (openI p.opens b.pid) ++ (⟨b.pid, b.epoch, [b]⟩ : OpenD) :: p.opens.drop (openI p.opens b.pid), x ∈ p.opens ∨ x = ⟨b.pid, b.epoch, [b]⟩ := fun x hx => by
        rcases List.mem_append.1 hx with hx | hx
        · exact .inl (List.mem_of_mem_take hx)
        · rcases List.mem_cons.1 hx with rfl | hx
          · exact .inr rfl
          · exact .inl (List.mem_of_mem_drop hx)
      refine ⟨h.ok.ins hob hbp b.epoch [b], hfin, by show p.rows.length ≤ _; omega, t1, t2, ?_, fun x hx => ?_, fun x hx y hy => ?_⟩
      · show (p.opens.take _ ++ _ :: p.opens.drop _).length ≤ _
        rw [List.length_append, List.length_cons, List.length_take, List.length_drop]; omega
      · rcases hmm x hx with hx | rfl
        · exact h.bats x hx
        · simp
      · rcases hmm x hx with hx | rfl
        · exact h.recs x hx y hy
        · simp at hy; subst hy; exact hbr
  split at hm
  · rename_i o hob hi
    obtain ⟨hlt, hoe⟩ := List.getElem?_eq_some_iff.1 hi
    have hmem : o ∈ p.opens := hoe ▸ List.getElem_mem hlt
    split at hm
    · cases hm
    rename_i hno
    cases hm
    have hbl : o.bats.length < 8 := by
      rcases Nat.lt_or_ge o.bats.length 8 with hh | hh
      · exact hh
      · exact absurd (.inr (.inr hh)) hno
    refine ⟨h.ok.set hi _ rfl, hfin, by show p.rows.length ≤ _; omega, t1, t2, by show (p.opens.set _ _).length ≤ _; rw [List.length_set]; omega, fun x hx => ?_, fun x hx y hy => ?_⟩
    · rcases List.mem_or_eq_of_mem_set hx with hx | rfl
      · exact h.bats x hx
      · show (o.bats ++ [b]).length ≤ 8
        rw [List.length_append]; simp only [List.length_cons, List.length_nil]; omega
    · rcases List.mem_or_eq_of_mem_set hx with hx | rfl
      · exact h.recs x hx y hy
      · rcases List.mem_append.1 hy with hy | hy
        · exact h.recs o hmem y hy
        · simp at hy; subst hy; exact hbr
  · rename_i hno
    refine hkeep ?_ hm
    split
    · rename_i o hob hi
      exact hno o hob hi
    · trivial
theorem knownB_seen {p : ProdD} (h : knownB p = true) : p.seen.length ≤ 3 := by
  unfold knownB at h
  rw [Bool.and_eq_true] at h
  have h1 := h.1
  unfold headBad at h1
  simp only [Bool.not_eq_true', Bool.or_eq_false_iff, decide_eq_false_iff_not] at h1
  omega
theorem step_ok {k : Nat} {p p' : PartD} {e : EntD} (h : FOk k p) (hm : stepP p e = some p') : FOk (k + 1) p' := by
  have hfin := h.fin
  have hrow := h.rows
  have hop := h.opens
  have hpr := h.prods
  unfold stepP at hm
  split at hm
  · cases hm
  rename_i ho
  have ho : okKind e = true := by simpa using ho
  simp only [okKind, Bool.and_eq_true, decide_eq_true_eq] at ho
  split at hm
  · rename_i he
    exact data_ok h (may_bat ho.2 he) hm
  split at hm
  · exact mark_ok h hm
  split at hm
  · split at hm
    · cases hm
    · cases hm
      have := keepF_len (cutP e.off) p.rows
      exact ⟨h.ok, hfin, by show (keepF _ _).length ≤ _; omega, by show p.prods.length ≤ _; omega, h.seen, by show p.opens.length ≤ _; omega, h.bats, h.recs⟩
  split at hm
  · cases hm
  split at hm
  · cases hm
  split at hm
  · split at hm
    · cases hm
    · rename_i hf
      cases hm
      exact ⟨h.ok, ⟨by show 0 ≤ p.fin + 1; omega, by show p.fin + 1 ≤ _; omega⟩, by show (p.rows ++ [_]).length ≤ _; rw [List.length_append]; simp only [List.length_cons, List.length_nil]; omega, by show p.prods.length ≤ _; omega, h.seen, by show p.opens.length ≤ _; omega, h.bats, h.recs⟩
  · rename_i h0 h1 h2 h3 h4 h5
    split at hm
    · cases hm
    · cases hm
      have hkn : knownB e.prod = true := by
        have hm2 := ho.2
        unfold mayI at hm2
        rw [if_neg h0, if_neg h1, if_neg h2, if_neg h3, if_neg h4, if_neg h5, Bool.and_eq_true] at hm2
        exact hm2.1
      have hks := knownB_seen hkn
      have := setF_len' p.prods e.prod
      refine ⟨h.ok, hfin, by show p.rows.length ≤ _; omega, by show (setF _ _).length ≤ _; omega, fun x hx => ?_, by show p.opens.length ≤ _; omega, h.bats, h.recs⟩
      rcases setF_mem' hx with hx | rfl
      · exact h.seen x hx
      · omega
def pZ : PartD := ⟨0, 0, [], [], []⟩
def foldP : PartD → List EntD → Option PartD
  | p, [] => some p
  | p, e :: l => match stepP p e with
    | some p' => foldP p' l
    | none => none
theorem foldP_app : ∀ (a b : List EntD) (p : PartD), foldP p (a ++ b) = match foldP p a with
    | some q => foldP q b
    | none => none
  | [], b, p => rfl
  | e :: a, b, p => by
    show (match stepP p e with | some p' => foldP p' (a ++ b) | none => none) = match (match stepP p e with | some p' => foldP p' a | none => none) with | some q => foldP q b | none => none
    cases stepP p e with
    | none => rfl
    | some q => exact foldP_app a b q
theorem fok0 : FOk 0 pZ := ⟨⟨fun o ho => by simp [pZ] at ho, by simp [pZ]⟩, by simp [pZ], by simp [pZ], by simp [pZ], fun x hx => by simp [pZ] at hx, by simp [pZ], fun x hx => by simp [pZ] at hx, fun x hx => by simp [pZ] at hx⟩
end Go.Proofs.YtafipkbffboebaaDoor
namespace Go.Proofs.YtafipkbffboebaaDoor
open Go Go.RowKit
set_option maxHeartbeats 4000000
set_option maxRecDepth 100000
set_option linter.unusedVariables false
set_option linter.unusedSimpArgs false
structure SmallEn (e : EntD) : Prop where
  kind : -128 ≤ e.kind ∧ e.kind ≤ 127
  recs : e.b.recs.length ≤ 100000
  seen : e.prod.seen.length ≤ 100000
def RunTo (l : List EntD) (m : Nat) (S : Nat → FoldS) : Prop :=
  S 0 = s0 ∧ (∀ k (hk : k < m) (hl : k < l.length), FunG Tryd.prog 30 [.c (.own 0 0), entV l[k]] inK (ofH (inM (S k))) nilE inK (ofH (inM (S (k + 1))))) ∧ (∀ k, k ≤ m → FOk k (S k).p) ∧ foldP pZ (l.take m) = some (S m).p
theorem run_all (l : List EntD) (hl : l.length ≤ 20000) (hs : ∀ e ∈ l, SmallEn e) : ∀ m, m ≤ l.length → (∃ S, RunTo l m S) ∨ ∃ n S, ∃ hn : n < l.length, RunTo l n S ∧ stepP (S n).p l[n] = none ∧ foldP pZ (l.take (n + 1)) = none
  | 0, _ => .inl ⟨fun _ => s0, rfl, fun k hk => by omega, fun k hk => (by
      have h0 : k = 0 := by omega
      subst h0
      exact fok0), rfl⟩
  | m + 1, hm => by
    rcases run_all l hl hs m (by omega) with ⟨S, h0, h1, h2, h3⟩ | h
    · have hlt : m < l.length := by omega
      have he := hs l[m] (List.getElem_mem hlt)
      obtain ⟨r, t, hF, hcase⟩ := nextOk (S m) l[m] m (h2 m (Nat.le_refl _)) (by omega) he.kind he.recs he.seen
      have hf : foldP pZ (l.take (m + 1)) = match stepP (S m).p l[m] with | some p' => some p' | none => none := by
        rw [List.take_succ_eq_append_getElem hlt, foldP_app, h3]
        show (match stepP (S m).p l[m] with | some p' => foldP p' [] | none => none) = _
        cases stepP (S m).p l[m] <;> rfl
      rcases hcase with ⟨hst, rfl⟩ | ⟨hst, _, _⟩
      · left
        obtain ⟨S', a1, a2⟩ : ∃ S' : Nat → FoldS, (∀ j, j ≤ m → S' j = S j) ∧ S' (m + 1) = t := ⟨fun j => if j ≤ m then S j else t, fun j hj => if_pos hj, if_neg (by omega)⟩
        refine ⟨S', (a1 0 (Nat.zero_le _)).trans h0, fun k hk hkl => ?_, fun k hk => ?_, ?_⟩
        · by_cases hkm : k < m
          · rw [a1 k (by omega), a1 (k + 1) (by omega)]; exact h1 k hkm hkl
          · obtain rfl : k = m := by omega
            rw [a1 k (Nat.le_refl _), a2]; exact hF
        · by_cases hkm : k ≤ m
          · rw [a1 k hkm]; exact h2 k hkm
          · obtain rfl : k = m + 1 := by omega
            rw [a2]; exact step_ok (h2 m (Nat.le_refl _)) hst
        · rw [hf, hst, a2]
      · exact .inr ⟨m, S, hlt, ⟨h0, h1, h2, h3⟩, hst, by rw [hf, hst]⟩
    · exact .inr h
abbrev partZD : List D := [int 0, int 0, .lst 5 [], .lst 3 [], .lst 4 []]
def foldR (l : List EntD) : List D := match foldP pZ l with
  | some p => p.dv
  | none => partZD
def foldE (l : List EntD) : Int := if (foldP pZ l).isSome then 0 else 70
theorem fold_res (l : List EntD) (hl : l.length ≤ 20000) (hs : ∀ e ∈ l, SmallEn e) : Fun Tryd.prog 12 [.lst 18 (l.map EntD.dv)] (.tup [.agg (foldR l), int (foldE l)]) := by
  rcases run_all l hl hs l.length (Nat.le_refl _) with ⟨S, h0, h1, h2, h3⟩ | ⟨n, S, hn, ⟨h0, h1, h2, h3⟩, hst, hf⟩
  · have h := fold_fun l hl S l.length h0 (Nat.le_refl _) (fun k hk => (h2 k hk).ok) (fun k hk => h1 k hk hk) (fun hk => absurd hk (Nat.lt_irrefl _))
    rw [List.take_length] at h3
    rw [if_pos rfl, if_pos rfl] at h
    unfold foldR foldE
    rw [h3]; exact h
  · have he := hs l[n] (List.getElem_mem hn)
    obtain ⟨r, t, hF, hcase⟩ := nextOk (S n) l[n] n (h2 n (Nat.le_refl _)) (by omega) he.kind he.recs he.seen
    rcases hcase with ⟨hst2, _⟩ | ⟨_, ⟨m, rfl⟩, rfl⟩
    · rw [hst] at hst2; cases hst2
    · have h := fold_fun l hl S n h0 (by omega) (fun k hk => (h2 k hk).ok) (fun k hk => h1 k hk (by omega)) (fun _ => ⟨m, hF⟩)
      have hnone : foldP pZ l = none := by
        conv => lhs; rw [← List.take_append_drop (n + 1) l]
        rw [foldP_app, hf]
      rw [if_neg (by omega), if_neg (by omega)] at h
      unfold foldR foldE
      rw [hnone]; exact h
end Go.Proofs.YtafipkbffboebaaDoor
