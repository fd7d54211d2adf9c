/- Package inline: own: open transactions. -/
import Derived.Test.YtafipkbffboebaaGreatDoorInNa
namespace Go.Proofs.YtafipkbffboebaaGreatDoor
open Go Go.RowKit
set_option maxHeartbeats 8000000
set_option maxRecDepth 100000
set_option linter.unusedVariables false
set_option linter.unusedSimpArgs false
theorem ownO_fun (o : OpenD) (hl : o.bats.length ≤ 1000) (hr : ∀ b ∈ o.bats, b.recs.length ≤ 100000) : FunG Tryz.prog 76 [.agg (o.dv.map CV.d)] [] (ofH []) (.agg [.d (int o.pid), .d (int o.epoch), .mt 21 (1 + o.bats.length)]) [21] (ofH [(21, .mrow 28 5 (1 + o.bats.length) (batsC o.bats))]) := by
  have c1 := eachB_fun o.bats hl hr
  refine FunG.of_bodyH rfl rfl Tryz.func76 rfl rfl Tryz.ntmps76 Tryz.results76 (Nat.le_of_ble_eq_true rfl) (okG_rowB rfl (by simp [subB, SV.ids, CV.ids])) ?_
  (refine gO (And.intro @GRUN (And.intro @OpenD.dv.eq_1 (And.intro @List.map_cons.{0,0} (@List.map_nil.{0,0})))) ?_; try (with_reducible exact True.intro))
  (first | refine Wp.sregG ?_ | refine Wp.regG ?_ | (refine Wp.seq ?_; first | refine Wp.sregG ?_ | refine Wp.regG ?_))
  (refine GRun.at 2 (fun K hK => ?_); (refine rO (@GRUN) ?_; try (with_reducible exact True.intro)); refine hK _ ?_; clear hK K)
  (refine GRun.call (c1) [] 1010 rfl rfl ?_ ?_; (focus ((refine rOs (And.intro @HEREN (And.intro @GRUN (@batsC_ren))) ?_; try (with_reducible exact True.intro)); done)))
  (refine GRun.done (fun K hK => ?_); (refine rOs (And.intro @GRUN (And.intro @putB.eq_1 (And.intro @putB.eq_2 (And.intro @HEREN (And.intro @batsC_ren (And.intro @List.map_cons.{0,0} (@List.map_nil.{0,0}))))))) ?_; try (with_reducible exact True.intro)); refine hK _ ?_; clear hK K)
  (refine gO (@GRUN) ?_; try (with_reducible exact True.intro))
  refine bodyQG.ret ?_
  (refine rO (And.intro @GRUN (And.intro @endB.eq_1 (@endB.eq_2))) ?_; try (with_reducible exact True.intro))
/-- How often a transaction's batches were written when they were made one's own. -/
def vtO (l : List OpenD) (q : Nat) : Nat := match l.find? (fun o => o.pid == (q : Int)) with
  | some o => 1 + o.bats.length
  | none => 0
abbrev eB (l : List OpenD) (v : Nat) : List (Nat × HE) :=
  [(10, .mrow 88 3 v (opensC (vtO l) l)),
   (11, .mrow 28 5 (vtO l 1) (batsC (batsOf l 1))), (12, .mrow 28 5 (vtO l 2) (batsC (batsOf l 2))), (13, .mrow 28 5 (vtO l 3) (batsC (batsOf l 3))), (14, .mrow 28 5 (vtO l 4) (batsC (batsOf l 4))),
   (15, .mrow 28 5 (vtO l 5) (batsC (batsOf l 5))), (16, .mrow 28 5 (vtO l 6) (batsC (batsOf l 6))), (17, .mrow 28 5 (vtO l 7) (batsC (batsOf l 7))), (18, .mrow 28 5 (vtO l 8) (batsC (batsOf l 8)))]
abbrev eK : List Nat := [10, 11, 12, 13, 14, 15, 16, 17, 18]
theorem ids_eK (vt : Nat → Nat) (l : List OpenD) (hp : PidOk l) : (((opensC vt l).flatMap CV.ids).all fun i => eK.contains i) = true :=
  ids_opensK eK (fun q h1 h2 => by
    have hq2 : q = 1 ∨ q = 2 ∨ q = 3 ∨ q = 4 ∨ q = 5 ∨ q = 6 ∨ q = 7 ∨ q = 8 := by omega
    rcases hq2 with rfl | rfl | rfl | rfl | rfl | rfl | rfl | rfl <;> rfl) vt l hp
theorem okB_eB (l : List OpenD) (v : Nat) (h : PidOk l) : okB eK (eB l v) = true := by
  have h2 := ids_eK (vtO l) _ h
  unfold okB
  simp only [List.all_cons, List.all_nil, HE.ids, batsC, ids_plain, Bool.and_true, Bool.true_and]
  rw [h2]
theorem okG_eB {args : List SV} {r : SV} {l : List OpenD} {v : Nat} (ha : (args.all fun a => subB a.ids []) = true) (hr : subB r.ids eK = true) (h : PidOk l) : okG args r [] (eB l v) = true := by
  have e2 : (eB l v).map (·.1) = eK := rfl
  unfold okG
  rw [e2, okB_eB l v h, hr]
  simp only [List.map_nil, ha]
  rfl
theorem okIds_eB {L : List (Nat × SV)} {l : List OpenD} {v : Nat} (hp : PidOk l) (hL : (L.all fun p => p.2.ids.all fun i => eK.contains i) = true) : (okIds L (eB l v) && keepsLent ⟨[], [], false, none⟩ (eB l v)) = true := by
  have h2 := ids_eK (vtO l) _ hp
  have e1 : (eB l v).map (·.1) = eK := rfl
  unfold okIds
  rw [e1, hL]
  simp only [List.all_cons, List.all_nil, HE.ids, batsC, ids_plain, Bool.and_true, Bool.true_and]
  rw [h2]
  rfl
theorem vtO_snoc (l : List OpenD) (o : OpenD) (h : ∀ x ∈ l, x.pid ≠ o.pid) (q : Nat) : vtO (l ++ [o]) q = if o.pid = (q : Int) then 1 + o.bats.length else vtO l q := by
  unfold vtO
  rw [List.find?_append]
  by_cases hq : o.pid = (q : Int)
  · rw [if_pos hq, List.find?_eq_none.2 (fun x hx => by have := h x hx; simp; omega)]
    simp [hq]
  · rw [if_neg hq, List.find?_cons_of_neg (by simpa using hq)]
    cases l.find? (fun o => o.pid == (q : Int)) <;> rfl
theorem batsOf_snoc (l : List OpenD) (o : OpenD) (h : ∀ x ∈ l, x.pid ≠ o.pid) (q : Nat) : batsOf (l ++ [o]) q = if o.pid = (q : Int) then o.bats else batsOf l q := by
  unfold batsOf
  rw [List.find?_append]
  by_cases hq : o.pid = (q : Int)
  · rw [if_pos hq, List.find?_eq_none.2 (fun x hx => by have := h x hx; simp; omega)]
    simp [hq]
  · rw [if_neg hq, List.find?_cons_of_neg (by simpa using hq)]
    cases l.find? (fun o => o.pid == (q : Int)) <;> rfl
theorem opensC_snoc (l : List OpenD) (o : OpenD) (h : ∀ x ∈ l, x.pid ≠ o.pid) (hp : PidOk (l ++ [o])) : opensC (vtO (l ++ [o])) (l ++ [o]) = opensC (vtO l) l ++ [.d (int o.pid), .d (int o.epoch), .mt (10 + o.pid.toNat) (1 + o.bats.length)] := by
  have h1 := hp o (by simp)
  rw [opensC_app, opensC_congr (vt := vtO l) l (fun x hx => by
    have h2 := hp x (List.mem_append.2 (.inl hx))
    have := h x hx
    rw [vtO_snoc l o h, if_neg (by omega)])]
  have h3 : vtO (l ++ [o]) o.pid.toNat = 1 + o.bats.length := by rw [vtO_snoc l o h, if_pos (by omega)]
  simp [opensC, h3]
theorem opensC_renOf (ρ : Nat → Nat) (vt : Nat → Nat) : ∀ (l : List OpenD), (∀ x ∈ l, ρ (10 + x.pid.toNat) = 10 + x.pid.toNat) → (opensC vt l).map (CV.ren ρ) = opensC vt l
  | [], _ => rfl
  | o :: l, h => by
    have h1 := h o (List.mem_cons_self ..)
    have ih := opensC_renOf ρ vt l (fun x hx => h x (List.mem_cons_of_mem _ hx))
    unfold opensC at ih ⊢
    rw [List.flatMap_cons, List.map_append, ih]
    simp only [List.map_cons, List.map_nil, CV.ren, h1]
theorem rise_take {l : List OpenD} (h : l.Pairwise (fun a b => a.pid < b.pid)) {k : Nat} (hk : k < l.length) : ∀ x ∈ l.take k, x.pid ≠ l[k].pid := fun x hx => by
  obtain ⟨j, hj, rfl⟩ := List.mem_take_iff_getElem.1 hx
  have := List.pairwise_iff_getElem.1 h j k (by omega) hk (by omega)
  omega
theorem eachO_fun (l : List OpenD) (hp : OpOk l) (hb : ∀ o ∈ l, o.bats.length ≤ 1000) (hr : ∀ o ∈ l, ∀ b ∈ o.bats, b.recs.length ≤ 100000) : FunG Tryz.prog 75 [.c (.d (.lst 3 (l.map OpenD.dv))), .c (.d (.fn (.func 76) []))] [] (ofH []) (.c (.mt 10 (1 + l.length))) eK (ofH (eB l (1 + l.length))) := by
  have hl8 := hp.len8
  refine FunG.of_bodyH rfl rfl Tryz.func75 rfl rfl Tryz.ntmps75 Tryz.results75 (Nat.le_of_ble_eq_true rfl) (okG_eB rfl rfl hp.pid) ?_
  (refine gO (@GRUN) ?_; try (with_reducible exact True.intro))
  refine Wp.weak (Weak.mtNew 1 (by decide) (t := 5) (τ := 10) (e := 88) (sz := 3) (by decide) (by (refine rO (@GRUN) ?_; try (with_reducible exact True.intro))) (by (refine rO (@GRUN) ?_; try (with_reducible exact True.intro))) (.inl rfl)) ?_
  refine Wp.weakE (mtoks 28 5 (by decide) 8 _ 11 (fun i h1 h2 => by
    have g0 : ¬ i = 10 := by omega
    simp [upd, ofH, g0])) ?_
  rintro H' ⟨f1, f2⟩
  have f10 : H' 10 = some (.mrow 88 3 1 []) := (f2 10 (by omega)).trans (by (refine rO (@GRUN) ?_; try (with_reducible exact True.intro)))
  have f11 := f1 11 (by decide) (by decide); have f12 := f1 12 (by decide) (by decide); have f13 := f1 13 (by decide) (by decide); have f14 := f1 14 (by decide) (by decide)
  have f15 := f1 15 (by decide) (by decide); have f16 := f1 16 (by decide) (by decide); have f17 := f1 17 (by decide) (by decide); have f18 := f1 18 (by decide) (by decide)
  clear f1 f2
  refine Wp.loop (fun k : Nat => ⟨ofL [(1, .c (.d (.fn (.func 76) []))), (5, .c (.mt 10 (1 + k))), (8, .c (.d (.lst 3 (l.map OpenD.dv)))), (9, vi .i64 l.length), (10, vi .i64 k)], ofH (eB (l.take k) (1 + k)), 1000, 22, ⟨[], [], false, none⟩⟩) (fun k => k ≤ l.length) (fun k => l.length - k) 0 (Nat.zero_le _) ?_ ?_
  · refine Weak.keep rfl (okIds_eB (by rw [List.take_zero]; intro x hx; cases hx) rfl) ?_
    simp (maxSteps := 2000000) (disch := omega) only [RUN, TY, RUNB, aop, ofV, SV.ofD, aLd, aSt, aFd, aPt, aLen, aSl, aIf, aMF, aXt, aBu, aCX, aCL, aCy, CV.exact, CV.lstOf, CV.lenOf, CV.one, D.one, Value.oneCell', CV.toD0, iFl, oWn, pLk, nD0, rD0, bQ0, tQ0, kQ0, reduceCtorEq, reduceIte, Nat.reduceBEq, Nat.reduceEqDiff, Nat.reduceAdd, Nat.reduceMul, Nat.reduceSub, Nat.reduceLT, Nat.reduceLeDiff, Nat.reduceBNe, Int.reduceLE, Int.reduceLT, Int.reduceBEq, Int.reduceBNe, Int.reduceEq, Int.reduceNeg, Int.reduceAdd, Int.reduceSub, Int.reduceToNat, forall_const, GRUN, batsC, batsOf, opensC, vtO, f10, f11, f12, f13, f14, f15, f16, f17, f18, List.take_zero, List.map_nil, List.flatten_nil, List.flatMap_nil, List.find?_nil]
  intro k hk
  by_cases hkl : k < l.length
  rotate_left
  · have hke : k = l.length := by omega
    subst hke
    rw [List.take_length]
    have d1 : decide ((l.length : Int) < (l.length : Int)) = false := by simp
    (refine gO (And.intro @GRUN (d1)) ?_; try (with_reducible exact True.intro))
    refine bodyQG.ret ?_
    (refine rO (And.intro @GRUN (And.intro @endB.eq_1 (@endB.eq_2))) ?_; try (with_reducible exact True.intro))
  have d1 : decide ((k : Int) < (l.length : Int)) = true := decide_eq_true (by omega)
  have hge : l[k]? = some l[k] := List.getElem?_eq_getElem hkl
  have hwk : IntKind.i64.wrap ((k : Int) + 1) = ((k + 1 : Nat) : Int) := by rw [wrap_i64 (by omega)]; rfl
  have htk : l.take (k + 1) = l.take k ++ [l[k]] := List.take_succ_eq_append_getElem hkl
  have hno := rise_take hp.rise hkl
  have hpk : PidOk (l.take k) := fun x hx => hp.pid x (List.mem_of_mem_take hx)
  have hpk1 : PidOk (l.take (k + 1)) := fun x hx => hp.pid x (List.mem_of_mem_take hx)
  have hmem := List.getElem_mem hkl
  have hx1 := hb _ hmem
  have hx2 := hr _ hmem
  have hx3 := hp.pid _ hmem
  have hlen : (opensC (vtO (l.take k)) (l.take k)).length = k * 3 := by rw [opensC_len, List.length_take, Nat.min_eq_left (by omega)]
  generalize l[k] = o at *
  rw [htk] at hpk1
  generalize l.take k = L at *
  have c1 := ownO_fun o hx1 hx2
  have hv0 : vtO L o.pid.toNat = 0 := by
    unfold vtO
    rw [List.find?_eq_none.2 (fun x hx => by have := hno x hx; simp; omega)]
  have hb0 : batsOf L o.pid.toNat = [] := by
    unfold batsOf
    rw [List.find?_eq_none.2 (fun x hx => by have := hno x hx; simp; omega)]
  have hbs := batsOf_snoc L o hno
  have hvs := vtO_snoc L o hno
  have hos := opensC_snoc L o hno hpk1
  obtain ⟨q, hq⟩ : ∃ q, q = o.pid.toNat := ⟨_, rfl⟩
  have hqp : o.pid = (q : Int) := by omega
  rw [← hq] at hv0 hb0 hos
  have hq2 : q = 1 ∨ q = 2 ∨ q = 3 ∨ q = 4 ∨ q = 5 ∨ q = 6 ∨ q = 7 ∨ q = 8 := by omega
  have hq0 : ∀ j : Nat, o.pid = (j : Int) ↔ q = j := fun j => by rw [hqp]; exact Int.ofNat_inj
  simp only [hq0] at hbs hvs
  have hos' : opensC (vtO L) L ++ [.d (int o.pid), .d (int o.epoch), .mt (10 + q) (1 + o.bats.length)] = opensC (vtO (L ++ [o])) (L ++ [o]) := hos.symm
  have hkk : 1 + k + 1 = 1 + (k + 1) := by omega
  have hsz : ((opensC (vtO L) L).length + 3) * 40 ≤ 140737488355328 := by rw [hlen]; omega
  have hren : ∀ e v, HE.ren (fun x => if x = 21 then 10 + q else if x = 10 + q then 21 else x) (.mrow e 3 v (opensC (vtO L) L ++ [.d (int o.pid), .d (int o.epoch), .mt 21 (1 + o.bats.length)])) = .mrow e 3 v (opensC (vtO (L ++ [o])) (L ++ [o])) := fun e v => by
    show HE.mrow e 3 v (List.map _ _) = _
    rw [List.map_append, opensC_renOf _ _ L (fun x hx => by
      have h1 := hno x hx
      have h2 := hpk x hx
      have e1 : ¬ 10 + x.pid.toNat = 21 := by omega
      have e2 : ¬ 10 + x.pid.toNat = 10 + q := by omega
      simp only [e1, e2, if_false]), hos]
    rfl
  clear hos hq hqp hq0 hno hx3 hmem hpk hp hb hr
  (refine gO (And.intro @GRUN (And.intro d1 (And.intro hge (@OpenD.dv.eq_1)))) ?_; try (with_reducible exact True.intro))
  (first | refine Wp.sregG ?_ | refine Wp.regG ?_ | (refine Wp.seq ?_; first | refine Wp.sregG ?_ | refine Wp.regG ?_))
  (refine GRun.at 3 (fun K hK => ?_); (refine rO (@GRUN) ?_; try (with_reducible exact True.intro)); refine hK _ ?_; clear hK K)
  (refine GRun.call (c1) [] 1010 rfl rfl ?_ ?_; (focus ((refine rOs (And.intro @HEREN (And.intro @GRUN (And.intro @batsC_ren (And.intro @OpenD.dv.eq_1 (And.intro @List.map_cons.{0,0} (@List.map_nil.{0,0})))))) ?_; try (with_reducible exact True.intro)); done)))
  refine GRun.rowNew (id := 50) (cs := [.d (int o.pid), .d (int o.epoch), .mt 21 (1 + o.bats.length)]) rfl esize_opens ⟨by decide, by decide, by decide, rfl, rfl⟩ ⟨by (refine rO (@GRUN) ?_; try (with_reducible exact True.intro)), by (refine rO (@GRUN) ?_; try (with_reducible exact True.intro)), by (refine rOs (And.intro @GRUN (And.intro @List.map_cons.{0,0} (@List.map_nil.{0,0}))) ?_; try (with_reducible exact True.intro)), rfl, by (refine rOt (And.intro @GRUN (And.intro @putB.eq_1 (@putB.eq_2))) ?_; try (with_reducible exact True.intro)), rfl⟩ ?_
  refine GRun.mappRow (cs := opensC (vtO L) L) (cs2 := [.d (int o.pid), .d (int o.epoch), .mt 21 (1 + o.bats.length)]) (τ := 10) (n := 1 + k) (τ2 := 50) (n2 := 1) rfl esize_opens ⟨rfl, by decide⟩ ⟨by (refine rO (@GRUN) ?_; try (with_reducible exact True.intro)), by (refine rO (@GRUN) ?_; try (with_reducible exact True.intro)), by (refine rO (@GRUN) ?_; try (with_reducible exact True.intro)), by (refine rO (@GRUN) ?_; try (with_reducible exact True.intro)), by (refine rOt (And.intro @GRUN (And.intro @putB.eq_1 (@putB.eq_2))) ?_; try (with_reducible exact True.intro)), by (refine rO (@GRUN) ?_; try (with_reducible exact True.intro)), by simp, by simpa using hsz, rfl⟩ ?_
  (refine GRun.done (fun K hK => ?_); (refine rOs (And.intro @GRUN (And.intro @putB.eq_1 (And.intro @putB.eq_2 (And.intro @HEREN (And.intro @batsC_ren (And.intro @List.map_cons.{0,0} (@List.map_nil.{0,0}))))))) ?_; try (with_reducible exact True.intro)); refine hK _ ?_; clear hK K)
  (refine gO (@GRUN) ?_; try (with_reducible exact True.intro))
  refine ⟨k + 1, hkl, by omega, ?_⟩
  rw [htk]
  refine Weak.trans (Weak.ren (swp [(21, 10 + q)]) (swp_swp (by simp [swOk, swNo]; omega)) ⟨rfl, rfl⟩) (Weak.keep rfl (okIds_eB hpk1 rfl) ?_)
  rcases hq2 with rfl | rfl | rfl | rfl | rfl | rfl | rfl | rfl <;> (
    simp only [Nat.reduceAdd] at hren
    (refine rOs (And.intro @GRUN (And.intro hwk (And.intro hos' (And.intro hkk (And.intro hvs (And.intro hbs (And.intro @batsC_ren (And.intro hren (And.intro @Hp.ren.eq_1 (And.intro @List.map_append.{0,0} (And.intro @List.map_cons.{0,0} (@List.map_nil.{0,0})))))))))))) ?_; try (with_reducible exact True.intro)))
end Go.Proofs.YtafipkbffboebaaGreatDoor
