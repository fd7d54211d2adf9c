/- The abstract machine (RhF, RhG, RhH, RhI, RhJ). -/
import Derived.Test.YtafipkbffboebaaDoorRhMa
import Derived.Test.YtafipkbffboebaaDoorCpD
namespace Go.Proofs.YtafipkbffboebaaDoor
open Go Go.RowKit
set_option maxHeartbeats 16000000
set_option maxRecDepth 100000
set_option linter.unusedVariables false
set_option linter.unusedSimpArgs false
def dropBad (p : PartD) (e : EntD) : Bool := (findF p.prods e.b.pid).2 && (decide (e.b.epoch < (findF p.prods e.b.pid).1.epoch) || (e.b.epoch == (findF p.prods e.b.pid).1.epoch && decide (e.next < (findF p.prods e.b.pid).1.next)))
def dropP (p : PartD) (e : EntD) : PartD := { p with prods := setF p.prods ⟨e.b.pid, e.b.epoch, e.next, []⟩ }
def droppedS (s : RefS) (e : EntD) : Bool × RefS := if dropBad s.p e then (false, s) else (true, ⟨dropP s.p e, (s.away e.b.pid).w, (s.away e.b.pid).v⟩)
theorem dropped_fun14 (s : RefS) (e : EntD) (hsm : Sm14 s.p s.w) : FunG Tryd.prog 47 [.c (.own 0 0), entV e] hK (ofH (hM s)) (.c (.d (boo (droppedS s e).1))) hK (ofH (hM (droppedS s e).2)) := by
  have hqs : SmallL s.p.prods := ⟨by have := hsm.prods; omega, fun x hx => by have := hsm.seen x hx; omega⟩
  have hwts := hsm.wts
  have c1 := refFind_fun10 s.p.prods e.b.pid hqs
  have c2 := (refSet_fun10 s.p.prods ⟨e.b.pid, e.b.epoch, e.next, []⟩ hqs).args (xs := [.lst 4 (s.p.prods.map ProdD.dv), .agg [int e.b.pid, int e.b.epoch, int e.next, nilV]]) (.cons (.refl _) (.cons (.agg (.cons (.refl _) (.cons (.refl _) (.cons (.refl _) (.cons (.nil 3) .nil))))) .nil))
  unfold droppedS
  obtain ⟨B, hB⟩ : ∃ B, B = dropBad s.p e := ⟨_, rfl⟩
  rw [← hB]
  unfold dropBad at hB
  unfold dropP
  generalize hq : (findF s.p.prods e.b.pid).1 = q at *
  generalize (findF s.p.prods e.b.pid).2 = is at *
  generalize setF s.p.prods ⟨e.b.pid, e.b.epoch, e.next, []⟩ = np at *
  simp only [ProdD.dv] at c1
  refine FunG.of_bodyH rfl rfl Tryd.func47 rfl rfl Tryd.ntmps47 Tryd.results47 (Nat.le_of_ble_eq_true rfl) (okG_h rfl rfl) ?_
  (refine gO (And.intro @GRUN (And.intro @EntD.dv.eq_1 (And.intro @List.map_cons.{0,0} (@List.map_nil.{0,0})))) ?_; try (with_reducible exact True.intro))
  (first | refine Wp.sto 42 (vb B) ?_ ?_ | refine Wp.rtoS 42 (vb B) ?_ ?_ | (refine Wp.seq ?_; first | refine Wp.sto 42 (vb B) ?_ ?_ | refine Wp.rtoS 42 (vb B) ?_ ?_))
  · rw [hB]
    cases is <;> cases q1 : decide (e.b.epoch < q.epoch) <;> cases q2 : (e.b.epoch == q.epoch) <;> cases q3 : decide (e.next < q.next) <;> (((refine rO (And.intro @EntD.dv.eq_1 (And.intro q1 (And.intro q2 (q3)))) ?_; try (with_reducible exact True.intro)); (repeat (refine bcf (by assumption) ?_; (refine rO (And.intro @EntD.dv.eq_1 (And.intro q1 (And.intro q2 (q3)))) ?_; try (with_reducible exact True.intro))))); all_goals (exact (show okTr _ _ = true by kernel_rfl)))
  cases B with
  | true =>
    (refine gO (@GRUN) ?_; try (with_reducible exact True.intro))
    refine bodyQG.ret ?_
    (refine rO (And.intro @GRUN (And.intro @endB.eq_1 (And.intro @endB.eq_2 (@if_true.{1})))) ?_; try (with_reducible exact True.intro))
  | false =>
  rw [if_neg Bool.false_ne_true]
  cases hk : wOk s.w e.b.pid with
  | false =>
    have c3 := awayNo_fun s e.b.pid (by omega) hk
    have ha : s.away e.b.pid = s := by unfold RefS.away; rw [hk]; rfl
    rw [ha]
    (refine gO (And.intro @GRUN (And.intro @EntD.dv.eq_1 (And.intro @List.map_cons.{0,0} (@List.map_nil.{0,0})))) ?_; try (with_reducible exact True.intro))
    (first | refine Wp.sregG ?_ | refine Wp.regG ?_ | (refine Wp.seq ?_; first | refine Wp.sregG ?_ | refine Wp.regG ?_))
    (refine GRun.at 4 (fun K hK => ?_); (refine rO (And.intro @GRUN (And.intro @EntD.dv.eq_1 (And.intro @List.map_cons.{0,0} (@List.map_nil.{0,0})))) ?_; try (with_reducible exact True.intro)); refine hK _ ?_; clear hK K)
    (refine GRun.call (c3) [] 1010 rfl rfl ?_ ?_; (focus ((refine rOs (And.intro @HEREN (And.intro @GRUN (And.intro @HE_ren_id (And.intro @EntD.dv.eq_1 (And.intro @List.map_cons.{0,0} (@List.map_nil.{0,0})))))) ?_; try (with_reducible exact True.intro)); done)))
    (refine GRun.done (fun K hK => ?_); (refine rOt (And.intro @GRUN (And.intro @putB.eq_1 (And.intro @putB.eq_2 (And.intro @HE_ren_id (And.intro @SV_ren_id (And.intro @List.map_cons.{0,0} (@List.map_nil.{0,0}))))))) ?_; try (with_reducible exact True.intro)); refine hK _ ?_; clear hK K)
    (refine gO (And.intro @GRUN (And.intro @EntD.dv.eq_1 (And.intro @List.map_cons.{0,0} (@List.map_nil.{0,0})))) ?_; try (with_reducible exact True.intro))
    refine bodyQG.ret ?_
    (refine rO (And.intro @GRUN (And.intro @endB.eq_1 (@endB.eq_2))) ?_; try (with_reducible exact True.intro))
  | true =>
    have c3 := awayYes_fun s e.b.pid (by omega) hk
    have ha : s.away e.b.pid = ⟨s.p, s.w.eraseIdx (wI s.w e.b.pid), s.v + 1⟩ := by unfold RefS.away; rw [hk]; rfl
    rw [ha]
    (refine gO (And.intro @GRUN (And.intro @EntD.dv.eq_1 (And.intro @List.map_cons.{0,0} (@List.map_nil.{0,0})))) ?_; try (with_reducible exact True.intro))
    (first | refine Wp.sregG ?_ | refine Wp.regG ?_ | (refine Wp.seq ?_; first | refine Wp.sregG ?_ | refine Wp.regG ?_))
    (refine GRun.at 4 (fun K hK => ?_); (refine rO (And.intro @GRUN (And.intro @EntD.dv.eq_1 (And.intro @List.map_cons.{0,0} (@List.map_nil.{0,0})))) ?_; try (with_reducible exact True.intro)); refine hK _ ?_; clear hK K)
    (refine GRun.call (c3) [] 1010 rfl rfl ?_ ?_; (focus ((refine rOs (And.intro @HEREN (And.intro @GRUN (And.intro @HE_ren_id (And.intro @EntD.dv.eq_1 (And.intro @List.map_cons.{0,0} (@List.map_nil.{0,0})))))) ?_; try (with_reducible exact True.intro)); done)))
    (refine GRun.done (fun K hK => ?_); (refine rOt (And.intro @GRUN (And.intro @putB.eq_1 (And.intro @putB.eq_2 (And.intro @HE_ren_id (And.intro @SV_ren_id (And.intro @List.map_cons.{0,0} (@List.map_nil.{0,0}))))))) ?_; try (with_reducible exact True.intro)); refine hK _ ?_; clear hK K)
    (refine gO (And.intro @GRUN (And.intro @EntD.dv.eq_1 (And.intro @List.map_cons.{0,0} (@List.map_nil.{0,0})))) ?_; try (with_reducible exact True.intro))
    refine bodyQG.ret ?_
    (refine rO (And.intro @GRUN (And.intro @endB.eq_1 (@endB.eq_2))) ?_; try (with_reducible exact True.intro))
theorem bothMark_no (p : PartD) (b : BatD) (yes : Bool) (next off : Int) (row : RowD) (prod : ProdD) :
    Fun Tryd.prog 48 [.agg p.dv, .agg (EntD.mk 1 b yes next off row prod).dv] (.tup [.agg p.dv, boo false]) := by
  (refine Fun.of_bodyW Tryd.func48 rfl rfl Tryd.ntmps48 Tryd.results48 (by simp) ?_)
  (refine gO (And.intro @PartD.dv.eq_1 (@EntD.dv.eq_1)) ?_; try (with_reducible exact True.intro))
  (refine rO (@PartD.dv.eq_1) ?_; try (with_reducible exact True.intro))
  exact ⟨_, rfl, fun K v h => h⟩
theorem refBothAll (p : PartD) (e : EntD) (w : Wts) (hsm : Sm14 p w) (ho : e.kind = 1 ∨ e.kind = 2 ∨ e.kind = 5 ∨ e.kind = 6) :
    ∃ q ok, Fun Tryd.prog 48 [.agg p.dv, .agg e.dv] (.tup [.agg q.dv, boo ok]) ∧ ((ok = true ∧ bothR p e = some q) ∨ (ok = false ∧ bothR p e = none ∧ q = p)) := by
  have hfin := hsm.fin
  have hop := hsm.opens
  have hrw := hsm.rows
  have hqs : SmallL p.prods := ⟨by have := hsm.prods; omega, fun x hx => by have := hsm.seen x hx; omega⟩
  obtain ⟨k, b, yes, next, off, row, prod⟩ := e
  dsimp only at ho
  rcases ho with rfl | rfl | rfl | rfl
  · exact ⟨p, false, bothMark_no p b yes next off row prod, .inr ⟨rfl, rfl, rfl⟩⟩
  · show ∃ q ok, _ ∧ ((ok = true ∧ (if off < p.start ∨ p.fin < off then none else some { p with start := off, rows := keepF (cutP off) p.rows }) = some q) ∨ (ok = false ∧ (if off < p.start ∨ p.fin < off then none else some { p with start := off, rows := keepF (cutP off) p.rows }) = none ∧ q = p))
    by_cases hc : off < p.start ∨ p.fin < off
    · rw [if_pos hc]
      exact ⟨p, false, bothCut_no p b yes next off row prod hc, .inr ⟨rfl, rfl, rfl⟩⟩
    · rw [if_neg hc]
      exact ⟨_, true, bothCut_fun p b yes next off row prod (by omega) hc, .inl ⟨rfl, rfl⟩⟩
  · exact ⟨_, true, bothRow_fun p b yes next off row prod (by omega) (by omega), .inl ⟨rfl, rfl⟩⟩
  · show ∃ q ok, _ ∧ ((ok = true ∧ (if openB p.opens prod.pid = true then none else some { p with prods := setF p.prods prod }) = some q) ∨ (ok = false ∧ (if openB p.opens prod.pid = true then none else some { p with prods := setF p.prods prod }) = none ∧ q = p))
    cases hob : openB p.opens prod.pid with
    | true => exact ⟨p, false, bothState_no p b yes next off row prod (by omega) hob, .inr ⟨rfl, rfl, rfl⟩⟩
    | false => exact ⟨_, true, bothState_fun p b yes next off row prod (by omega) hqs hob, .inl ⟨rfl, rfl⟩⟩
def nextH (s : RefS) (e : EntD) : Bool × RefS :=
  if e.kind = 0 then (match plainR s.p e.b with
    | some q => (true, ⟨q, s.w, s.v⟩)
    | none => (false, s))
  else if e.kind = 3 then copiedS s e
  else if e.kind = 4 then droppedS s e
  else match bothR s.p e with
    | some q => (true, ⟨q, s.w, s.v⟩)
    | none => (false, s)
theorem next_fun14 (s : RefS) (e : EntD) (hsm : Sm14 s.p s.w) (hb : e.b.recs.length ≤ 4) (hk : 0 ≤ e.kind ∧ e.kind < 7) : FunG Tryd.prog 26 [.c (.own 0 0), entV e] hK (ofH (hM s)) (.c (.d (boo (nextH s e).1))) hK (ofH (hM (nextH s e).2)) := by
  have hqs : SmallL s.p.prods := ⟨by have := hsm.prods; omega, fun x hx => by have := hsm.seen x hx; omega⟩
  have hfin := hsm.fin
  have hop := hsm.opens
  have hrw := hsm.rows
  have hbV : entV e = .agg (e.dv.map CV.d) := rfl
  unfold nextH
  refine FunG.of_bodyH rfl rfl Tryd.func26 rfl rfl Tryd.ntmps26 Tryd.results26 (Nat.le_of_ble_eq_true rfl) (okG_h rfl rfl) ?_
  by_cases k0 : e.kind = 0
  · have e0 : (e.kind == 0) = true := by simpa using k0
    have c1 := refPlain_fun s.p e.b (by omega) hqs (by omega) (by omega) (by omega)
    rw [if_pos k0]
    unfold plainR
    by_cases hc : openB s.p.opens e.b.pid = true ∨ e.b.txn = true ∨ (takeF s.p.prods e.b s.p.fin).2 ≠ 0
    · rw [if_pos hc, decide_eq_false (fun h => h hc)] at c1
      rw [if_pos hc]
      simp only [PartD.dv, BatD.dv] at c1
      (refine gO (And.intro @GRUN (And.intro @EntD.dv.eq_1 (And.intro e0 (And.intro @List.map_cons.{0,0} (@List.map_nil.{0,0}))))) ?_; try (with_reducible exact True.intro))
      refine bodyQG.ret ?_
      (refine rO (And.intro @GRUN (And.intro @endB.eq_1 (@endB.eq_2))) ?_; try (with_reducible exact True.intro))
    · rw [if_neg hc, decide_eq_true hc] at c1
      rw [if_neg hc]
      simp only [PartD.dv, BatD.dv] at c1
      (refine gO (And.intro @GRUN (And.intro @EntD.dv.eq_1 (And.intro e0 (And.intro @List.map_cons.{0,0} (@List.map_nil.{0,0}))))) ?_; try (with_reducible exact True.intro))
      refine bodyQG.ret ?_
      (refine rO (And.intro @GRUN (And.intro @endB.eq_1 (@endB.eq_2))) ?_; try (with_reducible exact True.intro))
  have e0 : (e.kind == 0) = false := by simpa using k0
  rw [if_neg k0]
  by_cases k3 : e.kind = 3
  · have e3 : (e.kind == 3) = true := by simpa using k3
    have c1 := copied_fun14 s e hsm hb
    rw [if_pos k3]
    (refine gO (And.intro @GRUN (And.intro @EntD.dv.eq_1 (And.intro e0 (And.intro e3 (And.intro @List.map_cons.{0,0} (@List.map_nil.{0,0})))))) ?_; try (with_reducible exact True.intro))
    (first | refine Wp.sregG ?_ | refine Wp.regG ?_ | (refine Wp.seq ?_; first | refine Wp.sregG ?_ | refine Wp.regG ?_))
    (refine GRun.at 2 (fun K hK => ?_); (refine rO (And.intro @GRUN (And.intro @EntD.dv.eq_1 (And.intro @List.map_cons.{0,0} (@List.map_nil.{0,0})))) ?_; try (with_reducible exact True.intro)); refine hK _ ?_; clear hK K)
    (refine GRun.call (c1) [] 1010 rfl rfl ?_ ?_; (focus ((refine rOs (And.intro @HEREN (And.intro @GRUN (And.intro @HE_ren_id (And.intro hbV (And.intro @EntD.dv.eq_1 (And.intro @List.map_cons.{0,0} (@List.map_nil.{0,0}))))))) ?_; try (with_reducible exact True.intro)); done)))
    (refine GRun.done (fun K hK => ?_); (refine rOt (And.intro @GRUN (And.intro @putB.eq_1 (And.intro @putB.eq_2 (And.intro @HE_ren_id (And.intro @SV_ren_id (And.intro @List.map_cons.{0,0} (@List.map_nil.{0,0}))))))) ?_; try (with_reducible exact True.intro)); refine hK _ ?_; clear hK K)
    (refine gO (@GRUN) ?_; try (with_reducible exact True.intro))
    refine bodyQG.ret ?_
    (refine rO (And.intro @GRUN (And.intro @endB.eq_1 (@endB.eq_2))) ?_; try (with_reducible exact True.intro))
  have e3 : (e.kind == 3) = false := by simpa using k3
  rw [if_neg k3]
  by_cases k4 : e.kind = 4
  · have e4 : (e.kind == 4) = true := by simpa using k4
    have c1 := dropped_fun14 s e hsm
    rw [if_pos k4]
    (refine gO (And.intro @GRUN (And.intro @EntD.dv.eq_1 (And.intro e0 (And.intro e3 (And.intro e4 (And.intro @List.map_cons.{0,0} (@List.map_nil.{0,0}))))))) ?_; try (with_reducible exact True.intro))
    (first | refine Wp.sregG ?_ | refine Wp.regG ?_ | (refine Wp.seq ?_; first | refine Wp.sregG ?_ | refine Wp.regG ?_))
    (refine GRun.at 2 (fun K hK => ?_); (refine rO (And.intro @GRUN (And.intro @EntD.dv.eq_1 (And.intro @List.map_cons.{0,0} (@List.map_nil.{0,0})))) ?_; try (with_reducible exact True.intro)); refine hK _ ?_; clear hK K)
    (refine GRun.call (c1) [] 1010 rfl rfl ?_ ?_; (focus ((refine rOs (And.intro @HEREN (And.intro @GRUN (And.intro @HE_ren_id (And.intro hbV (And.intro @EntD.dv.eq_1 (And.intro @List.map_cons.{0,0} (@List.map_nil.{0,0}))))))) ?_; try (with_reducible exact True.intro)); done)))
    (refine GRun.done (fun K hK => ?_); (refine rOt (And.intro @GRUN (And.intro @putB.eq_1 (And.intro @putB.eq_2 (And.intro @HE_ren_id (And.intro @SV_ren_id (And.intro @List.map_cons.{0,0} (@List.map_nil.{0,0}))))))) ?_; try (with_reducible exact True.intro)); refine hK _ ?_; clear hK K)
    (refine gO (@GRUN) ?_; try (with_reducible exact True.intro))
    refine bodyQG.ret ?_
    (refine rO (And.intro @GRUN (And.intro @endB.eq_1 (@endB.eq_2))) ?_; try (with_reducible exact True.intro))
  have e4 : (e.kind == 4) = false := by simpa using k4
  rw [if_neg k4]
  obtain ⟨q, ok, c1, hcase⟩ := refBothAll s.p e s.w hsm (by omega)
  simp only [PartD.dv, EntD.dv] at c1
  (refine gO (And.intro @GRUN (And.intro @EntD.dv.eq_1 (And.intro e0 (And.intro e3 (And.intro e4 (And.intro @List.map_cons.{0,0} (@List.map_nil.{0,0}))))))) ?_; try (with_reducible exact True.intro))
  rcases hcase with ⟨rfl, hq⟩ | ⟨rfl, hq, rfl⟩
  · rw [hq]
    refine bodyQG.ret ?_
    (refine rO (And.intro @GRUN (And.intro @endB.eq_1 (@endB.eq_2))) ?_; try (with_reducible exact True.intro))
  · rw [hq]
    refine bodyQG.ret ?_
    (refine rO (And.intro @GRUN (And.intro @endB.eq_1 (@endB.eq_2))) ?_; try (with_reducible exact True.intro))
end Go.Proofs.YtafipkbffboebaaDoor
namespace Go.Proofs.YtafipkbffboebaaDoor
open Go Go.RowKit
set_option maxHeartbeats 16000000
set_option maxRecDepth 100000
set_option linter.unusedVariables false
set_option linter.unusedSimpArgs false
structure SideD where
  pid : Int
  l : List EntD
abbrev SideD.dv (s : SideD) : List D := [int s.pid, .lst 18 (s.l.map EntD.dv)]
theorem refPutAll (p : PartD) (b : BatD) (hop : p.opens.length ≤ 100000) :
    ∃ q ok, Fun Tryd.prog 50 [.agg p.dv, .agg b.dv] (.tup [.agg q.dv, boo ok]) ∧ ((ok = true ∧ putR p b = some q) ∨ (ok = false ∧ putR p b = none ∧ q = p)) := by
  unfold putR
  cases hob : openB p.opens b.pid with
  | false =>
    have c2 := refPutNew_fun p b (by omega) hob
    exact ⟨_, true, c2, .inl ⟨rfl, rfl⟩⟩
  | true =>
    obtain ⟨o, hi, hpid⟩ := openB_get hob
    simp only [hi]
    by_cases hx : o.epoch ≠ b.epoch ∨ 8 ≤ o.bats.length
    · have c2 := refPutNo_fun p b (by omega) hob o hi hx
      rw [if_pos hx]
      exact ⟨_, false, c2, .inr ⟨rfl, rfl, rfl⟩⟩
    · have hep : o.epoch = b.epoch := Decidable.not_not.1 (fun h => hx (.inl h))
      have hbl : o.bats.length < 8 := by
        rcases Nat.lt_or_ge o.bats.length 8 with h | h
        · exact h
        · exact absurd (.inr h) hx
      have c2 := refPutAdd_fun p b (by omega) hob o hi hep hbl
      rw [if_neg hx]
      exact ⟨_, true, c2, .inl ⟨rfl, rfl⟩⟩
def sideBad (s : SideD) (x : EntD) : Bool := !okKind x || (x.kind != 0 || (!x.b.txn || (x.b.pid != s.pid || match s.l with
  | [] => false
  | y :: _ => x.b.epoch != y.b.epoch)))
def sideT (s : SideD) (p : PartD) (x : EntD) : Option PartD := if sideBad s x then none else txnR p x.b
def sideR (s : SideD) : PartD → List EntD → Bool × PartD
  | p, [] => (true, p)
  | p, x :: l => match sideT s p x with
    | none => (false, p)
    | some q => sideR s q l
theorem sideR_app (s : SideD) : ∀ (l : List EntD) (p : PartD) (r : List EntD), sideR s p (l ++ r) = if (sideR s p l).1 then sideR s (sideR s p l).2 r else sideR s p l
  | [], p, r => rfl
  | x :: l, p, r => by
    show (match sideT s p x with | none => (false, p) | some q => sideR s q (l ++ r)) = _
    have e : sideR s p (x :: l) = match sideT s p x with | none => (false, p) | some q => sideR s q l := rfl
    rw [e]
    cases sideT s p x with
    | none => rfl
    | some q => exact sideR_app s l q r
theorem sideR_snoc {s : SideD} {p : PartD} {l : List EntD} {k : Nat} (hk : k < l.length) (h : (sideR s p (l.take k)).1 = true) : sideR s p (l.take (k + 1)) = match sideT s (sideR s p (l.take k)).2 l[k] with
    | none => (false, (sideR s p (l.take k)).2)
    | some q => (true, q) := by
  rw [List.take_succ_eq_append_getElem hk, sideR_app, if_pos h]
  rfl
theorem sideR_stop {s : SideD} {p : PartD} {l : List EntD} {k : Nat} (h : (sideR s p (l.take k)).1 = false) : sideR s p l = sideR s p (l.take k) := by
  conv => lhs; rw [← List.take_append_drop k l]
  rw [sideR_app, if_neg (by rw [h]; simp)]
/-- What holds of a part on its way. -/
structure Grow14 (p q : PartD) (k : Nat) : Prop where
  fin : q.fin = p.fin
  start : q.start = p.start
  rows : q.rows = p.rows
  opens : q.opens.length ≤ p.opens.length + k
  prods : q.prods.length ≤ p.prods.length + k
  seen : ∀ x ∈ q.prods, x.seen.length ≤ 100
theorem txnR_grow {p q r : PartD} {b : BatD} {k : Nat} (h : Grow14 p q k) (ht : txnR q b = some r) : Grow14 p r (k + 1) := by
  unfold txnR at ht
  split at ht
  · cases ht
  split at ht
  rotate_left
  · cases ht
  rename_i u hu
  cases ht
  obtain ⟨t1, t2⟩ := take_prods (k := q.prods.length) b (-1) (Nat.le_refl _) h.seen
  have hprods := h.prods
  have hopens := h.opens
  have hfin := h.fin
  have hstart := h.start
  have hrows := h.rows
  unfold putR at hu
  split at hu
  · split at hu
    · cases hu
    · cases hu
      refine ⟨hfin, hstart, hrows, ?_, ?_, t2⟩
      · show (q.opens.take _ ++ _ :: q.opens.drop _).length ≤ _
        rw [List.length_append, List.length_cons, List.length_take, List.length_drop]; omega
      · show (takeF q.prods b (-1)).1.length ≤ _; omega
  · cases hu
    refine ⟨hfin, hstart, hrows, ?_, ?_, t2⟩
    · show (q.opens.take _ ++ _ :: q.opens.drop _).length ≤ _
      rw [List.length_append, List.length_cons, List.length_take, List.length_drop]; omega
    · show (takeF q.prods b (-1)).1.length ≤ _; omega
theorem sideR_grow (s : SideD) : ∀ (l : List EntD) (p q : PartD) (k : Nat), Grow14 p q k → Grow14 p (sideR s q l).2 (k + l.length)
  | [], p, q, k, h => h
  | x :: l, p, q, k, h => by
    have e : sideR s q (x :: l) = match sideT s q x with | none => (false, q) | some r => sideR s r l := rfl
    rw [e]
    cases hs : sideT s q x with
    | none => exact ⟨h.fin, h.start, h.rows, by have := h.opens; rw [List.length_cons]; dsimp only; omega, by have := h.prods; rw [List.length_cons]; dsimp only; omega, h.seen⟩
    | some r =>
      unfold sideT at hs
      split at hs
      · cases hs
      have := sideR_grow s l p r (k + 1) (txnR_grow h hs)
      rw [List.length_cons, show k + (l.length + 1) = k + 1 + l.length by omega]
      exact this
def sideS (s : RefS) (x : SideD) : Bool × RefS :=
  if x.l.length = 0 ∨ 8 < x.l.length then (false, s) else ((sideR x s.p x.l).1, ⟨(sideR x s.p x.l).2, s.w, s.v⟩)
abbrev hMs (s : RefS) (x : SideD) : List (Nat × HE) :=
  [(0, .cells [.d (int s.p.start), .d (int s.p.fin), .d (.lst 5 (s.p.rows.map RowD.dv)), .d (.lst 3 (s.p.opens.map OpenD.dv)), .d (.lst 4 (s.p.prods.map ProdD.dv)), .mt 9 s.v]),
   (9, .mrow 80 2 s.v (waitsC s.w)), (1000, .cells [.d (int x.pid), .d (.lst 18 (x.l.map EntD.dv))])]
theorem okIds_hs {L : List (Nat × SV)} {s : RefS} {x : SideD} (hL : (L.all fun p => p.2.ids.all fun i => [0, 9, 1000].contains i) = true) : (okIds L (hMs s x) && keepsLent ⟨[0, 9], [], false, none⟩ (hMs s x)) = true := by
  have e1 : (hMs s x).map (·.1) = [0, 9, 1000] := rfl
  unfold okIds
  rw [e1, hL]
  simp only [List.all_cons, List.all_nil, HE.ids, waitsC, ids_plain, Bool.and_true, Bool.true_and]
  rfl
theorem side_fun14 (s : RefS) (x : SideD) (hsm : s.p.opens.length ≤ 50000 ∧ s.p.prods.length ≤ 50000 ∧ ∀ q ∈ s.p.prods, q.seen.length ≤ 100) (hr : ∀ e ∈ x.l, e.b.recs.length ≤ 100000 ∧ e.prod.seen.length ≤ 100000) : FunG Tryd.prog 27 [.c (.own 0 0), .agg [.d (int x.pid), .d (.lst 18 (x.l.map EntD.dv))]] hK (ofH (hM s)) (.c (.d (boo (sideS s x).1))) hK (ofH (hM (sideS s x).2)) := by
  unfold sideS
  refine FunG.of_bodyH rfl rfl Tryd.func27 rfl rfl Tryd.ntmps27 Tryd.results27 (Nat.le_of_ble_eq_true rfl) (okG_h rfl rfl) ?_
  by_cases h0 : x.l.length = 0
  · have d0 : ((x.l.length : Int) == 0) = true := by simp [h0]
    rw [if_pos (.inl h0)]
    (refine gO (And.intro @GRUN (d0)) ?_; try (with_reducible exact True.intro))
    refine bodyQG.ret ?_
    (refine rO (And.intro @GRUN (And.intro @endB.eq_1 (@endB.eq_2))) ?_; try (with_reducible exact True.intro))
  have d0 : ((x.l.length : Int) == 0) = false := by simp [h0]
  by_cases h8 : 8 < x.l.length
  · have d8 : decide ((8 : Int) < (x.l.length : Int)) = true := decide_eq_true (by omega)
    rw [if_pos (.inr h8)]
    (refine gO (And.intro @GRUN (And.intro d0 (d8))) ?_; try (with_reducible exact True.intro))
    refine bodyQG.ret ?_
    (refine rO (And.intro @GRUN (And.intro @endB.eq_1 (@endB.eq_2))) ?_; try (with_reducible exact True.intro))
  have d8 : decide ((8 : Int) < (x.l.length : Int)) = false := decide_eq_false (by omega)
  rw [if_neg (by omega)]
  (refine gO (And.intro @GRUN (And.intro d0 (d8))) ?_; try (with_reducible exact True.intro))
  refine Wp.loop (fun k : Nat => ⟨ofL [(0, .c (.own 0 0)), (3, .c (.own 1000 0)), (5, vi .i64 k)], ofH (hMs ⟨(sideR x s.p (x.l.take k)).2, s.w, s.v⟩ x), 1010, 99, ⟨[0, 9], [], false, none⟩⟩) (fun k => k ≤ x.l.length ∧ (sideR x s.p (x.l.take k)).1 = true) (fun k => x.l.length - k) 0 ⟨Nat.zero_le _, rfl⟩ ?_ ?_
  · refine Weak.keep rfl (okIds_hs rfl) ?_
    simp (maxSteps := 2000000) (disch := omega) only [RUN, TY, RUNB, aop, ofV, SV.ofD, aLd, aSt, aFd, aPt, aLen, aSl, aIf, aMF, aXt, aBu, aCX, aCL, aCy, CV.exact, CV.lstOf, CV.lenOf, CV.one, D.one, Value.oneCell', CV.toD0, iFl, oWn, pLk, nD0, rD0, bQ0, tQ0, kQ0, reduceCtorEq, reduceIte, Nat.reduceBEq, Nat.reduceEqDiff, Nat.reduceAdd, Nat.reduceMul, Nat.reduceSub, Nat.reduceLT, Nat.reduceLeDiff, Nat.reduceBNe, Int.reduceLE, Int.reduceLT, Int.reduceBEq, Int.reduceBNe, Int.reduceEq, Int.reduceNeg, Int.reduceAdd, Int.reduceSub, Int.reduceToNat, forall_const, GRUN, sideR, List.take_zero]
  rintro k ⟨hk, htk⟩
  have hgr := sideR_grow x (x.l.take k) s.p s.p 0 ⟨rfl, rfl, rfl, Nat.le_refl _, Nat.le_refl _, hsm.2.2⟩
  have hlt9 : (x.l.take k).length ≤ 9 := by rw [List.length_take]; omega
  by_cases hkl : k < x.l.length
  rotate_left
  · have hke : k = x.l.length := by omega
    subst hke
    rw [List.take_length] at htk ⊢
    have d1 : decide ((x.l.length : Int) < (x.l.length : Int)) = false := by simp
    rw [htk]
    (refine gO (And.intro @GRUN (d1)) ?_; try (with_reducible exact True.intro))
    refine bodyQG.ret ?_
    (refine rO (And.intro @GRUN (And.intro @endB.eq_1 (@endB.eq_2))) ?_; try (with_reducible exact True.intro))
  have d1 : decide ((k : Int) < (x.l.length : Int)) = true := decide_eq_true (by omega)
  have hge : x.l[k]? = some x.l[k] := List.getElem?_eq_getElem hkl
  have hwk : IntKind.i64.wrap ((k : Int) + 1) = ((k + 1 : Nat) : Int) := by rw [wrap_i64 (by omega)]; rfl
  have hsn := sideR_snoc hkl htk
  have hst := fun h => sideR_stop (s := x) (p := s.p) (l := x.l) (k := k + 1) h
  obtain ⟨hr1, hr2⟩ := hr _ (List.getElem_mem hkl)
  obtain ⟨y, hg0, hfirst⟩ : ∃ y, x.l[0]? = some y ∧ ∀ e : EntD, sideBad x e = (!okKind e || (e.kind != 0 || (!e.b.txn || (e.b.pid != x.pid || (e.b.epoch != y.b.epoch))))) := by
    obtain ⟨sp, sl⟩ := x
    cases sl with
    | nil => simp at hkl
    | cons y r => exact ⟨y, rfl, fun e => rfl⟩
  generalize x.l[k] = e at *
  have hp1 := hgr.prods
  have hp2 := hgr.opens
  have hp3 := hgr.seen
  generalize (sideR x s.p (x.l.take k)).2 = q at *
  have hqs : SmallL q.prods := ⟨by omega, fun z hz => by have := hp3 z hz; omega⟩
  have c1 := refMay07_fun e ⟨hr1, hr2⟩ hr1 hr2
  have c2 := refTake_fun10 q.prods e.b (-1) hqs hr1
  obtain ⟨u, ok, c3, hcase⟩ := refPutAll q e.b (by omega)
  simp only [EntD.dv] at c1
  simp only [BatD.dv] at c2
  simp only [BatD.dv, PartD.dv] at c3
  (refine gO (And.intro @GRUN (And.intro d1 (And.intro hge (@EntD.dv.eq_1)))) ?_; try (with_reducible exact True.intro))
  (first | refine Wp.stoD 65 (vb (sideBad x e)) mixed ?_ ?_ | refine Wp.rtoDS 65 (vb (sideBad x e)) mixed ?_ ?_ | (refine Wp.seq ?_; first | refine Wp.stoD 65 (vb (sideBad x e)) mixed ?_ ?_ | refine Wp.rtoDS 65 (vb (sideBad x e)) mixed ?_ ?_))
  · rw [hfirst]
    cases q1 : okKind e with
    | false =>
      rw [q1] at c1
      ((refine rO (And.intro hge (And.intro hg0 (@EntD.dv.eq_1))) ?_; try (with_reducible exact True.intro)); (repeat (refine bcf (by assumption) ?_; (refine rO (And.intro hge (And.intro hg0 (@EntD.dv.eq_1))) ?_; try (with_reducible exact True.intro)))))
      all_goals (exact (show okTr _ _ = true by kernel_rfl))
    | true =>
    rw [q1] at c1
    cases q2 : (e.kind != 0) with
    | true =>
      ((refine rO (And.intro hge (And.intro hg0 (And.intro @EntD.dv.eq_1 (q2)))) ?_; try (with_reducible exact True.intro)); (repeat (refine bcf (by assumption) ?_; (refine rO (And.intro hge (And.intro hg0 (And.intro @EntD.dv.eq_1 (q2)))) ?_; try (with_reducible exact True.intro)))))
      all_goals (exact (show okTr _ _ = true by kernel_rfl))
    | false =>
    cases q3 : e.b.txn <;> (rw [q3] at c1) <;> cases q4 : (e.b.pid != x.pid) <;> cases q5 : (e.b.epoch != y.b.epoch) <;> (((refine rO (And.intro hge (And.intro hg0 (And.intro @EntD.dv.eq_1 (And.intro q2 (And.intro q3 (And.intro q4 (q5))))))) ?_; try (with_reducible exact True.intro)); (repeat (refine bcf (by assumption) ?_; (refine rO (And.intro hge (And.intro hg0 (And.intro @EntD.dv.eq_1 (And.intro q2 (And.intro q3 (And.intro q4 (q5))))))) ?_; try (with_reducible exact True.intro))))); all_goals (exact (show okTr _ _ = true by kernel_rfl)))
  cases hbd : sideBad x e with
  | true =>
    have ht : sideT x q e = none := by unfold sideT; rw [hbd]; rfl
    rw [ht] at hsn
    have hs2 := hst (by rw [hsn])
    rw [hsn] at hs2
    rw [hs2]
    (refine gO (@GRUN) ?_; try (with_reducible exact True.intro))
    refine bodyQG.ret ?_
    (refine rO (And.intro @GRUN (And.intro @endB.eq_1 (@endB.eq_2))) ?_; try (with_reducible exact True.intro))
  | false =>
  have ht : sideT x q e = txnR q e.b := by unfold sideT; rw [hbd]; rfl
  rw [ht] at hsn
  unfold txnR at hsn
  by_cases hz : (takeF q.prods e.b (-1)).2 ≠ 0
  · have dz : ((takeF q.prods e.b (-1)).2 != 0) = true := by simpa using hz
    rw [if_pos hz] at hsn
    have hs2 := hst (by rw [hsn])
    rw [hsn] at hs2
    rw [hs2]
    (refine gO (And.intro @GRUN (And.intro @EntD.dv.eq_1 (And.intro dz (And.intro @List.map_cons.{0,0} (@List.map_nil.{0,0}))))) ?_; try (with_reducible exact True.intro))
    refine bodyQG.ret ?_
    (refine rO (And.intro @GRUN (And.intro @endB.eq_1 (@endB.eq_2))) ?_; try (with_reducible exact True.intro))
  have dz : ((takeF q.prods e.b (-1)).2 != 0) = false := by simpa using hz
  rw [if_neg hz] at hsn
  rcases hcase with ⟨rfl, hq⟩ | ⟨rfl, hq, rfl⟩
  · rw [hq] at hsn
    (refine gO (And.intro @GRUN (And.intro @EntD.dv.eq_1 (And.intro dz (And.intro @List.map_cons.{0,0} (@List.map_nil.{0,0}))))) ?_; try (with_reducible exact True.intro))
    refine ⟨k + 1, ⟨hkl, by rw [hsn]⟩, by omega, ?_⟩
    rw [hsn]
    refine Weak.keep rfl (okIds_hs rfl) ?_
    (refine rO (And.intro @GRUN (hwk)) ?_; try (with_reducible exact True.intro))
  · rw [hq] at hsn
    have hs2 := hst (by rw [hsn])
    rw [hsn] at hs2
    rw [hs2]
    (refine gO (And.intro @GRUN (And.intro @EntD.dv.eq_1 (And.intro dz (And.intro @List.map_cons.{0,0} (@List.map_nil.{0,0}))))) ?_; try (with_reducible exact True.intro))
    refine bodyQG.ret ?_
    (refine rO (And.intro @GRUN (And.intro @endB.eq_1 (@endB.eq_2))) ?_; try (with_reducible exact True.intro))
end Go.Proofs.YtafipkbffboebaaDoor
namespace Go.Proofs.YtafipkbffboebaaDoor
open Go Go.RowKit
set_option maxHeartbeats 16000000
set_option maxRecDepth 100000
set_option linter.unusedVariables false
set_option linter.unusedSimpArgs false
def waitOk (p : PartD) (x : Int × List BatD) : Bool := openB p.opens x.1 && match p.opens[openI p.opens x.1]? with
  | some o => decide (x.2.length < o.bats.length) && decide (x.2 = o.bats.take x.2.length)
  | none => false
theorem take_eq_iff {α : Type} [DecidableEq α] (a b : List α) (k : Nat) (hk : k < a.length) (hb : k < b.length) (h : a.take k = b.take k) : a.take (k + 1) = b.take (k + 1) ↔ a[k] = b[k] := by
  rw [List.take_succ_eq_append_getElem hk, List.take_succ_eq_append_getElem hb, h]
  constructor
  · intro e; have := List.append_cancel_left e; simpa using this
  · intro e; rw [e]
theorem waiting_fun14 (p : PartD) (w : Wts) (x : Int × List BatD) (hop : p.opens.length ≤ 100000) (hx : x.2.length ≤ 100000 ∧ ∀ b ∈ x.2, b.recs.length ≤ 100000) (hbl : ∀ o ∈ p.opens, o.bats.length ≤ 100000) : Fun Tryd.prog 28 [.ptr (hD p w) 0, .agg (waitD x)] (boo (waitOk p x)) := by
  obtain ⟨pid, l⟩ := x
  obtain ⟨hl, hlr⟩ := hx
  have c1 := refOpen_fun p pid hop
  simp only [PartD.dv] at c1
  unfold waitOk
  dsimp only at *
  (refine Fun.of_body Tryd.func28 rfl rfl Tryd.ntmps28 Tryd.results28 (by simp) ?_)
  cases hob : openB p.opens pid with
  | false =>
    rw [hob] at c1
    (refine gO0 ?_; try (with_reducible exact True.intro))
    (refine rO0 ?_; try (with_reducible exact True.intro))
  | true =>
  rw [hob] at c1
  obtain ⟨o, hi, hpid⟩ := openB_get hob
  have hol := hbl o (List.mem_of_getElem? hi)
  rw [hi]
  have hile := openI_le p.opens pid
  generalize openI p.opens pid = i at *
  rw [Bool.true_and]
  dsimp only
  by_cases hlt : l.length < o.bats.length
  rotate_left
  · have d1 : decide ((o.bats.length : Int) ≤ (l.length : Int)) = true := decide_eq_true (by omega)
    rw [decide_eq_false hlt]
    (refine gO (And.intro hi (And.intro @OpenD.dv.eq_1 (d1))) ?_; try (with_reducible exact True.intro))
    (refine rO0 ?_; try (with_reducible exact True.intro))
  have d1 : decide ((o.bats.length : Int) ≤ (l.length : Int)) = false := decide_eq_false (by omega)
  rw [decide_eq_true hlt, Bool.true_and]
  (refine gO (And.intro hi (And.intro @OpenD.dv.eq_1 (d1))) ?_; try (with_reducible exact True.intro))
  refine Wp.loop (fun k : Nat => ⟨ofL [(0, .c (.d (.ptr (hD p w) 0))), (3, .c (.own 0 0)), (5, vi .i64 i), (7, vi .i64 k)], ofH [(0, .cells [.d (int pid), .d (.lst 5 (l.map BatD.dv))])], 1, 62, 0⟩) (fun k => k ≤ l.length ∧ l.take k = o.bats.take k) (fun k => l.length - k) 0 ⟨Nat.zero_le _, rfl⟩ ?_ ?_
  · refine Weak.keep rfl rfl ?_
    (refine rO0 ?_; try (with_reducible exact True.intro))
  rintro k ⟨hk, htk⟩
  by_cases hkl : k < l.length
  · have d2 : decide ((k : Int) < (l.length : Int)) = true := decide_eq_true (by omega)
    have hge : l[k]? = some l[k] := List.getElem?_eq_getElem hkl
    have hgo : o.bats[k]? = some o.bats[k] := List.getElem?_eq_getElem (by omega)
    have hwk : IntKind.i64.wrap ((k : Int) + 1) = ((k + 1 : Nat) : Int) := by rw [wrap_i64 (by omega)]; rfl
    have hiff := take_eq_iff l o.bats k hkl (by omega) htk
    have hm := hlr _ (List.getElem_mem hkl)
    have hbad : ¬ l[k] = o.bats[k] → ¬ l = o.bats.take l.length := fun h e => h (by
      rw [← hiff]
      conv => lhs; rw [e]
      rw [List.take_take]; congr 1; omega)
    generalize l[k] = b at *
    generalize o.bats[k] = c at *
    have c2 := sameBat_fun b c (by omega)
    simp only [BatD.dv] at c2
    by_cases hbc : b = c
    · have dd : decide (b = c) = true := decide_eq_true hbc
      rw [dd] at c2
      (refine gO (And.intro hi (And.intro @OpenD.dv.eq_1 (And.intro d2 (And.intro hge (And.intro hgo (@BatD.dv.eq_1)))))) ?_; try (with_reducible exact True.intro))
      refine ⟨k + 1, ⟨hkl, hiff.2 hbc⟩, by omega, Weak.keep rfl rfl ?_⟩
      (refine rO (hwk) ?_; try (with_reducible exact True.intro))
    · have dd : decide (b = c) = false := decide_eq_false hbc
      rw [dd] at c2
      rw [decide_eq_false (hbad hbc)]
      (refine gO (And.intro hi (And.intro @OpenD.dv.eq_1 (And.intro d2 (And.intro hge (And.intro hgo (@BatD.dv.eq_1)))))) ?_; try (with_reducible exact True.intro))
      (refine rO0 ?_; try (with_reducible exact True.intro))
  · have hke : k = l.length := by omega
    subst hke
    rw [List.take_length] at htk
    rw [decide_eq_true htk]
    have d2 : decide ((l.length : Int) < (l.length : Int)) = false := by simp
    (refine gO (d2) ?_; try (with_reducible exact True.intro))
    (refine rO0 ?_; try (with_reducible exact True.intro))
end Go.Proofs.YtafipkbffboebaaDoor
namespace Go.Proofs.YtafipkbffboebaaDoor
open Go Go.RowKit
set_option maxHeartbeats 16000000
set_option maxRecDepth 100000
set_option linter.unusedVariables false
set_option linter.unusedSimpArgs false
def logStep (s : RefS) (e : EntD) : Option RefS := if okKind e = false then none else if (nextH s e).1 = false then none else if 1048576 < (nextH s e).2.p.fin then none else some (nextH s e).2
def logR : RefS → List EntD → Option RefS
  | s, [] => some s
  | s, e :: l => match logStep s e with
    | none => none
    | some t => logR t l
theorem logR_app : ∀ (l : List EntD) (s : RefS) (r : List EntD), logR s (l ++ r) = match logR s l with
    | none => none
    | some t => logR t r
  | [], s, r => rfl
  | e :: l, s, r => by
    show (match logStep s e with | none => none | some t => logR t (l ++ r)) = match (match logStep s e with | none => none | some t => logR t l) with | none => none | some t => logR t r
    cases logStep s e with
    | none => rfl
    | some t => exact logR_app l t r
def sidesOkAt (l : List SideD) (k : Nat) : Bool := match k, l[k]?, l[k - 1]? with
  | 0, _, _ => true
  | _ + 1, some x, some y => decide (y.pid < x.pid)
  | _, _, _ => false
def sidesR (all : List SideD) : RefS → Nat → List SideD → Option RefS
  | s, _, [] => some s
  | s, k, x :: l => if sidesOkAt all k = false then none else if (sideS s x).1 = false then none else sidesR all (sideS s x).2 (k + 1) l
def ref0 : RefS := ⟨pZ, [], 0⟩
def fold14 (main : List EntD) (sides : List SideD) : Option RefS := match logR ref0 main with
  | none => none
  | some s => match sidesR sides s 0 sides with
    | none => none
    | some t => if t.w.all (waitOk t.p) then some t else none
theorem okKind_recs {e : EntD} (h : okKind e = true) : e.b.recs.length ≤ 4 ∧ e.prod.seen.length ≤ 3 := by
  unfold okKind at h
  simp only [Bool.and_eq_true, decide_eq_true_eq] at h
  obtain ⟨⟨h1, h2⟩, h3⟩ := h
  obtain ⟨k, b, yes, next, off, row, prod⟩ := e
  have hk7 : k = 0 ∨ k = 1 ∨ k = 2 ∨ k = 3 ∨ k = 4 ∨ k = 5 ∨ k = 6 := by simp only at h1 h2; omega
  have hz : ∀ n : Int, (zE n).b.recs = [] ∧ (zE n).prod.seen = [] := fun n => ⟨rfl, rfl⟩
  rcases hk7 with rfl | rfl | rfl | rfl | rfl | rfl | rfl
  · simp only [mayI, if_true, Bool.and_eq_true, decide_eq_true_eq] at h3
    have h4 := congrArg (fun x : EntD => x.prod.seen) h3.2
    refine ⟨(batB_pid h3.1).2, ?_⟩
    dsimp only at h4 ⊢; rw [h4]; exact Nat.zero_le _
  · have h3 : (prodB b.pid b.epoch && decide ((⟨1, ⟨0, 0, b.seq, b.txn, b.recs⟩, false, next, off, row, prod⟩ : EntD) = zE 1)) = true := h3
    simp only [Bool.and_eq_true, decide_eq_true_eq] at h3
    have h4 := congrArg (fun x : EntD => x.prod.seen) h3.2
    have h5 := congrArg (fun x : EntD => x.b.recs) h3.2
    dsimp only at h4 h5 ⊢; rw [h4, h5]; exact ⟨Nat.zero_le _, Nat.zero_le _⟩
  · have h3 : (withB off 0 1048576 && decide ((⟨2, b, yes, next, 0, row, prod⟩ : EntD) = zE 2)) = true := h3
    simp only [Bool.and_eq_true, decide_eq_true_eq] at h3
    have h4 := congrArg (fun x : EntD => x.prod.seen) h3.2
    have h5 := congrArg (fun x : EntD => x.b.recs) h3.2
    dsimp only at h4 h5 ⊢; rw [h4, h5]; exact ⟨Nat.zero_le _, Nat.zero_le _⟩
  · have h3 : (b.txn && ((!yes || withB next 0 1048576) && (batB b && decide ((⟨3, batZ, false, if yes then 0 else next, off, row, prod⟩ : EntD) = zE 3)))) = true := h3
    simp only [Bool.and_eq_true, decide_eq_true_eq] at h3
    have h4 := congrArg (fun x : EntD => x.prod.seen) h3.2.2.2
    refine ⟨(batB_pid h3.2.2.1).2, ?_⟩
    dsimp only at h4 ⊢; rw [h4]; exact Nat.zero_le _
  · have h3 : (!yes && (withB next 0 1048576 && (prodB b.pid b.epoch && decide ((⟨4, ⟨0, 0, b.seq, b.txn, b.recs⟩, false, 0, off, row, prod⟩ : EntD) = zE 4)))) = true := h3
    simp only [Bool.and_eq_true, decide_eq_true_eq] at h3
    have h4 := congrArg (fun x : EntD => x.prod.seen) h3.2.2.2
    have h5 := congrArg (fun x : EntD => x.b.recs) h3.2.2.2
    dsimp only at h4 h5 ⊢; rw [h4, h5]; exact ⟨Nat.zero_le _, Nat.zero_le _⟩
  · have h3 : (rowB row && decide ((⟨5, b, yes, next, off, rowZ, prod⟩ : EntD) = zE 5)) = true := h3
    simp only [Bool.and_eq_true, decide_eq_true_eq] at h3
    have h4 := congrArg (fun x : EntD => x.prod.seen) h3.2
    have h5 := congrArg (fun x : EntD => x.b.recs) h3.2
    dsimp only at h4 h5 ⊢; rw [h4, h5]; exact ⟨Nat.zero_le _, Nat.zero_le _⟩
  · have h3 : (knownB prod && decide ((⟨6, b, yes, next, off, row, prodZ⟩ : EntD) = zE 6)) = true := h3
    simp only [Bool.and_eq_true, decide_eq_true_eq] at h3
    have h5 := congrArg (fun x : EntD => x.b.recs) h3.2
    refine ⟨?_, knownB_seen h3.1⟩
    dsimp only at h5 ⊢; rw [h5]; exact Nat.zero_le _
/-- What holds behind k entries of a log. -/
structure FOk14 (k : Nat) (s : RefS) : Prop where
  fin : 0 ≤ s.p.fin ∧ s.p.fin ≤ 1048576
  opens : s.p.opens = []
  rows : s.p.rows.length ≤ 40 * k
  prods : s.p.prods.length ≤ 10 * k
  seen : ∀ x ∈ s.p.prods, x.seen.length ≤ 100
  wts : s.w.length ≤ k
  bats : ∀ x ∈ s.w, x.2.length ≤ 8
  recs : ∀ x ∈ s.w, ∀ b ∈ x.2, b.recs.length ≤ 4
theorem FOk14.sm {k : Nat} {s : RefS} (h : FOk14 k s) (hk : k ≤ 1000) : Sm14 s.p s.w :=
  ⟨h.fin, by rw [h.opens]; exact Nat.zero_le _, by have := h.rows; omega, by have := h.prods; omega, h.seen, by have := h.wts; omega, h.bats, h.recs⟩
theorem fok14_0 : FOk14 0 ref0 := ⟨by decide, rfl, Nat.le_refl _, Nat.le_refl _, (fun x hx => by cases hx), Nat.le_refl _, (fun x hx => by cases hx), (fun x hx => by cases hx)⟩
theorem wAt_mem {w : Wts} {pid : Int} {b : BatD} (h : b ∈ wAt w pid) : ∃ x ∈ w, b ∈ x.2 := by
  unfold wAt at h
  cases hq : w[wI w pid]? with
  | none => rw [hq] at h; cases h
  | some x => rw [hq] at h; exact ⟨x, List.mem_of_getElem? hq, h⟩
theorem ens_mem {w : Wts} {pid : Int} {x : Int × List BatD} (h : x ∈ ensW w pid) : x ∈ w ∨ x.2 = [] := by
  unfold ensW at h
  split at h
  · exact .inl h
  · rcases List.mem_append.1 h with h | h
    · exact .inl h
    · simp at h; subst h; exact .inr rfl
theorem bad_len {l : List BatD} {b : BatD} (h : badC l b = false) : l.length < 8 := by
  unfold badC at h
  simp only [Bool.or_eq_false_iff, decide_eq_false_iff_not] at h
  omega
theorem clearR_len (l : List ProdD) (pid : Int) (k : Nat) (h : ∀ x ∈ l, x.seen.length ≤ 100) : (clearR l pid).length ≤ l.length + 1 ∧ ∀ x ∈ clearR l pid, x.seen.length ≤ 100 := by
  unfold clearR
  split
  · refine ⟨setF_len' _ _, fun x hx => ?_⟩
    rcases setF_mem' hx with hx | rfl
    · exact h x hx
    · simp
  · exact ⟨by omega, h⟩
theorem copied_ok {k : Nat} {s t : RefS} {e : EntD} (h : FOk14 k s) (hb : e.b.recs.length ≤ 4) (hc : copiedS s e = (true, t)) (hf : t.p.fin ≤ 1048576) : FOk14 (k + 1) t := by
  have hfin := h.fin
  have hrow := h.rows
  have hpr := h.prods
  have hw := h.wts
  have hel := ens_len s.w e.b.pid
  have hset : ∀ (hbad : badC (wAt s.w e.b.pid) e.b = false), ∀ x ∈ (ensW s.w e.b.pid).set (wI s.w e.b.pid) (e.b.pid, wAt s.w e.b.pid ++ [e.b]), x.2.length ≤ 8 ∧ ∀ b ∈ x.2, b.recs.length ≤ 4 := fun hbad x hx => by
    rcases List.mem_or_eq_of_mem_set hx with hx | rfl
    · rcases ens_mem hx with hx | hx
      · exact ⟨h.bats x hx, h.recs x hx⟩
      · rw [hx]; exact ⟨Nat.zero_le _, fun b hb => by cases hb⟩
    · have := bad_len hbad
      refine ⟨by rw [List.length_append]; simp; omega, fun b hbm => ?_⟩
      rcases List.mem_append.1 hbm with hbm | hbm
      · obtain ⟨y, hy, hy2⟩ := wAt_mem hbm; exact h.recs y hy b hy2
      · simp at hbm; subst hbm; exact hb
  have her : ∀ x ∈ (ensW s.w e.b.pid).eraseIdx (wI s.w e.b.pid), x ∈ s.w ∨ x.2 = [] := fun x hx => ens_mem (List.mem_of_mem_eraseIdx hx)
  unfold copiedS at hc
  split at hc
  · cases hc
  rename_i hbad
  have hbad : badC (wAt s.w e.b.pid) e.b = false := by simpa using hbad
  split at hc
  · cases hc
    exact ⟨hfin, h.opens, by show s.p.rows.length ≤ _; omega, by show s.p.prods.length ≤ _; omega, h.seen, by show (List.set _ _ _).length ≤ _; rw [List.length_set]; omega, fun x hx => (hset hbad x hx).1, fun x hx => (hset hbad x hx).2⟩
  split at hc
  · cases hc
  split at hc
  · cases hc
  cases hc
  have hbl := bad_len hbad
  have hL : (wAt s.w e.b.pid ++ [e.b]).length ≤ 8 := by rw [List.length_append]; simp; omega
  obtain ⟨g1, g2, g3, g4, g5, g6, g7⟩ := takesS_sm (wAt s.w e.b.pid ++ [e.b]) s.p (fun b hbm => by
    rcases List.mem_append.1 hbm with hbm | hbm
    · obtain ⟨y, hy, hy2⟩ := wAt_mem hbm; exact h.recs y hy b hy2
    · simp at hbm; subst hbm; exact hb) h.seen
  generalize (takesS s.p (wAt s.w e.b.pid ++ [e.b])).2 = q at *
  obtain ⟨c1, c2⟩ := clearR_len q.prods e.b.pid 0 g7
  refine ⟨⟨?_, hf⟩, g1.trans h.opens, by show q.rows.length ≤ _; omega, by show (clearR _ _).length ≤ _; omega, c2, ?_, fun x hx => ?_, fun x hx => ?_⟩
  · show 0 ≤ q.fin; omega
  · show (List.eraseIdx _ _).length ≤ _
    have := List.length_eraseIdx_le (ensW s.w e.b.pid) (wI s.w e.b.pid)
    omega
  · rcases her x hx with hx | hx
    · exact h.bats x hx
    · rw [hx]; exact Nat.zero_le _
  · rcases her x hx with hx | hx
    · exact h.recs x hx
    · rw [hx]; exact fun b hb => by cases hb
theorem next_ok14 {k : Nat} {s t : RefS} {e : EntD} (h : FOk14 k s) (hs : logStep s e = some t) : FOk14 (k + 1) t := by
  unfold logStep at hs
  split at hs
  · cases hs
  rename_i hok
  have hok : okKind e = true := by simpa using hok
  obtain ⟨hb, hq⟩ := okKind_recs hok
  split at hs
  · cases hs
  rename_i hn
  split at hs
  · cases hs
  rename_i hf
  cases hs
  have hfin := h.fin
  have hrow := h.rows
  have hpr := h.prods
  have hw := h.wts
  unfold nextH at hn hf ⊢
  split
  · rename_i k0
    simp only [k0, if_true] at hn hf
    cases hp : plainR s.p e.b with
    | none => rw [hp] at hn; exact absurd rfl hn
    | some q =>
      rw [hp] at hf
      dsimp only at hf ⊢
      unfold plainR at hp
      split at hp
      · cases hp
      cases hp
      obtain ⟨t1, t2⟩ := take_prods (k := s.p.prods.length) e.b s.p.fin (Nat.le_refl _) h.seen
      dsimp only at hf
      refine ⟨⟨by show 0 ≤ s.p.fin + _; omega, by show s.p.fin + _ ≤ _; omega⟩, h.opens, ?_, by show (takeF _ _ _).1.length ≤ _; omega, t2, by show s.w.length ≤ _; omega, h.bats, h.recs⟩
      show (s.p.rows ++ rowsF e.b s.p.fin).length ≤ _
      rw [List.length_append, rows_len']; omega
  rename_i k0
  simp only [k0, if_false] at hn hf
  split
  · rename_i k3
    simp only [k3, if_true] at hn hf
    exact copied_ok h hb (Prod.ext (by simpa using hn) rfl) (by omega)
  rename_i k3
  simp only [k3, if_false] at hn hf
  split
  · rename_i k4
    simp only [k4, if_true] at hn hf
    unfold droppedS at hn hf ⊢
    split
    · rename_i hd; rw [hd] at hn; exact absurd rfl hn
    · dsimp only
      have haw : (s.away e.b.pid).w.length ≤ s.w.length ∧ ∀ x ∈ (s.away e.b.pid).w, x ∈ s.w := by
        unfold RefS.away
        split
        · exact ⟨List.length_eraseIdx_le .., fun x hx => List.mem_of_mem_eraseIdx hx⟩
        · exact ⟨Nat.le_refl _, fun x hx => hx⟩
      have := setF_len' s.p.prods ⟨e.b.pid, e.b.epoch, e.next, []⟩
      refine ⟨hfin, h.opens, by show s.p.rows.length ≤ _; omega, by show (setF _ _).length ≤ _; omega, fun x hx => ?_, by have := haw.1; show (s.away e.b.pid).w.length ≤ _; omega, fun x hx => h.bats x (haw.2 x hx), fun x hx => h.recs x (haw.2 x hx)⟩
      rcases setF_mem' hx with hx | rfl
      · exact h.seen x hx
      · simp
  rename_i k4
  simp only [k4, if_false] at hn hf
  cases hp : bothR s.p e with
  | none => rw [hp] at hn; exact absurd rfl hn
  | some q =>
    rw [hp] at hf
    dsimp only at hf ⊢
    unfold bothR at hp
    split at hp
    · split at hp
      · cases hp
      cases hp
      have := keepF_len (cutP e.off) s.p.rows
      exact ⟨hfin, h.opens, by show (keepF _ _).length ≤ _; omega, by show s.p.prods.length ≤ _; omega, h.seen, by show s.w.length ≤ _; omega, h.bats, h.recs⟩
    split at hp
    · cases hp
      dsimp only at hf
      exact ⟨⟨by show 0 ≤ s.p.fin + 1; omega, by show s.p.fin + 1 ≤ _; omega⟩, h.opens, by show (s.p.rows ++ [_]).length ≤ _; rw [List.length_append]; simp only [List.length_cons, List.length_nil]; omega, by show s.p.prods.length ≤ _; omega, h.seen, by show s.w.length ≤ _; omega, h.bats, h.recs⟩
    split at hp
    · split at hp
      · cases hp
      cases hp
      have := setF_len' s.p.prods e.prod
      refine ⟨hfin, h.opens, by show s.p.rows.length ≤ _; omega, by show (setF _ _).length ≤ _; omega, fun x hx => ?_, by show s.w.length ≤ _; omega, h.bats, h.recs⟩
      rcases setF_mem' hx with hx | rfl
      · exact h.seen x hx
      · omega
    · cases hp
end Go.Proofs.YtafipkbffboebaaDoor
namespace Go.Proofs.YtafipkbffboebaaDoor
open Go Go.RowKit
set_option maxHeartbeats 16000000
set_option maxRecDepth 100000
set_option linter.unusedVariables false
set_option linter.unusedSimpArgs false
theorem begin14 (σ : St) (h1 : σ.H 1 = some (.cells [.d (int 0), .d (int 0), nilC, nilC, nilC, nilC])) (h9 : σ.H 9 = none) (hdf : σ.fx.dfs.contains 1 = false) :
    ∃ H', Weak σ { σ with H := H' } ∧ H' 1 = some (.cells [.d (int 0), .d (int 0), .d (.lst 5 []), .d (.lst 3 []), .d (.lst 4 []), .mt 9 0]) ∧ H' 9 = some (.mrow 80 2 0 []) ∧ H' 0 = σ.H 0 := by
  have w1 := Weak.mtCell (σ := σ) (id := 1) (k := 5) (τ := 9) 80 2 (by decide) (by decide) h9 h1 rfl
  obtain ⟨H1, hH1⟩ : ∃ H1, H1 = upd (upd σ.H 9 (some (.mrow 80 2 0 []))) 1 (some (.cells (List.set [.d (int 0), .d (int 0), nilC, nilC, nilC, nilC] 5 (.mt 9 0)))) := ⟨_, rfl⟩
  rw [← hH1] at w1
  have a1 : H1 1 = some (.cells [.d (int 0), .d (int 0), nilC, nilC, nilC, .mt 9 0]) := by rw [hH1]; exact upd_same _ _ _
  have a9 : H1 9 = some (.mrow 80 2 0 []) := by rw [hH1, upd_ne _ _ (by decide)]; exact upd_same _ _ _
  have a0 : H1 0 = σ.H 0 := by rw [hH1, upd_ne _ _ (by decide), upd_ne _ _ (by decide)]
  have w2 : Weak { σ with H := H1 } { σ with H := upd H1 1 (some (.cells [.d (int 0), .d (int 0), .d (.lst 5 []), nilC, nilC, .mt 9 0])) } := Weak.cellLe (σ := { σ with H := H1 }) (id := 1) (k := 2) (x := .val (.slice none 0 0)) (y := .lst 5 []) a1 rfl (DLe.nil 5) hdf
  have w3 : Weak { σ with H := upd H1 1 (some (.cells [.d (int 0), .d (int 0), .d (.lst 5 []), nilC, nilC, .mt 9 0])) } { σ with H := upd (upd H1 1 (some (.cells [.d (int 0), .d (int 0), .d (.lst 5 []), nilC, nilC, .mt 9 0]))) 1 (some (.cells [.d (int 0), .d (int 0), .d (.lst 5 []), .d (.lst 3 []), nilC, .mt 9 0])) } := Weak.cellLe (σ := { σ with H := upd H1 1 (some (.cells [.d (int 0), .d (int 0), .d (.lst 5 []), nilC, nilC, .mt 9 0])) }) (id := 1) (k := 3) (cs := [.d (int 0), .d (int 0), .d (.lst 5 []), nilC, nilC, .mt 9 0]) (x := .val (.slice none 0 0)) (y := .lst 3 []) (upd_same H1 1 _) rfl (DLe.nil 3) hdf
  rw [upd_upd] at w3
  have w4 : Weak { σ with H := upd H1 1 (some (.cells [.d (int 0), .d (int 0), .d (.lst 5 []), .d (.lst 3 []), nilC, .mt 9 0])) } { σ with H := upd (upd H1 1 (some (.cells [.d (int 0), .d (int 0), .d (.lst 5 []), .d (.lst 3 []), nilC, .mt 9 0]))) 1 (some (.cells [.d (int 0), .d (int 0), .d (.lst 5 []), .d (.lst 3 []), .d (.lst 4 []), .mt 9 0])) } := Weak.cellLe (σ := { σ with H := upd H1 1 (some (.cells [.d (int 0), .d (int 0), .d (.lst 5 []), .d (.lst 3 []), nilC, .mt 9 0])) }) (id := 1) (k := 4) (cs := [.d (int 0), .d (int 0), .d (.lst 5 []), .d (.lst 3 []), nilC, .mt 9 0]) (x := .val (.slice none 0 0)) (y := .lst 4 []) (upd_same H1 1 _) rfl (DLe.nil 4) hdf
  rw [upd_upd] at w4
  refine ⟨_, ((w1.trans w2).trans w3).trans w4, upd_same _ _ _, ?_, ?_⟩
  · rw [upd_ne _ _ (by decide)]; exact a9
  · rw [upd_ne _ _ (by decide)]; exact a0
abbrev fM (s : RefS) : List (Nat × HE) :=
  [(0, .cells [.d (int 0), .d (int 0), nilC, nilC, nilC]), (1, .cells [.d (int s.p.start), .d (int s.p.fin), .d (.lst 5 (s.p.rows.map RowD.dv)), .d (.lst 3 (s.p.opens.map OpenD.dv)), .d (.lst 4 (s.p.prods.map ProdD.dv)), .mt 9 s.v]),
   (9, .mrow 80 2 s.v (waitsC s.w))]
theorem okIds_f {L : List (Nat × SV)} {s : RefS} (hL : (L.all fun p => p.2.ids.all fun i => [0, 1, 9].contains i) = true) : (okIds L (fM s) && keepsLent 0 (fM s)) = true := by
  have e1 : (fM s).map (·.1) = [0, 1, 9] := rfl
  unfold okIds
  rw [e1, hL]
  simp only [List.all_cons, List.all_nil, HE.ids, waitsC, ids_plain, Bool.and_true, Bool.true_and]
  rfl
theorem waitsC_ren (ρ : Nat → Nat) (e v : Nat) (w : Wts) : HE.ren ρ (.mrow e 2 v (waitsC w)) = .mrow e 2 v (waitsC w) := by
  show HE.mrow e 2 v ((waitsC w).map (CV.ren ρ)) = _
  unfold waitsC
  rw [List.map_map]
  congr 1
def r14 (o : Option RefS) : PartD × Int := match o with
  | some t => (t.p, 0)
  | none => (pZ, 70)
theorem logR_none {l : List EntD} {s : RefS} {k : Nat} (h : logR s (l.take k) = none) : logR s l = none := by
  conv => lhs; rw [← List.take_append_drop k l]
  rw [logR_app, h]
theorem logR_ok : ∀ (l : List EntD) (k : Nat) (s t : RefS), FOk14 k s → logR s l = some t → FOk14 (k + l.length) t
  | [], k, s, t, h, hl => by cases hl; exact h
  | e :: l, k, s, t, h, hl => by
    have e1 : logR s (e :: l) = match logStep s e with | none => none | some t => logR t l := rfl
    rw [e1] at hl
    cases hs : logStep s e with
    | none => rw [hs] at hl; cases hl
    | some u =>
      rw [hs] at hl
      have := logR_ok l (k + 1) u t (next_ok14 h hs) hl
      rw [List.length_cons, show k + (l.length + 1) = k + 1 + l.length by omega]; exact this
def sideBound (sides : List SideD) : Prop := sides.length ≤ 100 ∧ ∀ x ∈ sides, ∀ e ∈ x.l, e.b.recs.length ≤ 100000 ∧ e.prod.seen.length ≤ 100000
theorem snap_argF {H : Hp} (s : RefS) (x : Int × List BatD) (h : endB H (ofH (fM s)) [1, 9]) : (mapO (SV.snap H) [.c (.own 1 0), .agg [.d (int x.1), .d (.lst 5 (x.2.map BatD.dv))]]).map (· ++ []) = some [.ptr (hD s.p s.w) 0, .agg (waitD x)] := by
  have h0 : H 1 = some (.cells [.d (int s.p.start), .d (int s.p.fin), .d (.lst 5 (s.p.rows.map RowD.dv)), .d (.lst 3 (s.p.opens.map OpenD.dv)), .d (.lst 4 (s.p.prods.map ProdD.dv)), .mt 9 s.v]) := h.1
  have h9 : H 9 = some (.mrow 80 2 s.v ((s.w.map waitD).flatten.map CV.d)) := h.2.1
  have hm := snap_plain (k := 1) (s.w.map waitD) (by decide) (fun x hx => by obtain ⟨b, _, rfl⟩ := List.mem_map.1 hx; rfl) h9
  have hs : (SV.c (.own 1 0)).snap H = some (.ptr (hD s.p s.w) 0) := by
    show CV.snap H 3 (.own 1 0) = _
    simp only [CV.snap, h0, mapO] at hm ⊢
    rw [hm]
    rfl
  simp only [mapO, hs]
  simp only [SV.snap, mapO, snap_d, Option.map_some, List.append_nil]
theorem sidesR_app (all : List SideD) : ∀ (l : List SideD) (s : RefS) (j : Nat) (r : List SideD), sidesR all s j (l ++ r) = match sidesR all s j l with
    | none => none
    | some u => sidesR all u (j + l.length) r
  | [], s, j, r => rfl
  | x :: l, s, j, r => by
    have e1 : ∀ l, sidesR all s j (x :: l) = if sidesOkAt all j = false then none else if (sideS s x).1 = false then none else sidesR all (sideS s x).2 (j + 1) l := fun _ => rfl
    rw [List.cons_append, e1, e1]
    by_cases h1 : sidesOkAt all j = false
    · rw [if_pos h1, if_pos h1]
    rw [if_neg h1, if_neg h1]
    by_cases h2 : (sideS s x).1 = false
    · rw [if_pos h2, if_pos h2]
    rw [if_neg h2, if_neg h2, sidesR_app all l _ (j + 1) r, List.length_cons, show j + (l.length + 1) = j + 1 + l.length by omega]
theorem sidesR_none {all l : List SideD} {s : RefS} {k : Nat} (h : sidesR all s 0 (l.take k) = none) : sidesR all s 0 l = none := by
  conv => lhs; rw [← List.take_append_drop k l]
  rw [sidesR_app, h]
def OpB (p : PartD) : Prop := ∀ o ∈ p.opens, o.bats.length ≤ 8
theorem txnR_opb {p q : PartD} {b : BatD} (h : OpB p) (ht : txnR p b = some q) : OpB q := by
  unfold txnR at ht
  split at ht
  · cases ht
  split at ht
  rotate_left
  · cases ht
  rename_i u hu
  cases ht
  unfold putR at hu
  have hmm : ∀ (i j : Nat) (z : OpenD), z.bats.length ≤ 8 → ∀ o ∈ p.opens.take i ++ z :: p.opens.drop j, o.bats.length ≤ 8 := fun i j z hz o ho => by
    rcases List.mem_append.1 ho with ho | ho
    · exact h o (List.mem_of_mem_take ho)
    · rcases List.mem_cons.1 ho with rfl | ho
      · exact hz
      · exact h o (List.mem_of_mem_drop ho)
  split at hu
  · rename_i o _ hi
    split at hu
    · cases hu
    · rename_i hx
      cases hu
      refine hmm _ _ _ ?_
      show (o.bats ++ [b]).length ≤ 8
      have : ¬ 8 ≤ o.bats.length := fun h => hx (.inr h)
      rw [List.length_append]; simp; omega
  · cases hu
    refine hmm _ _ _ ?_
    show ([b] : List BatD).length ≤ 8
    simp
theorem sideR_opb (x : SideD) : ∀ (l : List EntD) (p : PartD), OpB p → OpB (sideR x p l).2
  | [], p, h => h
  | e :: l, p, h => by
    have e1 : sideR x p (e :: l) = match sideT x p e with | none => (false, p) | some q => sideR x q l := rfl
    rw [e1]
    cases hs : sideT x p e with
    | none => exact h
    | some q =>
      unfold sideT at hs
      split at hs
      · cases hs
      exact sideR_opb x l q (txnR_opb h hs)
structure SideInv (s u : RefS) (k : Nat) : Prop where
  w : u.w = s.w
  v : u.v = s.v
  grow : Grow14 s.p u.p (8 * k)
  opb : OpB u.p
theorem sidesR_inv (all : List SideD) (s : RefS) : ∀ (l : List SideD) (u t : RefS) (j k : Nat), SideInv s u k → sidesR all u j l = some t → SideInv s t (k + l.length)
  | [], u, t, j, k, h, hl => by cases hl; exact h
  | x :: l, u, t, j, k, h, hl => by
    have e1 : sidesR all u j (x :: l) = if sidesOkAt all j = false then none else if (sideS u x).1 = false then none else sidesR all (sideS u x).2 (j + 1) l := rfl
    rw [e1] at hl
    split at hl
    · cases hl
    split at hl
    · cases hl
    rename_i h2
    have hx : ¬ (x.l.length = 0 ∨ 8 < x.l.length) := fun hx => h2 (by unfold sideS; rw [if_pos hx])
    have e2 : (sideS u x).2 = ⟨(sideR x u.p x.l).2, u.w, u.v⟩ := by unfold sideS; rw [if_neg hx]
    rw [e2] at hl
    have hg := sideR_grow x x.l s.p u.p (8 * k) h.grow
    have hinv : SideInv s ⟨(sideR x u.p x.l).2, u.w, u.v⟩ (k + 1) := ⟨h.w, h.v, ⟨hg.fin, hg.start, hg.rows, by have := hg.opens; show (sideR x u.p x.l).2.opens.length ≤ _; omega, by have := hg.prods; show (sideR x u.p x.l).2.prods.length ≤ _; omega, hg.seen⟩, sideR_opb x x.l u.p h.opb⟩
    have := sidesR_inv all s l _ t (j + 1) (k + 1) hinv hl
    rw [List.length_cons, show k + (l.length + 1) = k + 1 + l.length by omega]; exact this
theorem fold14_fun (main : List EntD) (sides : List SideD) (hm : main.length ≤ 900) (hme : ∀ e ∈ main, e.b.recs.length ≤ 100000 ∧ e.prod.seen.length ≤ 100000) (hsd : sideBound sides) :
    Fun Tryd.prog 8 [.lst 18 (main.map EntD.dv), .lst 2 (sides.map SideD.dv)] (.tup [.agg (r14 (fold14 main sides)).1.dv, int (r14 (fold14 main sides)).2]) := by
  have hpz : ∀ o : Option RefS, o = none → (r14 o).1.dv = [int 0, int 0, .lst 5 [], .lst 3 [], .lst 4 []] ∧ (r14 o).2 = 70 := fun o h => by subst h; exact ⟨rfl, rfl⟩
  have hle : DLe (.tup [.agg [int 0, int 0, nilV, nilV, nilV], int 70]) (.tup [.agg [int 0, int 0, .lst 5 [], .lst 3 [], .lst 4 []], int 70]) := DLe.tup (.cons (.agg (.cons (.refl _) (.cons (.refl _) (.cons (.nil 5) (.cons (.nil 3) (.cons (.nil 4) .nil)))))) (.cons (.refl _) .nil))
  (refine Fun.of_bodyW Tryd.func8 rfl rfl Tryd.ntmps8 Tryd.results8 (by simp) ?_)
  (refine gO0 ?_; try (with_reducible exact True.intro))
  refine Wp.weakE (begin14 _ (by (refine rO0 ?_; try (with_reducible exact True.intro))) (by simp [upd, ofH]; rfl) rfl) ?_
  rintro H' ⟨f1, f9, f0⟩
  have f0' : H' 0 = some (.cells [.d (int 0), .d (int 0), nilC, nilC, nilC]) := by rw [f0]; (refine rO0 ?_; try (with_reducible exact True.intro))
  refine Wp.loop (fun k : Nat => ⟨ofL [(0, .c (.d (.lst 18 (main.map EntD.dv)))), (1, .c (.d (.lst 2 (sides.map SideD.dv)))), (4, .c (.own 0 0)), (6, .c (.own 1 0)), (7, vi .i64 k)], ofH (fM ((logR ref0 (main.take k)).getD ref0)), 100, 98, 0⟩) (fun k => k ≤ main.length ∧ (logR ref0 (main.take k)).isSome = true) (fun k => main.length - k) 0 ⟨Nat.zero_le _, rfl⟩ ?_ ?_
  · refine Weak.keep rfl (okIds_f rfl) ?_
    simp (maxSteps := 2000000) (disch := omega) only [RUN, TY, RUNB, aop, ofV, SV.ofD, aLd, aSt, aFd, aPt, aLen, aSl, aIf, aMF, aXt, aBu, aCX, aCL, aCy, CV.exact, CV.lstOf, CV.lenOf, CV.one, D.one, Value.oneCell', CV.toD0, iFl, oWn, pLk, nD0, rD0, bQ0, tQ0, kQ0, reduceCtorEq, reduceIte, Nat.reduceBEq, Nat.reduceEqDiff, Nat.reduceAdd, Nat.reduceMul, Nat.reduceSub, Nat.reduceLT, Nat.reduceLeDiff, Nat.reduceBNe, Int.reduceLE, Int.reduceLT, Int.reduceBEq, Int.reduceBNe, Int.reduceEq, Int.reduceNeg, Int.reduceAdd, Int.reduceSub, Int.reduceToNat, forall_const, f1, f9, f0', logR, ref0, pZ, List.take_zero, Option.getD_some, waitsC, List.map_nil, List.flatten_nil]
  rintro k ⟨hk, hks⟩
  obtain ⟨s, hs⟩ := Option.isSome_iff_exists.1 hks
  have hok := logR_ok (main.take k) 0 ref0 s fok14_0 hs
  rw [Nat.zero_add, List.length_take, Nat.min_eq_left hk] at hok
  have hsm := hok.sm (by omega)
  rw [hs, Option.getD_some]
  by_cases hkl : k < main.length
  · have d1 : decide ((k : Int) < (main.length : Int)) = true := decide_eq_true (by omega)
    have hge : main[k]? = some main[k] := List.getElem?_eq_getElem hkl
    have hwk : IntKind.i64.wrap ((k : Int) + 1) = ((k + 1 : Nat) : Int) := by rw [wrap_i64 (by omega)]; rfl
    obtain ⟨hr1, hr2⟩ := hme _ (List.getElem_mem hkl)
    have htk : logR ref0 (main.take (k + 1)) = logStep s main[k] := by
      rw [List.take_succ_eq_append_getElem hkl, logR_app, hs]
      show (match logStep s main[k] with | none => none | some t => logR t []) = _
      cases logStep s main[k] <;> rfl
    have hno : logStep s main[k] = none → fold14 main sides = none := fun h => by
      unfold fold14
      rw [logR_none (k := k + 1) (htk.trans h)]
    generalize main[k] = e at *
    have c1 := refMay07_fun e ⟨hr1, hr2⟩ hr1 hr2
    simp only [EntD.dv] at c1
    have hbV : entV e = .agg (e.dv.map CV.d) := rfl
    cases ho : okKind e with
    | false =>
      rw [ho] at c1
      obtain ⟨q1, q2⟩ := hpz _ (hno (by unfold logStep; rw [ho]; rfl))
      (refine gO (And.intro d1 (And.intro hge (@EntD.dv.eq_1))) ?_; try (with_reducible exact True.intro))
      (refine rO0 ?_; try (with_reducible exact True.intro))
      rw [q1, q2]
      exact ⟨_, rfl, hle⟩
    | true =>
      rw [ho] at c1
      have hkd : 0 ≤ e.kind ∧ e.kind < 7 := by
        unfold okKind at ho; simp only [Bool.and_eq_true, decide_eq_true_eq] at ho; exact ho.1
      have c2 := next_fun14 s e hsm (okKind_recs ho).1 hkd
      have hls : logStep s e = if (nextH s e).1 = false then none else if 1048576 < (nextH s e).2.p.fin then none else some (nextH s e).2 := by
        unfold logStep; rw [ho, if_neg (by simp)]
      generalize (nextH s e).2 = t at *
      (refine gO (d1) ?_; try (with_reducible exact True.intro))
      (first | refine Wp.sregG ?_ | refine Wp.regG ?_ | (refine Wp.seq ?_; first | refine Wp.sregG ?_ | refine Wp.regG ?_))
      refine GRun.at 12 (fun K hK => ?_)
      (refine rO (And.intro @GRUN (And.intro hge (@EntD.dv.eq_1))) ?_; try (with_reducible exact True.intro))
      refine bcf c1 ?_
      (refine rO (And.intro @GRUN (And.intro hge (@EntD.dv.eq_1))) ?_; try (with_reducible exact True.intro))
      refine hK _ ?_
      clear hK K
      (refine GRun.call (c2) [(0, 1)] 200 rfl rfl ?_ ?_; (focus (simp (maxSteps := 2000000) (disch := omega) only [RUN, TY, RUNB, aop, ofV, SV.ofD, aLd, aSt, aFd, aPt, aLen, aSl, aIf, aMF, aXt, aBu, aCX, aCL, aCy, CV.exact, CV.lstOf, CV.lenOf, CV.one, D.one, Value.oneCell', CV.toD0, iFl, oWn, pLk, nD0, rD0, bQ0, tQ0, kQ0, reduceCtorEq, reduceIte, Nat.reduceBEq, Nat.reduceEqDiff, Nat.reduceAdd, Nat.reduceMul, Nat.reduceSub, Nat.reduceLT, Nat.reduceLeDiff, Nat.reduceBNe, Int.reduceLE, Int.reduceLT, Int.reduceBEq, Int.reduceBNe, Int.reduceEq, Int.reduceNeg, Int.reduceAdd, Int.reduceSub, Int.reduceToNat, forall_const, callG, atB, newB, callS, List.nil_append, Cap.sv, swp, SV.ren, CV.ren, HEREN, entry_fx, fx_nil, GRUN, waitsC_ren, hbV, EntD.dv, List.map_cons, List.map_nil]; done)))
      cases hn : (nextH s e).1 with
      | false =>
        rw [hn, if_pos rfl] at hls
        obtain ⟨q1, q2⟩ := hpz _ (hno hls)
        (refine GRun.done (fun K hK => ?_); simp (maxSteps := 2000000) (disch := omega) only [RUN, TY, RUNB, aop, ofV, SV.ofD, aLd, aSt, aFd, aPt, aLen, aSl, aIf, aMF, aXt, aBu, aCX, aCL, aCy, CV.exact, CV.lstOf, CV.lenOf, CV.one, D.one, Value.oneCell', CV.toD0, iFl, oWn, pLk, nD0, rD0, bQ0, tQ0, kQ0, reduceCtorEq, reduceIte, Nat.reduceBEq, Nat.reduceEqDiff, Nat.reduceAdd, Nat.reduceMul, Nat.reduceSub, Nat.reduceLT, Nat.reduceLeDiff, Nat.reduceBNe, Int.reduceLE, Int.reduceLT, Int.reduceBEq, Int.reduceBNe, Int.reduceEq, Int.reduceNeg, Int.reduceAdd, Int.reduceSub, Int.reduceToNat, forall_const, GRUN, putB, swp, HEREN, SV.ren, CV.ren, waitsC_ren, List.map_cons, List.map_nil]; refine hK _ ?_; clear hK K)
        (refine gO0 ?_; try (with_reducible exact True.intro))
        (refine rO0 ?_; try (with_reducible exact True.intro))
        rw [q1, q2]
        exact ⟨_, rfl, hle⟩
      | true =>
        rw [hn, if_neg (by simp)] at hls
        by_cases hf : 1048576 < t.p.fin
        · have df : decide (1048576 < t.p.fin) = true := decide_eq_true hf
          rw [if_pos hf] at hls
          obtain ⟨q1, q2⟩ := hpz _ (hno hls)
          (refine GRun.done (fun K hK => ?_); simp (maxSteps := 2000000) (disch := omega) only [RUN, TY, RUNB, aop, ofV, SV.ofD, aLd, aSt, aFd, aPt, aLen, aSl, aIf, aMF, aXt, aBu, aCX, aCL, aCy, CV.exact, CV.lstOf, CV.lenOf, CV.one, D.one, Value.oneCell', CV.toD0, iFl, oWn, pLk, nD0, rD0, bQ0, tQ0, kQ0, reduceCtorEq, reduceIte, Nat.reduceBEq, Nat.reduceEqDiff, Nat.reduceAdd, Nat.reduceMul, Nat.reduceSub, Nat.reduceLT, Nat.reduceLeDiff, Nat.reduceBNe, Int.reduceLE, Int.reduceLT, Int.reduceBEq, Int.reduceBNe, Int.reduceEq, Int.reduceNeg, Int.reduceAdd, Int.reduceSub, Int.reduceToNat, forall_const, GRUN, putB, swp, HEREN, SV.ren, CV.ren, waitsC_ren, df, List.map_cons, List.map_nil]; refine hK _ ?_; clear hK K)
          (refine gO0 ?_; try (with_reducible exact True.intro))
          (refine rO0 ?_; try (with_reducible exact True.intro))
          rw [q1, q2]
          exact ⟨_, rfl, hle⟩
        · have df : decide (1048576 < t.p.fin) = false := decide_eq_false hf
          rw [if_neg hf] at hls
          (refine GRun.done (fun K hK => ?_); simp (maxSteps := 2000000) (disch := omega) only [RUN, TY, RUNB, aop, ofV, SV.ofD, aLd, aSt, aFd, aPt, aLen, aSl, aIf, aMF, aXt, aBu, aCX, aCL, aCy, CV.exact, CV.lstOf, CV.lenOf, CV.one, D.one, Value.oneCell', CV.toD0, iFl, oWn, pLk, nD0, rD0, bQ0, tQ0, kQ0, reduceCtorEq, reduceIte, Nat.reduceBEq, Nat.reduceEqDiff, Nat.reduceAdd, Nat.reduceMul, Nat.reduceSub, Nat.reduceLT, Nat.reduceLeDiff, Nat.reduceBNe, Int.reduceLE, Int.reduceLT, Int.reduceBEq, Int.reduceBNe, Int.reduceEq, Int.reduceNeg, Int.reduceAdd, Int.reduceSub, Int.reduceToNat, forall_const, GRUN, putB, swp, HEREN, SV.ren, CV.ren, waitsC_ren, df, List.map_cons, List.map_nil]; refine hK _ ?_; clear hK K)
          (refine gO (hwk) ?_; try (with_reducible exact True.intro))
          refine ⟨k + 1, ⟨hkl, by rw [htk, hls]; rfl⟩, by omega, ?_⟩
          rw [htk, hls, Option.getD_some]
          refine Weak.keep rfl (okIds_f rfl) ?_
          (refine rO0 ?_; try (with_reducible exact True.intro))
  have hke : k = main.length := by omega
  subst hke
  rw [List.take_length] at hs
  have hok' : FOk14 main.length s := hok
  have hfs : fold14 main sides = match sidesR sides s 0 sides with
      | none => none
      | some t => if t.w.all (waitOk t.p) then some t else none := by unfold fold14; rw [hs] <;> rfl
  have d1 : decide ((main.length : Int) < (main.length : Int)) = false := by simp
  (refine gO (d1) ?_; try (with_reducible exact True.intro))
  have hinv0 : SideInv s s 0 := ⟨rfl, rfl, ⟨rfl, rfl, rfl, Nat.le_refl _, Nat.le_refl _, hok'.seen⟩, fun o ho => by rw [hok'.opens] at ho; cases ho⟩
  have hpr0 := hok'.prods
  have hop0 : s.p.opens.length = 0 := by rw [hok'.opens]; rfl
  obtain ⟨hsl, hse⟩ := hsd
  refine Wp.loop (fun k : Nat => ⟨ofL [(0, .c (.d (.lst 18 (main.map EntD.dv)))), (1, .c (.d (.lst 2 (sides.map SideD.dv)))), (4, .c (.own 0 0)), (6, .c (.own 1 0)), (8, vi .i64 k)], ofH (fM ((sidesR sides s 0 (sides.take k)).getD ref0)), 200, 98, 0⟩) (fun k => k ≤ sides.length ∧ (sidesR sides s 0 (sides.take k)).isSome = true) (fun k => sides.length - k) 0 ⟨Nat.zero_le _, rfl⟩ ?_ ?_
  · refine Weak.keep rfl (okIds_f rfl) ?_
    simp (maxSteps := 2000000) (disch := omega) only [RUN, TY, RUNB, aop, ofV, SV.ofD, aLd, aSt, aFd, aPt, aLen, aSl, aIf, aMF, aXt, aBu, aCX, aCL, aCy, CV.exact, CV.lstOf, CV.lenOf, CV.one, D.one, Value.oneCell', CV.toD0, iFl, oWn, pLk, nD0, rD0, bQ0, tQ0, kQ0, reduceCtorEq, reduceIte, Nat.reduceBEq, Nat.reduceEqDiff, Nat.reduceAdd, Nat.reduceMul, Nat.reduceSub, Nat.reduceLT, Nat.reduceLeDiff, Nat.reduceBNe, Int.reduceLE, Int.reduceLT, Int.reduceBEq, Int.reduceBNe, Int.reduceEq, Int.reduceNeg, Int.reduceAdd, Int.reduceSub, Int.reduceToNat, forall_const, sidesR, List.take_zero, Option.getD_some]
  rintro k ⟨hk, hks⟩
  obtain ⟨u, hu⟩ := Option.isSome_iff_exists.1 hks
  have hinv := sidesR_inv sides s (sides.take k) s u 0 0 hinv0 hu
  rw [Nat.zero_add, List.length_take, Nat.min_eq_left hk] at hinv
  have hp1 := hinv.grow.prods
  have hp2 := hinv.grow.opens
  have hp3 := hinv.grow.seen
  have huw := hinv.w
  have huv := hinv.v
  have hub := hinv.opb
  rw [hu, Option.getD_some]
  by_cases hkl : k < sides.length
  · have d2 : decide ((k : Int) < (sides.length : Int)) = true := decide_eq_true (by omega)
    have hge : sides[k]? = some sides[k] := List.getElem?_eq_getElem hkl
    have hwk : IntKind.i64.wrap ((k : Int) + 1) = ((k + 1 : Nat) : Int) := by rw [wrap_i64 (by omega)]; rfl
    have hxe := hse _ (List.getElem_mem hkl)
    have htk : sidesR sides s 0 (sides.take (k + 1)) = if sidesOkAt sides k = false then none else if (sideS u sides[k]).1 = false then none else some (sideS u sides[k]).2 := by
      rw [List.take_succ_eq_append_getElem hkl, sidesR_app, hu, Nat.zero_add, List.length_take, Nat.min_eq_left (by omega)]
      rfl
    have hno : sidesR sides s 0 (sides.take (k + 1)) = none → fold14 main sides = none := fun h => by
      rw [hfs, sidesR_none (k := k + 1) h]
    have hcase : (k = 0 ∧ sidesOkAt sides k = true) ∨ (0 < k ∧ ∃ y, sides[k - 1]? = some y ∧ sidesOkAt sides k = decide (y.pid < sides[k].pid)) := by
      cases k with
      | zero => exact .inl ⟨rfl, rfl⟩
      | succ j =>
        right
        have hgj : sides[j]? = some sides[j] := List.getElem?_eq_getElem (by omega)
        refine ⟨by omega, sides[j], hgj, ?_⟩
        unfold sidesOkAt
        rw [hge, Nat.add_sub_cancel, hgj]
    generalize sides[k] = x at *
    have c3 := side_fun14 u x ⟨by omega, by omega, hp3⟩ hxe
    generalize (sideS u x).2 = t at *
    rcases hcase with ⟨hk0, hokA⟩ | ⟨hk0, y, hgy, hokA⟩
    · have dz : decide ((0 : Int) < (k : Int)) = false := decide_eq_false (by omega)
      rw [hokA, if_neg (by simp)] at htk
      (refine gO (d2) ?_; try (with_reducible exact True.intro))
      (first | refine Wp.sregM mixed ?_ | refine Wp.regM mixed ?_ | (refine Wp.seq ?_; first | refine Wp.sregM mixed ?_ | refine Wp.regM mixed ?_))
      (refine MTr.at 22 (fun K hK => ?_); (refine rO (And.intro @GRUN (And.intro dz (hge))) ?_; try (with_reducible exact True.intro)); refine hK _ _ ?_; clear hK K)
      (refine MTr.call (c3) [(0, 1)] 300 rfl rfl ?_ ?_; (focus (simp (maxSteps := 2000000) (disch := omega) only [RUN, TY, RUNB, aop, ofV, SV.ofD, aLd, aSt, aFd, aPt, aLen, aSl, aIf, aMF, aXt, aBu, aCX, aCL, aCy, CV.exact, CV.lstOf, CV.lenOf, CV.one, D.one, Value.oneCell', CV.toD0, iFl, oWn, pLk, nD0, rD0, bQ0, tQ0, kQ0, reduceCtorEq, reduceIte, Nat.reduceBEq, Nat.reduceEqDiff, Nat.reduceAdd, Nat.reduceMul, Nat.reduceSub, Nat.reduceLT, Nat.reduceLeDiff, Nat.reduceBNe, Int.reduceLE, Int.reduceLT, Int.reduceBEq, Int.reduceBNe, Int.reduceEq, Int.reduceNeg, Int.reduceAdd, Int.reduceSub, Int.reduceToNat, forall_const, callG, atB, newB, callS, List.nil_append, Cap.sv, swp, SV.ren, CV.ren, HEREN, entry_fx, fx_nil, GRUN, waitsC_ren, List.map_cons, List.map_nil]; done)))
      (refine MTr.done (fun K hK => ?_); simp (maxSteps := 2000000) (disch := omega) only [RUN, TY, RUNB, aop, ofV, SV.ofD, aLd, aSt, aFd, aPt, aLen, aSl, aIf, aMF, aXt, aBu, aCX, aCL, aCy, CV.exact, CV.lstOf, CV.lenOf, CV.one, D.one, Value.oneCell', CV.toD0, iFl, oWn, pLk, nD0, rD0, bQ0, tQ0, kQ0, reduceCtorEq, reduceIte, Nat.reduceBEq, Nat.reduceEqDiff, Nat.reduceAdd, Nat.reduceMul, Nat.reduceSub, Nat.reduceLT, Nat.reduceLeDiff, Nat.reduceBNe, Int.reduceLE, Int.reduceLT, Int.reduceBEq, Int.reduceBNe, Int.reduceEq, Int.reduceNeg, Int.reduceAdd, Int.reduceSub, Int.reduceToNat, forall_const, GRUN, putB, swp, HEREN, SV.ren, CV.ren, waitsC_ren, List.map_cons, List.map_nil]; refine hK _ _ ?_; clear hK K; refine ⟨by kernel_rfl, ?_⟩)
      cases hn : (sideS u x).1 with
      | false =>
        rw [hn, if_pos rfl] at htk
        obtain ⟨q1, q2⟩ := hpz _ (hno htk)
        (refine gO0 ?_; try (with_reducible exact True.intro))
        (refine rO0 ?_; try (with_reducible exact True.intro))
        rw [q1, q2]
        exact ⟨_, rfl, hle⟩
      | true =>
        rw [hn, if_neg (by simp)] at htk
        (refine gO (hwk) ?_; try (with_reducible exact True.intro))
        refine ⟨k + 1, ⟨hkl, by rw [htk]; rfl⟩, by omega, ?_⟩
        rw [htk, Option.getD_some]
        refine Weak.keep rfl (okIds_f rfl) ?_
        (refine rO0 ?_; try (with_reducible exact True.intro))
    · have dz : decide ((0 : Int) < (k : Int)) = true := decide_eq_true (by omega)
      have hwm : IntKind.i64.wrap ((k : Int) - 1) = ((k - 1 : Nat) : Int) := by rw [wrap_i64 (by omega)]; omega
      by_cases hxy : y.pid < x.pid
      · have dle : decide (x.pid ≤ y.pid) = false := decide_eq_false (by omega)
        rw [hokA, decide_eq_true hxy, if_neg (by simp)] at htk
        (refine gO (d2) ?_; try (with_reducible exact True.intro))
        (first | refine Wp.sregM mixed ?_ | refine Wp.regM mixed ?_ | (refine Wp.seq ?_; first | refine Wp.sregM mixed ?_ | refine Wp.regM mixed ?_))
        (refine MTr.at 22 (fun K hK => ?_); (refine rO (And.intro @GRUN (And.intro dz (And.intro hge (And.intro hgy (And.intro hwm (dle)))))) ?_; try (with_reducible exact True.intro)); refine hK _ _ ?_; clear hK K)
        (refine MTr.call (c3) [(0, 1)] 300 rfl rfl ?_ ?_; (focus (simp (maxSteps := 2000000) (disch := omega) only [RUN, TY, RUNB, aop, ofV, SV.ofD, aLd, aSt, aFd, aPt, aLen, aSl, aIf, aMF, aXt, aBu, aCX, aCL, aCy, CV.exact, CV.lstOf, CV.lenOf, CV.one, D.one, Value.oneCell', CV.toD0, iFl, oWn, pLk, nD0, rD0, bQ0, tQ0, kQ0, reduceCtorEq, reduceIte, Nat.reduceBEq, Nat.reduceEqDiff, Nat.reduceAdd, Nat.reduceMul, Nat.reduceSub, Nat.reduceLT, Nat.reduceLeDiff, Nat.reduceBNe, Int.reduceLE, Int.reduceLT, Int.reduceBEq, Int.reduceBNe, Int.reduceEq, Int.reduceNeg, Int.reduceAdd, Int.reduceSub, Int.reduceToNat, forall_const, callG, atB, newB, callS, List.nil_append, Cap.sv, swp, SV.ren, CV.ren, HEREN, entry_fx, fx_nil, GRUN, waitsC_ren, List.map_cons, List.map_nil]; done)))
        (refine MTr.done (fun K hK => ?_); simp (maxSteps := 2000000) (disch := omega) only [RUN, TY, RUNB, aop, ofV, SV.ofD, aLd, aSt, aFd, aPt, aLen, aSl, aIf, aMF, aXt, aBu, aCX, aCL, aCy, CV.exact, CV.lstOf, CV.lenOf, CV.one, D.one, Value.oneCell', CV.toD0, iFl, oWn, pLk, nD0, rD0, bQ0, tQ0, kQ0, reduceCtorEq, reduceIte, Nat.reduceBEq, Nat.reduceEqDiff, Nat.reduceAdd, Nat.reduceMul, Nat.reduceSub, Nat.reduceLT, Nat.reduceLeDiff, Nat.reduceBNe, Int.reduceLE, Int.reduceLT, Int.reduceBEq, Int.reduceBNe, Int.reduceEq, Int.reduceNeg, Int.reduceAdd, Int.reduceSub, Int.reduceToNat, forall_const, GRUN, putB, swp, HEREN, SV.ren, CV.ren, waitsC_ren, List.map_cons, List.map_nil]; refine hK _ _ ?_; clear hK K; refine ⟨by kernel_rfl, ?_⟩)
        cases hn : (sideS u x).1 with
        | false =>
          rw [hn, if_pos rfl] at htk
          obtain ⟨q1, q2⟩ := hpz _ (hno htk)
          (refine gO0 ?_; try (with_reducible exact True.intro))
          (refine rO0 ?_; try (with_reducible exact True.intro))
          rw [q1, q2]
          exact ⟨_, rfl, hle⟩
        | true =>
          rw [hn, if_neg (by simp)] at htk
          (refine gO (hwk) ?_; try (with_reducible exact True.intro))
          refine ⟨k + 1, ⟨hkl, by rw [htk]; rfl⟩, by omega, ?_⟩
          rw [htk, Option.getD_some]
          refine Weak.keep rfl (okIds_f rfl) ?_
          (refine rO0 ?_; try (with_reducible exact True.intro))
      · have dle : decide (x.pid ≤ y.pid) = true := decide_eq_true (by omega)
        rw [hokA, decide_eq_false hxy, if_pos rfl] at htk
        obtain ⟨q1, q2⟩ := hpz _ (hno htk)
        (refine gO (And.intro d2 (And.intro dz (And.intro hge (And.intro hgy (And.intro hwm (dle)))))) ?_; try (with_reducible exact True.intro))
        (refine rO0 ?_; try (with_reducible exact True.intro))
        rw [q1, q2]
        exact ⟨_, rfl, hle⟩
  have hke : k = sides.length := by omega
  subst hke
  rw [List.take_length] at hu
  have hft : fold14 main sides = if u.w.all (waitOk u.p) then some u else none := by rw [hfs, hu]
  have d2 : decide ((sides.length : Int) < (sides.length : Int)) = false := by simp
  have hwl := waits_len u.w
  have hdiv : (waitsC u.w).length / 2 = u.w.length := by rw [hwl, Nat.mul_div_cancel _ (by decide)]
  have huwl : u.w.length ≤ 1000 := by rw [huw]; have := hok'.wts; omega
  have hub8 : ∀ x ∈ u.w, x.2.length ≤ 100000 ∧ ∀ b ∈ x.2, b.recs.length ≤ 100000 := fun x hx => by
    rw [huw] at hx
    exact ⟨by have := hok'.bats x hx; omega, fun b hb => by have := hok'.recs x hx b hb; omega⟩
  (refine gO (d2) ?_; try (with_reducible exact True.intro))
  refine Wp.loop (fun k : Nat => ⟨ofL [(0, .c (.d (.lst 18 (main.map EntD.dv)))), (1, .c (.d (.lst 2 (sides.map SideD.dv)))), (4, .c (.own 0 0)), (6, .c (.own 1 0)), (9, vi .i64 k)], ofH (fM u), 300, 98, 0⟩) (fun k => k ≤ u.w.length ∧ (u.w.take k).all (waitOk u.p) = true) (fun k => u.w.length - k) 0 ⟨Nat.zero_le _, rfl⟩ ?_ ?_
  · refine Weak.keep rfl (okIds_f rfl) ?_
    (refine rO0 ?_; try (with_reducible exact True.intro))
  rintro k ⟨hk, hka⟩
  by_cases hkl : k < u.w.length
  · have d3 : decide ((k : Int) < (u.w.length : Int)) = true := decide_eq_true (by omega)
    have hge : u.w[k]? = some u.w[k] := List.getElem?_eq_getElem hkl
    have hwk : IntKind.i64.wrap ((k : Int) + 1) = ((k + 1 : Nat) : Int) := by rw [wrap_i64 (by omega)]; rfl
    have hta : (u.w.take (k + 1)).all (waitOk u.p) = waitOk u.p u.w[k] := by
      rw [List.take_succ_eq_append_getElem hkl, List.all_append, hka]; simp
    have hbad : waitOk u.p u.w[k] = false → fold14 main sides = none := fun h => by
      rw [hft, if_neg]
      intro h2
      have := List.all_eq_true.1 h2 _ (List.getElem_mem hkl)
      rw [h] at this; cases this
    have hsub := waits_sub hge
    obtain ⟨hx1, hx2⟩ := hub8 _ (List.getElem_mem hkl)
    have hle2 : k * 2 + 2 ≤ (waitsC u.w).length := by omega
    generalize u.w[k] = x at *
    have c4 := waiting_fun14 u.p u.w x (by omega) ⟨hx1, hx2⟩ (fun o ho => by have := hub o ho; omega)
    (refine gO (And.intro hdiv (d3)) ?_; try (with_reducible exact True.intro))
    (first | refine Wp.sreg (fun K hK => ?_) | refine Wp.reg (fun K hK => ?_))
    (refine rO (And.intro hle2 (hsub)) ?_; try (with_reducible exact True.intro))
    refine bcall_s c4 rfl (snap_argF u x (by (refine rO (And.intro @endB.eq_1 (@endB.eq_2)) ?_; try (with_reducible exact True.intro)))) ?_
    (refine rO0 ?_; try (with_reducible exact True.intro))
    refine hK _ ?_
    clear hK K
    cases hwo : waitOk u.p x with
    | true =>
      (refine gO (hwk) ?_; try (with_reducible exact True.intro))
      refine ⟨k + 1, ⟨hkl, hta.trans hwo⟩, by omega, Weak.keep rfl (okIds_f rfl) ?_⟩
      (refine rO0 ?_; try (with_reducible exact True.intro))
    | false =>
      obtain ⟨q1, q2⟩ := hpz _ (hbad hwo)
      (refine gO0 ?_; try (with_reducible exact True.intro))
      (refine rO0 ?_; try (with_reducible exact True.intro))
      rw [q1, q2]
      exact ⟨_, rfl, hle⟩
  · have hke : k = u.w.length := by omega
    subst hke
    rw [List.take_length] at hka
    rw [hka, if_pos rfl] at hft
    have d3 : decide ((u.w.length : Int) < (u.w.length : Int)) = false := by simp
    rw [hft]
    (refine gO (And.intro hdiv (d3)) ?_; try (with_reducible exact True.intro))
    simp (maxSteps := 2000000) (disch := omega) only [RUN, TY, RUNB, aop, ofV, SV.ofD, aLd, aSt, aFd, aPt, aLen, aSl, aIf, aMF, aXt, aBu, aCX, aCL, aCy, CV.exact, CV.lstOf, CV.lenOf, CV.one, D.one, Value.oneCell', CV.toD0, iFl, oWn, pLk, nD0, rD0, bQ0, tQ0, kQ0, reduceCtorEq, reduceIte, Nat.reduceBEq, Nat.reduceEqDiff, Nat.reduceAdd, Nat.reduceMul, Nat.reduceSub, Nat.reduceLT, Nat.reduceLeDiff, Nat.reduceBNe, Int.reduceLE, Int.reduceLT, Int.reduceBEq, Int.reduceBNe, Int.reduceEq, Int.reduceNeg, Int.reduceAdd, Int.reduceSub, Int.reduceToNat, forall_const, bodyW, r14, PartD.dv]
    exact ⟨_, rfl, fun _ _ h => h⟩
end Go.Proofs.YtafipkbffboebaaDoor
