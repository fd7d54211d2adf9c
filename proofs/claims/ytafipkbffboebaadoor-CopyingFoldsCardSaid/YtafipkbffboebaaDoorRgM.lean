/- The abstract machine (RgA, RgB, RgC, RgD, PlA). -/
import Derived.Test.YtafipkbffboebaaDoorInMe
import Derived.Test.YtafipkbffboebaaDoorSqG
import Derived.Test.YtafipkbffboebaaDoorSqN
namespace Go.Proofs.YtafipkbffboebaaDoor
open Go Go.RowKit
set_option maxHeartbeats 4000000
set_option maxRecDepth 100000
set_option linter.unusedVariables false
set_option linter.unusedSimpArgs false
theorem refAdd_fun (p : PartD) (b : BatD) (hr : p.rows.length ≤ 1000000) (hb : b.recs.length ≤ 100000) (hf : -1000000000 ≤ p.fin ∧ p.fin ≤ 1000000000) :
    Fun Tryd.prog 73 [.agg p.dv, .agg b.dv] (.agg ({ p with rows := p.rows ++ rowsF b p.fin, fin := p.fin + (b.recs.length : Int) } : PartD).dv) := by
  have c1 := refRows_fun b p.fin hb
  have hrl : (rowsF b p.fin).length = b.recs.length := rowsT_len _ _ _
  have hb1 : p.rows.length * 56 ≤ 140737488355328 := by omega
  have hb2 : (p.rows.length + b.recs.length) * 56 ≤ 140737488355328 := by omega
  have hw : IntKind.i64.wrap (p.fin + (b.recs.length : Int)) = p.fin + (b.recs.length : Int) := wrap_i64 (by omega)
  simp only [BatD.dv] at c1
  (refine Fun.of_body Tryd.func73 rfl rfl Tryd.ntmps73 Tryd.results73 (by simp) ?_)
  (refine gO (And.intro @PartD.dv.eq_1 (And.intro @BatD.dv.eq_1 (And.intro hrl (And.intro hb1 (And.intro hb2 (And.intro hw (@List.length_map.{0,0}))))))) ?_; try (with_reducible exact True.intro))
  (refine rO (And.intro @PartD.dv.eq_1 (@List.map_append.{0,0})) ?_; try (with_reducible exact True.intro))
theorem refOpen_fun (p : PartD) (pid : Int) (hl : p.opens.length ≤ 100000) : Fun Tryd.prog 51 [.agg p.dv, int pid] (.tup [int (openI p.opens pid : Nat), boo (openB p.opens pid)]) := by
  have hile := openI_le p.opens pid
  (refine Fun.of_body Tryd.func51 rfl rfl Tryd.ntmps51 Tryd.results51 (by simp) ?_)
  (refine gO (@PartD.dv.eq_1) ?_; try (with_reducible exact True.intro))
  refine Wp.loop (fun k : Nat => ⟨ofL [(1, .c (.d (int pid))), (2, .c (.own 0 0)), (6, vi .i64 k)], ofH [(0, .cells (p.dv.map CV.d))], 1, 40, 0⟩) (fun k => k ≤ openI p.opens pid) (fun k => p.opens.length - k) 0 (Nat.zero_le _) ?_ ?_
  · refine Weak.keep rfl rfl ?_
    (refine rO (And.intro @PartD.dv.eq_1 (And.intro @List.map_cons.{0,0} (@List.map_nil.{0,0}))) ?_; try (with_reducible exact True.intro))
  intro k hk
  have hwk : IntKind.i64.wrap ((k : Int) + 1) = ((k + 1 : Nat) : Int) := by rw [wrap_i64 (by omega)]; rfl
  by_cases hkl : k < p.opens.length
  rotate_left
  · have d1 : decide ((k : Int) < (p.opens.length : Int)) = false := decide_eq_false (by omega)
    have hke : openI p.opens pid = k := by omega
    have hob : openB p.opens pid = false := by
      unfold openB
      rw [List.getElem?_eq_none (by omega)]
    rw [hob, hke]
    (refine gO (And.intro @PartD.dv.eq_1 (And.intro @List.map_cons.{0,0} (And.intro @List.map_nil.{0,0} (And.intro @List.length_map.{0,0} (d1))))) ?_; try (with_reducible exact True.intro))
    (refine rO0 ?_; try (with_reducible exact True.intro))
  have d1 : decide ((k : Int) < (p.opens.length : Int)) = true := decide_eq_true (by omega)
  have hge : p.opens[k]? = some p.opens[k] := List.getElem?_eq_getElem hkl
  by_cases hki : k < openI p.opens pid
  · obtain ⟨_, hlt⟩ := openI_lt hki
    have d2 : decide (p.opens[k].pid < pid) = true := decide_eq_true hlt
    generalize p.opens[k] = o at *
    (refine gO (And.intro @PartD.dv.eq_1 (And.intro @List.map_cons.{0,0} (And.intro @List.map_nil.{0,0} (And.intro @List.length_map.{0,0} (And.intro d1 (And.intro hge (And.intro @OpenD.dv.eq_1 (And.intro d2 (hwk))))))))) ?_; try (with_reducible exact True.intro))
    refine ⟨k + 1, hki, by omega, Weak.keep rfl rfl ?_⟩
    (refine rO (And.intro @PartD.dv.eq_1 (And.intro @List.map_cons.{0,0} (@List.map_nil.{0,0}))) ?_; try (with_reducible exact True.intro))
  · have hke : openI p.opens pid = k := by omega
    have hg := openI_ge (l := p.opens) (pid := pid) (by rw [hke]; exact hkl)
    simp only [hke] at hg
    have d2 : decide (p.opens[k].pid < pid) = false := decide_eq_false (by omega)
    have hob : openB p.opens pid = (p.opens[k].pid == pid) := by
      unfold openB
      rw [hke, hge]
    rw [hob, hke]
    generalize p.opens[k] = o at *
    (refine gO (And.intro @PartD.dv.eq_1 (And.intro @List.map_cons.{0,0} (And.intro @List.map_nil.{0,0} (And.intro @List.length_map.{0,0} (And.intro d1 (And.intro hge (And.intro @OpenD.dv.eq_1 (And.intro d2 (hwk))))))))) ?_; try (with_reducible exact True.intro))
    (refine rO0 ?_; try (with_reducible exact True.intro))
end Go.Proofs.YtafipkbffboebaaDoor
namespace Go.Proofs.YtafipkbffboebaaDoor
open Go Go.RowKit
set_option maxHeartbeats 4000000
set_option maxRecDepth 100000
set_option linter.unusedVariables false
set_option linter.unusedSimpArgs false
theorem refPutNew_fun (p : PartD) (b : BatD) (hl : p.opens.length ≤ 100000) (hb : openB p.opens b.pid = false) :
    Fun Tryd.prog 50 [.agg p.dv, .agg b.dv] (.tup [.agg ({ p with opens := p.opens.take (openI p.opens b.pid) ++ (⟨b.pid, b.epoch, [b]⟩ : OpenD) :: p.opens.drop (openI p.opens b.pid) } : PartD).dv, boo true]) := by
  have c1 := refOpen_fun p b.pid hl
  rw [hb] at c1
  simp only [PartD.dv] at c1
  have hle1 := openI_le p.opens b.pid
  generalize openI p.opens b.pid = i at *
  have hta : ((p.opens.map OpenD.dv).take i).length = i := by rw [List.length_take, List.length_map]; omega
  have hdl : ((p.opens.map OpenD.dv).drop i).take (p.opens.length - i) = (p.opens.map OpenD.dv).drop i := List.take_of_length_le (by simp)
  have hdl2 : ((p.opens.map OpenD.dv).drop i).length = p.opens.length - i := by rw [List.length_drop, List.length_map]
  have hta2 : ((p.opens.map OpenD.dv).take i ++ [[int b.pid, int b.epoch, .lst 5 [[int b.pid, int b.epoch, int b.seq, boo b.txn, .lst 2 (b.recs.map RecD.dv)]]]]).length = i + 1 := by rw [List.length_append, hta]; rfl
  have hb1 : i * 40 ≤ 140737488355328 := by omega
  have hb2 : (i + 1) * 40 ≤ 140737488355328 := by omega
  have hb3 : (i + 1 + (p.opens.length - i)) * 40 ≤ 140737488355328 := by omega
  (refine Fun.of_bodyW Tryd.func50 rfl rfl Tryd.ntmps50 Tryd.results50 (by simp) ?_)
  (refine gO (And.intro @PartD.dv.eq_1 (And.intro @BatD.dv.eq_1 (And.intro hle1 (And.intro @List.length_map.{0,0} (And.intro hta (And.intro hta2 (And.intro hdl (And.intro hdl2 (And.intro hb1 (And.intro hb2 (And.intro hb3 (@List.nil_append.{0})))))))))))) ?_; try (with_reducible exact True.intro))
  (refine rO (And.intro @PartD.dv.eq_1 (And.intro @OpenD.dv.eq_1 (And.intro @BatD.dv.eq_1 (And.intro @List.map_append.{0,0} (And.intro @List.map_take.{0,0} (And.intro @List.map_drop.{0,0} (And.intro @List.map_cons.{0,0} (And.intro @List.map_nil.{0,0} (And.intro @List.append_assoc.{0} (And.intro @List.cons_append.{0} (@List.nil_append.{0}))))))))))) ?_; try (with_reducible exact True.intro))
  exact ⟨_, rfl, fun K v h => h⟩
theorem refPutNo_fun (p : PartD) (b : BatD) (hl : p.opens.length ≤ 100000) (hb : openB p.opens b.pid = true) (o : OpenD) (hi : p.opens[openI p.opens b.pid]? = some o) (hno : o.epoch ≠ b.epoch ∨ 8 ≤ o.bats.length) :
    Fun Tryd.prog 50 [.agg p.dv, .agg b.dv] (.tup [.agg p.dv, boo false]) := by
  have c1 := refOpen_fun p b.pid hl
  rw [hb] at c1
  simp only [PartD.dv] at c1
  have hlt := (List.getElem?_eq_some_iff.1 hi).1
  generalize openI p.opens b.pid = i at *
  have hle1 : i ≤ p.opens.length := by omega
  have hta : ((p.opens.map OpenD.dv).take i).length = i := by rw [List.length_take, List.length_map]; omega
  have hb1 : i * 40 ≤ 140737488355328 := by omega
  (refine Fun.of_body Tryd.func50 rfl rfl Tryd.ntmps50 Tryd.results50 (by simp) ?_)
  by_cases h1 : o.epoch = b.epoch
  · have d1 : (o.epoch != b.epoch) = false := by simp [h1]
    have d2 : decide (8 ≤ (o.bats.length : Int)) = true := by
      rcases hno with h | h
      · exact absurd h1 h
      · exact decide_eq_true (by omega)
    (refine gO (And.intro @PartD.dv.eq_1 (And.intro @BatD.dv.eq_1 (And.intro @OpenD.dv.eq_1 (And.intro hi (And.intro hle1 (And.intro @List.length_map.{0,0} (And.intro hta (And.intro hb1 (And.intro @List.nil_append.{0} (And.intro d1 (d2))))))))))) ?_; try (with_reducible exact True.intro))
    (refine rO (@PartD.dv.eq_1) ?_; try (with_reducible exact True.intro))
  · have d1 : (o.epoch != b.epoch) = true := by simpa using h1
    (refine gO (And.intro @PartD.dv.eq_1 (And.intro @BatD.dv.eq_1 (And.intro @OpenD.dv.eq_1 (And.intro hi (And.intro hle1 (And.intro @List.length_map.{0,0} (And.intro hta (And.intro hb1 (And.intro @List.nil_append.{0} (d1)))))))))) ?_; try (with_reducible exact True.intro))
    (refine rO (@PartD.dv.eq_1) ?_; try (with_reducible exact True.intro))
theorem refPutAdd_fun (p : PartD) (b : BatD) (hl : p.opens.length ≤ 100000) (hb : openB p.opens b.pid = true) (o : OpenD) (hi : p.opens[openI p.opens b.pid]? = some o) (hep : o.epoch = b.epoch) (hbl : o.bats.length < 8) :
    Fun Tryd.prog 50 [.agg p.dv, .agg b.dv] (.tup [.agg ({ p with opens := p.opens.take (openI p.opens b.pid) ++ (⟨b.pid, b.epoch, o.bats ++ [b]⟩ : OpenD) :: p.opens.drop (openI p.opens b.pid + 1) } : PartD).dv, boo true]) := by
  have c1 := refOpen_fun p b.pid hl
  rw [hb] at c1
  simp only [PartD.dv] at c1
  have hlt := (List.getElem?_eq_some_iff.1 hi).1
  generalize openI p.opens b.pid = i at *
  have hle1 : i ≤ p.opens.length := by omega
  have hle2 : i + 1 ≤ p.opens.length := hlt
  have hta : ((p.opens.map OpenD.dv).take i).length = i := by rw [List.length_take, List.length_map]; omega
  have hdl : ((p.opens.map OpenD.dv).drop (i + 1)).take (p.opens.length - (i + 1)) = (p.opens.map OpenD.dv).drop (i + 1) := List.take_of_length_le (by simp)
  have hdl2 : ((p.opens.map OpenD.dv).drop (i + 1)).length = p.opens.length - (i + 1) := by rw [List.length_drop, List.length_map]
  have htn : ((i : Int) + 1).toNat = i + 1 := by omega
  have hnn : ((0 : Int) ≤ (i : Int) + 1) = True := by simp; omega
  have d1 : (o.epoch != b.epoch) = false := by simp [hep]
  have d2 : decide (8 ≤ (o.bats.length : Int)) = false := decide_eq_false (by omega)
  have hb1 : i * 40 ≤ 140737488355328 := by omega
  have hb4 : o.bats.length * 56 ≤ 140737488355328 := by omega
  have hb5 : (o.bats.length + 1) * 56 ≤ 140737488355328 := by omega
  have hb2 : (i + 1) * 40 ≤ 140737488355328 := by omega
  have hb3 : (i + 1 + (p.opens.length - (i + 1))) * 40 ≤ 140737488355328 := by omega
  have hta2 : ((p.opens.map OpenD.dv).take i ++ [[int b.pid, int b.epoch, .lst 5 (o.bats.map BatD.dv ++ [[int b.pid, int b.epoch, int b.seq, boo b.txn, .lst 2 (b.recs.map RecD.dv)]])]]).length = i + 1 := by rw [List.length_append, hta]; rfl
  (refine Fun.of_bodyW Tryd.func50 rfl rfl Tryd.ntmps50 Tryd.results50 (by simp) ?_)
  (refine gO (And.intro @PartD.dv.eq_1 (And.intro @BatD.dv.eq_1 (And.intro @OpenD.dv.eq_1 (And.intro hi (And.intro hle1 (And.intro hle2 (And.intro @List.length_map.{0,0} (And.intro hta (And.intro hta2 (And.intro hdl (And.intro hdl2 (And.intro htn (And.intro hnn (And.intro hb1 (And.intro hb2 (And.intro hb3 (And.intro hb4 (And.intro hb5 (And.intro @List.nil_append.{0} (And.intro d1 (d2))))))))))))))))))))) ?_; try (with_reducible exact True.intro))
  (refine rO (And.intro @PartD.dv.eq_1 (And.intro @OpenD.dv.eq_1 (And.intro @BatD.dv.eq_1 (And.intro @List.map_append.{0,0} (And.intro @List.map_take.{0,0} (And.intro @List.map_drop.{0,0} (And.intro @List.map_cons.{0,0} (And.intro @List.map_nil.{0,0} (And.intro @List.append_assoc.{0} (And.intro @List.cons_append.{0} (@List.nil_append.{0}))))))))))) ?_; try (with_reducible exact True.intro))
  exact ⟨_, rfl, fun K v h => h⟩
end Go.Proofs.YtafipkbffboebaaDoor
namespace Go.Proofs.YtafipkbffboebaaDoor
open Go Go.RowKit
set_option maxHeartbeats 4000000
set_option maxRecDepth 100000
set_option linter.unusedVariables false
set_option linter.unusedSimpArgs false
theorem refPlain_fun (p : PartD) (b : BatD) (hl : p.opens.length ≤ 100000) (hs : SmallL p.prods) (hb : b.recs.length ≤ 100000) (hr : p.rows.length ≤ 1000000) (hf : -1000000000 ≤ p.fin ∧ p.fin ≤ 1000000000) :
    Fun Tryd.prog 45 [.agg p.dv, .agg b.dv] (.tup [.agg (if openB p.opens b.pid = true ∨ b.txn = true ∨ (takeF p.prods b p.fin).2 ≠ 0 then p else ({ p with prods := (takeF p.prods b p.fin).1, rows := p.rows ++ rowsF b p.fin, fin := p.fin + (b.recs.length : Int) } : PartD)).dv,
      boo (decide (¬ (openB p.opens b.pid = true ∨ b.txn = true ∨ (takeF p.prods b p.fin).2 ≠ 0)))]) := by
  have c1 := refOpen_fun p b.pid hl
  have c2 := refTake_fun10 p.prods b p.fin hs hb
  have c3 := refAdd_fun { p with prods := (takeF p.prods b p.fin).1 } b hr hb hf
  simp only [PartD.dv, BatD.dv] at c1 c2 c3
  (refine Fun.of_bodyW Tryd.func45 rfl rfl Tryd.ntmps45 Tryd.results45 (by simp) ?_)
  cases ho : openB p.opens b.pid with
  | true =>
    rw [ho] at c1
    (refine gO (And.intro @PartD.dv.eq_1 (@BatD.dv.eq_1)) ?_; try (with_reducible exact True.intro))
    (refine rO (@PartD.dv.eq_1) ?_; try (with_reducible exact True.intro))
    simp
  | false =>
    rw [ho] at c1
    cases ht : b.txn with
    | true =>
      rw [ht] at c2 c3
      (refine gO (And.intro @PartD.dv.eq_1 (And.intro @BatD.dv.eq_1 (ht))) ?_; try (with_reducible exact True.intro))
      (refine rO (And.intro @PartD.dv.eq_1 (ht)) ?_; try (with_reducible exact True.intro))
      simp
    | false =>
      rw [ht] at c2 c3
      by_cases hz : (takeF p.prods b p.fin).2 = 0
      · have d1 : ((takeF p.prods b p.fin).2 != 0) = false := by simp [hz]
        (refine gO (And.intro @PartD.dv.eq_1 (And.intro @BatD.dv.eq_1 (And.intro ht (d1)))) ?_; try (with_reducible exact True.intro))
        (refine rO (And.intro @PartD.dv.eq_1 (And.intro ht (d1))) ?_; try (with_reducible exact True.intro))
        simp [hz]
      · have d1 : ((takeF p.prods b p.fin).2 != 0) = true := by simpa using hz
        (refine gO (And.intro @PartD.dv.eq_1 (And.intro @BatD.dv.eq_1 (And.intro ht (d1)))) ?_; try (with_reducible exact True.intro))
        (refine rO (And.intro @PartD.dv.eq_1 (And.intro ht (d1))) ?_; try (with_reducible exact True.intro))
        simp [hz]
end Go.Proofs.YtafipkbffboebaaDoor
namespace Go.Proofs.YtafipkbffboebaaDoor
open Go Go.RowKit
set_option maxHeartbeats 4000000
set_option maxRecDepth 100000
set_option linter.unusedVariables false
set_option linter.unusedSimpArgs false
def clearR (l : List ProdD) (pid : Int) : List ProdD := if (findF l pid).2 = true then setF l ⟨(findF l pid).1.pid, (findF l pid).1.epoch, (findF l pid).1.next, []⟩ else l
theorem refClear_fun10 (l : List ProdD) (pid : Int) (hs : SmallL l) : Fun Tryd.prog 77 [.lst 4 (l.map ProdD.dv), int pid] (.lst 4 ((clearR l pid).map ProdD.dv)) := by
  have c1 := refFind_fun10 l pid hs
  have c2 := (refSet_fun10 l ⟨(findF l pid).1.pid, (findF l pid).1.epoch, (findF l pid).1.next, []⟩ hs).args (xs := [.lst 4 (l.map ProdD.dv), .agg [int (findF l pid).1.pid, int (findF l pid).1.epoch, int (findF l pid).1.next, nilV]]) (.cons (.refl _) (.cons (.agg (.cons (.refl _) (.cons (.refl _) (.cons (.refl _) (.cons (.nil 3) .nil))))) .nil))
  unfold clearR
  simp only [ProdD.dv] at c1
  generalize findF l pid = f at *
  obtain ⟨q, b⟩ := f
  (refine Fun.of_body Tryd.func77 rfl rfl Tryd.ntmps77 Tryd.results77 (by simp) ?_)
  cases b with
  | true =>
    (refine gO (@ProdD.dv.eq_1) ?_; try (with_reducible exact True.intro))
    (refine rO (@if_true.{1}) ?_; try (with_reducible exact True.intro))
  | false =>
    (refine gO (@ProdD.dv.eq_1) ?_; try (with_reducible exact True.intro))
    (refine rO0 ?_; try (with_reducible exact True.intro))
end Go.Proofs.YtafipkbffboebaaDoor
namespace Go.Proofs.YtafipkbffboebaaDoor
open Go Go.RowKit
set_option maxHeartbeats 4000000
set_option maxRecDepth 100000
set_option linter.unusedVariables false
set_option linter.unusedSimpArgs false
theorem findF_cons (x : ProdD) (l : List ProdD) (pid : Int) : findF (x :: l) pid = if x.pid = pid then (x, true) else findF l pid := by
  unfold findF
  by_cases h : x.pid = pid
  · simp [h]
  · have h' : (x.pid == pid) = false := by simpa using h
    rw [List.find?_cons_of_neg (by simp [h']), if_neg h]
theorem take_may {l : List ProdD} {b : BatD} {base : Int} (h : (takeF l b base).2 = 0) : mayL (takeF l b base).1 = true := by
  obtain ⟨a1, a2, a3, a4⟩ := takeF_ok h
  rw [a4]
  exact may_set (checkF_may a2).1 (known_new a1 a2 a3)
theorem takeF_iff (l : List ProdD) (b : BatD) (base : Int) (hb : -1 ≤ base ∧ base ≤ 1048576) : (takeF l b base).2 = 0 ↔ (checkF l b).2.2 = 0 ∧ (checkF l b).2.1 = false :=
  ⟨fun h => ⟨(takeF_ok h).2.1, (takeF_ok h).2.2.1⟩, fun h => takeF_fine l b base h.1 h.2 hb⟩
/-- The document's step. -/
def plainR (p : PartD) (b : BatD) : Option PartD :=
  if openB p.opens b.pid = true ∨ b.txn = true ∨ (takeF p.prods b p.fin).2 ≠ 0 then none else some { p with prods := (takeF p.prods b p.fin).1, rows := p.rows ++ rowsF b p.fin, fin := p.fin + (b.recs.length : Int) }
def putR (p : PartD) (b : BatD) : Option PartD :=
  match openB p.opens b.pid, p.opens[openI p.opens b.pid]? with
  | true, some o => if o.epoch ≠ b.epoch ∨ 8 ≤ o.bats.length then none else some { p with opens := p.opens.take (openI p.opens b.pid) ++ (⟨b.pid, b.epoch, o.bats ++ [b]⟩ : OpenD) :: p.opens.drop (openI p.opens b.pid + 1) }
  | _, _ => some { p with opens := p.opens.take (openI p.opens b.pid) ++ (⟨b.pid, b.epoch, [b]⟩ : OpenD) :: p.opens.drop (openI p.opens b.pid) }
def txnR (p : PartD) (b : BatD) : Option PartD :=
  if (takeF p.prods b (-1)).2 ≠ 0 then none else match putR p b with
  | some q => some { q with prods := (takeF p.prods b (-1)).1 }
  | none => none
def bothR (p : PartD) (e : EntD) : Option PartD :=
  if e.kind = 2 then (if e.off < p.start ∨ p.fin < e.off then none else some { p with start := e.off, rows := keepF (cutP e.off) p.rows })
  else if e.kind = 5 then some { p with rows := p.rows ++ [{ e.row with off := p.fin }], fin := p.fin + 1 }
  else if e.kind = 6 then (if openB p.opens e.prod.pid = true then none else some { p with prods := setF p.prods e.prod })
  else none
end Go.Proofs.YtafipkbffboebaaDoor
