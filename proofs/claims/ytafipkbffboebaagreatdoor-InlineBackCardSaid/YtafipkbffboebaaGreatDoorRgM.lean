/- The abstract machine (RgA, RgB, RgC, RgD, PlA). -/
import Derived.Test.YtafipkbffboebaaGreatDoorInMe
import Derived.Test.YtafipkbffboebaaGreatDoorSqG
import Derived.Test.YtafipkbffboebaaGreatDoorSqN
namespace Go.Proofs.YtafipkbffboebaaGreatDoor
open Go Go.RowKit
set_option maxHeartbeats 4000000
set_option maxRecDepth 100000
set_option linter.unusedVariables false
set_option linter.unusedSimpArgs false
theorem refAdd_fun (p : PartD) (b : BatD) (hr : p.rows.length ≤ 1000000) (hb : b.recs.length ≤ 100000) (hf : -1000000000 ≤ p.fin ∧ p.fin ≤ 1000000000) :
    Fun Tryz.prog 92 [.agg p.dv, .agg b.dv] (.agg ({ p with rows := p.rows ++ rowsF b p.fin, fin := p.fin + (b.recs.length : Int) } : PartD).dv) := by
  have c1 := refRows_fun b p.fin hb
  have hrl : (rowsF b p.fin).length = b.recs.length := rowsT_len _ _ _
  have hb1 : p.rows.length * 56 ≤ 140737488355328 := by omega
  have hb2 : (p.rows.length + b.recs.length) * 56 ≤ 140737488355328 := by omega
  have hw : IntKind.i64.wrap (p.fin + (b.recs.length : Int)) = p.fin + (b.recs.length : Int) := wrap_i64 (by omega)
  simp only [BatD.dv] at c1
  (refine Fun.of_body Tryz.func92 rfl rfl Tryz.ntmps92 Tryz.results92 (by simp) ?_)
  (refine gO (And.intro @PartD.dv.eq_1 (And.intro @BatD.dv.eq_1 (And.intro hrl (And.intro hb1 (And.intro hb2 (And.intro hw (@List.length_map.{0,0}))))))) ?_; try (with_reducible exact True.intro))
  (refine rO (And.intro @PartD.dv.eq_1 (@List.map_append.{0,0})) ?_; try (with_reducible exact True.intro))
theorem refOpen_fun (p : PartD) (pid : Int) (hl : p.opens.length ≤ 100000) : Fun Tryz.prog 90 [.agg p.dv, int pid] (.tup [int (openI p.opens pid : Nat), boo (openB p.opens pid)]) := by
  have hile := openI_le p.opens pid
  (refine Fun.of_body Tryz.func90 rfl rfl Tryz.ntmps90 Tryz.results90 (by simp) ?_)
  (refine gO (@PartD.dv.eq_1) ?_; try (with_reducible exact True.intro))
  refine Wp.loop (fun k : Nat => ⟨ofL [(1, .c (.d (int pid))), (2, .c (.own 0 0)), (6, vi .i64 k)], ofH [(0, .cells (p.dv.map CV.d))], 1, 40, 0⟩) (fun k => k ≤ openI p.opens pid) (fun k => p.opens.length - k) 0 (Nat.zero_le _) ?_ ?_
  · refine Weak.keep rfl rfl ?_
    (refine rO (And.intro @PartD.dv.eq_1 (And.intro @List.map_cons.{0,0} (@List.map_nil.{0,0}))) ?_; try (with_reducible exact True.intro))
  intro k hk
  have hwk : IntKind.i64.wrap ((k : Int) + 1) = ((k + 1 : Nat) : Int) := by rw [wrap_i64 (by omega)]; rfl
  by_cases hkl : k < p.opens.length
  rotate_left
  · have d1 : decide ((k : Int) < (p.opens.length : Int)) = false := decide_eq_false (by omega)
    have hke : openI p.opens pid = k := by omega
    have hob : openB p.opens pid = false := by
      unfold openB
      rw [List.getElem?_eq_none (by omega)]
    rw [hob, hke]
    (refine gO (And.intro @PartD.dv.eq_1 (And.intro @List.map_cons.{0,0} (And.intro @List.map_nil.{0,0} (And.intro @List.length_map.{0,0} (d1))))) ?_; try (with_reducible exact True.intro))
    (refine rO0 ?_; try (with_reducible exact True.intro))
  have d1 : decide ((k : Int) < (p.opens.length : Int)) = true := decide_eq_true (by omega)
  have hge : p.opens[k]? = some p.opens[k] := List.getElem?_eq_getElem hkl
  by_cases hki : k < openI p.opens pid
  · obtain ⟨_, hlt⟩ := openI_lt hki
    have d2 : decide (p.opens[k].pid < pid) = true := decide_eq_true hlt
    generalize p.opens[k] = o at *
    (refine gO (And.intro @PartD.dv.eq_1 (And.intro @List.map_cons.{0,0} (And.intro @List.map_nil.{0,0} (And.intro @List.length_map.{0,0} (And.intro d1 (And.intro hge (And.intro @OpenD.dv.eq_1 (And.intro d2 (hwk))))))))) ?_; try (with_reducible exact True.intro))
    refine ⟨k + 1, hki, by omega, Weak.keep rfl rfl ?_⟩
    (refine rO (And.intro @PartD.dv.eq_1 (And.intro @List.map_cons.{0,0} (@List.map_nil.{0,0}))) ?_; try (with_reducible exact True.intro))
  · have hke : openI p.opens pid = k := by omega
    have hg := openI_ge (l := p.opens) (pid := pid) (by rw [hke]; exact hkl)
    simp only [hke] at hg
    have d2 : decide (p.opens[k].pid < pid) = false := decide_eq_false (by omega)
    have hob : openB p.opens pid = (p.opens[k].pid == pid) := by
      unfold openB
      rw [hke, hge]
    rw [hob, hke]
    generalize p.opens[k] = o at *
    (refine gO (And.intro @PartD.dv.eq_1 (And.intro @List.map_cons.{0,0} (And.intro @List.map_nil.{0,0} (And.intro @List.length_map.{0,0} (And.intro d1 (And.intro hge (And.intro @OpenD.dv.eq_1 (And.intro d2 (hwk))))))))) ?_; try (with_reducible exact True.intro))
    (refine rO0 ?_; try (with_reducible exact True.intro))
end Go.Proofs.YtafipkbffboebaaGreatDoor
namespace Go.Proofs.YtafipkbffboebaaGreatDoor
open Go Go.RowKit
set_option maxHeartbeats 4000000
set_option maxRecDepth 100000
set_option linter.unusedVariables false
set_option linter.unusedSimpArgs false
theorem refAway_fun (p : PartD) (pid : Int) (hl : p.opens.length ≤ 100000) (o : OpenD) (hb : openB p.opens pid = true) (hi : p.opens[openI p.opens pid]? = some o) :
    Fun Tryz.prog 91 [.agg p.dv, int pid] (.tup [.agg ({ p with opens := p.opens.take (openI p.opens pid) ++ p.opens.drop (openI p.opens pid + 1) } : PartD).dv, .lst 5 (o.bats.map BatD.dv)]) := by
  have c1 := refOpen_fun p pid hl
  rw [hb] at c1
  simp only [PartD.dv] at c1
  have hlt := (List.getElem?_eq_some_iff.1 hi).1
  generalize openI p.opens pid = i at *
  have hle1 : i ≤ p.opens.length := by omega
  have hle2 : i + 1 ≤ p.opens.length := hlt
  have hta : ((p.opens.map OpenD.dv).take i).length = i := by rw [List.length_take, List.length_map]; omega
  have hdl : ((p.opens.map OpenD.dv).drop (i + 1)).take (p.opens.length - (i + 1)) = (p.opens.map OpenD.dv).drop (i + 1) := List.take_of_length_le (by simp)
  have hdl2 : ((p.opens.map OpenD.dv).drop (i + 1)).length = p.opens.length - (i + 1) := by rw [List.length_drop, List.length_map]
  have htn : ((i : Int) + 1).toNat = i + 1 := by omega
  have hnn : ((0 : Int) ≤ (i : Int) + 1) = True := by simp; omega
  have hb1 : i * 40 ≤ 140737488355328 := by omega
  have hb2 : (i + (p.opens.length - (i + 1))) * 40 ≤ 140737488355328 := by omega
  (refine Fun.of_bodyW Tryz.func91 rfl rfl Tryz.ntmps91 Tryz.results91 (by simp) ?_)
  (refine gO (And.intro @PartD.dv.eq_1 (And.intro hi (And.intro @OpenD.dv.eq_1 (And.intro hle1 (And.intro hle2 (And.intro @List.length_map.{0,0} (And.intro hta (And.intro hdl (And.intro hdl2 (And.intro htn (And.intro hnn (And.intro hb1 (And.intro hb2 (@List.nil_append.{0})))))))))))))) ?_; try (with_reducible exact True.intro))
  (refine rO (And.intro @PartD.dv.eq_1 (And.intro @List.map_append.{0,0} (And.intro @List.map_take.{0,0} (@List.map_drop.{0,0})))) ?_; try (with_reducible exact True.intro))
  exact ⟨_, rfl, fun K v h => h⟩
theorem refPutNew_fun (p : PartD) (b : BatD) (hl : p.opens.length ≤ 100000) (hb : openB p.opens b.pid = false) :
    Fun Tryz.prog 89 [.agg p.dv, .agg b.dv] (.tup [.agg ({ p with opens := p.opens.take (openI p.opens b.pid) ++ (⟨b.pid, b.epoch, [b]⟩ : OpenD) :: p.opens.drop (openI p.opens b.pid) } : PartD).dv, boo true]) := by
  have c1 := refOpen_fun p b.pid hl
  rw [hb] at c1
  simp only [PartD.dv] at c1
  have hle1 := openI_le p.opens b.pid
  generalize openI p.opens b.pid = i at *
  have hta : ((p.opens.map OpenD.dv).take i).length = i := by rw [List.length_take, List.length_map]; omega
  have hdl : ((p.opens.map OpenD.dv).drop i).take (p.opens.length - i) = (p.opens.map OpenD.dv).drop i := List.take_of_length_le (by simp)
  have hdl2 : ((p.opens.map OpenD.dv).drop i).length = p.opens.length - i := by rw [List.length_drop, List.length_map]
  have hta2 : ((p.opens.map OpenD.dv).take i ++ [[int b.pid, int b.epoch, .lst 5 [[int b.pid, int b.epoch, int b.seq, boo b.txn, .lst 2 (b.recs.map RecD.dv)]]]]).length = i + 1 := by rw [List.length_append, hta]; rfl
  have hb1 : i * 40 ≤ 140737488355328 := by omega
  have hb2 : (i + 1) * 40 ≤ 140737488355328 := by omega
  have hb3 : (i + 1 + (p.opens.length - i)) * 40 ≤ 140737488355328 := by omega
  (refine Fun.of_bodyW Tryz.func89 rfl rfl Tryz.ntmps89 Tryz.results89 (by simp) ?_)
  (refine gO (And.intro @PartD.dv.eq_1 (And.intro @BatD.dv.eq_1 (And.intro hle1 (And.intro @List.length_map.{0,0} (And.intro hta (And.intro hta2 (And.intro hdl (And.intro hdl2 (And.intro hb1 (And.intro hb2 (And.intro hb3 (@List.nil_append.{0})))))))))))) ?_; try (with_reducible exact True.intro))
  (refine rO (And.intro @PartD.dv.eq_1 (And.intro @OpenD.dv.eq_1 (And.intro @BatD.dv.eq_1 (And.intro @List.map_append.{0,0} (And.intro @List.map_take.{0,0} (And.intro @List.map_drop.{0,0} (And.intro @List.map_cons.{0,0} (And.intro @List.map_nil.{0,0} (And.intro @List.append_assoc.{0} (And.intro @List.cons_append.{0} (@List.nil_append.{0}))))))))))) ?_; try (with_reducible exact True.intro))
  exact ⟨_, rfl, fun K v h => h⟩
theorem refPutNo_fun (p : PartD) (b : BatD) (hl : p.opens.length ≤ 100000) (hb : openB p.opens b.pid = true) (o : OpenD) (hi : p.opens[openI p.opens b.pid]? = some o) (hno : o.epoch ≠ b.epoch ∨ 8 ≤ o.bats.length) :
    Fun Tryz.prog 89 [.agg p.dv, .agg b.dv] (.tup [.agg p.dv, boo false]) := by
  have c1 := refOpen_fun p b.pid hl
  rw [hb] at c1
  simp only [PartD.dv] at c1
  have hlt := (List.getElem?_eq_some_iff.1 hi).1
  generalize openI p.opens b.pid = i at *
  have hle1 : i ≤ p.opens.length := by omega
  have hta : ((p.opens.map OpenD.dv).take i).length = i := by rw [List.length_take, List.length_map]; omega
  have hb1 : i * 40 ≤ 140737488355328 := by omega
  (refine Fun.of_body Tryz.func89 rfl rfl Tryz.ntmps89 Tryz.results89 (by simp) ?_)
  by_cases h1 : o.epoch = b.epoch
  · have d1 : (o.epoch != b.epoch) = false := by simp [h1]
    have d2 : decide (8 ≤ (o.bats.length : Int)) = true := by
      rcases hno with h | h
      · exact absurd h1 h
      · exact decide_eq_true (by omega)
    (refine gO (And.intro @PartD.dv.eq_1 (And.intro @BatD.dv.eq_1 (And.intro @OpenD.dv.eq_1 (And.intro hi (And.intro hle1 (And.intro @List.length_map.{0,0} (And.intro hta (And.intro hb1 (And.intro @List.nil_append.{0} (And.intro d1 (d2))))))))))) ?_; try (with_reducible exact True.intro))
    (refine rO (@PartD.dv.eq_1) ?_; try (with_reducible exact True.intro))
  · have d1 : (o.epoch != b.epoch) = true := by simpa using h1
    (refine gO (And.intro @PartD.dv.eq_1 (And.intro @BatD.dv.eq_1 (And.intro @OpenD.dv.eq_1 (And.intro hi (And.intro hle1 (And.intro @List.length_map.{0,0} (And.intro hta (And.intro hb1 (And.intro @List.nil_append.{0} (d1)))))))))) ?_; try (with_reducible exact True.intro))
    (refine rO (@PartD.dv.eq_1) ?_; try (with_reducible exact True.intro))
theorem refPutAdd_fun (p : PartD) (b : BatD) (hl : p.opens.length ≤ 100000) (hb : openB p.opens b.pid = true) (o : OpenD) (hi : p.opens[openI p.opens b.pid]? = some o) (hep : o.epoch = b.epoch) (hbl : o.bats.length < 8) :
    Fun Tryz.prog 89 [.agg p.dv, .agg b.dv] (.tup [.agg ({ p with opens := p.opens.take (openI p.opens b.pid) ++ (⟨b.pid, b.epoch, o.bats ++ [b]⟩ : OpenD) :: p.opens.drop (openI p.opens b.pid + 1) } : PartD).dv, boo true]) := by
  have c1 := refOpen_fun p b.pid hl
  rw [hb] at c1
  simp only [PartD.dv] at c1
  have hlt := (List.getElem?_eq_some_iff.1 hi).1
  generalize openI p.opens b.pid = i at *
  have hle1 : i ≤ p.opens.length := by omega
  have hle2 : i + 1 ≤ p.opens.length := hlt
  have hta : ((p.opens.map OpenD.dv).take i).length = i := by rw [List.length_take, List.length_map]; omega
  have hdl : ((p.opens.map OpenD.dv).drop (i + 1)).take (p.opens.length - (i + 1)) = (p.opens.map OpenD.dv).drop (i + 1) := List.take_of_length_le (by simp)
  have hdl2 : ((p.opens.map OpenD.dv).drop (i + 1)).length = p.opens.length - (i + 1) := by rw [List.length_drop, List.length_map]
  have htn : ((i : Int) + 1).toNat = i + 1 := by omega
  have hnn : ((0 : Int) ≤ (i : Int) + 1) = True := by simp; omega
  have d1 : (o.epoch != b.epoch) = false := by simp [hep]
  have d2 : decide (8 ≤ (o.bats.length : Int)) = false := decide_eq_false (by omega)
  have hb1 : i * 40 ≤ 140737488355328 := by omega
  have hb4 : o.bats.length * 56 ≤ 140737488355328 := by omega
  have hb5 : (o.bats.length + 1) * 56 ≤ 140737488355328 := by omega
  have hb2 : (i + 1) * 40 ≤ 140737488355328 := by omega
  have hb3 : (i + 1 + (p.opens.length - (i + 1))) * 40 ≤ 140737488355328 := by omega
  have hta2 : ((p.opens.map OpenD.dv).take i ++ [[int b.pid, int b.epoch, .lst 5 (o.bats.map BatD.dv ++ [[int b.pid, int b.epoch, int b.seq, boo b.txn, .lst 2 (b.recs.map RecD.dv)]])]]).length = i + 1 := by rw [List.length_append, hta]; rfl
  (refine Fun.of_bodyW Tryz.func89 rfl rfl Tryz.ntmps89 Tryz.results89 (by simp) ?_)
  (refine gO (And.intro @PartD.dv.eq_1 (And.intro @BatD.dv.eq_1 (And.intro @OpenD.dv.eq_1 (And.intro hi (And.intro hle1 (And.intro hle2 (And.intro @List.length_map.{0,0} (And.intro hta (And.intro hta2 (And.intro hdl (And.intro hdl2 (And.intro htn (And.intro hnn (And.intro hb1 (And.intro hb2 (And.intro hb3 (And.intro hb4 (And.intro hb5 (And.intro @List.nil_append.{0} (And.intro d1 (d2))))))))))))))))))))) ?_; try (with_reducible exact True.intro))
  (refine rO (And.intro @PartD.dv.eq_1 (And.intro @OpenD.dv.eq_1 (And.intro @BatD.dv.eq_1 (And.intro @List.map_append.{0,0} (And.intro @List.map_take.{0,0} (And.intro @List.map_drop.{0,0} (And.intro @List.map_cons.{0,0} (And.intro @List.map_nil.{0,0} (And.intro @List.append_assoc.{0} (And.intro @List.cons_append.{0} (@List.nil_append.{0}))))))))))) ?_; try (with_reducible exact True.intro))
  exact ⟨_, rfl, fun K v h => h⟩
end Go.Proofs.YtafipkbffboebaaGreatDoor
namespace Go.Proofs.YtafipkbffboebaaGreatDoor
open Go Go.RowKit
set_option maxHeartbeats 4000000
set_option maxRecDepth 100000
set_option linter.unusedVariables false
set_option linter.unusedSimpArgs false
theorem refPlain_fun (p : PartD) (b : BatD) (hl : p.opens.length ≤ 100000) (hs : SmallL p.prods) (hb : b.recs.length ≤ 100000) (hr : p.rows.length ≤ 1000000) (hf : -1000000000 ≤ p.fin ∧ p.fin ≤ 1000000000) :
    Fun Tryz.prog 87 [.agg p.dv, .agg b.dv] (.tup [.agg (if openB p.opens b.pid = true ∨ b.txn = true ∨ (takeF p.prods b p.fin).2 ≠ 0 then p else ({ p with prods := (takeF p.prods b p.fin).1, rows := p.rows ++ rowsF b p.fin, fin := p.fin + (b.recs.length : Int) } : PartD)).dv,
      boo (decide (¬ (openB p.opens b.pid = true ∨ b.txn = true ∨ (takeF p.prods b p.fin).2 ≠ 0)))]) := by
  have c1 := refOpen_fun p b.pid hl
  have c2 := refTake_fun10 p.prods b p.fin hs hb
  have c3 := refAdd_fun { p with prods := (takeF p.prods b p.fin).1 } b hr hb hf
  simp only [PartD.dv, BatD.dv] at c1 c2 c3
  (refine Fun.of_bodyW Tryz.func87 rfl rfl Tryz.ntmps87 Tryz.results87 (by simp) ?_)
  cases ho : openB p.opens b.pid with
  | true =>
    rw [ho] at c1
    (refine gO (And.intro @PartD.dv.eq_1 (@BatD.dv.eq_1)) ?_; try (with_reducible exact True.intro))
    (refine rO (@PartD.dv.eq_1) ?_; try (with_reducible exact True.intro))
    simp
  | false =>
    rw [ho] at c1
    cases ht : b.txn with
    | true =>
      rw [ht] at c2 c3
      (refine gO (And.intro @PartD.dv.eq_1 (And.intro @BatD.dv.eq_1 (ht))) ?_; try (with_reducible exact True.intro))
      (refine rO (And.intro @PartD.dv.eq_1 (ht)) ?_; try (with_reducible exact True.intro))
      simp
    | false =>
      rw [ht] at c2 c3
      by_cases hz : (takeF p.prods b p.fin).2 = 0
      · have d1 : ((takeF p.prods b p.fin).2 != 0) = false := by simp [hz]
        (refine gO (And.intro @PartD.dv.eq_1 (And.intro @BatD.dv.eq_1 (And.intro ht (d1)))) ?_; try (with_reducible exact True.intro))
        (refine rO (And.intro @PartD.dv.eq_1 (And.intro ht (d1))) ?_; try (with_reducible exact True.intro))
        simp [hz]
      · have d1 : ((takeF p.prods b p.fin).2 != 0) = true := by simpa using hz
        (refine gO (And.intro @PartD.dv.eq_1 (And.intro @BatD.dv.eq_1 (And.intro ht (d1)))) ?_; try (with_reducible exact True.intro))
        (refine rO (And.intro @PartD.dv.eq_1 (And.intro ht (d1))) ?_; try (with_reducible exact True.intro))
        simp [hz]
end Go.Proofs.YtafipkbffboebaaGreatDoor
namespace Go.Proofs.YtafipkbffboebaaGreatDoor
open Go Go.RowKit
set_option maxHeartbeats 4000000
set_option maxRecDepth 100000
set_option linter.unusedVariables false
set_option linter.unusedSimpArgs false
def clearR (l : List ProdD) (pid : Int) : List ProdD := if (findF l pid).2 = true then setF l ⟨(findF l pid).1.pid, (findF l pid).1.epoch, (findF l pid).1.next, []⟩ else l
theorem refClear_fun10 (l : List ProdD) (pid : Int) (hs : SmallL l) : Fun Tryz.prog 93 [.lst 4 (l.map ProdD.dv), int pid] (.lst 4 ((clearR l pid).map ProdD.dv)) := by
  have c1 := refFind_fun10 l pid hs
  have c2 := (refSet_fun10 l ⟨(findF l pid).1.pid, (findF l pid).1.epoch, (findF l pid).1.next, []⟩ hs).args (xs := [.lst 4 (l.map ProdD.dv), .agg [int (findF l pid).1.pid, int (findF l pid).1.epoch, int (findF l pid).1.next, nilV]]) (.cons (.refl _) (.cons (.agg (.cons (.refl _) (.cons (.refl _) (.cons (.refl _) (.cons (.nil 3) .nil))))) .nil))
  unfold clearR
  simp only [ProdD.dv] at c1
  generalize findF l pid = f at *
  obtain ⟨q, b⟩ := f
  (refine Fun.of_body Tryz.func93 rfl rfl Tryz.ntmps93 Tryz.results93 (by simp) ?_)
  cases b with
  | true =>
    (refine gO (@ProdD.dv.eq_1) ?_; try (with_reducible exact True.intro))
    (refine rO (@if_true.{1}) ?_; try (with_reducible exact True.intro))
  | false =>
    (refine gO (@ProdD.dv.eq_1) ?_; try (with_reducible exact True.intro))
    (refine rO0 ?_; try (with_reducible exact True.intro))
end Go.Proofs.YtafipkbffboebaaGreatDoor
namespace Go.Proofs.YtafipkbffboebaaGreatDoor
open Go Go.RowKit
set_option maxHeartbeats 4000000
set_option maxRecDepth 100000
set_option linter.unusedVariables false
set_option linter.unusedSimpArgs false
/-- Without what is seen. -/
def clrP (pid : Int) : List ProdD → List ProdD
  | [] => []
  | x :: l => if x.pid = pid then ⟨x.pid, x.epoch, x.next, []⟩ :: l else x :: clrP pid l
theorem clearF_clrP (pid : Int) : ∀ l : List ProdD, clearF l pid = clrP pid l
  | [] => by simp [clearF, clrP]
  | x :: l => by
    have ih := clearF_clrP pid l
    by_cases h : x.pid = pid
    · have h' : (x.pid == pid) = true := by simpa using h
      simp [clearF, clrP, List.findIdx_cons, h', h]
    · have h' : (x.pid == pid) = false := by simpa using h
      simp only [clrP, h, if_false, ← ih]
      simp only [clearF, List.findIdx_cons, h', cond_false, List.getElem?_cons_succ]
      split <;> simp
theorem mayR_gt : ∀ (l : List ProdD) (b : Int), mayR l b = true → ∀ p ∈ l, b < p.pid
  | [], _, _, p, hp => by simp at hp
  | x :: l, b, h, p, hp => by
    rw [mayR, Bool.and_eq_true] at h
    have h1 := h.1
    simp only [Bool.not_eq_true', Bool.or_eq_false_iff, decide_eq_false_iff_not] at h1
    rcases List.mem_cons.1 hp with rfl | hp
    · omega
    · have := mayR_gt l x.pid h.2 p hp
      omega
theorem findF_cons (x : ProdD) (l : List ProdD) (pid : Int) : findF (x :: l) pid = if x.pid = pid then (x, true) else findF l pid := by
  unfold findF
  by_cases h : x.pid = pid
  · simp [h]
  · have h' : (x.pid == pid) = false := by simpa using h
    rw [List.find?_cons_of_neg (by simp [h']), if_neg h]
theorem findF_pid {l : List ProdD} {pid : Int} {p : ProdD} (h : findF l pid = (p, true)) : p.pid = pid := by
  unfold findF at h
  split at h
  · rename_i q hq
    have := List.find?_some hq
    cases h
    simpa using this
  · cases h
theorem clearR_clrP (pid : Int) : ∀ (l : List ProdD) (b : Int), mayR l b = true → clearR l pid = clrP pid l
  | [], _, _ => rfl
  | x :: l, b, h => by
    rw [mayR, Bool.and_eq_true] at h
    have ih := clearR_clrP pid l x.pid h.2
    unfold clearR at ih ⊢
    rw [findF_cons]
    by_cases hx : x.pid = pid
    · rw [if_pos hx, if_pos rfl, setF_insP]
      simp only [insP, clrP, hx, Int.le_refl, if_true]
    · rw [if_neg hx]
      simp only [clrP, hx, if_false]
      rw [← ih]
      cases hf : findF l pid with
      | mk q k =>
        cases k with
        | false => rfl
        | true =>
          have hq := findF_pid hf
          have hg := mayR_gt l x.pid h.2 q (findF_mem hf)
          simp only [if_true, setF_insP]
          rw [insP, if_neg (by show ¬ q.pid ≤ x.pid; omega)]
theorem clearR_eq {l : List ProdD} (pid : Int) (h : mayL l = true) : clearR l pid = clearF l pid := by
  rw [clearR_clrP pid l 0 h, clearF_clrP]
theorem known_clr {p : ProdD} (h : knownB p = true) : knownB ⟨p.pid, p.epoch, p.next, []⟩ = true := by
  unfold knownB at h ⊢
  rw [Bool.and_eq_true] at h ⊢
  refine ⟨?_, rfl⟩
  have h1 := h.1
  unfold headBad at h1 ⊢
  simp only [Bool.not_eq_true', Bool.or_eq_false_iff] at h1 ⊢
  exact ⟨h1.1, by simp⟩
theorem mayR_clr (pid : Int) : ∀ (l : List ProdD) (b : Int), mayR l b = true → mayR (clrP pid l) b = true
  | [], _, _ => rfl
  | x :: l, b, h => by
    rw [mayR, Bool.and_eq_true] at h
    unfold clrP
    split
    · rw [mayR, Bool.and_eq_true]
      refine ⟨?_, h.2⟩
      have h1 := h.1
      simp only [Bool.not_eq_true', Bool.or_eq_false_iff, Bool.not_eq_false'] at h1 ⊢
      exact ⟨h1.1, known_clr h1.2⟩
    · rw [mayR, h.1, mayR_clr pid l x.pid h.2]; rfl
theorem may_clear {l : List ProdD} (pid : Int) (h : mayL l = true) : mayL (clearF l pid) = true := by
  rw [clearF_clrP]; exact mayR_clr pid l 0 h
theorem take_may {l : List ProdD} {b : BatD} {base : Int} (h : (takeF l b base).2 = 0) : mayL (takeF l b base).1 = true := by
  obtain ⟨a1, a2, a3, a4⟩ := takeF_ok h
  rw [a4]
  exact may_set (checkF_may a2).1 (known_new a1 a2 a3)
theorem takeF_iff (l : List ProdD) (b : BatD) (base : Int) (hb : -1 ≤ base ∧ base ≤ 1048576) : (takeF l b base).2 = 0 ↔ (checkF l b).2.2 = 0 ∧ (checkF l b).2.1 = false :=
  ⟨fun h => ⟨(takeF_ok h).2.1, (takeF_ok h).2.2.1⟩, fun h => takeF_fine l b base h.1 h.2 hb⟩
/-- The document's step. -/
def plainR (p : PartD) (b : BatD) : Option PartD :=
  if openB p.opens b.pid = true ∨ b.txn = true ∨ (takeF p.prods b p.fin).2 ≠ 0 then none else some { p with prods := (takeF p.prods b p.fin).1, rows := p.rows ++ rowsF b p.fin, fin := p.fin + (b.recs.length : Int) }
def putR (p : PartD) (b : BatD) : Option PartD :=
  match openB p.opens b.pid, p.opens[openI p.opens b.pid]? with
  | true, some o => if o.epoch ≠ b.epoch ∨ 8 ≤ o.bats.length then none else some { p with opens := p.opens.take (openI p.opens b.pid) ++ (⟨b.pid, b.epoch, o.bats ++ [b]⟩ : OpenD) :: p.opens.drop (openI p.opens b.pid + 1) }
  | _, _ => some { p with opens := p.opens.take (openI p.opens b.pid) ++ (⟨b.pid, b.epoch, [b]⟩ : OpenD) :: p.opens.drop (openI p.opens b.pid) }
def txnR (p : PartD) (b : BatD) : Option PartD :=
  if (takeF p.prods b (-1)).2 ≠ 0 then none else match putR p b with
  | some q => some { q with prods := (takeF p.prods b (-1)).1 }
  | none => none
def markR (p : PartD) (b : BatD) (yes : Bool) : Option PartD :=
  match openB p.opens b.pid, p.opens[openI p.opens b.pid]? with
  | true, some o => if o.epoch ≠ b.epoch then none else
      some { putsP { p with opens := p.opens.take (openI p.opens b.pid) ++ p.opens.drop (openI p.opens b.pid + 1) } (if yes then o.bats else []) with fin := (putsP { p with opens := p.opens.take (openI p.opens b.pid) ++ p.opens.drop (openI p.opens b.pid + 1) } (if yes then o.bats else [])).fin + 1, prods := clearR p.prods b.pid }
  | _, _ => none
def bothR (p : PartD) (e : EntD) : Option PartD :=
  if e.kind = 2 then (if e.off < p.start ∨ p.fin < e.off then none else some { p with start := e.off, rows := keepF (cutP e.off) p.rows })
  else if e.kind = 5 then some { p with rows := p.rows ++ [{ e.row with off := p.fin }], fin := p.fin + 1 }
  else if e.kind = 6 then (if openB p.opens e.prod.pid = true then none else some { p with prods := setF p.prods e.prod })
  else none
def nextR (p : PartD) (e : EntD) : Option PartD :=
  if e.kind = 0 then (if e.b.txn = true then txnR p e.b else plainR p e.b)
  else if e.kind = 1 then markR p e.b e.yes
  else bothR p e
def stepR (p : PartD) (e : EntD) : Option PartD :=
  if okKind e = false then none else match nextR p e with
  | some q => if 1048576 < q.fin then none else some q
  | none => none
theorem putsP_with (os : List OpenD) : ∀ (l : List BatD) (p : PartD), putsP { p with opens := os } l = { putsP p l with opens := os }
  | [], p => rfl
  | b :: l, p => putsP_with os l { p with rows := p.rows ++ rowsF b p.fin, fin := p.fin + (b.recs.length : Int) }
theorem data_eq (p : PartD) (b : BatD) (hf : 0 ≤ p.fin ∧ p.fin ≤ 1048576) : (match (if b.txn = true then txnR p b else plainR p b) with | some q => if 1048576 < q.fin then none else some q | none => none) = dataP p b := by
  have i1 := takeF_iff p.prods b (-1) (by omega)
  have i2 := takeF_iff p.prods b p.fin (by omega)
  unfold dataP
  by_cases hc : (checkF p.prods b).2.2 ≠ 0 ∨ (checkF p.prods b).2.1 = true
  · rw [if_pos hc]
    have hn : ¬ ((checkF p.prods b).2.2 = 0 ∧ (checkF p.prods b).2.1 = false) := fun h => by
      rcases hc with hc | hc
      · exact hc h.1
      · rw [h.2] at hc; cases hc
    have n1 : (takeF p.prods b (-1)).2 ≠ 0 := fun h => hn (i1.1 h)
    have n2 : (takeF p.prods b p.fin).2 ≠ 0 := fun h => hn (i2.1 h)
    cases ht : b.txn with
    | true => rw [if_pos rfl]; unfold txnR; rw [if_pos n1]
    | false => rw [if_neg (by simp)]; unfold plainR; rw [if_pos (.inr (.inr n2))]
  · rw [if_neg hc]
    have hy : (checkF p.prods b).2.2 = 0 ∧ (checkF p.prods b).2.1 = false := by
      refine ⟨Decidable.not_not.1 (fun h => hc (.inl h)), ?_⟩
      cases h : (checkF p.prods b).2.1 with
      | false => rfl
      | true => exact absurd (.inr h) hc
    have n1 := i1.2 hy
    have n2 := i2.2 hy
    cases ho : openB p.opens b.pid with
    | true =>
      obtain ⟨o, hi, hpid⟩ := openB_get ho
      simp only [hi]
      cases ht : b.txn with
      | false =>
        rw [if_neg (by simp), if_pos (.inl rfl)]
        unfold plainR
        rw [if_pos (.inl ho)]
      | true =>
        rw [if_pos rfl]
        unfold txnR putR
        rw [if_neg (by simp [n1])]
        simp only [ho, hi]
        by_cases hx : o.epoch ≠ b.epoch ∨ 8 ≤ o.bats.length
        · rw [if_pos hx, if_pos (.inr hx)]
        · rw [if_neg hx, if_neg (fun h => h.elim (fun h => by cases h) hx)]
          have he : o.epoch = b.epoch := Decidable.not_not.1 (fun h => hx (.inl h))
          have hlt := (List.getElem?_eq_some_iff.1 hi).1
          simp only
          rw [if_neg (by omega), List.set_eq_take_append_cons_drop, if_pos hlt, hpid, he]
    | false =>
      simp only
      cases ht : b.txn with
      | false =>
        rw [if_neg (by simp), if_pos rfl]
        unfold plainR
        rw [if_neg (by rw [ho, ht, n2]; simp)]
      | true =>
        rw [if_pos rfl, if_neg (by simp)]
        unfold txnR putR
        rw [if_neg (by simp [n1])]
        simp only [ho]
        rw [if_neg (by omega)]
theorem mark_eq (p : PartD) (b : BatD) (yes : Bool) (hm : mayL p.prods = true) : (match markR p b yes with | some q => if 1048576 < q.fin then none else some q | none => none) = markP p b yes := by
  unfold markR markP
  cases ho : openB p.opens b.pid with
  | false => rfl
  | true =>
    obtain ⟨o, hi, hpid⟩ := openB_get ho
    simp only [hi]
    by_cases he : o.epoch = b.epoch
    · have hne : ¬ o.epoch ≠ b.epoch := fun h => h he
      rw [if_neg hne, if_neg hne]
      obtain ⟨L, hL⟩ : ∃ L, L = (if yes then o.bats else []) := ⟨_, rfl⟩
      rw [← hL, putsP_with, clearR_eq b.pid hm]
      have hk := (puts_keepP L p).2.2.2.1
      simp only [hk]
    · have hne : o.epoch ≠ b.epoch := he
      rw [if_pos hne, if_pos hne]
theorem step_eq (p : PartD) (e : EntD) (hf : 0 ≤ p.fin ∧ p.fin ≤ 1048576) (hm : mayL p.prods = true) : stepR p e = stepP p e := by
  unfold stepR stepP
  cases ho : okKind e with
  | false => rfl
  | true =>
    simp only [okKind, Bool.and_eq_true, decide_eq_true_eq] at ho
    rw [if_neg (by simp), if_neg (by simp)]
    unfold nextR
    by_cases h0 : e.kind = 0
    · rw [if_pos h0, if_pos h0]; exact data_eq p e.b hf
    rw [if_neg h0, if_neg h0]
    by_cases h1 : e.kind = 1
    · rw [if_pos h1, if_pos h1]; exact mark_eq p e.b e.yes hm
    rw [if_neg h1, if_neg h1]
    unfold bothR
    by_cases h2 : e.kind = 2
    · rw [if_pos h2, if_pos h2]
      by_cases hx : e.off < p.start ∨ p.fin < e.off
      · rw [if_pos hx]
      · rw [if_neg hx]; simp only; rw [if_neg (by omega)]
    rw [if_neg h2, if_neg h2]
    by_cases h3 : e.kind = 3
    · rw [if_pos h3, if_neg (by omega), if_neg (by omega)]
    rw [if_neg h3]
    by_cases h4 : e.kind = 4
    · rw [if_pos h4, if_neg (by omega), if_neg (by omega)]
    rw [if_neg h4]
    by_cases h5 : e.kind = 5
    · rw [if_pos h5, if_pos h5]
      simp only
      by_cases hx : p.fin = 1048576
      · rw [if_pos hx, if_pos (by omega)]
      · rw [if_neg hx, if_neg (by omega)]
    · have h6 : e.kind = 6 := by omega
      rw [if_neg h5, if_neg h5, if_pos h6]
      by_cases hx : openB p.opens e.prod.pid = true
      · rw [if_pos hx]
      · rw [if_neg hx]; simp only; rw [if_neg (by omega)]
theorem kind_known {e : EntD} (ho : okKind e = true) (h6 : e.kind = 6) : knownB e.prod = true := by
  simp only [okKind, Bool.and_eq_true, decide_eq_true_eq] at ho
  have hm2 := ho.2
  unfold mayI at hm2
  rw [if_neg (by omega), if_neg (by omega), if_neg (by omega), if_neg (by omega), if_neg (by omega), if_neg (by omega), Bool.and_eq_true] at hm2
  exact hm2.1
theorem step_may {p p' : PartD} {e : EntD} (hf : 0 ≤ p.fin ∧ p.fin ≤ 1048576) (hm : mayL p.prods = true) (h : stepP p e = some p') : mayL p'.prods = true := by
  unfold stepP at h
  cases ho : okKind e with
  | false => rw [ho, if_pos rfl] at h; cases h
  | true =>
    rw [ho, if_neg (by simp)] at h
    split at h
    · unfold dataP at h
      split at h
      · cases h
      rename_i hc
      have hy : (checkF p.prods e.b).2.2 = 0 ∧ (checkF p.prods e.b).2.1 = false := by
        refine ⟨Decidable.not_not.1 (fun h => hc (.inl h)), ?_⟩
        cases h : (checkF p.prods e.b).2.1 with
        | false => rfl
        | true => exact absurd (.inr h) hc
      have n1 := take_may ((takeF_iff p.prods e.b (-1) (by omega)).2 hy)
      have n2 := take_may ((takeF_iff p.prods e.b p.fin (by omega)).2 hy)
      split at h
      · split at h
        · cases h
        · cases h; exact n1
      · split at h
        · split at h
          · cases h
          · cases h; exact n2
        · cases h; exact n1
    split at h
    · unfold markP at h
      split at h
      · rename_i o _ _
        obtain ⟨L, hL⟩ : ∃ L, L = (if e.yes = true then o.bats else []) := ⟨_, rfl⟩
        rw [← hL] at h
        split at h
        · cases h
        split at h
        · cases h
        · cases h; exact may_clear _ hm
      · cases h
    split at h
    · split at h
      · cases h
      · cases h; exact hm
    split at h
    · cases h
    split at h
    · cases h
    split at h
    · split at h
      · cases h
      · cases h; exact hm
    · split at h
      · cases h
      · cases h
        simp only [okKind, Bool.and_eq_true, decide_eq_true_eq] at ho
        exact may_set hm (kind_known (by simp [okKind]; exact ⟨⟨by omega, by omega⟩, ho.2⟩) (by omega))
/-- What holds of a part that k entries made. -/
structure FOkM (k : Nat) (p : PartD) : Prop extends FOk k p where
  may : mayL p.prods = true
theorem step_okM {k : Nat} {p p' : PartD} {e : EntD} (h : FOkM k p) (hm : stepP p e = some p') : FOkM (k + 1) p' := ⟨step_ok h.toFOk hm, step_may h.fin h.may hm⟩
theorem fokM0 : FOkM 0 pZ := ⟨fok0, rfl⟩
theorem fold_okM : ∀ (l : List EntD) (k : Nat) (p p' : PartD), FOkM k p → foldP p l = some p' → FOkM (k + l.length) p'
  | [], k, p, p', h, hm => by cases hm; exact h
  | e :: l, k, p, p', h, hm => by
    unfold foldP at hm
    split at hm
    · rename_i q hq
      have := fold_okM l (k + 1) q p' (step_okM h hq) hm
      rw [List.length_cons, show k + (l.length + 1) = k + 1 + l.length by omega]
      exact this
    · cases hm
end Go.Proofs.YtafipkbffboebaaGreatDoor
