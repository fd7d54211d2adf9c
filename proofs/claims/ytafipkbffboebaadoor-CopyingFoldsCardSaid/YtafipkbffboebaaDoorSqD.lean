/- The reference of layer 10: place, Set, Find, May, Same, Great; great batches. -/
import Derived.Test.YtafipkbffboebaaDoorSqM
namespace Go.Proofs.YtafipkbffboebaaDoor
open Go Go.RowKit
set_option maxHeartbeats 4000000
set_option maxRecDepth 100000
set_option linter.unusedVariables false
set_option linter.unusedSimpArgs false
theorem place_fun10 (l : List ProdD) (pid : Int) (hl : l.length ≤ 100000) : Fun Tryd.prog 100 [.lst 4 (l.map ProdD.dv), int pid] (.tup [int (placeI l pid : Nat), boo (thereB l pid)]) := by
  (refine Fun.of_body Tryd.func100 rfl rfl Tryd.ntmps100 Tryd.results100 (by simp) ?_)
  (refine gO0 ?_; try (with_reducible exact True.intro))
  refine Wp.loop (fun k : Nat => ⟨ofL [(0, .c (.d (.lst 4 (l.map ProdD.dv)))), (1, vi .i64 pid), (6, vi .i64 k)], ofH [], 0, 36, 0⟩) (fun k => k ≤ l.length ∧ ∀ j (h : j < l.length), j < k → decide (pid ≤ l[j].pid) = false) (fun k => l.length - k) 0 ⟨Nat.zero_le _, fun j _ hj => by omega⟩ ?_ ?_
  · refine Weak.keep rfl rfl ?_
    (refine rO0 ?_; try (with_reducible exact True.intro))
  rintro k ⟨hk, hall⟩
  rcases Nat.lt_or_ge k l.length with hlt | hge0
  · have hd : decide ((k : Int) < (l.length : Int)) = true := decide_eq_true (by omega)
    have hge : l[k]? = some l[k] := List.getElem?_eq_getElem hlt
    have hidx : decide (pid ≤ l[k].pid) = true → placeI l pid = k := fun h => by
      unfold placeI; rw [List.findIdx_eq hlt]; exact ⟨h, fun j hj => hall j (by omega) hj⟩
    have hth : placeI l pid = k → thereB l pid = (l[k].pid == pid) := fun h => by unfold thereB; rw [h, hge]
    have hnext : decide (pid ≤ l[k].pid) = false → ∀ j (h : j < l.length), j < k + 1 → decide (pid ≤ l[j].pid) = false := fun hq j hj hjk => by
      rcases Nat.lt_or_ge j k with h2 | h2
      · exact hall j hj h2
      · obtain rfl : j = k := by omega
        exact hq
    generalize l[k] = x at *
    cases hq : decide (pid ≤ x.pid) with
    | true =>
      have hq2 : decide (x.pid < pid) = false := by have := of_decide_eq_true hq; exact decide_eq_false (by omega)
      have e1 := hidx hq
      have e2 := hth e1
      (refine gO (And.intro hd (And.intro hge (And.intro @ProdD.dv.eq_1 (hq2)))) ?_; try (with_reducible exact True.intro))
      (refine rO (And.intro e1 (e2)) ?_; try (with_reducible exact True.intro))
    | false =>
      have hq2 : decide (x.pid < pid) = true := by have := of_decide_eq_false hq; exact decide_eq_true (by omega)
      have hn := hnext hq
      (refine gO (And.intro hd (And.intro hge (And.intro @ProdD.dv.eq_1 (hq2)))) ?_; try (with_reducible exact True.intro))
      refine ⟨k + 1, ⟨by omega, hn⟩, by omega, Weak.keep rfl rfl ?_⟩
      (refine rO0 ?_; try (with_reducible exact True.intro))
  · have hkl : k = l.length := by omega
    have hd : decide ((k : Int) < (l.length : Int)) = false := decide_eq_false (by omega)
    have e1 : placeI l pid = k := by
      rw [hkl]; unfold placeI
      refine List.findIdx_eq_length.2 (fun x hx => ?_)
      obtain ⟨j, hj, rfl⟩ := List.getElem_of_mem hx
      exact hall j hj (by omega)
    have e2 : thereB l pid = false := by unfold thereB; rw [e1, hkl, List.getElem?_eq_none (Nat.le_refl _)]
    (refine gO (hd) ?_; try (with_reducible exact True.intro))
    (refine rO (And.intro e1 (e2)) ?_; try (with_reducible exact True.intro))
theorem refSet_fun10 (l : List ProdD) (p : ProdD) (hs : SmallL l) : Fun Tryd.prog 78 [.lst 4 (l.map ProdD.dv), .agg p.dv] (.lst 4 ((setF l p).map ProdD.dv)) := by
  have hl := hs.len
  have c1 := place_fun10 l p.pid hl
  have hle := placeI_le l p.pid
  have hlt : thereB l p.pid = true → placeI l p.pid < l.length := thereB_lt
  have hS : setF l p = l.take (placeI l p.pid) ++ [p] ++ l.drop (if thereB l p.pid then placeI l p.pid + 1 else placeI l p.pid) := rfl
  rw [hS]
  generalize placeI l p.pid = k at *
  generalize thereB l p.pid = th at *
  clear hS
  have hta : ((l.map ProdD.dv).take k).length = k := by rw [List.length_take, List.length_map]; omega
  have hta2 : ((l.map ProdD.dv).take k ++ [p.dv]).length = k + 1 := by rw [List.length_append, hta]; rfl
  have hb1 : k * 48 ≤ 140737488355328 := Nat.le_trans (Nat.mul_le_mul_right 48 (show k ≤ 200000 by omega)) (by decide)
  have hb2 : (k + 1) * 48 ≤ 140737488355328 := Nat.le_trans (Nat.mul_le_mul_right 48 (show k + 1 ≤ 200000 by omega)) (by decide)
  simp only [ProdD.dv] at hta2
  cases th with
  | false =>
    have hdl : ((l.map ProdD.dv).drop k).take (l.length - k) = (l.map ProdD.dv).drop k := List.take_of_length_le (by simp)
    have hdl2 : ((l.map ProdD.dv).drop k).length = l.length - k := by rw [List.length_drop, List.length_map]
    have hb3 : (k + 1 + (l.length - k)) * 48 ≤ 140737488355328 := Nat.le_trans (Nat.mul_le_mul_right 48 (show k + 1 + (l.length - k) ≤ 200000 by omega)) (by decide)
    rw [if_neg (by simp), List.map_append, List.map_append, List.map_take, List.map_drop]
    (refine Fun.of_body Tryd.func78 rfl rfl Tryd.ntmps78 Tryd.results78 (by simp) ?_)
    (refine gO (And.intro @ProdD.dv.eq_1 (And.intro hle (And.intro hta (And.intro hta2 (And.intro hdl (And.intro hdl2 (And.intro hb1 (And.intro hb2 (And.intro hb3 (@List.nil_append.{0})))))))))) ?_; try (with_reducible exact True.intro))
    (refine rO (And.intro @List.map_cons.{0,0} (And.intro @List.map_nil.{0,0} (@ProdD.dv.eq_1))) ?_; try (with_reducible exact True.intro))
  | true =>
    have hk1 := hlt rfl
    have hdl : ((l.map ProdD.dv).drop (k + 1)).take (l.length - (k + 1)) = (l.map ProdD.dv).drop (k + 1) := List.take_of_length_le (by simp)
    have hdl2 : ((l.map ProdD.dv).drop (k + 1)).length = l.length - (k + 1) := by rw [List.length_drop, List.length_map]
    have hb3 : (k + 1 + (l.length - (k + 1))) * 48 ≤ 140737488355328 := Nat.le_trans (Nat.mul_le_mul_right 48 (show k + 1 + (l.length - (k + 1)) ≤ 200000 by omega)) (by decide)
    have hk2 : k + 1 ≤ l.length := hk1
    have htn : ((k : Int) + 1).toNat = k + 1 := by omega
    have hnn : ((0 : Int) ≤ (k : Int) + 1) = True := by simp; omega
    rw [if_pos rfl, List.map_append, List.map_append, List.map_take, List.map_drop]
    (refine Fun.of_body Tryd.func78 rfl rfl Tryd.ntmps78 Tryd.results78 (by simp) ?_)
    (refine gO (And.intro @ProdD.dv.eq_1 (And.intro hle (And.intro hta (And.intro hta2 (And.intro hdl (And.intro hdl2 (And.intro hb1 (And.intro hb2 (And.intro hb3 (And.intro hk2 (And.intro htn (And.intro hnn (@List.nil_append.{0}))))))))))))) ?_; try (with_reducible exact True.intro))
    (refine rO (And.intro @List.map_cons.{0,0} (And.intro @List.map_nil.{0,0} (@ProdD.dv.eq_1))) ?_; try (with_reducible exact True.intro))
theorem refFind_fun10 (l : List ProdD) (pid : Int) (hs : SmallL l) : Fun Tryd.prog 9 [.lst 4 (l.map ProdD.dv), int pid] (.tup [.agg (findF l pid).1.dv, boo (findF l pid).2]) := by
  have hl := hs.len
  (refine Fun.of_bodyW Tryd.func9 rfl rfl Tryd.ntmps9 Tryd.results9 (by simp) ?_)
  (refine gO0 ?_; try (with_reducible exact True.intro))
  refine Wp.loop (fun k : Nat => ⟨ofL [(0, .c (.d (.lst 4 (l.map ProdD.dv)))), (1, vi .i64 pid), (4, .c (.own 0 0)), (6, vi .i64 k)], ofH [(0, .cells [.d (int 0), .d (int 0), .d (int 0), .d nilV])], 1, 25, 0⟩) (fun k => k ≤ l.length ∧ (l.take k).find? (fun p => p.pid == pid) = none) (fun k => l.length - k) 0 ⟨Nat.zero_le _, rfl⟩ ?_ ?_
  · refine Weak.keep rfl rfl ?_
    (refine rO0 ?_; try (with_reducible exact True.intro))
  rintro k ⟨hk, hall⟩
  (refine gO0 ?_; try (with_reducible exact True.intro))
  refine Wp.cond (by (refine rO0 ?_; try (with_reducible exact True.intro)); rfl) (fun h => ?_) (fun h => ?_)
  · have hlt : k < l.length := by simpa using h
    have hge : l[k]? = some l[k] := List.getElem?_eq_getElem hlt
    have hf1 : (l[k].pid == pid) = true → findF l pid = (l[k], true) := fun hp => by
      have : l.find? (fun p => p.pid == pid) = some l[k] := by
        conv => lhs; rw [← List.take_append_drop k l, List.drop_eq_getElem_cons hlt]
        rw [List.find?_append, hall, List.find?_cons, hp]; rfl
      simp only [findF, this]
    have hn1 : (l[k].pid == pid) = false → (l.take (k + 1)).find? (fun p => p.pid == pid) = none := fun hp => by
      rw [take_succ_get l k hlt, List.find?_append, hall, List.find?_cons, hp]; rfl
    generalize l[k] = x at *
    cases hq : (x.pid == pid) with
    | true =>
      rw [hf1 hq]
      (refine gO (And.intro hge (And.intro @ProdD.dv.eq_1 (hq))) ?_; try (with_reducible exact True.intro))
      (refine rO (@ProdD.dv.eq_1) ?_; try (with_reducible exact True.intro))
      exact ⟨_, rfl, fun K v h => h⟩
    | false =>
      have hn2 := hn1 hq
      (refine gO (And.intro hge (And.intro @ProdD.dv.eq_1 (hq))) ?_; try (with_reducible exact True.intro))
      refine ⟨k + 1, ⟨by omega, hn2⟩, by omega, Weak.keep rfl rfl ?_⟩
      (refine rO0 ?_; try (with_reducible exact True.intro))
  · have hall2 : l.find? (fun p => p.pid == pid) = none := by
      rw [List.take_of_length_le (by simp only [decide_eq_false_iff_not] at h; omega)] at hall; exact hall
    have e1 : findF l pid = (pzD, false) := by simp only [findF, hall2]
    rw [e1]
    (refine gO0 ?_; try (with_reducible exact True.intro))
    (refine rO0 ?_; try (with_reducible exact True.intro))
    exact ⟨_, rfl, DLe.tup (.cons pz_le (.cons (.refl _) .nil))⟩
theorem refMay_fun10 (l : List ProdD) (hs : SmallL l) : Fun Tryd.prog 101 [.lst 4 (l.map ProdD.dv)] (boo (mayL l)) := by
  have hsl := hs.len
  (refine Fun.of_body Tryd.func101 rfl rfl Tryd.ntmps101 Tryd.results101 (by simp) ?_)
  (refine gO0 ?_; try (with_reducible exact True.intro))
  refine Wp.loop (fun k : Nat => ⟨ofL [(0, .c (.d (.lst 4 (l.map ProdD.dv)))), (3, vi .i64 (lastL l k)), (4, vi .i64 k)], ofH [], 0, 31, 0⟩) (fun k => k ≤ l.length ∧ ∀ j p, j < k → l[j]? = some p → (decide (p.pid ≤ lastL l j) || !knownB p) = false) (fun k => l.length - k) 0 ⟨Nat.zero_le _, fun j p hj => by omega⟩ ?_ ?_
  · refine Weak.keep rfl rfl ?_
    (refine rO (And.intro @lastL.eq_1 (@lastL.eq_2)) ?_; try (with_reducible exact True.intro))
  rintro k ⟨hk, hall⟩
  (refine gO0 ?_; try (with_reducible exact True.intro))
  refine Wp.cond (by (refine rO0 ?_; try (with_reducible exact True.intro)); rfl) (fun h => ?_) (fun h => ?_)
  · have hlt : k < l.length := by simpa using h
    have hge : l[k]? = some l[k] := List.getElem?_eq_getElem hlt
    have c1 := known7_fun l[k] (hs.seen _ (List.getElem_mem hlt))
    have hln : lastL l (k + 1) = l[k].pid := by simp only [lastL, hge]
    generalize l[k] = p at *
    simp only [ProdD.dv] at c1
    (refine gO (And.intro hge (@ProdD.dv.eq_1)) ?_; try (with_reducible exact True.intro))
    (first | refine Wp.sto 25 (vb (!knownB p || decide (p.pid ≤ lastL l k))) ?_ ?_ | refine Wp.rtoS 25 (vb (!knownB p || decide (p.pid ≤ lastL l k))) ?_ ?_ | (refine Wp.seq ?_; first | refine Wp.sto 25 (vb (!knownB p || decide (p.pid ≤ lastL l k))) ?_ ?_ | refine Wp.rtoS 25 (vb (!knownB p || decide (p.pid ≤ lastL l k))) ?_ ?_))
    · ((rcases Bool.eq_false_or_eq_true (!knownB p) with hL1 | hL1) <;> (rcases Bool.eq_false_or_eq_true (decide (p.pid ≤ lastL l k)) with hL2 | hL2) <;> (((refine rO (And.intro hL1 (And.intro hL2 (And.intro @ProdD.dv.eq_1 (hge)))) ?_; try (with_reducible exact True.intro)); (repeat (refine bcf (by assumption) ?_; (refine rO (And.intro hL1 (And.intro hL2 (And.intro @ProdD.dv.eq_1 (hge)))) ?_; try (with_reducible exact True.intro))))); all_goals (exact (show okTr _ _ = true by kernel_rfl))))
    refine Wp.cond (by (refine rO0 ?_; try (with_reducible exact True.intro)); rfl) (fun h => ?_) (fun h => ?_)
    · have hf : mayL l = false := by
        cases hq : mayL l with
        | false => rfl
        | true => have := (mayL_all l).1 hq k p hge; rw [Bool.or_comm] at this; rw [this] at h; cases h
      (refine gO0 ?_; try (with_reducible exact True.intro))
      (refine rO (hf) ?_; try (with_reducible exact True.intro))
    · have h5 := h
      rw [Bool.or_comm] at h5
      (refine gO (And.intro @ProdD.dv.eq_1 (hge)) ?_; try (with_reducible exact True.intro))
      refine ⟨k + 1, ⟨by omega, fun j x hj hx => ?_⟩, by omega, Weak.keep rfl rfl ?_⟩
      · rcases Nat.lt_or_ge j k with h2 | h2
        · exact hall j x h2 hx
        · obtain rfl : j = k := by omega
          rw [hge] at hx; cases hx; exact h5
      (refine rO (hln) ?_; try (with_reducible exact True.intro))
  · have hf : mayL l = true := (mayL_all l).2 (fun j p hp => hall j p (by have := (List.getElem?_eq_some_iff.1 hp).1; simp only [decide_eq_false_iff_not] at h; omega) hp)
    (refine gO0 ?_; try (with_reducible exact True.intro))
    (refine rO (hf) ?_; try (with_reducible exact True.intro))
end Go.Proofs.YtafipkbffboebaaDoor
