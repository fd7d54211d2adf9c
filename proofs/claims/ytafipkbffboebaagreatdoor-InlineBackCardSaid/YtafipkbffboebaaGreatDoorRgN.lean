/- The abstract machine (RgE, RgF, RgH, RgI, RgG, RgK). -/
import Derived.Test.YtafipkbffboebaaGreatDoorRgM
import Derived.Test.YtafipkbffboebaaGreatDoorCpR6
import Derived.Test.YtafipkbffboebaaGreatDoorMpK
namespace Go.Proofs.YtafipkbffboebaaGreatDoor
open Go Go.RowKit
set_option maxHeartbeats 8000000
set_option maxRecDepth 100000
set_option linter.unusedVariables false
set_option linter.unusedSimpArgs false
theorem bothState_no (p : PartD) (b : BatD) (yes : Bool) (next off : Int) (row : RowD) (prod : ProdD) (hl : p.opens.length ≤ 100000) (hob : openB p.opens prod.pid = true) :
    Fun Tryz.prog 94 [.agg p.dv, .agg (EntD.mk 6 b yes next off row prod).dv] (.tup [.agg p.dv, boo false]) := by
  have c1 := refOpen_fun p prod.pid hl
  rw [hob] at c1
  simp only [PartD.dv] at c1
  (refine Fun.of_bodyW Tryz.func94 rfl rfl Tryz.ntmps94 Tryz.results94 (by simp) ?_)
  (refine gO (And.intro @PartD.dv.eq_1 (@EntD.dv.eq_1)) ?_; try (with_reducible exact True.intro))
  (refine rO (@PartD.dv.eq_1) ?_; try (with_reducible exact True.intro))
  exact ⟨_, rfl, fun K v h => h⟩
theorem bothState_fun (p : PartD) (b : BatD) (yes : Bool) (next off : Int) (row : RowD) (prod : ProdD) (hl : p.opens.length ≤ 100000) (hs : SmallL p.prods) (hob : openB p.opens prod.pid = false) :
    Fun Tryz.prog 94 [.agg p.dv, .agg (EntD.mk 6 b yes next off row prod).dv] (.tup [.agg ({ p with prods := setF p.prods prod } : PartD).dv, boo true]) := by
  have c1 := refOpen_fun p prod.pid hl
  have c2 := refSet_fun10 p.prods prod hs
  rw [hob] at c1
  simp only [PartD.dv, ProdD.dv] at c1 c2
  (refine Fun.of_bodyW Tryz.func94 rfl rfl Tryz.ntmps94 Tryz.results94 (by simp) ?_)
  (refine gO (And.intro @PartD.dv.eq_1 (@EntD.dv.eq_1)) ?_; try (with_reducible exact True.intro))
  (refine rO (@PartD.dv.eq_1) ?_; try (with_reducible exact True.intro))
  exact ⟨_, rfl, fun K v h => h⟩
theorem bothRow_fun (p : PartD) (b : BatD) (yes : Bool) (next off : Int) (row : RowD) (prod : ProdD) (hr : p.rows.length ≤ 1000000) (hf : -1000000000 ≤ p.fin ∧ p.fin ≤ 1000000000) :
    Fun Tryz.prog 94 [.agg p.dv, .agg (EntD.mk 5 b yes next off row prod).dv] (.tup [.agg ({ p with rows := p.rows ++ [{ row with off := p.fin }], fin := p.fin + 1 } : PartD).dv, boo true]) := by
  have hb1 : p.rows.length * 56 ≤ 140737488355328 := by omega
  have hb2 : (p.rows.length + 1) * 56 ≤ 140737488355328 := by omega
  have hw : IntKind.i64.wrap (p.fin + 1) = p.fin + 1 := wrap_i64 (by omega)
  (refine Fun.of_bodyW Tryz.func94 rfl rfl Tryz.ntmps94 Tryz.results94 (by simp) ?_)
  (refine gO (And.intro @PartD.dv.eq_1 (And.intro @EntD.dv.eq_1 (And.intro hb1 (And.intro hb2 (And.intro hw (And.intro @List.length_map.{0,0} (@List.nil_append.{0}))))))) ?_; try (with_reducible exact True.intro))
  (refine rO (And.intro @PartD.dv.eq_1 (And.intro @RowD.dv.eq_1 (And.intro @List.map_append.{0,0} (And.intro @List.map_cons.{0,0} (@List.map_nil.{0,0}))))) ?_; try (with_reducible exact True.intro))
  exact ⟨_, rfl, fun K v h => h⟩
theorem bothCut_no (p : PartD) (b : BatD) (yes : Bool) (next off : Int) (row : RowD) (prod : ProdD) (hc : off < p.start ∨ p.fin < off) :
    Fun Tryz.prog 94 [.agg p.dv, .agg (EntD.mk 2 b yes next off row prod).dv] (.tup [.agg p.dv, boo false]) := by
  (refine Fun.of_bodyW Tryz.func94 rfl rfl Tryz.ntmps94 Tryz.results94 (by simp) ?_)
  cases h1 : decide (off < p.start) with
  | true =>
    (refine gO (And.intro @PartD.dv.eq_1 (And.intro @EntD.dv.eq_1 (h1))) ?_; try (with_reducible exact True.intro))
    (refine rO (@PartD.dv.eq_1) ?_; try (with_reducible exact True.intro))
    exact ⟨_, rfl, fun K v h => h⟩
  | false =>
    have h2 : decide (p.fin < off) = true := decide_eq_true (by have := of_decide_eq_false h1; omega)
    (refine gO (And.intro @PartD.dv.eq_1 (And.intro @EntD.dv.eq_1 (And.intro h1 (h2)))) ?_; try (with_reducible exact True.intro))
    (refine rO (@PartD.dv.eq_1) ?_; try (with_reducible exact True.intro))
    exact ⟨_, rfl, fun K v h => h⟩
theorem bothOther_no (p : PartD) (b : BatD) (yes : Bool) (next off : Int) (row : RowD) (prod : ProdD) (k : Int) (hk : k = 3 ∨ k = 4) :
    Fun Tryz.prog 94 [.agg p.dv, .agg (EntD.mk k b yes next off row prod).dv] (.tup [.agg p.dv, boo false]) := by
  (refine Fun.of_bodyW Tryz.func94 rfl rfl Tryz.ntmps94 Tryz.results94 (by simp) ?_)
  rcases hk with rfl | rfl
  · (refine gO (And.intro @PartD.dv.eq_1 (@EntD.dv.eq_1)) ?_; try (with_reducible exact True.intro))
    (refine rO (@PartD.dv.eq_1) ?_; try (with_reducible exact True.intro))
    exact ⟨_, rfl, fun K v h => h⟩
  · (refine gO (And.intro @PartD.dv.eq_1 (@EntD.dv.eq_1)) ?_; try (with_reducible exact True.intro))
    (refine rO (@PartD.dv.eq_1) ?_; try (with_reducible exact True.intro))
    exact ⟨_, rfl, fun K v h => h⟩
theorem keepF_snoc (pr : RowD → Bool) (l : List RowD) (k : Nat) (h : k < l.length) : keepF pr (l.take (k + 1)) = keepF pr (l.take k) ++ (if pr l[k] then [] else [l[k]]) := by
  rw [List.take_succ_eq_append_getElem h]
  unfold keepF
  rw [List.filter_append]
  cases hp : pr l[k] <;> simp [hp]
theorem bothCut_fun (p : PartD) (b : BatD) (yes : Bool) (next off : Int) (row : RowD) (prod : ProdD) (hr : p.rows.length ≤ 1000000) (hc : ¬ (off < p.start ∨ p.fin < off)) :
    Fun Tryz.prog 94 [.agg p.dv, .agg (EntD.mk 2 b yes next off row prod).dv] (.tup [.agg ({ p with start := off, rows := keepF (cutP off) p.rows } : PartD).dv, boo true]) := by
  have h1 : decide (off < p.start) = false := decide_eq_false (by omega)
  have h2 : decide (p.fin < off) = false := decide_eq_false (by omega)
  (refine Fun.of_bodyW Tryz.func94 rfl rfl Tryz.ntmps94 Tryz.results94 (by simp) ?_)
  (refine gO (And.intro @PartD.dv.eq_1 (And.intro @EntD.dv.eq_1 (And.intro h1 (h2)))) ?_; try (with_reducible exact True.intro))
  refine Wp.weak (Weak.nilApp (t := 6) (τ := 3) 30 5 (by (refine rO0 ?_; try (with_reducible exact True.intro))) (by (refine rO0 ?_; try (with_reducible exact True.intro)))) ?_
  refine Wp.loop (fun k : Nat => ⟨ofL [(2, .c (.own 0 0)), (3, .c (.own 1 0)), (4, .c (.own 2 0)), (6, .c (.app 3 5 ((keepF (cutP off) (p.rows.take k)).map RowD.dv))), (7, vi .i64 k)], ofH [(0, .cells [.d (int off), .d (int p.fin), .d (.lst 5 (p.rows.map RowD.dv)), .d (.lst 3 (p.opens.map OpenD.dv)), .d (.lst 4 (p.prods.map ProdD.dv))]), (1, .cells ((EntD.mk 2 b yes next off row prod).dv.map .d)), (2, .cells [.d (int 0), .d (int 0), .d nilV, .d nilV, .d nilV]), (3, .row 30 5 (keepF (cutP off) (p.rows.take k)).length)], 4, 99, 0⟩) (fun k => k ≤ p.rows.length) (fun k => p.rows.length - k) 0 (Nat.zero_le _) ?_ ?_
  · refine Weak.keep rfl rfl ?_
    (refine rO (And.intro @PartD.dv.eq_1 (And.intro @EntD.dv.eq_1 (And.intro @List.take_zero.{0} (And.intro @keepF.eq_1 (And.intro @List.filter_nil.{0} (And.intro @List.map_nil.{0,0} (@List.length_nil.{0}))))))) ?_; try (with_reducible exact True.intro))
  intro k hk
  (refine gO0 ?_; try (with_reducible exact True.intro))
  refine Wp.cond (by (refine rO0 ?_; try (with_reducible exact True.intro)); rfl) (fun h => ?_) (fun h => ?_)
  · have hlt : k < p.rows.length := by simpa using h
    have hge : p.rows[k]? = some p.rows[k] := List.getElem?_eq_getElem hlt
    have hs := keepF_snoc (cutP off) p.rows k hlt
    have hle : (keepF (cutP off) (p.rows.take k)).length ≤ 1000000 := by
      have h3 := keepF_len (cutP off) (p.rows.take k)
      rw [List.length_take] at h3; omega
    have hwk : IntKind.i64.wrap ((k : Int) + 1) = ((k + 1 : Nat) : Int) := by rw [wrap_i64 (by omega)]; rfl
    generalize p.rows[k] = r at *
    by_cases hc2 : off ≤ r.off
    · have d1 : decide (off ≤ r.off) = true := decide_eq_true hc2
      have d2 : cutP off r = false := decide_eq_false (by omega)
      rw [d2] at hs
      have hb : ((keepF (cutP off) (p.rows.take k)).length + 1) * 56 ≤ 140737488355328 := by omega
      (refine gO (And.intro hge (And.intro @RowD.dv.eq_1 (And.intro d1 (And.intro hb (@List.length_map.{0,0}))))) ?_; try (with_reducible exact True.intro))
      refine ⟨k + 1, hlt, by omega, Weak.keep rfl rfl ?_⟩
      rw [hs]
      (refine rO (And.intro @EntD.dv.eq_1 (And.intro @RowD.dv.eq_1 (And.intro @List.map_append.{0,0} (And.intro @List.map_cons.{0,0} (And.intro @List.map_nil.{0,0} (And.intro @List.length_append.{0} (And.intro @List.length_cons.{0} (And.intro @List.length_nil.{0} (And.intro @Nat.zero_add (And.intro @Bool.false_eq_true (And.intro @if_false.{1} (hwk)))))))))))) ?_; try (with_reducible exact True.intro))
    · have d1 : decide (off ≤ r.off) = false := decide_eq_false hc2
      have d2 : cutP off r = true := decide_eq_true (by omega)
      rw [d2, if_pos rfl, List.append_nil] at hs
      (refine gO (And.intro hge (And.intro @RowD.dv.eq_1 (d1))) ?_; try (with_reducible exact True.intro))
      refine ⟨k + 1, hlt, by omega, Weak.keep rfl rfl ?_⟩
      rw [hs]
      (refine rO (And.intro @EntD.dv.eq_1 (hwk)) ?_; try (with_reducible exact True.intro))
  · have hke : k = p.rows.length := by
      rw [decide_eq_false_iff_not] at h; omega
    subst hke
    rw [List.take_length]
    (refine gO (@PartD.dv.eq_1) ?_; try (with_reducible exact True.intro))
    (refine rO (@PartD.dv.eq_1) ?_; try (with_reducible exact True.intro))
    exact ⟨_, rfl, fun K v h => h⟩
end Go.Proofs.YtafipkbffboebaaGreatDoor
namespace Go.Proofs.YtafipkbffboebaaGreatDoor
open Go Go.RowKit
set_option maxHeartbeats 8000000
set_option maxRecDepth 100000
set_option linter.unusedVariables false
set_option linter.unusedSimpArgs false
def mayRowB (r : RowD) : Bool := withB r.pid 1 8 && withB r.seq 0 1048575 && decide ((r.key.length : Int) ≤ 16) && decide ((r.value.length : Int) ≤ 16)
theorem refMayRow_fun (r : RowD) : Fun Tryz.prog 85 [.agg r.dv] (boo (mayRowB r)) := by
  have c1 := within_fun r.pid 1 8
  have c2 := within_fun r.seq 0 1048575
  (refine Fun.of_body Tryz.func85 rfl rfl Tryz.ntmps85 Tryz.results85 (by simp) ?_)
  (refine gO (@RowD.dv.eq_1) ?_; try (with_reducible exact True.intro))
  unfold mayRowB
  cases h1 : withB r.pid 1 8 <;> rw [h1] at c1
  · (refine gO (@RowD.dv.eq_1) ?_; try (with_reducible exact True.intro))
    (refine rO0 ?_; try (with_reducible exact True.intro))
  cases h2 : withB r.seq 0 1048575 <;> rw [h2] at c2
  · (refine gO (@RowD.dv.eq_1) ?_; try (with_reducible exact True.intro))
    (refine rO0 ?_; try (with_reducible exact True.intro))
  cases h3 : decide ((r.key.length : Int) ≤ 16) <;> cases h4 : decide ((r.value.length : Int) ≤ 16) <;> ((refine gO (And.intro @RowD.dv.eq_1 (And.intro h3 (h4))) ?_; try (with_reducible exact True.intro)); (refine rO (And.intro h3 (h4)) ?_; try (with_reducible exact True.intro)))
def bareF (e : EntD) : EntD :=
  if e.kind = 0 then ⟨0, e.b, false, 0, 0, rowZ, prodZ⟩
  else if e.kind = 1 then ⟨1, ⟨e.b.pid, e.b.epoch, 0, false, []⟩, e.yes, 0, 0, rowZ, prodZ⟩
  else if e.kind = 2 then ⟨2, batZ, false, 0, e.off, rowZ, prodZ⟩
  else if e.kind = 3 then ⟨3, e.b, e.yes, if e.yes then e.next else 0, 0, rowZ, prodZ⟩
  else if e.kind = 4 then ⟨4, ⟨e.b.pid, e.b.epoch, 0, false, []⟩, false, e.next, 0, rowZ, prodZ⟩
  else if e.kind = 5 then ⟨5, batZ, false, 0, 0, { e.row with off := 0 }, prodZ⟩
  else if e.kind = 6 then ⟨6, batZ, false, 0, 0, rowZ, e.prod⟩
  else zE e.kind
theorem dvn2_le (e : EntD) (x y : D) (hx : DLe x (.lst 2 (e.b.recs.map RecD.dv))) (hy : DLe y (.lst 3 (e.prod.seen.map SeenD.dv))) : AllLe [i8 e.kind, int e.b.pid, int e.b.epoch, int e.b.seq, boo e.b.txn, x, boo e.yes, int e.next, int e.off, int e.row.off, int e.row.pid, int e.row.seq, str e.row.key, str e.row.value, int e.prod.pid, int e.prod.epoch, int e.prod.next, y] e.dv :=
  .cons (.refl _) (.cons (.refl _) (.cons (.refl _) (.cons (.refl _) (.cons (.refl _) (.cons hx (.cons (.refl _) (.cons (.refl _) (.cons (.refl _) (.cons (.refl _) (.cons (.refl _) (.cons (.refl _) (.cons (.refl _) (.cons (.refl _) (.cons (.refl _) (.cons (.refl _) (.cons (.refl _) (.cons hy .nil)))))))))))))))))
theorem bare0_fun (b : BatD) (yes : Bool) (next off : Int) (row : RowD) (prod : ProdD) : Fun Tryz.prog 81 [.agg (EntD.mk 0 b yes next off row prod).dv] (.agg (bareF (EntD.mk 0 b yes next off row prod)).dv) := by
  (refine Fun.of_bodyW Tryz.func81 rfl rfl Tryz.ntmps81 Tryz.results81 (by simp) ?_)
  (refine gO (@EntD.dv.eq_1) ?_; try (with_reducible exact True.intro))
  (refine rO0 ?_; try (with_reducible exact True.intro))
  exact ⟨_, rfl, DLe.agg (dvn2_le (EntD.mk 0 b false 0 0 rowZ prodZ) _ _ (.refl _) (.nil 3))⟩
theorem bare1_fun (b : BatD) (yes : Bool) (next off : Int) (row : RowD) (prod : ProdD) : Fun Tryz.prog 81 [.agg (EntD.mk 1 b yes next off row prod).dv] (.agg (bareF (EntD.mk 1 b yes next off row prod)).dv) := by
  (refine Fun.of_bodyW Tryz.func81 rfl rfl Tryz.ntmps81 Tryz.results81 (by simp) ?_)
  (refine gO (@EntD.dv.eq_1) ?_; try (with_reducible exact True.intro))
  (refine rO0 ?_; try (with_reducible exact True.intro))
  exact ⟨_, rfl, DLe.agg (dvn2_le (EntD.mk 1 ⟨b.pid, b.epoch, 0, false, []⟩ yes 0 0 rowZ prodZ) _ _ (.nil 2) (.nil 3))⟩
theorem bare2_fun (b : BatD) (yes : Bool) (next off : Int) (row : RowD) (prod : ProdD) : Fun Tryz.prog 81 [.agg (EntD.mk 2 b yes next off row prod).dv] (.agg (bareF (EntD.mk 2 b yes next off row prod)).dv) := by
  (refine Fun.of_bodyW Tryz.func81 rfl rfl Tryz.ntmps81 Tryz.results81 (by simp) ?_)
  (refine gO (@EntD.dv.eq_1) ?_; try (with_reducible exact True.intro))
  (refine rO0 ?_; try (with_reducible exact True.intro))
  exact ⟨_, rfl, DLe.agg (dvn2_le (EntD.mk 2 batZ false 0 off rowZ prodZ) _ _ (.nil 2) (.nil 3))⟩
theorem bare3_fun (b : BatD) (yes : Bool) (next off : Int) (row : RowD) (prod : ProdD) : Fun Tryz.prog 81 [.agg (EntD.mk 3 b yes next off row prod).dv] (.agg (bareF (EntD.mk 3 b yes next off row prod)).dv) := by
  (refine Fun.of_bodyW Tryz.func81 rfl rfl Tryz.ntmps81 Tryz.results81 (by simp) ?_)
  cases yes
  · (refine gO (@EntD.dv.eq_1) ?_; try (with_reducible exact True.intro))
    (refine rO0 ?_; try (with_reducible exact True.intro))
    exact ⟨_, rfl, DLe.agg (dvn2_le (EntD.mk 3 b false 0 0 rowZ prodZ) _ _ (.refl _) (.nil 3))⟩
  · (refine gO (@EntD.dv.eq_1) ?_; try (with_reducible exact True.intro))
    (refine rO0 ?_; try (with_reducible exact True.intro))
    exact ⟨_, rfl, DLe.agg (dvn2_le (EntD.mk 3 b true next 0 rowZ prodZ) _ _ (.refl _) (.nil 3))⟩
theorem bare4_fun (b : BatD) (yes : Bool) (next off : Int) (row : RowD) (prod : ProdD) : Fun Tryz.prog 81 [.agg (EntD.mk 4 b yes next off row prod).dv] (.agg (bareF (EntD.mk 4 b yes next off row prod)).dv) := by
  (refine Fun.of_bodyW Tryz.func81 rfl rfl Tryz.ntmps81 Tryz.results81 (by simp) ?_)
  (refine gO (@EntD.dv.eq_1) ?_; try (with_reducible exact True.intro))
  (refine rO0 ?_; try (with_reducible exact True.intro))
  exact ⟨_, rfl, DLe.agg (dvn2_le (EntD.mk 4 ⟨b.pid, b.epoch, 0, false, []⟩ false next 0 rowZ prodZ) _ _ (.nil 2) (.nil 3))⟩
theorem bare5_fun (b : BatD) (yes : Bool) (next off : Int) (row : RowD) (prod : ProdD) : Fun Tryz.prog 81 [.agg (EntD.mk 5 b yes next off row prod).dv] (.agg (bareF (EntD.mk 5 b yes next off row prod)).dv) := by
  (refine Fun.of_bodyW Tryz.func81 rfl rfl Tryz.ntmps81 Tryz.results81 (by simp) ?_)
  (refine gO (@EntD.dv.eq_1) ?_; try (with_reducible exact True.intro))
  (refine rO0 ?_; try (with_reducible exact True.intro))
  exact ⟨_, rfl, DLe.agg (dvn2_le (EntD.mk 5 batZ false 0 0 ⟨0, row.pid, row.seq, row.key, row.value⟩ prodZ) _ _ (.nil 2) (.nil 3))⟩
theorem bare6_fun (b : BatD) (yes : Bool) (next off : Int) (row : RowD) (prod : ProdD) : Fun Tryz.prog 81 [.agg (EntD.mk 6 b yes next off row prod).dv] (.agg (bareF (EntD.mk 6 b yes next off row prod)).dv) := by
  (refine Fun.of_bodyW Tryz.func81 rfl rfl Tryz.ntmps81 Tryz.results81 (by simp) ?_)
  (refine gO (@EntD.dv.eq_1) ?_; try (with_reducible exact True.intro))
  (refine rO0 ?_; try (with_reducible exact True.intro))
  exact ⟨_, rfl, DLe.agg (dvn2_le (EntD.mk 6 batZ false 0 0 rowZ prod) _ _ (.nil 2) (.refl _))⟩
theorem bareX_fun (e : EntD) (hk : ¬ (0 ≤ e.kind ∧ e.kind < 7)) : Fun Tryz.prog 81 [.agg e.dv] (.agg (bareF e).dv) := by
  have hz : bareF e = zE e.kind := by
    unfold bareF
    rw [if_neg (by omega), if_neg (by omega), if_neg (by omega), if_neg (by omega), if_neg (by omega), if_neg (by omega), if_neg (by omega)]
  rw [hz]
  have d0 : (e.kind == 0) = false := by simp; omega
  have d1 : (e.kind == 1) = false := by simp; omega
  have d2 : (e.kind == 2) = false := by simp; omega
  have d3 : (e.kind == 3) = false := by simp; omega
  have d4 : (e.kind == 4) = false := by simp; omega
  have d5 : (e.kind == 5) = false := by simp; omega
  have d6 : (e.kind == 6) = false := by simp; omega
  (refine Fun.of_bodyW Tryz.func81 rfl rfl Tryz.ntmps81 Tryz.results81 (by simp) ?_)
  (refine gO (And.intro @EntD.dv.eq_1 (And.intro d0 (And.intro d1 (And.intro d2 (And.intro d3 (And.intro d4 (And.intro d5 (d6)))))))) ?_; try (with_reducible exact True.intro))
  (refine rO0 ?_; try (with_reducible exact True.intro))
  exact ⟨_, rfl, DLe.agg (dvn2_le (zE e.kind) _ _ (.nil 2) (.nil 3))⟩
theorem refMay07_fun (e : EntD) (hs : SmallE e) (hr : e.b.recs.length ≤ 100000) (hq : e.prod.seen.length ≤ 100000) : Fun Tryz.prog 43 [.agg e.dv] (boo (okKind e)) := by
  by_cases hk : ¬ (0 ≤ e.kind ∧ e.kind < 7)
  · have c1 := bareX_fun e hk
    have c2 := same_fun e (bareF e) hs
    have ho : okKind e = false := by
      unfold okKind
      cases h1 : decide (0 ≤ e.kind) <;> cases h2 : decide (e.kind < 7) <;> simp
      exact absurd ⟨of_decide_eq_true h1, of_decide_eq_true h2⟩ hk
    have d0 : (e.kind == 0) = false := by simp; omega
    have d1 : (e.kind == 1) = false := by simp; omega
    have d2 : (e.kind == 2) = false := by simp; omega
    have d3 : (e.kind == 3) = false := by simp; omega
    have d4 : (e.kind == 4) = false := by simp; omega
    have d5 : (e.kind == 5) = false := by simp; omega
    have d6 : (e.kind == 6) = false := by simp; omega
    rw [ho]
    generalize bareF e = x at *
    obtain ⟨k, b, yes, next, off, row, prod⟩ := e
    simp only [EntD.dv] at c1 c2 d0 d1 d2 d3 d4 d5 d6
    (refine Fun.of_body Tryz.func43 rfl rfl Tryz.ntmps43 Tryz.results43 (by simp) ?_)
    cases hsm : decide ((⟨k, b, yes, next, off, row, prod⟩ : EntD) = x) <;> rw [hsm] at c2 <;> ((refine gO (And.intro @EntD.dv.eq_1 (And.intro d0 (And.intro d1 (And.intro d2 (And.intro d3 (And.intro d4 (And.intro d5 (d6)))))))) ?_; try (with_reducible exact True.intro)); (refine rO0 ?_; try (with_reducible exact True.intro)))
  · have hk : 0 ≤ e.kind ∧ e.kind < 7 := Decidable.not_not.1 hk
    have c2 := same_fun e (bareF e) hs
    obtain ⟨k, b, yes, next, off, row, prod⟩ := e
    have hk7 : k = 0 ∨ k = 1 ∨ k = 2 ∨ k = 3 ∨ k = 4 ∨ k = 5 ∨ k = 6 := by simp only at hk; omega
    rcases hk7 with rfl | rfl | rfl | rfl | rfl | rfl | rfl
    · have c1 := bare0_fun b yes next off row prod
      have c3 := refMay_fun b hr
      have hv : okKind ⟨0, b, yes, next, off, row, prod⟩ = (decide ((⟨0, b, yes, next, off, row, prod⟩ : EntD) = bareF ⟨0, b, yes, next, off, row, prod⟩) && batB b) := by
        have he : decide ((⟨0, b, yes, next, off, row, prod⟩ : EntD) = bareF ⟨0, b, yes, next, off, row, prod⟩) = decide ((⟨0, batZ, yes, next, off, row, prod⟩ : EntD) = zE 0) := by
          apply decide_eq_decide.2; simp [bareF, zE]
        rw [he, Bool.and_comm]; simp [okKind, mayI]
      rw [hv]
      generalize bareF ⟨0, b, yes, next, off, row, prod⟩ = x at *
      simp only [EntD.dv, BatD.dv] at c1 c2 c3
      (refine Fun.of_body Tryz.func43 rfl rfl Tryz.ntmps43 Tryz.results43 (by simp) ?_)
      cases hsm : decide ((⟨0, b, yes, next, off, row, prod⟩ : EntD) = x) <;> rw [hsm] at c2 <;> ((refine gO (@EntD.dv.eq_1) ?_; try (with_reducible exact True.intro)); (refine rO0 ?_; try (with_reducible exact True.intro)))
    · have c1 := bare1_fun b yes next off row prod
      have c3 := producer7_fun b.pid b.epoch
      have hv : okKind ⟨1, b, yes, next, off, row, prod⟩ = (decide ((⟨1, b, yes, next, off, row, prod⟩ : EntD) = bareF ⟨1, b, yes, next, off, row, prod⟩) && prodB b.pid b.epoch) := by
        have he : decide ((⟨1, b, yes, next, off, row, prod⟩ : EntD) = bareF ⟨1, b, yes, next, off, row, prod⟩) = decide ((⟨1, ⟨0, 0, b.seq, b.txn, b.recs⟩, false, next, off, row, prod⟩ : EntD) = zE 1) := by
          obtain ⟨b1, b2, b3, b4, b5⟩ := b
          apply decide_eq_decide.2; simp [bareF, zE, batZ]
        rw [he, Bool.and_comm]; simp [okKind, mayI]
      rw [hv]
      generalize bareF ⟨1, b, yes, next, off, row, prod⟩ = x at *
      simp only [EntD.dv, BatD.dv] at c1 c2 c3
      (refine Fun.of_body Tryz.func43 rfl rfl Tryz.ntmps43 Tryz.results43 (by simp) ?_)
      cases hsm : decide ((⟨1, b, yes, next, off, row, prod⟩ : EntD) = x) <;> rw [hsm] at c2 <;> ((refine gO (@EntD.dv.eq_1) ?_; try (with_reducible exact True.intro)); (refine rO0 ?_; try (with_reducible exact True.intro)))
    · have c1 := bare2_fun b yes next off row prod
      have c3 := within_fun off 0 1048576
      have hv : okKind ⟨2, b, yes, next, off, row, prod⟩ = (decide ((⟨2, b, yes, next, off, row, prod⟩ : EntD) = bareF ⟨2, b, yes, next, off, row, prod⟩) && withB off 0 1048576) := by
        have he : decide ((⟨2, b, yes, next, off, row, prod⟩ : EntD) = bareF ⟨2, b, yes, next, off, row, prod⟩) = decide ((⟨2, b, yes, next, 0, row, prod⟩ : EntD) = zE 2) := by
          apply decide_eq_decide.2; simp [bareF, zE]
        rw [he, Bool.and_comm]; simp [okKind, mayI]
      rw [hv]
      generalize bareF ⟨2, b, yes, next, off, row, prod⟩ = x at *
      simp only [EntD.dv, BatD.dv] at c1 c2 c3
      (refine Fun.of_body Tryz.func43 rfl rfl Tryz.ntmps43 Tryz.results43 (by simp) ?_)
      cases hsm : decide ((⟨2, b, yes, next, off, row, prod⟩ : EntD) = x) <;> rw [hsm] at c2 <;> ((refine gO (@EntD.dv.eq_1) ?_; try (with_reducible exact True.intro)); (refine rO0 ?_; try (with_reducible exact True.intro)))
    · have c1 := bare3_fun b yes next off row prod
      have c3 := refMay_fun b hr
      have c4 := within_fun next 0 1048576
      have hv : okKind ⟨3, b, yes, next, off, row, prod⟩ = (decide ((⟨3, b, yes, next, off, row, prod⟩ : EntD) = bareF ⟨3, b, yes, next, off, row, prod⟩) && (batB b && (b.txn && withB next 0 1048576))) := by
        cases yes with
        | true =>
          have he : decide ((⟨3, b, true, next, off, row, prod⟩ : EntD) = bareF ⟨3, b, true, next, off, row, prod⟩) = decide ((⟨3, batZ, false, 0, off, row, prod⟩ : EntD) = zE 3) := by
            apply decide_eq_decide.2; simp [bareF, zE]
          rw [he]; simp [okKind, mayI]
          cases b.txn <;> cases withB next 0 1048576 <;> cases batB b <;> simp
        | false =>
          have he : decide ((⟨3, b, false, next, off, row, prod⟩ : EntD) = bareF ⟨3, b, false, next, off, row, prod⟩) = decide ((⟨3, batZ, false, next, off, row, prod⟩ : EntD) = zE 3) := by
            apply decide_eq_decide.2; simp [bareF, zE]
          rw [he]
          cases hz : decide ((⟨3, batZ, false, next, off, row, prod⟩ : EntD) = zE 3) with
          | false => simp only [okKind, mayI, Bool.false_eq_true, if_false]; simp [hz]
          | true =>
            have h0 : next = 0 := by
              have := of_decide_eq_true hz
              simp [zE] at this; exact this.1
            subst h0
            simp only [okKind, mayI, Bool.false_eq_true, if_false]; simp [hz, withB]
            cases b.txn <;> cases batB b <;> simp
      rw [hv]
      generalize bareF ⟨3, b, yes, next, off, row, prod⟩ = x at *
      simp only [EntD.dv, BatD.dv] at c1 c2 c3
      (refine Fun.of_body Tryz.func43 rfl rfl Tryz.ntmps43 Tryz.results43 (by simp) ?_)
      cases hsm : decide ((⟨3, b, yes, next, off, row, prod⟩ : EntD) = x) <;> rw [hsm] at c2
      · (refine gO (@EntD.dv.eq_1) ?_; try (with_reducible exact True.intro))
        (refine rO0 ?_; try (with_reducible exact True.intro))
      · cases hb : batB b <;> rw [hb] at c3
        · (refine gO (@EntD.dv.eq_1) ?_; try (with_reducible exact True.intro))
          (refine rO0 ?_; try (with_reducible exact True.intro))
        · cases ht : b.txn <;> simp only [ht] at c1 c2 c3 <;> ((refine gO (And.intro @EntD.dv.eq_1 (ht)) ?_; try (with_reducible exact True.intro)); (refine rO (ht) ?_; try (with_reducible exact True.intro)))
    · have c1 := bare4_fun b yes next off row prod
      have c3 := producer7_fun b.pid b.epoch
      have c4 := within_fun next 0 1048576
      have hv : okKind ⟨4, b, yes, next, off, row, prod⟩ = (decide ((⟨4, b, yes, next, off, row, prod⟩ : EntD) = bareF ⟨4, b, yes, next, off, row, prod⟩) && (prodB b.pid b.epoch && withB next 0 1048576)) := by
        obtain ⟨b1, b2, b3, b4, b5⟩ := b
        cases yes with
        | true =>
          have he : decide ((⟨4, ⟨b1, b2, b3, b4, b5⟩, true, next, off, row, prod⟩ : EntD) = bareF ⟨4, ⟨b1, b2, b3, b4, b5⟩, true, next, off, row, prod⟩) = false := by
            apply decide_eq_false; simp [bareF]
          rw [he]; simp [okKind, mayI]
        | false =>
          have he : decide ((⟨4, ⟨b1, b2, b3, b4, b5⟩, false, next, off, row, prod⟩ : EntD) = bareF ⟨4, ⟨b1, b2, b3, b4, b5⟩, false, next, off, row, prod⟩) = decide ((⟨4, ⟨0, 0, b3, b4, b5⟩, false, 0, off, row, prod⟩ : EntD) = zE 4) := by
            apply decide_eq_decide.2; simp [bareF, zE, batZ]
          rw [he]; simp only [okKind, mayI]; simp
          cases prodB b1 b2 <;> cases withB next 0 1048576 <;> simp
      rw [hv]
      generalize bareF ⟨4, b, yes, next, off, row, prod⟩ = x at *
      simp only [EntD.dv, BatD.dv] at c1 c2 c3
      (refine Fun.of_body Tryz.func43 rfl rfl Tryz.ntmps43 Tryz.results43 (by simp) ?_)
      cases hsm : decide ((⟨4, b, yes, next, off, row, prod⟩ : EntD) = x) <;> rw [hsm] at c2
      · (refine gO (@EntD.dv.eq_1) ?_; try (with_reducible exact True.intro))
        (refine rO0 ?_; try (with_reducible exact True.intro))
      · cases hb : prodB b.pid b.epoch <;> rw [hb] at c3 <;> ((refine gO (@EntD.dv.eq_1) ?_; try (with_reducible exact True.intro)); (refine rO0 ?_; try (with_reducible exact True.intro)))
    · have c1 := bare5_fun b yes next off row prod
      have c3 := refMayRow_fun row
      have hv : okKind ⟨5, b, yes, next, off, row, prod⟩ = (decide ((⟨5, b, yes, next, off, row, prod⟩ : EntD) = bareF ⟨5, b, yes, next, off, row, prod⟩) && mayRowB row) := by
        obtain ⟨r1, r2, r3, r4, r5⟩ := row
        have he : decide ((⟨5, b, yes, next, off, ⟨r1, r2, r3, r4, r5⟩, prod⟩ : EntD) = bareF ⟨5, b, yes, next, off, ⟨r1, r2, r3, r4, r5⟩, prod⟩) = (decide ((⟨5, b, yes, next, off, rowZ, prod⟩ : EntD) = zE 5) && (r1 == 0)) := by
          rw [Bool.eq_iff_iff]; simp [bareF, zE]
          constructor
          · rintro ⟨a1, a2, a3, a4, a5, a6⟩; exact ⟨⟨a1, a2, a3, a4, a6⟩, a5⟩
          · rintro ⟨⟨a1, a2, a3, a4, a6⟩, a5⟩; exact ⟨a1, a2, a3, a4, a5, a6⟩
        have hm : rowB ⟨r1, r2, r3, r4, r5⟩ = ((r1 == 0) && mayRowB ⟨r1, r2, r3, r4, r5⟩) := by
          rw [Bool.eq_iff_iff]
          simp only [rowB, mayRowB, prodB, withB, Bool.and_eq_true, beq_iff_eq, decide_eq_true_eq]
          constructor
          · rintro ⟨⟨⟨⟨⟨a1, a2⟩, a3⟩, a4⟩, a5⟩, a6⟩; exact ⟨a1, ⟨⟨⟨a2.1.1.1, a2.1.1.2⟩, a3, by omega⟩, a5⟩, a6⟩
          · rintro ⟨a1, ⟨⟨⟨a2, a3⟩, a4, a5⟩, a6⟩, a7⟩; exact ⟨⟨⟨⟨⟨a1, ⟨⟨⟨a2, a3⟩, by omega⟩, by omega⟩⟩, a4⟩, by omega⟩, a6⟩, a7⟩
        rw [he]; simp only [okKind, mayI]; simp [hm]
        cases (r1 == 0) <;> cases mayRowB ⟨r1, r2, r3, r4, r5⟩ <;> simp
      rw [hv]
      generalize bareF ⟨5, b, yes, next, off, row, prod⟩ = x at *
      simp only [EntD.dv, RowD.dv] at c1 c2 c3
      (refine Fun.of_body Tryz.func43 rfl rfl Tryz.ntmps43 Tryz.results43 (by simp) ?_)
      cases hsm : decide ((⟨5, b, yes, next, off, row, prod⟩ : EntD) = x) <;> rw [hsm] at c2 <;> ((refine gO (@EntD.dv.eq_1) ?_; try (with_reducible exact True.intro)); (refine rO0 ?_; try (with_reducible exact True.intro)))
    · have c1 := bare6_fun b yes next off row prod
      have c3 := known7_fun prod hq
      have hv : okKind ⟨6, b, yes, next, off, row, prod⟩ = (decide ((⟨6, b, yes, next, off, row, prod⟩ : EntD) = bareF ⟨6, b, yes, next, off, row, prod⟩) && knownB prod) := by
        have he : decide ((⟨6, b, yes, next, off, row, prod⟩ : EntD) = bareF ⟨6, b, yes, next, off, row, prod⟩) = decide ((⟨6, b, yes, next, off, row, prodZ⟩ : EntD) = zE 6) := by
          apply decide_eq_decide.2; simp [bareF, zE]
        rw [he, Bool.and_comm]; simp [okKind, mayI]
      rw [hv]
      generalize bareF ⟨6, b, yes, next, off, row, prod⟩ = x at *
      simp only [EntD.dv, ProdD.dv] at c1 c2 c3
      (refine Fun.of_body Tryz.func43 rfl rfl Tryz.ntmps43 Tryz.results43 (by simp) ?_)
      cases hsm : decide ((⟨6, b, yes, next, off, row, prod⟩ : EntD) = x) <;> rw [hsm] at c2 <;> ((refine gO (@EntD.dv.eq_1) ?_; try (with_reducible exact True.intro)); (refine rO0 ?_; try (with_reducible exact True.intro)))
end Go.Proofs.YtafipkbffboebaaGreatDoor
namespace Go.Proofs.YtafipkbffboebaaGreatDoor
open Go Go.RowKit
set_option maxHeartbeats 8000000
set_option maxRecDepth 100000
set_option linter.unusedVariables false
set_option linter.unusedSimpArgs false
theorem refNextBoth_fun (p q : PartD) (e : EntD) (ok : Bool) (h0 : (e.kind == 0) = false) (h1 : (e.kind == 1) = false) (c1 : Fun Tryz.prog 94 [.agg p.dv, .agg e.dv] (.tup [.agg q.dv, boo ok])) :
    Fun Tryz.prog 44 [.agg p.dv, .agg e.dv] (.tup [.agg q.dv, boo ok]) := by
  simp only [PartD.dv, EntD.dv] at c1
  (refine Fun.of_bodyW Tryz.func44 rfl rfl Tryz.ntmps44 Tryz.results44 (by simp) ?_)
  (refine gO (And.intro @PartD.dv.eq_1 (And.intro @EntD.dv.eq_1 (And.intro h0 (h1)))) ?_; try (with_reducible exact True.intro))
  (refine rO (@PartD.dv.eq_1) ?_; try (with_reducible exact True.intro))
  exact ⟨_, rfl, fun K v h => h⟩
theorem refNextPlain_fun (p q : PartD) (ok : Bool) (b : BatD) (yes : Bool) (next off : Int) (row : RowD) (prod : ProdD) (ht : b.txn = false) (c1 : Fun Tryz.prog 87 [.agg p.dv, .agg b.dv] (.tup [.agg q.dv, boo ok])) :
    Fun Tryz.prog 44 [.agg p.dv, .agg (EntD.mk 0 b yes next off row prod).dv] (.tup [.agg q.dv, boo ok]) := by
  simp only [PartD.dv, BatD.dv, ht] at c1
  (refine Fun.of_bodyW Tryz.func44 rfl rfl Tryz.ntmps44 Tryz.results44 (by simp) ?_)
  (refine gO (And.intro @PartD.dv.eq_1 (And.intro @EntD.dv.eq_1 (ht))) ?_; try (with_reducible exact True.intro))
  (refine rO (And.intro @PartD.dv.eq_1 (ht)) ?_; try (with_reducible exact True.intro))
  exact ⟨_, rfl, fun K v h => h⟩
theorem refNextTake_no (p : PartD) (b : BatD) (yes : Bool) (next off : Int) (row : RowD) (prod : ProdD) (ht : b.txn = true) (hs : SmallL p.prods) (hb : b.recs.length ≤ 100000) (hz : (takeF p.prods b (-1)).2 ≠ 0) :
    Fun Tryz.prog 44 [.agg p.dv, .agg (EntD.mk 0 b yes next off row prod).dv] (.tup [.agg p.dv, boo false]) := by
  have c1 := refTake_fun10 p.prods b (-1) hs hb
  have d1 : ((takeF p.prods b (-1)).2 != 0) = true := by simpa using hz
  generalize takeF p.prods b (-1) = tk at *
  simp only [BatD.dv, ht] at c1
  (refine Fun.of_bodyW Tryz.func44 rfl rfl Tryz.ntmps44 Tryz.results44 (by simp) ?_)
  (refine gO (And.intro @PartD.dv.eq_1 (And.intro @EntD.dv.eq_1 (And.intro ht (d1)))) ?_; try (with_reducible exact True.intro))
  (refine rO (And.intro @PartD.dv.eq_1 (ht)) ?_; try (with_reducible exact True.intro))
  exact ⟨_, rfl, fun K v h => h⟩
theorem refNextPut_fun (p q : PartD) (ok : Bool) (b : BatD) (yes : Bool) (next off : Int) (row : RowD) (prod : ProdD) (ht : b.txn = true) (hs : SmallL p.prods) (hb : b.recs.length ≤ 100000) (hz : (takeF p.prods b (-1)).2 = 0)
    (c2 : Fun Tryz.prog 89 [.agg p.dv, .agg b.dv] (.tup [.agg q.dv, boo ok])) :
    Fun Tryz.prog 44 [.agg p.dv, .agg (EntD.mk 0 b yes next off row prod).dv] (.tup [.agg ({ q with prods := (takeF p.prods b (-1)).1 } : PartD).dv, boo ok]) := by
  have c1 := refTake_fun10 p.prods b (-1) hs hb
  have d1 : ((takeF p.prods b (-1)).2 != 0) = false := by simp [hz]
  generalize takeF p.prods b (-1) = tk at *
  simp only [PartD.dv, BatD.dv, ht] at c1 c2
  (refine Fun.of_bodyW Tryz.func44 rfl rfl Tryz.ntmps44 Tryz.results44 (by simp) ?_)
  (refine gO (And.intro @PartD.dv.eq_1 (And.intro @EntD.dv.eq_1 (And.intro ht (d1)))) ?_; try (with_reducible exact True.intro))
  (refine rO (And.intro @PartD.dv.eq_1 (ht)) ?_; try (with_reducible exact True.intro))
  exact ⟨_, rfl, fun K v h => h⟩
theorem refNextMark_no (p : PartD) (b : BatD) (yes : Bool) (next off : Int) (row : RowD) (prod : ProdD) (hl : p.opens.length ≤ 100000) (hno : openB p.opens b.pid = false ∨ ∃ o, p.opens[openI p.opens b.pid]? = some o ∧ o.epoch ≠ b.epoch) :
    Fun Tryz.prog 44 [.agg p.dv, .agg (EntD.mk 1 b yes next off row prod).dv] (.tup [.agg p.dv, boo false]) := by
  have c1 := refOpen_fun p b.pid hl
  simp only [PartD.dv] at c1
  (refine Fun.of_bodyW Tryz.func44 rfl rfl Tryz.ntmps44 Tryz.results44 (by simp) ?_)
  cases ho : openB p.opens b.pid with
  | false =>
    rw [ho] at c1
    generalize openI p.opens b.pid = i at *
    (refine gO (And.intro @PartD.dv.eq_1 (@EntD.dv.eq_1)) ?_; try (with_reducible exact True.intro))
    (refine rO (@PartD.dv.eq_1) ?_; try (with_reducible exact True.intro))
    exact ⟨_, rfl, fun K v h => h⟩
  | true =>
    rw [ho] at c1 hno
    rcases hno with h | ⟨o, hi, hne⟩
    · cases h
    have d1 : (o.epoch != b.epoch) = true := by simpa using hne
    generalize openI p.opens b.pid = i at *
    (refine gO (And.intro @PartD.dv.eq_1 (And.intro @EntD.dv.eq_1 (And.intro hi (And.intro @OpenD.dv.eq_1 (d1))))) ?_; try (with_reducible exact True.intro))
    (refine rO (@PartD.dv.eq_1) ?_; try (with_reducible exact True.intro))
    exact ⟨_, rfl, fun K v h => h⟩
theorem refNextMark_fun (p : PartD) (b : BatD) (yes : Bool) (next off : Int) (row : RowD) (prod : ProdD) (hl : p.opens.length ≤ 100000) (o : OpenD) (ho : openB p.opens b.pid = true) (hi : p.opens[openI p.opens b.pid]? = some o) (he : o.epoch = b.epoch)
    (hs : SmallL p.prods) (hf : 0 ≤ p.fin ∧ p.fin ≤ 1048576) (hr : p.rows.length ≤ 100000) (hbl : o.bats.length ≤ 8) (hbr : ∀ b ∈ o.bats, b.recs.length ≤ 4) :
    ∃ q, markR p b yes = some q ∧ Fun Tryz.prog 44 [.agg p.dv, .agg (EntD.mk 1 b yes next off row prod).dv] (.tup [.agg q.dv, boo true]) := by
  have c1 := refOpen_fun p b.pid hl
  have c2 := refAway_fun p b.pid hl o ho hi
  have c4 := refClear_fun10 p.prods b.pid hs
  have d1 : (o.epoch != b.epoch) = false := by simp [he]
  obtain ⟨p0, hp0⟩ : ∃ p0, p0 = ({ p with opens := p.opens.take (openI p.opens b.pid) ++ p.opens.drop (openI p.opens b.pid + 1) } : PartD) := ⟨_, rfl⟩
  have hq : markR p b yes = some ({ putsP p0 (if yes then o.bats else []) with fin := (putsP p0 (if yes then o.bats else [])).fin + 1, prods := clearR p.prods b.pid } : PartD) := by
    unfold markR
    rw [ho, hi, hp0]
    simp only
    rw [if_neg (by simpa using he)]
  refine ⟨_, hq, ?_⟩
  rw [← hp0] at c2
  have hp0p : p0.prods = p.prods := by rw [hp0]
  have hp0f : p0.fin = p.fin := by rw [hp0]
  have hp0r : p0.rows = p.rows := by rw [hp0]
  rw [ho] at c1
  simp only [PartD.dv] at c1 c2
  clear hq
  have hsb : ∀ j, sumR (o.bats.take j) ≤ 32 := fun j => by
    have h1 := sumR_bound (o.bats.take j) (fun x hx => hbr x (List.mem_of_mem_take hx))
    have h2 : (o.bats.take j).length ≤ 8 := by rw [List.length_take]; omega
    omega
  generalize openI p.opens b.pid = i at *
  (refine Fun.of_bodyW Tryz.func44 rfl rfl Tryz.ntmps44 Tryz.results44 (by simp) ?_)
  (refine gO (And.intro @PartD.dv.eq_1 (And.intro @EntD.dv.eq_1 (And.intro hi (And.intro @OpenD.dv.eq_1 (d1))))) ?_; try (with_reducible exact True.intro))
  have hw : ∀ n : Int, 0 ≤ n → n ≤ 1048576 + 32 → IntKind.i64.wrap (n + 1) = n + 1 := fun n h1 h2 => wrap_i64 (by omega)
  cases yes with
  | false =>
    refine Wp.loop (fun j : Nat => ⟨ofL [(2, .c (.own 0 0)), (3, .c (.own 1 0)), (4, .c (.own 2 0)), (11, .c (.d (.lst 5 (o.bats.map BatD.dv)))), (12, vi .i64 0)], ofH [(0, .cells (p0.dv.map .d)), (1, .cells ((EntD.mk 1 b false next off row prod).dv.map .d)), (2, .cells [.d (int 0), .d (int 0), .d nilV, .d nilV, .d nilV])], 3, 115, 0⟩) (fun j => True) (fun j => 0) 0 trivial ?_ ?_
    · refine Weak.keep rfl rfl ?_
      (refine rO (And.intro @PartD.dv.eq_1 (@EntD.dv.eq_1)) ?_; try (with_reducible exact True.intro))
    intro j _
    have hw1 := hw p0.fin (by omega) (by omega)
    have hpz : putsP p0 (if false = true then o.bats else []) = p0 := rfl
    rw [hpz]
    rw [← hp0p] at c4
    have hsame : clearR p.prods b.pid = clearR p0.prods b.pid := by rw [hp0p]
    rw [hsame]
    cases hz : decide ((0 : Int) < (o.bats.length : Int)) with
    | true =>
      (refine gO (And.intro @PartD.dv.eq_1 (And.intro @EntD.dv.eq_1 (And.intro hz (And.intro @List.length_map.{0,0} (hw1))))) ?_; try (with_reducible exact True.intro))
      (refine rO (@PartD.dv.eq_1) ?_; try (with_reducible exact True.intro))
      exact ⟨_, rfl, fun K v h => h⟩
    | false =>
      (refine gO (And.intro @PartD.dv.eq_1 (And.intro @EntD.dv.eq_1 (And.intro hz (And.intro @List.length_map.{0,0} (hw1))))) ?_; try (with_reducible exact True.intro))
      (refine rO (@PartD.dv.eq_1) ?_; try (with_reducible exact True.intro))
      exact ⟨_, rfl, fun K v h => h⟩
  | true =>
    refine Wp.loop (fun j : Nat => ⟨ofL [(2, .c (.own 0 0)), (3, .c (.own 1 0)), (4, .c (.own 2 0)), (11, .c (.d (.lst 5 (o.bats.map BatD.dv)))), (12, vi .i64 j)], ofH [(0, .cells ((putsP p0 (o.bats.take j)).dv.map .d)), (1, .cells ((EntD.mk 1 b true next off row prod).dv.map .d)), (2, .cells [.d (int 0), .d (int 0), .d nilV, .d nilV, .d nilV])], 3, 115, 0⟩) (fun j => j ≤ o.bats.length) (fun j => o.bats.length - j) 0 (Nat.zero_le _) ?_ ?_
    · refine Weak.keep rfl rfl ?_
      (refine rO (And.intro @PartD.dv.eq_1 (And.intro @EntD.dv.eq_1 (And.intro @List.take_zero.{0} (And.intro @putsP.eq_1 (@List.foldl_nil.{0,0}))))) ?_; try (with_reducible exact True.intro))
    intro j hj
    have hk := puts_keepP (o.bats.take j) p0
    have hsj := hsb j
    by_cases hjl : j < o.bats.length
    · have d2 : decide ((j : Int) < (o.bats.length : Int)) = true := decide_eq_true (by omega)
      have hge : o.bats[j]? = some o.bats[j] := List.getElem?_eq_getElem hjl
      have hsn : putsP p0 (o.bats.take (j + 1)) = { putsP p0 (o.bats.take j) with rows := (putsP p0 (o.bats.take j)).rows ++ rowsF o.bats[j] (putsP p0 (o.bats.take j)).fin, fin := (putsP p0 (o.bats.take j)).fin + (o.bats[j].recs.length : Int) } := by
        rw [List.take_succ_eq_append_getElem hjl]
        unfold putsP
        rw [List.foldl_append]; rfl
      have hrl := hbr _ (List.getElem_mem hjl)
      have hwk : IntKind.i64.wrap ((j : Int) + 1) = ((j + 1 : Nat) : Int) := by rw [wrap_i64 (by omega)]; rfl
      generalize o.bats[j] = x at *
      have c3 := refAdd_fun (putsP p0 (o.bats.take j)) x (by rw [hk.2.2.2.2, hp0r]; omega) (by omega) (by rw [hk.2.2.2.1]; omega)
      generalize putsP p0 (o.bats.take j) = u at *
      simp only [PartD.dv, BatD.dv] at c3
      (refine gO (And.intro @PartD.dv.eq_1 (And.intro @EntD.dv.eq_1 (And.intro @BatD.dv.eq_1 (And.intro d2 (And.intro @List.length_map.{0,0} (And.intro hge (hwk))))))) ?_; try (with_reducible exact True.intro))
      refine ⟨j + 1, hjl, by omega, Weak.keep rfl rfl ?_⟩
      rw [hsn]
      (refine rO (And.intro @PartD.dv.eq_1 (@EntD.dv.eq_1)) ?_; try (with_reducible exact True.intro))
    · have hje : j = o.bats.length := by omega
      subst hje
      rw [List.take_length] at hk hsj ⊢
      have d2 : decide ((o.bats.length : Int) < (o.bats.length : Int)) = false := by simp
      have hpz : putsP p0 (if true = true then o.bats else []) = putsP p0 o.bats := rfl
      rw [hpz]
      have hup : clearR p.prods b.pid = clearR (putsP p0 o.bats).prods b.pid := by rw [hk.2.1, hp0p]
      rw [hup]
      rw [← hp0p, ← hk.2.1] at c4
      have hw1 := hw (putsP p0 o.bats).fin (by rw [hk.2.2.2.1]; omega) (by rw [hk.2.2.2.1]; omega)
      generalize putsP p0 o.bats = u at *
      (refine gO (And.intro @PartD.dv.eq_1 (And.intro @EntD.dv.eq_1 (And.intro d2 (And.intro @List.length_map.{0,0} (hw1))))) ?_; try (with_reducible exact True.intro))
      (refine rO (@PartD.dv.eq_1) ?_; try (with_reducible exact True.intro))
      exact ⟨_, rfl, fun K v h => h⟩
end Go.Proofs.YtafipkbffboebaaGreatDoor
namespace Go.Proofs.YtafipkbffboebaaGreatDoor
open Go Go.RowKit
set_option maxHeartbeats 8000000
set_option maxRecDepth 100000
set_option linter.unusedVariables false
set_option linter.unusedSimpArgs false
structure PSmall (p : PartD) : Prop where
  fin : 0 ≤ p.fin ∧ p.fin ≤ 1048576
  opens : p.opens.length ≤ 1000
  rows : p.rows.length ≤ 100000
  prods : SmallL p.prods
  bats : ∀ o ∈ p.opens, o.bats.length ≤ 8
  recs : ∀ o ∈ p.opens, ∀ b ∈ o.bats, b.recs.length ≤ 4
theorem FOk.ps {k : Nat} {p : PartD} (h : FOk k p) (hk : k ≤ 1000) : PSmall p := ⟨h.fin, by have := h.opens; omega, by have := h.rows; omega, h.small (by omega), h.bats, h.recs⟩
theorem refNextAll (p : PartD) (e : EntD) (hp : PSmall p) (hr : e.b.recs.length ≤ 100000) (hq : e.prod.seen.length ≤ 100000) (ho : 0 ≤ e.kind ∧ e.kind < 7) :
    ∃ q ok, Fun Tryz.prog 44 [.agg p.dv, .agg e.dv] (.tup [.agg q.dv, boo ok]) ∧ ((ok = true ∧ nextR p e = some q) ∨ (ok = false ∧ nextR p e = none)) := by
  have hfin := hp.fin
  have hop := hp.opens
  have hrw := hp.rows
  obtain ⟨k, b, yes, next, off, row, prod⟩ := e
  have hk7 : k = 0 ∨ k = 1 ∨ k = 2 ∨ k = 3 ∨ k = 4 ∨ k = 5 ∨ k = 6 := by simp only at ho; omega
  rcases hk7 with rfl | rfl | rfl | rfl | rfl | rfl | rfl
  · show ∃ q ok, _ ∧ ((ok = true ∧ (if b.txn = true then txnR p b else plainR p b) = some q) ∨ (ok = false ∧ (if b.txn = true then txnR p b else plainR p b) = none))
    cases ht : b.txn with
    | false =>
      rw [if_neg (by simp)]
      have c1 := refPlain_fun p b (by omega) hp.prods hr (by omega) (by omega)
      unfold plainR
      by_cases hc : openB p.opens b.pid = true ∨ b.txn = true ∨ (takeF p.prods b p.fin).2 ≠ 0
      · rw [if_pos hc, decide_eq_false (fun h => h hc)] at c1
        exact ⟨p, false, refNextPlain_fun p p false b yes next off row prod ht c1, .inr ⟨rfl, if_pos hc⟩⟩
      · rw [if_neg hc, decide_eq_true hc] at c1
        exact ⟨_, true, refNextPlain_fun p _ true b yes next off row prod ht c1, .inl ⟨rfl, if_neg hc⟩⟩
    | true =>
      rw [if_pos rfl]
      unfold txnR
      by_cases hz : (takeF p.prods b (-1)).2 = 0
      · rw [if_neg (fun h => h hz)]
        unfold putR
        cases hob : openB p.opens b.pid with
        | false =>
          have c2 := refPutNew_fun p b (by omega) hob
          exact ⟨_, true, refNextPut_fun p _ true b yes next off row prod ht hp.prods hr hz c2, .inl ⟨rfl, rfl⟩⟩
        | true =>
          obtain ⟨o, hi, hpid⟩ := openB_get hob
          simp only [hi]
          by_cases hx : o.epoch ≠ b.epoch ∨ 8 ≤ o.bats.length
          · have c2 := refPutNo_fun p b (by omega) hob o hi hx
            rw [if_pos hx]
            exact ⟨_, false, refNextPut_fun p _ false b yes next off row prod ht hp.prods hr hz c2, .inr ⟨rfl, rfl⟩⟩
          · have hep : o.epoch = b.epoch := Decidable.not_not.1 (fun h => hx (.inl h))
            have hbl : o.bats.length < 8 := by
              rcases Nat.lt_or_ge o.bats.length 8 with h | h
              · exact h
              · exact absurd (.inr h) hx
            have c2 := refPutAdd_fun p b (by omega) hob o hi hep hbl
            rw [if_neg hx]
            exact ⟨_, true, refNextPut_fun p _ true b yes next off row prod ht hp.prods hr hz c2, .inl ⟨rfl, rfl⟩⟩
      · rw [if_pos hz]
        exact ⟨p, false, refNextTake_no p b yes next off row prod ht hp.prods hr hz, .inr ⟨rfl, rfl⟩⟩
  · show ∃ q ok, _ ∧ ((ok = true ∧ markR p b yes = some q) ∨ (ok = false ∧ markR p b yes = none))
    cases hob : openB p.opens b.pid with
    | false =>
      refine ⟨p, false, refNextMark_no p b yes next off row prod (by omega) (.inl hob), .inr ⟨rfl, ?_⟩⟩
      unfold markR; rw [hob]
    | true =>
      obtain ⟨o, hi, hpid⟩ := openB_get hob
      have hmem : o ∈ p.opens := List.mem_of_getElem? hi
      by_cases he : o.epoch = b.epoch
      · obtain ⟨q, h1, h2⟩ := refNextMark_fun p b yes next off row prod (by omega) o hob hi he hp.prods hfin hrw (hp.bats o hmem) (hp.recs o hmem)
        exact ⟨q, true, h2, .inl ⟨rfl, h1⟩⟩
      · refine ⟨p, false, refNextMark_no p b yes next off row prod (by omega) (.inr ⟨o, hi, he⟩), .inr ⟨rfl, ?_⟩⟩
        unfold markR; rw [hob, hi]; simp only; rw [if_pos (show o.epoch ≠ b.epoch from he)]
  · show ∃ q ok, _ ∧ ((ok = true ∧ (if off < p.start ∨ p.fin < off then none else some { p with start := off, rows := keepF (cutP off) p.rows }) = some q) ∨ (ok = false ∧ (if off < p.start ∨ p.fin < off then none else some { p with start := off, rows := keepF (cutP off) p.rows }) = none))
    by_cases hc : off < p.start ∨ p.fin < off
    · rw [if_pos hc]
      exact ⟨p, false, refNextBoth_fun p p _ false rfl rfl (bothCut_no p b yes next off row prod hc), .inr ⟨rfl, rfl⟩⟩
    · rw [if_neg hc]
      exact ⟨_, true, refNextBoth_fun p _ _ true rfl rfl (bothCut_fun p b yes next off row prod (by omega) hc), .inl ⟨rfl, rfl⟩⟩
  · exact ⟨p, false, refNextBoth_fun p p _ false rfl rfl (bothOther_no p b yes next off row prod 3 (.inl rfl)), .inr ⟨rfl, rfl⟩⟩
  · exact ⟨p, false, refNextBoth_fun p p _ false rfl rfl (bothOther_no p b yes next off row prod 4 (.inr rfl)), .inr ⟨rfl, rfl⟩⟩
  · exact ⟨_, true, refNextBoth_fun p _ _ true rfl rfl (bothRow_fun p b yes next off row prod (by omega) (by omega)), .inl ⟨rfl, rfl⟩⟩
  · show ∃ q ok, _ ∧ ((ok = true ∧ (if openB p.opens prod.pid = true then none else some { p with prods := setF p.prods prod }) = some q) ∨ (ok = false ∧ (if openB p.opens prod.pid = true then none else some { p with prods := setF p.prods prod }) = none))
    cases hob : openB p.opens prod.pid with
    | true => exact ⟨p, false, refNextBoth_fun p p _ false rfl rfl (bothState_no p b yes next off row prod (by omega) hob), .inr ⟨rfl, rfl⟩⟩
    | false => exact ⟨_, true, refNextBoth_fun p _ _ true rfl rfl (bothState_fun p b yes next off row prod (by omega) hp.prods hob), .inl ⟨rfl, rfl⟩⟩
def stepD (p : PartD) (e : EntD) : PartD := (stepP p e).getD pZ
def stepC (p : PartD) (e : EntD) : Int := if (stepP p e).isSome then 0 else 70
theorem partZ_le : DLe (.agg [int 0, int 0, nilV, nilV, nilV]) (.agg pZ.dv) := DLe.agg (.cons (.refl _) (.cons (.refl _) (.cons (.nil 5) (.cons (.nil 3) (.cons (.nil 4) .nil)))))
theorem refNext12_fun (p : PartD) (e : EntD) (hp : PSmall p) (hm : mayL p.prods = true) (hs : SmallEn e) : Fun Tryz.prog 20 [.agg p.dv, .agg e.dv] (.tup [.agg (stepD p e).dv, int (stepC p e)]) := by
  have c1 := refMay07_fun e ⟨hs.recs, hs.seen⟩ hs.recs hs.seen
  have hst := step_eq p e hp.fin hm
  have hz := partZ_le
  simp only [PartD.dv, pZ, List.map_nil] at hz
  unfold stepD stepC
  rw [← hst]
  unfold stepR
  cases ho : okKind e with
  | false =>
    rw [ho] at c1
    rw [if_pos rfl]
    simp only [EntD.dv] at c1
    (refine Fun.of_bodyW Tryz.func20 rfl rfl Tryz.ntmps20 Tryz.results20 (by simp) ?_)
    (refine gO (And.intro @PartD.dv.eq_1 (@EntD.dv.eq_1)) ?_; try (with_reducible exact True.intro))
    (refine rO (And.intro @PartD.dv.eq_1 (And.intro @pZ.eq_1 (And.intro @List.map_nil.{0,0} (And.intro @Option.getD_none.{0} (And.intro @Option.isSome_none.{0} (And.intro @Bool.false_eq_true (@if_false.{1}))))))) ?_; try (with_reducible exact True.intro))
    exact ⟨_, rfl, DLe.tup (.cons hz (.cons (.refl _) .nil))⟩
  | true =>
    rw [ho] at c1
    rw [if_neg (show ¬ true = false by decide)]
    have hko : 0 ≤ e.kind ∧ e.kind < 7 := by
      simp only [okKind, Bool.and_eq_true, decide_eq_true_eq] at ho
      exact ho.1
    obtain ⟨q, ok, c2, hcase⟩ := refNextAll p e hp hs.recs hs.seen hko
    simp only [EntD.dv] at c1
    simp only [PartD.dv, EntD.dv] at c2
    rcases hcase with ⟨rfl, hn⟩ | ⟨rfl, hn⟩
    · rw [hn]
      by_cases hf : 1048576 < q.fin
      · have d1 : decide (1048576 < q.fin) = true := decide_eq_true hf
        simp only [hf, if_true]
        (refine Fun.of_bodyW Tryz.func20 rfl rfl Tryz.ntmps20 Tryz.results20 (by simp) ?_)
        (refine gO (And.intro @PartD.dv.eq_1 (And.intro @EntD.dv.eq_1 (d1))) ?_; try (with_reducible exact True.intro))
        (refine rO (And.intro @PartD.dv.eq_1 (And.intro @pZ.eq_1 (And.intro @List.map_nil.{0,0} (And.intro @Option.getD_none.{0} (And.intro @Option.isSome_none.{0} (And.intro @Bool.false_eq_true (@if_false.{1}))))))) ?_; try (with_reducible exact True.intro))
        exact ⟨_, rfl, DLe.tup (.cons hz (.cons (.refl _) .nil))⟩
      · have d1 : decide (1048576 < q.fin) = false := decide_eq_false hf
        simp only [hf, if_false]
        (refine Fun.of_bodyW Tryz.func20 rfl rfl Tryz.ntmps20 Tryz.results20 (by simp) ?_)
        (refine gO (And.intro @PartD.dv.eq_1 (And.intro @EntD.dv.eq_1 (d1))) ?_; try (with_reducible exact True.intro))
        (refine rO (And.intro @PartD.dv.eq_1 (And.intro @Option.getD_some.{0} (And.intro @Option.isSome_some.{0} (@if_true.{1})))) ?_; try (with_reducible exact True.intro))
        exact ⟨_, rfl, fun K v h => h⟩
    · rw [hn]
      (refine Fun.of_bodyW Tryz.func20 rfl rfl Tryz.ntmps20 Tryz.results20 (by simp) ?_)
      (refine gO (And.intro @PartD.dv.eq_1 (@EntD.dv.eq_1)) ?_; try (with_reducible exact True.intro))
      (refine rO (And.intro @PartD.dv.eq_1 (And.intro @pZ.eq_1 (And.intro @List.map_nil.{0,0} (And.intro @Option.getD_none.{0} (And.intro @Option.isSome_none.{0} (And.intro @Bool.false_eq_true (@if_false.{1}))))))) ?_; try (with_reducible exact True.intro))
      exact ⟨_, rfl, DLe.tup (.cons hz (.cons (.refl _) .nil))⟩
def foldD (l : List EntD) : PartD := (foldP pZ l).getD pZ
theorem foldR_eq (l : List EntD) : foldR l = (foldD l).dv := by
  unfold foldR foldD
  cases foldP pZ l <;> rfl
theorem foldP_take {l : List EntD} {n : Nat} (h : foldP pZ (l.take n) = none) : foldP pZ l = none := by
  conv => lhs; rw [← List.take_append_drop n l]
  rw [foldP_app, h]
theorem refFold_fun (l : List EntD) (hl : l.length ≤ 1000) (hs : ∀ e ∈ l, SmallEn e) : Fun Tryz.prog 15 [.lst 18 (l.map EntD.dv)] (.tup [.agg (foldR l), int (foldE l)]) := by
  have hz := partZ_le
  rw [foldR_eq]
  simp only [PartD.dv, pZ, List.map_nil] at hz
  (refine Fun.of_bodyW Tryz.func15 rfl rfl Tryz.ntmps15 Tryz.results15 (by simp) ?_)
  (refine gO0 ?_; try (with_reducible exact True.intro))
  refine Wp.weak (Weak.cellLe (id := 1) (k := 2) (cs := [.d (int 0), .d (int 0), .d nilV, .d nilV, .d nilV]) (x := nilV) (y := .lst 5 []) (by (refine rO0 ?_; try (with_reducible exact True.intro))) rfl (DLe.nil 5) rfl) ?_
  refine Wp.weak (Weak.cellLe (id := 1) (k := 3) (cs := [.d (int 0), .d (int 0), .d (.lst 5 []), .d nilV, .d nilV]) (x := nilV) (y := .lst 3 []) (by (refine rO (And.intro @List.set_cons_zero.{0} (@List.set_cons_succ.{0})) ?_; try (with_reducible exact True.intro))) rfl (DLe.nil 3) rfl) ?_
  refine Wp.weak (Weak.cellLe (id := 1) (k := 4) (cs := [.d (int 0), .d (int 0), .d (.lst 5 []), .d (.lst 3 []), .d nilV]) (x := nilV) (y := .lst 4 []) (by (refine rO (And.intro @List.set_cons_zero.{0} (@List.set_cons_succ.{0})) ?_; try (with_reducible exact True.intro))) rfl (DLe.nil 4) rfl) ?_
  refine Wp.loop (fun k : Nat => ⟨ofL [(0, .c (.d (.lst 18 (l.map EntD.dv)))), (2, .c (.own 0 0)), (4, .c (.own 1 0)), (5, vi .i64 k)], ofH [(0, .cells [.d (int 0), .d (int 0), .d nilV, .d nilV, .d nilV]), (1, .cells ((foldD (l.take k)).dv.map .d))], 2, 30, 0⟩) (fun k => k ≤ l.length ∧ ∃ p, foldP pZ (l.take k) = some p) (fun k => l.length - k) 0 ⟨Nat.zero_le _, pZ, rfl⟩ ?_ ?_
  · refine Weak.keep rfl rfl ?_
    (refine rO (And.intro @PartD.dv.eq_1 (And.intro @List.take_zero.{0} (And.intro @foldD.eq_1 (And.intro @foldP.eq_1 (And.intro @foldP.eq_2 (And.intro @pZ.eq_1 (And.intro @Option.getD_some.{0} (And.intro @List.map_nil.{0,0} (And.intro @List.map_cons.{0,0} (And.intro @List.set_cons_zero.{0} (@List.set_cons_succ.{0}))))))))))) ?_; try (with_reducible exact True.intro))
  rintro k ⟨hk, p, hp⟩
  have hfd : foldD (l.take k) = p := by unfold foldD; rw [hp]; rfl
  rw [hfd]
  (refine gO0 ?_; try (with_reducible exact True.intro))
  refine Wp.cond (by (refine rO0 ?_; try (with_reducible exact True.intro)); rfl) (fun h => ?_) (fun h => ?_)
  · have hlt : k < l.length := by simpa using h
    have hge : l[k]? = some l[k] := List.getElem?_eq_getElem hlt
    have hM := fold_okM (l.take k) 0 pZ p fokM0 hp
    rw [List.length_take, Nat.zero_add] at hM
    have hsm := hs l[k] (List.getElem_mem hlt)
    have c1 := refNext12_fun p l[k] (hM.toFOk.ps (by omega)) hM.may hsm
    have hwk : IntKind.i64.wrap ((k : Int) + 1) = ((k + 1 : Nat) : Int) := by rw [wrap_i64 (by omega)]; rfl
    have hnx : foldP pZ (l.take (k + 1)) = stepP p l[k] := by
      rw [List.take_succ_eq_append_getElem hlt, foldP_app, hp]
      show (match stepP p l[k] with | some p' => some p' | none => none) = _
      cases stepP p l[k] <;> rfl
    unfold stepD stepC at c1
    generalize l[k] = e at *
    cases hst : stepP p e with
    | none =>
      rw [hst] at c1 hnx
      have hn := foldP_take hnx
      have hfz : foldD l = pZ := by unfold foldD; rw [hn]; rfl
      have hfe : foldE l = 70 := by unfold foldE; rw [hn]; rfl
      rw [hfz, hfe]
      simp only [PartD.dv, EntD.dv, Option.getD_none, Option.isSome_none, Bool.false_eq_true, if_false, pZ, List.map_nil] at c1
      (refine gO (And.intro hge (And.intro @PartD.dv.eq_1 (@EntD.dv.eq_1))) ?_; try (with_reducible exact True.intro))
      (refine rO (And.intro @PartD.dv.eq_1 (And.intro @pZ.eq_1 (@List.map_nil.{0,0}))) ?_; try (with_reducible exact True.intro))
      exact ⟨_, rfl, DLe.tup (.cons hz (.cons (.refl _) .nil))⟩
    | some q =>
      rw [hst] at c1 hnx
      have hfq : foldD (l.take (k + 1)) = q := by unfold foldD; rw [hnx]; rfl
      simp only [PartD.dv, EntD.dv, Option.getD_some, Option.isSome_some, if_true] at c1
      (refine gO (And.intro hge (And.intro @PartD.dv.eq_1 (@EntD.dv.eq_1))) ?_; try (with_reducible exact True.intro))
      refine ⟨k + 1, ⟨hlt, q, hnx⟩, by omega, Weak.keep rfl rfl ?_⟩
      rw [hfq]
      (refine rO (And.intro @PartD.dv.eq_1 (hwk)) ?_; try (with_reducible exact True.intro))
  · have hke : k = l.length := by
      rw [decide_eq_false_iff_not] at h; omega
    subst hke
    rw [List.take_length] at hp
    have hfl : foldD l = p := by unfold foldD; rw [hp]; rfl
    have hfe : foldE l = 0 := by unfold foldE; rw [hp]; rfl
    rw [hfl, hfe]
    (refine gO (@PartD.dv.eq_1) ?_; try (with_reducible exact True.intro))
    (refine rO (@PartD.dv.eq_1) ?_; try (with_reducible exact True.intro))
    exact ⟨_, rfl, fun K v h => h⟩
end Go.Proofs.YtafipkbffboebaaGreatDoor
namespace Go.Proofs.YtafipkbffboebaaGreatDoor
open Go Go.RowKit
set_option maxHeartbeats 8000000
set_option maxRecDepth 100000
set_option linter.unusedVariables false
set_option linter.unusedSimpArgs false
theorem refSameRows_fun (a b : List RowD) (hl : a.length ≤ 1000000) : Fun Tryz.prog 41 [.lst 5 (a.map RowD.dv), .lst 5 (b.map RowD.dv)] (boo (decide (a = b))) := by
  (refine Fun.of_body Tryz.func41 rfl rfl Tryz.ntmps41 Tryz.results41 (by simp) ?_)
  by_cases hlen : a.length = b.length
  · have hne : ((a.length : Int) != (b.length : Int)) = false := by simp [hlen]
    (refine gO (hne) ?_; try (with_reducible exact True.intro))
    refine Wp.loop (fun k : Nat => ⟨ofL [(0, .c (.d (.lst 5 (a.map RowD.dv)))), (1, .c (.d (.lst 5 (b.map RowD.dv)))), (5, vi .i64 k)], ofH [], 0, 26, 0⟩) (fun k => k ≤ a.length ∧ a.take k = b.take k) (fun k => a.length - k) 0 ⟨Nat.zero_le _, rfl⟩ ?_ ?_
    · refine Weak.keep rfl rfl ?_
      (refine rO0 ?_; try (with_reducible exact True.intro))
    rintro k ⟨hk, hall⟩
    (refine gO0 ?_; try (with_reducible exact True.intro))
    refine Wp.cond (by (refine rO0 ?_; try (with_reducible exact True.intro)); rfl) (fun h => ?_) (fun h => ?_)
    · have hlt : k < a.length := by simpa using h
      have hlt2 : k < b.length := by omega
      have g1 : a[k]? = some a[k] := List.getElem?_eq_getElem hlt
      have g2 : b[k]? = some b[k] := List.getElem?_eq_getElem hlt2
      have t1 := take_succ_get a k hlt
      have t2 := take_succ_get b k hlt2
      have hne : a[k] ≠ b[k] → ¬ a = b := fun hx e => by subst e; exact hx rfl
      generalize a[k] = x at *
      generalize b[k] = y at *
      (refine gO (And.intro g1 (And.intro g2 (And.intro @RowD.dv.eq_1 (RowD_bin)))) ?_; try (with_reducible exact True.intro))
      refine Wp.cond (by (refine rO0 ?_; try (with_reducible exact True.intro)); rfl) (fun h => ?_) (fun h => ?_)
      · have hf : decide (a = b) = false := decide_eq_false (hne (by simpa using h))
        (refine gO0 ?_; try (with_reducible exact True.intro))
        (refine rO (hf) ?_; try (with_reducible exact True.intro))
      · simp only [Bool.not_eq_false', decide_eq_true_eq] at h
        (refine gO0 ?_; try (with_reducible exact True.intro))
        refine ⟨k + 1, ⟨by omega, by rw [t1, t2, hall, h]⟩, by omega, Weak.keep rfl rfl ?_⟩
        (refine rO0 ?_; try (with_reducible exact True.intro))
    · have hk : k = a.length := by simp only [decide_eq_false_iff_not] at h; omega
      have hf : decide (a = b) = true := by
        rw [List.take_of_length_le (by omega), List.take_of_length_le (by omega)] at hall; simp [hall]
      (refine gO0 ?_; try (with_reducible exact True.intro))
      (refine rO (hf) ?_; try (with_reducible exact True.intro))
  · have hne : ((a.length : Int) != (b.length : Int)) = true := by simp; omega
    have hf : decide (a = b) = false := decide_eq_false (fun e => hlen (by rw [e]))
    (refine gO (hne) ?_; try (with_reducible exact True.intro))
    (refine rO (hf) ?_; try (with_reducible exact True.intro))
def openNe (x y : OpenD) : Bool := x.pid != y.pid || x.epoch != y.epoch || (x.bats.length : Int) != (y.bats.length : Int)
structure SmallOs (l : List OpenD) : Prop where
  len : l.length ≤ 100000
  bats : ∀ o ∈ l, o.bats.length ≤ 100000
  recs : ∀ o ∈ l, ∀ b ∈ o.bats, b.recs.length ≤ 100000
theorem sameOpen_fun (a b : List OpenD) (hs : SmallOs a) : Fun Tryz.prog 22 [.lst 3 (a.map OpenD.dv), .lst 3 (b.map OpenD.dv)] (boo (decide (a = b))) := by
  have hl := hs.len
  (refine Fun.of_body Tryz.func22 rfl rfl Tryz.ntmps22 Tryz.results22 (by simp) ?_)
  by_cases hlen : a.length = b.length
  · have hne : ((a.length : Int) != (b.length : Int)) = false := by simp [hlen]
    (refine gO (hne) ?_; try (with_reducible exact True.intro))
    refine Wp.loop (fun k : Nat => ⟨ofL [(0, .c (.d (.lst 3 (a.map OpenD.dv)))), (1, .c (.d (.lst 3 (b.map OpenD.dv)))), (5, vi .i64 k)], ofH [], 0, 85, 0⟩) (fun k => k ≤ a.length ∧ a.take k = b.take k) (fun k => a.length - k) 0 ⟨Nat.zero_le _, rfl⟩ ?_ ?_
    · refine Weak.keep rfl rfl ?_
      (refine rO0 ?_; try (with_reducible exact True.intro))
    rintro k ⟨hk, hall⟩
    (refine gO0 ?_; try (with_reducible exact True.intro))
    refine Wp.cond (by (refine rO0 ?_; try (with_reducible exact True.intro)); rfl) (fun h => ?_) (fun h => ?_)
    · have hlt : k < a.length := by simpa using h
      have hlt2 : k < b.length := by omega
      have g1 : a[k]? = some a[k] := List.getElem?_eq_getElem hlt
      have g2 : b[k]? = some b[k] := List.getElem?_eq_getElem hlt2
      have t1 := take_succ_get a k hlt
      have t2 := take_succ_get b k hlt2
      have hne : a[k] ≠ b[k] → ¬ a = b := fun hx e => by subst e; exact hx rfl
      have hb1 := hs.bats _ (List.getElem_mem hlt)
      have hb2 := hs.recs _ (List.getElem_mem hlt)
      generalize a[k] = x at *
      generalize b[k] = y at *
      (refine gO0 ?_; try (with_reducible exact True.intro))
      (first | refine Wp.stoD 56 (vb (openNe x y)) mixed ?_ ?_ | refine Wp.rtoDS 56 (vb (openNe x y)) mixed ?_ ?_ | (refine Wp.seq ?_; first | refine Wp.stoD 56 (vb (openNe x y)) mixed ?_ ?_ | refine Wp.rtoDS 56 (vb (openNe x y)) mixed ?_ ?_))
      · unfold openNe; ((rcases Bool.eq_false_or_eq_true (x.pid != y.pid) with hL1 | hL1) <;> (rcases Bool.eq_false_or_eq_true (x.epoch != y.epoch) with hL2 | hL2) <;> (rcases Bool.eq_false_or_eq_true ((x.bats.length : Int) != (y.bats.length : Int)) with hL3 | hL3) <;> (((refine rO (And.intro hL1 (And.intro hL2 (And.intro hL3 (And.intro @OpenD.dv.eq_1 (And.intro g1 (g2)))))) ?_; try (with_reducible exact True.intro)); (repeat (refine bcf (by assumption) ?_; (refine rO (And.intro hL1 (And.intro hL2 (And.intro hL3 (And.intro @OpenD.dv.eq_1 (And.intro g1 (g2)))))) ?_; try (with_reducible exact True.intro))))); all_goals (exact (show okTr _ _ = true by kernel_rfl))))
      refine Wp.cond (by (refine rO0 ?_; try (with_reducible exact True.intro)); rfl) (fun h => ?_) (fun h => ?_)
      · have hf : decide (a = b) = false := by
          refine decide_eq_false (hne (fun e => ?_))
          subst e
          simp [openNe] at h
        (refine gO0 ?_; try (with_reducible exact True.intro))
        (refine rO (hf) ?_; try (with_reducible exact True.intro))
      simp only [openNe, Bool.or_eq_false_iff, bne_eq_false_iff_eq] at h
      obtain ⟨⟨h1, h2⟩, h3⟩ := h
      have hbl : x.bats.length = y.bats.length := by omega
      (refine gO0 ?_; try (with_reducible exact True.intro))
      refine Wp.loop (fun j : Nat => ⟨ofL [(0, .c (.d (.lst 3 (a.map OpenD.dv)))), (1, .c (.d (.lst 3 (b.map OpenD.dv)))), (5, vi .i64 k), (6, vi .i64 j)], ofH [], 0, 85, 0⟩) (fun j => j ≤ x.bats.length ∧ x.bats.take j = y.bats.take j) (fun j => x.bats.length - j) 0 ⟨Nat.zero_le _, rfl⟩ ?_ ?_
      · refine Weak.keep rfl rfl ?_
        (refine rO0 ?_; try (with_reducible exact True.intro))
      rintro j ⟨hj, hallj⟩
      (refine gO (And.intro g1 (@OpenD.dv.eq_1)) ?_; try (with_reducible exact True.intro))
      refine Wp.cond (by (refine rO0 ?_; try (with_reducible exact True.intro)); rfl) (fun h => ?_) (fun h => ?_)
      · have hjlt : j < x.bats.length := by simpa using h
        have hjlt2 : j < y.bats.length := by omega
        have gj1 : x.bats[j]? = some x.bats[j] := List.getElem?_eq_getElem hjlt
        have gj2 : y.bats[j]? = some y.bats[j] := List.getElem?_eq_getElem hjlt2
        have s1 := take_succ_get x.bats j hjlt
        have s2 := take_succ_get y.bats j hjlt2
        have hnej : x.bats[j] ≠ y.bats[j] → ¬ x = y := fun hx e => by subst e; exact hx rfl
        have c1 := sameBat_fun x.bats[j] y.bats[j] (by have := hb2 _ (List.getElem_mem hjlt); omega)
        generalize x.bats[j] = u at *
        generalize y.bats[j] = v at *
        simp only [BatD.dv] at c1
        (refine gO (And.intro g1 (And.intro g2 (And.intro gj1 (And.intro gj2 (And.intro @OpenD.dv.eq_1 (@BatD.dv.eq_1)))))) ?_; try (with_reducible exact True.intro))
        refine Wp.cond (by (refine rO0 ?_; try (with_reducible exact True.intro)); rfl) (fun h => ?_) (fun h => ?_)
        · have hf : decide (a = b) = false := decide_eq_false (hne (hnej (by simpa using h)))
          (refine gO0 ?_; try (with_reducible exact True.intro))
          (refine rO (hf) ?_; try (with_reducible exact True.intro))
        · simp only [Bool.not_eq_false', decide_eq_true_eq] at h
          (refine gO0 ?_; try (with_reducible exact True.intro))
          refine ⟨j + 1, ⟨by omega, by rw [s1, s2, hallj, h]⟩, by omega, Weak.keep rfl rfl ?_⟩
          (refine rO0 ?_; try (with_reducible exact True.intro))
      · have hj : j = x.bats.length := by simp only [decide_eq_false_iff_not] at h; omega
        have hxy : x = y := by
          rw [List.take_of_length_le (by omega), List.take_of_length_le (by omega)] at hallj
          obtain ⟨x1, x2, x3⟩ := x
          obtain ⟨y1, y2, y3⟩ := y
          simp only at h1 h2 hallj
          subst h1 h2 hallj
          rfl
        (refine gO0 ?_; try (with_reducible exact True.intro))
        refine ⟨k + 1, ⟨by omega, by rw [t1, t2, hall, hxy]⟩, by omega, Weak.keep rfl rfl ?_⟩
        (refine rO0 ?_; try (with_reducible exact True.intro))
    · have hk : k = a.length := by simp only [decide_eq_false_iff_not] at h; omega
      have hf : decide (a = b) = true := by
        rw [List.take_of_length_le (by omega), List.take_of_length_le (by omega)] at hall; simp [hall]
      (refine gO0 ?_; try (with_reducible exact True.intro))
      (refine rO (hf) ?_; try (with_reducible exact True.intro))
  · have hne : ((a.length : Int) != (b.length : Int)) = true := by simp; omega
    have hf : decide (a = b) = false := decide_eq_false (fun e => hlen (by rw [e]))
    (refine gO (hne) ?_; try (with_reducible exact True.intro))
    (refine rO (hf) ?_; try (with_reducible exact True.intro))
def partNe (p q : PartD) : Bool := p.start != q.start || p.fin != q.fin || !decide (p.rows = q.rows) || !decide (p.opens = q.opens)
theorem partEq_eq (p q : PartD) : decide (p = q) = (!partNe p q && decide (p.prods = q.prods)) := by
  obtain ⟨a1, a2, a3, a4, a5⟩ := p
  obtain ⟨b1, b2, b3, b4, b5⟩ := q
  rw [Bool.eq_iff_iff]
  simp [partNe]
  constructor
  · rintro ⟨h1, h2, h3, h4, h5⟩; exact ⟨⟨⟨⟨h1, h2⟩, h3⟩, h4⟩, h5⟩
  · rintro ⟨⟨⟨⟨h1, h2⟩, h3⟩, h4⟩, h5⟩; exact ⟨h1, h2, h3, h4, h5⟩
theorem samePart_fun (p q : PartD) (hr : p.rows.length ≤ 1000000) (ho : SmallOs p.opens) (hs : SmallL p.prods) : Fun Tryz.prog 14 [.agg p.dv, .agg q.dv] (boo (decide (p = q))) := by
  have c1 := refSameRows_fun p.rows q.rows hr
  have c2 := sameOpen_fun p.opens q.opens ho
  have c3 := same_fun10 p.prods q.prods hs
  rw [partEq_eq]
  (refine Fun.of_body Tryz.func14 rfl rfl Tryz.ntmps14 Tryz.results14 (by simp) ?_)
  (refine gO (@PartD.dv.eq_1) ?_; try (with_reducible exact True.intro))
  (first | refine Wp.sto 32 (vb (partNe p q)) ?_ ?_ | refine Wp.rtoS 32 (vb (partNe p q)) ?_ ?_ | (refine Wp.seq ?_; first | refine Wp.sto 32 (vb (partNe p q)) ?_ ?_ | refine Wp.rtoS 32 (vb (partNe p q)) ?_ ?_))
  · unfold partNe; ((rcases Bool.eq_false_or_eq_true (p.start != q.start) with hL1 | hL1) <;> (rcases Bool.eq_false_or_eq_true (p.fin != q.fin) with hL2 | hL2) <;> (rcases Bool.eq_false_or_eq_true (!decide (p.rows = q.rows)) with hL3 | hL3) <;> (rcases Bool.eq_false_or_eq_true (!decide (p.opens = q.opens)) with hL4 | hL4) <;> (((refine rO (And.intro hL1 (And.intro hL2 (And.intro hL3 (And.intro hL4 (@PartD.dv.eq_1))))) ?_; try (with_reducible exact True.intro)); (repeat (refine bcf (by assumption) ?_; (refine rO (And.intro hL1 (And.intro hL2 (And.intro hL3 (And.intro hL4 (@PartD.dv.eq_1))))) ?_; try (with_reducible exact True.intro))))); all_goals (exact (show okTr _ _ = true by kernel_rfl))))
  refine Wp.cond (by (refine rO0 ?_; try (with_reducible exact True.intro)); rfl) (fun h => ?_) (fun h => ?_)
  · (refine gO0 ?_; try (with_reducible exact True.intro))
    (refine rO (h) ?_; try (with_reducible exact True.intro))
  · (refine gO (@PartD.dv.eq_1) ?_; try (with_reducible exact True.intro))
    (refine rO (h) ?_; try (with_reducible exact True.intro))
end Go.Proofs.YtafipkbffboebaaGreatDoor
namespace Go.Proofs.YtafipkbffboebaaGreatDoor
open Go Go.RowKit
set_option maxHeartbeats 8000000
set_option maxRecDepth 100000
set_option linter.unusedVariables false
set_option linter.unusedSimpArgs false
theorem gAll_in {l : List EntD} (h : gAll l = false) : l.length ≤ 200 ∧ ∀ e ∈ l, e.b.recs.length ≤ 40 ∧ e.prod.seen.length ≤ 40 := by
  simp only [gAll, Bool.or_eq_false_iff, decide_eq_false_iff_not] at h
  refine ⟨by omega, fun e he => ?_⟩
  have := List.any_eq_false.1 h.2 e he
  simp only [gEnt, gEnt0, Bool.not_eq_true, Bool.or_eq_false_iff, decide_eq_false_iff_not] at this
  exact ⟨by omega, by omega⟩
theorem one12_fun (k : List UInt8) : FunA Tryz.prog 38 [str k] 81 2 [[str k, str []]] := by
  (refine FunA.of_body Tryz.func38 rfl rfl Tryz.ntmps38 Tryz.results38 (by simp) ?_)
  (refine gO0 ?_; try (with_reducible exact True.intro))
  exact .inr (.inl (by (refine rO0 ?_; try (with_reducible exact True.intro))))
def wk12 : List EntD := [⟨0, ⟨1, 0, 0, true, [⟨[97], []⟩, ⟨[98], []⟩]⟩, false, 0, 0, rowZ, prodZ⟩, ⟨0, ⟨2, 0, 0, false, [⟨[99], []⟩]⟩, false, 0, 0, rowZ, prodZ⟩, ⟨1, ⟨1, 0, 0, false, []⟩, true, 0, 0, rowZ, prodZ⟩]
def wkP : PartD := ⟨0, 4, [⟨0, 2, 0, [99], []⟩, ⟨1, 1, 0, [97], []⟩, ⟨2, 1, 1, [98], []⟩], [], [⟨1, 0, 2, []⟩, ⟨2, 0, 1, [⟨0, 1, 0⟩]⟩]⟩
theorem wk12_fold : foldP pZ wk12 = some wkP := by decide +kernel
theorem wakes12_fun : Fun Tryz.prog 12 [] (boo true) := by
  have c1 := one12_fun [97]
  have c2 := (one12_fun [98]).fun
  have c3 := (one12_fun [99]).fun
  have c4 := (fold_res wk12 (by decide) (by intro e he; simp [wk12] at he; rcases he with rfl | rfl | rfl <;> exact ⟨by decide, by decide, by decide⟩)).args
    (.cons (DLe.lst (.cons (dvn2_le ⟨0, ⟨1, 0, 0, true, [⟨[97], []⟩, ⟨[98], []⟩]⟩, false, 0, 0, rowZ, prodZ⟩ _ _ (.refl _) (.nil 3)) (.cons (dvn2_le ⟨0, ⟨2, 0, 0, false, [⟨[99], []⟩]⟩, false, 0, 0, rowZ, prodZ⟩ _ _ (.refl _) (.nil 3)) (.cons (dvn2_le ⟨1, ⟨1, 0, 0, false, []⟩, true, 0, 0, rowZ, prodZ⟩ _ _ (.nil 2) (.nil 3)) .nil)))) .nil)
  unfold foldR foldE at c4
  rw [wk12_fold] at c4
  simp only [PartD.dv, wkP, RowD.dv, ProdD.dv, SeenD.dv, RecD.dv, List.map_cons, List.map_nil, rowZ, prodZ, Option.isSome_some, if_true] at c4
  (refine Fun.of_body Tryz.func12 rfl rfl Tryz.ntmps12 Tryz.results12 (by simp) ?_)
  (refine gO0 ?_; try (with_reducible exact True.intro))
  (refine rO0 ?_; try (with_reducible exact True.intro))
theorem foldD_ok {l : List EntD} (hl : l.length ≤ 20000) : SmallOs (foldD l).opens ∧ SmallL (foldD l).prods ∧ (foldD l).rows.length ≤ 1000000 := by
  unfold foldD
  cases h : foldP pZ l with
  | none => exact ⟨⟨by simp [pZ], by simp [pZ], by simp [pZ]⟩, ⟨by simp [pZ], by simp [pZ]⟩, by simp [pZ]⟩
  | some p =>
    have hM := (fold_okM l 0 pZ p fokM0 h).toFOk
    rw [Nat.zero_add] at hM
    refine ⟨⟨by have := hM.opens; show p.opens.length ≤ _; omega, fun o ho => by have := hM.bats o ho; omega, fun o ho b hb => by have := hM.recs o ho b hb; omega⟩, hM.small hl, by have := hM.rows; show p.rows.length ≤ _; omega⟩
end Go.Proofs.YtafipkbffboebaaGreatDoor
