/- The abstract machine (RgE, RgF, RgH, RgI, RgG, RgK). -/
import Derived.Test.YtafipkbffboebaaDoorRgM
import Derived.Test.YtafipkbffboebaaDoorCpR6
import Derived.Test.YtafipkbffboebaaDoorMpK
namespace Go.Proofs.YtafipkbffboebaaDoor
open Go Go.RowKit
set_option maxHeartbeats 8000000
set_option maxRecDepth 100000
set_option linter.unusedVariables false
set_option linter.unusedSimpArgs false
theorem bothState_no (p : PartD) (b : BatD) (yes : Bool) (next off : Int) (row : RowD) (prod : ProdD) (hl : p.opens.length ≤ 100000) (hob : openB p.opens prod.pid = true) :
    Fun Tryd.prog 48 [.agg p.dv, .agg (EntD.mk 6 b yes next off row prod).dv] (.tup [.agg p.dv, boo false]) := by
  have c1 := refOpen_fun p prod.pid hl
  rw [hob] at c1
  simp only [PartD.dv] at c1
  (refine Fun.of_bodyW Tryd.func48 rfl rfl Tryd.ntmps48 Tryd.results48 (by simp) ?_)
  (refine gO (And.intro @PartD.dv.eq_1 (@EntD.dv.eq_1)) ?_; try (with_reducible exact True.intro))
  (refine rO (@PartD.dv.eq_1) ?_; try (with_reducible exact True.intro))
  exact ⟨_, rfl, fun K v h => h⟩
theorem bothState_fun (p : PartD) (b : BatD) (yes : Bool) (next off : Int) (row : RowD) (prod : ProdD) (hl : p.opens.length ≤ 100000) (hs : SmallL p.prods) (hob : openB p.opens prod.pid = false) :
    Fun Tryd.prog 48 [.agg p.dv, .agg (EntD.mk 6 b yes next off row prod).dv] (.tup [.agg ({ p with prods := setF p.prods prod } : PartD).dv, boo true]) := by
  have c1 := refOpen_fun p prod.pid hl
  have c2 := refSet_fun10 p.prods prod hs
  rw [hob] at c1
  simp only [PartD.dv, ProdD.dv] at c1 c2
  (refine Fun.of_bodyW Tryd.func48 rfl rfl Tryd.ntmps48 Tryd.results48 (by simp) ?_)
  (refine gO (And.intro @PartD.dv.eq_1 (@EntD.dv.eq_1)) ?_; try (with_reducible exact True.intro))
  (refine rO (@PartD.dv.eq_1) ?_; try (with_reducible exact True.intro))
  exact ⟨_, rfl, fun K v h => h⟩
theorem bothRow_fun (p : PartD) (b : BatD) (yes : Bool) (next off : Int) (row : RowD) (prod : ProdD) (hr : p.rows.length ≤ 1000000) (hf : -1000000000 ≤ p.fin ∧ p.fin ≤ 1000000000) :
    Fun Tryd.prog 48 [.agg p.dv, .agg (EntD.mk 5 b yes next off row prod).dv] (.tup [.agg ({ p with rows := p.rows ++ [{ row with off := p.fin }], fin := p.fin + 1 } : PartD).dv, boo true]) := by
  have hb1 : p.rows.length * 56 ≤ 140737488355328 := by omega
  have hb2 : (p.rows.length + 1) * 56 ≤ 140737488355328 := by omega
  have hw : IntKind.i64.wrap (p.fin + 1) = p.fin + 1 := wrap_i64 (by omega)
  (refine Fun.of_bodyW Tryd.func48 rfl rfl Tryd.ntmps48 Tryd.results48 (by simp) ?_)
  (refine gO (And.intro @PartD.dv.eq_1 (And.intro @EntD.dv.eq_1 (And.intro hb1 (And.intro hb2 (And.intro hw (And.intro @List.length_map.{0,0} (@List.nil_append.{0}))))))) ?_; try (with_reducible exact True.intro))
  (refine rO (And.intro @PartD.dv.eq_1 (And.intro @RowD.dv.eq_1 (And.intro @List.map_append.{0,0} (And.intro @List.map_cons.{0,0} (@List.map_nil.{0,0}))))) ?_; try (with_reducible exact True.intro))
  exact ⟨_, rfl, fun K v h => h⟩
theorem bothCut_no (p : PartD) (b : BatD) (yes : Bool) (next off : Int) (row : RowD) (prod : ProdD) (hc : off < p.start ∨ p.fin < off) :
    Fun Tryd.prog 48 [.agg p.dv, .agg (EntD.mk 2 b yes next off row prod).dv] (.tup [.agg p.dv, boo false]) := by
  (refine Fun.of_bodyW Tryd.func48 rfl rfl Tryd.ntmps48 Tryd.results48 (by simp) ?_)
  cases h1 : decide (off < p.start) with
  | true =>
    (refine gO (And.intro @PartD.dv.eq_1 (And.intro @EntD.dv.eq_1 (h1))) ?_; try (with_reducible exact True.intro))
    (refine rO (@PartD.dv.eq_1) ?_; try (with_reducible exact True.intro))
    exact ⟨_, rfl, fun K v h => h⟩
  | false =>
    have h2 : decide (p.fin < off) = true := decide_eq_true (by have := of_decide_eq_false h1; omega)
    (refine gO (And.intro @PartD.dv.eq_1 (And.intro @EntD.dv.eq_1 (And.intro h1 (h2)))) ?_; try (with_reducible exact True.intro))
    (refine rO (@PartD.dv.eq_1) ?_; try (with_reducible exact True.intro))
    exact ⟨_, rfl, fun K v h => h⟩
theorem keepF_snoc (pr : RowD → Bool) (l : List RowD) (k : Nat) (h : k < l.length) : keepF pr (l.take (k + 1)) = keepF pr (l.take k) ++ (if pr l[k] then [] else [l[k]]) := by
  rw [List.take_succ_eq_append_getElem h]
  unfold keepF
  rw [List.filter_append]
  cases hp : pr l[k] <;> simp [hp]
theorem bothCut_fun (p : PartD) (b : BatD) (yes : Bool) (next off : Int) (row : RowD) (prod : ProdD) (hr : p.rows.length ≤ 1000000) (hc : ¬ (off < p.start ∨ p.fin < off)) :
    Fun Tryd.prog 48 [.agg p.dv, .agg (EntD.mk 2 b yes next off row prod).dv] (.tup [.agg ({ p with start := off, rows := keepF (cutP off) p.rows } : PartD).dv, boo true]) := by
  have h1 : decide (off < p.start) = false := decide_eq_false (by omega)
  have h2 : decide (p.fin < off) = false := decide_eq_false (by omega)
  (refine Fun.of_bodyW Tryd.func48 rfl rfl Tryd.ntmps48 Tryd.results48 (by simp) ?_)
  (refine gO (And.intro @PartD.dv.eq_1 (And.intro @EntD.dv.eq_1 (And.intro h1 (h2)))) ?_; try (with_reducible exact True.intro))
  refine Wp.weak (Weak.nilApp (t := 6) (τ := 3) 36 5 (by (refine rO0 ?_; try (with_reducible exact True.intro))) (by (refine rO0 ?_; try (with_reducible exact True.intro)))) ?_
  refine Wp.loop (fun k : Nat => ⟨ofL [(2, .c (.own 0 0)), (3, .c (.own 1 0)), (4, .c (.own 2 0)), (6, .c (.app 3 5 ((keepF (cutP off) (p.rows.take k)).map RowD.dv))), (7, vi .i64 k)], ofH [(0, .cells [.d (int off), .d (int p.fin), .d (.lst 5 (p.rows.map RowD.dv)), .d (.lst 3 (p.opens.map OpenD.dv)), .d (.lst 4 (p.prods.map ProdD.dv))]), (1, .cells ((EntD.mk 2 b yes next off row prod).dv.map .d)), (2, .cells [.d (int 0), .d (int 0), .d nilV, .d nilV, .d nilV]), (3, .row 36 5 (keepF (cutP off) (p.rows.take k)).length)], 4, 99, 0⟩) (fun k => k ≤ p.rows.length) (fun k => p.rows.length - k) 0 (Nat.zero_le _) ?_ ?_
  · refine Weak.keep rfl rfl ?_
    (refine rO (And.intro @PartD.dv.eq_1 (And.intro @EntD.dv.eq_1 (And.intro @List.take_zero.{0} (And.intro @keepF.eq_1 (And.intro @List.filter_nil.{0} (And.intro @List.map_nil.{0,0} (@List.length_nil.{0}))))))) ?_; try (with_reducible exact True.intro))
  intro k hk
  (refine gO0 ?_; try (with_reducible exact True.intro))
  refine Wp.cond (by (refine rO0 ?_; try (with_reducible exact True.intro)); rfl) (fun h => ?_) (fun h => ?_)
  · have hlt : k < p.rows.length := by simpa using h
    have hge : p.rows[k]? = some p.rows[k] := List.getElem?_eq_getElem hlt
    have hs := keepF_snoc (cutP off) p.rows k hlt
    have hle : (keepF (cutP off) (p.rows.take k)).length ≤ 1000000 := by
      have h3 := keepF_len (cutP off) (p.rows.take k)
      rw [List.length_take] at h3; omega
    have hwk : IntKind.i64.wrap ((k : Int) + 1) = ((k + 1 : Nat) : Int) := by rw [wrap_i64 (by omega)]; rfl
    generalize p.rows[k] = r at *
    by_cases hc2 : off ≤ r.off
    · have d1 : decide (off ≤ r.off) = true := decide_eq_true hc2
      have d2 : cutP off r = false := decide_eq_false (by omega)
      rw [d2] at hs
      have hb : ((keepF (cutP off) (p.rows.take k)).length + 1) * 56 ≤ 140737488355328 := by omega
      (refine gO (And.intro hge (And.intro @RowD.dv.eq_1 (And.intro d1 (And.intro hb (@List.length_map.{0,0}))))) ?_; try (with_reducible exact True.intro))
      refine ⟨k + 1, hlt, by omega, Weak.keep rfl rfl ?_⟩
      rw [hs]
      (refine rO (And.intro @EntD.dv.eq_1 (And.intro @RowD.dv.eq_1 (And.intro @List.map_append.{0,0} (And.intro @List.map_cons.{0,0} (And.intro @List.map_nil.{0,0} (And.intro @List.length_append.{0} (And.intro @List.length_cons.{0} (And.intro @List.length_nil.{0} (And.intro @Nat.zero_add (And.intro @Bool.false_eq_true (And.intro @if_false.{1} (hwk)))))))))))) ?_; try (with_reducible exact True.intro))
    · have d1 : decide (off ≤ r.off) = false := decide_eq_false hc2
      have d2 : cutP off r = true := decide_eq_true (by omega)
      rw [d2, if_pos rfl, List.append_nil] at hs
      (refine gO (And.intro hge (And.intro @RowD.dv.eq_1 (d1))) ?_; try (with_reducible exact True.intro))
      refine ⟨k + 1, hlt, by omega, Weak.keep rfl rfl ?_⟩
      rw [hs]
      (refine rO (And.intro @EntD.dv.eq_1 (hwk)) ?_; try (with_reducible exact True.intro))
  · have hke : k = p.rows.length := by
      rw [decide_eq_false_iff_not] at h; omega
    subst hke
    rw [List.take_length]
    (refine gO (@PartD.dv.eq_1) ?_; try (with_reducible exact True.intro))
    (refine rO (@PartD.dv.eq_1) ?_; try (with_reducible exact True.intro))
    exact ⟨_, rfl, fun K v h => h⟩
end Go.Proofs.YtafipkbffboebaaDoor
namespace Go.Proofs.YtafipkbffboebaaDoor
open Go Go.RowKit
set_option maxHeartbeats 8000000
set_option maxRecDepth 100000
set_option linter.unusedVariables false
set_option linter.unusedSimpArgs false
def mayRowB (r : RowD) : Bool := withB r.pid 1 8 && withB r.seq 0 1048575 && decide ((r.key.length : Int) ≤ 16) && decide ((r.value.length : Int) ≤ 16)
theorem refMayRow_fun (r : RowD) : Fun Tryd.prog 43 [.agg r.dv] (boo (mayRowB r)) := by
  have c1 := within_fun r.pid 1 8
  have c2 := within_fun r.seq 0 1048575
  (refine Fun.of_body Tryd.func43 rfl rfl Tryd.ntmps43 Tryd.results43 (by simp) ?_)
  (refine gO (@RowD.dv.eq_1) ?_; try (with_reducible exact True.intro))
  unfold mayRowB
  cases h1 : withB r.pid 1 8 <;> rw [h1] at c1
  · (refine gO (@RowD.dv.eq_1) ?_; try (with_reducible exact True.intro))
    (refine rO0 ?_; try (with_reducible exact True.intro))
  cases h2 : withB r.seq 0 1048575 <;> rw [h2] at c2
  · (refine gO (@RowD.dv.eq_1) ?_; try (with_reducible exact True.intro))
    (refine rO0 ?_; try (with_reducible exact True.intro))
  cases h3 : decide ((r.key.length : Int) ≤ 16) <;> cases h4 : decide ((r.value.length : Int) ≤ 16) <;> ((refine gO (And.intro @RowD.dv.eq_1 (And.intro h3 (h4))) ?_; try (with_reducible exact True.intro)); (refine rO (And.intro h3 (h4)) ?_; try (with_reducible exact True.intro)))
def bareF (e : EntD) : EntD :=
  if e.kind = 0 then ⟨0, e.b, false, 0, 0, rowZ, prodZ⟩
  else if e.kind = 1 then ⟨1, ⟨e.b.pid, e.b.epoch, 0, false, []⟩, e.yes, 0, 0, rowZ, prodZ⟩
  else if e.kind = 2 then ⟨2, batZ, false, 0, e.off, rowZ, prodZ⟩
  else if e.kind = 3 then ⟨3, e.b, e.yes, if e.yes then e.next else 0, 0, rowZ, prodZ⟩
  else if e.kind = 4 then ⟨4, ⟨e.b.pid, e.b.epoch, 0, false, []⟩, false, e.next, 0, rowZ, prodZ⟩
  else if e.kind = 5 then ⟨5, batZ, false, 0, 0, { e.row with off := 0 }, prodZ⟩
  else if e.kind = 6 then ⟨6, batZ, false, 0, 0, rowZ, e.prod⟩
  else zE e.kind
theorem dvn2_le (e : EntD) (x y : D) (hx : DLe x (.lst 2 (e.b.recs.map RecD.dv))) (hy : DLe y (.lst 3 (e.prod.seen.map SeenD.dv))) : AllLe [i8 e.kind, int e.b.pid, int e.b.epoch, int e.b.seq, boo e.b.txn, x, boo e.yes, int e.next, int e.off, int e.row.off, int e.row.pid, int e.row.seq, str e.row.key, str e.row.value, int e.prod.pid, int e.prod.epoch, int e.prod.next, y] e.dv :=
  .cons (.refl _) (.cons (.refl _) (.cons (.refl _) (.cons (.refl _) (.cons (.refl _) (.cons hx (.cons (.refl _) (.cons (.refl _) (.cons (.refl _) (.cons (.refl _) (.cons (.refl _) (.cons (.refl _) (.cons (.refl _) (.cons (.refl _) (.cons (.refl _) (.cons (.refl _) (.cons (.refl _) (.cons hy .nil)))))))))))))))))
theorem bare0_fun (b : BatD) (yes : Bool) (next off : Int) (row : RowD) (prod : ProdD) : Fun Tryd.prog 39 [.agg (EntD.mk 0 b yes next off row prod).dv] (.agg (bareF (EntD.mk 0 b yes next off row prod)).dv) := by
  (refine Fun.of_bodyW Tryd.func39 rfl rfl Tryd.ntmps39 Tryd.results39 (by simp) ?_)
  (refine gO (@EntD.dv.eq_1) ?_; try (with_reducible exact True.intro))
  (refine rO0 ?_; try (with_reducible exact True.intro))
  exact ⟨_, rfl, DLe.agg (dvn2_le (EntD.mk 0 b false 0 0 rowZ prodZ) _ _ (.refl _) (.nil 3))⟩
theorem bare1_fun (b : BatD) (yes : Bool) (next off : Int) (row : RowD) (prod : ProdD) : Fun Tryd.prog 39 [.agg (EntD.mk 1 b yes next off row prod).dv] (.agg (bareF (EntD.mk 1 b yes next off row prod)).dv) := by
  (refine Fun.of_bodyW Tryd.func39 rfl rfl Tryd.ntmps39 Tryd.results39 (by simp) ?_)
  (refine gO (@EntD.dv.eq_1) ?_; try (with_reducible exact True.intro))
  (refine rO0 ?_; try (with_reducible exact True.intro))
  exact ⟨_, rfl, DLe.agg (dvn2_le (EntD.mk 1 ⟨b.pid, b.epoch, 0, false, []⟩ yes 0 0 rowZ prodZ) _ _ (.nil 2) (.nil 3))⟩
theorem bare2_fun (b : BatD) (yes : Bool) (next off : Int) (row : RowD) (prod : ProdD) : Fun Tryd.prog 39 [.agg (EntD.mk 2 b yes next off row prod).dv] (.agg (bareF (EntD.mk 2 b yes next off row prod)).dv) := by
  (refine Fun.of_bodyW Tryd.func39 rfl rfl Tryd.ntmps39 Tryd.results39 (by simp) ?_)
  (refine gO (@EntD.dv.eq_1) ?_; try (with_reducible exact True.intro))
  (refine rO0 ?_; try (with_reducible exact True.intro))
  exact ⟨_, rfl, DLe.agg (dvn2_le (EntD.mk 2 batZ false 0 off rowZ prodZ) _ _ (.nil 2) (.nil 3))⟩
theorem bare3_fun (b : BatD) (yes : Bool) (next off : Int) (row : RowD) (prod : ProdD) : Fun Tryd.prog 39 [.agg (EntD.mk 3 b yes next off row prod).dv] (.agg (bareF (EntD.mk 3 b yes next off row prod)).dv) := by
  (refine Fun.of_bodyW Tryd.func39 rfl rfl Tryd.ntmps39 Tryd.results39 (by simp) ?_)
  cases yes
  · (refine gO (@EntD.dv.eq_1) ?_; try (with_reducible exact True.intro))
    (refine rO0 ?_; try (with_reducible exact True.intro))
    exact ⟨_, rfl, DLe.agg (dvn2_le (EntD.mk 3 b false 0 0 rowZ prodZ) _ _ (.refl _) (.nil 3))⟩
  · (refine gO (@EntD.dv.eq_1) ?_; try (with_reducible exact True.intro))
    (refine rO0 ?_; try (with_reducible exact True.intro))
    exact ⟨_, rfl, DLe.agg (dvn2_le (EntD.mk 3 b true next 0 rowZ prodZ) _ _ (.refl _) (.nil 3))⟩
theorem bare4_fun (b : BatD) (yes : Bool) (next off : Int) (row : RowD) (prod : ProdD) : Fun Tryd.prog 39 [.agg (EntD.mk 4 b yes next off row prod).dv] (.agg (bareF (EntD.mk 4 b yes next off row prod)).dv) := by
  (refine Fun.of_bodyW Tryd.func39 rfl rfl Tryd.ntmps39 Tryd.results39 (by simp) ?_)
  (refine gO (@EntD.dv.eq_1) ?_; try (with_reducible exact True.intro))
  (refine rO0 ?_; try (with_reducible exact True.intro))
  exact ⟨_, rfl, DLe.agg (dvn2_le (EntD.mk 4 ⟨b.pid, b.epoch, 0, false, []⟩ false next 0 rowZ prodZ) _ _ (.nil 2) (.nil 3))⟩
theorem bare5_fun (b : BatD) (yes : Bool) (next off : Int) (row : RowD) (prod : ProdD) : Fun Tryd.prog 39 [.agg (EntD.mk 5 b yes next off row prod).dv] (.agg (bareF (EntD.mk 5 b yes next off row prod)).dv) := by
  (refine Fun.of_bodyW Tryd.func39 rfl rfl Tryd.ntmps39 Tryd.results39 (by simp) ?_)
  (refine gO (@EntD.dv.eq_1) ?_; try (with_reducible exact True.intro))
  (refine rO0 ?_; try (with_reducible exact True.intro))
  exact ⟨_, rfl, DLe.agg (dvn2_le (EntD.mk 5 batZ false 0 0 ⟨0, row.pid, row.seq, row.key, row.value⟩ prodZ) _ _ (.nil 2) (.nil 3))⟩
theorem bare6_fun (b : BatD) (yes : Bool) (next off : Int) (row : RowD) (prod : ProdD) : Fun Tryd.prog 39 [.agg (EntD.mk 6 b yes next off row prod).dv] (.agg (bareF (EntD.mk 6 b yes next off row prod)).dv) := by
  (refine Fun.of_bodyW Tryd.func39 rfl rfl Tryd.ntmps39 Tryd.results39 (by simp) ?_)
  (refine gO (@EntD.dv.eq_1) ?_; try (with_reducible exact True.intro))
  (refine rO0 ?_; try (with_reducible exact True.intro))
  exact ⟨_, rfl, DLe.agg (dvn2_le (EntD.mk 6 batZ false 0 0 rowZ prod) _ _ (.nil 2) (.refl _))⟩
theorem bareX_fun (e : EntD) (hk : ¬ (0 ≤ e.kind ∧ e.kind < 7)) : Fun Tryd.prog 39 [.agg e.dv] (.agg (bareF e).dv) := by
  have hz : bareF e = zE e.kind := by
    unfold bareF
    rw [if_neg (by omega), if_neg (by omega), if_neg (by omega), if_neg (by omega), if_neg (by omega), if_neg (by omega), if_neg (by omega)]
  rw [hz]
  have d0 : (e.kind == 0) = false := by simp; omega
  have d1 : (e.kind == 1) = false := by simp; omega
  have d2 : (e.kind == 2) = false := by simp; omega
  have d3 : (e.kind == 3) = false := by simp; omega
  have d4 : (e.kind == 4) = false := by simp; omega
  have d5 : (e.kind == 5) = false := by simp; omega
  have d6 : (e.kind == 6) = false := by simp; omega
  (refine Fun.of_bodyW Tryd.func39 rfl rfl Tryd.ntmps39 Tryd.results39 (by simp) ?_)
  (refine gO (And.intro @EntD.dv.eq_1 (And.intro d0 (And.intro d1 (And.intro d2 (And.intro d3 (And.intro d4 (And.intro d5 (d6)))))))) ?_; try (with_reducible exact True.intro))
  (refine rO0 ?_; try (with_reducible exact True.intro))
  exact ⟨_, rfl, DLe.agg (dvn2_le (zE e.kind) _ _ (.nil 2) (.nil 3))⟩
theorem refMay07_fun (e : EntD) (hs : SmallE e) (hr : e.b.recs.length ≤ 100000) (hq : e.prod.seen.length ≤ 100000) : Fun Tryd.prog 25 [.agg e.dv] (boo (okKind e)) := by
  by_cases hk : ¬ (0 ≤ e.kind ∧ e.kind < 7)
  · have c1 := bareX_fun e hk
    have c2 := same_fun e (bareF e) hs
    have ho : okKind e = false := by
      unfold okKind
      cases h1 : decide (0 ≤ e.kind) <;> cases h2 : decide (e.kind < 7) <;> simp
      exact absurd ⟨of_decide_eq_true h1, of_decide_eq_true h2⟩ hk
    have d0 : (e.kind == 0) = false := by simp; omega
    have d1 : (e.kind == 1) = false := by simp; omega
    have d2 : (e.kind == 2) = false := by simp; omega
    have d3 : (e.kind == 3) = false := by simp; omega
    have d4 : (e.kind == 4) = false := by simp; omega
    have d5 : (e.kind == 5) = false := by simp; omega
    have d6 : (e.kind == 6) = false := by simp; omega
    rw [ho]
    generalize bareF e = x at *
    obtain ⟨k, b, yes, next, off, row, prod⟩ := e
    simp only [EntD.dv] at c1 c2 d0 d1 d2 d3 d4 d5 d6
    (refine Fun.of_body Tryd.func25 rfl rfl Tryd.ntmps25 Tryd.results25 (by simp) ?_)
    cases hsm : decide ((⟨k, b, yes, next, off, row, prod⟩ : EntD) = x) <;> rw [hsm] at c2 <;> ((refine gO (And.intro @EntD.dv.eq_1 (And.intro d0 (And.intro d1 (And.intro d2 (And.intro d3 (And.intro d4 (And.intro d5 (d6)))))))) ?_; try (with_reducible exact True.intro)); (refine rO0 ?_; try (with_reducible exact True.intro)))
  · have hk : 0 ≤ e.kind ∧ e.kind < 7 := Decidable.not_not.1 hk
    have c2 := same_fun e (bareF e) hs
    obtain ⟨k, b, yes, next, off, row, prod⟩ := e
    have hk7 : k = 0 ∨ k = 1 ∨ k = 2 ∨ k = 3 ∨ k = 4 ∨ k = 5 ∨ k = 6 := by simp only at hk; omega
    rcases hk7 with rfl | rfl | rfl | rfl | rfl | rfl | rfl
    · have c1 := bare0_fun b yes next off row prod
      have c3 := refMay_fun b hr
      have hv : okKind ⟨0, b, yes, next, off, row, prod⟩ = (decide ((⟨0, b, yes, next, off, row, prod⟩ : EntD) = bareF ⟨0, b, yes, next, off, row, prod⟩) && batB b) := by
        have he : decide ((⟨0, b, yes, next, off, row, prod⟩ : EntD) = bareF ⟨0, b, yes, next, off, row, prod⟩) = decide ((⟨0, batZ, yes, next, off, row, prod⟩ : EntD) = zE 0) := by
          apply decide_eq_decide.2; simp [bareF, zE]
        rw [he, Bool.and_comm]; simp [okKind, mayI]
      rw [hv]
      generalize bareF ⟨0, b, yes, next, off, row, prod⟩ = x at *
      simp only [EntD.dv, BatD.dv] at c1 c2 c3
      (refine Fun.of_body Tryd.func25 rfl rfl Tryd.ntmps25 Tryd.results25 (by simp) ?_)
      cases hsm : decide ((⟨0, b, yes, next, off, row, prod⟩ : EntD) = x) <;> rw [hsm] at c2 <;> ((refine gO (@EntD.dv.eq_1) ?_; try (with_reducible exact True.intro)); (refine rO0 ?_; try (with_reducible exact True.intro)))
    · have c1 := bare1_fun b yes next off row prod
      have c3 := producer7_fun b.pid b.epoch
      have hv : okKind ⟨1, b, yes, next, off, row, prod⟩ = (decide ((⟨1, b, yes, next, off, row, prod⟩ : EntD) = bareF ⟨1, b, yes, next, off, row, prod⟩) && prodB b.pid b.epoch) := by
        have he : decide ((⟨1, b, yes, next, off, row, prod⟩ : EntD) = bareF ⟨1, b, yes, next, off, row, prod⟩) = decide ((⟨1, ⟨0, 0, b.seq, b.txn, b.recs⟩, false, next, off, row, prod⟩ : EntD) = zE 1) := by
          obtain ⟨b1, b2, b3, b4, b5⟩ := b
          apply decide_eq_decide.2; simp [bareF, zE, batZ]
        rw [he, Bool.and_comm]; simp [okKind, mayI]
      rw [hv]
      generalize bareF ⟨1, b, yes, next, off, row, prod⟩ = x at *
      simp only [EntD.dv, BatD.dv] at c1 c2 c3
      (refine Fun.of_body Tryd.func25 rfl rfl Tryd.ntmps25 Tryd.results25 (by simp) ?_)
      cases hsm : decide ((⟨1, b, yes, next, off, row, prod⟩ : EntD) = x) <;> rw [hsm] at c2 <;> ((refine gO (@EntD.dv.eq_1) ?_; try (with_reducible exact True.intro)); (refine rO0 ?_; try (with_reducible exact True.intro)))
    · have c1 := bare2_fun b yes next off row prod
      have c3 := within_fun off 0 1048576
      have hv : okKind ⟨2, b, yes, next, off, row, prod⟩ = (decide ((⟨2, b, yes, next, off, row, prod⟩ : EntD) = bareF ⟨2, b, yes, next, off, row, prod⟩) && withB off 0 1048576) := by
        have he : decide ((⟨2, b, yes, next, off, row, prod⟩ : EntD) = bareF ⟨2, b, yes, next, off, row, prod⟩) = decide ((⟨2, b, yes, next, 0, row, prod⟩ : EntD) = zE 2) := by
          apply decide_eq_decide.2; simp [bareF, zE]
        rw [he, Bool.and_comm]; simp [okKind, mayI]
      rw [hv]
      generalize bareF ⟨2, b, yes, next, off, row, prod⟩ = x at *
      simp only [EntD.dv, BatD.dv] at c1 c2 c3
      (refine Fun.of_body Tryd.func25 rfl rfl Tryd.ntmps25 Tryd.results25 (by simp) ?_)
      cases hsm : decide ((⟨2, b, yes, next, off, row, prod⟩ : EntD) = x) <;> rw [hsm] at c2 <;> ((refine gO (@EntD.dv.eq_1) ?_; try (with_reducible exact True.intro)); (refine rO0 ?_; try (with_reducible exact True.intro)))
    · have c1 := bare3_fun b yes next off row prod
      have c3 := refMay_fun b hr
      have c4 := within_fun next 0 1048576
      have hv : okKind ⟨3, b, yes, next, off, row, prod⟩ = (decide ((⟨3, b, yes, next, off, row, prod⟩ : EntD) = bareF ⟨3, b, yes, next, off, row, prod⟩) && (batB b && (b.txn && withB next 0 1048576))) := by
        cases yes with
        | true =>
          have he : decide ((⟨3, b, true, next, off, row, prod⟩ : EntD) = bareF ⟨3, b, true, next, off, row, prod⟩) = decide ((⟨3, batZ, false, 0, off, row, prod⟩ : EntD) = zE 3) := by
            apply decide_eq_decide.2; simp [bareF, zE]
          rw [he]; simp [okKind, mayI]
          cases b.txn <;> cases withB next 0 1048576 <;> cases batB b <;> simp
        | false =>
          have he : decide ((⟨3, b, false, next, off, row, prod⟩ : EntD) = bareF ⟨3, b, false, next, off, row, prod⟩) = decide ((⟨3, batZ, false, next, off, row, prod⟩ : EntD) = zE 3) := by
            apply decide_eq_decide.2; simp [bareF, zE]
          rw [he]
          cases hz : decide ((⟨3, batZ, false, next, off, row, prod⟩ : EntD) = zE 3) with
          | false => simp only [okKind, mayI, Bool.false_eq_true, if_false]; simp [hz]
          | true =>
            have h0 : next = 0 := by
              have := of_decide_eq_true hz
              simp [zE] at this; exact this.1
            subst h0
            simp only [okKind, mayI, Bool.false_eq_true, if_false]; simp [hz, withB]
            cases b.txn <;> cases batB b <;> simp
      rw [hv]
      generalize bareF ⟨3, b, yes, next, off, row, prod⟩ = x at *
      simp only [EntD.dv, BatD.dv] at c1 c2 c3
      (refine Fun.of_body Tryd.func25 rfl rfl Tryd.ntmps25 Tryd.results25 (by simp) ?_)
      cases hsm : decide ((⟨3, b, yes, next, off, row, prod⟩ : EntD) = x) <;> rw [hsm] at c2
      · (refine gO (@EntD.dv.eq_1) ?_; try (with_reducible exact True.intro))
        (refine rO0 ?_; try (with_reducible exact True.intro))
      · cases hb : batB b <;> rw [hb] at c3
        · (refine gO (@EntD.dv.eq_1) ?_; try (with_reducible exact True.intro))
          (refine rO0 ?_; try (with_reducible exact True.intro))
        · cases ht : b.txn <;> simp only [ht] at c1 c2 c3 <;> ((refine gO (And.intro @EntD.dv.eq_1 (ht)) ?_; try (with_reducible exact True.intro)); (refine rO (ht) ?_; try (with_reducible exact True.intro)))
    · have c1 := bare4_fun b yes next off row prod
      have c3 := producer7_fun b.pid b.epoch
      have c4 := within_fun next 0 1048576
      have hv : okKind ⟨4, b, yes, next, off, row, prod⟩ = (decide ((⟨4, b, yes, next, off, row, prod⟩ : EntD) = bareF ⟨4, b, yes, next, off, row, prod⟩) && (prodB b.pid b.epoch && withB next 0 1048576)) := by
        obtain ⟨b1, b2, b3, b4, b5⟩ := b
        cases yes with
        | true =>
          have he : decide ((⟨4, ⟨b1, b2, b3, b4, b5⟩, true, next, off, row, prod⟩ : EntD) = bareF ⟨4, ⟨b1, b2, b3, b4, b5⟩, true, next, off, row, prod⟩) = false := by
            apply decide_eq_false; simp [bareF]
          rw [he]; simp [okKind, mayI]
        | false =>
          have he : decide ((⟨4, ⟨b1, b2, b3, b4, b5⟩, false, next, off, row, prod⟩ : EntD) = bareF ⟨4, ⟨b1, b2, b3, b4, b5⟩, false, next, off, row, prod⟩) = decide ((⟨4, ⟨0, 0, b3, b4, b5⟩, false, 0, off, row, prod⟩ : EntD) = zE 4) := by
            apply decide_eq_decide.2; simp [bareF, zE, batZ]
          rw [he]; simp only [okKind, mayI]; simp
          cases prodB b1 b2 <;> cases withB next 0 1048576 <;> simp
      rw [hv]
      generalize bareF ⟨4, b, yes, next, off, row, prod⟩ = x at *
      simp only [EntD.dv, BatD.dv] at c1 c2 c3
      (refine Fun.of_body Tryd.func25 rfl rfl Tryd.ntmps25 Tryd.results25 (by simp) ?_)
      cases hsm : decide ((⟨4, b, yes, next, off, row, prod⟩ : EntD) = x) <;> rw [hsm] at c2
      · (refine gO (@EntD.dv.eq_1) ?_; try (with_reducible exact True.intro))
        (refine rO0 ?_; try (with_reducible exact True.intro))
      · cases hb : prodB b.pid b.epoch <;> rw [hb] at c3 <;> ((refine gO (@EntD.dv.eq_1) ?_; try (with_reducible exact True.intro)); (refine rO0 ?_; try (with_reducible exact True.intro)))
    · have c1 := bare5_fun b yes next off row prod
      have c3 := refMayRow_fun row
      have hv : okKind ⟨5, b, yes, next, off, row, prod⟩ = (decide ((⟨5, b, yes, next, off, row, prod⟩ : EntD) = bareF ⟨5, b, yes, next, off, row, prod⟩) && mayRowB row) := by
        obtain ⟨r1, r2, r3, r4, r5⟩ := row
        have he : decide ((⟨5, b, yes, next, off, ⟨r1, r2, r3, r4, r5⟩, prod⟩ : EntD) = bareF ⟨5, b, yes, next, off, ⟨r1, r2, r3, r4, r5⟩, prod⟩) = (decide ((⟨5, b, yes, next, off, rowZ, prod⟩ : EntD) = zE 5) && (r1 == 0)) := by
          rw [Bool.eq_iff_iff]; simp [bareF, zE]
          constructor
          · rintro ⟨a1, a2, a3, a4, a5, a6⟩; exact ⟨⟨a1, a2, a3, a4, a6⟩, a5⟩
          · rintro ⟨⟨a1, a2, a3, a4, a6⟩, a5⟩; exact ⟨a1, a2, a3, a4, a5, a6⟩
        have hm : rowB ⟨r1, r2, r3, r4, r5⟩ = ((r1 == 0) && mayRowB ⟨r1, r2, r3, r4, r5⟩) := by
          rw [Bool.eq_iff_iff]
          simp only [rowB, mayRowB, prodB, withB, Bool.and_eq_true, beq_iff_eq, decide_eq_true_eq]
          constructor
          · rintro ⟨⟨⟨⟨⟨a1, a2⟩, a3⟩, a4⟩, a5⟩, a6⟩; exact ⟨a1, ⟨⟨⟨a2.1.1.1, a2.1.1.2⟩, a3, by omega⟩, a5⟩, a6⟩
          · rintro ⟨a1, ⟨⟨⟨a2, a3⟩, a4, a5⟩, a6⟩, a7⟩; exact ⟨⟨⟨⟨⟨a1, ⟨⟨⟨a2, a3⟩, by omega⟩, by omega⟩⟩, a4⟩, by omega⟩, a6⟩, a7⟩
        rw [he]; simp only [okKind, mayI]; simp [hm]
        cases (r1 == 0) <;> cases mayRowB ⟨r1, r2, r3, r4, r5⟩ <;> simp
      rw [hv]
      generalize bareF ⟨5, b, yes, next, off, row, prod⟩ = x at *
      simp only [EntD.dv, RowD.dv] at c1 c2 c3
      (refine Fun.of_body Tryd.func25 rfl rfl Tryd.ntmps25 Tryd.results25 (by simp) ?_)
      cases hsm : decide ((⟨5, b, yes, next, off, row, prod⟩ : EntD) = x) <;> rw [hsm] at c2 <;> ((refine gO (@EntD.dv.eq_1) ?_; try (with_reducible exact True.intro)); (refine rO0 ?_; try (with_reducible exact True.intro)))
    · have c1 := bare6_fun b yes next off row prod
      have c3 := known7_fun prod hq
      have hv : okKind ⟨6, b, yes, next, off, row, prod⟩ = (decide ((⟨6, b, yes, next, off, row, prod⟩ : EntD) = bareF ⟨6, b, yes, next, off, row, prod⟩) && knownB prod) := by
        have he : decide ((⟨6, b, yes, next, off, row, prod⟩ : EntD) = bareF ⟨6, b, yes, next, off, row, prod⟩) = decide ((⟨6, b, yes, next, off, row, prodZ⟩ : EntD) = zE 6) := by
          apply decide_eq_decide.2; simp [bareF, zE]
        rw [he, Bool.and_comm]; simp [okKind, mayI]
      rw [hv]
      generalize bareF ⟨6, b, yes, next, off, row, prod⟩ = x at *
      simp only [EntD.dv, ProdD.dv] at c1 c2 c3
      (refine Fun.of_body Tryd.func25 rfl rfl Tryd.ntmps25 Tryd.results25 (by simp) ?_)
      cases hsm : decide ((⟨6, b, yes, next, off, row, prod⟩ : EntD) = x) <;> rw [hsm] at c2 <;> ((refine gO (@EntD.dv.eq_1) ?_; try (with_reducible exact True.intro)); (refine rO0 ?_; try (with_reducible exact True.intro)))
end Go.Proofs.YtafipkbffboebaaDoor
namespace Go.Proofs.YtafipkbffboebaaDoor
open Go Go.RowKit
set_option maxHeartbeats 8000000
set_option maxRecDepth 100000
set_option linter.unusedVariables false
set_option linter.unusedSimpArgs false
end Go.Proofs.YtafipkbffboebaaDoor
namespace Go.Proofs.YtafipkbffboebaaDoor
open Go Go.RowKit
set_option maxHeartbeats 8000000
set_option maxRecDepth 100000
set_option linter.unusedVariables false
set_option linter.unusedSimpArgs false
structure PSmall (p : PartD) : Prop where
  fin : 0 ≤ p.fin ∧ p.fin ≤ 1048576
  opens : p.opens.length ≤ 1000
  rows : p.rows.length ≤ 100000
  prods : SmallL p.prods
  bats : ∀ o ∈ p.opens, o.bats.length ≤ 8
  recs : ∀ o ∈ p.opens, ∀ b ∈ o.bats, b.recs.length ≤ 4
theorem FOk.ps {k : Nat} {p : PartD} (h : FOk k p) (hk : k ≤ 1000) : PSmall p := ⟨h.fin, by have := h.opens; omega, by have := h.rows; omega, h.small (by omega), h.bats, h.recs⟩
end Go.Proofs.YtafipkbffboebaaDoor
namespace Go.Proofs.YtafipkbffboebaaDoor
open Go Go.RowKit
set_option maxHeartbeats 8000000
set_option maxRecDepth 100000
set_option linter.unusedVariables false
set_option linter.unusedSimpArgs false
end Go.Proofs.YtafipkbffboebaaDoor
namespace Go.Proofs.YtafipkbffboebaaDoor
open Go Go.RowKit
set_option maxHeartbeats 8000000
set_option maxRecDepth 100000
set_option linter.unusedVariables false
set_option linter.unusedSimpArgs false
end Go.Proofs.YtafipkbffboebaaDoor
