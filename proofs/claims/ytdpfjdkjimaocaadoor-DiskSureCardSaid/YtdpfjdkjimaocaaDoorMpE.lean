/- The machine: loops over maps. -/
import Derived.Test.YtdpfjdkjimaocaaDoorMacD
import Derived.Maps.RangeRun
namespace Go.Proofs.YtdpfjdkjimaocaaDoor
open Go Go.RowKit
set_option linter.unusedVariables false
set_option linter.unusedSimpArgs false
/-- An iterator over the map in box m. -/
def HE.itr (m since : Nat) (seen : Array Nat) (last : Nat) : HE := .ob [.mp m] (fun vs o => ∃ bm, vs = [.map (some bm)] ∧ o = .mapIter (some bm) since seen last)
theorem Weak.he {σ : St} {id : Nat} {he0 : HE} (he' : HE) (hid : σ.H id = some he0) (h0 : isRow (some he0) = false) (h1 : isRow (some he') = false) (hdf : σ.fx.dfs.contains id = false)
    (hn : ∀ F K0 g a w, Rel F K0 g σ a w → GLe g σ.H g (upd σ.H id (some he')) → HoldsE g (upd σ.H id (some he')) w id he') : Weak σ { σ with H := upd σ.H id (some he') } := by
  intro F K0 g a w r
  obtain ⟨hm, hle⟩ := r.mem.reh he' hid h0 h1 (hn F K0 g a w r)
  refine ⟨g, hm, fun t => (r.env t).mono hle, r.size, ?_, r.ln, r.rd, r.nodup, r.lt⟩
  exact DefsRel.mono' hle (dfs_ne (F := F) (K0 := K0) (g := g) (a := a) (w := w) hdf) r.defers
/-- The map's object is told. -/
theorem Wp.openMap {P : Program} {c : Code} {σ : St} {Q : Exit → St → Prop} (id : Nat) (L : List (Bs × Value)) (hid : σ.H id = some (.smap L)) (hdf : σ.fx.dfs.contains id = false)
    (h : ∀ es clock, SMap (.map es clock) L → Wp P c { σ with H := upd σ.H id (some (.obj (.map es clock))) } Q) : Wp P c σ Q := by
  intro F K0 g a w r
  obtain ⟨b, us, ob, hb, hheap, hus, hL, hn⟩ := r.mem.holds id _ hid
  obtain ⟨es, clock, rfl, hrest⟩ := hL
  have hm := r.mem.reh (.obj (.map es.toArray clock)) hid rfl rfl (fun _ => ⟨b, hb, hheap, hn⟩)
  refine h es.toArray clock ⟨es, clock, rfl, hrest⟩ F K0 g a w ⟨hm.1, fun t => (r.env t).mono hm.2, r.size, ?_, r.ln, r.rd, r.nodup, r.lt⟩
  exact DefsRel.mono' hm.2 (dfs_ne (F := F) (K0 := K0) (g := g) (a := a) (w := w) hdf) r.defers
theorem Weak.closeMap {σ : St} (id : Nat) (L : List (Bs × Value)) (ob : Obj) (hid : σ.H id = some (.obj ob)) (hL : SMap ob L) (hdf : σ.fx.dfs.contains id = false) : Weak σ { σ with H := upd σ.H id (some (.smap L)) } :=
  Weak.he (.smap L) hid rfl rfl hdf (fun F K0 g a w r _ => by
    obtain ⟨b, hb, hheap, hn⟩ := r.mem.holds id _ hid
    exact ⟨b, [], ob, hb, hheap, ⟨rfl, fun j x v hx => by simp at hx⟩, hL, hn⟩)
theorem run_range_map' {P : Program} {t k e b : Nat} {es : Array MapEntry} {clock : Nat} (ht : P.underlying t = some (.map k e)) (w : World) (hb : w.heap[b]? = some (.map es clock)) :
    (Instr.range t (.map (some b))).run P w = .ok (.pointer (some ⟨w.heap.size, 0, none⟩)) (w.alloc (.mapIter (some b) clock #[] clock)) := by
  unfold Instr.range
  simp [run_underlying ht, MapKept.run_getObj_map hb, Result.andThen, go_sem]
theorem GRun.range {P : Program} {all : List Oper} {o : Oper} {os : List Oper} {σ : St} {k : St → Prop} {t kt et : TypeId} {m : Operand} (hop : o.op = .range t m) (id : Nat) (es : Array MapEntry) (clock : Nat) (ht : P.underlying t = some (.map kt et))
    (hc : guardB all σ.env o = some true ∧ bdst σ o = true ∧ evalS σ.env m = .c (.mp id) ∧ σ.H id = some (.obj (.map es clock)) ∧ σ.H σ.nx = none ∧ σ.fx.dfs.contains σ.nx = false)
    (h : GRun P all os ⟨putE σ.env o.dst (.c (.own σ.nx 0)), upd σ.H σ.nx (some (.itr id clock #[] clock)), σ.nx + 1, σ.sz, σ.fx⟩ k) : GRun P all (o :: os) σ k := by
  obtain ⟨hg, hd, hm, hid, hn, hdf⟩ := hc
  refine GRun.opr hg hd (by rw [hop]; intro c hc; cases hc) fun F K0 g a w hr => ?_
  have hv := evalS_rep hr m
  rw [hm] at hv
  obtain ⟨b, hb, hev, hnr⟩ := hv
  obtain ⟨b', hb', hheap, _⟩ := hr.mem.holds id _ hid
  rw [hb] at hb'; cases hb'
  have hne : id ≠ σ.nx := fun e => by rw [e] at hid; rw [hn] at hid; cases hid
  obtain ⟨h1, l1⟩ := hr.mem.newObj (.mapIter (some b) clock #[] clock) hn
  obtain ⟨bi, hbi, hheapi, hni⟩ := h1.holds σ.nx _ (upd_same _ _ _)
  have hbid : upd g.β σ.nx (some w.heap.size) id = some b := by rw [upd_ne _ _ hne]; exact hb
  obtain ⟨h2, l2⟩ := h1.reh (he0 := .obj (.mapIter (some b) clock #[] clock)) (.itr id clock #[] clock) (upd_same _ _ _) rfl rfl (fun _ => ⟨bi, [.map (some b)], _, hbi, hheapi, ⟨rfl, fun j x v hx hv => by
    match j, hx, hv with
    | 0, hx, hv => simp at hx hv; subst hx hv; exact ⟨b, hbid, rfl, by rw [upd_upd, upd_ne _ _ hne, hid]; rfl⟩
    | j + 1, hx, hv => simp at hx⟩, ⟨b, rfl, rfl⟩, hni⟩)
  rw [upd_upd] at h2 l2
  refine ⟨_, .pointer (some ⟨w.heap.size, 0, none⟩), _, _, _, .c (.own σ.nx 0), σ.nx + 1, ?_, .inl rfl, h2, l1.trans l2, (⟨w.heap.size, upd_same g.β σ.nx _, rfl, by rw [upd_same]; rfl⟩ : RepC _ _ (.own σ.nx 0) _), dfs_ne (F := F) (K0 := K0) (g := g) (a := a) (w := w) hdf, h⟩
  unfold execOp; rw [hop]
  simp only [hev]
  simp [run_range_map' ht w hheap, Result.andThen]
/-- What is known of an iterator and its map. -/
theorem itr_at {F : Fr} {K0 : Know} {g : G} {σ : St} {a : Act} {w : World} {it : Operand} {id iid since last : Nat} {seen : Array Nat} {es : Array MapEntry} {clock : Nat} (hr : Rel F K0 g σ a w) (hm : evalS σ.env it = .c (.own iid 0)) (hid : σ.H id = some (.obj (.map es clock))) (hit : σ.H iid = some (.itr id since seen last)) :
    ∃ b bi, a.eval it = .pointer (some ⟨bi, 0, none⟩) ∧ g.β id = some b ∧ g.β iid = some bi ∧ w.heap[bi]? = some (.mapIter (some b) since seen last) ∧ w.heap[b]? = some (.map es clock) ∧ ∀ o', g.K bi o' = none := by
  have hv := evalS_rep hr it
  rw [hm] at hv
  obtain ⟨bi, hbi, hev, hnr⟩ := hv
  obtain ⟨b, hb, hheap, _⟩ := hr.mem.holds id _ hid
  obtain ⟨bi', vs, o, hbi', hheapi, hrep, ⟨bm, rfl, rfl⟩, hni⟩ := hr.mem.holds iid _ hit
  rw [hbi] at hbi'; cases hbi'
  obtain ⟨b2, hb2, he, _⟩ := hrep.2 0 _ _ rfl rfl
  rw [hb] at hb2
  cases hb2
  cases he
  exact ⟨b, bi, hev, hb, hbi, hheapi, hheap, hni⟩
theorem GRun.next {P : Program} {all : List Oper} {o : Oper} {os : List Oper} {σ : St} {k : St → Prop} {it : Operand} (hop : o.op = .next it false) (id iid since last : Nat) (seen : Array Nat) (es : Array MapEntry) (clock : Nat)
    (hold : ∀ x ∈ es.toList, x.born < since) (hsc : since ≤ last)
    (hc : guardB all σ.env o = some true ∧ bdst σ o = true ∧ evalS σ.env it = .c (.own iid 0) ∧ σ.H id = some (.obj (.map es clock)) ∧ σ.H iid = some (.itr id since seen last) ∧ σ.fx.dfs.contains iid = false)
    (h0 : (leftOf es seen).size = 0 → GRun P all os ⟨putE σ.env o.dst (.c (.d (.tup [boo false]))), σ.H, σ.nx, σ.sz, σ.fx⟩ k)
    (h1 : ∀ e ∈ (leftOf es seen).toList, GRun P all os ⟨putE σ.env o.dst (.c (.d (.tup [boo true, .val e.key, .val e.val]))), upd σ.H iid (some (.itr id since (seen.push e.born) clock)), σ.nx, σ.sz, σ.fx⟩ k) : GRun P all (o :: os) σ k := by
  obtain ⟨hg, hd, hm, hid, hit, hdf⟩ := hc
  refine GRun.opr hg hd (by rw [hop]; intro c hc; cases hc) fun F K0 g a w hr => ?_
  obtain ⟨b, bi, hev, hb, hbi, hheapi, hheap, hni⟩ := itr_at hr hm hid hit
  have hne : id ≠ iid := fun e => by rw [e] at hid; rw [hit] at hid; cases hid
  rcases run_next_at (P := P) w o.type bi b since last seen es clock hheapi hheap hold hsc with ⟨hz, hrun⟩ | ⟨e, he, w1, hw1, hrun⟩
  · refine ⟨_, .tuple #[.bool false], w, g, σ.H, _, σ.nx, ?_, .inl rfl, hr.mem, GLe.refl _ _, ?_, fun _ _ => rfl, h0 hz⟩
    · unfold execOp; rw [hop]; simp only [hev]; simp [hrun, Result.andThen]
    · exact Rep.tup (vs := [.bool false]) rfl (fun j x v hx hv => by
        match j, hx, hv with
        | 0, hx, hv => simp at hx hv; subst hx hv; exact Rep.val _
        | j + 1, hx, hv => simp at hx)
  · have hm1 : RelH F K0 g σ.H w1 := by
      rcases hw1 with rfl | rfl
      · exact hr.mem
      · exact hr.mem.drew
    have hh1 : w1.heap = w.heap := by rcases hw1 with rfl | rfl <;> rfl
    obtain ⟨q1, l1⟩ := hm1.reh (.obj (.mapIter (some b) since seen last)) hit rfl rfl (fun _ => ⟨bi, hbi, by rw [hh1]; exact hheapi, hni⟩)
    obtain ⟨q2, l2⟩ := q1.setObj (.mapIter (some b) since (seen.push e.born) clock) (upd_same _ _ _) hbi
    obtain ⟨b3, hb3, hheap3, hn3⟩ := q2.holds iid _ (upd_same _ _ _)
    obtain ⟨q3, l3⟩ := q2.reh (he0 := .obj (.mapIter (some b) since (seen.push e.born) clock)) (.itr id since (seen.push e.born) clock) (upd_same _ _ _) rfl rfl (fun _ => ⟨b3, [.map (some b)], _, hb3, hheap3, ⟨rfl, fun j x v hx hv => by
      match j, hx, hv with
      | 0, hx, hv => simp at hx hv; subst hx hv; exact ⟨b, hb, rfl, by simp only [upd_upd]; rw [upd_ne _ _ hne, hid]; rfl⟩
      | j + 1, hx, hv => simp at hx⟩, ⟨b, rfl, rfl⟩, hn3⟩)
    simp only [upd_upd] at q3 l3 l2 l1
    refine ⟨_, .tuple #[.bool true, e.key, e.val], _, _, _, _, σ.nx, ?_, .inl rfl, q3, (l1.trans l2).trans l3, ?_, dfs_ne (F := F) (K0 := K0) (g := g) (a := a) (w := w) hdf, h1 e he⟩
    · unfold execOp; rw [hop]; simp only [hev]; simp [hrun, Result.andThen]; rfl
    · exact Rep.tup (vs := [.bool true, e.key, e.val]) rfl (fun j x v hx hv => by
        match j, hx, hv with
        | 0, hx, hv => simp at hx hv; subst hx hv; exact Rep.val _
        | 1, hx, hv => simp at hx hv; subst hx hv; exact Rep.val _
        | 2, hx, hv => simp at hx hv; subst hx hv; exact Rep.val _
        | j + 3, hx, hv => simp at hx)
theorem GRun.entry {P : Program} {all : List Oper} {o : Oper} {os : List Oper} {σ : St} {k : St → Prop} {it : Operand} (hop : o.op = .entry it) (id iid since : Nat) (seen : Array Nat) (es : Array MapEntry) (clock : Nat) (e : MapEntry) (x : D)
    (he : e ∈ es.toList) (hn : (es.toList.map (·.born)).Nodup) (hx : ∀ K, Rep K x e.val)
    (hc : guardB all σ.env o = some true ∧ bdst σ o = true ∧ evalS σ.env it = .c (.own iid 0) ∧ σ.H id = some (.obj (.map es clock)) ∧ σ.H iid = some (.itr id since (seen.push e.born) clock))
    (h : GRun P all os ⟨putE σ.env o.dst (.c (.d (.tup [.val e.key, x]))), σ.H, σ.nx, σ.sz, σ.fx⟩ k) : GRun P all (o :: os) σ k := by
  obtain ⟨hg, hd, hm, hid, hit⟩ := hc
  refine GRun.opr hg hd (by rw [hop]; intro c hc; cases hc) fun F K0 g a w hr => ?_
  obtain ⟨b, bi, hev, hb, hbi, hheapi, hheap, hni⟩ := itr_at hr hm hid hit
  have hrun := run_entry_at (P := P) w bi b since seen es clock e hheapi hheap he hn
  refine ⟨_, .tuple #[e.key, e.val], w, g, σ.H, _, σ.nx, ?_, .inl rfl, hr.mem, GLe.refl _ _, ?_, fun _ _ => rfl, h⟩
  · unfold execOp; rw [hop]; simp only [hev]; simp [hrun, Result.andThen]
  · exact Rep.tup (vs := [e.key, e.val]) rfl (fun j x' v hx' hv => by
      match j, hx', hv with
      | 0, hx', hv => simp at hx' hv; subst hx' hv; exact Rep.val _
      | 1, hx', hv => simp at hx' hv; subst hx' hv; exact hx _
      | j + 2, hx', hv => simp at hx')
theorem MTr.mapSet {P : Program} {all : List Oper} {o : Oper} {os : List Oper} {σ : St} {tm : List FootM} {k : St → List FootM → Prop} {t kt et : TypeId} {m kx vx : Operand} (hop : o.op = .mapUpdate t m kx vx) (id : Nat) (L : List (Bs × Value)) (key : Bs) (v : Value)
    (ht : P.underlying t = some (.map kt et)) (hkt : P.underlying kt = some .string)
    (hc : guardB all σ.env o = some true ∧ bdst σ o = true ∧ mapAt σ m id L ∧ valS (evalS σ.env kx) = some (.string ⟨key.toArray⟩) ∧ valS (evalS σ.env vx) = some v ∧ σ.fx.dfs.contains id = false)
    (h : MTr P all os ⟨putE σ.env o.dst (.c (.d (.val undef))), upd σ.H id (some (.smap (aset key v L))), σ.nx, σ.sz, σ.fx⟩ (⟨[id], [id]⟩ :: tm) k) : MTr P all (o :: os) σ tm k := by
  refine MTr.rule (σ2 := ⟨putE σ.env o.dst (.c (.d (.val undef))), upd σ.H id (some (.smap (aset key v L))), σ.nx, σ.sz, σ.fx⟩) [id] [id] (fun _ h => h) _ rfl rfl rfl (fun i hi => upd_ne _ _ (by simpa using hi)) (fun E H hE hH => ?_) h
  obtain ⟨hg, hd, ⟨hm, hL⟩, hk, hv, hdf⟩ := hc
  have e2 : evalS E kx = evalS σ.env kx := reads_op hE (by rw [hop]; simp [Op.operands])
  have e3 : evalS E vx = evalS σ.env vx := reads_op hE (by rw [hop]; simp [Op.operands])
  refine GRun.mapSet hop id L key v ht hkt ⟨(guardB_congr hE).trans hg, hd, ⟨(reads_op hE (by rw [hop]; simp [Op.operands])).trans hm, (hH id (by simp)).trans hL⟩, by show valS (evalS E kx) = _; rw [e2]; exact hk, by show valS (evalS E vx) = _; rw [e3]; exact hv, hdf⟩ (GRun.ret ⟨rfl, ?_, rfl, rfl⟩)
  funext i
  show upd H id _ i = over [id] H (upd σ.H id _) i
  by_cases e : i = id
  · subst e; rw [upd_same, over_in (by simp), upd_same]
  · rw [upd_ne _ _ e, over_out (by simpa using e)]
theorem left_push {es : Array MapEntry} {seen : Array Nat} {e : MapEntry} (he : e ∈ (leftOf es seen).toList) : (leftOf es (seen.push e.born)).size < (leftOf es seen).size := by
  have hsub : ∀ (l : List MapEntry), e ∈ l.filter (fun x => !seen.contains x.born) → (l.filter (fun x => !(seen.push e.born).contains x.born)).length < (l.filter (fun x => !seen.contains x.born)).length := by
    intro l
    induction l with
    | nil => intro h; simp at h
    | cons x l ih =>
      intro h
      have hle : ∀ (l : List MapEntry), (l.filter (fun x => !(seen.push e.born).contains x.born)).length ≤ (l.filter (fun x => !seen.contains x.born)).length := fun l => by
        induction l with
        | nil => simp
        | cons y l ih2 =>
          simp only [List.filter_cons]
          cases h1 : seen.contains y.born with
          | true =>
            have : (seen.push e.born).contains y.born = true := by simp at h1 ⊢; exact .inl h1
            rw [this]; simp only [Bool.not_true, Bool.false_eq_true, if_false]; exact ih2
          | false =>
            cases h2 : (seen.push e.born).contains y.born with
            | true => simp only [Bool.not_true, Bool.not_false, Bool.false_eq_true, if_false, if_true, List.length_cons]; omega
            | false => simp only [Bool.not_false, if_true, List.length_cons]; omega
      simp only [List.filter_cons] at h ⊢
      by_cases hxe : x = e
      · subst hxe
        have h1 : seen.contains x.born = false := by
          cases hc : seen.contains x.born with
          | false => rfl
          | true =>
            rw [hc] at h
            have := (List.mem_filter.1 h).2
            rw [hc] at this; cases this
        have h2 : (seen.push x.born).contains x.born = true := by simp
        rw [h1, h2]
        simp only [Bool.not_true, Bool.not_false, Bool.false_eq_true, if_false, if_true, List.length_cons]
        have := hle l
        omega
      · cases h1 : seen.contains x.born with
        | true =>
          have h2 : (seen.push e.born).contains x.born = true := by simp at h1 ⊢; exact .inl h1
          rw [h1] at h
          rw [h2]
          simp only [Bool.not_true, Bool.false_eq_true, if_false] at h ⊢
          exact ih h
        | false =>
          rw [h1] at h
          simp only [Bool.not_false, if_true] at h ⊢
          have hm := (List.mem_cons.1 h).resolve_left (Ne.symm hxe)
          have := ih hm
          cases h2 : (seen.push e.born).contains x.born with
          | true => simp only [Bool.not_true, Bool.false_eq_true, if_false, List.length_cons]; omega
          | false => simp only [Bool.not_false, if_true, List.length_cons]; omega
  have h1 : ∀ s : Array Nat, (leftOf es s).toList = es.toList.filter (fun x => !s.contains x.born) := fun s => by unfold leftOf; simp
  have := hsub es.toList (by rw [← h1]; exact he)
  rw [← h1, ← h1] at this
  simpa using this
end Go.Proofs.YtdpfjdkjimaocaaDoor
