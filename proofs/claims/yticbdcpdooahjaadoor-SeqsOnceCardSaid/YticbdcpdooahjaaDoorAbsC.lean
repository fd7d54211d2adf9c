/- The abstract machine: operations that make or write memory. -/
import Derived.Test.YticbdcpdooahjaaDoorAbsB
namespace Go.Proofs.YticbdcpdooahjaaDoor
open Go Go.RowKit
set_option linter.unusedVariables false
set_option linter.unusedSimpArgs false
theorem KW.lt {K : Know} {w : World} (h : KW K w) {b o : Nat} (hb : w.heap.size ≤ b) : K b o = none := by
  cases hk : K b o with
  | none => rfl
  | some v =>
    have := h b o v hk
    simp [World.cell?, Array.getElem?_eq_none hb] at this
theorem lt_of_heap {w : World} {b : Nat} {o : Obj} (h : w.heap[b]? = some o) : b < w.heap.size := (Array.getElem?_eq_some_iff.1 h).1
/-- Nothing but K has grown. -/
theorem GLe.ofK {g : G} {H : Hp} {K' : Know} (h : KLe g.K K') : GLe g H { g with K := K' } H := by
  intro x v r
  cases x with
  | any => trivial
  | d x => exact Rep.mono h r
  | own id off => exact r
  | app τ sz xs => exact ⟨r.1.mono h, r.2⟩
  | full sz xs => exact ⟨r.1.mono h, r.2⟩
  | view id sz off len => exact r
  | clo f caps => exact clo_mono r h (fun _ _ _ r => r)
  | yld i => exact yld_mono r (fun _ _ _ r => r)
/-- New blocks alone, and knowledge of them. -/
theorem RelH.grow {W0 : Fr} {K0 : Know} {g : G} {H : Hp} {w w' : World} {K' : Know} (hh : RelH W0 K0 g H w) (hb : Below w.heap.size w w') (he : Ext g.K K' w.heap.size) (hk : KW K' w') :
    RelH W0 K0 { g with K := K' } H w' := by
  have hle := GLe.ofK (g := g) (H := H) he.1
  refine ⟨hh.below.trans hb, hh.ext.trans he hh.below.size, hk, fun id e hid => ?_, hh.base, hh.dom, hh.sep, fun id b h => Nat.lt_of_lt_of_le (hh.frozlt id b h) hb.size, hh.glob, hh.lent.trans hle⟩
  have := hh.holds id e hid
  cases e with
  | cells cs =>
    obtain ⟨b, vs, t, hβ, hheap, hr, h1, hn⟩ := this
    exact ⟨b, vs, t, hβ, (hb.block b (lt_of_heap hheap)).trans hheap, hr.mono hle, h1, fun o => by
      show K' b o = none
      rw [he.2 b o (lt_of_heap hheap)]; exact hn o⟩
  | obj o =>
    obtain ⟨b, hβ, hheap, hn⟩ := this
    exact ⟨b, hβ, (hb.block b (lt_of_heap hheap)).trans hheap, fun o => by
      show K' b o = none
      rw [he.2 b o (lt_of_heap hheap)]; exact hn o⟩
  | froz ds =>
    obtain ⟨b, vs, hβ, hr, h1, hn⟩ := this
    exact ⟨b, vs, hβ, hr.mono he.1, h1, fun j v hj => he.1 _ _ _ (hn j v hj)⟩
  | row e sz n =>
    intro b hβ
    obtain ⟨cur, hheap, hsz, hcap, hn⟩ := this b hβ
    exact ⟨cur, (hb.block b (lt_of_heap hheap)).trans hheap, hsz, hcap, fun o ho => by
      show K' b o = none
      rw [he.2 b o (lt_of_heap hheap)]; exact hn o ho⟩
def Kadd (K : Know) (b : Nat) (vs : List Value) : Know := fun b' o => if b' = b then vs[o]? else K b' o
theorem Kadd_ext {K : Know} {w : World} (h : KW K w) (vs : List Value) : Ext K (Kadd K w.heap.size vs) w.heap.size := by
  refine ⟨fun b o v hv => ?_, fun b o hb => ?_⟩
  · unfold Kadd
    split
    · rename_i e; subst e
      rw [h.lt (Nat.le_refl _)] at hv; cases hv
    · exact hv
  · unfold Kadd; rw [if_neg (by omega)]
theorem heap_new (w : World) (o : Obj) : (w.alloc o).heap[w.heap.size]? = some o := by show (w.heap.push o)[w.heap.size]? = _; simp
theorem below_alloc (w : World) (o : Obj) : Below w.heap.size w (w.alloc o) := (Below.refl _ _).alloc (Nat.le_refl _) _
theorem Kadd_kw {K : Know} {w : World} (h : KW K w) (vs : List Value) (cur : Array Value) (t : TypeId) (fr : Nat × Nat) (hc : ∀ (j : Nat) v, vs[j]? = some v → cur[j]? = some v) : KW (Kadd K w.heap.size vs) (w.alloc (.cells cur t fr)) := by
  intro b o v hv
  unfold Kadd at hv
  split at hv
  · rename_i e; subst e
    simp only [World.cell?, heap_new]
    simpa using hc o v hv
  · rename_i hne
    have h0 := h b o v hv
    have hlt : b < w.heap.size := by
      rcases Nat.lt_or_ge b w.heap.size with h' | h'
      · exact h'
      · rw [h.lt h'] at hv; cases hv
    rw [← h0]
    exact (below_alloc w _).cell (p := ⟨b, o, none⟩) hlt
/-- A new box. -/
theorem RelH.box {W0 : Fr} {K0 : Know} {g : G} {H : Hp} {w : World} {cs : List CV} {vs : List Value} {id : Nat} (t : TypeId) (hh : RelH W0 K0 g H w) (hid : H id = none) (hr : RepCs g H cs vs) (h1 : ∀ u ∈ vs, u.oneCell' = true) :
    RelH W0 K0 { g with β := upd g.β id (some w.heap.size) } (upd H id (some (.cells cs))) (w.alloc (.cells vs.toArray t)) ∧ GLe g H { g with β := upd g.β id (some w.heap.size) } (upd H id (some (.cells cs))) := by
  have hβ : g.β id = none := hh.dom id hid
  have hle : GLe g H { g with β := upd g.β id (some w.heap.size) } (upd H id (some (.cells cs))) := by
    have ho : ∀ i off v, RepC g H (.own i off) v → RepC { g with β := upd g.β id (some w.heap.size) } (upd H id (some (.cells cs))) (.own i off) v := by
      rintro i off v ⟨b, hb, rfl, hnr⟩
      have hne : i ≠ id := fun e => by subst e; rw [hβ] at hb; cases hb
      exact ⟨b, by show upd _ _ _ _ = _; rw [upd_ne _ _ hne]; exact hb, rfl, by rw [upd_ne _ _ hne]; exact hnr⟩
    intro x v r
    cases x with
    | any => trivial
    | d x => exact r
    | clo f caps => exact clo_mono r (KLe.refl _) ho
    | yld i => exact yld_mono r ho
    | own i off => exact ho i off v r
    | app τ sz xs =>
      obtain ⟨r1, e, n, hrow, hle, hf⟩ := r
      have hne : τ ≠ id := fun e => by subst e; rw [hid] at hrow; cases hrow
      refine ⟨r1, e, n, by rw [upd_ne _ _ hne]; exact hrow, hle, fun hn => ?_⟩
      rcases hf hn with h4 | ⟨b, hb, hv⟩
      · exact .inl h4
      · exact .inr ⟨b, by show upd _ _ _ _ = _; rw [upd_ne _ _ hne]; exact hb, hv⟩
    | full sz xs => exact r
    | view i sz off len =>
      obtain ⟨b, c, hb, rfl, hc, hnr⟩ := r
      have hne : i ≠ id := fun e => by subst e; rw [hβ] at hb; cases hb
      exact ⟨b, c, by show upd _ _ _ _ = _; rw [upd_ne _ _ hne]; exact hb, rfl, hc, by rw [upd_ne _ _ hne]; exact hnr⟩
  have hb := below_alloc w (.cells vs.toArray t)
  have hused := hh.frozlt
  refine ⟨⟨hh.below.trans hb, hh.ext, ?_, ?_, ?_, ?_, ?_, ?_, hh.glob, hh.lent.trans hle⟩, hle⟩
  · intro b o v hv
    have h0 := hh.kw b o v hv
    have : b < w.heap.size := by
      rcases Nat.lt_or_ge b w.heap.size with h' | h'
      · exact h'
      · rw [hh.kw.lt h'] at hv; cases hv
    rw [← h0]; exact hb.cell (p := ⟨b, o, none⟩) this
  · intro i e hi
    by_cases hne : i = id
    · subst hne
      rw [upd_same] at hi
      cases hi
      exact ⟨w.heap.size, vs, t, upd_same _ _ _, heap_new w _, hr.mono hle, h1, fun o => hh.kw.lt (Nat.le_refl _)⟩
    · rw [upd_ne _ _ hne] at hi
      have := hh.holds i e hi
      cases e with
      | cells cs =>
        obtain ⟨b, vs', t', hβi, hheap, hr', h1', hn⟩ := this
        exact ⟨b, vs', t', (upd_ne _ _ hne).trans hβi, (hb.block b (lt_of_heap hheap)).trans hheap, hr'.mono hle, h1', hn⟩
      | obj o =>
        obtain ⟨b, hβi, hheap, hn⟩ := this
        exact ⟨b, (upd_ne _ _ hne).trans hβi, (hb.block b (lt_of_heap hheap)).trans hheap, hn⟩
      | froz ds =>
        obtain ⟨b, vs', hβi, hr', h1', hn⟩ := this
        exact ⟨b, vs', (upd_ne _ _ hne).trans hβi, hr', h1', hn⟩
      | row e sz n =>
        intro b hβi
        have hβi' : g.β i = some b := (upd_ne g.β (some w.heap.size) hne).symm.trans hβi
        obtain ⟨cur, hheap, r⟩ := this b hβi'
        exact ⟨cur, (hb.block b (lt_of_heap hheap)).trans hheap, r⟩
  · intro i b hβi
    by_cases hne : i = id
    · subst hne
      have : some w.heap.size = some b := (upd_same g.β i (some w.heap.size)).symm.trans hβi
      cases this; exact Fr.new hh.below.size
    · exact hh.base i b ((upd_ne g.β (some w.heap.size) hne).symm.trans hβi)
  · intro i hi
    by_cases hne : i = id
    · subst hne; rw [upd_same] at hi; cases hi
    · rw [upd_ne _ _ hne] at hi
      exact (upd_ne _ _ hne).trans (hh.dom i hi)
  · intro i j b hi hj
    have key : ∀ i, upd g.β id (some w.heap.size) i = some b → (i = id ∧ b = w.heap.size) ∨ (i ≠ id ∧ g.β i = some b) := by
      intro i hi
      by_cases hne : i = id
      · subst hne; rw [upd_same] at hi; cases hi; exact .inl ⟨rfl, rfl⟩
      · rw [upd_ne _ _ hne] at hi; exact .inr ⟨hne, hi⟩
    rcases key i hi with ⟨rfl, rfl⟩ | ⟨h1, h2⟩
    · rcases key j hj with ⟨rfl, _⟩ | ⟨h3, h4⟩
      · rfl
      · have := hused j _ h4; omega
    · rcases key j hj with ⟨rfl, rfl⟩ | ⟨h3, h4⟩
      · have := hused i _ h2; omega
      · exact hh.sep i j b h2 h4
  · intro i b hβi
    by_cases hne : i = id
    · subst hne
      have : some w.heap.size = some b := (upd_same g.β i (some w.heap.size)).symm.trans hβi
      cases this; exact lt_of_heap (heap_new w _)
    · have := hused i b ((upd_ne g.β (some w.heap.size) hne).symm.trans hβi)
      have := hb.size; omega
/-- Of a box that is no row nothing but its content turns. -/
theorem GLe.box {g : G} {H : Hp} {id : Nat} {he : HE} (hid : isRow (H id) = false) (hr : isRow (some he) = false) : GLe g H g (upd H id (some he)) := by
  intro x v r
  have key : ∀ i, isRow (H i) = false → isRow (upd H id (some he) i) = false := fun i hi => by
    by_cases h : i = id
    · subst h; rw [upd_same]; exact hr
    · rw [upd_ne _ _ h]; exact hi
  cases x with
  | app τ sz xs =>
    obtain ⟨r1, e, n, hrow, hle, hf⟩ := r
    have hne : τ ≠ id := fun e => by subst e; rw [hrow] at hid; simp [isRow] at hid
    exact ⟨r1, e, n, by rw [upd_ne _ _ hne]; exact hrow, hle, hf⟩
  | own i off => obtain ⟨b, hb, rfl, hnr⟩ := r; exact ⟨b, hb, rfl, key i hnr⟩
  | clo f caps => exact clo_mono r (KLe.refl _) (fun i off v ⟨b, hb, hv, hnr⟩ => ⟨b, hb, hv, key i hnr⟩)
  | yld i => exact yld_mono r (fun i off v ⟨b, hb, hv, hnr⟩ => ⟨b, hb, hv, key i hnr⟩)
  | view i sz off len => obtain ⟨b, c, hb, rfl, hc, hnr⟩ := r; exact ⟨b, c, hb, rfl, hc, key i hnr⟩
  | _ => exact r
/-- A box is written. -/
theorem RelH.write {W0 : Fr} {K0 : Know} {g : G} {H : Hp} {w : World} {cs : List CV} {vs vs' : List Value} {cs' : List CV} {id b : Nat} {t : TypeId} (hh : RelH W0 K0 g H w) (hid : H id = some (.cells cs)) (hβ : g.β id = some b)
    (hheap : w.heap[b]? = some (.cells vs.toArray t (0, 0))) (hn : ∀ o, g.K b o = none) (hr : RepCs g H cs' vs') (h1 : ∀ u ∈ vs', u.oneCell' = true) :
    RelH W0 K0 g (upd H id (some (.cells cs'))) (w.setRow b vs'.toArray) ∧ GLe g H g (upd H id (some (.cells cs'))) := by
  have hle : GLe g H g (upd H id (some (.cells cs'))) := by
    intro x v r
    exact GLe.box (by rw [hid]; rfl) (by rfl) x v r
  have hset := setRow_heap w b vs.toArray vs'.toArray t (0, 0) hheap
  have hoth : ∀ k, k ≠ b → (w.setRow b vs'.toArray).heap[k]? = w.heap[k]? := fun k hk => setRow_other w b k vs'.toArray hk
  have hsz : (w.setRow b vs'.toArray).heap.size = w.heap.size := by simp [World.setRow]
  refine ⟨⟨⟨hh.below.os, hh.below.tape, hh.below.output, by rw [hsz]; exact hh.below.size, fun k hk => by rw [hoth k (Fr.ne hk (hh.base id b hβ))]; exact hh.below.block k hk⟩, hh.ext, ?_, ?_, hh.base, ?_, hh.sep, ?_, hh.glob, hh.lent.trans hle⟩, hle⟩
  · intro b' o v hv
    have hne : b' ≠ b := fun e => by subst e; rw [hn o] at hv; cases hv
    have h0 := hh.kw b' o v hv
    rw [← h0]; exact World.cell?_of_block (hoth b' hne)
  · intro i e hi
    by_cases hne : i = id
    · subst hne
      rw [upd_same] at hi
      cases hi
      exact ⟨b, vs', t, hβ, hset, hr.mono hle, h1, hn⟩
    · rw [upd_ne _ _ hne] at hi
      have := hh.holds i e hi
      cases e with
      | cells cs =>
        obtain ⟨b', vs2, t', hβi, hheap', hr', h1', hn'⟩ := this
        exact ⟨b', vs2, t', hβi, (hoth b' (fun e => hne (hh.sep i id b (e ▸ hβi) hβ))).trans hheap', hr'.mono hle, h1', hn'⟩
      | obj o =>
        obtain ⟨b', hβi, hheap', hn'⟩ := this
        exact ⟨b', hβi, (hoth b' (fun e => hne (hh.sep i id b (e ▸ hβi) hβ))).trans hheap', hn'⟩
      | froz ds => exact this
      | row e sz n =>
        intro b' hβi
        obtain ⟨cur, hheap', r⟩ := this b' hβi
        exact ⟨cur, (hoth b' (fun e => hne (hh.sep i id b (e ▸ hβi) hβ))).trans hheap', r⟩
  · intro i hi
    by_cases hne : i = id
    · subst hne; rw [upd_same] at hi; cases hi
    · rw [upd_ne _ _ hne] at hi
      exact hh.dom i hi
  · intro i b' hb'; rw [hsz]; exact hh.frozlt i b' hb'
/-- An object that is no cells is put for another. -/
theorem RelH.setObj {W0 : Fr} {K0 : Know} {g : G} {H : Hp} {w : World} {id b : Nat} {ob : Obj} (ob' : Obj) (hh : RelH W0 K0 g H w) (hid : H id = some (.obj ob)) (hβ : g.β id = some b) :
    RelH W0 K0 g (upd H id (some (.obj ob'))) (w.putObj b ob') ∧ GLe g H g (upd H id (some (.obj ob'))) := by
  have hle : GLe g H g (upd H id (some (.obj ob'))) := GLe.box (by rw [hid]; rfl) rfl
  obtain ⟨b0, hβ0, hheap, hn⟩ := hh.holds id _ hid
  rw [hβ] at hβ0; cases hβ0
  have hoth : ∀ k, k ≠ b → (w.putObj b ob').heap[k]? = w.heap[k]? := fun k hk => World.putObj_heap_other hk
  have hsz : (w.putObj b ob').heap.size = w.heap.size := World.putObj_size
  refine ⟨⟨⟨hh.below.os, hh.below.tape, hh.below.output, by rw [hsz]; exact hh.below.size, fun k hk => by rw [hoth k (Fr.ne hk (hh.base id b hβ))]; exact hh.below.block k hk⟩, hh.ext, ?_, ?_, hh.base, ?_, hh.sep, ?_, hh.glob, hh.lent.trans hle⟩, hle⟩
  · intro b' o v hv
    have hne : b' ≠ b := fun e => by subst e; rw [hn o] at hv; cases hv
    have h0 := hh.kw b' o v hv
    rw [← h0]; exact World.cell?_of_block (hoth b' hne)
  · intro i e hi
    by_cases hne : i = id
    · subst hne
      rw [upd_same] at hi
      cases hi
      exact ⟨b, hβ, World.putObj_heap_same (lt_of_heap hheap), hn⟩
    · rw [upd_ne _ _ hne] at hi
      have := hh.holds i e hi
      cases e with
      | cells cs =>
        obtain ⟨b', vs2, t', hβi, hheap', hr', h1', hn'⟩ := this
        exact ⟨b', vs2, t', hβi, (hoth b' (fun e => hne (hh.sep i id b (e ▸ hβi) hβ))).trans hheap', hr'.mono hle, h1', hn'⟩
      | froz ds => exact this
      | obj o =>
        obtain ⟨b', hβi, hheap', hn'⟩ := this
        exact ⟨b', hβi, (hoth b' (fun e => hne (hh.sep i id b (e ▸ hβi) hβ))).trans hheap', hn'⟩
      | row e sz n =>
        intro b' hβi
        obtain ⟨cur, hheap', r⟩ := this b' hβi
        exact ⟨cur, (hoth b' (fun e => hne (hh.sep i id b (e ▸ hβi) hβ))).trans hheap', r⟩
  · intro i hi
    by_cases hne : i = id
    · subst hne; rw [upd_same] at hi; cases hi
    · rw [upd_ne _ _ hne] at hi
      exact hh.dom i hi
  · intro i b' hb'; rw [hsz]; exact hh.frozlt i b' hb'
/-- A new object that is no cells. -/
theorem RelH.newObj {W0 : Fr} {K0 : Know} {g : G} {H : Hp} {w : World} {id : Nat} (ob : Obj) (hh : RelH W0 K0 g H w) (hid : H id = none) :
    RelH W0 K0 { g with β := upd g.β id (some w.heap.size) } (upd H id (some (.obj ob))) (w.alloc ob) ∧ GLe g H { g with β := upd g.β id (some w.heap.size) } (upd H id (some (.obj ob))) := by
  have hβ : g.β id = none := hh.dom id hid
  have hle : GLe g H { g with β := upd g.β id (some w.heap.size) } (upd H id (some (.obj ob))) := by
    have ho : ∀ i off v, RepC g H (.own i off) v → RepC { g with β := upd g.β id (some w.heap.size) } (upd H id (some (.obj ob))) (.own i off) v := by
      rintro i off v ⟨b, hb, rfl, hnr⟩
      have hne : i ≠ id := fun e => by subst e; rw [hβ] at hb; cases hb
      exact ⟨b, by show upd _ _ _ _ = _; rw [upd_ne _ _ hne]; exact hb, rfl, by rw [upd_ne _ _ hne]; exact hnr⟩
    intro x v r
    cases x with
    | any => trivial
    | d x => exact r
    | clo f caps => exact clo_mono r (KLe.refl _) ho
    | yld i => exact yld_mono r ho
    | own i off => exact ho i off v r
    | app τ sz xs =>
      obtain ⟨r1, e, n, hrow, hle, hf⟩ := r
      have hne : τ ≠ id := fun e => by subst e; rw [hid] at hrow; cases hrow
      refine ⟨r1, e, n, by rw [upd_ne _ _ hne]; exact hrow, hle, fun hn => ?_⟩
      rcases hf hn with h4 | ⟨b, hb, hv⟩
      · exact .inl h4
      · exact .inr ⟨b, by show upd _ _ _ _ = _; rw [upd_ne _ _ hne]; exact hb, hv⟩
    | full sz xs => exact r
    | view i sz off len =>
      obtain ⟨b, c, hb, rfl, hc, hnr⟩ := r
      have hne : i ≠ id := fun e => by subst e; rw [hβ] at hb; cases hb
      exact ⟨b, c, by show upd _ _ _ _ = _; rw [upd_ne _ _ hne]; exact hb, rfl, hc, by rw [upd_ne _ _ hne]; exact hnr⟩
  have hb := below_alloc w ob
  have hused := hh.frozlt
  refine ⟨⟨hh.below.trans hb, hh.ext, ?_, ?_, ?_, ?_, ?_, ?_, hh.glob, hh.lent.trans hle⟩, hle⟩
  · intro b o v hv
    have h0 := hh.kw b o v hv
    have : b < w.heap.size := by
      rcases Nat.lt_or_ge b w.heap.size with h' | h'
      · exact h'
      · rw [hh.kw.lt h'] at hv; cases hv
    rw [← h0]; exact hb.cell (p := ⟨b, o, none⟩) this
  · intro i e hi
    by_cases hne : i = id
    · subst hne
      rw [upd_same] at hi
      cases hi
      exact ⟨w.heap.size, upd_same _ _ _, heap_new w _, fun o => hh.kw.lt (Nat.le_refl _)⟩
    · rw [upd_ne _ _ hne] at hi
      have := hh.holds i e hi
      cases e with
      | cells cs =>
        obtain ⟨b, vs', t', hβi, hheap, hr', h1', hn⟩ := this
        exact ⟨b, vs', t', (upd_ne _ _ hne).trans hβi, (hb.block b (lt_of_heap hheap)).trans hheap, hr'.mono hle, h1', hn⟩
      | froz ds =>
        obtain ⟨b, vs', hβi, hr', h1', hn⟩ := this
        exact ⟨b, vs', (upd_ne _ _ hne).trans hβi, hr', h1', hn⟩
      | obj o =>
        obtain ⟨b, hβi, hheap, hn⟩ := this
        exact ⟨b, (upd_ne _ _ hne).trans hβi, (hb.block b (lt_of_heap hheap)).trans hheap, hn⟩
      | row e sz n =>
        intro b hβi
        have hβi' : g.β i = some b := (upd_ne g.β (some w.heap.size) hne).symm.trans hβi
        obtain ⟨cur, hheap, r⟩ := this b hβi'
        exact ⟨cur, (hb.block b (lt_of_heap hheap)).trans hheap, r⟩
  · intro i b hβi
    by_cases hne : i = id
    · subst hne
      have : some w.heap.size = some b := (upd_same g.β i (some w.heap.size)).symm.trans hβi
      cases this; exact Fr.new hh.below.size
    · exact hh.base i b ((upd_ne g.β (some w.heap.size) hne).symm.trans hβi)
  · intro i hi
    by_cases hne : i = id
    · subst hne; rw [upd_same] at hi; cases hi
    · rw [upd_ne _ _ hne] at hi
      exact (upd_ne _ _ hne).trans (hh.dom i hi)
  · intro i j b hi hj
    have key : ∀ i, upd g.β id (some w.heap.size) i = some b → (i = id ∧ b = w.heap.size) ∨ (i ≠ id ∧ g.β i = some b) := by
      intro i hi
      by_cases hne : i = id
      · subst hne; rw [upd_same] at hi; cases hi; exact .inl ⟨rfl, rfl⟩
      · rw [upd_ne _ _ hne] at hi; exact .inr ⟨hne, hi⟩
    rcases key i hi with ⟨rfl, rfl⟩ | ⟨h1, h2⟩
    · rcases key j hj with ⟨rfl, _⟩ | ⟨h3, h4⟩
      · rfl
      · have := hused j _ h4; omega
    · rcases key j hj with ⟨rfl, rfl⟩ | ⟨h3, h4⟩
      · have := hused i _ h2; omega
      · exact hh.sep i j b h2 h4
  · intro i b hβi
    by_cases hne : i = id
    · subst hne
      have : some w.heap.size = some b := (upd_same g.β i (some w.heap.size)).symm.trans hβi
      cases this; exact lt_of_heap (heap_new w _)
    · have := hused i b ((upd_ne g.β (some w.heap.size) hne).symm.trans hβi)
      have := hb.size; omega
/-- A box is written no more. -/
theorem RelH.freeze {W0 : Fr} {K0 : Know} {g : G} {H : Hp} {w : World} {cs : List CV} {ds : List D} {id : Nat} (hh : RelH W0 K0 g H w) (hid : H id = some (.cells cs)) (hd : mapO CV.toD0 cs = some ds) :
    ∃ g', RelH W0 K0 g' (upd H id (some (.froz ds))) w ∧ GLe g H g' (upd H id (some (.froz ds))) := by
  obtain ⟨b, vs, t, hβ, hheap, hr, h1, hn⟩ := hh.holds id _ hid
  have hkle : KLe g.K (Kadd g.K b vs) := fun b' o v hv => by
    unfold Kadd
    split
    · rename_i e; subst e; rw [hn o] at hv; cases hv
    · exact hv
  have hle : GLe g H { g with K := Kadd g.K b vs } (upd H id (some (.froz ds))) := by
    intro x v r
    have r' := GLe.ofK (g := g) (H := H) hkle x v r
    exact GLe.box (by rw [hid]; rfl) (by rfl) x v r'
  refine ⟨{ g with K := Kadd g.K b vs }, ⟨hh.below, ?_, ?_, ?_, hh.base, ?_, hh.sep, hh.frozlt, hh.glob, hh.lent.trans hle⟩, hle⟩
  · exact ⟨hh.ext.1.trans hkle, fun b' o hb' => by
      show Kadd _ _ _ _ _ = _
      unfold Kadd
      rw [if_neg (Fr.ne hb' (hh.base id b hβ))]; exact hh.ext.2 b' o hb'⟩
  · intro b' o v hv
    have hv' : Kadd g.K b vs b' o = some v := hv
    unfold Kadd at hv'
    split at hv'
    · rename_i e; subst e; rw [cell_of_cells hheap]; exact hv'
    · exact hh.kw b' o v hv'
  · intro i e hi
    by_cases hne : i = id
    · subst hne
      rw [upd_same] at hi
      cases hi
      have hL := (hr.toD0 hd).mono hkle
      exact ⟨b, vs, hβ, hL, h1, fun j v hj => by show Kadd _ _ _ _ _ = _; unfold Kadd; rw [if_pos rfl]; exact hj⟩
    · rw [upd_ne _ _ hne] at hi
      have := hh.holds i e hi
      cases e with
      | cells cs =>
        obtain ⟨b', vs2, t', hβi, hheap', hr', h1', hn'⟩ := this
        exact ⟨b', vs2, t', hβi, hheap', hr'.mono hle, h1', fun o => by
          show Kadd _ _ _ _ _ = _
          unfold Kadd; rw [if_neg (fun (e : b' = b) => hne (hh.sep i id b (e ▸ hβi) hβ))]; exact hn' o⟩
      | obj o =>
        obtain ⟨b', hβi, hheap', hn'⟩ := this
        exact ⟨b', hβi, hheap', fun o => by
          show Kadd _ _ _ _ _ = _
          unfold Kadd; rw [if_neg (fun (e : b' = b) => hne (hh.sep i id b (e ▸ hβi) hβ))]; exact hn' o⟩
      | froz ds =>
        obtain ⟨b', vs', hβi, hr', h1', hn'⟩ := this
        exact ⟨b', vs', hβi, hr'.mono hkle, h1', fun j v hj => hkle _ _ _ (hn' j v hj)⟩
      | row e sz n =>
        intro b' hβi
        obtain ⟨cur, hheap', hs, hc, hn'⟩ := this b' hβi
        exact ⟨cur, hheap', hs, hc, fun o ho => by
          show Kadd _ _ _ _ _ = _
          unfold Kadd; rw [if_neg (fun (e : b' = b) => hne (hh.sep i id b (e ▸ hβi) hβ))]; exact hn' o ho⟩
  · intro i hi
    by_cases hne : i = id
    · subst hne; rw [upd_same] at hi; cases hi
    · rw [upd_ne _ _ hne] at hi
      exact hh.dom i hi
/-! box, alloc, store -/
def aBox (H : Hp) (nx : Nat) (x : SV) : Option Res :=
  match H nx with
  | none => match x.cells with
    | some cs => some ⟨.c (.own nx 0), some (nx, .cells cs), [nx], true⟩
    | none => none
  | some _ => none
theorem ok_box {P : Program} {W0 : Fr} {K0 : Know} {g : G} {H : Hp} {w : World} {r : Res} {t : TypeId} {nx : Nat} {x : SV} {v : Value} (hh : RelH W0 K0 g H w) (hx : RepS g H x v) (h : aBox H nx x = some r) :
    RunOk P W0 K0 (vN (Instr.box t v)) g H w r := by
  unfold aBox at h
  split at h
  · rename_i hnx
    split at h
    · rename_i cs hcs
      cases h
      obtain ⟨vs, hv, hr, h1⟩ := SV.cells_rep hx hcs
      obtain ⟨h2, h3⟩ := RelH.box t hh hnx hr h1
      refine ⟨_, .pointer (some ⟨w.heap.size, 0, none⟩), _, _, ?_, .inl rfl, ⟨w.heap.size, upd_same _ _ _, rfl, by simp [hup, upd_same, isRow]⟩, h2, h3⟩
      rw [vN_run]
      simp [Instr.box, newVar, newRow, hv]
    · cases h
  · cases h
def aAlloc (P : Program) (H : Hp) (nx : Nat) (t : TypeId) : Option Res :=
  match H nx with
  | none => match TI P t with
    | some i => if i.zero.all (·.oneCell') then some ⟨.c (.own nx 0), some (nx, .cells (i.zero.map fun v => .d (.val v))), [nx], true⟩ else none
    | none => none
  | some _ => none
theorem vals_rep (g : G) (H : Hp) (vs : List Value) : RepCs g H (vs.map fun v => .d (.val v)) vs :=
  ⟨by simp, fun j x v hx hv => by simp only [List.getElem?_map, hv, Option.map_some, Option.some.injEq] at hx; subst hx; exact Rep.val v⟩
theorem ok_alloc {P : Program} {W0 : Fr} {K0 : Know} {g : G} {H : Hp} {w : World} {r : Res} {t : TypeId} {nx : Nat} (hh : RelH W0 K0 g H w) (h : aAlloc P H nx t = some r) :
    RunOk P W0 K0 (vN (Instr.alloc t true (.tuple #[]))) g H w r := by
  unfold aAlloc at h
  split at h
  · rename_i hnx
    split at h
    · rename_i i hi
      obtain ⟨u, j, z, hu, hj, hz, rfl⟩ := TI_spec hi
      split at h
      · rename_i h1
        cases h
        obtain ⟨h2, h3⟩ := RelH.box (vs := z.cells.toList) t hh hnx (vals_rep g H z.cells.toList) (fun u hu => List.all_eq_true.1 h1 u hu)
        refine ⟨_, .pointer (some ⟨w.heap.size, 0, none⟩), _, _, ?_, .inl rfl, ⟨w.heap.size, upd_same _ _ _, rfl, by simp [hup, upd_same, isRow]⟩, h2, h3⟩
        rw [vN_run]
        simp [Instr.alloc, zeroValue, typeInfo, hj, hz, newVar, newRow]
      · cases h
    · cases h
  · cases h
def splice {α : Type} (cs : List α) (off : Nat) (ys : List α) : List α := cs.take off ++ ys ++ cs.drop (off + ys.length)
def aStore (P : Program) (t : TypeId) (H : Hp) (a x : SV) : Option Res :=
  match a with
  | .c (.own id off) => match H id with
    | some (.cells cs) => match TI P t, x.cells with
      | some i, some ys => if ys.length = i.size ∧ off + ys.length ≤ cs.length then some ⟨.c .any, some (id, .cells (splice cs off ys)), [id], false⟩ else none
      | _, _ => none
    | _ => none
  | _ => none
theorem splice_rep {g : G} {H : Hp} {cs ys : List CV} {vs us : List Value} {off : Nat} (h : RepCs g H cs vs) (hy : RepCs g H ys us) (hl : off + ys.length ≤ cs.length) : RepCs g H (splice cs off ys) (splice vs off us) := by
  have e1 := h.1
  have e2 := hy.1
  refine ⟨by simp [splice]; omega, fun j x v hx hv => ?_⟩
  unfold splice at hx hv
  have t1 : (cs.take off).length = off := by simp; omega
  have t2 : (vs.take off).length = off := by simp; omega
  rw [List.append_assoc] at hx hv
  rcases Nat.lt_or_ge j off with hj | hj
  · rw [List.getElem?_append_left (by omega), List.getElem?_take, if_pos hj] at hx hv
    exact h.2 j x v hx hv
  · rw [List.getElem?_append_right (by omega), t1] at hx
    rw [List.getElem?_append_right (by omega), t2] at hv
    rcases Nat.lt_or_ge (j - off) ys.length with hj2 | hj2
    · rw [List.getElem?_append_left (by omega)] at hx hv
      exact hy.2 _ x v hx hv
    · rw [List.getElem?_append_right (by omega), List.getElem?_drop] at hx hv
      rw [← e2] at hv
      exact h.2 _ x v hx hv
theorem splice_one {vs us : List Value} {off : Nat} (h : ∀ u ∈ vs, u.oneCell' = true) (hy : ∀ u ∈ us, u.oneCell' = true) : ∀ u ∈ splice vs off us, u.oneCell' = true := by
  intro u hu
  simp only [splice, List.mem_append] at hu
  rcases hu with (hu | hu) | hu
  · exact h u (List.mem_of_mem_take hu)
  · exact hy u hu
  · exact h u (List.mem_of_mem_drop hu)
theorem ok_store {P : Program} {W0 : Fr} {K0 : Know} {g : G} {H : Hp} {w : World} {r : Res} {t : TypeId} {a x : SV} {va v : Value} (hh : RelH W0 K0 g H w) (ha : RepS g H a va) (hx : RepS g H x v) (h : aStore P t H a x = some r) :
    RunOk P W0 K0 (do Instr.storeAt t va v; pure .skip) g H w r := by
  unfold aStore at h
  split at h
  · rename_i id off
    split at h
    · rename_i cs hcs
      split at h
      · rename_i i ys hi hys
        obtain ⟨u, j, z, hu, hj, hz, rfl⟩ := TI_spec hi
        split at h
        · rename_i hcond
          obtain ⟨hl1, hl2⟩ := hcond
          have hl1 : ys.length = j.size := hl1
          cases h
          obtain ⟨b, hb, rfl, _⟩ := ha
          obtain ⟨b', vs, t', hb', hheap, hr, h1, hn⟩ := hh.holds id _ hcs
          rw [hb] at hb'; cases hb'
          obtain ⟨us, hvu, hru, h1u⟩ := SV.cells_rep hx hys
          obtain ⟨h2, h3⟩ := RelH.write (vs' := splice vs off us) hh hcs hb hheap hn (splice_rep hr hru hl2) (splice_one h1 h1u)
          refine ⟨_, undef, _, _, ?_, .inr ⟨rfl, rfl⟩, trivial, h2, h3⟩
          have hul := hru.1
          have hvl := hr.1
          have hst := run_storeCells_at P b off t' us 0 vs.toArray w hheap (by simp; omega) h1u
          unfold Instr.storeAt Instr.sureAddr storeVar
          simp only [Sem.run_bind, Sem.run_pure, Result.andThen_ok, run_sizeOf hj, hvu]
          rw [if_neg (by simp; omega)]
          simp only [Nat.add_zero] at hst
          simp [hst, splice]
        · cases h
      · cases h
    · cases h
  · cases h
end Go.Proofs.YticbdcpdooahjaaDoor
