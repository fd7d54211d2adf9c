/- The abstract machine: what may be forgotten; regions that come to one value. -/
import Derived.Test.YticbdcpdooahjaaDoorAbsL
namespace Go.Proofs.YticbdcpdooahjaaDoor
open Go Go.RowKit
set_option linter.unusedVariables false
set_option linter.unusedSimpArgs false
def ofL (L : List (Nat × SV)) : Nat → SV := fun t => match L.lookup t with
  | some x => x
  | none => .c .any
def ofH (M : List (Nat × HE)) : Hp := fun i => M.lookup i
def SV.ids : SV → List Nat
  | .c x => x.ids
  | .agg cs => cs.flatMap CV.ids
def HE.ids : HE → List Nat
  | .cells cs => cs.flatMap CV.ids
  | _ => []
def okIds (L : List (Nat × SV)) (M : List (Nat × HE)) : Bool :=
  (L.all fun p => p.2.ids.all fun i => (M.map (·.1)).contains i) && (M.all fun p => p.2.ids.all fun i => (M.map (·.1)).contains i)
theorem lookup_mem {α : Type} : ∀ {L : List (Nat × α)} {t : Nat} {x : α}, L.lookup t = some x → (t, x) ∈ L
  | (u, y) :: L, t, x, h => by
    simp only [List.lookup_cons] at h
    cases e : (t == u) with
    | true => rw [e] at h; simp at h e; subst h e; simp
    | false => rw [e] at h; exact List.mem_cons_of_mem _ (lookup_mem h)
theorem mem_lookup {α : Type} : ∀ {L : List (Nat × α)} {t : Nat}, t ∈ L.map (·.1) → ∃ x, L.lookup t = some x
  | (u, y) :: L, t, h => by
    simp only [List.lookup_cons]
    cases e : (t == u) with
    | true => exact ⟨y, rfl⟩
    | false =>
      simp only [List.map_cons, List.mem_cons] at h
      have hne : ¬ t = u := by simpa using e
      exact mem_lookup (h.resolve_left hne)
/-- A frame of which just the named slots and boxes are kept. -/
def keepsLent (f : Fx) (M : List (Nat × HE)) : Bool := (f.lent ++ f.dfs).all fun i => (M.map (·.1)).contains i
theorem keepsLent_mem {f : Fx} {i : Nat} {M : List (Nat × HE)} (h : keepsLent f M = true) (hi : i ∈ f.lent ++ f.dfs) : i ∈ M.map (·.1) := by
  have := List.all_eq_true.1 h i hi
  simpa using this
theorem Weak.head {σ : St} {L : List (Nat × SV)} {M : List (Nat × HE)} {nx : Nat} (hL : ∀ p ∈ L, σ.env p.1 = p.2) (hM : ∀ p ∈ M, σ.H p.1 = some p.2) (hid : okIds L M = true) (hln : keepsLent σ.fx M = true) : Weak σ ⟨ofL L, ofH M, nx, σ.sz, σ.fx⟩ := by
  intro W0 K0 g a w r
  simp only [okIds, Bool.and_eq_true] at hid
  have hH : ∀ i, i ∈ M.map (·.1) → ofH M i = σ.H i := fun i hi => by
    obtain ⟨x, hx⟩ := mem_lookup hi
    show M.lookup i = _
    rw [hx, hM _ (lookup_mem hx)]
  let β' : Nat → Option Nat := fun i => if (M.map (·.1)).contains i then g.β i else none
  have hβ : ∀ i, i ∈ M.map (·.1) → β' i = g.β i := fun i hi => by show (if _ then _ else _) = _; rw [if_pos (by simpa using hi)]
  have hβ' : ∀ i b, β' i = some b → i ∈ M.map (·.1) ∧ g.β i = some b := fun i b h => by
    have h : (if (M.map (·.1)).contains i then g.β i else none) = some b := h
    split at h
    · rename_i hc; exact ⟨by simpa using hc, h⟩
    · cases h
  have hrep : ∀ x v, (∀ i ∈ CV.ids x, i ∈ M.map (·.1)) → RepC g σ.H x v → RepC { g with β := β' } (ofH M) x v := by
    intro x v hi h
    cases x with
    | any => trivial
    | d x => exact h
    | full sz xs => exact h
    | own id off =>
      obtain ⟨b, hb, rfl, hr⟩ := h
      have := hi id (by simp [CV.ids])
      exact ⟨b, (hβ id this).trans hb, rfl, by rw [hH id this]; exact hr⟩
    | yld id =>
      obtain ⟨b, hb, hv, hr⟩ := h
      have := hi id (by simp [CV.ids])
      exact ⟨b, (hβ id this).trans hb, hv, by rw [hH id this]; exact hr⟩
    | view id sz off len =>
      obtain ⟨b, c, hb, rfl, hc, hr⟩ := h
      have := hi id (by simp [CV.ids])
      exact ⟨b, c, (hβ id this).trans hb, rfl, hc, by rw [hH id this]; exact hr⟩
    | app τ sz xs =>
      obtain ⟨h1, e, n, hrow, hl, hf⟩ := h
      have := hi τ (by simp [CV.ids])
      refine ⟨h1, e, n, (hH τ this).trans hrow, hl, fun hn => ?_⟩
      rcases hf hn with h2 | ⟨b, hb, hv⟩
      · exact .inl h2
      · exact .inr ⟨b, (hβ τ this).trans hb, hv⟩
    | clo f caps =>
      obtain ⟨vs, hv, hl, hc⟩ := h
      refine ⟨vs, hv, hl, fun j c u hj hu => ?_⟩
      have hcu := hc j c u hj hu
      cases c with
      | d x => exact hcu
      | own id off =>
        obtain ⟨b, hb, hv, hr⟩ := hcu
        have := hi id (List.mem_flatMap.2 ⟨_, List.mem_of_getElem? hj, by simp [Cap.ids]⟩)
        exact ⟨b, (hβ id this).trans hb, hv, by rw [hH id this]; exact hr⟩
  have hreps : ∀ cs vs, (∀ i ∈ cs.flatMap CV.ids, i ∈ M.map (·.1)) → RepCs g σ.H cs vs → RepCs { g with β := β' } (ofH M) cs vs := fun cs vs hi h =>
    ⟨h.1, fun j x v hx hv => hrep x v (fun i hix => hi i (List.mem_flatMap.2 ⟨x, List.mem_of_getElem? hx, hix⟩)) (h.2 j x v hx hv)⟩
  refine ⟨{ g with β := β' }, ⟨r.mem.below, r.mem.ext, r.mem.kw, ?_, ?_, ?_, ?_, ?_, r.mem.glob, ?_⟩, ?_, r.size, ?_, r.ln, r.rd, r.nodup, r.lt⟩
  · intro id he hlk
    have hmem : (id, he) ∈ M := lookup_mem hlk
    have hid2 : id ∈ M.map (·.1) := List.mem_map.2 ⟨_, hmem, rfl⟩
    have hold := r.mem.holds id he (hM _ hmem)
    have hids : ∀ i ∈ he.ids, i ∈ M.map (·.1) := fun i hi => by
      have := List.all_eq_true.1 (List.all_eq_true.1 hid.2 _ hmem) i hi
      simpa using this
    cases he with
    | cells cs =>
      obtain ⟨b, vs, t, hb, hheap, hr, h1, hn⟩ := hold
      exact ⟨b, vs, t, (hβ id hid2).trans hb, hheap, hreps cs vs hids hr, h1, hn⟩
    | obj o =>
      obtain ⟨b, hb, hheap, hn⟩ := hold
      exact ⟨b, (hβ id hid2).trans hb, hheap, hn⟩
    | froz ds =>
      obtain ⟨b, vs, hb, hr⟩ := hold
      exact ⟨b, vs, (hβ id hid2).trans hb, hr⟩
    | row e sz n =>
      intro b hb
      exact hold b ((hβ id hid2).symm.trans hb)
  · intro id b hb; exact r.mem.base id b (hβ' id b hb).2
  · intro id hn
    show (if (M.map (·.1)).contains id then g.β id else none) = none
    split
    · rename_i hc
      obtain ⟨x, hx⟩ := mem_lookup (L := M) (t := id) (by simpa using hc)
      have hn : M.lookup id = none := hn
      rw [hx] at hn; cases hn
    · rfl
  · intro i j b hi hj; exact r.mem.sep i j b (hβ' i b hi).2 (hβ' j b hj).2
  · intro i b hi; exact r.mem.frozlt i b (hβ' i b hi).2
  · intro x v hi hx
    exact hrep x v (fun i hix => keepsLent_mem hln (List.mem_append_left _ (by have := hi i hix; rw [r.ln] at this; exact this))) (r.mem.lent x v hi hx)
  · intro t
    show RepS _ _ (ofL L t) _
    unfold ofL
    cases hlk : L.lookup t with
    | none => trivial
    | some x =>
      have hmem : (t, x) ∈ L := lookup_mem hlk
      have hids : ∀ i ∈ x.ids, i ∈ M.map (·.1) := fun i hi => by
        have := List.all_eq_true.1 (List.all_eq_true.1 hid.1 _ hmem) i hi
        simpa using this
      have he := r.env t
      rw [hL _ hmem] at he
      cases x with
      | c x => exact hrep x _ hids he
      | agg cs =>
        obtain ⟨vs, hv, hr, h1⟩ := he
        exact ⟨vs, hv, hreps cs vs hids hr, h1⟩
  · show DefsRel { g with β := β' } (ofH M) σ.fx.dfs a.defers
    have hmem : ∀ i ∈ σ.fx.dfs, i ∈ M.map (·.1) := fun i hi => keepsLent_mem hln (List.mem_append_right _ hi)
    have hd := r.defers
    generalize σ.fx.dfs = l at hd hmem
    generalize a.defers = ds at hd
    induction l generalizing ds with
    | nil => cases ds with
      | nil => trivial
      | cons _ _ => exact hd.elim
    | cons i l ih => cases ds with
      | nil => exact hd.elim
      | cons d ds =>
        obtain ⟨⟨b, hb, e⟩, h2, h3⟩ := hd
        exact ⟨⟨b, (hβ i (hmem i (by simp))).trans hb, e⟩, (hH i (hmem i (by simp))).trans h2, ih (fun j hj => hmem j (by simp [hj])) ds h3⟩
def eqL (env : Nat → SV) : List (Nat × SV) → Prop
  | [] => True
  | (t, x) :: L => env t = x ∧ eqL env L
def eqH (H : Hp) : List (Nat × HE) → Prop
  | [] => True
  | (i, x) :: L => H i = some x ∧ eqH H L
theorem eqL_mem {env : Nat → SV} : ∀ {L : List (Nat × SV)}, eqL env L → ∀ p ∈ L, env p.1 = p.2
  | (t, x) :: L, h, p, hp => by
    rcases List.mem_cons.1 hp with rfl | hp
    · exact h.1
    · exact eqL_mem h.2 p hp
theorem eqH_mem {H : Hp} : ∀ {L : List (Nat × HE)}, eqH H L → ∀ p ∈ L, H p.1 = some p.2
  | (t, x) :: L, h, p, hp => by
    rcases List.mem_cons.1 hp with rfl | hp
    · exact h.1
    · exact eqH_mem h.2 p hp
theorem Weak.keep {σ : St} {L : List (Nat × SV)} {M : List (Nat × HE)} {nx n : Nat} {ln : Fx} (hn : (n, ln) = (σ.sz, σ.fx)) (hid : (okIds L M && keepsLent ln M) = true) (h : eqL σ.env L ∧ eqH σ.H M) : Weak σ ⟨ofL L, ofH M, nx, n, ln⟩ := by
  simp only [Prod.mk.injEq] at hn
  obtain ⟨rfl, rfl⟩ := hn
  simp only [Bool.and_eq_true] at hid
  exact Weak.head (eqL_mem h.1) (eqH_mem h.2) hid.1 hid.2
theorem Weak.freeze {σ : St} {id : Nat} {cs : List CV} {ds : List D} (hid : σ.H id = some (.cells cs)) (hd : mapO CV.toD0 cs = some ds) : Weak σ { σ with H := upd σ.H id (some (.froz ds)) } := by
  intro W0 K0 g a w r
  obtain ⟨g', h1, h2⟩ := r.mem.freeze hid hd
  exact ⟨g', h1, fun t => (r.env t).mono h2, r.size, r.defers.mono h2 (fun i o hi => by rw [upd_ne _ _ (fun e => by subst e; rw [hid] at hi; cases hi)]; exact hi), r.ln, r.rd, r.nodup, r.lt⟩
/-- A token that nobody has yet. -/
theorem Weak.tok {σ : St} {τ : Nat} (e sz n : Nat) (hτ : σ.H τ = none) : Weak σ { σ with H := upd σ.H τ (some (.row e sz n)) } := by
  intro W0 K0 g a w r
  have hβ : g.β τ = none := r.mem.dom τ hτ
  have hle : GLe g σ.H g (upd σ.H τ (some (.row e sz n))) := by
    intro x v h
    cases x with
    | own i off =>
      obtain ⟨b, hb, rfl, hnr⟩ := h
      have hne : i ≠ τ := fun e => by subst e; rw [hβ] at hb; cases hb
      exact ⟨b, hb, rfl, by rw [upd_ne _ _ hne]; exact hnr⟩
    | view i s off len =>
      obtain ⟨b, c, hb, rfl, hc, hnr⟩ := h
      have hne : i ≠ τ := fun e => by subst e; rw [hβ] at hb; cases hb
      exact ⟨b, c, hb, rfl, hc, by rw [upd_ne _ _ hne]; exact hnr⟩
    | clo f caps => exact clo_mono h (KLe.refl _) (fun i off v ⟨b, hb, hv, hnr⟩ => ⟨b, hb, hv, by rw [upd_ne _ _ (fun e => by subst e; rw [hβ] at hb; cases hb)]; exact hnr⟩)
    | yld i => exact yld_mono h (fun i off v ⟨b, hb, hv, hnr⟩ => ⟨b, hb, hv, by rw [upd_ne _ _ (fun e => by subst e; rw [hβ] at hb; cases hb)]; exact hnr⟩)
    | app i s xs' =>
      obtain ⟨r1, e', n, hrow, hl, hf⟩ := h
      have hne : i ≠ τ := fun e => by subst e; rw [hτ] at hrow; cases hrow
      exact ⟨r1, e', n, by rw [upd_ne _ _ hne]; exact hrow, hl, hf⟩
    | _ => exact h
  refine ⟨g, ⟨r.mem.below, r.mem.ext, r.mem.kw, fun i he hi => ?_, r.mem.base, fun i hi => ?_, r.mem.sep, r.mem.frozlt, r.mem.glob, r.mem.lent.trans hle⟩, fun t => (r.env t).mono hle, r.size, r.defers.mono hle (fun i o hi => by rw [show (upd σ.H τ (some (HE.row e sz n))) i = σ.H i from upd_ne _ _ (fun e => by subst e; rw [hτ] at hi; cases hi)]; exact hi), r.ln, r.rd, r.nodup, r.lt⟩
  · by_cases hne : i = τ
    · subst hne
      have hi : upd σ.H i (some (HE.row e sz n)) i = some he := hi
      rw [upd_same] at hi; cases hi
      intro b hb; rw [hβ] at hb; cases hb
    · have hi : upd σ.H τ (some (HE.row e sz n)) i = some he := hi
      rw [upd_ne _ _ hne] at hi
      have := r.mem.holds i he hi
      cases he with
      | cells cs =>
        obtain ⟨b, vs, t, h1, h2, h3, h4⟩ := this
        exact ⟨b, vs, t, h1, h2, h3.mono hle, h4⟩
      | obj o => exact this
      | froz ds => exact this
      | row e s n => exact this
  · by_cases hne : i = τ
    · subst hne
      have hi : upd σ.H i (some (HE.row e sz n)) i = none := hi
      rw [upd_same] at hi; cases hi
    · have hi : upd σ.H τ (some (HE.row e sz n)) i = none := hi
      rw [upd_ne _ _ hne] at hi; exact r.mem.dom i hi
/-- A nil or full list becomes one to which one may append. -/
theorem tok_conv {g : G} {H : Hp} {τ e sz n : Nat} {x : CV} {xs : List (List D)} (hτ : H τ = some (.row e sz n)) (hx : (x = .d (.val (.slice none 0 0)) ∧ xs = []) ∨ x = .full sz xs) (hn : n = xs.length) (v : Value) (h : RepC g H x v) : RepC g H (.app τ sz xs) v := by
  subst hn
  rcases hx with ⟨rfl, rfl⟩ | rfl
  · have h : Rep g.K (.val (.slice none 0 0)) v := h
    cases h
    exact ⟨rep_nil _ _, e, _, hτ, Nat.le_refl _, fun _ => .inl ⟨none, rfl⟩⟩
  · exact ⟨h.1, e, _, hτ, Nat.le_refl _, fun _ => .inl h.2⟩
theorem Weak.slot {σ : St} {t : Nat} {x y : SV} (ht : σ.env t = x) (hxy : ∀ g v, RepS g σ.H x v → RepS g σ.H y v) : Weak σ { σ with env := upd σ.env t y } := by
  intro W0 K0 g a w r
  refine ⟨g, r.mem, fun u => ?_, r.size, r.defers, r.ln, r.rd, r.nodup, r.lt⟩
  show RepS g σ.H (upd σ.env t y u) _
  by_cases h : u = t
  · subst h; rw [upd_same]; exact hxy g _ (ht ▸ r.env u)
  · rw [upd_ne _ _ h]; exact r.env u
theorem Weak.cellAt {σ : St} {id k : Nat} {cs : List CV} {x y : CV} (hid : σ.H id = some (.cells cs)) (hk : cs[k]? = some x) (hxy : ∀ g v, RepC g σ.H x v → RepC g σ.H y v) : Weak σ { σ with H := upd σ.H id (some (.cells (cs.set k y))) } := by
  intro W0 K0 g a w r
  obtain ⟨b, vs, t, hb, hheap, hr, h1, hn⟩ := r.mem.holds id _ hid
  have hr' : RepCs g σ.H (cs.set k y) vs := by
    refine ⟨by simp [hr.1], fun j z v hz hv => ?_⟩
    rw [List.getElem?_set] at hz
    split at hz
    · rename_i e
      subst e
      split at hz
      · cases hz; exact hxy g v (hr.2 k x v hk hv)
      · cases hz
    · exact hr.2 j z v hz hv
  have hle : GLe g σ.H g (upd σ.H id (some (.cells (cs.set k y)))) := GLe.box (by rw [hid]; rfl) rfl
  refine ⟨g, ⟨r.mem.below, r.mem.ext, r.mem.kw, fun i he hi => ?_, r.mem.base, fun i hi => ?_, r.mem.sep, r.mem.frozlt, r.mem.glob, r.mem.lent.trans hle⟩, fun t => (r.env t).mono hle, r.size, r.defers.mono hle (fun i o hi => by rw [show (upd σ.H id (some (HE.cells (cs.set k y)))) i = σ.H i from upd_ne _ _ (fun e => by subst e; rw [hid] at hi; cases hi)]; exact hi), r.ln, r.rd, r.nodup, r.lt⟩
  · have hi : upd σ.H id (some (HE.cells (cs.set k y))) i = some he := hi
    by_cases hne : i = id
    · subst hne
      rw [upd_same] at hi; cases hi
      exact ⟨b, vs, t, hb, hheap, hr'.mono hle, h1, hn⟩
    · rw [upd_ne _ _ hne] at hi
      have := r.mem.holds i he hi
      cases he with
      | cells cs =>
        obtain ⟨b, vs, t, h1, h2, h3, h4⟩ := this
        exact ⟨b, vs, t, h1, h2, h3.mono hle, h4⟩
      | obj o => exact this
      | froz ds => exact this
      | row e s n => exact this
  · have hi : upd σ.H id (some (HE.cells (cs.set k y))) i = none := hi
    by_cases hne : i = id
    · subst hne; rw [upd_same] at hi; cases hi
    · rw [upd_ne _ _ hne] at hi; exact r.mem.dom i hi
/-! regions that come to one value -/
def dsts (l : List Oper) : List Nat := l.filterMap (·.dst)
theorem aops_mono {P : Program} {all : List Oper} : ∀ {l : List Oper} {σ : St} {tr : List Foot} {k k' : St → List Foot → Prop}, aops P all l σ tr k → (∀ σ' tr', k σ' tr' → (∀ t, t ∉ dsts l → σ'.env t = σ.env t) → (σ'.sz = σ.sz ∧ σ'.fx = σ.fx) → k' σ' tr') → aops P all l σ tr k'
  | [], σ, tr, k, k', h, hk => hk _ _ h (fun _ _ => rfl) ⟨rfl, rfl⟩
  | o :: os, σ, tr, k, k', h, hk => by
    have hput : ∀ (x : SV) t, t ∉ dsts (o :: os) → putE σ.env o.dst x t = σ.env t ∧ t ∉ dsts os := fun x t ht => by
      cases hd : o.dst with
      | none => exact ⟨rfl, fun h => ht (by simp only [dsts, List.filterMap_cons, hd]; exact h)⟩
      | some d =>
        simp only [dsts, List.filterMap_cons, hd, List.mem_cons, not_or] at ht
        exact ⟨upd_ne _ _ ht.1, ht.2⟩
    simp only [aops] at h ⊢
    split at h
    · exact h.elim
    · rename_i t ht
      refine ⟨fun e => ?_, fun e => ?_⟩
      · obtain ⟨r, hr1, hd, hrest⟩ := astep_get (h.1 e)
        have := aops_mono (k' := k') hrest (fun σ' tr' hk' he hs => hk σ' tr' hk' (fun t ht => (he t (hput r.v t ht).2).trans (hput r.v t ht).1) hs)
        exact astep_put hr1 ⟨hd, this⟩
      · obtain ⟨hd, hrest⟩ := h.2 e
        exact ⟨hd, aops_mono hrest (fun σ' tr' hk' he hs => hk σ' tr' hk' (fun t ht => (he t (hput (.c .any) t ht).2).trans (hput (.c (.d (.val undef))) t ht).1) hs)⟩
def forget (l : List Nat) (env : Nat → SV) : Nat → SV := fun t => if l.contains t then .c .any else env t
theorem Weak.to {σ σ' : St} {l : List Nat} {d : Nat} {v : SV} (he : ∀ t, t ∉ l → σ'.env t = σ.env t) (hs : σ'.sz = σ.sz ∧ σ'.fx = σ.fx) (hd : σ'.env d = v) (hH : σ'.H = σ.H) : Weak σ' ⟨upd (forget l σ.env) d v, σ.H, σ.nx, σ.sz, σ.fx⟩ := by
  intro W0 K0 g a w r
  refine ⟨g, hH ▸ r.mem, fun t => ?_, by rw [r.size]; exact hs.1, by show DefsRel g σ.H σ.fx.dfs a.defers; rw [← hH, ← hs.2]; exact r.defers, by rw [r.ln, hs.2], by rw [r.rd, hs.2], by show σ.fx.dfs.Nodup; rw [← hs.2]; exact r.nodup, by show ∀ q, σ.fx.lt = some q → _; rw [← hs.2]; exact r.lt⟩
  show RepS g σ.H (upd (forget l σ.env) d v t) _
  rw [← hH]
  by_cases h : t = d
  · subst h; rw [upd_same, ← hd]; exact r.env t
  · rw [upd_ne _ _ h]
    unfold forget
    split
    · trivial
    · rename_i hn
      rw [← he t (by simpa using hn)]; exact r.env t
section
variable {P : Program} {σ : St} {Q : Exit → St → Prop}
/-- The region comes to v in slot d; its other slots are forgotten. -/
theorem Wp.seqTo {id : Nat} {all : List Oper} {y : Code} (d : Nat) (v : SV) (h : aops P all all σ [] (fun σ' _ => σ'.env d = v ∧ σ'.H = σ.H)) (hy : Wp P y ⟨upd (forget (dsts all) σ.env) d v, σ.H, σ.nx, σ.sz, σ.fx⟩ Q) : Wp P (.seq (.region id all.toArray false) y) σ Q :=
  Wp.seqRegion (fun K hK => aops_mono h (fun σ' _ hk he hs => hK σ' (Wp.weak (Weak.to he hs hk.1 hk.2) hy)))
theorem Wp.seqToD {id : Nat} {all : List Oper} {y : Code} (d : Nat) (v : SV) (hm : P.follows .mixedOrders = true) (h : aops P all all σ [] (fun σ' tr => okTr all tr = true ∧ σ'.env d = v ∧ σ'.H = σ.H)) (hy : Wp P y ⟨upd (forget (dsts all) σ.env) d v, σ.H, σ.nx, σ.sz, σ.fx⟩ Q) : Wp P (.seq (.region id all.toArray true) y) σ Q :=
  Wp.seqDrawn hm (fun K hK => aops_mono h (fun σ' _ hk he hs => ⟨hk.1, hK σ' (Wp.weak (Weak.to he hs hk.2.1 hk.2.2) hy)⟩))
/-- Ways that meet again. -/
theorem Wp.meet {x y : Code} (σc : St) (h : Wp P x σ (thenQ (fun σ' => Weak σ' σc) Q)) (hy : Wp P y σc Q) : Wp P (.seq x y) σ Q :=
  Wp.seq (h.mono (fun e σ' hq => by
    cases e with
    | normal => exact Wp.weak hq hy
    | _ => exact hq))
end
end Go.Proofs.YticbdcpdooahjaaDoor
