/- The abstract machine (AbsM, AbsN, AbsS, Run, AbsP, AbsR). -/
import Derived.Test.YtafipkbffboebaaDoorMacL
import Derived.IntWalk
import Derived.Laws.Strings
namespace Go.Proofs.YtafipkbffboebaaDoor
open Go Go.RowKit
set_option linter.unusedVariables false
set_option linter.unusedSimpArgs false
def ofL (L : List (Nat × SV)) : Nat → SV := fun t => match L.lookup t with
  | some x => x
  | none => .c .any
def ofH (M : List (Nat × HE)) : Hp := fun i => M.lookup i
def SV.ids : SV → List Nat
  | .c x => x.ids
  | .agg cs => cs.flatMap CV.ids
def HE.ids : HE → List Nat
  | .cells cs => cs.flatMap CV.ids
  | .mrow _ _ _ cs => cs.flatMap CV.ids
  | .ob cs _ => cs.flatMap CV.ids
  | _ => []
def okIds (L : List (Nat × SV)) (M : List (Nat × HE)) : Bool :=
  (L.all fun p => p.2.ids.all fun i => (M.map (·.1)).contains i) && (M.all fun p => p.2.ids.all fun i => (M.map (·.1)).contains i)
theorem lookup_mem {α : Type} : ∀ {L : List (Nat × α)} {t : Nat} {x : α}, L.lookup t = some x → (t, x) ∈ L
  | (u, y) :: L, t, x, h => by
    simp only [List.lookup_cons] at h
    cases e : (t == u) with
    | true => rw [e] at h; simp at h e; subst h e; simp
    | false => rw [e] at h; exact List.mem_cons_of_mem _ (lookup_mem h)
theorem mem_lookup {α : Type} : ∀ {L : List (Nat × α)} {t : Nat}, t ∈ L.map (·.1) → ∃ x, L.lookup t = some x
  | (u, y) :: L, t, h => by
    simp only [List.lookup_cons]
    cases e : (t == u) with
    | true => exact ⟨y, rfl⟩
    | false =>
      simp only [List.map_cons, List.mem_cons] at h
      have hne : ¬ t = u := by simpa using e
      exact mem_lookup (h.resolve_left hne)
/-- A frame of which just the named slots and boxes are kept. -/
def keepsLent (f : Fx) (M : List (Nat × HE)) : Bool := (f.lent ++ f.dfs).all fun i => (M.map (·.1)).contains i
theorem keepsLent_mem {f : Fx} {i : Nat} {M : List (Nat × HE)} (h : keepsLent f M = true) (hi : i ∈ f.lent ++ f.dfs) : i ∈ M.map (·.1) := by
  have := List.all_eq_true.1 h i hi
  simpa using this
theorem Weak.head {σ : St} {L : List (Nat × SV)} {M : List (Nat × HE)} {nx : Nat} (hL : ∀ p ∈ L, σ.env p.1 = p.2) (hM : ∀ p ∈ M, σ.H p.1 = some p.2) (hid : okIds L M = true) (hln : keepsLent σ.fx M = true) : Weak σ ⟨ofL L, ofH M, nx, σ.sz, σ.fx⟩ := by
  intro W0 K0 g a w r
  simp only [okIds, Bool.and_eq_true] at hid
  have hH : ∀ i, i ∈ M.map (·.1) → ofH M i = σ.H i := fun i hi => by
    obtain ⟨x, hx⟩ := mem_lookup hi
    show M.lookup i = _
    rw [hx, hM _ (lookup_mem hx)]
  let β' : Nat → Option Nat := fun i => if (M.map (·.1)).contains i then g.β i else none
  have hβ : ∀ i, i ∈ M.map (·.1) → β' i = g.β i := fun i hi => by show (if _ then _ else _) = _; rw [if_pos (by simpa using hi)]
  have hβ' : ∀ i b, β' i = some b → i ∈ M.map (·.1) ∧ g.β i = some b := fun i b h => by
    have h : (if (M.map (·.1)).contains i then g.β i else none) = some b := h
    split at h
    · rename_i hc; exact ⟨by simpa using hc, h⟩
    · cases h
  have hrep : ∀ x v, (∀ i ∈ CV.ids x, i ∈ M.map (·.1)) → RepC g σ.H x v → RepC { g with β := β' } (ofH M) x v := by
    intro x v hi h
    cases x with
    | any => trivial
    | d x => exact h
    | full sz xs => exact h
    | own id off =>
      obtain ⟨b, hb, rfl, hr⟩ := h
      have := hi id (by simp [CV.ids])
      exact ⟨b, (hβ id this).trans hb, rfl, by rw [hH id this]; exact hr⟩
    | yld id =>
      obtain ⟨b, hb, hv, hr⟩ := h
      have := hi id (by simp [CV.ids])
      exact ⟨b, (hβ id this).trans hb, hv, by rw [hH id this]; exact hr⟩
    | mt τ k =>
      obtain ⟨q1, e, sz, n, cs, hm, hk, q2⟩ := h
      have := hi τ (by simp [CV.ids])
      exact ⟨q1, e, sz, n, cs, by rw [hH τ this]; exact hm, hk, fun hn => by
        rcases q2 hn with ⟨b, hb, hv⟩ | ⟨hb, hc, hv⟩
        · exact .inl ⟨b, (hβ τ this).trans hb, hv⟩
        · exact .inr ⟨(hβ τ this).trans hb, hc, hv⟩⟩
    | mpt τ k o =>
      obtain ⟨q1, e, sz, n, cs, hm, hk, q2⟩ := h
      have := hi τ (by simp [CV.ids])
      exact ⟨q1, e, sz, n, cs, by rw [hH τ this]; exact hm, hk, fun hn => by
        obtain ⟨b, hb, hv⟩ := q2 hn
        exact ⟨b, (hβ τ this).trans hb, hv⟩⟩
    | mp id =>
      obtain ⟨b, hb, hv, hr⟩ := h
      have := hi id (by simp [CV.ids])
      exact ⟨b, (hβ id this).trans hb, hv, by rw [hH id this]; exact hr⟩
    | view id sz off len =>
      obtain ⟨b, c, hb, rfl, hc, hr⟩ := h
      have := hi id (by simp [CV.ids])
      exact ⟨b, c, (hβ id this).trans hb, rfl, hc, by rw [hH id this]; exact hr⟩
    | app τ sz xs =>
      obtain ⟨h1, e, n, hrow, hl, hf⟩ := h
      have := hi τ (by simp [CV.ids])
      refine ⟨h1, e, n, (hH τ this).trans hrow, hl, fun hn => ?_⟩
      rcases hf hn with h2 | ⟨b, hb, hv⟩
      · exact .inl h2
      · exact .inr ⟨b, (hβ τ this).trans hb, hv⟩
    | clo f caps =>
      obtain ⟨vs, hv, hl, hc⟩ := h
      refine ⟨vs, hv, hl, fun j c u hj hu => ?_⟩
      have hcu := hc j c u hj hu
      cases c with
      | d x => exact hcu
      | own id off =>
        obtain ⟨b, hb, hv, hr⟩ := hcu
        have := hi id (List.mem_flatMap.2 ⟨_, List.mem_of_getElem? hj, by simp [Cap.ids]⟩)
        exact ⟨b, (hβ id this).trans hb, hv, by rw [hH id this]; exact hr⟩
    | bnd f caps =>
      obtain ⟨vs, hv, hl, hc⟩ := h
      refine ⟨vs, hv, hl, fun j c u hj hu => ?_⟩
      have hcu := hc j c u hj hu
      cases c with
      | d x => exact hcu
      | own id off =>
        obtain ⟨b, hb, hv, hr⟩ := hcu
        have := hi id (List.mem_flatMap.2 ⟨_, List.mem_of_getElem? hj, by simp [Cap.ids]⟩)
        exact ⟨b, (hβ id this).trans hb, hv, by rw [hH id this]; exact hr⟩
  have hreps : ∀ cs vs, (∀ i ∈ cs.flatMap CV.ids, i ∈ M.map (·.1)) → RepCs g σ.H cs vs → RepCs { g with β := β' } (ofH M) cs vs := fun cs vs hi h =>
    ⟨h.1, fun j x v hx hv => hrep x v (fun i hix => hi i (List.mem_flatMap.2 ⟨x, List.mem_of_getElem? hx, hix⟩)) (h.2 j x v hx hv)⟩
  refine ⟨{ g with β := β' }, ⟨r.mem.below, r.mem.ext, r.mem.kw, ?_, ?_, ?_, ?_, ?_, r.mem.glob, ?_⟩, ?_, r.size, ?_, r.ln, r.rd, r.nodup, r.lt⟩
  · intro id he hlk
    have hmem : (id, he) ∈ M := lookup_mem hlk
    have hid2 : id ∈ M.map (·.1) := List.mem_map.2 ⟨_, hmem, rfl⟩
    have hold := r.mem.holds id he (hM _ hmem)
    have hids : ∀ i ∈ he.ids, i ∈ M.map (·.1) := fun i hi => by
      have := List.all_eq_true.1 (List.all_eq_true.1 hid.2 _ hmem) i hi
      simpa using this
    cases he with
    | cells cs =>
      obtain ⟨b, vs, t, hb, hheap, hr, h1, hn⟩ := hold
      exact ⟨b, vs, t, (hβ id hid2).trans hb, hheap, hreps cs vs hids hr, h1, hn⟩
    | obj o =>
      obtain ⟨b, hb, hheap, hn⟩ := hold
      exact ⟨b, (hβ id hid2).trans hb, hheap, hn⟩
    | froz ds =>
      obtain ⟨b, vs, hb, hr⟩ := hold
      exact ⟨b, vs, (hβ id hid2).trans hb, hr⟩
    | mrow e sz n cs =>
      obtain ⟨p1, p2, p3⟩ := hold
      refine ⟨p1, p2, ?_⟩
      rcases p3 with ⟨p4, p5⟩ | ⟨b, cur, vs, rest, p4, p5, p6, p7, p8, p9, p10⟩
      · exact .inl ⟨(hβ id hid2).trans p4, p5⟩
      · exact .inr ⟨b, cur, vs, rest, (hβ id hid2).trans p4, p5, p6, p7, hreps cs vs hids p8, p9, p10⟩
    | ob cs p =>
      obtain ⟨b, vs, o, p4, p5, p6, p7, p8⟩ := hold
      exact ⟨b, vs, o, (hβ id hid2).trans p4, p5, hreps cs vs hids p6, p7, p8⟩
    | row e sz n =>
      intro b hb
      exact hold b ((hβ id hid2).symm.trans hb)
  · intro id b hb; exact r.mem.base id b (hβ' id b hb).2
  · intro id hn
    show (if (M.map (·.1)).contains id then g.β id else none) = none
    split
    · rename_i hc
      obtain ⟨x, hx⟩ := mem_lookup (L := M) (t := id) (by simpa using hc)
      have hn : M.lookup id = none := hn
      rw [hx] at hn; cases hn
    · rfl
  · intro i j b hi hj; exact r.mem.sep i j b (hβ' i b hi).2 (hβ' j b hj).2
  · intro i b hi; exact r.mem.frozlt i b (hβ' i b hi).2
  · intro x v hi hx
    exact hrep x v (fun i hix => keepsLent_mem hln (List.mem_append_left _ (by have := hi i hix; rw [r.ln] at this; exact this))) (r.mem.lent x v hi hx)
  · intro t
    show RepS _ _ (ofL L t) _
    unfold ofL
    cases hlk : L.lookup t with
    | none => trivial
    | some x =>
      have hmem : (t, x) ∈ L := lookup_mem hlk
      have hids : ∀ i ∈ x.ids, i ∈ M.map (·.1) := fun i hi => by
        have := List.all_eq_true.1 (List.all_eq_true.1 hid.1 _ hmem) i hi
        simpa using this
      have he := r.env t
      rw [hL _ hmem] at he
      cases x with
      | c x => exact hrep x _ hids he
      | agg cs =>
        obtain ⟨vs, hv, hr, h1⟩ := he
        exact ⟨vs, hv, hreps cs vs hids hr, h1⟩
  · show DefsRel { g with β := β' } (ofH M) σ.fx.dfs a.defers
    have hmem : ∀ i ∈ σ.fx.dfs, i ∈ M.map (·.1) := fun i hi => keepsLent_mem hln (List.mem_append_right _ hi)
    have hd := r.defers
    generalize σ.fx.dfs = l at hd hmem
    generalize a.defers = ds at hd
    induction l generalizing ds with
    | nil => cases ds with
      | nil => trivial
      | cons _ _ => exact hd.elim
    | cons i l ih => cases ds with
      | nil => exact hd.elim
      | cons d ds =>
        obtain ⟨⟨b, hb, e⟩, h2, h3⟩ := hd
        exact ⟨⟨b, (hβ i (hmem i (by simp))).trans hb, e⟩, (hH i (hmem i (by simp))).trans h2, ih (fun j hj => hmem j (by simp [hj])) ds h3⟩
def eqL (env : Nat → SV) : List (Nat × SV) → Prop
  | [] => True
  | (t, x) :: L => env t = x ∧ eqL env L
def eqH (H : Hp) : List (Nat × HE) → Prop
  | [] => True
  | (i, x) :: L => H i = some x ∧ eqH H L
theorem eqL_mem {env : Nat → SV} : ∀ {L : List (Nat × SV)}, eqL env L → ∀ p ∈ L, env p.1 = p.2
  | (t, x) :: L, h, p, hp => by
    rcases List.mem_cons.1 hp with rfl | hp
    · exact h.1
    · exact eqL_mem h.2 p hp
theorem eqH_mem {H : Hp} : ∀ {L : List (Nat × HE)}, eqH H L → ∀ p ∈ L, H p.1 = some p.2
  | (t, x) :: L, h, p, hp => by
    rcases List.mem_cons.1 hp with rfl | hp
    · exact h.1
    · exact eqH_mem h.2 p hp
theorem Weak.keep {σ : St} {L : List (Nat × SV)} {M : List (Nat × HE)} {nx n : Nat} {ln : Fx} (hn : (n, ln) = (σ.sz, σ.fx)) (hid : (okIds L M && keepsLent ln M) = true) (h : eqL σ.env L ∧ eqH σ.H M) : Weak σ ⟨ofL L, ofH M, nx, n, ln⟩ := by
  simp only [Prod.mk.injEq] at hn
  obtain ⟨rfl, rfl⟩ := hn
  simp only [Bool.and_eq_true] at hid
  exact Weak.head (eqL_mem h.1) (eqH_mem h.2) hid.1 hid.2
theorem Weak.freeze {σ : St} {id : Nat} {cs : List CV} {ds : List D} (hid : σ.H id = some (.cells cs)) (hd : mapO CV.toD0 cs = some ds) : Weak σ { σ with H := upd σ.H id (some (.froz ds)) } := by
  intro W0 K0 g a w r
  obtain ⟨g', h1, h2⟩ := r.mem.freeze hid hd
  exact ⟨g', h1, fun t => (r.env t).mono h2, r.size, r.defers.mono h2 (fun i o hi => by rw [upd_ne _ _ (fun e => by subst e; rw [hid] at hi; cases hi)]; exact hi), r.ln, r.rd, r.nodup, r.lt⟩
/-- A token that nobody has yet. -/
theorem Weak.tok {σ : St} {τ : Nat} (e sz n : Nat) (hτ : σ.H τ = none) : Weak σ { σ with H := upd σ.H τ (some (.row e sz n)) } := by
  intro W0 K0 g a w r
  have hβ : g.β τ = none := r.mem.dom τ hτ
  have hle : GLe g σ.H g (upd σ.H τ (some (.row e sz n))) := by
    intro x v h
    cases x with
    | own i off =>
      obtain ⟨b, hb, rfl, hnr⟩ := h
      have hne : i ≠ τ := fun e => by subst e; rw [hβ] at hb; cases hb
      exact ⟨b, hb, rfl, by rw [upd_ne _ _ hne]; exact hnr⟩
    | view i s off len =>
      obtain ⟨b, c, hb, rfl, hc, hnr⟩ := h
      have hne : i ≠ τ := fun e => by subst e; rw [hβ] at hb; cases hb
      exact ⟨b, c, hb, rfl, hc, by rw [upd_ne _ _ hne]; exact hnr⟩
    | clo f caps => exact clo_mono h (KLe.refl _) (fun i off v ⟨b, hb, hv, hnr⟩ => ⟨b, hb, hv, by rw [upd_ne _ _ (fun e => by subst e; rw [hβ] at hb; cases hb)]; exact hnr⟩)
    | bnd f caps => exact bnd_mono h (KLe.refl _) (fun i off v ⟨b, hb, hv, hnr⟩ => ⟨b, hb, hv, by rw [upd_ne _ _ (fun e => by subst e; rw [hβ] at hb; cases hb)]; exact hnr⟩)
    | yld i => exact yld_mono h (fun i off v ⟨b, hb, hv, hnr⟩ => ⟨b, hb, hv, by rw [upd_ne _ _ (fun e => by subst e; rw [hβ] at hb; cases hb)]; exact hnr⟩)
    | mp i => exact mp_mono h (fun i off v ⟨b, hb, hv, hnr⟩ => ⟨b, hb, hv, by rw [upd_ne _ _ (fun e => by subst e; rw [hβ] at hb; cases hb)]; exact hnr⟩)
    | mt i k => exact mut_same (MLe.upd (fun _ _ _ _ h => by rw [hτ] at h; cases h) (fun _ _ => rfl) (fun _ _ => rfl)) h
    | mpt i k o => exact mpt_same (MLe.upd (fun _ _ _ _ h => by rw [hτ] at h; cases h) (fun _ _ => rfl) (fun _ _ => rfl)) h
    | app i s xs' =>
      obtain ⟨r1, e', n, hrow, hl, hf⟩ := h
      have hne : i ≠ τ := fun e => by subst e; rw [hτ] at hrow; cases hrow
      exact ⟨r1, e', n, by rw [upd_ne _ _ hne]; exact hrow, hl, hf⟩
    | _ => exact h
  refine ⟨g, ⟨r.mem.below, r.mem.ext, r.mem.kw, fun i he hi => ?_, r.mem.base, fun i hi => ?_, r.mem.sep, r.mem.frozlt, r.mem.glob, r.mem.lent.trans hle⟩, fun t => (r.env t).mono hle, r.size, r.defers.mono hle (fun i o hi => by rw [show (upd σ.H τ (some (HE.row e sz n))) i = σ.H i from upd_ne _ _ (fun e => by subst e; rw [hτ] at hi; cases hi)]; exact hi), r.ln, r.rd, r.nodup, r.lt⟩
  · by_cases hne : i = τ
    · subst hne
      have hi : upd σ.H i (some (HE.row e sz n)) i = some he := hi
      rw [upd_same] at hi; cases hi
      intro b hb; rw [hβ] at hb; cases hb
    · have hi : upd σ.H τ (some (HE.row e sz n)) i = some he := hi
      rw [upd_ne _ _ hne] at hi
      have := r.mem.holds i he hi
      cases he with
      | cells cs =>
        obtain ⟨b, vs, t, h1, h2, h3, h4⟩ := this
        exact ⟨b, vs, t, h1, h2, h3.mono hle, h4⟩
      | obj o => exact this
      | froz ds => exact this
      | mrow e2 s2 n2 cs2 => exact mrow_holds this rfl rfl (fun _ _ _ q => q) hle (fun _ _ _ q _ => q)
      | ob cs2 p => exact ob_holds this rfl rfl (fun _ _ _ q => q) hle (fun _ _ _ q _ => q)
      | row e s n => exact this
  · by_cases hne : i = τ
    · subst hne
      have hi : upd σ.H i (some (HE.row e sz n)) i = none := hi
      rw [upd_same] at hi; cases hi
    · have hi : upd σ.H τ (some (HE.row e sz n)) i = none := hi
      rw [upd_ne _ _ hne] at hi; exact r.mem.dom i hi
/-- A nil or full list becomes one to which one may append. -/
theorem tok_conv {g : G} {H : Hp} {τ e sz n : Nat} {x : CV} {xs : List (List D)} (hτ : H τ = some (.row e sz n)) (hx : (x = .d (.val (.slice none 0 0)) ∧ xs = []) ∨ x = .full sz xs) (hn : n = xs.length) (v : Value) (h : RepC g H x v) : RepC g H (.app τ sz xs) v := by
  subst hn
  rcases hx with ⟨rfl, rfl⟩ | rfl
  · have h : Rep g.K (.val (.slice none 0 0)) v := h
    cases h
    exact ⟨rep_nil _ _, e, _, hτ, Nat.le_refl _, fun _ => .inl ⟨none, rfl⟩⟩
  · exact ⟨h.1, e, _, hτ, Nat.le_refl _, fun _ => .inl h.2⟩
theorem Weak.slot {σ : St} {t : Nat} {x y : SV} (ht : σ.env t = x) (hxy : ∀ g v, RepS g σ.H x v → RepS g σ.H y v) : Weak σ { σ with env := upd σ.env t y } := by
  intro W0 K0 g a w r
  refine ⟨g, r.mem, fun u => ?_, r.size, r.defers, r.ln, r.rd, r.nodup, r.lt⟩
  show RepS g σ.H (upd σ.env t y u) _
  by_cases h : u = t
  · subst h; rw [upd_same]; exact hxy g _ (ht ▸ r.env u)
  · rw [upd_ne _ _ h]; exact r.env u
/-! regions that come to one value -/
def dsts (l : List Oper) : List Nat := l.filterMap (·.dst)
theorem aops_mono {P : Program} {all : List Oper} : ∀ {l : List Oper} {σ : St} {tr : List Foot} {k k' : St → List Foot → Prop}, aops P all l σ tr k → (∀ σ' tr', k σ' tr' → (∀ t, t ∉ dsts l → σ'.env t = σ.env t) → (σ'.sz = σ.sz ∧ σ'.fx = σ.fx) → k' σ' tr') → aops P all l σ tr k'
  | [], σ, tr, k, k', h, hk => hk _ _ h (fun _ _ => rfl) ⟨rfl, rfl⟩
  | o :: os, σ, tr, k, k', h, hk => by
    have hput : ∀ (x : SV) t, t ∉ dsts (o :: os) → putE σ.env o.dst x t = σ.env t ∧ t ∉ dsts os := fun x t ht => by
      cases hd : o.dst with
      | none => exact ⟨rfl, fun h => ht (by simp only [dsts, List.filterMap_cons, hd]; exact h)⟩
      | some d =>
        simp only [dsts, List.filterMap_cons, hd, List.mem_cons, not_or] at ht
        exact ⟨upd_ne _ _ ht.1, ht.2⟩
    simp only [aops] at h ⊢
    split at h
    · exact h.elim
    · rename_i t ht
      refine ⟨fun e => ?_, fun e => ?_⟩
      · obtain ⟨r, hr1, hd, hrest⟩ := astep_get (h.1 e)
        have := aops_mono (k' := k') hrest (fun σ' tr' hk' he hs => hk σ' tr' hk' (fun t ht => (he t (hput r.v t ht).2).trans (hput r.v t ht).1) hs)
        exact astep_put hr1 ⟨hd, this⟩
      · obtain ⟨hd, hrest⟩ := h.2 e
        exact ⟨hd, aops_mono hrest (fun σ' tr' hk' he hs => hk σ' tr' hk' (fun t ht => (he t (hput (.c .any) t ht).2).trans (hput (.c (.d (.val undef))) t ht).1) hs)⟩
def forget (l : List Nat) (env : Nat → SV) : Nat → SV := fun t => if l.contains t then .c .any else env t
theorem Weak.to {σ σ' : St} {l : List Nat} {d : Nat} {v : SV} (he : ∀ t, t ∉ l → σ'.env t = σ.env t) (hs : σ'.sz = σ.sz ∧ σ'.fx = σ.fx) (hd : σ'.env d = v) (hH : σ'.H = σ.H) : Weak σ' ⟨upd (forget l σ.env) d v, σ.H, σ.nx, σ.sz, σ.fx⟩ := by
  intro W0 K0 g a w r
  refine ⟨g, hH ▸ r.mem, fun t => ?_, by rw [r.size]; exact hs.1, by show DefsRel g σ.H σ.fx.dfs a.defers; rw [← hH, ← hs.2]; exact r.defers, by rw [r.ln, hs.2], by rw [r.rd, hs.2], by show σ.fx.dfs.Nodup; rw [← hs.2]; exact r.nodup, by show ∀ q, σ.fx.lt = some q → _; rw [← hs.2]; exact r.lt⟩
  show RepS g σ.H (upd (forget l σ.env) d v t) _
  rw [← hH]
  by_cases h : t = d
  · subst h; rw [upd_same, ← hd]; exact r.env t
  · rw [upd_ne _ _ h]
    unfold forget
    split
    · trivial
    · rename_i hn
      rw [← he t (by simpa using hn)]; exact r.env t
section
variable {P : Program} {σ : St} {Q : Exit → St → Prop}
/-- The region comes to v in slot d; its other slots are forgotten. -/
theorem Wp.seqTo {id : Nat} {all : List Oper} {y : Code} (d : Nat) (v : SV) (h : aops P all all σ [] (fun σ' _ => σ'.env d = v ∧ σ'.H = σ.H)) (hy : Wp P y ⟨upd (forget (dsts all) σ.env) d v, σ.H, σ.nx, σ.sz, σ.fx⟩ Q) : Wp P (.seq (.region id all.toArray false) y) σ Q :=
  Wp.seqRegion (fun K hK => aops_mono h (fun σ' _ hk he hs => hK σ' (Wp.weak (Weak.to he hs hk.1 hk.2) hy)))
theorem Wp.seqToD {id : Nat} {all : List Oper} {y : Code} (d : Nat) (v : SV) (hm : P.follows .mixedOrders = true) (h : aops P all all σ [] (fun σ' tr => okTr all tr = true ∧ σ'.env d = v ∧ σ'.H = σ.H)) (hy : Wp P y ⟨upd (forget (dsts all) σ.env) d v, σ.H, σ.nx, σ.sz, σ.fx⟩ Q) : Wp P (.seq (.region id all.toArray true) y) σ Q :=
  Wp.seqDrawn hm (fun K hK => aops_mono h (fun σ' _ hk he hs => ⟨hk.1, hK σ' (Wp.weak (Weak.to he hs hk.2.1 hk.2.2) hy)⟩))
end
end Go.Proofs.YtafipkbffboebaaDoor
namespace Go.Proofs.YtafipkbffboebaaDoor
open Go Go.RowKit
set_option linter.unusedVariables false
set_option linter.unusedSimpArgs false
theorem Weak.nilApp {σ : St} {t τ : Nat} (e sz : Nat) (hτ : σ.H τ = none) (ht : σ.env t = .c (.d (.val (.slice none 0 0)))) : Weak σ { σ with env := upd σ.env t (.c (.app τ sz [])), H := upd σ.H τ (some (.row e sz 0)) } :=
  (Weak.tok (τ := τ) e sz 0 hτ).trans (Weak.slot (σ := { σ with H := upd σ.H τ (some (.row e sz 0)) }) (t := t) ht (fun g v h => tok_conv (e := e) (n := 0) (xs := []) (upd_same _ _ _) (.inl ⟨rfl, rfl⟩) rfl v h))
inductive BRes where
  | no
  | ok (r : Res)
  | okIf (tot : Nat) (r : Res)
  | call (f : FuncId) (ds : List D) (fp : List Nat)
  | scall (f : FuncId) (xs : List SV) (caps : List D)
def bres (P : Program) (o : Oper) (ρ : Operand → SV) (H : Hp) (nx : Nat) : BRes :=
  match o.op with
  | .call c => match c.callee with
    | .builtin b => match aBu P b c.argTypes.toList o.type (c.args.toList.map ρ) H nx with
      | some (r, tot) => .okIf tot r
      | none => .no
    | .value f => match ρ f with
      | .c (.d (.fn (.func f) caps)) => match mapO (SV.toD H) (c.args.toList.map ρ) with
        | some ds => .call f (ds ++ caps) ((c.args.toList.map ρ).flatMap oWn)
        | none => .scall f (c.args.toList.map ρ) caps
      | _ => .no
    | _ => .no
  | op => match aop P op ρ H nx with
    | some r => .ok r
    | none => .no
def bdst (σ : St) (o : Oper) : Bool := match o.dst with
  | some d => decide (d < σ.sz)
  | none => true
mutual
def bops (P : Program) (all : List Oper) : List Oper → St → List Foot → (St → List Foot → Prop) → Prop
  | [], σ, tr, k => k σ tr.reverse
  | o :: os, σ, tr, k => bgd P all o os σ tr k (guardB all σ.env o)
termination_by l => (l.length, 0)
def bgd (P : Program) (all : List Oper) (o : Oper) (os : List Oper) (σ : St) (tr : List Foot) (k : St → List Foot → Prop) : Option Bool → Prop
  | none => False
  | some true => bgo P all o os σ tr k (bres P o (evalS σ.env) σ.H σ.nx)
  | some false => bdst σ o = true ∧ bops P all os (σ.skip o) (⟨[], none⟩ :: tr) k
termination_by (os.length, 3)
def bgo (P : Program) (all : List Oper) (o : Oper) (os : List Oper) (σ : St) (tr : List Foot) (k : St → List Foot → Prop) : BRes → Prop
  | .no => False
  | .ok r => bdst σ o = true ∧ bops P all os (σ.step o r) (⟨r.fp, r.up.map (·.1)⟩ :: tr) k
  | .okIf tot r => tot ≤ 140737488355328 ∧ bdst σ o = true ∧ bops P all os (σ.step o r) (⟨r.fp, r.up.map (·.1)⟩ :: tr) k
  | .call f ds fp => bcall P all o os σ tr k f ds fp
  | .scall f xs caps => bscall P all o os σ tr k f xs caps
termination_by (os.length, 2)
def bcall (P : Program) (all : List Oper) (o : Oper) (os : List Oper) (σ : St) (tr : List Foot) (k : St → List Foot → Prop) (f : FuncId) (ds : List D) (fp : List Nat) : Prop :=
  (∃ y, Fun P f ds y ∧ bdst σ o = true ∧ bops P all os (σ.step o ⟨SV.ofD y, none, fp, false⟩) (⟨fp, none⟩ :: tr) k) ∨
      (∃ e sz xs, FunA P f ds e sz xs ∧ σ.H σ.nx = none ∧ bdst σ o = true ∧ bops P all os (σ.step o ⟨.c (.app σ.nx sz xs), some (σ.nx, .row e sz xs.length), σ.nx :: fp, true⟩) (⟨σ.nx :: fp, some σ.nx⟩ :: tr) k)
termination_by (os.length, 1)
def bscall (P : Program) (all : List Oper) (o : Oper) (os : List Oper) (σ : St) (tr : List Foot) (k : St → List Foot → Prop) (f : FuncId) (xs : List SV) (caps : List D) : Prop :=
  ∃ ds y, mapO (SV.snap σ.H) xs = some ds ∧ Fun P f (ds ++ caps) y ∧ y.free = true ∧ bdst σ o = true ∧ bops P all os (σ.step o ⟨SV.ofD y, none, xs.flatMap (SV.snapFp σ.H) ++ xs.flatMap oWn, false⟩) (⟨xs.flatMap (SV.snapFp σ.H) ++ xs.flatMap oWn, none⟩ :: tr) k
termination_by (os.length, 1)
end
theorem bdst_ok {σ : St} {o : Oper} (h : bdst σ o = true) : dstOk σ o := by
  unfold bdst at h; unfold dstOk
  cases hd : o.dst with
  | none => trivial
  | some d => rw [hd] at h; simpa using h
def BSpec (P : Program) (o : Oper) (ρ : Operand → SV) (H : Hp) (nx : Nat) : BRes → Prop
  | .no => True
  | .ok r => AStep P o ρ H nx r
  | .okIf tot r => tot ≤ 140737488355328 → AStep P o ρ H nx r
  | .call f ds fp => (∀ y, Fun P f ds y → AStep P o ρ H nx ⟨SV.ofD y, none, fp, false⟩) ∧ ∀ e sz xs, FunA P f ds e sz xs → H nx = none → AStep P o ρ H nx ⟨.c (.app nx sz xs), some (nx, .row e sz xs.length), nx :: fp, true⟩
  | .scall f xs caps => ∀ ds y, mapO (SV.snap H) xs = some ds → Fun P f (ds ++ caps) y → y.free = true → AStep P o ρ H nx ⟨SV.ofD y, none, xs.flatMap (SV.snapFp H) ++ xs.flatMap oWn, false⟩
theorem bres_spec (P : Program) (o : Oper) (ρ : Operand → SV) (H : Hp) (nx : Nat) : BSpec P o ρ H nx (bres P o ρ H nx) := by
  obtain ⟨dst, op, type, pos, after, guard⟩ := o
  cases op with
  | call c =>
    obtain ⟨cal, args, tys⟩ := c
    cases cal with
    | builtin b =>
      simp only [bres]
      split
      · rename_i r tot hr
        intro ht
        simp only [AStep, astep, hr]
        exact ⟨ht, trivial⟩
      · trivial
    | value f =>
      simp only [bres]
      split
      · rename_i fid caps hf
        split
        · rename_i ds hds
          refine ⟨fun y hy => ?_, fun e sz xs hy hn => ?_⟩
          · simp only [AStep, astep, hf, hds]
            exact .inl ⟨y, hy, rfl⟩
          · simp only [AStep, astep, hf, hds]
            exact .inr ⟨e, sz, xs, hy, hn, rfl⟩
        · rename_i hds
          intro ds y h1 h2 h3
          simp only [AStep, astep, hf, hds]
          exact ⟨ds, y, h1, h2, h3, rfl⟩
      · trivial
    | invoke r m => trivial
  | _ =>
    simp only [bres]
    split
    · rename_i r hr
      show AStep _ _ _ _ _ _
      simp only [AStep, astep, hr]
    · trivial
theorem bops_aops {P : Program} {all : List Oper} : ∀ {l : List Oper} {σ : St} {tr : List Foot} {k : St → List Foot → Prop}, bops P all l σ tr k → aops P all l σ tr k
  | [], σ, tr, k, h => by simpa [bops, aops] using h
  | o :: os, σ, tr, k, h => by
    rw [bops] at h
    rw [aops]
    cases hg : guardB all σ.env o with
    | none => rw [hg, bgd] at h; exact h.elim
    | some gb =>
    cases gb with
    | true =>
      rw [hg, bgd] at h
      simp only [hg]
      refine ⟨fun _ => ?_, (fun e => by cases e)⟩
      have key : ∀ r, AStep P o (evalS σ.env) σ.H σ.nx r → (bdst σ o = true ∧ bops P all os (σ.step o r) (⟨r.fp, r.up.map (·.1)⟩ :: tr) k) → astep P o (evalS σ.env) σ.H σ.nx (fun r => dstOk σ o ∧ aops P all os (σ.step o r) (⟨r.fp, r.up.map (·.1)⟩ :: tr) k) :=
        fun r hr hb => astep_put hr ⟨bdst_ok hb.1, bops_aops hb.2⟩
      have hsp := bres_spec P o (evalS σ.env) σ.H σ.nx
      cases hb : bres P o (evalS σ.env) σ.H σ.nx with
      | no => rw [hb, bgo] at h; exact h.elim
      | ok r =>
        rw [hb] at hsp
        rw [hb, bgo] at h
        exact key r hsp h
      | okIf tot r =>
        rw [hb] at hsp
        rw [hb, bgo] at h
        exact key r (hsp h.1) h.2
      | call f ds fp =>
        rw [hb] at hsp
        rw [hb, bgo, bcall] at h
        rcases h with ⟨y, hf, hrest⟩ | ⟨e, sz, xs, hf, hn, hrest⟩
        · exact key ⟨SV.ofD y, none, fp, false⟩ (hsp.1 y hf) hrest
        · exact key _ (hsp.2 e sz xs hf hn) hrest
      | scall f xs caps =>
        rw [hb] at hsp
        rw [hb, bgo, bscall] at h
        obtain ⟨ds, y, h1, h2, h3, hrest⟩ := h
        exact key _ (hsp ds y h1 h2 h3) hrest
    | false =>
      rw [hg, bgd] at h
      simp only [hg]
      exact ⟨(fun e => by cases e), fun _ => ⟨bdst_ok h.1, bops_aops h.2⟩⟩
theorem bcf {P : Program} {all : List Oper} {o : Oper} {os : List Oper} {σ : St} {tr : List Foot} {k : St → List Foot → Prop} {f : FuncId} {ds : List D} {fp : List Nat} {y : D} (hf : Fun P f ds y)
    (h : bdst σ o = true ∧ bops P all os (σ.step o ⟨SV.ofD y, none, fp, false⟩) (⟨fp, none⟩ :: tr) k) : bcall P all o os σ tr k f ds fp := by rw [bcall]; exact .inl ⟨y, hf, h⟩
theorem bca {P : Program} {all : List Oper} {o : Oper} {os : List Oper} {σ : St} {tr : List Foot} {k : St → List Foot → Prop} {f : FuncId} {ds : List D} {fp : List Nat} {e sz : Nat} {xs : List (List D)} (hf : FunA P f ds e sz xs)
    (h : σ.H σ.nx = none ∧ bdst σ o = true ∧ bops P all os (σ.step o ⟨.c (.app σ.nx sz xs), some (σ.nx, .row e sz xs.length), σ.nx :: fp, true⟩) (⟨σ.nx :: fp, some σ.nx⟩ :: tr) k) : bcall P all o os σ tr k f ds fp := by rw [bcall]; exact .inr ⟨e, sz, xs, hf, h⟩
theorem bcall_s {P : Program} {all : List Oper} {o : Oper} {os : List Oper} {σ : St} {tr : List Foot} {k : St → List Foot → Prop} {f : FuncId} {xs : List SV} {caps dc : List D} {y : D} (hf : Fun P f dc y) (hy : y.free = true) (hs : (mapO (SV.snap σ.H) xs).map (· ++ caps) = some dc)
    (h : bdst σ o = true ∧ bops P all os (σ.step o ⟨SV.ofD y, none, xs.flatMap (SV.snapFp σ.H) ++ xs.flatMap oWn, false⟩) (⟨xs.flatMap (SV.snapFp σ.H) ++ xs.flatMap oWn, none⟩ :: tr) k) : bscall P all o os σ tr k f xs caps := by
  cases hm : mapO (SV.snap σ.H) xs with
  | none => rw [hm] at hs; cases hs
  | some ds =>
    rw [hm] at hs
    simp only [Option.map_some, Option.some.injEq] at hs
    subst hs
    rw [bscall]; exact ⟨ds, y, hm, hf, hy, h⟩
section
variable {P : Program} {σ : St} {Q : Exit → St → Prop}
theorem Wp.condT {c : Operand} {x y : Code} (hc : evalS σ.env c = .c (.d (.val (.bool true)))) (h : Wp P x σ Q) : Wp P (.cond c x y) σ Q := Wp.cond hc (fun _ => h) (fun e => by cases e)
theorem Wp.condF {c : Operand} {x y : Code} (hc : evalS σ.env c = .c (.d (.val (.bool false)))) (h : Wp P y σ Q) : Wp P (.cond c x y) σ Q := Wp.cond hc (fun e => by cases e) (fun _ => h)
theorem Wp.reg {id : Nat} {all : List Oper} (h : ∀ K : St → Prop, (∀ σ', Q .normal σ' → K σ') → bops P all all σ [] (fun σ' _ => K σ')) : Wp P (.region id all.toArray false) σ Q := Wp.region (fun K hK => bops_aops (h K hK))
theorem Wp.drw {id : Nat} {all : List Oper} (hm : P.follows .mixedOrders = true) (h : ∀ K : St → Prop, (∀ σ', Q .normal σ' → K σ') → bops P all all σ [] (fun σ' tr => okTr all tr = true ∧ K σ')) : Wp P (.region id all.toArray true) σ Q := Wp.drawn hm (fun K hK => bops_aops (h K hK))
theorem Wp.sreg {id : Nat} {all : List Oper} {y : Code} (h : ∀ K : St → Prop, (∀ σ', Wp P y σ' Q → K σ') → bops P all all σ [] (fun σ' _ => K σ')) : Wp P (.seq (.region id all.toArray false) y) σ Q := Wp.seqRegion (fun K hK => bops_aops (h K hK))
theorem Wp.sdrw {id : Nat} {all : List Oper} {y : Code} (hm : P.follows .mixedOrders = true) (h : ∀ K : St → Prop, (∀ σ', Wp P y σ' Q → K σ') → bops P all all σ [] (fun σ' tr => okTr all tr = true ∧ K σ')) : Wp P (.seq (.region id all.toArray true) y) σ Q := Wp.seqDrawn hm (fun K hK => bops_aops (h K hK))
theorem Wp.sto {id : Nat} {all : List Oper} {y : Code} (d : Nat) (v : SV) (h : bops P all all σ [] (fun σ' _ => σ'.env d = v ∧ σ'.H = σ.H)) (hy : Wp P y ⟨upd (forget (dsts all) σ.env) d v, σ.H, σ.nx, σ.sz, σ.fx⟩ Q) : Wp P (.seq (.region id all.toArray false) y) σ Q := Wp.seqTo d v (bops_aops h) hy
theorem Wp.stoD {id : Nat} {all : List Oper} {y : Code} (d : Nat) (v : SV) (hm : P.follows .mixedOrders = true) (h : bops P all all σ [] (fun σ' tr => okTr all tr = true ∧ σ'.env d = v ∧ σ'.H = σ.H)) (hy : Wp P y ⟨upd (forget (dsts all) σ.env) d v, σ.H, σ.nx, σ.sz, σ.fx⟩ Q) : Wp P (.seq (.region id all.toArray true) y) σ Q := Wp.seqToD d v hm (bops_aops h) hy
theorem Wp.meetT {x y : Code} {Q' : Exit → St → Prop} (σc : St) (h : Wp P x σ (tQ0 (fun σ' => Weak σ' σc) Q')) (hy : Wp P y σc Q) : Wp P x σ (tQ0 (fun σ' => Wp P y σ' Q) Q') :=
  h.mono (fun e σ' hq => by
    cases e with
    | normal => exact Wp.weak hq hy
    | _ => exact hq)
theorem Wp.rto {id : Nat} {all : List Oper} (d : Nat) (v : SV) (h : bops P all all σ [] (fun σ' _ => σ'.env d = v ∧ σ'.H = σ.H)) (hy : ∀ σ', Weak σ' ⟨upd (forget (dsts all) σ.env) d v, σ.H, σ.nx, σ.sz, σ.fx⟩ → Q .normal σ') : Wp P (.region id all.toArray false) σ Q :=
  Wp.region (fun K hK => aops_mono (bops_aops h) (fun σ' _ hk he hs => hK σ' (hy σ' (Weak.to he hs hk.1 hk.2))))
theorem Wp.rtoD {id : Nat} {all : List Oper} (d : Nat) (v : SV) (hm : P.follows .mixedOrders = true) (h : bops P all all σ [] (fun σ' tr => okTr all tr = true ∧ σ'.env d = v ∧ σ'.H = σ.H)) (hy : ∀ σ', Weak σ' ⟨upd (forget (dsts all) σ.env) d v, σ.H, σ.nx, σ.sz, σ.fx⟩ → Q .normal σ') : Wp P (.region id all.toArray true) σ Q :=
  Wp.drawn hm (fun K hK => aops_mono (bops_aops h) (fun σ' _ hk he hs => ⟨hk.1, hK σ' (hy σ' (Weak.to he hs hk.2.1 hk.2.2))⟩))
theorem Wp.rtoS {id : Nat} {all : List Oper} {y : Code} {Q' : Exit → St → Prop} (d : Nat) (v : SV) (h : bops P all all σ [] (fun σ' _ => σ'.env d = v ∧ σ'.H = σ.H)) (hy : Wp P y ⟨upd (forget (dsts all) σ.env) d v, σ.H, σ.nx, σ.sz, σ.fx⟩ Q') : Wp P (.region id all.toArray false) σ (tQ0 (fun σ' => Wp P y σ' Q') Q) :=
  Wp.rto d v h (fun σ' hw => Wp.weak hw hy)
theorem Wp.rtoDS {id : Nat} {all : List Oper} {y : Code} {Q' : Exit → St → Prop} (d : Nat) (v : SV) (hm : P.follows .mixedOrders = true) (h : bops P all all σ [] (fun σ' tr => okTr all tr = true ∧ σ'.env d = v ∧ σ'.H = σ.H)) (hy : Wp P y ⟨upd (forget (dsts all) σ.env) d v, σ.H, σ.nx, σ.sz, σ.fx⟩ Q') : Wp P (.region id all.toArray true) σ (tQ0 (fun σ' => Wp P y σ' Q') Q) :=
  Wp.rtoD d v hm h (fun σ' hw => Wp.weak hw hy)
end
end Go.Proofs.YtafipkbffboebaaDoor
namespace Go.Proofs.YtafipkbffboebaaDoor
open Go Go.RowKit
set_option linter.unusedVariables false
set_option linter.unusedSimpArgs false
abbrev str (l : List UInt8) : D := .val (.string ⟨l.toArray⟩)
abbrev int (n : Int) : D := .val (.int .i64 n)
abbrev boo (b : Bool) : D := .val (.bool b)
theorem upd_app {α : Type} (f : Nat → α) (t : Nat) (v : α) (i : Nat) : upd f t v i = match i == t with | true => v | false => f i := by
  unfold upd
  by_cases h : i = t
  · subst h; simp
  · rw [if_neg h, show (i == t) = false from by simpa using h]
theorem forget_app (l : List Nat) (env : Nat → SV) (t : Nat) : forget l env t = match l.contains t with | true => .c .any | false => env t := by
  unfold forget; cases l.contains t <;> rfl
theorem entry_env (args : List D) (n t : Nat) : (entry args n).env t = match args[t]? with | some x => SV.ofD x | none => .c .any := rfl
theorem entry_H (args : List D) (n i : Nat) : (entry args n).H i = none := rfl
theorem entry_nx (args : List D) (n : Nat) : (entry args n).nx = 0 := rfl
theorem entry_sz (args : List D) (n : Nat) : (entry args n).sz = n := rfl
theorem step_def (σ : St) (o : Oper) (r : Res) : σ.step o r = ⟨putE σ.env o.dst r.v, hup σ.H r.up, if r.al then σ.nx + 1 else σ.nx, σ.sz, σ.fx⟩ := rfl
theorem skip_def (σ : St) (o : Oper) : σ.skip o = ⟨putE σ.env o.dst (.c (.d (.val undef))), σ.H, σ.nx, σ.sz, σ.fx⟩ := rfl
theorem putE_some (env : Nat → SV) (d : Nat) (x : SV) : putE env (some d) x = upd env d x := rfl
theorem putE_none (env : Nat → SV) (x : SV) : putE env none x = env := rfl
theorem hup_none (H : Hp) : hup H none = H := rfl
theorem hup_some (H : Hp) (id : Nat) (he : HE) : hup H (some (id, he)) = upd H id (some he) := rfl
theorem ofL_app (L : List (Nat × SV)) (t : Nat) : ofL L t = match L.lookup t with | some x => x | none => .c .any := rfl
theorem ofH_app (M : List (Nat × HE)) (t : Nat) : ofH M t = M.lookup t := rfl
theorem bs_toList (l : List UInt8) : (ByteArray.mk l.toArray).toList = l := ByteArray.toList_mk l
theorem pureRun_bind (P : Program) {α β : Type} : ∀ (s : Sem α) (f : α → Sem β), pureRun P (s >>= f) = match pureRun P s with | some a => pureRun P (f a) | none => none := by
  intro s f
  show pureRun P (s.bind f) = _
  induction s with
  | pure a => rfl
  | program k ih => exact ih P
  | mark m k ih => exact ih
  | _ => rfl
theorem pureRun_und {P : Program} {t : TypeId} {u : TypeDesc} (h : P.underlying t = some u) : pureRun P (underlying t) = some u := by
  unfold underlying
  rw [pureRun_bind]
  show pureRun P (match P.underlying t with | some d => pure d | none => stuck "no such type") = _
  rw [h]; rfl
theorem bs_size (l : List UInt8) : (ByteArray.mk l.toArray).size = l.length := by simp [ByteArray.size]
theorem bs_extract (a : List UInt8) (l h : Nat) : (ByteArray.mk a.toArray).extract l h = ⟨((a.drop l).take (h - l)).toArray⟩ := by
  apply ByteArray.ext; simp [List.extract_eq_take_drop]
section
variable {P : Program} {t : TypeId} {x y : Operand} {k : IntKind} {a b : Int}
abbrev vi (k : IntKind) (n : Int) : SV := .c (.d (.val (.int k n)))
abbrev vb (b : Bool) : SV := .c (.d (.val (.bool b)))
abbrev vs (l : List UInt8) : SV := .c (.d (.val (.string ⟨l.toArray⟩)))
theorem bin_add : aBin P .add t x y (vi k a) (vi k b) = some (Res.pure (vi k (k.wrap (a + b)))) := by cases k <;> rfl
theorem bin_sub : aBin P .sub t x y (vi k a) (vi k b) = some (Res.pure (vi k (k.wrap (a - b)))) := by cases k <;> rfl
theorem bin_mul : aBin P .mul t x y (vi k a) (vi k b) = some (Res.pure (vi k (k.wrap (a * b)))) := by cases k <;> rfl
theorem bin_eql : aBin P .eql t x y (vi k a) (vi k b) = some (Res.pure (vb (a == b))) := by cases k <;> rfl
theorem bin_neq : aBin P .neq t x y (vi k a) (vi k b) = some (Res.pure (vb (a != b))) := by cases k <;> rfl
theorem bin_lss : aBin P .lss t x y (vi k a) (vi k b) = some (Res.pure (vb (decide (a < b)))) := by cases k <;> rfl
theorem bin_leq : aBin P .leq t x y (vi k a) (vi k b) = some (Res.pure (vb (decide (a ≤ b)))) := by cases k <;> rfl
theorem bin_gtr : aBin P .gtr t x y (vi k a) (vi k b) = some (Res.pure (vb (decide (b < a)))) := by cases k <;> rfl
theorem bin_geq : aBin P .geq t x y (vi k a) (vi k b) = some (Res.pure (vb (decide (b ≤ a)))) := by cases k <;> rfl
theorem bin_rem (hb : b ≠ 0) : aBin P .rem t x y (vi k a) (vi k b) = some (Res.pure (vi k (a.tmod b))) := by
  have : sc P (do eqGuard .rem t x y (.int k a) (.int k b); binOp .rem t (.int k a) (.int k b)) = some (Res.pure (vi k (a.tmod b))) := by
    have e : (do eqGuard .rem t x y (.int k a) (.int k b); binOp .rem t (.int k a) (.int k b)) = (Sem.pure (.int k (a.tmod b))) := by
      cases k <;> (show (if b = 0 then _ else _) = _; rw [if_neg hb]; rfl)
    rw [e]; rfl
  exact this
variable {l m : List UInt8}
theorem sbin_eql : aBin P .eql t x y (vs l) (vs m) = some (Res.pure (vb (l == m))) := by
  show some (Res.pure (vb ((ByteArray.mk l.toArray).toList == (ByteArray.mk m.toArray).toList))) = _
  rw [bs_toList, bs_toList]
theorem sbin_neq : aBin P .neq t x y (vs l) (vs m) = some (Res.pure (vb (!(l == m)))) := by
  show some (Res.pure (vb (!((ByteArray.mk l.toArray).toList == (ByteArray.mk m.toArray).toList)))) = _
  rw [bs_toList, bs_toList]
theorem sbin_lss : aBin P .lss t x y (vs l) (vs m) = some (Res.pure (vb (Op.bytesLess l m))) := by
  show some (Res.pure (vb (Op.bytesLess (ByteArray.mk l.toArray).toList (ByteArray.mk m.toArray).toList))) = _
  rw [bs_toList, bs_toList]
theorem sbin_leq : aBin P .leq t x y (vs l) (vs m) = some (Res.pure (vb (Op.bytesLess l m || l == m))) := by
  show some (Res.pure (vb (Op.bytesLess (ByteArray.mk l.toArray).toList (ByteArray.mk m.toArray).toList || (ByteArray.mk l.toArray).toList == (ByteArray.mk m.toArray).toList))) = _
  rw [bs_toList, bs_toList]
theorem sbin_gtr : aBin P .gtr t x y (vs l) (vs m) = some (Res.pure (vb (!(Op.bytesLess l m || l == m)))) := by
  show some (Res.pure (vb (!(Op.bytesLess (ByteArray.mk l.toArray).toList (ByteArray.mk m.toArray).toList || (ByteArray.mk l.toArray).toList == (ByteArray.mk m.toArray).toList)))) = _
  rw [bs_toList, bs_toList]
theorem sbin_geq : aBin P .geq t x y (vs l) (vs m) = some (Res.pure (vb (!Op.bytesLess l m))) := by
  show some (Res.pure (vb (!Op.bytesLess (ByteArray.mk l.toArray).toList (ByteArray.mk m.toArray).toList))) = _
  rw [bs_toList, bs_toList]
theorem bbin_eql {p q : Bool} (hu : P.underlying t = some .bool) : aBin P .eql t x y (vb p) (vb q) = some (Res.pure (vb (p == q))) := by
  have : sc P (do eqGuard .eql t x y (.bool p) (.bool q); binOp .eql t (.bool p) (.bool q)) = some (Res.pure (vb (p == q))) := by
    unfold sc
    have e : pureRun P (do eqGuard .eql t x y (.bool p) (.bool q); binOp .eql t (.bool p) (.bool q)) = some (.bool (p == q)) := by
      have e0 : pureRun P (Op.equal t (.bool p) (.bool q)) = some (p == q) := by
        unfold Op.equal
        rw [show Op.maxDepth = 9999 + 1 from rfl]
        unfold Op.equalIn
        rw [pureRun_bind, pureRun_und hu]; rfl
      have e1 : pureRun P (eqGuard .eql t x y (.bool p) (.bool q)) = some () := rfl
      rw [pureRun_bind, e1]
      simp only [binOp]
      rw [pureRun_bind, e0]; rfl
    rw [e]; rfl
  exact this
theorem bbin_neq {p q : Bool} (hu : P.underlying t = some .bool) : aBin P .neq t x y (vb p) (vb q) = some (Res.pure (vb (!(p == q)))) := by
  have : sc P (do eqGuard .neq t x y (.bool p) (.bool q); binOp .neq t (.bool p) (.bool q)) = some (Res.pure (vb (!(p == q)))) := by
    unfold sc
    have e : pureRun P (do eqGuard .neq t x y (.bool p) (.bool q); binOp .neq t (.bool p) (.bool q)) = some (.bool (!(p == q))) := by
      have e0 : pureRun P (Op.equal t (.bool p) (.bool q)) = some (p == q) := by
        unfold Op.equal
        rw [show Op.maxDepth = 9999 + 1 from rfl]
        unfold Op.equalIn
        rw [pureRun_bind, pureRun_und hu]; rfl
      have e1 : pureRun P (eqGuard .neq t x y (.bool p) (.bool q)) = some () := rfl
      rw [pureRun_bind, e1]
      simp only [binOp]
      rw [pureRun_bind, e0]; rfl
    rw [e]; rfl
  exact this
theorem nil_run {op : BinOp} {vx vy : Value} {q : Bool} (e1 : pureRun P (eqGuard op t x y vx vy) = some ()) (e0 : pureRun P (Op.equal t vx vy) = some q) (h : (op = .eql ∧ binOp op t vx vy = (do pure (.bool (← Op.equal t vx vy)))) ∨ (op = .neq ∧ binOp op t vx vy = (do pure (.bool (!(← Op.equal t vx vy)))))) :
    sc P (do eqGuard op t x y vx vy; binOp op t vx vy) = some (Res.pure (vb (if op = .eql then q else !q))) := by
  unfold sc
  rcases h with ⟨rfl, h⟩ | ⟨rfl, h⟩
  · have e : pureRun P (do eqGuard .eql t x y vx vy; binOp .eql t vx vy) = some (.bool q) := by
      rw [pureRun_bind, e1, h]; simp only; rw [pureRun_bind, e0]; rfl
    rw [e]; rfl
  · have e : pureRun P (do eqGuard .neq t x y vx vy; binOp .neq t vx vy) = some (.bool (!q)) := by
      rw [pureRun_bind, e1, h]; simp only; rw [pureRun_bind, e0]; rfl
    rw [e]; rfl
theorem ifc_eq0 {ms : Array (String × TypeId)} (hu : P.underlying t = some (.interface ms)) : pureRun P (Op.equal t .nilIface .nilIface) = some true := by
  unfold Op.equal; rw [show Op.maxDepth = 9999 + 1 from rfl]; unfold Op.equalIn
  rw [pureRun_bind, pureRun_und hu]; rfl
theorem ifc_eql_nn {ms : Array (String × TypeId)} (hu : P.underlying t = some (.interface ms)) (v : Value) : aBin P .eql t x (.const v) (.c (.d (.val .nilIface))) (.c (.d (.val .nilIface))) = some (Res.pure (vb true)) :=
  nil_run (op := .eql) (vx := .nilIface) (vy := .nilIface) (by cases x <;> rfl) (ifc_eq0 hu) (.inl ⟨rfl, rfl⟩)
theorem ifc_neq_nn {ms : Array (String × TypeId)} (hu : P.underlying t = some (.interface ms)) (v : Value) : aBin P .neq t x (.const v) (.c (.d (.val .nilIface))) (.c (.d (.val .nilIface))) = some (Res.pure (vb false)) :=
  nil_run (op := .neq) (vx := .nilIface) (vy := .nilIface) (by cases x <;> rfl) (ifc_eq0 hu) (.inr ⟨rfl, rfl⟩)
theorem ifc_eql_in {ms : Array (String × TypeId)} (hu : P.underlying t = some (.interface ms)) (a : TypeId) (b : D) : aBin P .eql t x y (.c (.d (.iface a b))) (.c (.d (.val .nilIface))) = some (Res.pure (vb false)) := by
  unfold aBin; simp only [SV.exact, CV.exact, hu, nD0, if_true]
theorem ifc_neq_in {ms : Array (String × TypeId)} (hu : P.underlying t = some (.interface ms)) (a : TypeId) (b : D) : aBin P .neq t x y (.c (.d (.iface a b))) (.c (.d (.val .nilIface))) = some (Res.pure (vb true)) := by
  unfold aBin; simp only [SV.exact, CV.exact, hu, nD0, if_true]
theorem sl_eql_cons {e : TypeId} (hu : P.underlying t = some (.slice e)) (s : Nat) (z : List D) (zs : List (List D)) : aBin P .eql t x y (.c (.d (.lst s (z :: zs)))) (.c (.d (.val (.slice none 0 0)))) = some (Res.pure (vb false)) := by
  unfold aBin; simp only [SV.exact, CV.exact, hu, nD0, if_true]
theorem sl_neq_cons {e : TypeId} (hu : P.underlying t = some (.slice e)) (s : Nat) (z : List D) (zs : List (List D)) : aBin P .neq t x y (.c (.d (.lst s (z :: zs)))) (.c (.d (.val (.slice none 0 0)))) = some (Res.pure (vb true)) := by
  unfold aBin; simp only [SV.exact, CV.exact, hu, nD0, if_true]
theorem sl_eq0 {e : TypeId} (hu : P.underlying t = some (.slice e)) (a : Option Addr) (n c : Nat) : pureRun P (Op.equal t (.slice a n c) (.slice none 0 0)) = some a.isNone := by
  unfold Op.equal; rw [show Op.maxDepth = 9999 + 1 from rfl]; unfold Op.equalIn
  rw [pureRun_bind, pureRun_und hu]; cases a <;> rfl
theorem sl_eql_val {e : TypeId} (hu : P.underlying t = some (.slice e)) (a : Option Addr) (n c : Nat) : aBin P .eql t x y (.c (.d (.val (.slice a n c)))) (.c (.d (.val (.slice none 0 0)))) = some (Res.pure (vb a.isNone)) :=
  nil_run (op := .eql) (vx := .slice a n c) (vy := .slice none 0 0) rfl (sl_eq0 hu a n c) (.inl ⟨rfl, rfl⟩)
theorem sl_neq_val {e : TypeId} (hu : P.underlying t = some (.slice e)) (a : Option Addr) (n c : Nat) : aBin P .neq t x y (.c (.d (.val (.slice a n c)))) (.c (.d (.val (.slice none 0 0)))) = some (Res.pure (vb (!a.isNone))) :=
  nil_run (op := .neq) (vx := .slice a n c) (vy := .slice none 0 0) rfl (sl_eq0 hu a n c) (.inr ⟨rfl, rfl⟩)
theorem un_not {p : Bool} : sc P (Op.unary .not (.bool p)) = some (Res.pure (vb (!p))) := rfl
theorem un_neg : sc P (Op.unary .neg (.int k a)) = some (Res.pure (vi k (k.wrap (0 - a)))) := rfl
theorem max_two {ts : Array TypeId} {ty : TypeId} : sc P (Builtin.max_ ts ty #[.int k a, .int k b]) = some (Res.pure (vi k (if b > a then b else a))) := rfl
theorem min_two {ts : Array TypeId} {ty : TypeId} : sc P (Builtin.min_ ts ty #[.int k a, .int k b]) = some (Res.pure (vi k (if b < a then b else a))) := rfl
end
theorem beqT (b : Bool) : (b == true) = b := by cases b <;> rfl
theorem beqF (b : Bool) : (b == false) = !b := by cases b <;> rfl
theorem wrap_i64 {n : Int} (h : -9223372036854775808 ≤ n ∧ n ≤ 9223372036854775807) : IntKind.i64.wrap n = n := IntWalk.i64_in n h
theorem toNat_k1 (k : Nat) : ((k : Int) + 1).toNat = k + 1 := by omega
theorem nonneg_k1 (k : Nat) : ((0 : Int) ≤ (k : Int) + 1) = True := by simp; omega
end Go.Proofs.YtafipkbffboebaaDoor
namespace Go.Proofs.YtafipkbffboebaaDoor
open Go Go.RowKit
theorem Wp.condG {P : Program} {σ : St} {Q : Exit → St → Prop} {c : Operand} {x y : Code} (h : ∀ K : SV → Prop, (Wp P x σ Q → K (vb true)) → (Wp P y σ Q → K (vb false)) → K (evalS σ.env c)) : Wp P (.cond c x y) σ Q :=
  h (fun v => evalS σ.env c = v → Wp P (.cond c x y) σ Q) (fun h1 e => Wp.condT e h1) (fun h1 e => Wp.condF e h1) rfl
theorem RUN : type_of% (And.intro (And.intro (And.intro (And.intro (And.intro (And.intro @step_def (And.intro @skip_def @putE_some)) (And.intro (And.intro @putE_none @hup_none) (And.intro @hup_some @upd_app))) (And.intro (And.intro (And.intro @forget_app @entry_env) (And.intro @entry_H @entry_nx)) (And.intro (And.intro @entry_sz @ofL_app) (And.intro @ofH_app @bin_add)))) (And.intro (And.intro (And.intro @bin_sub (And.intro @bin_mul @bin_eql)) (And.intro (And.intro @bin_neq @bin_lss) (And.intro @bin_leq @bin_gtr))) (And.intro (And.intro (And.intro @bin_geq @sbin_eql) (And.intro @sbin_neq @sbin_lss)) (And.intro (And.intro @sbin_leq @sbin_gtr) (And.intro @sbin_geq @un_not))))) (And.intro (And.intro (And.intro (And.intro @un_neg (And.intro @max_two @min_two)) (And.intro (And.intro @bs_size @bs_extract) (And.intro @List.map_cons.{0, 0} @List.map_nil.{0, 0}))) (And.intro (And.intro (And.intro @List.append_nil.{0} @List.nil_append.{0}) (And.intro @List.cons_append.{0} @List.getElem?_cons_zero.{0})) (And.intro (And.intro @List.getElem?_cons_succ.{0} @List.getElem?_nil.{0}) (And.intro @List.lookup_cons.{0, 0} @List.lookup_nil.{0, 0})))) (And.intro (And.intro (And.intro (And.intro @List.take_succ_cons.{0} @List.drop_succ_cons.{0}) (And.intro @List.drop_zero.{0} @List.take_nil.{0})) (And.intro (And.intro @List.drop_nil.{0} @List.length_cons.{0}) (And.intro @List.length_nil.{0} @List.length_map.{0, 0}))) (And.intro (And.intro (And.intro @List.all_cons.{0} @List.all_nil.{0}) (And.intro @List.flatMap_cons.{0, 0} @List.flatMap_nil.{0, 0})) (And.intro (And.intro @List.toList_toArray.{0} @List.reverse_cons.{0}) (And.intro @List.reverse_nil.{0} @List.contains_cons.{0})))))) (And.intro (And.intro (And.intro (And.intro (And.intro @List.contains_nil.{0} (And.intro @List.filterMap_cons.{0, 0} @List.filterMap_nil.{0, 0})) (And.intro (And.intro @Option.map_some.{0, 0} @Option.map_none.{0, 0}) (And.intro @Option.isSome_some.{0} @Option.isSome_none.{0}))) (And.intro (And.intro (And.intro @Option.getD_some.{0} @Option.getD_none.{0}) (And.intro @Bool.not_true @Bool.not_false)) (And.intro (And.intro @Bool.and_true @Bool.true_and) (And.intro @Bool.false_and @Bool.and_false)))) (And.intro (And.intro (And.intro (And.intro @Bool.or_true @Bool.true_or) (And.intro @Bool.or_false @Bool.false_or)) (And.intro (And.intro @Bool.and_eq_true @Bool.not_eq_true) (And.intro @Bool.true_eq_false @Bool.false_eq_true))) (And.intro (And.intro (And.intro @bne_iff_ne.{0} @beq_self_eq_true.{0}) (And.intro @beq_iff_eq.{0} @decide_true)) (And.intro (And.intro @decide_false @decide_eq_true_eq) (And.intro @decide_eq_false_iff_not @Nat.lt_irrefl))))) (And.intro (And.intro (And.intro (And.intro @Nat.le_refl (And.intro @Int.toNat_natCast @Int.natCast_nonneg)) (And.intro (And.intro @Nat.zero_add @Nat.add_zero) (And.intro @Nat.succ_ne_self @not_true_eq_false))) (And.intro (And.intro (And.intro @not_false_eq_true @true_and) (And.intro @and_true @false_and)) (And.intro (And.intro @and_false @and_self) (And.intro @or_true @true_or)))) (And.intro (And.intro (And.intro (And.intro @or_false @false_or) (And.intro @Nat.zero_lt_succ @Nat.lt_add_one)) (And.intro (And.intro @List.length_singleton.{0} @Nat.zero_le) (And.intro @Nat.sub_zero @Nat.sub_self))) (And.intro (And.intro (And.intro @beqT @beqF) (And.intro @wrap_i64 @List.getElem?_map.{0, 0})) (And.intro (And.intro @Int.natCast_zero @Int.natCast_add) (And.intro @Int.natCast_one @List.take_zero.{0}))))))) :=
  (And.intro (And.intro (And.intro (And.intro (And.intro (And.intro @step_def (And.intro @skip_def @putE_some)) (And.intro (And.intro @putE_none @hup_none) (And.intro @hup_some @upd_app))) (And.intro (And.intro (And.intro @forget_app @entry_env) (And.intro @entry_H @entry_nx)) (And.intro (And.intro @entry_sz @ofL_app) (And.intro @ofH_app @bin_add)))) (And.intro (And.intro (And.intro @bin_sub (And.intro @bin_mul @bin_eql)) (And.intro (And.intro @bin_neq @bin_lss) (And.intro @bin_leq @bin_gtr))) (And.intro (And.intro (And.intro @bin_geq @sbin_eql) (And.intro @sbin_neq @sbin_lss)) (And.intro (And.intro @sbin_leq @sbin_gtr) (And.intro @sbin_geq @un_not))))) (And.intro (And.intro (And.intro (And.intro @un_neg (And.intro @max_two @min_two)) (And.intro (And.intro @bs_size @bs_extract) (And.intro @List.map_cons.{0, 0} @List.map_nil.{0, 0}))) (And.intro (And.intro (And.intro @List.append_nil.{0} @List.nil_append.{0}) (And.intro @List.cons_append.{0} @List.getElem?_cons_zero.{0})) (And.intro (And.intro @List.getElem?_cons_succ.{0} @List.getElem?_nil.{0}) (And.intro @List.lookup_cons.{0, 0} @List.lookup_nil.{0, 0})))) (And.intro (And.intro (And.intro (And.intro @List.take_succ_cons.{0} @List.drop_succ_cons.{0}) (And.intro @List.drop_zero.{0} @List.take_nil.{0})) (And.intro (And.intro @List.drop_nil.{0} @List.length_cons.{0}) (And.intro @List.length_nil.{0} @List.length_map.{0, 0}))) (And.intro (And.intro (And.intro @List.all_cons.{0} @List.all_nil.{0}) (And.intro @List.flatMap_cons.{0, 0} @List.flatMap_nil.{0, 0})) (And.intro (And.intro @List.toList_toArray.{0} @List.reverse_cons.{0}) (And.intro @List.reverse_nil.{0} @List.contains_cons.{0})))))) (And.intro (And.intro (And.intro (And.intro (And.intro @List.contains_nil.{0} (And.intro @List.filterMap_cons.{0, 0} @List.filterMap_nil.{0, 0})) (And.intro (And.intro @Option.map_some.{0, 0} @Option.map_none.{0, 0}) (And.intro @Option.isSome_some.{0} @Option.isSome_none.{0}))) (And.intro (And.intro (And.intro @Option.getD_some.{0} @Option.getD_none.{0}) (And.intro @Bool.not_true @Bool.not_false)) (And.intro (And.intro @Bool.and_true @Bool.true_and) (And.intro @Bool.false_and @Bool.and_false)))) (And.intro (And.intro (And.intro (And.intro @Bool.or_true @Bool.true_or) (And.intro @Bool.or_false @Bool.false_or)) (And.intro (And.intro @Bool.and_eq_true @Bool.not_eq_true) (And.intro @Bool.true_eq_false @Bool.false_eq_true))) (And.intro (And.intro (And.intro @bne_iff_ne.{0} @beq_self_eq_true.{0}) (And.intro @beq_iff_eq.{0} @decide_true)) (And.intro (And.intro @decide_false @decide_eq_true_eq) (And.intro @decide_eq_false_iff_not @Nat.lt_irrefl))))) (And.intro (And.intro (And.intro (And.intro @Nat.le_refl (And.intro @Int.toNat_natCast @Int.natCast_nonneg)) (And.intro (And.intro @Nat.zero_add @Nat.add_zero) (And.intro @Nat.succ_ne_self @not_true_eq_false))) (And.intro (And.intro (And.intro @not_false_eq_true @true_and) (And.intro @and_true @false_and)) (And.intro (And.intro @and_false @and_self) (And.intro @or_true @true_or)))) (And.intro (And.intro (And.intro (And.intro @or_false @false_or) (And.intro @Nat.zero_lt_succ @Nat.lt_add_one)) (And.intro (And.intro @List.length_singleton.{0} @Nat.zero_le) (And.intro @Nat.sub_zero @Nat.sub_self))) (And.intro (And.intro (And.intro @beqT @beqF) (And.intro @wrap_i64 @List.getElem?_map.{0, 0})) (And.intro (And.intro @Int.natCast_zero @Int.natCast_add) (And.intro @Int.natCast_one @List.take_zero.{0})))))))
end Go.Proofs.YtafipkbffboebaaDoor
namespace Go.Proofs.YtafipkbffboebaaDoor
open Go Go.RowKit
set_option linter.unusedVariables false
set_option linter.unusedSimpArgs false
def Cap.ren (ρ : Nat → Nat) : Cap → Cap
  | .d x => .d x
  | .own id off => .own (ρ id) off
def CV.ren (ρ : Nat → Nat) : CV → CV
  | .any => .any
  | .d x => .d x
  | .own id off => .own (ρ id) off
  | .app τ sz xs => .app (ρ τ) sz xs
  | .full sz xs => .full sz xs
  | .view id sz off len => .view (ρ id) sz off len
  | .clo f caps => .clo f (caps.map (Cap.ren ρ))
  | .bnd f caps => .bnd f (caps.map (Cap.ren ρ))
  | .yld id => .yld (ρ id)
  | .mt τ k => .mt (ρ τ) k
  | .mpt τ k o => .mpt (ρ τ) k o
  | .mp id => .mp (ρ id)
def SV.ren (ρ : Nat → Nat) : SV → SV
  | .c x => .c (x.ren ρ)
  | .agg cs => .agg (cs.map (CV.ren ρ))
def HE.ren (ρ : Nat → Nat) : HE → HE
  | .cells cs => .cells (cs.map (CV.ren ρ))
  | .froz ds => .froz ds
  | .row e sz n => .row e sz n
  | .obj o => .obj o
  | .mrow e sz n cs => .mrow e sz n (cs.map (CV.ren ρ))
  | .ob cs p => .ob (cs.map (CV.ren ρ)) p
def Hp.ren (ρ : Nat → Nat) (H : Hp) : Hp := fun i => (H (ρ i)).map (HE.ren ρ)
def G.ren (ρ : Nat → Nat) (g : G) : G := ⟨g.K, fun i => g.β (ρ i), fun i => g.cap (ρ i)⟩
theorem isRow_ren (ρ : Nat → Nat) (H : Hp) (i : Nat) : isRow (H.ren ρ i) = isRow (H (ρ i)) := by
  unfold Hp.ren
  cases H (ρ i) with
  | none => rfl
  | some he => cases he <;> rfl
theorem own_ren {ρ : Nat → Nat} (hρ : ∀ i, ρ (ρ i) = i) {g : G} {H : Hp} {id off : Nat} {v : Value} (r : RepC g H (.own id off) v) : RepC (g.ren ρ) (H.ren ρ) (.own (ρ id) off) v := by
  obtain ⟨b, hb, rfl, hr⟩ := r
  exact ⟨b, by show g.β (ρ (ρ id)) = _; rw [hρ]; exact hb, rfl, by rw [isRow_ren, hρ]; exact hr⟩
theorem rep_ren {ρ : Nat → Nat} (hρ : ∀ i, ρ (ρ i) = i) {g : G} {H : Hp} {x : CV} {v : Value} (r : RepC g H x v) : RepC (g.ren ρ) (H.ren ρ) (x.ren ρ) v := by
  cases x with
  | any => trivial
  | d x => exact r
  | full sz xs => exact r
  | own id off => exact own_ren hρ r
  | app τ sz xs =>
    obtain ⟨h1, e, n, hrow, hl, hf⟩ := r
    refine ⟨h1, e, n, by show Hp.ren ρ H (ρ τ) = _; unfold Hp.ren; rw [hρ, hrow]; rfl, hl, fun hn => ?_⟩
    rcases hf hn with h | ⟨b, hb, hv⟩
    · exact .inl h
    · exact .inr ⟨b, by show g.β (ρ (ρ τ)) = _; rw [hρ]; exact hb, by show _ = Value.slice _ _ (g.cap (ρ (ρ τ))); rw [hρ]; exact hv⟩
  | view id sz off len =>
    obtain ⟨b, c, hb, rfl, hc, hr⟩ := r
    exact ⟨b, c, by show g.β (ρ (ρ id)) = _; rw [hρ]; exact hb, rfl, hc, by rw [isRow_ren, hρ]; exact hr⟩
  | clo f caps =>
    obtain ⟨vs, hv, hl, hc⟩ := r
    refine ⟨vs, hv, by simpa using hl, fun j c u hj hu => ?_⟩
    simp only [List.getElem?_map, Option.map_eq_some_iff] at hj
    obtain ⟨c0, hj0, rfl⟩ := hj
    have := hc j c0 u hj0 hu
    cases c0 with
    | d x => exact this
    | own id off => exact own_ren hρ this
  | bnd f caps =>
    obtain ⟨vs, hv, hl, hc⟩ := r
    refine ⟨vs, hv, by simpa using hl, fun j c u hj hu => ?_⟩
    simp only [List.getElem?_map, Option.map_eq_some_iff] at hj
    obtain ⟨c0, hj0, rfl⟩ := hj
    have := hc j c0 u hj0 hu
    cases c0 with
    | d x => exact this
    | own id off => exact own_ren hρ this
  | mp id =>
    obtain ⟨b, hb, hv, hr⟩ := r
    exact ⟨b, by show g.β (ρ (ρ id)) = _; rw [hρ]; exact hb, hv, by rw [isRow_ren, hρ]; exact hr⟩
  | mt τ k => exact mut_at r (fun e sz n cs q => ⟨cs.map (CV.ren ρ), by show Hp.ren ρ H (ρ τ) = _; unfold Hp.ren; rw [hρ, q]; rfl, by simp⟩) (by show g.β (ρ (ρ τ)) = _; rw [hρ]) (by show g.cap (ρ (ρ τ)) = _; rw [hρ])
  | mpt τ k o => exact mpt_at r (fun e sz n cs q => ⟨cs.map (CV.ren ρ), by show Hp.ren ρ H (ρ τ) = _; unfold Hp.ren; rw [hρ, q]; rfl, by simp⟩) (by show g.β (ρ (ρ τ)) = _; rw [hρ])
  | yld id =>
    obtain ⟨b, hb, hv, hr⟩ := r
    exact ⟨b, by show g.β (ρ (ρ id)) = _; rw [hρ]; exact hb, hv, by rw [isRow_ren, hρ]; exact hr⟩
theorem reps_ren {ρ : Nat → Nat} (hρ : ∀ i, ρ (ρ i) = i) {g : G} {H : Hp} {cs : List CV} {vs : List Value} (r : RepCs g H cs vs) : RepCs (g.ren ρ) (H.ren ρ) (cs.map (CV.ren ρ)) vs :=
  ⟨by simpa using r.1, fun j x v hx hv => by
    simp only [List.getElem?_map, Option.map_eq_some_iff] at hx
    obtain ⟨x0, hx0, rfl⟩ := hx
    exact rep_ren hρ (r.2 j x0 v hx0 hv)⟩
theorem ren_id {ρ : Nat → Nat} {x : CV} (h : ∀ i ∈ x.ids, False) : x.ren ρ = x := by
  cases x with
  | own id off => exact (h id (by simp [CV.ids])).elim
  | app τ sz xs => exact (h τ (by simp [CV.ids])).elim
  | view id sz off len => exact (h id (by simp [CV.ids])).elim
  | yld id => exact (h id (by simp [CV.ids])).elim
  | mt τ k => exact (h τ (by simp [CV.ids])).elim
  | mpt τ k o => exact (h τ (by simp [CV.ids])).elim
  | mp id => exact (h id (by simp [CV.ids])).elim
  | clo f caps =>
    show CV.clo f (caps.map (Cap.ren ρ)) = _
    congr 1
    conv => rhs; rw [← List.map_id caps]
    apply List.map_congr_left
    intro c hc
    cases c with
    | d x => rfl
    | own id off => exact (h id (by simp only [CV.ids, List.mem_flatMap]; exact ⟨_, hc, by simp [Cap.ids]⟩)).elim
  | bnd f caps =>
    show CV.bnd f (caps.map (Cap.ren ρ)) = _
    congr 1
    conv => rhs; rw [← List.map_id caps]
    apply List.map_congr_left
    intro c hc
    cases c with
    | d x => rfl
    | own id off => exact (h id (by simp only [CV.ids, List.mem_flatMap]; exact ⟨_, hc, by simp [Cap.ids]⟩)).elim
  | _ => rfl
theorem mrow_ren {ρ : Nat → Nat} (hρ : ∀ i, ρ (ρ i) = i) {g : G} {H : Hp} {w : World} {i e sz n : Nat} {cs : List CV} (h : HoldsE g H w (ρ i) (.mrow e sz n cs)) : HoldsE (g.ren ρ) (H.ren ρ) w i (.mrow e sz n (cs.map (CV.ren ρ))) := by
  obtain ⟨h1, h2, h3⟩ := h
  refine ⟨h1, by rw [List.length_map]; exact h2, ?_⟩
  rcases h3 with ⟨h4, h5⟩ | ⟨b, cur, vs, rest, h4, h5, h6, h7, h8, h9, h10⟩
  · exact .inl ⟨h4, by rw [h5]; rfl⟩
  · exact .inr ⟨b, cur, vs, rest, h4, h5, h6, h7, reps_ren hρ h8, h9, h10⟩
theorem ob_ren {ρ : Nat → Nat} (hρ : ∀ i, ρ (ρ i) = i) {g : G} {H : Hp} {w : World} {i : Nat} {cs : List CV} {p : List Value → Obj → Prop} (h : HoldsE g H w (ρ i) (.ob cs p)) : HoldsE (g.ren ρ) (H.ren ρ) w i (.ob (cs.map (CV.ren ρ)) p) := by
  obtain ⟨b, vs, o, h4, h5, h8, h9, h10⟩ := h
  exact ⟨b, vs, o, h4, h5, reps_ren hρ h8, h9, h10⟩
/-- Boxes change their numbers (ρ is its own inverse); nothing is lent. -/
theorem Weak.ren {σ : St} (ρ : Nat → Nat) (hρ : ∀ i, ρ (ρ i) = i) (hfx : σ.fx.lent = [] ∧ σ.fx.dfs = []) : Weak σ ⟨fun t => (σ.env t).ren ρ, σ.H.ren ρ, σ.nx, σ.sz, σ.fx⟩ := by
  intro W0 K0 g a w r
  have hln : W0.ln = [] := r.ln.trans hfx.1
  refine ⟨g.ren ρ, ⟨r.mem.below, r.mem.ext, r.mem.kw, fun i he hi => ?_, fun i b hi => r.mem.base _ b hi, fun i hi => ?_, fun i j b hi hj => ?_, fun i b hi => r.mem.frozlt _ b hi, r.mem.glob, fun x v hx h => ?_⟩, fun t => ?_, r.size, ?_, r.ln, r.rd, r.nodup, r.lt⟩
  · have hi : (σ.H (ρ i)).map (HE.ren ρ) = some he := hi
    cases hq : σ.H (ρ i) with
    | none => rw [hq] at hi; cases hi
    | some he0 =>
      rw [hq] at hi
      have hi : he0.ren ρ = he := by simpa using hi
      subst hi
      have := r.mem.holds (ρ i) he0 hq
      cases he0 with
      | cells cs =>
        obtain ⟨b, vs, t, h1, h2, h3, h4, h5⟩ := this
        exact ⟨b, vs, t, h1, h2, reps_ren hρ h3, h4, h5⟩
      | froz ds => exact this
      | row e sz n => exact this
      | mrow e sz n cs => exact mrow_ren hρ this
      | ob cs p => exact ob_ren hρ this
      | obj o => exact this
  · have hi : (σ.H (ρ i)).map (HE.ren ρ) = none := hi
    cases hq : σ.H (ρ i) with
    | none => exact r.mem.dom _ hq
    | some he0 => rw [hq] at hi; cases hi
  · have := r.mem.sep (ρ i) (ρ j) b hi hj
    rw [← hρ i, ← hρ j, this]
  · have h0 : ∀ i ∈ x.ids, False := fun i hi => by have := hx i hi; rw [hln] at this; cases this
    have := rep_ren hρ (r.mem.lent x v hx h)
    rwa [ren_id h0] at this
  · have := r.env t
    show RepS _ _ ((σ.env t).ren ρ) _
    cases hs : σ.env t with
    | c x => rw [hs] at this; exact rep_ren hρ this
    | agg cs =>
      rw [hs] at this
      obtain ⟨vs, hv, hr, h1⟩ := this
      exact ⟨vs, hv, reps_ren hρ hr, h1⟩
  · have := r.defers
    show DefsRel _ _ σ.fx.dfs a.defers
    rw [hfx.2] at this ⊢
    cases hq : a.defers with
    | nil => trivial
    | cons x y => rw [hq] at this; exact this.elim
end Go.Proofs.YtafipkbffboebaaDoor
namespace Go.Proofs.YtafipkbffboebaaDoor
open Go Go.RowKit
set_option linter.unusedVariables false
set_option linter.unusedSimpArgs false
end Go.Proofs.YtafipkbffboebaaDoor
