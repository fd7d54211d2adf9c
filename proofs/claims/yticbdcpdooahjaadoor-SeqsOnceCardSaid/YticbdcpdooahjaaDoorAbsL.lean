/- The abstract machine: code; functions. -/
import Derived.Test.YticbdcpdooahjaaDoorAbsK
import Derived.Scope
namespace Go.Proofs.YticbdcpdooahjaaDoor
open Go Go.RowKit
set_option linter.unusedVariables false
set_option linter.unusedSimpArgs false
/-- What the machine may forget or see otherwise. -/
def Weak (σ σ' : St) : Prop := ∀ W0 K0 g a w, Rel W0 K0 g σ a w → ∃ g', Rel W0 K0 g' σ' a w
theorem Weak.refl (σ : St) : Weak σ σ := fun _ _ g _ _ h => ⟨g, h⟩
theorem Weak.trans {σ σ' σ'' : St} (h : Weak σ σ') (h' : Weak σ' σ'') : Weak σ σ'' := fun W0 K0 g a w r => let ⟨g', r'⟩ := h W0 K0 g a w r; h' W0 K0 g' a w r'
/-- THE MACHINE's WEAKEST PRECONDITION. -/
def Wp (P : Program) (c : Code) (σ : St) (Q : Exit → St → Prop) : Prop := ∀ W0 K0 g a w, Rel W0 K0 g σ a w → c.wpIn (fen W0.ro) 0 P (fun e a' w' => ∃ g' σ', Rel W0 K0 g' σ' a' w' ∧ Q e σ') a w
def thenQ (K : St → Prop) (Q : Exit → St → Prop) : Exit → St → Prop
  | .normal, σ => K σ
  | e, σ => Q e σ
def blockQ (id : Nat) (Q : Exit → St → Prop) : Exit → St → Prop
  | .exit i, σ => if i = id then Q .normal σ else Q (.exit i) σ
  | e, σ => Q e σ
section
variable {P : Program} {σ : St} {Q : Exit → St → Prop}
theorem Wp.weak {c : Code} {σ' : St} (hw : Weak σ σ') (h : Wp P c σ' Q) : Wp P c σ Q := fun W0 K0 g a w r => let ⟨g', r'⟩ := hw W0 K0 g a w r; h W0 K0 g' a w r'
theorem Wp.mono {c : Code} {Q' : Exit → St → Prop} (h : Wp P c σ Q) (hq : ∀ e σ, Q e σ → Q' e σ) : Wp P c σ Q' := fun W0 K0 g a w r =>
  wpIn_mono (h W0 K0 g a w r) (fun e a' w' ⟨g', σ', hr, hQ⟩ => ⟨g', σ', hr, hq e σ' hQ⟩)
theorem Wp.skip (h : Q .normal σ) : Wp P .skip σ Q := fun _ _ g _ _ r => wpIn_skip ⟨g, σ, r, h⟩
theorem Wp.ret (h : Q .ret σ) : Wp P .ret σ Q := fun _ _ g _ _ r => wpIn_ret ⟨g, σ, r, h⟩
theorem Wp.exit {id : Nat} (h : Q (.exit id) σ) : Wp P (.exit id) σ Q := fun _ _ g _ _ r => wpIn_exit ⟨g, σ, r, h⟩
theorem Wp.label {l : Nat} (h : Q .normal σ) : Wp P (.label l) σ Q := fun _ _ g _ _ r => wpIn_label ⟨g, σ, r, h⟩
theorem Wp.seq {x y : Code} (h : Wp P x σ (thenQ (fun σ' => Wp P y σ' Q) Q)) : Wp P (.seq x y) σ Q := fun W0 K0 g a w r =>
  wpIn_seq (wpIn_mono (h W0 K0 g a w r) (fun e a' w' ⟨g', σ', hr, hQ⟩ => by
    cases e with
    | normal => exact hQ W0 K0 g' a' w' hr
    | _ => exact ⟨g', σ', hr, hQ⟩))
theorem Wp.block {id : Nat} {c : Code} (h : Wp P c σ (blockQ id Q)) : Wp P (.block id c) σ Q := fun W0 K0 g a w r =>
  wpIn_block (wpIn_mono (h W0 K0 g a w r) (fun e a' w' ⟨g', σ', hr, hQ⟩ => by
    cases e with
    | exit i =>
      simp only [blockQ] at hQ
      simp only [Exit.inBlock]
      split
      · rename_i e; rw [if_pos e] at hQ; exact ⟨g', σ', hr, hQ⟩
      · rename_i e; rw [if_neg e] at hQ; exact ⟨g', σ', hr, hQ⟩
    | _ => exact ⟨g', σ', hr, hQ⟩))
theorem Wp.cond {c : Operand} {x y : Code} {t : Bool} (hc : evalS σ.env c = .c (.d (.val (.bool t)))) (h1 : t = true → Wp P x σ Q) (h2 : t = false → Wp P y σ Q) : Wp P (.cond c x y) σ Q := fun W0 K0 g a w r => by
  have hv := evalS_rep r c
  rw [hc] at hv
  have hv : Rep g.K (.val (.bool t)) (a.eval c) := hv
  have hv' : a.eval c = .bool t := by
    generalize a.eval c = v at hv
    cases hv; rfl
  exact wpIn_cond_split hv' (fun e => h1 e W0 K0 g a w r) (fun e => h2 e W0 K0 g a w r)
theorem Wp.region {id : Nat} {all : List Oper} (h : ∀ K : St → Prop, (∀ σ', Q .normal σ' → K σ') → aops P all all σ [] (fun σ' _ => K σ')) : Wp P (.region id all.toArray false) σ Q := fun W0 K0 g a w r =>
  wpIn_region_lit (aops_list (fun g' σ' tr a' w' hk hr => ⟨g', σ', hr, hk⟩) all g σ [] a w (h (fun σ' => Q .normal σ') (fun _ h => h)) r)
theorem Wp.drawn {id : Nat} {all : List Oper} (hm : P.follows .mixedOrders = true) (h : ∀ K : St → Prop, (∀ σ', Q .normal σ' → K σ') → aops P all all σ [] (fun σ' tr => okTr all tr = true ∧ K σ')) : Wp P (.region id all.toArray true) σ Q := fun W0 K0 g a w r =>
  wp_region_drawn hm (k := fun σ' _ => Q .normal σ') (fun g' σ' tr a' w' hk hr => ⟨g', σ', hr, hk⟩) (h (fun σ' => Q .normal σ') (fun _ h => h)) r
theorem Wp.seqRegion {id : Nat} {all : List Oper} {y : Code} (h : ∀ K : St → Prop, (∀ σ', Wp P y σ' Q → K σ') → aops P all all σ [] (fun σ' _ => K σ')) : Wp P (.seq (.region id all.toArray false) y) σ Q :=
  Wp.seq (Wp.region (fun K hK => h K hK))
theorem Wp.seqDrawn {id : Nat} {all : List Oper} {y : Code} (hm : P.follows .mixedOrders = true) (h : ∀ K : St → Prop, (∀ σ', Wp P y σ' Q → K σ') → aops P all all σ [] (fun σ' tr => okTr all tr = true ∧ K σ')) : Wp P (.seq (.region id all.toArray true) y) σ Q :=
  Wp.seq (Wp.drawn hm (fun K hK => h K hK))
theorem wpIn_loop_ix {F : Fence} {ι : Type} {c : Code} {Q : Exit → Act → World → Prop} {a : Act} {w : World} (I : ι → Act → World → Prop) (μ : ι → Nat) (i0 : ι) (h₀ : I i0 a w)
    (round : ∀ i a w, I i a w → c.wpIn F 0 P (Exit.then (fun a' w' => ∃ j, I j a' w' ∧ μ j < μ i) Q) a w) : (Code.loop c).wpIn F 0 P Q a w := by
  intro b k cs hro hb hr
  have key : ∀ n i a w, μ i = n → I i a w →
      ∃ e a' w', Q e a' w' ∧ ArrivesIn (Machine.fenced P F) P (lone (b.atR a (.code c :: .inLoop c :: k)) cs w) b k cs e a' w' := by
    intro n
    induction n using Nat.strongRecOn with
    | _ n ih =>
      intro i a w hn hI
      obtain ⟨e, a₁, w₁, hq, harr⟩ := round i a w hI b (.inLoop c :: k) cs hro hb hr
      cases e with
      | normal =>
        obtain ⟨j, hI₁, hlt⟩ := hq
        obtain ⟨e₂, a₂, w₂, hq₂, harr₂⟩ := ih (μ j) (hn ▸ hlt) j a₁ w₁ rfl hI₁
        exact ⟨e₂, a₂, w₂, hq₂, .of_steps (StepsIn.trans harr (.one (fenced_calm hb hr rfl) stepR_inLoop)) harr₂⟩
      | exit id => exact ⟨_, a₁, w₁, hq, .pass (x := .inLoop c) rfl (fun _ _ => .inl (by simp)) harr⟩
      | goto l => exact ⟨_, a₁, w₁, hq, .pass (x := .inLoop c) rfl (fun _ _ => .inl (by simp)) harr⟩
      | ret => exact ⟨_, a₁, w₁, hq, .pass (x := .inLoop c) rfl (fun _ _ => .inl (by simp)) harr⟩
      | panic ch => exact ⟨_, a₁, w₁, hq, .pass (x := .inLoop c) rfl (fun _ _ => .inl (by simp)) harr⟩
      | outgrown => exact ⟨_, a₁, w₁, hq, .pass (x := .inLoop c) rfl (fun _ _ => .inl (by simp)) harr⟩
  obtain ⟨e, a', w', hq, harr⟩ := key _ i0 a w rfl h₀
  exact ⟨e, a', w', hq, .of_steps (.one (fenced_calm hb hr rfl) stepR_loop) harr⟩
/-- A loop: the family S of the frames at its head. -/
theorem Wp.loop {c : Code} {ι : Type} (S : ι → St) (Pre : ι → Prop) (μ : ι → Nat) (i0 : ι) (h0 : Pre i0) (hw : Weak σ (S i0))
    (round : ∀ i, Pre i → Wp P c (S i) (thenQ (fun σ' => ∃ j, Pre j ∧ μ j < μ i ∧ Weak σ' (S j)) Q)) : Wp P (.loop c) σ Q := by
  intro W0 K0 g a w r
  obtain ⟨g0, r0⟩ := hw W0 K0 g a w r
  refine wpIn_loop_ix (fun i a w => ∃ g, Pre i ∧ Rel W0 K0 g (S i) a w) μ i0 ⟨g0, h0, r0⟩ ?_
  rintro i a w ⟨g, hi, hr⟩
  refine wpIn_mono (round i hi W0 K0 g a w hr) (fun e a' w' ⟨g2, σ2, hr2, hQ⟩ => ?_)
  cases e with
  | normal =>
    obtain ⟨j, hj, hlt, hwk⟩ := hQ
    obtain ⟨g3, hr3⟩ := hwk W0 K0 g2 a' w' hr2
    exact ⟨j, ⟨g3, hj, hr3⟩, hlt⟩
  | _ => exact ⟨g2, σ2, hr2, hQ⟩
end
/-! functions -/
def retV (P : Program) (σ : St) : ResultVar → Option D
  | .tmp t => (σ.env t).toD σ.H
  | .cell a t => match aLoad P t σ.H (σ.env a) with
    | some r => r.v.toD σ.H
    | none => none
def retD (P : Program) (σ : St) (rs : List ResultVar) : Option D :=
  match rs with
  | [r] => retV P σ r
  | rs => match mapO (retV P σ) rs with
    | some ds => some (.tup ds)
    | none => none
def bodyQ (P : Program) (rs : List ResultVar) (r : D) : Exit → St → Prop
  | .normal, σ => retD P σ rs = some r
  | .ret, σ => retD P σ rs = some r
  | _, _ => False
def resM (tmps : Array Value) : ResultVar → Sem Value
  | .tmp t => pure (tmps.getD t undef)
  | .cell b t => do loadVar t (← asAddr (tmps.getD b undef))
theorem results_eq (fn : Func) (tmps : Array Value) : results fn tmps = (do
    let vs ← fn.results.mapM (resM tmps)
    pure (if h : vs.size = 1 then vs[0] else .tuple vs)) := by
  unfold results
  have key : ∀ m m' : ResultVar → Sem Value, m = m' → (do
      let vs ← fn.results.mapM m
      pure (if h : vs.size = 1 then vs[0] else .tuple vs) : Sem Value) = (do
      let vs ← fn.results.mapM m'
      pure (if h : vs.size = 1 then vs[0] else .tuple vs)) := by rintro _ _ rfl; rfl
  exact key _ _ (funext fun x => by cases x <;> rfl)
theorem retV_sound {P : Program} {W0 : Fr} {K0 : Know} {g : G} {σ : St} {a : Act} {w : World} (hr : Rel W0 K0 g σ a w) {x : ResultVar} {d : D} (h : retV P σ x = some d) :
    ∃ v, (resM a.tmps x).run P w = .ok v w ∧ Rep g.K d v := by
  cases x with
  | tmp t => exact ⟨_, rfl, SV.toD_rep hr.mem (hr.env t) h⟩
  | cell b t =>
    simp only [retV] at h
    split at h
    · rename_i r hl
      obtain ⟨u, hrun, hv, _⟩ := load_run (P := P) hr.mem (hr.env b) hl
      refine ⟨u, ?_, SV.toD_rep hr.mem hv h⟩
      show Sem.run P (do loadVar t (← asAddr (a.tmps.getD b undef))) w = _
      generalize a.tmps.getD b undef = va at hrun
      unfold Instr.loadAt at hrun
      rw [Sem.run_bind] at hrun ⊢
      cases va with
      | pointer p => cases p with
        | some ad => exact hrun
        | none => cases hrun
      | _ => cases hrun
    · cases h
theorem results_sound {P : Program} {W0 : Fr} {K0 : Know} {g : G} {σ : St} {a : Act} {w : World} {fn : Func} (hr : Rel W0 K0 g σ a w) {d : D} (h : retD P σ fn.results.toList = some d) :
    ∃ v, (results fn a.tmps).run P w = .ok v w ∧ Rep g.K d v := by
  have hlist : ∀ (rs : List ResultVar) (ds : List D), mapO (retV P σ) rs = some ds → ∃ vs, (rs.mapM (resM a.tmps)).run P w = .ok vs w ∧ RepL g.K ds vs := by
    intro rs
    induction rs with
    | nil => intro ds hd; simp [mapO] at hd; subst hd; exact ⟨[], rfl, rfl, fun j x v hx => by simp at hx⟩
    | cons x rs ih =>
      intro ds hd
      simp only [mapO] at hd
      cases hx : retV P σ x with
      | none => rw [hx] at hd; cases hd
      | some y =>
        cases hm : mapO (retV P σ) rs with
        | none => rw [hx, hm] at hd; cases hd
        | some ys =>
          rw [hx, hm] at hd; cases hd
          obtain ⟨v, hv, hry⟩ := retV_sound hr hx
          obtain ⟨vs, hvs, hrs⟩ := ih ys hm
          refine ⟨v :: vs, ?_, by simp [hrs.1], fun j x v' hx hv' => ?_⟩
          · rw [List.mapM_cons, Sem.run_bind, hv]
            simp only [Result.andThen_ok, Sem.run_bind, hvs, Sem.run_pure]
          · cases j with
            | zero => simp at hx hv'; subst hx hv'; exact hry
            | succ j => exact hrs.2 j x v' (by simpa using hx) (by simpa using hv')
  have hrun : ∀ vs, (fn.results.toList.mapM (resM a.tmps)).run P w = .ok vs w →
      (results fn a.tmps).run P w = .ok (if h : vs.toArray.size = 1 then vs.toArray[0] else .tuple vs.toArray) w := by
    intro vs h
    rw [results_eq, Sem.run_bind, Array.mapM_eq_mapM_toList, Sem.run_map, h]
    rfl
  unfold retD at h
  split at h
  · rename_i r hrs
    obtain ⟨v, hv, hd⟩ := retV_sound hr h
    obtain ⟨vs, hvs, hL⟩ := hlist fn.results.toList [d] (by rw [hrs]; simp [mapO, h])
    refine ⟨_, hrun vs hvs, ?_⟩
    have hl : vs.length = 1 := by have := hL.1; simp at this; omega
    match vs, hl with
    | [u], _ => exact hL.2 0 d u rfl rfl
  · rename_i hns
    split at h
    · rename_i ds hds
      cases h
      obtain ⟨vs, hvs, hL⟩ := hlist fn.results.toList ds hds
      refine ⟨_, hrun vs hvs, ?_⟩
      have hl : ¬ vs.toArray.size = 1 := by
        have h1 := (mapO_get hds).1
        have h2 := hL.1
        intro e
        simp only [List.size_toArray] at e
        have h3 : fn.results.toList.length = 1 := by omega
        match hm : fn.results.toList, h3 with
        | [x], _ => exact hns x hm
      rw [dif_neg hl]
      exact .tup hL.1 hL.2
    · cases h
/-- Objects that are no cells aside, two memories are the same. -/
def AgO (H H' : Hp) : Prop := ∀ id, H' id = H id ∨ ∃ o o', H id = some (.obj o) ∧ H' id = some (.obj o')
theorem AgO.refl (H : Hp) : AgO H H := fun _ => .inl rfl
theorem AgO.toD {H H' : Hp} (h : AgO H H') (x : SV) : x.toD H' = x.toD H := by
  cases x with
  | c x =>
    cases x with
    | own id off =>
      simp only [SV.toD, CV.toD]
      rcases h id with e | ⟨o, o', e1, e2⟩
      · rw [e]
      · rw [e1, e2]
    | _ => rfl
  | agg cs => rfl
theorem AgO.load {H H' : Hp} (h : AgO H H') {P : Program} {t : TypeId} (x : SV) : aLoad P t H' x = aLoad P t H x := by
  cases x with
  | c x =>
    cases x with
    | own id off =>
      simp only [aLoad]
      rcases h id with e | ⟨o, o', e1, e2⟩
      · rw [e]
      · rw [e1, e2]
    | d x => cases x <;> rfl
    | _ => rfl
  | agg cs => rfl
theorem AgO.retV {P : Program} {σ : St} {H' : Hp} {fx : Fx} (h : AgO σ.H H') (x : ResultVar) : retV P { σ with H := H', fx := fx } x = retV P σ x := by
  cases x with
  | tmp t => exact h.toD _
  | cell a t =>
    show (match aLoad P t H' (σ.env a) with | some r => r.v.toD H' | none => none) = _
    simp only [Go.Proofs.YticbdcpdooahjaaDoor.retV]
    rw [h.load]
    cases aLoad P t σ.H (σ.env a) with
    | none => rfl
    | some r => exact h.toD _
theorem AgO.retD {P : Program} {σ : St} {H' : Hp} {fx : Fx} (h : AgO σ.H H') (rs : List ResultVar) : retD P { σ with H := H', fx := fx } rs = retD P σ rs := by
  have e : Go.Proofs.YticbdcpdooahjaaDoor.retV P { σ with H := H', fx := fx } = Go.Proofs.YticbdcpdooahjaaDoor.retV P σ := funext fun x => h.retV x
  unfold Go.Proofs.YticbdcpdooahjaaDoor.retD
  rw [e]
/-- A frame is left: the marks of its loops over functions are taken. -/
theorem leaves {P : Program} {F : Fr} {K0 : Know} {fn : Func} {R : Ending → World → Prop} : ∀ (dfs : List Nat) (ds : List Deferred) (g : G) (σ : St) (a : Act) (w : World), Rel F K0 g σ a w → σ.fx.dfs = dfs → a.defers = ds →
    (∀ g' H' a' w', Rel F K0 g' { σ with H := H', fx := { σ.fx with dfs := [] } } a' w' → AgO σ.H H' → a'.tmps = a.tmps → ∃ v, (results fn a.tmps).run P w' = .ok v w' ∧ R (.returned v) w') → LeavesInM Fence.wide 0 P fn a.tmps R ds .returning w
  | [], ds, g, σ, a, w, hr, hdf, hds, hfin => by
    have hd := hr.defers
    rw [hdf] at hd
    cases hq : a.defers with
    | cons d l => rw [hq] at hd; exact hd.elim
    | nil =>
      subst hds
      rw [hq]
      obtain ⟨v, h1, h2⟩ := hfin g σ.H a w ⟨hr.mem, hr.env, hr.size, by rw [hq]; trivial, hr.ln, hr.rd, List.nodup_nil, hr.lt⟩ (AgO.refl _) rfl
      exact ⟨v, h1, h2⟩
  | id :: dfs, ds, g, σ, a, w, hr, hdf, hds, hfin => by
    have hd := hr.defers
    rw [hdf] at hd
    have hnd := hr.nodup
    rw [hdf] at hnd
    cases hq : a.defers with
    | nil => rw [hq] at hd; exact hd.elim
    | cons d l =>
      subst hds
      rw [hq] at hd ⊢
      obtain ⟨⟨b, hb, rfl⟩, hH, hrest⟩ := hd
      obtain ⟨b', hb', hheap, _⟩ := hr.mem.holds id _ hH
      rw [hb] at hb'; cases hb'
      obtain ⟨hm, hle⟩ := hr.mem.setObj (.deferred none) hH hb
      have hne : ∀ i ∈ dfs, i ≠ id := fun i hi e => (List.nodup_cons.1 hnd).1 (e ▸ hi)
      have hrest' : DefsRel g (upd σ.H id (some (.obj (.deferred none)))) dfs l := by
        clear hdf hnd hq
        induction dfs generalizing l with
        | nil => cases l with
          | nil => trivial
          | cons _ _ => exact hrest.elim
        | cons i dfs ih => cases l with
          | nil => exact hrest.elim
          | cons e l =>
            obtain ⟨h1, h2, h3⟩ := hrest
            exact ⟨h1, by rw [upd_ne _ _ (hne i (by simp))]; exact h2, ih l h3 (fun j hj => hne j (by simp [hj]))⟩
      refine ⟨by simp, .inl ⟨b, _, rfl, run_takeDeferred hheap, ?_⟩⟩
      refine leaves dfs l g { σ with H := upd σ.H id (some (.obj (.deferred none))), fx := { σ.fx with dfs := dfs } } { a with defers := l } _ ⟨hm, fun t => (hr.env t).mono hle, hr.size, hrest', hr.ln, hr.rd, (List.nodup_cons.1 hnd).2, hr.lt⟩ rfl rfl ?_
      intro g' H' a' w' hr' hag ht
      refine hfin g' H' a' w' hr' (fun i => ?_) ht
      by_cases hi : i = id
      · subst hi
        rcases hag i with e | ⟨o, o', e1, e2⟩
        · exact .inr ⟨_, _, hH, e.trans (upd_same _ _ _)⟩
        · exact .inr ⟨_, _, hH, e2⟩
      · rcases hag i with e | ⟨o, o', e1, e2⟩
        · exact .inl (e.trans (upd_ne _ _ hi))
        · exact .inr ⟨o, o', (upd_ne _ _ hi).symm.trans e1, e2⟩
/-- The frame in which a body begins. -/
def entry (args : List D) (n : Nat) : St := ⟨fun t => match args[t]? with | some x => SV.ofD x | none => .c .any, fun _ => none, 0, n, 0⟩
theorem Fun.of_body {P : Program} {f : FuncId} {fn : Func} {c : Code} {args : List D} {r : D} {n : Nat} {rs : Array ResultVar} (hf : P.funcs[f]? = some fn) (hb : fn.body = some c) (hn : (fn.name == "runtime.NumGoroutine") = false) (hnt : fn.ntmps = n) (hrs : fn.results = rs) (hle : args.length ≤ n)
    (h : Wp P c (entry args n) (bodyQ P rs.toList r)) : Fun P f args r := by
  subst hnt hrs
  refine ⟨by unfold bodyOk; rw [hf]; simp only [hn, hb]; rfl, fun K w vs hB hk hL => ?_⟩
  have hl := hL.1
  refine callsIn_wide.1 (callsIn_of_wp_marks (F := Fence.wide) (n := 0) hf hb trivial (wpIn_mono (h (Fr.of w K) K ⟨K, fun _ => none, fun _ => 0⟩ _ w ⟨⟨Fr.of_below _ _, Fr.of_ext _ _, hk, ?_, ?_, ?_, ?_, ?_, hB, Fr.of_lent _ _⟩, ?_, ?_, trivial, rfl, rfl, List.nodup_nil, fun _ h => by cases h⟩) ?_))
  · intro id he hid; cases hid
  · intro id b hb; cases hb
  · intro id _; rfl
  · intro i j b hb; cases hb
  · intro i b hb; cases hb
  · intro t
    show RepS _ _ (match args[t]? with | some x => SV.ofD x | none => .c .any) _
    cases ht : args[t]? with
    | none => trivial
    | some x =>
      have hlt : t < vs.length := by have := (List.getElem?_eq_some_iff.1 ht).1; omega
      have hv : (vs.toArray ++ Array.replicate (fn.ntmps - vs.toArray.size) undef).getD t undef = vs[t] := by
        rw [Array.getD_eq_getD_getElem?, Array.getElem?_append_left (by simpa using hlt)]
        simp [hlt]
      rw [hv]
      exact ofD_rep (hL.2 t x _ ht (List.getElem?_eq_getElem hlt)) _ _ rfl
  · show _ = fn.ntmps
    simp; omega
  · rintro e a' w' ⟨g', σ', hr, hQ⟩
    have fin : retD P σ' fn.results.toList = some r → LeavesInM Fence.wide 0 P fn a'.tmps (fun e w' => ∃ v K', e = .returned v ∧ Ext K K' w.heap.size ∧ KW K' w' ∧ Rep K' r v ∧ Below w.heap.size w w') a'.defers .returning w' := by
      intro hret
      refine leaves _ _ g' σ' a' w' hr rfl rfl (fun g2 H2 a2 w2 hr2 hag ht => ?_)
      obtain ⟨v, hv, hd⟩ := results_sound hr2 (fn := fn) (by rw [hag.retD]; exact hret)
      rw [ht] at hv
      exact ⟨v, hv, v, g2.K, rfl, hr2.mem.ext.of, hr2.mem.kw, hd, hr2.mem.below.of⟩
    cases e with
    | normal => exact fin hQ
    | ret => exact fin hQ
    | _ => exact hQ.elim
def retA (σ : St) (rs : List ResultVar) (e sz : Nat) (xs : List (List D)) : Prop := match rs with
  | [.tmp t] => (∃ τ, σ.env t = .c (.app τ sz xs) ∧ σ.H τ = some (.row e sz xs.length)) ∨ σ.env t = .c (.full sz xs) ∨ (σ.env t = .c (.d (.val (.slice none 0 0))) ∧ xs = [])
  | _ => False
theorem AgO.retA {σ : St} {H' : Hp} {fx : Fx} (h : AgO σ.H H') {rs : List ResultVar} {e sz : Nat} {xs : List (List D)} (hr : Go.Proofs.YticbdcpdooahjaaDoor.retA σ rs e sz xs) : Go.Proofs.YticbdcpdooahjaaDoor.retA { σ with H := H', fx := fx } rs e sz xs := by
  unfold Go.Proofs.YticbdcpdooahjaaDoor.retA at *
  split at hr
  · rcases hr with ⟨τ, h1, h2⟩ | h1 | h1
    · refine .inl ⟨τ, h1, ?_⟩
      rcases h τ with e | ⟨o, o', e1, e2⟩
      · exact e.trans h2
      · rw [h2] at e1; cases e1
    · exact .inr (.inl h1)
    · exact .inr (.inr h1)
  · exact hr.elim
def bodyQA (rs : List ResultVar) (e sz : Nat) (xs : List (List D)) : Exit → St → Prop
  | .normal, σ => retA σ rs e sz xs
  | .ret, σ => retA σ rs e sz xs
  | _, _ => False
theorem FunA.of_body {P : Program} {f : FuncId} {fn : Func} {c : Code} {args : List D} {e sz : Nat} {xs : List (List D)} {n : Nat} {rs : Array ResultVar} (hf : P.funcs[f]? = some fn) (hb : fn.body = some c) (hn : (fn.name == "runtime.NumGoroutine") = false) (hnt : fn.ntmps = n) (hrs : fn.results = rs) (hle : args.length ≤ n)
    (h : Wp P c (entry args n) (bodyQA rs.toList e sz xs)) : FunA P f args e sz xs := by
  subst hnt hrs
  refine ⟨by unfold bodyOk; rw [hf]; simp only [hn, hb]; rfl, fun K w vs hB hk hL => ?_⟩
  have hl := hL.1
  refine callsIn_wide.1 (callsIn_of_wp_marks (F := Fence.wide) (n := 0) hf hb trivial (wpIn_mono (h (Fr.of w K) K ⟨K, fun _ => none, fun _ => 0⟩ _ w ⟨⟨Fr.of_below _ _, Fr.of_ext _ _, hk, ?_, ?_, ?_, ?_, ?_, hB, Fr.of_lent _ _⟩, ?_, ?_, trivial, rfl, rfl, List.nodup_nil, fun _ h => by cases h⟩) ?_))
  · intro id he hid; cases hid
  · intro id b hb; cases hb
  · intro id _; rfl
  · intro i j b hb; cases hb
  · intro i b hb; cases hb
  · intro t
    show RepS _ _ (match args[t]? with | some x => SV.ofD x | none => .c .any) _
    cases ht : args[t]? with
    | none => trivial
    | some x =>
      have hlt : t < vs.length := by have := (List.getElem?_eq_some_iff.1 ht).1; omega
      have hv : (vs.toArray ++ Array.replicate (fn.ntmps - vs.toArray.size) undef).getD t undef = vs[t] := by
        rw [Array.getD_eq_getD_getElem?, Array.getElem?_append_left (by simpa using hlt)]
        simp [hlt]
      rw [hv]
      exact ofD_rep (hL.2 t x _ ht (List.getElem?_eq_getElem hlt)) _ _ rfl
  · show _ = fn.ntmps
    simp; omega
  · rintro ex a' w' ⟨g', σ', hr, hQ⟩
    have fin : retA σ' fn.results.toList e sz xs → LeavesInM Fence.wide 0 P fn a'.tmps (fun en w' => ∃ v K', en = .returned v ∧ Ext K K' w.heap.size ∧ KW K' w' ∧ Rep K' (.lst sz xs) v ∧ Appable K' w.heap.size w' e sz xs.length v ∧ Below w.heap.size w w') a'.defers .returning w' := by
      intro hret0
      refine leaves _ _ g' σ' a' w' hr rfl rfl (fun g2 H2 a2 w2 hr2 hag ht => ?_)
      have hret := hag.retA (fx := { σ'.fx with dfs := [] }) hret0
      generalize hσ2 : ({ σ' with H := H2, fx := { σ'.fx with dfs := [] } } : St) = σ2 at hr2 hret
      have hfin2 : ∃ v, (results fn a2.tmps).run P w2 = .ok v w2 ∧ ∃ v_1 K', Ending.returned v = .returned v_1 ∧ Ext K K' w.heap.size ∧ KW K' w2 ∧ Rep K' (.lst sz xs) v_1 ∧ Appable K' w.heap.size w2 e sz xs.length v_1 ∧ Below w.heap.size w w2 := by
        unfold retA at hret
        split at hret
        · rename_i t hrs
          have hres : ∀ d, (σ2.env t).toD σ2.H = some d → ∃ v, (results fn a2.tmps).run P w2 = .ok v w2 ∧ Rep g2.K d v := fun d hd => results_sound hr2 (by rw [hrs]; exact hd)
          have hval : ∀ v, (results fn a2.tmps).run P w2 = .ok v w2 → v = a2.tmps.getD t undef := fun v hv => by
            have hrs' : fn.results = #[.tmp t] := by apply Array.ext'; simpa using hrs
            unfold results at hv
            rw [hrs'] at hv
            simp at hv
            rw [← hv]; simp
          have henv := hr2.env t
          rcases hret with ⟨τ, h1, h2⟩ | h1 | ⟨h1, rfl⟩
          · obtain ⟨v, hv, hd⟩ := hres (.lst sz xs) (by rw [h1]; rfl)
            rw [h1, ← hval v hv] at henv
            obtain ⟨_, e', n', hrow, _, hfl⟩ := henv
            rw [h2] at hrow; cases hrow
            refine ⟨v, hv, v, g2.K, rfl, hr2.mem.ext.of, hr2.mem.kw, hd, ?_, hr2.mem.below.of⟩
            rcases hfl rfl with h | ⟨b, hb, hvb⟩
            · exact .inl h
            · obtain ⟨cur, q1, q2, q3, q4⟩ := hr2.mem.holds τ _ h2 b hb
              exact .inr ⟨b, _, cur, hvb, Fr.of_mine (hr2.mem.base τ b hb), q1, q2, q3, q4⟩
          · obtain ⟨v, hv, hd⟩ := hres (.lst sz xs) (by rw [h1]; rfl)
            rw [h1, ← hval v hv] at henv
            exact ⟨v, hv, v, g2.K, rfl, hr2.mem.ext.of, hr2.mem.kw, hd, .inl henv.2, hr2.mem.below.of⟩
          · obtain ⟨v, hv, hd⟩ := hres (.val (.slice none 0 0)) (by rw [h1]; rfl)
            cases hd
            exact ⟨_, hv, _, g2.K, rfl, hr2.mem.ext.of, hr2.mem.kw, rep_nil _ _, .inl ⟨none, rfl⟩, hr2.mem.below.of⟩
        · exact hret.elim
      rw [ht] at hfin2
      exact hfin2
    cases ex with
    | normal => exact fin hQ
    | ret => exact fin hQ
    | _ => exact hQ.elim
end Go.Proofs.YticbdcpdooahjaaDoor
