/- The machine: calls of functions to which boxes are lent by pointers. -/
import Derived.Test.YticbdcpdooahjaaDoorGfA
namespace Go.Proofs.YticbdcpdooahjaaDoor
open Go Go.RowKit
set_option linter.unusedVariables false
set_option linter.unusedSimpArgs false
/-! numbers that are turned about, by pairs -/
def swp : List (Nat × Nat) → Nat → Nat
  | [], i => i
  | p :: l, i => if i = p.1 then p.2 else if i = p.2 then p.1 else swp l i
def swNo (x : Nat) : List (Nat × Nat) → Bool
  | [] => true
  | p :: l => !(x == p.1) && (!(x == p.2) && swNo x l)
def swOk : List (Nat × Nat) → Bool
  | [] => true
  | p :: l => swNo p.1 l && (swNo p.2 l && (!(p.1 == p.2) && swOk l))
theorem swNo_swp : ∀ {l : List (Nat × Nat)} {x i : Nat}, swNo x l = true → swOk l = true → i ≠ x → swp l i ≠ x
  | [], x, i, h, _, hi => hi
  | p :: l, x, i, h, ho, hi => by
    simp only [swNo, Bool.and_eq_true, Bool.not_eq_true', beq_eq_false_iff_ne] at h
    simp only [swOk, Bool.and_eq_true] at ho
    unfold swp
    split
    · exact fun e => h.2.1 e.symm
    · split
      · exact fun e => h.1 e.symm
      · exact swNo_swp h.2.2 ho.2.2.2 hi
theorem swp_swp : ∀ {l : List (Nat × Nat)}, swOk l = true → ∀ i, swp l (swp l i) = i
  | [], _, i => rfl
  | p :: l, ho, i => by
    simp only [swOk, Bool.and_eq_true, Bool.not_eq_true', beq_eq_false_iff_ne] at ho
    by_cases h1 : i = p.1
    · have : swp (p :: l) i = p.2 := by unfold swp; rw [if_pos h1]
      rw [this]; unfold swp; rw [if_neg (fun e => ho.2.2.1 e.symm), if_pos rfl]; exact h1.symm
    · by_cases h2 : i = p.2
      · have : swp (p :: l) i = p.1 := by unfold swp; rw [if_neg h1, if_pos h2]
        rw [this]; unfold swp; rw [if_pos rfl]; exact h2.symm
      · have hs : ∀ j, ¬ j = p.1 → ¬ j = p.2 → swp (p :: l) j = swp l j := fun j h h' => by
          show (if j = p.1 then p.2 else if j = p.2 then p.1 else swp l j) = _
          rw [if_neg h, if_neg h']
        rw [hs i h1 h2]
        have a := swNo_swp (i := i) ho.1 ho.2.2.2 h1
        have b := swNo_swp (i := i) ho.2.1 ho.2.2.2 h2
        rw [hs _ a b]
        exact swp_swp ho.2.2.2 i
def Cap.sv : Cap → SV
  | .d x => SV.ofD x
  | .own id off => .c (.own id off)
def capsG : SV → Option (FuncId × List SV)
  | .c (.d (.fn (.func f) caps)) => some (f, caps.map SV.ofD)
  | .c (.clo (.func f) caps) => some (f, caps.map Cap.sv)
  | _ => none
theorem RepSs.append {g : G} {H : Hp} {a b : List SV} {u v : List Value} (h : RepSs g H a u) (h' : RepSs g H b v) : RepSs g H (a ++ b) (u ++ v) := by
  refine ⟨by simp [h.1, h'.1], fun j x y hx hy => ?_⟩
  have e := h.1
  rcases Nat.lt_or_ge j a.length with hj | hj
  · rw [List.getElem?_append_left hj] at hx
    rw [List.getElem?_append_left (by omega)] at hy
    exact h.2 j x y hx hy
  · rw [List.getElem?_append_right hj] at hx
    rw [List.getElem?_append_right (by omega), ← e] at hy
    exact h'.2 _ x y hx hy
theorem capsG_spec {g : G} {H : Hp} {x : SV} {v : Value} {f : FuncId} {cs : List SV} (hx : RepS g H x v) (h : capsG x = some (f, cs)) : ∃ vs : List Value, v = .func (.func f) #[] vs.toArray ∧ RepSs g H cs vs := by
  unfold capsG at h
  split at h
  · rename_i f' caps
    cases h
    have hx : Rep g.K (.fn (.func f) caps) v := hx
    cases hx with
    | fn hl hv =>
      rename_i vs
      refine ⟨vs, rfl, by simpa using hl, fun j x u hx hu => ?_⟩
      simp only [List.getElem?_map, Option.map_eq_some_iff] at hx
      obtain ⟨d, hd, rfl⟩ := hx
      exact ofD_rep (hv j d u hd hu) g H rfl
  · rename_i f' caps
    cases h
    obtain ⟨vs, hv, hl, hc⟩ := hx
    refine ⟨vs, hv, by simpa using hl, fun j x u hx hu => ?_⟩
    simp only [List.getElem?_map, Option.map_eq_some_iff] at hx
    obtain ⟨d, hd, rfl⟩ := hx
    have := hc j d u hd hu
    cases d with
    | d y => exact ofD_rep this g H rfl
    | own id off => exact this
  · cases h
/-- The boxes ks' are put where they stand in the caller's frame. -/
def putB (H : Hp) (ρ : Nat → Nat) (B' : Hp) : List Nat → Hp
  | [] => H
  | k :: ks => upd (putB H ρ B' ks) (ρ k) ((B' k).map (HE.ren ρ))
def atB (H : Hp) (ρ : Nat → Nat) (B : Hp) : List Nat → Prop
  | [] => True
  | k :: ks => H (ρ k) = (B k).map (HE.ren ρ) ∧ atB H ρ B ks
def newB (H : Hp) (ρ : Nat → Nat) (ks : List Nat) : List Nat → Prop
  | [] => True
  | k :: l => (ks.contains k = true ∨ H (ρ k) = none) ∧ newB H ρ ks l
theorem atB_mem {H : Hp} {ρ : Nat → Nat} {B : Hp} : ∀ {ks : List Nat}, atB H ρ B ks → ∀ k ∈ ks, H (ρ k) = (B k).map (HE.ren ρ)
  | k :: ks, h, j, hj => by
    rcases List.mem_cons.1 hj with rfl | hj
    · exact h.1
    · exact atB_mem h.2 j hj
theorem newB_mem {H : Hp} {ρ : Nat → Nat} {ks : List Nat} : ∀ {l : List Nat}, newB H ρ ks l → ∀ k ∈ l, ks.contains k = true ∨ H (ρ k) = none
  | k :: ks, h, j, hj => by
    rcases List.mem_cons.1 hj with rfl | hj
    · exact h.1
    · exact newB_mem h.2 j hj
theorem putB_eq {ρ : Nat → Nat} (hρ : ∀ i, ρ (ρ i) = i) (H B' : Hp) : ∀ (ks : List Nat), putB H ρ B' ks = (over ks (H.ren ρ) B').ren ρ
  | [] => by
    have : over [] (H.ren ρ) B' = H.ren ρ := by funext i; exact over_out rfl
    rw [this, Hp.ren_ren hρ]; rfl
  | k :: ks => by
    have ih := putB_eq hρ H B' ks
    funext i
    simp only [putB, ih]
    by_cases h : i = ρ k
    · subst h
      rw [upd_same]
      simp only [Hp.ren, hρ]
      rw [over_in (by simp)]
    · rw [upd_ne _ _ h]
      simp only [Hp.ren]
      have hne : ρ i ≠ k := fun e => h (by rw [← e, hρ])
      cases hc : ks.contains (ρ i) with
      | true => rw [over_in hc, over_in (by simp only [List.contains_cons, hc, Bool.or_true])]
      | false => rw [over_out hc, over_out (by simp only [List.contains_cons, hc, Bool.or_false]; simpa using hne)]
theorem DefsRel.mono' {g g' : G} {H H' : Hp} (hle : GLe g H g' H') : ∀ {l : List Nat} {ds : List Deferred}, (∀ id ∈ l, H' id = H id) → DefsRel g H l ds → DefsRel g' H' l ds
  | [], [], _, h => h
  | id :: l, d :: ds, ho, ⟨⟨b, hb, hd⟩, h2, h3⟩ => by
    refine ⟨?_, by rw [ho id (by simp)]; exact h2, DefsRel.mono' hle (fun i hi => ho i (by simp [hi])) h3⟩
    obtain ⟨b', hb', hv, _⟩ := hle (.own id 0) (.pointer (some ⟨b, 0, none⟩)) ⟨b, hb, rfl, by rw [h2]; rfl⟩
    simp only [Value.pointer.injEq, Option.some.injEq, Addr.mk.injEq, and_true] at hv
    exact ⟨b', hb', by rw [hd, hv]⟩
  | [], _ :: _, _, h => h.elim
  | _ :: _, [], _, h => h.elim
/-- A list of operations comes to k. -/
def GRun (P : Program) (all l : List Oper) (σ : St) (k : St → Prop) : Prop :=
  ∀ (F : Fr) (K0 : Know) (g : G) (a : Act) (w : World) (Q : Exit → Act → World → Prop), Rel F K0 g σ a w → (∀ g' σ' a' w', k σ' → Rel F K0 g' σ' a' w' → Q .normal a' w') → wpListIn (fen F.ro) 0 P all.toArray Q l a w
theorem GRun.done {P : Program} {all l : List Oper} {σ : St} {k : St → Prop} (h : ∀ K : St → Prop, (∀ σ', k σ' → K σ') → bops P all l σ [] (fun σ' _ => K σ')) : GRun P all l σ k := by
  intro F K0 g a w Q hr hk
  have := aops_app (all := all) (rest := []) (Q := Q) (ro := F.ro) (k := fun σ' _ => k σ') (fun g1 σ1 tr1 a1 w1 hk1 hr1 => show wpListIn _ _ _ _ _ [] a1 w1 from hk g1 σ1 a1 w1 hk1 hr1) l g σ [] a w (bops_aops (h _ (fun _ h => h))) hr
  rwa [List.append_nil] at this
theorem GRun.at (n : Nat) {P : Program} {all l : List Oper} {σ : St} {k : St → Prop} (h : ∀ K : St → Prop, (∀ σ', GRun P all (l.drop n) σ' k → K σ') → bops P all (l.take n) σ [] (fun σ' _ => K σ')) : GRun P all l σ k := by
  intro F K0 g a w Q hr hk
  have := aops_app (all := all) (rest := l.drop n) (Q := Q) (ro := F.ro) (k := fun σ' _ => GRun P all (l.drop n) σ' k) (fun g1 σ1 tr1 a1 w1 hk1 hr1 => hk1 F K0 g1 a1 w1 Q hr1 hk) (l.take n) g σ [] a w (bops_aops (h _ (fun _ h => h))) hr
  rwa [List.take_append_drop] at this
theorem GRun.skip {P : Program} {all : List Oper} {o : Oper} {os : List Oper} {σ : St} {k : St → Prop} (hg : guardB all σ.env o = some false) (hd : bdst σ o = true) (h : GRun P all os (σ.skip o) k) : GRun P all (o :: os) σ k := by
  intro F K0 g a w Q hr hk
  have hw := guard_wanted (a := a) (fun _ _ _ d _ _ _ => hr.env d) hg
  unfold wpListIn
  rw [hw]
  simp only [Bool.false_eq_true, if_false]
  exact ⟨fun _ _ => trivial, h F K0 g _ _ Q (skip_rel hr (bdst_ok hd)) hk⟩
theorem entry_fx (args : List D) (n : Nat) : (entry args n).fx = ⟨[], [], false, none⟩ := rfl
theorem fx_nil : (0 : Fx) = ⟨[], [], false, none⟩ := rfl
def callG (P : Program) (all : List Oper) (o : Oper) (f : Operand) (args : Array Operand) (σ : St) (ρ : Nat → Nat) (fid : FuncId) (as : List SV) (ks : List Nat) (B : Hp) (ks' : List Nat) : Prop :=
  guardB all σ.env o = some true ∧ bdst σ o = true ∧ (match capsG (evalS σ.env f) with
    | some (fid', cs) => fid' = fid ∧ (args.toList.map (evalS σ.env)).map (SV.ren ρ) ++ cs.map (SV.ren ρ) = as
    | none => False) ∧ atB σ.H ρ B ks ∧ newB σ.H ρ ks ks' ∧ (σ.fx.dfs.all fun i => !ks'.contains (ρ i)) = true
theorem GRun.call {P : Program} {fid : FuncId} {as : List SV} {ks ks' : List Nat} {B B' : Hp} {r : SV} (hf : FunG P fid as ks B r ks' B') (l : List (Nat × Nat)) (nx' : Nat) {all : List Oper} {o : Oper} {os : List Oper} {σ : St} {k : St → Prop} {f : Operand} {args : Array Operand} {tys : Array TypeId}
    (hop : o.op = .call { callee := .value f, args := args, argTypes := tys }) (hl : swOk l = true) (hc : callG P all o f args σ (swp l) fid as ks B ks')
    (h : GRun P all os ⟨putE σ.env o.dst (r.ren (swp l)), putB σ.H (swp l) B' ks', nx', σ.sz, σ.fx⟩ k) : GRun P all (o :: os) σ k := by
  intro F K0 g a w Q hr hk
  have hρ := swp_swp hl
  generalize swp l = ρ at *
  obtain ⟨hg, hd, hcap, hat, hnew, hdf⟩ := hc
  have hw := guard_wanted (a := a) (fun _ _ _ d _ _ _ => hr.env d) hg
  unfold wpListIn
  rw [hw]
  simp only [if_true]
  have hnd : ∀ c, o.op ≠ .defer c := by intro c hc; rw [hop] at hc; cases hc
  split at hcap
  rotate_left
  · exact hcap.elim
  rename_i fid' cs hcs
  obtain ⟨rfl, has⟩ := hcap
  obtain ⟨cvs, hfv, hcr⟩ := capsG_spec (evalS_rep hr f) hcs
  have hargs : RepSs g σ.H (args.toList.map (evalS σ.env)) (args.toList.map a.eval) := list_rep args.toList (fun p _ => evalS_rep hr p)
  have hall := hargs.append hcr
  have hmap : args.map a.eval = (args.toList.map a.eval).toArray := by apply Array.ext'; simp
  have hbody := hf.body
  have hex : (execOp a.eval o).run P w = .ok (.enter fid' (args.toList.map a.eval ++ cvs).toArray) w := by
    unfold execOp
    rw [hop]
    unfold bodyOk at hbody
    split at hbody
    · rename_i fn hfn
      simp only [Bool.and_eq_true, Bool.not_eq_true'] at hbody
      simp only [resolve, hmap, hfv, Deferred.ofValue]
      have hb1 : ¬ fn.body = none := by intro e; rw [e] at hbody; simp at hbody
      have hb2 : ¬ fn.name = "runtime.NumGoroutine" := by simpa using hbody.1
      simp [invoke, callFunc, hfn, hb1, hb2]
    · cases hbody
  -- the caller's memory under the callee's numbers
  have hren := hr.mem.ren hρ
  have hren' := hren
  have hB : ∀ i, ks'.contains i = true → (σ.H.ren ρ) i = B i := fun i hi => by
    cases hc : ks.contains i with
    | true =>
      have := atB_mem hat i (by simpa using hc)
      show (σ.H (ρ i)).map (HE.ren ρ) = _
      rw [this, Option.map_map]
      cases B i with
      | none => rfl
      | some x => simp [HE.ren_ren hρ]
    | false =>
      have := (newB_mem hnew i (by simpa using hi)).resolve_left (by rw [hc]; simp)
      show (σ.H (ρ i)).map (HE.ren ρ) = _
      rw [this, hf.sup i hc]; rfl
  have hon : (σ.H.ren ρ).on ks = B := by
    funext i
    cases hc : ks.contains i with
    | true => rw [Hp.on_in hc]; exact hB i (hf.sub i hc)
    | false => rw [Hp.on_out hc, hf.sup i hc]
  have hon' : (σ.H.ren ρ).on ks' = B := by
    funext i
    cases hc : ks'.contains i with
    | true => rw [Hp.on_in hc]; exact hB i hc
    | false =>
      rw [Hp.on_out hc]
      cases hc2 : ks.contains i with
      | true => rw [hf.sub i hc2] at hc; cases hc
      | false => rw [hf.sup i hc2]
  generalize hg1 : g.ren ρ = g1 at hren
  generalize hH1 : σ.H.ren ρ = H1 at hren hon hon' hB
  have hgon : g1.on ks' = g1.on ks := by
    have : ∀ i, ks'.contains i = true → ks.contains i = false → g1.β i = none := fun i h1 h2 => hren.dom i (by rw [hB i h1]; exact hf.sup i h2)
    unfold G.on
    congr 1
    funext i
    cases h1 : ks'.contains i with
    | true =>
      cases h2 : ks.contains i with
      | true => rfl
      | false => simp only [if_true]; rw [this i h1 h2]; rfl
    | false =>
      cases h2 : ks.contains i with
      | true => rw [hf.sub i h2] at h1; cases h1
      | false => rfl
  have hcl : Closed ks H1 := fun k cs hk hH => hf.cl k cs hk (by rw [← hB k (hf.sub k hk)]; exact hH)
  have hlend := hren.lend ks hcl (g0 := g1.on ks) (H0 := B) (fun x v _ h => by rw [← hon] at h; exact rep_off h)
  rw [hon] at hlend
  have hS : ∀ (g0 : G) (H0 : Hp) (ks2 : List Nat), (lendF w (g1.on ks) ks g0 H0).S = (lendF w g1 ks g0 H0).S := fun g0 H0 ks2 => by
    funext b
    apply propext
    constructor
    · rintro ⟨i, h1, h2⟩; exact ⟨i, h1, (G.on_some h2).2⟩
    · rintro ⟨i, h1, h2⟩; exact ⟨i, h1, (G.on_in h1).trans h2⟩
  have hlend2 : RelH (lendF w (g1.on ks) ks (g1.on ks) B) (g1.on ks).K (g1.on ks) B w := hlend.reb rfl (hS _ _ ks) hlend.lent
  have hargs2 : RepSs (g1.on ks) B as (args.toList.map a.eval ++ cvs) := by
    rw [← has, ← List.map_append]
    refine ⟨by simpa using hall.1, fun j x v hx hv => ?_⟩
    have hx0 := hx
    simp only [List.getElem?_map, Option.map_eq_some_iff] at hx
    obtain ⟨y, hy, rfl⟩ := hx
    have h1 := (hall.2 j y v hy hv).ren hρ
    rw [hg1, hH1] at h1
    have hmem : y.ren ρ ∈ as := by rw [← has, ← List.map_append]; exact List.mem_of_getElem? hx0
    have h2 := RepS.on (ks := ks) (hf.ids _ hmem) h1
    rw [hon] at h2; exact h2
  have hcall := hf.calls (g1.on ks) w _ hlend2 hargs2
  refine ⟨fun _ _ => trivial, ?_⟩
  rw [Oper.semAt_eq _ _ _ hnd, hex]
  simp only [Oper.uponIn]
  refine ⟨fen_depth, callsIn_fen (hcall.mono ?_)⟩
  rintro e w' ⟨v, g', rfl, hrv, hrel⟩
  have hln : GLe (g1.on ks') (H1.on ks') g' B' := by
    rw [hgon, hon']
    intro x v r
    exact hrel.lent x v (fun i hi => by
      have hne := rep_ids hlend2 r i hi
      cases hc : ks.contains i with
      | true => show i ∈ ks; simpa using hc
      | false => exact absurd (hf.sup i hc) hne) r
  have hrel2 : RelH (lendF w g1 ks' (g1.on ks') (H1.on ks')) g1.K g' B' w' := by
    refine hrel.reb rfl ?_ (fun x v _ r => hln x v r)
    funext b
    apply propext
    constructor
    · rintro ⟨i, h1, h2⟩
      refine ⟨i, ?_, ?_⟩
      · cases h3 : ks.contains i with
        | true => rfl
        | false =>
          have : g1.β i = none := hren.dom i (by rw [hB i h1]; exact hf.sup i h3)
          have h2 : g1.β i = some b := h2
          rw [this] at h2; cases h2
      · have : (g1.on ks').β i = some b := (G.on_in h1).trans h2
        rw [hgon] at this; exact this
    · rintro ⟨i, h1, h2⟩; exact ⟨i, hf.sub i h1, (G.on_some h2).2⟩
  obtain ⟨hm, hgle, hto⟩ := hren.back hrel2 hf.sup' hln
  have hm2 := hm.ren hρ
  rw [Fr.ren_ren hρ, ← hH1, ← putB_eq hρ] at hm2
  have hgle2 : GLe g σ.H ((backG ks' g1 g').ren ρ) (putB σ.H ρ B' ks') := by
    intro x v r
    have h1 := rep_ren hρ r
    rw [hg1, hH1] at h1
    have h2 := rep_ren hρ (hgle _ _ h1)
    rw [CV.ren_ren hρ, ← hH1, ← putB_eq hρ] at h2
    exact h2
  have hrv2 : RepS ((backG ks' g1 g').ren ρ) (putB σ.H ρ B' ks') (r.ren ρ) v := by
    have h1 : RepS (backG ks' g1 g') (over ks' H1 B') r v := by
      cases r with
      | c x => exact hto _ _ hrv
      | agg xs =>
        obtain ⟨vs, hv, hr', h1⟩ := hrv
        exact ⟨vs, hv, ⟨hr'.1, fun j x v hx hv => hto _ _ (hr'.2 j x v hx hv)⟩, h1⟩
    have h2 := RepS.ren hρ h1
    rw [← hH1, ← putB_eq hρ] at h2
    exact h2
  refine h F K0 _ _ w' Q ⟨hm2, fun t => ?_, by rw [put_size]; exact hr.size, ?_, hr.ln, hr.rd, hr.nodup, hr.lt⟩ hk
  · have hd' := bdst_ok hd
    unfold dstOk at hd'
    exact env_put (d := o.dst) (fun t => (hr.env t).mono hgle2) hrv2 hr.size (fun t ht => by rw [ht] at hd'; exact hd') t
  · show DefsRel _ _ σ.fx.dfs _
    rw [put_def]
    refine DefsRel.mono' hgle2 (fun i hi => ?_) hr.defers
    have := List.all_eq_true.1 hdf i hi
    rw [Bool.not_eq_true'] at this
    rw [putB_eq hρ]
    show ((over ks' (σ.H.ren ρ) B') (ρ i)).map (HE.ren ρ) = _
    rw [over_out this]
    show ((σ.H (ρ (ρ i))).map (HE.ren ρ)).map (HE.ren ρ) = _
    rw [hρ, Option.map_map]
    cases σ.H i with
    | none => rfl
    | some x => simp [HE.ren_ren hρ]
theorem Wp.regG {P : Program} {σ : St} {Q : Exit → St → Prop} {id : Nat} {all : List Oper} (h : GRun P all all σ (fun σ' => Q .normal σ')) : Wp P (.region id all.toArray false) σ Q := by
  intro F K0 g a w hr
  exact wpIn_region_lit (h F K0 g a w _ hr (fun g' σ' a' w' hq hr' => ⟨g', σ', hr', hq⟩))
theorem Wp.sregG {P : Program} {σ : St} {Q : Exit → St → Prop} {id : Nat} {all : List Oper} {y : Code} (h : GRun P all all σ (fun σ' => Wp P y σ' Q)) : Wp P (.seq (.region id all.toArray false) y) σ Q := Wp.seq (Wp.regG h)
end Go.Proofs.YticbdcpdooahjaaDoor
