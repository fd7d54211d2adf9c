/- The machine: calls of yield; the contract of a function that is ranged over. -/
import Derived.Test.YticbdcpdooahjaaDoorAbsW
namespace Go.Proofs.YticbdcpdooahjaaDoor
open Go Go.RowKit
set_option linter.unusedVariables false
set_option linter.unusedSimpArgs false
/-- A call of yield with args turns the boxes B to B' and hands back b. g0, H0: how the boxes ks stood when they were lent. -/
def YldF (P : Program) (g0 : G) (H0 : Hp) (ks : List Nat) (args : List D) (B : Hp) (b : Bool) (B' : Hp) : Prop :=
  ∀ (F : Fr) (K0 : Know) (g : G) (w : World) (vs : List Value) (l : Nat), F.ln = ks → F.g = g0 → F.H = H0 → RelH F K0 g B w → RepL g.K args vs → g.β 999 = some l →
    YieldAt Fence.wide 0 P l vs.toArray w fun e w' => ∃ g', e = .returned (.bool b) ∧ RelH F K0 g' B' w' ∧ GLe g B g' B'
structure Lent (ks : List Nat) (A : Nat → Hp) : Prop where
  lt : ∀ k, ks.contains k = true → k < 1000
  l : ks.contains 999 = true
  sup : ∀ i k, ks.contains k = false → A i k = none
  nr : ∀ i, isRow (A i 999) = false
  cl : ∀ i, Closed ks (A i)
def stopsAt (cont : Nat → Bool) (len n : Nat) : Prop := n ≤ len ∧ (∀ j, j + 1 < n → cont j = true) ∧ ((n = len ∧ ∀ j, j < n → cont j = true) ∨ (0 < n ∧ cont (n - 1) = false))
/-- THE CONTRACT OF A FUNCTION THAT IS RANGED OVER: it yields xs, one by one, till it is told to stop. -/
def SeqF (P : Program) (f : FuncId) (caps : List D) (xs : List (List D)) : Prop := bodyOk P f = true ∧
  ∀ (ks : List Nat) (A : Nat → Hp) (cont : Nat → Bool), Lent ks A → ∀ (F : Fr) (K0 : Know) (g : G) (w : World) (vs : List Value) (l : Nat), RelH F K0 g (A 0) w → RepL g.K caps vs → g.β 999 = some l →
    (∀ i (hi : i < xs.length), (∀ j, j < i → cont j = true) → YldF P g (A 0) ks xs[i] (A i) (cont i) (A (i + 1))) →
    Calls P f (Value.func (.yield l) #[] #[] :: vs).toArray w fun e w' => ∃ v g' n, e = .returned v ∧ stopsAt cont xs.length n ∧ RelH F K0 g' (A n) w' ∧ GLe g (A 0) g' (A n)
def BaseIs (H B : Hp) : Prop := ∀ i, i < 1000 → H i = B i
def rb (B' H : Hp) : Hp := fun i => if i < 1000 then B' i else H i
def ofHB (B : Hp) (M : List (Nat × HE)) : Hp := fun i => match M.lookup i with
  | some x => some x
  | none => B i
theorem ofHB_nil (B : Hp) : ofHB B [] = B := rfl
theorem rb_upd {B' H : Hp} {k : Nat} {x : Option HE} (h : 1000 ≤ k) : rb B' (upd H k x) = upd (rb B' H) k x := by
  funext i
  unfold rb upd
  by_cases h1 : i = k
  · subst h1; rw [if_neg (by omega), if_pos rfl]; simp
  · simp only [h1, if_false]
theorem baseIs_upd {H B : Hp} {k : Nat} {x : Option HE} (h : 1000 ≤ k) : BaseIs (upd H k x) B ↔ BaseIs H B := by
  unfold BaseIs
  constructor <;> intro hh i hi <;> have := hh i hi <;> rw [upd_ne _ _ (by omega)] at * <;> exact this
theorem baseIs_refl (B : Hp) : BaseIs B B := fun _ _ => rfl
theorem lookup_none {M : List (Nat × HE)} (h : (M.all fun p => decide (1000 ≤ p.1)) = true) {i : Nat} (hi : i < 1000) : M.lookup i = none := by
  cases hm : M.lookup i with
  | none => rfl
  | some x =>
    have := List.all_eq_true.1 h _ (lookup_mem hm)
    simp only [decide_eq_true_eq] at this
    omega
theorem baseIs_ofHB {B : Hp} {M : List (Nat × HE)} (h : (M.all fun p => decide (1000 ≤ p.1)) = true) : BaseIs (ofHB B M) B := fun i hi => by
  unfold ofHB; rw [lookup_none h hi]
theorem rb_ofHB {B B' : Hp} {M : List (Nat × HE)} (h : (M.all fun p => decide (1000 ≤ p.1)) = true) (hB : ∀ k, 1000 ≤ k → B k = none) (hB' : ∀ k, 1000 ≤ k → B' k = none) : rb B' (ofHB B M) = ofHB B' M := by
  funext i
  unfold rb
  split
  · rename_i hi
    unfold ofHB; rw [lookup_none h hi]
  · rename_i hi
    unfold ofHB
    cases M.lookup i with
    | some x => rfl
    | none => show B i = B' i; rw [hB i (by omega), hB' i (by omega)]
/-! a list of operations with a call of yield in it -/
theorem aops_app {P : Program} {W0 : Fr} {K0 : Know} {all rest : List Oper} {Q : Exit → Act → World → Prop} {k : St → List Foot → Prop} {ro : Option Nat} (hk : ∀ g σ tr a w, k σ tr → Rel W0 K0 g σ a w → wpListIn (fen ro) 0 P all.toArray Q rest a w) :
    ∀ (l : List Oper) (g : G) (σ : St) (tr : List Foot) (a : Act) (w : World), aops P all l σ tr k → Rel W0 K0 g σ a w → wpListIn (fen ro) 0 P all.toArray Q (l ++ rest) a w
  | [], g, σ, tr, a, w, h, hr => hk g σ _ a w h hr
  | o :: os, g, σ, tr, a, w, h, hr => by
    simp only [aops] at h
    split at h
    · exact h.elim
    · rename_i t ht
      have hw := guard_wanted (a := a) (fun _ _ _ d _ _ _ => hr.env d) ht
      rw [List.cons_append]
      unfold wpListIn
      rw [hw]
      cases t with
      | true =>
        obtain ⟨r, hr1, hd, hrest⟩ := astep_get (h.1 rfl)
        simp only [if_true]
        refine Oper.wpIn_mono ?_ (step_rel hr hr1 hd ro Q)
        rintro a' w' ⟨g', hr'⟩
        exact aops_app hk os g' _ _ a' w' hrest hr'
      | false =>
        obtain ⟨hd, hrest⟩ := h.2 rfl
        simp only [Bool.false_eq_true, if_false]
        exact ⟨fun _ _ => trivial, aops_app hk os g _ _ _ w hrest (skip_rel hr hd)⟩
/-- What is asked where yield is called. -/
def YAt (P : Program) (all : List Oper) (n : Nat) (o : Oper) (σ : St) (k : St → Prop) : Prop :=
  ∃ (f : Operand) (args : Array Operand) (tys : Array TypeId) (ds : List D) (B : Hp) (b : Bool) (B' : Hp) (d : Nat) (q : G × Hp), o.op = .call { callee := .value f, args := args, argTypes := tys } ∧ o.guard = none ∧ o.dst = some d ∧ d < σ.sz ∧ σ.fx.dfs = [] ∧ σ.fx.lt = some q ∧
    evalS σ.env f = .c (.yld 999) ∧ mapO (SV.toD σ.H) (args.toList.map (evalS σ.env)) = some ds ∧ YldF P q.1 q.2 σ.fx.lent ds B b B' ∧ BaseIs σ.H B ∧
    (∀ k, σ.fx.lent.contains k = true → k < 1000) ∧ σ.fx.lent.contains 999 = true ∧ (∀ k, σ.fx.lent.contains k = false → B k = none) ∧ (∀ k, σ.fx.lent.contains k = false → B' k = none) ∧ Closed σ.fx.lent B ∧
    bops P all (all.drop (n + 1)) ⟨upd σ.env d (vb b), rb B' σ.H, σ.nx, σ.sz, σ.fx⟩ [] (fun σ' _ => k σ')
theorem base_on {ks : List Nat} {H B : Hp} (hb : BaseIs H B) (hlt : ∀ k, ks.contains k = true → k < 1000) (hs : ∀ k, ks.contains k = false → B k = none) : H.on ks = B := by
  funext i
  cases hc : ks.contains i with
  | true => rw [Hp.on_in hc]; exact hb i (hlt i hc)
  | false => rw [Hp.on_out hc, hs i hc]
theorem over_rb {ks : List Nat} {H B B' : Hp} (hb : BaseIs H B) (hlt : ∀ k, ks.contains k = true → k < 1000) (hs : ∀ k, ks.contains k = false → B k = none) (hs' : ∀ k, ks.contains k = false → B' k = none) : over ks H B' = rb B' H := by
  funext i
  unfold rb
  cases hc : ks.contains i with
  | true => rw [over_in hc, if_pos (hlt i hc)]
  | false =>
    rw [over_out hc]
    split
    · rename_i hi; rw [hb i hi, hs i hc, hs' i hc]
    · rfl
theorem yld_step {P : Program} {F : Fr} {K0 : Know} {g : G} {σ : St} {a : Act} {w : World} {all : List Oper} {n : Nat} {o : Oper} {k : St → Prop} {Q : Exit → Act → World → Prop} (hr : Rel F K0 g σ a w) (hy : YAt P all n o σ k)
    (hk : ∀ g' σ' a' w', k σ' → Rel F K0 g' σ' a' w' → Q .normal a' w') : wpListIn (fen F.ro) 0 P all.toArray Q (o :: all.drop (n + 1)) a w := by
  obtain ⟨f, args, tys, ds, B, b, B', d, q, hop, hg, hdst, hd, hdf, hlt, hf, hds, hY, hB, hks, h999, hs, hs', hcl, hrest⟩ := hy
  unfold wpListIn
  have hw : Region.wanted o (yielded all.toArray a.tmps) = true := by simp [Region.wanted, hg]
  rw [hw]
  simp only [if_true]
  have hnd : ∀ c, o.op ≠ .defer c := by intro c hc; rw [hop] at hc; cases hc
  have hfv := evalS_rep hr f
  rw [hf] at hfv
  obtain ⟨l, hl, hav, hnr⟩ := hfv
  have hargs : RepSs g σ.H (args.toList.map (evalS σ.env)) (args.toList.map a.eval) := list_rep args.toList (fun p _ => evalS_rep hr p)
  obtain ⟨h1, h2⟩ := mapO_get hds
  have hL : RepL g.K ds (args.toList.map a.eval) := ⟨by rw [h1, hargs.1], fun j x v hx hv' => by
    obtain ⟨s, hs, hsx⟩ := h2 j x hx
    exact SV.toD_rep hr.mem (hargs.2 j s v hs hv') hsx⟩
  obtain ⟨e1, e2⟩ := hr.lt q hlt
  have hon := base_on hB hks hs
  have hcl' : Closed σ.fx.lent σ.H := fun k cs hc hk => hcl k cs hc (by rw [← hB k (hks k hc)]; exact hk)
  have hlend := hr.mem.lend σ.fx.lent hcl' (g0 := q.1) (H0 := q.2) (fun x v hi h => hr.mem.lent x v (by rw [hr.ln]; exact hi) (by rw [e1, e2]; exact h))
  rw [hon] at hlend
  have hl' : (g.on σ.fx.lent).β 999 = some l := (G.on_in h999).trans hl
  obtain ⟨fn, tmps, asg, body, hrun, hround⟩ := hY _ _ _ w (args.toList.map a.eval) l rfl rfl rfl hlend hL hl'
  refine ⟨fun _ _ => trivial, ?_⟩
  rw [Oper.semAt_eq _ _ _ hnd]
  have hmap : args.map a.eval = (args.toList.map a.eval).toArray := by apply Array.ext'; simp
  have hex : (execOp a.eval o).run P w = .ok (.round l fn tmps asg body) w := by
    unfold execOp
    rw [hop]
    simp only [resolve, hmap, hav, Deferred.ofValue]
    simp [invoke, hrun]
  rw [hex]
  simp only [Oper.uponIn]
  refine ⟨fen_depth, ?_⟩
  have hround' : RoundIn (fen F.ro) (0 - 1) P l fn tmps asg body w _ := hround
  refine hround'.mono ?_
  rintro e w' ⟨g', rfl, hrel, hle⟩
  have hle' : GLe (g.on σ.fx.lent) (σ.H.on σ.fx.lent) g' B' := by rw [hon]; exact hle
  obtain ⟨hm, hgle, _⟩ := hr.mem.back hrel hs' hle'
  rw [over_rb hB hks hs hs'] at hm hgle
  have hdef := hr.defers
  rw [hdf] at hdef
  have hrel2 : Rel F K0 (backG σ.fx.lent g g') ⟨upd σ.env d (vb b), rb B' σ.H, σ.nx, σ.sz, σ.fx⟩ (a.put o.dst (.bool b)) w' := by
    refine ⟨hm, fun t => ?_, by rw [put_size]; exact hr.size, ?_, hr.ln, hr.rd, hr.nodup, hr.lt⟩
    · have := env_put (d := o.dst) (x := vb b) (v := .bool b) (fun t => (hr.env t).mono hgle) (Rep.val _) hr.size (fun t ht => by rw [hdst] at ht; cases ht; exact hd) t
      rw [hdst] at this ⊢
      exact this
    · show DefsRel _ _ σ.fx.dfs _
      rw [put_def, hdf]
      cases hq : a.defers with
      | nil => trivial
      | cons x y => rw [hq] at hdef; exact hdef.elim
  have := aops_app (rest := []) (Q := Q) (ro := F.ro) (fun g2 σ2 tr2 a2 w2 hk2 hr2 => show wpListIn _ _ _ _ _ [] a2 w2 from hk g2 σ2 a2 w2 hk2 hr2) (all.drop (n + 1)) _ _ [] _ w' (bops_aops hrest) hrel2
  rw [List.append_nil] at this
  exact this
theorem Wp.regY {P : Program} {σ : St} {Q : Exit → St → Prop} {id : Nat} {all : List Oper} (n : Nat) {o : Oper} (ho : all[n]? = some o)
    (h : ∀ K : St → Prop, (∀ σ1, YAt P all n o σ1 (fun σ2 => Q .normal σ2) → K σ1) → bops P all (all.take n) σ [] (fun σ1 _ => K σ1)) : Wp P (.region id all.toArray false) σ Q := by
  intro F K0 g a w hr
  refine wpIn_region_lit ?_
  have hsplit : all = all.take n ++ o :: all.drop (n + 1) := by
    obtain ⟨hlt, he⟩ := List.getElem?_eq_some_iff.1 ho
    rw [← he, ← List.drop_eq_getElem_cons hlt, List.take_append_drop]
  have := aops_app (all := all) (rest := o :: all.drop (n + 1)) (Q := fun e a' w' => ∃ g' σ', Rel F K0 g' σ' a' w' ∧ Q e σ') (ro := F.ro) (k := fun σ1 _ => YAt P all n o σ1 (fun σ2 => Q .normal σ2))
    (fun g1 σ1 tr1 a1 w1 hk1 hr1 => yld_step hr1 hk1 (fun g' σ' a' w' hq hr' => ⟨g', σ', hr', hq⟩)) (all.take n) g σ [] a w (bops_aops (h _ (fun _ h => h))) hr
  rw [← hsplit] at this
  exact this
end Go.Proofs.YticbdcpdooahjaaDoor
