/- The machine: a function that is ranged over, by its body. -/
import Derived.Test.YticbdcpdooahjaaDoorAbsX
namespace Go.Proofs.YticbdcpdooahjaaDoor
open Go Go.RowKit
set_option linter.unusedVariables false
set_option linter.unusedSimpArgs false
theorem rep_ids {F : Fr} {K0 : Know} {g : G} {H : Hp} {w : World} (hh : RelH F K0 g H w) {x : CV} {v : Value} (r : RepC g H x v) : ∀ i ∈ x.ids, H i ≠ none := by
  have key : ∀ i b, g.β i = some b → H i ≠ none := fun i b hb hn => by rw [hh.dom i hn] at hb; cases hb
  cases x with
  | own id off => obtain ⟨b, hb, _⟩ := r; intro i hi; simp [CV.ids] at hi; subst hi; exact key _ b hb
  | yld id => obtain ⟨b, hb, _⟩ := r; intro i hi; simp [CV.ids] at hi; subst hi; exact key _ b hb
  | view id sz off len => obtain ⟨b, c, hb, _⟩ := r; intro i hi; simp [CV.ids] at hi; subst hi; exact key _ b hb
  | app τ sz xs => obtain ⟨_, e, n, hrow, _⟩ := r; intro i hi; simp [CV.ids] at hi; subst hi; rw [hrow]; simp
  | clo f caps =>
    obtain ⟨vs, _, hl, hc⟩ := r
    intro i hi
    obtain ⟨c, hc1, hc2⟩ := List.mem_flatMap.1 hi
    obtain ⟨j, hj, rfl⟩ := List.getElem_of_mem hc1
    have := hc j caps[j] (vs[j]'(by omega)) (List.getElem?_eq_getElem hj) (List.getElem?_eq_getElem (by omega))
    generalize caps[j] = c at this hc2
    cases c with
    | d x => simp [Cap.ids] at hc2
    | own id off =>
      simp [Cap.ids] at hc2
      subst hc2
      obtain ⟨b, hb, _⟩ := this
      exact key _ b hb
  | _ => intro i hi; simp [CV.ids] at hi
/-- Boxes that nobody needs are forgotten. -/
theorem RelH.drop {F : Fr} {K0 : Know} {g : G} {H : Hp} {w : World} (hh : RelH F K0 g H w) (ks : List Nat) (hln : ∀ i ∈ F.ln, ks.contains i = true) (hcl : Closed ks H) : RelH F K0 (g.on ks) (H.on ks) w := by
  refine ⟨hh.below, hh.ext, hh.kw, ?_, ?_, ?_, ?_, ?_, hh.glob, fun x v hi h => rep_on (fun i hix => hln i (hi i hix)) (hh.lent x v hi h)⟩
  · intro id he hid
    cases hc : ks.contains id with
    | false => rw [Hp.on_out hc] at hid; cases hid
    | true =>
      rw [Hp.on_in hc] at hid
      have := hh.holds id he hid
      cases he with
      | cells cs =>
        obtain ⟨b, vs, t, hb, hheap, hr, h1, hn⟩ := this
        exact ⟨b, vs, t, (G.on_in hc).trans hb, hheap, ⟨hr.1, fun j x v hx hv => rep_on (fun i hi => hcl id cs hc hid i (List.mem_flatMap.2 ⟨x, List.mem_of_getElem? hx, hi⟩)) (hr.2 j x v hx hv)⟩, h1, hn⟩
      | froz ds =>
        obtain ⟨b, vs, hb, hr⟩ := this
        exact ⟨b, vs, (G.on_in hc).trans hb, hr⟩
      | obj o =>
        obtain ⟨b, hb, hr⟩ := this
        exact ⟨b, (G.on_in hc).trans hb, hr⟩
      | row e sz n =>
        intro b hb
        exact this b ((G.on_in hc).symm.trans hb)
  · intro id b hb
    exact hh.base id b (G.on_some hb).2
  · intro id hid
    cases hc : ks.contains id with
    | false => exact G.on_out hc
    | true => rw [Hp.on_in hc] at hid; exact (G.on_in hc).trans (hh.dom id hid)
  · intro i j b hi hj
    exact hh.sep i j b (G.on_some hi).2 (G.on_some hj).2
  · intro i b hi
    exact hh.frozlt i b (G.on_some hi).2
theorem RepS.on {ks : List Nat} {g : G} {H : Hp} {x : SV} {v : Value} (hi : ∀ i ∈ x.ids, ks.contains i = true) (h : RepS g H x v) : RepS (g.on ks) (H.on ks) x v := by
  cases x with
  | c x => exact rep_on hi h
  | agg cs =>
    obtain ⟨vs, hv, hr, h1⟩ := h
    exact ⟨vs, hv, ⟨hr.1, fun j x v hx hv => rep_on (fun i hix => hi i (List.mem_flatMap.2 ⟨x, List.mem_of_getElem? hx, hix⟩)) (hr.2 j x v hx hv)⟩, h1⟩
/-! frames of a function that is ranged over -/
def okIdsB (L : List (Nat × SV)) (M : List (Nat × HE)) : Bool :=
  (L.all fun p => p.2.ids.all fun i => (M.map (·.1)).contains i || i == 999) && (M.all fun p => p.2.ids.all fun i => (M.map (·.1)).contains i || i == 999) && (M.all fun p => decide (1000 ≤ p.1))
theorem Weak.keepB {σ : St} {L : List (Nat × SV)} {M : List (Nat × HE)} {A : Nat → Hp} {nx n : Nat} {fx : Fx} (hL : Lent fx.lent A) (i : Nat) (hn : (n, fx) = (σ.sz, σ.fx)) (hdf : fx.dfs = []) (hB : BaseIs σ.H (A i)) (hid : okIdsB L M = true) (h : eqL σ.env L ∧ eqH σ.H M) :
    Weak σ ⟨ofL L, ofHB (A i) M, nx, n, fx⟩ := by
  simp only [Prod.mk.injEq] at hn
  obtain ⟨rfl, rfl⟩ := hn
  intro F K0 g a w r
  simp only [okIdsB, Bool.and_eq_true] at hid
  obtain ⟨⟨hid1, hid2⟩, hid3⟩ := hid
  have hsub : ∀ i, ((M.map (·.1)).contains i || i == 999) = true → (σ.fx.lent ++ M.map (·.1)).contains i = true := by
    intro i hi
    simp only [Bool.or_eq_true, beq_iff_eq] at hi
    rcases hi with h1 | rfl
    · simp only [List.contains_eq_mem, decide_eq_true_eq, List.mem_append] at h1 ⊢; exact .inr h1
    · have := hL.l
      simp only [List.contains_eq_mem, decide_eq_true_eq, List.mem_append] at this ⊢; exact .inl this
  have hinl : ∀ i, σ.fx.lent.contains i = true → (σ.fx.lent ++ M.map (·.1)).contains i = true := fun i hi => by
    simp only [List.contains_eq_mem, decide_eq_true_eq, List.mem_append] at hi ⊢; exact .inl hi
  have hcl : Closed (σ.fx.lent ++ M.map (·.1)) σ.H := by
    intro k cs hk hH j hj
    have hk' : k ∈ σ.fx.lent ∨ k ∈ M.map (·.1) := by simpa using hk
    rcases hk' with h1 | h1
    · have h1' : σ.fx.lent.contains k = true := by simpa using h1
      exact hinl j (hL.cl i k cs h1' (by rw [← hB k (hL.lt k h1')]; exact hH) j hj)
    · obtain ⟨he, hlk⟩ := mem_lookup (L := M) h1
      have hmem := lookup_mem hlk
      have := eqH_mem h.2 _ hmem
      simp only at this
      rw [hH] at this
      have hee : HE.cells cs = he := by simpa using this
      subst hee
      exact hsub j (List.all_eq_true.1 (List.all_eq_true.1 hid2 _ hmem) j hj)
  have hm := r.mem.drop (σ.fx.lent ++ M.map (·.1)) (fun i hi => hinl i (by rw [r.ln] at hi; simpa using hi)) hcl
  have hon : σ.H.on (σ.fx.lent ++ M.map (·.1)) = ofHB (A i) M := by
    funext k
    unfold ofHB
    cases hlk : M.lookup k with
    | some x =>
      have hmem := lookup_mem hlk
      rw [Hp.on_in (by simp only [List.contains_eq_mem, decide_eq_true_eq, List.mem_append]; exact .inr (List.mem_map.2 ⟨_, hmem, rfl⟩))]
      exact eqH_mem h.2 _ hmem
    | none =>
      have hnk : k ∉ M.map (·.1) := fun hk => by
        obtain ⟨x, hx⟩ := mem_lookup (L := M) hk
        rw [hx] at hlk; cases hlk
      cases hc : σ.fx.lent.contains k with
      | true => rw [Hp.on_in (hinl k hc)]; exact hB k (hL.lt k hc)
      | false =>
        rw [Hp.on_out (by
          simp only [List.contains_eq_mem, decide_eq_false_iff_not, List.mem_append, not_or] at hc ⊢
          exact ⟨hc, hnk⟩), hL.sup i k hc]
  rw [hon] at hm
  refine ⟨_, hm, fun t => ?_, r.size, ?_, r.ln, r.rd, r.nodup, r.lt⟩
  · show RepS _ _ (ofL L t) _
    unfold ofL
    cases hlk : L.lookup t with
    | none => trivial
    | some x =>
      have hmem := lookup_mem hlk
      have he := r.env t
      rw [eqL_mem h.1 _ hmem] at he
      have := RepS.on (ks := σ.fx.lent ++ M.map (·.1)) (fun i hi => hsub i (List.all_eq_true.1 (List.all_eq_true.1 hid1 _ hmem) i hi)) he
      rw [hon] at this
      exact this
  · have := r.defers
    show DefsRel _ _ σ.fx.dfs a.defers
    rw [hdf] at this ⊢
    cases hq : a.defers with
    | nil => trivial
    | cons x y => rw [hq] at this; exact this.elim
def entryY (caps : List D) (B : Hp) (ks : List Nat) (q : G × Hp) (n : Nat) : St := ⟨fun t => match (SV.c (.yld 999) :: caps.map SV.ofD)[t]? with | some x => x | none => .c .any, ofHB B [], 1000, n, ⟨ks, [], false, some q⟩⟩
theorem entryY_env (caps : List D) (B : Hp) (ks : List Nat) (q : G × Hp) (n t : Nat) : (entryY caps B ks q n).env t = match (SV.c (.yld 999) :: caps.map SV.ofD)[t]? with | some x => x | none => .c .any := rfl
theorem entryY_H (caps : List D) (B : Hp) (ks : List Nat) (q : G × Hp) (n : Nat) : (entryY caps B ks q n).H = ofHB B [] := rfl
theorem entryY_nx (caps : List D) (B : Hp) (ks : List Nat) (q : G × Hp) (n : Nat) : (entryY caps B ks q n).nx = 1000 := rfl
theorem entryY_sz (caps : List D) (B : Hp) (ks : List Nat) (q : G × Hp) (n : Nat) : (entryY caps B ks q n).sz = n := rfl
theorem entryY_fx (caps : List D) (B : Hp) (ks : List Nat) (q : G × Hp) (n : Nat) : (entryY caps B ks q n).fx = ⟨ks, [], false, some q⟩ := rfl
def bodyQY (A : Nat → Hp) (cont : Nat → Bool) (len : Nat) : Exit → St → Prop
  | .normal, σ => σ.fx.dfs = [] ∧ ∃ n, stopsAt cont len n ∧ BaseIs σ.H (A n)
  | .ret, σ => σ.fx.dfs = [] ∧ ∃ n, stopsAt cont len n ∧ BaseIs σ.H (A n)
  | _, _ => False
theorem RelH.reb {F F' : Fr} {K0 : Know} {g : G} {H : Hp} {w : World} (hh : RelH F K0 g H w) (hW : F'.W = F.W) (hS : F'.S = F.S) (hl : GLeN F' g H) : RelH F' K0 g H w := by
  have hm : F'.mine = F.mine := by funext b; unfold Fr.mine; rw [hW, hS]
  refine ⟨⟨by rw [hW]; exact hh.below.os, by rw [hW]; exact hh.below.tape, by rw [hW]; exact hh.below.output, by rw [hW]; exact hh.below.size, fun k hk => by rw [hm] at hk; rw [hW]; exact hh.below.block k hk⟩, ⟨hh.ext.1, fun b o hb => by rw [hm] at hb; exact hh.ext.2 b o hb⟩, hh.kw, hh.holds, fun id b hb => by rw [hm]; exact hh.base id b hb, hh.dom, hh.sep, hh.frozlt, hh.glob, hl⟩
theorem SeqF.of_body {P : Program} {f : FuncId} {fn : Func} {c : Code} {caps : List D} {xs : List (List D)} {n : Nat} (hf : P.funcs[f]? = some fn) (hb : fn.body = some c) (hn : (fn.name == "runtime.NumGoroutine") = false) (hnt : fn.ntmps = n) (hrs : fn.results = #[]) (hle : caps.length + 1 ≤ n)
    (h : ∀ (ks : List Nat) (A : Nat → Hp) (cont : Nat → Bool) (q : G × Hp), Lent ks A → (∀ i (hi : i < xs.length), (∀ j, j < i → cont j = true) → YldF P q.1 q.2 ks xs[i] (A i) (cont i) (A (i + 1))) → Wp P c (entryY caps (A 0) ks q n) (bodyQY A cont xs.length)) : SeqF P f caps xs := by
  subst hnt
  refine ⟨by unfold bodyOk; rw [hf]; simp only [hn, hb]; rfl, fun ks A cont hL F K0 g w vs l hh hcaps hl hY => ?_⟩
  have hlen := hcaps.1
  let F' : Fr := ⟨F.W, F.S, ks, g, A 0, none⟩
  have hh' : RelH F' K0 g (A 0) w := hh.reb rfl rfl (fun _ _ _ h => h)
  refine callsIn_wide.1 (callsIn_of_wp_marks (F := Fence.wide) (n := 0) hf hb trivial (wpIn_mono (h ks A cont (g, A 0) hL hY F' K0 g _ w ⟨by rw [entryY_H, ofHB_nil]; exact hh', ?_, ?_, trivial, rfl, rfl, List.nodup_nil, fun q hq => by cases hq; exact ⟨rfl, rfl⟩⟩) ?_))
  · intro t
    rw [entryY_H, ofHB_nil, entryY_env]
    cases t with
    | zero =>
      have : ((Value.func (.yield l) #[] #[] :: vs).toArray ++ Array.replicate (fn.ntmps - (Value.func (.yield l) #[] #[] :: vs).toArray.size) undef).getD 0 undef = Value.func (.yield l) #[] #[] := by
        rw [Array.getD_eq_getD_getElem?, Array.getElem?_append_left (by simp)]; simp
      rw [this]
      exact ⟨l, hl, rfl, hL.nr 0⟩
    | succ t =>
      simp only [List.getElem?_cons_succ, List.getElem?_map]
      cases ht : caps[t]? with
      | none => trivial
      | some x =>
        have hlt : t < vs.length := by have := (List.getElem?_eq_some_iff.1 ht).1; omega
        have : ((Value.func (.yield l) #[] #[] :: vs).toArray ++ Array.replicate (fn.ntmps - (Value.func (.yield l) #[] #[] :: vs).toArray.size) undef).getD (t + 1) undef = vs[t] := by
          rw [Array.getD_eq_getD_getElem?, Array.getElem?_append_left (by simpa using hlt)]; simp [hlt]
        rw [this]
        exact ofD_rep (hcaps.2 t x _ ht (List.getElem?_eq_getElem hlt)) _ _ rfl
  · rw [entryY_sz]; simp; omega
  · rintro e a' w' ⟨g', σ', hr, hQ⟩
    have fin : (σ'.fx.dfs = [] ∧ ∃ n, stopsAt cont xs.length n ∧ BaseIs σ'.H (A n)) → LeavesInM Fence.wide 0 P fn a'.tmps (fun e w' => ∃ v g' n, e = .returned v ∧ stopsAt cont xs.length n ∧ RelH F K0 g' (A n) w' ∧ GLe g (A 0) g' (A n)) a'.defers .returning w' := by
      rintro ⟨hdf, m, hst, hB⟩
      have hd := hr.defers
      rw [hdf] at hd
      have hnil : a'.defers = [] := by
        cases hq : a'.defers with
        | nil => rfl
        | cons x y => rw [hq] at hd; exact hd.elim
      rw [hnil]
      have hln : ks = σ'.fx.lent := hr.ln
      have hcl : Closed ks σ'.H := fun k cs hk hH => hL.cl m k cs hk (by rw [← hB k (hL.lt k hk)]; exact hH)
      have hm := hr.mem.drop ks (fun i hi => by have : i ∈ ks := hi; simpa using this) hcl
      rw [base_on hB hL.lt (hL.sup m)] at hm
      have hgle : GLe g (A 0) (g'.on ks) (A m) := fun x v r => hm.lent x v (fun i hi => by
        have hne := rep_ids hh r i hi
        cases hc : ks.contains i with
        | true => show i ∈ ks; simpa using hc
        | false => exact absurd (hL.sup 0 i hc) hne) r
      refine ⟨.tuple #[], ?_, _, _, m, rfl, hst, hm.reb rfl rfl (hh.lent.trans hgle), hgle⟩
      unfold results
      rw [hrs]
      simp
    cases e with
    | normal => exact fin hQ
    | ret => exact fin hQ
    | _ => exact hQ.elim
theorem ofHB_cons (B : Hp) (k : Nat) (x : HE) (M : List (Nat × HE)) : ofHB B ((k, x) :: M) = upd (ofHB B M) k (some x) := by
  funext i
  unfold ofHB upd
  simp only [List.lookup_cons]
  by_cases h : i = k
  · subst h; simp
  · have : (i == k) = false := by simpa using h
    simp [this, h]
theorem Lent.above {ks : List Nat} {A : Nat → Hp} (h : Lent ks A) (i k : Nat) (hk : 1000 ≤ k) : A i k = none := h.sup i k (by
  cases hc : ks.contains k with
  | false => rfl
  | true => have := h.lt k hc; omega)
theorem Lent.rb {ks : List Nat} {A : Nat → Hp} (h : Lent ks A) (i j : Nat) : Go.Proofs.YticbdcpdooahjaaDoor.rb (A j) (A i) = A j := by
  funext k
  unfold Go.Proofs.YticbdcpdooahjaaDoor.rb
  split
  · rfl
  · rw [h.above i k (by omega), h.above j k (by omega)]
theorem YAt.of {P : Program} {all : List Oper} {n : Nat} {o : Oper} {σ : St} {k : St → Prop} {ks : List Nat} {A : Nat → Hp} {q : G × Hp} {y d : Nat} {b : Bool} {ds : List D} {f : Operand} {args : Array Operand} {tys : Array TypeId} (hL : Lent ks A) (hfx : σ.fx = ⟨ks, [], false, some q⟩)
    (hop : o.op = .call { callee := .value f, args := args, argTypes := tys }) (hg : o.guard = none) (hdst : o.dst = some d) (hY : YldF P q.1 q.2 ks ds (A y) b (A (y + 1))) (hB : BaseIs σ.H (A y)) (hd : d < σ.sz) (hf : evalS σ.env f = .c (.yld 999)) (hds : mapO (SV.toD σ.H) (args.toList.map (evalS σ.env)) = some ds)
    (hrest : bops P all (all.drop (n + 1)) ⟨upd σ.env d (vb b), rb (A (y + 1)) σ.H, σ.nx, σ.sz, σ.fx⟩ [] (fun σ' _ => k σ')) : YAt P all n o σ k := by
  refine ⟨f, args, tys, ds, A y, b, A (y + 1), d, q, hop, hg, hdst, hd, by rw [hfx], by rw [hfx], hf, hds, by rw [hfx]; exact hY, hB, by rw [hfx]; exact hL.lt, by rw [hfx]; exact hL.l, by rw [hfx]; exact hL.sup y, by rw [hfx]; exact hL.sup (y + 1), by rw [hfx]; exact hL.cl y, hrest⟩
end Go.Proofs.YticbdcpdooahjaaDoor
