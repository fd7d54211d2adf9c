/- The machine: functions to which boxes are lent by pointers: the contract, and the body. -/
import Derived.Test.YticbdcpdooahjaaDoorMacC
import Derived.Test.YticbdcpdooahjaaDoorMacB
namespace Go.Proofs.YticbdcpdooahjaaDoor
open Go Go.RowKit
set_option linter.unusedVariables false
set_option linter.unusedSimpArgs false
/-! numbers turned twice -/
theorem Cap.ren_ren {ρ : Nat → Nat} (hρ : ∀ i, ρ (ρ i) = i) (c : Cap) : (c.ren ρ).ren ρ = c := by cases c <;> simp [Cap.ren, hρ]
theorem map_id_of {α : Type} {f : α → α} (h : ∀ x, f x = x) (l : List α) : l.map f = l := by
  conv => rhs; rw [← List.map_id l]
  exact List.map_congr_left (fun x _ => h x)
theorem CV.ren_ren {ρ : Nat → Nat} (hρ : ∀ i, ρ (ρ i) = i) (c : CV) : (c.ren ρ).ren ρ = c := by
  cases c with
  | clo f caps => simp only [CV.ren, List.map_map]; rw [map_id_of (f := Cap.ren ρ ∘ Cap.ren ρ) (fun x => Cap.ren_ren hρ x)]
  | _ => simp [CV.ren, hρ]
theorem SV.ren_ren {ρ : Nat → Nat} (hρ : ∀ i, ρ (ρ i) = i) (c : SV) : (c.ren ρ).ren ρ = c := by
  cases c with
  | c x => simp only [SV.ren, CV.ren_ren hρ]
  | agg cs => simp only [SV.ren, List.map_map]; rw [map_id_of (f := CV.ren ρ ∘ CV.ren ρ) (fun x => CV.ren_ren hρ x)]
theorem HE.ren_ren {ρ : Nat → Nat} (hρ : ∀ i, ρ (ρ i) = i) (c : HE) : (c.ren ρ).ren ρ = c := by
  cases c with
  | cells cs => simp only [HE.ren, List.map_map]; rw [map_id_of (f := CV.ren ρ ∘ CV.ren ρ) (fun x => CV.ren_ren hρ x)]
  | _ => rfl
theorem Hp.ren_ren {ρ : Nat → Nat} (hρ : ∀ i, ρ (ρ i) = i) (H : Hp) : (H.ren ρ).ren ρ = H := by
  funext i
  simp only [Hp.ren, hρ, Option.map_map]
  cases H i with
  | none => rfl
  | some x => simp [HE.ren_ren hρ]
theorem G.ren_ren {ρ : Nat → Nat} (hρ : ∀ i, ρ (ρ i) = i) (g : G) : (g.ren ρ).ren ρ = g := by
  obtain ⟨K, β, cap⟩ := g
  simp only [G.ren, hρ]
theorem ids_ren (ρ : Nat → Nat) (x : CV) : (x.ren ρ).ids = x.ids.map ρ := by
  cases x with
  | clo f caps =>
    simp only [CV.ren, CV.ids, List.flatMap_map, List.map_flatMap]
    congr 1
    funext c
    cases c <;> rfl
  | _ => rfl
def Fr.ren (ρ : Nat → Nat) (F : Fr) : Fr := ⟨F.W, F.S, F.ln.map ρ, F.g.ren ρ, F.H.ren ρ, F.ro⟩
theorem Fr.ren_ren {ρ : Nat → Nat} (hρ : ∀ i, ρ (ρ i) = i) (F : Fr) : (F.ren ρ).ren ρ = F := by
  obtain ⟨W, S, ln, g, H, ro⟩ := F
  simp only [Fr.ren, G.ren_ren hρ, Hp.ren_ren hρ, List.map_map]
  rw [map_id_of (f := ρ ∘ ρ) (fun x => hρ x)]
theorem RelH.ren {ρ : Nat → Nat} (hρ : ∀ i, ρ (ρ i) = i) {F : Fr} {K0 : Know} {g : G} {H : Hp} {w : World} (r : RelH F K0 g H w) : RelH (F.ren ρ) K0 (g.ren ρ) (H.ren ρ) w := by
  refine ⟨⟨r.below.os, r.below.tape, r.below.output, r.below.size, r.below.block⟩, r.ext, r.kw, fun i he hi => ?_, fun i b hi => r.base _ b hi, fun i hi => ?_, fun i j b hi hj => ?_, fun i b hi => r.frozlt _ b hi, r.glob, fun x v hx h => ?_⟩
  · have hi : (H (ρ i)).map (HE.ren ρ) = some he := hi
    cases hq : H (ρ i) with
    | none => rw [hq] at hi; cases hi
    | some he0 =>
      rw [hq] at hi
      have hi : he0.ren ρ = he := by simpa using hi
      subst hi
      have := r.holds (ρ i) he0 hq
      cases he0 with
      | cells cs =>
        obtain ⟨b, vs, t, h1, h2, h3, h4, h5⟩ := this
        exact ⟨b, vs, t, h1, h2, reps_ren hρ h3, h4, h5⟩
      | froz ds => exact this
      | row e sz n => exact this
      | obj o => exact this
  · have hi : (H (ρ i)).map (HE.ren ρ) = none := hi
    cases hq : H (ρ i) with
    | none => exact r.dom _ hq
    | some he0 => rw [hq] at hi; cases hi
  · have := r.sep (ρ i) (ρ j) b hi hj
    rw [← hρ i, ← hρ j, this]
  · have h1 := rep_ren hρ h
    have e1 : (F.ren ρ).g.ren ρ = F.g := G.ren_ren hρ F.g
    have e2 : (F.ren ρ).H.ren ρ = F.H := Hp.ren_ren hρ F.H
    rw [e1, e2] at h1
    have h2 := r.lent (x.ren ρ) v (fun i hi => by
      rw [ids_ren] at hi
      obtain ⟨j, hj, rfl⟩ := List.mem_map.1 hi
      have := hx j hj
      have : j ∈ F.ln.map ρ := this
      obtain ⟨m, hm, rfl⟩ := List.mem_map.1 this
      rw [hρ]; exact hm) h1
    have h3 := rep_ren hρ h2
    rw [CV.ren_ren hρ] at h3
    exact h3
theorem RepS.ren {ρ : Nat → Nat} (hρ : ∀ i, ρ (ρ i) = i) {g : G} {H : Hp} {x : SV} {v : Value} (h : RepS g H x v) : RepS (g.ren ρ) (H.ren ρ) (x.ren ρ) v := by
  cases x with
  | c x => exact rep_ren hρ h
  | agg cs =>
    obtain ⟨vs, hv, hr, h1⟩ := h
    exact ⟨vs, hv, reps_ren hρ hr, h1⟩
theorem rep_off {ks : List Nat} {g : G} {H : Hp} {x : CV} {v : Value} (h : RepC (g.on ks) (H.on ks) x v) : RepC g H x v := by
  have ho : ∀ id off v, RepC (g.on ks) (H.on ks) (.own id off) v → RepC g H (.own id off) v := by
    rintro id off v ⟨b, hb, hv, hr⟩
    obtain ⟨h1, h2⟩ := G.on_some hb
    rw [Hp.on_in h1] at hr
    exact ⟨b, h2, hv, hr⟩
  cases x with
  | any => trivial
  | d x => exact h
  | full sz xs => exact h
  | own id off => exact ho id off v h
  | yld id => exact yld_mono h ho
  | clo f caps => exact clo_mono h (KLe.refl _) ho
  | view id sz off len =>
    obtain ⟨b, c, hb, hv, hc, hr⟩ := h
    obtain ⟨h1, h2⟩ := G.on_some hb
    rw [Hp.on_in h1] at hr
    exact ⟨b, c, h2, hv, hc, hr⟩
  | app τ sz xs =>
    obtain ⟨h1, e, n, hrow, hl, hf⟩ := h
    cases hc : ks.contains τ with
    | false => rw [Hp.on_out hc] at hrow; cases hrow
    | true =>
      rw [Hp.on_in hc] at hrow
      refine ⟨h1, e, n, hrow, hl, fun hn => ?_⟩
      rcases hf hn with h2 | ⟨b, hb, hv⟩
      · exact .inl h2
      · exact .inr ⟨b, (G.on_some hb).2, hv⟩
/-- THE CONTRACT OF A FUNCTION TO WHICH BOXES ARE LENT: it is handed args; the boxes ks stand as B says; behind it its result is r, and the boxes ks' stand as B' says. -/
structure FunG (P : Program) (f : FuncId) (args : List SV) (ks : List Nat) (B : Hp) (r : SV) (ks' : List Nat) (B' : Hp) : Prop where
  body : bodyOk P f = true
  sup : ∀ i, ks.contains i = false → B i = none
  sup' : ∀ i, ks'.contains i = false → B' i = none
  sub : ∀ i, ks.contains i = true → ks'.contains i = true
  cl : Closed ks B
  ids : ∀ a ∈ args, ∀ i ∈ a.ids, ks.contains i = true
  calls : ∀ (g : G) (w : World) (vs : List Value), RelH (lendF w g ks g B) g.K g B w → RepSs g B args vs →
    Calls P f vs.toArray w fun e w' => ∃ v g', e = .returned v ∧ RepS g' B' r v ∧ RelH (lendF w g ks g B) g.K g' B' w'
def retG (P : Program) (σ : St) (rs : List ResultVar) : Option SV := match rs with
  | [.tmp t] => some (σ.env t)
  | [.cell a t] => match aLoad P t σ.H (σ.env a) with
    | some r => some r.v
    | none => none
  | rs => match mapO (retV P σ) rs with
    | some ds => some (.c (.d (.tup ds)))
    | none => none
theorem retG_sound {P : Program} {W0 : Fr} {K0 : Know} {g : G} {σ : St} {a : Act} {w : World} {fn : Func} (hr : Rel W0 K0 g σ a w) {x : SV} (h : retG P σ fn.results.toList = some x) :
    ∃ v, (results fn a.tmps).run P w = .ok v w ∧ RepS g σ.H x v := by
  have one : ∀ (y : ResultVar) (v : Value), fn.results.toList = [y] → (resM a.tmps y).run P w = .ok v w → (results fn a.tmps).run P w = .ok v w := by
    intro y v hy hv
    rw [results_eq, Sem.run_bind, Array.mapM_eq_mapM_toList, Sem.run_map, hy, List.mapM_cons, Sem.run_bind, hv]
    simp
  unfold retG at h
  split at h
  · rename_i t ht
    cases h
    exact ⟨_, one _ _ ht rfl, hr.env t⟩
  · rename_i b t ht
    split at h
    · rename_i r hl
      cases h
      obtain ⟨u, hrun, hv, _⟩ := load_run (P := P) hr.mem (hr.env b) hl
      refine ⟨u, one _ _ ht ?_, hv⟩
      show Sem.run P (do loadVar t (← asAddr (a.tmps.getD b undef))) w = _
      generalize a.tmps.getD b undef = va at hrun
      unfold Instr.loadAt at hrun
      rw [Sem.run_bind] at hrun ⊢
      cases va with
      | pointer p => cases p with
        | some ad => exact hrun
        | none => cases hrun
      | _ => cases hrun
    · cases h
  · rename_i h1 h2
    split at h
    · rename_i ds hds
      cases h
      have : retD P σ fn.results.toList = some (.tup ds) := by
        unfold retD
        split
        · rename_i y hy
          cases y with
          | tmp t => exact (h1 t hy).elim
          | cell b t => exact (h2 b t hy).elim
        · rw [hds]
      obtain ⟨v, hv, hd⟩ := results_sound hr this
      exact ⟨v, hv, hd⟩
    · cases h
/-- The frame in which such a body begins. -/
def entryG (args : List SV) (ks : List Nat) (B : Hp) (n : Nat) : St := ⟨fun t => match args[t]? with | some x => x | none => .c .any, B, 1000, n, ⟨ks, [], false, none⟩⟩
theorem entryG_env (args : List SV) (ks : List Nat) (B : Hp) (n t : Nat) : (entryG args ks B n).env t = match args[t]? with | some x => x | none => .c .any := rfl
theorem entryG_H (args : List SV) (ks : List Nat) (B : Hp) (n : Nat) : (entryG args ks B n).H = B := rfl
theorem entryG_nx (args : List SV) (ks : List Nat) (B : Hp) (n : Nat) : (entryG args ks B n).nx = 1000 := rfl
theorem entryG_sz (args : List SV) (ks : List Nat) (B : Hp) (n : Nat) : (entryG args ks B n).sz = n := rfl
theorem entryG_fx (args : List SV) (ks : List Nat) (B : Hp) (n : Nat) : (entryG args ks B n).fx = ⟨ks, [], false, none⟩ := rfl
def GEnd (P : Program) (rs : List ResultVar) (r : SV) (ks' : List Nat) (B' : Hp) (σ : St) : Prop := ∃ σ', Weak σ σ' ∧ σ'.fx.dfs = [] ∧ retG P σ' rs = some r ∧ (∀ k, ks'.contains k = true → σ'.H k = B' k)
def bodyQG (P : Program) (rs : List ResultVar) (r : SV) (ks' : List Nat) (B' : Hp) : Exit → St → Prop
  | .normal, σ => GEnd P rs r ks' B' σ
  | .ret, σ => GEnd P rs r ks' B' σ
  | _, _ => False
/-- What a list of boxes names is among ks. -/
def okB (ks : List Nat) (M : List (Nat × HE)) : Bool := M.all fun p => p.2.ids.all fun i => ks.contains i
theorem closed_ofH {ks : List Nat} {M : List (Nat × HE)} (h : okB ks M = true) : Closed ks (ofH M) := by
  intro k cs hk hc i hi
  have hm := lookup_mem (show M.lookup k = some (.cells cs) from hc)
  have h2 := List.all_eq_true.1 h _ hm
  exact List.all_eq_true.1 h2 i hi
theorem FunG.of_body {P : Program} {f : FuncId} {fn : Func} {c : Code} {args : List SV} {ks ks' : List Nat} {B B' : Hp} {r : SV} {n : Nat} {rs : Array ResultVar} (hf : P.funcs[f]? = some fn) (hb : fn.body = some c) (hn : (fn.name == "runtime.NumGoroutine") = false) (hnt : fn.ntmps = n) (hrs : fn.results = rs) (hle : args.length ≤ n)
    (sup : ∀ i, ks.contains i = false → B i = none) (sup' : ∀ i, ks'.contains i = false → B' i = none) (sub : ∀ i, ks.contains i = true → ks'.contains i = true) (cl : Closed ks B) (cl' : Closed ks' B') (ids : ∀ a ∈ args, ∀ i ∈ a.ids, ks.contains i = true) (rids : ∀ i ∈ r.ids, ks'.contains i = true)
    (h : Wp P c (entryG args ks B n) (bodyQG P rs.toList r ks' B')) : FunG P f args ks B r ks' B' := by
  subst hnt hrs
  refine ⟨by unfold bodyOk; rw [hf]; simp only [hn, hb]; rfl, sup, sup', sub, cl, ids, fun g w vs hh hL => ?_⟩
  have hl := hL.1
  refine callsIn_wide.1 (callsIn_of_wp_marks (F := Fence.wide) (n := 0) hf hb trivial (wpIn_mono (h (lendF w g ks g B) g.K g _ w ⟨hh, ?_, ?_, trivial, rfl, rfl, List.nodup_nil, fun q hq => by cases hq⟩) ?_))
  · intro t
    rw [entryG_H, entryG_env]
    cases ht : args[t]? with
    | none => trivial
    | some x =>
      have hlt : t < vs.length := by have := (List.getElem?_eq_some_iff.1 ht).1; omega
      have : (vs.toArray ++ Array.replicate (fn.ntmps - vs.toArray.size) undef).getD t undef = vs[t] := by
        rw [Array.getD_eq_getD_getElem?, Array.getElem?_append_left (by simpa using hlt)]; simp [hlt]
      rw [this]
      exact hL.2 t x _ ht (List.getElem?_eq_getElem hlt)
  · rw [entryG_sz]; simp; omega
  · rintro e a' w' ⟨g', σ', hr, hQ⟩
    have fin : GEnd P fn.results.toList r ks' B' σ' → LeavesInM Fence.wide 0 P fn a'.tmps (fun e w' => ∃ v g', e = .returned v ∧ RepS g' B' r v ∧ RelH (lendF w g ks g B) g.K g' B' w') a'.defers .returning w' := by
      rintro ⟨σ2, hw, hdf, hret, hB⟩
      obtain ⟨g2, hr2⟩ := hw _ _ _ _ _ hr
      have hd := hr2.defers
      rw [hdf] at hd
      have hnil : a'.defers = [] := by
        cases hq : a'.defers with
        | nil => rfl
        | cons x y => rw [hq] at hd; exact hd.elim
      rw [hnil]
      obtain ⟨v, hv, hrep⟩ := retG_sound hr2 (fn := fn) hret
      have hcl : Closed ks' σ2.H := fun k cs hk hH => cl' k cs hk (by rw [← hB k hk]; exact hH)
      have hm := hr2.mem.drop ks' (fun i hi => by have : i ∈ ks := hi; exact sub i (by simpa using this)) hcl
      have hon : σ2.H.on ks' = B' := by
        funext i
        cases hc : ks'.contains i with
        | true => rw [Hp.on_in hc]; exact hB i hc
        | false => rw [Hp.on_out hc, sup' i hc]
      have hrep' := RepS.on (ks := ks') rids hrep
      rw [hon] at hm hrep'
      exact ⟨v, hv, v, _, rfl, hrep', hm⟩
    cases e with
    | normal => exact fin hQ
    | ret => exact fin hQ
    | _ => exact hQ.elim
def subB (l ks : List Nat) : Bool := l.all fun i => ks.contains i
def okG (args : List SV) (r : SV) (M M' : List (Nat × HE)) : Bool :=
  okB (M.map (·.1)) M && (okB (M'.map (·.1)) M' && (subB (M.map (·.1)) (M'.map (·.1)) && ((args.all fun a => subB a.ids (M.map (·.1))) && subB r.ids (M'.map (·.1)))))
theorem keys_ofH (M : List (Nat × HE)) (i : Nat) (h : (M.map (·.1)).contains i = false) : ofH M i = none := by
  show M.lookup i = none
  cases hm : M.lookup i with
  | none => rfl
  | some x =>
    have : (M.map (·.1)).contains i = true := by simp only [List.contains_iff_mem]; exact List.mem_map.2 ⟨_, lookup_mem hm, rfl⟩
    rw [h] at this; cases this
theorem subB_mem {l ks : List Nat} (h : subB l ks = true) : ∀ i ∈ l, ks.contains i = true := fun i hi => List.all_eq_true.1 h i hi
theorem FunG.of_bodyH {P : Program} {f : FuncId} {fn : Func} {c : Code} {args : List SV} {ks ks' : List Nat} {M M' : List (Nat × HE)} {r : SV} {n : Nat} {rs : Array ResultVar} (hks : M.map (·.1) = ks) (hks' : M'.map (·.1) = ks') (hf : P.funcs[f]? = some fn) (hb : fn.body = some c) (hn : (fn.name == "runtime.NumGoroutine") = false) (hnt : fn.ntmps = n) (hrs : fn.results = rs) (hle : args.length ≤ n)
    (hok : okG args r M M' = true) (h : Wp P c (entryG args ks (ofH M) n) (bodyQG P rs.toList r ks' (ofH M'))) : FunG P f args ks (ofH M) r ks' (ofH M') := by
  subst hks hks'
  simp only [okG, Bool.and_eq_true] at hok
  obtain ⟨h1, h2, h3, h4, h5⟩ := hok
  exact FunG.of_body hf hb hn hnt hrs hle (keys_ofH M) (keys_ofH M') (fun i hi => subB_mem h3 i (by simpa using hi)) (closed_ofH h1) (closed_ofH h2) (fun a ha => subB_mem (List.all_eq_true.1 h4 a ha)) (subB_mem h5) h
def endB (H B' : Hp) : List Nat → Prop
  | [] => True
  | k :: ks => H k = B' k ∧ endB H B' ks
theorem endB_mem {H B' : Hp} : ∀ {ks : List Nat}, endB H B' ks → ∀ k, ks.contains k = true → H k = B' k
  | k :: ks, h, j, hj => by
    simp only [List.contains_cons, Bool.or_eq_true, beq_iff_eq] at hj
    rcases hj with rfl | hj
    · exact h.1
    · exact endB_mem h.2 j hj
theorem bodyQG.ret {P : Program} {rs : List ResultVar} {r : SV} {ks' : List Nat} {B' : Hp} {σ : St} (h : σ.fx.dfs = [] ∧ retG P σ rs = some r ∧ endB σ.H B' ks') : bodyQG P rs r ks' B' .ret σ := ⟨σ, Weak.refl _, h.1, h.2.1, endB_mem h.2.2⟩
theorem bodyQG.normal {P : Program} {rs : List ResultVar} {r : SV} {ks' : List Nat} {B' : Hp} {σ : St} (h : σ.fx.dfs = [] ∧ retG P σ rs = some r ∧ endB σ.H B' ks') : bodyQG P rs r ks' B' .normal σ := ⟨σ, Weak.refl _, h.1, h.2.1, endB_mem h.2.2⟩
theorem bodyQG.weak {P : Program} {rs : List ResultVar} {r : SV} {ks' : List Nat} {B' : Hp} {σ σ2 : St} {e : Exit} (hw : Weak σ σ2) (h : bodyQG P rs r ks' B' e σ2) : bodyQG P rs r ks' B' e σ := by
  cases e with
  | normal => obtain ⟨σ3, h1, h2⟩ := h; exact ⟨σ3, hw.trans h1, h2⟩
  | ret => obtain ⟨σ3, h1, h2⟩ := h; exact ⟨σ3, hw.trans h1, h2⟩
  | _ => exact h
theorem GRUN : type_of% (And.intro @entryG_env (And.intro @entryG_H (And.intro @entryG_nx (And.intro @entryG_sz @entryG_fx)))) := And.intro @entryG_env (And.intro @entryG_H (And.intro @entryG_nx (And.intro @entryG_sz @entryG_fx)))
end Go.Proofs.YticbdcpdooahjaaDoor
