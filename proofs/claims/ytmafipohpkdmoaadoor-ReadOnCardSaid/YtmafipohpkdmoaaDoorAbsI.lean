/- The abstract machine: regions, those that draw their order among them. -/
import Derived.Test.YtmafipohpkdmoaaDoorAbsH
import Derived.Tactics
namespace Go.Proofs.YtmafipohpkdmoaaDoor
open Go Go.RowKit
set_option linter.unusedVariables false
def dstOk (σ : St) (o : Oper) : Prop := match o.dst with
  | some d => d < σ.sz
  | none => True
def putE (env : Nat → SV) (d : Option Nat) (x : SV) : Nat → SV := match d with
  | some d => upd env d x
  | none => env
def St.put (σ : St) (dst : Option Nat) (v : SV) : St := { σ with env := putE σ.env dst v }
def St.step (σ : St) (o : Oper) (r : Res) : St := { env := (σ.put o.dst r.v).env, H := hup σ.H r.up, nx := if r.al then σ.nx + 1 else σ.nx, sz := σ.sz, lent := σ.lent }
def St.skip (σ : St) (o : Oper) : St := σ.put o.dst (.c (.d (.val undef)))
structure Foot where
  fp : List Nat
  wr : Option Nat
def guardB (all : List Oper) (env : Nat → SV) (o : Oper) : Option Bool :=
  match o.guard with
  | none => some true
  | some (j, want) => match all[j]? with
    | some oj => match oj.dst with
      | some d => match (env d).exact with
        | some (.bool b) => some (b == want)
        | some _ => some false
        | none => none
      | none => none
    | none => none
def aops (P : Program) (all : List Oper) : List Oper → St → List Foot → (St → List Foot → Prop) → Prop
  | [], σ, tr, k => k σ tr.reverse
  | o :: os, σ, tr, k => match guardB all σ.env o with
    | none => False
    | some t => (t = true → astep P o (evalS σ.env) σ.H σ.nx (fun r => dstOk σ o ∧ aops P all os (σ.step o r) (⟨r.fp, r.up.map (·.1)⟩ :: tr) k)) ∧
        (t = false → dstOk σ o ∧ aops P all os (σ.skip o) (⟨[], none⟩ :: tr) k)
theorem put_getD (a : Act) (d : Option Nat) (v : Value) (t : Nat) : (a.put d v).tmps.getD t undef = if d = some t ∧ t < a.tmps.size then v else a.tmps.getD t undef := by
  cases d with
  | none => simp [Act.put]
  | some d =>
    simp only [Act.put, Array.getD_eq_getD_getElem?, Array.getElem?_setIfInBounds, Option.some.injEq]
    by_cases h : d = t
    · subst h
      by_cases h2 : d < a.tmps.size
      · simp [h2]
      · simp [h2]
    · simp [h]
theorem put_size (a : Act) (d : Option Nat) (v : Value) : (a.put d v).tmps.size = a.tmps.size := by cases d <;> simp [Act.put]
theorem put_def (a : Act) (d : Option Nat) (v : Value) : (a.put d v).defers = a.defers := by cases d <;> rfl
/-- What a frame holds behind a put. -/
theorem env_put {g : G} {H : Hp} {env : Nat → SV} {a : Act} {d : Option Nat} {x : SV} {v : Value} {n : Nat} (h : ∀ t, RepS g H (env t) (a.tmps.getD t undef)) (hx : RepS g H x v) (hs : a.tmps.size = n) (hd : ∀ t, d = some t → t < n) (t : Nat) :
    RepS g H (putE env d x t) ((a.put d v).tmps.getD t undef) := by
  rw [put_getD]
  cases d with
  | none => rw [if_neg (by simp)]; exact h t
  | some d =>
    by_cases ht : d = t
    · subst ht
      rw [if_pos ⟨rfl, by rw [hs]; exact hd d rfl⟩, show putE env (some d) x d = x from upd_same _ _ _]; exact hx
    · rw [if_neg (fun h => ht (by simpa using h.1)), show putE env (some d) x t = env t from upd_ne _ _ (Ne.symm ht)]; exact h t
theorem step_rel {P : Program} {W0 : Fr} {K0 : Know} {g : G} {σ : St} {a : Act} {w : World} {o : Oper} {r : Res} (h : Rel W0 K0 g σ a w) (hs : AStep P o (evalS σ.env) σ.H σ.nx r) (hd : dstOk σ o) (Q : Exit → Act → World → Prop) :
    o.wp P a w (fun a' w' => ∃ g', Rel W0 K0 g' (σ.step o r) a' w') Q := by
  refine Oper.wp_mono ?_ (step_sound h.mem (fun x _ => evalS_rep h x) hs Q)
  rintro a' w' ⟨v, g', rfl, hv, hm, hle⟩
  refine ⟨g', hm, fun t => ?_, by rw [put_size]; exact h.size, by rw [put_def]; exact h.defers, h.ln⟩
  exact env_put (d := o.dst) (x := r.v) (v := v) (fun t => (h.env t).mono hle) hv h.size (fun t ht => by have := hd; unfold dstOk at this; rw [ht] at this; exact this) t
theorem skip_rel {W0 : Fr} {K0 : Know} {g : G} {σ : St} {a : Act} {w : World} {o : Oper} (h : Rel W0 K0 g σ a w) (hd : dstOk σ o) : Rel W0 K0 g (σ.skip o) (a.put o.dst undef) w := by
  refine ⟨h.mem, fun t => ?_, by rw [put_size]; exact h.size, by rw [put_def]; exact h.defers, h.ln⟩
  exact env_put (x := .c (.d (.val undef))) (v := undef) (fun t => h.env t) (Rep.val undef) h.size (fun t ht => by have := hd; unfold dstOk at this; rw [ht] at this; exact this) t
theorem guard_wanted {g : G} {H : Hp} {env : Nat → SV} {a : Act} {all : List Oper} {o : Oper} {t : Bool} (h : ∀ j want oj d, o.guard = some (j, want) → all[j]? = some oj → oj.dst = some d → RepS g H (env d) (a.tmps.getD d undef)) (hg : guardB all env o = some t) : Region.wanted o (yielded all.toArray a.tmps) = t := by
  unfold guardB at hg
  unfold Region.wanted
  cases hgd : o.guard with
  | none => rw [hgd] at hg; cases hg; rfl
  | some q =>
    obtain ⟨j, want⟩ := q
    rw [hgd] at hg
    simp only at hg ⊢
    cases hj : all[j]? with
    | none => rw [hj] at hg; cases hg
    | some oj =>
      rw [hj] at hg
      simp only at hg
      cases hd : oj.dst with
      | none => rw [hd] at hg; cases hg
      | some d =>
        rw [hd] at hg
        simp only at hg
        have hr := h j want oj d hgd hj hd
        have hy : yielded all.toArray a.tmps j = match a.tmps[d]? with | some (.bool b) => some b | _ => none := by
          unfold yielded
          simp [hj, hd]
          cases a.tmps[d]? <;> rfl
        rw [hy]
        rw [Array.getD_eq_getD_getElem?] at hr
        cases hx : (env d).exact with
        | none => rw [hx] at hg; cases hg
        | some v =>
          rw [hx] at hg
          have hv := SV.exact_rep hr hx
          cases ht : a.tmps[d]? with
          | none =>
            rw [ht] at hv
            simp only [Option.getD_none] at hv
            subst hv
            simp only [undef] at hg
            cases hg
            simp
          | some u =>
            rw [ht] at hv
            simp only [Option.getD_some] at hv
            subst hv
            cases u <;> simp only at hg <;> cases hg <;> first | rfl | simp
theorem aops_list {P : Program} {W0 : Fr} {K0 : Know} {all : List Oper} {Q : Exit → Act → World → Prop} {k : St → List Foot → Prop} (hk : ∀ g σ tr a w, k σ tr → Rel W0 K0 g σ a w → Q .normal a w) :
    ∀ (l : List Oper) (g : G) (σ : St) (tr : List Foot) (a : Act) (w : World), aops P all l σ tr k → Rel W0 K0 g σ a w → wpList P all.toArray Q l a w
  | [], g, σ, tr, a, w, h, hr => hk g σ _ a w h hr
  | o :: os, g, σ, tr, a, w, h, hr => by
    simp only [aops] at h
    split at h
    · exact h.elim
    · rename_i t ht
      have hw := guard_wanted (a := a) (fun _ _ _ d _ _ _ => hr.env d) ht
      unfold wpList
      rw [hw]
      cases t with
      | true =>
        obtain ⟨r, hr1, hd, hrest⟩ := astep_get (h.1 rfl)
        simp only [if_true]
        refine Or.inl (Oper.wp_mono ?_ (step_rel hr hr1 hd Q))
        rintro a' w' ⟨g', hr'⟩
        exact aops_list hk os g' _ _ a' w' hrest hr'
      | false =>
        obtain ⟨hd, hrest⟩ := h.2 rfl
        simp only [Bool.false_eq_true, if_false]
        exact aops_list hk os g _ _ _ w hrest (skip_rel hr hd)
end Go.Proofs.YtmafipohpkdmoaaDoor
