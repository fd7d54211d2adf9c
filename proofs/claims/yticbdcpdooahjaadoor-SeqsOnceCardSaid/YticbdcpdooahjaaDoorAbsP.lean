/- The machine: boxes under other numbers. -/
import Derived.Test.YticbdcpdooahjaaDoorAbsN
namespace Go.Proofs.YticbdcpdooahjaaDoor
open Go Go.RowKit
set_option linter.unusedVariables false
set_option linter.unusedSimpArgs false
def Cap.ren (ρ : Nat → Nat) : Cap → Cap
  | .d x => .d x
  | .own id off => .own (ρ id) off
def CV.ren (ρ : Nat → Nat) : CV → CV
  | .any => .any
  | .d x => .d x
  | .own id off => .own (ρ id) off
  | .app τ sz xs => .app (ρ τ) sz xs
  | .full sz xs => .full sz xs
  | .view id sz off len => .view (ρ id) sz off len
  | .clo f caps => .clo f (caps.map (Cap.ren ρ))
  | .yld id => .yld (ρ id)
def SV.ren (ρ : Nat → Nat) : SV → SV
  | .c x => .c (x.ren ρ)
  | .agg cs => .agg (cs.map (CV.ren ρ))
def HE.ren (ρ : Nat → Nat) : HE → HE
  | .cells cs => .cells (cs.map (CV.ren ρ))
  | .froz ds => .froz ds
  | .row e sz n => .row e sz n
  | .obj o => .obj o
def Hp.ren (ρ : Nat → Nat) (H : Hp) : Hp := fun i => (H (ρ i)).map (HE.ren ρ)
def G.ren (ρ : Nat → Nat) (g : G) : G := ⟨g.K, fun i => g.β (ρ i), fun i => g.cap (ρ i)⟩
theorem isRow_ren (ρ : Nat → Nat) (H : Hp) (i : Nat) : isRow (H.ren ρ i) = isRow (H (ρ i)) := by
  unfold Hp.ren
  cases H (ρ i) with
  | none => rfl
  | some he => cases he <;> rfl
theorem own_ren {ρ : Nat → Nat} (hρ : ∀ i, ρ (ρ i) = i) {g : G} {H : Hp} {id off : Nat} {v : Value} (r : RepC g H (.own id off) v) : RepC (g.ren ρ) (H.ren ρ) (.own (ρ id) off) v := by
  obtain ⟨b, hb, rfl, hr⟩ := r
  exact ⟨b, by show g.β (ρ (ρ id)) = _; rw [hρ]; exact hb, rfl, by rw [isRow_ren, hρ]; exact hr⟩
theorem rep_ren {ρ : Nat → Nat} (hρ : ∀ i, ρ (ρ i) = i) {g : G} {H : Hp} {x : CV} {v : Value} (r : RepC g H x v) : RepC (g.ren ρ) (H.ren ρ) (x.ren ρ) v := by
  cases x with
  | any => trivial
  | d x => exact r
  | full sz xs => exact r
  | own id off => exact own_ren hρ r
  | app τ sz xs =>
    obtain ⟨h1, e, n, hrow, hl, hf⟩ := r
    refine ⟨h1, e, n, by show Hp.ren ρ H (ρ τ) = _; unfold Hp.ren; rw [hρ, hrow]; rfl, hl, fun hn => ?_⟩
    rcases hf hn with h | ⟨b, hb, hv⟩
    · exact .inl h
    · exact .inr ⟨b, by show g.β (ρ (ρ τ)) = _; rw [hρ]; exact hb, by show _ = Value.slice _ _ (g.cap (ρ (ρ τ))); rw [hρ]; exact hv⟩
  | view id sz off len =>
    obtain ⟨b, c, hb, rfl, hc, hr⟩ := r
    exact ⟨b, c, by show g.β (ρ (ρ id)) = _; rw [hρ]; exact hb, rfl, hc, by rw [isRow_ren, hρ]; exact hr⟩
  | clo f caps =>
    obtain ⟨vs, hv, hl, hc⟩ := r
    refine ⟨vs, hv, by simpa using hl, fun j c u hj hu => ?_⟩
    simp only [List.getElem?_map, Option.map_eq_some_iff] at hj
    obtain ⟨c0, hj0, rfl⟩ := hj
    have := hc j c0 u hj0 hu
    cases c0 with
    | d x => exact this
    | own id off => exact own_ren hρ this
  | yld id =>
    obtain ⟨b, hb, hv, hr⟩ := r
    exact ⟨b, by show g.β (ρ (ρ id)) = _; rw [hρ]; exact hb, hv, by rw [isRow_ren, hρ]; exact hr⟩
theorem reps_ren {ρ : Nat → Nat} (hρ : ∀ i, ρ (ρ i) = i) {g : G} {H : Hp} {cs : List CV} {vs : List Value} (r : RepCs g H cs vs) : RepCs (g.ren ρ) (H.ren ρ) (cs.map (CV.ren ρ)) vs :=
  ⟨by simpa using r.1, fun j x v hx hv => by
    simp only [List.getElem?_map, Option.map_eq_some_iff] at hx
    obtain ⟨x0, hx0, rfl⟩ := hx
    exact rep_ren hρ (r.2 j x0 v hx0 hv)⟩
theorem ren_id {ρ : Nat → Nat} {x : CV} (h : ∀ i ∈ x.ids, False) : x.ren ρ = x := by
  cases x with
  | own id off => exact (h id (by simp [CV.ids])).elim
  | app τ sz xs => exact (h τ (by simp [CV.ids])).elim
  | view id sz off len => exact (h id (by simp [CV.ids])).elim
  | yld id => exact (h id (by simp [CV.ids])).elim
  | clo f caps =>
    show CV.clo f (caps.map (Cap.ren ρ)) = _
    congr 1
    conv => rhs; rw [← List.map_id caps]
    apply List.map_congr_left
    intro c hc
    cases c with
    | d x => rfl
    | own id off => exact (h id (by simp only [CV.ids, List.mem_flatMap]; exact ⟨_, hc, by simp [Cap.ids]⟩)).elim
  | _ => rfl
/-- Boxes change their numbers (ρ is its own inverse); nothing is lent. -/
theorem Weak.ren {σ : St} (ρ : Nat → Nat) (hρ : ∀ i, ρ (ρ i) = i) (hfx : σ.fx.lent = [] ∧ σ.fx.dfs = []) : Weak σ ⟨fun t => (σ.env t).ren ρ, σ.H.ren ρ, σ.nx, σ.sz, σ.fx⟩ := by
  intro W0 K0 g a w r
  have hln : W0.ln = [] := r.ln.trans hfx.1
  refine ⟨g.ren ρ, ⟨r.mem.below, r.mem.ext, r.mem.kw, fun i he hi => ?_, fun i b hi => r.mem.base _ b hi, fun i hi => ?_, fun i j b hi hj => ?_, fun i b hi => r.mem.frozlt _ b hi, r.mem.glob, fun x v hx h => ?_⟩, fun t => ?_, r.size, ?_, r.ln, r.rd, r.nodup, r.lt⟩
  · have hi : (σ.H (ρ i)).map (HE.ren ρ) = some he := hi
    cases hq : σ.H (ρ i) with
    | none => rw [hq] at hi; cases hi
    | some he0 =>
      rw [hq] at hi
      have hi : he0.ren ρ = he := by simpa using hi
      subst hi
      have := r.mem.holds (ρ i) he0 hq
      cases he0 with
      | cells cs =>
        obtain ⟨b, vs, t, h1, h2, h3, h4, h5⟩ := this
        exact ⟨b, vs, t, h1, h2, reps_ren hρ h3, h4, h5⟩
      | froz ds => exact this
      | row e sz n => exact this
      | obj o => exact this
  · have hi : (σ.H (ρ i)).map (HE.ren ρ) = none := hi
    cases hq : σ.H (ρ i) with
    | none => exact r.mem.dom _ hq
    | some he0 => rw [hq] at hi; cases hi
  · have := r.mem.sep (ρ i) (ρ j) b hi hj
    rw [← hρ i, ← hρ j, this]
  · have h0 : ∀ i ∈ x.ids, False := fun i hi => by have := hx i hi; rw [hln] at this; cases this
    have := rep_ren hρ (r.mem.lent x v hx h)
    rwa [ren_id h0] at this
  · have := r.env t
    show RepS _ _ ((σ.env t).ren ρ) _
    cases hs : σ.env t with
    | c x => rw [hs] at this; exact rep_ren hρ this
    | agg cs =>
      rw [hs] at this
      obtain ⟨vs, hv, hr, h1⟩ := this
      exact ⟨vs, hv, reps_ren hρ hr, h1⟩
  · have := r.defers
    show DefsRel _ _ σ.fx.dfs a.defers
    rw [hfx.2] at this ⊢
    cases hq : a.defers with
    | nil => trivial
    | cons x y => rw [hq] at this; exact this.elim
end Go.Proofs.YticbdcpdooahjaaDoor
