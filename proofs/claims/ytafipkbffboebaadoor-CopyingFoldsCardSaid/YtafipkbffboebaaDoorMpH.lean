/- The machine: rows of one's own that are written: how they begin, and how they become lists. -/
import Derived.Test.YtafipkbffboebaaDoorMacD
namespace Go.Proofs.YtafipkbffboebaaDoor
open Go Go.RowKit
set_option linter.unusedVariables false
set_option linter.unusedSimpArgs false
theorem Weak.mtok {σ : St} {τ : Nat} (e sz : Nat) (hτ : σ.H τ = none) (hsz : 0 < sz) : Weak σ { σ with H := upd σ.H τ (some (.mrow e sz 0 [])) } := by
  intro W0 K0 g a w r
  obtain ⟨h5, h6⟩ := r.mem.mtok e sz hτ hsz
  exact ⟨g, h5, fun t => (r.env t).mono h6, r.size, r.defers.mono h6 (fun i o hi => by rw [show (upd σ.H τ (some (HE.mrow e sz 0 []))) i = σ.H i from upd_ne _ _ (fun e => by subst e; rw [hτ] at hi; cases hi)]; exact hi), r.ln, r.rd, r.nodup, r.lt⟩
theorem mt_nil {g : G} {H : Hp} {W0 : Fr} {K0 : Know} {w : World} {τ e sz : Nat} {v : Value} (hβ : g.β τ = none) (hτ : H τ = some (.mrow e sz 0 [])) (h : RepC g H (.d (.val (.slice none 0 0))) v) : RepC g H (.mt τ 0) v := by
  have h : Rep g.K (.val (.slice none 0 0)) v := h
  cases h
  exact ⟨⟨_, _, _, rfl⟩, e, sz, 0, [], hτ, Nat.le_refl _, fun _ => .inr ⟨hβ, rfl, _, rfl⟩⟩
/-- A cell that holds the nil list: a row of one's own begins there. -/
theorem Weak.mtCell {σ : St} {id k τ : Nat} {cs : List CV} (e sz : Nat) (hsz : 0 < sz) (hne : id ≠ τ) (hτ : σ.H τ = none) (hid : σ.H id = some (.cells cs)) (hk : cs[k]? = some (.d (.val (.slice none 0 0)))) : Weak σ { σ with H := upd (upd σ.H τ (some (.mrow e sz 0 []))) id (some (.cells (cs.set k (.mt τ 0)))) } := by
  intro W0 K0 g a w r
  have hβ : g.β τ = none := r.mem.dom τ hτ
  obtain ⟨h5, h6⟩ := r.mem.mtok e sz hτ hsz
  have hid' : upd σ.H τ (some (.mrow e sz 0 [])) id = some (.cells cs) := (upd_ne _ _ hne).trans hid
  obtain ⟨b, vs, t, hb, hheap, hr, h1, hn⟩ := h5.holds id _ hid'
  have hr' : RepCs g (upd σ.H τ (some (.mrow e sz 0 []))) (cs.set k (.mt τ 0)) vs := by
    refine ⟨by simp [hr.1], fun j z v hz hv => ?_⟩
    rw [List.getElem?_set] at hz
    split at hz
    · rename_i e
      subst e
      split at hz
      · cases hz
        exact mt_nil (W0 := W0) (K0 := K0) (w := w) hβ (upd_same _ _ _) (hr.2 _ _ _ hk hv)
      · cases hz
    · exact hr.2 j z v hz hv
  obtain ⟨h7, h8⟩ := RelH.write (t := t) h5 hid' hb hheap hn hr' h1
  rw [setRow_self w b vs.toArray t (0, 0) hheap] at h7
  exact ⟨g, h7, fun t => (r.env t).mono (h6.trans h8), r.size, r.defers.mono (h6.trans h8) (fun i o hi => by
    show upd (upd σ.H τ _) id _ i = _
    rw [upd_ne _ _ (fun e => by subst e; rw [hid] at hi; cases hi), upd_ne _ _ (fun e => by subst e; rw [hτ] at hi; cases hi)]; exact hi), r.ln, r.rd, r.nodup, r.lt⟩
end Go.Proofs.YtafipkbffboebaaDoor
