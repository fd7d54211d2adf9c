/- The abstract machine (MpL, MpM, MpN). -/
import Derived.Test.YtpklhnpchhaccaaGreatDoorMpK
import Derived.Test.YtpklhnpchhaccaaGreatDoorInMb
namespace Go.Proofs.YtpklhnpchhaccaaGreatDoor
open Go Go.RowKit
set_option linter.unusedVariables false
set_option linter.unusedSimpArgs false
set_option maxHeartbeats 2000000
theorem aLw {g : G} {H : Hp} {sz : Nat} {x : CV} {v : Value} (hx : x = .d (.val (.slice none 0 0)) ∨ x = .full sz []) (h : aU g H x v) : ∃ a, v = .slice a 0 0 := by
 rcases hx with rfl | rfl
 ·have h : Rep g.K (.val (.slice none 0 0)) v := h
  cases h; exact ⟨_, rfl⟩
 ·obtain ⟨_, a, hv⟩ := h
  exact ⟨a, hv⟩
/-- A slot that holds an empty list without room: a row of one's own begins there, in a box that was another's. -/
theorem aF.mtSlot {σ : St} {t τ e sz n : Nat} {cs : List CV} {x : CV} (n' : Nat) (hn : n < n') (hτ : σ.H τ = some (.mrow e sz n cs)) (ht : σ.env t = .c x) (hx : x = .d (.val (.slice none 0 0)) ∨ x = .full sz []) :
  aF σ { σ with env := upd σ.env t (.c (.mt τ n')), H := upd σ.H τ (some (.mrow e sz n' [])) } := by
 intro W0 K0 g a w r
 obtain ⟨h5, h6⟩ := r.mem.mreset hτ n' hn
 have hv : aU g σ.H x (a.tmps.getD t undef) := by have := r.env t; rw [ht] at this; exact this
 obtain ⟨b, hb⟩ := aLw hx hv
 refine ⟨_, h5, fun u => ?_, r.size, r.defers.mono h6 (fun i o hi => ?_), r.ln, r.rd, r.nodup, r.lt⟩
 ·show aX _ _ (upd σ.env t _ u) _
  by_cases h : u = t
  ·subst h; rw [aB]
   exact ⟨⟨_, _, _, hb⟩, e, sz, n', [], aB _ _ _, Nat.le_refl _, fun _ => .inr ⟨aB _ _ _, rfl, b, hb⟩⟩
  ·rw [aA _ _ h]; exact (r.env u).mono h6
 ·show upd σ.H τ _ i = _
  rw [aA _ _ (fun e => by subst e; rw [hτ] at hi; cases hi)]; exact hi
/-- A slot that holds an empty list without room: a row of one's own begins there. -/
theorem aF.mtNew {σ : St} {t τ e sz : Nat} {x : CV} (n' : Nat) (hn : 0 < n') (hsz : 0 < sz) (hτ : σ.H τ = none) (ht : σ.env t = .c x) (hx : x = .d (.val (.slice none 0 0)) ∨ x = .full sz []) :
  aF σ { σ with env := upd σ.env t (.c (.mt τ n')), H := upd σ.H τ (some (.mrow e sz n' [])) } := by
 have w1 := aF.mtok (σ := σ) (τ := τ) e sz hτ hsz
 have w2 := aF.mtSlot (σ := { σ with H := upd σ.H τ (some (.mrow e sz 0 [])) }) (t := t) (τ := τ) n' hn (aB _ _ _) ht hx
 dsimp only at w2
 rw [aEr] at w2
 exact w1.trans w2
end Go.Proofs.YtpklhnpchhaccaaGreatDoor
