/- The machine: a row of one's own is moved into a box that stands already; a list with room is told as a plain one. -/
import Derived.Test.YtafipkbffboebaaGreatDoorMpM
namespace Go.Proofs.YtafipkbffboebaaGreatDoor
open Go Go.RowKit
set_option linter.unusedVariables false
set_option linter.unusedSimpArgs false
set_option maxHeartbeats 2000000
/-- A slot that holds an empty list without room: a row of one's own begins there. -/
theorem Weak.mtNew {σ : St} {t τ e sz : Nat} {x : CV} (n' : Nat) (hn : 0 < n') (hsz : 0 < sz) (hτ : σ.H τ = none) (ht : σ.env t = .c x) (hx : x = .d (.val (.slice none 0 0)) ∨ x = .full sz []) :
    Weak σ { σ with env := upd σ.env t (.c (.mt τ n')), H := upd σ.H τ (some (.mrow e sz n' [])) } := by
  have w1 := Weak.mtok (σ := σ) (τ := τ) e sz hτ hsz
  have w2 := Weak.mtSlot (σ := { σ with H := upd σ.H τ (some (.mrow e sz 0 [])) }) (t := t) (τ := τ) n' hn (upd_same _ _ _) ht hx
  dsimp only at w2
  rw [upd_upd] at w2
  exact w1.trans w2
end Go.Proofs.YtafipkbffboebaaGreatDoor
