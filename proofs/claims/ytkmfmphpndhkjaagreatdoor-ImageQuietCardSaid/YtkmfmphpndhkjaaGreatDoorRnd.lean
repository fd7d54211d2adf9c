/- Loops of a few rounds,walked round by round. -/
import Derived.Test.YtkmfmphpndhkjaaGreatDoorApA
import Derived.LoopNIn
namespace Go.Proofs.YtkmfmphpndhkjaaGreatDoor
open Go Go.RowKit
set_option linter.unusedVariables false
set_option linter.unusedSimpArgs false
def aN (P:Program) (c:Code) (Q:Exit→St→Prop):Nat→St→Prop
 | 0,_=>False
 | m+1,σ=>Wp P c σ (eO (aN P c Q m) Q)
theorem aN.in {P:Program} {c:Code} {Q:Exit→St→Prop}:∀ (m:Nat) (σ:St),aN P c Q m σ→∀ (W0:Fr) (K0:aW) (g:G) (a:Act) (w:World),Rel W0 K0 g σ a w→Code.roundsIn (fen W0.ro) 0 P c (fun e a w=>∃ g σ,Rel W0 K0 g σ a w∧Q e σ) m a w
 | 0,σ,h,_,_,_,_,_,_=>h.elim
 | m+1,σ,h,W0,K0,g,a,w,r=>wpIn_mono (h W0 K0 g a w r) (fun e a' w' ⟨g2,σ2,hr2,hQ⟩=>by
  cases e with
  | normal=>exact aN.in m σ2 hQ W0 K0 g2 a' w' hr2
  | _=>exact⟨g2,σ2,hr2,hQ⟩)
theorem Wp.rounds {P:Program} {c:Code} {Q:Exit→St→Prop} {σ:St} (m:Nat) (h:aN P c Q m σ):Wp P (.loop c) σ Q:=fun W0 K0 g a w r =>
 wpIn_loop_rounds m (aN.in m σ h W0 K0 g a w r)
theorem aN.go {P:Program} {c:Code} {Q:Exit→St→Prop} {σ:St} {m:Nat} (h:Wp P c σ (eO (aN P c Q m) Q)):aN P c Q (m+1) σ:=h
theorem aN.weak {P:Program} {c:Code} {Q:Exit→St→Prop} {σ σ' : St} {m:Nat} (hw:aD σ σ') (h:Wp P c σ' (eO (aN P c Q m) Q)):aN P c Q (m+1) σ:=Wp.weak hw h
end Go.Proofs.YtkmfmphpndhkjaaGreatDoor
