/- The abstract machine (MpL, MpM, MpN). -/
import Derived.Test.YtpklhnpchhaccaaGreatDoorMpK
import Derived.Test.YtpklhnpchhaccaaGreatDoorInMb
namespace Go.Proofs.YtpklhnpchhaccaaGreatDoor
open Go Go.RowKit
set_option linter.unusedVariables false
set_option linter.unusedSimpArgs false
set_option maxHeartbeats 2000000
theorem aD.pubSlot {σ:St} {t τ e sz n:Nat} {cs:List CV} {ds:List D} (hτ:σ.H τ=some (.mrow e sz n cs)) (hd:bR CV.toD0 cs=some ds) (ht:σ.env t = .c (.mt τ n)) (hdf:σ.fx.dfs.contains τ=false) :
  aD σ { σ with env:=upd σ.env t (.c (.d (.lst sz (eK sz (cs.length / sz) ds)))),H:=upd σ.H τ (some (.mrow e sz (n+1) [])) }:=by
 intro W0 K0 g a w r
 have hv:bA g σ.H (.mt τ n) (a.tmps.getD t undef):=by have:=r.env t;rw[ht] at this;exact this
 obtain⟨g',h5,h6,h7⟩:=r.mem.publish hτ hd hv
 refine⟨g',h5,fun u=>?_,r.size,r.defers.mono h6 (fun i o hi=>?_),r.ln,r.rd,r.nodup,r.lt⟩
 ·show bD g' _ (upd σ.env t _ u) _
  by_cases h:u=t
  ·subst h;rw[aB];exact h7
  ·rw[aA _ _ h];exact (r.env u).mono h6
 ·show upd σ.H τ _ i=_
  rw[aA _ _ (fun e=>by subst e;rw[hτ] at hi;cases hi)];exact hi
theorem aPr {g:G} {H:Hp} {sz:Nat} {x:CV} {v:Value} (hx:x = .d (.val (.slice none 0 0))∨x = .full sz []) (h:bA g H x v):∃ a,v = .slice a 0 0:=by
 rcases hx with rfl|rfl
 ·have h:Rep g.K (.val (.slice none 0 0)) v:=h
  cases h;exact⟨_,rfl⟩
 ·obtain⟨_,a,hv⟩:=h
  exact⟨a,hv⟩
theorem aD.mtSlot {σ:St} {t τ e sz n:Nat} {cs:List CV} {x:CV} (n' : Nat) (hn:n<n') (hτ:σ.H τ=some (.mrow e sz n cs)) (ht:σ.env t = .c x) (hx:x = .d (.val (.slice none 0 0))∨x = .full sz []) :
  aD σ { σ with env:=upd σ.env t (.c (.mt τ n')),H:=upd σ.H τ (some (.mrow e sz n' [])) }:=by
 intro W0 K0 g a w r
 obtain⟨h5,h6⟩:=r.mem.mreset hτ n' hn
 have hv:bA g σ.H x (a.tmps.getD t undef):=by have:=r.env t;rw[ht] at this;exact this
 obtain⟨b,hb⟩:=aPr hx hv
 refine⟨_,h5,fun u=>?_,r.size,r.defers.mono h6 (fun i o hi=>?_),r.ln,r.rd,r.nodup,r.lt⟩
 ·show bD _ _ (upd σ.env t _ u) _
  by_cases h:u=t
  ·subst h;rw[aB]
   exact⟨⟨_,_,_,hb⟩,e,sz,n',[],aB _ _ _,Nat.le_refl _,fun _=>.inr ⟨aB _ _ _,rfl,b,hb⟩⟩
  ·rw[aA _ _ h];exact (r.env u).mono h6
 ·show upd σ.H τ _ i=_
  rw[aA _ _ (fun e=>by subst e;rw[hτ] at hi;cases hi)];exact hi
theorem aD.appD {σ:St} {t τ sz:Nat} {xs:List (List D)} (ht:σ.env t = .c (.app τ sz xs)):aD σ { σ with env:=upd σ.env t (.c (.d (.lst sz xs))) }:=by
 intro W0 K0 g a w r
 refine⟨g,r.mem,fun u=>?_,r.size,r.defers,r.ln,r.rd,r.nodup,r.lt⟩
 show bD g _ (upd σ.env t _ u) _
 by_cases h:u=t
 ·subst h;rw[aB]
  have hv:=r.env u
  rw[ht] at hv
  exact hv.1
 ·rw[aA _ _ h];exact r.env u
theorem aD.mtNew {σ:St} {t τ e sz:Nat} {x:CV} (n' : Nat) (hn:0<n') (hsz:0<sz) (hτ:σ.H τ=none) (ht:σ.env t = .c x) (hx:x = .d (.val (.slice none 0 0))∨x = .full sz []) :
  aD σ { σ with env:=upd σ.env t (.c (.mt τ n')),H:=upd σ.H τ (some (.mrow e sz n' [])) }:=by
 have w1:=aD.mtok (σ:=σ) (τ:=τ) e sz hτ hsz
 have w2:=aD.mtSlot (σ:={ σ with H:=upd σ.H τ (some (.mrow e sz 0 [])) }) (t:=t) (τ:=τ) n' hn (aB _ _ _) ht hx
 dsimp only at w2
 rw[aAl] at w2
 exact w1.trans w2
end Go.Proofs.YtpklhnpchhaccaaGreatDoor
