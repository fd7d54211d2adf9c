/- The abstract machine (MpL, MpM, MpN). -/
import Derived.Test.YtpklhnpchhaccaaGreatDoorMpK
import Derived.Test.YtpklhnpchhaccaaGreatDoorInMb
namespace Go.Proofs.YtpklhnpchhaccaaGreatDoor
open Go Go.RowKit
set_option linter.unusedVariables false
set_option linter.unusedSimpArgs false
set_option maxHeartbeats 2000000
theorem aOs {g:G} {H:Hp} {sz:Nat} {x:CV} {v:Value} (hx:x = .d (.val (.slice none 0 0))∨x = .full sz []) (h:bD g H x v):∃ a,v = .slice a 0 0:=by
 rcases hx with rfl|rfl
 ·have h:Rep g.K (.val (.slice none 0 0)) v:=h
  cases h;exact⟨_,rfl⟩
 ·obtain⟨_,a,hv⟩:=h
  exact⟨a,hv⟩
theorem aD.mtSlot {σ:St} {t τ e sz n:Nat} {cs:List CV} {x:CV} (n' : Nat) (hn:n<n') (hτ:σ.H τ=some (.mrow e sz n cs)) (ht:σ.env t = .c x) (hx:x = .d (.val (.slice none 0 0))∨x = .full sz []) :
  aD σ { σ with env:=upd σ.env t (.c (.mt τ n')),H:=upd σ.H τ (some (.mrow e sz n' [])) }:=by
 intro W0 K0 g a w r
 obtain⟨h5,h6⟩:=r.mem.mreset hτ n' hn
 have hv:bD g σ.H x (a.tmps.getD t undef):=by have:=r.env t;rw[ht] at this;exact this
 obtain⟨b,hb⟩:=aOs hx hv
 refine⟨_,h5,fun u=>?_,r.size,r.defers.mono h6 (fun i o hi=>?_),r.ln,r.rd,r.nodup,r.lt⟩
 ·show bH _ _ (upd σ.env t _ u) _
  by_cases h:u=t
  ·subst h;rw[aB]
   exact⟨⟨_,_,_,hb⟩,e,sz,n',[],aB _ _ _,Nat.le_refl _,fun _=>.inr ⟨aB _ _ _,rfl,b,hb⟩⟩
  ·rw[aA _ _ h];exact (r.env u).mono h6
 ·show upd σ.H τ _ i=_
  rw[aA _ _ (fun e=>by subst e;rw[hτ] at hi;cases hi)];exact hi
theorem aD.mtMove {σ:St} {t τ τ2 e sz n e2 sz2 n2:Nat} {cs cs2:List CV} (n' : Nat) (hn:n<n') (hne:τ≠τ2) (hτ:σ.H τ=some (.mrow e sz n cs)) (hτ2:σ.H τ2=some (.mrow e2 sz2 n2 cs2)) (ht:σ.env t = .c (.mt τ2 n2)) :
  aD σ { σ with env:=upd σ.env t (.c (.mt τ n')),H:=upd (upd σ.H τ2 (some (.mrow e2 sz2 (n2+1) []))) τ (some (.mrow e2 sz2 n' cs2)) }:=by
 intro W0 K0 g a w r
 have hv:bD g σ.H (.mt τ2 n2) (a.tmps.getD t undef):=by have:=r.env t;rw[ht] at this;exact this
 obtain⟨hs0,hmod,hcase⟩:=r.mem.holds τ2 _ hτ2
 obtain⟨h5,h6⟩:=r.mem.mreset hτ2 (n2+1) (Nat.lt_succ_self _)
 have hτ' : upd σ.H τ2 (some (.mrow e2 sz2 (n2+1) [])) τ=some (.mrow e sz n cs):=(aA _ _ hne).trans hτ
 obtain⟨h7,h8⟩:=h5.mchg (w':=w) hτ' e2 sz2 n' cs2 hn (g.β τ2) (g.cap τ2) h5.below h5.kw (fun _ _ _ _=>rfl) (fun b hb=>r.mem.base τ2 b hb) (fun i b hi hib q=>by
  have hib:upd g.β τ2 none i=some b:=hib
  by_cases h:i=τ2
  ·subst h;rw[aB] at hib;cases hib
  ·rw[aA _ _ h] at hib
   exact h (r.mem.sep i τ2 b hib q)) (fun b hb=>r.mem.frozlt τ2 b hb) (Nat.le_refl _) (fun hle=>by
  refine⟨hs0,hmod,?_⟩
  rcases hcase with ⟨h1,h2⟩|⟨b,cur,vs,rest,h1,h2,h3,h4,h9,h10,h11⟩
  ·exact .inl ⟨(aB _ _ _).trans h1,h2⟩
  ·exact .inr ⟨b,cur,vs,rest,(aB _ _ _).trans h1,h2,h3,by rw[h4];show _=upd _ _ _ _*_;rw[aB],h9.mono (h6.trans hle),h10,h11⟩)
 refine⟨_,h7,fun u=>?_,r.size,r.defers.mono (h6.trans h8) (fun i o hi=>?_),r.ln,r.rd,r.nodup,r.lt⟩
 ·show bH _ _ (upd σ.env t _ u) _
  by_cases h:u=t
  ·subst h;rw[aB]
   obtain⟨q1,e3,s3,n3,c3,q2,q3,q4⟩:=hv
   rw[hτ2] at q2;cases q2
   refine⟨q1,e2,sz2,n',cs2,aB _ _ _,Nat.le_refl _,fun _=>?_⟩
   rcases q4 rfl with ⟨b,hb,hv⟩|⟨hb,hc,hv⟩
   ·exact .inl ⟨b,(aB _ _ _).trans hb,by rw[hv];show _=Value.slice _ _ (upd _ _ _ _);rw[aB]⟩
   ·exact .inr ⟨(aB _ _ _).trans hb,hc,hv⟩
  ·rw[aA _ _ h];exact (r.env u).mono (h6.trans h8)
 ·show upd (upd σ.H τ2 _) τ _ i=_
  rw[aA _ _ (fun e=>by subst e;rw[hτ] at hi;cases hi),aA _ _ (fun e=>by subst e;rw[hτ2] at hi;cases hi)];exact hi
theorem aD.mtNew {σ:St} {t τ e sz:Nat} {x:CV} (n' : Nat) (hn:0<n') (hsz:0<sz) (hτ:σ.H τ=none) (ht:σ.env t = .c x) (hx:x = .d (.val (.slice none 0 0))∨x = .full sz []) :
  aD σ { σ with env:=upd σ.env t (.c (.mt τ n')),H:=upd σ.H τ (some (.mrow e sz n' [])) }:=by
 have w1:=aD.mtok (σ:=σ) (τ:=τ) e sz hτ hsz
 have w2:=aD.mtSlot (σ:={ σ with H:=upd σ.H τ (some (.mrow e sz 0 [])) }) (t:=t) (τ:=τ) n' hn (aB _ _ _) ht hx
 dsimp only at w2
 rw[wE] at w2
 exact w1.trans w2
end Go.Proofs.YtpklhnpchhaccaaGreatDoor
