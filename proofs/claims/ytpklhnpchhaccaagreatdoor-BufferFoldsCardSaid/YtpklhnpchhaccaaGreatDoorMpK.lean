/- The machine: rows inside rows of one's own become lists;a cell is told in weaker words. -/
import Derived.Test.YtpklhnpchhaccaaGreatDoorInMb
import Derived.Test.YtpklhnpchhaccaaGreatDoorApA
namespace Go.Proofs.YtpklhnpchhaccaaGreatDoor
open Go Go.RowKit
set_option linter.unusedVariables false
set_option linter.unusedSimpArgs false
theorem aD.pubIn {σ:St} {id k τ e sz n e0 s0 n0:Nat} {cs cs0:List CV} {ds:List D} (hne:id≠τ) (hτ:σ.H τ=some (.mrow e sz n cs)) (hd:bN CV.toD0 cs=some ds) (hid:σ.H id=some (.mrow e0 s0 n0 cs0)) (hk:cs0[k]? = some (.mt τ n)) :
  aD σ { σ with H:=upd (upd σ.H τ (some (.mrow e sz (n+1) []))) id (some (.mrow e0 s0 n0 (cs0.set k (.d (.lst sz (eM sz (cs.length / sz) ds)))))) }:=by
 intro W0 K0 g a w r
 have hne0:cs0≠[]:=fun q=>by subst q;simp at hk
 obtain⟨_,_,hcase⟩:=r.mem.holds id _ hid
 obtain⟨b,cur,vs,rest,hb,hheap,hcur,hcsz,hr,h1,hn⟩:=hcase.resolve_left (fun h=>hne0 h.2)
 have hlt:=(List.getElem?_eq_some_iff.1 hk).1
 have hv:=List.getElem?_eq_getElem (l:=vs) (i:=k) (by rw[← hr.1];exact hlt)
 obtain⟨g',h5,h6,h7⟩:=r.mem.publish hτ hd (hr.2 _ _ _ hk hv)
 have hid' : upd σ.H τ (some (.mrow e sz (n+1) [])) id=some (.mrow e0 s0 n0 cs0):=(aA _ _ hne).trans hid
 have hb' : g'.β id=some b:=by
  have hmt:bD g σ.H (.mt id n0) (.slice (some ⟨b,0,none⟩) (cs0.length / s0) (g.cap id)):=⟨⟨_,_,_,rfl⟩,e0,s0,n0,cs0,hid,Nat.le_refl _,fun _=>.inl ⟨b,hb,rfl⟩⟩
  obtain⟨_,e2,s2,n2,c2,h2,_,h4⟩:=h6 _ _ hmt
  rw[hid'] at h2;cases h2
  rcases h4 rfl with ⟨b2,hb2,q⟩|⟨_,q,_⟩
  ·simp only[Value.slice.injEq,Option.some.injEq,Addr.mk.injEq,and_true] at q
   rw[q.1];exact hb2
  ·exact absurd q hne0
 have hr' : bK g' (upd σ.H τ (some (.mrow e sz (n+1) []))) (cs0.set k (.d (.lst sz (eM sz (cs.length / sz) ds)))) vs:=by
  refine⟨by simp[hr.1],fun j z v hz hv2=>?_⟩
  rw[List.getElem?_set] at hz
  split at hz
  ·rename_i e
   subst e
   cases hz
   rw[hv] at hv2;cases hv2;exact h7
  ·exact h6 _ _ (hr.2 j z v hz hv2)
 obtain⟨h8,h9⟩:=RelH.mwr (cs':=cs0.set k (.d (.lst sz (eM sz (cs.length / sz) ds)))) (cur':=cur) h5 hid' hb' hheap (by simp) hcur rfl hr' h1
 rw[setRow_self w b cur e0 (0,0) hheap] at h8
 exact⟨g',h8,fun t=>(r.env t).mono (h6.trans h9),r.size,r.defers.mono (h6.trans h9) (fun i o hi=>by
  show upd (upd σ.H τ _) id _ i=_
  rw[aA _ _ (fun e=>by subst e;rw[hid] at hi;cases hi),aA _ _ (fun e=>by subst e;rw[hτ] at hi;cases hi)];exact hi),r.ln,r.rd,r.nodup,r.lt⟩
theorem aD.cellLe {σ:St} {id k:Nat} {cs:List CV} {x y:D} (hid:σ.H id=some (.cells cs)) (hk:cs[k]? = some (.d x)) (hle:lU x y) (hdf:σ.fx.dfs.contains id=false):aD σ { σ with H:=upd σ.H id (some (.cells (cs.set k (.d y)))) }:=by
 intro W0 K0 g a w r
 obtain⟨b,vs,t,hb,hheap,hr,h1,hn⟩:=r.mem.holds id _ hid
 have hr' : bK g σ.H (cs.set k (.d y)) vs:=by
  refine⟨by simp[hr.1],fun j z v hz hv2=>?_⟩
  rw[List.getElem?_set] at hz
  split at hz
  ·rename_i e
   subst e
   split at hz
   ·cases hz
    exact hle _ _ (hr.2 _ _ _ hk hv2)
   ·cases hz
  ·exact hr.2 j z v hz hv2
 obtain⟨h8,h9⟩:=RelH.write (t:=t) r.mem hid hb hheap hn hr' h1
 rw[setRow_self w b vs.toArray t (0,0) hheap] at h8
 exact⟨g,h8,fun t=>(r.env t).mono h9,r.size,r.defers.mono h9 (fun i o hi=>by
  show upd σ.H id _ i=_
  rw[aA _ _ (fun e=>by subst e;rw[hid] at hi;cases hi)];exact hi),r.ln,r.rd,r.nodup,r.lt⟩
end Go.Proofs.YtpklhnpchhaccaaGreatDoor
