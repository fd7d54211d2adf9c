/- The abstract machine (MpH, MpI, MpK, MpL, RenI). -/
import Derived.Test.YtkmfmphpndhkjaaGreatDoorMacD
import Derived.Test.YtkmfmphpndhkjaaGreatDoorApA
namespace Go.Proofs.YtkmfmphpndhkjaaGreatDoor
open Go Go.RowKit
set_option linter.unusedVariables false
set_option linter.unusedSimpArgs false
theorem aD.mtok {σ:St} {τ:Nat} (e sz:Nat) (hτ:σ.H τ=none) (hsz:0<sz):aD σ { σ with H:=upd σ.H τ (some (.mrow e sz 0 [])) }:=by
 intro W0 K0 g a w r
 obtain⟨h5,h6⟩:=r.mem.mtok e sz hτ hsz
 exact⟨g,h5,fun t=>(r.env t).mono h6,r.size,r.defers.mono h6 (fun i o hi=>by rw[show (upd σ.H τ (some (HE.mrow e sz 0 []))) i=σ.H i from aB _ _ (fun e=>by subst e;rw[hτ] at hi;cases hi)];exact hi),r.ln,r.rd,r.nodup,r.lt⟩
theorem aUq {g:G} {H:Hp} {W0:Fr} {K0:aW} {w:World} {τ e sz:Nat} {v:Value} (hβ:g.β τ=none) (hτ:H τ=some (.mrow e sz 0 [])) (h:bG g H (.d (.val (.slice none 0 0))) v):bG g H (.mt τ 0) v:=by
 have h:Rep g.K (.val (.slice none 0 0)) v:=h
 cases h
 exact⟨⟨_,_,_,rfl⟩,e,sz,0,[],hτ,Nat.le_refl _,fun _=>.inr ⟨hβ,rfl,_,rfl⟩⟩
theorem RelH.know {W0:Fr} {K0:aW} {g:G} {H:Hp} {w:World} {b:Nat} {cur:Array Value} {vs rest:List Value} {t:TypeId} (hh:RelH W0 K0 g H w) (hm:W0.mine b) (hnb:∀ i,g.β i≠some b) (hheap:w.heap[b]? = some (.cells cur t (0,0))) (hcur:cur.toList=vs++rest) (hn:∀ o,g.K b o=none) :
  RelH W0 K0 { g with K:=dN g.K b vs } H w∧gB g H { g with K:=dN g.K b vs } H∧jO g.K (dN g.K b vs):=by
 have hkle:jO g.K (dN g.K b vs):=fun b' o v hv=>by
  unfold dN
  split
  ·rename_i e;subst e;rw[hn o] at hv;cases hv
  ·exact hv
 have hle:gB g H { g with K:=dN g.K b vs } H:=gB.ofK (g:=g) (H:=H) hkle
 have hoth:∀ i b' o,g.β i=some b'→dN g.K b vs b' o=g.K b' o:=fun i b' o hi=>by
  unfold dN;rw[if_neg (fun (e:b' = b)=>hnb i (by rw[hi,e]))]
 refine⟨⟨hh.below,⟨hh.ext.1.trans hkle,fun b' o hb'=>by
   show dN _ _ _ _ _=_
   unfold dN
   rw[if_neg (Fr.ne hb' hm)];exact hh.ext.2 b' o hb'⟩,?_,?_,hh.base,hh.dom,hh.sep,hh.frozlt,hh.glob,hh.lent.trans hle⟩,hle,hkle⟩
 ·intro b' o v hv
  have hv' : dN g.K b vs b' o=some v:=hv
  unfold dN at hv'
  split at hv'
  ·rename_i e;subst e
   have hlt:=(List.getElem?_eq_some_iff.1 hv').1
   have:cur[o]? = some v:=by rw[← Array.getElem?_toList,hcur,List.getElem?_append_left hlt];exact hv'
   simp[World.cell?,hheap,this]
  ·exact hh.kw b' o v hv'
 ·intro i e hi
  have:=hh.holds i e hi
  cases e with
  | cells cs =>
   obtain⟨b',vs2,t',hβi,hheap',hr',h1',hn'⟩:=this
   exact⟨b',vs2,t',hβi,hheap',hr'.mono hle,h1',fun o=>(hoth i b' o hβi).trans (hn' o)⟩
  | obj o =>
   obtain⟨b',hβi,hheap',hn'⟩:=this
   exact⟨b',hβi,hheap',fun o=>(hoth i b' o hβi).trans (hn' o)⟩
  | froz ds =>
   obtain⟨b',vs',hβi,hr',h1',hn'⟩:=this
   exact⟨b',vs',hβi,hr'.mono hkle,h1',fun j v hj=>hkle _ _ _ (hn' j v hj)⟩
  | mrow e sz n cs=>exact cK this rfl rfl (fun b' o h1 h2=>h2) hle (fun b' o h1 h2 _=>(hoth i b' o h1).trans h2)
  | rot e sz n=>exact cA this rfl rfl (fun b' o h1 h2=>h2) (fun b' o h1 h2 _=>(hoth i b' o h1).trans h2)
  | ob cs p=>exact eF this rfl rfl (fun b' o h1 h2=>h2) hle (fun b' o h1 h2 _=>(hoth i b' o h1).trans h2)
  | row e sz n =>
   intro b' hβi
   obtain⟨cur,hheap',hs,hc,hn'⟩:=this b' hβi
   exact⟨cur,hheap',hs,hc,fun o ho=>(hoth i b' o hβi).trans (hn' o ho)⟩
theorem RelH.publish {W0:Fr} {K0:aW} {g:G} {H:Hp} {w:World} {τ e sz n:Nat} {cs:List CV} {ds:List D} {v:Value} (hh:RelH W0 K0 g H w) (hτ:H τ=some (.mrow e sz n cs)) (hd:bZ CV.toD0 cs=some ds) (hx:bG g H (.mt τ n) v) :
  ∃ g',RelH W0 K0 g' (upd H τ (some (.mrow e sz (n+1) []))) w∧gB g H g' (upd H τ (some (.mrow e sz (n+1) [])))∧Rep g'.K (.lst sz (fK sz (cs.length / sz) ds)) v:=by
 obtain⟨hs0,hmod,hcase⟩:=hh.holds τ _ hτ
 obtain⟨_,e2,s2,n2,c2,h2,_,h4⟩:=hx
 rw[hτ] at h2;cases h2
 have hdl:ds.length=cs.length:=(dW hd).1
 obtain⟨f1,f2,f3⟩:=lK sz (cs.length / sz) ds (by rw[hdl,Nat.div_mul_cancel (Nat.dvd_of_mod_eq_zero hmod)])
 obtain⟨h5,h6⟩:=hh.mchg (w':=w) hτ e sz (n+1) [] (Nat.lt_succ_self n) none (g.cap τ) hh.below hh.kw (fun _ _ _ _=>rfl) (fun b hb=>by cases hb) (fun i b hne hi q=>by cases q) (fun b hb=>by cases hb) (Nat.le_refl _) (fun hle=>⟨hs0,Nat.zero_mod _,.inl ⟨aC _ _ _,rfl⟩⟩)
 rcases hcase with ⟨hb,hcs⟩|⟨b,cur,vs,rest,hb,hheap,hcur,hcsz,hr,h1,hkn⟩
 ·subst hcs
  rcases h4 rfl with ⟨b,hb2,_⟩|⟨_,_,_,rfl⟩
  ·rw[hb] at hb2;cases hb2
  ·have hz:fK sz (([]:List CV).length / sz) ds=[]:=List.eq_nil_of_length_eq_zero (by rw[f2];simp)
   rw[hz];exact⟨_,h5,h6,Rep.lst (vs:=[]) (xs:=[]) (c:=0) (by simp) (by simp) rfl (by simp) (by simp) (by simp)⟩
 ·rcases h4 rfl with ⟨b2,hb2,rfl⟩|⟨hb2,_⟩
  ·rw[hb] at hb2;cases hb2
   obtain⟨h7,h8,h9⟩:=h5.know (vs:=vs) (rest:=rest) (hh.base τ b hb) (fun i hi=>by
    by_cases hne:i=τ
    ·subst hne
     have hi:upd g.β i none i=some b:=hi
     rw[aC] at hi;cases hi
    ·have hi:upd g.β τ none i=some b:=hi
     rw[aB _ _ hne] at hi;exact hne (hh.sep i τ b hi hb)) hheap hcur hkn
   refine⟨_,h7,h6.trans h8,?_⟩
   have hL:=(hr.toD0 hd).mono h9
   have hcap:cs.length / sz≤g.cap τ:=by
    have h7:cs.length≤g.cap τ*sz:=by rw[← hcsz,← Array.length_toList,hcur,List.length_append,hr.1];omega
    exact Nat.le_trans (Nat.div_le_div_right h7) (by rw[Nat.mul_div_cancel _ hs0];exact Nat.le_refl _)
   have:=Rep.lst (K:=dN g.K b vs) (sz:=sz) (xs:=fK sz (cs.length / sz) ds) (vs:=vs) (a:=some ⟨b,0,none⟩) (c:=g.cap τ) f3 (by rw[f2];exact hcap) (by rw[f1];exact hL.1) (by rw[f1];exact hL.2) h1
    (fun _=>⟨b,0,rfl,fun j u hj=>by rw[Nat.zero_add];unfold dN;rw[if_pos rfl];exact hj⟩)
   rw[f2] at this
   exact this
  ·rw[hb] at hb2;cases hb2
theorem aD.publish {σ:St} {id k τ e sz n:Nat} {cs cs0:List CV} {ds:List D} (hne:id≠τ) (hτ:σ.H τ=some (.mrow e sz n cs)) (hd:bZ CV.toD0 cs=some ds) (hid:σ.H id=some (.cells cs0)) (hk:cs0[k]? = some (.mt τ n)) :
  aD σ { σ with H:=upd (upd σ.H τ (some (.mrow e sz (n+1) []))) id (some (.cells (cs0.set k (.d (.lst sz (fK sz (cs.length / sz) ds)))))) }:=by
 intro W0 K0 g a w r
 obtain⟨b,vs,t,hb,hheap,hr,h1,hn⟩:=r.mem.holds id _ hid
 have hlt:=(List.getElem?_eq_some_iff.1 hk).1
 have hv:=List.getElem?_eq_getElem (l:=vs) (i:=k) (by rw[← hr.1];exact hlt)
 obtain⟨g',h5,h6,h7⟩:=r.mem.publish hτ hd (hr.2 _ _ _ hk hv)
 have hid' : upd σ.H τ (some (.mrow e sz (n+1) [])) id=some (.cells cs0):=(aB _ _ hne).trans hid
 obtain⟨b2,vs2,t2,hb2,hheap2,hr2,h12,hn2⟩:=h5.holds id _ hid'
 obtain⟨b3,hb3,he,_⟩:=h6 (.own id 0) (.pointer (some ⟨b,0,none⟩)) ⟨b,hb,rfl,by rw[hid];rfl⟩
 simp only[Value.pointer.injEq,Option.some.injEq,Addr.mk.injEq,and_true] at he
 subst he
 rw[hb3] at hb2;cases hb2
 have q:=hheap.symm.trans hheap2
 simp only[Option.some.injEq,Obj.cells.injEq] at q
 obtain rfl:vs=vs2:=by have q1:=congrArg Array.toList q.1;simpa using q1
 have hr' : dJ g' (upd σ.H τ (some (.mrow e sz (n+1) []))) (cs0.set k (.d (.lst sz (fK sz (cs.length / sz) ds)))) vs:=by
  refine⟨by simp[hr2.1],fun j z v hz hv2=>?_⟩
  rw[List.getElem?_set] at hz
  split at hz
  ·rename_i e
   subst e
   cases hz
   rw[hv] at hv2;cases hv2;exact h7
  ·exact hr2.2 j z v hz hv2
 obtain⟨h8,h9⟩:=RelH.write (t:=t) h5 hid' hb3 hheap hn2 hr' h1
 rw[setRow_self w b vs.toArray t (0,0) hheap] at h8
 exact⟨g',h8,fun t=>(r.env t).mono (h6.trans h9),r.size,r.defers.mono (h6.trans h9) (fun i o hi=>by
  show upd (upd σ.H τ _) id _ i=_
  rw[aB _ _ (fun e=>by subst e;rw[hid] at hi;cases hi),aB _ _ (fun e=>by subst e;rw[hτ] at hi;cases hi)];exact hi),r.ln,r.rd,r.nodup,r.lt⟩


set_option maxHeartbeats 2000000
theorem aD.pubSlot {σ:St} {t τ e sz n:Nat} {cs:List CV} {ds:List D} (hτ:σ.H τ=some (.mrow e sz n cs)) (hd:bZ CV.toD0 cs=some ds) (ht:σ.env t = .c (.mt τ n)) (hdf:σ.fx.dfs.contains τ=false) :
  aD σ { σ with env:=upd σ.env t (.c (.d (.lst sz (fK sz (cs.length / sz) ds)))),H:=upd σ.H τ (some (.mrow e sz (n+1) [])) }:=by
 intro W0 K0 g a w r
 have hv:bG g σ.H (.mt τ n) (a.tmps.getD t undef):=by have:=r.env t;rw[ht] at this;exact this
 obtain⟨g',h5,h6,h7⟩:=r.mem.publish hτ hd hv
 refine⟨g',h5,fun u=>?_,r.size,r.defers.mono h6 (fun i o hi=>?_),r.ln,r.rd,r.nodup,r.lt⟩
 ·show bH g' _ (upd σ.env t _ u) _
  by_cases h:u=t
  ·subst h;rw[aC];exact h7
  ·rw[aB _ _ h];exact (r.env u).mono h6
 ·show upd σ.H τ _ i=_
  rw[aB _ _ (fun e=>by subst e;rw[hτ] at hi;cases hi)];exact hi
theorem aCq (c:CV):CV.ren (fun x=>x) c=c:=by
 have hc:∀ l:List Cap,l.map (Cap.ren fun x=>x)=l:=fun l=>by
  rw[show (Cap.ren fun x=>x)=id from funext fun c=>by cases c<;>rfl,List.map_id]
 cases c<;>simp[CV.ren,hc]
theorem zE (l:List CV):l.map (CV.ren fun x=>x)=l:=by
 rw[show (CV.ren fun x=>x)=id from funext aCq,List.map_id]
theorem sA (c:SV):SV.ren (fun x=>x) c=c:=by
 cases c
 ·simp[SV.ren,aCq]
 ·simp[SV.ren,zE]
theorem nA (h:HE):HE.ren (fun x=>x) h=h:=by
 cases h<;>simp[HE.ren,zE]
theorem aAq (f:CV→Option D) (hf:∀ d,f (.d d)=some d):∀ ds:List D,bZ f (ds.map CV.d)=some ds
 | []=>rfl
 | d::ds=>by simp only[List.map_cons,bZ,hf,aAq f hf ds]
end Go.Proofs.YtkmfmphpndhkjaaGreatDoor
