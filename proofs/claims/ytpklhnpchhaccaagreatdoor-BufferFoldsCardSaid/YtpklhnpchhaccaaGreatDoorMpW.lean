/- The abstract machine (MpR, MpS). -/
import Derived.Test.YtpklhnpchhaccaaGreatDoorMpQ
import Derived.Test.YtpklhnpchhaccaaGreatDoorMacD
import Derived.Maps.Keyed
namespace Go.Proofs.YtpklhnpchhaccaaGreatDoor
open Go Go.RowKit
set_option linter.unusedVariables false
set_option linter.unusedSimpArgs false
set_option maxHeartbeats 2000000
theorem xM {n c:Nat} (h:c<18446744073709551616):tZ (nL n c)=n:=by unfold tZ nL;omega
theorem xL {n c:Nat} (h:c<18446744073709551616):sZ (nL n c)=c:=by unfold sZ nL;omega
theorem aGn (k:Nat):sZ k<18446744073709551616:=by unfold sZ;omega
theorem dL.rchg {g:G} {H:Hp} {τ e sz n:Nat} (hτ:H τ=some (.rot e sz n)) (e' n' : Nat) {K' : aQ} (hkle:gL g.K K') (hn:n<n') (b' : Option Nat) (cp:Nat) :
  dL g H ⟨K',upd g.β τ b',upd g.cap τ cp⟩ (upd H τ (some (.rot e' sz n'))):=by
 have ho:∀ i off v,bD g H (.own i off) v→bD ⟨K',upd g.β τ b',upd g.cap τ cp⟩ (upd H τ (some (.rot e' sz n'))) (.own i off) v:=by
  rintro i off v ⟨b,hb,rfl,hnr⟩
  have hne:i≠τ:=fun q=>by subst q;rw[hτ] at hnr;cases hnr
  exact⟨b,by show upd _ _ _ _=_;rw[aA _ _ hne];exact hb,rfl,by rw[aA _ _ hne];exact hnr⟩
 intro x v r
 cases x with
 | any=>trivial
 | d x=>exact Rep.mono hkle r
 | own i off=>exact ho i off v r
 | clo f caps=>exact dS r hkle ho
 | bnd f caps=>exact dR r hkle ho
 | yld i=>exact dU r ho
 | mp i=>exact eY r ho
 | full s xs=>exact⟨r.1.mono hkle,r.2⟩
 | view i s off len =>
  obtain⟨b,c,hb,rfl,hc,hnr⟩:=r
  have hne:i≠τ:=fun q=>by subst q;rw[hτ] at hnr;cases hnr
  exact⟨b,c,by show upd _ _ _ _=_;rw[aA _ _ hne];exact hb,rfl,hc,by rw[aA _ _ hne];exact hnr⟩
 | app i s xs =>
  obtain⟨h1,e2,n2,h2,h3,h4⟩:=r
  have hne:i≠τ:=fun q=>by subst q;rw[hτ] at h2;cases h2
  refine⟨h1.mono hkle,e2,n2,by rw[aA _ _ hne];exact h2,h3,fun hx=>?_⟩
  rcases h4 hx with h|⟨b,hb,hv⟩
  ·exact .inl h
  ·exact .inr ⟨b,by show upd _ _ _ _=_;rw[aA _ _ hne];exact hb,by show _=Value.slice _ _ (upd _ _ _ _);rw[aA _ _ hne];exact hv⟩
 | mt i k=>exact iG (xT.upd (fun _ _ _ _ h=>by rw[hτ] at h;cases h) (fun i h=>aA _ _ h) (fun i h=>aA _ _ h)) r
 | mpt i k o=>exact iF (xT.upd (fun _ _ _ _ h=>by rw[hτ] at h;cases h) (fun i h=>aA _ _ h) (fun i h=>aA _ _ h)) r
 | apt i s xs k =>
  by_cases hne:i=τ
  ·subst hne
   obtain⟨h1,e2,n2,h2,h3,h4⟩:=r
   rw[hτ] at h2;cases h2
   exact⟨h1.mono hkle,e',n',aB _ _ _,by omega,fun q=>by omega⟩
  ·exact qU hkle r (fun e n q=>by rw[aA _ _ hne];exact q) (aA _ _ hne) (aA _ _ hne)
theorem RelH.rchg {W0:Fr} {K0:aQ} {g:G} {H:Hp} {w w' : World} {τ e sz n:Nat} (hh:RelH W0 K0 g H w) (hτ:H τ=some (.rot e sz n)) (e' n' : Nat) {K' : aQ} (hkle:gL g.K K') (hn:n<n') (b' : Option Nat) (cp:Nat)
  (hbel:BelowF W0 w') (hext:aH6 W0 K0 K') (hkw:KW K' w') (hoth:∀ i b,i≠τ→g.β i=some b→w'.heap[b]? = w.heap[b]?) (hothK:∀ i b o,i≠τ→g.β i=some b→K' b o=g.K b o) (hbase:∀ b,b' = some b→W0.mine b) (hsep:∀ i b,i≠τ→g.β i=some b→b'≠some b) (hlt:∀ b,b' = some b→b<w'.heap.size) (hsz:w.heap.size≤w'.heap.size)
  (hhol:fR ⟨K',upd g.β τ b',upd g.cap τ cp⟩ (upd H τ (some (.rot e' sz n'))) w' τ (.rot e' sz n')) :
  RelH W0 K0 ⟨K',upd g.β τ b',upd g.cap τ cp⟩ (upd H τ (some (.rot e' sz n'))) w'∧dL g H ⟨K',upd g.β τ b',upd g.cap τ cp⟩ (upd H τ (some (.rot e' sz n'))):=by
 have hle:=dL.rchg (g:=g) hτ e' n' hkle hn b' cp
 have hβ:∀ i,i≠τ→(upd g.β τ b') i=g.β i:=fun i h=>aA _ _ h
 have hcap:∀ i,i≠τ→(upd g.cap τ cp) i=g.cap i:=fun i h=>aA _ _ h
 refine⟨⟨hbel,hext,hkw,fun i he hi=>?_,fun i b hb=>?_,fun i hi=>?_,fun i j b hi hj=>?_,fun i b hb=>?_,hh.glob,hh.lent.trans hle⟩,hle⟩
 ·by_cases hne:i=τ
  ·subst hne;rw[aB] at hi;cases hi;exact hhol
  ·rw[aA _ _ hne] at hi
   have:=hh.holds i he hi
   cases he with
   | cells cs2 =>
    obtain⟨b,vs,t,h1,h2,h3,h4,h5⟩:=this
    exact⟨b,vs,t,(hβ i hne).trans h1,(hoth i b hne h1).trans h2,h3.mono hle,h4,fun o=>(hothK i b o hne h1).trans (h5 o)⟩
   | obj o =>
    obtain⟨b,h1,h2,h3⟩:=this
    exact⟨b,(hβ i hne).trans h1,(hoth i b hne h1).trans h2,fun o=>(hothK i b o hne h1).trans (h3 o)⟩
   | froz ds =>
    obtain⟨b,vs,h1,h2,h3,h4⟩:=this
    exact⟨b,vs,(hβ i hne).trans h1,h2.mono hkle,h3,fun j v hj=>hkle _ _ _ (h4 j v hj)⟩
   | mrow e2 s2 n2 cs2=>exact cB this (hβ i hne) (hcap i hne) (fun b o h1 h2=>(hoth i b hne h1).trans h2) hle (fun b o h1 q _=>(hothK i b o hne h1).trans q)
   | rot e2 s2 n2=>exact bO this (hβ i hne) (hcap i hne) (fun b o h1 h2=>(hoth i b hne h1).trans h2) (fun b o h1 q _=>(hothK i b o hne h1).trans q)
   | ob cs2 p=>exact cY this (hβ i hne) (hcap i hne) (fun b o h1 h2=>(hoth i b hne h1).trans h2) hle (fun b o h1 q _=>(hothK i b o hne h1).trans q)
   | row e2 s2 n2 =>
    intro b hb
    have hb:upd g.β τ b' i=some b:=hb
    rw[hβ i hne] at hb
    obtain⟨cur,h1,h2,h3,h4⟩:=this b hb
    exact⟨cur,(hoth i b hne hb).trans h1,by show _=(upd _ _ _ _)*_;rw[hcap i hne];exact h2,by show _≤(upd _ _ _ _);rw[hcap i hne];exact h3,fun o ho=>(hothK i b o hne hb).trans (h4 o ho)⟩
 ·have hb:upd g.β τ b' i=some b:=hb
  by_cases hne:i=τ
  ·subst hne;rw[aB] at hb;exact hbase b hb
  ·rw[hβ i hne] at hb;exact hh.base i b hb
 ·by_cases hne:i=τ
  ·subst hne;rw[aB] at hi;cases hi
  ·rw[aA _ _ hne] at hi;exact (hβ i hne).trans (hh.dom i hi)
 ·have hi:upd g.β τ b' i=some b:=hi
  have hj:upd g.β τ b' j=some b:=hj
  by_cases h1:i=τ<;>by_cases h2:j=τ
  ·rw[h1,h2]
  ·subst h1;rw[aB] at hi;rw[hβ j h2] at hj;exact absurd hi (hsep j b h2 hj)
  ·subst h2;rw[aB] at hj;rw[hβ i h1] at hi;exact absurd hj (hsep i b h1 hi)
  ·rw[hβ i h1] at hi;rw[hβ j h2] at hj;exact hh.sep i j b hi hj
 ·have hb:upd g.β τ b' i=some b:=hb
  by_cases hne:i=τ
  ·subst hne;rw[aB] at hb;exact hlt b hb
  ·rw[hβ i hne] at hb;have:=hh.frozlt i b hb;omega
theorem RelH.rnew {W0:Fr} {K0:aQ} {g:G} {H:Hp} {w:World} {τ e sz n len cp:Nat} {vs:List Value} {cur:Array Value} (hh:RelH W0 K0 g H w) (hτ:H τ=some (.rot e sz n))
  (hv:∀ (j:Nat) v,vs[j]? = some v→cur[j]? = some v) (hsz:cur.size=cp*sz) (hn:len≤cp) (hl:vs.length=len*sz) (hcp:cp<18446744073709551616) :
  RelH W0 K0 ⟨cO g.K w.heap.size vs,upd g.β τ (some w.heap.size),upd g.cap τ (nL len cp)⟩ (upd H τ (some (.rot e sz (n+1)))) (w.alloc (.cells cur e)) ∧
  dL g H ⟨cO g.K w.heap.size vs,upd g.β τ (some w.heap.size),upd g.cap τ (nL len cp)⟩ (upd H τ (some (.rot e sz (n+1)))):=by
 have he:=oG hh.kw vs
 have hb:=gH w (.cells cur e)
 refine hh.rchg hτ e (n+1) he.1 (by omega) (some w.heap.size) (nL len cp) (hh.below.trans hb) (hh.ext.trans he hh.below.size) (zJ hh.kw vs cur e (0,0) hv) (fun i b hne hib=>hb.block b (hh.frozlt i b hib)) (fun i b o hne hib=>he.2 b o (hh.frozlt i b hib)) (fun b hb=>?_) (fun i b hne hib q=>?_) (fun b hb=>?_) (by simp) ?_
 ·cases hb;exact .inl hh.below.size
 ·cases q;have:=hh.frozlt i _ hib;omega
 ·cases hb;simp
 ·intro b hbi
  have:some w.heap.size=some b:=(aB g.β τ (some w.heap.size)).symm.trans hbi
  cases this
  have hc:upd g.cap τ (nL len cp) τ=nL len cp:=aB _ _ _
  refine⟨cur,lG w _,?_,?_,fun o ho=>?_⟩
  ·show _=sZ (upd g.cap τ (nL len cp) τ)*sz;rw[hc,xL hcp];exact hsz
  ·show tZ (upd g.cap τ (nL len cp) τ)≤sZ (upd g.cap τ (nL len cp) τ);rw[hc,xL hcp,xM hcp];exact hn
  ·have ho:tZ (upd g.cap τ (nL len cp) τ)*sz≤o:=ho
   rw[hc,xM hcp] at ho
   show cO _ _ _ _ _=none
   unfold cO;rw[if_pos rfl];exact List.getElem?_eq_none (by omega)
theorem RelH.rin {W0:Fr} {K0:aQ} {g:G} {H:Hp} {w:World} {τ e sz n m b en C:Nat} {us:List Value} {cur:Array Value} (hh:RelH W0 K0 g H w) (hτ:H τ=some (.rot e sz n)) (hβ:g.β τ=some b)
  (hheap:w.heap[b]? = some (.cells cur e (0,0))) (hsz:cur.size=C*sz) (hC:C<18446744073709551616) (hn:en+m≤C) (hl:us.length=m*sz) (hk:∀ o,en*sz≤o→g.K b o=none) :
  RelH W0 K0 ⟨jQ g.K b (en*sz) us,upd g.β τ (some b),upd g.cap τ (nL (en+m) C)⟩ (upd H τ (some (.rot e sz (n+1)))) (w.setRow b (cur.toList.take (en*sz)++us++cur.toList.drop (en*sz+us.length)).toArray) ∧
  dL g H ⟨jQ g.K b (en*sz) us,upd g.β τ (some b),upd g.cap τ (nL (en+m) C)⟩ (upd H τ (some (.rot e sz (n+1)))):=by
 have htot:en*sz+us.length≤cur.size:=by rw[hl,hsz,← Nat.add_mul];exact Nat.mul_le_mul_right _ hn
 have hkle:gL g.K (jQ g.K b (en*sz) us):=fun b' o v hv=>by
  unfold jQ
  split
  ·rename_i h;rw[h.1,hk o h.2.1] at hv;cases hv
  ·exact hv
 have hoth:∀ b' o,b'≠b→jQ g.K b (en*sz) us b' o=g.K b' o:=fun b' o h=>by unfold jQ;rw[if_neg (fun h'=>h h'.1)]
 have hset:=setRow_heap w b cur (cur.toList.take (en*sz)++us++cur.toList.drop (en*sz+us.length)).toArray e (0,0) hheap
 have hne0:∀ k,k≠b→(w.setRow b (cur.toList.take (en*sz)++us++cur.toList.drop (en*sz+us.length)).toArray).heap[k]? = w.heap[k]?:=fun k hk=>setRow_other w b k _ hk
 have hsize:(w.setRow b (cur.toList.take (en*sz)++us++cur.toList.drop (en*sz+us.length)).toArray).heap.size=w.heap.size:=by simp[World.setRow]
 generalize hW:w.setRow b (cur.toList.take (en*sz)++us++cur.toList.drop (en*sz+us.length)).toArray=W at hset hne0 hsize
 have hWf:W.os=w.os∧W.tape=w.tape∧W.output=w.output:=by subst hW;exact⟨rfl,rfl,rfl⟩
 have hcell:∀ o,W.cell? ⟨b,o,none⟩=(eD cur.toList (en*sz) us)[o]?:=fun o=>by
  rw[jF hset];rfl
 have hsg:=qF cur.toList us (en*sz) (by simpa using htot)
 have hbn:∀ i b',i≠τ→g.β i=some b'→b'≠b:=fun i b' hne h q=>hne (hh.sep i τ b (q ▸ h) hβ)
 refine hh.rchg hτ e (n+1) hkle (by omega) (some b) (nL (en+m) C) ⟨hWf.1.trans hh.below.os,hWf.2.1.trans hh.below.tape,hWf.2.2.trans hh.below.output,by rw[hsize];exact hh.below.size,fun k hk'=>(hne0 k (Fr.ne hk' (hh.base τ b hβ))).trans (hh.below.block k hk')⟩
  ⟨hh.ext.1.trans hkle,fun b' o hb'=>(hoth b' o (Fr.ne hb' (hh.base τ b hβ))).trans (hh.ext.2 b' o hb')⟩ ?_ (fun i b' hne hib=>hne0 b' (hbn i b' hne hib)) (fun i b' o hne hib=>hoth b' o (hbn i b' hne hib)) (fun b2 hb=>?_) (fun i b2 hne hib q=>?_) (fun b2 hb=>?_) (by rw[hsize];exact Nat.le_refl _) ?_
 ·intro b' o v hv
  by_cases hbb:b' = b
  ·subst hbb
   have hv' : jQ g.K b' (en*sz) us b' o=some v:=hv
   rw[hcell,hsg]
   unfold jQ at hv'
   by_cases h1:o<en*sz
   ·rw[if_pos h1]
    rw[if_neg (by omega)] at hv'
    have:=hh.kw b' o v hv'
    simp only[World.cell?,hheap] at this
    simpa using this
   ·rw[if_neg h1]
    by_cases h2:o<en*sz+us.length
    ·rw[if_pos h2]
     rw[if_pos ⟨rfl,by omega,h2⟩] at hv'
     exact hv'
    ·rw[if_neg (fun h=>h2 h.2.2),hk o (by omega)] at hv';cases hv'
  ·have hv' : jQ g.K b (en*sz) us b' o=some v:=hv
   rw[hoth b' o hbb] at hv'
   rw[← hh.kw b' o v hv']
   exact World.cell?_of_block (hne0 b' hbb)
 ·cases hb;exact hh.base τ _ hβ
 ·cases q;exact hne (hh.sep i τ b hib hβ)
 ·cases hb;rw[hsize];exact hh.frozlt τ b hβ
 ·intro b' hbi
  have:some b=some b':=(aB g.β τ (some b)).symm.trans hbi
  cases this
  have hc:upd g.cap τ (nL (en+m) C) τ=nL (en+m) C:=aB _ _ _
  refine⟨_,hset,?_,?_,fun o ho=>?_⟩
  ·show _=sZ (upd g.cap τ (nL (en+m) C) τ)*sz
   rw[hc,xL hC,← hsz];simp;omega
  ·show tZ (upd g.cap τ (nL (en+m) C) τ)≤sZ (upd g.cap τ (nL (en+m) C) τ);rw[hc,xL hC,xM hC];exact hn
  ·have ho:tZ (upd g.cap τ (nL (en+m) C) τ)*sz≤o:=ho
   rw[hc,xM hC,Nat.add_mul] at ho
   show jQ _ _ _ _ _ _=none
   unfold jQ
   rw[if_neg (by omega)];exact hk o (by omega)
theorem aBz {P:Program} (w:World) (t ty e:TypeId) (i:TypeInfo) (ht:P.underlying t=some (.slice e)) (hi:P.info? e=some i)
  (b off sLen sCap:Nat) (cur:Array Value) (hg:w.heap[b]? = some (.cells cur e (0,0)))
  (a:Addr) (m c:Nat) (news:List Value) (hl:news.length=m*i.size) (hnews:∀ j u,news[j]? = some u→w.cell? (a.add j)=some u) (h1:∀ u ∈ news,u.oneCell' = true)
  (hroom:sLen+m≤sCap) (hfit:off+sLen*i.size+news.length≤cur.size) :
  (Builtin.append_ #[t,t] ty #[.slice (some ⟨b,off,none⟩) sLen sCap,.slice (some a) m c]).run P w =
   .ok (.slice (some ⟨b,off,none⟩) (sLen+m) sCap) (w.setRow b (cur.toList.take (off+sLen*i.size)++news++cur.toList.drop (off+sLen*i.size+news.length)).toArray):=by
 have hf:=run_firstCells_some (P:=P) w i.size m a m c news hl hnews
 have hst:=run_storeCells_at P b (off+sLen*i.size) e news 0 cur w hg (by simpa using hfit) h1
 simp only[Nat.add_zero] at hst
 simp[Builtin.append_,run_underlying ht,sizeOf,typeInfo,hi,Builtin.lenOf,hroom,hf,Addr.add_lit,hst]
theorem aH.rotApp {P:Program} {all:List Oper} {o:Oper} {os:List Oper} {σ:St} {k:St→Prop} {t e sz bb τ n:Nat} {zs:List Value} {x y:Operand} {cy:CV} {xs ys:List (List D)}
  (hop:o.op = .call { callee:=.builtin .append,args:=#[x,y],argTypes:=#[t,t] })
  (hes:dT P t=some (e,sz,bb,zs)) (hsz:zs.length=sz∧0<sz∧0<bb)
  (hc:bQ all σ.env o=some true∧gN σ o=true∧aK σ.env x = .c (.apt τ sz xs n)∧aK σ.env y = .c cy∧cy.lstOf sz=some ys∧σ.H τ=some (.rot e sz n)∧(xs.length+ys.length)*bb≤140737488355328∧σ.fx.dfs.contains τ=false)
  (h:aH P all os ⟨dE σ.env o.dst (.c (.apt τ sz (xs++ys) (n+1))),upd σ.H τ (some (.rot e sz (n+1))),σ.nx,σ.sz,σ.fx⟩ k):aH P all (o::os) σ k:=by
 obtain⟨hg,hd,hx,hy,hys,hτ,htot,hdf⟩:=hc
 obtain⟨hzs,hs0,hbp⟩:=hsz
 obtain⟨hu,j,z,u,hj,hz,hs,hby,hzz,_⟩:=dI hes
 refine aH.opr hg hd (by rw[hop];intro c hc;cases hc) fun F K0 g a w hr=>?_
 have hx':=bM hr x
 have hy':=bM hr y
 rw[hx] at hx'
 rw[hy] at hy'
 subst hs
 have hh:=hr.mem
 have hry:=CV.lstOf_rep hy' hys
 obtain⟨hrx,e3,n3,hτ3,_,hcase⟩:=hx'
 rw[hτ] at hτ3;cases hτ3
 have hcase:=hcase rfl
 have hsub:xs.length+ys.length≤(xs.length+ys.length)*bb:=Nat.le_mul_of_pos_right _ hbp
 have h63:xs.length+ys.length≤maxLen:=by unfold maxLen;omega
 have fin:∀ (w' : World) (g' : G) (v:Value),(Builtin.append_ #[t,t] o.type #[a.eval x,a.eval y]).run P w = .ok v w'→RelH F K0 g' (upd σ.H τ (some (.rot e j.size (n+1)))) w'→dL g σ.H g' (upd σ.H τ (some (.rot e j.size (n+1))))→bD g' (upd σ.H τ (some (.rot e j.size (n+1)))) (.apt τ j.size (xs++ys) (n+1)) v →
   ∃ n v w' g' H' x nx',(execOp a.eval o).run P w = .ok n w'∧(n = .value v∨(n = .skip∧v=undef))∧RelH F K0 g' H' w'∧dL g σ.H g' H'∧bH g' H' x v∧(∀ i ∈ σ.fx.dfs,H' i=σ.H i)∧aH P all os ⟨dE σ.env o.dst x,H',nx',σ.sz,σ.fx⟩ k:=fun w' g' v hrun h5 h6 h7=>by
  refine⟨_,v,w',g',_,.c (.apt τ j.size (xs++ys) (n+1)),σ.nx,?_,.inl rfl,h5,h6,h7,aNl hdf,h⟩
  unfold execOp;rw[hop]
  simp[resolve,invoke,builtin,hrun,Result.andThen]
 obtain⟨a1,c1,vs,hv1,hs1,hc1,hr1,h11,hk1⟩:=hrx.inv
 obtain⟨a2,c2,us,hv2,hs2,hc2,hr2,h12,hk2⟩:=hry.inv
 have hl1:vs.length=xs.length*j.size:=by rw[← hr1.1,cQ hs1]
 have hl2:us.length=ys.length*j.size:=by rw[← hr2.1,cQ hs2]
 rcases Nat.eq_zero_or_pos ys.length with hy0|hm
 ·have hyn:ys=[]:=List.eq_nil_of_length_eq_zero hy0
  subst hyn
  have hrun:=lQ (P:=P) (ty:=o.type) hu hj a1 a2 xs.length c1 c2 hc1 w
  rw[hv2] at fin
  rw[hv1] at fin hcase
  have hβe:upd g.β τ (g.β τ)=g.β:=by funext i;by_cases hi:i=τ<;>simp[upd,hi]
  have hce:upd g.cap τ (g.cap τ)=g.cap:=by funext i;by_cases hi:i=τ<;>simp[upd,hi]
  obtain⟨h5,h6⟩:=hh.rchg hτ e (n+1) (gL.refl g.K) (by omega) (g.β τ) (g.cap τ) hh.below hh.ext hh.kw (fun _ _ _ _=>rfl) (fun _ _ _ _ _=>rfl) (fun b hb=>hh.base τ b hb) (fun i b hne hib q=>hne (hh.sep i τ b hib q)) (fun b hb=>hh.frozlt τ b hb) (Nat.le_refl _)
   (by rw[hβe,hce];exact bO (show fR g σ.H w τ (.rot e j.size (n+1)) from hh.holds τ (.rot e j.size n) hτ) rfl rfl (fun _ _ _ q=>q) (fun _ _ _ q _=>q))
  refine fin _ _ _ hrun h5 h6 ?_
  rw[hβe,hce,List.append_nil]
  exact⟨by rw[← hv1];exact hrx,e,n+1,aB _ _ _,Nat.le_refl _,fun _=>hcase⟩
 ·obtain⟨b2,o2,ha2,hkk2⟩:=hk2 (by intro q;rw[q] at hm;simp at hm)
  subst ha2
  have hnews:∀ (i:Nat) v,us[i]? = some v→w.cell? ((⟨b2,o2,none⟩:Addr).add i)=some v:=fun i v hi=>by rw[Addr.add_lit];exact hh.kw _ _ _ (hkk2 i v hi)
  have hz2:z.cells.size=j.size:=by rw[← hzs,hzz];simp
  rw[hv2] at fin
  rw[hv1] at fin hcase
  have grow:c1<xs.length+ys.length→(a1=none→c1=0)→_:=fun hc hac=>by
   have hge:=grownCap_ge w (xs.length+ys.length) c1 e
   have hgl:=grownCap_le_maxLen w (xs.length+ys.length) c1 e h63
   have hrun:(Builtin.append_ #[t,t] o.type #[.slice a1 xs.length c1,.slice (some ⟨b2,o2,none⟩) ys.length c2]).run P w = .ok (.slice (some ⟨w.heap.size,0,none⟩) (xs.length+ys.length) (grownCap w (xs.length+ys.length) c1 e))
     (w.drew.alloc (.cells (vs.toArray++us.toArray++Builtin.zeroCells z.cells (grownCap w (xs.length+ys.length) c1 e - (xs.length+ys.length))) e)):=by
    cases a1 with
    | some ad =>
     refine run_append_grow (P:=P) w t o.type e j z hu hj hz ad xs.length c1 vs hl1 ?_ ⟨b2,o2,none⟩ ys.length c2 us hl2 hnews hc (by unfold maxLen at h63;omega) (growslice_fits hc (by rw[hby];exact htot))
     intro i v hi
     have hne:xs≠[]:=by intro q;rw[q] at hl1;simp at hl1;rw[hl1] at hi;simp at hi
     obtain⟨b,off,q,hkk⟩:=hk1 hne
     cases q
     rw[Addr.add_lit];exact hh.kw _ _ _ (hkk i v hi)
    | none =>
     have hx0:xs=[]:=by
      by_cases h:xs=[]
      ·exact h
      ·obtain⟨b,off,q,_⟩:=hk1 h;cases q
     obtain rfl:=hac rfl
     have hvs0:vs=[]:=List.eq_nil_of_length_eq_zero (by rw[hl1,hx0];simp)
     subst hx0
     subst hvs0
     have:=run_append_nil (P:=P) w t o.type e j z hu hj hz ⟨b2,o2,none⟩ ys.length c2 us hl2 hnews hm (by simp at h63;unfold maxLen at h63;omega) (by rw[hby];simp at htot;omega)
     simpa using this
   have hcur:(vs.toArray++us.toArray++Builtin.zeroCells z.cells (grownCap w (xs.length+ys.length) c1 e - (xs.length+ys.length))).size=grownCap w (xs.length+ys.length) c1 e*j.size:=by
    simp only[Array.size_append,List.size_toArray,size_zeroCells,hz2,hl1,hl2,← Nat.add_mul]
    congr 1;omega
   have hcp:grownCap w (xs.length+ys.length) c1 e<18446744073709551616:=by unfold maxLen at hgl;omega
   obtain⟨h5,h6⟩:=RelH.rnew (e:=e) (len:=xs.length+ys.length) (cp:=grownCap w (xs.length+ys.length) c1 e) (vs:=vs++us) hh.drew hτ (fun i v hi=>by
     have hlt:=(List.getElem?_eq_some_iff.1 hi).1
     rw[Array.getElem?_append_left (by simpa using hlt)]
     simpa using hi) hcur hge (by simp[hl1,hl2,Nat.add_mul]) hcp
   refine fin _ _ _ hrun h5 h6 ⟨?_,e,n+1,aB _ _ _,Nat.le_refl _,fun _=>.inr ⟨_,0,aB _ _ _,?_,?_⟩⟩
   ·have hL:=(hr1.append hr2).mono (oG hh.kw (vs++us)).1
    have hfl:(xs++ys).flatten=xs.flatten++ys.flatten:=by simp
    have:=Rep.lst (K:=cO g.K w.heap.size (vs++us)) (sz:=j.size) (xs:=xs++ys) (vs:=vs++us) (a:=some ⟨w.heap.size,0,none⟩) (c:=grownCap w (xs.length+ys.length) c1 e)
     (fun x hx=>(List.mem_append.1 hx).elim (hs1 x) (hs2 x)) (by simpa using hge) (by rw[hfl];exact hL.1) (by rw[hfl];exact hL.2) (fun u hu=>(List.mem_append.1 hu).elim (h11 u) (h12 u))
     (fun _=>⟨w.heap.size,0,rfl,fun i v hi=>by unfold cO;rw[if_pos rfl,Nat.zero_add];exact hi⟩)
    rw[List.length_append] at this
    exact this
   ·rw[List.length_append]
    show _=Value.slice _ _ (sZ (upd _ _ _ _) - 0)
    rw[aB,xL hcp,Nat.zero_mul,Nat.sub_zero];rfl
   ·show _=tZ (upd _ _ _ _)
    rw[aB,xM hcp,List.length_append];omega
  rcases hcase with ⟨a3,hfull⟩|⟨b,off,hb,hv,hen⟩
  ·simp only[Value.slice.injEq] at hfull
   obtain⟨_,_,hc1e⟩:=hfull
   refine grow (by omega) (fun q=>?_)
   subst q
   have hx0:xs=[]:=by
    by_cases h:xs=[]
    ·exact h
    ·obtain⟨b,off,q,_⟩:=hk1 h;cases q
   rw[hc1e,hx0];rfl
  ·simp only[Value.slice.injEq] at hv
   obtain⟨ha1,_,hce⟩:=hv
   by_cases hroom:xs.length+ys.length≤c1
   ·obtain⟨cur,hheap,hcs,hEC,hkn⟩:=hh.holds τ _ hτ b hb
    subst ha1
    have hEm:tZ (g.cap τ)+ys.length≤sZ (g.cap τ):=by omega
    have hoff:off*j.size+xs.length*j.size=tZ (g.cap τ)*j.size:=by rw[← Nat.add_mul,hen]
    have hrun:=aBz (P:=P) w t o.type e j hu hj b (off*j.size) xs.length c1 cur hheap ⟨b2,o2,none⟩ ys.length c2 us hl2 hnews h12 hroom (by rw[hoff,hcs,hl2,← Nat.add_mul];exact Nat.mul_le_mul_right _ hEm)
    rw[hoff] at hrun
    obtain⟨h5,h6⟩:=RelH.rin (e:=e) hh hτ hb hheap hcs (aGn _) hEm hl2 hkn
    have hk1' : ∀ (i:Nat) v,vs[i]? = some v→g.K b (off*j.size+i)=some v:=fun i v hi=>by
     have hne:xs≠[]:=by intro q;rw[q] at hl1;simp at hl1;rw[hl1] at hi;simp at hi
     obtain⟨b3,off3,q,hkk⟩:=hk1 hne
     cases q
     exact hkk i v hi
    have hkle:gL g.K (jQ g.K b (tZ (g.cap τ)*j.size) us):=fun b' o v hv=>by
     unfold jQ
     split
     ·rename_i h;rw[h.1,hkn o h.2.1] at hv;cases hv
     ·exact hv
    refine fin _ _ _ hrun h5 h6 ⟨?_,e,n+1,aB _ _ _,Nat.le_refl _,fun _=>.inr ⟨b,off,aB _ _ _,?_,?_⟩⟩
    ·have hL:=(hr1.append hr2).mono hkle
     have hfl:(xs++ys).flatten=xs.flatten++ys.flatten:=by simp
     have:=Rep.lst (K:=jQ g.K b (tZ (g.cap τ)*j.size) us) (sz:=j.size) (xs:=xs++ys) (vs:=vs++us) (a:=some ⟨b,off*j.size,none⟩) (c:=c1)
      (fun x hx=>(List.mem_append.1 hx).elim (hs1 x) (hs2 x)) (by simpa using hroom) (by rw[hfl];exact hL.1) (by rw[hfl];exact hL.2) (fun u hu=>(List.mem_append.1 hu).elim (h11 u) (h12 u))
      (fun _=>⟨b,off*j.size,rfl,fun i v hi=>by
       rcases Nat.lt_or_ge i vs.length with hlt|hge
       ·rw[List.getElem?_append_left hlt] at hi
        exact hkle _ _ _ (hk1' i v hi)
       ·rw[List.getElem?_append_right hge] at hi
        have hlt:=(List.getElem?_eq_some_iff.1 hi).1
        unfold jQ
        rw[if_pos ⟨rfl,by omega,by omega⟩,← hi]
        congr 1;omega⟩)
     rw[List.length_append] at this
     exact this
    ·rw[List.length_append]
     show _=Value.slice _ _ (sZ (upd _ _ _ _) - off)
     rw[aB,xL (aGn _),hce]
    ·show _=tZ (upd _ _ _ _)
     rw[aB,xM (aGn _),List.length_append];omega
   ·refine grow (by omega) (fun q=>?_)
    subst q;cases ha1
theorem aH.rotTail {P:Program} {all:List Oper} {o:Oper} {os:List Oper} {σ:St} {k:St→Prop} {t e sz bb τ n:Nat} {zs:List Value} {x lo:Operand} {x0:List D} {xs:List (List D)}
  (hop:o.op = .slice t x (some lo) none none)
  (hes:dT P t=some (e,sz,bb,zs))
  (hc:bQ all σ.env o=some true∧gN σ o=true∧aK σ.env x = .c (.apt τ sz (x0::xs) n)∧(aK σ.env lo).nat=some 1)
  (h:aH P all os ⟨dE σ.env o.dst (.c (.apt τ sz xs n)),σ.H,σ.nx,σ.sz,σ.fx⟩ k):aH P all (o::os) σ k:=by
 obtain⟨hg,hd,hx,hlo⟩:=hc
 obtain⟨hu,j,z,u,hj,hz,hs,hby,hzz,_⟩:=dI hes
 refine aH.opr hg hd (by rw[hop];intro c hc;cases hc) fun F K0 g a w hr=>?_
 have hx':=bM hr x
 have hlo':=bM hr lo
 rw[hx] at hx'
 subst hs
 obtain⟨kl,hvl⟩:=SV.nat_rep hlo' hlo
 obtain⟨hrx,e3,n3,hτ,hkn,hcase⟩:=hx'
 obtain⟨a1,c,vs,hv,_,hcap,_⟩:=hrx.inv
 have hcap' : xs.length+1≤c:=by simpa using hcap
 have hb:=jC (P:=P) (isS:=true) (lo:=some (aK σ.env lo)) (hi:=none) (vlo:=some (a.eval lo)) (vhi:=none) (len:=xs.length+1) (cap:=c) (l:=1) (h:=xs.length+1) w hlo' trivial (by simpa [aBf] using hlo) rfl (by omega) (Nat.le_refl _) hcap'
 have hrr:=xO (l:=1) (h:=xs.length+1) (m:=c) (by rw[← hv];exact hrx) (by omega) (by simp) hcap' (Nat.le_refl c)
 simp only[List.drop_succ_cons,List.drop_zero,Nat.add_sub_cancel,List.take_length] at hrr
 refine⟨_,.slice (if c=1 then a1 else a1.map (·.add (1*j.size))) xs.length (c - 1),w,g,σ.H,.c (.apt τ j.size xs n),σ.nx,?_,.inl rfl,hr.mem,dL.refl _ _,⟨hrr,e3,n3,hτ,hkn,fun q=>?_⟩,fun _ _=>rfl,h⟩
 ·unfold execOp;rw[hop]
  simp[hv,Instr.sliceAt,Instr.slice,run_underlying hu,Result.andThen_ok,hb,cJ hj]
 ·rcases hcase q with ⟨a3,h3⟩|⟨b,off,h3,h4,h5⟩
  ·rw[hv] at h3
   simp only[Value.slice.injEq,List.length_cons] at h3
   obtain⟨_,_,h3⟩:=h3
   exact .inl ⟨_,by rw[h3,Nat.add_sub_cancel]⟩
  ·rw[hv] at h4
   simp only[Value.slice.injEq,List.length_cons] at h4
   obtain⟨h6,_,h7⟩:=h4
   simp only[List.length_cons] at h5
   by_cases hc1:c=1
   ·exact .inl ⟨_,by rw[show xs.length=0 from by omega,hc1]⟩
   ·refine .inr ⟨b,off+1,h3,?_,by omega⟩
    rw[if_neg hc1,h6,h7]
    simp only[Option.map_some,Addr.add_lit,Nat.add_mul]
    rw[show sZ (g.cap τ) - off - 1=sZ (g.cap τ) - (off+1) from by omega]
theorem aD.rtok {σ:St} {τ:Nat} (e sz n:Nat) (hτ:σ.H τ=none):aD σ { σ with H:=upd σ.H τ (some (.rot e sz n)) }:=by
 intro W0 K0 g a w r
 have hβ:g.β τ=none:=r.mem.dom τ hτ
 have hle:dL g σ.H g (upd σ.H τ (some (.rot e sz n))):=by
  have ho:∀ i off v,bD g σ.H (.own i off) v→bD g (upd σ.H τ (some (.rot e sz n))) (.own i off) v:=by
   rintro i off v ⟨b,hb,rfl,hnr⟩
   have hne:i≠τ:=fun q=>by subst q;rw[hβ] at hb;cases hb
   exact⟨b,hb,rfl,by rw[aA _ _ hne];exact hnr⟩
  intro x v r
  cases x with
  | own i off=>exact ho i off v r
  | clo f caps=>exact dS r (gL.refl _) ho
  | bnd f caps=>exact dR r (gL.refl _) ho
  | yld i=>exact dU r ho
  | mp i=>exact eY r ho
  | mt i k=>exact iG (xT.upd (fun _ _ _ _ h=>by rw[hτ] at h;cases h) (fun _ _=>rfl) (fun _ _=>rfl)) r
  | mpt i k o=>exact iF (xT.upd (fun _ _ _ _ h=>by rw[hτ] at h;cases h) (fun _ _=>rfl) (fun _ _=>rfl)) r
  | apt i s xs k=>exact fT (by exact gL.refl _) (TLe.upd (fun _ _ _ h=>by rw[hτ] at h;cases h) (fun _ _=>rfl) (fun _ _=>rfl)) r
  | view i s off len=>obtain⟨b,c,hb,rfl,hc,hnr⟩:=r;exact⟨b,c,hb,rfl,hc,by rw[aA _ _ (fun q=>by subst q;rw[hβ] at hb;cases hb)];exact hnr⟩
  | app i s xs =>
   obtain⟨h1,e2,n2,h2,h3⟩:=r
   exact⟨h1,e2,n2,by rw[aA _ _ (fun q=>by subst q;rw[hτ] at h2;cases h2)];exact h2,h3⟩
  | _=>exact r
 refine⟨g,⟨r.mem.below,r.mem.ext,r.mem.kw,fun i he hi=>?_,r.mem.base,fun i hi=>?_,r.mem.sep,r.mem.frozlt,r.mem.glob,r.mem.lent.trans hle⟩,fun t=>(r.env t).mono hle,r.size,r.defers.mono hle (fun i o hi=>by rw[show (upd σ.H τ (some (HE.rot e sz n))) i=σ.H i from aA _ _ (fun e=>by subst e;rw[hτ] at hi;cases hi)];exact hi),r.ln,r.rd,r.nodup,r.lt⟩
 ·have hi:upd σ.H τ (some (HE.rot e sz n)) i=some he:=hi
  by_cases hne:i=τ
  ·subst hne;rw[aB] at hi;cases hi
   intro b hb;rw[hβ] at hb;cases hb
  ·rw[aA _ _ hne] at hi
   have:=r.mem.holds i he hi
   cases he with
   | cells cs =>
    obtain⟨b,vs,t,h1,h2,h3,h4⟩:=this
    exact⟨b,vs,t,h1,h2,h3.mono hle,h4⟩
   | obj o=>exact this
   | froz ds=>exact this
   | mrow e2 s2 n2 cs2=>exact cB this rfl rfl (fun _ _ _ q=>q) hle (fun _ _ _ q _=>q)
   | rot e2 s2 n2=>exact bO this rfl rfl (fun _ _ _ q=>q) (fun _ _ _ q _=>q)
   | ob cs2 p=>exact cY this rfl rfl (fun _ _ _ q=>q) hle (fun _ _ _ q _=>q)
   | row e s n=>exact this
 ·have hi:upd σ.H τ (some (HE.rot e sz n)) i=none:=hi
  by_cases hne:i=τ
  ·subst hne;rw[aB] at hi;cases hi
  ·rw[aA _ _ hne] at hi;exact r.mem.dom i hi
theorem aD.rotNil {σ:St} {id k τ:Nat} {cs:List CV} (e sz:Nat) (hne:id≠τ) (hτ:σ.H τ=none) (hid:σ.H id=some (.cells cs)) (hk:cs[k]? = some (.d (.val (.slice none 0 0)))):aD σ { σ with H:=upd (upd σ.H τ (some (.rot e sz 0))) id (some (.cells (cs.set k (.apt τ sz [] 0)))) } :=
 (aD.rtok (τ:=τ) e sz 0 hτ).trans (aD.cellAt (σ:={ σ with H:=upd σ.H τ (some (.rot e sz 0)) }) (id:=id) ((aA _ _ hne).trans hid) hk (fun g v h=>by
  have h:Rep g.K (.val (.slice none 0 0)) v:=h
  cases h
  exact⟨vW _ _,e,0,aB _ _ _,Nat.le_refl _,fun _=>.inl ⟨none,rfl⟩⟩))
end Go.Proofs.YtpklhnpchhaccaaGreatDoor
namespace Go.Proofs.YtpklhnpchhaccaaGreatDoor
open Go Go.RowKit
set_option linter.unusedVariables false
set_option linter.unusedSimpArgs false
def lW (e:MapEntry):Int:=match e.key with | .int _ s=>s|_=>0
def kT (k:Int):List MapEntry→Nat→Option (Nat × Value)
 | [],_=>none
 | e::es,i=>if k=lW e then some (i,e.val) else kT k es (i+1)
def zS (es:List MapEntry):Prop:=∀ e ∈ es,e.key = .int .i64 (lW e)
theorem lZ {q:IntKind} {k:Int}:∀ {es:List MapEntry} {i:Nat},zS es→Instr.findNow (.int q) (.int .i64 k) es i=some (kT k es i)
 | [],_,_=>rfl
 | e::es,i,h=>by
  have hs:=h e (by simp)
  have ih:=@lZ q k es (i+1) (fun x hx=>h x (by simp[hx]))
  unfold Instr.findNow kT
  rw[hs]
  simp only[Instr.sameNow,if_true]
  by_cases hk:k=lW e
  ·simp[hk]
  ·have:(k == lW e)=false:=by simpa using hk
   simp only[this,ih,hk,if_false]
def xV (k:Int):List (Int × Value)→Option Value
 | []=>none
 | e::es=>if k=e.1 then some e.2 else xV k es
def qV (k:Int) (v:Value):List (Int × Value)→List (Int × Value)
 | []=>[(k,v)]
 | e::es=>if k=e.1 then (k,v)::es else e::qV k v es
def tA (k:Int):List (Int × Value)→List (Int × Value)
 | []=>[]
 | e::es=>if k=e.1 then es else e::tA k es
def fS (l:List (Int × Value)):List Int:=l.map (·.1)
theorem xW (k:Int) (v:Value):∀ l,fS (qV k v l)=if k ∈ fS l then fS l else fS l++[k]
 | []=>by simp[qV,fS]
 | e::es=>by
  have ih:=xW k v es
  unfold qV
  by_cases h:k=e.1
  ·rw[if_pos h];subst h;simp[fS]
  ·rw[if_neg h]
   show e.1::fS (qV k v es)=_
   rw[ih]
   by_cases h2:k ∈ fS es
   ·rw[if_pos h2,if_pos (by simp[fS] at h2 ⊢;exact .inr h2)];rfl
   ·rw[if_neg h2,if_neg (by simp[fS,h] at h2 ⊢;exact h2)];rfl
theorem yN {k:Int} {v:Value} {l:List (Int × Value)} (h:(fS l).Nodup):(fS (qV k v l)).Nodup:=by
 rw[xW]
 split
 ·exact h
 ·rename_i hk
  rw[List.nodup_append]
  exact⟨h,by simp,fun a ha b hb=>by simp at hb;subst hb;exact fun e=>hk (e ▸ ha)⟩
theorem aDi (k:Int):∀ l,(fS (tA k l)).Sublist (fS l)
 | []=>by simp[tA,fS]
 | e::es=>by
  unfold tA
  by_cases h:k=e.1
  ·rw[if_pos h];simp[fS]
  ·rw[if_neg h];exact (aDi k es).cons_cons _
theorem yM {k:Int} {l:List (Int × Value)} (h:(fS l).Nodup):(fS (tA k l)).Nodup:=h.sublist (aDi k l)
def oI (es:List MapEntry):List (Int × Value):=es.map fun e=>(lW e,e.val)
theorem nT {k:Int}:∀ {es:List MapEntry} {i:Nat},kT k es i=none→xV k (oI es)=none∧tA k (oI es)=oI es∧∀ v,qV k v (oI es)=oI es++[(k,v)]
 | [],_,_=>⟨rfl,rfl,fun _=>rfl⟩
 | e::es,i,h=>by
  unfold kT at h
  split at h
  ·cases h
  ·rename_i hk
   obtain⟨h1,h2,h3⟩:=nT h
   refine⟨?_,?_,fun v=>?_⟩
   ·show (if k=lW e then _ else _)=_;rw[if_neg hk];exact h1
   ·show (if k=lW e then _ else _)=_;rw[if_neg hk];exact congrArg _ h2
   ·show (if k=lW e then _ else _)=_;rw[if_neg hk];exact congrArg _ (h3 v)
theorem nU {k : Int} : ∀ {es : List MapEntry} {i j : Nat} {u : Value}, kT k es i = some (j, u) → i ≤ j ∧ (∃ e, es[j - i]? = some e ∧ lW e = k ∧ e.val = u) ∧ xV k (oI es) = some u ∧ oI (es.eraseIdx (j - i)) = tA k (oI es) ∧
      ∀ v, oI (es.modify (j - i) fun e => { e with key := .int .i64 k, val := v }) = qV k v (oI es)
  | e :: es, i, j, u, h => by
    unfold kT at h
    split at h
    · rename_i hk
      simp only [Option.some.injEq, Prod.mk.injEq] at h
      obtain ⟨rfl, rfl⟩ := h
      simp only [Nat.sub_self]
      refine ⟨Nat.le_refl _, ⟨e, rfl, hk.symm, rfl⟩, ?_, ?_, fun v => ?_⟩
      · show (if k = lW e then _ else _) = _; rw [if_pos hk]
      · show _ = (if k = lW e then _ else _); rw [if_pos hk]; rfl
      · show _ = (if k = lW e then _ else _); rw [if_pos hk]; rfl
    · rename_i hk
      obtain ⟨h0, he, h1, h2, h3⟩ := nU h
      have e1 : j - i = (j - (i + 1)) + 1 := by omega
      rw [e1]
      refine ⟨by omega, by simpa using he, ?_, ?_, fun v => ?_⟩
      · show (if k = lW e then _ else _) = _; rw [if_neg hk]; exact h1
      · show _ = (if k = lW e then _ else _); rw [if_neg hk]; exact congrArg _ h2
      · show _ = (if k = lW e then _ else _); rw [if_neg hk]; rw [List.modify_succ_cons]; exact congrArg _ (h3 v)
def oH (o:Obj) (L:List (Int × Value)):Prop:=∃ (es:List MapEntry) (clock:Nat),o = .map es.toArray clock∧zS es∧oI es=L∧(fS L).Nodup∧(es.map (·.born)).Nodup∧∀ e ∈ es,e.born<clock
theorem oH.nil:oH (.map #[] 0) []:=⟨[],0,rfl,by simp[zS],rfl,by simp[fS],by simp,by simp⟩
theorem rM {f:MapEntry→MapEntry}:∀ {es:List MapEntry} {j:Nat} {y:MapEntry},y ∈ es.modify j f→y ∈ es∨∃ z ∈ es,y=f z
 | [],j,y,h=>by cases j<;>simp[List.modify] at h
 | e::es,0,y,h=>by
  simp at h
  rcases h with rfl|h
  ·exact .inr ⟨e,by simp,rfl⟩
  ·exact .inl (by simp[h])
 | e::es,j+1,y,h=>by
  rw[List.modify_succ_cons] at h
  rcases List.mem_cons.1 h with rfl|h
  ·exact .inl (by simp)
  ·rcases rM h with h|⟨z,hz,e1⟩
   ·exact .inl (by simp[h])
   ·exact .inr ⟨z,by simp[hz],e1⟩
theorem vG {f:MapEntry→MapEntry} (hf:∀ x,(f x).born=x.born):∀ {es:List MapEntry} {j:Nat},(es.modify j f).map (·.born)=es.map (·.born)
 | [],j=>by cases j<;>rfl
 | e::es,0=>by simp[hf]
 | e::es,j+1=>by rw[List.modify_succ_cons,List.map_cons,List.map_cons,vG hf]
theorem aMe {P:Program} {w:World} (k:Int):(Instr.keyThatStays (.int .i64 k) (.int .i64 k)).run P w = .ok (.int .i64 k) w:=by
 have:Instr.sameBits 10000 (.int .i64 k) (.int .i64 k)=true:=by
  simp[Instr.sameBits]
 unfold Instr.keyThatStays
 rw[if_pos this];rfl
section
variable {P:Program} {w:World} {q:IntKind} {b:Nat} {t k e:TypeId} {o:Obj} {L:List (Int × Value)}
theorem nG (ht:P.underlying t=some (.map k e)) (hk:P.underlying k=some (.int q)) (hb:w.heap[b]? = some o) (ho:oH o L) (key:Int) (v:Value) :
  ∃ o',oH o' (qV key v L)∧(Instr.mapUpdate t (.map (some b)) (.int .i64 key) v).run P w = .ok () (w.putObj b o'):=by
 obtain⟨es,clock,rfl,hs,rfl,hn,hbn,hlt⟩:=ho
 have hc:(Instr.checkKey false 10000 k (.int .i64 key)).run P w = .ok () w:=by
  unfold Instr.checkKey;simp[run_underlying hk]
 have hf:(Instr.findKey k (.int .i64 key) es).run P w = .ok (kT key es 0) w:=by
  unfold Instr.findKey;simp[run_underlying hk,Result.andThen,lZ hs]
 cases hm:kT key es 0 with
 | none =>
  obtain⟨h1,h2,h3⟩:=nT hm
  refine⟨.map (es++[({ key:=.int .i64 key,val:=v,born:=clock }:MapEntry)]).toArray (clock+1),⟨_,_,rfl,?_,?_,yN hn,?_,?_⟩,?_⟩
  ·intro x hx
   rcases List.mem_append.1 hx with h|h
   ·exact hs x h
   ·simp at h;subst h;rfl
  ·rw[h3];simp[oI,lW]
  ·rw[List.map_append,List.nodup_append]
   refine⟨hbn,by simp,fun a ha c hc=>?_⟩
   simp at ha hc
   obtain⟨x,hx,rfl⟩:=ha
   have:=hlt x hx
   omega
  ·intro x hx
   rcases List.mem_append.1 hx with h|h
   ·have:=hlt x h;omega
   ·simp at h;subst h;simp
  ·unfold Instr.mapUpdate
   simp[run_underlying ht,MapKept.run_getObj_map hb,hc,hf,hm,Result.andThen,MapKept.run_setObj_map _ hb,World.putObj]
 | some p =>
  obtain⟨j,u⟩:=p
  obtain⟨h0,⟨x,hx,hxk,hxv⟩,h1,h2,h3⟩:=nU hm
  simp only[Nat.sub_zero] at *
  refine⟨.map (es.modify j fun e=>{ e with key:=.int .i64 key,val:=v }).toArray clock,⟨_,_,rfl,?_,h3 v,yN hn,?_,?_⟩,?_⟩
  ·intro y hy
   rcases rM hy with h|⟨z,hz,rfl⟩
   ·exact hs y h
   ·rfl
  ·rw[vG (f:=fun e=>({ key:=.int .i64 key,val:=v,born:=e.born }:MapEntry)) (fun _=>rfl)];exact hbn
  ·intro y hy
   rcases rM hy with h|⟨z,hz,rfl⟩
   ·exact hlt y h
   ·exact hlt z hz
  ·have hkey:x.key = .int .i64 key:=by rw[← hxk];exact hs x (List.mem_of_getElem? hx)
   unfold Instr.mapUpdate
   simp[run_underlying ht,MapKept.run_getObj_map hb,hc,hf,hm,Result.andThen,MapKept.run_setObj_map _ hb,World.putObj,hx,hkey,aMe]
theorem lS (ht:P.underlying t=some (.map k e)) (hk:P.underlying k=some (.int q)) (hb:w.heap[b]? = some o) (ho:oH o L) (key:Int) (z:Value) (hz:(zeroValue e).run P w = .ok z w) (ck:Bool) :
  (Instr.lookup t (.map (some b)) (.int .i64 key) ck).run P w = .ok (if ck then .tuple #[(xV key L).getD z,.bool (xV key L).isSome] else (xV key L).getD z) w:=by
 obtain⟨es,clock,rfl,hs,rfl,hn,hbn,hlt⟩:=ho
 have hc:∀ x,(Instr.checkKey x 10000 k (.int .i64 key)).run P w = .ok () w:=fun x=>by
  unfold Instr.checkKey;simp[run_underlying hk]
 have hf:(Instr.findKey k (.int .i64 key) es).run P w = .ok (kT key es 0) w:=by
  unfold Instr.findKey;simp[run_underlying hk,Result.andThen,lZ hs]
 cases hm:kT key es 0 with
 | none =>
  obtain⟨h1,-,-⟩:=nT hm
  unfold Instr.lookup
  cases ck<;>simp[run_underlying ht,MapKept.run_getObj_map hb,hc,hf,hm,Result.andThen,hz,h1]
 | some p =>
  obtain⟨j,u⟩:=p
  obtain⟨-,-,h1,-,-⟩:=nU hm
  unfold Instr.lookup
  cases ck<;>simp[run_underlying ht,MapKept.run_getObj_map hb,hc,hf,hm,Result.andThen,hz,h1]
theorem qO (ht:P.underlying t=some (.map k e)) (hk:P.underlying k=some (.int q)) (hb:w.heap[b]? = some o) (ho:oH o L) (key:Int) (ty tk:TypeId) :
  ∃ o',oH o' (tA key L)∧(Builtin.delete_ #[t,tk] ty #[.map (some b),.int .i64 key]).run P w = .ok (.tuple #[]) (w.putObj b o'):=by
 obtain⟨es,clock,rfl,hs,rfl,hn,hbn,hlt⟩:=ho
 have hc:∀ x,(Instr.checkKey x 10000 k (.int .i64 key)).run P w = .ok () w:=fun x=>by
  unfold Instr.checkKey;simp[run_underlying hk]
 have hf:(Instr.findKey k (.int .i64 key) es).run P w = .ok (kT key es 0) w:=by
  unfold Instr.findKey;simp[run_underlying hk,Result.andThen,lZ hs]
 cases hm:kT key es 0 with
 | none =>
  obtain⟨h1,h2,h3⟩:=nT hm
  refine⟨.map es.toArray clock,⟨_,_,rfl,hs,h2.symm,yM hn,hbn,hlt⟩,?_⟩
  unfold Builtin.delete_
  simp[run_underlying ht,MapKept.run_getObj_map hb,hc,hf,hm,Result.andThen,MapKept.run_setObj_map _ hb,World.putObj]
 | some p =>
  obtain⟨j,u⟩:=p
  obtain⟨h0,⟨x,hx,hxk,hxv⟩,h1,h2,h3⟩:=nU hm
  simp only[Nat.sub_zero] at *
  have hsub:(es.eraseIdx j).Sublist es:=List.eraseIdx_sublist _ _
  have hj:j<es.length:=by
   rcases Nat.lt_or_ge j es.length with h|h
   ·exact h
   ·rw[List.getElem?_eq_none h] at hx;cases hx
  refine⟨.map (es.eraseIdx j).toArray clock,⟨_,_,rfl,fun y hy=>hs y (hsub.mem hy),h2,yM hn,hbn.sublist (hsub.map _),fun y hy=>hlt y (hsub.mem hy)⟩,?_⟩
  have hea:es.toArray.eraseIdxIfInBounds j=(es.eraseIdx j).toArray:=by
   simp[Array.eraseIdxIfInBounds,hj]
  unfold Builtin.delete_
  simp[run_underlying ht,MapKept.run_getObj_map hb,hc,hf,hm,Result.andThen,MapKept.run_setObj_map _ hb,World.putObj,hea]
theorem aGp (ht:P.underlying t=some (.map k e)) (hb:w.heap[b]? = some o) (ho:oH o L) (ty:TypeId):(Builtin.len_ #[t] ty #[.map (some b)]).run P w = .ok (goInt L.length) w:=by
 obtain⟨es,clock,rfl,hs,rfl,hn,hbn,hlt⟩:=ho
 unfold Builtin.len_
 simp[run_underlying ht,MapKept.run_getObj_map hb,Result.andThen,oI]
end
end Go.Proofs.YtpklhnpchhaccaaGreatDoor
