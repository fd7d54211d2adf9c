/- The abstract machine (BfP, BfQ). -/
import Derived.Test.YtpklhnpchhaccaaGreatDoorBfMc
namespace Go.Proofs.YtpklhnpchhaccaaGreatDoor
open Go Go.RowKit
set_option maxHeartbeats 4000000
set_option maxRecDepth 100000
set_option linter.unusedVariables false
set_option linter.unusedSimpArgs false
theorem zN (w:eE) (pid:Int) (l:List BatD):gG w pid l=(lO w pid).set (wI w pid) (pid,l):=by
 unfold gG lO
 cases h:lL w pid with
 | true=>rw[if_pos rfl,if_pos rfl]
 | false =>
  rw[if_neg Bool.false_ne_true,if_neg Bool.false_ne_true,sW h,List.set_append_right _ _ (Nat.le_refl _),Nat.sub_self]
  rfl
theorem aXx (w:eE) (pid:Int) (l:List BatD):wI (gG w pid l) pid=wI w pid:=by
 rw[zN]
 have hlt:wI w pid<(lO w pid).length:=(List.getElem?_eq_some_iff.1 (aR8 w pid)).1
 exact aTu hlt (aR9 w pid)
theorem zX (w:eE) (pid:Int) (l:List BatD):cU (gG w pid l) pid=(lO w pid).eraseIdx (wI w pid):=by
 unfold cU
 rw[aSp,if_pos rfl,aXx,zN,List.eraseIdx_set_eq]
theorem aHh (s:RefS) (pid:Int):(s.away pid).w=cU s.w pid:=by
 unfold RefS.away cU
 cases lL s.w pid<;>rfl
theorem aF1 (st:Int):∀ (l:List RowD),l.Pairwise (fun a b=>a.off≤b.off)→lY st l=l.filter (fun r=>!decide (r.off<st))
 | [],_=>rfl
 | r::l,h=>by
  rw[List.pairwise_cons] at h
  unfold lY
  by_cases hlt:r.off<st
  ·rw[if_pos hlt,List.filter_cons_of_neg (by simpa using hlt)]
   exact aF1 st l h.2
  ·rw[if_neg hlt,List.filter_cons_of_pos (by simpa using hlt)]
   congr 1
   refine (List.filter_eq_self.2 (fun x hx=>?_)).symm
   have:=h.1 x hx
   simp;omega
theorem aCe (st:Int):∀ (l:List RowD),(∀ r ∈ l,st≤r.off)→lY st l=l
 | [],_=>rfl
 | r::l,h=>by
  have:=h r (List.mem_cons_self ..)
  unfold lY
  rw[if_neg (by omega)]
structure RowsI (p:PartD):Prop where
 rise:p.rows.Pairwise (fun a b=>a.off≤b.off)
 ge:∀ r ∈ p.rows,p.start≤r.off
 lt:∀ r ∈ p.rows,r.off<p.fin
 sf:0≤p.start∧p.start≤p.fin∧p.fin≤1048576
theorem aQ2 {b:BatD} {n:Int} (hn:0≤n∧n≤1048576) (hb:b.recs.length≤100000):∀ r ∈ cS b n,n≤r.off∧r.off<n+(b.recs.length:Int):=by
 intro r hr
 unfold cS nX at hr
 obtain⟨i,hi,rfl⟩:=List.mem_map.1 hr
 have hi:=List.mem_range.1 hi
 unfold qN
 rw[List.getElem?_eq_getElem hi]
 dsimp only
 rw[if_neg (by omega),bA (by omega)]
 omega
theorem aM7 {p:PartD} {e:EntD} (hI:RowsI p) (hm:aL e=true) (hk:e.kind=5):jN p e=match kF p e with
  | some t=>if 1048576<t.fin then none else some t
  | none=>none:=by
 have hst:cG (eN p) e=if p.fin=1048576 then none else some { eN p with rows:=[{ e.row with off:=p.fin }],fin:=p.fin+1 }:=by
  unfold cG
  rw[if_neg (by rw[hm];simp),if_neg (by omega),if_neg (by omega),if_neg (by omega),if_neg (by omega),if_neg (by omega),if_pos hk]
  rfl
 have hb:kF p e=some { p with rows:=p.rows++[{ e.row with off:=p.fin }],fin:=p.fin+1 }:=by
  unfold kF;rw[if_neg (by omega),if_pos hk]
 have hsf:=hI.sf
 unfold jN
 rw[hst,hb]
 by_cases hf:p.fin=1048576
 ·rw[if_pos hf]
  dsimp only
  rw[if_pos (by omega)]
 ·rw[if_neg hf]
  dsimp only
  rw[if_neg (by omega)]
  show some { p with start:=p.start,fin:=p.fin+1,prods:=p.prods,rows:=lY p.start (p.rows++_) }=_
  rw[aCe]
  intro r hr
  rcases List.mem_append.1 hr with h|h
  ·exact hI.ge r h
  ·simp at h;subst h;exact hsf.2.1
theorem aM6 {p:PartD} {e:EntD} (hI:RowsI p) (hm:aL e=true) (hk:e.kind=2):jN p e=match kF p e with
  | some t=>if 1048576<t.fin then none else some t
  | none=>none:=by
 have hst:cG (eN p) e=if e.off<p.start∨p.fin<e.off then none else some { eN p with start:=e.off,rows:=[] }:=by
  unfold cG
  rw[if_neg (by rw[hm];simp),if_neg (by omega),if_neg (by omega),if_pos hk]
  rfl
 have hb:kF p e=if e.off<p.start∨p.fin<e.off then none else some { p with start:=e.off,rows:=jJ (nJ e.off) p.rows }:=by
  unfold kF;rw[if_pos hk]
 have hsf:=hI.sf
 unfold jN
 rw[hst,hb]
 by_cases hf:e.off<p.start∨p.fin<e.off
 ·rw[if_pos hf,if_pos hf]
 ·rw[if_neg hf,if_neg hf]
  dsimp only
  rw[if_neg (by omega)]
  show some { p with start:=e.off,fin:=p.fin,prods:=p.prods,rows:=lY e.off (p.rows++[]) }=_
  rw[List.append_nil,aF1 _ _ hI.rise]
  rfl
theorem aGu {p:PartD} {e:EntD} (hI:RowsI p) (ho:p.opens=[]) (hm:aL e=true) (hk:e.kind=6):jN p e=match kF p e with
  | some t=>if 1048576<t.fin then none else some t
  | none=>none:=by
 have hst:cG (eN p) e=some { eN p with prods:=dV p.prods e.prod }:=by
  unfold cG
  rw[if_neg (by rw[hm];simp),if_neg (by omega),if_neg (by omega),if_neg (by omega),if_neg (by omega),if_neg (by omega),if_neg (by omega)]
  rfl
 have hb:kF p e=some { p with prods:=dV p.prods e.prod }:=by
  unfold kF;rw[if_neg (by omega),if_neg (by omega),if_pos hk,ho]
  rfl
 have hsf:=hI.sf
 unfold jN
 rw[hst,hb]
 dsimp only
 rw[if_neg (by omega)]
 show some { p with start:=p.start,fin:=p.fin,prods:=dV p.prods e.prod,rows:=lY p.start (p.rows++[]) }=_
 rw[List.append_nil,aCe _ _ hI.ge]
theorem aMi {l:List ProdD} {b:BatD} {n:Int} (hn : -1≤n∧n≤1048576):(aG l b n).2≠0 ↔ ((aP l b).2.2≠0∨(aP l b).2.1=true):=by
 have hr:(decide (n < -1) || decide (1048576<n))=false:=by simp;omega
 unfold aG
 rw[if_neg (by rw[hr];exact Bool.false_ne_true)]
 by_cases h1:(aP l b).2.2≠0
 ·rw[if_pos h1];exact⟨fun _=>.inl h1,fun _=>h1⟩
 ·rw[if_neg h1]
  cases h2:(aP l b).2.1 with
  | true=>exact⟨fun _=>.inr rfl,fun _=>by simp⟩
  | false=>exact⟨fun h=>absurd rfl h,fun h=>by rcases h with h|h;exact absurd h h1;cases h⟩
theorem aGt {p:PartD} {e:EntD} (hI:RowsI p) (ho:p.opens=[]) (hm:aL e=true) (hb:e.b.recs.length≤4) (hk:e.kind=0) (ht:e.b.txn=false):jN p e=match jA p e.b with
  | some t=>if 1048576<t.fin then none else some t
  | none=>none:=by
 have hsf:=hI.sf
 have hst:cG (eN p) e=kM (eN p) e.b:=by
  unfold cG
  rw[if_neg (by rw[hm];simp),if_pos hk]
 have hz:=aMi (l:=p.prods) (b:=e.b) (n:=p.fin) (by omega)
 have hd:kM (eN p) e.b=if (aP p.prods e.b).2.2≠0∨(aP p.prods e.b).2.1=true then none else
   if 1048576<p.fin+(e.b.recs.length:Int) then none else some { eN p with prods:=(aG p.prods e.b p.fin).1,rows:=cS e.b p.fin,fin:=p.fin+(e.b.recs.length:Int) }:=by
  unfold kM
  have e1:bL (eN p).opens e.b.pid=false:=rfl
  rw[e1]
  show (if _ then none else if e.b.txn=false then _ else _)=_
  rw[if_pos ht]
  rfl
 have hp:jA p e.b=if (aG p.prods e.b p.fin).2≠0 then none else some { p with prods:=(aG p.prods e.b p.fin).1,rows:=p.rows++cS e.b p.fin,fin:=p.fin+(e.b.recs.length:Int) }:=by
  unfold jA
  have e1:bL p.opens e.b.pid=false:=by rw[ho];rfl
  rw[e1,ht]
  by_cases h:(aG p.prods e.b p.fin).2≠0
  ·rw[if_pos h,if_pos (.inr (.inr h))]
  ·rw[if_neg h,if_neg (by rintro (q|q|q);exact absurd q (by simp);exact absurd q (by simp);exact h q)]
 unfold jN
 rw[hst,hd,hp]
 by_cases h:(aG p.prods e.b p.fin).2≠0
 ·rw[if_pos (hz.1 h),if_pos h]
 ·rw[if_neg (fun q=>h (hz.2 q)),if_neg h]
  dsimp only
  by_cases hf:1048576<p.fin+(e.b.recs.length:Int)
  ·rw[if_pos hf,if_pos hf]
  ·rw[if_neg hf,if_neg hf]
   show some { p with start:=p.start,fin:=p.fin+(e.b.recs.length:Int),prods:=(aG p.prods e.b p.fin).1,rows:=lY p.start (p.rows++cS e.b p.fin) }=_
   rw[aCe]
   intro r hr
   rcases List.mem_append.1 hr with q|q
   ·exact hI.ge r q
   ·have:=(aQ2 ⟨by omega,by omega⟩ (by omega) r q).1;omega
def yO (r:Bool × RefS):Option (PartD × eE):=if r.1=false then none else if 1048576<r.2.p.fin then none else some (r.2.p,r.2.w)
theorem aKt (s:RefS) (e:EntD) (hfin:s.p.fin≤1048576) (hc:(aF s.p (dG s.w e.b.pid++[e.b])).1=true→lN (aF s.p (dG s.w e.b.pid++[e.b])).2.prods e.b.pid=eP (aF s.p (dG s.w e.b.pid++[e.b])).2.prods e.b.pid) :
  pP s.p s.w e=yO (lA s e):=by
 unfold pP lA yO
 by_cases h1:kA (dG s.w e.b.pid) e.b=true
 ·rw[if_pos h1,if_pos h1];rfl
 rw[if_neg h1,if_neg h1]
 by_cases h2:e.yes=false
 ·rw[if_pos h2,if_pos h2]
  dsimp only
  rw[if_neg (by simp),if_neg (by omega),zN]
 rw[if_neg h2,if_neg h2]
 by_cases h3:e.next≠eB e.b
 ·rw[if_pos h3,if_pos h3];rfl
 rw[if_neg h3,if_neg h3]
 by_cases h4:(aF s.p (dG s.w e.b.pid++[e.b])).1=false
 ·rw[if_pos h4,if_pos h4];rfl
 rw[if_neg h4,if_neg h4]
 dsimp only
 rw[if_neg (show ¬ (true=false) by simp),zX,hc (by simpa using h4)]
theorem aI7 (s:RefS) (e:EntD) (hfin:s.p.fin≤1048576):(if iP s.p e=true then none else some (uW s.p e,cU s.w e.b.pid))=yO (kI s e):=by
 unfold kI yO
 by_cases h:iP s.p e=true
 ·rw[if_pos h,if_pos h];rfl
 ·rw[if_neg h,if_neg h]
  dsimp only
  rw[if_neg (show ¬ (true=false) by simp),if_neg (show ¬ 1048576<(uW s.p e).fin by unfold uW;dsimp only;omega),aHh]
theorem yT {p:PartD} {l:List BatD} {b:BatD} (pid:Int) (h:(aF p (l++[b])).1=true):lN (aF p (l++[b])).2.prods pid=eP (aF p (l++[b])).2.prods pid:=by
 refine aOm pid ?_
 rw[qG] at h ⊢
 by_cases h1:(aF p l).1=true
 ·rw[if_pos h1] at h ⊢
  by_cases h2:(aG (aF p l).2.prods b (-1)).2≠0
  ·have:aF (aF p l).2 [b]=(false,(aF p l).2):=by show (if _ then _ else _)=_;rw[if_pos h2]
   rw[this] at h;cases h
  ·have:aF (aF p l).2 [b]=(true,iX (aF p l).2 b):=by show (if _ then _ else _)=_;rw[if_neg h2];rfl
   rw[this]
   exact rY (by simpa using h2)
 ·rw[if_neg h1] at h
  exact absurd h h1
theorem vJ (s:RefS) (e:EntD) (hI:RowsI s.p) (ho:s.p.opens=[]) :
  yL s.p s.w e=(bF s e).map (fun t=>(t.p,t.w)):=by
 have hfin:=hI.sf
 have hl:(bF s e).map (fun t=>(t.p,t.w))=if aL e=false then none else yO (iW s e):=by
  unfold bF yO
  by_cases h0:aL e=false
  ·rw[if_pos h0,if_pos h0];rfl
  rw[if_neg h0,if_neg h0]
  by_cases h1:(iW s e).1=false
  ·rw[if_pos h1,if_pos h1];rfl
  rw[if_neg h1,if_neg h1]
  by_cases h2:1048576<(iW s e).2.p.fin
  ·rw[if_pos h2,if_pos h2];rfl
  ·rw[if_neg h2,if_neg h2];rfl
 rw[hl]
 unfold yL
 by_cases h0:aL e=false
 ·rw[if_pos h0,if_pos h0]
 rw[if_neg h0,if_neg h0]
 have hm:aL e=true:=by simpa using h0
 have hrg:=vK hm
 unfold iW
 by_cases k3:e.kind=3
 ·rw[if_pos k3,if_neg (show ¬ e.kind=0 by omega),if_pos k3];exact aKt s e (by omega) (yT _)
 rw[if_neg k3]
 by_cases k4:e.kind=4
 ·rw[if_pos k4,if_neg (show ¬ e.kind=0 by omega),if_neg k3,if_pos k4];exact aI7 s e (by omega)
 rw[if_neg k4]
 have key:∀ o:Option PartD,jN s.p e=(match o with
   | some t=>if 1048576<t.fin then none else some t
   | none=>none)→(match jN s.p e with
   | some q=>some (q,s.w)
   | none=>none)=yO (match o with
   | some q=>(true,⟨q,s.w,s.v⟩)
   | none=>(false,s)):=fun o h=>by
  rw[h]
  cases o with
  | none=>rfl
  | some t =>
   unfold yO
   dsimp only
   rw[if_neg (show ¬ (true=false) by simp)]
   by_cases q:1048576<t.fin
   ·rw[if_pos q,if_pos q]
   ·rw[if_neg q,if_neg q]
 by_cases k1:e.kind=1
 ·rw[if_pos k1,if_neg (show ¬ e.kind=0 by omega),if_neg k3,if_neg k4]
  have:kF s.p e=none:=by unfold kF;rw[if_neg (by omega),if_neg (by omega),if_neg (by omega)]
  rw[this];rfl
 rw[if_neg k1]
 by_cases k0:e.kind=0
 ·rw[if_pos k0]
  cases ht:e.b.txn with
  | true =>
   rw[if_pos ⟨k0,rfl⟩]
   have:jA s.p e.b=none:=by unfold jA;rw[if_pos (.inr (.inl ht))]
   rw[this];rfl
  | false =>
   rw[if_neg (by rintro⟨_,q⟩;cases q)]
   exact key _ (aGt hI ho hm (jZ hm).1 k0 ht)
 rw[if_neg k0,if_neg (by rintro⟨q,_⟩;exact k0 q),if_neg k3,if_neg k4]
 have hk:e.kind=2∨e.kind=5∨e.kind=6:=by omega
 rcases hk with hk|hk|hk
 ·exact key _ (aM6 hI hm hk)
 ·exact key _ (aM7 hI hm hk)
 ·exact key _ (aGu hI ho hm hk)
structure RowsJ (p:PartD) (m:Int):Prop where
 rise:p.rows.Pairwise (fun a b=>a.off≤b.off)
 ge:∀ r ∈ p.rows,p.start≤r.off
 lt:∀ r ∈ p.rows,r.off<p.fin
 sf:0≤p.start∧p.start≤p.fin∧p.fin≤m
theorem RowsI.j {p:PartD} (h:RowsI p):RowsJ p 1048576:=⟨h.rise,h.ge,h.lt,h.sf⟩
theorem RowsJ.i {p:PartD} {m:Int} (h:RowsJ p m) (hf:p.fin≤1048576):RowsI p:=⟨h.rise,h.ge,h.lt,h.sf.1,h.sf.2.1,hf⟩
theorem sQ {b:BatD} {n:Int} {i:Nat} (hn:0≤n∧n≤2000000) (hb:b.recs.length≤100000) (hi:i<b.recs.length):(qN b n i).off=n+i:=by
 unfold qN
 rw[List.getElem?_eq_getElem hi]
 dsimp only
 rw[if_neg (by omega),bA (by omega)]
theorem aM3 {b:BatD} {n:Int} (hn:0≤n∧n≤2000000) (hb:b.recs.length≤100000):(cS b n).Pairwise (fun a b=>a.off≤b.off):=by
 unfold cS nX
 rw[List.pairwise_map]
 refine List.Pairwise.imp_of_mem (R:=fun i j:Nat=>i<j) (fun {i j} hi hj hij=>?_) List.pairwise_lt_range
 have hi:=List.mem_range.1 hi
 have hj:=List.mem_range.1 hj
 rw[sQ hn hb hi,sQ hn hb hj];omega
theorem aSw {b:BatD} {n:Int} (hn:0≤n∧n≤2000000) (hb:b.recs.length≤100000):∀ r ∈ cS b n,n≤r.off∧r.off<n+(b.recs.length:Int):=by
 intro r hr
 unfold cS nX at hr
 obtain⟨i,hi,rfl⟩:=List.mem_map.1 hr
 have hi:=List.mem_range.1 hi
 rw[sQ hn hb hi];omega
theorem aJn {p q:PartD} {m:Int} {b:BatD} (h:RowsJ p m) (hm:m≤2000000) (hb:b.recs.length≤4) (h1:q.start=p.start) (h2:q.rows=p.rows++cS b p.fin) (h3:q.fin=p.fin+(b.recs.length:Int)):RowsJ q (m+4):=by
 have hsf:=h.sf
 have hin:=aSw (b:=b) (n:=p.fin) ⟨by omega,by omega⟩ (by omega)
 refine⟨?_,?_,?_,by omega⟩
 ·rw[h2,List.pairwise_append]
  refine⟨h.rise,aM3 ⟨by omega,by omega⟩ (by omega),fun a ha c hc=>?_⟩
  have:=h.lt a ha
  have:=(hin c hc).1
  omega
 ·intro r hr
  rw[h2] at hr
  rcases List.mem_append.1 hr with q|q
  ·have:=h.ge r q;omega
  ·have:=(hin r q).1;omega
 ·intro r hr
  rw[h2] at hr
  rcases List.mem_append.1 hr with q|q
  ·have:=h.lt r q;omega
  ·have:=(hin r q).2;omega
theorem aCd:∀ (l:List BatD) (p:PartD) (m:Int),RowsJ p m→m+4*l.length≤2000000→(∀ b ∈ l,b.recs.length≤4)→RowsJ (aF p l).2 (m+4*l.length)
 | [],p,m,h,_,_=>by simpa [aF] using h
 | b::l,p,m,h,hm,hb=>by
  have hl:((b::l).length:Int)=l.length+1:=by simp
  rw[hl] at hm ⊢
  by_cases h0:(aG p.prods b (-1)).2≠0
  ·have:aF p (b::l)=(false,p):=by show (if _ then _ else _)=_;rw[if_pos h0]
   rw[this]
   exact⟨h.rise,h.ge,h.lt,h.sf.1,h.sf.2.1,by have:=h.sf.2.2;dsimp only;omega⟩
  ·have:aF p (b::l)=aF (iX p b) l:=by show (if _ then _ else _)=_;rw[if_neg h0]
   rw[this]
   have:=aCd l (iX p b) (m+4) (aJn h (by omega) (hb b (List.mem_cons_self ..)) rfl rfl rfl) (by omega) (fun c hc=>hb c (List.mem_cons_of_mem _ hc))
   exact⟨this.rise,this.ge,this.lt,this.sf.1,this.sf.2.1,by have:=this.sf.2.2;omega⟩
theorem yU:∀ (l:List BatD) (p:PartD),(aF p l).2.opens=p.opens
 | [],p=>rfl
 | b::l,p=>by
  by_cases h0:(aG p.prods b (-1)).2≠0
  ·have:aF p (b::l)=(false,p):=by show (if _ then _ else _)=_;rw[if_pos h0]
   rw[this]
  ·have:aF p (b::l)=aF (iX p b) l:=by show (if _ then _ else _)=_;rw[if_neg h0]
   rw[this,yU l];rfl
theorem RowsJ.mono {p q:PartD} {m:Int} (h:RowsJ p m) (h1:q.start=p.start) (h2:q.rows=p.rows) (h3:q.fin=p.fin):RowsJ q m :=
 ⟨by rw[h2];exact h.rise,by rw[h1,h2];exact h.ge,by rw[h2,h3];exact h.lt,by rw[h1,h3];exact h.sf⟩
theorem aQ3 {s t:RefS} {e:EntD} (h:RowsI s.p) (ho:s.p.opens=[]) (hl:(dG s.w e.b.pid).length≤8) (hr:∀ b ∈ dG s.w e.b.pid,b.recs.length≤4) (hs:bF s e=some t):RowsI t.p∧t.p.opens=[]:=by
 unfold bF at hs
 split at hs
 ·cases hs
 rename_i hm
 have hm:aL e=true:=by simpa using hm
 have hb4:=(jZ hm).1
 split at hs
 ·cases hs
 rename_i hok
 split at hs
 ·cases hs
 rename_i hfin
 cases hs
 suffices key:∃ m,RowsJ (iW s e).2.p m∧(iW s e).2.p.opens=[] by
  obtain⟨m,k1,k2⟩:=key
  exact⟨k1.i (by omega),k2⟩
 have hj:=h.j
 unfold iW at hok ⊢
 by_cases k0:e.kind=0
 ·rw[if_pos k0] at hok ⊢
  unfold jA at hok ⊢
  split at hok
  ·rename_i q hq
   split at hq
   ·cases hq
   ·rename_i hn
    cases hq
    exact⟨1048576+4,aJn hj (by omega) hb4 rfl rfl rfl,ho⟩
  ·exact absurd rfl hok
 rw[if_neg k0] at hok ⊢
 by_cases k3:e.kind=3
 ·rw[if_pos k3] at hok ⊢
  have hj2:=aCd (dG s.w e.b.pid++[e.b]) s.p 1048576 hj (by rw[List.length_append];simp;omega) (fun b hbm=>by
   rcases List.mem_append.1 hbm with q|q
   ·exact hr b q
   ·simp at q;subst q;exact hb4)
  have ho2:=(yU (dG s.w e.b.pid++[e.b]) s.p).trans ho
  unfold lA
  split
  ·exact⟨_,hj,ho⟩
  split
  ·exact⟨_,hj,ho⟩
  split
  ·exact⟨_,hj,ho⟩
  split
  ·exact⟨_,hj2,ho2⟩
  ·exact⟨_,hj2.mono rfl rfl rfl,ho2⟩
 rw[if_neg k3] at hok ⊢
 by_cases k4:e.kind=4
 ·rw[if_pos k4] at hok ⊢
  unfold kI
  split
  ·exact⟨_,hj,ho⟩
  ·exact⟨_,hj.mono rfl rfl rfl,ho⟩
 rw[if_neg k4] at hok ⊢
 unfold kF at hok ⊢
 by_cases k2:e.kind=2
 ·rw[if_pos k2] at hok ⊢
  split
  ·rename_i q hq
   split at hq
   ·cases hq
   ·rename_i hn
    cases hq
    refine⟨1048576,⟨h.rise.filter _,fun r hr=>?_,fun r hr=>h.lt r (List.mem_filter.1 hr).1,by dsimp only;have:=h.sf;omega⟩,ho⟩
    have:=(List.mem_filter.1 hr).2
    simp[nJ] at this
    exact this
  ·exact⟨_,hj,ho⟩
 rw[if_neg k2] at hok ⊢
 by_cases k5:e.kind=5
 ·rw[if_pos k5]
  have hsf:=h.sf
  refine⟨1048577,⟨?_,fun r hr=>?_,fun r hr=>?_,by dsimp only;omega⟩,ho⟩
  ·show (s.p.rows++[_]).Pairwise _
   rw[List.pairwise_append]
   refine⟨h.rise,by simp,fun a ha c hc=>?_⟩
   simp at hc;subst hc
   have:=h.lt a ha
   dsimp only;omega
  ·rcases List.mem_append.1 hr with q|q
   ·exact h.ge r q
   ·simp at q;subst q;exact hsf.2.1
  ·rcases List.mem_append.1 hr with q|q
   ·have:=h.lt r q;dsimp only;omega
   ·simp at q;subst q;dsimp only;omega
 rw[if_neg k5] at hok ⊢
 by_cases k6:e.kind=6
 ·rw[if_pos k6]
  split
  ·rename_i q hq
   split at hq
   ·cases hq
   ·cases hq;exact⟨_,hj.mono rfl rfl rfl,ho⟩
  ·exact⟨_,hj,ho⟩
 rw[if_neg k6]
 exact⟨_,hj,ho⟩
theorem aVq {w:eE} (h:OkW w) {pid:Int} (hp:1≤pid∧pid≤8) {l:List BatD} (hl:l.length≤8) (hr:∀ b ∈ l,b.recs.length≤4):OkW (gG w pid l):=by
 have hm:∀ x ∈ gG w pid l,x ∈ w∨x.2=l:=fun x hx=>by
  unfold gG at hx
  split at hx
  ·rcases List.mem_or_eq_of_mem_set hx with q|q
   ·exact .inl q
   ·subst q;exact .inr rfl
  ·rcases List.mem_append.1 hx with q|q
   ·exact .inl q
   ·simp at q;subst q;exact .inr rfl
 refine⟨aGj h.pid hp l,?_,fun x hx=>?_,fun x hx b hb=>?_⟩
 ·have e:=zO w pid l
  unfold pG at e
  rw[e]
  split
  ·exact h.nd
  ·rename_i hk
   have hno:=lT (w:=w) (pid:=pid) (by simpa using hk)
   rw[List.nodup_append]
   exact⟨h.nd,by simp,fun a ha b hb e2=>by simp at hb;subst hb;subst e2;exact hno ha⟩
 ·rcases hm x hx with q|q
  ·exact h.bats x q
  ·rw[q];exact hl
 ·rcases hm x hx with q|q
  ·exact h.recs x q b hb
  ·rw[q] at hb;exact hr b hb
theorem aBc {w:eE} (h:OkW w) (pid:Int):OkW (cU w pid):=by
 unfold cU
 split
 ·have hs:=List.eraseIdx_sublist w (wI w pid)
  exact⟨fun x hx=>h.pid x (hs.mem hx),h.nd.sublist (hs.map _),fun x hx=>h.bats x (hs.mem hx),fun x hx=>h.recs x (hs.mem hx)⟩
 ·exact h
theorem aS4 {w:eE} (h:OkW w) (pid:Int):(dG w pid).length≤8∧∀ b ∈ dG w pid,b.recs.length≤4:=by
 unfold dG
 cases hq:w[wI w pid]? with
 | none=>exact⟨by simp,fun b hb=>by simp at hb⟩
 | some x =>
  have hm:=List.mem_of_getElem? hq
  exact⟨h.bats x hm,h.recs x hm⟩
theorem aS5 {p q:PartD} {w u:eE} {e:EntD} (h:OkW w) (hn:yL p w e=some (q,u)):OkW u:=by
 unfold yL at hn
 split at hn
 ·cases hn
 rename_i hm
 have hm:aL e=true:=by simpa using hm
 split at hn
 ·rename_i k3
  obtain⟨hp,hb⟩:=oL (uV hm k3)
  obtain⟨a1,a2⟩:=aS4 h e.b.pid
  unfold pP at hn
  split at hn
  ·cases hn
  rename_i hbad
  have hl:=aFf (l:=dG w e.b.pid) (b:=e.b) (by simpa using hbad)
  have hput:=aVq h hp (l:=dG w e.b.pid++[e.b]) (by rw[List.length_append];simp;omega) (fun b hbm=>by
   rcases List.mem_append.1 hbm with q|q
   ·exact a2 b q
   ·simp at q;subst q;exact hb)
  split at hn
  ·cases hn;exact hput
  split at hn
  ·cases hn
  split at hn
  ·cases hn
  split at hn
  ·cases hn
  cases hn
  exact aBc hput _
 split at hn
 ·split at hn
  ·cases hn
  ·cases hn;exact aBc h _
 split at hn
 ·cases hn
 split at hn
 ·cases hn
 split at hn
 ·cases hn;exact h
 ·cases hn
end Go.Proofs.YtpklhnpchhaccaaGreatDoor
