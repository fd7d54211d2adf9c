/- Bare images,plain: a bare image's bare image is it. -/
import Derived.Test.YtkmfmphpndhkjaaGreatDoorImA
namespace Go.Proofs.YtkmfmphpndhkjaaGreatDoor
open Go Go.RowKit
set_option maxHeartbeats 4000000
set_option maxRecDepth 100000
set_option linter.unusedVariables false
set_option linter.unusedSimpArgs false
def cX (l:List RowD):List RowD:=l.mapIdx (fun k r=>{ r with off:=(k:Int) })
def iL (p:PartD):PartD:=⟨0,p.rows.length,cX p.rows,p.opens,p.prods⟩
def aZ (p:PartD):TabD:=vY p (iL p)
def jT (p:PartD) (n:Int):Int × Int:=cB (aZ p) n
def jY (p:PartD) (s:SeenD):SeenD:={ s with base:=(jT p s.base).1 }
def rT (p:PartD) (s:SeenD):Bool:=(jT p s.base).2 == 0
def eP (p:PartD) (q:ProdD):ProdD:={ q with seen:=q.seen.map (jY p) }
def oK (p:PartD) (q:ProdD):Bool:=q.seen.all (rT p)
def aP (p:PartD):PartD:=⟨0,p.rows.length,cX p.rows,p.opens,p.prods.map (eP p)⟩
def fQ (p:PartD):Bool:=p.prods.all (oK p)
def nJ (i:ImgD) (x:PendD):PendD:={ x with off:=(jT (i.p x.part.toNat) x.off).1 }
def nT (i:ImgD) (x:PendD):Bool:=(jT (i.p x.part.toNat) x.off).2 == 0
def hU (i:ImgD) (c:CoordD):CoordD:={ c with pends:=c.pends.map (nJ i) }
def nX (i:ImgD):Bool:=i.m.c0.pends.all (nT i) && (i.m.c1.pends.all (nT i) && i.m.c2.pends.all (nT i))
def sQ (i:ImgD):GrpD:=⟨(jT i.p0 i.m.gr.a0).1,(jT i.p1 i.m.gr.a1).1,(jT i.p2 i.m.gr.a2).1,(jT i.p0 i.m.gr.b0).1,(jT i.p1 i.m.gr.b1).1,(jT i.p2 i.m.gr.b2).1⟩
def rF (p:PartD) (n:Int):Bool:=(jT p n).2 == 0
def kF (i:ImgD):Bool:=(rF i.p0 i.m.gr.a0 && (rF i.p1 i.m.gr.a1 && rF i.p2 i.m.gr.a2)) && (rF i.p0 i.m.gr.b0 && (rF i.p1 i.m.gr.b1 && rF i.p2 i.m.gr.b2))
def bM (i:ImgD):ImgD:=⟨0,aP i.p0,aP i.p1,aP i.p2,⟨i.m.made,hU i i.m.c0,hU i i.m.c1,hU i i.m.c2,sQ i⟩⟩
def eT (i:ImgD):Bool:=aS i && ((fQ i.p0 && (fQ i.p1 && fQ i.p2)) && (nX i && kF i))
def kS (i:ImgD):ImgD × Int:=if eT i then (bM i,0) else (iz,2)
theorem cY (l:List RowD):(cX l).length=l.length:=by simp[cX]
theorem dP (l:List RowD) (k:Nat):(cX l)[k]? = l[k]?.map (fun r=>{ r with off:=(k:Int) }):=by simp[cX]
theorem mV (l:List RowD) (k:Nat) (h:k<(cX l).length):(cX l)[k].off=k:=by simp[cX]
theorem aFp:∀ (l:List Int),(∀ (i:Nat) (h:i+1<l.length),l[i]<l[i+1])→eH l=true
 | [],_=>rfl
 | [a],_=>rfl
 | a::b::l,h=>by
  have h0:=h 0 (by simp)
  simp only[List.getElem_cons_zero,List.getElem_cons_succ] at h0
  simp only[eH,Bool.and_eq_true,decide_eq_true_eq]
  exact⟨h0,aFp (b::l) (fun i hi=>by have:=h (i+1) (by simpa using hi);simpa using this)⟩
theorem aIg {p:PartD} (h1:0≤p.start) (h2:p.start≤p.fin) (h3:p.fin≤1048576) (h4:eH (p.rows.map (·.off))=true) (h5:∀ r ∈ p.rows,p.start≤r.off∧r.off<p.fin) (h6:eH (p.opens.map (·.pid))=true) (h7:p.opens.any (fun o=>o.bats == [])=false):bB p=true:=by
 have hr:eG p=false:=by
  simp only[eG,Bool.or_eq_false_iff,decide_eq_false_iff_not];omega
 have he:gQ p=false:=by
  unfold gQ
  cases ha:p.rows.head? with
  | none=>rfl
  | some a =>
   cases hb:p.rows.getLast? with
   | none=>rfl
   | some b =>
    have q1:=h5 a (List.mem_of_head? ha)
    have q2:=h5 b (List.mem_of_getLast? hb)
    simp only[Bool.or_eq_false_iff,decide_eq_false_iff_not];omega
 simp only[bB,hr,h4,he,h6,h7];rfl
theorem yF {p:PartD} (h:bB p=true):eH (p.opens.map (·.pid))=true∧p.opens.any (fun o=>o.bats == [])=false:=by
 simp only[bB,Bool.and_eq_true,Bool.not_eq_true'] at h
 exact⟨h.1.2,h.2⟩
theorem aLa {p:PartD} (h:bB p=true) (hl:p.rows.length≤1048576):bB (iL p)=true:=by
 obtain⟨h6,h7⟩:=yF h
 refine aIg (Int.le_refl 0) (by simp[iL]) (by simp only[iL];omega) (aFp _ (fun i hi=>?_)) (fun r hr=>?_) h6 h7
 ·simp only[iL,List.getElem_map]
  rw[mV,mV];omega
 ·obtain⟨k,hk⟩:=List.mem_iff_getElem?.1 hr
  simp only[iL,dP,Option.map_eq_some_iff] at hk
  obtain⟨x,hx,rfl⟩:=hk
  have:=(List.getElem?_eq_some_iff.1 hx).1
  simp only[iL];omega
theorem xU {p:PartD} (h:bB p=true) (hl:p.rows.length≤1048576):mM p (iL p)=true:=by
 unfold mM
 rw[h,aLa h hl]
 simp[iL,cY]
theorem aKk (p:PartD) (n:Int):nR p (iL p) n=(dQ p n:Int):=by
 unfold nR
 simp only[iL,dP]
 have hle:=yZ p n
 cases hq:p.rows[dQ p n]? with
 | none =>
  have:=List.getElem?_eq_none_iff.1 hq
  simp only[Option.map_none];omega
 | some r=>rfl
theorem aA9 {p:PartD} (h:bB p=true) {n:Int} (hn:n≤p.start):dQ p n=0:=by
 unfold dQ
 cases hq:p.rows with
 | nil=>rfl
 | cons a l =>
  have:=oW h a (by rw[hq];simp)
  rw[List.findIdx_cons]
  have:decide (n≤a.off)=true:=by simp only[decide_eq_true_eq];omega
  rw[this];rfl
theorem uF {p:PartD} (h:bB p=true) (hl:p.rows.length≤1048576) (n:Int):jT p n=if n == -1 then (-1,0) else if decide (n < -1) || decide (p.fin<n) then (0,130) else ((dQ p n:Int),0):=by
 have hm:=xU h hl
 obtain⟨g1,g2,g3⟩:=jI h
 unfold jT cB aZ
 rw[aR9 hm]
 simp only[Bool.not_true,Bool.false_eq_true,if_false]
 split
 ·rfl
 ·split
  ·rename_i h1 h2
   have:(decide (n < -1) || decide (p.fin<n))=true:=h2
   rw[if_pos this]
  ·rename_i h1 h2
   have h3:¬ (decide (n < -1) || decide (p.fin<n))=true:=h2
   rw[if_neg h3]
   simp only[Bool.or_eq_true,decide_eq_true_eq,not_or,beq_iff_eq] at h1 h3
   have hlt:(n - p.start).toNat<(p.fin - p.start+1).toNat:=by omega
   have e:=sH (old:=p) (fresh:=iL p) hlt
   simp only[vY,List.getD_eq_getElem?_getD,e,Option.getD_some,aKk]
   congr 2
   rcases Int.le_total n p.start with h4|h4
   ·rw[aA9 h h4,aA9 h (by omega)]
   ·congr 1;omega
theorem aFv {p:PartD} (h:bB p=true) (hl:p.rows.length≤1048576) {n:Int} (ho:(jT p n).2=0):n = -1∨(0≤n∧n≤p.fin∧(jT p n).1=(dQ p n:Int)):=by
 rw[uF h hl] at ho ⊢
 by_cases h1:(n == -1)=true
 ·left;simpa using h1
 ·right
  rw[if_neg h1] at ho ⊢
  by_cases h2:(decide (n < -1) || decide (p.fin<n))=true
  ·rw[if_pos h2] at ho;simp at ho
  ·rw[if_neg h2]
   simp only[Bool.or_eq_true,decide_eq_true_eq,not_or,beq_iff_eq] at h1 h2
   exact⟨by omega,by omega,rfl⟩
theorem vZ {p:PartD} (h:bB p=true) (hl:p.rows.length≤1048576) (n:Int) : -1≤(jT p n).1∧(jT p n).1≤p.rows.length∧(0≤n→0≤(jT p n).1):=by
 have:=yZ p n
 rw[uF h hl]
 split
 ·rename_i h1;simp only[beq_iff_eq] at h1;refine⟨by simp,by simp only;omega,fun h=>by omega⟩
 ·split
  ·exact⟨by simp,by simp,fun _=>by simp⟩
  ·exact⟨by simp only;omega,by simp only;omega,fun _=>by simp only;omega⟩
theorem aEu (l:List RowD) (n:Nat) (hn:n≤l.length):(cX l).findIdx (fun r=>decide ((n:Int)≤r.off))=n:=by
 rcases Nat.lt_or_ge n l.length with h|h
 ·rw[List.findIdx_eq (by rw[cY];exact h)]
  refine⟨by rw[mV];simp,fun j hj=>?_⟩
  rw[mV]
  simp only[decide_eq_false_iff_not];omega
 ·have hn2:n=l.length:=by omega
  rw[List.findIdx_eq_length_of_false,cY,hn2]
  intro r hr
  obtain⟨k,hk⟩:=List.mem_iff_getElem?.1 hr
  rw[dP,Option.map_eq_some_iff] at hk
  obtain⟨x,hx,rfl⟩:=hk
  have:=(List.getElem?_eq_some_iff.1 hx).1
  simp only[decide_eq_false_iff_not];omega
theorem zN {p:PartD} (h:bB p=true) (hl:p.rows.length≤1048576):bB (aP p)=true:=aLa h hl
theorem aIz {p:PartD} (h:bB p=true) (hl:p.rows.length≤1048576) {n:Int} (h1 : -1≤n) (h2:n≤p.rows.length):jT (aP p) n=(n,0):=by
 rw[uF (zN h hl) (by simp only[aP,cY];exact hl)]
 by_cases h3:(n == -1)=true
 ·rw[if_pos h3];simp only[beq_iff_eq] at h3;rw[h3]
 ·rw[if_neg h3]
  simp only[beq_iff_eq] at h3
  have h4:¬ (decide (n < -1) || decide ((aP p).fin<n))=true:=by
   rw[Bool.not_eq_true,Bool.or_eq_false_iff,decide_eq_false_iff_not,decide_eq_false_iff_not]
   show ¬ n < -1∧¬ ((p.rows.length:Nat):Int)<n
   omega
  rw[if_neg h4]
  have:=aEu p.rows n.toNat (by omega)
  have e:((n.toNat:Nat):Int)=n:=by omega
  rw[e] at this
  unfold dQ
  simp only[aP,this,e]
theorem aHw (l:List RowD):cX (cX l)=cX l:=by
 apply List.ext_getElem?
 intro k
 rw[dP,dP]
 cases l[k]?<;>rfl
theorem sS {p:PartD} (h:bB p=true) (hl:p.rows.length≤1048576) (s:SeenD):jY (aP p) (jY p s)=jY p s∧rT (aP p) (jY p s)=true:=by
 obtain⟨h1,h2,_⟩:=vZ h hl s.base
 have:=aIz h hl h1 h2
 constructor
 ·show SeenD.mk s.seq s.count (jT (aP p) (jT p s.base).1).1=SeenD.mk s.seq s.count (jT p s.base).1
  rw[this]
 ·show ((jT (aP p) (jT p s.base).1).2 == 0)=true
  rw[this];rfl
theorem sR {p:PartD} (h:bB p=true) (hl:p.rows.length≤1048576) (q:ProdD):eP (aP p) (eP p q)=eP p q∧oK (aP p) (eP p q)=true:=by
 constructor
 ·simp only[eP,List.map_map]
  congr 1
  exact List.map_congr_left (fun s _=>(sS h hl s).1)
 ·simp only[oK,eP,List.all_map,List.all_eq_true]
  exact fun s _=>(sS h hl s).2
theorem oJ {p:PartD} (h:bB p=true) (hl:p.rows.length≤1048576):aP (aP p)=aP p∧fQ (aP p)=true:=by
 constructor
 ·have:(aP p).rows=cX p.rows:=rfl
  unfold aP at this ⊢
  simp only[aHw,cY,List.map_map,PartD.mk.injEq,true_and]
  exact List.map_congr_left (fun q _=>(sR h hl q).1)
 ·simp only[fQ,aP,List.all_map,List.all_eq_true]
  exact fun q _=>(sR h hl q).2
/-! bare parts may be -/
theorem aMw (p:PartD) (l:List ProdD) (pid:Int):(eI (l.map (eP p)) pid).2=(eI l pid).2∧(eI (l.map (eP p)) pid).1.epoch=(eI l pid).1.epoch∧(eI (l.map (eP p)) pid).1.next=(eI l pid).1.next:=by
 unfold eI
 rw[List.find?_map]
 have:((fun q:ProdD=>q.pid == pid) ∘ eP p)=fun q=>q.pid == pid:=rfl
 rw[this]
 cases l.find? (fun q=>q.pid == pid)<;>exact⟨rfl,rfl,rfl⟩
theorem aGo (f:SeenD→SeenD) (hs:∀ s,(f s).seq=s.seq∧(f s).count=s.count):∀ (l:List SeenD) (b:Int),(∀ s ∈ l,-1≤(f s).base∧(f s).base≤1048576)→mX l b=true→mX (l.map f) b=true
 | [],_,_,_=>rfl
 | s::l,b,hb,h=>by
  simp only[mX,List.map_cons,Bool.and_eq_true,Bool.not_eq_true',lE,Bool.or_eq_false_iff,zL,aE8,decide_eq_false_iff_not] at h ⊢
  have h0:=hb s (by simp)
  obtain⟨e1,e2⟩:=hs s
  rw[e1,e2]
  refine⟨⟨⟨⟨⟨h.1.1.1.1.1,h.1.1.1.1.2⟩,by omega⟩,by omega⟩,h.1.2⟩,aGo f hs l s.seq (fun x hx=>hb x (by simp[hx])) h.2⟩
theorem aDh {q:ProdD} {f:SeenD→SeenD} (hs:∀ s,(f s).seq=s.seq∧(f s).count=s.count) (hb:∀ s ∈ q.seen,-1≤(f s).base∧(f s).base≤1048576) (h:cM q=true):cM { q with seen:=q.seen.map f }=true:=by
 simp only[cM,gR,Bool.and_eq_true,List.length_map] at h ⊢
 refine⟨h.1,?_⟩
 rw[← List.map_reverse]
 exact aGo f hs _ _ (fun s hs=>hb s (by simpa using hs)) h.2
theorem aAs (f:ProdD→ProdD) (hp:∀ q,(f q).pid=q.pid):∀ (l:List ProdD) (b:Int),(∀ q ∈ l,cM q=true→cM (f q)=true)→aCg l b=true→aCg (l.map f) b=true
 | [],_,_,_=>rfl
 | q::l,b,hk,h=>by
  simp only[aCg,List.map_cons,Bool.and_eq_true,Bool.not_eq_true',Bool.or_eq_false_iff,Bool.not_eq_false'] at h ⊢
  rw[hp]
  refine⟨⟨h.1.1,hk q (by simp) (by simpa using h.1.2)⟩,aAs f hp l q.pid (fun x hx=>hk x (by simp[hx])) h.2⟩
theorem qT {p:PartD} (h:bE p=true) (hl:p.rows.length≤1048576):bE (aP p)=true:=by
 have hB:=dA h
 simp only[bE,Bool.and_eq_true] at h ⊢
 refine⟨⟨⟨zN hB hl,?_⟩,?_⟩,?_⟩
 ·have:=h.1.1.2
  rw[List.all_eq_true] at this ⊢
  intro r hr
  obtain⟨k,hk⟩:=List.mem_iff_getElem?.1 hr
  simp only[aP,dP,Option.map_eq_some_iff] at hk
  obtain⟨x,hx,rfl⟩:=hk
  exact this x (List.mem_of_getElem? hx)
 ·exact aAs (eP p) (fun _=>rfl) _ _ (fun q _ hk=>aDh (f:=jY p) (fun _=>⟨rfl,rfl⟩) (fun s _=>by have:=vZ hB hl s.base;exact⟨this.1,by simp only[jY];omega⟩) hk) h.1.2
 ·have:=h.2
  rw[List.all_eq_true] at this ⊢
  intro o ho
  have:=this o ho
  obtain⟨e1,e2,e3⟩:=aMw p p.prods o.pid
  simp only[cV,aP,e1,e2,e3] at this ⊢
  exact this
/-! a bare image may be -/
structure RowsOk (i:ImgD):Prop where
 h0:i.p0.rows.length≤1048576
 h1:i.p1.rows.length≤1048576
 h2:i.p2.rows.length≤1048576
theorem RowsOk.p {i:ImgD} (h:RowsOk i) (q:Nat):(i.p q).rows.length≤1048576:=by
 match q with
 | 0=>exact h.h0
 | 1=>exact h.h1
 | _+2=>exact h.h2
theorem aIn (f:PendD→PendD) (hf:∀ x,(f x).grp=x.grp∧(f x).part=x.part):∀ (l:List PendD),oL (l.map f)=oL l
 | []=>rfl
 | [a]=>rfl
 | a::b::l=>by
  have ih:=aIn f hf (b::l)
  simp only[List.map_cons] at ih ⊢
  simp only[oL,ih,iC,(hf a).1,(hf a).2,(hf b).1,(hf b).2]
theorem aHx {α β:Type} [DecidableEq α] [DecidableEq β] (f:α→β) (l:List α):(l.map f == [])=(l == []):=by cases l<;>rfl
theorem aHz {c:CoordD} {f:PendD→PendD} (hf:∀ x,(f x).grp=x.grp∧(f x).part=x.part) (hp:∀ x ∈ c.pends,dG x=true→dG (f x)=true) (h:fF c=true):fF { c with pends:=c.pends.map f }=true:=by
 unfold fF at h ⊢
 simp only at h ⊢
 split at h
 ·rename_i h0
  rw[if_pos h0]
  have e:c=cz:=by simpa using h
  subst e;rfl
 ·rename_i h0
  rw[if_neg h0]
  simp only[Bool.and_eq_true] at h ⊢
  refine⟨?_,?_⟩
  ·have:=h.1
   unfold lT at this ⊢
   simp only[aHx] at this ⊢
   exact this
  ·have:=h.2
   simp only[dK,Bool.and_eq_true,aIn f hf,List.all_map] at this ⊢
   refine⟨⟨⟨⟨⟨⟨?_,this.1.1.1.1.1.2⟩,this.1.1.1.1.2⟩,this.1.1.1.2⟩,this.1.1.2⟩,this.1.2⟩,this.2⟩
   have h1:=this.1.1.1.1.1.1
   rw[List.all_eq_true] at h1 ⊢
   exact fun x hx=>hp x hx (h1 x hx)
theorem wQ {i:ImgD} (hc:aS i=true) (hr:RowsOk i) {c:CoordD} (h:fF c=true):fF (hU i c)=true:=by
 refine aHz (fun _=>⟨rfl,rfl⟩) (fun x hx hp=>?_) h
 simp only[dG,aU,Bool.and_eq_true,decide_eq_true_eq] at hp ⊢
 have:=vZ (dA (bI hc x.part.toNat)) (hr.p _) x.off
 have:=hr.p x.part.toNat
 simp only[nJ]
 exact⟨hp.1,by omega,by omega⟩
theorem sF {i:ImgD} (hc:aS i=true) (hr:RowsOk i) (q:Nat) (n:Int):aHi (jT (i.p q) n).1=true:=by
 have:=vZ (dA (bI hc q)) (hr.p q) n
 have:=hr.p q
 simp only[aHi,aU,Bool.and_eq_true,decide_eq_true_eq];omega
theorem aIe {i j:ImgD} (h0:j.p0.opens=i.p0.opens) (h1:j.p1.opens=i.p1.opens) (h2:j.p2.opens=i.p2.opens) (hc:∀ k,(j.m.c k).pid=(i.m.c k).pid∧(j.m.c k).epoch=(i.m.c k).epoch∧(j.m.c k).parts=(i.m.c k).parts):nS j=nS i:=by
 have hf:∀ pid,nG j.m pid=nG i.m pid:=fun pid=>by
  unfold nG
  rw[show j.m.c0.pid=i.m.c0.pid from (hc 0).1,show j.m.c1.pid=i.m.c1.pid from (hc 1).1,show j.m.c2.pid=i.m.c2.pid from (hc 2).1]
 have ho:cH j=cH i:=by
  funext o;unfold cH;rw[hf,(hc _).2.1]
 have hw:∀ pid,aY j pid=aY i pid:=fun pid=>by
  unfold aY mY;rw[h0,h1,h2]
 have ht:∀ k,dD j k=dD i k:=fun k=>by
  unfold dD;rw[(hc k).1,(hc k).2.2,hw]
 unfold nS
 rw[ht,ht,ht,ho,h0,h1,h2]
theorem aRt (i:ImgD) (k:Nat):(bM i).m.c k=hU i (i.m.c k):=by
 match k with
 | 0=>rfl
 | 1=>rfl
 | _+2=>rfl
theorem aGb {i:ImgD} (hc:aS i=true) (hr:RowsOk i):aS (bM i)=true:=by
 have hq0:=bI hc 0
 have hq1:=bI hc 1
 have hq2:=bI hc 2
 have hc0:=hc
 simp only[aS,Bool.and_eq_true] at hc ⊢
 refine⟨⟨⟨rfl,?_⟩,qT hq0 hr.h0,qT hq1 hr.h1,qT hq2 hr.h2⟩,?_⟩
 ·have:=hc.1.1.2
  simp only[fG,Bool.and_eq_true,cOk] at this ⊢
  obtain⟨⟨h1,⟨⟨h2,h3⟩,h4⟩,⟨⟨h5,h6⟩,h7⟩,⟨⟨h8,h9⟩,h10⟩⟩,h11⟩:=this
  refine⟨⟨h1,⟨⟨wQ hc0 hr h2,h3⟩,h4⟩,⟨⟨wQ hc0 hr h5,h6⟩,h7⟩,⟨⟨wQ hc0 hr h8,h9⟩,h10⟩⟩,?_⟩
  simp only[bM,sQ,GrpD.ls,List.all_cons,List.all_nil,Bool.and_true,Bool.and_eq_true]
  exact⟨sF hc0 hr 0 _,sF hc0 hr 1 _,sF hc0 hr 2 _,sF hc0 hr 0 _,sF hc0 hr 1 _,sF hc0 hr 2 _⟩
 ·rw[aIe (j:=bM i) (i:=i) rfl rfl rfl (fun k=>by rw[aRt];exact⟨rfl,rfl,rfl⟩)]
  exact hc.2
theorem aRu (i:ImgD) (q:Nat):(bM i).p q=aP (i.p q):=by
 match q with
 | 0=>rfl
 | 1=>rfl
 | _+2=>rfl
theorem toB {i:ImgD} (hc:aS i=true) (hr:RowsOk i) (q:Nat) (n:Int):jT ((bM i).p q) (jT (i.p q) n).1=((jT (i.p q) n).1,0):=by
 obtain⟨h1,h2,_⟩:=vZ (dA (bI hc q)) (hr.p q) n
 rw[aRu]
 exact aIz (dA (bI hc q)) (hr.p q) h1 h2
theorem tA {i:ImgD} (hc:aS i=true) (hr:RowsOk i) (c:CoordD):hU (bM i) (hU i c)=hU i c∧(hU i c).pends.all (nT (bM i))=true:=by
 constructor
 ·simp only[hU,List.map_map]
  congr 1
  refine List.map_congr_left (fun x _=>?_)
  simp only[Function.comp,nJ,toB hc hr]
 ·simp only[hU,List.all_map,List.all_eq_true]
  intro x _
  simp only[Function.comp,nT,nJ,toB hc hr];rfl
theorem aMi {i:ImgD} (h:eT i=true) (hr:RowsOk i):kS (bM i)=(bM i,0):=by
 simp only[eT,Bool.and_eq_true] at h
 have hc:=h.1
 have hp:=fun q=>dA (bI hc q)
 have e0:=oJ (hp 0) (hr.p 0)
 have e1:=oJ (hp 1) (hr.p 1)
 have e2:=oJ (hp 2) (hr.p 2)
 have d0:=tA hc hr i.m.c0
 have d1:=tA hc hr i.m.c1
 have d2:=tA hc hr i.m.c2
 have g0:∀ n,jT (bM i).p0 (jT i.p0 n).1=((jT i.p0 n).1,0):=toB hc hr 0
 have g1:∀ n,jT (bM i).p1 (jT i.p1 n).1=((jT i.p1 n).1,0):=toB hc hr 1
 have g2:∀ n,jT (bM i).p2 (jT i.p2 n).1=((jT i.p2 n).1,0):=toB hc hr 2
 have f0:∀ n,(jT (bM i).p0 (jT i.p0 n).1).1=(jT i.p0 n).1∧(jT (bM i).p0 (jT i.p0 n).1).2=0:=fun n=>by rw[g0];exact⟨rfl,rfl⟩
 have f1:∀ n,(jT (bM i).p1 (jT i.p1 n).1).1=(jT i.p1 n).1∧(jT (bM i).p1 (jT i.p1 n).1).2=0:=fun n=>by rw[g1];exact⟨rfl,rfl⟩
 have f2:∀ n,(jT (bM i).p2 (jT i.p2 n).1).1=(jT i.p2 n).1∧(jT (bM i).p2 (jT i.p2 n).1).2=0:=fun n=>by rw[g2];exact⟨rfl,rfl⟩
 have hg:sQ (bM i)=sQ i:=by
  unfold sQ
  simp only[GrpD.mk.injEq]
  exact⟨(f0 i.m.gr.a0).1,(f1 i.m.gr.a1).1,(f2 i.m.gr.a2).1,(f0 i.m.gr.b0).1,(f1 i.m.gr.b1).1,(f2 i.m.gr.b2).1⟩
 have ht:nX (bM i)=true:=by
  simp only[nX,Bool.and_eq_true]
  exact⟨d0.2,d1.2,d2.2⟩
 have hk:kF (bM i)=true:=by
  simp only[kF,Bool.and_eq_true,rF,beq_iff_eq]
  exact⟨⟨(f0 i.m.gr.a0).2,(f1 i.m.gr.a1).2,(f2 i.m.gr.a2).2⟩,(f0 i.m.gr.b0).2,(f1 i.m.gr.b1).2,(f2 i.m.gr.b2).2⟩
 have hok:eT (bM i)=true:=by
  simp only[eT,Bool.and_eq_true]
  exact⟨aGb hc hr,⟨e0.2,e1.2,e2.2⟩,ht,hk⟩
 unfold kS
 rw[hok,if_pos rfl]
 have a0:aP (aP i.p0)=aP i.p0:=e0.1
 have a1:aP (aP i.p1)=aP i.p1:=e1.1
 have a2:aP (aP i.p2)=aP i.p2:=e2.1
 have e:bM (bM i)=bM i:=by
  show (⟨0,aP (aP i.p0),aP (aP i.p1),aP (aP i.p2),⟨i.m.made,hU (bM i) (hU i i.m.c0),hU (bM i) (hU i i.m.c1),hU (bM i) (hU i i.m.c2),sQ (bM i)⟩⟩:ImgD)=_
  rw[hg,a0,a1,a2,d0.1,d1.1,d2.1]
  rfl
 rw[e]
end Go.Proofs.YtkmfmphpndhkjaaGreatDoor
