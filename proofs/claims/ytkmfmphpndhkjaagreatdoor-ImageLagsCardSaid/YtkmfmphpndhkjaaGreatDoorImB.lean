/- Bare images,plain: a bare image's bare image is it. -/
import Derived.Test.YtkmfmphpndhkjaaGreatDoorImA
namespace Go.Proofs.YtkmfmphpndhkjaaGreatDoor
open Go Go.RowKit
set_option maxHeartbeats 4000000
set_option maxRecDepth 100000
set_option linter.unusedVariables false
set_option linter.unusedSimpArgs false
def iB (l:List RowD):List RowD:=l.mapIdx (fun k r=>{ r with off:=(k:Int) })
def jA (p:PartD):PartD:=⟨0,p.rows.length,iB p.rows,p.opens,p.prods⟩
def aY (p:PartD):TabD:=aMl p (jA p)
def toP (p:PartD) (n:Int):Int × Int:=cM (aY p) n
def aKc (p:PartD) (s:SeenD):SeenD:={ s with base:=(toP p s.base).1 }
def aMc (p:PartD) (s:SeenD):Bool:=(toP p s.base).2 == 0
def aCt (p:PartD) (q:ProdD):ProdD:={ q with seen:=q.seen.map (aKc p) }
def aGr (p:PartD) (q:ProdD):Bool:=q.seen.all (aMc p)
def oV (p:PartD):PartD:=⟨0,p.rows.length,iB p.rows,p.opens,p.prods.map (aCt p)⟩
def kR (p:PartD):Bool:=p.prods.all (aGr p)
def vX (i:ImgD) (x:PendD):PendD:={ x with off:=(toP (i.p x.part.toNat) x.off).1 }
def xY (i:ImgD) (x:PendD):Bool:=(toP (i.p x.part.toNat) x.off).2 == 0
def aCq (i:ImgD) (c:CoordD):CoordD:={ c with pends:=c.pends.map (vX i) }
def rH (i:ImgD):Bool:=i.m.c0.pends.all (xY i) && (i.m.c1.pends.all (xY i) && i.m.c2.pends.all (xY i))
def aQl (i:ImgD):GrpD:=⟨(toP i.p0 i.m.gr.a0).1,(toP i.p1 i.m.gr.a1).1,(toP i.p2 i.m.gr.a2).1,(toP i.p0 i.m.gr.b0).1,(toP i.p1 i.m.gr.b1).1,(toP i.p2 i.m.gr.b2).1⟩
def uP (p:PartD) (n:Int):Bool:=(toP p n).2 == 0
def mB (i:ImgD):Bool:=(uP i.p0 i.m.gr.a0 && (uP i.p1 i.m.gr.a1 && uP i.p2 i.m.gr.a2)) && (uP i.p0 i.m.gr.b0 && (uP i.p1 i.m.gr.b1 && uP i.p2 i.m.gr.b2))
def aCr (i:ImgD):ImgD:=⟨0,oV i.p0,oV i.p1,oV i.p2,⟨i.m.made,aCq i i.m.c0,aCq i i.m.c1,aCq i i.m.c2,aQl i⟩⟩
def oU (i:ImgD):Bool:=aX i && ((kR i.p0 && (kR i.p1 && kR i.p2)) && (rH i && mB i))
def vY (i:ImgD):ImgD × Int:=if oU i then (aCr i,0) else (iz,2)
theorem oW (l:List RowD):(iB l).length=l.length:=by simp[iB]
theorem uK (l:List RowD) (k:Nat):(iB l)[k]? = l[k]?.map (fun r=>{ r with off:=(k:Int) }):=by simp[iB]
theorem rP (l:List RowD) (k:Nat) (h:k<(iB l).length):(iB l)[k].off=k:=by simp[iB]
theorem aHn:∀ (l:List Int),(∀ (i:Nat) (h:i+1<l.length),l[i]<l[i+1])→eD l=true
 | [],_=>rfl
 | [a],_=>rfl
 | a::b::l,h=>by
  have h0:=h 0 (by simp)
  simp only[List.getElem_cons_zero,List.getElem_cons_succ] at h0
  simp only[eD,Bool.and_eq_true,decide_eq_true_eq]
  exact⟨h0,aHn (b::l) (fun i hi=>by have:=h (i+1) (by simpa using hi);simpa using this)⟩
theorem aLm {p:PartD} (h1:0≤p.start) (h2:p.start≤p.fin) (h3:p.fin≤1048576) (h4:eD (p.rows.map (·.off))=true) (h5:∀ r ∈ p.rows,p.start≤r.off∧r.off<p.fin) (h6:eD (p.opens.map (·.pid))=true) (h7:p.opens.any (fun o=>o.bats == [])=false):cD p=true:=by
 have hr:eC p=false:=by
  simp only[eC,Bool.or_eq_false_iff,decide_eq_false_iff_not];omega
 have he:fT p=false:=by
  unfold fT
  cases ha:p.rows.head? with
  | none=>rfl
  | some a =>
   cases hb:p.rows.getLast? with
   | none=>rfl
   | some b =>
    have q1:=h5 a (List.mem_of_head? ha)
    have q2:=h5 b (List.mem_of_getLast? hb)
    simp only[Bool.or_eq_false_iff,decide_eq_false_iff_not];omega
 simp only[cD,hr,h4,he,h6,h7];rfl
theorem aEl {p:PartD} (h:cD p=true):eD (p.opens.map (·.pid))=true∧p.opens.any (fun o=>o.bats == [])=false:=by
 simp only[cD,Bool.and_eq_true,Bool.not_eq_true'] at h
 exact⟨h.1.2,h.2⟩
theorem aMz {p:PartD} (h:cD p=true) (hl:p.rows.length≤1048576):cD (jA p)=true:=by
 obtain⟨h6,h7⟩:=aEl h
 refine aLm (Int.le_refl 0) (by simp[jA]) (by simp only[jA];omega) (aHn _ (fun i hi=>?_)) (fun r hr=>?_) h6 h7
 ·simp only[jA,List.getElem_map]
  rw[rP,rP];omega
 ·obtain⟨k,hk⟩:=List.mem_iff_getElem?.1 hr
  simp only[jA,uK,Option.map_eq_some_iff] at hk
  obtain⟨x,hx,rfl⟩:=hk
  have:=(List.getElem?_eq_some_iff.1 hx).1
  simp only[jA];omega
theorem aCs {p:PartD} (h:cD p=true) (hl:p.rows.length≤1048576):mH p (jA p)=true:=by
 unfold mH
 rw[h,aMz h hl]
 simp[jA,oW]
/-! bare parts may be -/
/-! a bare image may be -/
structure RowsOk (i:ImgD):Prop where
 h0:i.p0.rows.length≤1048576
 h1:i.p1.rows.length≤1048576
 h2:i.p2.rows.length≤1048576
theorem RowsOk.p {i:ImgD} (h:RowsOk i) (q:Nat):(i.p q).rows.length≤1048576:=by
 match q with
 | 0=>exact h.h0
 | 1=>exact h.h1
 | _+2=>exact h.h2
end Go.Proofs.YtkmfmphpndhkjaaGreatDoor
