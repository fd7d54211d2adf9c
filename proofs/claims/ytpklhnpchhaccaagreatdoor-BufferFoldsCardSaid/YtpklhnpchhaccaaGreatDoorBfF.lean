/- Package buffer: copied. -/
import Derived.Test.YtpklhnpchhaccaaGreatDoorBfMb
namespace Go.Proofs.YtpklhnpchhaccaaGreatDoor
open Go Go.RowKit
set_option maxHeartbeats 16000000
set_option maxRecDepth 100000
set_option linter.unusedVariables false
set_option linter.unusedSimpArgs false
def aMk:PartD→List BatD→Nat
 | _,[]=>0
 | p,b::l=>if (aG p.prods b (-1)).2≠0 then 0 else aMk (iX p b) l+1
def aMj:PartD→List BatD→Int
 | _,[]=>0
 | p,b::l=>if (aG p.prods b (-1)).2≠0 then (aG p.prods b (-1)).2 else aMj (iX p b) l
theorem aCc:∀ (l:List BatD) (p:PartD) (k:Nat) (hk:k<l.length),(aF p (l.take k)).1=true→(aG (aF p (l.take k)).2.prods l[k] (-1)).2≠0 →
  aMk p l=k∧aMj p l=(aG (aF p (l.take k)).2.prods l[k] (-1)).2
 | [],_,k,hk,_,_=>by simp at hk
 | b::l,p,0,_,_,h=>by
  have h:(aG p.prods b (-1)).2≠0:=h
  refine⟨?_,?_⟩
  ·show (if _ then _ else _)=_;rw[if_pos h]
  ·show (if _ then _ else _)=_;rw[if_pos h];rfl
 | b::l,p,k+1,hk,h1,h2=>by
  by_cases h:(aG p.prods b (-1)).2≠0
  ·have:aF p ((b::l).take (k+1))=(false,p):=by show (if _ then _ else _)=_;rw[if_pos h]
   rw[this] at h1;cases h1
  ·have e:aF p ((b::l).take (k+1))=aF (iX p b) (l.take k):=by show (if _ then _ else _)=_;rw[if_neg h]
   rw[e] at h1 h2
   obtain⟨q1,q2⟩:=aCc l (iX p b) k (by simpa using hk) h1 (by simpa using h2)
   refine⟨?_,?_⟩
   ·show (if _ then _ else _)=_;rw[if_neg h,q1]
   ·show (if _ then _ else _)=_;rw[if_neg h,q2,e];rfl
theorem aSp (w:eE) (pid:Int) (l:List BatD):lL (gG w pid l) pid=true:=by
 have hm:pid ∈ pG (gG w pid l):=by
  rw[zO]
  split
  ·rename_i h;exact List.mem_of_getElem? (sB h)
  ·simp
 cases h:lL (gG w pid l) pid with
 | true=>rfl
 | false=>exact absurd hm (lT h)
abbrev cm1:List UInt8:=[97,32,99,111,112,121,32,116,104,97,116,32,105,115,32,111,110,101,32,116,111,111,32,109,97,110,121,44,32,111,114,32,111,102,32,97,110,111,116,104,101,114,32,101,112,111,99,104]
abbrev cm2:List UInt8:=[116,104,101,32,110,101,120,116,32,115,101,113,117,101,110,99,101,32,111,102,32,97,32,99,111,112,121]
abbrev cm3:List UInt8:=[99,111,112,105,101,115,32,119,105,116,104,111,117,116,32,114,111,111,109]
def qP (s:BufS) (e:EntD):List BatD:=dG s.w e.b.pid++[e.b]
def aI2 (s:BufS) (e:EntD):Nat:=if lL s.w e.b.pid then s.vt e.b.pid.toNat+1 else s.vt e.b.pid.toNat+2
def aCz (s:BufS) (e:EntD):SV :=
 if kA (dG s.w e.b.pid) e.b=true then jH cm1 else
 if e.yes=false then lJ else
 if e.next≠eB e.b then jH cm2 else
 if (aF s.p (qP s e)).1=false then jH (aJz (aMj s.p (qP s e))) else
 if 1048576<(aF s.p (qP s e)).2.fin then jH cm3 else lJ
def aX1 (s:BufS) (e:EntD):BufS:={ s with vt:=kE s.vt e.b.pid.toNat (aI2 s e) }
def aKs (s:BufS) (e:EntD) (p:PartD) (n:Nat):BufS:=⟨p,gG s.w e.b.pid (qP s e),s.vr+n,kE s.vt e.b.pid.toNat (aI2 s e),kE s.vc e.b.pid.toNat (aI2 s e)⟩
def aX2 (s:BufS) (e:EntD):BufS:=⟨{ (aF s.p (qP s e)).2 with prods:=eP (aF s.p (qP s e)).2.prods e.b.pid },cU (gG s.w e.b.pid (qP s e)) e.b.pid,s.vr+(qP s e).length,kE s.vt e.b.pid.toNat (aI2 s e),kE s.vc e.b.pid.toNat (aI2 s e)⟩
def zC (s:BufS) (e:EntD):BufS :=
 if kA (dG s.w e.b.pid) e.b=true then aX1 s e else
 if e.yes=false then aKs s e s.p 0 else
 if e.next≠eB e.b then aKs s e s.p 0 else
 if (aF s.p (qP s e)).1=false then aKs s e (aF s.p (qP s e)).2 (aMk s.p (qP s e)) else
 if 1048576<(aF s.p (qP s e)).2.fin then aKs s e (aF s.p (qP s e)).2 (qP s e).length else aX2 s e
structure BokB (s:BufS):Prop where
 w:OkW s.w
 v:s.vc=s.vt
 sm:Sm14 s.p s.w
theorem aTp {s:BufS} (h:BokB s) (pid:Int):(dG s.w pid).length≤8∧∀ b ∈ dG s.w pid,b.recs.length≤4:=aNm h.sm pid
theorem aAa {s:BufS} {e:EntD} (h:BokB s) (hp:1≤e.b.pid∧e.b.pid≤8):iN (zC s e).w:=by
 have h1:=h.w.pid
 have h2:=aGj h1 hp (qP s e)
 have h3:=mR h2 e.b.pid
 unfold zC
 repeat' split
 all_goals first|exact h1|exact h2|exact h3
theorem aI3 (s:BufS) (e:EntD):nM (aCz s e).ids gD=true:=by
 unfold aCz
 repeat' split
 all_goals rfl
theorem aOk (s:BufS) (e:EntD) (h:BokB s) (hb:e.b.recs.length≤4) (hp:1≤e.b.pid∧e.b.pid≤8) :
  FunG Tryz.prog 159 [.c (.own 0 0),jG e] gD (bI (iO s)) (aCz s e) gD (bI (iO (zC s e))):=by
 have hw:=h.w.pid
 have hv:=h.v
 obtain⟨hl8,hlr⟩:=aTp h e.b.pid
 have c5:=tJ e.b (by omega)
 simp only[BatD.dv] at c5
 refine FunG.of_bodyH rfl rfl Tryz.func159 rfl rfl Tryz.ntmps159 Tryz.results159 (Nat.le_of_ble_eq_true rfl) (kU rfl (aI3 s e) hw (aAa h hp)) ?_
 obtain⟨q,hq⟩:∃ q,q=e.b.pid.toNat:=⟨_,rfl⟩
 have hq2:q=1∨q=2∨q=3∨q=4∨q=5∨q=6∨q=7∨q=8:=by omega
 obtain⟨l,hl⟩:∃ l,l=dG s.w e.b.pid:=⟨_,rfl⟩
 have hl8' : l.length≤8:=by rw[hl];exact hl8
 obtain⟨n,hn⟩:∃ n,n=aI2 s e:=⟨_,rfl⟩
 have hLe:qP s e=l++[e.b]:=by unfold qP;rw[hl]
 have hbad:kA (dG s.w e.b.pid) e.b=kA l e.b:=by rw[hl]
 have h1e:aX1 s e = { s with vt:=kE s.vt q n }:=by unfold aX1;rw[hq,hn]
 have hτ:∀ (X:List (Nat × HE)),bI (iO s++X) (30+q)=some (.rot 62 5 (s.vt q)):=fun X=>by rcases hq2 with rfl|rfl|rfl|rfl|rfl|rfl|rfl|rfl<;>rfl
 (refine gO (ai @aC (ai @EntD.dv.eq_1 (ai @List.map_cons.{0,0} (@List.map_nil.{0,0})))) ?_)
 refine Wp.meetT ⟨iH [(0,.c (.own 0 0)),(3,.c (.own 1000 0)),(4,lJ),(5,.c (.own 1001 0)),(6,.c (.apt (30+q) 5 ((l++[e.b]).map BatD.dv) n))],bI (bfX { s with vt:=kE s.vt q n } e),1010,119,⟨gD,[],false,none⟩⟩ ?_ ?_
 ·cases hk:lL s.w e.b.pid with
  | true =>
   have hn1:n=s.vt q+1:=by rw[hn];unfold aI2;rw[hk,if_pos rfl,hq]
   have hci:=aTq (vt:=s.vc) hk
   rw[← hq,← hl,hv] at hci
   subst hn1
   (first|refine Wp.sregM aI ?_|refine Wp.regM aI ?_|(refine Wp.seq ?_;first|refine Wp.sregM aI ?_|refine Wp.regM aI ?_))
   (refine cR.at 6 (fun K hK=>?_);(refine rO (ai @aC (ai @EntD.dv.eq_1 (ai @List.map_cons.{0,0} (@List.map_nil.{0,0})))) ?_);refine hK _ _ ?_;clear hK K)
   refine cR.imapHas rfl 8 (pG s.w) (qR s.vc s.w) (wI s.w e.b.pid) e.b.pid _ _ jM kJ zM (sB hk) (fun j hj=>qH hj) (by rw[hv];exact hci) ⟨by kernel_rfl,by kernel_rfl,eT ?_ ?_,?_⟩ ?_
   ·(refine rO (@aC) ?_;try with_reducible exact tt)
   ·(refine rO (@aC) ?_;try with_reducible exact tt)
   ·simp (maxSteps:=2000000) (disch:=omega) only[gE,TY,bW,eH,fP,SV.ofD,eA,eO,fI,fJ,bR,fK,eX,eQ,fL,eL,fG,fF,fH,CV.exact,CV.lstOf,CV.lenOf,CV.one,D.one,Value.oneCell',CV.toD0,fX,eF,fZ,fC,rD0,gC,fD,fY,reduceCtorEq,reduceIte,Nat.reduceBEq,Nat.reduceEqDiff,Nat.reduceAdd,Nat.reduceMul,Nat.reduceSub,Nat.reduceLT,Nat.reduceLeDiff,Nat.reduceBNe,Int.reduceLE,Int.reduceLT,Int.reduceBEq,Int.reduceBNe,Int.reduceEq,Int.reduceNeg,Int.reduceAdd,Int.reduceSub,Int.reduceToNat,forall_const,iU,uK,aC,EntD.dv,List.map_cons,List.map_nil]
   (refine cR.at 3 (fun K hK=>?_);(refine rO (ai @aC (ai @BatD.dv.eq_1 (ai @EntD.dv.eq_1 (ai @List.map_cons.{0,0} (@List.map_nil.{0,0}))))) ?_);refine dB c5 ?_;(refine rO (ai @aC (ai @BatD.dv.eq_1 (ai @EntD.dv.eq_1 (ai @List.map_cons.{0,0} (@List.map_nil.{0,0}))))) ?_);refine hK _ _ ?_;clear hK K)
   refine cR.rotApp (τ:=30+q) (n:=s.vt q) (xs:=l.map BatD.dv) (ys:=[e.b.dv]) (cy:=.full 5 [e.b.dv]) rfl yG ⟨rfl,by decide,by decide⟩ ⟨by (refine rO (@aC) ?_;try with_reducible exact tt),by (refine rO (@aC) ?_;try with_reducible exact tt),by (refine rO (@aC) ?_;try with_reducible exact tt),by (refine rO (ai @aC (@BatD.dv.eq_1)) ?_;try with_reducible exact tt),rfl,?_,?_,?_⟩ ?_
   ·rcases hq2 with rfl|rfl|rfl|rfl|rfl|rfl|rfl|rfl<;>((refine rO (@aC) ?_;try with_reducible exact tt))
   ·simp only[List.length_map,List.length_cons,List.length_nil];omega
   ·rcases hq2 with rfl|rfl|rfl|rfl|rfl|rfl|rfl|rfl<;>rfl
   (refine cR.done (fun K hK=>?_);(refine rO (ai @aC (ai @EntD.dv.eq_1 (ai @BatD.dv.eq_1 (ai @List.map_cons.{0,0} (@List.map_nil.{0,0}))))) ?_);refine hK _ _ ?_;clear hK K;refine⟨by kernel_rfl,?_⟩)
   refine aD.keep rfl (oT hw ?_) ?_
   ·rcases hq2 with rfl|rfl|rfl|rfl|rfl|rfl|rfl|rfl<;>rfl
   ·rcases hq2 with rfl|rfl|rfl|rfl|rfl|rfl|rfl|rfl<;>(simp (maxSteps:=2000000) (disch:=omega) only[gE,TY,bW,eH,fP,SV.ofD,eA,eO,fI,fJ,bR,fK,eX,eQ,fL,eL,fG,fF,fH,CV.exact,CV.lstOf,CV.lenOf,CV.one,D.one,Value.oneCell',CV.toD0,fX,eF,fZ,fC,rD0,gC,fD,fY,reduceCtorEq,reduceIte,Nat.reduceBEq,Nat.reduceEqDiff,Nat.reduceAdd,Nat.reduceMul,Nat.reduceSub,Nat.reduceLT,Nat.reduceLeDiff,Nat.reduceBNe,Int.reduceLE,Int.reduceLT,Int.reduceBEq,Int.reduceBNe,Int.reduceEq,Int.reduceNeg,Int.reduceAdd,Int.reduceSub,Int.reduceToNat,forall_const,aC,kE,EntD.dv,BatD.dv,List.map_append,List.map_cons,List.map_nil])
  | false =>
   have hn1:n=s.vt q+1+1:=by rw[hn];unfold aI2;rw[hk,if_neg Bool.false_ne_true,hq]
   have hl0:l=[]:=by rw[hl];exact sA hk
   subst hn1
   subst hl0
   have hx1:((1001:Nat) == 30+q)=false:=by rw[beq_eq_false_iff_ne];omega
   (first|refine Wp.sregM aI ?_|refine Wp.regM aI ?_|(refine Wp.seq ?_;first|refine Wp.sregM aI ?_|refine Wp.regM aI ?_))
   (refine cR.at 6 (fun K hK=>?_);(refine rO (ai @aC (ai @EntD.dv.eq_1 (ai @List.map_cons.{0,0} (@List.map_nil.{0,0})))) ?_);refine hK _ _ ?_;clear hK K)
   refine cR.imapFresh rfl 8 (pG s.w) (qR s.vc s.w) e.b.pid (30+q) 62 5 (s.vt q) jM kJ zM (lT hk) ?_ ?_ ⟨by kernel_rfl,by kernel_rfl,eT ?_ ?_,?_⟩ ?_
   ·rcases hq2 with rfl|rfl|rfl|rfl|rfl|rfl|rfl|rfl<;>((refine rO (@aC) ?_;try with_reducible exact tt))
   ·rcases hq2 with rfl|rfl|rfl|rfl|rfl|rfl|rfl|rfl<;>rfl
   ·(refine rO (@aC) ?_;try with_reducible exact tt)
   ·(refine rO (@aC) ?_;try with_reducible exact tt)
   ·simp (maxSteps:=2000000) (disch:=omega) only[gE,TY,bW,eH,fP,SV.ofD,eA,eO,fI,fJ,bR,fK,eX,eQ,fL,eL,fG,fF,fH,CV.exact,CV.lstOf,CV.lenOf,CV.one,D.one,Value.oneCell',CV.toD0,fX,eF,fZ,fC,rD0,gC,fD,fY,reduceCtorEq,reduceIte,Nat.reduceBEq,Nat.reduceEqDiff,Nat.reduceAdd,Nat.reduceMul,Nat.reduceSub,Nat.reduceLT,Nat.reduceLeDiff,Nat.reduceBNe,Int.reduceLE,Int.reduceLT,Int.reduceBEq,Int.reduceBNe,Int.reduceEq,Int.reduceNeg,Int.reduceAdd,Int.reduceSub,Int.reduceToNat,forall_const,iU,uK,aC,EntD.dv,List.map_cons,List.map_nil]
   (refine cR.at 3 (fun K hK=>?_);(refine rO (ai @aC (ai hx1 (ai @BatD.dv.eq_1 (ai @EntD.dv.eq_1 (ai @List.map_cons.{0,0} (@List.map_nil.{0,0})))))) ?_);refine dB c5 ?_;(refine rO (ai @aC (ai hx1 (ai @BatD.dv.eq_1 (ai @EntD.dv.eq_1 (ai @List.map_cons.{0,0} (@List.map_nil.{0,0})))))) ?_);refine hK _ _ ?_;clear hK K)
   refine cR.rotApp (τ:=30+q) (n:=s.vt q+1) (xs:=[]) (ys:=[e.b.dv]) (cy:=.full 5 [e.b.dv]) rfl yG ⟨rfl,by decide,by decide⟩ ⟨by (refine rO (@aC) ?_;try with_reducible exact tt),by (refine rO (@aC) ?_;try with_reducible exact tt),by (refine rO (@aC) ?_;try with_reducible exact tt),by (refine rO (ai @aC (@BatD.dv.eq_1)) ?_;try with_reducible exact tt),rfl,?_,by simp,?_⟩ ?_
   ·rcases hq2 with rfl|rfl|rfl|rfl|rfl|rfl|rfl|rfl<;>((refine rO (@aC) ?_;try with_reducible exact tt))
   ·rcases hq2 with rfl|rfl|rfl|rfl|rfl|rfl|rfl|rfl<;>rfl
   rcases hq2 with rfl|rfl|rfl|rfl|rfl|rfl|rfl|rfl<;>((refine cR.done (fun K hK=>?_);(refine rO (ai @aC (ai @EntD.dv.eq_1 (ai @BatD.dv.eq_1 (ai @List.map_cons.{0,0} (@List.map_nil.{0,0}))))) ?_);refine hK _ _ ?_;clear hK K;refine⟨by kernel_rfl,?_⟩);refine aD.keep rfl (oT hw rfl) ?_;simp (maxSteps:=2000000) (disch:=omega) only[gE,TY,bW,eH,fP,SV.ofD,eA,eO,fI,fJ,bR,fK,eX,eQ,fL,eL,fG,fF,fH,CV.exact,CV.lstOf,CV.lenOf,CV.one,D.one,Value.oneCell',CV.toD0,fX,eF,fZ,fC,rD0,gC,fD,fY,reduceCtorEq,reduceIte,Nat.reduceBEq,Nat.reduceEqDiff,Nat.reduceAdd,Nat.reduceMul,Nat.reduceSub,Nat.reduceLT,Nat.reduceLeDiff,Nat.reduceBNe,Int.reduceLE,Int.reduceLT,Int.reduceBEq,Int.reduceBNe,Int.reduceEq,Int.reduceNeg,Int.reduceAdd,Int.reduceSub,Int.reduceToNat,forall_const,aC,kE,EntD.dv,BatD.dv,List.nil_append,List.map_cons,List.map_nil])
 obtain⟨c,hg0,hbc⟩:∃ c,(l++[e.b])[0]? = some c∧kA l e.b=(decide ((8:Int)<((l++[e.b]).length:Int)) || (c.epoch != e.b.epoch)):=by
  cases l with
  | nil=>exact⟨e.b,rfl,by simp[kA]⟩
  | cons c r =>
   refine⟨c,rfl,?_⟩
   show (decide ((8:Int)≤((c::r).length:Int)) || (c.epoch != e.b.epoch))=_
   congr 1
   rw[List.length_append]
   simp
   omega
 obtain⟨L,hL⟩:∃ L,L=l++[e.b]:=⟨_,rfl⟩
 have hLl:L.length≤9:=by rw[hL,List.length_append];simp;omega
 have hLr:∀ b ∈ L,b.recs.length≤4:=fun b hbm=>by
  rw[hL] at hbm
  rcases List.mem_append.1 hbm with h1|h1
  ·exact hlr b (by rw[← hl];exact h1)
  ·simp at h1;subst h1;exact hb
 rw[← hL] at hg0 hbc hLe ⊢
 (first|refine Wp.stoD 34 (vb (kA l e.b)) aI ?_ ?_|refine Wp.rtoDS 34 (vb (kA l e.b)) aI ?_ ?_|(refine Wp.seq ?_;first|refine Wp.stoD 34 (vb (kA l e.b)) aI ?_ ?_|refine Wp.rtoDS 34 (vb (kA l e.b)) aI ?_ ?_))
 ·rw[hbc]
  cases q1:decide ((8:Int)<(L.length:Int))<;>cases q2:(c.epoch != e.b.epoch)<;>(((refine rO (ai @EntD.dv.eq_1 (ai @BatD.dv.eq_1 (ai hg0 (ai q1 (ai q2 (ai @List.map_cons.{0,0} (@List.map_nil.{0,0}))))))) ?_);(repeat (refine dB (by assumption) ?_;(refine rO (ai @EntD.dv.eq_1 (ai @BatD.dv.eq_1 (ai hg0 (ai q1 (ai q2 (ai @List.map_cons.{0,0} (@List.map_nil.{0,0}))))))) ?_))));all_goals (exact (show bE _ _=true by kernel_rfl)))
 cases hB:kA l e.b with
 | true =>
  have e1:aCz s e=jH cm1:=by unfold aCz;rw[if_pos (hbad.trans hB)]
  have e2:zC s e = { s with vt:=kE s.vt q n }:=by unfold zC;rw[if_pos (hbad.trans hB),h1e]
  have c6:=cV cm1
  rw[e1,e2]
  (refine gO (@aC) ?_)
  refine aO.ret ?_
  (refine rO (ai @aC (ai @aJ.eq_1 (@aJ.eq_2))) ?_;try with_reducible exact tt)
 | false =>
 have hnb:¬ kA (dG s.w e.b.pid) e.b=true:=by rw[hbad,hB];exact Bool.false_ne_true
 unfold aCz zC
 rw[if_neg hnb,if_neg hnb]
 have hwp:=aGj hw hp L
 have h2e:∀ p m,aKs s e p m=⟨p,gG s.w e.b.pid L,s.vr+m,kE s.vt q n,kE s.vc q n⟩:=fun p m=>by unfold aKs;rw[hLe,← hq,← hn]
 (refine gO (@aC) ?_)
 refine Wp.meetT ⟨iH [(0,.c (.own 0 0)),(3,.c (.own 1000 0)),(5,.c (.own 1001 0)),(6,.c (.apt (30+q) 5 (L.map BatD.dv) n))],bI (bfX ⟨s.p,gG s.w e.b.pid L,s.vr+0,kE s.vt q n,kE s.vc q n⟩ e),1010,119,⟨gD,[],false,none⟩⟩ ?_ ?_
 ·cases hk:lL s.w e.b.pid with
  | true =>
   obtain⟨p1,p2⟩:=aTs (vt:=s.vc) h.w hp L n hk
   rw[← hq] at p1
   (first|refine Wp.sregM aI ?_|refine Wp.regM aI ?_|(refine Wp.seq ?_;first|refine Wp.sregM aI ?_|refine Wp.regM aI ?_))
   (refine cR.at 7 (fun K hK=>?_);(refine rO (ai @aC (ai @EntD.dv.eq_1 (ai @BatD.dv.eq_1 (ai @List.map_cons.{0,0} (@List.map_nil.{0,0}))))) ?_);refine hK _ _ ?_;clear hK K)
   refine cR.imapPut rfl 8 (pG s.w) (qR s.vc s.w) (wI s.w e.b.pid) e.b.pid (.apt (30+q) 5 (L.map BatD.dv) n) jM kJ (sB hk) (fun j hj=>qH hj) ⟨by kernel_rfl,by kernel_rfl,eT ?_ ?_,?_,?_,by kernel_rfl⟩ ?_
   ·(refine rO (@aC) ?_;try with_reducible exact tt)
   ·(refine rO (@aC) ?_;try with_reducible exact tt)
   ·simp (maxSteps:=2000000) (disch:=omega) only[gE,TY,bW,eH,fP,SV.ofD,eA,eO,fI,fJ,bR,fK,eX,eQ,fL,eL,fG,fF,fH,CV.exact,CV.lstOf,CV.lenOf,CV.one,D.one,Value.oneCell',CV.toD0,fX,eF,fZ,fC,rD0,gC,fD,fY,reduceCtorEq,reduceIte,Nat.reduceBEq,Nat.reduceEqDiff,Nat.reduceAdd,Nat.reduceMul,Nat.reduceSub,Nat.reduceLT,Nat.reduceLeDiff,Nat.reduceBNe,Int.reduceLE,Int.reduceLT,Int.reduceBEq,Int.reduceBNe,Int.reduceEq,Int.reduceNeg,Int.reduceAdd,Int.reduceSub,Int.reduceToNat,forall_const,iU,uK,aC,EntD.dv,BatD.dv,List.map_cons,List.map_nil]
   ·(refine rO (@aC) ?_;try with_reducible exact tt)
   rw[p1,p2]
   (refine cR.done (fun K hK=>?_);(refine rO (ai @aC (ai @EntD.dv.eq_1 (ai @BatD.dv.eq_1 (ai @List.map_cons.{0,0} (@List.map_nil.{0,0}))))) ?_);refine hK _ _ ?_;clear hK K;refine⟨by kernel_rfl,?_⟩)
   refine aD.keep rfl (oT hwp ?_) ?_
   ·rcases hq2 with rfl|rfl|rfl|rfl|rfl|rfl|rfl|rfl<;>rfl
   ·(refine rO (ai @aC (ai @Nat.add_zero (ai @EntD.dv.eq_1 (ai @BatD.dv.eq_1 (ai @List.map_cons.{0,0} (@List.map_nil.{0,0})))))) ?_;try with_reducible exact tt)
  | false =>
   obtain⟨p1,p2⟩:=aTr (vt:=s.vc) h.w hp L n hk
   rw[← hq] at p1
   (first|refine Wp.sregM aI ?_|refine Wp.regM aI ?_|(refine Wp.seq ?_;first|refine Wp.sregM aI ?_|refine Wp.regM aI ?_))
   (refine cR.at 7 (fun K hK=>?_);(refine rO (ai @aC (ai @EntD.dv.eq_1 (ai @BatD.dv.eq_1 (ai @List.map_cons.{0,0} (@List.map_nil.{0,0}))))) ?_);refine hK _ _ ?_;clear hK K)
   refine cR.imapAdd rfl 8 (pG s.w) (qR s.vc s.w) e.b.pid (.apt (30+q) 5 (L.map BatD.dv) n) jM kJ (lT hk) ⟨by kernel_rfl,by kernel_rfl,eT ?_ ?_,?_,?_,by kernel_rfl⟩ ?_
   ·(refine rO (@aC) ?_;try with_reducible exact tt)
   ·(refine rO (@aC) ?_;try with_reducible exact tt)
   ·simp (maxSteps:=2000000) (disch:=omega) only[gE,TY,bW,eH,fP,SV.ofD,eA,eO,fI,fJ,bR,fK,eX,eQ,fL,eL,fG,fF,fH,CV.exact,CV.lstOf,CV.lenOf,CV.one,D.one,Value.oneCell',CV.toD0,fX,eF,fZ,fC,rD0,gC,fD,fY,reduceCtorEq,reduceIte,Nat.reduceBEq,Nat.reduceEqDiff,Nat.reduceAdd,Nat.reduceMul,Nat.reduceSub,Nat.reduceLT,Nat.reduceLeDiff,Nat.reduceBNe,Int.reduceLE,Int.reduceLT,Int.reduceBEq,Int.reduceBNe,Int.reduceEq,Int.reduceNeg,Int.reduceAdd,Int.reduceSub,Int.reduceToNat,forall_const,iU,uK,aC,EntD.dv,BatD.dv,List.map_cons,List.map_nil]
   ·(refine rO (@aC) ?_;try with_reducible exact tt)
   rw[p1,p2]
   (refine cR.done (fun K hK=>?_);(refine rO (ai @aC (ai @EntD.dv.eq_1 (ai @BatD.dv.eq_1 (ai @List.map_cons.{0,0} (@List.map_nil.{0,0}))))) ?_);refine hK _ _ ?_;clear hK K;refine⟨by kernel_rfl,?_⟩)
   refine aD.keep rfl (oT hwp ?_) ?_
   ·rcases hq2 with rfl|rfl|rfl|rfl|rfl|rfl|rfl|rfl<;>rfl
   ·(refine rO (ai @aC (ai @Nat.add_zero (ai @EntD.dv.eq_1 (ai @BatD.dv.eq_1 (ai @List.map_cons.{0,0} (@List.map_nil.{0,0})))))) ?_;try with_reducible exact tt)
 cases hy:e.yes with
 | false =>
  rw[if_pos rfl,if_pos rfl,h2e]
  (refine gO (ai @aC (ai @EntD.dv.eq_1 (ai @BatD.dv.eq_1 (ai hy (ai @List.map_cons.{0,0} (@List.map_nil.{0,0})))))) ?_)
  refine aO.ret ?_
  (refine rO (ai @aC (ai @aJ.eq_1 (@aJ.eq_2))) ?_;try with_reducible exact tt)
 | true =>
 have ny:¬ (true=false):=by simp
 rw[if_neg ny,if_neg ny]
 have c7:=aMr e.b
 simp only[BatD.dv] at c7
 by_cases hnx:e.next≠eB e.b
 ·have dn:(e.next != eB e.b)=true:=by simpa using hnx
  have c6:=cV cm2
  rw[if_pos hnx,if_pos hnx,h2e]
  (refine gO (ai @aC (ai @EntD.dv.eq_1 (ai @BatD.dv.eq_1 (ai hy (ai dn (ai @List.map_cons.{0,0} (@List.map_nil.{0,0}))))))) ?_)
  refine aO.ret ?_
  (refine rO (ai @aC (ai @aJ.eq_1 (@aJ.eq_2))) ?_;try with_reducible exact tt)
 have dn:(e.next != eB e.b)=false:=by simpa using hnx
 rw[if_neg hnx,if_neg hnx]
 (refine gO (ai @aC (ai @EntD.dv.eq_1 (ai @BatD.dv.eq_1 (ai hy (ai dn (ai @List.map_cons.{0,0} (@List.map_nil.{0,0}))))))) ?_)
 have hsm0:=h.sm.prods
 have hfin:=h.sm.fin
 have hrows:=h.sm.rows
 refine Wp.loop (fun k:Nat=>⟨iH [(0,.c (.own 0 0)),(3,.c (.own 1000 0)),(5,.c (.own 1001 0)),(52,.c (.d (.lst 5 (L.map BatD.dv)))),(53,vi .i64 L.length),(54,vi .i64 k)],bI (bfX ⟨(aF s.p (L.take k)).2,gG s.w e.b.pid L,s.vr+k,kE s.vt q n,kE s.vc q n⟩ e),1020,119,⟨gD,[],false,none⟩⟩) (fun k=>k≤L.length∧(aF s.p (L.take k)).1=true) (fun k=>L.length - k) 0 ⟨Nat.zero_le _,rfl⟩ ?_ ?_
 ·refine aD.trans (aD.aptD (t:=52) (τ:=30+q) (sz:=5) (n:=n) (xs:=L.map BatD.dv) (by (refine rO (@aC) ?_;try with_reducible exact tt))) (aD.keep rfl (oT hwp rfl) ?_)
  simp (maxSteps:=2000000) (disch:=omega) only[gE,TY,bW,eH,fP,SV.ofD,eA,eO,fI,fJ,bR,fK,eX,eQ,fL,eL,fG,fF,fH,CV.exact,CV.lstOf,CV.lenOf,CV.one,D.one,Value.oneCell',CV.toD0,fX,eF,fZ,fC,rD0,gC,fD,fY,reduceCtorEq,reduceIte,Nat.reduceBEq,Nat.reduceEqDiff,Nat.reduceAdd,Nat.reduceMul,Nat.reduceSub,Nat.reduceLT,Nat.reduceLeDiff,Nat.reduceBNe,Int.reduceLE,Int.reduceLT,Int.reduceBEq,Int.reduceBNe,Int.reduceEq,Int.reduceNeg,Int.reduceAdd,Int.reduceSub,Int.reduceToNat,forall_const,aC,aF,List.take_zero,hy,EntD.dv,BatD.dv,List.map_cons,List.map_nil,List.length_map]
 rintro k ⟨hk,htk⟩
 obtain⟨g1,g2,g3,g4,g5,g6,g7⟩:=sU (L.take k) s.p (fun b hbm=>hLr b (List.mem_of_mem_take hbm)) h.sm.seen
 have hlt9:(L.take k).length≤9:=by rw[List.length_take];omega
 have hqs:SmallL (aF s.p (L.take k)).2.prods:=⟨by omega,fun x hx=>by have:=g7 x hx;omega⟩
 by_cases hkl:k<L.length
 ·have d1:decide ((k:Int)<(L.length:Int))=true:=decide_eq_true (by omega)
  have hge:L[k]? = some L[k]:=List.getElem?_eq_getElem hkl
  have hwk:IntKind.i64.wrap ((k:Int)+1)=((k+1:Nat):Int):=by rw[bA (by omega)];rfl
  have hsn:=yR hkl htk
  have hx:=hLr _ (List.getElem_mem hkl)
  have hfl:=aCc L s.p k hkl htk
  generalize L[k]=b at *
  have hstop:=fun h=>yS (p:=s.p) (l:=L) (k:=k+1) h
  generalize (aF s.p (L.take k)).2=p at *
  obtain⟨bt,hbt⟩:∃ bt:BufS,bt=⟨p,gG s.w e.b.pid L,s.vr+k,kE s.vt q n,kE s.vc q n⟩:=⟨_,rfl⟩
  have hbW:aOf b = .agg (b.dv.map CV.d):=rfl
  by_cases hz:(aG p.prods b (-1)).2≠0
  ·rw[if_pos hz] at hsn
   have hst:=hstop (by rw[hsn])
   rw[hsn] at hst
   obtain⟨f1,f2⟩:=hfl hz
   have c4:=aA3 ⟨p,gG s.w e.b.pid L,s.vr+k,kE s.vt q n,kE s.vc q n⟩ b hwp hqs (by omega) hz
   rw[hLe,hst,if_pos rfl,if_pos rfl,h2e,f1,f2]
   (refine gO (ai @aC (ai d1 (ai hge (ai @BatD.dv.eq_1 (ai @List.map_cons.{0,0} (@List.map_nil.{0,0})))))) ?_)
   (first|refine Wp.sregG ?_|refine Wp.regG ?_|(refine Wp.seq ?_;first|refine Wp.sregG ?_|refine Wp.regG ?_))
   (refine aH.at 2 (fun K hK=>?_);(refine rO (ai @aC (ai @BatD.dv.eq_1 (ai @List.map_cons.{0,0} (@List.map_nil.{0,0})))) ?_);refine hK _ ?_;clear hK K)
   (refine aH.call (c4) [] 1040 rfl rfl ?_ ?_;(focus ((refine wG (ai @cT (ai @aC (ai @aM (ai hbW (ai @BatD.dv.eq_1 (ai @List.map_cons.{0,0} (@List.map_nil.{0,0}))))))) ?_;try with_reducible exact tt);done)))
   (refine aH.done (fun K hK=>?_);(refine rOt (ai @aC (ai @cH.eq_1 (ai @cH.eq_2 (ai @aM (ai @bU (ai @List.map_cons.{0,0} (@List.map_nil.{0,0}))))))) ?_);refine hK _ ?_;clear hK K)
   (refine gO (@aC) ?_)
   refine aO.ret ?_
   (refine rO (ai @aC (ai @aJ.eq_1 (@aJ.eq_2))) ?_;try with_reducible exact tt)
  ·have hz0:(aG p.prods b (-1)).2=0:=by simpa using hz
   rw[if_neg hz] at hsn
   have c4:=aA4 ⟨p,gG s.w e.b.pid L,s.vr+k,kE s.vt q n,kE s.vc q n⟩ b hwp hqs (by omega) hz0
   have c9:=aJo b p.fin (by omega)
   have hrl:=kV b p.fin
   have hwf:IntKind.i64.wrap (p.fin+(b.recs.length:Int))=p.fin+(b.recs.length:Int):=bA (by omega)
   unfold aH0 at c4
   generalize hnp:(aG p.prods b (-1)).1=np at *
   simp only[BatD.dv] at c9
   (refine gO (ai @aC (ai d1 (ai hge (ai @BatD.dv.eq_1 (ai @List.map_cons.{0,0} (@List.map_nil.{0,0})))))) ?_)
   (first|refine Wp.sregG ?_|refine Wp.regG ?_|(refine Wp.seq ?_;first|refine Wp.sregG ?_|refine Wp.regG ?_))
   (refine aH.at 2 (fun K hK=>?_);(refine rO (ai @aC (ai @BatD.dv.eq_1 (ai @List.map_cons.{0,0} (@List.map_nil.{0,0})))) ?_);refine hK _ ?_;clear hK K)
   (refine aH.call (c4) [] 1040 rfl rfl ?_ ?_;(focus ((refine wG (ai @cT (ai @aC (ai @aM (ai hbW (ai @BatD.dv.eq_1 (ai @List.map_cons.{0,0} (@List.map_nil.{0,0}))))))) ?_;try with_reducible exact tt);done)))
   (refine aH.done (fun K hK=>?_);(refine rOt (ai @aC (ai @cH.eq_1 (ai @cH.eq_2 (ai @aM (ai @bU (ai @List.map_cons.{0,0} (@List.map_nil.{0,0}))))))) ?_);refine hK _ ?_;clear hK K)
   (refine gO (ai @aC (@BatD.dv.eq_1)) ?_)
   (first|refine Wp.sregM aI ?_|refine Wp.regM aI ?_|(refine Wp.seq ?_;first|refine Wp.sregM aI ?_|refine Wp.regM aI ?_))
   (refine cR.at 13 (fun K hK=>?_);(refine rO (ai @aC (ai @BatD.dv.eq_1 (ai @List.map_cons.{0,0} (@List.map_nil.{0,0})))) ?_);refine dB c9 ?_;(refine rO (ai @aC (ai @BatD.dv.eq_1 (ai @List.map_cons.{0,0} (@List.map_nil.{0,0})))) ?_);refine hK _ _ ?_;clear hK K)
   refine cR.rotApp (τ:=9) (n:=s.vr+k) (xs:=p.rows.map RowD.dv) (ys:=(cS b p.fin).map RowD.dv) (cy:=.d (.lst 5 ((cS b p.fin).map RowD.dv))) rfl qZ ⟨rfl,by decide,by decide⟩ ⟨by (refine rO (@aC) ?_;try with_reducible exact tt),by (refine rO (@aC) ?_;try with_reducible exact tt),by (refine rO (@aC) ?_;try with_reducible exact tt),by (refine rO (@aC) ?_;try with_reducible exact tt),rfl,by (refine rO (@aC) ?_;try with_reducible exact tt),by simp only[List.length_map];omega,rfl⟩ ?_
   rw[← List.map_append]
   (refine cR.done (fun K hK=>?_);(refine rO (ai @aC (ai @BatD.dv.eq_1 (ai @List.map_cons.{0,0} (@List.map_nil.{0,0})))) ?_);refine hK _ _ ?_;clear hK K;refine⟨by kernel_rfl,?_⟩)
   (refine gO (ai @aC (ai @BatD.dv.eq_1 (hwf))) ?_)
   refine⟨k+1,⟨hkl,by rw[hsn]⟩,by omega,?_⟩
   rw[hsn]
   refine aD.keep rfl (oT hwp rfl) ?_
   simp (maxSteps:=2000000) (disch:=omega) only[gE,TY,bW,eH,fP,SV.ofD,eA,eO,fI,fJ,bR,fK,eX,eQ,fL,eL,fG,fF,fH,CV.exact,CV.lstOf,CV.lenOf,CV.one,D.one,Value.oneCell',CV.toD0,fX,eF,fZ,fC,rD0,gC,fD,fY,reduceCtorEq,reduceIte,Nat.reduceBEq,Nat.reduceEqDiff,Nat.reduceAdd,Nat.reduceMul,Nat.reduceSub,Nat.reduceLT,Nat.reduceLeDiff,Nat.reduceBNe,Int.reduceLE,Int.reduceLT,Int.reduceBEq,Int.reduceBNe,Int.reduceEq,Int.reduceNeg,Int.reduceAdd,Int.reduceSub,Int.reduceToNat,forall_const,aC,hwk,iX,hnp,EntD.dv,BatD.dv,List.map_cons,List.map_nil]
   exact⟨rfl,rfl⟩
 ·have hke:k=L.length:=by omega
  subst hke
  rw[List.take_length] at htk g1 g2 g3 g4 g5 g6 g7 hqs ⊢
  have d1:decide ((L.length:Int)<(L.length:Int))=false:=by simp
  have nt:¬ ((aF s.p L).1=false):=by rw[htk];simp
  rw[hLe,if_neg nt,if_neg nt,h2e]
  unfold aX2
  rw[hLe,← hq,← hn]
  generalize (aF s.p L).2=p at *
  have hpk:lL (gG s.w e.b.pid L) e.b.pid=true:=aSp _ _ _
  by_cases hm:1048576<p.fin
  ·have dm:decide ((1048576:Int)<p.fin)=true:=decide_eq_true hm
   have c6:=cV cm3
   rw[if_pos hm,if_pos hm]
   (refine gO (ai @aC (ai d1 (dm))) ?_)
   refine aO.ret ?_
   (refine rO (ai @aC (ai @aJ.eq_1 (@aJ.eq_2))) ?_;try with_reducible exact tt)
  ·have dm:decide ((1048576:Int)<p.fin)=false:=decide_eq_false hm
   have c6:=aOn p.prods e.b.pid hqs
   rw[if_neg hm,if_neg hm]
   (refine gO (ai @aC (ai d1 (ai dm (ai @BatD.dv.eq_1 (ai @List.map_cons.{0,0} (@List.map_nil.{0,0})))))) ?_)
   (first|refine Wp.sregM aI ?_|refine Wp.regM aI ?_|(refine Wp.seq ?_;first|refine Wp.sregM aI ?_|refine Wp.regM aI ?_))
   (refine cR.at 6 (fun K hK=>?_);(refine rO (ai @aC (ai @BatD.dv.eq_1 (ai @List.map_cons.{0,0} (@List.map_nil.{0,0})))) ?_);refine hK _ _ ?_;clear hK K)
   refine cR.imapDel rfl 8 (pG (gG s.w e.b.pid L)) (qR (kE s.vc q n) (gG s.w e.b.pid L)) (wI (gG s.w e.b.pid L) e.b.pid) e.b.pid jM kJ (sB hpk) (fun j hj=>qH hj) ⟨by kernel_rfl,by kernel_rfl,eT ?_ ?_,?_,by kernel_rfl⟩ ?_
   ·(refine rO (@aC) ?_;try with_reducible exact tt)
   ·(refine rO (@aC) ?_;try with_reducible exact tt)
   ·simp (maxSteps:=2000000) (disch:=omega) only[gE,TY,bW,eH,fP,SV.ofD,eA,eO,fI,fJ,bR,fK,eX,eQ,fL,eL,fG,fF,fH,CV.exact,CV.lstOf,CV.lenOf,CV.one,D.one,Value.oneCell',CV.toD0,fX,eF,fZ,fC,rD0,gC,fD,fY,reduceCtorEq,reduceIte,Nat.reduceBEq,Nat.reduceEqDiff,Nat.reduceAdd,Nat.reduceMul,Nat.reduceSub,Nat.reduceLT,Nat.reduceLeDiff,Nat.reduceBNe,Int.reduceLE,Int.reduceLT,Int.reduceBEq,Int.reduceBNe,Int.reduceEq,Int.reduceNeg,Int.reduceAdd,Int.reduceSub,Int.reduceToNat,forall_const,iU,uK,aC,BatD.dv,List.map_cons,List.map_nil]
   rw[aCh _ _ hpk,aCg _ _ _ hpk]
   (refine cR.done (fun K hK=>?_);(refine rO (ai @aC (ai @BatD.dv.eq_1 (ai @List.map_cons.{0,0} (@List.map_nil.{0,0})))) ?_);refine hK _ _ ?_;clear hK K;refine⟨by kernel_rfl,?_⟩)
   (refine gO (@aC) ?_)
   refine aO.ret ?_
   (refine rO (ai @aC (ai @aJ.eq_1 (@aJ.eq_2))) ?_;try with_reducible exact tt)
end Go.Proofs.YtpklhnpchhaccaaGreatDoor
