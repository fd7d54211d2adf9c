/- Package buffer: copied. -/
import Derived.Test.YtpklhnpchhaccaaGreatDoorBfMb
namespace Go.Proofs.YtpklhnpchhaccaaGreatDoor
open Go Go.RowKit
set_option maxHeartbeats 16000000
set_option maxRecDepth 100000
set_option linter.unusedVariables false
set_option linter.unusedSimpArgs false
def aNk:PartD→List BatD→Nat
 | _,[]=>0
 | p,b::l=>if (aJ p.prods b (-1)).2≠0 then 0 else aNk (gZ p b) l+1
def aNj:PartD→List BatD→Int
 | _,[]=>0
 | p,b::l=>if (aJ p.prods b (-1)).2≠0 then (aJ p.prods b (-1)).2 else aNj (gZ p b) l
theorem aDc:∀ (l:List BatD) (p:PartD) (k:Nat) (hk:k<l.length),(aF p (l.take k)).1=true→(aJ (aF p (l.take k)).2.prods l[k] (-1)).2≠0 →
  aNk p l=k∧aNj p l=(aJ (aF p (l.take k)).2.prods l[k] (-1)).2
 | [],_,k,hk,_,_=>by simp at hk
 | b::l,p,0,_,_,h=>by
  have h:(aJ p.prods b (-1)).2≠0:=h
  refine⟨?_,?_⟩
  ·show (if _ then _ else _)=_;rw[if_pos h]
  ·show (if _ then _ else _)=_;rw[if_pos h];rfl
 | b::l,p,k+1,hk,h1,h2=>by
  by_cases h:(aJ p.prods b (-1)).2≠0
  ·have:aF p ((b::l).take (k+1))=(false,p):=by show (if _ then _ else _)=_;rw[if_pos h]
   rw[this] at h1;cases h1
  ·have e:aF p ((b::l).take (k+1))=aF (gZ p b) (l.take k):=by show (if _ then _ else _)=_;rw[if_neg h]
   rw[e] at h1 h2
   obtain⟨q1,q2⟩:=aDc l (gZ p b) k (by simpa using hk) h1 (by simpa using h2)
   refine⟨?_,?_⟩
   ·show (if _ then _ else _)=_;rw[if_neg h,q1]
   ·show (if _ then _ else _)=_;rw[if_neg h,q2,e];rfl
theorem aTo (w:eV) (pid:Int) (l:List BatD):nO (eE w pid l) pid=true:=by
 have hm:pid ∈ pQ (eE w pid l):=by
  rw[aAm]
  split
  ·rename_i h;exact List.mem_of_getElem? (sR h)
  ·simp
 cases h:nO (eE w pid l) pid with
 | true=>rfl
 | false=>exact absurd hm (kV h)
abbrev cm1:List UInt8:=[97,32,99,111,112,121,32,116,104,97,116,32,105,115,32,111,110,101,32,116,111,111,32,109,97,110,121,44,32,111,114,32,111,102,32,97,110,111,116,104,101,114,32,101,112,111,99,104]
abbrev cm2:List UInt8:=[116,104,101,32,110,101,120,116,32,115,101,113,117,101,110,99,101,32,111,102,32,97,32,99,111,112,121]
abbrev cm3:List UInt8:=[99,111,112,105,101,115,32,119,105,116,104,111,117,116,32,114,111,111,109]
def rG (s:BufS) (e:EntD):List BatD:=cG s.w e.b.pid++[e.b]
def aIv (s:BufS) (e:EntD):Nat:=if nO s.w e.b.pid then s.vt e.b.pid.toNat+1 else s.vt e.b.pid.toNat+2
def aDx (s:BufS) (e:EntD):SV :=
 if jT (cG s.w e.b.pid) e.b=true then jA cm1 else
 if e.yes=false then lH else
 if e.next≠dQ e.b then jA cm2 else
 if (aF s.p (rG s e)).1=false then jA (aL3 (aNj s.p (rG s e))) else
 if 1048576<(aF s.p (rG s e)).2.fin then jA cm3 else lH
def aY5 (s:BufS) (e:EntD):BufS:={ s with vt:=jS s.vt e.b.pid.toNat (aIv s e) }
def aLr (s:BufS) (e:EntD) (p:PartD) (n:Nat):BufS:=⟨p,eE s.w e.b.pid (rG s e),s.vr+n,jS s.vt e.b.pid.toNat (aIv s e),jS s.vc e.b.pid.toNat (aIv s e)⟩
def aY6 (s:BufS) (e:EntD):BufS:=⟨{ (aF s.p (rG s e)).2 with prods:=dT (aF s.p (rG s e)).2.prods e.b.pid },cI (eE s.w e.b.pid (rG s e)) e.b.pid,s.vr+(rG s e).length,jS s.vt e.b.pid.toNat (aIv s e),jS s.vc e.b.pid.toNat (aIv s e)⟩
def aAb (s:BufS) (e:EntD):BufS :=
 if jT (cG s.w e.b.pid) e.b=true then aY5 s e else
 if e.yes=false then aLr s e s.p 0 else
 if e.next≠dQ e.b then aLr s e s.p 0 else
 if (aF s.p (rG s e)).1=false then aLr s e (aF s.p (rG s e)).2 (aNk s.p (rG s e)) else
 if 1048576<(aF s.p (rG s e)).2.fin then aLr s e (aF s.p (rG s e)).2 (rG s e).length else aY6 s e
structure BokB (s:BufS):Prop where
 w:OkW s.w
 v:s.vc=s.vt
 sm:Sm14 s.p s.w
theorem aUp {s:BufS} (h:BokB s) (pid:Int):(cG s.w pid).length≤8∧∀ b ∈ cG s.w pid,b.recs.length≤4:=aXb h.sm pid
theorem aB7 {s:BufS} {e:EntD} (h:BokB s) (hp:1≤e.b.pid∧e.b.pid≤8):iG (aAb s e).w:=by
 have h1:=h.w.pid
 have h2:=aHm h1 hp (rG s e)
 have h3:=mQ h2 e.b.pid
 unfold aAb
 repeat' split
 all_goals first|exact h1|exact h2|exact h3
theorem aIw (s:BufS) (e:EntD):pM (aDx s e).ids gF=true:=by
 unfold aDx
 repeat' split
 all_goals rfl
theorem aPb (s:BufS) (e:EntD) (h:BokB s) (hb:e.b.recs.length≤4) (hp:1≤e.b.pid∧e.b.pid≤8) :
  FunG Tryz.prog 159 [.c (.own 0 0),kI e] gF (bK (iH s)) (aDx s e) gF (bK (iH (aAb s e))):=by
 have hw:=h.w.pid
 have hv:=h.v
 obtain⟨hl8,hlr⟩:=aUp h e.b.pid
 have c5:=aB1 e.b (by omega)
 simp only[BatD.dv] at c5
 refine FunG.of_bodyH rfl rfl Tryz.func159 rfl rfl Tryz.ntmps159 Tryz.results159 (Nat.le_of_ble_eq_true rfl) (kS rfl (aIw s e) hw (aB7 h hp)) ?_
 obtain⟨q,hq⟩:∃ q,q=e.b.pid.toNat:=⟨_,rfl⟩
 have hq2:q=1∨q=2∨q=3∨q=4∨q=5∨q=6∨q=7∨q=8:=by omega
 obtain⟨l,hl⟩:∃ l,l=cG s.w e.b.pid:=⟨_,rfl⟩
 have hl8' : l.length≤8:=by rw[hl];exact hl8
 obtain⟨n,hn⟩:∃ n,n=aIv s e:=⟨_,rfl⟩
 have hLe:rG s e=l++[e.b]:=by unfold rG;rw[hl]
 have hbad:jT (cG s.w e.b.pid) e.b=jT l e.b:=by rw[hl]
 have h1e:aY5 s e = { s with vt:=jS s.vt q n }:=by unfold aY5;rw[hq,hn]
 have hτ:∀ (X:List (Nat × HE)),bK (iH s++X) (30+q)=some (.rot 62 5 (s.vt q)):=fun X=>by rcases hq2 with rfl|rfl|rfl|rfl|rfl|rfl|rfl|rfl<;>rfl
 (refine gO (ai @aC (ai @EntD.dv.eq_1 (ai @List.map_cons.{0,0} (@List.map_nil.{0,0})))) ?_)
 refine Wp.meetT ⟨iC [(0,.c (.own 0 0)),(3,.c (.own 1000 0)),(4,lH),(5,.c (.own 1001 0)),(6,.c (.apt (30+q) 5 ((l++[e.b]).map BatD.dv) n))],bK (bfX { s with vt:=jS s.vt q n } e),1010,119,⟨gF,[],false,none⟩⟩ ?_ ?_
 ·cases hk:nO s.w e.b.pid with
  | true =>
   have hn1:n=s.vt q+1:=by rw[hn];unfold aIv;rw[hk,if_pos rfl,hq]
   have hci:=aUq (vt:=s.vc) hk
   rw[← hq,← hl,hv] at hci
   subst hn1
   (first|refine Wp.sregM aI ?_|refine Wp.regM aI ?_|(refine Wp.seq ?_;first|refine Wp.sregM aI ?_|refine Wp.regM aI ?_))
   (refine cN.at 6 (fun K hK=>?_);(refine rO (ai @aC (ai @EntD.dv.eq_1 (ai @List.map_cons.{0,0} (@List.map_nil.{0,0})))) ?_);refine hK _ _ ?_;clear hK K)
   refine cN.imapHas rfl 8 (pQ s.w) (rJ s.vc s.w) (wI s.w e.b.pid) e.b.pid _ _ jG jX aAk (sR hk) (fun j hj=>qW hj) (by rw[hv];exact hci) ⟨by kernel_rfl,by kernel_rfl,eY ?_ ?_,?_⟩ ?_
   ·(refine rO (@aC) ?_;try with_reducible exact tt)
   ·(refine rO (@aC) ?_;try with_reducible exact tt)
   ·simp (maxSteps:=2000000) (disch:=omega) only[gE,TY,bV,eJ,fQ,SV.ofD,dS,eQ,fL,fM,bP,fN,eW,eT,fO,eN,fJ,fI,fK,CV.exact,CV.lstOf,CV.lenOf,CV.one,D.one,Value.oneCell',CV.toD0,fT,eB,fW,fG,rD0,gA,fF,fV,reduceCtorEq,reduceIte,Nat.reduceBEq,Nat.reduceEqDiff,Nat.reduceAdd,Nat.reduceMul,Nat.reduceSub,Nat.reduceLT,Nat.reduceLeDiff,Nat.reduceBNe,Int.reduceLE,Int.reduceLT,Int.reduceBEq,Int.reduceBNe,Int.reduceEq,Int.reduceNeg,Int.reduceAdd,Int.reduceSub,Int.reduceToNat,forall_const,iN,vB,aC,EntD.dv,List.map_cons,List.map_nil]
   (refine cN.at 3 (fun K hK=>?_);(refine rO (ai @aC (ai @BatD.dv.eq_1 (ai @EntD.dv.eq_1 (ai @List.map_cons.{0,0} (@List.map_nil.{0,0}))))) ?_);refine eA c5 ?_;(refine rO (ai @aC (ai @BatD.dv.eq_1 (ai @EntD.dv.eq_1 (ai @List.map_cons.{0,0} (@List.map_nil.{0,0}))))) ?_);refine hK _ _ ?_;clear hK K)
   refine cN.rotApp (τ:=30+q) (n:=s.vt q) (xs:=l.map BatD.dv) (ys:=[e.b.dv]) (cy:=.full 5 [e.b.dv]) rfl zN ⟨rfl,by decide,by decide⟩ ⟨by (refine rO (@aC) ?_;try with_reducible exact tt),by (refine rO (@aC) ?_;try with_reducible exact tt),by (refine rO (@aC) ?_;try with_reducible exact tt),by (refine rO (ai @aC (@BatD.dv.eq_1)) ?_;try with_reducible exact tt),rfl,?_,?_,?_⟩ ?_
   ·rcases hq2 with rfl|rfl|rfl|rfl|rfl|rfl|rfl|rfl<;>((refine rO (@aC) ?_;try with_reducible exact tt))
   ·simp only[List.length_map,List.length_cons,List.length_nil];omega
   ·rcases hq2 with rfl|rfl|rfl|rfl|rfl|rfl|rfl|rfl<;>rfl
   (refine cN.done (fun K hK=>?_);(refine rO (ai @aC (ai @EntD.dv.eq_1 (ai @BatD.dv.eq_1 (ai @List.map_cons.{0,0} (@List.map_nil.{0,0}))))) ?_);refine hK _ _ ?_;clear hK K;refine⟨by kernel_rfl,?_⟩)
   refine aD.keep rfl (oZ hw ?_) ?_
   ·rcases hq2 with rfl|rfl|rfl|rfl|rfl|rfl|rfl|rfl<;>rfl
   ·rcases hq2 with rfl|rfl|rfl|rfl|rfl|rfl|rfl|rfl<;>(simp (maxSteps:=2000000) (disch:=omega) only[gE,TY,bV,eJ,fQ,SV.ofD,dS,eQ,fL,fM,bP,fN,eW,eT,fO,eN,fJ,fI,fK,CV.exact,CV.lstOf,CV.lenOf,CV.one,D.one,Value.oneCell',CV.toD0,fT,eB,fW,fG,rD0,gA,fF,fV,reduceCtorEq,reduceIte,Nat.reduceBEq,Nat.reduceEqDiff,Nat.reduceAdd,Nat.reduceMul,Nat.reduceSub,Nat.reduceLT,Nat.reduceLeDiff,Nat.reduceBNe,Int.reduceLE,Int.reduceLT,Int.reduceBEq,Int.reduceBNe,Int.reduceEq,Int.reduceNeg,Int.reduceAdd,Int.reduceSub,Int.reduceToNat,forall_const,aC,jS,EntD.dv,BatD.dv,List.map_append,List.map_cons,List.map_nil])
  | false =>
   have hn1:n=s.vt q+1+1:=by rw[hn];unfold aIv;rw[hk,if_neg Bool.false_ne_true,hq]
   have hl0:l=[]:=by rw[hl];exact qV hk
   subst hn1
   subst hl0
   have hx1:((1001:Nat) == 30+q)=false:=by rw[beq_eq_false_iff_ne];omega
   (first|refine Wp.sregM aI ?_|refine Wp.regM aI ?_|(refine Wp.seq ?_;first|refine Wp.sregM aI ?_|refine Wp.regM aI ?_))
   (refine cN.at 6 (fun K hK=>?_);(refine rO (ai @aC (ai @EntD.dv.eq_1 (ai @List.map_cons.{0,0} (@List.map_nil.{0,0})))) ?_);refine hK _ _ ?_;clear hK K)
   refine cN.imapFresh rfl 8 (pQ s.w) (rJ s.vc s.w) e.b.pid (30+q) 62 5 (s.vt q) jG jX aAk (kV hk) ?_ ?_ ⟨by kernel_rfl,by kernel_rfl,eY ?_ ?_,?_⟩ ?_
   ·rcases hq2 with rfl|rfl|rfl|rfl|rfl|rfl|rfl|rfl<;>((refine rO (@aC) ?_;try with_reducible exact tt))
   ·rcases hq2 with rfl|rfl|rfl|rfl|rfl|rfl|rfl|rfl<;>rfl
   ·(refine rO (@aC) ?_;try with_reducible exact tt)
   ·(refine rO (@aC) ?_;try with_reducible exact tt)
   ·simp (maxSteps:=2000000) (disch:=omega) only[gE,TY,bV,eJ,fQ,SV.ofD,dS,eQ,fL,fM,bP,fN,eW,eT,fO,eN,fJ,fI,fK,CV.exact,CV.lstOf,CV.lenOf,CV.one,D.one,Value.oneCell',CV.toD0,fT,eB,fW,fG,rD0,gA,fF,fV,reduceCtorEq,reduceIte,Nat.reduceBEq,Nat.reduceEqDiff,Nat.reduceAdd,Nat.reduceMul,Nat.reduceSub,Nat.reduceLT,Nat.reduceLeDiff,Nat.reduceBNe,Int.reduceLE,Int.reduceLT,Int.reduceBEq,Int.reduceBNe,Int.reduceEq,Int.reduceNeg,Int.reduceAdd,Int.reduceSub,Int.reduceToNat,forall_const,iN,vB,aC,EntD.dv,List.map_cons,List.map_nil]
   (refine cN.at 3 (fun K hK=>?_);(refine rO (ai @aC (ai hx1 (ai @BatD.dv.eq_1 (ai @EntD.dv.eq_1 (ai @List.map_cons.{0,0} (@List.map_nil.{0,0})))))) ?_);refine eA c5 ?_;(refine rO (ai @aC (ai hx1 (ai @BatD.dv.eq_1 (ai @EntD.dv.eq_1 (ai @List.map_cons.{0,0} (@List.map_nil.{0,0})))))) ?_);refine hK _ _ ?_;clear hK K)
   refine cN.rotApp (τ:=30+q) (n:=s.vt q+1) (xs:=[]) (ys:=[e.b.dv]) (cy:=.full 5 [e.b.dv]) rfl zN ⟨rfl,by decide,by decide⟩ ⟨by (refine rO (@aC) ?_;try with_reducible exact tt),by (refine rO (@aC) ?_;try with_reducible exact tt),by (refine rO (@aC) ?_;try with_reducible exact tt),by (refine rO (ai @aC (@BatD.dv.eq_1)) ?_;try with_reducible exact tt),rfl,?_,by simp,?_⟩ ?_
   ·rcases hq2 with rfl|rfl|rfl|rfl|rfl|rfl|rfl|rfl<;>((refine rO (@aC) ?_;try with_reducible exact tt))
   ·rcases hq2 with rfl|rfl|rfl|rfl|rfl|rfl|rfl|rfl<;>rfl
   rcases hq2 with rfl|rfl|rfl|rfl|rfl|rfl|rfl|rfl<;>((refine cN.done (fun K hK=>?_);(refine rO (ai @aC (ai @EntD.dv.eq_1 (ai @BatD.dv.eq_1 (ai @List.map_cons.{0,0} (@List.map_nil.{0,0}))))) ?_);refine hK _ _ ?_;clear hK K;refine⟨by kernel_rfl,?_⟩);refine aD.keep rfl (oZ hw rfl) ?_;simp (maxSteps:=2000000) (disch:=omega) only[gE,TY,bV,eJ,fQ,SV.ofD,dS,eQ,fL,fM,bP,fN,eW,eT,fO,eN,fJ,fI,fK,CV.exact,CV.lstOf,CV.lenOf,CV.one,D.one,Value.oneCell',CV.toD0,fT,eB,fW,fG,rD0,gA,fF,fV,reduceCtorEq,reduceIte,Nat.reduceBEq,Nat.reduceEqDiff,Nat.reduceAdd,Nat.reduceMul,Nat.reduceSub,Nat.reduceLT,Nat.reduceLeDiff,Nat.reduceBNe,Int.reduceLE,Int.reduceLT,Int.reduceBEq,Int.reduceBNe,Int.reduceEq,Int.reduceNeg,Int.reduceAdd,Int.reduceSub,Int.reduceToNat,forall_const,aC,jS,EntD.dv,BatD.dv,List.nil_append,List.map_cons,List.map_nil])
 obtain⟨c,hg0,hbc⟩:∃ c,(l++[e.b])[0]? = some c∧jT l e.b=(decide ((8:Int)<((l++[e.b]).length:Int)) || (c.epoch != e.b.epoch)):=by
  cases l with
  | nil=>exact⟨e.b,rfl,by simp[jT]⟩
  | cons c r =>
   refine⟨c,rfl,?_⟩
   show (decide ((8:Int)≤((c::r).length:Int)) || (c.epoch != e.b.epoch))=_
   congr 1
   rw[List.length_append]
   simp
   omega
 obtain⟨L,hL⟩:∃ L,L=l++[e.b]:=⟨_,rfl⟩
 have hLl:L.length≤9:=by rw[hL,List.length_append];simp;omega
 have hLr:∀ b ∈ L,b.recs.length≤4:=fun b hbm=>by
  rw[hL] at hbm
  rcases List.mem_append.1 hbm with h1|h1
  ·exact hlr b (by rw[← hl];exact h1)
  ·simp at h1;subst h1;exact hb
 rw[← hL] at hg0 hbc hLe ⊢
 (first|refine Wp.stoD 34 (vb (jT l e.b)) aI ?_ ?_|refine Wp.rtoDS 34 (vb (jT l e.b)) aI ?_ ?_|(refine Wp.seq ?_;first|refine Wp.stoD 34 (vb (jT l e.b)) aI ?_ ?_|refine Wp.rtoDS 34 (vb (jT l e.b)) aI ?_ ?_))
 ·rw[hbc]
  cases q1:decide ((8:Int)<(L.length:Int))<;>cases q2:(c.epoch != e.b.epoch)<;>(((refine rO (ai @EntD.dv.eq_1 (ai @BatD.dv.eq_1 (ai hg0 (ai q1 (ai q2 (ai @List.map_cons.{0,0} (@List.map_nil.{0,0}))))))) ?_);(repeat (refine eA (by assumption) ?_;(refine rO (ai @EntD.dv.eq_1 (ai @BatD.dv.eq_1 (ai hg0 (ai q1 (ai q2 (ai @List.map_cons.{0,0} (@List.map_nil.{0,0}))))))) ?_))));all_goals (exact (show bI _ _=true by kernel_rfl)))
 cases hB:jT l e.b with
 | true =>
  have e1:aDx s e=jA cm1:=by unfold aDx;rw[if_pos (hbad.trans hB)]
  have e2:aAb s e = { s with vt:=jS s.vt q n }:=by unfold aAb;rw[if_pos (hbad.trans hB),h1e]
  have c6:=cP cm1
  rw[e1,e2]
  (refine gO (@aC) ?_)
  refine aX.ret ?_
  (refine rO (ai @aC (ai @aS.eq_1 (@aS.eq_2))) ?_;try with_reducible exact tt)
 | false =>
 have hnb:¬ jT (cG s.w e.b.pid) e.b=true:=by rw[hbad,hB];exact Bool.false_ne_true
 unfold aDx aAb
 rw[if_neg hnb,if_neg hnb]
 have hwp:=aHm hw hp L
 have h2e:∀ p m,aLr s e p m=⟨p,eE s.w e.b.pid L,s.vr+m,jS s.vt q n,jS s.vc q n⟩:=fun p m=>by unfold aLr;rw[hLe,← hq,← hn]
 (refine gO (@aC) ?_)
 refine Wp.meetT ⟨iC [(0,.c (.own 0 0)),(3,.c (.own 1000 0)),(5,.c (.own 1001 0)),(6,.c (.apt (30+q) 5 (L.map BatD.dv) n))],bK (bfX ⟨s.p,eE s.w e.b.pid L,s.vr+0,jS s.vt q n,jS s.vc q n⟩ e),1010,119,⟨gF,[],false,none⟩⟩ ?_ ?_
 ·cases hk:nO s.w e.b.pid with
  | true =>
   obtain⟨p1,p2⟩:=aUs (vt:=s.vc) h.w hp L n hk
   rw[← hq] at p1
   (first|refine Wp.sregM aI ?_|refine Wp.regM aI ?_|(refine Wp.seq ?_;first|refine Wp.sregM aI ?_|refine Wp.regM aI ?_))
   (refine cN.at 7 (fun K hK=>?_);(refine rO (ai @aC (ai @EntD.dv.eq_1 (ai @BatD.dv.eq_1 (ai @List.map_cons.{0,0} (@List.map_nil.{0,0}))))) ?_);refine hK _ _ ?_;clear hK K)
   refine cN.imapPut rfl 8 (pQ s.w) (rJ s.vc s.w) (wI s.w e.b.pid) e.b.pid (.apt (30+q) 5 (L.map BatD.dv) n) jG jX (sR hk) (fun j hj=>qW hj) ⟨by kernel_rfl,by kernel_rfl,eY ?_ ?_,?_,?_,by kernel_rfl⟩ ?_
   ·(refine rO (@aC) ?_;try with_reducible exact tt)
   ·(refine rO (@aC) ?_;try with_reducible exact tt)
   ·simp (maxSteps:=2000000) (disch:=omega) only[gE,TY,bV,eJ,fQ,SV.ofD,dS,eQ,fL,fM,bP,fN,eW,eT,fO,eN,fJ,fI,fK,CV.exact,CV.lstOf,CV.lenOf,CV.one,D.one,Value.oneCell',CV.toD0,fT,eB,fW,fG,rD0,gA,fF,fV,reduceCtorEq,reduceIte,Nat.reduceBEq,Nat.reduceEqDiff,Nat.reduceAdd,Nat.reduceMul,Nat.reduceSub,Nat.reduceLT,Nat.reduceLeDiff,Nat.reduceBNe,Int.reduceLE,Int.reduceLT,Int.reduceBEq,Int.reduceBNe,Int.reduceEq,Int.reduceNeg,Int.reduceAdd,Int.reduceSub,Int.reduceToNat,forall_const,iN,vB,aC,EntD.dv,BatD.dv,List.map_cons,List.map_nil]
   ·(refine rO (@aC) ?_;try with_reducible exact tt)
   rw[p1,p2]
   (refine cN.done (fun K hK=>?_);(refine rO (ai @aC (ai @EntD.dv.eq_1 (ai @BatD.dv.eq_1 (ai @List.map_cons.{0,0} (@List.map_nil.{0,0}))))) ?_);refine hK _ _ ?_;clear hK K;refine⟨by kernel_rfl,?_⟩)
   refine aD.keep rfl (oZ hwp ?_) ?_
   ·rcases hq2 with rfl|rfl|rfl|rfl|rfl|rfl|rfl|rfl<;>rfl
   ·(refine rO (ai @aC (ai @Nat.add_zero (ai @EntD.dv.eq_1 (ai @BatD.dv.eq_1 (ai @List.map_cons.{0,0} (@List.map_nil.{0,0})))))) ?_;try with_reducible exact tt)
  | false =>
   obtain⟨p1,p2⟩:=aUr (vt:=s.vc) h.w hp L n hk
   rw[← hq] at p1
   (first|refine Wp.sregM aI ?_|refine Wp.regM aI ?_|(refine Wp.seq ?_;first|refine Wp.sregM aI ?_|refine Wp.regM aI ?_))
   (refine cN.at 7 (fun K hK=>?_);(refine rO (ai @aC (ai @EntD.dv.eq_1 (ai @BatD.dv.eq_1 (ai @List.map_cons.{0,0} (@List.map_nil.{0,0}))))) ?_);refine hK _ _ ?_;clear hK K)
   refine cN.imapAdd rfl 8 (pQ s.w) (rJ s.vc s.w) e.b.pid (.apt (30+q) 5 (L.map BatD.dv) n) jG jX (kV hk) ⟨by kernel_rfl,by kernel_rfl,eY ?_ ?_,?_,?_,by kernel_rfl⟩ ?_
   ·(refine rO (@aC) ?_;try with_reducible exact tt)
   ·(refine rO (@aC) ?_;try with_reducible exact tt)
   ·simp (maxSteps:=2000000) (disch:=omega) only[gE,TY,bV,eJ,fQ,SV.ofD,dS,eQ,fL,fM,bP,fN,eW,eT,fO,eN,fJ,fI,fK,CV.exact,CV.lstOf,CV.lenOf,CV.one,D.one,Value.oneCell',CV.toD0,fT,eB,fW,fG,rD0,gA,fF,fV,reduceCtorEq,reduceIte,Nat.reduceBEq,Nat.reduceEqDiff,Nat.reduceAdd,Nat.reduceMul,Nat.reduceSub,Nat.reduceLT,Nat.reduceLeDiff,Nat.reduceBNe,Int.reduceLE,Int.reduceLT,Int.reduceBEq,Int.reduceBNe,Int.reduceEq,Int.reduceNeg,Int.reduceAdd,Int.reduceSub,Int.reduceToNat,forall_const,iN,vB,aC,EntD.dv,BatD.dv,List.map_cons,List.map_nil]
   ·(refine rO (@aC) ?_;try with_reducible exact tt)
   rw[p1,p2]
   (refine cN.done (fun K hK=>?_);(refine rO (ai @aC (ai @EntD.dv.eq_1 (ai @BatD.dv.eq_1 (ai @List.map_cons.{0,0} (@List.map_nil.{0,0}))))) ?_);refine hK _ _ ?_;clear hK K;refine⟨by kernel_rfl,?_⟩)
   refine aD.keep rfl (oZ hwp ?_) ?_
   ·rcases hq2 with rfl|rfl|rfl|rfl|rfl|rfl|rfl|rfl<;>rfl
   ·(refine rO (ai @aC (ai @Nat.add_zero (ai @EntD.dv.eq_1 (ai @BatD.dv.eq_1 (ai @List.map_cons.{0,0} (@List.map_nil.{0,0})))))) ?_;try with_reducible exact tt)
 cases hy:e.yes with
 | false =>
  rw[if_pos rfl,if_pos rfl,h2e]
  (refine gO (ai @aC (ai @EntD.dv.eq_1 (ai @BatD.dv.eq_1 (ai hy (ai @List.map_cons.{0,0} (@List.map_nil.{0,0})))))) ?_)
  refine aX.ret ?_
  (refine rO (ai @aC (ai @aS.eq_1 (@aS.eq_2))) ?_;try with_reducible exact tt)
 | true =>
 have ny:¬ (true=false):=by simp
 rw[if_neg ny,if_neg ny]
 have c7:=aNs e.b
 simp only[BatD.dv] at c7
 by_cases hnx:e.next≠dQ e.b
 ·have dn:(e.next != dQ e.b)=true:=by simpa using hnx
  have c6:=cP cm2
  rw[if_pos hnx,if_pos hnx,h2e]
  (refine gO (ai @aC (ai @EntD.dv.eq_1 (ai @BatD.dv.eq_1 (ai hy (ai dn (ai @List.map_cons.{0,0} (@List.map_nil.{0,0}))))))) ?_)
  refine aX.ret ?_
  (refine rO (ai @aC (ai @aS.eq_1 (@aS.eq_2))) ?_;try with_reducible exact tt)
 have dn:(e.next != dQ e.b)=false:=by simpa using hnx
 rw[if_neg hnx,if_neg hnx]
 (refine gO (ai @aC (ai @EntD.dv.eq_1 (ai @BatD.dv.eq_1 (ai hy (ai dn (ai @List.map_cons.{0,0} (@List.map_nil.{0,0}))))))) ?_)
 have hsm0:=h.sm.prods
 have hfin:=h.sm.fin
 have hrows:=h.sm.rows
 refine Wp.loop (fun k:Nat=>⟨iC [(0,.c (.own 0 0)),(3,.c (.own 1000 0)),(5,.c (.own 1001 0)),(52,.c (.d (.lst 5 (L.map BatD.dv)))),(53,vi .i64 L.length),(54,vi .i64 k)],bK (bfX ⟨(aF s.p (L.take k)).2,eE s.w e.b.pid L,s.vr+k,jS s.vt q n,jS s.vc q n⟩ e),1020,119,⟨gF,[],false,none⟩⟩) (fun k=>k≤L.length∧(aF s.p (L.take k)).1=true) (fun k=>L.length - k) 0 ⟨Nat.zero_le _,rfl⟩ ?_ ?_
 ·refine aD.trans (aD.aptD (t:=52) (τ:=30+q) (sz:=5) (n:=n) (xs:=L.map BatD.dv) (by (refine rO (@aC) ?_;try with_reducible exact tt))) (aD.keep rfl (oZ hwp rfl) ?_)
  simp (maxSteps:=2000000) (disch:=omega) only[gE,TY,bV,eJ,fQ,SV.ofD,dS,eQ,fL,fM,bP,fN,eW,eT,fO,eN,fJ,fI,fK,CV.exact,CV.lstOf,CV.lenOf,CV.one,D.one,Value.oneCell',CV.toD0,fT,eB,fW,fG,rD0,gA,fF,fV,reduceCtorEq,reduceIte,Nat.reduceBEq,Nat.reduceEqDiff,Nat.reduceAdd,Nat.reduceMul,Nat.reduceSub,Nat.reduceLT,Nat.reduceLeDiff,Nat.reduceBNe,Int.reduceLE,Int.reduceLT,Int.reduceBEq,Int.reduceBNe,Int.reduceEq,Int.reduceNeg,Int.reduceAdd,Int.reduceSub,Int.reduceToNat,forall_const,aC,aF,List.take_zero,hy,EntD.dv,BatD.dv,List.map_cons,List.map_nil,List.length_map]
 rintro k ⟨hk,htk⟩
 obtain⟨g1,g2,g3,g4,g5,g6,g7⟩:=yT (L.take k) s.p (fun b hbm=>hLr b (List.mem_of_mem_take hbm)) h.sm.seen
 have hlt9:(L.take k).length≤9:=by rw[List.length_take];omega
 have hqs:SmallL (aF s.p (L.take k)).2.prods:=⟨by omega,fun x hx=>by have:=g7 x hx;omega⟩
 by_cases hkl:k<L.length
 ·have d1:decide ((k:Int)<(L.length:Int))=true:=decide_eq_true (by omega)
  have hge:L[k]? = some L[k]:=List.getElem?_eq_getElem hkl
  have hwk:IntKind.i64.wrap ((k:Int)+1)=((k+1:Nat):Int):=by rw[aT (by omega)];rfl
  have hsn:=aL1 hkl htk
  have hx:=hLr _ (List.getElem_mem hkl)
  have hfl:=aDc L s.p k hkl htk
  generalize L[k]=b at *
  have hstop:=fun h=>aL2 (p:=s.p) (l:=L) (k:=k+1) h
  generalize (aF s.p (L.take k)).2=p at *
  obtain⟨bt,hbt⟩:∃ bt:BufS,bt=⟨p,eE s.w e.b.pid L,s.vr+k,jS s.vt q n,jS s.vc q n⟩:=⟨_,rfl⟩
  have hbW:aP5 b = .agg (b.dv.map CV.d):=rfl
  by_cases hz:(aJ p.prods b (-1)).2≠0
  ·rw[if_pos hz] at hsn
   have hst:=hstop (by rw[hsn])
   rw[hsn] at hst
   obtain⟨f1,f2⟩:=hfl hz
   have c4:=aB2 ⟨p,eE s.w e.b.pid L,s.vr+k,jS s.vt q n,jS s.vc q n⟩ b hwp hqs (by omega) hz
   rw[hLe,hst,if_pos rfl,if_pos rfl,h2e,f1,f2]
   (refine gO (ai @aC (ai d1 (ai hge (ai @BatD.dv.eq_1 (ai @List.map_cons.{0,0} (@List.map_nil.{0,0})))))) ?_)
   (first|refine Wp.sregG ?_|refine Wp.regG ?_|(refine Wp.seq ?_;first|refine Wp.sregG ?_|refine Wp.regG ?_))
   (refine aG.at 2 (fun K hK=>?_);(refine rO (ai @aC (ai @BatD.dv.eq_1 (ai @List.map_cons.{0,0} (@List.map_nil.{0,0})))) ?_);refine hK _ ?_;clear hK K)
   (refine aG.call (c4) [] 1040 rfl rfl ?_ ?_;(focus ((refine yL (ai @eP (ai @aC (ai @aW (ai hbW (ai @BatD.dv.eq_1 (ai @List.map_cons.{0,0} (@List.map_nil.{0,0}))))))) ?_;try with_reducible exact tt);done)))
   (refine aG.done (fun K hK=>?_);(refine rOt (ai @aC (ai @cU.eq_1 (ai @cU.eq_2 (ai @aW (ai @cH (ai @List.map_cons.{0,0} (@List.map_nil.{0,0}))))))) ?_);refine hK _ ?_;clear hK K)
   (refine gO (@aC) ?_)
   refine aX.ret ?_
   (refine rO (ai @aC (ai @aS.eq_1 (@aS.eq_2))) ?_;try with_reducible exact tt)
  ·have hz0:(aJ p.prods b (-1)).2=0:=by simpa using hz
   rw[if_neg hz] at hsn
   have c4:=aB3 ⟨p,eE s.w e.b.pid L,s.vr+k,jS s.vt q n,jS s.vc q n⟩ b hwp hqs (by omega) hz0
   have c9:=aKs b p.fin (by omega)
   have hrl:=iL b p.fin
   have hwf:IntKind.i64.wrap (p.fin+(b.recs.length:Int))=p.fin+(b.recs.length:Int):=aT (by omega)
   unfold aHy at c4
   generalize hnp:(aJ p.prods b (-1)).1=np at *
   simp only[BatD.dv] at c9
   (refine gO (ai @aC (ai d1 (ai hge (ai @BatD.dv.eq_1 (ai @List.map_cons.{0,0} (@List.map_nil.{0,0})))))) ?_)
   (first|refine Wp.sregG ?_|refine Wp.regG ?_|(refine Wp.seq ?_;first|refine Wp.sregG ?_|refine Wp.regG ?_))
   (refine aG.at 2 (fun K hK=>?_);(refine rO (ai @aC (ai @BatD.dv.eq_1 (ai @List.map_cons.{0,0} (@List.map_nil.{0,0})))) ?_);refine hK _ ?_;clear hK K)
   (refine aG.call (c4) [] 1040 rfl rfl ?_ ?_;(focus ((refine yL (ai @eP (ai @aC (ai @aW (ai hbW (ai @BatD.dv.eq_1 (ai @List.map_cons.{0,0} (@List.map_nil.{0,0}))))))) ?_;try with_reducible exact tt);done)))
   (refine aG.done (fun K hK=>?_);(refine rOt (ai @aC (ai @cU.eq_1 (ai @cU.eq_2 (ai @aW (ai @cH (ai @List.map_cons.{0,0} (@List.map_nil.{0,0}))))))) ?_);refine hK _ ?_;clear hK K)
   (refine gO (ai @aC (@BatD.dv.eq_1)) ?_)
   (first|refine Wp.sregM aI ?_|refine Wp.regM aI ?_|(refine Wp.seq ?_;first|refine Wp.sregM aI ?_|refine Wp.regM aI ?_))
   (refine cN.at 13 (fun K hK=>?_);(refine rO (ai @aC (ai @BatD.dv.eq_1 (ai @List.map_cons.{0,0} (@List.map_nil.{0,0})))) ?_);refine eA c9 ?_;(refine rO (ai @aC (ai @BatD.dv.eq_1 (ai @List.map_cons.{0,0} (@List.map_nil.{0,0})))) ?_);refine hK _ _ ?_;clear hK K)
   refine cN.rotApp (τ:=9) (n:=s.vr+k) (xs:=p.rows.map RowD.dv) (ys:=(cB b p.fin).map RowD.dv) (cy:=.d (.lst 5 ((cB b p.fin).map RowD.dv))) rfl rS ⟨rfl,by decide,by decide⟩ ⟨by (refine rO (@aC) ?_;try with_reducible exact tt),by (refine rO (@aC) ?_;try with_reducible exact tt),by (refine rO (@aC) ?_;try with_reducible exact tt),by (refine rO (@aC) ?_;try with_reducible exact tt),rfl,by (refine rO (@aC) ?_;try with_reducible exact tt),by simp only[List.length_map];omega,rfl⟩ ?_
   rw[← List.map_append]
   (refine cN.done (fun K hK=>?_);(refine rO (ai @aC (ai @BatD.dv.eq_1 (ai @List.map_cons.{0,0} (@List.map_nil.{0,0})))) ?_);refine hK _ _ ?_;clear hK K;refine⟨by kernel_rfl,?_⟩)
   (refine gO (ai @aC (ai @BatD.dv.eq_1 (hwf))) ?_)
   refine⟨k+1,⟨hkl,by rw[hsn]⟩,by omega,?_⟩
   rw[hsn]
   refine aD.keep rfl (oZ hwp rfl) ?_
   simp (maxSteps:=2000000) (disch:=omega) only[gE,TY,bV,eJ,fQ,SV.ofD,dS,eQ,fL,fM,bP,fN,eW,eT,fO,eN,fJ,fI,fK,CV.exact,CV.lstOf,CV.lenOf,CV.one,D.one,Value.oneCell',CV.toD0,fT,eB,fW,fG,rD0,gA,fF,fV,reduceCtorEq,reduceIte,Nat.reduceBEq,Nat.reduceEqDiff,Nat.reduceAdd,Nat.reduceMul,Nat.reduceSub,Nat.reduceLT,Nat.reduceLeDiff,Nat.reduceBNe,Int.reduceLE,Int.reduceLT,Int.reduceBEq,Int.reduceBNe,Int.reduceEq,Int.reduceNeg,Int.reduceAdd,Int.reduceSub,Int.reduceToNat,forall_const,aC,hwk,gZ,hnp,EntD.dv,BatD.dv,List.map_cons,List.map_nil]
   exact⟨rfl,rfl⟩
 ·have hke:k=L.length:=by omega
  subst hke
  rw[List.take_length] at htk g1 g2 g3 g4 g5 g6 g7 hqs ⊢
  have d1:decide ((L.length:Int)<(L.length:Int))=false:=by simp
  have nt:¬ ((aF s.p L).1=false):=by rw[htk];simp
  rw[hLe,if_neg nt,if_neg nt,h2e]
  unfold aY6
  rw[hLe,← hq,← hn]
  generalize (aF s.p L).2=p at *
  have hpk:nO (eE s.w e.b.pid L) e.b.pid=true:=aTo _ _ _
  by_cases hm:1048576<p.fin
  ·have dm:decide ((1048576:Int)<p.fin)=true:=decide_eq_true hm
   have c6:=cP cm3
   rw[if_pos hm,if_pos hm]
   (refine gO (ai @aC (ai d1 (dm))) ?_)
   refine aX.ret ?_
   (refine rO (ai @aC (ai @aS.eq_1 (@aS.eq_2))) ?_;try with_reducible exact tt)
  ·have dm:decide ((1048576:Int)<p.fin)=false:=decide_eq_false hm
   have c6:=aPf p.prods e.b.pid hqs
   rw[if_neg hm,if_neg hm]
   (refine gO (ai @aC (ai d1 (ai dm (ai @BatD.dv.eq_1 (ai @List.map_cons.{0,0} (@List.map_nil.{0,0})))))) ?_)
   (first|refine Wp.sregM aI ?_|refine Wp.regM aI ?_|(refine Wp.seq ?_;first|refine Wp.sregM aI ?_|refine Wp.regM aI ?_))
   (refine cN.at 6 (fun K hK=>?_);(refine rO (ai @aC (ai @BatD.dv.eq_1 (ai @List.map_cons.{0,0} (@List.map_nil.{0,0})))) ?_);refine hK _ _ ?_;clear hK K)
   refine cN.imapDel rfl 8 (pQ (eE s.w e.b.pid L)) (rJ (jS s.vc q n) (eE s.w e.b.pid L)) (wI (eE s.w e.b.pid L) e.b.pid) e.b.pid jG jX (sR hpk) (fun j hj=>qW hj) ⟨by kernel_rfl,by kernel_rfl,eY ?_ ?_,?_,by kernel_rfl⟩ ?_
   ·(refine rO (@aC) ?_;try with_reducible exact tt)
   ·(refine rO (@aC) ?_;try with_reducible exact tt)
   ·simp (maxSteps:=2000000) (disch:=omega) only[gE,TY,bV,eJ,fQ,SV.ofD,dS,eQ,fL,fM,bP,fN,eW,eT,fO,eN,fJ,fI,fK,CV.exact,CV.lstOf,CV.lenOf,CV.one,D.one,Value.oneCell',CV.toD0,fT,eB,fW,fG,rD0,gA,fF,fV,reduceCtorEq,reduceIte,Nat.reduceBEq,Nat.reduceEqDiff,Nat.reduceAdd,Nat.reduceMul,Nat.reduceSub,Nat.reduceLT,Nat.reduceLeDiff,Nat.reduceBNe,Int.reduceLE,Int.reduceLT,Int.reduceBEq,Int.reduceBNe,Int.reduceEq,Int.reduceNeg,Int.reduceAdd,Int.reduceSub,Int.reduceToNat,forall_const,iN,vB,aC,BatD.dv,List.map_cons,List.map_nil]
   rw[aDi _ _ hpk,aDh _ _ _ hpk]
   (refine cN.done (fun K hK=>?_);(refine rO (ai @aC (ai @BatD.dv.eq_1 (ai @List.map_cons.{0,0} (@List.map_nil.{0,0})))) ?_);refine hK _ _ ?_;clear hK K;refine⟨by kernel_rfl,?_⟩)
   (refine gO (@aC) ?_)
   refine aX.ret ?_
   (refine rO (ai @aC (ai @aS.eq_1 (@aS.eq_2))) ?_;try with_reducible exact tt)
end Go.Proofs.YtpklhnpchhaccaaGreatDoor
