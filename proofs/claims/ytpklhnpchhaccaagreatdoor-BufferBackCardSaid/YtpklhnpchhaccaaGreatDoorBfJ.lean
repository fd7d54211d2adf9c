/- Package buffer: side,the walk. -/
import Derived.Test.YtpklhnpchhaccaaGreatDoorBfMc
import Derived.Test.YtpklhnpchhaccaaGreatDoorRhMa
namespace Go.Proofs.YtpklhnpchhaccaaGreatDoor
open Go Go.RowKit
set_option maxHeartbeats 16000000
set_option maxRecDepth 100000
set_option linter.unusedVariables false
set_option linter.unusedSimpArgs false
abbrev bfY (s:BufS) (x:SideD) (l:List BatD):List (Nat × HE):=iH s++[(1000,.cells [.d (int x.pid),.d (.lst 18 (x.l.map EntD.dv))]),(1001,.cells [.d (int x.pid),.d (int (jZ x)),.app 60 5 (l.map BatD.dv)]),(60,.row 62 5 l.length)]
theorem pA {L:List (Nat × SV)} {s:BufS} {x:SideD} {k:List BatD} (h:iG s.w) (hL:(L.all fun p=>p.2.ids.all fun i=>(gF++[1000,1001,60]).contains i)=true):(kF L (bfY s x k) && gS ⟨gF,[],false,none⟩ (bfY s x k))=true:=by
 have e1:(bfY s x k).map (·.1)=gF++[1000,1001,60]:=rfl
 have h2:=sY s.vc _ h
 have h3:(((rJ s.vc s.w).flatMap CV.ids).all fun i=>(gF++[1000,1001,60]).contains i)=true:=by
  rw[List.all_eq_true] at h2 ⊢
  intro i hi
  have:=h2 i hi
  simp only[List.contains_iff_mem,List.mem_append] at this ⊢
  exact .inl this
 unfold kF
 rw[e1,hL]
 simp only[bfY,iH,List.cons_append,List.nil_append,List.all_cons,List.all_nil,rY]
 rw[show ((rJ s.vc s.w).flatMap CV.ids).all (fun i=>[0,8,9,10,31,32,33,34,35,36,37,38,1000,1001,60].contains i)=true from h3]
 rfl
abbrev aYv:List UInt8:=[97,110,32,101,110,116,114,121,32,111,102,32,97,32,115,105,100,101,32,102,105,108,101]
abbrev aYw:List UInt8:=[99,111,112,105,101,115,32,111,102,32,116,104,101,32,119,104,111,108,101,32,115,105,100,101,32,102,105,108,101,32,116,104,97,116,32,119,97,105,116]
abbrev aYx:List UInt8:=[99,111,112,105,101,115,32,111,102,32,97,110,111,116,104,101,114,32,115,105,100,101,32,102,105,108,101]
def rI (s:BufS) (qs:List ProdD):BufS:={ s with p:={ s.p with prods:=qs } }
def sdT (s:BufS) (x:SideD) (qs:List ProdD):BufS:={ s with p:={ s.p with prods:=qs,opens:=s.p.opens++[⟨x.pid,jZ x,x.l.map (·.b)⟩] },w:=cI s.w x.pid }
structure SdOut (s:BufS) (x:SideD) (r:SV) (t:BufS):Prop where
 bad:∀ k (hk:k<x.l.length) qs,bN x s.p.prods (x.l.take k)=some qs→eU x x.l[k]=true→r=jA aYv∧t=rI s qs
 take:∀ k (hk:k<x.l.length) qs,bN x s.p.prods (x.l.take k)=some qs→eU x x.l[k]=false→(aJ qs x.l[k].b (-1)).2≠0→r=jA (aL3 (aJ qs x.l[k].b (-1)).2)∧t=rI s qs
 many:∀ qs,bN x s.p.prods x.l=some qs→x.l.length≤(cG s.w x.pid).length→r=jA aYw∧t=rI s qs
 other:∀ qs,bN x s.p.prods x.l=some qs→(cG s.w x.pid).length<x.l.length→cG s.w x.pid≠(x.l.map (·.b)).take (cG s.w x.pid).length→r=jA aYx∧t=rI s qs
 done:∀ qs,bN x s.p.prods x.l=some qs→(cG s.w x.pid).length<x.l.length→cG s.w x.pid=(x.l.map (·.b)).take (cG s.w x.pid).length→r=lH∧t=sdT s x qs
theorem aHx {α:Type} [DecidableEq α] (a b:List α) (k:Nat) (hk:k<a.length) (hb:k<b.length) (h:a.take k=b.take k):a.take (k+1)=b.take (k+1) ↔ a[k]=b[k]:=by
 rw[List.take_succ_eq_append_getElem hk,List.take_succ_eq_append_getElem hb,h]
 constructor
 ·intro e;have:=List.append_cancel_left e;simpa using this
 ·intro e;rw[e]
theorem aFk {L:List (Nat × SV)} {s:BufS} {cs:List D} (h:iG s.w) (hL:(L.all fun p=>p.2.ids.all fun i=>(gF++[1001]).contains i)=true):(kF L (iH s++[(1001,.cells (cs.map CV.d))]) && gS ⟨gF,[],false,none⟩ (iH s++[(1001,.cells (cs.map CV.d))]))=true:=by
 have e1:(iH s++[(1001,HE.cells (cs.map CV.d))]:List (Nat × HE)).map (fun p=>p.1)=gF++[1001]:=rfl
 have h2:=sY s.vc _ h
 have h3:(((rJ s.vc s.w).flatMap CV.ids).all fun i=>(gF++[1001]).contains i)=true:=by
  rw[List.all_eq_true] at h2 ⊢
  intro i hi
  have:=h2 i hi
  simp only[List.contains_iff_mem,List.mem_append] at this ⊢
  exact .inl this
 have i1:HE.ids (.cells (cs.map CV.d))=[]:=kN _
 unfold kF
 rw[e1,hL]
 simp only[iH,List.cons_append,List.nil_append,List.all_cons,List.all_nil,rY,i1]
 rw[show ((rJ s.vc s.w).flatMap CV.ids).all (fun i=>[0,8,9,10,31,32,33,34,35,36,37,38,1001].contains i)=true from h3]
 rfl
theorem jU (s:BufS) (x:SideD) (r:SV) (t:BufS) (hB:BokB s) (he:∀ y ∈ x.l,SmallEn y) (ht:iG t.w) (hr:pM r.ids gF=true) (hl:1≤x.l.length∧x.l.length≤8) (ho:SdOut s x r t):FunG Tryz.prog 105 [.c (.own 0 0),aOj x] gF (bK (iH s)) r gF (bK (iH t)):=by
 have hw:=hB.w.pid
 have hv:=hB.v
 obtain⟨hl8,hlr⟩:=aUp hB x.pid
 have hprods:=hB.sm.prods
 have hseen:=hB.sm.seen
 have hopens:=hB.sm.opens
 have d1:((x.l.length:Int) == 0)=false:=by rw[beq_eq_false_iff_ne];omega
 have d2:decide ((8:Int)<(x.l.length:Int))=false:=decide_eq_false (by omega)
 obtain⟨y,hy,hye⟩:∃ y,x.l[0]? = some y∧jZ x=y.b.epoch:=by
  obtain⟨pid,l⟩:=x
  cases l with
  | nil=>simp at hl
  | cons y l=>exact⟨y,rfl,rfl⟩
 refine FunG.of_bodyH rfl rfl Tryz.func105 rfl rfl Tryz.ntmps105 Tryz.results105 (Nat.le_of_ble_eq_true rfl) (kS rfl hr hw ht) ?_
 (refine gO (@aC) ?_)
 (first|refine Wp.sto 22 (vb false) ?_ ?_|refine Wp.rtoS 22 (vb false) ?_ ?_|(refine Wp.seq ?_;first|refine Wp.sto 22 (vb false) ?_ ?_|refine Wp.rtoS 22 (vb false) ?_ ?_))
 ·((refine rO (ai d1 (d2)) ?_;try with_reducible exact tt);(repeat (refine eA (by assumption) ?_;(refine rO (ai d1 (d2)) ?_))))
  all_goals (exact (show bI _ _=true by kernel_rfl))
 (refine gO (ai @aC (ai hy (@EntD.dv.eq_1))) ?_)
 refine Wp.weak (aD.nilAppCell (id:=1001) (k:=2) (τ:=60) (cs:=[.d (int x.pid),.d (int y.b.epoch),.d (.val (.slice none 0 0))]) 62 5 (by decide) (by (refine rO (@aC) ?_;try with_reducible exact tt)) (by (refine rO (@aC) ?_;try with_reducible exact tt)) rfl) ?_
 refine Wp.loop (fun k:Nat=>⟨iC [(0,.c (.own 0 0)),(3,.c (.own 1000 0)),(5,.c (.own 1001 0)),(34,.c (.d (.lst 18 (x.l.map EntD.dv)))),(35,vi .i64 x.l.length),(36,vi .i64 k)],bK (bfY (rI s ((bN x s.p.prods (x.l.take k)).getD [])) x ((x.l.map (·.b)).take k)),1020,133,⟨gF,[],false,none⟩⟩) (fun k=>k≤x.l.length∧(bN x s.p.prods (x.l.take k)).isSome=true) (fun k=>x.l.length - k) 0 ⟨Nat.zero_le _,rfl⟩ ?_ ?_
 ·refine aD.keep rfl (pA hw rfl) ?_
  simp (maxSteps:=2000000) (disch:=omega) only[gE,TY,bV,eJ,fQ,SV.ofD,dS,eQ,fL,fM,bP,fN,eW,eT,fO,eN,fJ,fI,fK,CV.exact,CV.lstOf,CV.lenOf,CV.one,D.one,Value.oneCell',CV.toD0,fT,eB,fW,fG,rD0,gA,fF,fV,reduceCtorEq,reduceIte,Nat.reduceBEq,Nat.reduceEqDiff,Nat.reduceAdd,Nat.reduceMul,Nat.reduceSub,Nat.reduceLT,Nat.reduceLeDiff,Nat.reduceBNe,Int.reduceLE,Int.reduceLT,Int.reduceBEq,Int.reduceBNe,Int.reduceEq,Int.reduceNeg,Int.reduceAdd,Int.reduceSub,Int.reduceToNat,forall_const,aC,hye,List.take_zero,bN,Option.getD_some,List.map_nil,List.length_nil,rI]
  rfl
 rintro k ⟨hk,hks⟩
 obtain⟨qs,hqs⟩:=Option.isSome_iff_exists.1 hks
 rw[hqs,Option.getD_some]
 have htl:(x.l.take k).length≤8:=by rw[List.length_take];omega
 obtain⟨g1,g2⟩:=sJ (x.l.take k) s.p.prods qs 10000 hprods hseen hqs
 have hq2:SmallL qs:=⟨by omega,fun z hz=>by have:=g2 z hz;omega⟩
 have hwq:iG (rI s qs).w:=hw
 by_cases hkl:k<x.l.length
 ·have d3:decide ((k:Int)<(x.l.length:Int))=true:=decide_eq_true (by omega)
  have hge:x.l[k]? = some x.l[k]:=List.getElem?_eq_getElem hkl
  have hwk:IntKind.i64.wrap ((k:Int)+1)=((k+1:Nat):Int):=by rw[aT (by omega)];rfl
  have hsn:=qO hkl hqs
  obtain⟨hr1,hr2,hr3⟩:=he _ (List.getElem_mem hkl)
  have hbad:=ho.bad k hkl qs hqs
  have htake:=ho.take k hkl qs hqs
  have htk1:(x.l.map (·.b)).take (k+1)=(x.l.map (·.b)).take k++[x.l[k].b]:=by
   rw[List.take_succ_eq_append_getElem (by rw[List.length_map];exact hkl),List.getElem_map]
  have htkl:((x.l.map (·.b)).take k).length=k:=by rw[List.length_take,List.length_map];omega
  generalize (x.l.map (·.b)).take k=wl at *
  have hbb:(wl.length+1)*56≤140737488355328:=by omega
  generalize x.l[k]=e at *
  have c1:=xU e hr2 hr3
  simp only[EntD.dv] at c1
  (refine gO (ai @aC (ai d3 (ai hge (@EntD.dv.eq_1)))) ?_)
  (first|refine Wp.sto 68 (vb (eU x e)) ?_ ?_|refine Wp.rtoS 68 (vb (eU x e)) ?_ ?_|(refine Wp.seq ?_;first|refine Wp.sto 68 (vb (eU x e)) ?_ ?_|refine Wp.rtoS 68 (vb (eU x e)) ?_ ?_))
  ·unfold eU
   cases q1:aK e with
   | false =>
    rw[q1] at c1
    ((refine rO (@EntD.dv.eq_1) ?_);(repeat (refine eA (by assumption) ?_;(refine rO (@EntD.dv.eq_1) ?_;try with_reducible exact tt))))
    all_goals (exact (show bI _ _=true by kernel_rfl))
   | true =>
   rw[q1] at c1
   cases q2:(e.kind != 0) with
   | true =>
    ((refine rO (ai @EntD.dv.eq_1 (q2)) ?_);(repeat (refine eA (by assumption) ?_;(refine rO (ai @EntD.dv.eq_1 (q2)) ?_;try with_reducible exact tt))))
    all_goals (exact (show bI _ _=true by kernel_rfl))
   | false =>
   cases q3:e.b.txn<;>(rw[q3] at c1)<;>cases q4:(e.b.pid != x.pid)<;>cases q5:(e.b.epoch != jZ x)<;>(((refine rO (ai @EntD.dv.eq_1 (ai q2 (ai q3 (ai q4 (q5))))) ?_);(repeat (refine eA (by assumption) ?_;(refine rO (ai @EntD.dv.eq_1 (ai q2 (ai q3 (ai q4 (q5))))) ?_;try with_reducible exact tt))));all_goals (exact (show bI _ _=true by kernel_rfl)))
  cases hn:eU x e with
  | true =>
   obtain⟨rfl,rfl⟩:=hbad hn
   have c6:=cP aYv
   (refine gO (@aC) ?_)
   refine aX.ret ?_
   simp (maxSteps:=2000000) (disch:=omega) only[gE,TY,bV,eJ,fQ,SV.ofD,dS,eQ,fL,fM,bP,fN,eW,eT,fO,eN,fJ,fI,fK,CV.exact,CV.lstOf,CV.lenOf,CV.one,D.one,Value.oneCell',CV.toD0,fT,eB,fW,fG,rD0,gA,fF,fV,reduceCtorEq,reduceIte,Nat.reduceBEq,Nat.reduceEqDiff,Nat.reduceAdd,Nat.reduceMul,Nat.reduceSub,Nat.reduceLT,Nat.reduceLeDiff,Nat.reduceBNe,Int.reduceLE,Int.reduceLT,Int.reduceBEq,Int.reduceBNe,Int.reduceEq,Int.reduceNeg,Int.reduceAdd,Int.reduceSub,Int.reduceToNat,forall_const,aC,retG,aS,rI]
  | false =>
  rw[hn,if_neg Bool.false_ne_true] at hsn
  have htake:=htake hn
  have hbW:aP5 e.b = .agg (e.b.dv.map CV.d):=rfl
  by_cases hz:(aJ qs e.b (-1)).2≠0
  ·obtain⟨rfl,rfl⟩:=htake hz
   have c4:=aB2 (rI s qs) e.b hw hq2 hr2 hz
   have ez:(aJ (rI s qs).p.prods e.b (-1)).2=(aJ qs e.b (-1)).2:=rfl
   rw[ez] at c4
   (refine gO (ai @aC (ai @EntD.dv.eq_1 (ai @List.map_cons.{0,0} (@List.map_nil.{0,0})))) ?_)
   (first|refine Wp.sregG ?_|refine Wp.regG ?_|(refine Wp.seq ?_;first|refine Wp.sregG ?_|refine Wp.regG ?_))
   (refine aG.at 2 (fun K hK=>?_);(refine rO (ai @aC (ai @EntD.dv.eq_1 (ai @List.map_cons.{0,0} (@List.map_nil.{0,0})))) ?_);refine hK _ ?_;clear hK K)
   (refine aG.call (c4) [] 1040 rfl rfl ?_ ?_;(focus ((refine yL (ai @eP (ai @aC (ai @aW (ai hbW (ai @BatD.dv.eq_1 (ai @List.map_cons.{0,0} (@List.map_nil.{0,0}))))))) ?_;try with_reducible exact tt);done)))
   (refine aG.done (fun K hK=>?_);(refine rOt (ai @aC (ai @cU.eq_1 (ai @cU.eq_2 (ai @aW (ai @cH (ai @List.map_cons.{0,0} (@List.map_nil.{0,0}))))))) ?_);refine hK _ ?_;clear hK K)
   (refine gO (@aC) ?_)
   refine aX.ret ?_
   (refine rO (ai @aC (ai @aS.eq_1 (@aS.eq_2))) ?_;try with_reducible exact tt)
  ·have hz0:(aJ qs e.b (-1)).2=0:=by simpa using hz
   rw[if_neg hz] at hsn
   have c4:=aB3 (rI s qs) e.b hw hq2 hr2 hz0
   have et:aHy (rI s qs) e.b=rI s (aJ qs e.b (-1)).1:=rfl
   rw[et] at c4
   have c5:=aB1 e.b (by omega)
   simp only[BatD.dv] at c5
   generalize (aJ qs e.b (-1)).1=np at *
   (refine gO (ai @aC (ai @EntD.dv.eq_1 (ai @List.map_cons.{0,0} (@List.map_nil.{0,0})))) ?_)
   (first|refine Wp.sregG ?_|refine Wp.regG ?_|(refine Wp.seq ?_;first|refine Wp.sregG ?_|refine Wp.regG ?_))
   (refine aG.at 2 (fun K hK=>?_);(refine rO (ai @aC (ai @EntD.dv.eq_1 (ai @List.map_cons.{0,0} (@List.map_nil.{0,0})))) ?_);refine hK _ ?_;clear hK K)
   (refine aG.call (c4) [] 1040 rfl rfl ?_ ?_;(focus ((refine yL (ai @eP (ai @aC (ai @aW (ai hbW (ai @BatD.dv.eq_1 (ai @List.map_cons.{0,0} (@List.map_nil.{0,0}))))))) ?_;try with_reducible exact tt);done)))
   (refine aG.done (fun K hK=>?_);(refine rOt (ai @aC (ai @cU.eq_1 (ai @cU.eq_2 (ai @aW (ai @cH (ai @List.map_cons.{0,0} (@List.map_nil.{0,0}))))))) ?_);refine hK _ ?_;clear hK K)
   (refine gO (ai @aC (ai hbb (ai @EntD.dv.eq_1 (ai @BatD.dv.eq_1 (ai @List.length_map.{0,0} (ai @List.map_cons.{0,0} (@List.map_nil.{0,0}))))))) ?_)
   refine⟨k+1,⟨hkl,by rw[hsn];rfl⟩,by omega,?_⟩
   rw[hsn,Option.getD_some,htk1]
   refine aD.keep rfl (pA hw rfl) ?_
   (refine rO (ai @aC (ai hwk (ai @EntD.dv.eq_1 (ai @BatD.dv.eq_1 (ai @List.map_append.{0,0} (ai @List.length_append.{0} (ai @List.length_cons.{0} (ai @List.length_nil.{0} (ai @List.map_cons.{0,0} (@List.map_nil.{0,0})))))))))) ?_;try with_reducible exact tt)
 have hke:k=x.l.length:=by omega
 subst hke
 rw[List.take_length] at hqs
 have hmany:=ho.many qs hqs
 have hother:=ho.other qs hqs
 have hdone:=ho.done qs hqs
 have d3:decide ((x.l.length:Int)<(x.l.length:Int))=false:=by simp
 obtain⟨l,hlw⟩:∃ l,l=cG s.w x.pid:=⟨_,rfl⟩
 have hbe:(x.l.map (·.b)).take x.l.length=x.l.map (·.b):=List.take_of_length_le (by rw[List.length_map];exact Nat.le_refl _)
 obtain⟨os,hos⟩:∃ os,os=x.l.map (·.b):=⟨_,rfl⟩
 have hosl:os.length=x.l.length:=by rw[hos,List.length_map]
 rw[← hlw,← hos] at hother hdone
 rw[← hlw] at hmany
 rw[← hlw] at hl8 hlr
 rw[hbe,← hos]
 (refine gO (ai @aC (d3)) ?_)
 refine Wp.meetT ⟨iC [(0,.c (.own 0 0)),(3,.c (.own 1000 0)),(5,.c (.own 1001 0)),(10,.c (.d (.lst 5 (l.map BatD.dv))))],bK (bfY (rI s qs) x os),1020,133,⟨gF,[],false,none⟩⟩ ?_ ?_
 ·cases hk:nO s.w x.pid with
  | true =>
   have hci:=aUq (vt:=s.vc) hk
   rw[← hlw,hv] at hci
   have hq9:=hw _ (List.mem_of_getElem? (lS hk))
   dsimp only at hq9
   obtain⟨q,hq⟩:∃ q,q=x.pid.toNat:=⟨_,rfl⟩
   rw[← hq] at hci
   (first|refine Wp.sregM aI ?_|refine Wp.regM aI ?_|(refine Wp.seq ?_;first|refine Wp.sregM aI ?_|refine Wp.regM aI ?_))
   (refine cN.at 6 (fun K hK=>?_);(refine rO (ai @aC (ai @List.map_cons.{0,0} (@List.map_nil.{0,0}))) ?_);refine hK _ _ ?_;clear hK K)
   refine cN.imapHas rfl 8 (pQ s.w) (rJ s.vc s.w) (wI s.w x.pid) x.pid _ _ jG jX aAk (sR hk) (fun j hj=>qW hj) (by rw[hv];exact hci) ⟨by kernel_rfl,by kernel_rfl,eY ?_ ?_,?_⟩ ?_
   ·(refine rO (@aC) ?_;try with_reducible exact tt)
   ·simp (maxSteps:=2000000) (disch:=omega) only[gE,TY,bV,eJ,fQ,SV.ofD,dS,eQ,fL,fM,bP,fN,eW,eT,fO,eN,fJ,fI,fK,CV.exact,CV.lstOf,CV.lenOf,CV.one,D.one,Value.oneCell',CV.toD0,fT,eB,fW,fG,rD0,gA,fF,fV,reduceCtorEq,reduceIte,Nat.reduceBEq,Nat.reduceEqDiff,Nat.reduceAdd,Nat.reduceMul,Nat.reduceSub,Nat.reduceLT,Nat.reduceLeDiff,Nat.reduceBNe,Int.reduceLE,Int.reduceLT,Int.reduceBEq,Int.reduceBNe,Int.reduceEq,Int.reduceNeg,Int.reduceAdd,Int.reduceSub,Int.reduceToNat,forall_const,aC,rI]
   ·simp (maxSteps:=2000000) (disch:=omega) only[gE,TY,bV,eJ,fQ,SV.ofD,dS,eQ,fL,fM,bP,fN,eW,eT,fO,eN,fJ,fI,fK,CV.exact,CV.lstOf,CV.lenOf,CV.one,D.one,Value.oneCell',CV.toD0,fT,eB,fW,fG,rD0,gA,fF,fV,reduceCtorEq,reduceIte,Nat.reduceBEq,Nat.reduceEqDiff,Nat.reduceAdd,Nat.reduceMul,Nat.reduceSub,Nat.reduceLT,Nat.reduceLeDiff,Nat.reduceBNe,Int.reduceLE,Int.reduceLT,Int.reduceBEq,Int.reduceBNe,Int.reduceEq,Int.reduceNeg,Int.reduceAdd,Int.reduceSub,Int.reduceToNat,forall_const,iN,vB,aC]
   (refine cN.done (fun K hK=>?_);(refine rO (ai @aC (ai @List.map_cons.{0,0} (@List.map_nil.{0,0}))) ?_);refine hK _ _ ?_;clear hK K;refine⟨by kernel_rfl,?_⟩)
   refine aD.trans (aD.aptD (t:=10) (τ:=30+q) (sz:=5) (n:=s.vt q) (xs:=l.map BatD.dv) (by (refine rO (@aC) ?_;try with_reducible exact tt))) (aD.keep rfl (pA hw rfl) ?_)
   (refine rO (ai @aC (ai @List.map_cons.{0,0} (@List.map_nil.{0,0}))) ?_;try with_reducible exact tt)
  | false =>
   have hl0:l=[]:=by rw[hlw];exact qV hk
   subst hl0
   (first|refine Wp.sregM aI ?_|refine Wp.regM aI ?_|(refine Wp.seq ?_;first|refine Wp.sregM aI ?_|refine Wp.regM aI ?_))
   (refine cN.at 6 (fun K hK=>?_);(refine rO (ai @aC (ai @List.map_cons.{0,0} (@List.map_nil.{0,0}))) ?_);refine hK _ _ ?_;clear hK K)
   refine cN.imapNone rfl 8 (pQ s.w) (rJ s.vc s.w) x.pid _ jG jX aAk (kV hk) ⟨by kernel_rfl,by kernel_rfl,eY ?_ ?_,?_⟩ ?_
   ·(refine rO (@aC) ?_;try with_reducible exact tt)
   ·simp (maxSteps:=2000000) (disch:=omega) only[gE,TY,bV,eJ,fQ,SV.ofD,dS,eQ,fL,fM,bP,fN,eW,eT,fO,eN,fJ,fI,fK,CV.exact,CV.lstOf,CV.lenOf,CV.one,D.one,Value.oneCell',CV.toD0,fT,eB,fW,fG,rD0,gA,fF,fV,reduceCtorEq,reduceIte,Nat.reduceBEq,Nat.reduceEqDiff,Nat.reduceAdd,Nat.reduceMul,Nat.reduceSub,Nat.reduceLT,Nat.reduceLeDiff,Nat.reduceBNe,Int.reduceLE,Int.reduceLT,Int.reduceBEq,Int.reduceBNe,Int.reduceEq,Int.reduceNeg,Int.reduceAdd,Int.reduceSub,Int.reduceToNat,forall_const,aC,rI]
   ·simp (maxSteps:=2000000) (disch:=omega) only[gE,TY,bV,eJ,fQ,SV.ofD,dS,eQ,fL,fM,bP,fN,eW,eT,fO,eN,fJ,fI,fK,CV.exact,CV.lstOf,CV.lenOf,CV.one,D.one,Value.oneCell',CV.toD0,fT,eB,fW,fG,rD0,gA,fF,fV,reduceCtorEq,reduceIte,Nat.reduceBEq,Nat.reduceEqDiff,Nat.reduceAdd,Nat.reduceMul,Nat.reduceSub,Nat.reduceLT,Nat.reduceLeDiff,Nat.reduceBNe,Int.reduceLE,Int.reduceLT,Int.reduceBEq,Int.reduceBNe,Int.reduceEq,Int.reduceNeg,Int.reduceAdd,Int.reduceSub,Int.reduceToNat,forall_const,iN,vB,aC]
   (refine cN.done (fun K hK=>?_);(refine rO (ai @aC (ai @List.map_cons.{0,0} (@List.map_nil.{0,0}))) ?_);refine hK _ _ ?_;clear hK K;refine⟨by kernel_rfl,?_⟩)
   refine aD.trans (aD.slot (t:=10) (x:=.c (.d (.val (.slice none 0 0)))) (y:=.c (.d (.lst 5 []))) (by (refine rO (@aC) ?_;try with_reducible exact tt)) (fun g v h=>qY.nil 5 _ _ h)) (aD.keep rfl (pA hw rfl) ?_)
   (refine rO (ai @aC (ai @List.map_cons.{0,0} (@List.map_nil.{0,0}))) ?_;try with_reducible exact tt)
 by_cases hm:x.l.length≤l.length
 ·obtain⟨rfl,rfl⟩:=hmany hm
  have dm:decide ((os.length:Int)≤(l.length:Int))=true:=decide_eq_true (by omega)
  have c6:=cP aYw
  (refine gO (ai @aC (ai dm (@List.length_map.{0,0}))) ?_)
  refine aX.ret ?_
  (refine rO (ai @aC (ai @aS.eq_1 (@aS.eq_2))) ?_;try with_reducible exact tt)
 have dm:decide ((os.length:Int)≤(l.length:Int))=false:=decide_eq_false (by omega)
 (refine gO (ai @aC (ai dm (@List.length_map.{0,0}))) ?_)
 refine Wp.loop (fun k:Nat=>⟨iC [(0,.c (.own 0 0)),(3,.c (.own 1000 0)),(5,.c (.own 1001 0)),(98,.c (.d (.lst 5 (l.map BatD.dv)))),(99,vi .i64 l.length),(100,vi .i64 k)],bK (bfY (rI s qs) x os),1020,133,⟨gF,[],false,none⟩⟩) (fun k=>k≤l.length∧l.take k=os.take k) (fun k=>l.length - k) 0 ⟨Nat.zero_le _,rfl⟩ ?_ ?_
 ·refine aD.keep rfl (pA hw rfl) ?_
  (refine rO (ai @aC (@List.length_map.{0,0})) ?_;try with_reducible exact tt)
 rintro k ⟨hkk,htk⟩
 by_cases hkl:k<l.length
 ·have d4:decide ((k:Int)<(l.length:Int))=true:=decide_eq_true (by omega)
  have hge:l[k]? = some l[k]:=List.getElem?_eq_getElem hkl
  have hgo:os[k]? = some os[k]:=List.getElem?_eq_getElem (by omega)
  have hwk:IntKind.i64.wrap ((k:Int)+1)=((k+1:Nat):Int):=by rw[aT (by omega)];rfl
  have hiff:=aHx l os k hkl (by omega) htk
  have hmr:=hlr _ (List.getElem_mem hkl)
  have hbad:¬ l[k]=os[k]→¬ l=os.take l.length:=fun h e=>h (by
   rw[← hiff]
   conv=>lhs;rw[e]
   rw[List.take_take];congr 1;omega)
  generalize l[k]=b at *
  generalize os[k]=c at *
  have c8:=aEs b c (by omega)
  simp only[BatD.dv] at c8
  by_cases hbc:b=c
  ·have dd:decide (b=c)=true:=decide_eq_true hbc
   rw[dd] at c8
   (refine gO (ai @aC (ai d4 (ai hge (ai hgo (ai @BatD.dv.eq_1 (ai @List.length_map.{0,0} (ai @List.map_cons.{0,0} (@List.map_nil.{0,0})))))))) ?_)
   refine⟨k+1,⟨hkl,hiff.2 hbc⟩,by omega,aD.keep rfl (pA hw rfl) ?_⟩
   (refine rO (ai @aC (hwk)) ?_;try with_reducible exact tt)
  ·have dd:decide (b=c)=false:=decide_eq_false hbc
   rw[dd] at c8
   obtain⟨rfl,rfl⟩:=hother (by omega) (hbad hbc)
   have c6:=cP aYx
   (refine gO (ai @aC (ai d4 (ai hge (ai hgo (ai @BatD.dv.eq_1 (ai @List.length_map.{0,0} (ai @List.map_cons.{0,0} (@List.map_nil.{0,0})))))))) ?_)
   refine aX.ret ?_
   (refine rO (ai @aC (ai @aS.eq_1 (@aS.eq_2))) ?_;try with_reducible exact tt)
 have hke2:k=l.length:=by omega
 subst hke2
 rw[List.take_length] at htk
 obtain⟨rfl,rfl⟩:=hdone (by omega) htk
 have d4:decide ((l.length:Int)<(l.length:Int))=false:=by simp
 have hob:(s.p.opens.length+1)*40≤140737488355328:=by omega
 (refine gO (ai @aC (d4)) ?_)
 refine Wp.weak (aD.cellAt (id:=1001) (k:=2) (cs:=[.d (int x.pid),.d (int (jZ x)),.app 60 5 (os.map BatD.dv)]) (x:=.app 60 5 (os.map BatD.dv)) (y:=.d (.lst 5 (os.map BatD.dv))) (by (refine rO (@aC) ?_;try with_reducible exact tt)) rfl (fun g v h=>h.1)) ?_
 refine Wp.meetT ⟨iC [(0,.c (.own 0 0)),(5,.c (.own 1001 0))],bK (iH { rI s qs with w:=cI s.w x.pid }++[(1001,.cells ([int x.pid,int (jZ x),.lst 5 (os.map BatD.dv)].map CV.d))]),1020,133,⟨gF,[],false,none⟩⟩ ?_ ?_
 ·cases hk:nO s.w x.pid with
  | true =>
   (first|refine Wp.sregM aI ?_|refine Wp.regM aI ?_|(refine Wp.seq ?_;first|refine Wp.sregM aI ?_|refine Wp.regM aI ?_))
   (refine cN.at 6 (fun K hK=>?_);(refine rO (ai @aC (ai @List.map_cons.{0,0} (@List.map_nil.{0,0}))) ?_);refine hK _ _ ?_;clear hK K)
   refine cN.imapDel rfl 8 (pQ s.w) (rJ s.vc s.w) (wI s.w x.pid) x.pid jG jX (sR hk) (fun j hj=>qW hj) ⟨by kernel_rfl,by kernel_rfl,eY ?_ ?_,?_,by kernel_rfl⟩ ?_
   ·(refine rO (@aC) ?_;try with_reducible exact tt)
   ·simp (maxSteps:=2000000) (disch:=omega) only[gE,TY,bV,eJ,fQ,SV.ofD,dS,eQ,fL,fM,bP,fN,eW,eT,fO,eN,fJ,fI,fK,CV.exact,CV.lstOf,CV.lenOf,CV.one,D.one,Value.oneCell',CV.toD0,fT,eB,fW,fG,rD0,gA,fF,fV,reduceCtorEq,reduceIte,Nat.reduceBEq,Nat.reduceEqDiff,Nat.reduceAdd,Nat.reduceMul,Nat.reduceSub,Nat.reduceLT,Nat.reduceLeDiff,Nat.reduceBNe,Int.reduceLE,Int.reduceLT,Int.reduceBEq,Int.reduceBNe,Int.reduceEq,Int.reduceNeg,Int.reduceAdd,Int.reduceSub,Int.reduceToNat,forall_const,aC,rI]
   ·simp (maxSteps:=2000000) (disch:=omega) only[gE,TY,bV,eJ,fQ,SV.ofD,dS,eQ,fL,fM,bP,fN,eW,eT,fO,eN,fJ,fI,fK,CV.exact,CV.lstOf,CV.lenOf,CV.one,D.one,Value.oneCell',CV.toD0,fT,eB,fW,fG,rD0,gA,fF,fV,reduceCtorEq,reduceIte,Nat.reduceBEq,Nat.reduceEqDiff,Nat.reduceAdd,Nat.reduceMul,Nat.reduceSub,Nat.reduceLT,Nat.reduceLeDiff,Nat.reduceBNe,Int.reduceLE,Int.reduceLT,Int.reduceBEq,Int.reduceBNe,Int.reduceEq,Int.reduceNeg,Int.reduceAdd,Int.reduceSub,Int.reduceToNat,forall_const,iN,vB,aC]
   rw[aDi _ _ hk,aDh _ _ _ hk]
   (refine cN.done (fun K hK=>?_);(refine rO (ai @aC (ai @List.map_cons.{0,0} (@List.map_nil.{0,0}))) ?_);refine hK _ _ ?_;clear hK K;refine⟨by kernel_rfl,?_⟩)
   refine aD.keep rfl (aFk (mQ hw x.pid) rfl) ?_
   simp (maxSteps:=2000000) (disch:=omega) only[gE,TY,bV,eJ,fQ,SV.ofD,dS,eQ,fL,fM,bP,fN,eW,eT,fO,eN,fJ,fI,fK,CV.exact,CV.lstOf,CV.lenOf,CV.one,D.one,Value.oneCell',CV.toD0,fT,eB,fW,fG,rD0,gA,fF,fV,reduceCtorEq,reduceIte,Nat.reduceBEq,Nat.reduceEqDiff,Nat.reduceAdd,Nat.reduceMul,Nat.reduceSub,Nat.reduceLT,Nat.reduceLeDiff,Nat.reduceBNe,Int.reduceLE,Int.reduceLT,Int.reduceBEq,Int.reduceBNe,Int.reduceEq,Int.reduceNeg,Int.reduceAdd,Int.reduceSub,Int.reduceToNat,forall_const,aC,rI,List.set_cons_succ,List.set_cons_zero,List.cons_append,List.nil_append]
  | false =>
   have e1:cI s.w x.pid=s.w:=by unfold cI;rw[hk];rfl
   rw[e1]
   (first|refine Wp.sregM aI ?_|refine Wp.regM aI ?_|(refine Wp.seq ?_;first|refine Wp.sregM aI ?_|refine Wp.regM aI ?_))
   (refine cN.at 6 (fun K hK=>?_);(refine rO (ai @aC (ai @List.map_cons.{0,0} (@List.map_nil.{0,0}))) ?_);refine hK _ _ ?_;clear hK K)
   refine cN.imapDelNo rfl 8 (pQ s.w) (rJ s.vc s.w) x.pid jG jX (kV hk) ⟨by kernel_rfl,by kernel_rfl,eY ?_ ?_,?_,by kernel_rfl⟩ ?_
   ·(refine rO (@aC) ?_;try with_reducible exact tt)
   ·simp (maxSteps:=2000000) (disch:=omega) only[gE,TY,bV,eJ,fQ,SV.ofD,dS,eQ,fL,fM,bP,fN,eW,eT,fO,eN,fJ,fI,fK,CV.exact,CV.lstOf,CV.lenOf,CV.one,D.one,Value.oneCell',CV.toD0,fT,eB,fW,fG,rD0,gA,fF,fV,reduceCtorEq,reduceIte,Nat.reduceBEq,Nat.reduceEqDiff,Nat.reduceAdd,Nat.reduceMul,Nat.reduceSub,Nat.reduceLT,Nat.reduceLeDiff,Nat.reduceBNe,Int.reduceLE,Int.reduceLT,Int.reduceBEq,Int.reduceBNe,Int.reduceEq,Int.reduceNeg,Int.reduceAdd,Int.reduceSub,Int.reduceToNat,forall_const,aC,rI]
   ·simp (maxSteps:=2000000) (disch:=omega) only[gE,TY,bV,eJ,fQ,SV.ofD,dS,eQ,fL,fM,bP,fN,eW,eT,fO,eN,fJ,fI,fK,CV.exact,CV.lstOf,CV.lenOf,CV.one,D.one,Value.oneCell',CV.toD0,fT,eB,fW,fG,rD0,gA,fF,fV,reduceCtorEq,reduceIte,Nat.reduceBEq,Nat.reduceEqDiff,Nat.reduceAdd,Nat.reduceMul,Nat.reduceSub,Nat.reduceLT,Nat.reduceLeDiff,Nat.reduceBNe,Int.reduceLE,Int.reduceLT,Int.reduceBEq,Int.reduceBNe,Int.reduceEq,Int.reduceNeg,Int.reduceAdd,Int.reduceSub,Int.reduceToNat,forall_const,iN,vB,aC]
   (refine cN.done (fun K hK=>?_);(refine rO (ai @aC (ai @List.map_cons.{0,0} (@List.map_nil.{0,0}))) ?_);refine hK _ _ ?_;clear hK K;refine⟨by kernel_rfl,?_⟩)
   refine aD.keep rfl (aFk hw rfl) ?_
   simp (maxSteps:=2000000) (disch:=omega) only[gE,TY,bV,eJ,fQ,SV.ofD,dS,eQ,fL,fM,bP,fN,eW,eT,fO,eN,fJ,fI,fK,CV.exact,CV.lstOf,CV.lenOf,CV.one,D.one,Value.oneCell',CV.toD0,fT,eB,fW,fG,rD0,gA,fF,fV,reduceCtorEq,reduceIte,Nat.reduceBEq,Nat.reduceEqDiff,Nat.reduceAdd,Nat.reduceMul,Nat.reduceSub,Nat.reduceLT,Nat.reduceLeDiff,Nat.reduceBNe,Int.reduceLE,Int.reduceLT,Int.reduceBEq,Int.reduceBNe,Int.reduceEq,Int.reduceNeg,Int.reduceAdd,Int.reduceSub,Int.reduceToNat,forall_const,aC,rI,List.set_cons_succ,List.set_cons_zero,List.cons_append,List.nil_append]
 (repeat (first|apply Wp.skip|apply Wp.exit|apply Wp.ret|apply Wp.block|apply Wp.label|((first|refine Wp.sreg (fun K hK=>?_)|refine Wp.reg (fun K hK=>?_)|refine Wp.sdrw aI (fun K hK=>?_)|refine Wp.drw aI (fun K hK=>?_)|refine Wp.condG (fun K hK hF=>?_));(repeat (revert hK;intro hK;simp (maxSteps:=2000000) (disch:=omega) only[gE,TY,bV,eJ,fQ,SV.ofD,dS,eQ,fL,fM,bP,fN,eW,eT,fO,eN,fJ,fI,fK,CV.exact,CV.lstOf,CV.lenOf,CV.one,D.one,Value.oneCell',CV.toD0,fT,eB,fW,fG,rD0,gA,fF,fV,reduceCtorEq,reduceIte,Nat.reduceBEq,Nat.reduceEqDiff,Nat.reduceAdd,Nat.reduceMul,Nat.reduceSub,Nat.reduceLT,Nat.reduceLeDiff,Nat.reduceBNe,Int.reduceLE,Int.reduceLT,Int.reduceBEq,Int.reduceBNe,Int.reduceEq,Int.reduceNeg,Int.reduceAdd,Int.reduceSub,Int.reduceToNat,forall_const,aC,hob,OpenD.dv,rI,List.cons_append,List.nil_append,List.length_map];(first|(refine hK _ ?_;clear hK K)|(refine⟨by kernel_rfl,hK _ ?_⟩;clear hK K)|(refine hK ?_;clear hK hF K)|(refine hF ?_;clear hK hF K)|refine eA (by assumption) ?_|refine bca (by assumption) ?_)));fail_if_success (revert hK;intro hK))|apply Wp.seq))
 refine aX.ret ?_
 simp (maxSteps:=2000000) (disch:=omega) only[gE,TY,bV,eJ,fQ,SV.ofD,dS,eQ,fL,fM,bP,fN,eW,eT,fO,eN,fJ,fI,fK,CV.exact,CV.lstOf,CV.lenOf,CV.one,D.one,Value.oneCell',CV.toD0,fT,eB,fW,fG,rD0,gA,fF,fV,reduceCtorEq,reduceIte,Nat.reduceBEq,Nat.reduceEqDiff,Nat.reduceAdd,Nat.reduceMul,Nat.reduceSub,Nat.reduceLT,Nat.reduceLeDiff,Nat.reduceBNe,Int.reduceLE,Int.reduceLT,Int.reduceBEq,Int.reduceBNe,Int.reduceEq,Int.reduceNeg,Int.reduceAdd,Int.reduceSub,Int.reduceToNat,forall_const,aC,retG,aS,sdT,rI,hos,OpenD.dv,List.map_append,List.map_cons,List.map_nil,List.length_append,List.length_cons,List.length_nil]
theorem aA0 {x:SideD} {ps:List ProdD}:∀ (n:Nat),n≤x.l.length→bN x ps (x.l.take n)=none→∃ k,∃ hk:k<x.l.length,∃ qs,bN x ps (x.l.take k)=some qs∧bN x ps (x.l.take (k+1))=none
 | 0,_,h=>by rw[List.take_zero] at h;cases h
 | n+1,hn,h=>by
  cases hq:bN x ps (x.l.take n) with
  | none=>exact aA0 n (by omega) hq
  | some qs=>exact⟨n,by omega,qs,hq,h⟩
theorem qP {x:SideD} {ps a b:List ProdD} {i j:Nat} (h1:bN x ps (x.l.take i)=some a) (h2:bN x ps (x.l.take (i+1))=none) (h3:bN x ps (x.l.take j)=some b) (h4:bN x ps (x.l.take (j+1))=none):i=j:=by
 have key:∀ (i j:Nat) (b:List ProdD),bN x ps (x.l.take (i+1))=none→bN x ps (x.l.take j)=some b→¬ i<j:=fun i j b h2 h3 hlt=>by
  have:bN x ps (x.l.take j)=none:=aD3 (k:=i+1) (by rw[List.take_take,Nat.min_eq_left (by omega)];exact h2)
  rw[this] at h3;cases h3
 have:=key i j b h2 h3
 have:=key j i a h4 h1
 omega
theorem pL {x:SideD} {ps qs:List ProdD} {k:Nat} (hk:k<x.l.length) (h:bN x ps (x.l.take k)=some qs) (h2:eU x x.l[k]=true∨(aJ qs x.l[k].b (-1)).2≠0):bN x ps (x.l.take (k+1))=none:=by
 rw[qO hk h]
 by_cases h1:eU x x.l[k]=true
 ·rw[if_pos h1]
 ·rw[if_neg h1]
  rcases h2 with h2|h2
  ·exact absurd h2 h1
  ·rw[if_pos h2]
theorem vJ (s:BufS) (x:SideD) (hB:BokB s) (he:∀ y ∈ x.l,SmallEn y):aXc 105 [.c (.own 0 0),aOj x] s (gR s.p s.w x):=by
 by_cases hl:x.l.length=0∨8<x.l.length
 ·have c:=aIj s x hB.w.pid hl
  exact⟨_,s,c,hB.w.pid,.inr ⟨by unfold gR;rw[if_pos hl],_,rfl⟩⟩
 have hl2:1≤x.l.length∧x.l.length≤8:=by omega
 have hsp:gR s.p s.w x=match bN x s.p.prods x.l with
   | none=>none
   | some qs =>
    if x.l.length≤(cG s.w x.pid).length then none else
    if cG s.w x.pid≠(x.l.map (·.b)).take (cG s.w x.pid).length then none else
    some ({ s.p with prods:=qs,opens:=s.p.opens++[⟨x.pid,jZ x,x.l.map (·.b)⟩] },cI s.w x.pid):=by unfold gR;rw[if_neg hl]<;>rfl
 rw[hsp]
 cases hq:bN x s.p.prods x.l with
 | none =>
  obtain⟨k,hk,qs,h1,h2⟩:=aA0 x.l.length (Nat.le_refl _) (by rw[List.take_length];exact hq)
  have hno:∀ rs,bN x s.p.prods x.l=some rs→False:=fun rs h=>by rw[hq] at h;cases h
  have hsn:=qO hk h1
  rw[h2] at hsn
  by_cases hn:eU x x.l[k]=true
  ·have ho:SdOut s x (jA aYv) (rI s qs):=by
    refine⟨fun j hj rs h3 h4=>?_,fun j hj rs h3 h4 h5=>?_,fun rs h _=>(hno rs h).elim,fun rs h _ _=>(hno rs h).elim,fun rs h _ _=>(hno rs h).elim⟩
    ·have e:=qP h1 h2 h3 (pL hj h3 (.inl h4))
     subst e
     rw[h1] at h3;cases h3;exact⟨rfl,rfl⟩
    ·have e:=qP h1 h2 h3 (pL hj h3 (.inr h5))
     subst e
     rw[hn] at h4;cases h4
   exact⟨_,rI s qs,jU s x _ (rI s qs) hB he hB.w.pid rfl hl2 ho,hB.w.pid,.inr ⟨rfl,_,rfl⟩⟩
  ·rw[if_neg hn] at hsn
   have hz:(aJ qs x.l[k].b (-1)).2≠0:=by
    intro h0
    rw[if_neg (by simpa using h0)] at hsn;cases hsn
   have hn:eU x x.l[k]=false:=by simpa using hn
   have ho:SdOut s x (jA (aL3 (aJ qs x.l[k].b (-1)).2)) (rI s qs):=by
    refine⟨fun j hj rs h3 h4=>?_,fun j hj rs h3 h4 h5=>?_,fun rs h _=>(hno rs h).elim,fun rs h _ _=>(hno rs h).elim,fun rs h _ _=>(hno rs h).elim⟩
    ·have e:=qP h1 h2 h3 (pL hj h3 (.inl h4))
     subst e
     rw[hn] at h4;cases h4
    ·have e:=qP h1 h2 h3 (pL hj h3 (.inr h5))
     subst e
     rw[h1] at h3;cases h3;exact⟨rfl,rfl⟩
   exact⟨_,rI s qs,jU s x _ (rI s qs) hB he hB.w.pid rfl hl2 ho,hB.w.pid,.inr ⟨rfl,_,rfl⟩⟩
 | some qs =>
  have hb1:∀ (j:Nat) (hj:j<x.l.length) (rs:List ProdD),bN x s.p.prods (x.l.take j)=some rs→(eU x x.l[j]=true∨(aJ rs x.l[j].b (-1)).2≠0)→False:=fun j hj rs h3 h4=>by
   have:=aD3 (pL hj h3 h4)
   rw[hq] at this;cases this
  have heq:∀ rs,bN x s.p.prods x.l=some rs→rs=qs:=fun rs h=>by rw[hq] at h;cases h;rfl
  dsimp only
  by_cases hm:x.l.length≤(cG s.w x.pid).length
  ·rw[if_pos hm]
   have ho:SdOut s x (jA aYw) (rI s qs):=⟨fun j hj rs h3 h4=>(hb1 j hj rs h3 (.inl h4)).elim,fun j hj rs h3 h4 h5=>(hb1 j hj rs h3 (.inr h5)).elim,fun rs h _=>by rw[heq rs h];exact⟨rfl,rfl⟩,fun rs h h5=>by omega,fun rs h h5=>by omega⟩
   exact⟨_,rI s qs,jU s x _ (rI s qs) hB he hB.w.pid rfl hl2 ho,hB.w.pid,.inr ⟨rfl,_,rfl⟩⟩
  rw[if_neg hm]
  by_cases ht:cG s.w x.pid≠(x.l.map (·.b)).take (cG s.w x.pid).length
  ·rw[if_pos ht]
   have ho:SdOut s x (jA aYx) (rI s qs):=⟨fun j hj rs h3 h4=>(hb1 j hj rs h3 (.inl h4)).elim,fun j hj rs h3 h4 h5=>(hb1 j hj rs h3 (.inr h5)).elim,fun rs h h5=>by omega,fun rs h _ _=>by rw[heq rs h];exact⟨rfl,rfl⟩,fun rs h _ h5=>(ht h5).elim⟩
   exact⟨_,rI s qs,jU s x _ (rI s qs) hB he hB.w.pid rfl hl2 ho,hB.w.pid,.inr ⟨rfl,_,rfl⟩⟩
  ·rw[if_neg ht]
   have ho:SdOut s x lH (sdT s x qs):=⟨fun j hj rs h3 h4=>(hb1 j hj rs h3 (.inl h4)).elim,fun j hj rs h3 h4 h5=>(hb1 j hj rs h3 (.inr h5)).elim,fun rs h h5=>by omega,fun rs h _ h5=>(ht h5).elim,fun rs h _ _=>by rw[heq rs h];exact⟨rfl,rfl⟩⟩
   exact⟨_,sdT s x qs,jU s x _ (sdT s x qs) hB he (mQ hB.w.pid x.pid) rfl hl2 ho,mQ hB.w.pid x.pid,.inl ⟨rfl,rfl,hB.v⟩⟩
end Go.Proofs.YtpklhnpchhaccaaGreatDoor
