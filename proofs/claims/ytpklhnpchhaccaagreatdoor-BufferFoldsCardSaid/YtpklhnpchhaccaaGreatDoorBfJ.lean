/- Package buffer: side,the walk. -/
import Derived.Test.YtpklhnpchhaccaaGreatDoorBfMc
import Derived.Test.YtpklhnpchhaccaaGreatDoorRhMa
namespace Go.Proofs.YtpklhnpchhaccaaGreatDoor
open Go Go.RowKit
set_option maxHeartbeats 16000000
set_option maxRecDepth 100000
set_option linter.unusedVariables false
set_option linter.unusedSimpArgs false
abbrev bfY (s:BufS) (x:SideD) (l:List BatD):List (Nat × HE):=iO s++[(1000,.cells [.d (int x.pid),.d (.lst 18 (x.l.map EntD.dv))]),(1001,.cells [.d (int x.pid),.d (int (nH x)),.app 60 5 (l.map BatD.dv)]),(60,.row 62 5 l.length)]
theorem oU {L:List (Nat × SV)} {s:BufS} {x:SideD} {k:List BatD} (h:iN s.w) (hL:(L.all fun p=>p.2.ids.all fun i=>(gD++[1000,1001,60]).contains i)=true):(gK L (bfY s x k) && dW ⟨gD,[],false,none⟩ (bfY s x k))=true:=by
 have e1:(bfY s x k).map (·.1)=gD++[1000,1001,60]:=rfl
 have h2:=sJ s.vc _ h
 have h3:(((qR s.vc s.w).flatMap CV.ids).all fun i=>(gD++[1000,1001,60]).contains i)=true:=by
  rw[List.all_eq_true] at h2 ⊢
  intro i hi
  have:=h2 i hi
  simp only[List.contains_iff_mem,List.mem_append] at this ⊢
  exact .inl this
 unfold gK
 rw[e1,hL]
 simp only[bfY,iO,List.cons_append,List.nil_append,List.all_cons,List.all_nil,rF]
 rw[show ((qR s.vc s.w).flatMap CV.ids).all (fun i=>[0,8,9,10,31,32,33,34,35,36,37,38,1000,1001,60].contains i)=true from h3]
 rfl
abbrev aXp:List UInt8:=[97,110,32,101,110,116,114,121,32,111,102,32,97,32,115,105,100,101,32,102,105,108,101]
abbrev aXq:List UInt8:=[99,111,112,105,101,115,32,111,102,32,116,104,101,32,119,104,111,108,101,32,115,105,100,101,32,102,105,108,101,32,116,104,97,116,32,119,97,105,116]
abbrev aXr:List UInt8:=[99,111,112,105,101,115,32,111,102,32,97,110,111,116,104,101,114,32,115,105,100,101,32,102,105,108,101]
def qQ (s:BufS) (qs:List ProdD):BufS:={ s with p:={ s.p with prods:=qs } }
def sdT (s:BufS) (x:SideD) (qs:List ProdD):BufS:={ s with p:={ s.p with prods:=qs,opens:=s.p.opens++[⟨x.pid,nH x,x.l.map (·.b)⟩] },w:=cU s.w x.pid }
structure SdOut (s:BufS) (x:SideD) (r:SV) (t:BufS):Prop where
 bad:∀ k (hk:k<x.l.length) qs,bV x s.p.prods (x.l.take k)=some qs→gA x x.l[k]=true→r=jH aXp∧t=qQ s qs
 take:∀ k (hk:k<x.l.length) qs,bV x s.p.prods (x.l.take k)=some qs→gA x x.l[k]=false→(aG qs x.l[k].b (-1)).2≠0→r=jH (aJz (aG qs x.l[k].b (-1)).2)∧t=qQ s qs
 many:∀ qs,bV x s.p.prods x.l=some qs→x.l.length≤(dG s.w x.pid).length→r=jH aXq∧t=qQ s qs
 other:∀ qs,bV x s.p.prods x.l=some qs→(dG s.w x.pid).length<x.l.length→dG s.w x.pid≠(x.l.map (·.b)).take (dG s.w x.pid).length→r=jH aXr∧t=qQ s qs
 done:∀ qs,bV x s.p.prods x.l=some qs→(dG s.w x.pid).length<x.l.length→dG s.w x.pid=(x.l.map (·.b)).take (dG s.w x.pid).length→r=lJ∧t=sdT s x qs
theorem aGz {α:Type} [DecidableEq α] (a b:List α) (k:Nat) (hk:k<a.length) (hb:k<b.length) (h:a.take k=b.take k):a.take (k+1)=b.take (k+1) ↔ a[k]=b[k]:=by
 rw[List.take_succ_eq_append_getElem hk,List.take_succ_eq_append_getElem hb,h]
 constructor
 ·intro e;have:=List.append_cancel_left e;simpa using this
 ·intro e;rw[e]
theorem aEi {L:List (Nat × SV)} {s:BufS} {cs:List D} (h:iN s.w) (hL:(L.all fun p=>p.2.ids.all fun i=>(gD++[1001]).contains i)=true):(gK L (iO s++[(1001,.cells (cs.map CV.d))]) && dW ⟨gD,[],false,none⟩ (iO s++[(1001,.cells (cs.map CV.d))]))=true:=by
 have e1:(iO s++[(1001,HE.cells (cs.map CV.d))]:List (Nat × HE)).map (fun p=>p.1)=gD++[1001]:=rfl
 have h2:=sJ s.vc _ h
 have h3:(((qR s.vc s.w).flatMap CV.ids).all fun i=>(gD++[1001]).contains i)=true:=by
  rw[List.all_eq_true] at h2 ⊢
  intro i hi
  have:=h2 i hi
  simp only[List.contains_iff_mem,List.mem_append] at this ⊢
  exact .inl this
 have i1:HE.ids (.cells (cs.map CV.d))=[]:=eS _
 unfold gK
 rw[e1,hL]
 simp only[iO,List.cons_append,List.nil_append,List.all_cons,List.all_nil,rF,i1]
 rw[show ((qR s.vc s.w).flatMap CV.ids).all (fun i=>[0,8,9,10,31,32,33,34,35,36,37,38,1001].contains i)=true from h3]
 rfl
theorem kG (s:BufS) (x:SideD) (r:SV) (t:BufS) (hB:BokB s) (he:∀ y ∈ x.l,SmallEn y) (ht:iN t.w) (hr:nM r.ids gD=true) (hl:1≤x.l.length∧x.l.length≤8) (ho:SdOut s x r t):FunG Tryz.prog 105 [.c (.own 0 0),aNj x] gD (bI (iO s)) r gD (bI (iO t)):=by
 have hw:=hB.w.pid
 have hv:=hB.v
 obtain⟨hl8,hlr⟩:=aTp hB x.pid
 have hprods:=hB.sm.prods
 have hseen:=hB.sm.seen
 have hopens:=hB.sm.opens
 have d1:((x.l.length:Int) == 0)=false:=by rw[beq_eq_false_iff_ne];omega
 have d2:decide ((8:Int)<(x.l.length:Int))=false:=decide_eq_false (by omega)
 obtain⟨y,hy,hye⟩:∃ y,x.l[0]? = some y∧nH x=y.b.epoch:=by
  obtain⟨pid,l⟩:=x
  cases l with
  | nil=>simp at hl
  | cons y l=>exact⟨y,rfl,rfl⟩
 refine FunG.of_bodyH rfl rfl Tryz.func105 rfl rfl Tryz.ntmps105 Tryz.results105 (Nat.le_of_ble_eq_true rfl) (kU rfl hr hw ht) ?_
 (refine gO (@aC) ?_)
 (first|refine Wp.sto 22 (vb false) ?_ ?_|refine Wp.rtoS 22 (vb false) ?_ ?_|(refine Wp.seq ?_;first|refine Wp.sto 22 (vb false) ?_ ?_|refine Wp.rtoS 22 (vb false) ?_ ?_))
 ·((refine rO (ai d1 (d2)) ?_;try with_reducible exact tt);(repeat (refine dB (by assumption) ?_;(refine rO (ai d1 (d2)) ?_))))
  all_goals (exact (show bE _ _=true by kernel_rfl))
 (refine gO (ai @aC (ai hy (@EntD.dv.eq_1))) ?_)
 refine Wp.weak (aD.nilAppCell (id:=1001) (k:=2) (τ:=60) (cs:=[.d (int x.pid),.d (int y.b.epoch),.d (.val (.slice none 0 0))]) 62 5 (by decide) (by (refine rO (@aC) ?_;try with_reducible exact tt)) (by (refine rO (@aC) ?_;try with_reducible exact tt)) rfl) ?_
 refine Wp.loop (fun k:Nat=>⟨iH [(0,.c (.own 0 0)),(3,.c (.own 1000 0)),(5,.c (.own 1001 0)),(34,.c (.d (.lst 18 (x.l.map EntD.dv)))),(35,vi .i64 x.l.length),(36,vi .i64 k)],bI (bfY (qQ s ((bV x s.p.prods (x.l.take k)).getD [])) x ((x.l.map (·.b)).take k)),1020,133,⟨gD,[],false,none⟩⟩) (fun k=>k≤x.l.length∧(bV x s.p.prods (x.l.take k)).isSome=true) (fun k=>x.l.length - k) 0 ⟨Nat.zero_le _,rfl⟩ ?_ ?_
 ·refine aD.keep rfl (oU hw rfl) ?_
  simp (maxSteps:=2000000) (disch:=omega) only[gE,TY,bW,eH,fP,SV.ofD,eA,eO,fI,fJ,bR,fK,eX,eQ,fL,eL,fG,fF,fH,CV.exact,CV.lstOf,CV.lenOf,CV.one,D.one,Value.oneCell',CV.toD0,fX,eF,fZ,fC,rD0,gC,fD,fY,reduceCtorEq,reduceIte,Nat.reduceBEq,Nat.reduceEqDiff,Nat.reduceAdd,Nat.reduceMul,Nat.reduceSub,Nat.reduceLT,Nat.reduceLeDiff,Nat.reduceBNe,Int.reduceLE,Int.reduceLT,Int.reduceBEq,Int.reduceBNe,Int.reduceEq,Int.reduceNeg,Int.reduceAdd,Int.reduceSub,Int.reduceToNat,forall_const,aC,hye,List.take_zero,bV,Option.getD_some,List.map_nil,List.length_nil,qQ]
  rfl
 rintro k ⟨hk,hks⟩
 obtain⟨qs,hqs⟩:=Option.isSome_iff_exists.1 hks
 rw[hqs,Option.getD_some]
 have htl:(x.l.take k).length≤8:=by rw[List.length_take];omega
 obtain⟨g1,g2⟩:=rT (x.l.take k) s.p.prods qs 10000 hprods hseen hqs
 have hq2:SmallL qs:=⟨by omega,fun z hz=>by have:=g2 z hz;omega⟩
 have hwq:iN (qQ s qs).w:=hw
 by_cases hkl:k<x.l.length
 ·have d3:decide ((k:Int)<(x.l.length:Int))=true:=decide_eq_true (by omega)
  have hge:x.l[k]? = some x.l[k]:=List.getElem?_eq_getElem hkl
  have hwk:IntKind.i64.wrap ((k:Int)+1)=((k+1:Nat):Int):=by rw[bA (by omega)];rfl
  have hsn:=qC hkl hqs
  obtain⟨hr1,hr2,hr3⟩:=he _ (List.getElem_mem hkl)
  have hbad:=ho.bad k hkl qs hqs
  have htake:=ho.take k hkl qs hqs
  have htk1:(x.l.map (·.b)).take (k+1)=(x.l.map (·.b)).take k++[x.l[k].b]:=by
   rw[List.take_succ_eq_append_getElem (by rw[List.length_map];exact hkl),List.getElem_map]
  have htkl:((x.l.map (·.b)).take k).length=k:=by rw[List.length_take,List.length_map];omega
  generalize (x.l.map (·.b)).take k=wl at *
  have hbb:(wl.length+1)*56≤140737488355328:=by omega
  generalize x.l[k]=e at *
  have c1:=wP e hr2 hr3
  simp only[EntD.dv] at c1
  (refine gO (ai @aC (ai d3 (ai hge (@EntD.dv.eq_1)))) ?_)
  (first|refine Wp.sto 68 (vb (gA x e)) ?_ ?_|refine Wp.rtoS 68 (vb (gA x e)) ?_ ?_|(refine Wp.seq ?_;first|refine Wp.sto 68 (vb (gA x e)) ?_ ?_|refine Wp.rtoS 68 (vb (gA x e)) ?_ ?_))
  ·unfold gA
   cases q1:aL e with
   | false =>
    rw[q1] at c1
    ((refine rO (@EntD.dv.eq_1) ?_);(repeat (refine dB (by assumption) ?_;(refine rO (@EntD.dv.eq_1) ?_;try with_reducible exact tt))))
    all_goals (exact (show bE _ _=true by kernel_rfl))
   | true =>
   rw[q1] at c1
   cases q2:(e.kind != 0) with
   | true =>
    ((refine rO (ai @EntD.dv.eq_1 (q2)) ?_);(repeat (refine dB (by assumption) ?_;(refine rO (ai @EntD.dv.eq_1 (q2)) ?_;try with_reducible exact tt))))
    all_goals (exact (show bE _ _=true by kernel_rfl))
   | false =>
   cases q3:e.b.txn<;>(rw[q3] at c1)<;>cases q4:(e.b.pid != x.pid)<;>cases q5:(e.b.epoch != nH x)<;>(((refine rO (ai @EntD.dv.eq_1 (ai q2 (ai q3 (ai q4 (q5))))) ?_);(repeat (refine dB (by assumption) ?_;(refine rO (ai @EntD.dv.eq_1 (ai q2 (ai q3 (ai q4 (q5))))) ?_;try with_reducible exact tt))));all_goals (exact (show bE _ _=true by kernel_rfl)))
  cases hn:gA x e with
  | true =>
   obtain⟨rfl,rfl⟩:=hbad hn
   have c6:=cV aXp
   (refine gO (@aC) ?_)
   refine aO.ret ?_
   simp (maxSteps:=2000000) (disch:=omega) only[gE,TY,bW,eH,fP,SV.ofD,eA,eO,fI,fJ,bR,fK,eX,eQ,fL,eL,fG,fF,fH,CV.exact,CV.lstOf,CV.lenOf,CV.one,D.one,Value.oneCell',CV.toD0,fX,eF,fZ,fC,rD0,gC,fD,fY,reduceCtorEq,reduceIte,Nat.reduceBEq,Nat.reduceEqDiff,Nat.reduceAdd,Nat.reduceMul,Nat.reduceSub,Nat.reduceLT,Nat.reduceLeDiff,Nat.reduceBNe,Int.reduceLE,Int.reduceLT,Int.reduceBEq,Int.reduceBNe,Int.reduceEq,Int.reduceNeg,Int.reduceAdd,Int.reduceSub,Int.reduceToNat,forall_const,aC,retG,aJ,qQ]
  | false =>
  rw[hn,if_neg Bool.false_ne_true] at hsn
  have htake:=htake hn
  have hbW:aOf e.b = .agg (e.b.dv.map CV.d):=rfl
  by_cases hz:(aG qs e.b (-1)).2≠0
  ·obtain⟨rfl,rfl⟩:=htake hz
   have c4:=aA3 (qQ s qs) e.b hw hq2 hr2 hz
   have ez:(aG (qQ s qs).p.prods e.b (-1)).2=(aG qs e.b (-1)).2:=rfl
   rw[ez] at c4
   (refine gO (ai @aC (ai @EntD.dv.eq_1 (ai @List.map_cons.{0,0} (@List.map_nil.{0,0})))) ?_)
   (first|refine Wp.sregG ?_|refine Wp.regG ?_|(refine Wp.seq ?_;first|refine Wp.sregG ?_|refine Wp.regG ?_))
   (refine aH.at 2 (fun K hK=>?_);(refine rO (ai @aC (ai @EntD.dv.eq_1 (ai @List.map_cons.{0,0} (@List.map_nil.{0,0})))) ?_);refine hK _ ?_;clear hK K)
   (refine aH.call (c4) [] 1040 rfl rfl ?_ ?_;(focus ((refine wG (ai @cT (ai @aC (ai @aM (ai hbW (ai @BatD.dv.eq_1 (ai @List.map_cons.{0,0} (@List.map_nil.{0,0}))))))) ?_;try with_reducible exact tt);done)))
   (refine aH.done (fun K hK=>?_);(refine rOt (ai @aC (ai @cH.eq_1 (ai @cH.eq_2 (ai @aM (ai @bU (ai @List.map_cons.{0,0} (@List.map_nil.{0,0}))))))) ?_);refine hK _ ?_;clear hK K)
   (refine gO (@aC) ?_)
   refine aO.ret ?_
   (refine rO (ai @aC (ai @aJ.eq_1 (@aJ.eq_2))) ?_;try with_reducible exact tt)
  ·have hz0:(aG qs e.b (-1)).2=0:=by simpa using hz
   rw[if_neg hz] at hsn
   have c4:=aA4 (qQ s qs) e.b hw hq2 hr2 hz0
   have et:aH0 (qQ s qs) e.b=qQ s (aG qs e.b (-1)).1:=rfl
   rw[et] at c4
   have c5:=tJ e.b (by omega)
   simp only[BatD.dv] at c5
   generalize (aG qs e.b (-1)).1=np at *
   (refine gO (ai @aC (ai @EntD.dv.eq_1 (ai @List.map_cons.{0,0} (@List.map_nil.{0,0})))) ?_)
   (first|refine Wp.sregG ?_|refine Wp.regG ?_|(refine Wp.seq ?_;first|refine Wp.sregG ?_|refine Wp.regG ?_))
   (refine aH.at 2 (fun K hK=>?_);(refine rO (ai @aC (ai @EntD.dv.eq_1 (ai @List.map_cons.{0,0} (@List.map_nil.{0,0})))) ?_);refine hK _ ?_;clear hK K)
   (refine aH.call (c4) [] 1040 rfl rfl ?_ ?_;(focus ((refine wG (ai @cT (ai @aC (ai @aM (ai hbW (ai @BatD.dv.eq_1 (ai @List.map_cons.{0,0} (@List.map_nil.{0,0}))))))) ?_;try with_reducible exact tt);done)))
   (refine aH.done (fun K hK=>?_);(refine rOt (ai @aC (ai @cH.eq_1 (ai @cH.eq_2 (ai @aM (ai @bU (ai @List.map_cons.{0,0} (@List.map_nil.{0,0}))))))) ?_);refine hK _ ?_;clear hK K)
   (refine gO (ai @aC (ai hbb (ai @EntD.dv.eq_1 (ai @BatD.dv.eq_1 (ai @List.length_map.{0,0} (ai @List.map_cons.{0,0} (@List.map_nil.{0,0}))))))) ?_)
   refine⟨k+1,⟨hkl,by rw[hsn];rfl⟩,by omega,?_⟩
   rw[hsn,Option.getD_some,htk1]
   refine aD.keep rfl (oU hw rfl) ?_
   (refine rO (ai @aC (ai hwk (ai @EntD.dv.eq_1 (ai @BatD.dv.eq_1 (ai @List.map_append.{0,0} (ai @List.length_append.{0} (ai @List.length_cons.{0} (ai @List.length_nil.{0} (ai @List.map_cons.{0,0} (@List.map_nil.{0,0})))))))))) ?_;try with_reducible exact tt)
 have hke:k=x.l.length:=by omega
 subst hke
 rw[List.take_length] at hqs
 have hmany:=ho.many qs hqs
 have hother:=ho.other qs hqs
 have hdone:=ho.done qs hqs
 have d3:decide ((x.l.length:Int)<(x.l.length:Int))=false:=by simp
 obtain⟨l,hlw⟩:∃ l,l=dG s.w x.pid:=⟨_,rfl⟩
 have hbe:(x.l.map (·.b)).take x.l.length=x.l.map (·.b):=List.take_of_length_le (by rw[List.length_map];exact Nat.le_refl _)
 obtain⟨os,hos⟩:∃ os,os=x.l.map (·.b):=⟨_,rfl⟩
 have hosl:os.length=x.l.length:=by rw[hos,List.length_map]
 rw[← hlw,← hos] at hother hdone
 rw[← hlw] at hmany
 rw[← hlw] at hl8 hlr
 rw[hbe,← hos]
 (refine gO (ai @aC (d3)) ?_)
 refine Wp.meetT ⟨iH [(0,.c (.own 0 0)),(3,.c (.own 1000 0)),(5,.c (.own 1001 0)),(10,.c (.d (.lst 5 (l.map BatD.dv))))],bI (bfY (qQ s qs) x os),1020,133,⟨gD,[],false,none⟩⟩ ?_ ?_
 ·cases hk:lL s.w x.pid with
  | true =>
   have hci:=aTq (vt:=s.vc) hk
   rw[← hlw,hv] at hci
   have hq9:=hw _ (List.mem_of_getElem? (oF hk))
   dsimp only at hq9
   obtain⟨q,hq⟩:∃ q,q=x.pid.toNat:=⟨_,rfl⟩
   rw[← hq] at hci
   (first|refine Wp.sregM aI ?_|refine Wp.regM aI ?_|(refine Wp.seq ?_;first|refine Wp.sregM aI ?_|refine Wp.regM aI ?_))
   (refine cR.at 6 (fun K hK=>?_);(refine rO (ai @aC (ai @List.map_cons.{0,0} (@List.map_nil.{0,0}))) ?_);refine hK _ _ ?_;clear hK K)
   refine cR.imapHas rfl 8 (pG s.w) (qR s.vc s.w) (wI s.w x.pid) x.pid _ _ jM kJ zM (sB hk) (fun j hj=>qH hj) (by rw[hv];exact hci) ⟨by kernel_rfl,by kernel_rfl,eT ?_ ?_,?_⟩ ?_
   ·(refine rO (@aC) ?_;try with_reducible exact tt)
   ·simp (maxSteps:=2000000) (disch:=omega) only[gE,TY,bW,eH,fP,SV.ofD,eA,eO,fI,fJ,bR,fK,eX,eQ,fL,eL,fG,fF,fH,CV.exact,CV.lstOf,CV.lenOf,CV.one,D.one,Value.oneCell',CV.toD0,fX,eF,fZ,fC,rD0,gC,fD,fY,reduceCtorEq,reduceIte,Nat.reduceBEq,Nat.reduceEqDiff,Nat.reduceAdd,Nat.reduceMul,Nat.reduceSub,Nat.reduceLT,Nat.reduceLeDiff,Nat.reduceBNe,Int.reduceLE,Int.reduceLT,Int.reduceBEq,Int.reduceBNe,Int.reduceEq,Int.reduceNeg,Int.reduceAdd,Int.reduceSub,Int.reduceToNat,forall_const,aC,qQ]
   ·simp (maxSteps:=2000000) (disch:=omega) only[gE,TY,bW,eH,fP,SV.ofD,eA,eO,fI,fJ,bR,fK,eX,eQ,fL,eL,fG,fF,fH,CV.exact,CV.lstOf,CV.lenOf,CV.one,D.one,Value.oneCell',CV.toD0,fX,eF,fZ,fC,rD0,gC,fD,fY,reduceCtorEq,reduceIte,Nat.reduceBEq,Nat.reduceEqDiff,Nat.reduceAdd,Nat.reduceMul,Nat.reduceSub,Nat.reduceLT,Nat.reduceLeDiff,Nat.reduceBNe,Int.reduceLE,Int.reduceLT,Int.reduceBEq,Int.reduceBNe,Int.reduceEq,Int.reduceNeg,Int.reduceAdd,Int.reduceSub,Int.reduceToNat,forall_const,iU,uK,aC]
   (refine cR.done (fun K hK=>?_);(refine rO (ai @aC (ai @List.map_cons.{0,0} (@List.map_nil.{0,0}))) ?_);refine hK _ _ ?_;clear hK K;refine⟨by kernel_rfl,?_⟩)
   refine aD.trans (aD.aptD (t:=10) (τ:=30+q) (sz:=5) (n:=s.vt q) (xs:=l.map BatD.dv) (by (refine rO (@aC) ?_;try with_reducible exact tt))) (aD.keep rfl (oU hw rfl) ?_)
   (refine rO (ai @aC (ai @List.map_cons.{0,0} (@List.map_nil.{0,0}))) ?_;try with_reducible exact tt)
  | false =>
   have hl0:l=[]:=by rw[hlw];exact sA hk
   subst hl0
   (first|refine Wp.sregM aI ?_|refine Wp.regM aI ?_|(refine Wp.seq ?_;first|refine Wp.sregM aI ?_|refine Wp.regM aI ?_))
   (refine cR.at 6 (fun K hK=>?_);(refine rO (ai @aC (ai @List.map_cons.{0,0} (@List.map_nil.{0,0}))) ?_);refine hK _ _ ?_;clear hK K)
   refine cR.imapNone rfl 8 (pG s.w) (qR s.vc s.w) x.pid _ jM kJ zM (lT hk) ⟨by kernel_rfl,by kernel_rfl,eT ?_ ?_,?_⟩ ?_
   ·(refine rO (@aC) ?_;try with_reducible exact tt)
   ·simp (maxSteps:=2000000) (disch:=omega) only[gE,TY,bW,eH,fP,SV.ofD,eA,eO,fI,fJ,bR,fK,eX,eQ,fL,eL,fG,fF,fH,CV.exact,CV.lstOf,CV.lenOf,CV.one,D.one,Value.oneCell',CV.toD0,fX,eF,fZ,fC,rD0,gC,fD,fY,reduceCtorEq,reduceIte,Nat.reduceBEq,Nat.reduceEqDiff,Nat.reduceAdd,Nat.reduceMul,Nat.reduceSub,Nat.reduceLT,Nat.reduceLeDiff,Nat.reduceBNe,Int.reduceLE,Int.reduceLT,Int.reduceBEq,Int.reduceBNe,Int.reduceEq,Int.reduceNeg,Int.reduceAdd,Int.reduceSub,Int.reduceToNat,forall_const,aC,qQ]
   ·simp (maxSteps:=2000000) (disch:=omega) only[gE,TY,bW,eH,fP,SV.ofD,eA,eO,fI,fJ,bR,fK,eX,eQ,fL,eL,fG,fF,fH,CV.exact,CV.lstOf,CV.lenOf,CV.one,D.one,Value.oneCell',CV.toD0,fX,eF,fZ,fC,rD0,gC,fD,fY,reduceCtorEq,reduceIte,Nat.reduceBEq,Nat.reduceEqDiff,Nat.reduceAdd,Nat.reduceMul,Nat.reduceSub,Nat.reduceLT,Nat.reduceLeDiff,Nat.reduceBNe,Int.reduceLE,Int.reduceLT,Int.reduceBEq,Int.reduceBNe,Int.reduceEq,Int.reduceNeg,Int.reduceAdd,Int.reduceSub,Int.reduceToNat,forall_const,iU,uK,aC]
   (refine cR.done (fun K hK=>?_);(refine rO (ai @aC (ai @List.map_cons.{0,0} (@List.map_nil.{0,0}))) ?_);refine hK _ _ ?_;clear hK K;refine⟨by kernel_rfl,?_⟩)
   refine aD.trans (aD.slot (t:=10) (x:=.c (.d (.val (.slice none 0 0)))) (y:=.c (.d (.lst 5 []))) (by (refine rO (@aC) ?_;try with_reducible exact tt)) (fun g v h=>lU.nil 5 _ _ h)) (aD.keep rfl (oU hw rfl) ?_)
   (refine rO (ai @aC (ai @List.map_cons.{0,0} (@List.map_nil.{0,0}))) ?_;try with_reducible exact tt)
 by_cases hm:x.l.length≤l.length
 ·obtain⟨rfl,rfl⟩:=hmany hm
  have dm:decide ((os.length:Int)≤(l.length:Int))=true:=decide_eq_true (by omega)
  have c6:=cV aXq
  (refine gO (ai @aC (ai dm (@List.length_map.{0,0}))) ?_)
  refine aO.ret ?_
  (refine rO (ai @aC (ai @aJ.eq_1 (@aJ.eq_2))) ?_;try with_reducible exact tt)
 have dm:decide ((os.length:Int)≤(l.length:Int))=false:=decide_eq_false (by omega)
 (refine gO (ai @aC (ai dm (@List.length_map.{0,0}))) ?_)
 refine Wp.loop (fun k:Nat=>⟨iH [(0,.c (.own 0 0)),(3,.c (.own 1000 0)),(5,.c (.own 1001 0)),(98,.c (.d (.lst 5 (l.map BatD.dv)))),(99,vi .i64 l.length),(100,vi .i64 k)],bI (bfY (qQ s qs) x os),1020,133,⟨gD,[],false,none⟩⟩) (fun k=>k≤l.length∧l.take k=os.take k) (fun k=>l.length - k) 0 ⟨Nat.zero_le _,rfl⟩ ?_ ?_
 ·refine aD.keep rfl (oU hw rfl) ?_
  (refine rO (ai @aC (@List.length_map.{0,0})) ?_;try with_reducible exact tt)
 rintro k ⟨hkk,htk⟩
 by_cases hkl:k<l.length
 ·have d4:decide ((k:Int)<(l.length:Int))=true:=decide_eq_true (by omega)
  have hge:l[k]? = some l[k]:=List.getElem?_eq_getElem hkl
  have hgo:os[k]? = some os[k]:=List.getElem?_eq_getElem (by omega)
  have hwk:IntKind.i64.wrap ((k:Int)+1)=((k+1:Nat):Int):=by rw[bA (by omega)];rfl
  have hiff:=aGz l os k hkl (by omega) htk
  have hmr:=hlr _ (List.getElem_mem hkl)
  have hbad:¬ l[k]=os[k]→¬ l=os.take l.length:=fun h e=>h (by
   rw[← hiff]
   conv=>lhs;rw[e]
   rw[List.take_take];congr 1;omega)
  generalize l[k]=b at *
  generalize os[k]=c at *
  have c8:=aDx b c (by omega)
  simp only[BatD.dv] at c8
  by_cases hbc:b=c
  ·have dd:decide (b=c)=true:=decide_eq_true hbc
   rw[dd] at c8
   (refine gO (ai @aC (ai d4 (ai hge (ai hgo (ai @BatD.dv.eq_1 (ai @List.length_map.{0,0} (ai @List.map_cons.{0,0} (@List.map_nil.{0,0})))))))) ?_)
   refine⟨k+1,⟨hkl,hiff.2 hbc⟩,by omega,aD.keep rfl (oU hw rfl) ?_⟩
   (refine rO (ai @aC (hwk)) ?_;try with_reducible exact tt)
  ·have dd:decide (b=c)=false:=decide_eq_false hbc
   rw[dd] at c8
   obtain⟨rfl,rfl⟩:=hother (by omega) (hbad hbc)
   have c6:=cV aXr
   (refine gO (ai @aC (ai d4 (ai hge (ai hgo (ai @BatD.dv.eq_1 (ai @List.length_map.{0,0} (ai @List.map_cons.{0,0} (@List.map_nil.{0,0})))))))) ?_)
   refine aO.ret ?_
   (refine rO (ai @aC (ai @aJ.eq_1 (@aJ.eq_2))) ?_;try with_reducible exact tt)
 have hke2:k=l.length:=by omega
 subst hke2
 rw[List.take_length] at htk
 obtain⟨rfl,rfl⟩:=hdone (by omega) htk
 have d4:decide ((l.length:Int)<(l.length:Int))=false:=by simp
 have hob:(s.p.opens.length+1)*40≤140737488355328:=by omega
 (refine gO (ai @aC (d4)) ?_)
 refine Wp.weak (aD.cellAt (id:=1001) (k:=2) (cs:=[.d (int x.pid),.d (int (nH x)),.app 60 5 (os.map BatD.dv)]) (x:=.app 60 5 (os.map BatD.dv)) (y:=.d (.lst 5 (os.map BatD.dv))) (by (refine rO (@aC) ?_;try with_reducible exact tt)) rfl (fun g v h=>h.1)) ?_
 refine Wp.meetT ⟨iH [(0,.c (.own 0 0)),(5,.c (.own 1001 0))],bI (iO { qQ s qs with w:=cU s.w x.pid }++[(1001,.cells ([int x.pid,int (nH x),.lst 5 (os.map BatD.dv)].map CV.d))]),1020,133,⟨gD,[],false,none⟩⟩ ?_ ?_
 ·cases hk:lL s.w x.pid with
  | true =>
   (first|refine Wp.sregM aI ?_|refine Wp.regM aI ?_|(refine Wp.seq ?_;first|refine Wp.sregM aI ?_|refine Wp.regM aI ?_))
   (refine cR.at 6 (fun K hK=>?_);(refine rO (ai @aC (ai @List.map_cons.{0,0} (@List.map_nil.{0,0}))) ?_);refine hK _ _ ?_;clear hK K)
   refine cR.imapDel rfl 8 (pG s.w) (qR s.vc s.w) (wI s.w x.pid) x.pid jM kJ (sB hk) (fun j hj=>qH hj) ⟨by kernel_rfl,by kernel_rfl,eT ?_ ?_,?_,by kernel_rfl⟩ ?_
   ·(refine rO (@aC) ?_;try with_reducible exact tt)
   ·simp (maxSteps:=2000000) (disch:=omega) only[gE,TY,bW,eH,fP,SV.ofD,eA,eO,fI,fJ,bR,fK,eX,eQ,fL,eL,fG,fF,fH,CV.exact,CV.lstOf,CV.lenOf,CV.one,D.one,Value.oneCell',CV.toD0,fX,eF,fZ,fC,rD0,gC,fD,fY,reduceCtorEq,reduceIte,Nat.reduceBEq,Nat.reduceEqDiff,Nat.reduceAdd,Nat.reduceMul,Nat.reduceSub,Nat.reduceLT,Nat.reduceLeDiff,Nat.reduceBNe,Int.reduceLE,Int.reduceLT,Int.reduceBEq,Int.reduceBNe,Int.reduceEq,Int.reduceNeg,Int.reduceAdd,Int.reduceSub,Int.reduceToNat,forall_const,aC,qQ]
   ·simp (maxSteps:=2000000) (disch:=omega) only[gE,TY,bW,eH,fP,SV.ofD,eA,eO,fI,fJ,bR,fK,eX,eQ,fL,eL,fG,fF,fH,CV.exact,CV.lstOf,CV.lenOf,CV.one,D.one,Value.oneCell',CV.toD0,fX,eF,fZ,fC,rD0,gC,fD,fY,reduceCtorEq,reduceIte,Nat.reduceBEq,Nat.reduceEqDiff,Nat.reduceAdd,Nat.reduceMul,Nat.reduceSub,Nat.reduceLT,Nat.reduceLeDiff,Nat.reduceBNe,Int.reduceLE,Int.reduceLT,Int.reduceBEq,Int.reduceBNe,Int.reduceEq,Int.reduceNeg,Int.reduceAdd,Int.reduceSub,Int.reduceToNat,forall_const,iU,uK,aC]
   rw[aCh _ _ hk,aCg _ _ _ hk]
   (refine cR.done (fun K hK=>?_);(refine rO (ai @aC (ai @List.map_cons.{0,0} (@List.map_nil.{0,0}))) ?_);refine hK _ _ ?_;clear hK K;refine⟨by kernel_rfl,?_⟩)
   refine aD.keep rfl (aEi (mR hw x.pid) rfl) ?_
   simp (maxSteps:=2000000) (disch:=omega) only[gE,TY,bW,eH,fP,SV.ofD,eA,eO,fI,fJ,bR,fK,eX,eQ,fL,eL,fG,fF,fH,CV.exact,CV.lstOf,CV.lenOf,CV.one,D.one,Value.oneCell',CV.toD0,fX,eF,fZ,fC,rD0,gC,fD,fY,reduceCtorEq,reduceIte,Nat.reduceBEq,Nat.reduceEqDiff,Nat.reduceAdd,Nat.reduceMul,Nat.reduceSub,Nat.reduceLT,Nat.reduceLeDiff,Nat.reduceBNe,Int.reduceLE,Int.reduceLT,Int.reduceBEq,Int.reduceBNe,Int.reduceEq,Int.reduceNeg,Int.reduceAdd,Int.reduceSub,Int.reduceToNat,forall_const,aC,qQ,List.set_cons_succ,List.set_cons_zero,List.cons_append,List.nil_append]
  | false =>
   have e1:cU s.w x.pid=s.w:=by unfold cU;rw[hk];rfl
   rw[e1]
   (first|refine Wp.sregM aI ?_|refine Wp.regM aI ?_|(refine Wp.seq ?_;first|refine Wp.sregM aI ?_|refine Wp.regM aI ?_))
   (refine cR.at 6 (fun K hK=>?_);(refine rO (ai @aC (ai @List.map_cons.{0,0} (@List.map_nil.{0,0}))) ?_);refine hK _ _ ?_;clear hK K)
   refine cR.imapDelNo rfl 8 (pG s.w) (qR s.vc s.w) x.pid jM kJ (lT hk) ⟨by kernel_rfl,by kernel_rfl,eT ?_ ?_,?_,by kernel_rfl⟩ ?_
   ·(refine rO (@aC) ?_;try with_reducible exact tt)
   ·simp (maxSteps:=2000000) (disch:=omega) only[gE,TY,bW,eH,fP,SV.ofD,eA,eO,fI,fJ,bR,fK,eX,eQ,fL,eL,fG,fF,fH,CV.exact,CV.lstOf,CV.lenOf,CV.one,D.one,Value.oneCell',CV.toD0,fX,eF,fZ,fC,rD0,gC,fD,fY,reduceCtorEq,reduceIte,Nat.reduceBEq,Nat.reduceEqDiff,Nat.reduceAdd,Nat.reduceMul,Nat.reduceSub,Nat.reduceLT,Nat.reduceLeDiff,Nat.reduceBNe,Int.reduceLE,Int.reduceLT,Int.reduceBEq,Int.reduceBNe,Int.reduceEq,Int.reduceNeg,Int.reduceAdd,Int.reduceSub,Int.reduceToNat,forall_const,aC,qQ]
   ·simp (maxSteps:=2000000) (disch:=omega) only[gE,TY,bW,eH,fP,SV.ofD,eA,eO,fI,fJ,bR,fK,eX,eQ,fL,eL,fG,fF,fH,CV.exact,CV.lstOf,CV.lenOf,CV.one,D.one,Value.oneCell',CV.toD0,fX,eF,fZ,fC,rD0,gC,fD,fY,reduceCtorEq,reduceIte,Nat.reduceBEq,Nat.reduceEqDiff,Nat.reduceAdd,Nat.reduceMul,Nat.reduceSub,Nat.reduceLT,Nat.reduceLeDiff,Nat.reduceBNe,Int.reduceLE,Int.reduceLT,Int.reduceBEq,Int.reduceBNe,Int.reduceEq,Int.reduceNeg,Int.reduceAdd,Int.reduceSub,Int.reduceToNat,forall_const,iU,uK,aC]
   (refine cR.done (fun K hK=>?_);(refine rO (ai @aC (ai @List.map_cons.{0,0} (@List.map_nil.{0,0}))) ?_);refine hK _ _ ?_;clear hK K;refine⟨by kernel_rfl,?_⟩)
   refine aD.keep rfl (aEi hw rfl) ?_
   simp (maxSteps:=2000000) (disch:=omega) only[gE,TY,bW,eH,fP,SV.ofD,eA,eO,fI,fJ,bR,fK,eX,eQ,fL,eL,fG,fF,fH,CV.exact,CV.lstOf,CV.lenOf,CV.one,D.one,Value.oneCell',CV.toD0,fX,eF,fZ,fC,rD0,gC,fD,fY,reduceCtorEq,reduceIte,Nat.reduceBEq,Nat.reduceEqDiff,Nat.reduceAdd,Nat.reduceMul,Nat.reduceSub,Nat.reduceLT,Nat.reduceLeDiff,Nat.reduceBNe,Int.reduceLE,Int.reduceLT,Int.reduceBEq,Int.reduceBNe,Int.reduceEq,Int.reduceNeg,Int.reduceAdd,Int.reduceSub,Int.reduceToNat,forall_const,aC,qQ,List.set_cons_succ,List.set_cons_zero,List.cons_append,List.nil_append]
 (repeat (first|apply Wp.skip|apply Wp.exit|apply Wp.ret|apply Wp.block|apply Wp.label|((first|refine Wp.sreg (fun K hK=>?_)|refine Wp.reg (fun K hK=>?_)|refine Wp.sdrw aI (fun K hK=>?_)|refine Wp.drw aI (fun K hK=>?_)|refine Wp.condG (fun K hK hF=>?_));(repeat (revert hK;intro hK;simp (maxSteps:=2000000) (disch:=omega) only[gE,TY,bW,eH,fP,SV.ofD,eA,eO,fI,fJ,bR,fK,eX,eQ,fL,eL,fG,fF,fH,CV.exact,CV.lstOf,CV.lenOf,CV.one,D.one,Value.oneCell',CV.toD0,fX,eF,fZ,fC,rD0,gC,fD,fY,reduceCtorEq,reduceIte,Nat.reduceBEq,Nat.reduceEqDiff,Nat.reduceAdd,Nat.reduceMul,Nat.reduceSub,Nat.reduceLT,Nat.reduceLeDiff,Nat.reduceBNe,Int.reduceLE,Int.reduceLT,Int.reduceBEq,Int.reduceBNe,Int.reduceEq,Int.reduceNeg,Int.reduceAdd,Int.reduceSub,Int.reduceToNat,forall_const,aC,hob,OpenD.dv,qQ,List.cons_append,List.nil_append,List.length_map];(first|(refine hK _ ?_;clear hK K)|(refine⟨by kernel_rfl,hK _ ?_⟩;clear hK K)|(refine hK ?_;clear hK hF K)|(refine hF ?_;clear hK hF K)|refine dB (by assumption) ?_|refine bca (by assumption) ?_)));fail_if_success (revert hK;intro hK))|apply Wp.seq))
 refine aO.ret ?_
 simp (maxSteps:=2000000) (disch:=omega) only[gE,TY,bW,eH,fP,SV.ofD,eA,eO,fI,fJ,bR,fK,eX,eQ,fL,eL,fG,fF,fH,CV.exact,CV.lstOf,CV.lenOf,CV.one,D.one,Value.oneCell',CV.toD0,fX,eF,fZ,fC,rD0,gC,fD,fY,reduceCtorEq,reduceIte,Nat.reduceBEq,Nat.reduceEqDiff,Nat.reduceAdd,Nat.reduceMul,Nat.reduceSub,Nat.reduceLT,Nat.reduceLeDiff,Nat.reduceBNe,Int.reduceLE,Int.reduceLT,Int.reduceBEq,Int.reduceBNe,Int.reduceEq,Int.reduceNeg,Int.reduceAdd,Int.reduceSub,Int.reduceToNat,forall_const,aC,retG,aJ,sdT,qQ,hos,OpenD.dv,List.map_append,List.map_cons,List.map_nil,List.length_append,List.length_cons,List.length_nil]
theorem yP {x:SideD} {ps:List ProdD}:∀ (n:Nat),n≤x.l.length→bV x ps (x.l.take n)=none→∃ k,∃ hk:k<x.l.length,∃ qs,bV x ps (x.l.take k)=some qs∧bV x ps (x.l.take (k+1))=none
 | 0,_,h=>by rw[List.take_zero] at h;cases h
 | n+1,hn,h=>by
  cases hq:bV x ps (x.l.take n) with
  | none=>exact yP n (by omega) hq
  | some qs=>exact⟨n,by omega,qs,hq,h⟩
theorem qD {x:SideD} {ps a b:List ProdD} {i j:Nat} (h1:bV x ps (x.l.take i)=some a) (h2:bV x ps (x.l.take (i+1))=none) (h3:bV x ps (x.l.take j)=some b) (h4:bV x ps (x.l.take (j+1))=none):i=j:=by
 have key:∀ (i j:Nat) (b:List ProdD),bV x ps (x.l.take (i+1))=none→bV x ps (x.l.take j)=some b→¬ i<j:=fun i j b h2 h3 hlt=>by
  have:bV x ps (x.l.take j)=none:=aC0 (k:=i+1) (by rw[List.take_take,Nat.min_eq_left (by omega)];exact h2)
  rw[this] at h3;cases h3
 have:=key i j b h2 h3
 have:=key j i a h4 h1
 omega
theorem pD {x:SideD} {ps qs:List ProdD} {k:Nat} (hk:k<x.l.length) (h:bV x ps (x.l.take k)=some qs) (h2:gA x x.l[k]=true∨(aG qs x.l[k].b (-1)).2≠0):bV x ps (x.l.take (k+1))=none:=by
 rw[qC hk h]
 by_cases h1:gA x x.l[k]=true
 ·rw[if_pos h1]
 ·rw[if_neg h1]
  rcases h2 with h2|h2
  ·exact absurd h2 h1
  ·rw[if_pos h2]
theorem uP (s:BufS) (x:SideD) (hB:BokB s) (he:∀ y ∈ x.l,SmallEn y):aWa 105 [.c (.own 0 0),aNj x] s (gT s.p s.w x):=by
 by_cases hl:x.l.length=0∨8<x.l.length
 ·have c:=aHq s x hB.w.pid hl
  exact⟨_,s,c,hB.w.pid,.inr ⟨by unfold gT;rw[if_pos hl],_,rfl⟩⟩
 have hl2:1≤x.l.length∧x.l.length≤8:=by omega
 have hsp:gT s.p s.w x=match bV x s.p.prods x.l with
   | none=>none
   | some qs =>
    if x.l.length≤(dG s.w x.pid).length then none else
    if dG s.w x.pid≠(x.l.map (·.b)).take (dG s.w x.pid).length then none else
    some ({ s.p with prods:=qs,opens:=s.p.opens++[⟨x.pid,nH x,x.l.map (·.b)⟩] },cU s.w x.pid):=by unfold gT;rw[if_neg hl]<;>rfl
 rw[hsp]
 cases hq:bV x s.p.prods x.l with
 | none =>
  obtain⟨k,hk,qs,h1,h2⟩:=yP x.l.length (Nat.le_refl _) (by rw[List.take_length];exact hq)
  have hno:∀ rs,bV x s.p.prods x.l=some rs→False:=fun rs h=>by rw[hq] at h;cases h
  have hsn:=qC hk h1
  rw[h2] at hsn
  by_cases hn:gA x x.l[k]=true
  ·have ho:SdOut s x (jH aXp) (qQ s qs):=by
    refine⟨fun j hj rs h3 h4=>?_,fun j hj rs h3 h4 h5=>?_,fun rs h _=>(hno rs h).elim,fun rs h _ _=>(hno rs h).elim,fun rs h _ _=>(hno rs h).elim⟩
    ·have e:=qD h1 h2 h3 (pD hj h3 (.inl h4))
     subst e
     rw[h1] at h3;cases h3;exact⟨rfl,rfl⟩
    ·have e:=qD h1 h2 h3 (pD hj h3 (.inr h5))
     subst e
     rw[hn] at h4;cases h4
   exact⟨_,qQ s qs,kG s x _ (qQ s qs) hB he hB.w.pid rfl hl2 ho,hB.w.pid,.inr ⟨rfl,_,rfl⟩⟩
  ·rw[if_neg hn] at hsn
   have hz:(aG qs x.l[k].b (-1)).2≠0:=by
    intro h0
    rw[if_neg (by simpa using h0)] at hsn;cases hsn
   have hn:gA x x.l[k]=false:=by simpa using hn
   have ho:SdOut s x (jH (aJz (aG qs x.l[k].b (-1)).2)) (qQ s qs):=by
    refine⟨fun j hj rs h3 h4=>?_,fun j hj rs h3 h4 h5=>?_,fun rs h _=>(hno rs h).elim,fun rs h _ _=>(hno rs h).elim,fun rs h _ _=>(hno rs h).elim⟩
    ·have e:=qD h1 h2 h3 (pD hj h3 (.inl h4))
     subst e
     rw[hn] at h4;cases h4
    ·have e:=qD h1 h2 h3 (pD hj h3 (.inr h5))
     subst e
     rw[h1] at h3;cases h3;exact⟨rfl,rfl⟩
   exact⟨_,qQ s qs,kG s x _ (qQ s qs) hB he hB.w.pid rfl hl2 ho,hB.w.pid,.inr ⟨rfl,_,rfl⟩⟩
 | some qs =>
  have hb1:∀ (j:Nat) (hj:j<x.l.length) (rs:List ProdD),bV x s.p.prods (x.l.take j)=some rs→(gA x x.l[j]=true∨(aG rs x.l[j].b (-1)).2≠0)→False:=fun j hj rs h3 h4=>by
   have:=aC0 (pD hj h3 h4)
   rw[hq] at this;cases this
  have heq:∀ rs,bV x s.p.prods x.l=some rs→rs=qs:=fun rs h=>by rw[hq] at h;cases h;rfl
  dsimp only
  by_cases hm:x.l.length≤(dG s.w x.pid).length
  ·rw[if_pos hm]
   have ho:SdOut s x (jH aXq) (qQ s qs):=⟨fun j hj rs h3 h4=>(hb1 j hj rs h3 (.inl h4)).elim,fun j hj rs h3 h4 h5=>(hb1 j hj rs h3 (.inr h5)).elim,fun rs h _=>by rw[heq rs h];exact⟨rfl,rfl⟩,fun rs h h5=>by omega,fun rs h h5=>by omega⟩
   exact⟨_,qQ s qs,kG s x _ (qQ s qs) hB he hB.w.pid rfl hl2 ho,hB.w.pid,.inr ⟨rfl,_,rfl⟩⟩
  rw[if_neg hm]
  by_cases ht:dG s.w x.pid≠(x.l.map (·.b)).take (dG s.w x.pid).length
  ·rw[if_pos ht]
   have ho:SdOut s x (jH aXr) (qQ s qs):=⟨fun j hj rs h3 h4=>(hb1 j hj rs h3 (.inl h4)).elim,fun j hj rs h3 h4 h5=>(hb1 j hj rs h3 (.inr h5)).elim,fun rs h h5=>by omega,fun rs h _ _=>by rw[heq rs h];exact⟨rfl,rfl⟩,fun rs h _ h5=>(ht h5).elim⟩
   exact⟨_,qQ s qs,kG s x _ (qQ s qs) hB he hB.w.pid rfl hl2 ho,hB.w.pid,.inr ⟨rfl,_,rfl⟩⟩
  ·rw[if_neg ht]
   have ho:SdOut s x lJ (sdT s x qs):=⟨fun j hj rs h3 h4=>(hb1 j hj rs h3 (.inl h4)).elim,fun j hj rs h3 h4 h5=>(hb1 j hj rs h3 (.inr h5)).elim,fun rs h h5=>by omega,fun rs h _ h5=>(ht h5).elim,fun rs h _ _=>by rw[heq rs h];exact⟨rfl,rfl⟩⟩
   exact⟨_,sdT s x qs,kG s x _ (sdT s x qs) hB he (mR hB.w.pid x.pid) rfl hl2 ho,mR hB.w.pid x.pid,.inl ⟨rfl,rfl,hB.v⟩⟩
end Go.Proofs.YtpklhnpchhaccaaGreatDoor
