/- Layer 14's statements: BufferBack. -/
import Derived.Test.YtpklhnpchhaccaaGreatDoorBfLg
import Derived.Test.YtpklhnpchhaccaaGreatDoorBfMg
namespace Go.Proofs.YtpklhnpchhaccaaGreatDoor
open Go Go.RowKit
set_option maxHeartbeats 16000000
set_option maxRecDepth 100000
set_option linter.unusedVariables false
set_option linter.unusedSimpArgs false
theorem aJx {k:Nat} {p:PartD} (hM:FOkM k p):(∀ e ∈ eH p,SmallEn e)∧∀ x ∈ p.opens.map bZ,(∀ y ∈ x.l,SmallEn y)∧x.l.length≤8:=by
 obtain⟨h1,_⟩:=aMa hM
 rw[qI] at h1
 refine⟨fun e he=>h1 e (List.mem_append.2 (.inl he)),fun x hx=>⟨fun y hy=>h1 y (List.mem_append.2 (.inr (List.mem_flatMap.2 ⟨x,hx,hy⟩))),?_⟩⟩
 obtain⟨o,ho,rfl⟩:=List.mem_map.1 hx
 have:=hM.bats o ho
 show (o.bats.map dZ).length≤8
 rw[List.length_map];exact this
theorem aB4 (l:List EntD) (s:List SideD) (hk:∀ e ∈ l,-128≤e.kind∧e.kind≤127) (hks:∀ x ∈ s,x.l.length≤maxLen∧∀ e ∈ x.l,-128≤e.kind∧e.kind≤127) :
  bF Tryz.prog 9 [.lst 18 (l.map EntD.dv),.lst 2 (s.map SideD.dv)] (gD true):=by
 have cw:=aA4
 have c0:=zP l s
 (refine bF.of_body Tryz.func9 rfl rfl Tryz.ntmps9 Tryz.results9 (by simp) ?_)
 cases hg:kX l s with
 | true =>
  rw[hg] at c0
  (refine cA ?_)
  (refine aY ?_;try with_reducible exact tt)
 | false =>
 rw[hg] at c0
 obtain⟨hl,hs,hsl,hss⟩:=aBo hg
 have hsm:∀ e ∈ l,SmallEn e:=fun e he=>⟨hk e he,by have:=(hs e he).1;omega,by have:=(hs e he).2;omega⟩
 have hsx:∀ x ∈ s,∀ y ∈ x.l,SmallEn y:=fun x hx y hy=>⟨(hks x hx).2 y hy,by have:=((hss x hx).2 y hy).1;omega,by have:=((hss x hx).2 y hy).2;omega⟩
 have c1:=hP l s (by omega) hsm (by omega) hsx
 have h14:=wV l s
 cases hfo:iT l s with
 | none =>
  rw[hfo] at h14
  have he:e14 l s=70:=(congrArg Prod.snd h14).symm
  rw[he] at c1
  generalize a14 l s=p at *
  simp only[PartD.dv] at c1
  (refine cA ?_)
  (refine aY ?_;try with_reducible exact tt)
 | some t =>
 rw[hfo] at h14
 have he:e14 l s=0:=(congrArg Prod.snd h14).symm
 have ha:a14 l s=t.p:=(congrArg Prod.fst h14).symm
 rw[he,ha] at c1
 obtain⟨u,_,_,_,_,hM,hB,hrl,_⟩:=aF1 hfo hl hsl
 generalize t.p=p at *
 obtain⟨t2,hb1,hb2⟩:=aXy hM hB
 have h14b:=wV (eH p) (p.opens.map bZ)
 rw[hb1] at h14b
 have he2:e14 (eH p) (p.opens.map bZ)=0:=(congrArg Prod.snd h14b).symm
 have ha2:a14 (eH p) (p.opens.map bZ)=lB p:=by rw[← hb2];exact (congrArg Prod.fst h14b).symm
 have hm8:=aC7 p.prods hM.may
 have hop:=hM.ok.len8
 have hml:=aJy p
 obtain⟨m1,m2⟩:=aJx hM
 have c2:=aB0 hM hB (by omega)
 have c3:=hP (eH p) (p.opens.map bZ) (by omega) m1 (by rw[List.length_map];omega) (fun x hx=>(m2 x hx).1)
 rw[he2,ha2] at c3
 have hlog:=aJu hM hB (Nat.le_refl _)
 have hM2:=vY (tN p) 0 pZ (lB p) aSb hlog
 rw[Nat.zero_add] at hM2
 have hB2:=aBk (tN p) 0 pZ (lB p) aSb bBs hlog
 have hll:(tN p).length≤1000:=by
  have h1:=aKn p hM.bats 0
  rw[qI,List.length_append]
  have e:jQ p 0=(p.opens.map bZ).flatMap (·.l):=rfl
  rw[← e]
  omega
 have c4:=aB0 hM2 hB2 hll
 rw[aQg] at c4
 have eo:(lB p).opens=p.opens:=rfl
 rw[eo] at c4
 have c5:=xE p.opens p.opens ⟨by omega,fun o ho=>by have:=hM.bats o ho;omega,fun o ho b hb=>by have:=hM.recs o ho b hb;omega⟩
 rw[show decide (p.opens=p.opens)=true by simp] at c5
 have c6:=aD2 p.prods p.prods (hM.small (by omega))
 rw[show decide (p.prods=p.prods)=true by simp] at c6
 have c7:=zY (eH p) (eH p) (by omega) (fun e he=>⟨(m1 e he).recs,(m1 e he).seen⟩)
 rw[show decide (eH p=eH p)=true by simp] at c7
 have c8:=aE6 (p.opens.map bZ) (p.opens.map bZ) (by rw[List.length_map];omega) (fun x hx=>⟨by have:=(m2 x hx).2;omega,fun e he=>⟨((m2 x hx).1 e he).recs,((m2 x hx).1 e he).seen⟩⟩)
 rw[show decide (p.opens.map bZ=p.opens.map bZ)=true by simp] at c8
 clear hlog hM2 hB2 hll hb1 hb2 h14b ha2 he2 h14 hfo m1 m2 hml ha he
 have hrl2:=aFt p.rows 0
 generalize eH p=M at *
 generalize p.opens.map bZ=S at *
 simp only[PartD.dv] at c1 c2
 simp only[PartD.dv,lB] at c3 c4
 have hb1:((p.rows.length:Int) != (p.rows.length:Int))=false:=by simp
 (refine gO (ai hrl2 (ai hb1 (@PartD.dv.eq_1))) ?_)
 refine Wp.loop (fun i:Nat=>⟨iC [(5,.c (.own 0 0)),(10,.c (.own 1 0)),(15,vi .i64 i)],bK [(0,.cells (p.dv.map .d)),(1,.cells ((lB p).dv.map .d))],2,130,0⟩) (fun i=>i≤p.rows.length) (fun i=>p.rows.length - i) 0 (Nat.zero_le _) ?_ ?_
 ·refine aD.keep rfl rfl ?_
  simp (maxSteps:=2000000) (disch:=omega) only[gE,TY,bV,eJ,fQ,SV.ofD,dS,eQ,fL,fM,bP,fN,eW,eT,fO,eN,fJ,fI,fK,CV.exact,CV.lstOf,CV.lenOf,CV.one,D.one,Value.oneCell',CV.toD0,fT,eB,fW,fG,rD0,gA,fF,fV,reduceCtorEq,reduceIte,Nat.reduceBEq,Nat.reduceEqDiff,Nat.reduceAdd,Nat.reduceMul,Nat.reduceSub,Nat.reduceLT,Nat.reduceLeDiff,Nat.reduceBNe,Int.reduceLE,Int.reduceLT,Int.reduceBEq,Int.reduceBNe,Int.reduceEq,Int.reduceNeg,Int.reduceAdd,Int.reduceSub,Int.reduceToNat,forall_const,PartD.dv,lB,List.map_nil,List.map_cons]
 intro i hi
 by_cases hil:i<p.rows.length
 ·have d3:decide ((i:Int)<(p.rows.length:Int))=true:=decide_eq_true (by omega)
  have hge:p.rows[i]? = some p.rows[i]:=List.getElem?_eq_getElem hil
  have hg2:=aFs p.rows 0 i
  rw[hge,Option.map_some,Int.zero_add] at hg2
  have hwi:IntKind.i64.wrap ((i:Int)+1)=((i+1:Nat):Int):=by rw[aT (by omega)];rfl
  generalize p.rows[i]=r at *
  have hbin:=fun x y=>(vD x y ⟨(i:Int),r.pid,r.seq,r.key,r.value⟩ ⟨(i:Int),r.pid,r.seq,r.key,r.value⟩).2
  simp only[decide_true,Bool.not_true] at hbin
  (repeat (first|apply Wp.skip|apply Wp.exit|apply Wp.ret|apply Wp.block|apply Wp.label|((first|refine Wp.sreg (fun K hK=>?_)|refine Wp.reg (fun K hK=>?_)|refine Wp.sdrw aI (fun K hK=>?_)|refine Wp.drw aI (fun K hK=>?_)|refine Wp.condG (fun K hK hF=>?_));(repeat (revert hK;intro hK;simp (maxSteps:=2000000) (disch:=omega) only[gE,TY,bV,eJ,fQ,SV.ofD,dS,eQ,fL,fM,bP,fN,eW,eT,fO,eN,fJ,fI,fK,CV.exact,CV.lstOf,CV.lenOf,CV.one,D.one,Value.oneCell',CV.toD0,fT,eB,fW,fG,rD0,gA,fF,fV,reduceCtorEq,reduceIte,Nat.reduceBEq,Nat.reduceEqDiff,Nat.reduceAdd,Nat.reduceMul,Nat.reduceSub,Nat.reduceLT,Nat.reduceLeDiff,Nat.reduceBNe,Int.reduceLE,Int.reduceLT,Int.reduceBEq,Int.reduceBNe,Int.reduceEq,Int.reduceNeg,Int.reduceAdd,Int.reduceSub,Int.reduceToNat,forall_const,d3,hge,hg2,hrl2,hbin,RowD.dv,PartD.dv,lB,List.map_nil,List.map_cons];(first|(refine hK _ ?_;clear hK K)|(refine⟨by kernel_rfl,hK _ ?_⟩;clear hK K)|(refine hK ?_;clear hK hF K)|(refine hF ?_;clear hK hF K)|refine eA (by assumption) ?_|refine bca (by assumption) ?_)));fail_if_success (revert hK;intro hK))|apply Wp.seq))
  refine⟨i+1,hil,by omega,aD.keep rfl rfl ?_⟩
  simp (maxSteps:=2000000) (disch:=omega) only[gE,TY,bV,eJ,fQ,SV.ofD,dS,eQ,fL,fM,bP,fN,eW,eT,fO,eN,fJ,fI,fK,CV.exact,CV.lstOf,CV.lenOf,CV.one,D.one,Value.oneCell',CV.toD0,fT,eB,fW,fG,rD0,gA,fF,fV,reduceCtorEq,reduceIte,Nat.reduceBEq,Nat.reduceEqDiff,Nat.reduceAdd,Nat.reduceMul,Nat.reduceSub,Nat.reduceLT,Nat.reduceLeDiff,Nat.reduceBNe,Int.reduceLE,Int.reduceLT,Int.reduceBEq,Int.reduceBNe,Int.reduceEq,Int.reduceNeg,Int.reduceAdd,Int.reduceSub,Int.reduceToNat,forall_const,hwi,PartD.dv,lB,List.map_nil,List.map_cons]
 ·have hie:i=p.rows.length:=by omega
  subst hie
  have d3:decide ((p.rows.length:Int)<(p.rows.length:Int))=false:=by simp
  (repeat (first|apply Wp.skip|apply Wp.exit|apply Wp.ret|apply Wp.block|apply Wp.label|((first|refine Wp.sreg (fun K hK=>?_)|refine Wp.reg (fun K hK=>?_)|refine Wp.sdrw aI (fun K hK=>?_)|refine Wp.drw aI (fun K hK=>?_)|refine Wp.condG (fun K hK hF=>?_));(repeat (revert hK;intro hK;simp (maxSteps:=2000000) (disch:=omega) only[gE,TY,bV,eJ,fQ,SV.ofD,dS,eQ,fL,fM,bP,fN,eW,eT,fO,eN,fJ,fI,fK,CV.exact,CV.lstOf,CV.lenOf,CV.one,D.one,Value.oneCell',CV.toD0,fT,eB,fW,fG,rD0,gA,fF,fV,reduceCtorEq,reduceIte,Nat.reduceBEq,Nat.reduceEqDiff,Nat.reduceAdd,Nat.reduceMul,Nat.reduceSub,Nat.reduceLT,Nat.reduceLeDiff,Nat.reduceBNe,Int.reduceLE,Int.reduceLT,Int.reduceBEq,Int.reduceBNe,Int.reduceEq,Int.reduceNeg,Int.reduceAdd,Int.reduceSub,Int.reduceToNat,forall_const,d3,hrl2,PartD.dv,lB,List.map_nil,List.map_cons];(first|(refine hK _ ?_;clear hK K)|(refine⟨by kernel_rfl,hK _ ?_⟩;clear hK K)|(refine hK ?_;clear hK hF K)|(refine hF ?_;clear hK hF K)|refine eA (by assumption) ?_|refine bca (by assumption) ?_)));fail_if_success (revert hK;intro hK))|apply Wp.seq))
  (refine aY ?_;try with_reducible exact tt)
end Go.Proofs.YtpklhnpchhaccaaGreatDoor
