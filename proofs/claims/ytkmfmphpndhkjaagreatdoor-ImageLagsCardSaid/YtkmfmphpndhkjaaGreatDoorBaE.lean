/- Package image: offsets of what is pending. -/
import Derived.Test.YtkmfmphpndhkjaaGreatDoorBaD
namespace Go.Proofs.YtkmfmphpndhkjaaGreatDoor
open Go Go.RowKit
set_option maxHeartbeats 8000000
set_option maxRecDepth 100000
set_option linter.unusedVariables false
set_option linter.unusedSimpArgs false
def nQ (t0 t1 t2:TabD):List D:=[int t0.start,int t0.fin,.lst 1 (t0.news.map fun n=>[int n]),int t1.start,int t1.fin,.lst 1 (t1.news.map fun n=>[int n]),int t2.start,int t2.fin,.lst 1 (t2.news.map fun n=>[int n])]
theorem bX (t0 t1 t2:TabD) (q:Nat) (hq:q<3) (off:Int) (ht:Tabs t0 t1 t2) (ho:aCg off):aJ Tryz.prog 49 [int (q:Int),int off,.ptr (nQ t0 t1 t2) 0] (.tup [int (cM (jW t0 t1 t2 q) off).1,int (cM (jW t0 t1 t2 q) off).2]):=by
 have c0:=tA t0 off ht.h0 ho
 have c1:=tA t1 off ht.h1 ho
 have c2:=tA t2 off ht.h2 ho
 simp only[TabD.dv] at c0 c1 c2
 rcases (show q=0∨q=1∨q=2 by omega) with rfl|rfl|rfl
 ·show aJ _ _ _ (.tup [int (cM t0 off).1,int (cM t0 off).2])
  (refine aJ.of_body Tryz.func49 rfl rfl Tryz.ntmps49 Tryz.results49 (by simp) ?_)
  (repeat (first|apply Wp.skip|apply Wp.exit|apply Wp.ret|apply Wp.block|apply Wp.label|((first|refine Wp.sreg (fun K hK=>?_)|refine Wp.reg (fun K hK=>?_)|refine Wp.sdrw aA (fun K hK=>?_)|refine Wp.drw aA (fun K hK=>?_)|refine Wp.condG (fun K hK hF=>?_));(repeat (revert hK;intro hK;simp (maxSteps:=2000000) (disch:=omega) only[bZ,TY,aK,bD,bS,SV.ofD,bA,bF,bO,bP,aI,bQ,bI,bH,bR,bE,bM,bL,bN,CV.exact,CV.lstOf,CV.lenOf,CV.one,D.one,Value.oneCell',CV.toD0,bU,bC,bW,bK,rD0,bY,bJ,bV,reduceCtorEq,reduceIte,Nat.reduceBEq,Nat.reduceEqDiff,Nat.reduceAdd,Nat.reduceMul,Nat.reduceSub,Nat.reduceLT,Nat.reduceLeDiff,Nat.reduceBNe,Int.reduceLE,Int.reduceLT,Int.reduceBEq,Int.reduceBNe,Int.reduceEq,Int.reduceNeg,Int.reduceAdd,Int.reduceSub,Int.reduceToNat,forall_const,nQ];(first|(refine hK _ ?_;clear hK K)|(refine⟨by kernel_rfl,hK _ ?_⟩;clear hK K)|(refine hK ?_;clear hK hF K)|(refine hF ?_;clear hK hF K)|refine aV (by assumption) ?_|refine gM (by assumption) ?_)));fail_if_success (revert hK;intro hK))|apply Wp.seq))
  (refine aM ?_;try with_reducible exact tt)
 ·show aJ _ _ _ (.tup [int (cM t1 off).1,int (cM t1 off).2])
  (refine aJ.of_body Tryz.func49 rfl rfl Tryz.ntmps49 Tryz.results49 (by simp) ?_)
  (repeat (first|apply Wp.skip|apply Wp.exit|apply Wp.ret|apply Wp.block|apply Wp.label|((first|refine Wp.sreg (fun K hK=>?_)|refine Wp.reg (fun K hK=>?_)|refine Wp.sdrw aA (fun K hK=>?_)|refine Wp.drw aA (fun K hK=>?_)|refine Wp.condG (fun K hK hF=>?_));(repeat (revert hK;intro hK;simp (maxSteps:=2000000) (disch:=omega) only[bZ,TY,aK,bD,bS,SV.ofD,bA,bF,bO,bP,aI,bQ,bI,bH,bR,bE,bM,bL,bN,CV.exact,CV.lstOf,CV.lenOf,CV.one,D.one,Value.oneCell',CV.toD0,bU,bC,bW,bK,rD0,bY,bJ,bV,reduceCtorEq,reduceIte,Nat.reduceBEq,Nat.reduceEqDiff,Nat.reduceAdd,Nat.reduceMul,Nat.reduceSub,Nat.reduceLT,Nat.reduceLeDiff,Nat.reduceBNe,Int.reduceLE,Int.reduceLT,Int.reduceBEq,Int.reduceBNe,Int.reduceEq,Int.reduceNeg,Int.reduceAdd,Int.reduceSub,Int.reduceToNat,forall_const,nQ];(first|(refine hK _ ?_;clear hK K)|(refine⟨by kernel_rfl,hK _ ?_⟩;clear hK K)|(refine hK ?_;clear hK hF K)|(refine hF ?_;clear hK hF K)|refine aV (by assumption) ?_|refine gM (by assumption) ?_)));fail_if_success (revert hK;intro hK))|apply Wp.seq))
  (refine aM ?_;try with_reducible exact tt)
 ·show aJ _ _ _ (.tup [int (cM t2 off).1,int (cM t2 off).2])
  (refine aJ.of_body Tryz.func49 rfl rfl Tryz.ntmps49 Tryz.results49 (by simp) ?_)
  (repeat (first|apply Wp.skip|apply Wp.exit|apply Wp.ret|apply Wp.block|apply Wp.label|((first|refine Wp.sreg (fun K hK=>?_)|refine Wp.reg (fun K hK=>?_)|refine Wp.sdrw aA (fun K hK=>?_)|refine Wp.drw aA (fun K hK=>?_)|refine Wp.condG (fun K hK hF=>?_));(repeat (revert hK;intro hK;simp (maxSteps:=2000000) (disch:=omega) only[bZ,TY,aK,bD,bS,SV.ofD,bA,bF,bO,bP,aI,bQ,bI,bH,bR,bE,bM,bL,bN,CV.exact,CV.lstOf,CV.lenOf,CV.one,D.one,Value.oneCell',CV.toD0,bU,bC,bW,bK,rD0,bY,bJ,bV,reduceCtorEq,reduceIte,Nat.reduceBEq,Nat.reduceEqDiff,Nat.reduceAdd,Nat.reduceMul,Nat.reduceSub,Nat.reduceLT,Nat.reduceLeDiff,Nat.reduceBNe,Int.reduceLE,Int.reduceLT,Int.reduceBEq,Int.reduceBNe,Int.reduceEq,Int.reduceNeg,Int.reduceAdd,Int.reduceSub,Int.reduceToNat,forall_const,nQ];(first|(refine hK _ ?_;clear hK K)|(refine⟨by kernel_rfl,hK _ ?_⟩;clear hK K)|(refine hK ?_;clear hK hF K)|(refine hF ?_;clear hK hF K)|refine aV (by assumption) ?_|refine gM (by assumption) ?_)));fail_if_success (revert hK;intro hK))|apply Wp.seq))
  (refine aM ?_;try with_reducible exact tt)
abbrev kH (t0 t1 t2:TabD):D:=.fn (.func 49) [.ptr (nQ t0 t1 t2) 0]
def vG (t0 t1 t2:TabD) (x:PendD):PendD × Int:=(⟨x.grp,x.part,(cM (jW t0 t1 t2 x.part.toNat) x.off).1⟩,(cM (jW t0 t1 t2 x.part.toNat) x.off).2)
theorem aJh (t0 t1 t2:TabD) (x:PendD) (hq:0≤x.part∧x.part≤2) (ht:Tabs t0 t1 t2) (ho:aCg x.off):aJ Tryz.prog 91 [.agg x.dv,.ptr [kH t0 t1 t2] 0] (.tup [.agg (vG t0 t1 t2 x).1.dv,int (vG t0 t1 t2 x).2]):=by
 obtain⟨q,hqq⟩:∃ q:Nat,x.part=(q:Int):=⟨x.part.toNat,by omega⟩
 have c1:=bX t0 t1 t2 q (by omega) x.off ht ho
 have e1:(vG t0 t1 t2 x).1.dv=[int x.grp,int (q:Int),int (cM (jW t0 t1 t2 q) x.off).1]:=by
  unfold vG;rw[hqq];rfl
 have e2:(vG t0 t1 t2 x).2=(cM (jW t0 t1 t2 q) x.off).2:=by
  unfold vG;rw[hqq];rfl
 rw[e1,e2]
 generalize cM (jW t0 t1 t2 q) x.off=y at *
 (refine aJ.of_body Tryz.func91 rfl rfl Tryz.ntmps91 Tryz.results91 (by simp) ?_)
 (repeat (first|apply Wp.skip|apply Wp.exit|apply Wp.ret|apply Wp.block|apply Wp.label|((first|refine Wp.sreg (fun K hK=>?_)|refine Wp.reg (fun K hK=>?_)|refine Wp.sdrw aA (fun K hK=>?_)|refine Wp.drw aA (fun K hK=>?_)|refine Wp.condG (fun K hK hF=>?_));(repeat (revert hK;intro hK;simp (maxSteps:=2000000) (disch:=omega) only[bZ,TY,aK,bD,bS,SV.ofD,bA,bF,bO,bP,aI,bQ,bI,bH,bR,bE,bM,bL,bN,CV.exact,CV.lstOf,CV.lenOf,CV.one,D.one,Value.oneCell',CV.toD0,bU,bC,bW,bK,rD0,bY,bJ,bV,reduceCtorEq,reduceIte,Nat.reduceBEq,Nat.reduceEqDiff,Nat.reduceAdd,Nat.reduceMul,Nat.reduceSub,Nat.reduceLT,Nat.reduceLeDiff,Nat.reduceBNe,Int.reduceLE,Int.reduceLT,Int.reduceBEq,Int.reduceBNe,Int.reduceEq,Int.reduceNeg,Int.reduceAdd,Int.reduceSub,Int.reduceToNat,forall_const,PendD.dv,cJ,hqq];(first|(refine hK _ ?_;clear hK K)|(refine⟨by kernel_rfl,hK _ ?_⟩;clear hK K)|(refine hK ?_;clear hK hF K)|(refine hF ?_;clear hK hF K)|refine aV (by assumption) ?_|refine gM (by assumption) ?_)));fail_if_success (revert hK;intro hK))|apply Wp.seq))
 (refine rO (hqq) ?_;try with_reducible exact tt)
def lQ (F:PendD→PendD × Int) (l:List PendD):Int:=lF (l.map fun x=>(F x).2)
theorem aBd (F:PendD→PendD × Int) (l:List PendD) (f:Nat) (caps:List D) (hl:l.length≤100000) (hf:∀ x ∈ l,aJ Tryz.prog f (.agg x.dv::caps) (.tup [.agg (F x).1.dv,int (F x).2])) :
  aJ Tryz.prog 90 [.lst 3 (l.map PendD.dv),.fn (.func f) caps] (.tup [.lst 3 ((if lQ F l=0 then l.map fun x=>(F x).1 else []).map PendD.dv),int (lQ F l)]):=by
 cases hq:l with
 | nil =>
  refine aJ.of_nil (fun a c=>?_)
  show aJ _ _ _ (.tup [.lst 3 [],int 0])
  (refine aJ.of_bodyW Tryz.func90 rfl rfl Tryz.ntmps90 Tryz.results90 (by simp) ?_)
  cases a with
  | none =>
   (refine gO (ai @Option.isNone_none.{0} (@Option.isNone_some.{0})) ?_;try with_reducible exact tt)
   (refine aM ?_;try with_reducible exact tt)
   exact⟨_,rfl,iI.tup (.cons (.nil 3) (.cons (.refl _) .nil))⟩
  | some ad =>
   (refine gO (ai @Option.isNone_none.{0} (@Option.isNone_some.{0})) ?_;try with_reducible exact tt)
   refine Wp.rounds 1 (aL.go ?_)
   (refine aH ?_;try with_reducible exact tt)
   (refine aM ?_;try with_reducible exact tt)
   exact⟨_,rfl,fun K v h=>h⟩
 | cons x0 xs =>
  rw[← hq]
  have hcons:l.map PendD.dv=x0.dv::xs.map PendD.dv:=by rw[hq];rfl
  have hlen:xs.length+1=l.length:=by rw[hq];rfl
  have e3:24*l.length≤140737488355328:=by omega
  have e4:l.length≠0:=by omega
  have hzl:jN.length=3:=rfl
  (refine aJ.of_bodyW Tryz.func90 rfl rfl Tryz.ntmps90 Tryz.results90 (by simp) ?_)
  (repeat (first|apply Wp.skip|apply Wp.exit|apply Wp.ret|apply Wp.block|apply Wp.label|((first|refine Wp.sreg (fun K hK=>?_)|refine Wp.reg (fun K hK=>?_)|refine Wp.sdrw aA (fun K hK=>?_)|refine Wp.drw aA (fun K hK=>?_)|refine Wp.condG (fun K hK hF=>?_));(repeat (revert hK;intro hK;simp (maxSteps:=2000000) (disch:=omega) only[bZ,TY,aK,bD,bS,SV.ofD,bA,bF,bO,bP,aI,bQ,bI,bH,bR,bE,bM,bL,bN,CV.exact,CV.lstOf,CV.lenOf,CV.one,D.one,Value.oneCell',CV.toD0,bU,bC,bW,bK,rD0,bY,bJ,bV,reduceCtorEq,reduceIte,Nat.reduceBEq,Nat.reduceEqDiff,Nat.reduceAdd,Nat.reduceMul,Nat.reduceSub,Nat.reduceLT,Nat.reduceLeDiff,Nat.reduceBNe,Int.reduceLE,Int.reduceLT,Int.reduceBEq,Int.reduceBNe,Int.reduceEq,Int.reduceNeg,Int.reduceAdd,Int.reduceSub,Int.reduceToNat,forall_const,hcons,hlen,e3,e4,dT,List.length_map];(first|(refine hK _ ?_;clear hK K)|(refine⟨by kernel_rfl,hK _ ?_⟩;clear hK K)|(refine hK ?_;clear hK hF K)|(refine hF ?_;clear hK hF K)|refine aV (by assumption) ?_|refine gM (by assumption) ?_)));fail_if_success (revert hK;intro hK))|apply Wp.seq))
  refine Wp.loop (fun k:Nat=>⟨fP [(1,.c (.d (.fn (.func f) caps))),(6,.c (.view 0 3 0 l.length)),(16,.c (.d (.lst 3 (l.map PendD.dv)))),(17,vi .i64 l.length),(18,vi .i64 k)],cL [(0,.cells (cG (((l.take k).map fun x=>(F x).1).map PendD.dv) jN (l.length - k)))],20,38,0⟩) (fun k=>k≤l.length∧∀ (j:Nat) (h:j<l.length),j<k→(F l[j]).2=0) (fun k=>l.length - k) 0 ⟨Nat.zero_le _,fun j h h2=>by omega⟩ ?_ ?_
  ·refine aD.keep rfl (by simp[aN,SV.ids,HE.ids,CV.ids,bT];rfl) ?_
   simp (maxSteps:=2000000) (disch:=omega) only[bZ,TY,aK,bD,bS,SV.ofD,bA,bF,bO,bP,aI,bQ,bI,bH,bR,bE,bM,bL,bN,CV.exact,CV.lstOf,CV.lenOf,CV.one,D.one,Value.oneCell',CV.toD0,bU,bC,bW,bK,rD0,bY,bJ,bV,reduceCtorEq,reduceIte,Nat.reduceBEq,Nat.reduceEqDiff,Nat.reduceAdd,Nat.reduceMul,Nat.reduceSub,Nat.reduceLT,Nat.reduceLeDiff,Nat.reduceBNe,Int.reduceLE,Int.reduceLT,Int.reduceBEq,Int.reduceBNe,Int.reduceEq,Int.reduceNeg,Int.reduceAdd,Int.reduceSub,Int.reduceToNat,forall_const,hcons,jN,List.take_zero,List.map_nil,Nat.sub_zero]
  rintro k ⟨hk,hall⟩
  by_cases hlt:k<l.length
  ·have dk:decide ((k:Int)<(l.length:Int))=true:=decide_eq_true (by omega)
   have g1:l[k]? = some l[k]:=List.getElem?_eq_getElem hlt
   have hwk:IntKind.i64.wrap ((k:Int)+1)=((k+1:Nat):Int):=by rw[aF (by omega)];rfl
   have hsn:((l.take (k+1)).map fun x=>(F x).1).map PendD.dv=((l.take k).map fun x=>(F x).1).map PendD.dv++[(F l[k]).1.dv]:=by rw[aP l k hlt,List.map_append,List.map_append];rfl
   have c1:=hf _ (List.getElem_mem hlt)
   have hln:∀ y ∈ ((l.take k).map fun x=>(F x).1).map PendD.dv,y.length=jN.length:=fun y hy=>by
    obtain⟨x,_,rfl⟩:=List.mem_map.1 hy
    rfl
   have htl:(((l.take k).map fun x=>(F x).1).map PendD.dv).length=k:=by simp;omega
   have hfe:(F l[k]).2≠0→lQ F l=(F l[k]).2:=fun h=>sB (l.map fun x=>(F x).2) k (by simpa using hlt) (fun j hj hjk=>by have:=hall j (by simpa using hj) hjk;simpa using this) (by simpa using h) |>.trans (by simp)
   have hgo:(F l[k]).2=0→∀ (j:Nat) (h:j<l.length),j<k+1→(F l[j]).2=0:=fun h j hj hjk=>by
    rcases Nat.lt_or_ge j k with h1|h1
    ·exact hall j hj h1
    ·have e:j=k:=by omega
     subst e;exact h
   have hcl:(cG (((l.take k).map fun x=>(F x).1).map PendD.dv) jN (l.length - k)).length=l.length*3:=by
    rw[eZ hln,htl,hzl,show k+(l.length - k)=l.length by omega]
   have hk1:k*3+3≤l.length*3:=by omega
   generalize l[k]=x at *
   generalize F x=fx at *
   obtain⟨y,e⟩:=fx
   simp only at c1 hfe hgo hsn
   have hput:=fun (us:List CV) (hu:us=y.dv.map .d)=>fA (m:=l.length - (k+1)) (x:=y.dv) hln rfl (o:=k*3) (by rw[htl,hzl]) hu (o2:=k*3+3) rfl
   rw[← hsn,show l.length - (k+1)+1=l.length - k by omega] at hput
   have hi0:=bT (((l.take k).map fun x=>(F x).1).map PendD.dv) jN (l.length - k)
   generalize cG (((l.take k).map fun x=>(F x).1).map PendD.dv) jN (l.length - k)=A at *
   have hput:=hput _ rfl
   simp only[PendD.dv,List.map_cons,List.map_nil] at c1 hput
   cases he:(e != 0) with
   | true =>
    have hne:e≠0:=by simpa using he
    have hE:=hfe hne
    rw[hE,if_neg hne]
    (refine gO (ai dk (ai g1 (ai @PendD.dv.eq_1 (he)))) ?_;try with_reducible exact tt)
    (refine aM ?_;try with_reducible exact tt)
    exact⟨_,rfl,iI.tup (.cons (.nil 3) (.cons (.refl _) .nil))⟩
   | false =>
    have hz:e=0:=by simpa using he
    (refine gO (ai dk (ai g1 (ai he (ai hlt (ai hcl (ai hk1 (ai hput (@PendD.dv.eq_1)))))))) ?_;try with_reducible exact tt)
    refine⟨k+1,⟨by omega,hgo hz⟩,by omega,aD.keep rfl (by simp[aN,SV.ids,HE.ids,CV.ids,bT];rfl) ?_⟩
    (refine rO (hwk) ?_;try with_reducible exact tt)
  ·have hke:k=l.length:=by omega
   subst hke
   have dk:decide ((l.length:Int)<(l.length:Int))=false:=by simp
   have hE:lQ F l=0:=lY _ (fun e he=>by obtain⟨x,hx,rfl⟩:=List.mem_map.1 he;obtain⟨j,hj,rfl⟩:=List.getElem_of_mem hx;exact hall j hj hj)
   rw[hE,if_pos rfl]
   refine Wp.weak (aD.fillSlot (t:=6) (B:=0) (n:=l.length) (s:=3) (z:=jN) (ds:=(l.map fun x=>(F x).1).map PendD.dv) (by (refine aM ?_;try with_reducible exact tt)) (by (refine rO (ai @List.take_length.{0} (@Nat.sub_self)) ?_;try with_reducible exact tt)) (fun y hy=>by obtain⟨x,_,rfl⟩:=List.mem_map.1 hy;rfl) (by simp)) ?_
   (refine gO (dk) ?_;try with_reducible exact tt)
   (refine aM ?_;try with_reducible exact tt)
   exact⟨_,rfl,fun K v h=>h⟩
end Go.Proofs.YtkmfmphpndhkjaaGreatDoor
