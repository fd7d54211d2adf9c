/- Package image: offsets of what is pending. -/
import Derived.Test.YtkmfmphpndhkjaaGreatDoorBaD
namespace Go.Proofs.YtkmfmphpndhkjaaGreatDoor
open Go Go.RowKit
set_option maxHeartbeats 8000000
set_option maxRecDepth 100000
set_option linter.unusedVariables false
set_option linter.unusedSimpArgs false
def qN (t0 t1 t2:TabD):List D:=[int t0.start,int t0.fin,.lst 1 (t0.news.map fun n=>[int n]),int t1.start,int t1.fin,.lst 1 (t1.news.map fun n=>[int n]),int t2.start,int t2.fin,.lst 1 (t2.news.map fun n=>[int n])]
theorem bO (t0 t1 t2:TabD) (q:Nat) (hq:q<3) (off:Int) (ht:Tabs t0 t1 t2) (ho:aG1 off):aJ Tryz.prog 49 [int (q:Int),int off,.ptr (qN t0 t1 t2) 0] (.tup [int (cB (kQ t0 t1 t2 q) off).1,int (cB (kQ t0 t1 t2 q) off).2]):=by
 have c0:=wJ t0 off ht.h0 ho
 have c1:=wJ t1 off ht.h1 ho
 have c2:=wJ t2 off ht.h2 ho
 simp only[TabD.dv] at c0 c1 c2
 rcases (show q=0∨q=1∨q=2 by omega) with rfl|rfl|rfl
 ·show aJ _ _ _ (.tup [int (cB t0 off).1,int (cB t0 off).2])
  (refine aJ.of_body Tryz.func49 rfl rfl Tryz.ntmps49 Tryz.results49 (by simp) ?_)
  (repeat (first|apply Wp.skip|apply Wp.exit|apply Wp.ret|apply Wp.block|apply Wp.label|((first|refine Wp.sreg (fun K hK=>?_)|refine Wp.reg (fun K hK=>?_)|refine Wp.sdrw aA (fun K hK=>?_)|refine Wp.drw aA (fun K hK=>?_)|refine Wp.condG (fun K hK hF=>?_));(repeat (revert hK;intro hK;simp (maxSteps:=2000000) (disch:=omega) only[bF,TY,aL,bQ,cD,SV.ofD,bW,cF,bX,fB,bK,fC,eQ,cQ,cL,dO,eZ,eY,fA,CV.exact,CV.lstOf,CV.lenOf,CV.one,D.one,Value.oneCell',CV.toD0,fS,cC,dU,eV,rD0,eS,eO,fT,reduceCtorEq,reduceIte,Nat.reduceBEq,Nat.reduceEqDiff,Nat.reduceAdd,Nat.reduceMul,Nat.reduceSub,Nat.reduceLT,Nat.reduceLeDiff,Nat.reduceBNe,Int.reduceLE,Int.reduceLT,Int.reduceBEq,Int.reduceBNe,Int.reduceEq,Int.reduceNeg,Int.reduceAdd,Int.reduceSub,Int.reduceToNat,forall_const,qN];(first|(refine hK _ ?_;clear hK K)|(refine⟨by kernel_rfl,hK _ ?_⟩;clear hK K)|(refine hK ?_;clear hK hF K)|(refine hF ?_;clear hK hF K)|refine aQ (by assumption) ?_|refine gJ (by assumption) ?_)));fail_if_success (revert hK;intro hK))|apply Wp.seq))
  (refine aK ?_;try with_reducible exact tt)
 ·show aJ _ _ _ (.tup [int (cB t1 off).1,int (cB t1 off).2])
  (refine aJ.of_body Tryz.func49 rfl rfl Tryz.ntmps49 Tryz.results49 (by simp) ?_)
  (repeat (first|apply Wp.skip|apply Wp.exit|apply Wp.ret|apply Wp.block|apply Wp.label|((first|refine Wp.sreg (fun K hK=>?_)|refine Wp.reg (fun K hK=>?_)|refine Wp.sdrw aA (fun K hK=>?_)|refine Wp.drw aA (fun K hK=>?_)|refine Wp.condG (fun K hK hF=>?_));(repeat (revert hK;intro hK;simp (maxSteps:=2000000) (disch:=omega) only[bF,TY,aL,bQ,cD,SV.ofD,bW,cF,bX,fB,bK,fC,eQ,cQ,cL,dO,eZ,eY,fA,CV.exact,CV.lstOf,CV.lenOf,CV.one,D.one,Value.oneCell',CV.toD0,fS,cC,dU,eV,rD0,eS,eO,fT,reduceCtorEq,reduceIte,Nat.reduceBEq,Nat.reduceEqDiff,Nat.reduceAdd,Nat.reduceMul,Nat.reduceSub,Nat.reduceLT,Nat.reduceLeDiff,Nat.reduceBNe,Int.reduceLE,Int.reduceLT,Int.reduceBEq,Int.reduceBNe,Int.reduceEq,Int.reduceNeg,Int.reduceAdd,Int.reduceSub,Int.reduceToNat,forall_const,qN];(first|(refine hK _ ?_;clear hK K)|(refine⟨by kernel_rfl,hK _ ?_⟩;clear hK K)|(refine hK ?_;clear hK hF K)|(refine hF ?_;clear hK hF K)|refine aQ (by assumption) ?_|refine gJ (by assumption) ?_)));fail_if_success (revert hK;intro hK))|apply Wp.seq))
  (refine aK ?_;try with_reducible exact tt)
 ·show aJ _ _ _ (.tup [int (cB t2 off).1,int (cB t2 off).2])
  (refine aJ.of_body Tryz.func49 rfl rfl Tryz.ntmps49 Tryz.results49 (by simp) ?_)
  (repeat (first|apply Wp.skip|apply Wp.exit|apply Wp.ret|apply Wp.block|apply Wp.label|((first|refine Wp.sreg (fun K hK=>?_)|refine Wp.reg (fun K hK=>?_)|refine Wp.sdrw aA (fun K hK=>?_)|refine Wp.drw aA (fun K hK=>?_)|refine Wp.condG (fun K hK hF=>?_));(repeat (revert hK;intro hK;simp (maxSteps:=2000000) (disch:=omega) only[bF,TY,aL,bQ,cD,SV.ofD,bW,cF,bX,fB,bK,fC,eQ,cQ,cL,dO,eZ,eY,fA,CV.exact,CV.lstOf,CV.lenOf,CV.one,D.one,Value.oneCell',CV.toD0,fS,cC,dU,eV,rD0,eS,eO,fT,reduceCtorEq,reduceIte,Nat.reduceBEq,Nat.reduceEqDiff,Nat.reduceAdd,Nat.reduceMul,Nat.reduceSub,Nat.reduceLT,Nat.reduceLeDiff,Nat.reduceBNe,Int.reduceLE,Int.reduceLT,Int.reduceBEq,Int.reduceBNe,Int.reduceEq,Int.reduceNeg,Int.reduceAdd,Int.reduceSub,Int.reduceToNat,forall_const,qN];(first|(refine hK _ ?_;clear hK K)|(refine⟨by kernel_rfl,hK _ ?_⟩;clear hK K)|(refine hK ?_;clear hK hF K)|(refine hF ?_;clear hK hF K)|refine aQ (by assumption) ?_|refine gJ (by assumption) ?_)));fail_if_success (revert hK;intro hK))|apply Wp.seq))
  (refine aK ?_;try with_reducible exact tt)
abbrev lI (t0 t1 t2:TabD):D:=.fn (.func 49) [.ptr (qN t0 t1 t2) 0]
def yT (t0 t1 t2:TabD) (x:PendD):PendD × Int:=(⟨x.grp,x.part,(cB (kQ t0 t1 t2 x.part.toNat) x.off).1⟩,(cB (kQ t0 t1 t2 x.part.toNat) x.off).2)
theorem aNu (t0 t1 t2:TabD) (x:PendD) (hq:0≤x.part∧x.part≤2) (ht:Tabs t0 t1 t2) (ho:aG1 x.off):aJ Tryz.prog 91 [.agg x.dv,.ptr [lI t0 t1 t2] 0] (.tup [.agg (yT t0 t1 t2 x).1.dv,int (yT t0 t1 t2 x).2]):=by
 obtain⟨q,hqq⟩:∃ q:Nat,x.part=(q:Int):=⟨x.part.toNat,by omega⟩
 have c1:=bO t0 t1 t2 q (by omega) x.off ht ho
 have e1:(yT t0 t1 t2 x).1.dv=[int x.grp,int (q:Int),int (cB (kQ t0 t1 t2 q) x.off).1]:=by
  unfold yT;rw[hqq];rfl
 have e2:(yT t0 t1 t2 x).2=(cB (kQ t0 t1 t2 q) x.off).2:=by
  unfold yT;rw[hqq];rfl
 rw[e1,e2]
 generalize cB (kQ t0 t1 t2 q) x.off=y at *
 (refine aJ.of_body Tryz.func91 rfl rfl Tryz.ntmps91 Tryz.results91 (by simp) ?_)
 (repeat (first|apply Wp.skip|apply Wp.exit|apply Wp.ret|apply Wp.block|apply Wp.label|((first|refine Wp.sreg (fun K hK=>?_)|refine Wp.reg (fun K hK=>?_)|refine Wp.sdrw aA (fun K hK=>?_)|refine Wp.drw aA (fun K hK=>?_)|refine Wp.condG (fun K hK hF=>?_));(repeat (revert hK;intro hK;simp (maxSteps:=2000000) (disch:=omega) only[bF,TY,aL,bQ,cD,SV.ofD,bW,cF,bX,fB,bK,fC,eQ,cQ,cL,dO,eZ,eY,fA,CV.exact,CV.lstOf,CV.lenOf,CV.one,D.one,Value.oneCell',CV.toD0,fS,cC,dU,eV,rD0,eS,eO,fT,reduceCtorEq,reduceIte,Nat.reduceBEq,Nat.reduceEqDiff,Nat.reduceAdd,Nat.reduceMul,Nat.reduceSub,Nat.reduceLT,Nat.reduceLeDiff,Nat.reduceBNe,Int.reduceLE,Int.reduceLT,Int.reduceBEq,Int.reduceBNe,Int.reduceEq,Int.reduceNeg,Int.reduceAdd,Int.reduceSub,Int.reduceToNat,forall_const,PendD.dv,gA,hqq];(first|(refine hK _ ?_;clear hK K)|(refine⟨by kernel_rfl,hK _ ?_⟩;clear hK K)|(refine hK ?_;clear hK hF K)|(refine hF ?_;clear hK hF K)|refine aQ (by assumption) ?_|refine gJ (by assumption) ?_)));fail_if_success (revert hK;intro hK))|apply Wp.seq))
 (refine rO (hqq) ?_;try with_reducible exact tt)
def nC (F:PendD→PendD × Int) (l:List PendD):Int:=mL (l.map fun x=>(F x).2)
theorem aEm (F:PendD→PendD × Int) (l:List PendD) (f:Nat) (caps:List D) (hl:l.length≤100000) (hf:∀ x ∈ l,aJ Tryz.prog f (.agg x.dv::caps) (.tup [.agg (F x).1.dv,int (F x).2])) :
  aJ Tryz.prog 90 [.lst 3 (l.map PendD.dv),.fn (.func f) caps] (.tup [.lst 3 ((if nC F l=0 then l.map fun x=>(F x).1 else []).map PendD.dv),int (nC F l)]):=by
 cases hq:l with
 | nil =>
  refine aJ.of_nil (fun a c=>?_)
  show aJ _ _ _ (.tup [.lst 3 [],int 0])
  (refine aJ.of_bodyW Tryz.func90 rfl rfl Tryz.ntmps90 Tryz.results90 (by simp) ?_)
  cases a with
  | none =>
   (refine gO (ai @Option.isNone_none.{0} (@Option.isNone_some.{0})) ?_;try with_reducible exact tt)
   (refine aK ?_;try with_reducible exact tt)
   exact⟨_,rfl,jA.tup (.cons (.nil 3) (.cons (.refl _) .nil))⟩
  | some ad =>
   (refine gO (ai @Option.isNone_none.{0} (@Option.isNone_some.{0})) ?_;try with_reducible exact tt)
   refine Wp.rounds 1 (aN.go ?_)
   (refine aI ?_;try with_reducible exact tt)
   (refine aK ?_;try with_reducible exact tt)
   exact⟨_,rfl,fun K v h=>h⟩
 | cons x0 xs =>
  rw[← hq]
  have hcons:l.map PendD.dv=x0.dv::xs.map PendD.dv:=by rw[hq];rfl
  have hlen:xs.length+1=l.length:=by rw[hq];rfl
  have e3:24*l.length≤140737488355328:=by omega
  have e4:l.length≠0:=by omega
  have hzl:kG.length=3:=rfl
  (refine aJ.of_bodyW Tryz.func90 rfl rfl Tryz.ntmps90 Tryz.results90 (by simp) ?_)
  (repeat (first|apply Wp.skip|apply Wp.exit|apply Wp.ret|apply Wp.block|apply Wp.label|((first|refine Wp.sreg (fun K hK=>?_)|refine Wp.reg (fun K hK=>?_)|refine Wp.sdrw aA (fun K hK=>?_)|refine Wp.drw aA (fun K hK=>?_)|refine Wp.condG (fun K hK hF=>?_));(repeat (revert hK;intro hK;simp (maxSteps:=2000000) (disch:=omega) only[bF,TY,aL,bQ,cD,SV.ofD,bW,cF,bX,fB,bK,fC,eQ,cQ,cL,dO,eZ,eY,fA,CV.exact,CV.lstOf,CV.lenOf,CV.one,D.one,Value.oneCell',CV.toD0,fS,cC,dU,eV,rD0,eS,eO,fT,reduceCtorEq,reduceIte,Nat.reduceBEq,Nat.reduceEqDiff,Nat.reduceAdd,Nat.reduceMul,Nat.reduceSub,Nat.reduceLT,Nat.reduceLeDiff,Nat.reduceBNe,Int.reduceLE,Int.reduceLT,Int.reduceBEq,Int.reduceBNe,Int.reduceEq,Int.reduceNeg,Int.reduceAdd,Int.reduceSub,Int.reduceToNat,forall_const,hcons,hlen,e3,e4,dZ,List.length_map];(first|(refine hK _ ?_;clear hK K)|(refine⟨by kernel_rfl,hK _ ?_⟩;clear hK K)|(refine hK ?_;clear hK hF K)|(refine hF ?_;clear hK hF K)|refine aQ (by assumption) ?_|refine gJ (by assumption) ?_)));fail_if_success (revert hK;intro hK))|apply Wp.seq))
  refine Wp.loop (fun k:Nat=>⟨dI [(1,.c (.d (.fn (.func f) caps))),(6,.c (.view 0 3 0 l.length)),(16,.c (.d (.lst 3 (l.map PendD.dv)))),(17,vi .i64 l.length),(18,vi .i64 k)],bJ [(0,.cells (bT (((l.take k).map fun x=>(F x).1).map PendD.dv) kG (l.length - k)))],20,38,0⟩) (fun k=>k≤l.length∧∀ (j:Nat) (h:j<l.length),j<k→(F l[j]).2=0) (fun k=>l.length - k) 0 ⟨Nat.zero_le _,fun j h h2=>by omega⟩ ?_ ?_
  ·refine aD.keep rfl (by simp[aO,SV.ids,HE.ids,CV.ids,bN];rfl) ?_
   simp (maxSteps:=2000000) (disch:=omega) only[bF,TY,aL,bQ,cD,SV.ofD,bW,cF,bX,fB,bK,fC,eQ,cQ,cL,dO,eZ,eY,fA,CV.exact,CV.lstOf,CV.lenOf,CV.one,D.one,Value.oneCell',CV.toD0,fS,cC,dU,eV,rD0,eS,eO,fT,reduceCtorEq,reduceIte,Nat.reduceBEq,Nat.reduceEqDiff,Nat.reduceAdd,Nat.reduceMul,Nat.reduceSub,Nat.reduceLT,Nat.reduceLeDiff,Nat.reduceBNe,Int.reduceLE,Int.reduceLT,Int.reduceBEq,Int.reduceBNe,Int.reduceEq,Int.reduceNeg,Int.reduceAdd,Int.reduceSub,Int.reduceToNat,forall_const,hcons,kG,List.take_zero,List.map_nil,Nat.sub_zero]
  rintro k ⟨hk,hall⟩
  by_cases hlt:k<l.length
  ·have dk:decide ((k:Int)<(l.length:Int))=true:=decide_eq_true (by omega)
   have g1:l[k]? = some l[k]:=List.getElem?_eq_getElem hlt
   have hwk:IntKind.i64.wrap ((k:Int)+1)=((k+1:Nat):Int):=by rw[aG (by omega)];rfl
   have hsn:((l.take (k+1)).map fun x=>(F x).1).map PendD.dv=((l.take k).map fun x=>(F x).1).map PendD.dv++[(F l[k]).1.dv]:=by rw[aF l k hlt,List.map_append,List.map_append];rfl
   have c1:=hf _ (List.getElem_mem hlt)
   have hln:∀ y ∈ ((l.take k).map fun x=>(F x).1).map PendD.dv,y.length=kG.length:=fun y hy=>by
    obtain⟨x,_,rfl⟩:=List.mem_map.1 hy
    rfl
   have htl:(((l.take k).map fun x=>(F x).1).map PendD.dv).length=k:=by simp;omega
   have hfe:(F l[k]).2≠0→nC F l=(F l[k]).2:=fun h=>uY (l.map fun x=>(F x).2) k (by simpa using hlt) (fun j hj hjk=>by have:=hall j (by simpa using hj) hjk;simpa using this) (by simpa using h) |>.trans (by simp)
   have hgo:(F l[k]).2=0→∀ (j:Nat) (h:j<l.length),j<k+1→(F l[j]).2=0:=fun h j hj hjk=>by
    rcases Nat.lt_or_ge j k with h1|h1
    ·exact hall j hj h1
    ·have e:j=k:=by omega
     subst e;exact h
   have hcl:(bT (((l.take k).map fun x=>(F x).1).map PendD.dv) kG (l.length - k)).length=l.length*3:=by
    rw[gD hln,htl,hzl,show k+(l.length - k)=l.length by omega]
   have hk1:k*3+3≤l.length*3:=by omega
   generalize l[k]=x at *
   generalize F x=fx at *
   obtain⟨y,e⟩:=fx
   simp only at c1 hfe hgo hsn
   have hput:=fun (us:List CV) (hu:us=y.dv.map .d)=>gE (m:=l.length - (k+1)) (x:=y.dv) hln rfl (o:=k*3) (by rw[htl,hzl]) hu (o2:=k*3+3) rfl
   rw[← hsn,show l.length - (k+1)+1=l.length - k by omega] at hput
   have hi0:=bN (((l.take k).map fun x=>(F x).1).map PendD.dv) kG (l.length - k)
   generalize bT (((l.take k).map fun x=>(F x).1).map PendD.dv) kG (l.length - k)=A at *
   have hput:=hput _ rfl
   simp only[PendD.dv,List.map_cons,List.map_nil] at c1 hput
   cases he:(e != 0) with
   | true =>
    have hne:e≠0:=by simpa using he
    have hE:=hfe hne
    rw[hE,if_neg hne]
    (refine gO (ai dk (ai g1 (ai @PendD.dv.eq_1 (he)))) ?_;try with_reducible exact tt)
    (refine aK ?_;try with_reducible exact tt)
    exact⟨_,rfl,jA.tup (.cons (.nil 3) (.cons (.refl _) .nil))⟩
   | false =>
    have hz:e=0:=by simpa using he
    (refine gO (ai dk (ai g1 (ai he (ai hlt (ai hcl (ai hk1 (ai hput (@PendD.dv.eq_1)))))))) ?_;try with_reducible exact tt)
    refine⟨k+1,⟨by omega,hgo hz⟩,by omega,aD.keep rfl (by simp[aO,SV.ids,HE.ids,CV.ids,bN];rfl) ?_⟩
    (refine rO (hwk) ?_;try with_reducible exact tt)
  ·have hke:k=l.length:=by omega
   subst hke
   have dk:decide ((l.length:Int)<(l.length:Int))=false:=by simp
   have hE:nC F l=0:=nL _ (fun e he=>by obtain⟨x,hx,rfl⟩:=List.mem_map.1 he;obtain⟨j,hj,rfl⟩:=List.getElem_of_mem hx;exact hall j hj hj)
   rw[hE,if_pos rfl]
   refine Wp.weak (aD.fillSlot (t:=6) (B:=0) (n:=l.length) (s:=3) (z:=kG) (ds:=(l.map fun x=>(F x).1).map PendD.dv) (by (refine aK ?_;try with_reducible exact tt)) (by (refine rO (ai @List.take_length.{0} (@Nat.sub_self)) ?_;try with_reducible exact tt)) (fun y hy=>by obtain⟨x,_,rfl⟩:=List.mem_map.1 hy;rfl) (by simp)) ?_
   (refine gO (dk) ?_;try with_reducible exact tt)
   (refine aK ?_;try with_reducible exact tt)
   exact⟨_,rfl,fun K v h=>h⟩
end Go.Proofs.YtkmfmphpndhkjaaGreatDoor
