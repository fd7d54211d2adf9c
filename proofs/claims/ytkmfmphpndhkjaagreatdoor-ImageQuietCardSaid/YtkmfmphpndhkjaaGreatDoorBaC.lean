/- Package image: each. -/
import Derived.Test.YtkmfmphpndhkjaaGreatDoorBaB
namespace Go.Proofs.YtkmfmphpndhkjaaGreatDoor
open Go Go.RowKit
set_option maxHeartbeats 8000000
set_option maxRecDepth 100000
set_option linter.unusedVariables false
set_option linter.unusedSimpArgs false
def mL:List Int→Int
 | []=>0
 | e::l=>if e=0 then mL l else e
theorem nL:∀ (l:List Int),(∀ e ∈ l,e=0)→mL l=0
 | [],_=>rfl
 | e::l,h=>by
  rw[mL,if_pos (h e (by simp))]
  exact nL l (fun x hx=>h x (by simp[hx]))
theorem uY:∀ (l:List Int) (k:Nat) (hk:k<l.length),(∀ (j:Nat) (h:j<l.length),j<k→l[j]=0)→l[k]≠0→mL l=l[k]
 | e::l,0,_,_,h=>by
  simp only[List.getElem_cons_zero] at h ⊢
  rw[mL,if_neg h]
 | e::l,k+1,hk,hz,h=>by
  have h0:=hz 0 (by simp) (by omega)
  simp only[List.getElem_cons_zero] at h0
  rw[mL,if_pos h0]
  exact uY l k (by simpa using hk) (fun j hj hjk=>by have:=hz (j+1) (by simpa using hj) (by omega);simpa using this) (by simpa using h)
theorem aDb:∀ (l:List Int),mL l=0→∀ e ∈ l,e=0
 | [],_,e,he=>by simp at he
 | a::l,h,e,he=>by
  rw[mL] at h
  split at h
  ·rename_i ha
   rcases List.mem_cons.1 he with rfl|he
   ·exact ha
   ·exact aDb l h e he
  ·contradiction
def fD (F:SeenD→SeenD × Int) (l:List SeenD):Int:=mL (l.map fun x=>(F x).2)
def nE (F:SeenD→SeenD × Int) (l:List SeenD):D:=if fD F l=0 then .tup [.lst 3 ((l.map fun x=>(F x).1).map SeenD.dv),int 0] else .tup [bU,int (fD F l)]
theorem aEo (t0 t1 t2:TabD) (q:Nat) (F:SeenD→SeenD × Int) (l:List SeenD) (hl:l.length≤100000) (hf:∀ x ∈ l,FunG Tryz.prog 55 (.agg (x.dv.map CV.d)::[.c (.own 1 0),.c (.own 2 0)]) [0,1,2] (bJ (tB t0 t1 t2 q)) (.c (.d (.tup [.agg (F x).1.dv,int (F x).2]))) [0,1,2] (bJ (tB t0 t1 t2 q))) :
  ∃ r,jA r (.tup [.lst 3 (if fD F l=0 then (l.map fun x=>(F x).1).map SeenD.dv else []),int (fD F l)])∧FunG Tryz.prog 54 [.c (.d (.lst 3 (l.map SeenD.dv))),.c (.clo (.func 55) [.own 1 0,.own 2 0])] [0,1,2] (bJ (tB t0 t1 t2 q)) (.c (.d r)) [0,1,2] (bJ (tB t0 t1 t2 q)):=by
 cases hq:l with
 | nil =>
  refine⟨.tup [.lst 3 [],int 0],fun K v h=>h,FunG.of_nil (fun a c=>?_)⟩
  cases a with
  | none =>
   refine FunG.weakerD (x:=.tup [bU,int 0]) ?_ (jA.tup (.cons (.nil 3) (.cons (.refl _) .nil)))
   (refine FunG.of_bodyH rfl rfl Tryz.func54 rfl rfl Tryz.ntmps54 Tryz.results54 (Nat.le_of_ble_eq_true rfl) rfl ?_)
   (repeat (first|apply Wp.skip|apply Wp.exit|apply Wp.ret|apply Wp.block|apply Wp.label|((first|refine Wp.sreg (fun K hK=>?_)|refine Wp.reg (fun K hK=>?_)|refine Wp.sdrw aA (fun K hK=>?_)|refine Wp.drw aA (fun K hK=>?_)|refine Wp.condG (fun K hK hF=>?_));(repeat (revert hK;intro hK;simp (maxSteps:=2000000) (disch:=omega) only[bF,TY,aL,bQ,cD,SV.ofD,bW,cF,bX,fB,bK,fC,eQ,cQ,cL,dO,eZ,eY,fA,CV.exact,CV.lstOf,CV.lenOf,CV.one,D.one,Value.oneCell',CV.toD0,fS,cC,dU,eV,rD0,eS,eO,fT,reduceCtorEq,reduceIte,Nat.reduceBEq,Nat.reduceEqDiff,Nat.reduceAdd,Nat.reduceMul,Nat.reduceSub,Nat.reduceLT,Nat.reduceLeDiff,Nat.reduceBNe,Int.reduceLE,Int.reduceLT,Int.reduceBEq,Int.reduceBNe,Int.reduceEq,Int.reduceNeg,Int.reduceAdd,Int.reduceSub,Int.reduceToNat,forall_const,bA,Option.isNone_none,Option.isNone_some,jN];(first|(refine hK _ ?_;clear hK K)|(refine⟨by kernel_rfl,hK _ ?_⟩;clear hK K)|(refine hK ?_;clear hK hF K)|(refine hF ?_;clear hK hF K)|refine aQ (by assumption) ?_|refine gJ (by assumption) ?_)));fail_if_success (revert hK;intro hK))|apply Wp.seq))
   refine cJ.ret ?_
   simp (maxSteps:=2000000) (disch:=omega) only[bF,TY,aL,bQ,cD,SV.ofD,bW,cF,bX,fB,bK,fC,eQ,cQ,cL,dO,eZ,eY,fA,CV.exact,CV.lstOf,CV.lenOf,CV.one,D.one,Value.oneCell',CV.toD0,fS,cC,dU,eV,rD0,eS,eO,fT,reduceCtorEq,reduceIte,Nat.reduceBEq,Nat.reduceEqDiff,Nat.reduceAdd,Nat.reduceMul,Nat.reduceSub,Nat.reduceLT,Nat.reduceLeDiff,Nat.reduceBNe,Int.reduceLE,Int.reduceLT,Int.reduceBEq,Int.reduceBNe,Int.reduceEq,Int.reduceNeg,Int.reduceAdd,Int.reduceSub,Int.reduceToNat,forall_const,bA,jJ,kO,jN]
  | some ad =>
   (refine FunG.of_bodyH rfl rfl Tryz.func54 rfl rfl Tryz.ntmps54 Tryz.results54 (Nat.le_of_ble_eq_true rfl) rfl ?_)
   (repeat (first|apply Wp.skip|apply Wp.exit|apply Wp.ret|apply Wp.block|apply Wp.label|((first|refine Wp.sreg (fun K hK=>?_)|refine Wp.reg (fun K hK=>?_)|refine Wp.sdrw aA (fun K hK=>?_)|refine Wp.drw aA (fun K hK=>?_)|refine Wp.condG (fun K hK hF=>?_));(repeat (revert hK;intro hK;simp (maxSteps:=2000000) (disch:=omega) only[bF,TY,aL,bQ,cD,SV.ofD,bW,cF,bX,fB,bK,fC,eQ,cQ,cL,dO,eZ,eY,fA,CV.exact,CV.lstOf,CV.lenOf,CV.one,D.one,Value.oneCell',CV.toD0,fS,cC,dU,eV,rD0,eS,eO,fT,reduceCtorEq,reduceIte,Nat.reduceBEq,Nat.reduceEqDiff,Nat.reduceAdd,Nat.reduceMul,Nat.reduceSub,Nat.reduceLT,Nat.reduceLeDiff,Nat.reduceBNe,Int.reduceLE,Int.reduceLT,Int.reduceBEq,Int.reduceBNe,Int.reduceEq,Int.reduceNeg,Int.reduceAdd,Int.reduceSub,Int.reduceToNat,forall_const,bA,Option.isNone_none,Option.isNone_some,jN];(first|(refine hK _ ?_;clear hK K)|(refine⟨by kernel_rfl,hK _ ?_⟩;clear hK K)|(refine hK ?_;clear hK hF K)|(refine hF ?_;clear hK hF K)|refine aQ (by assumption) ?_|refine gJ (by assumption) ?_)));fail_if_success (revert hK;intro hK))|apply Wp.seq))
   refine Wp.rounds 1 (aN.go ?_)
   (repeat (first|apply Wp.skip|apply Wp.exit|apply Wp.ret|apply Wp.block|apply Wp.label|((first|refine Wp.sreg (fun K hK=>?_)|refine Wp.reg (fun K hK=>?_)|refine Wp.sdrw aA (fun K hK=>?_)|refine Wp.drw aA (fun K hK=>?_)|refine Wp.condG (fun K hK hF=>?_));(repeat (revert hK;intro hK;simp (maxSteps:=2000000) (disch:=omega) only[bF,TY,aL,bQ,cD,SV.ofD,bW,cF,bX,fB,bK,fC,eQ,cQ,cL,dO,eZ,eY,fA,CV.exact,CV.lstOf,CV.lenOf,CV.one,D.one,Value.oneCell',CV.toD0,fS,cC,dU,eV,rD0,eS,eO,fT,reduceCtorEq,reduceIte,Nat.reduceBEq,Nat.reduceEqDiff,Nat.reduceAdd,Nat.reduceMul,Nat.reduceSub,Nat.reduceLT,Nat.reduceLeDiff,Nat.reduceBNe,Int.reduceLE,Int.reduceLT,Int.reduceBEq,Int.reduceBNe,Int.reduceEq,Int.reduceNeg,Int.reduceAdd,Int.reduceSub,Int.reduceToNat,forall_const,bA,jN];(first|(refine hK _ ?_;clear hK K)|(refine⟨by kernel_rfl,hK _ ?_⟩;clear hK K)|(refine hK ?_;clear hK hF K)|(refine hF ?_;clear hK hF K)|refine aQ (by assumption) ?_|refine gJ (by assumption) ?_)));fail_if_success (revert hK;intro hK))|apply Wp.seq))
   refine cJ.ret ?_
   simp (maxSteps:=2000000) (disch:=omega) only[bF,TY,aL,bQ,cD,SV.ofD,bW,cF,bX,fB,bK,fC,eQ,cQ,cL,dO,eZ,eY,fA,CV.exact,CV.lstOf,CV.lenOf,CV.one,D.one,Value.oneCell',CV.toD0,fS,cC,dU,eV,rD0,eS,eO,fT,reduceCtorEq,reduceIte,Nat.reduceBEq,Nat.reduceEqDiff,Nat.reduceAdd,Nat.reduceMul,Nat.reduceSub,Nat.reduceLT,Nat.reduceLeDiff,Nat.reduceBNe,Int.reduceLE,Int.reduceLT,Int.reduceBEq,Int.reduceBNe,Int.reduceEq,Int.reduceNeg,Int.reduceAdd,Int.reduceSub,Int.reduceToNat,forall_const,bA,jJ,kO,jN]
 | cons x0 xs =>
  rw[← hq]
  have hcons:l.map SeenD.dv=x0.dv::xs.map SeenD.dv:=by rw[hq];rfl
  have hlen:xs.length+1=l.length:=by rw[hq];rfl
  have e3:24*l.length≤140737488355328:=by omega
  have e4:l.length≠0:=by omega
  have hzl:jM.length=3:=rfl
  refine⟨nE F l,?_,?_⟩
  ·unfold nE
   split
   ·rename_i h;rw[h];exact fun K v h=>h
   ·exact jA.tup (.cons (.nil 3) (.cons (.refl _) .nil))
  (refine FunG.of_bodyH rfl rfl Tryz.func54 rfl rfl Tryz.ntmps54 Tryz.results54 (Nat.le_of_ble_eq_true rfl) rfl ?_)
  (repeat (first|apply Wp.skip|apply Wp.exit|apply Wp.ret|apply Wp.block|apply Wp.label|((first|refine Wp.sreg (fun K hK=>?_)|refine Wp.reg (fun K hK=>?_)|refine Wp.sdrw aA (fun K hK=>?_)|refine Wp.drw aA (fun K hK=>?_)|refine Wp.condG (fun K hK hF=>?_));(repeat (revert hK;intro hK;simp (maxSteps:=2000000) (disch:=omega) only[bF,TY,aL,bQ,cD,SV.ofD,bW,cF,bX,fB,bK,fC,eQ,cQ,cL,dO,eZ,eY,fA,CV.exact,CV.lstOf,CV.lenOf,CV.one,D.one,Value.oneCell',CV.toD0,fS,cC,dU,eV,rD0,eS,eO,fT,reduceCtorEq,reduceIte,Nat.reduceBEq,Nat.reduceEqDiff,Nat.reduceAdd,Nat.reduceMul,Nat.reduceSub,Nat.reduceLT,Nat.reduceLeDiff,Nat.reduceBNe,Int.reduceLE,Int.reduceLT,Int.reduceBEq,Int.reduceBNe,Int.reduceEq,Int.reduceNeg,Int.reduceAdd,Int.reduceSub,Int.reduceToNat,forall_const,bA,hcons,hlen,e3,e4,dZ,List.length_map,jN];(first|(refine hK _ ?_;clear hK K)|(refine⟨by kernel_rfl,hK _ ?_⟩;clear hK K)|(refine hK ?_;clear hK hF K)|(refine hF ?_;clear hK hF K)|refine aQ (by assumption) ?_|refine gJ (by assumption) ?_)));fail_if_success (revert hK;intro hK))|apply Wp.seq))
  refine Wp.loop (fun k:Nat=>⟨dI [(1,.c (.clo (.func 55) [.own 1 0,.own 2 0])),(6,.c (.view 1000 3 0 l.length)),(16,.c (.d (.lst 3 (l.map SeenD.dv)))),(17,vi .i64 l.length),(18,vi .i64 k)],bJ ((tB t0 t1 t2 q)++[(1000,.cells (bT (((l.take k).map fun x=>(F x).1).map SeenD.dv) jM (l.length - k)))]),1020,38,⟨[0,1,2],[],false,none⟩⟩) (fun k=>k≤l.length∧∀ (j:Nat) (h:j<l.length),j<k→(F l[j]).2=0) (fun k=>l.length - k) 0 ⟨Nat.zero_le _,fun j h h2=>by omega⟩ ?_ ?_
  ·refine aD.keep rfl (by simp[aO,jQ,SV.ids,HE.ids,CV.ids,Cap.ids,bN,jN]) ?_
   simp (maxSteps:=2000000) (disch:=omega) only[bF,TY,aL,bQ,cD,SV.ofD,bW,cF,bX,fB,bK,fC,eQ,cQ,cL,dO,eZ,eY,fA,CV.exact,CV.lstOf,CV.lenOf,CV.one,D.one,Value.oneCell',CV.toD0,fS,cC,dU,eV,rD0,eS,eO,fT,reduceCtorEq,reduceIte,Nat.reduceBEq,Nat.reduceEqDiff,Nat.reduceAdd,Nat.reduceMul,Nat.reduceSub,Nat.reduceLT,Nat.reduceLeDiff,Nat.reduceBNe,Int.reduceLE,Int.reduceLT,Int.reduceBEq,Int.reduceBNe,Int.reduceEq,Int.reduceNeg,Int.reduceAdd,Int.reduceSub,Int.reduceToNat,forall_const,bA,hcons,jM,List.take_zero,List.map_nil,Nat.sub_zero,jN]
  rintro k ⟨hk,hall⟩
  by_cases hlt:k<l.length
  ·have dk:decide ((k:Int)<(l.length:Int))=true:=decide_eq_true (by omega)
   have g1:l[k]? = some l[k]:=List.getElem?_eq_getElem hlt
   have hwk:IntKind.i64.wrap ((k:Int)+1)=((k+1:Nat):Int):=by rw[aG (by omega)];rfl
   have hsn:((l.take (k+1)).map fun x=>(F x).1).map SeenD.dv=((l.take k).map fun x=>(F x).1).map SeenD.dv++[(F l[k]).1.dv]:=by rw[aF l k hlt,List.map_append,List.map_append];rfl
   have c1:=hf _ (List.getElem_mem hlt)
   have hln:∀ y ∈ ((l.take k).map fun x=>(F x).1).map SeenD.dv,y.length=jM.length:=fun y hy=>by
    obtain⟨x,_,rfl⟩:=List.mem_map.1 hy
    rfl
   have htl:(((l.take k).map fun x=>(F x).1).map SeenD.dv).length=k:=by simp;omega
   have hfe:(F l[k]).2≠0→fD F l=(F l[k]).2:=fun h=>uY (l.map fun x=>(F x).2) k (by simpa using hlt) (fun j hj hjk=>by have:=hall j (by simpa using hj) hjk;simpa using this) (by simpa using h) |>.trans (by simp)
   have hgo:(F l[k]).2=0→∀ (j:Nat) (h:j<l.length),j<k+1→(F l[j]).2=0:=fun h j hj hjk=>by
    rcases Nat.lt_or_ge j k with h1|h1
    ·exact hall j hj h1
    ·have e:j=k:=by omega
     subst e;exact h
   have hcl:(bT (((l.take k).map fun x=>(F x).1).map SeenD.dv) jM (l.length - k)).length=l.length*3:=by
    rw[gD hln,htl,hzl,show k+(l.length - k)=l.length by omega]
   have hk1:k*3+3≤l.length*3:=by omega
   generalize l[k]=x at *
   generalize F x=fx at *
   obtain⟨y,e⟩:=fx
   simp only at c1 hfe hgo hsn
   have hput:=fun (us:List CV) (hu:us=y.dv.map .d)=>gE (m:=l.length - (k+1)) (x:=y.dv) hln rfl (o:=k*3) (by rw[htl,hzl]) hu (o2:=k*3+3) rfl
   rw[← hsn,show l.length - (k+1)+1=l.length - k by omega] at hput
   have hi0:=bN (((l.take k).map fun x=>(F x).1).map SeenD.dv) jM (l.length - k)
   have hre:∀ ρ,(bT (((l.take k).map fun x=>(F x).1).map SeenD.dv) jM (l.length - k)).map (CV.ren ρ)=bT (((l.take k).map fun x=>(F x).1).map SeenD.dv) jM (l.length - k):=fun ρ=>by unfold bT;rw[List.map_map];rfl
   generalize bT (((l.take k).map fun x=>(F x).1).map SeenD.dv) jM (l.length - k)=A at *
   have hput:=hput _ rfl
   simp only[SeenD.dv,List.map_cons,List.map_nil] at c1 hput
   (repeat (first|apply Wp.skip|apply Wp.exit|apply Wp.ret|apply Wp.block|apply Wp.label|((first|refine Wp.sreg (fun K hK=>?_)|refine Wp.reg (fun K hK=>?_)|refine Wp.sdrw aA (fun K hK=>?_)|refine Wp.drw aA (fun K hK=>?_)|refine Wp.condG (fun K hK hF=>?_));(repeat (revert hK;intro hK;simp (maxSteps:=2000000) (disch:=omega) only[bF,TY,aL,bQ,cD,SV.ofD,bW,cF,bX,fB,bK,fC,eQ,cQ,cL,dO,eZ,eY,fA,CV.exact,CV.lstOf,CV.lenOf,CV.one,D.one,Value.oneCell',CV.toD0,fS,cC,dU,eV,rD0,eS,eO,fT,reduceCtorEq,reduceIte,Nat.reduceBEq,Nat.reduceEqDiff,Nat.reduceAdd,Nat.reduceMul,Nat.reduceSub,Nat.reduceLT,Nat.reduceLeDiff,Nat.reduceBNe,Int.reduceLE,Int.reduceLT,Int.reduceBEq,Int.reduceBNe,Int.reduceEq,Int.reduceNeg,Int.reduceAdd,Int.reduceSub,Int.reduceToNat,forall_const,bA,dk,g1,SeenD.dv,jN];(first|(refine hK _ ?_;clear hK K)|(refine⟨by kernel_rfl,hK _ ?_⟩;clear hK K)|(refine hK ?_;clear hK hF K)|(refine hF ?_;clear hK hF K)|refine aQ (by assumption) ?_|refine gJ (by assumption) ?_)));fail_if_success (revert hK;intro hK))|apply Wp.seq))
   ((first|refine Wp.sregG ?_|refine Wp.regG ?_|(refine Wp.seq ?_;first|refine Wp.sregG ?_|refine Wp.regG ?_));refine cU.at 2 (fun K hK=>?_);simp (maxSteps:=2000000) (disch:=omega) only[bF,TY,aL,bQ,cD,SV.ofD,bW,cF,bX,fB,bK,fC,eQ,cQ,cL,dO,eZ,eY,fA,CV.exact,CV.lstOf,CV.lenOf,CV.one,D.one,Value.oneCell',CV.toD0,fS,cC,dU,eV,rD0,eS,eO,fT,reduceCtorEq,reduceIte,Nat.reduceBEq,Nat.reduceEqDiff,Nat.reduceAdd,Nat.reduceMul,Nat.reduceSub,Nat.reduceLT,Nat.reduceLeDiff,Nat.reduceBNe,Int.reduceLE,Int.reduceLT,Int.reduceBEq,Int.reduceBNe,Int.reduceEq,Int.reduceNeg,Int.reduceAdd,Int.reduceSub,Int.reduceToNat,forall_const,bA,Cap.sv,Cap.ren,List.map_cons,List.map_nil,SeenD.dv,jN];refine hK _ ?_;clear hK K;refine cU.call (c1) [] 1030 rfl rfl ?_ ?_;(focus (simp (maxSteps:=2000000) (disch:=omega) only[bF,TY,aL,bQ,cD,SV.ofD,bW,cF,bX,fB,bK,fC,eQ,cQ,cL,dO,eZ,eY,fA,CV.exact,CV.lstOf,CV.lenOf,CV.one,D.one,Value.oneCell',CV.toD0,fS,cC,dU,eV,rD0,eS,eO,fT,reduceCtorEq,reduceIte,Nat.reduceBEq,Nat.reduceEqDiff,Nat.reduceAdd,Nat.reduceMul,Nat.reduceSub,Nat.reduceLT,Nat.reduceLeDiff,Nat.reduceBNe,Int.reduceLE,Int.reduceLT,Int.reduceBEq,Int.reduceBNe,Int.reduceEq,Int.reduceNeg,Int.reduceAdd,Int.reduceSub,Int.reduceToNat,forall_const,iN,wF,lR,fX,List.nil_append,iP,SV.ren,CV.ren,HE.ren,cR,pP,bA,Cap.sv,Cap.ren,List.map_cons,List.map_nil,SeenD.dv,jN];done));refine cU.done (fun K hK=>?_);simp (maxSteps:=2000000) (disch:=omega) only[bF,TY,aL,bQ,cD,SV.ofD,bW,cF,bX,fB,bK,fC,eQ,cQ,cL,dO,eZ,eY,fA,CV.exact,CV.lstOf,CV.lenOf,CV.one,D.one,Value.oneCell',CV.toD0,fS,cC,dU,eV,rD0,eS,eO,fT,reduceCtorEq,reduceIte,Nat.reduceBEq,Nat.reduceEqDiff,Nat.reduceAdd,Nat.reduceMul,Nat.reduceSub,Nat.reduceLT,Nat.reduceLeDiff,Nat.reduceBNe,Int.reduceLE,Int.reduceLT,Int.reduceBEq,Int.reduceBNe,Int.reduceEq,Int.reduceNeg,Int.reduceAdd,Int.reduceSub,Int.reduceToNat,forall_const,jR,iP,SV.ren,CV.ren,HE.ren,List.map_cons,List.map_nil,Cap.sv,Cap.ren,List.map_cons,List.map_nil,SeenD.dv,jN];refine hK _ ?_;clear hK K)
   cases he:(e != 0) with
   | true =>
    have hne:e≠0:=by simpa using he
    have hE:=hfe hne
    have hr:nE F l = .tup [bU,int e]:=by unfold nE;rw[hE,if_neg hne]
    rw[hr]
    (refine gO (ai @bA (he)) ?_;try with_reducible exact tt)
    refine cJ.ret ?_
    simp (maxSteps:=2000000) (disch:=omega) only[bF,TY,aL,bQ,cD,SV.ofD,bW,cF,bX,fB,bK,fC,eQ,cQ,cL,dO,eZ,eY,fA,CV.exact,CV.lstOf,CV.lenOf,CV.one,D.one,Value.oneCell',CV.toD0,fS,cC,dU,eV,rD0,eS,eO,fT,reduceCtorEq,reduceIte,Nat.reduceBEq,Nat.reduceEqDiff,Nat.reduceAdd,Nat.reduceMul,Nat.reduceSub,Nat.reduceLT,Nat.reduceLeDiff,Nat.reduceBNe,Int.reduceLE,Int.reduceLT,Int.reduceBEq,Int.reduceBNe,Int.reduceEq,Int.reduceNeg,Int.reduceAdd,Int.reduceSub,Int.reduceToNat,forall_const,bA,jJ,kO,jN,List.map_cons,List.map_nil]
   | false =>
    have hz:e=0:=by simpa using he
    (refine gO (ai @bA (ai he (ai hlt (ai hcl (ai hk1 (ai hput (@SeenD.dv.eq_1))))))) ?_;try with_reducible exact tt)
    refine⟨k+1,⟨by omega,hgo hz⟩,by omega,aD.keep rfl (by simp[aO,jQ,SV.ids,HE.ids,CV.ids,Cap.ids,bN,jN]) ?_⟩
    simp (maxSteps:=2000000) (disch:=omega) only[bF,TY,aL,bQ,cD,SV.ofD,bW,cF,bX,fB,bK,fC,eQ,cQ,cL,dO,eZ,eY,fA,CV.exact,CV.lstOf,CV.lenOf,CV.one,D.one,Value.oneCell',CV.toD0,fS,cC,dU,eV,rD0,eS,eO,fT,reduceCtorEq,reduceIte,Nat.reduceBEq,Nat.reduceEqDiff,Nat.reduceAdd,Nat.reduceMul,Nat.reduceSub,Nat.reduceLT,Nat.reduceLeDiff,Nat.reduceBNe,Int.reduceLE,Int.reduceLT,Int.reduceBEq,Int.reduceBNe,Int.reduceEq,Int.reduceNeg,Int.reduceAdd,Int.reduceSub,Int.reduceToNat,forall_const,bA,hwk,jN,List.map_cons,List.map_nil]
  ·have hke:k=l.length:=by omega
   subst hke
   have dk:decide ((l.length:Int)<(l.length:Int))=false:=by simp
   have hE:fD F l=0:=nL _ (fun e he=>by obtain⟨x,hx,rfl⟩:=List.mem_map.1 he;obtain⟨j,hj,rfl⟩:=List.getElem_of_mem hx;exact hall j hj hj)
   have hr:nE F l = .tup [.lst 3 ((l.map fun x=>(F x).1).map SeenD.dv),int 0]:=by unfold nE;rw[if_pos hE]
   rw[hr]
   refine Wp.weak (aD.fillSlot (t:=6) (B:=1000) (n:=l.length) (s:=3) (z:=jM) (ds:=(l.map fun x=>(F x).1).map SeenD.dv) (by (refine rO (@bA) ?_;try with_reducible exact tt)) (by simp (maxSteps:=2000000) (disch:=omega) only[bF,TY,aL,bQ,cD,SV.ofD,bW,cF,bX,fB,bK,fC,eQ,cQ,cL,dO,eZ,eY,fA,CV.exact,CV.lstOf,CV.lenOf,CV.one,D.one,Value.oneCell',CV.toD0,fS,cC,dU,eV,rD0,eS,eO,fT,reduceCtorEq,reduceIte,Nat.reduceBEq,Nat.reduceEqDiff,Nat.reduceAdd,Nat.reduceMul,Nat.reduceSub,Nat.reduceLT,Nat.reduceLeDiff,Nat.reduceBNe,Int.reduceLE,Int.reduceLT,Int.reduceBEq,Int.reduceBNe,Int.reduceEq,Int.reduceNeg,Int.reduceAdd,Int.reduceSub,Int.reduceToNat,forall_const,bA,List.take_length,Nat.sub_self,jN]) (fun y hy=>by obtain⟨x,_,rfl⟩:=List.mem_map.1 hy;rfl) (by simp)) ?_
   (refine gO (ai @bA (dk)) ?_;try with_reducible exact tt)
   refine cJ.ret ?_
   simp (maxSteps:=2000000) (disch:=omega) only[bF,TY,aL,bQ,cD,SV.ofD,bW,cF,bX,fB,bK,fC,eQ,cQ,cL,dO,eZ,eY,fA,CV.exact,CV.lstOf,CV.lenOf,CV.one,D.one,Value.oneCell',CV.toD0,fS,cC,dU,eV,rD0,eS,eO,fT,reduceCtorEq,reduceIte,Nat.reduceBEq,Nat.reduceEqDiff,Nat.reduceAdd,Nat.reduceMul,Nat.reduceSub,Nat.reduceLT,Nat.reduceLeDiff,Nat.reduceBNe,Int.reduceLE,Int.reduceLT,Int.reduceBEq,Int.reduceBNe,Int.reduceEq,Int.reduceNeg,Int.reduceAdd,Int.reduceSub,Int.reduceToNat,forall_const,bA,jJ,kO,jN]
end Go.Proofs.YtkmfmphpndhkjaaGreatDoor
