/- Package image: what the tables say;a producer's bases. -/
import Derived.Test.YtkmfmphpndhkjaaGreatDoorBaA
namespace Go.Proofs.YtkmfmphpndhkjaaGreatDoor
open Go Go.RowKit
set_option maxHeartbeats 8000000
set_option maxRecDepth 100000
set_option linter.unusedVariables false
set_option linter.unusedSimpArgs false
theorem FunG.of_nil {P:Program} {f:FuncId} {ars:List SV} {sz:Nat} {ks ks' : List Nat} {B B' : Hp} {r:SV} (h:∀ a c,FunG P f (.c (.d (.val (.slice a 0 c)))::ars) ks B r ks' B'):FunG P f (.c (.d (.lst sz []))::ars) ks B r ks' B':=by
 have h0:=h none 0
 refine⟨h0.body,h0.sup,h0.sup',h0.sub,h0.cl,fun a ha i hi=>?_,fun g w vs hh hL=>?_⟩
 ·rcases List.mem_cons.1 ha with rfl|ha
  ·cases hi
  ·exact h0.ids a (List.mem_cons_of_mem _ ha) i hi
 ·obtain⟨h1,h2⟩:=hL
  cases vs with
  | nil=>cases h1
  | cons v vs =>
   have hv:=h2 0 _ v rfl rfl
   have hv:Rep g.K (.lst sz []) v:=hv
   obtain⟨a2,c2,us,rfl,_⟩:=hv.inv
   refine (h a2 c2).calls g w _ hh ⟨h1,fun j x u hx hu=>?_⟩
   cases j with
   | zero=>cases hx;cases hu;exact Rep.val _
   | succ j=>exact h2 (j+1) x u hx hu
theorem FunG.weaker {P:Program} {f:FuncId} {ars:List SV} {ks ks' : List Nat} {B B' : Hp} {r r' : SV} (h:FunG P f ars ks B r ks' B') (hr:∀ g H v,bH g H r v→bH g H r' v):FunG P f ars ks B r' ks' B' :=
 ⟨h.body,h.sup,h.sup',h.sub,h.cl,h.ids,fun g w vs hh hL=>(h.calls g w vs hh hL).mono (fun e w' ⟨v,g',h1,h2,h3⟩=>⟨v,g',h1,hr _ _ _ h2,h3⟩)⟩
theorem FunG.weakerD {P:Program} {f:FuncId} {ars:List SV} {ks ks' : List Nat} {B B' : Hp} {x y:D} (h:FunG P f ars ks B (.c (.d x)) ks' B') (hr:jA x y):FunG P f ars ks B (.c (.d y)) ks' B' :=
 h.weaker (fun g H v q=>hr _ _ q)
def jN (t0 t1 t2:TabD):List CV:=[.d (int t0.start),.d (int t0.fin),.d (.lst 1 (t0.news.map fun n=>[int n])),.d (int t1.start),.d (int t1.fin),.d (.lst 1 (t1.news.map fun n=>[int n])),.d (int t2.start),.d (int t2.fin),.d (.lst 1 (t2.news.map fun n=>[int n]))]
def kQ {α:Type} (a b c:α):Nat→α
 | 0=>a
 | 1=>b
 | _=>c
def aG1 (n:Int):Prop:=-9223372036854775808≤n∧n≤9223372036854775807
structure Tabs (t0 t1 t2:TabD):Prop where
 h0:t0.Fits
 h1:t1.Fits
 h2:t2.Fits
theorem aQt (t0 t1 t2:TabD) (q:Nat) (hq:q<3) (off:Int) (ht:Tabs t0 t1 t2) (ho:aG1 off):FunG Tryz.prog 49 [.c (.d (int (q:Int))),.c (.d (int off)),.c (.own 0 0)] [0] (bJ [(0,.cells (jN t0 t1 t2))]) (.c (.d (.tup [int (cB (kQ t0 t1 t2 q) off).1,int (cB (kQ t0 t1 t2 q) off).2]))) [0] (bJ [(0,.cells (jN t0 t1 t2))]):=by
 have c0:=wJ t0 off ht.h0 ho
 have c1:=wJ t1 off ht.h1 ho
 have c2:=wJ t2 off ht.h2 ho
 simp only[TabD.dv] at c0 c1 c2
 rcases (show q=0∨q=1∨q=2 by omega) with rfl|rfl|rfl
 ·show FunG _ _ _ _ _ (.c (.d (.tup [int (cB t0 off).1,int (cB t0 off).2]))) _ _
  (refine FunG.of_bodyH rfl rfl Tryz.func49 rfl rfl Tryz.ntmps49 Tryz.results49 (Nat.le_of_ble_eq_true rfl) rfl ?_)
  (repeat (first|apply Wp.skip|apply Wp.exit|apply Wp.ret|apply Wp.block|apply Wp.label|((first|refine Wp.sreg (fun K hK=>?_)|refine Wp.reg (fun K hK=>?_)|refine Wp.sdrw aA (fun K hK=>?_)|refine Wp.drw aA (fun K hK=>?_)|refine Wp.condG (fun K hK hF=>?_));(repeat (revert hK;intro hK;simp (maxSteps:=2000000) (disch:=omega) only[bF,TY,aL,bQ,cD,SV.ofD,bW,cF,bX,fB,bK,fC,eQ,cQ,cL,dO,eZ,eY,fA,CV.exact,CV.lstOf,CV.lenOf,CV.one,D.one,Value.oneCell',CV.toD0,fS,cC,dU,eV,rD0,eS,eO,fT,reduceCtorEq,reduceIte,Nat.reduceBEq,Nat.reduceEqDiff,Nat.reduceAdd,Nat.reduceMul,Nat.reduceSub,Nat.reduceLT,Nat.reduceLeDiff,Nat.reduceBNe,Int.reduceLE,Int.reduceLT,Int.reduceBEq,Int.reduceBNe,Int.reduceEq,Int.reduceNeg,Int.reduceAdd,Int.reduceSub,Int.reduceToNat,forall_const,bA,jN];(first|(refine hK _ ?_;clear hK K)|(refine⟨by kernel_rfl,hK _ ?_⟩;clear hK K)|(refine hK ?_;clear hK hF K)|(refine hF ?_;clear hK hF K)|refine aQ (by assumption) ?_|refine gJ (by assumption) ?_)));fail_if_success (revert hK;intro hK))|apply Wp.seq))
  refine cJ.ret ?_
  simp (maxSteps:=2000000) (disch:=omega) only[bF,TY,aL,bQ,cD,SV.ofD,bW,cF,bX,fB,bK,fC,eQ,cQ,cL,dO,eZ,eY,fA,CV.exact,CV.lstOf,CV.lenOf,CV.one,D.one,Value.oneCell',CV.toD0,fS,cC,dU,eV,rD0,eS,eO,fT,reduceCtorEq,reduceIte,Nat.reduceBEq,Nat.reduceEqDiff,Nat.reduceAdd,Nat.reduceMul,Nat.reduceSub,Nat.reduceLT,Nat.reduceLeDiff,Nat.reduceBNe,Int.reduceLE,Int.reduceLT,Int.reduceBEq,Int.reduceBNe,Int.reduceEq,Int.reduceNeg,Int.reduceAdd,Int.reduceSub,Int.reduceToNat,forall_const,bA,jJ,kO,jN]
 ·show FunG _ _ _ _ _ (.c (.d (.tup [int (cB t1 off).1,int (cB t1 off).2]))) _ _
  (refine FunG.of_bodyH rfl rfl Tryz.func49 rfl rfl Tryz.ntmps49 Tryz.results49 (Nat.le_of_ble_eq_true rfl) rfl ?_)
  (repeat (first|apply Wp.skip|apply Wp.exit|apply Wp.ret|apply Wp.block|apply Wp.label|((first|refine Wp.sreg (fun K hK=>?_)|refine Wp.reg (fun K hK=>?_)|refine Wp.sdrw aA (fun K hK=>?_)|refine Wp.drw aA (fun K hK=>?_)|refine Wp.condG (fun K hK hF=>?_));(repeat (revert hK;intro hK;simp (maxSteps:=2000000) (disch:=omega) only[bF,TY,aL,bQ,cD,SV.ofD,bW,cF,bX,fB,bK,fC,eQ,cQ,cL,dO,eZ,eY,fA,CV.exact,CV.lstOf,CV.lenOf,CV.one,D.one,Value.oneCell',CV.toD0,fS,cC,dU,eV,rD0,eS,eO,fT,reduceCtorEq,reduceIte,Nat.reduceBEq,Nat.reduceEqDiff,Nat.reduceAdd,Nat.reduceMul,Nat.reduceSub,Nat.reduceLT,Nat.reduceLeDiff,Nat.reduceBNe,Int.reduceLE,Int.reduceLT,Int.reduceBEq,Int.reduceBNe,Int.reduceEq,Int.reduceNeg,Int.reduceAdd,Int.reduceSub,Int.reduceToNat,forall_const,bA,jN];(first|(refine hK _ ?_;clear hK K)|(refine⟨by kernel_rfl,hK _ ?_⟩;clear hK K)|(refine hK ?_;clear hK hF K)|(refine hF ?_;clear hK hF K)|refine aQ (by assumption) ?_|refine gJ (by assumption) ?_)));fail_if_success (revert hK;intro hK))|apply Wp.seq))
  refine cJ.ret ?_
  simp (maxSteps:=2000000) (disch:=omega) only[bF,TY,aL,bQ,cD,SV.ofD,bW,cF,bX,fB,bK,fC,eQ,cQ,cL,dO,eZ,eY,fA,CV.exact,CV.lstOf,CV.lenOf,CV.one,D.one,Value.oneCell',CV.toD0,fS,cC,dU,eV,rD0,eS,eO,fT,reduceCtorEq,reduceIte,Nat.reduceBEq,Nat.reduceEqDiff,Nat.reduceAdd,Nat.reduceMul,Nat.reduceSub,Nat.reduceLT,Nat.reduceLeDiff,Nat.reduceBNe,Int.reduceLE,Int.reduceLT,Int.reduceBEq,Int.reduceBNe,Int.reduceEq,Int.reduceNeg,Int.reduceAdd,Int.reduceSub,Int.reduceToNat,forall_const,bA,jJ,kO,jN]
 ·show FunG _ _ _ _ _ (.c (.d (.tup [int (cB t2 off).1,int (cB t2 off).2]))) _ _
  (refine FunG.of_bodyH rfl rfl Tryz.func49 rfl rfl Tryz.ntmps49 Tryz.results49 (Nat.le_of_ble_eq_true rfl) rfl ?_)
  (repeat (first|apply Wp.skip|apply Wp.exit|apply Wp.ret|apply Wp.block|apply Wp.label|((first|refine Wp.sreg (fun K hK=>?_)|refine Wp.reg (fun K hK=>?_)|refine Wp.sdrw aA (fun K hK=>?_)|refine Wp.drw aA (fun K hK=>?_)|refine Wp.condG (fun K hK hF=>?_));(repeat (revert hK;intro hK;simp (maxSteps:=2000000) (disch:=omega) only[bF,TY,aL,bQ,cD,SV.ofD,bW,cF,bX,fB,bK,fC,eQ,cQ,cL,dO,eZ,eY,fA,CV.exact,CV.lstOf,CV.lenOf,CV.one,D.one,Value.oneCell',CV.toD0,fS,cC,dU,eV,rD0,eS,eO,fT,reduceCtorEq,reduceIte,Nat.reduceBEq,Nat.reduceEqDiff,Nat.reduceAdd,Nat.reduceMul,Nat.reduceSub,Nat.reduceLT,Nat.reduceLeDiff,Nat.reduceBNe,Int.reduceLE,Int.reduceLT,Int.reduceBEq,Int.reduceBNe,Int.reduceEq,Int.reduceNeg,Int.reduceAdd,Int.reduceSub,Int.reduceToNat,forall_const,bA,jN];(first|(refine hK _ ?_;clear hK K)|(refine⟨by kernel_rfl,hK _ ?_⟩;clear hK K)|(refine hK ?_;clear hK hF K)|(refine hF ?_;clear hK hF K)|refine aQ (by assumption) ?_|refine gJ (by assumption) ?_)));fail_if_success (revert hK;intro hK))|apply Wp.seq))
  refine cJ.ret ?_
  simp (maxSteps:=2000000) (disch:=omega) only[bF,TY,aL,bQ,cD,SV.ofD,bW,cF,bX,fB,bK,fC,eQ,cQ,cL,dO,eZ,eY,fA,CV.exact,CV.lstOf,CV.lenOf,CV.one,D.one,Value.oneCell',CV.toD0,fS,cC,dU,eV,rD0,eS,eO,fT,reduceCtorEq,reduceIte,Nat.reduceBEq,Nat.reduceEqDiff,Nat.reduceAdd,Nat.reduceMul,Nat.reduceSub,Nat.reduceLT,Nat.reduceLeDiff,Nat.reduceBNe,Int.reduceLE,Int.reduceLT,Int.reduceBEq,Int.reduceBNe,Int.reduceEq,Int.reduceNeg,Int.reduceAdd,Int.reduceSub,Int.reduceToNat,forall_const,bA,jJ,kO,jN]
theorem gA:TI Tryz.prog 110=some ⟨false,1,8,[.nilFunc],[],none,false⟩:=by kernel_rfl
abbrev aU5 (k:Nat):CV:=.clo (.func 49) [.own k 0]
abbrev tB (t0 t1 t2:TabD) (q:Nat):List (Nat × HE):=[(0,.cells (jN t0 t1 t2)),(1,.cells [aU5 0]),(2,.cells [.d (int (q:Int))])]
theorem aO9 (t0 t1 t2:TabD) (q:Nat) (hq:q<3) (s:SeenD) (ht:Tabs t0 t1 t2) (ho:aG1 s.base):FunG Tryz.prog 55 [.agg (s.dv.map CV.d),.c (.own 1 0),.c (.own 2 0)] [0,1,2] (bJ (tB t0 t1 t2 q)) (.c (.d (.tup [.agg [int s.seq,int s.count,int (cB (kQ t0 t1 t2 q) s.base).1],int (cB (kQ t0 t1 t2 q) s.base).2]))) [0,1,2] (bJ (tB t0 t1 t2 q)):=by
 have c1:=aQt t0 t1 t2 q hq s.base ht ho
 generalize cB (kQ t0 t1 t2 q) s.base=x at *
 (refine FunG.of_bodyH rfl rfl Tryz.func55 rfl rfl Tryz.ntmps55 Tryz.results55 (Nat.le_of_ble_eq_true rfl) rfl ?_)
 (refine gO (ai @bA (ai @SeenD.dv.eq_1 (ai @List.map_cons.{0,0} (@List.map_nil.{0,0})))) ?_;try with_reducible exact tt)
 ((first|refine Wp.sregG ?_|refine Wp.regG ?_|(refine Wp.seq ?_;first|refine Wp.sregG ?_|refine Wp.regG ?_));refine cU.at 4 (fun K hK=>?_);simp (maxSteps:=2000000) (disch:=omega) only[bF,TY,aL,bQ,cD,SV.ofD,bW,cF,bX,fB,bK,fC,eQ,cQ,cL,dO,eZ,eY,fA,CV.exact,CV.lstOf,CV.lenOf,CV.one,D.one,Value.oneCell',CV.toD0,fS,cC,dU,eV,rD0,eS,eO,fT,reduceCtorEq,reduceIte,Nat.reduceBEq,Nat.reduceEqDiff,Nat.reduceAdd,Nat.reduceMul,Nat.reduceSub,Nat.reduceLT,Nat.reduceLeDiff,Nat.reduceBNe,Int.reduceLE,Int.reduceLT,Int.reduceBEq,Int.reduceBNe,Int.reduceEq,Int.reduceNeg,Int.reduceAdd,Int.reduceSub,Int.reduceToNat,forall_const,bA,jN,gA,Cap.sv,Cap.ren,List.map_cons,List.map_nil];refine hK _ ?_;clear hK K;refine cU.call (c1) [] 1010 rfl rfl ?_ ?_;(focus (simp (maxSteps:=2000000) (disch:=omega) only[bF,TY,aL,bQ,cD,SV.ofD,bW,cF,bX,fB,bK,fC,eQ,cQ,cL,dO,eZ,eY,fA,CV.exact,CV.lstOf,CV.lenOf,CV.one,D.one,Value.oneCell',CV.toD0,fS,cC,dU,eV,rD0,eS,eO,fT,reduceCtorEq,reduceIte,Nat.reduceBEq,Nat.reduceEqDiff,Nat.reduceAdd,Nat.reduceMul,Nat.reduceSub,Nat.reduceLT,Nat.reduceLeDiff,Nat.reduceBNe,Int.reduceLE,Int.reduceLT,Int.reduceBEq,Int.reduceBNe,Int.reduceEq,Int.reduceNeg,Int.reduceAdd,Int.reduceSub,Int.reduceToNat,forall_const,iN,wF,lR,fX,List.nil_append,iP,SV.ren,CV.ren,HE.ren,cR,pP,bA,jN,gA,Cap.sv,Cap.ren,List.map_cons,List.map_nil];done));refine cU.done (fun K hK=>?_);simp (maxSteps:=2000000) (disch:=omega) only[bF,TY,aL,bQ,cD,SV.ofD,bW,cF,bX,fB,bK,fC,eQ,cQ,cL,dO,eZ,eY,fA,CV.exact,CV.lstOf,CV.lenOf,CV.one,D.one,Value.oneCell',CV.toD0,fS,cC,dU,eV,rD0,eS,eO,fT,reduceCtorEq,reduceIte,Nat.reduceBEq,Nat.reduceEqDiff,Nat.reduceAdd,Nat.reduceMul,Nat.reduceSub,Nat.reduceLT,Nat.reduceLeDiff,Nat.reduceBNe,Int.reduceLE,Int.reduceLT,Int.reduceBEq,Int.reduceBNe,Int.reduceEq,Int.reduceNeg,Int.reduceAdd,Int.reduceSub,Int.reduceToNat,forall_const,jR,iP,SV.ren,CV.ren,HE.ren,List.map_cons,List.map_nil,jN,gA,Cap.sv,Cap.ren,List.map_cons,List.map_nil];refine hK _ ?_;clear hK K)
 (refine gO (@bA) ?_;try with_reducible exact tt)
 refine cJ.ret ?_
 simp (maxSteps:=2000000) (disch:=omega) only[bF,TY,aL,bQ,cD,SV.ofD,bW,cF,bX,fB,bK,fC,eQ,cQ,cL,dO,eZ,eY,fA,CV.exact,CV.lstOf,CV.lenOf,CV.one,D.one,Value.oneCell',CV.toD0,fS,cC,dU,eV,rD0,eS,eO,fT,reduceCtorEq,reduceIte,Nat.reduceBEq,Nat.reduceEqDiff,Nat.reduceAdd,Nat.reduceMul,Nat.reduceSub,Nat.reduceLT,Nat.reduceLeDiff,Nat.reduceBNe,Int.reduceLE,Int.reduceLT,Int.reduceBEq,Int.reduceBNe,Int.reduceEq,Int.reduceNeg,Int.reduceAdd,Int.reduceSub,Int.reduceToNat,forall_const,bA,jJ,kO,jN,List.map_cons,List.map_nil]
end Go.Proofs.YtkmfmphpndhkjaaGreatDoor
