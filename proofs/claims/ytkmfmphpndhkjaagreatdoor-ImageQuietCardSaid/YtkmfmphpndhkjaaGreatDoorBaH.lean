/- Package image: bared,Bare. -/
import Derived.Test.YtkmfmphpndhkjaaGreatDoorBaG
namespace Go.Proofs.YtkmfmphpndhkjaaGreatDoor
open Go Go.RowKit
set_option maxHeartbeats 16000000
set_option maxRecDepth 100000
set_option linter.unusedVariables false
set_option linter.unusedSimpArgs false
theorem aGd (i:ImgD) (ha:AllOk i) (hc:aS i=true) (h0:oA i.p0=0) (h1:¬ oA i.p1=0):∃ x,aJ Tryz.prog 26 [.agg i.dv] (.tup [.agg iz.dv,kL x 2]):=by
 refine⟨aP3,?_⟩
 have cP:=cG i ha.s
 have cS:=mG i.m ha.s.m
 have hp:=fun q=>dA (bI hc q)
 have cb0:=fI i.p0 ha.s.p0
 have cb1:=fI i.p1 ha.s.p1
 have cb2:=fI i.p2 ha.s.p2
 rw[hc,if_pos rfl] at cP
 rw[fO (p:=i.p0) (hp 0) (ha.r.p 0)] at cb0
 rw[fO (p:=i.p1) (hp 1) (ha.r.p 1)] at cb1
 rw[fO (p:=i.p2) (hp 2) (ha.r.p 2)] at cb2
 have f0:(aZ i.p0).Fits:=dX (hp 0)
 have f1:(aZ i.p1).Fits:=dX (hp 1)
 have f2:(aZ i.p2).Fits:=dX (hp 2)
 have e0:=dY (aZ i.p0) lF lF 0 (by omega) ⟨f0,eB,eB⟩ i.p0 ha.b0 rfl 0 rfl
 have e1:=dY (aZ i.p0) (aZ i.p1) lF 1 (by omega) ⟨f0,f1,eB⟩ i.p1 ha.b1 rfl 1 rfl
 have e2:=dY (aZ i.p0) (aZ i.p1) (aZ i.p2) 2 (by omega) ⟨f0,f1,f2⟩ i.p2 ha.b2 rfl 2 rfl
 simp only[ImgD.dv,PartD.dv,StateD.dv,CoordD.dv,GrpD.dv,TabD.dv,iL,List.cons_append,List.nil_append] at cP cS cb0 cb1 cb2
 rw[h0,if_pos rfl] at e0
 rw[if_neg h1] at e1
 have b1:(oA i.p1 != 0)=true:=by simpa using h1
 (refine aJ.of_bodyW Tryz.func26 rfl rfl Tryz.ntmps26 Tryz.results26 (by simp) ?_)
 (repeat (first|apply Wp.skip|apply Wp.exit|apply Wp.ret|apply Wp.block|apply Wp.label|((first|refine Wp.sreg (fun K hK=>?_)|refine Wp.reg (fun K hK=>?_)|refine Wp.sdrw aA (fun K hK=>?_)|refine Wp.drw aA (fun K hK=>?_)|refine Wp.condG (fun K hK hF=>?_));(repeat (revert hK;intro hK;simp (maxSteps:=2000000) (disch:=omega) only[bF,TY,aL,bQ,cD,SV.ofD,bW,cF,bX,cQ,CV.one,D.one,Value.oneCell',CV.toD0,cC,reduceCtorEq,Nat.reduceBEq,Nat.reduceAdd,Nat.reduceLT,Nat.reduceLeDiff,Int.reduceBNe,ImgD.dv,PartD.dv,StateD.dv,CoordD.dv,GrpD.dv,iZ,gA];(first|(refine hK _ ?_;clear hK K)|(refine⟨by kernel_rfl,hK _ ?_⟩;clear hK K)|(refine hK ?_;clear hK hF K)|(refine hF ?_;clear hK hF K)|refine aQ (by assumption) ?_|refine gJ (by assumption) ?_)));fail_if_success (revert hK;intro hK))|apply Wp.seq))
 refine Wp.weak (aD.cellAt (id:=3) (k:=2) (cs:=[.d (int 0),.d (int 0),.d bU,.d (int 0),.d (int 0),.d bU,.d (int 0),.d (int 0),.d bU]) (y:=.d (.lst 1 [])) (by (refine aK ?_;try with_reducible exact tt)) rfl (fun g v h=>jA.nil 1 _ _ h)) ?_
 refine Wp.weak (aD.cellAt (id:=3) (k:=5) (cs:=[.d (int 0),.d (int 0),.d (.lst 1 []),.d (int 0),.d (int 0),.d bU,.d (int 0),.d (int 0),.d bU]) (y:=.d (.lst 1 [])) (by (refine rO (ai @List.set_cons_succ.{0} (@List.set_cons_zero.{0})) ?_;try with_reducible exact tt)) rfl (fun g v h=>jA.nil 1 _ _ h)) ?_
 refine Wp.weak (aD.cellAt (id:=3) (k:=8) (cs:=[.d (int 0),.d (int 0),.d (.lst 1 []),.d (int 0),.d (int 0),.d (.lst 1 []),.d (int 0),.d (int 0),.d bU]) (y:=.d (.lst 1 [])) (by (refine rO (ai @List.set_cons_succ.{0} (@List.set_cons_zero.{0})) ?_;try with_reducible exact tt)) rfl (fun g v h=>jA.nil 1 _ _ h)) ?_
 refine Wp.rounds 4 (aN.go ?_)
 (repeat (first|apply Wp.skip|apply Wp.exit|apply Wp.ret|apply Wp.block|apply Wp.label|((first|refine Wp.sreg (fun K hK=>?_)|refine Wp.reg (fun K hK=>?_)|refine Wp.sdrw aA (fun K hK=>?_)|refine Wp.drw aA (fun K hK=>?_)|refine Wp.condG (fun K hK hF=>?_));(repeat (revert hK;intro hK;simp (maxSteps:=2000000) (disch:=omega) only[bF,TY,aL,bQ,cD,SV.ofD,bW,cF,bX,cQ,cL,CV.exact,CV.one,D.one,Value.oneCell',CV.toD0,cC,reduceCtorEq,Nat.reduceBEq,Nat.reduceAdd,Nat.reduceMul,Nat.reduceLT,Nat.reduceLeDiff,Int.reduceLE,Int.reduceLT,Int.reduceBNe,Int.reduceToNat,iZ,List.set_cons_succ,List.set_cons_zero];(first|(refine hK _ ?_;clear hK K)|(refine⟨by kernel_rfl,hK _ ?_⟩;clear hK K)|(refine hK ?_;clear hK hF K)|(refine hF ?_;clear hK hF K)|refine aQ (by assumption) ?_|refine gJ (by assumption) ?_)));fail_if_success (revert hK;intro hK))|apply Wp.seq))
 (first|refine Wp.sregM aA ?_|refine Wp.regM aA ?_|(refine Wp.seq ?_;first|refine Wp.sregM aA ?_|refine Wp.regM aA ?_))
 (refine jX.at 4 (fun K hK=>?_);simp (maxSteps:=2000000) (disch:=omega) only[bF,TY,aL,bQ,bW,bX,cQ,cC,Nat.reduceBEq,Nat.reduceAdd,Nat.reduceLT,iZ];refine hK _ _ ?_;clear hK K)
 (refine jX.callR (e0) [(0,3),(1,4),(2,5)] 20 rfl rfl ?_ ?_;(focus (simp (maxSteps:=2000000) (disch:=omega) only[bF,aL,reduceCtorEq,Nat.reduceBEq,Nat.reduceEqDiff,Nat.reduceLT,iN,wF,lR,fX,iP,SV.ren,CV.ren,nI,cR,jN,lF,Cap.ren];done)))
 (refine jX.done (fun K hK=>?_);simp (maxSteps:=2000000) (disch:=omega) only[bF,TY,aL,bQ,SV.ofD,cF,bX,cL,CV.exact,CV.one,D.one,reduceCtorEq,Nat.reduceBEq,Nat.reduceAdd,Nat.reduceMul,Nat.reduceLT,Nat.reduceLeDiff,Int.reduceLE,Int.reduceToNat,SV.ren,CV.ren,pT];refine hK _ _ ?_;clear hK K;refine⟨by kernel_rfl,?_⟩)
 (repeat (first|apply Wp.skip|apply Wp.exit|apply Wp.ret|apply Wp.block|apply Wp.label|((first|refine Wp.sreg (fun K hK=>?_)|refine Wp.reg (fun K hK=>?_)|refine Wp.sdrw aA (fun K hK=>?_)|refine Wp.drw aA (fun K hK=>?_)|refine Wp.condG (fun K hK hF=>?_));(repeat (revert hK;intro hK;simp (maxSteps:=2000000) (disch:=omega) only[bF,TY,aL,bQ,cD,SV.ofD,bW,cF,bX,cQ,cL,CV.exact,CV.one,D.one,Value.oneCell',CV.toD0,cC,reduceCtorEq,Nat.reduceBEq,Nat.reduceAdd,Nat.reduceMul,Nat.reduceLT,Nat.reduceLeDiff,Int.reduceLE,Int.reduceLT,Int.reduceBNe,Int.reduceAdd,Int.reduceToNat,iZ];(first|(refine hK _ ?_;clear hK K)|(refine⟨by kernel_rfl,hK _ ?_⟩;clear hK K)|(refine hK ?_;clear hK hF K)|(refine hF ?_;clear hK hF K)|refine aQ (by assumption) ?_|refine gJ (by assumption) ?_)));fail_if_success (revert hK;intro hK))|apply Wp.seq))
 (first|refine Wp.sregM aA ?_|refine Wp.regM aA ?_|(refine Wp.seq ?_;first|refine Wp.sregM aA ?_|refine Wp.regM aA ?_))
 (refine jX.at 4 (fun K hK=>?_);simp (maxSteps:=2000000) (disch:=omega) only[bF,TY,aL,bQ,bW,bX,cQ,cC,Nat.reduceBEq,Nat.reduceAdd,Nat.reduceLT,iZ];refine hK _ _ ?_;clear hK K)
 (refine jX.callR (e1) [(0,3),(1,4),(2,20)] 40 rfl rfl ?_ ?_;(focus (simp (maxSteps:=2000000) (disch:=omega) only[bF,aL,reduceCtorEq,Nat.reduceBEq,Nat.reduceEqDiff,Nat.reduceLT,iN,wF,lR,fX,iP,SV.ren,CV.ren,nI,cR,jN,lF,Cap.ren];done)))
 (refine jX.done (fun K hK=>?_);simp (maxSteps:=2000000) (disch:=omega) only[bF,TY,aL,bQ,SV.ofD,cF,bX,cL,CV.exact,CV.one,D.one,reduceCtorEq,Nat.reduceBEq,Nat.reduceAdd,Nat.reduceMul,Nat.reduceLT,Nat.reduceLeDiff,Int.reduceLE,Int.reduceToNat,SV.ren,CV.ren];refine hK _ _ ?_;clear hK K;refine⟨by kernel_rfl,?_⟩)
 (refine gO (b1) ?_;try with_reducible exact tt)
 (refine aK ?_;try with_reducible exact tt)
 exact⟨_,rfl,jA.tup (.cons aHn (.cons (.refl _) .nil))⟩
theorem aGe (i:ImgD) (ha:AllOk i) (hc:aS i=true) (h0:oA i.p0=0) (h1:oA i.p1=0) (h2:¬ oA i.p2=0):∃ x,aJ Tryz.prog 26 [.agg i.dv] (.tup [.agg iz.dv,kL x 2]):=by
 refine⟨aP3,?_⟩
 have cP:=cG i ha.s
 have cS:=mG i.m ha.s.m
 have hp:=fun q=>dA (bI hc q)
 have cb0:=fI i.p0 ha.s.p0
 have cb1:=fI i.p1 ha.s.p1
 have cb2:=fI i.p2 ha.s.p2
 rw[hc,if_pos rfl] at cP
 rw[fO (p:=i.p0) (hp 0) (ha.r.p 0)] at cb0
 rw[fO (p:=i.p1) (hp 1) (ha.r.p 1)] at cb1
 rw[fO (p:=i.p2) (hp 2) (ha.r.p 2)] at cb2
 have f0:(aZ i.p0).Fits:=dX (hp 0)
 have f1:(aZ i.p1).Fits:=dX (hp 1)
 have f2:(aZ i.p2).Fits:=dX (hp 2)
 have e0:=dY (aZ i.p0) lF lF 0 (by omega) ⟨f0,eB,eB⟩ i.p0 ha.b0 rfl 0 rfl
 have e1:=dY (aZ i.p0) (aZ i.p1) lF 1 (by omega) ⟨f0,f1,eB⟩ i.p1 ha.b1 rfl 1 rfl
 have e2:=dY (aZ i.p0) (aZ i.p1) (aZ i.p2) 2 (by omega) ⟨f0,f1,f2⟩ i.p2 ha.b2 rfl 2 rfl
 simp only[ImgD.dv,PartD.dv,StateD.dv,CoordD.dv,GrpD.dv,TabD.dv,iL,List.cons_append,List.nil_append] at cP cS cb0 cb1 cb2
 rw[h0,if_pos rfl] at e0
 rw[h1,if_pos rfl] at e1
 rw[if_neg h2] at e2
 have b2:(oA i.p2 != 0)=true:=by simpa using h2
 (refine aJ.of_bodyW Tryz.func26 rfl rfl Tryz.ntmps26 Tryz.results26 (by simp) ?_)
 (repeat (first|apply Wp.skip|apply Wp.exit|apply Wp.ret|apply Wp.block|apply Wp.label|((first|refine Wp.sreg (fun K hK=>?_)|refine Wp.reg (fun K hK=>?_)|refine Wp.sdrw aA (fun K hK=>?_)|refine Wp.drw aA (fun K hK=>?_)|refine Wp.condG (fun K hK hF=>?_));(repeat (revert hK;intro hK;simp (maxSteps:=2000000) (disch:=omega) only[bF,TY,aL,bQ,cD,SV.ofD,bW,cF,bX,cQ,CV.one,D.one,Value.oneCell',CV.toD0,cC,reduceCtorEq,Nat.reduceBEq,Nat.reduceAdd,Nat.reduceLT,Nat.reduceLeDiff,Int.reduceBNe,ImgD.dv,PartD.dv,StateD.dv,CoordD.dv,GrpD.dv,iZ,gA];(first|(refine hK _ ?_;clear hK K)|(refine⟨by kernel_rfl,hK _ ?_⟩;clear hK K)|(refine hK ?_;clear hK hF K)|(refine hF ?_;clear hK hF K)|refine aQ (by assumption) ?_|refine gJ (by assumption) ?_)));fail_if_success (revert hK;intro hK))|apply Wp.seq))
 refine Wp.weak (aD.cellAt (id:=3) (k:=2) (cs:=[.d (int 0),.d (int 0),.d bU,.d (int 0),.d (int 0),.d bU,.d (int 0),.d (int 0),.d bU]) (y:=.d (.lst 1 [])) (by (refine aK ?_;try with_reducible exact tt)) rfl (fun g v h=>jA.nil 1 _ _ h)) ?_
 refine Wp.weak (aD.cellAt (id:=3) (k:=5) (cs:=[.d (int 0),.d (int 0),.d (.lst 1 []),.d (int 0),.d (int 0),.d bU,.d (int 0),.d (int 0),.d bU]) (y:=.d (.lst 1 [])) (by (refine rO (ai @List.set_cons_succ.{0} (@List.set_cons_zero.{0})) ?_;try with_reducible exact tt)) rfl (fun g v h=>jA.nil 1 _ _ h)) ?_
 refine Wp.weak (aD.cellAt (id:=3) (k:=8) (cs:=[.d (int 0),.d (int 0),.d (.lst 1 []),.d (int 0),.d (int 0),.d (.lst 1 []),.d (int 0),.d (int 0),.d bU]) (y:=.d (.lst 1 [])) (by (refine rO (ai @List.set_cons_succ.{0} (@List.set_cons_zero.{0})) ?_;try with_reducible exact tt)) rfl (fun g v h=>jA.nil 1 _ _ h)) ?_
 refine Wp.rounds 4 (aN.go ?_)
 (repeat (first|apply Wp.skip|apply Wp.exit|apply Wp.ret|apply Wp.block|apply Wp.label|((first|refine Wp.sreg (fun K hK=>?_)|refine Wp.reg (fun K hK=>?_)|refine Wp.sdrw aA (fun K hK=>?_)|refine Wp.drw aA (fun K hK=>?_)|refine Wp.condG (fun K hK hF=>?_));(repeat (revert hK;intro hK;simp (maxSteps:=2000000) (disch:=omega) only[bF,TY,aL,bQ,cD,SV.ofD,bW,cF,bX,cQ,cL,CV.exact,CV.one,D.one,Value.oneCell',CV.toD0,cC,reduceCtorEq,Nat.reduceBEq,Nat.reduceAdd,Nat.reduceMul,Nat.reduceLT,Nat.reduceLeDiff,Int.reduceLE,Int.reduceLT,Int.reduceBNe,Int.reduceToNat,iZ,List.set_cons_succ,List.set_cons_zero];(first|(refine hK _ ?_;clear hK K)|(refine⟨by kernel_rfl,hK _ ?_⟩;clear hK K)|(refine hK ?_;clear hK hF K)|(refine hF ?_;clear hK hF K)|refine aQ (by assumption) ?_|refine gJ (by assumption) ?_)));fail_if_success (revert hK;intro hK))|apply Wp.seq))
 (first|refine Wp.sregM aA ?_|refine Wp.regM aA ?_|(refine Wp.seq ?_;first|refine Wp.sregM aA ?_|refine Wp.regM aA ?_))
 (refine jX.at 4 (fun K hK=>?_);simp (maxSteps:=2000000) (disch:=omega) only[bF,TY,aL,bQ,bW,bX,cQ,cC,Nat.reduceBEq,Nat.reduceAdd,Nat.reduceLT,iZ];refine hK _ _ ?_;clear hK K)
 (refine jX.callR (e0) [(0,3),(1,4),(2,5)] 20 rfl rfl ?_ ?_;(focus (simp (maxSteps:=2000000) (disch:=omega) only[bF,aL,reduceCtorEq,Nat.reduceBEq,Nat.reduceEqDiff,Nat.reduceLT,iN,wF,lR,fX,iP,SV.ren,CV.ren,nI,cR,jN,lF,Cap.ren];done)))
 (refine jX.done (fun K hK=>?_);simp (maxSteps:=2000000) (disch:=omega) only[bF,TY,aL,bQ,SV.ofD,cF,bX,cL,CV.exact,CV.one,D.one,reduceCtorEq,Nat.reduceBEq,Nat.reduceAdd,Nat.reduceMul,Nat.reduceLT,Nat.reduceLeDiff,Int.reduceLE,Int.reduceToNat,SV.ren,CV.ren,pT];refine hK _ _ ?_;clear hK K;refine⟨by kernel_rfl,?_⟩)
 (repeat (first|apply Wp.skip|apply Wp.exit|apply Wp.ret|apply Wp.block|apply Wp.label|((first|refine Wp.sreg (fun K hK=>?_)|refine Wp.reg (fun K hK=>?_)|refine Wp.sdrw aA (fun K hK=>?_)|refine Wp.drw aA (fun K hK=>?_)|refine Wp.condG (fun K hK hF=>?_));(repeat (revert hK;intro hK;simp (maxSteps:=2000000) (disch:=omega) only[bF,TY,aL,bQ,cD,SV.ofD,bW,cF,bX,cQ,cL,CV.exact,CV.one,D.one,Value.oneCell',CV.toD0,cC,reduceCtorEq,Nat.reduceBEq,Nat.reduceAdd,Nat.reduceMul,Nat.reduceLT,Nat.reduceLeDiff,Int.reduceLE,Int.reduceLT,Int.reduceBNe,Int.reduceAdd,Int.reduceToNat,iZ];(first|(refine hK _ ?_;clear hK K)|(refine⟨by kernel_rfl,hK _ ?_⟩;clear hK K)|(refine hK ?_;clear hK hF K)|(refine hF ?_;clear hK hF K)|refine aQ (by assumption) ?_|refine gJ (by assumption) ?_)));fail_if_success (revert hK;intro hK))|apply Wp.seq))
 (first|refine Wp.sregM aA ?_|refine Wp.regM aA ?_|(refine Wp.seq ?_;first|refine Wp.sregM aA ?_|refine Wp.regM aA ?_))
 (refine jX.at 4 (fun K hK=>?_);simp (maxSteps:=2000000) (disch:=omega) only[bF,TY,aL,bQ,bW,bX,cQ,cC,Nat.reduceBEq,Nat.reduceAdd,Nat.reduceLT,iZ];refine hK _ _ ?_;clear hK K)
 (refine jX.callR (e1) [(0,3),(1,4),(2,20)] 40 rfl rfl ?_ ?_;(focus (simp (maxSteps:=2000000) (disch:=omega) only[bF,aL,reduceCtorEq,Nat.reduceBEq,Nat.reduceEqDiff,Nat.reduceLT,iN,wF,lR,fX,iP,SV.ren,CV.ren,nI,cR,jN,lF,Cap.ren];done)))
 (refine jX.done (fun K hK=>?_);simp (maxSteps:=2000000) (disch:=omega) only[bF,TY,aL,bQ,SV.ofD,cF,bX,cL,CV.exact,CV.one,D.one,reduceCtorEq,Nat.reduceBEq,Nat.reduceAdd,Nat.reduceMul,Nat.reduceLT,Nat.reduceLeDiff,Int.reduceLE,Int.reduceToNat,SV.ren,CV.ren,pT];refine hK _ _ ?_;clear hK K;refine⟨by kernel_rfl,?_⟩)
 (repeat (first|apply Wp.skip|apply Wp.exit|apply Wp.ret|apply Wp.block|apply Wp.label|((first|refine Wp.sreg (fun K hK=>?_)|refine Wp.reg (fun K hK=>?_)|refine Wp.sdrw aA (fun K hK=>?_)|refine Wp.drw aA (fun K hK=>?_)|refine Wp.condG (fun K hK hF=>?_));(repeat (revert hK;intro hK;simp (maxSteps:=2000000) (disch:=omega) only[bF,TY,aL,bQ,cD,SV.ofD,bW,cF,bX,cQ,cL,CV.exact,CV.one,D.one,Value.oneCell',CV.toD0,cC,reduceCtorEq,Nat.reduceBEq,Nat.reduceAdd,Nat.reduceMul,Nat.reduceLT,Nat.reduceLeDiff,Int.reduceLE,Int.reduceLT,Int.reduceBNe,Int.reduceAdd,Int.reduceToNat,iZ];(first|(refine hK _ ?_;clear hK K)|(refine⟨by kernel_rfl,hK _ ?_⟩;clear hK K)|(refine hK ?_;clear hK hF K)|(refine hF ?_;clear hK hF K)|refine aQ (by assumption) ?_|refine gJ (by assumption) ?_)));fail_if_success (revert hK;intro hK))|apply Wp.seq))
 (first|refine Wp.sregM aA ?_|refine Wp.regM aA ?_|(refine Wp.seq ?_;first|refine Wp.sregM aA ?_|refine Wp.regM aA ?_))
 (refine jX.at 4 (fun K hK=>?_);simp (maxSteps:=2000000) (disch:=omega) only[bF,TY,aL,bQ,bW,bX,cQ,cC,Nat.reduceBEq,Nat.reduceAdd,Nat.reduceLT,iZ];refine hK _ _ ?_;clear hK K)
 (refine jX.callR (e2) [(0,3),(1,4),(2,40)] 60 rfl rfl ?_ ?_;(focus (simp (maxSteps:=2000000) (disch:=omega) only[bF,aL,reduceCtorEq,Nat.reduceBEq,Nat.reduceEqDiff,Nat.reduceLT,iN,wF,lR,fX,iP,SV.ren,CV.ren,nI,cR,jN,Cap.ren];done)))
 (refine jX.done (fun K hK=>?_);simp (maxSteps:=2000000) (disch:=omega) only[bF,TY,aL,bQ,SV.ofD,cF,bX,cL,CV.exact,CV.one,D.one,reduceCtorEq,Nat.reduceBEq,Nat.reduceAdd,Nat.reduceMul,Nat.reduceLT,Nat.reduceLeDiff,Int.reduceLE,Int.reduceToNat,SV.ren,CV.ren];refine hK _ _ ?_;clear hK K;refine⟨by kernel_rfl,?_⟩)
 (refine gO (b2) ?_;try with_reducible exact tt)
 (refine aK ?_;try with_reducible exact tt)
 exact⟨_,rfl,jA.tup (.cons aHn (.cons (.refl _) .nil))⟩
theorem aJh (i:ImgD) (ha:AllOk i) (hc:aS i=true) (h0:oA i.p0=0) (h1:oA i.p1=0) (h2:oA i.p2=0) (jx:ImgD) (hR:FunG Tryz.prog 56 [.c (.own 5 16),.c (.d (lI (aZ i.p0) (aZ i.p1) (aZ i.p2)))] [5] (bJ [(5,.cells ((kP i).dv.map .d))]) (.c (.d (dC false))) [5] (bJ [(5,.cells (jx.dv.map .d))])):∃ x,aJ Tryz.prog 26 [.agg i.dv] (.tup [.agg iz.dv,kL x 2]):=by
 refine⟨aVo,?_⟩
 have cP:=cG i ha.s
 have cS:=mG i.m ha.s.m
 have hp:=fun q=>dA (bI hc q)
 have cb0:=fI i.p0 ha.s.p0
 have cb1:=fI i.p1 ha.s.p1
 have cb2:=fI i.p2 ha.s.p2
 rw[hc,if_pos rfl] at cP
 rw[fO (p:=i.p0) (hp 0) (ha.r.p 0)] at cb0
 rw[fO (p:=i.p1) (hp 1) (ha.r.p 1)] at cb1
 rw[fO (p:=i.p2) (hp 2) (ha.r.p 2)] at cb2
 have f0:(aZ i.p0).Fits:=dX (hp 0)
 have f1:(aZ i.p1).Fits:=dX (hp 1)
 have f2:(aZ i.p2).Fits:=dX (hp 2)
 have e0:=dY (aZ i.p0) lF lF 0 (by omega) ⟨f0,eB,eB⟩ i.p0 ha.b0 rfl 0 rfl
 have e1:=dY (aZ i.p0) (aZ i.p1) lF 1 (by omega) ⟨f0,f1,eB⟩ i.p1 ha.b1 rfl 1 rfl
 have e2:=dY (aZ i.p0) (aZ i.p1) (aZ i.p2) 2 (by omega) ⟨f0,f1,f2⟩ i.p2 ha.b2 rfl 2 rfl
 simp only[ImgD.dv,PartD.dv,StateD.dv,CoordD.dv,GrpD.dv,TabD.dv,iL,List.cons_append,List.nil_append] at cP cS cb0 cb1 cb2
 rw[h0,if_pos rfl] at e0
 rw[h1,if_pos rfl] at e1
 rw[h2,if_pos rfl] at e2
 (refine aJ.of_bodyW Tryz.func26 rfl rfl Tryz.ntmps26 Tryz.results26 (by simp) ?_)
 (repeat (first|apply Wp.skip|apply Wp.exit|apply Wp.ret|apply Wp.block|apply Wp.label|((first|refine Wp.sreg (fun K hK=>?_)|refine Wp.reg (fun K hK=>?_)|refine Wp.sdrw aA (fun K hK=>?_)|refine Wp.drw aA (fun K hK=>?_)|refine Wp.condG (fun K hK hF=>?_));(repeat (revert hK;intro hK;simp (maxSteps:=2000000) (disch:=omega) only[bF,TY,aL,bQ,cD,SV.ofD,bW,cF,bX,cQ,CV.one,D.one,Value.oneCell',CV.toD0,cC,reduceCtorEq,Nat.reduceBEq,Nat.reduceAdd,Nat.reduceLT,Nat.reduceLeDiff,Int.reduceBNe,ImgD.dv,PartD.dv,StateD.dv,CoordD.dv,GrpD.dv,iZ,gA];(first|(refine hK _ ?_;clear hK K)|(refine⟨by kernel_rfl,hK _ ?_⟩;clear hK K)|(refine hK ?_;clear hK hF K)|(refine hF ?_;clear hK hF K)|refine aQ (by assumption) ?_|refine gJ (by assumption) ?_)));fail_if_success (revert hK;intro hK))|apply Wp.seq))
 refine Wp.weak (aD.cellAt (id:=3) (k:=2) (cs:=[.d (int 0),.d (int 0),.d bU,.d (int 0),.d (int 0),.d bU,.d (int 0),.d (int 0),.d bU]) (y:=.d (.lst 1 [])) (by (refine aK ?_;try with_reducible exact tt)) rfl (fun g v h=>jA.nil 1 _ _ h)) ?_
 refine Wp.weak (aD.cellAt (id:=3) (k:=5) (cs:=[.d (int 0),.d (int 0),.d (.lst 1 []),.d (int 0),.d (int 0),.d bU,.d (int 0),.d (int 0),.d bU]) (y:=.d (.lst 1 [])) (by (refine rO (ai @List.set_cons_succ.{0} (@List.set_cons_zero.{0})) ?_;try with_reducible exact tt)) rfl (fun g v h=>jA.nil 1 _ _ h)) ?_
 refine Wp.weak (aD.cellAt (id:=3) (k:=8) (cs:=[.d (int 0),.d (int 0),.d (.lst 1 []),.d (int 0),.d (int 0),.d (.lst 1 []),.d (int 0),.d (int 0),.d bU]) (y:=.d (.lst 1 [])) (by (refine rO (ai @List.set_cons_succ.{0} (@List.set_cons_zero.{0})) ?_;try with_reducible exact tt)) rfl (fun g v h=>jA.nil 1 _ _ h)) ?_
 refine Wp.rounds 4 (aN.go ?_)
 (repeat (first|apply Wp.skip|apply Wp.exit|apply Wp.ret|apply Wp.block|apply Wp.label|((first|refine Wp.sreg (fun K hK=>?_)|refine Wp.reg (fun K hK=>?_)|refine Wp.sdrw aA (fun K hK=>?_)|refine Wp.drw aA (fun K hK=>?_)|refine Wp.condG (fun K hK hF=>?_));(repeat (revert hK;intro hK;simp (maxSteps:=2000000) (disch:=omega) only[bF,TY,aL,bQ,cD,SV.ofD,bW,cF,bX,cQ,cL,CV.exact,CV.one,D.one,Value.oneCell',CV.toD0,cC,reduceCtorEq,Nat.reduceBEq,Nat.reduceAdd,Nat.reduceMul,Nat.reduceLT,Nat.reduceLeDiff,Int.reduceLE,Int.reduceLT,Int.reduceBNe,Int.reduceToNat,iZ,List.set_cons_succ,List.set_cons_zero];(first|(refine hK _ ?_;clear hK K)|(refine⟨by kernel_rfl,hK _ ?_⟩;clear hK K)|(refine hK ?_;clear hK hF K)|(refine hF ?_;clear hK hF K)|refine aQ (by assumption) ?_|refine gJ (by assumption) ?_)));fail_if_success (revert hK;intro hK))|apply Wp.seq))
 (first|refine Wp.sregM aA ?_|refine Wp.regM aA ?_|(refine Wp.seq ?_;first|refine Wp.sregM aA ?_|refine Wp.regM aA ?_))
 (refine jX.at 4 (fun K hK=>?_);simp (maxSteps:=2000000) (disch:=omega) only[bF,TY,aL,bQ,bW,bX,cQ,cC,Nat.reduceBEq,Nat.reduceAdd,Nat.reduceLT,iZ];refine hK _ _ ?_;clear hK K)
 (refine jX.callR (e0) [(0,3),(1,4),(2,5)] 20 rfl rfl ?_ ?_;(focus (simp (maxSteps:=2000000) (disch:=omega) only[bF,aL,reduceCtorEq,Nat.reduceBEq,Nat.reduceEqDiff,Nat.reduceLT,iN,wF,lR,fX,iP,SV.ren,CV.ren,nI,cR,jN,lF,Cap.ren];done)))
 (refine jX.done (fun K hK=>?_);simp (maxSteps:=2000000) (disch:=omega) only[bF,TY,aL,bQ,SV.ofD,cF,bX,cL,CV.exact,CV.one,D.one,reduceCtorEq,Nat.reduceBEq,Nat.reduceAdd,Nat.reduceMul,Nat.reduceLT,Nat.reduceLeDiff,Int.reduceLE,Int.reduceToNat,SV.ren,CV.ren,pT];refine hK _ _ ?_;clear hK K;refine⟨by kernel_rfl,?_⟩)
 (repeat (first|apply Wp.skip|apply Wp.exit|apply Wp.ret|apply Wp.block|apply Wp.label|((first|refine Wp.sreg (fun K hK=>?_)|refine Wp.reg (fun K hK=>?_)|refine Wp.sdrw aA (fun K hK=>?_)|refine Wp.drw aA (fun K hK=>?_)|refine Wp.condG (fun K hK hF=>?_));(repeat (revert hK;intro hK;simp (maxSteps:=2000000) (disch:=omega) only[bF,TY,aL,bQ,cD,SV.ofD,bW,cF,bX,cQ,cL,CV.exact,CV.one,D.one,Value.oneCell',CV.toD0,cC,reduceCtorEq,Nat.reduceBEq,Nat.reduceAdd,Nat.reduceMul,Nat.reduceLT,Nat.reduceLeDiff,Int.reduceLE,Int.reduceLT,Int.reduceBNe,Int.reduceAdd,Int.reduceToNat,iZ];(first|(refine hK _ ?_;clear hK K)|(refine⟨by kernel_rfl,hK _ ?_⟩;clear hK K)|(refine hK ?_;clear hK hF K)|(refine hF ?_;clear hK hF K)|refine aQ (by assumption) ?_|refine gJ (by assumption) ?_)));fail_if_success (revert hK;intro hK))|apply Wp.seq))
 (first|refine Wp.sregM aA ?_|refine Wp.regM aA ?_|(refine Wp.seq ?_;first|refine Wp.sregM aA ?_|refine Wp.regM aA ?_))
 (refine jX.at 4 (fun K hK=>?_);simp (maxSteps:=2000000) (disch:=omega) only[bF,TY,aL,bQ,bW,bX,cQ,cC,Nat.reduceBEq,Nat.reduceAdd,Nat.reduceLT,iZ];refine hK _ _ ?_;clear hK K)
 (refine jX.callR (e1) [(0,3),(1,4),(2,20)] 40 rfl rfl ?_ ?_;(focus (simp (maxSteps:=2000000) (disch:=omega) only[bF,aL,reduceCtorEq,Nat.reduceBEq,Nat.reduceEqDiff,Nat.reduceLT,iN,wF,lR,fX,iP,SV.ren,CV.ren,nI,cR,jN,lF,Cap.ren];done)))
 (refine jX.done (fun K hK=>?_);simp (maxSteps:=2000000) (disch:=omega) only[bF,TY,aL,bQ,SV.ofD,cF,bX,cL,CV.exact,CV.one,D.one,reduceCtorEq,Nat.reduceBEq,Nat.reduceAdd,Nat.reduceMul,Nat.reduceLT,Nat.reduceLeDiff,Int.reduceLE,Int.reduceToNat,SV.ren,CV.ren,pT];refine hK _ _ ?_;clear hK K;refine⟨by kernel_rfl,?_⟩)
 (repeat (first|apply Wp.skip|apply Wp.exit|apply Wp.ret|apply Wp.block|apply Wp.label|((first|refine Wp.sreg (fun K hK=>?_)|refine Wp.reg (fun K hK=>?_)|refine Wp.sdrw aA (fun K hK=>?_)|refine Wp.drw aA (fun K hK=>?_)|refine Wp.condG (fun K hK hF=>?_));(repeat (revert hK;intro hK;simp (maxSteps:=2000000) (disch:=omega) only[bF,TY,aL,bQ,cD,SV.ofD,bW,cF,bX,cQ,cL,CV.exact,CV.one,D.one,Value.oneCell',CV.toD0,cC,reduceCtorEq,Nat.reduceBEq,Nat.reduceAdd,Nat.reduceMul,Nat.reduceLT,Nat.reduceLeDiff,Int.reduceLE,Int.reduceLT,Int.reduceBNe,Int.reduceAdd,Int.reduceToNat,iZ];(first|(refine hK _ ?_;clear hK K)|(refine⟨by kernel_rfl,hK _ ?_⟩;clear hK K)|(refine hK ?_;clear hK hF K)|(refine hF ?_;clear hK hF K)|refine aQ (by assumption) ?_|refine gJ (by assumption) ?_)));fail_if_success (revert hK;intro hK))|apply Wp.seq))
 (first|refine Wp.sregM aA ?_|refine Wp.regM aA ?_|(refine Wp.seq ?_;first|refine Wp.sregM aA ?_|refine Wp.regM aA ?_))
 (refine jX.at 4 (fun K hK=>?_);simp (maxSteps:=2000000) (disch:=omega) only[bF,TY,aL,bQ,bW,bX,cQ,cC,Nat.reduceBEq,Nat.reduceAdd,Nat.reduceLT,iZ];refine hK _ _ ?_;clear hK K)
 (refine jX.callR (e2) [(0,3),(1,4),(2,40)] 60 rfl rfl ?_ ?_;(focus (simp (maxSteps:=2000000) (disch:=omega) only[bF,aL,reduceCtorEq,Nat.reduceBEq,Nat.reduceEqDiff,Nat.reduceLT,iN,wF,lR,fX,iP,SV.ren,CV.ren,nI,cR,jN,Cap.ren];done)))
 (refine jX.done (fun K hK=>?_);simp (maxSteps:=2000000) (disch:=omega) only[bF,TY,aL,bQ,SV.ofD,cF,bX,cL,CV.exact,CV.one,D.one,reduceCtorEq,Nat.reduceBEq,Nat.reduceAdd,Nat.reduceMul,Nat.reduceLT,Nat.reduceLeDiff,Int.reduceLE,Int.reduceToNat,SV.ren,CV.ren,pT];refine hK _ _ ?_;clear hK K;refine⟨by kernel_rfl,?_⟩)
 (refine gO (ai @List.set_cons_succ.{0} (@List.set_cons_zero.{0})) ?_;try with_reducible exact tt)
 refine Wp.weak (aD.freeze (id:=3) (cs:=jN (aZ i.p0) (aZ i.p1) (aZ i.p2)) (ds:=qN (aZ i.p0) (aZ i.p1) (aZ i.p2)) (by simp (maxSteps:=2000000) (disch:=omega) only[bF,Nat.reduceBEq,jN]) rfl) ?_
 refine Wp.weak (aD.cellAtH (id:=4) (k:=0) (cs:=[.clo (.func 49) [.own 3 0]]) (y:=.d (lI (aZ i.p0) (aZ i.p1) (aZ i.p2))) (by (refine aK ?_;try with_reducible exact tt)) rfl (fun F K0 g w v hm r=>aGr hm (by (refine aK ?_;try with_reducible exact tt)) r)) ?_
 ((first|refine Wp.sregG ?_|refine Wp.regG ?_|(refine Wp.seq ?_;first|refine Wp.sregG ?_|refine Wp.regG ?_));refine cU.at 2 (fun K hK=>?_);simp (maxSteps:=2000000) (disch:=omega) only[bF,TY,aL,bQ,bW,bX,reduceCtorEq,Nat.reduceBEq,Nat.reduceAdd,Nat.reduceLT,gA,qN,List.set_cons_zero];refine hK _ ?_;clear hK K;refine cU.call (hR) [(5,2)] 80 rfl rfl ?_ ?_;(focus (simp (maxSteps:=2000000) (disch:=omega) only[bF,aL,reduceCtorEq,Nat.reduceBEq,Nat.reduceEqDiff,Nat.reduceLT,iN,wF,lR,fX,iP,SV.ren,CV.ren,HE.ren,cR,kP,pT,ImgD.dv,PartD.dv,StateD.dv,CoordD.dv,GrpD.dv];done));refine cU.done (fun K hK=>?_);simp (maxSteps:=2000000) (disch:=omega) only[bF,aL,bQ,CV.exact,Nat.reduceEqDiff,Nat.reduceAdd,Nat.reduceLT,jR,iP,SV.ren,CV.ren,HE.ren,ImgD.dv,PartD.dv,StateD.dv,CoordD.dv,GrpD.dv];refine hK _ ?_;clear hK K)
 (refine aI ?_;try with_reducible exact tt)
 (refine aK ?_;try with_reducible exact tt)
 exact⟨_,rfl,jA.tup (.cons aHn (.cons (.refl _) .nil))⟩
theorem aJi (i:ImgD) (ha:AllOk i) (hc:aS i=true) (h0:oA i.p0=0) (h1:oA i.p1=0) (h2:oA i.p2=0) (jx:ImgD) (hR:FunG Tryz.prog 56 [.c (.own 5 16),.c (.d (lI (aZ i.p0) (aZ i.p1) (aZ i.p2)))] [5] (bJ [(5,.cells ((kP i).dv.map .d))]) (.c (.d (dC true))) [5] (bJ [(5,.cells (jx.dv.map .d))])):aJ Tryz.prog 26 [.agg i.dv] (.tup [.agg jx.dv,.val .nilIface]):=by
 have cP:=cG i ha.s
 have cS:=mG i.m ha.s.m
 have hp:=fun q=>dA (bI hc q)
 have cb0:=fI i.p0 ha.s.p0
 have cb1:=fI i.p1 ha.s.p1
 have cb2:=fI i.p2 ha.s.p2
 rw[hc,if_pos rfl] at cP
 rw[fO (p:=i.p0) (hp 0) (ha.r.p 0)] at cb0
 rw[fO (p:=i.p1) (hp 1) (ha.r.p 1)] at cb1
 rw[fO (p:=i.p2) (hp 2) (ha.r.p 2)] at cb2
 have f0:(aZ i.p0).Fits:=dX (hp 0)
 have f1:(aZ i.p1).Fits:=dX (hp 1)
 have f2:(aZ i.p2).Fits:=dX (hp 2)
 have e0:=dY (aZ i.p0) lF lF 0 (by omega) ⟨f0,eB,eB⟩ i.p0 ha.b0 rfl 0 rfl
 have e1:=dY (aZ i.p0) (aZ i.p1) lF 1 (by omega) ⟨f0,f1,eB⟩ i.p1 ha.b1 rfl 1 rfl
 have e2:=dY (aZ i.p0) (aZ i.p1) (aZ i.p2) 2 (by omega) ⟨f0,f1,f2⟩ i.p2 ha.b2 rfl 2 rfl
 simp only[ImgD.dv,PartD.dv,StateD.dv,CoordD.dv,GrpD.dv,TabD.dv,iL,List.cons_append,List.nil_append] at cP cS cb0 cb1 cb2
 rw[h0,if_pos rfl] at e0
 rw[h1,if_pos rfl] at e1
 rw[h2,if_pos rfl] at e2
 (refine aJ.of_bodyW Tryz.func26 rfl rfl Tryz.ntmps26 Tryz.results26 (by simp) ?_)
 (repeat (first|apply Wp.skip|apply Wp.exit|apply Wp.ret|apply Wp.block|apply Wp.label|((first|refine Wp.sreg (fun K hK=>?_)|refine Wp.reg (fun K hK=>?_)|refine Wp.sdrw aA (fun K hK=>?_)|refine Wp.drw aA (fun K hK=>?_)|refine Wp.condG (fun K hK hF=>?_));(repeat (revert hK;intro hK;simp (maxSteps:=2000000) (disch:=omega) only[bF,TY,aL,bQ,cD,SV.ofD,bW,cF,bX,cQ,CV.one,D.one,Value.oneCell',CV.toD0,cC,reduceCtorEq,Nat.reduceBEq,Nat.reduceAdd,Nat.reduceLT,Nat.reduceLeDiff,Int.reduceBNe,ImgD.dv,PartD.dv,StateD.dv,CoordD.dv,GrpD.dv,iZ,gA];(first|(refine hK _ ?_;clear hK K)|(refine⟨by kernel_rfl,hK _ ?_⟩;clear hK K)|(refine hK ?_;clear hK hF K)|(refine hF ?_;clear hK hF K)|refine aQ (by assumption) ?_|refine gJ (by assumption) ?_)));fail_if_success (revert hK;intro hK))|apply Wp.seq))
 refine Wp.weak (aD.cellAt (id:=3) (k:=2) (cs:=[.d (int 0),.d (int 0),.d bU,.d (int 0),.d (int 0),.d bU,.d (int 0),.d (int 0),.d bU]) (y:=.d (.lst 1 [])) (by (refine aK ?_;try with_reducible exact tt)) rfl (fun g v h=>jA.nil 1 _ _ h)) ?_
 refine Wp.weak (aD.cellAt (id:=3) (k:=5) (cs:=[.d (int 0),.d (int 0),.d (.lst 1 []),.d (int 0),.d (int 0),.d bU,.d (int 0),.d (int 0),.d bU]) (y:=.d (.lst 1 [])) (by (refine rO (ai @List.set_cons_succ.{0} (@List.set_cons_zero.{0})) ?_;try with_reducible exact tt)) rfl (fun g v h=>jA.nil 1 _ _ h)) ?_
 refine Wp.weak (aD.cellAt (id:=3) (k:=8) (cs:=[.d (int 0),.d (int 0),.d (.lst 1 []),.d (int 0),.d (int 0),.d (.lst 1 []),.d (int 0),.d (int 0),.d bU]) (y:=.d (.lst 1 [])) (by (refine rO (ai @List.set_cons_succ.{0} (@List.set_cons_zero.{0})) ?_;try with_reducible exact tt)) rfl (fun g v h=>jA.nil 1 _ _ h)) ?_
 refine Wp.rounds 4 (aN.go ?_)
 (repeat (first|apply Wp.skip|apply Wp.exit|apply Wp.ret|apply Wp.block|apply Wp.label|((first|refine Wp.sreg (fun K hK=>?_)|refine Wp.reg (fun K hK=>?_)|refine Wp.sdrw aA (fun K hK=>?_)|refine Wp.drw aA (fun K hK=>?_)|refine Wp.condG (fun K hK hF=>?_));(repeat (revert hK;intro hK;simp (maxSteps:=2000000) (disch:=omega) only[bF,TY,aL,bQ,cD,SV.ofD,bW,cF,bX,cQ,cL,CV.exact,CV.one,D.one,Value.oneCell',CV.toD0,cC,reduceCtorEq,Nat.reduceBEq,Nat.reduceAdd,Nat.reduceMul,Nat.reduceLT,Nat.reduceLeDiff,Int.reduceLE,Int.reduceLT,Int.reduceBNe,Int.reduceToNat,iZ,List.set_cons_succ,List.set_cons_zero];(first|(refine hK _ ?_;clear hK K)|(refine⟨by kernel_rfl,hK _ ?_⟩;clear hK K)|(refine hK ?_;clear hK hF K)|(refine hF ?_;clear hK hF K)|refine aQ (by assumption) ?_|refine gJ (by assumption) ?_)));fail_if_success (revert hK;intro hK))|apply Wp.seq))
 (first|refine Wp.sregM aA ?_|refine Wp.regM aA ?_|(refine Wp.seq ?_;first|refine Wp.sregM aA ?_|refine Wp.regM aA ?_))
 (refine jX.at 4 (fun K hK=>?_);simp (maxSteps:=2000000) (disch:=omega) only[bF,TY,aL,bQ,bW,bX,cQ,cC,Nat.reduceBEq,Nat.reduceAdd,Nat.reduceLT,iZ];refine hK _ _ ?_;clear hK K)
 (refine jX.callR (e0) [(0,3),(1,4),(2,5)] 20 rfl rfl ?_ ?_;(focus (simp (maxSteps:=2000000) (disch:=omega) only[bF,aL,reduceCtorEq,Nat.reduceBEq,Nat.reduceEqDiff,Nat.reduceLT,iN,wF,lR,fX,iP,SV.ren,CV.ren,nI,cR,jN,lF,Cap.ren];done)))
 (refine jX.done (fun K hK=>?_);simp (maxSteps:=2000000) (disch:=omega) only[bF,TY,aL,bQ,SV.ofD,cF,bX,cL,CV.exact,CV.one,D.one,reduceCtorEq,Nat.reduceBEq,Nat.reduceAdd,Nat.reduceMul,Nat.reduceLT,Nat.reduceLeDiff,Int.reduceLE,Int.reduceToNat,SV.ren,CV.ren,pT];refine hK _ _ ?_;clear hK K;refine⟨by kernel_rfl,?_⟩)
 (repeat (first|apply Wp.skip|apply Wp.exit|apply Wp.ret|apply Wp.block|apply Wp.label|((first|refine Wp.sreg (fun K hK=>?_)|refine Wp.reg (fun K hK=>?_)|refine Wp.sdrw aA (fun K hK=>?_)|refine Wp.drw aA (fun K hK=>?_)|refine Wp.condG (fun K hK hF=>?_));(repeat (revert hK;intro hK;simp (maxSteps:=2000000) (disch:=omega) only[bF,TY,aL,bQ,cD,SV.ofD,bW,cF,bX,cQ,cL,CV.exact,CV.one,D.one,Value.oneCell',CV.toD0,cC,reduceCtorEq,Nat.reduceBEq,Nat.reduceAdd,Nat.reduceMul,Nat.reduceLT,Nat.reduceLeDiff,Int.reduceLE,Int.reduceLT,Int.reduceBNe,Int.reduceAdd,Int.reduceToNat,iZ];(first|(refine hK _ ?_;clear hK K)|(refine⟨by kernel_rfl,hK _ ?_⟩;clear hK K)|(refine hK ?_;clear hK hF K)|(refine hF ?_;clear hK hF K)|refine aQ (by assumption) ?_|refine gJ (by assumption) ?_)));fail_if_success (revert hK;intro hK))|apply Wp.seq))
 (first|refine Wp.sregM aA ?_|refine Wp.regM aA ?_|(refine Wp.seq ?_;first|refine Wp.sregM aA ?_|refine Wp.regM aA ?_))
 (refine jX.at 4 (fun K hK=>?_);simp (maxSteps:=2000000) (disch:=omega) only[bF,TY,aL,bQ,bW,bX,cQ,cC,Nat.reduceBEq,Nat.reduceAdd,Nat.reduceLT,iZ];refine hK _ _ ?_;clear hK K)
 (refine jX.callR (e1) [(0,3),(1,4),(2,20)] 40 rfl rfl ?_ ?_;(focus (simp (maxSteps:=2000000) (disch:=omega) only[bF,aL,reduceCtorEq,Nat.reduceBEq,Nat.reduceEqDiff,Nat.reduceLT,iN,wF,lR,fX,iP,SV.ren,CV.ren,nI,cR,jN,lF,Cap.ren];done)))
 (refine jX.done (fun K hK=>?_);simp (maxSteps:=2000000) (disch:=omega) only[bF,TY,aL,bQ,SV.ofD,cF,bX,cL,CV.exact,CV.one,D.one,reduceCtorEq,Nat.reduceBEq,Nat.reduceAdd,Nat.reduceMul,Nat.reduceLT,Nat.reduceLeDiff,Int.reduceLE,Int.reduceToNat,SV.ren,CV.ren,pT];refine hK _ _ ?_;clear hK K;refine⟨by kernel_rfl,?_⟩)
 (repeat (first|apply Wp.skip|apply Wp.exit|apply Wp.ret|apply Wp.block|apply Wp.label|((first|refine Wp.sreg (fun K hK=>?_)|refine Wp.reg (fun K hK=>?_)|refine Wp.sdrw aA (fun K hK=>?_)|refine Wp.drw aA (fun K hK=>?_)|refine Wp.condG (fun K hK hF=>?_));(repeat (revert hK;intro hK;simp (maxSteps:=2000000) (disch:=omega) only[bF,TY,aL,bQ,cD,SV.ofD,bW,cF,bX,cQ,cL,CV.exact,CV.one,D.one,Value.oneCell',CV.toD0,cC,reduceCtorEq,Nat.reduceBEq,Nat.reduceAdd,Nat.reduceMul,Nat.reduceLT,Nat.reduceLeDiff,Int.reduceLE,Int.reduceLT,Int.reduceBNe,Int.reduceAdd,Int.reduceToNat,iZ];(first|(refine hK _ ?_;clear hK K)|(refine⟨by kernel_rfl,hK _ ?_⟩;clear hK K)|(refine hK ?_;clear hK hF K)|(refine hF ?_;clear hK hF K)|refine aQ (by assumption) ?_|refine gJ (by assumption) ?_)));fail_if_success (revert hK;intro hK))|apply Wp.seq))
 (first|refine Wp.sregM aA ?_|refine Wp.regM aA ?_|(refine Wp.seq ?_;first|refine Wp.sregM aA ?_|refine Wp.regM aA ?_))
 (refine jX.at 4 (fun K hK=>?_);simp (maxSteps:=2000000) (disch:=omega) only[bF,TY,aL,bQ,bW,bX,cQ,cC,Nat.reduceBEq,Nat.reduceAdd,Nat.reduceLT,iZ];refine hK _ _ ?_;clear hK K)
 (refine jX.callR (e2) [(0,3),(1,4),(2,40)] 60 rfl rfl ?_ ?_;(focus (simp (maxSteps:=2000000) (disch:=omega) only[bF,aL,reduceCtorEq,Nat.reduceBEq,Nat.reduceEqDiff,Nat.reduceLT,iN,wF,lR,fX,iP,SV.ren,CV.ren,nI,cR,jN,Cap.ren];done)))
 (refine jX.done (fun K hK=>?_);simp (maxSteps:=2000000) (disch:=omega) only[bF,TY,aL,bQ,SV.ofD,cF,bX,cL,CV.exact,CV.one,D.one,reduceCtorEq,Nat.reduceBEq,Nat.reduceAdd,Nat.reduceMul,Nat.reduceLT,Nat.reduceLeDiff,Int.reduceLE,Int.reduceToNat,SV.ren,CV.ren,pT];refine hK _ _ ?_;clear hK K;refine⟨by kernel_rfl,?_⟩)
 (refine gO (ai @List.set_cons_succ.{0} (@List.set_cons_zero.{0})) ?_;try with_reducible exact tt)
 refine Wp.weak (aD.freeze (id:=3) (cs:=jN (aZ i.p0) (aZ i.p1) (aZ i.p2)) (ds:=qN (aZ i.p0) (aZ i.p1) (aZ i.p2)) (by simp (maxSteps:=2000000) (disch:=omega) only[bF,Nat.reduceBEq,jN]) rfl) ?_
 refine Wp.weak (aD.cellAtH (id:=4) (k:=0) (cs:=[.clo (.func 49) [.own 3 0]]) (y:=.d (lI (aZ i.p0) (aZ i.p1) (aZ i.p2))) (by (refine aK ?_;try with_reducible exact tt)) rfl (fun F K0 g w v hm r=>aGr hm (by (refine aK ?_;try with_reducible exact tt)) r)) ?_
 ((first|refine Wp.sregG ?_|refine Wp.regG ?_|(refine Wp.seq ?_;first|refine Wp.sregG ?_|refine Wp.regG ?_));refine cU.at 2 (fun K hK=>?_);simp (maxSteps:=2000000) (disch:=omega) only[bF,TY,aL,bQ,bW,bX,reduceCtorEq,Nat.reduceBEq,Nat.reduceAdd,Nat.reduceLT,gA,qN,List.set_cons_zero];refine hK _ ?_;clear hK K;refine cU.call (hR) [(5,2)] 80 rfl rfl ?_ ?_;(focus (simp (maxSteps:=2000000) (disch:=omega) only[bF,aL,reduceCtorEq,Nat.reduceBEq,Nat.reduceEqDiff,Nat.reduceLT,iN,wF,lR,fX,iP,SV.ren,CV.ren,HE.ren,cR,kP,pT,ImgD.dv,PartD.dv,StateD.dv,CoordD.dv,GrpD.dv];done));refine cU.done (fun K hK=>?_);simp (maxSteps:=2000000) (disch:=omega) only[bF,aL,bQ,CV.exact,Nat.reduceEqDiff,Nat.reduceAdd,Nat.reduceLT,jR,iP,SV.ren,CV.ren,HE.ren,ImgD.dv,PartD.dv,StateD.dv,CoordD.dv,GrpD.dv];refine hK _ ?_;clear hK K)
 (refine gO (ai @ImgD.dv.eq_1 (ai @PartD.dv.eq_1 (ai @StateD.dv.eq_1 (ai @CoordD.dv.eq_1 (ai @GrpD.dv.eq_1 (ai @List.map_append.{0,0} (ai @List.map_cons.{0,0} (ai @List.map_nil.{0,0} (ai @List.cons_append.{0} (@List.nil_append.{0})))))))))) ?_;try with_reducible exact tt)
 (refine rO (ai @ImgD.dv.eq_1 (ai @PartD.dv.eq_1 (ai @StateD.dv.eq_1 (ai @CoordD.dv.eq_1 (ai @GrpD.dv.eq_1 (ai @List.map_append.{0,0} (ai @List.map_cons.{0,0} (ai @List.map_nil.{0,0} (ai @List.cons_append.{0} (@List.nil_append.{0})))))))))) ?_;try with_reducible exact tt)
 exact⟨_,rfl,fun K v h=>h⟩
end Go.Proofs.YtkmfmphpndhkjaaGreatDoor
