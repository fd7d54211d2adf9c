/- Package image: rebase. -/
import Derived.Test.YtkmfmphpndhkjaaGreatDoorBaE
import Derived.Test.YtkmfmphpndhkjaaGreatDoorPnM
namespace Go.Proofs.YtkmfmphpndhkjaaGreatDoor
open Go Go.RowKit
set_option maxHeartbeats 16000000
set_option maxRecDepth 100000
set_option linter.unusedVariables false
set_option linter.unusedSimpArgs false
def iO (t0 t1 t2:TabD) (c:CoordD):CoordD:={ c with pends:=c.pends.map fun x=>(yT t0 t1 t2 x).1 }
def iW (t0 t1 t2:TabD) (c:CoordD):Int:=nC (yT t0 t1 t2) c.pends
structure PendsOk (c:CoordD):Prop where
 len:c.pends.length≤100000
 part:∀ x ∈ c.pends,0≤x.part∧x.part≤2
 off:∀ x ∈ c.pends,aG1 x.off
structure MetaOk (m:StateD):Prop where
 c0:PendsOk m.c0
 c1:PendsOk m.c1
 c2:PendsOk m.c2
 gr:∀ n ∈ m.gr.ls,aG1 n
theorem cN (t0 t1 t2:TabD) (c:CoordD) (ht:Tabs t0 t1 t2) (hc:PendsOk c):aJ Tryz.prog 90 [.lst 3 (c.pends.map PendD.dv),.fn (.func 91) [.ptr [lI t0 t1 t2] 0]] (.tup [.lst 3 ((if iW t0 t1 t2 c=0 then c.pends.map fun x=>(yT t0 t1 t2 x).1 else []).map PendD.dv),int (iW t0 t1 t2 c)]) :=
 aEm (yT t0 t1 t2) c.pends 91 [.ptr [lI t0 t1 t2] 0] hc.len (fun x hx=>aNu t0 t1 t2 x (hc.part x hx) ht (hc.off x hx))
theorem aQf (t0 t1 t2:TabD) (j:ImgD) (ht:Tabs t0 t1 t2) (hm:MetaOk j.m)  (h0:¬ iW t0 t1 t2 j.m.c0=0):FunG Tryz.prog 56 [.c (.own 5 16),.c (.d (lI t0 t1 t2))] [5] (bJ [(5,.cells (j.dv.map .d))]) (.c (.d (dC false))) [5] (bJ [(5,.cells ((⟨j.tag,j.p0,j.p1,j.p2,⟨j.m.made,j.m.c0,j.m.c1,j.m.c2,⟨j.m.gr.a0,j.m.gr.a1,j.m.gr.a2,j.m.gr.b0,j.m.gr.b1,j.m.gr.b2⟩⟩⟩:ImgD).dv.map .d))]):=by
 have c0:=cN t0 t1 t2 j.m.c0 ht hm.c0
 have b0:(iW t0 t1 t2 j.m.c0 != 0)=true:=by simpa using h0
 rw[if_neg h0] at c0
 (refine FunG.of_bodyH rfl rfl Tryz.func56 rfl rfl Tryz.ntmps56 Tryz.results56 (Nat.le_of_ble_eq_true rfl) rfl ?_)
 (refine gO (ai @bA (ai @ImgD.dv.eq_1 (ai @PartD.dv.eq_1 (ai @StateD.dv.eq_1 (ai @CoordD.dv.eq_1 (ai @GrpD.dv.eq_1 (ai @List.map_append.{0,0} (ai @List.map_cons.{0,0} (ai @List.map_nil.{0,0} (ai @List.cons_append.{0} (@List.nil_append.{0}))))))))))) ?_;try with_reducible exact tt)
 (refine Wp.weak (aD.freeze (id:=1000) (by (refine aK ?_;try with_reducible exact tt);rfl) (by (refine aK ?_;try with_reducible exact tt);rfl)) ?_)
 refine Wp.rounds 4 (aN.go ?_)
 (repeat (first|apply Wp.skip|apply Wp.exit|apply Wp.ret|apply Wp.block|apply Wp.label|((first|refine Wp.sreg (fun K hK=>?_)|refine Wp.reg (fun K hK=>?_)|refine Wp.sdrw aA (fun K hK=>?_)|refine Wp.drw aA (fun K hK=>?_)|refine Wp.condG (fun K hK hF=>?_));(repeat (revert hK;intro hK;simp (maxSteps:=2000000) (disch:=omega) only[bF,TY,aL,bQ,cD,SV.ofD,bW,bX,cQ,cL,CV.exact,cC,dU,reduceCtorEq,Nat.reduceBEq,Nat.reduceAdd,Nat.reduceMul,Nat.reduceLT,Nat.reduceLeDiff,Int.reduceLE,Int.reduceLT,Int.reduceToNat,bA,b0];(first|(refine hK _ ?_;clear hK K)|(refine⟨by kernel_rfl,hK _ ?_⟩;clear hK K)|(refine hK ?_;clear hK hF K)|(refine hF ?_;clear hK hF K)|refine aQ (by assumption) ?_|refine gJ (by assumption) ?_)));fail_if_success (revert hK;intro hK))|apply Wp.seq))
 refine cJ.ret ?_
 simp (maxSteps:=2000000) (disch:=omega) only[bF,Nat.reduceBEq,jJ,kO,ImgD.dv,PartD.dv,StateD.dv,CoordD.dv,GrpD.dv]
theorem aQg (t0 t1 t2:TabD) (j:ImgD) (ht:Tabs t0 t1 t2) (hm:MetaOk j.m) (h0:iW t0 t1 t2 j.m.c0=0) (h1:¬ iW t0 t1 t2 j.m.c1=0):FunG Tryz.prog 56 [.c (.own 5 16),.c (.d (lI t0 t1 t2))] [5] (bJ [(5,.cells (j.dv.map .d))]) (.c (.d (dC false))) [5] (bJ [(5,.cells ((⟨j.tag,j.p0,j.p1,j.p2,⟨j.m.made,(iO t0 t1 t2 j.m.c0),j.m.c1,j.m.c2,⟨j.m.gr.a0,j.m.gr.a1,j.m.gr.a2,j.m.gr.b0,j.m.gr.b1,j.m.gr.b2⟩⟩⟩:ImgD).dv.map .d))]):=by
 have c0:=cN t0 t1 t2 j.m.c0 ht hm.c0
 rw[h0,if_pos rfl] at c0
 have c1:=cN t0 t1 t2 j.m.c1 ht hm.c1
 have b1:(iW t0 t1 t2 j.m.c1 != 0)=true:=by simpa using h1
 rw[if_neg h1] at c1
 (refine FunG.of_bodyH rfl rfl Tryz.func56 rfl rfl Tryz.ntmps56 Tryz.results56 (Nat.le_of_ble_eq_true rfl) rfl ?_)
 (refine gO (ai @bA (ai @ImgD.dv.eq_1 (ai @PartD.dv.eq_1 (ai @StateD.dv.eq_1 (ai @CoordD.dv.eq_1 (ai @GrpD.dv.eq_1 (ai @List.map_append.{0,0} (ai @List.map_cons.{0,0} (ai @List.map_nil.{0,0} (ai @List.cons_append.{0} (@List.nil_append.{0}))))))))))) ?_;try with_reducible exact tt)
 (refine Wp.weak (aD.freeze (id:=1000) (by (refine aK ?_;try with_reducible exact tt);rfl) (by (refine aK ?_;try with_reducible exact tt);rfl)) ?_)
 refine Wp.rounds 4 (aN.go ?_)
 (repeat (first|apply Wp.skip|apply Wp.exit|apply Wp.ret|apply Wp.block|apply Wp.label|((first|refine Wp.sreg (fun K hK=>?_)|refine Wp.reg (fun K hK=>?_)|refine Wp.sdrw aA (fun K hK=>?_)|refine Wp.drw aA (fun K hK=>?_)|refine Wp.condG (fun K hK hF=>?_));(repeat (revert hK;intro hK;simp (maxSteps:=2000000) (disch:=omega) only[bF,TY,aL,bQ,cD,SV.ofD,bW,cF,bX,cQ,cL,CV.exact,CV.one,D.one,cC,dU,reduceCtorEq,Nat.reduceBEq,Nat.reduceAdd,Nat.reduceMul,Nat.reduceLT,Nat.reduceLeDiff,Int.reduceLE,Int.reduceLT,Int.reduceBNe,Int.reduceAdd,Int.reduceToNat,bA,b1];(first|(refine hK _ ?_;clear hK K)|(refine⟨by kernel_rfl,hK _ ?_⟩;clear hK K)|(refine hK ?_;clear hK hF K)|(refine hF ?_;clear hK hF K)|refine aQ (by assumption) ?_|refine gJ (by assumption) ?_)));fail_if_success (revert hK;intro hK))|apply Wp.seq))
 refine cJ.ret ?_
 simp (maxSteps:=2000000) (disch:=omega) only[bF,jJ,kO,iO,ImgD.dv,PartD.dv,StateD.dv,CoordD.dv,GrpD.dv]
theorem aQh (t0 t1 t2:TabD) (j:ImgD) (ht:Tabs t0 t1 t2) (hm:MetaOk j.m) (h0:iW t0 t1 t2 j.m.c0=0) (h1:iW t0 t1 t2 j.m.c1=0) (h2:¬ iW t0 t1 t2 j.m.c2=0):FunG Tryz.prog 56 [.c (.own 5 16),.c (.d (lI t0 t1 t2))] [5] (bJ [(5,.cells (j.dv.map .d))]) (.c (.d (dC false))) [5] (bJ [(5,.cells ((⟨j.tag,j.p0,j.p1,j.p2,⟨j.m.made,(iO t0 t1 t2 j.m.c0),(iO t0 t1 t2 j.m.c1),j.m.c2,⟨j.m.gr.a0,j.m.gr.a1,j.m.gr.a2,j.m.gr.b0,j.m.gr.b1,j.m.gr.b2⟩⟩⟩:ImgD).dv.map .d))]):=by
 have c0:=cN t0 t1 t2 j.m.c0 ht hm.c0
 rw[h0,if_pos rfl] at c0
 have c1:=cN t0 t1 t2 j.m.c1 ht hm.c1
 rw[h1,if_pos rfl] at c1
 have c2:=cN t0 t1 t2 j.m.c2 ht hm.c2
 have b2:(iW t0 t1 t2 j.m.c2 != 0)=true:=by simpa using h2
 rw[if_neg h2] at c2
 (refine FunG.of_bodyH rfl rfl Tryz.func56 rfl rfl Tryz.ntmps56 Tryz.results56 (Nat.le_of_ble_eq_true rfl) rfl ?_)
 (refine gO (ai @bA (ai @ImgD.dv.eq_1 (ai @PartD.dv.eq_1 (ai @StateD.dv.eq_1 (ai @CoordD.dv.eq_1 (ai @GrpD.dv.eq_1 (ai @List.map_append.{0,0} (ai @List.map_cons.{0,0} (ai @List.map_nil.{0,0} (ai @List.cons_append.{0} (@List.nil_append.{0}))))))))))) ?_;try with_reducible exact tt)
 (refine Wp.weak (aD.freeze (id:=1000) (by (refine aK ?_;try with_reducible exact tt);rfl) (by (refine aK ?_;try with_reducible exact tt);rfl)) ?_)
 refine Wp.rounds 4 (aN.go ?_)
 (repeat (first|apply Wp.skip|apply Wp.exit|apply Wp.ret|apply Wp.block|apply Wp.label|((first|refine Wp.sreg (fun K hK=>?_)|refine Wp.reg (fun K hK=>?_)|refine Wp.sdrw aA (fun K hK=>?_)|refine Wp.drw aA (fun K hK=>?_)|refine Wp.condG (fun K hK hF=>?_));(repeat (revert hK;intro hK;simp (maxSteps:=2000000) (disch:=omega) only[bF,TY,aL,bQ,cD,SV.ofD,bW,cF,bX,cQ,cL,CV.exact,CV.one,D.one,cC,dU,reduceCtorEq,Nat.reduceBEq,Nat.reduceAdd,Nat.reduceMul,Nat.reduceLT,Nat.reduceLeDiff,Int.reduceLE,Int.reduceLT,Int.reduceBNe,Int.reduceAdd,Int.reduceToNat,bA,b2];(first|(refine hK _ ?_;clear hK K)|(refine⟨by kernel_rfl,hK _ ?_⟩;clear hK K)|(refine hK ?_;clear hK hF K)|(refine hF ?_;clear hK hF K)|refine aQ (by assumption) ?_|refine gJ (by assumption) ?_)));fail_if_success (revert hK;intro hK))|apply Wp.seq))
 refine cJ.ret ?_
 simp (maxSteps:=2000000) (disch:=omega) only[bF,jJ,kO,iO,ImgD.dv,PartD.dv,StateD.dv,CoordD.dv,GrpD.dv]
theorem aQi (t0 t1 t2:TabD) (j:ImgD) (ht:Tabs t0 t1 t2) (hm:MetaOk j.m) (h0:iW t0 t1 t2 j.m.c0=0) (h1:iW t0 t1 t2 j.m.c1=0) (h2:iW t0 t1 t2 j.m.c2=0) (h3:¬ (cB t0 j.m.gr.a0).2=0):FunG Tryz.prog 56 [.c (.own 5 16),.c (.d (lI t0 t1 t2))] [5] (bJ [(5,.cells (j.dv.map .d))]) (.c (.d (dC false))) [5] (bJ [(5,.cells ((⟨j.tag,j.p0,j.p1,j.p2,⟨j.m.made,(iO t0 t1 t2 j.m.c0),(iO t0 t1 t2 j.m.c1),(iO t0 t1 t2 j.m.c2),⟨j.m.gr.a0,j.m.gr.a1,j.m.gr.a2,j.m.gr.b0,j.m.gr.b1,j.m.gr.b2⟩⟩⟩:ImgD).dv.map .d))]):=by
 have c0:=cN t0 t1 t2 j.m.c0 ht hm.c0
 rw[h0,if_pos rfl] at c0
 have c1:=cN t0 t1 t2 j.m.c1 ht hm.c1
 rw[h1,if_pos rfl] at c1
 have c2:=cN t0 t1 t2 j.m.c2 ht hm.c2
 rw[h2,if_pos rfl] at c2
 have c3:aJ Tryz.prog 49 [int 0,int j.m.gr.a0,.ptr (qN t0 t1 t2) 0] (.tup [int (cB t0 j.m.gr.a0).1,int (cB t0 j.m.gr.a0).2]):=bO t0 t1 t2 0 (by omega) j.m.gr.a0 ht (hm.gr _ (by simp[GrpD.ls]))
 have b3:((cB t0 j.m.gr.a0).2 != 0)=true:=by simpa using h3
 (refine FunG.of_bodyH rfl rfl Tryz.func56 rfl rfl Tryz.ntmps56 Tryz.results56 (Nat.le_of_ble_eq_true rfl) rfl ?_)
 (refine gO (ai @bA (ai @ImgD.dv.eq_1 (ai @PartD.dv.eq_1 (ai @StateD.dv.eq_1 (ai @CoordD.dv.eq_1 (ai @GrpD.dv.eq_1 (ai @List.map_append.{0,0} (ai @List.map_cons.{0,0} (ai @List.map_nil.{0,0} (ai @List.cons_append.{0} (@List.nil_append.{0}))))))))))) ?_;try with_reducible exact tt)
 (refine Wp.weak (aD.freeze (id:=1000) (by (refine aK ?_;try with_reducible exact tt);rfl) (by (refine aK ?_;try with_reducible exact tt);rfl)) ?_)
 refine Wp.rounds 4 (aN.go ?_)
 (repeat (first|apply Wp.skip|apply Wp.exit|apply Wp.ret|apply Wp.block|apply Wp.label|((first|refine Wp.sreg (fun K hK=>?_)|refine Wp.reg (fun K hK=>?_)|refine Wp.sdrw aA (fun K hK=>?_)|refine Wp.drw aA (fun K hK=>?_)|refine Wp.condG (fun K hK hF=>?_));(repeat (revert hK;intro hK;simp (maxSteps:=2000000) (disch:=omega) only[bF,TY,aL,bQ,cD,SV.ofD,bW,cF,bX,cQ,cL,CV.exact,CV.one,D.one,cC,dU,reduceCtorEq,Nat.reduceBEq,Nat.reduceAdd,Nat.reduceMul,Nat.reduceLT,Nat.reduceLeDiff,Int.reduceLE,Int.reduceLT,Int.reduceBNe,Int.reduceAdd,Int.reduceToNat,bA];(first|(refine hK _ ?_;clear hK K)|(refine⟨by kernel_rfl,hK _ ?_⟩;clear hK K)|(refine hK ?_;clear hK hF K)|(refine hF ?_;clear hK hF K)|refine aQ (by assumption) ?_|refine gJ (by assumption) ?_)));fail_if_success (revert hK;intro hK))|apply Wp.seq))
 refine Wp.rounds 3 (aN.go ?_)
 (repeat (first|apply Wp.skip|apply Wp.exit|apply Wp.ret|apply Wp.block|apply Wp.label|((first|refine Wp.sreg (fun K hK=>?_)|refine Wp.reg (fun K hK=>?_)|refine Wp.sdrw aA (fun K hK=>?_)|refine Wp.drw aA (fun K hK=>?_)|refine Wp.condG (fun K hK hF=>?_));(repeat (revert hK;intro hK;simp (maxSteps:=2000000) (disch:=omega) only[bF,aL,bQ,cD,Nat.reduceBEq,Nat.reduceAdd,Nat.reduceLT,Int.reduceLT];(first|(refine hK _ ?_;clear hK K)|(refine⟨by kernel_rfl,hK _ ?_⟩;clear hK K)|(refine hK ?_;clear hK hF K)|(refine hF ?_;clear hK hF K)|refine aQ (by assumption) ?_|refine gJ (by assumption) ?_)));fail_if_success (revert hK;intro hK))|apply Wp.seq))
 refine Wp.rounds 4 (aN.go ?_)
 (repeat (first|apply Wp.skip|apply Wp.exit|apply Wp.ret|apply Wp.block|apply Wp.label|((first|refine Wp.sreg (fun K hK=>?_)|refine Wp.reg (fun K hK=>?_)|refine Wp.sdrw aA (fun K hK=>?_)|refine Wp.drw aA (fun K hK=>?_)|refine Wp.condG (fun K hK hF=>?_));(repeat (revert hK;intro hK;simp (maxSteps:=2000000) (disch:=omega) only[bF,TY,aL,bQ,cD,SV.ofD,bW,bX,cL,CV.exact,cC,dU,reduceCtorEq,Nat.reduceBEq,Nat.reduceAdd,Nat.reduceMul,Nat.reduceLT,Nat.reduceLeDiff,Int.reduceLE,Int.reduceLT,Int.reduceToNat,bA,gA,b3];(first|(refine hK _ ?_;clear hK K)|(refine⟨by kernel_rfl,hK _ ?_⟩;clear hK K)|(refine hK ?_;clear hK hF K)|(refine hF ?_;clear hK hF K)|refine aQ (by assumption) ?_|refine gJ (by assumption) ?_)));fail_if_success (revert hK;intro hK))|apply Wp.seq))
 refine cJ.ret ?_
 simp (maxSteps:=2000000) (disch:=omega) only[bF,jJ,kO,iO,ImgD.dv,PartD.dv,StateD.dv,CoordD.dv,GrpD.dv]
theorem aQj (t0 t1 t2:TabD) (j:ImgD) (ht:Tabs t0 t1 t2) (hm:MetaOk j.m) (h0:iW t0 t1 t2 j.m.c0=0) (h1:iW t0 t1 t2 j.m.c1=0) (h2:iW t0 t1 t2 j.m.c2=0) (h3:(cB t0 j.m.gr.a0).2=0) (h4:¬ (cB t1 j.m.gr.a1).2=0):FunG Tryz.prog 56 [.c (.own 5 16),.c (.d (lI t0 t1 t2))] [5] (bJ [(5,.cells (j.dv.map .d))]) (.c (.d (dC false))) [5] (bJ [(5,.cells ((⟨j.tag,j.p0,j.p1,j.p2,⟨j.m.made,(iO t0 t1 t2 j.m.c0),(iO t0 t1 t2 j.m.c1),(iO t0 t1 t2 j.m.c2),⟨(cB t0 j.m.gr.a0).1,j.m.gr.a1,j.m.gr.a2,j.m.gr.b0,j.m.gr.b1,j.m.gr.b2⟩⟩⟩:ImgD).dv.map .d))]):=by
 have c0:=cN t0 t1 t2 j.m.c0 ht hm.c0
 rw[h0,if_pos rfl] at c0
 have c1:=cN t0 t1 t2 j.m.c1 ht hm.c1
 rw[h1,if_pos rfl] at c1
 have c2:=cN t0 t1 t2 j.m.c2 ht hm.c2
 rw[h2,if_pos rfl] at c2
 have c3:aJ Tryz.prog 49 [int 0,int j.m.gr.a0,.ptr (qN t0 t1 t2) 0] (.tup [int (cB t0 j.m.gr.a0).1,int (cB t0 j.m.gr.a0).2]):=bO t0 t1 t2 0 (by omega) j.m.gr.a0 ht (hm.gr _ (by simp[GrpD.ls]))
 rw[h3] at c3
 have c4:aJ Tryz.prog 49 [int 1,int j.m.gr.a1,.ptr (qN t0 t1 t2) 0] (.tup [int (cB t1 j.m.gr.a1).1,int (cB t1 j.m.gr.a1).2]):=bO t0 t1 t2 1 (by omega) j.m.gr.a1 ht (hm.gr _ (by simp[GrpD.ls]))
 have b4:((cB t1 j.m.gr.a1).2 != 0)=true:=by simpa using h4
 (refine FunG.of_bodyH rfl rfl Tryz.func56 rfl rfl Tryz.ntmps56 Tryz.results56 (Nat.le_of_ble_eq_true rfl) rfl ?_)
 (refine gO (ai @bA (ai @ImgD.dv.eq_1 (ai @PartD.dv.eq_1 (ai @StateD.dv.eq_1 (ai @CoordD.dv.eq_1 (ai @GrpD.dv.eq_1 (ai @List.map_append.{0,0} (ai @List.map_cons.{0,0} (ai @List.map_nil.{0,0} (ai @List.cons_append.{0} (@List.nil_append.{0}))))))))))) ?_;try with_reducible exact tt)
 (refine Wp.weak (aD.freeze (id:=1000) (by (refine aK ?_;try with_reducible exact tt);rfl) (by (refine aK ?_;try with_reducible exact tt);rfl)) ?_)
 refine Wp.rounds 4 (aN.go ?_)
 (repeat (first|apply Wp.skip|apply Wp.exit|apply Wp.ret|apply Wp.block|apply Wp.label|((first|refine Wp.sreg (fun K hK=>?_)|refine Wp.reg (fun K hK=>?_)|refine Wp.sdrw aA (fun K hK=>?_)|refine Wp.drw aA (fun K hK=>?_)|refine Wp.condG (fun K hK hF=>?_));(repeat (revert hK;intro hK;simp (maxSteps:=2000000) (disch:=omega) only[bF,TY,aL,bQ,cD,SV.ofD,bW,cF,bX,cQ,cL,CV.exact,CV.one,D.one,cC,dU,reduceCtorEq,Nat.reduceBEq,Nat.reduceAdd,Nat.reduceMul,Nat.reduceLT,Nat.reduceLeDiff,Int.reduceLE,Int.reduceLT,Int.reduceBNe,Int.reduceAdd,Int.reduceToNat,bA];(first|(refine hK _ ?_;clear hK K)|(refine⟨by kernel_rfl,hK _ ?_⟩;clear hK K)|(refine hK ?_;clear hK hF K)|(refine hF ?_;clear hK hF K)|refine aQ (by assumption) ?_|refine gJ (by assumption) ?_)));fail_if_success (revert hK;intro hK))|apply Wp.seq))
 refine Wp.rounds 3 (aN.go ?_)
 (repeat (first|apply Wp.skip|apply Wp.exit|apply Wp.ret|apply Wp.block|apply Wp.label|((first|refine Wp.sreg (fun K hK=>?_)|refine Wp.reg (fun K hK=>?_)|refine Wp.sdrw aA (fun K hK=>?_)|refine Wp.drw aA (fun K hK=>?_)|refine Wp.condG (fun K hK hF=>?_));(repeat (revert hK;intro hK;simp (maxSteps:=2000000) (disch:=omega) only[bF,aL,bQ,cD,Nat.reduceBEq,Nat.reduceAdd,Nat.reduceLT,Int.reduceLT];(first|(refine hK _ ?_;clear hK K)|(refine⟨by kernel_rfl,hK _ ?_⟩;clear hK K)|(refine hK ?_;clear hK hF K)|(refine hF ?_;clear hK hF K)|refine aQ (by assumption) ?_|refine gJ (by assumption) ?_)));fail_if_success (revert hK;intro hK))|apply Wp.seq))
 refine Wp.rounds 4 (aN.go ?_)
 (repeat (first|apply Wp.skip|apply Wp.exit|apply Wp.ret|apply Wp.block|apply Wp.label|((first|refine Wp.sreg (fun K hK=>?_)|refine Wp.reg (fun K hK=>?_)|refine Wp.sdrw aA (fun K hK=>?_)|refine Wp.drw aA (fun K hK=>?_)|refine Wp.condG (fun K hK hF=>?_));(repeat (revert hK;intro hK;simp (maxSteps:=2000000) (disch:=omega) only[bF,TY,aL,bQ,cD,SV.ofD,bW,cF,bX,cL,CV.exact,CV.one,D.one,Value.oneCell',cC,dU,reduceCtorEq,Nat.reduceBEq,Nat.reduceAdd,Nat.reduceMul,Nat.reduceLT,Nat.reduceLeDiff,Int.reduceLE,Int.reduceLT,Int.reduceBNe,Int.reduceAdd,Int.reduceToNat,bA,gA,b4];(first|(refine hK _ ?_;clear hK K)|(refine⟨by kernel_rfl,hK _ ?_⟩;clear hK K)|(refine hK ?_;clear hK hF K)|(refine hF ?_;clear hK hF K)|refine aQ (by assumption) ?_|refine gJ (by assumption) ?_)));fail_if_success (revert hK;intro hK))|apply Wp.seq))
 refine cJ.ret ?_
 simp (maxSteps:=2000000) (disch:=omega) only[bF,jJ,kO,iO,ImgD.dv,PartD.dv,StateD.dv,CoordD.dv,GrpD.dv]
theorem aQk (t0 t1 t2:TabD) (j:ImgD) (ht:Tabs t0 t1 t2) (hm:MetaOk j.m) (h0:iW t0 t1 t2 j.m.c0=0) (h1:iW t0 t1 t2 j.m.c1=0) (h2:iW t0 t1 t2 j.m.c2=0) (h3:(cB t0 j.m.gr.a0).2=0) (h4:(cB t1 j.m.gr.a1).2=0) (h5:¬ (cB t2 j.m.gr.a2).2=0):FunG Tryz.prog 56 [.c (.own 5 16),.c (.d (lI t0 t1 t2))] [5] (bJ [(5,.cells (j.dv.map .d))]) (.c (.d (dC false))) [5] (bJ [(5,.cells ((⟨j.tag,j.p0,j.p1,j.p2,⟨j.m.made,(iO t0 t1 t2 j.m.c0),(iO t0 t1 t2 j.m.c1),(iO t0 t1 t2 j.m.c2),⟨(cB t0 j.m.gr.a0).1,(cB t1 j.m.gr.a1).1,j.m.gr.a2,j.m.gr.b0,j.m.gr.b1,j.m.gr.b2⟩⟩⟩:ImgD).dv.map .d))]):=by
 have c0:=cN t0 t1 t2 j.m.c0 ht hm.c0
 rw[h0,if_pos rfl] at c0
 have c1:=cN t0 t1 t2 j.m.c1 ht hm.c1
 rw[h1,if_pos rfl] at c1
 have c2:=cN t0 t1 t2 j.m.c2 ht hm.c2
 rw[h2,if_pos rfl] at c2
 have c3:aJ Tryz.prog 49 [int 0,int j.m.gr.a0,.ptr (qN t0 t1 t2) 0] (.tup [int (cB t0 j.m.gr.a0).1,int (cB t0 j.m.gr.a0).2]):=bO t0 t1 t2 0 (by omega) j.m.gr.a0 ht (hm.gr _ (by simp[GrpD.ls]))
 rw[h3] at c3
 have c4:aJ Tryz.prog 49 [int 1,int j.m.gr.a1,.ptr (qN t0 t1 t2) 0] (.tup [int (cB t1 j.m.gr.a1).1,int (cB t1 j.m.gr.a1).2]):=bO t0 t1 t2 1 (by omega) j.m.gr.a1 ht (hm.gr _ (by simp[GrpD.ls]))
 rw[h4] at c4
 have c5:aJ Tryz.prog 49 [int 2,int j.m.gr.a2,.ptr (qN t0 t1 t2) 0] (.tup [int (cB t2 j.m.gr.a2).1,int (cB t2 j.m.gr.a2).2]):=bO t0 t1 t2 2 (by omega) j.m.gr.a2 ht (hm.gr _ (by simp[GrpD.ls]))
 have b5:((cB t2 j.m.gr.a2).2 != 0)=true:=by simpa using h5
 (refine FunG.of_bodyH rfl rfl Tryz.func56 rfl rfl Tryz.ntmps56 Tryz.results56 (Nat.le_of_ble_eq_true rfl) rfl ?_)
 (refine gO (ai @bA (ai @ImgD.dv.eq_1 (ai @PartD.dv.eq_1 (ai @StateD.dv.eq_1 (ai @CoordD.dv.eq_1 (ai @GrpD.dv.eq_1 (ai @List.map_append.{0,0} (ai @List.map_cons.{0,0} (ai @List.map_nil.{0,0} (ai @List.cons_append.{0} (@List.nil_append.{0}))))))))))) ?_;try with_reducible exact tt)
 (refine Wp.weak (aD.freeze (id:=1000) (by (refine aK ?_;try with_reducible exact tt);rfl) (by (refine aK ?_;try with_reducible exact tt);rfl)) ?_)
 refine Wp.rounds 4 (aN.go ?_)
 (repeat (first|apply Wp.skip|apply Wp.exit|apply Wp.ret|apply Wp.block|apply Wp.label|((first|refine Wp.sreg (fun K hK=>?_)|refine Wp.reg (fun K hK=>?_)|refine Wp.sdrw aA (fun K hK=>?_)|refine Wp.drw aA (fun K hK=>?_)|refine Wp.condG (fun K hK hF=>?_));(repeat (revert hK;intro hK;simp (maxSteps:=2000000) (disch:=omega) only[bF,TY,aL,bQ,cD,SV.ofD,bW,cF,bX,cQ,cL,CV.exact,CV.one,D.one,cC,dU,reduceCtorEq,Nat.reduceBEq,Nat.reduceAdd,Nat.reduceMul,Nat.reduceLT,Nat.reduceLeDiff,Int.reduceLE,Int.reduceLT,Int.reduceBNe,Int.reduceAdd,Int.reduceToNat,bA];(first|(refine hK _ ?_;clear hK K)|(refine⟨by kernel_rfl,hK _ ?_⟩;clear hK K)|(refine hK ?_;clear hK hF K)|(refine hF ?_;clear hK hF K)|refine aQ (by assumption) ?_|refine gJ (by assumption) ?_)));fail_if_success (revert hK;intro hK))|apply Wp.seq))
 refine Wp.rounds 3 (aN.go ?_)
 (repeat (first|apply Wp.skip|apply Wp.exit|apply Wp.ret|apply Wp.block|apply Wp.label|((first|refine Wp.sreg (fun K hK=>?_)|refine Wp.reg (fun K hK=>?_)|refine Wp.sdrw aA (fun K hK=>?_)|refine Wp.drw aA (fun K hK=>?_)|refine Wp.condG (fun K hK hF=>?_));(repeat (revert hK;intro hK;simp (maxSteps:=2000000) (disch:=omega) only[bF,aL,bQ,cD,Nat.reduceBEq,Nat.reduceAdd,Nat.reduceLT,Int.reduceLT];(first|(refine hK _ ?_;clear hK K)|(refine⟨by kernel_rfl,hK _ ?_⟩;clear hK K)|(refine hK ?_;clear hK hF K)|(refine hF ?_;clear hK hF K)|refine aQ (by assumption) ?_|refine gJ (by assumption) ?_)));fail_if_success (revert hK;intro hK))|apply Wp.seq))
 refine Wp.rounds 4 (aN.go ?_)
 (repeat (first|apply Wp.skip|apply Wp.exit|apply Wp.ret|apply Wp.block|apply Wp.label|((first|refine Wp.sreg (fun K hK=>?_)|refine Wp.reg (fun K hK=>?_)|refine Wp.sdrw aA (fun K hK=>?_)|refine Wp.drw aA (fun K hK=>?_)|refine Wp.condG (fun K hK hF=>?_));(repeat (revert hK;intro hK;simp (maxSteps:=2000000) (disch:=omega) only[bF,TY,aL,bQ,cD,SV.ofD,bW,cF,bX,cL,CV.exact,CV.one,D.one,Value.oneCell',cC,dU,reduceCtorEq,Nat.reduceBEq,Nat.reduceAdd,Nat.reduceMul,Nat.reduceLT,Nat.reduceLeDiff,Int.reduceLE,Int.reduceLT,Int.reduceBNe,Int.reduceAdd,Int.reduceToNat,bA,gA,b5];(first|(refine hK _ ?_;clear hK K)|(refine⟨by kernel_rfl,hK _ ?_⟩;clear hK K)|(refine hK ?_;clear hK hF K)|(refine hF ?_;clear hK hF K)|refine aQ (by assumption) ?_|refine gJ (by assumption) ?_)));fail_if_success (revert hK;intro hK))|apply Wp.seq))
 refine cJ.ret ?_
 simp (maxSteps:=2000000) (disch:=omega) only[bF,jJ,kO,iO,ImgD.dv,PartD.dv,StateD.dv,CoordD.dv,GrpD.dv]
theorem aQl (t0 t1 t2:TabD) (j:ImgD) (ht:Tabs t0 t1 t2) (hm:MetaOk j.m) (h0:iW t0 t1 t2 j.m.c0=0) (h1:iW t0 t1 t2 j.m.c1=0) (h2:iW t0 t1 t2 j.m.c2=0) (h3:(cB t0 j.m.gr.a0).2=0) (h4:(cB t1 j.m.gr.a1).2=0) (h5:(cB t2 j.m.gr.a2).2=0) (h6:¬ (cB t0 j.m.gr.b0).2=0):FunG Tryz.prog 56 [.c (.own 5 16),.c (.d (lI t0 t1 t2))] [5] (bJ [(5,.cells (j.dv.map .d))]) (.c (.d (dC false))) [5] (bJ [(5,.cells ((⟨j.tag,j.p0,j.p1,j.p2,⟨j.m.made,(iO t0 t1 t2 j.m.c0),(iO t0 t1 t2 j.m.c1),(iO t0 t1 t2 j.m.c2),⟨(cB t0 j.m.gr.a0).1,(cB t1 j.m.gr.a1).1,(cB t2 j.m.gr.a2).1,j.m.gr.b0,j.m.gr.b1,j.m.gr.b2⟩⟩⟩:ImgD).dv.map .d))]):=by
 have c0:=cN t0 t1 t2 j.m.c0 ht hm.c0
 rw[h0,if_pos rfl] at c0
 have c1:=cN t0 t1 t2 j.m.c1 ht hm.c1
 rw[h1,if_pos rfl] at c1
 have c2:=cN t0 t1 t2 j.m.c2 ht hm.c2
 rw[h2,if_pos rfl] at c2
 have c3:aJ Tryz.prog 49 [int 0,int j.m.gr.a0,.ptr (qN t0 t1 t2) 0] (.tup [int (cB t0 j.m.gr.a0).1,int (cB t0 j.m.gr.a0).2]):=bO t0 t1 t2 0 (by omega) j.m.gr.a0 ht (hm.gr _ (by simp[GrpD.ls]))
 rw[h3] at c3
 have c4:aJ Tryz.prog 49 [int 1,int j.m.gr.a1,.ptr (qN t0 t1 t2) 0] (.tup [int (cB t1 j.m.gr.a1).1,int (cB t1 j.m.gr.a1).2]):=bO t0 t1 t2 1 (by omega) j.m.gr.a1 ht (hm.gr _ (by simp[GrpD.ls]))
 rw[h4] at c4
 have c5:aJ Tryz.prog 49 [int 2,int j.m.gr.a2,.ptr (qN t0 t1 t2) 0] (.tup [int (cB t2 j.m.gr.a2).1,int (cB t2 j.m.gr.a2).2]):=bO t0 t1 t2 2 (by omega) j.m.gr.a2 ht (hm.gr _ (by simp[GrpD.ls]))
 rw[h5] at c5
 have c6:aJ Tryz.prog 49 [int 0,int j.m.gr.b0,.ptr (qN t0 t1 t2) 0] (.tup [int (cB t0 j.m.gr.b0).1,int (cB t0 j.m.gr.b0).2]):=bO t0 t1 t2 0 (by omega) j.m.gr.b0 ht (hm.gr _ (by simp[GrpD.ls]))
 have b6:((cB t0 j.m.gr.b0).2 != 0)=true:=by simpa using h6
 (refine FunG.of_bodyH rfl rfl Tryz.func56 rfl rfl Tryz.ntmps56 Tryz.results56 (Nat.le_of_ble_eq_true rfl) rfl ?_)
 (refine gO (ai @bA (ai @ImgD.dv.eq_1 (ai @PartD.dv.eq_1 (ai @StateD.dv.eq_1 (ai @CoordD.dv.eq_1 (ai @GrpD.dv.eq_1 (ai @List.map_append.{0,0} (ai @List.map_cons.{0,0} (ai @List.map_nil.{0,0} (ai @List.cons_append.{0} (@List.nil_append.{0}))))))))))) ?_;try with_reducible exact tt)
 (refine Wp.weak (aD.freeze (id:=1000) (by (refine aK ?_;try with_reducible exact tt);rfl) (by (refine aK ?_;try with_reducible exact tt);rfl)) ?_)
 refine Wp.rounds 4 (aN.go ?_)
 (repeat (first|apply Wp.skip|apply Wp.exit|apply Wp.ret|apply Wp.block|apply Wp.label|((first|refine Wp.sreg (fun K hK=>?_)|refine Wp.reg (fun K hK=>?_)|refine Wp.sdrw aA (fun K hK=>?_)|refine Wp.drw aA (fun K hK=>?_)|refine Wp.condG (fun K hK hF=>?_));(repeat (revert hK;intro hK;simp (maxSteps:=2000000) (disch:=omega) only[bF,TY,aL,bQ,cD,SV.ofD,bW,cF,bX,cQ,cL,CV.exact,CV.one,D.one,cC,dU,reduceCtorEq,Nat.reduceBEq,Nat.reduceAdd,Nat.reduceMul,Nat.reduceLT,Nat.reduceLeDiff,Int.reduceLE,Int.reduceLT,Int.reduceBNe,Int.reduceAdd,Int.reduceToNat,bA];(first|(refine hK _ ?_;clear hK K)|(refine⟨by kernel_rfl,hK _ ?_⟩;clear hK K)|(refine hK ?_;clear hK hF K)|(refine hF ?_;clear hK hF K)|refine aQ (by assumption) ?_|refine gJ (by assumption) ?_)));fail_if_success (revert hK;intro hK))|apply Wp.seq))
 refine Wp.rounds 3 (aN.go ?_)
 (repeat (first|apply Wp.skip|apply Wp.exit|apply Wp.ret|apply Wp.block|apply Wp.label|((first|refine Wp.sreg (fun K hK=>?_)|refine Wp.reg (fun K hK=>?_)|refine Wp.sdrw aA (fun K hK=>?_)|refine Wp.drw aA (fun K hK=>?_)|refine Wp.condG (fun K hK hF=>?_));(repeat (revert hK;intro hK;simp (maxSteps:=2000000) (disch:=omega) only[bF,aL,bQ,cD,Nat.reduceBEq,Nat.reduceAdd,Nat.reduceLT,Int.reduceLT];(first|(refine hK _ ?_;clear hK K)|(refine⟨by kernel_rfl,hK _ ?_⟩;clear hK K)|(refine hK ?_;clear hK hF K)|(refine hF ?_;clear hK hF K)|refine aQ (by assumption) ?_|refine gJ (by assumption) ?_)));fail_if_success (revert hK;intro hK))|apply Wp.seq))
 refine Wp.rounds 4 (aN.go ?_)
 (repeat (first|apply Wp.skip|apply Wp.exit|apply Wp.ret|apply Wp.block|apply Wp.label|((first|refine Wp.sreg (fun K hK=>?_)|refine Wp.reg (fun K hK=>?_)|refine Wp.sdrw aA (fun K hK=>?_)|refine Wp.drw aA (fun K hK=>?_)|refine Wp.condG (fun K hK hF=>?_));(repeat (revert hK;intro hK;simp (maxSteps:=2000000) (disch:=omega) only[bF,TY,aL,bQ,cD,SV.ofD,bW,cF,bX,cL,CV.exact,CV.one,D.one,Value.oneCell',cC,dU,reduceCtorEq,Nat.reduceBEq,Nat.reduceAdd,Nat.reduceMul,Nat.reduceLT,Nat.reduceLeDiff,Int.reduceLE,Int.reduceLT,Int.reduceBNe,Int.reduceAdd,Int.reduceToNat,bA,gA];(first|(refine hK _ ?_;clear hK K)|(refine⟨by kernel_rfl,hK _ ?_⟩;clear hK K)|(refine hK ?_;clear hK hF K)|(refine hF ?_;clear hK hF K)|refine aQ (by assumption) ?_|refine gJ (by assumption) ?_)));fail_if_success (revert hK;intro hK))|apply Wp.seq))
 refine Wp.rounds 4 (aN.go ?_)
 (repeat (first|apply Wp.skip|apply Wp.exit|apply Wp.ret|apply Wp.block|apply Wp.label|((first|refine Wp.sreg (fun K hK=>?_)|refine Wp.reg (fun K hK=>?_)|refine Wp.sdrw aA (fun K hK=>?_)|refine Wp.drw aA (fun K hK=>?_)|refine Wp.condG (fun K hK hF=>?_));(repeat (revert hK;intro hK;simp (maxSteps:=2000000) (disch:=omega) only[bF,TY,aL,bQ,cD,SV.ofD,bW,bX,cL,CV.exact,cC,dU,reduceCtorEq,Nat.reduceBEq,Nat.reduceAdd,Nat.reduceMul,Nat.reduceLT,Nat.reduceLeDiff,Int.reduceLE,Int.reduceLT,Int.reduceToNat,bA,gA,b6];(first|(refine hK _ ?_;clear hK K)|(refine⟨by kernel_rfl,hK _ ?_⟩;clear hK K)|(refine hK ?_;clear hK hF K)|(refine hF ?_;clear hK hF K)|refine aQ (by assumption) ?_|refine gJ (by assumption) ?_)));fail_if_success (revert hK;intro hK))|apply Wp.seq))
 refine cJ.ret ?_
 simp (maxSteps:=2000000) (disch:=omega) only[bF,jJ,kO,iO,ImgD.dv,PartD.dv,StateD.dv,CoordD.dv,GrpD.dv]
theorem aQm (t0 t1 t2:TabD) (j:ImgD) (ht:Tabs t0 t1 t2) (hm:MetaOk j.m) (h0:iW t0 t1 t2 j.m.c0=0) (h1:iW t0 t1 t2 j.m.c1=0) (h2:iW t0 t1 t2 j.m.c2=0) (h3:(cB t0 j.m.gr.a0).2=0) (h4:(cB t1 j.m.gr.a1).2=0) (h5:(cB t2 j.m.gr.a2).2=0) (h6:(cB t0 j.m.gr.b0).2=0) (h7:¬ (cB t1 j.m.gr.b1).2=0):FunG Tryz.prog 56 [.c (.own 5 16),.c (.d (lI t0 t1 t2))] [5] (bJ [(5,.cells (j.dv.map .d))]) (.c (.d (dC false))) [5] (bJ [(5,.cells ((⟨j.tag,j.p0,j.p1,j.p2,⟨j.m.made,(iO t0 t1 t2 j.m.c0),(iO t0 t1 t2 j.m.c1),(iO t0 t1 t2 j.m.c2),⟨(cB t0 j.m.gr.a0).1,(cB t1 j.m.gr.a1).1,(cB t2 j.m.gr.a2).1,(cB t0 j.m.gr.b0).1,j.m.gr.b1,j.m.gr.b2⟩⟩⟩:ImgD).dv.map .d))]):=by
 have c0:=cN t0 t1 t2 j.m.c0 ht hm.c0
 rw[h0,if_pos rfl] at c0
 have c1:=cN t0 t1 t2 j.m.c1 ht hm.c1
 rw[h1,if_pos rfl] at c1
 have c2:=cN t0 t1 t2 j.m.c2 ht hm.c2
 rw[h2,if_pos rfl] at c2
 have c3:aJ Tryz.prog 49 [int 0,int j.m.gr.a0,.ptr (qN t0 t1 t2) 0] (.tup [int (cB t0 j.m.gr.a0).1,int (cB t0 j.m.gr.a0).2]):=bO t0 t1 t2 0 (by omega) j.m.gr.a0 ht (hm.gr _ (by simp[GrpD.ls]))
 rw[h3] at c3
 have c4:aJ Tryz.prog 49 [int 1,int j.m.gr.a1,.ptr (qN t0 t1 t2) 0] (.tup [int (cB t1 j.m.gr.a1).1,int (cB t1 j.m.gr.a1).2]):=bO t0 t1 t2 1 (by omega) j.m.gr.a1 ht (hm.gr _ (by simp[GrpD.ls]))
 rw[h4] at c4
 have c5:aJ Tryz.prog 49 [int 2,int j.m.gr.a2,.ptr (qN t0 t1 t2) 0] (.tup [int (cB t2 j.m.gr.a2).1,int (cB t2 j.m.gr.a2).2]):=bO t0 t1 t2 2 (by omega) j.m.gr.a2 ht (hm.gr _ (by simp[GrpD.ls]))
 rw[h5] at c5
 have c6:aJ Tryz.prog 49 [int 0,int j.m.gr.b0,.ptr (qN t0 t1 t2) 0] (.tup [int (cB t0 j.m.gr.b0).1,int (cB t0 j.m.gr.b0).2]):=bO t0 t1 t2 0 (by omega) j.m.gr.b0 ht (hm.gr _ (by simp[GrpD.ls]))
 rw[h6] at c6
 have c7:aJ Tryz.prog 49 [int 1,int j.m.gr.b1,.ptr (qN t0 t1 t2) 0] (.tup [int (cB t1 j.m.gr.b1).1,int (cB t1 j.m.gr.b1).2]):=bO t0 t1 t2 1 (by omega) j.m.gr.b1 ht (hm.gr _ (by simp[GrpD.ls]))
 have b7:((cB t1 j.m.gr.b1).2 != 0)=true:=by simpa using h7
 (refine FunG.of_bodyH rfl rfl Tryz.func56 rfl rfl Tryz.ntmps56 Tryz.results56 (Nat.le_of_ble_eq_true rfl) rfl ?_)
 (refine gO (ai @bA (ai @ImgD.dv.eq_1 (ai @PartD.dv.eq_1 (ai @StateD.dv.eq_1 (ai @CoordD.dv.eq_1 (ai @GrpD.dv.eq_1 (ai @List.map_append.{0,0} (ai @List.map_cons.{0,0} (ai @List.map_nil.{0,0} (ai @List.cons_append.{0} (@List.nil_append.{0}))))))))))) ?_;try with_reducible exact tt)
 (refine Wp.weak (aD.freeze (id:=1000) (by (refine aK ?_;try with_reducible exact tt);rfl) (by (refine aK ?_;try with_reducible exact tt);rfl)) ?_)
 refine Wp.rounds 4 (aN.go ?_)
 (repeat (first|apply Wp.skip|apply Wp.exit|apply Wp.ret|apply Wp.block|apply Wp.label|((first|refine Wp.sreg (fun K hK=>?_)|refine Wp.reg (fun K hK=>?_)|refine Wp.sdrw aA (fun K hK=>?_)|refine Wp.drw aA (fun K hK=>?_)|refine Wp.condG (fun K hK hF=>?_));(repeat (revert hK;intro hK;simp (maxSteps:=2000000) (disch:=omega) only[bF,TY,aL,bQ,cD,SV.ofD,bW,cF,bX,cQ,cL,CV.exact,CV.one,D.one,cC,dU,reduceCtorEq,Nat.reduceBEq,Nat.reduceAdd,Nat.reduceMul,Nat.reduceLT,Nat.reduceLeDiff,Int.reduceLE,Int.reduceLT,Int.reduceBNe,Int.reduceAdd,Int.reduceToNat,bA];(first|(refine hK _ ?_;clear hK K)|(refine⟨by kernel_rfl,hK _ ?_⟩;clear hK K)|(refine hK ?_;clear hK hF K)|(refine hF ?_;clear hK hF K)|refine aQ (by assumption) ?_|refine gJ (by assumption) ?_)));fail_if_success (revert hK;intro hK))|apply Wp.seq))
 refine Wp.rounds 3 (aN.go ?_)
 (repeat (first|apply Wp.skip|apply Wp.exit|apply Wp.ret|apply Wp.block|apply Wp.label|((first|refine Wp.sreg (fun K hK=>?_)|refine Wp.reg (fun K hK=>?_)|refine Wp.sdrw aA (fun K hK=>?_)|refine Wp.drw aA (fun K hK=>?_)|refine Wp.condG (fun K hK hF=>?_));(repeat (revert hK;intro hK;simp (maxSteps:=2000000) (disch:=omega) only[bF,aL,bQ,cD,Nat.reduceBEq,Nat.reduceAdd,Nat.reduceLT,Int.reduceLT];(first|(refine hK _ ?_;clear hK K)|(refine⟨by kernel_rfl,hK _ ?_⟩;clear hK K)|(refine hK ?_;clear hK hF K)|(refine hF ?_;clear hK hF K)|refine aQ (by assumption) ?_|refine gJ (by assumption) ?_)));fail_if_success (revert hK;intro hK))|apply Wp.seq))
 refine Wp.rounds 4 (aN.go ?_)
 (repeat (first|apply Wp.skip|apply Wp.exit|apply Wp.ret|apply Wp.block|apply Wp.label|((first|refine Wp.sreg (fun K hK=>?_)|refine Wp.reg (fun K hK=>?_)|refine Wp.sdrw aA (fun K hK=>?_)|refine Wp.drw aA (fun K hK=>?_)|refine Wp.condG (fun K hK hF=>?_));(repeat (revert hK;intro hK;simp (maxSteps:=2000000) (disch:=omega) only[bF,TY,aL,bQ,cD,SV.ofD,bW,cF,bX,cL,CV.exact,CV.one,D.one,Value.oneCell',cC,dU,reduceCtorEq,Nat.reduceBEq,Nat.reduceAdd,Nat.reduceMul,Nat.reduceLT,Nat.reduceLeDiff,Int.reduceLE,Int.reduceLT,Int.reduceBNe,Int.reduceAdd,Int.reduceToNat,bA,gA];(first|(refine hK _ ?_;clear hK K)|(refine⟨by kernel_rfl,hK _ ?_⟩;clear hK K)|(refine hK ?_;clear hK hF K)|(refine hF ?_;clear hK hF K)|refine aQ (by assumption) ?_|refine gJ (by assumption) ?_)));fail_if_success (revert hK;intro hK))|apply Wp.seq))
 refine Wp.rounds 4 (aN.go ?_)
 (repeat (first|apply Wp.skip|apply Wp.exit|apply Wp.ret|apply Wp.block|apply Wp.label|((first|refine Wp.sreg (fun K hK=>?_)|refine Wp.reg (fun K hK=>?_)|refine Wp.sdrw aA (fun K hK=>?_)|refine Wp.drw aA (fun K hK=>?_)|refine Wp.condG (fun K hK hF=>?_));(repeat (revert hK;intro hK;simp (maxSteps:=2000000) (disch:=omega) only[bF,TY,aL,bQ,cD,SV.ofD,bW,cF,bX,cL,CV.exact,CV.one,D.one,Value.oneCell',cC,dU,reduceCtorEq,Nat.reduceBEq,Nat.reduceAdd,Nat.reduceMul,Nat.reduceLT,Nat.reduceLeDiff,Int.reduceLE,Int.reduceLT,Int.reduceBNe,Int.reduceAdd,Int.reduceToNat,bA,gA,b7];(first|(refine hK _ ?_;clear hK K)|(refine⟨by kernel_rfl,hK _ ?_⟩;clear hK K)|(refine hK ?_;clear hK hF K)|(refine hF ?_;clear hK hF K)|refine aQ (by assumption) ?_|refine gJ (by assumption) ?_)));fail_if_success (revert hK;intro hK))|apply Wp.seq))
 refine cJ.ret ?_
 simp (maxSteps:=2000000) (disch:=omega) only[bF,jJ,kO,iO,ImgD.dv,PartD.dv,StateD.dv,CoordD.dv,GrpD.dv]
theorem aQn (t0 t1 t2:TabD) (j:ImgD) (ht:Tabs t0 t1 t2) (hm:MetaOk j.m) (h0:iW t0 t1 t2 j.m.c0=0) (h1:iW t0 t1 t2 j.m.c1=0) (h2:iW t0 t1 t2 j.m.c2=0) (h3:(cB t0 j.m.gr.a0).2=0) (h4:(cB t1 j.m.gr.a1).2=0) (h5:(cB t2 j.m.gr.a2).2=0) (h6:(cB t0 j.m.gr.b0).2=0) (h7:(cB t1 j.m.gr.b1).2=0) (h8:¬ (cB t2 j.m.gr.b2).2=0):FunG Tryz.prog 56 [.c (.own 5 16),.c (.d (lI t0 t1 t2))] [5] (bJ [(5,.cells (j.dv.map .d))]) (.c (.d (dC false))) [5] (bJ [(5,.cells ((⟨j.tag,j.p0,j.p1,j.p2,⟨j.m.made,(iO t0 t1 t2 j.m.c0),(iO t0 t1 t2 j.m.c1),(iO t0 t1 t2 j.m.c2),⟨(cB t0 j.m.gr.a0).1,(cB t1 j.m.gr.a1).1,(cB t2 j.m.gr.a2).1,(cB t0 j.m.gr.b0).1,(cB t1 j.m.gr.b1).1,j.m.gr.b2⟩⟩⟩:ImgD).dv.map .d))]):=by
 have c0:=cN t0 t1 t2 j.m.c0 ht hm.c0
 rw[h0,if_pos rfl] at c0
 have c1:=cN t0 t1 t2 j.m.c1 ht hm.c1
 rw[h1,if_pos rfl] at c1
 have c2:=cN t0 t1 t2 j.m.c2 ht hm.c2
 rw[h2,if_pos rfl] at c2
 have c3:aJ Tryz.prog 49 [int 0,int j.m.gr.a0,.ptr (qN t0 t1 t2) 0] (.tup [int (cB t0 j.m.gr.a0).1,int (cB t0 j.m.gr.a0).2]):=bO t0 t1 t2 0 (by omega) j.m.gr.a0 ht (hm.gr _ (by simp[GrpD.ls]))
 rw[h3] at c3
 have c4:aJ Tryz.prog 49 [int 1,int j.m.gr.a1,.ptr (qN t0 t1 t2) 0] (.tup [int (cB t1 j.m.gr.a1).1,int (cB t1 j.m.gr.a1).2]):=bO t0 t1 t2 1 (by omega) j.m.gr.a1 ht (hm.gr _ (by simp[GrpD.ls]))
 rw[h4] at c4
 have c5:aJ Tryz.prog 49 [int 2,int j.m.gr.a2,.ptr (qN t0 t1 t2) 0] (.tup [int (cB t2 j.m.gr.a2).1,int (cB t2 j.m.gr.a2).2]):=bO t0 t1 t2 2 (by omega) j.m.gr.a2 ht (hm.gr _ (by simp[GrpD.ls]))
 rw[h5] at c5
 have c6:aJ Tryz.prog 49 [int 0,int j.m.gr.b0,.ptr (qN t0 t1 t2) 0] (.tup [int (cB t0 j.m.gr.b0).1,int (cB t0 j.m.gr.b0).2]):=bO t0 t1 t2 0 (by omega) j.m.gr.b0 ht (hm.gr _ (by simp[GrpD.ls]))
 rw[h6] at c6
 have c7:aJ Tryz.prog 49 [int 1,int j.m.gr.b1,.ptr (qN t0 t1 t2) 0] (.tup [int (cB t1 j.m.gr.b1).1,int (cB t1 j.m.gr.b1).2]):=bO t0 t1 t2 1 (by omega) j.m.gr.b1 ht (hm.gr _ (by simp[GrpD.ls]))
 rw[h7] at c7
 have c8:aJ Tryz.prog 49 [int 2,int j.m.gr.b2,.ptr (qN t0 t1 t2) 0] (.tup [int (cB t2 j.m.gr.b2).1,int (cB t2 j.m.gr.b2).2]):=bO t0 t1 t2 2 (by omega) j.m.gr.b2 ht (hm.gr _ (by simp[GrpD.ls]))
 have b8:((cB t2 j.m.gr.b2).2 != 0)=true:=by simpa using h8
 (refine FunG.of_bodyH rfl rfl Tryz.func56 rfl rfl Tryz.ntmps56 Tryz.results56 (Nat.le_of_ble_eq_true rfl) rfl ?_)
 (refine gO (ai @bA (ai @ImgD.dv.eq_1 (ai @PartD.dv.eq_1 (ai @StateD.dv.eq_1 (ai @CoordD.dv.eq_1 (ai @GrpD.dv.eq_1 (ai @List.map_append.{0,0} (ai @List.map_cons.{0,0} (ai @List.map_nil.{0,0} (ai @List.cons_append.{0} (@List.nil_append.{0}))))))))))) ?_;try with_reducible exact tt)
 (refine Wp.weak (aD.freeze (id:=1000) (by (refine aK ?_;try with_reducible exact tt);rfl) (by (refine aK ?_;try with_reducible exact tt);rfl)) ?_)
 refine Wp.rounds 4 (aN.go ?_)
 (repeat (first|apply Wp.skip|apply Wp.exit|apply Wp.ret|apply Wp.block|apply Wp.label|((first|refine Wp.sreg (fun K hK=>?_)|refine Wp.reg (fun K hK=>?_)|refine Wp.sdrw aA (fun K hK=>?_)|refine Wp.drw aA (fun K hK=>?_)|refine Wp.condG (fun K hK hF=>?_));(repeat (revert hK;intro hK;simp (maxSteps:=2000000) (disch:=omega) only[bF,TY,aL,bQ,cD,SV.ofD,bW,cF,bX,cQ,cL,CV.exact,CV.one,D.one,cC,dU,reduceCtorEq,Nat.reduceBEq,Nat.reduceAdd,Nat.reduceMul,Nat.reduceLT,Nat.reduceLeDiff,Int.reduceLE,Int.reduceLT,Int.reduceBNe,Int.reduceAdd,Int.reduceToNat,bA];(first|(refine hK _ ?_;clear hK K)|(refine⟨by kernel_rfl,hK _ ?_⟩;clear hK K)|(refine hK ?_;clear hK hF K)|(refine hF ?_;clear hK hF K)|refine aQ (by assumption) ?_|refine gJ (by assumption) ?_)));fail_if_success (revert hK;intro hK))|apply Wp.seq))
 refine Wp.rounds 3 (aN.go ?_)
 (repeat (first|apply Wp.skip|apply Wp.exit|apply Wp.ret|apply Wp.block|apply Wp.label|((first|refine Wp.sreg (fun K hK=>?_)|refine Wp.reg (fun K hK=>?_)|refine Wp.sdrw aA (fun K hK=>?_)|refine Wp.drw aA (fun K hK=>?_)|refine Wp.condG (fun K hK hF=>?_));(repeat (revert hK;intro hK;simp (maxSteps:=2000000) (disch:=omega) only[bF,aL,bQ,cD,Nat.reduceBEq,Nat.reduceAdd,Nat.reduceLT,Int.reduceLT];(first|(refine hK _ ?_;clear hK K)|(refine⟨by kernel_rfl,hK _ ?_⟩;clear hK K)|(refine hK ?_;clear hK hF K)|(refine hF ?_;clear hK hF K)|refine aQ (by assumption) ?_|refine gJ (by assumption) ?_)));fail_if_success (revert hK;intro hK))|apply Wp.seq))
 refine Wp.rounds 4 (aN.go ?_)
 (repeat (first|apply Wp.skip|apply Wp.exit|apply Wp.ret|apply Wp.block|apply Wp.label|((first|refine Wp.sreg (fun K hK=>?_)|refine Wp.reg (fun K hK=>?_)|refine Wp.sdrw aA (fun K hK=>?_)|refine Wp.drw aA (fun K hK=>?_)|refine Wp.condG (fun K hK hF=>?_));(repeat (revert hK;intro hK;simp (maxSteps:=2000000) (disch:=omega) only[bF,TY,aL,bQ,cD,SV.ofD,bW,cF,bX,cL,CV.exact,CV.one,D.one,Value.oneCell',cC,dU,reduceCtorEq,Nat.reduceBEq,Nat.reduceAdd,Nat.reduceMul,Nat.reduceLT,Nat.reduceLeDiff,Int.reduceLE,Int.reduceLT,Int.reduceBNe,Int.reduceAdd,Int.reduceToNat,bA,gA];(first|(refine hK _ ?_;clear hK K)|(refine⟨by kernel_rfl,hK _ ?_⟩;clear hK K)|(refine hK ?_;clear hK hF K)|(refine hF ?_;clear hK hF K)|refine aQ (by assumption) ?_|refine gJ (by assumption) ?_)));fail_if_success (revert hK;intro hK))|apply Wp.seq))
 refine Wp.rounds 4 (aN.go ?_)
 (repeat (first|apply Wp.skip|apply Wp.exit|apply Wp.ret|apply Wp.block|apply Wp.label|((first|refine Wp.sreg (fun K hK=>?_)|refine Wp.reg (fun K hK=>?_)|refine Wp.sdrw aA (fun K hK=>?_)|refine Wp.drw aA (fun K hK=>?_)|refine Wp.condG (fun K hK hF=>?_));(repeat (revert hK;intro hK;simp (maxSteps:=2000000) (disch:=omega) only[bF,TY,aL,bQ,cD,SV.ofD,bW,cF,bX,cL,CV.exact,CV.one,D.one,Value.oneCell',cC,dU,reduceCtorEq,Nat.reduceBEq,Nat.reduceAdd,Nat.reduceMul,Nat.reduceLT,Nat.reduceLeDiff,Int.reduceLE,Int.reduceLT,Int.reduceBNe,Int.reduceAdd,Int.reduceToNat,bA,gA,b8];(first|(refine hK _ ?_;clear hK K)|(refine⟨by kernel_rfl,hK _ ?_⟩;clear hK K)|(refine hK ?_;clear hK hF K)|(refine hF ?_;clear hK hF K)|refine aQ (by assumption) ?_|refine gJ (by assumption) ?_)));fail_if_success (revert hK;intro hK))|apply Wp.seq))
 refine cJ.ret ?_
 simp (maxSteps:=2000000) (disch:=omega) only[bF,jJ,kO,iO,ImgD.dv,PartD.dv,StateD.dv,CoordD.dv,GrpD.dv]
theorem aQo (t0 t1 t2:TabD) (j:ImgD) (ht:Tabs t0 t1 t2) (hm:MetaOk j.m) (h0:iW t0 t1 t2 j.m.c0=0) (h1:iW t0 t1 t2 j.m.c1=0) (h2:iW t0 t1 t2 j.m.c2=0) (h3:(cB t0 j.m.gr.a0).2=0) (h4:(cB t1 j.m.gr.a1).2=0) (h5:(cB t2 j.m.gr.a2).2=0) (h6:(cB t0 j.m.gr.b0).2=0) (h7:(cB t1 j.m.gr.b1).2=0) (h8:(cB t2 j.m.gr.b2).2=0):FunG Tryz.prog 56 [.c (.own 5 16),.c (.d (lI t0 t1 t2))] [5] (bJ [(5,.cells (j.dv.map .d))]) (.c (.d (dC true))) [5] (bJ [(5,.cells ((⟨j.tag,j.p0,j.p1,j.p2,⟨j.m.made,(iO t0 t1 t2 j.m.c0),(iO t0 t1 t2 j.m.c1),(iO t0 t1 t2 j.m.c2),⟨(cB t0 j.m.gr.a0).1,(cB t1 j.m.gr.a1).1,(cB t2 j.m.gr.a2).1,(cB t0 j.m.gr.b0).1,(cB t1 j.m.gr.b1).1,(cB t2 j.m.gr.b2).1⟩⟩⟩:ImgD).dv.map .d))]):=by
 have c0:=cN t0 t1 t2 j.m.c0 ht hm.c0
 rw[h0,if_pos rfl] at c0
 have c1:=cN t0 t1 t2 j.m.c1 ht hm.c1
 rw[h1,if_pos rfl] at c1
 have c2:=cN t0 t1 t2 j.m.c2 ht hm.c2
 rw[h2,if_pos rfl] at c2
 have c3:aJ Tryz.prog 49 [int 0,int j.m.gr.a0,.ptr (qN t0 t1 t2) 0] (.tup [int (cB t0 j.m.gr.a0).1,int (cB t0 j.m.gr.a0).2]):=bO t0 t1 t2 0 (by omega) j.m.gr.a0 ht (hm.gr _ (by simp[GrpD.ls]))
 rw[h3] at c3
 have c4:aJ Tryz.prog 49 [int 1,int j.m.gr.a1,.ptr (qN t0 t1 t2) 0] (.tup [int (cB t1 j.m.gr.a1).1,int (cB t1 j.m.gr.a1).2]):=bO t0 t1 t2 1 (by omega) j.m.gr.a1 ht (hm.gr _ (by simp[GrpD.ls]))
 rw[h4] at c4
 have c5:aJ Tryz.prog 49 [int 2,int j.m.gr.a2,.ptr (qN t0 t1 t2) 0] (.tup [int (cB t2 j.m.gr.a2).1,int (cB t2 j.m.gr.a2).2]):=bO t0 t1 t2 2 (by omega) j.m.gr.a2 ht (hm.gr _ (by simp[GrpD.ls]))
 rw[h5] at c5
 have c6:aJ Tryz.prog 49 [int 0,int j.m.gr.b0,.ptr (qN t0 t1 t2) 0] (.tup [int (cB t0 j.m.gr.b0).1,int (cB t0 j.m.gr.b0).2]):=bO t0 t1 t2 0 (by omega) j.m.gr.b0 ht (hm.gr _ (by simp[GrpD.ls]))
 rw[h6] at c6
 have c7:aJ Tryz.prog 49 [int 1,int j.m.gr.b1,.ptr (qN t0 t1 t2) 0] (.tup [int (cB t1 j.m.gr.b1).1,int (cB t1 j.m.gr.b1).2]):=bO t0 t1 t2 1 (by omega) j.m.gr.b1 ht (hm.gr _ (by simp[GrpD.ls]))
 rw[h7] at c7
 have c8:aJ Tryz.prog 49 [int 2,int j.m.gr.b2,.ptr (qN t0 t1 t2) 0] (.tup [int (cB t2 j.m.gr.b2).1,int (cB t2 j.m.gr.b2).2]):=bO t0 t1 t2 2 (by omega) j.m.gr.b2 ht (hm.gr _ (by simp[GrpD.ls]))
 rw[h8] at c8
 (refine FunG.of_bodyH rfl rfl Tryz.func56 rfl rfl Tryz.ntmps56 Tryz.results56 (Nat.le_of_ble_eq_true rfl) rfl ?_)
 (refine gO (ai @bA (ai @ImgD.dv.eq_1 (ai @PartD.dv.eq_1 (ai @StateD.dv.eq_1 (ai @CoordD.dv.eq_1 (ai @GrpD.dv.eq_1 (ai @List.map_append.{0,0} (ai @List.map_cons.{0,0} (ai @List.map_nil.{0,0} (ai @List.cons_append.{0} (@List.nil_append.{0}))))))))))) ?_;try with_reducible exact tt)
 (refine Wp.weak (aD.freeze (id:=1000) (by (refine aK ?_;try with_reducible exact tt);rfl) (by (refine aK ?_;try with_reducible exact tt);rfl)) ?_)
 refine Wp.rounds 4 (aN.go ?_)
 (repeat (first|apply Wp.skip|apply Wp.exit|apply Wp.ret|apply Wp.block|apply Wp.label|((first|refine Wp.sreg (fun K hK=>?_)|refine Wp.reg (fun K hK=>?_)|refine Wp.sdrw aA (fun K hK=>?_)|refine Wp.drw aA (fun K hK=>?_)|refine Wp.condG (fun K hK hF=>?_));(repeat (revert hK;intro hK;simp (maxSteps:=2000000) (disch:=omega) only[bF,TY,aL,bQ,cD,SV.ofD,bW,cF,bX,cQ,cL,CV.exact,CV.one,D.one,cC,dU,reduceCtorEq,Nat.reduceBEq,Nat.reduceAdd,Nat.reduceMul,Nat.reduceLT,Nat.reduceLeDiff,Int.reduceLE,Int.reduceLT,Int.reduceBNe,Int.reduceAdd,Int.reduceToNat,bA];(first|(refine hK _ ?_;clear hK K)|(refine⟨by kernel_rfl,hK _ ?_⟩;clear hK K)|(refine hK ?_;clear hK hF K)|(refine hF ?_;clear hK hF K)|refine aQ (by assumption) ?_|refine gJ (by assumption) ?_)));fail_if_success (revert hK;intro hK))|apply Wp.seq))
 refine Wp.rounds 3 (aN.go ?_)
 (repeat (first|apply Wp.skip|apply Wp.exit|apply Wp.ret|apply Wp.block|apply Wp.label|((first|refine Wp.sreg (fun K hK=>?_)|refine Wp.reg (fun K hK=>?_)|refine Wp.sdrw aA (fun K hK=>?_)|refine Wp.drw aA (fun K hK=>?_)|refine Wp.condG (fun K hK hF=>?_));(repeat (revert hK;intro hK;simp (maxSteps:=2000000) (disch:=omega) only[bF,aL,bQ,cD,Nat.reduceBEq,Nat.reduceAdd,Nat.reduceLT,Int.reduceLT];(first|(refine hK _ ?_;clear hK K)|(refine⟨by kernel_rfl,hK _ ?_⟩;clear hK K)|(refine hK ?_;clear hK hF K)|(refine hF ?_;clear hK hF K)|refine aQ (by assumption) ?_|refine gJ (by assumption) ?_)));fail_if_success (revert hK;intro hK))|apply Wp.seq))
 refine Wp.rounds 4 (aN.go ?_)
 (repeat (first|apply Wp.skip|apply Wp.exit|apply Wp.ret|apply Wp.block|apply Wp.label|((first|refine Wp.sreg (fun K hK=>?_)|refine Wp.reg (fun K hK=>?_)|refine Wp.sdrw aA (fun K hK=>?_)|refine Wp.drw aA (fun K hK=>?_)|refine Wp.condG (fun K hK hF=>?_));(repeat (revert hK;intro hK;simp (maxSteps:=2000000) (disch:=omega) only[bF,TY,aL,bQ,cD,SV.ofD,bW,cF,bX,cL,CV.exact,CV.one,D.one,Value.oneCell',cC,dU,reduceCtorEq,Nat.reduceBEq,Nat.reduceAdd,Nat.reduceMul,Nat.reduceLT,Nat.reduceLeDiff,Int.reduceLE,Int.reduceLT,Int.reduceBNe,Int.reduceAdd,Int.reduceToNat,bA,gA];(first|(refine hK _ ?_;clear hK K)|(refine⟨by kernel_rfl,hK _ ?_⟩;clear hK K)|(refine hK ?_;clear hK hF K)|(refine hF ?_;clear hK hF K)|refine aQ (by assumption) ?_|refine gJ (by assumption) ?_)));fail_if_success (revert hK;intro hK))|apply Wp.seq))
 refine Wp.rounds 4 (aN.go ?_)
 (repeat (first|apply Wp.skip|apply Wp.exit|apply Wp.ret|apply Wp.block|apply Wp.label|((first|refine Wp.sreg (fun K hK=>?_)|refine Wp.reg (fun K hK=>?_)|refine Wp.sdrw aA (fun K hK=>?_)|refine Wp.drw aA (fun K hK=>?_)|refine Wp.condG (fun K hK hF=>?_));(repeat (revert hK;intro hK;simp (maxSteps:=2000000) (disch:=omega) only[bF,TY,aL,bQ,cD,SV.ofD,bW,cF,bX,cL,CV.exact,CV.one,D.one,Value.oneCell',cC,dU,reduceCtorEq,Nat.reduceBEq,Nat.reduceAdd,Nat.reduceMul,Nat.reduceLT,Nat.reduceLeDiff,Int.reduceLE,Int.reduceLT,Int.reduceBNe,Int.reduceAdd,Int.reduceToNat,bA,gA];(first|(refine hK _ ?_;clear hK K)|(refine⟨by kernel_rfl,hK _ ?_⟩;clear hK K)|(refine hK ?_;clear hK hF K)|(refine hF ?_;clear hK hF K)|refine aQ (by assumption) ?_|refine gJ (by assumption) ?_)));fail_if_success (revert hK;intro hK))|apply Wp.seq))
 refine cJ.ret ?_
 simp (maxSteps:=2000000) (disch:=omega) only[bF,jJ,kO,iO,ImgD.dv,PartD.dv,StateD.dv,CoordD.dv,GrpD.dv]
end Go.Proofs.YtkmfmphpndhkjaaGreatDoor
