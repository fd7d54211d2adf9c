/- Package image: bared. -/
import Derived.Test.YtkmfmphpndhkjaaGreatDoorBaF
import Derived.Test.YtkmfmphpndhkjaaGreatDoorMacD
namespace Go.Proofs.YtkmfmphpndhkjaaGreatDoor
open Go Go.RowKit
set_option maxHeartbeats 16000000
set_option maxRecDepth 100000
set_option linter.unusedVariables false
set_option linter.unusedSimpArgs false
theorem aDr {H:Hp} {ρ:Nat→Nat} {B:Hp}:∀ {ks:List Nat},wF H ρ B ks→jR H ρ B ks=H
 | [],_=>rfl
 | k::ks,h=>by
  show upd (jR H ρ B ks) (ρ k) ((B k).map (HE.ren ρ))=H
  rw[aDr h.2,← h.1]
  funext i
  by_cases e:i=ρ k
  ·subst e;rw[aC]
  ·rw[aB _ _ e]
theorem jX.callR {P:Program} {fid:FuncId} {ars:List SV} {ks:List Nat} {B:Hp} {r:SV} (hf:FunG P fid ars ks B r ks B) (l:List (Nat × Nat)) (nx' : Nat) {all:List Oper} {o:Oper} {os:List Oper} {σ:St} {tm:List FootM} {k:St→List FootM→Prop} {f:Operand} {args:Array Operand} {tys:Array TypeId}
  (hop:o.op = .call { callee:=.value f,args:=args,argTypes:=tys }) (hl:aIy l=true) (hc:iN P all o f args σ (iP l) fid ars ks B ks)
  (h:jX P all os ⟨mO σ.env o.dst (r.ren (iP l)),σ.H,nx',σ.sz,σ.fx⟩ (⟨ks.map (iP l),[]⟩::tm) k):jX P all (o::os) σ tm k:=by
 refine jX.rule (σ2:=⟨mO σ.env o.dst (r.ren (iP l)),σ.H,nx',σ.sz,σ.fx⟩) (ks.map (iP l)) [] (fun _ h=>by simp at h) (r.ren (iP l)) rfl rfl rfl (fun i hi=>rfl) (fun E H hE hH=>?_) h
 obtain⟨hg,hd,hcap,hat,hnew,hdf⟩:=hc
 have ef:bV E f=bV σ.env f:=oY hE (by rw[hop];exact aKs _ _ _)
 have ea:args.toList.map (bV E)=args.toList.map (bV σ.env):=List.map_congr_left (fun x hx=>oY hE (by rw[hop];exact aKr _ _ _ hx))
 have hat':=wP (fun k hk=>hH _ (List.mem_map.2 ⟨k,hk,rfl⟩)) hat
 refine cU.call hf l σ.nx hop hl ⟨(jP hE).trans hg,hd,?_,hat',tU (fun k hk=>hH _ (List.mem_map.2 ⟨k,hk,rfl⟩)) hnew,hdf⟩ (cU.ret ⟨rfl,?_,rfl,rfl⟩)
 ·show (match fX (bV E f) with
   | some (fid',pre,cs)=>fid' = fid∧pre.map (SV.ren (iP l))++((args.toList.map (bV E)).map (SV.ren (iP l))++cs.map (SV.ren (iP l)))=ars
   | none=>False)
  rw[ef,ea];exact hcap
 ·show jR H (iP l) B ks=over [] H σ.H
  rw[aDr hat',aB8]
abbrev aVn:D:=str [97,110,32,105,109,97,103,101,32,116,104,97,116,32,105,115,32,110,111,116,32,118,97,108,105,100]
abbrev aP3:D:=str [97,32,98,97,115,101]
abbrev aVo:D:=str [97,110,32,111,102,102,115,101,116,32,111,102,32,97,32,103,114,111,117,112]
theorem fO {p:PartD} (h:bB p=true) (hl:p.rows.length≤1048576):yC p (iL p)=(aZ p,0):=by
 unfold yC aZ;rw[if_pos (xU h hl)]
theorem dX {p:PartD} (h:bB p=true):(aZ p).Fits:=by
 obtain⟨g1,g2,g3⟩:=jI h
 refine⟨?_,?_,?_⟩
 ·show (mS p (iL p) (p.fin - p.start+1).toNat).length≤maxLen
  rw[fH]
  have:1048577≤maxLen:=by decide +kernel
  omega
 ·show -9223372036854775808≤p.start∧p.start≤9223372036854775807
  omega
 ·show -9223372036854775808≤p.fin∧p.fin≤9223372036854775807
  omega
theorem eB:lF.Fits:=⟨Nat.zero_le _,by decide,by decide⟩
def pT (p:PartD):PartD:=⟨0,p.rows.length,cX p.rows,p.opens,(p.prods.map fun x=>(yG (aZ p) x).1)⟩
def oA (p:PartD):Int:=kK (yG (aZ p)) p.prods
structure BaseOk (p:PartD):Prop where
 len:p.prods.length≤100000
 seen:∀ x ∈ p.prods,x.seen.length≤100000
 base:∀ x ∈ p.prods,∀ s ∈ x.seen,aG1 s.base
abbrev tBz (t0 t1 t2:TabD) (z:Int):List (Nat × HE):=[(0,.cells (jN t0 t1 t2)),(1,.cells [aU5 0]),(2,.cells [.d (int z)])]
theorem dY (t0 t1 t2:TabD) (q:Nat) (hq:q<3) (ht:Tabs t0 t1 t2) (p:PartD) (hp:BaseOk p) (hsel:kQ t0 t1 t2 q=aZ p) (z:Int) (hz:z=(q:Int)) :
  FunG Tryz.prog 52 [.c (.d (.lst 4 (p.prods.map ProdD.dv))),.c (.clo (.func 53) [.own 1 0,.own 2 0])] [0,1,2] (bJ (tBz t0 t1 t2 z)) (.c (.d (.tup [.lst 4 (if oA p=0 then (pT p).prods.map ProdD.dv else []),int (oA p)]))) [0,1,2] (bJ (tBz t0 t1 t2 z)):=by
 subst hz
 obtain⟨r,hr,c⟩:=aEn t0 t1 t2 q (yG (kQ t0 t1 t2 q)) p.prods hp.len (fun x hx=>aNw t0 t1 t2 q hq x ht (hp.seen x hx) (hp.base x hx))
 have c1:=c.weakerD hr
 rw[hsel] at c1
 exact c1
theorem aGr {F:Fr} {K0:aW} {g:G} {H:Hp} {w:World} {f:Fn} {id:Nat} {ds:List D} {v:Value} (hm:RelH F K0 g H w) (hid:H id=some (.froz ds)) (r:bG g H (.clo f [.own id 0]) v):bG g H (.d (.fn f [.ptr ds 0])) v:=by
 obtain⟨vs,rfl,hl,hc⟩:=r
 match vs,hl with
 | [u],_ =>
  obtain⟨b,hb,rfl,_⟩:=hc 0 _ u rfl rfl
  obtain⟨b',vs',hb',hr,h1,hk⟩:=hm.holds id _ hid
  rw[hb] at hb';cases hb'
  have hp:=Rep.ptr (K:=g.K) (b:=b) (o:=0) (off:=0) hr.1 hr.2 h1 (fun j v hj=>by rw[Nat.zero_add];exact hk j v hj)
  exact Rep.fn (vs:=[_]) rfl (fun j x v hx hv=>by
   cases j with
   | zero=>cases hx;cases hv;exact hp
   | succ j=>cases hx)
theorem aHn:jA (.agg [i8 0,int 0,int 0,bU,bU,bU,int 0,int 0,bU,bU,bU,int 0,int 0,bU,bU,bU,int 0,i8 0,int 0,int 0,int 0,int 0,bU,bU,int 0,i8 0,int 0,int 0,int 0,int 0,bU,bU,int 0,i8 0,int 0,int 0,int 0,int 0,bU,bU,int 0,int 0,int 0,int 0,int 0,int 0,int 0]) (.agg iz.dv):=by
 have kp:∀ (l l' : List D),AllLe l l'→AllLe ([int 0,int 0,bU,bU,bU]++l) (pz.dv++l'):=fun l l' h =>
  .cons (.refl _) (.cons (.refl _) (.cons (.nil 5) (.cons (.nil 3) (.cons (.nil 4) h))))
 have kc:∀ (l l' : List D),AllLe l l'→AllLe ([i8 0,int 0,int 0,int 0,int 0,bU,bU,int 0]++l) (cz.dv++l'):=fun l l' h =>
  .cons (.refl _) (.cons (.refl _) (.cons (.refl _) (.cons (.refl _) (.cons (.refl _) (.cons (.nil 1) (.cons (.nil 3) (.cons (.refl _) h)))))))
 have hg:∀ l:List D,AllLe l l:=fun l=>by
  induction l with
  | nil=>exact .nil
  | cons a l ih=>exact .cons (.refl _) ih
 exact .agg (.cons (.refl _) (kp _ _ (kp _ _ (kp _ _ (.cons (.refl _) (kc _ _ (kc _ _ (kc _ _ (hg _)))))))))
structure AllOk (i:ImgD):Prop where
 s:SmallI i
 r:RowsOk i
 b0:BaseOk i.p0
 b1:BaseOk i.p1
 b2:BaseOk i.p2
 m:MetaOk i.m
def kP (i:ImgD):ImgD:=⟨0,pT i.p0,pT i.p1,pT i.p2,i.m⟩
theorem aJg (i:ImgD) (hs:SmallI i) (hc:aS i=false):∃ x,aJ Tryz.prog 26 [.agg i.dv] (.tup [.agg iz.dv,kL x 2]):=by
 have cP:=cG i hs
 rw[hc] at cP
 simp only[ImgD.dv,PartD.dv,StateD.dv,CoordD.dv,GrpD.dv,List.cons_append,List.nil_append,Bool.false_eq_true,if_false] at cP
 refine⟨aVn,?_⟩
 (refine aJ.of_bodyW Tryz.func26 rfl rfl Tryz.ntmps26 Tryz.results26 (by simp) ?_)
 (refine gO (ai @ImgD.dv.eq_1 (ai @PartD.dv.eq_1 (ai @StateD.dv.eq_1 (ai @CoordD.dv.eq_1 (@GrpD.dv.eq_1))))) ?_;try with_reducible exact tt)
 (refine aK ?_;try with_reducible exact tt)
 exact⟨_,rfl,jA.tup (.cons aHn (.cons (.refl _) .nil))⟩
theorem aGc (i:ImgD) (ha:AllOk i) (hc:aS i=true)  (h0:¬ oA i.p0=0):∃ x,aJ Tryz.prog 26 [.agg i.dv] (.tup [.agg iz.dv,kL x 2]):=by
 refine⟨aP3,?_⟩
 have cP:=cG i ha.s
 have cS:=mG i.m ha.s.m
 have hp:=fun q=>dA (bI hc q)
 have cb0:=fI i.p0 ha.s.p0
 have cb1:=fI i.p1 ha.s.p1
 have cb2:=fI i.p2 ha.s.p2
 rw[hc,if_pos rfl] at cP
 rw[fO (p:=i.p0) (hp 0) (ha.r.p 0)] at cb0
 rw[fO (p:=i.p1) (hp 1) (ha.r.p 1)] at cb1
 rw[fO (p:=i.p2) (hp 2) (ha.r.p 2)] at cb2
 have f0:(aZ i.p0).Fits:=dX (hp 0)
 have f1:(aZ i.p1).Fits:=dX (hp 1)
 have f2:(aZ i.p2).Fits:=dX (hp 2)
 have e0:=dY (aZ i.p0) lF lF 0 (by omega) ⟨f0,eB,eB⟩ i.p0 ha.b0 rfl 0 rfl
 have e1:=dY (aZ i.p0) (aZ i.p1) lF 1 (by omega) ⟨f0,f1,eB⟩ i.p1 ha.b1 rfl 1 rfl
 have e2:=dY (aZ i.p0) (aZ i.p1) (aZ i.p2) 2 (by omega) ⟨f0,f1,f2⟩ i.p2 ha.b2 rfl 2 rfl
 simp only[ImgD.dv,PartD.dv,StateD.dv,CoordD.dv,GrpD.dv,TabD.dv,iL,List.cons_append,List.nil_append] at cP cS cb0 cb1 cb2
 rw[if_neg h0] at e0
 have b0:(oA i.p0 != 0)=true:=by simpa using h0
 (refine aJ.of_bodyW Tryz.func26 rfl rfl Tryz.ntmps26 Tryz.results26 (by simp) ?_)
 (repeat (first|apply Wp.skip|apply Wp.exit|apply Wp.ret|apply Wp.block|apply Wp.label|((first|refine Wp.sreg (fun K hK=>?_)|refine Wp.reg (fun K hK=>?_)|refine Wp.sdrw aA (fun K hK=>?_)|refine Wp.drw aA (fun K hK=>?_)|refine Wp.condG (fun K hK hF=>?_));(repeat (revert hK;intro hK;simp (maxSteps:=2000000) (disch:=omega) only[bF,TY,aL,bQ,cD,SV.ofD,bW,cF,bX,fB,bK,fC,eQ,cQ,cL,dO,eZ,eY,fA,CV.exact,CV.lstOf,CV.lenOf,CV.one,D.one,Value.oneCell',CV.toD0,fS,cC,dU,eV,rD0,eS,eO,fT,reduceCtorEq,reduceIte,Nat.reduceBEq,Nat.reduceEqDiff,Nat.reduceAdd,Nat.reduceMul,Nat.reduceSub,Nat.reduceLT,Nat.reduceLeDiff,Nat.reduceBNe,Int.reduceLE,Int.reduceLT,Int.reduceBEq,Int.reduceBNe,Int.reduceEq,Int.reduceNeg,Int.reduceAdd,Int.reduceSub,Int.reduceToNat,forall_const,ImgD.dv,PartD.dv,StateD.dv,CoordD.dv,GrpD.dv,iZ,gA];(first|(refine hK _ ?_;clear hK K)|(refine⟨by kernel_rfl,hK _ ?_⟩;clear hK K)|(refine hK ?_;clear hK hF K)|(refine hF ?_;clear hK hF K)|refine aQ (by assumption) ?_|refine gJ (by assumption) ?_)));fail_if_success (revert hK;intro hK))|apply Wp.seq))
 refine Wp.weak (aD.cellAt (id:=3) (k:=2) (cs:=[.d (int 0),.d (int 0),.d bU,.d (int 0),.d (int 0),.d bU,.d (int 0),.d (int 0),.d bU]) (y:=.d (.lst 1 [])) (by (refine aK ?_;try with_reducible exact tt)) rfl (fun g v h=>jA.nil 1 _ _ h)) ?_
 refine Wp.weak (aD.cellAt (id:=3) (k:=5) (cs:=[.d (int 0),.d (int 0),.d (.lst 1 []),.d (int 0),.d (int 0),.d bU,.d (int 0),.d (int 0),.d bU]) (y:=.d (.lst 1 [])) (by (refine rO (ai @List.set_cons_succ.{0} (@List.set_cons_zero.{0})) ?_;try with_reducible exact tt)) rfl (fun g v h=>jA.nil 1 _ _ h)) ?_
 refine Wp.weak (aD.cellAt (id:=3) (k:=8) (cs:=[.d (int 0),.d (int 0),.d (.lst 1 []),.d (int 0),.d (int 0),.d (.lst 1 []),.d (int 0),.d (int 0),.d bU]) (y:=.d (.lst 1 [])) (by (refine rO (ai @List.set_cons_succ.{0} (@List.set_cons_zero.{0})) ?_;try with_reducible exact tt)) rfl (fun g v h=>jA.nil 1 _ _ h)) ?_
 refine Wp.rounds 4 (aN.go ?_)
 (repeat (first|apply Wp.skip|apply Wp.exit|apply Wp.ret|apply Wp.block|apply Wp.label|((first|refine Wp.sreg (fun K hK=>?_)|refine Wp.reg (fun K hK=>?_)|refine Wp.sdrw aA (fun K hK=>?_)|refine Wp.drw aA (fun K hK=>?_)|refine Wp.condG (fun K hK hF=>?_));(repeat (revert hK;intro hK;simp (maxSteps:=2000000) (disch:=omega) only[bF,TY,aL,bQ,cD,SV.ofD,bW,cF,bX,fB,bK,fC,eQ,cQ,cL,dO,eZ,eY,fA,CV.exact,CV.lstOf,CV.lenOf,CV.one,D.one,Value.oneCell',CV.toD0,fS,cC,dU,eV,rD0,eS,eO,fT,reduceCtorEq,reduceIte,Nat.reduceBEq,Nat.reduceEqDiff,Nat.reduceAdd,Nat.reduceMul,Nat.reduceSub,Nat.reduceLT,Nat.reduceLeDiff,Nat.reduceBNe,Int.reduceLE,Int.reduceLT,Int.reduceBEq,Int.reduceBNe,Int.reduceEq,Int.reduceNeg,Int.reduceAdd,Int.reduceSub,Int.reduceToNat,forall_const,ImgD.dv,PartD.dv,StateD.dv,CoordD.dv,GrpD.dv,iZ,List.set_cons_succ,List.set_cons_zero];(first|(refine hK _ ?_;clear hK K)|(refine⟨by kernel_rfl,hK _ ?_⟩;clear hK K)|(refine hK ?_;clear hK hF K)|(refine hF ?_;clear hK hF K)|refine aQ (by assumption) ?_|refine gJ (by assumption) ?_)));fail_if_success (revert hK;intro hK))|apply Wp.seq))
 (first|refine Wp.sregM aA ?_|refine Wp.regM aA ?_|(refine Wp.seq ?_;first|refine Wp.sregM aA ?_|refine Wp.regM aA ?_))
 (refine jX.at 4 (fun K hK=>?_);simp (maxSteps:=2000000) (disch:=omega) only[bF,TY,aL,bQ,cD,SV.ofD,bW,cF,bX,fB,bK,fC,eQ,cQ,cL,dO,eZ,eY,fA,CV.exact,CV.lstOf,CV.lenOf,CV.one,D.one,Value.oneCell',CV.toD0,fS,cC,dU,eV,rD0,eS,eO,fT,reduceCtorEq,reduceIte,Nat.reduceBEq,Nat.reduceEqDiff,Nat.reduceAdd,Nat.reduceMul,Nat.reduceSub,Nat.reduceLT,Nat.reduceLeDiff,Nat.reduceBNe,Int.reduceLE,Int.reduceLT,Int.reduceBEq,Int.reduceBNe,Int.reduceEq,Int.reduceNeg,Int.reduceAdd,Int.reduceSub,Int.reduceToNat,forall_const,bA,iZ,ImgD.dv,PartD.dv,StateD.dv,CoordD.dv,GrpD.dv,List.set_cons_succ,List.set_cons_zero];refine hK _ _ ?_;clear hK K)
 (refine jX.callR (e0) [(0,3),(1,4),(2,5)] 20 rfl rfl ?_ ?_;(focus (simp (maxSteps:=2000000) (disch:=omega) only[bF,TY,aL,bQ,cD,SV.ofD,bW,cF,bX,fB,bK,fC,eQ,cQ,cL,dO,eZ,eY,fA,CV.exact,CV.lstOf,CV.lenOf,CV.one,D.one,Value.oneCell',CV.toD0,fS,cC,dU,eV,rD0,eS,eO,fT,reduceCtorEq,reduceIte,Nat.reduceBEq,Nat.reduceEqDiff,Nat.reduceAdd,Nat.reduceMul,Nat.reduceSub,Nat.reduceLT,Nat.reduceLeDiff,Nat.reduceBNe,Int.reduceLE,Int.reduceLT,Int.reduceBEq,Int.reduceBNe,Int.reduceEq,Int.reduceNeg,Int.reduceAdd,Int.reduceSub,Int.reduceToNat,forall_const,iN,wF,lR,fX,List.nil_append,Cap.sv,iP,SV.ren,CV.ren,nI,cR,pP,bA,jN,lF,Cap.ren,List.map_cons,List.map_nil,pT];done)))
 (refine jX.done (fun K hK=>?_);simp (maxSteps:=2000000) (disch:=omega) only[bF,TY,aL,bQ,cD,SV.ofD,bW,cF,bX,fB,bK,fC,eQ,cQ,cL,dO,eZ,eY,fA,CV.exact,CV.lstOf,CV.lenOf,CV.one,D.one,Value.oneCell',CV.toD0,fS,cC,dU,eV,rD0,eS,eO,fT,reduceCtorEq,reduceIte,Nat.reduceBEq,Nat.reduceEqDiff,Nat.reduceAdd,Nat.reduceMul,Nat.reduceSub,Nat.reduceLT,Nat.reduceLeDiff,Nat.reduceBNe,Int.reduceLE,Int.reduceLT,Int.reduceBEq,Int.reduceBNe,Int.reduceEq,Int.reduceNeg,Int.reduceAdd,Int.reduceSub,Int.reduceToNat,forall_const,bA,jR,iP,SV.ren,CV.ren,nI,jN,lF,Cap.ren,List.map_cons,List.map_nil,pT];refine hK _ _ ?_;clear hK K;refine⟨by kernel_rfl,?_⟩)
 (refine gO (b0) ?_;try with_reducible exact tt)
 (refine aK ?_;try with_reducible exact tt)
 exact⟨_,rfl,jA.tup (.cons aHn (.cons (.refl _) .nil))⟩
end Go.Proofs.YtkmfmphpndhkjaaGreatDoor
