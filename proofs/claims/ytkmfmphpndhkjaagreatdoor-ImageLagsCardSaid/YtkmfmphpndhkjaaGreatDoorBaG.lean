/- Package image: bared. -/
import Derived.Test.YtkmfmphpndhkjaaGreatDoorBaF
import Derived.Test.YtkmfmphpndhkjaaGreatDoorMacD
namespace Go.Proofs.YtkmfmphpndhkjaaGreatDoor
open Go Go.RowKit
set_option maxHeartbeats 16000000
set_option maxRecDepth 100000
set_option linter.unusedVariables false
set_option linter.unusedSimpArgs false
theorem aAm {H:Hp} {ρ:Nat→Nat} {B:Hp}:∀ {ks:List Nat},tI H ρ B ks→hZ H ρ B ks=H
 | [],_=>rfl
 | k::ks,h=>by
  show upd (hZ H ρ B ks) (ρ k) ((B k).map (HE.ren ρ))=H
  rw[aAm h.2,← h.1]
  funext i
  by_cases e:i=ρ k
  ·subst e;rw[aC]
  ·rw[aB _ _ e]
theorem jF.callR {P:Program} {fid:FuncId} {ars:List SV} {ks:List Nat} {B:Hp} {r:SV} (hf:FunG P fid ars ks B r ks B) (l:List (Nat × Nat)) (nx' : Nat) {all:List Oper} {o:Oper} {os:List Oper} {σ:St} {tm:List FootM} {k:St→List FootM→Prop} {f:Operand} {args:Array Operand} {tys:Array TypeId}
  (hop:o.op = .call { callee:=.value f,args:=args,argTypes:=tys }) (hl:aF0 l=true) (hc:iC P all o f args σ (fQ l) fid ars ks B ks)
  (h:jF P all os ⟨lH σ.env o.dst (r.ren (fQ l)),σ.H,nx',σ.sz,σ.fx⟩ (⟨ks.map (fQ l),[]⟩::tm) k):jF P all (o::os) σ tm k:=by
 refine jF.rule (σ2:=⟨lH σ.env o.dst (r.ren (fQ l)),σ.H,nx',σ.sz,σ.fx⟩) (ks.map (fQ l)) [] (fun _ h=>by simp at h) (r.ren (fQ l)) rfl rfl rfl (fun i hi=>rfl) (fun E H hE hH=>?_) h
 obtain⟨hg,hd,hcap,hat,hnew,hdf⟩:=hc
 have ef:cI E f=cI σ.env f:=nO hE (by rw[hop];exact aGp _ _ _)
 have ea:args.toList.map (cI E)=args.toList.map (cI σ.env):=List.map_congr_left (fun x hx=>nO hE (by rw[hop];exact aGo _ _ _ hx))
 have hat':=tJ (fun k hk=>hH _ (List.mem_map.2 ⟨k,hk,rfl⟩)) hat
 refine dF.call hf l σ.nx hop hl ⟨(iV hE).trans hg,hd,?_,hat',qZ (fun k hk=>hH _ (List.mem_map.2 ⟨k,hk,rfl⟩)) hnew,hdf⟩ (dF.ret ⟨rfl,?_,rfl,rfl⟩)
 ·show (match fO (cI E f) with
   | some (fid',pre,cs)=>fid' = fid∧pre.map (SV.ren (fQ l))++((args.toList.map (cI E)).map (SV.ren (fQ l))++cs.map (SV.ren (fQ l)))=ars
   | none=>False)
  rw[ef,ea];exact hcap
 ·show hZ H (fQ l) B ks=over [] H σ.H
  rw[aAm hat',xU]
abbrev aQm:D:=str [97,110,32,105,109,97,103,101,32,116,104,97,116,32,105,115,32,110,111,116,32,118,97,108,105,100]
abbrev aKi:D:=str [97,32,98,97,115,101]
abbrev aQn:D:=str [97,110,32,111,102,102,115,101,116,32,111,102,32,97,32,103,114,111,117,112]
theorem eR {p:PartD} (h:cD p=true) (hl:p.rows.length≤1048576):uR p (jA p)=(aY p,0):=by
 unfold uR aY;rw[if_pos (aCs h hl)]
theorem dR {p:PartD} (h:cD p=true):(aY p).Fits:=by
 obtain⟨g1,g2,g3⟩:=fM h
 refine⟨?_,?_,?_⟩
 ·show (mW p (jA p) (p.fin - p.start+1).toNat).length≤maxLen
  rw[jT]
  have:1048577≤maxLen:=by decide +kernel
  omega
 ·show -9223372036854775808≤p.start∧p.start≤9223372036854775807
  omega
 ·show -9223372036854775808≤p.fin∧p.fin≤9223372036854775807
  omega
theorem dW:fR.Fits:=⟨Nat.zero_le _,by decide,by decide⟩
def iH (p:PartD):PartD:=⟨0,p.rows.length,iB p.rows,p.opens,(p.prods.map fun x=>(uT (aY p) x).1)⟩
def mO (p:PartD):Int:=jP (uT (aY p)) p.prods
structure BaseOk (p:PartD):Prop where
 len:p.prods.length≤100000
 seen:∀ x ∈ p.prods,x.seen.length≤100000
 base:∀ x ∈ p.prods,∀ s ∈ x.seen,aCg s.base
abbrev tBz (t0 t1 t2:TabD) (z:Int):List (Nat × HE):=[(0,.cells (gC t0 t1 t2)),(1,.cells [aP1 0]),(2,.cells [.d (int z)])]
theorem dS (t0 t1 t2:TabD) (q:Nat) (hq:q<3) (ht:Tabs t0 t1 t2) (p:PartD) (hp:BaseOk p) (hsel:jW t0 t1 t2 q=aY p) (z:Int) (hz:z=(q:Int)) :
  FunG Tryz.prog 52 [.c (.d (.lst 4 (p.prods.map ProdD.dv))),.c (.clo (.func 53) [.own 1 0,.own 2 0])] [0,1,2] (cL (tBz t0 t1 t2 z)) (.c (.d (.tup [.lst 4 (if mO p=0 then (iH p).prods.map ProdD.dv else []),int (mO p)]))) [0,1,2] (cL (tBz t0 t1 t2 z)):=by
 subst hz
 obtain⟨r,hr,c⟩:=aBe t0 t1 t2 q (uT (jW t0 t1 t2 q)) p.prods hp.len (fun x hx=>aJl t0 t1 t2 q hq x ht (hp.seen x hx) (hp.base x hx))
 have c1:=c.weakerD hr
 rw[hsel] at c1
 exact c1
theorem aD9 {F:Fr} {K0:aU} {g:G} {H:Hp} {w:World} {f:Fn} {id:Nat} {ds:List D} {v:Value} (hm:RelH F K0 g H w) (hid:H id=some (.froz ds)) (r:bG g H (.clo f [.own id 0]) v):bG g H (.d (.fn f [.ptr ds 0])) v:=by
 obtain⟨vs,rfl,hl,hc⟩:=r
 match vs,hl with
 | [u],_ =>
  obtain⟨b,hb,rfl,_⟩:=hc 0 _ u rfl rfl
  obtain⟨b',vs',hb',hr,h1,hk⟩:=hm.holds id _ hid
  rw[hb] at hb';cases hb'
  have hp:=Rep.ptr (K:=g.K) (b:=b) (o:=0) (off:=0) hr.1 hr.2 h1 (fun j v hj=>by rw[Nat.zero_add];exact hk j v hj)
  exact Rep.fn (vs:=[_]) rfl (fun j x v hx hv=>by
   cases j with
   | zero=>cases hx;cases hv;exact hp
   | succ j=>cases hx)
theorem aDx:iI (.agg [i8 0,int 0,int 0,cH,cH,cH,int 0,int 0,cH,cH,cH,int 0,int 0,cH,cH,cH,int 0,i8 0,int 0,int 0,int 0,int 0,cH,cH,int 0,i8 0,int 0,int 0,int 0,int 0,cH,cH,int 0,i8 0,int 0,int 0,int 0,int 0,cH,cH,int 0,int 0,int 0,int 0,int 0,int 0,int 0]) (.agg iz.dv):=by
 have kp:∀ (l l' : List D),AllLe l l'→AllLe ([int 0,int 0,cH,cH,cH]++l) (pz.dv++l'):=fun l l' h =>
  .cons (.refl _) (.cons (.refl _) (.cons (.nil 5) (.cons (.nil 3) (.cons (.nil 4) h))))
 have kc:∀ (l l' : List D),AllLe l l'→AllLe ([i8 0,int 0,int 0,int 0,int 0,cH,cH,int 0]++l) (cz.dv++l'):=fun l l' h =>
  .cons (.refl _) (.cons (.refl _) (.cons (.refl _) (.cons (.refl _) (.cons (.refl _) (.cons (.nil 1) (.cons (.nil 3) (.cons (.refl _) h)))))))
 have hg:∀ l:List D,AllLe l l:=fun l=>by
  induction l with
  | nil=>exact .nil
  | cons a l ih=>exact .cons (.refl _) ih
 exact .agg (.cons (.refl _) (kp _ _ (kp _ _ (kp _ _ (.cons (.refl _) (kc _ _ (kc _ _ (kc _ _ (hg _)))))))))
structure AllOk (i:ImgD):Prop where
 s:SmallI i
 r:RowsOk i
 b0:BaseOk i.p0
 b1:BaseOk i.p1
 b2:BaseOk i.p2
 m:MetaOk i.m
def iX (i:ImgD):ImgD:=⟨0,iH i.p0,iH i.p1,iH i.p2,i.m⟩
theorem aFh (i:ImgD) (hs:SmallI i) (hc:aX i=false):∃ x,aJ Tryz.prog 26 [.agg i.dv] (.tup [.agg iz.dv,jQ x 2]):=by
 have cP:=cN i hs
 rw[hc] at cP
 simp only[ImgD.dv,PartD.dv,StateD.dv,CoordD.dv,GrpD.dv,List.cons_append,List.nil_append,Bool.false_eq_true,if_false] at cP
 refine⟨aQm,?_⟩
 (refine aJ.of_bodyW Tryz.func26 rfl rfl Tryz.ntmps26 Tryz.results26 (by simp) ?_)
 (refine gO (ai @ImgD.dv.eq_1 (ai @PartD.dv.eq_1 (ai @StateD.dv.eq_1 (ai @CoordD.dv.eq_1 (@GrpD.dv.eq_1))))) ?_;try with_reducible exact tt)
 (refine aM ?_;try with_reducible exact tt)
 exact⟨_,rfl,iI.tup (.cons aDx (.cons (.refl _) .nil))⟩
theorem aCu (i:ImgD) (ha:AllOk i) (hc:aX i=true)  (h0:¬ mO i.p0=0):∃ x,aJ Tryz.prog 26 [.agg i.dv] (.tup [.agg iz.dv,jQ x 2]):=by
 refine⟨aKi,?_⟩
 have cP:=cN i ha.s
 have cS:=lB i.m ha.s.m
 have hp:=fun q=>eQ (cU hc q)
 have cb0:=eL i.p0 ha.s.p0
 have cb1:=eL i.p1 ha.s.p1
 have cb2:=eL i.p2 ha.s.p2
 rw[hc,if_pos rfl] at cP
 rw[eR (p:=i.p0) (hp 0) (ha.r.p 0)] at cb0
 rw[eR (p:=i.p1) (hp 1) (ha.r.p 1)] at cb1
 rw[eR (p:=i.p2) (hp 2) (ha.r.p 2)] at cb2
 have f0:(aY i.p0).Fits:=dR (hp 0)
 have f1:(aY i.p1).Fits:=dR (hp 1)
 have f2:(aY i.p2).Fits:=dR (hp 2)
 have e0:=dS (aY i.p0) fR fR 0 (by omega) ⟨f0,dW,dW⟩ i.p0 ha.b0 rfl 0 rfl
 have e1:=dS (aY i.p0) (aY i.p1) fR 1 (by omega) ⟨f0,f1,dW⟩ i.p1 ha.b1 rfl 1 rfl
 have e2:=dS (aY i.p0) (aY i.p1) (aY i.p2) 2 (by omega) ⟨f0,f1,f2⟩ i.p2 ha.b2 rfl 2 rfl
 simp only[ImgD.dv,PartD.dv,StateD.dv,CoordD.dv,GrpD.dv,TabD.dv,jA,List.cons_append,List.nil_append] at cP cS cb0 cb1 cb2
 rw[if_neg h0] at e0
 have b0:(mO i.p0 != 0)=true:=by simpa using h0
 (refine aJ.of_bodyW Tryz.func26 rfl rfl Tryz.ntmps26 Tryz.results26 (by simp) ?_)
 (repeat (first|apply Wp.skip|apply Wp.exit|apply Wp.ret|apply Wp.block|apply Wp.label|((first|refine Wp.sreg (fun K hK=>?_)|refine Wp.reg (fun K hK=>?_)|refine Wp.sdrw aA (fun K hK=>?_)|refine Wp.drw aA (fun K hK=>?_)|refine Wp.condG (fun K hK hF=>?_));(repeat (revert hK;intro hK;simp (maxSteps:=2000000) (disch:=omega) only[bZ,TY,aK,bD,bS,SV.ofD,bA,bF,bO,bP,aI,bQ,bI,bH,bR,bE,bM,bL,bN,CV.exact,CV.lstOf,CV.lenOf,CV.one,D.one,Value.oneCell',CV.toD0,bU,bC,bW,bK,rD0,bY,bJ,bV,reduceCtorEq,reduceIte,Nat.reduceBEq,Nat.reduceEqDiff,Nat.reduceAdd,Nat.reduceMul,Nat.reduceSub,Nat.reduceLT,Nat.reduceLeDiff,Nat.reduceBNe,Int.reduceLE,Int.reduceLT,Int.reduceBEq,Int.reduceBNe,Int.reduceEq,Int.reduceNeg,Int.reduceAdd,Int.reduceSub,Int.reduceToNat,forall_const,ImgD.dv,PartD.dv,StateD.dv,CoordD.dv,GrpD.dv,iG,cJ];(first|(refine hK _ ?_;clear hK K)|(refine⟨by kernel_rfl,hK _ ?_⟩;clear hK K)|(refine hK ?_;clear hK hF K)|(refine hF ?_;clear hK hF K)|refine aV (by assumption) ?_|refine gM (by assumption) ?_)));fail_if_success (revert hK;intro hK))|apply Wp.seq))
 refine Wp.weak (aD.cellAt (id:=3) (k:=2) (cs:=[.d (int 0),.d (int 0),.d cH,.d (int 0),.d (int 0),.d cH,.d (int 0),.d (int 0),.d cH]) (y:=.d (.lst 1 [])) (by (refine aM ?_;try with_reducible exact tt)) rfl (fun g v h=>iI.nil 1 _ _ h)) ?_
 refine Wp.weak (aD.cellAt (id:=3) (k:=5) (cs:=[.d (int 0),.d (int 0),.d (.lst 1 []),.d (int 0),.d (int 0),.d cH,.d (int 0),.d (int 0),.d cH]) (y:=.d (.lst 1 [])) (by (refine rO (ai @List.set_cons_succ.{0} (@List.set_cons_zero.{0})) ?_;try with_reducible exact tt)) rfl (fun g v h=>iI.nil 1 _ _ h)) ?_
 refine Wp.weak (aD.cellAt (id:=3) (k:=8) (cs:=[.d (int 0),.d (int 0),.d (.lst 1 []),.d (int 0),.d (int 0),.d (.lst 1 []),.d (int 0),.d (int 0),.d cH]) (y:=.d (.lst 1 [])) (by (refine rO (ai @List.set_cons_succ.{0} (@List.set_cons_zero.{0})) ?_;try with_reducible exact tt)) rfl (fun g v h=>iI.nil 1 _ _ h)) ?_
 refine Wp.rounds 4 (aL.go ?_)
 (repeat (first|apply Wp.skip|apply Wp.exit|apply Wp.ret|apply Wp.block|apply Wp.label|((first|refine Wp.sreg (fun K hK=>?_)|refine Wp.reg (fun K hK=>?_)|refine Wp.sdrw aA (fun K hK=>?_)|refine Wp.drw aA (fun K hK=>?_)|refine Wp.condG (fun K hK hF=>?_));(repeat (revert hK;intro hK;simp (maxSteps:=2000000) (disch:=omega) only[bZ,TY,aK,bD,bS,SV.ofD,bA,bF,bO,bP,aI,bQ,bI,bH,bR,bE,bM,bL,bN,CV.exact,CV.lstOf,CV.lenOf,CV.one,D.one,Value.oneCell',CV.toD0,bU,bC,bW,bK,rD0,bY,bJ,bV,reduceCtorEq,reduceIte,Nat.reduceBEq,Nat.reduceEqDiff,Nat.reduceAdd,Nat.reduceMul,Nat.reduceSub,Nat.reduceLT,Nat.reduceLeDiff,Nat.reduceBNe,Int.reduceLE,Int.reduceLT,Int.reduceBEq,Int.reduceBNe,Int.reduceEq,Int.reduceNeg,Int.reduceAdd,Int.reduceSub,Int.reduceToNat,forall_const,ImgD.dv,PartD.dv,StateD.dv,CoordD.dv,GrpD.dv,iG,List.set_cons_succ,List.set_cons_zero];(first|(refine hK _ ?_;clear hK K)|(refine⟨by kernel_rfl,hK _ ?_⟩;clear hK K)|(refine hK ?_;clear hK hF K)|(refine hF ?_;clear hK hF K)|refine aV (by assumption) ?_|refine gM (by assumption) ?_)));fail_if_success (revert hK;intro hK))|apply Wp.seq))
 (first|refine Wp.sregM aA ?_|refine Wp.regM aA ?_|(refine Wp.seq ?_;first|refine Wp.sregM aA ?_|refine Wp.regM aA ?_))
 (refine jF.at 4 (fun K hK=>?_);simp (maxSteps:=2000000) (disch:=omega) only[bZ,TY,aK,bD,bS,SV.ofD,bA,bF,bO,bP,aI,bQ,bI,bH,bR,bE,bM,bL,bN,CV.exact,CV.lstOf,CV.lenOf,CV.one,D.one,Value.oneCell',CV.toD0,bU,bC,bW,bK,rD0,bY,bJ,bV,reduceCtorEq,reduceIte,Nat.reduceBEq,Nat.reduceEqDiff,Nat.reduceAdd,Nat.reduceMul,Nat.reduceSub,Nat.reduceLT,Nat.reduceLeDiff,Nat.reduceBNe,Int.reduceLE,Int.reduceLT,Int.reduceBEq,Int.reduceBNe,Int.reduceEq,Int.reduceNeg,Int.reduceAdd,Int.reduceSub,Int.reduceToNat,forall_const,aO,iG,ImgD.dv,PartD.dv,StateD.dv,CoordD.dv,GrpD.dv,List.set_cons_succ,List.set_cons_zero];refine hK _ _ ?_;clear hK K)
 (refine jF.callR (e0) [(0,3),(1,4),(2,5)] 20 rfl rfl ?_ ?_;(focus (simp (maxSteps:=2000000) (disch:=omega) only[bZ,TY,aK,bD,bS,SV.ofD,bA,bF,bO,bP,aI,bQ,bI,bH,bR,bE,bM,bL,bN,CV.exact,CV.lstOf,CV.lenOf,CV.one,D.one,Value.oneCell',CV.toD0,bU,bC,bW,bK,rD0,bY,bJ,bV,reduceCtorEq,reduceIte,Nat.reduceBEq,Nat.reduceEqDiff,Nat.reduceAdd,Nat.reduceMul,Nat.reduceSub,Nat.reduceLT,Nat.reduceLeDiff,Nat.reduceBNe,Int.reduceLE,Int.reduceLT,Int.reduceBEq,Int.reduceBNe,Int.reduceEq,Int.reduceNeg,Int.reduceAdd,Int.reduceSub,Int.reduceToNat,forall_const,iC,tI,lD,fO,List.nil_append,Cap.sv,fQ,SV.ren,CV.ren,iA,dA,fK,aO,gC,fR,Cap.ren,List.map_cons,List.map_nil,iH];done)))
 (refine jF.done (fun K hK=>?_);simp (maxSteps:=2000000) (disch:=omega) only[bZ,TY,aK,bD,bS,SV.ofD,bA,bF,bO,bP,aI,bQ,bI,bH,bR,bE,bM,bL,bN,CV.exact,CV.lstOf,CV.lenOf,CV.one,D.one,Value.oneCell',CV.toD0,bU,bC,bW,bK,rD0,bY,bJ,bV,reduceCtorEq,reduceIte,Nat.reduceBEq,Nat.reduceEqDiff,Nat.reduceAdd,Nat.reduceMul,Nat.reduceSub,Nat.reduceLT,Nat.reduceLeDiff,Nat.reduceBNe,Int.reduceLE,Int.reduceLT,Int.reduceBEq,Int.reduceBNe,Int.reduceEq,Int.reduceNeg,Int.reduceAdd,Int.reduceSub,Int.reduceToNat,forall_const,aO,hZ,fQ,SV.ren,CV.ren,iA,gC,fR,Cap.ren,List.map_cons,List.map_nil,iH];refine hK _ _ ?_;clear hK K;refine⟨by kernel_rfl,?_⟩)
 (refine gO (b0) ?_;try with_reducible exact tt)
 (refine aM ?_;try with_reducible exact tt)
 exact⟨_,rfl,iI.tup (.cons aDx (.cons (.refl _) .nil))⟩
end Go.Proofs.YtkmfmphpndhkjaaGreatDoor
