/- The abstract machine (RsH, LwA). -/
import Derived.Test.YtkmfmphpndhkjaaGreatDoorRsG
import Derived.Test.YtkmfmphpndhkjaaGreatDoorRfA
import Derived.Test.YtkmfmphpndhkjaaGreatDoorBaI
import Derived.Test.YtkmfmphpndhkjaaGreatDoorImL
namespace Go.Proofs.YtkmfmphpndhkjaaGreatDoor
open Go Go.RowKit
set_option maxHeartbeats 16000000
set_option maxRecDepth 100000
set_option linter.unusedVariables false
set_option linter.unusedSimpArgs false
def iP (p:PartD):Bool:=jB p || decide (2000<p.fin)
def lZ (c:CoordD):Bool:=decide (40<(c.parts.length:Int)) || decide (40<(c.pends.length:Int))
def fL (i:ImgD):Bool:=iP i.p0 || (iP i.p1 || (iP i.p2 || (lZ i.m.c0 || (lZ i.m.c1 || lZ i.m.c2))))
theorem gE (i:ImgD):aJ Tryz.prog 7 [.agg i.dv] (eK (fL i)):=by
 have c0:=qU i.p0
 have c1:=qU i.p1
 have c2:=qU i.p2
 have hg:fL i=(iP i.p0 || (iP i.p1 || (iP i.p2 || (lZ i.m.c0 || (lZ i.m.c1 || lZ i.m.c2))))):=rfl
 simp only[PartD.dv] at c0 c1 c2
 (refine aJ.of_body Tryz.func7 rfl rfl Tryz.ntmps7 Tryz.results7 (by simp) ?_)
 (refine gO (ai @ImgD.dv.eq_1 (ai @PartD.dv.eq_1 (ai @StateD.dv.eq_1 (ai @CoordD.dv.eq_1 (@GrpD.dv.eq_1))))) ?_;try with_reducible exact tt)
 refine Wp.rounds 4 (aL.go ?_)
 (refine aH ?_;try with_reducible exact tt)
 (first|refine Wp.sto 20 (vb (iP i.p0)) ?_ ?_|refine Wp.rtoS 20 (vb (iP i.p0)) ?_ ?_|(refine Wp.seq ?_;first|refine Wp.sto 20 (vb (iP i.p0)) ?_ ?_|refine Wp.rtoS 20 (vb (iP i.p0)) ?_ ?_))
 ·unfold iP;((rcases Bool.eq_false_or_eq_true (jB i.p0) with hL1|hL1)<;>(rcases Bool.eq_false_or_eq_true (decide (2000<i.p0.fin)) with hL2|hL2)<;>(((refine rO (ai hL1 (hL2)) ?_;try with_reducible exact tt);(repeat (refine aV (by assumption) ?_;(refine rO (ai hL1 (hL2)) ?_;try with_reducible exact tt))));all_goals (exact (show aG _ _=true by kernel_rfl))))
 refine Wp.cond (by (refine aM ?_;try with_reducible exact tt);rfl) (fun h=>?_) (fun h=>?_)
 ·have e:fL i=true:=by rw[hg,h];rfl
  (refine aH ?_;try with_reducible exact tt)
  (refine rO (e) ?_;try with_reducible exact tt)
 have k0:=h
 (refine aH ?_;try with_reducible exact tt)
 (first|refine Wp.sto 20 (vb (iP i.p1)) ?_ ?_|refine Wp.rtoS 20 (vb (iP i.p1)) ?_ ?_|(refine Wp.seq ?_;first|refine Wp.sto 20 (vb (iP i.p1)) ?_ ?_|refine Wp.rtoS 20 (vb (iP i.p1)) ?_ ?_))
 ·unfold iP;((rcases Bool.eq_false_or_eq_true (jB i.p1) with hL1|hL1)<;>(rcases Bool.eq_false_or_eq_true (decide (2000<i.p1.fin)) with hL2|hL2)<;>(((refine rO (ai hL1 (hL2)) ?_;try with_reducible exact tt);(repeat (refine aV (by assumption) ?_;(refine rO (ai hL1 (hL2)) ?_;try with_reducible exact tt))));all_goals (exact (show aG _ _=true by kernel_rfl))))
 refine Wp.cond (by (refine aM ?_;try with_reducible exact tt);rfl) (fun h=>?_) (fun h=>?_)
 ·have e:fL i=true:=by rw[hg,h];simp
  (refine aH ?_;try with_reducible exact tt)
  (refine rO (e) ?_;try with_reducible exact tt)
 have k1:=h
 (refine aH ?_;try with_reducible exact tt)
 (first|refine Wp.sto 20 (vb (iP i.p2)) ?_ ?_|refine Wp.rtoS 20 (vb (iP i.p2)) ?_ ?_|(refine Wp.seq ?_;first|refine Wp.sto 20 (vb (iP i.p2)) ?_ ?_|refine Wp.rtoS 20 (vb (iP i.p2)) ?_ ?_))
 ·unfold iP;((rcases Bool.eq_false_or_eq_true (jB i.p2) with hL1|hL1)<;>(rcases Bool.eq_false_or_eq_true (decide (2000<i.p2.fin)) with hL2|hL2)<;>(((refine rO (ai hL1 (hL2)) ?_;try with_reducible exact tt);(repeat (refine aV (by assumption) ?_;(refine rO (ai hL1 (hL2)) ?_;try with_reducible exact tt))));all_goals (exact (show aG _ _=true by kernel_rfl))))
 refine Wp.cond (by (refine aM ?_;try with_reducible exact tt);rfl) (fun h=>?_) (fun h=>?_)
 ·have e:fL i=true:=by rw[hg,h];simp
  (refine aH ?_;try with_reducible exact tt)
  (refine rO (e) ?_;try with_reducible exact tt)
 have k2:=h
 (refine aH ?_;try with_reducible exact tt)
 refine Wp.rounds 4 (aL.go ?_)
 (refine aH ?_;try with_reducible exact tt)
 (first|refine Wp.sto 42 (vb (lZ i.m.c0)) ?_ ?_|refine Wp.rtoS 42 (vb (lZ i.m.c0)) ?_ ?_|(refine Wp.seq ?_;first|refine Wp.sto 42 (vb (lZ i.m.c0)) ?_ ?_|refine Wp.rtoS 42 (vb (lZ i.m.c0)) ?_ ?_))
 ·unfold lZ;((rcases Bool.eq_false_or_eq_true (decide (40<(i.m.c0.parts.length:Int))) with hL1|hL1)<;>(rcases Bool.eq_false_or_eq_true (decide (40<(i.m.c0.pends.length:Int))) with hL2|hL2)<;>(((refine rO (ai hL1 (hL2)) ?_;try with_reducible exact tt);(repeat (refine aV (by assumption) ?_;(refine rO (ai hL1 (hL2)) ?_;try with_reducible exact tt))));all_goals (exact (show aG _ _=true by kernel_rfl))))
 refine Wp.cond (by (refine aM ?_;try with_reducible exact tt);rfl) (fun h=>?_) (fun h=>?_)
 ·have e:fL i=true:=by rw[hg,h];simp
  (refine aH ?_;try with_reducible exact tt)
  (refine rO (e) ?_;try with_reducible exact tt)
 have k3:=h
 (refine aH ?_;try with_reducible exact tt)
 (first|refine Wp.sto 42 (vb (lZ i.m.c1)) ?_ ?_|refine Wp.rtoS 42 (vb (lZ i.m.c1)) ?_ ?_|(refine Wp.seq ?_;first|refine Wp.sto 42 (vb (lZ i.m.c1)) ?_ ?_|refine Wp.rtoS 42 (vb (lZ i.m.c1)) ?_ ?_))
 ·unfold lZ;((rcases Bool.eq_false_or_eq_true (decide (40<(i.m.c1.parts.length:Int))) with hL1|hL1)<;>(rcases Bool.eq_false_or_eq_true (decide (40<(i.m.c1.pends.length:Int))) with hL2|hL2)<;>(((refine rO (ai hL1 (hL2)) ?_;try with_reducible exact tt);(repeat (refine aV (by assumption) ?_;(refine rO (ai hL1 (hL2)) ?_;try with_reducible exact tt))));all_goals (exact (show aG _ _=true by kernel_rfl))))
 refine Wp.cond (by (refine aM ?_;try with_reducible exact tt);rfl) (fun h=>?_) (fun h=>?_)
 ·have e:fL i=true:=by rw[hg,h];simp
  (refine aH ?_;try with_reducible exact tt)
  (refine rO (e) ?_;try with_reducible exact tt)
 have k4:=h
 (refine aH ?_;try with_reducible exact tt)
 (first|refine Wp.sto 42 (vb (lZ i.m.c2)) ?_ ?_|refine Wp.rtoS 42 (vb (lZ i.m.c2)) ?_ ?_|(refine Wp.seq ?_;first|refine Wp.sto 42 (vb (lZ i.m.c2)) ?_ ?_|refine Wp.rtoS 42 (vb (lZ i.m.c2)) ?_ ?_))
 ·unfold lZ;((rcases Bool.eq_false_or_eq_true (decide (40<(i.m.c2.parts.length:Int))) with hL1|hL1)<;>(rcases Bool.eq_false_or_eq_true (decide (40<(i.m.c2.pends.length:Int))) with hL2|hL2)<;>(((refine rO (ai hL1 (hL2)) ?_;try with_reducible exact tt);(repeat (refine aV (by assumption) ?_;(refine rO (ai hL1 (hL2)) ?_;try with_reducible exact tt))));all_goals (exact (show aG _ _=true by kernel_rfl))))
 refine Wp.cond (by (refine aM ?_;try with_reducible exact tt);rfl) (fun h=>?_) (fun h=>?_)
 ·have e:fL i=true:=by rw[hg,h];simp
  (refine aH ?_;try with_reducible exact tt)
  (refine rO (e) ?_;try with_reducible exact tt)
 have e:fL i=false:=by rw[hg,k0,k1,k2,k3,k4,h];rfl
 (refine aH ?_;try with_reducible exact tt)
 (refine rO (e) ?_;try with_reducible exact tt)
theorem jS {p:PartD} (h:iP p=false):SmallP p∧p.rows.length≤1048576∧p.fin≤2000:=by
 simp only[iP,jB,eE,Bool.or_eq_false_iff,decide_eq_false_iff_not] at h
 obtain⟨⟨⟨⟨⟨⟨h1,_⟩,h2⟩,h3⟩,h4⟩,h5⟩,h6⟩:=h
 refine⟨⟨by omega,by omega,fun o ho=>?_,⟨by omega,fun q hq=>?_⟩⟩,by omega,by omega⟩
 ·have:=List.any_eq_false.1 h4 o ho
  simp only[dU,Bool.not_eq_true,Bool.or_eq_false_iff,decide_eq_false_iff_not] at this
  refine⟨by omega,fun b hb=>?_⟩
  have hb2:=List.any_eq_false.1 this.2 b hb
  simp only[jG,Bool.not_eq_true,Bool.or_eq_false_iff,decide_eq_false_iff_not] at hb2
  omega
 ·have:=List.any_eq_false.1 h5 q hq
  simp only[decide_eq_true_eq] at this
  omega
theorem gF {i:ImgD} (h:fL i=false):SmallI i∧RowsOk i:=by
 simp only[fL,Bool.or_eq_false_iff] at h
 obtain⟨h0,h1,h2,k0,k1,k2⟩:=h
 have hc:∀ c:CoordD,lZ c=false→SmallC c:=fun c h=>by
  simp only[lZ,Bool.or_eq_false_iff,decide_eq_false_iff_not] at h
  exact⟨by omega,by omega⟩
 exact⟨⟨(jS h0).1,(jS h1).1,(jS h2).1,⟨hc _ k0,hc _ k1,hc _ k2⟩⟩,⟨(jS h0).2.1,(jS h1).2.1,(jS h2).2.1⟩⟩
def aKl (tag:Int):ImgD:=⟨tag,pz,pz,pz,aBk⟩
theorem aHt (tag:Int):aJ Tryz.prog 23 [i8 tag] (.agg (aKl tag).dv):=by
 have c1:=aDk
 simp only[StateD.dv,CoordD.dv,GrpD.dv,aBk,cz,gm1,List.map_nil,List.cons_append,List.nil_append] at c1
 (refine aJ.of_bodyW Tryz.func23 rfl rfl Tryz.ntmps23 Tryz.results23 (by simp) ?_)
 (refine aH ?_;try with_reducible exact tt)
 (refine aM ?_;try with_reducible exact tt)
 refine⟨_,rfl,?_⟩
 have kp:∀ (l l' : List D),AllLe l l'→AllLe ([int 0,int 0,cH,cH,cH]++l) (pz.dv++l'):=fun l l' h =>
  .cons (.refl _) (.cons (.refl _) (.cons (.nil 5) (.cons (.nil 3) (.cons (.nil 4) h))))
 have hg:∀ l:List D,AllLe l l:=fun l=>by
  induction l with
  | nil=>exact .nil
  | cons a l ih=>exact .cons (.refl _) ih
 exact iI.agg (AllLe.cons (iI.refl _) (kp _ _ (kp _ _ (kp _ _ (hg _)))))
def wI:ImgD:=⟨1,⟨0,7,[⟨2,1,0,[],[]⟩,⟨5,1,1,[],[]⟩],[],[⟨1,0,2,[]⟩]⟩,pz,pz,⟨1,cz,cz,cz,⟨3,-1,-1,-1,-1,-1⟩⟩⟩
def wB:ImgD:=⟨0,⟨0,2,[⟨0,1,0,[],[]⟩,⟨1,1,1,[],[]⟩],[],[⟨1,0,2,[]⟩]⟩,pz,pz,⟨1,cz,cz,cz,⟨1,-1,-1,-1,-1,-1⟩⟩⟩
theorem aN0:vY wI=(wB,0):=by decide +kernel
theorem aPk:kM wI 0 0=(1,0):=by decide +kernel
theorem aKr:fL wI=false:=by decide +kernel
theorem aP6:AllLe [.agg [i8 1,int 0,int 7,.lst 5 [[int 2,int 1,int 0,str [],str []],[int 5,int 1,int 1,str [],str []]],cH,.lst 4 [[int 1,int 0,int 2,cH]],int 0,int 0,.lst 5 [],.lst 3 [],.lst 4 [],int 0,int 0,.lst 5 [],.lst 3 [],.lst 4 [],int 1,i8 0,int 0,int 0,int 0,int 0,.lst 1 [],.lst 3 [],int 0,i8 0,int 0,int 0,int 0,int 0,.lst 1 [],.lst 3 [],int 0,i8 0,int 0,int 0,int 0,int 0,.lst 1 [],.lst 3 [],int 0,int 3,int (-1),int (-1),int (-1),int (-1),int (-1)]] [.agg wI.dv]:=by
 have hg:∀ l:List D,AllLe l l:=fun l=>by
  induction l with
  | nil=>exact .nil
  | cons a l ih=>exact .cons (.refl _) ih
 have hp:iI (.lst 4 [[int 1,int 0,int 2,cH]]) (.lst 4 [[int 1,int 0,int 2,.lst 3 []]]):=iI.lst (.cons (.cons (.refl _) (.cons (.refl _) (.cons (.refl _) (.cons (.nil 3) .nil)))) .nil)
 exact .cons (iI.agg (.cons (.refl _) (.cons (.refl _) (.cons (.refl _) (.cons (.refl _) (.cons (.nil 3) (.cons hp (hg _)))))))) .nil
theorem gJ:aJ Tryz.prog 9 [] (eK true):=by
 have c1:=aHt 1
 obtain⟨hs,hr⟩:=gF aKr
 have c2:=aJ.args aP6 (aK3 wI hs hr)
 have c3:=aJ.args (xs:=[_,int 0,int 0]) (match aP6 with | .cons h .nil=>.cons h (.cons (.refl _) (.cons (.refl _) .nil))) (eI wI 0 0 hs)
 rw[aN0] at c2
 rw[aPk] at c3
 simp only[aKl,wB,ImgD.dv,PartD.dv,RowD.dv,ProdD.dv,pz,StateD.dv,CoordD.dv,GrpD.dv,aBk,cz,gm1,List.map_cons,List.map_nil,List.cons_append,List.nil_append] at c1 c2 c3
 (refine aJ.of_body Tryz.func9 rfl rfl Tryz.ntmps9 Tryz.results9 (by simp) ?_)
 (refine aH ?_;try with_reducible exact tt)
 (refine aM ?_;try with_reducible exact tt)
def mT (i:ImgD) (g q:Int):Bool:=!aX i || decide (g<0) || decide ((2:Int)≤g) || decide (q<0) || decide ((3:Int)≤q)
theorem aIz (i:ImgD) (g q off:Int) (hg:fL i=true):aJ Tryz.prog 3 [.agg i.dv,int g,int q,int off] (eK true):=by
 have c0:=gE i
 have c1:=gJ
 rw[hg] at c0
 simp only[ImgD.dv,PartD.dv,StateD.dv,CoordD.dv,GrpD.dv,List.cons_append,List.nil_append] at c0
 (refine aJ.of_body Tryz.func3 rfl rfl Tryz.ntmps3 Tryz.results3 (by simp) ?_)
 (refine gO (ai @ImgD.dv.eq_1 (ai @PartD.dv.eq_1 (ai @StateD.dv.eq_1 (ai @CoordD.dv.eq_1 (@GrpD.dv.eq_1))))) ?_;try with_reducible exact tt)
 (refine aM ?_;try with_reducible exact tt)
theorem aE2 (i:ImgD) (g q off:Int) (h8:I8I i) (hg:fL i=false) (hb:mT i g q=true):aJ Tryz.prog 3 [.agg i.dv,int g,int q,int off] (eK true):=by
 have hs:=(gF hg).1
 have c0:=gE i
 have c1:=gJ
 have c2:=iO i hs h8
 have hk:=aQo i
 rw[hg] at c0
 simp only[ImgD.dv,PartD.dv,StateD.dv,CoordD.dv,GrpD.dv,List.cons_append,List.nil_append] at c0 c2
 (refine aJ.of_body Tryz.func3 rfl rfl Tryz.ntmps3 Tryz.results3 (by simp) ?_)
 (refine gO (ai @ImgD.dv.eq_1 (ai @PartD.dv.eq_1 (ai @StateD.dv.eq_1 (ai @CoordD.dv.eq_1 (ai @GrpD.dv.eq_1 (hk)))))) ?_;try with_reducible exact tt)
 (first|refine Wp.sto 42 (vb (mT i g q)) ?_ ?_|refine Wp.rtoS 42 (vb (mT i g q)) ?_ ?_|(refine Wp.seq ?_;first|refine Wp.sto 42 (vb (mT i g q)) ?_ ?_|refine Wp.rtoS 42 (vb (mT i g q)) ?_ ?_))
 ·unfold mT;((rcases Bool.eq_false_or_eq_true (!aX i) with hL1|hL1;focus (((refine rO (ai hL1 (ai @ImgD.dv.eq_1 (ai @PartD.dv.eq_1 (ai @StateD.dv.eq_1 (ai @CoordD.dv.eq_1 (ai @GrpD.dv.eq_1 (hk))))))) ?_;try with_reducible exact tt);(repeat (refine aV (by assumption) ?_;(refine rO (ai hL1 (ai @ImgD.dv.eq_1 (ai @PartD.dv.eq_1 (ai @StateD.dv.eq_1 (ai @CoordD.dv.eq_1 (ai @GrpD.dv.eq_1 (hk))))))) ?_;try with_reducible exact tt))));all_goals (exact (show aG _ _=true by kernel_rfl))));(rcases Bool.eq_false_or_eq_true (decide (g<0)) with hL2|hL2;focus (((refine rO (ai hL1 (ai hL2 (ai @ImgD.dv.eq_1 (ai @PartD.dv.eq_1 (ai @StateD.dv.eq_1 (ai @CoordD.dv.eq_1 (ai @GrpD.dv.eq_1 (hk)))))))) ?_;try with_reducible exact tt);(repeat (refine aV (by assumption) ?_;(refine rO (ai hL1 (ai hL2 (ai @ImgD.dv.eq_1 (ai @PartD.dv.eq_1 (ai @StateD.dv.eq_1 (ai @CoordD.dv.eq_1 (ai @GrpD.dv.eq_1 (hk)))))))) ?_;try with_reducible exact tt))));all_goals (exact (show aG _ _=true by kernel_rfl))));(rcases Bool.eq_false_or_eq_true (decide ((2:Int)≤g)) with hL3|hL3;focus (((refine rO (ai hL1 (ai hL2 (ai hL3 (ai @ImgD.dv.eq_1 (ai @PartD.dv.eq_1 (ai @StateD.dv.eq_1 (ai @CoordD.dv.eq_1 (ai @GrpD.dv.eq_1 (hk))))))))) ?_;try with_reducible exact tt);(repeat (refine aV (by assumption) ?_;(refine rO (ai hL1 (ai hL2 (ai hL3 (ai @ImgD.dv.eq_1 (ai @PartD.dv.eq_1 (ai @StateD.dv.eq_1 (ai @CoordD.dv.eq_1 (ai @GrpD.dv.eq_1 (hk))))))))) ?_;try with_reducible exact tt))));all_goals (exact (show aG _ _=true by kernel_rfl))));(rcases Bool.eq_false_or_eq_true (decide (q<0)) with hL4|hL4;focus (((refine rO (ai hL1 (ai hL2 (ai hL3 (ai hL4 (ai @ImgD.dv.eq_1 (ai @PartD.dv.eq_1 (ai @StateD.dv.eq_1 (ai @CoordD.dv.eq_1 (ai @GrpD.dv.eq_1 (hk)))))))))) ?_;try with_reducible exact tt);(repeat (refine aV (by assumption) ?_;(refine rO (ai hL1 (ai hL2 (ai hL3 (ai hL4 (ai @ImgD.dv.eq_1 (ai @PartD.dv.eq_1 (ai @StateD.dv.eq_1 (ai @CoordD.dv.eq_1 (ai @GrpD.dv.eq_1 (hk)))))))))) ?_;try with_reducible exact tt))));all_goals (exact (show aG _ _=true by kernel_rfl))));(rcases Bool.eq_false_or_eq_true (decide ((3:Int)≤q)) with hL5|hL5;focus (((refine rO (ai hL1 (ai hL2 (ai hL3 (ai hL4 (ai hL5 (ai @ImgD.dv.eq_1 (ai @PartD.dv.eq_1 (ai @StateD.dv.eq_1 (ai @CoordD.dv.eq_1 (ai @GrpD.dv.eq_1 (hk))))))))))) ?_;try with_reducible exact tt);(repeat (refine aV (by assumption) ?_;(refine rO (ai hL1 (ai hL2 (ai hL3 (ai hL4 (ai hL5 (ai @ImgD.dv.eq_1 (ai @PartD.dv.eq_1 (ai @StateD.dv.eq_1 (ai @CoordD.dv.eq_1 (ai @GrpD.dv.eq_1 (hk))))))))))) ?_;try with_reducible exact tt))));all_goals (exact (show aG _ _=true by kernel_rfl))));((refine rO (ai hL1 (ai hL2 (ai hL3 (ai hL4 (ai hL5 (ai @ImgD.dv.eq_1 (ai @PartD.dv.eq_1 (ai @StateD.dv.eq_1 (ai @CoordD.dv.eq_1 (ai @GrpD.dv.eq_1 (hk))))))))))) ?_;try with_reducible exact tt);(repeat (refine aV (by assumption) ?_;(refine rO (ai hL1 (ai hL2 (ai hL3 (ai hL4 (ai hL5 (ai @ImgD.dv.eq_1 (ai @PartD.dv.eq_1 (ai @StateD.dv.eq_1 (ai @CoordD.dv.eq_1 (ai @GrpD.dv.eq_1 (hk))))))))))) ?_;try with_reducible exact tt))));all_goals (exact (show aG _ _=true by kernel_rfl)))
 (refine gO (hb) ?_;try with_reducible exact tt)
 (refine aM ?_;try with_reducible exact tt)
def pS (p:PartD) (off:Int):Int:=if (if p.fin<off then p.fin else off) > 0 then (if p.fin<off then p.fin else off) else 0
theorem tK {p:PartD} (off:Int) (h:cD p=true):lM (pS p off)=true:=by
 have:=fM h
 have h1:0≤pS p off∧pS p off≤p.fin:=by
  unfold pS
  by_cases h1:p.fin<off
  ·rw[if_pos h1];split<;>omega
  ·rw[if_neg h1];split<;>omega
 simp only[lM,aT,Bool.and_eq_true,decide_eq_true_eq]
 omega
theorem eT {i:ImgD} {n:Int} (h:aX i=true) (hn:lM n=true) (g q:Nat) (hg:g<2) (hq:q<3):kM (i.put g q n) (g:Int) (q:Int)=(((jM (i.p q) n:Nat):Int),0):=by
 have hw:(aT (g:Int) 0 1 && aT (q:Int) 0 2 && aX (i.put g q n))=true:=by
  rw[aIb h hn];simp only[aT,Bool.and_true,Bool.and_eq_true,decide_eq_true_eq];omega
 unfold kM
 rw[hw,if_pos rfl]
 simp only[Int.toNat_natCast]
 have e:(i.put g q n).m.gr.at g q=n:=aPy _ _ _ _ hg hq
 rw[e]
 rcases (show q=0∨q=1∨q=2 by omega) with rfl|rfl|rfl<;>rfl
theorem aG5 (i:ImgD) (off:Int) (h8:I8I i) (hg:fL i=false) (hc:aX i=true):aJ Tryz.prog 3 [.agg i.dv,int 0,int 0,int off] (eK true):=by
 have hs:=(gF hg).1
 have hp:=eQ (cU hc 0)
 have hn:=tK (p:=i.p0) off hp
 have c0:=gE i
 have c1:=gJ
 have c2:=iO i hs h8
 have c3:=eI (i.put 0 0 (-1)) 0 0 ⟨hs.p0,hs.p1,hs.p2,⟨hs.m.c0,hs.m.c1,hs.m.c2⟩⟩
 have c4:=eI (i.put 0 0 i.p0.fin) 0 0 ⟨hs.p0,hs.p1,hs.p2,⟨hs.m.c0,hs.m.c1,hs.m.c2⟩⟩
 have c5:=eI (i.put 0 0 (pS i.p0 off)) 0 0 ⟨hs.p0,hs.p1,hs.p2,⟨hs.m.c0,hs.m.c1,hs.m.c2⟩⟩
 have hf:lM i.p0.fin=true:=by
  have:=fM hp
  simp only[lM,aT,Bool.and_eq_true,decide_eq_true_eq]
  show -1≤(i.p 0).fin∧(i.p 0).fin≤1048576
  omega
 have e3:kM (i.put 0 0 (-1)) 0 0=((i.p0.rows.length:Int),0):=(eT hc (by decide) 0 0 (by omega) (by omega)).trans (by rw[pW hp];rfl)
 have e4:kM (i.put 0 0 i.p0.fin) 0 0=(0,0):=(eT hc hf 0 0 (by omega) (by omega)).trans (by have:=pX hp;simp only[ImgD.p] at this ⊢;rw[this];rfl)
 have e5:kM (i.put 0 0 (pS i.p0 off)) 0 0=(((jM i.p0 (pS i.p0 off):Nat):Int),0):=eT hc hn 0 0 (by omega) (by omega)
 have hl:=hs.p0.rows
 have hat:(if (if i.p0.fin<off then i.p0.fin else off) > 0 then (if i.p0.fin<off then i.p0.fin else off) else 0)=pS i.p0 off:=rfl
 rw[hg] at c0
 rw[hc] at c2
 rw[e3] at c3
 rw[e4] at c4
 rw[e5] at c5
 simp only[ImgD.put,GrpD.put,ImgD.dv,PartD.dv,StateD.dv,CoordD.dv,GrpD.dv,List.cons_append,List.nil_append] at c0 c2 c3 c4 c5
 unfold jM at c5
 generalize pS i.p0 off=n at *
 have hla:=tQ i.p0.rows n
 generalize i.p0.rows.countP (fun r=>decide (n≤r.off))=m at *
 (refine aJ.of_body Tryz.func3 rfl rfl Tryz.ntmps3 Tryz.results3 (by simp) ?_)
 (refine gO (ai @ImgD.dv.eq_1 (ai @PartD.dv.eq_1 (ai @StateD.dv.eq_1 (ai @CoordD.dv.eq_1 (ai @GrpD.dv.eq_1 (hat)))))) ?_;try with_reducible exact tt)
 refine Wp.loop (fun k:Nat=>⟨fP [(9,.c (.d (.lst 5 (i.p0.rows.map RowD.dv)))),(10,vi .i64 n),(11,vi .i64 i.p0.rows.length),(12,vi .i64 0),(13,vi .i64 0),(14,vi .i64 0),(15,vi .i64 m),(16,vi .i64 0),(17,vi .i64 (((i.p0.rows.take k).countP (fun r=>decide (r.off<n)):Nat):Int)),(102,.c (.d (.lst 5 (i.p0.rows.map RowD.dv)))),(103,vi .i64 i.p0.rows.length),(104,vi .i64 k)],cL [],20,145,0⟩) (fun k=>k≤i.p0.rows.length) (fun k=>i.p0.rows.length - k) 0 (Nat.zero_le _) ?_ ?_
 ·refine aD.keep rfl (by simp[aN,SV.ids,HE.ids,CV.ids];rfl) ?_
  (refine rO (ai @ImgD.dv.eq_1 (ai @PartD.dv.eq_1 (ai @StateD.dv.eq_1 (ai @CoordD.dv.eq_1 (ai @GrpD.dv.eq_1 (ai @List.map_append.{0,0} (ai @List.map_cons.{0,0} (ai @List.map_nil.{0,0} (ai @List.take_zero.{0} (@List.countP_nil.{0})))))))))) ?_;try with_reducible exact tt)
 intro k hk
 by_cases hlt:k<i.p0.rows.length
 ·have dk:decide ((k:Int)<(i.p0.rows.length:Int))=true:=decide_eq_true (by omega)
  have g1:i.p0.rows[k]? = some i.p0.rows[k]:=List.getElem?_eq_getElem hlt
  have hwk:IntKind.i64.wrap ((k:Int)+1)=((k+1:Nat):Int):=by rw[aF (by omega)];rfl
  have hcn:=dL (fun r:RowD=>decide (r.off<n)) i.p0.rows k hlt
  have hcl:=List.countP_le_length (p:=fun r:RowD=>decide (r.off<n)) (l:=i.p0.rows.take k)
  have htl:=List.length_take_le k i.p0.rows
  generalize i.p0.rows[k]=r at *
  generalize (i.p0.rows.take k).countP (fun r=>decide (r.off<n))=b at *
  have hwn:IntKind.i64.wrap ((b:Int)+1)=((b+1:Nat):Int):=by rw[aF (by omega)];rfl
  (refine gO (ai dk (ai g1 (@RowD.dv.eq_1))) ?_;try with_reducible exact tt)
  refine Wp.cond (by (refine aM ?_;try with_reducible exact tt);rfl) (fun h=>?_) (fun h=>?_)
  ·rw[h] at hcn
   (refine aH ?_;try with_reducible exact tt)
   refine⟨k+1,by omega,by omega,aD.keep rfl (by simp[aN,SV.ids,HE.ids,CV.ids];rfl) ?_⟩
   (refine rO (ai hwk (ai hwn (hcn))) ?_;try with_reducible exact tt)
  ·rw[h] at hcn
   (refine aH ?_;try with_reducible exact tt)
   refine⟨k+1,by omega,by omega,aD.keep rfl (by simp[aN,SV.ids,HE.ids,CV.ids];rfl) ?_⟩
   (refine rO (ai hwk (hcn)) ?_;try with_reducible exact tt)
 ·have dk:decide ((k:Int)<(i.p0.rows.length:Int))=false:=decide_eq_false (by omega)
  have htk:i.p0.rows.take k=i.p0.rows:=List.take_of_length_le (by omega)
  rw[htk]
  generalize i.p0.rows.countP (fun r=>decide (r.off<n))=b at *
  have hw:IntKind.i64.wrap ((i.p0.rows.length:Int) - (b:Int))=(m:Int):=by rw[aF (by omega)];omega
  (refine gO (ai dk (hw)) ?_;try with_reducible exact tt)
  (refine aM ?_;try with_reducible exact tt)
theorem aG6 (i:ImgD) (off:Int) (h8:I8I i) (hg:fL i=false) (hc:aX i=true):aJ Tryz.prog 3 [.agg i.dv,int 0,int 1,int off] (eK true):=by
 have hs:=(gF hg).1
 have hp:=eQ (cU hc 1)
 have hn:=tK (p:=i.p1) off hp
 have c0:=gE i
 have c1:=gJ
 have c2:=iO i hs h8
 have c3:=eI (i.put 0 1 (-1)) 0 1 ⟨hs.p0,hs.p1,hs.p2,⟨hs.m.c0,hs.m.c1,hs.m.c2⟩⟩
 have c4:=eI (i.put 0 1 i.p1.fin) 0 1 ⟨hs.p0,hs.p1,hs.p2,⟨hs.m.c0,hs.m.c1,hs.m.c2⟩⟩
 have c5:=eI (i.put 0 1 (pS i.p1 off)) 0 1 ⟨hs.p0,hs.p1,hs.p2,⟨hs.m.c0,hs.m.c1,hs.m.c2⟩⟩
 have hf:lM i.p1.fin=true:=by
  have:=fM hp
  simp only[lM,aT,Bool.and_eq_true,decide_eq_true_eq]
  show -1≤(i.p 1).fin∧(i.p 1).fin≤1048576
  omega
 have e3:kM (i.put 0 1 (-1)) 0 1=((i.p1.rows.length:Int),0):=(eT hc (by decide) 0 1 (by omega) (by omega)).trans (by rw[pW hp];rfl)
 have e4:kM (i.put 0 1 i.p1.fin) 0 1=(0,0):=(eT hc hf 0 1 (by omega) (by omega)).trans (by have:=pX hp;simp only[ImgD.p] at this ⊢;rw[this];rfl)
 have e5:kM (i.put 0 1 (pS i.p1 off)) 0 1=(((jM i.p1 (pS i.p1 off):Nat):Int),0):=eT hc hn 0 1 (by omega) (by omega)
 have hl:=hs.p1.rows
 have hat:(if (if i.p1.fin<off then i.p1.fin else off) > 0 then (if i.p1.fin<off then i.p1.fin else off) else 0)=pS i.p1 off:=rfl
 rw[hg] at c0
 rw[hc] at c2
 rw[e3] at c3
 rw[e4] at c4
 rw[e5] at c5
 simp only[ImgD.put,GrpD.put,ImgD.dv,PartD.dv,StateD.dv,CoordD.dv,GrpD.dv,List.cons_append,List.nil_append] at c0 c2 c3 c4 c5
 unfold jM at c5
 generalize pS i.p1 off=n at *
 have hla:=tQ i.p1.rows n
 generalize i.p1.rows.countP (fun r=>decide (n≤r.off))=m at *
 (refine aJ.of_body Tryz.func3 rfl rfl Tryz.ntmps3 Tryz.results3 (by simp) ?_)
 (refine gO (ai @ImgD.dv.eq_1 (ai @PartD.dv.eq_1 (ai @StateD.dv.eq_1 (ai @CoordD.dv.eq_1 (ai @GrpD.dv.eq_1 (hat)))))) ?_;try with_reducible exact tt)
 refine Wp.loop (fun k:Nat=>⟨fP [(9,.c (.d (.lst 5 (i.p1.rows.map RowD.dv)))),(10,vi .i64 n),(11,vi .i64 i.p1.rows.length),(12,vi .i64 0),(13,vi .i64 0),(14,vi .i64 0),(15,vi .i64 m),(16,vi .i64 0),(17,vi .i64 (((i.p1.rows.take k).countP (fun r=>decide (r.off<n)):Nat):Int)),(102,.c (.d (.lst 5 (i.p1.rows.map RowD.dv)))),(103,vi .i64 i.p1.rows.length),(104,vi .i64 k)],cL [],20,145,0⟩) (fun k=>k≤i.p1.rows.length) (fun k=>i.p1.rows.length - k) 0 (Nat.zero_le _) ?_ ?_
 ·refine aD.keep rfl (by simp[aN,SV.ids,HE.ids,CV.ids];rfl) ?_
  (refine rO (ai @ImgD.dv.eq_1 (ai @PartD.dv.eq_1 (ai @StateD.dv.eq_1 (ai @CoordD.dv.eq_1 (ai @GrpD.dv.eq_1 (ai @List.map_append.{0,0} (ai @List.map_cons.{0,0} (ai @List.map_nil.{0,0} (ai @List.take_zero.{0} (@List.countP_nil.{0})))))))))) ?_;try with_reducible exact tt)
 intro k hk
 by_cases hlt:k<i.p1.rows.length
 ·have dk:decide ((k:Int)<(i.p1.rows.length:Int))=true:=decide_eq_true (by omega)
  have g1:i.p1.rows[k]? = some i.p1.rows[k]:=List.getElem?_eq_getElem hlt
  have hwk:IntKind.i64.wrap ((k:Int)+1)=((k+1:Nat):Int):=by rw[aF (by omega)];rfl
  have hcn:=dL (fun r:RowD=>decide (r.off<n)) i.p1.rows k hlt
  have hcl:=List.countP_le_length (p:=fun r:RowD=>decide (r.off<n)) (l:=i.p1.rows.take k)
  have htl:=List.length_take_le k i.p1.rows
  generalize i.p1.rows[k]=r at *
  generalize (i.p1.rows.take k).countP (fun r=>decide (r.off<n))=b at *
  have hwn:IntKind.i64.wrap ((b:Int)+1)=((b+1:Nat):Int):=by rw[aF (by omega)];rfl
  (refine gO (ai dk (ai g1 (@RowD.dv.eq_1))) ?_;try with_reducible exact tt)
  refine Wp.cond (by (refine aM ?_;try with_reducible exact tt);rfl) (fun h=>?_) (fun h=>?_)
  ·rw[h] at hcn
   (refine aH ?_;try with_reducible exact tt)
   refine⟨k+1,by omega,by omega,aD.keep rfl (by simp[aN,SV.ids,HE.ids,CV.ids];rfl) ?_⟩
   (refine rO (ai hwk (ai hwn (hcn))) ?_;try with_reducible exact tt)
  ·rw[h] at hcn
   (refine aH ?_;try with_reducible exact tt)
   refine⟨k+1,by omega,by omega,aD.keep rfl (by simp[aN,SV.ids,HE.ids,CV.ids];rfl) ?_⟩
   (refine rO (ai hwk (hcn)) ?_;try with_reducible exact tt)
 ·have dk:decide ((k:Int)<(i.p1.rows.length:Int))=false:=decide_eq_false (by omega)
  have htk:i.p1.rows.take k=i.p1.rows:=List.take_of_length_le (by omega)
  rw[htk]
  generalize i.p1.rows.countP (fun r=>decide (r.off<n))=b at *
  have hw:IntKind.i64.wrap ((i.p1.rows.length:Int) - (b:Int))=(m:Int):=by rw[aF (by omega)];omega
  (refine gO (ai dk (hw)) ?_;try with_reducible exact tt)
  (refine aM ?_;try with_reducible exact tt)
theorem aG7 (i:ImgD) (off:Int) (h8:I8I i) (hg:fL i=false) (hc:aX i=true):aJ Tryz.prog 3 [.agg i.dv,int 0,int 2,int off] (eK true):=by
 have hs:=(gF hg).1
 have hp:=eQ (cU hc 2)
 have hn:=tK (p:=i.p2) off hp
 have c0:=gE i
 have c1:=gJ
 have c2:=iO i hs h8
 have c3:=eI (i.put 0 2 (-1)) 0 2 ⟨hs.p0,hs.p1,hs.p2,⟨hs.m.c0,hs.m.c1,hs.m.c2⟩⟩
 have c4:=eI (i.put 0 2 i.p2.fin) 0 2 ⟨hs.p0,hs.p1,hs.p2,⟨hs.m.c0,hs.m.c1,hs.m.c2⟩⟩
 have c5:=eI (i.put 0 2 (pS i.p2 off)) 0 2 ⟨hs.p0,hs.p1,hs.p2,⟨hs.m.c0,hs.m.c1,hs.m.c2⟩⟩
 have hf:lM i.p2.fin=true:=by
  have:=fM hp
  simp only[lM,aT,Bool.and_eq_true,decide_eq_true_eq]
  show -1≤(i.p 2).fin∧(i.p 2).fin≤1048576
  omega
 have e3:kM (i.put 0 2 (-1)) 0 2=((i.p2.rows.length:Int),0):=(eT hc (by decide) 0 2 (by omega) (by omega)).trans (by rw[pW hp];rfl)
 have e4:kM (i.put 0 2 i.p2.fin) 0 2=(0,0):=(eT hc hf 0 2 (by omega) (by omega)).trans (by have:=pX hp;simp only[ImgD.p] at this ⊢;rw[this];rfl)
 have e5:kM (i.put 0 2 (pS i.p2 off)) 0 2=(((jM i.p2 (pS i.p2 off):Nat):Int),0):=eT hc hn 0 2 (by omega) (by omega)
 have hl:=hs.p2.rows
 have hat:(if (if i.p2.fin<off then i.p2.fin else off) > 0 then (if i.p2.fin<off then i.p2.fin else off) else 0)=pS i.p2 off:=rfl
 rw[hg] at c0
 rw[hc] at c2
 rw[e3] at c3
 rw[e4] at c4
 rw[e5] at c5
 simp only[ImgD.put,GrpD.put,ImgD.dv,PartD.dv,StateD.dv,CoordD.dv,GrpD.dv,List.cons_append,List.nil_append] at c0 c2 c3 c4 c5
 unfold jM at c5
 generalize pS i.p2 off=n at *
 have hla:=tQ i.p2.rows n
 generalize i.p2.rows.countP (fun r=>decide (n≤r.off))=m at *
 (refine aJ.of_body Tryz.func3 rfl rfl Tryz.ntmps3 Tryz.results3 (by simp) ?_)
 (refine gO (ai @ImgD.dv.eq_1 (ai @PartD.dv.eq_1 (ai @StateD.dv.eq_1 (ai @CoordD.dv.eq_1 (ai @GrpD.dv.eq_1 (hat)))))) ?_;try with_reducible exact tt)
 refine Wp.loop (fun k:Nat=>⟨fP [(9,.c (.d (.lst 5 (i.p2.rows.map RowD.dv)))),(10,vi .i64 n),(11,vi .i64 i.p2.rows.length),(12,vi .i64 0),(13,vi .i64 0),(14,vi .i64 0),(15,vi .i64 m),(16,vi .i64 0),(17,vi .i64 (((i.p2.rows.take k).countP (fun r=>decide (r.off<n)):Nat):Int)),(102,.c (.d (.lst 5 (i.p2.rows.map RowD.dv)))),(103,vi .i64 i.p2.rows.length),(104,vi .i64 k)],cL [],20,145,0⟩) (fun k=>k≤i.p2.rows.length) (fun k=>i.p2.rows.length - k) 0 (Nat.zero_le _) ?_ ?_
 ·refine aD.keep rfl (by simp[aN,SV.ids,HE.ids,CV.ids];rfl) ?_
  (refine rO (ai @ImgD.dv.eq_1 (ai @PartD.dv.eq_1 (ai @StateD.dv.eq_1 (ai @CoordD.dv.eq_1 (ai @GrpD.dv.eq_1 (ai @List.map_append.{0,0} (ai @List.map_cons.{0,0} (ai @List.map_nil.{0,0} (ai @List.take_zero.{0} (@List.countP_nil.{0})))))))))) ?_;try with_reducible exact tt)
 intro k hk
 by_cases hlt:k<i.p2.rows.length
 ·have dk:decide ((k:Int)<(i.p2.rows.length:Int))=true:=decide_eq_true (by omega)
  have g1:i.p2.rows[k]? = some i.p2.rows[k]:=List.getElem?_eq_getElem hlt
  have hwk:IntKind.i64.wrap ((k:Int)+1)=((k+1:Nat):Int):=by rw[aF (by omega)];rfl
  have hcn:=dL (fun r:RowD=>decide (r.off<n)) i.p2.rows k hlt
  have hcl:=List.countP_le_length (p:=fun r:RowD=>decide (r.off<n)) (l:=i.p2.rows.take k)
  have htl:=List.length_take_le k i.p2.rows
  generalize i.p2.rows[k]=r at *
  generalize (i.p2.rows.take k).countP (fun r=>decide (r.off<n))=b at *
  have hwn:IntKind.i64.wrap ((b:Int)+1)=((b+1:Nat):Int):=by rw[aF (by omega)];rfl
  (refine gO (ai dk (ai g1 (@RowD.dv.eq_1))) ?_;try with_reducible exact tt)
  refine Wp.cond (by (refine aM ?_;try with_reducible exact tt);rfl) (fun h=>?_) (fun h=>?_)
  ·rw[h] at hcn
   (refine aH ?_;try with_reducible exact tt)
   refine⟨k+1,by omega,by omega,aD.keep rfl (by simp[aN,SV.ids,HE.ids,CV.ids];rfl) ?_⟩
   (refine rO (ai hwk (ai hwn (hcn))) ?_;try with_reducible exact tt)
  ·rw[h] at hcn
   (refine aH ?_;try with_reducible exact tt)
   refine⟨k+1,by omega,by omega,aD.keep rfl (by simp[aN,SV.ids,HE.ids,CV.ids];rfl) ?_⟩
   (refine rO (ai hwk (hcn)) ?_;try with_reducible exact tt)
 ·have dk:decide ((k:Int)<(i.p2.rows.length:Int))=false:=decide_eq_false (by omega)
  have htk:i.p2.rows.take k=i.p2.rows:=List.take_of_length_le (by omega)
  rw[htk]
  generalize i.p2.rows.countP (fun r=>decide (r.off<n))=b at *
  have hw:IntKind.i64.wrap ((i.p2.rows.length:Int) - (b:Int))=(m:Int):=by rw[aF (by omega)];omega
  (refine gO (ai dk (hw)) ?_;try with_reducible exact tt)
  (refine aM ?_;try with_reducible exact tt)
theorem aG8 (i:ImgD) (off:Int) (h8:I8I i) (hg:fL i=false) (hc:aX i=true):aJ Tryz.prog 3 [.agg i.dv,int 1,int 0,int off] (eK true):=by
 have hs:=(gF hg).1
 have hp:=eQ (cU hc 0)
 have hn:=tK (p:=i.p0) off hp
 have c0:=gE i
 have c1:=gJ
 have c2:=iO i hs h8
 have c3:=eI (i.put 1 0 (-1)) 1 0 ⟨hs.p0,hs.p1,hs.p2,⟨hs.m.c0,hs.m.c1,hs.m.c2⟩⟩
 have c4:=eI (i.put 1 0 i.p0.fin) 1 0 ⟨hs.p0,hs.p1,hs.p2,⟨hs.m.c0,hs.m.c1,hs.m.c2⟩⟩
 have c5:=eI (i.put 1 0 (pS i.p0 off)) 1 0 ⟨hs.p0,hs.p1,hs.p2,⟨hs.m.c0,hs.m.c1,hs.m.c2⟩⟩
 have hf:lM i.p0.fin=true:=by
  have:=fM hp
  simp only[lM,aT,Bool.and_eq_true,decide_eq_true_eq]
  show -1≤(i.p 0).fin∧(i.p 0).fin≤1048576
  omega
 have e3:kM (i.put 1 0 (-1)) 1 0=((i.p0.rows.length:Int),0):=(eT hc (by decide) 1 0 (by omega) (by omega)).trans (by rw[pW hp];rfl)
 have e4:kM (i.put 1 0 i.p0.fin) 1 0=(0,0):=(eT hc hf 1 0 (by omega) (by omega)).trans (by have:=pX hp;simp only[ImgD.p] at this ⊢;rw[this];rfl)
 have e5:kM (i.put 1 0 (pS i.p0 off)) 1 0=(((jM i.p0 (pS i.p0 off):Nat):Int),0):=eT hc hn 1 0 (by omega) (by omega)
 have hl:=hs.p0.rows
 have hat:(if (if i.p0.fin<off then i.p0.fin else off) > 0 then (if i.p0.fin<off then i.p0.fin else off) else 0)=pS i.p0 off:=rfl
 rw[hg] at c0
 rw[hc] at c2
 rw[e3] at c3
 rw[e4] at c4
 rw[e5] at c5
 simp only[ImgD.put,GrpD.put,ImgD.dv,PartD.dv,StateD.dv,CoordD.dv,GrpD.dv,List.cons_append,List.nil_append] at c0 c2 c3 c4 c5
 unfold jM at c5
 generalize pS i.p0 off=n at *
 have hla:=tQ i.p0.rows n
 generalize i.p0.rows.countP (fun r=>decide (n≤r.off))=m at *
 (refine aJ.of_body Tryz.func3 rfl rfl Tryz.ntmps3 Tryz.results3 (by simp) ?_)
 (refine gO (ai @ImgD.dv.eq_1 (ai @PartD.dv.eq_1 (ai @StateD.dv.eq_1 (ai @CoordD.dv.eq_1 (ai @GrpD.dv.eq_1 (hat)))))) ?_;try with_reducible exact tt)
 refine Wp.loop (fun k:Nat=>⟨fP [(9,.c (.d (.lst 5 (i.p0.rows.map RowD.dv)))),(10,vi .i64 n),(11,vi .i64 i.p0.rows.length),(12,vi .i64 0),(13,vi .i64 0),(14,vi .i64 0),(15,vi .i64 m),(16,vi .i64 0),(17,vi .i64 (((i.p0.rows.take k).countP (fun r=>decide (r.off<n)):Nat):Int)),(102,.c (.d (.lst 5 (i.p0.rows.map RowD.dv)))),(103,vi .i64 i.p0.rows.length),(104,vi .i64 k)],cL [],20,145,0⟩) (fun k=>k≤i.p0.rows.length) (fun k=>i.p0.rows.length - k) 0 (Nat.zero_le _) ?_ ?_
 ·refine aD.keep rfl (by simp[aN,SV.ids,HE.ids,CV.ids];rfl) ?_
  (refine rO (ai @ImgD.dv.eq_1 (ai @PartD.dv.eq_1 (ai @StateD.dv.eq_1 (ai @CoordD.dv.eq_1 (ai @GrpD.dv.eq_1 (ai @List.map_append.{0,0} (ai @List.map_cons.{0,0} (ai @List.map_nil.{0,0} (ai @List.take_zero.{0} (@List.countP_nil.{0})))))))))) ?_;try with_reducible exact tt)
 intro k hk
 by_cases hlt:k<i.p0.rows.length
 ·have dk:decide ((k:Int)<(i.p0.rows.length:Int))=true:=decide_eq_true (by omega)
  have g1:i.p0.rows[k]? = some i.p0.rows[k]:=List.getElem?_eq_getElem hlt
  have hwk:IntKind.i64.wrap ((k:Int)+1)=((k+1:Nat):Int):=by rw[aF (by omega)];rfl
  have hcn:=dL (fun r:RowD=>decide (r.off<n)) i.p0.rows k hlt
  have hcl:=List.countP_le_length (p:=fun r:RowD=>decide (r.off<n)) (l:=i.p0.rows.take k)
  have htl:=List.length_take_le k i.p0.rows
  generalize i.p0.rows[k]=r at *
  generalize (i.p0.rows.take k).countP (fun r=>decide (r.off<n))=b at *
  have hwn:IntKind.i64.wrap ((b:Int)+1)=((b+1:Nat):Int):=by rw[aF (by omega)];rfl
  (refine gO (ai dk (ai g1 (@RowD.dv.eq_1))) ?_;try with_reducible exact tt)
  refine Wp.cond (by (refine aM ?_;try with_reducible exact tt);rfl) (fun h=>?_) (fun h=>?_)
  ·rw[h] at hcn
   (refine aH ?_;try with_reducible exact tt)
   refine⟨k+1,by omega,by omega,aD.keep rfl (by simp[aN,SV.ids,HE.ids,CV.ids];rfl) ?_⟩
   (refine rO (ai hwk (ai hwn (hcn))) ?_;try with_reducible exact tt)
  ·rw[h] at hcn
   (refine aH ?_;try with_reducible exact tt)
   refine⟨k+1,by omega,by omega,aD.keep rfl (by simp[aN,SV.ids,HE.ids,CV.ids];rfl) ?_⟩
   (refine rO (ai hwk (hcn)) ?_;try with_reducible exact tt)
 ·have dk:decide ((k:Int)<(i.p0.rows.length:Int))=false:=decide_eq_false (by omega)
  have htk:i.p0.rows.take k=i.p0.rows:=List.take_of_length_le (by omega)
  rw[htk]
  generalize i.p0.rows.countP (fun r=>decide (r.off<n))=b at *
  have hw:IntKind.i64.wrap ((i.p0.rows.length:Int) - (b:Int))=(m:Int):=by rw[aF (by omega)];omega
  (refine gO (ai dk (hw)) ?_;try with_reducible exact tt)
  (refine aM ?_;try with_reducible exact tt)
theorem aG9 (i:ImgD) (off:Int) (h8:I8I i) (hg:fL i=false) (hc:aX i=true):aJ Tryz.prog 3 [.agg i.dv,int 1,int 1,int off] (eK true):=by
 have hs:=(gF hg).1
 have hp:=eQ (cU hc 1)
 have hn:=tK (p:=i.p1) off hp
 have c0:=gE i
 have c1:=gJ
 have c2:=iO i hs h8
 have c3:=eI (i.put 1 1 (-1)) 1 1 ⟨hs.p0,hs.p1,hs.p2,⟨hs.m.c0,hs.m.c1,hs.m.c2⟩⟩
 have c4:=eI (i.put 1 1 i.p1.fin) 1 1 ⟨hs.p0,hs.p1,hs.p2,⟨hs.m.c0,hs.m.c1,hs.m.c2⟩⟩
 have c5:=eI (i.put 1 1 (pS i.p1 off)) 1 1 ⟨hs.p0,hs.p1,hs.p2,⟨hs.m.c0,hs.m.c1,hs.m.c2⟩⟩
 have hf:lM i.p1.fin=true:=by
  have:=fM hp
  simp only[lM,aT,Bool.and_eq_true,decide_eq_true_eq]
  show -1≤(i.p 1).fin∧(i.p 1).fin≤1048576
  omega
 have e3:kM (i.put 1 1 (-1)) 1 1=((i.p1.rows.length:Int),0):=(eT hc (by decide) 1 1 (by omega) (by omega)).trans (by rw[pW hp];rfl)
 have e4:kM (i.put 1 1 i.p1.fin) 1 1=(0,0):=(eT hc hf 1 1 (by omega) (by omega)).trans (by have:=pX hp;simp only[ImgD.p] at this ⊢;rw[this];rfl)
 have e5:kM (i.put 1 1 (pS i.p1 off)) 1 1=(((jM i.p1 (pS i.p1 off):Nat):Int),0):=eT hc hn 1 1 (by omega) (by omega)
 have hl:=hs.p1.rows
 have hat:(if (if i.p1.fin<off then i.p1.fin else off) > 0 then (if i.p1.fin<off then i.p1.fin else off) else 0)=pS i.p1 off:=rfl
 rw[hg] at c0
 rw[hc] at c2
 rw[e3] at c3
 rw[e4] at c4
 rw[e5] at c5
 simp only[ImgD.put,GrpD.put,ImgD.dv,PartD.dv,StateD.dv,CoordD.dv,GrpD.dv,List.cons_append,List.nil_append] at c0 c2 c3 c4 c5
 unfold jM at c5
 generalize pS i.p1 off=n at *
 have hla:=tQ i.p1.rows n
 generalize i.p1.rows.countP (fun r=>decide (n≤r.off))=m at *
 (refine aJ.of_body Tryz.func3 rfl rfl Tryz.ntmps3 Tryz.results3 (by simp) ?_)
 (refine gO (ai @ImgD.dv.eq_1 (ai @PartD.dv.eq_1 (ai @StateD.dv.eq_1 (ai @CoordD.dv.eq_1 (ai @GrpD.dv.eq_1 (hat)))))) ?_;try with_reducible exact tt)
 refine Wp.loop (fun k:Nat=>⟨fP [(9,.c (.d (.lst 5 (i.p1.rows.map RowD.dv)))),(10,vi .i64 n),(11,vi .i64 i.p1.rows.length),(12,vi .i64 0),(13,vi .i64 0),(14,vi .i64 0),(15,vi .i64 m),(16,vi .i64 0),(17,vi .i64 (((i.p1.rows.take k).countP (fun r=>decide (r.off<n)):Nat):Int)),(102,.c (.d (.lst 5 (i.p1.rows.map RowD.dv)))),(103,vi .i64 i.p1.rows.length),(104,vi .i64 k)],cL [],20,145,0⟩) (fun k=>k≤i.p1.rows.length) (fun k=>i.p1.rows.length - k) 0 (Nat.zero_le _) ?_ ?_
 ·refine aD.keep rfl (by simp[aN,SV.ids,HE.ids,CV.ids];rfl) ?_
  (refine rO (ai @ImgD.dv.eq_1 (ai @PartD.dv.eq_1 (ai @StateD.dv.eq_1 (ai @CoordD.dv.eq_1 (ai @GrpD.dv.eq_1 (ai @List.map_append.{0,0} (ai @List.map_cons.{0,0} (ai @List.map_nil.{0,0} (ai @List.take_zero.{0} (@List.countP_nil.{0})))))))))) ?_;try with_reducible exact tt)
 intro k hk
 by_cases hlt:k<i.p1.rows.length
 ·have dk:decide ((k:Int)<(i.p1.rows.length:Int))=true:=decide_eq_true (by omega)
  have g1:i.p1.rows[k]? = some i.p1.rows[k]:=List.getElem?_eq_getElem hlt
  have hwk:IntKind.i64.wrap ((k:Int)+1)=((k+1:Nat):Int):=by rw[aF (by omega)];rfl
  have hcn:=dL (fun r:RowD=>decide (r.off<n)) i.p1.rows k hlt
  have hcl:=List.countP_le_length (p:=fun r:RowD=>decide (r.off<n)) (l:=i.p1.rows.take k)
  have htl:=List.length_take_le k i.p1.rows
  generalize i.p1.rows[k]=r at *
  generalize (i.p1.rows.take k).countP (fun r=>decide (r.off<n))=b at *
  have hwn:IntKind.i64.wrap ((b:Int)+1)=((b+1:Nat):Int):=by rw[aF (by omega)];rfl
  (refine gO (ai dk (ai g1 (@RowD.dv.eq_1))) ?_;try with_reducible exact tt)
  refine Wp.cond (by (refine aM ?_;try with_reducible exact tt);rfl) (fun h=>?_) (fun h=>?_)
  ·rw[h] at hcn
   (refine aH ?_;try with_reducible exact tt)
   refine⟨k+1,by omega,by omega,aD.keep rfl (by simp[aN,SV.ids,HE.ids,CV.ids];rfl) ?_⟩
   (refine rO (ai hwk (ai hwn (hcn))) ?_;try with_reducible exact tt)
  ·rw[h] at hcn
   (refine aH ?_;try with_reducible exact tt)
   refine⟨k+1,by omega,by omega,aD.keep rfl (by simp[aN,SV.ids,HE.ids,CV.ids];rfl) ?_⟩
   (refine rO (ai hwk (hcn)) ?_;try with_reducible exact tt)
 ·have dk:decide ((k:Int)<(i.p1.rows.length:Int))=false:=decide_eq_false (by omega)
  have htk:i.p1.rows.take k=i.p1.rows:=List.take_of_length_le (by omega)
  rw[htk]
  generalize i.p1.rows.countP (fun r=>decide (r.off<n))=b at *
  have hw:IntKind.i64.wrap ((i.p1.rows.length:Int) - (b:Int))=(m:Int):=by rw[aF (by omega)];omega
  (refine gO (ai dk (hw)) ?_;try with_reducible exact tt)
  (refine aM ?_;try with_reducible exact tt)
theorem aGa (i:ImgD) (off:Int) (h8:I8I i) (hg:fL i=false) (hc:aX i=true):aJ Tryz.prog 3 [.agg i.dv,int 1,int 2,int off] (eK true):=by
 have hs:=(gF hg).1
 have hp:=eQ (cU hc 2)
 have hn:=tK (p:=i.p2) off hp
 have c0:=gE i
 have c1:=gJ
 have c2:=iO i hs h8
 have c3:=eI (i.put 1 2 (-1)) 1 2 ⟨hs.p0,hs.p1,hs.p2,⟨hs.m.c0,hs.m.c1,hs.m.c2⟩⟩
 have c4:=eI (i.put 1 2 i.p2.fin) 1 2 ⟨hs.p0,hs.p1,hs.p2,⟨hs.m.c0,hs.m.c1,hs.m.c2⟩⟩
 have c5:=eI (i.put 1 2 (pS i.p2 off)) 1 2 ⟨hs.p0,hs.p1,hs.p2,⟨hs.m.c0,hs.m.c1,hs.m.c2⟩⟩
 have hf:lM i.p2.fin=true:=by
  have:=fM hp
  simp only[lM,aT,Bool.and_eq_true,decide_eq_true_eq]
  show -1≤(i.p 2).fin∧(i.p 2).fin≤1048576
  omega
 have e3:kM (i.put 1 2 (-1)) 1 2=((i.p2.rows.length:Int),0):=(eT hc (by decide) 1 2 (by omega) (by omega)).trans (by rw[pW hp];rfl)
 have e4:kM (i.put 1 2 i.p2.fin) 1 2=(0,0):=(eT hc hf 1 2 (by omega) (by omega)).trans (by have:=pX hp;simp only[ImgD.p] at this ⊢;rw[this];rfl)
 have e5:kM (i.put 1 2 (pS i.p2 off)) 1 2=(((jM i.p2 (pS i.p2 off):Nat):Int),0):=eT hc hn 1 2 (by omega) (by omega)
 have hl:=hs.p2.rows
 have hat:(if (if i.p2.fin<off then i.p2.fin else off) > 0 then (if i.p2.fin<off then i.p2.fin else off) else 0)=pS i.p2 off:=rfl
 rw[hg] at c0
 rw[hc] at c2
 rw[e3] at c3
 rw[e4] at c4
 rw[e5] at c5
 simp only[ImgD.put,GrpD.put,ImgD.dv,PartD.dv,StateD.dv,CoordD.dv,GrpD.dv,List.cons_append,List.nil_append] at c0 c2 c3 c4 c5
 unfold jM at c5
 generalize pS i.p2 off=n at *
 have hla:=tQ i.p2.rows n
 generalize i.p2.rows.countP (fun r=>decide (n≤r.off))=m at *
 (refine aJ.of_body Tryz.func3 rfl rfl Tryz.ntmps3 Tryz.results3 (by simp) ?_)
 (refine gO (ai @ImgD.dv.eq_1 (ai @PartD.dv.eq_1 (ai @StateD.dv.eq_1 (ai @CoordD.dv.eq_1 (ai @GrpD.dv.eq_1 (hat)))))) ?_;try with_reducible exact tt)
 refine Wp.loop (fun k:Nat=>⟨fP [(9,.c (.d (.lst 5 (i.p2.rows.map RowD.dv)))),(10,vi .i64 n),(11,vi .i64 i.p2.rows.length),(12,vi .i64 0),(13,vi .i64 0),(14,vi .i64 0),(15,vi .i64 m),(16,vi .i64 0),(17,vi .i64 (((i.p2.rows.take k).countP (fun r=>decide (r.off<n)):Nat):Int)),(102,.c (.d (.lst 5 (i.p2.rows.map RowD.dv)))),(103,vi .i64 i.p2.rows.length),(104,vi .i64 k)],cL [],20,145,0⟩) (fun k=>k≤i.p2.rows.length) (fun k=>i.p2.rows.length - k) 0 (Nat.zero_le _) ?_ ?_
 ·refine aD.keep rfl (by simp[aN,SV.ids,HE.ids,CV.ids];rfl) ?_
  (refine rO (ai @ImgD.dv.eq_1 (ai @PartD.dv.eq_1 (ai @StateD.dv.eq_1 (ai @CoordD.dv.eq_1 (ai @GrpD.dv.eq_1 (ai @List.map_append.{0,0} (ai @List.map_cons.{0,0} (ai @List.map_nil.{0,0} (ai @List.take_zero.{0} (@List.countP_nil.{0})))))))))) ?_;try with_reducible exact tt)
 intro k hk
 by_cases hlt:k<i.p2.rows.length
 ·have dk:decide ((k:Int)<(i.p2.rows.length:Int))=true:=decide_eq_true (by omega)
  have g1:i.p2.rows[k]? = some i.p2.rows[k]:=List.getElem?_eq_getElem hlt
  have hwk:IntKind.i64.wrap ((k:Int)+1)=((k+1:Nat):Int):=by rw[aF (by omega)];rfl
  have hcn:=dL (fun r:RowD=>decide (r.off<n)) i.p2.rows k hlt
  have hcl:=List.countP_le_length (p:=fun r:RowD=>decide (r.off<n)) (l:=i.p2.rows.take k)
  have htl:=List.length_take_le k i.p2.rows
  generalize i.p2.rows[k]=r at *
  generalize (i.p2.rows.take k).countP (fun r=>decide (r.off<n))=b at *
  have hwn:IntKind.i64.wrap ((b:Int)+1)=((b+1:Nat):Int):=by rw[aF (by omega)];rfl
  (refine gO (ai dk (ai g1 (@RowD.dv.eq_1))) ?_;try with_reducible exact tt)
  refine Wp.cond (by (refine aM ?_;try with_reducible exact tt);rfl) (fun h=>?_) (fun h=>?_)
  ·rw[h] at hcn
   (refine aH ?_;try with_reducible exact tt)
   refine⟨k+1,by omega,by omega,aD.keep rfl (by simp[aN,SV.ids,HE.ids,CV.ids];rfl) ?_⟩
   (refine rO (ai hwk (ai hwn (hcn))) ?_;try with_reducible exact tt)
  ·rw[h] at hcn
   (refine aH ?_;try with_reducible exact tt)
   refine⟨k+1,by omega,by omega,aD.keep rfl (by simp[aN,SV.ids,HE.ids,CV.ids];rfl) ?_⟩
   (refine rO (ai hwk (hcn)) ?_;try with_reducible exact tt)
 ·have dk:decide ((k:Int)<(i.p2.rows.length:Int))=false:=decide_eq_false (by omega)
  have htk:i.p2.rows.take k=i.p2.rows:=List.take_of_length_le (by omega)
  rw[htk]
  generalize i.p2.rows.countP (fun r=>decide (r.off<n))=b at *
  have hw:IntKind.i64.wrap ((i.p2.rows.length:Int) - (b:Int))=(m:Int):=by rw[aF (by omega)];omega
  (refine gO (ai dk (hw)) ?_;try with_reducible exact tt)
  (refine aM ?_;try with_reducible exact tt)
theorem zJ (i:ImgD) (g q off:Int) (h8:I8I i):aJ Tryz.prog 3 [.agg i.dv,int g,int q,int off] (eK true):=by
 cases hg:fL i with
 | true=>exact aIz i g q off hg
 | false =>
  cases hb:mT i g q with
  | true=>exact aE2 i g q off h8 hg hb
  | false =>
   simp only[mT,Bool.or_eq_false_iff,decide_eq_false_iff_not,Bool.not_eq_false'] at hb
   obtain⟨⟨⟨⟨hc,h1⟩,h2⟩,h3⟩,h4⟩:=hb
   rcases (show g=0∨g=1 by omega) with rfl|rfl<;>rcases (show q=0∨q=1∨q=2 by omega) with rfl|rfl|rfl
   ·exact aG5 i off h8 hg hc
   ·exact aG6 i off h8 hg hc
   ·exact aG7 i off h8 hg hc
   ·exact aG8 i off h8 hg hc
   ·exact aG9 i off h8 hg hc
   ·exact aGa i off h8 hg hc
end Go.Proofs.YtkmfmphpndhkjaaGreatDoor
