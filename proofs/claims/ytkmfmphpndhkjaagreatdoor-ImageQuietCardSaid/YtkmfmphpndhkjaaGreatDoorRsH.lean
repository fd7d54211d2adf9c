/- The reference of layer 27: Great. Package image: Empty;the law's wakes. -/
import Derived.Test.YtkmfmphpndhkjaaGreatDoorRsG
import Derived.Test.YtkmfmphpndhkjaaGreatDoorRfA
import Derived.Test.YtkmfmphpndhkjaaGreatDoorBaI
import Derived.Test.YtkmfmphpndhkjaaGreatDoorImL
namespace Go.Proofs.YtkmfmphpndhkjaaGreatDoor
open Go Go.RowKit
set_option maxHeartbeats 16000000
set_option maxRecDepth 100000
set_option linter.unusedVariables false
set_option linter.unusedSimpArgs false
def jF (p:PartD):Bool:=jU p || decide (2000<p.fin)
def nM (c:CoordD):Bool:=decide (40<(c.parts.length:Int)) || decide (40<(c.pends.length:Int))
def eK (i:ImgD):Bool:=jF i.p0 || (jF i.p1 || (jF i.p2 || (nM i.m.c0 || (nM i.m.c1 || nM i.m.c2))))
theorem eU (i:ImgD):aJ Tryz.prog 7 [.agg i.dv] (dC (eK i)):=by
 have c0:=tN i.p0
 have c1:=tN i.p1
 have c2:=tN i.p2
 have hg:eK i=(jF i.p0 || (jF i.p1 || (jF i.p2 || (nM i.m.c0 || (nM i.m.c1 || nM i.m.c2))))):=rfl
 simp only[PartD.dv] at c0 c1 c2
 (refine aJ.of_body Tryz.func7 rfl rfl Tryz.ntmps7 Tryz.results7 (by simp) ?_)
 (refine gO (ai @ImgD.dv.eq_1 (ai @PartD.dv.eq_1 (ai @StateD.dv.eq_1 (ai @CoordD.dv.eq_1 (@GrpD.dv.eq_1))))) ?_;try with_reducible exact tt)
 refine Wp.rounds 4 (aN.go ?_)
 (refine aI ?_;try with_reducible exact tt)
 (first|refine Wp.sto 20 (vb (jF i.p0)) ?_ ?_|refine Wp.rtoS 20 (vb (jF i.p0)) ?_ ?_|(refine Wp.seq ?_;first|refine Wp.sto 20 (vb (jF i.p0)) ?_ ?_|refine Wp.rtoS 20 (vb (jF i.p0)) ?_ ?_))
 ·unfold jF;((rcases Bool.eq_false_or_eq_true (jU i.p0) with hL1|hL1)<;>(rcases Bool.eq_false_or_eq_true (decide (2000<i.p0.fin)) with hL2|hL2)<;>(((refine rO (ai hL1 (hL2)) ?_;try with_reducible exact tt);(repeat (refine aQ (by assumption) ?_;(refine rO (ai hL1 (hL2)) ?_;try with_reducible exact tt))));all_goals (exact (show aH _ _=true by kernel_rfl))))
 refine Wp.cond (by (refine aK ?_;try with_reducible exact tt);rfl) (fun h=>?_) (fun h=>?_)
 ·have e:eK i=true:=by rw[hg,h];rfl
  (refine aI ?_;try with_reducible exact tt)
  (refine rO (e) ?_;try with_reducible exact tt)
 have k0:=h
 (refine aI ?_;try with_reducible exact tt)
 (first|refine Wp.sto 20 (vb (jF i.p1)) ?_ ?_|refine Wp.rtoS 20 (vb (jF i.p1)) ?_ ?_|(refine Wp.seq ?_;first|refine Wp.sto 20 (vb (jF i.p1)) ?_ ?_|refine Wp.rtoS 20 (vb (jF i.p1)) ?_ ?_))
 ·unfold jF;((rcases Bool.eq_false_or_eq_true (jU i.p1) with hL1|hL1)<;>(rcases Bool.eq_false_or_eq_true (decide (2000<i.p1.fin)) with hL2|hL2)<;>(((refine rO (ai hL1 (hL2)) ?_;try with_reducible exact tt);(repeat (refine aQ (by assumption) ?_;(refine rO (ai hL1 (hL2)) ?_;try with_reducible exact tt))));all_goals (exact (show aH _ _=true by kernel_rfl))))
 refine Wp.cond (by (refine aK ?_;try with_reducible exact tt);rfl) (fun h=>?_) (fun h=>?_)
 ·have e:eK i=true:=by rw[hg,h];simp
  (refine aI ?_;try with_reducible exact tt)
  (refine rO (e) ?_;try with_reducible exact tt)
 have k1:=h
 (refine aI ?_;try with_reducible exact tt)
 (first|refine Wp.sto 20 (vb (jF i.p2)) ?_ ?_|refine Wp.rtoS 20 (vb (jF i.p2)) ?_ ?_|(refine Wp.seq ?_;first|refine Wp.sto 20 (vb (jF i.p2)) ?_ ?_|refine Wp.rtoS 20 (vb (jF i.p2)) ?_ ?_))
 ·unfold jF;((rcases Bool.eq_false_or_eq_true (jU i.p2) with hL1|hL1)<;>(rcases Bool.eq_false_or_eq_true (decide (2000<i.p2.fin)) with hL2|hL2)<;>(((refine rO (ai hL1 (hL2)) ?_;try with_reducible exact tt);(repeat (refine aQ (by assumption) ?_;(refine rO (ai hL1 (hL2)) ?_;try with_reducible exact tt))));all_goals (exact (show aH _ _=true by kernel_rfl))))
 refine Wp.cond (by (refine aK ?_;try with_reducible exact tt);rfl) (fun h=>?_) (fun h=>?_)
 ·have e:eK i=true:=by rw[hg,h];simp
  (refine aI ?_;try with_reducible exact tt)
  (refine rO (e) ?_;try with_reducible exact tt)
 have k2:=h
 (refine aI ?_;try with_reducible exact tt)
 refine Wp.rounds 4 (aN.go ?_)
 (refine aI ?_;try with_reducible exact tt)
 (first|refine Wp.sto 42 (vb (nM i.m.c0)) ?_ ?_|refine Wp.rtoS 42 (vb (nM i.m.c0)) ?_ ?_|(refine Wp.seq ?_;first|refine Wp.sto 42 (vb (nM i.m.c0)) ?_ ?_|refine Wp.rtoS 42 (vb (nM i.m.c0)) ?_ ?_))
 ·unfold nM;((rcases Bool.eq_false_or_eq_true (decide (40<(i.m.c0.parts.length:Int))) with hL1|hL1)<;>(rcases Bool.eq_false_or_eq_true (decide (40<(i.m.c0.pends.length:Int))) with hL2|hL2)<;>(((refine rO (ai hL1 (hL2)) ?_;try with_reducible exact tt);(repeat (refine aQ (by assumption) ?_;(refine rO (ai hL1 (hL2)) ?_;try with_reducible exact tt))));all_goals (exact (show aH _ _=true by kernel_rfl))))
 refine Wp.cond (by (refine aK ?_;try with_reducible exact tt);rfl) (fun h=>?_) (fun h=>?_)
 ·have e:eK i=true:=by rw[hg,h];simp
  (refine aI ?_;try with_reducible exact tt)
  (refine rO (e) ?_;try with_reducible exact tt)
 have k3:=h
 (refine aI ?_;try with_reducible exact tt)
 (first|refine Wp.sto 42 (vb (nM i.m.c1)) ?_ ?_|refine Wp.rtoS 42 (vb (nM i.m.c1)) ?_ ?_|(refine Wp.seq ?_;first|refine Wp.sto 42 (vb (nM i.m.c1)) ?_ ?_|refine Wp.rtoS 42 (vb (nM i.m.c1)) ?_ ?_))
 ·unfold nM;((rcases Bool.eq_false_or_eq_true (decide (40<(i.m.c1.parts.length:Int))) with hL1|hL1)<;>(rcases Bool.eq_false_or_eq_true (decide (40<(i.m.c1.pends.length:Int))) with hL2|hL2)<;>(((refine rO (ai hL1 (hL2)) ?_;try with_reducible exact tt);(repeat (refine aQ (by assumption) ?_;(refine rO (ai hL1 (hL2)) ?_;try with_reducible exact tt))));all_goals (exact (show aH _ _=true by kernel_rfl))))
 refine Wp.cond (by (refine aK ?_;try with_reducible exact tt);rfl) (fun h=>?_) (fun h=>?_)
 ·have e:eK i=true:=by rw[hg,h];simp
  (refine aI ?_;try with_reducible exact tt)
  (refine rO (e) ?_;try with_reducible exact tt)
 have k4:=h
 (refine aI ?_;try with_reducible exact tt)
 (first|refine Wp.sto 42 (vb (nM i.m.c2)) ?_ ?_|refine Wp.rtoS 42 (vb (nM i.m.c2)) ?_ ?_|(refine Wp.seq ?_;first|refine Wp.sto 42 (vb (nM i.m.c2)) ?_ ?_|refine Wp.rtoS 42 (vb (nM i.m.c2)) ?_ ?_))
 ·unfold nM;((rcases Bool.eq_false_or_eq_true (decide (40<(i.m.c2.parts.length:Int))) with hL1|hL1)<;>(rcases Bool.eq_false_or_eq_true (decide (40<(i.m.c2.pends.length:Int))) with hL2|hL2)<;>(((refine rO (ai hL1 (hL2)) ?_;try with_reducible exact tt);(repeat (refine aQ (by assumption) ?_;(refine rO (ai hL1 (hL2)) ?_;try with_reducible exact tt))));all_goals (exact (show aH _ _=true by kernel_rfl))))
 refine Wp.cond (by (refine aK ?_;try with_reducible exact tt);rfl) (fun h=>?_) (fun h=>?_)
 ·have e:eK i=true:=by rw[hg,h];simp
  (refine aI ?_;try with_reducible exact tt)
  (refine rO (e) ?_;try with_reducible exact tt)
 have e:eK i=false:=by rw[hg,k0,k1,k2,k3,k4,h];rfl
 (refine aI ?_;try with_reducible exact tt)
 (refine rO (e) ?_;try with_reducible exact tt)
theorem kM {p:PartD} (h:jF p=false):SmallP p∧p.rows.length≤1048576∧p.fin≤2000:=by
 simp only[jF,jU,eJ,Bool.or_eq_false_iff,decide_eq_false_iff_not] at h
 obtain⟨⟨⟨⟨⟨⟨h1,_⟩,h2⟩,h3⟩,h4⟩,h5⟩,h6⟩:=h
 refine⟨⟨by omega,by omega,fun o ho=>?_,⟨by omega,fun q hq=>?_⟩⟩,by omega,by omega⟩
 ·have:=List.any_eq_false.1 h4 o ho
  simp only[eA,Bool.not_eq_true,Bool.or_eq_false_iff,decide_eq_false_iff_not] at this
  refine⟨by omega,fun b hb=>?_⟩
  have hb2:=List.any_eq_false.1 this.2 b hb
  simp only[jZ,Bool.not_eq_true,Bool.or_eq_false_iff,decide_eq_false_iff_not] at hb2
  omega
 ·have:=List.any_eq_false.1 h5 q hq
  simp only[decide_eq_true_eq] at this
  omega
theorem hX {i:ImgD} (h:eK i=false):SmallI i∧RowsOk i:=by
 simp only[eK,Bool.or_eq_false_iff] at h
 obtain⟨h0,h1,h2,k0,k1,k2⟩:=h
 have hc:∀ c:CoordD,nM c=false→SmallC c:=fun c h=>by
  simp only[nM,Bool.or_eq_false_iff,decide_eq_false_iff_not] at h
  exact⟨by omega,by omega⟩
 exact⟨⟨(kM h0).1,(kM h1).1,(kM h2).1,⟨hc _ k0,hc _ k1,hc _ k2⟩⟩,⟨(kM h0).2.1,(kM h1).2.1,(kM h2).2.1⟩⟩
def aP8 (tag:Int):ImgD:=⟨tag,pz,pz,pz,aEv⟩
theorem aM6 (tag:Int):aJ Tryz.prog 23 [i8 tag] (.agg (aP8 tag).dv):=by
 have c1:=aH8
 simp only[StateD.dv,CoordD.dv,GrpD.dv,aEv,cz,gm1,List.map_nil,List.cons_append,List.nil_append] at c1
 (refine aJ.of_bodyW Tryz.func23 rfl rfl Tryz.ntmps23 Tryz.results23 (by simp) ?_)
 (refine aI ?_;try with_reducible exact tt)
 (refine aK ?_;try with_reducible exact tt)
 refine⟨_,rfl,?_⟩
 have kp:∀ (l l' : List D),AllLe l l'→AllLe ([int 0,int 0,bU,bU,bU]++l) (pz.dv++l'):=fun l l' h =>
  .cons (.refl _) (.cons (.refl _) (.cons (.nil 5) (.cons (.nil 3) (.cons (.nil 4) h))))
 have hg:∀ l:List D,AllLe l l:=fun l=>by
  induction l with
  | nil=>exact .nil
  | cons a l ih=>exact .cons (.refl _) ih
 exact jA.agg (AllLe.cons (jA.refl _) (kp _ _ (kp _ _ (kp _ _ (hg _)))))
def wI:ImgD:=⟨1,⟨0,7,[⟨2,1,0,[],[]⟩,⟨5,1,1,[],[]⟩],[],[⟨1,0,2,[]⟩]⟩,pz,pz,⟨1,cz,cz,cz,⟨3,-1,-1,-1,-1,-1⟩⟩⟩
def wB:ImgD:=⟨0,⟨0,2,[⟨0,1,0,[],[]⟩,⟨1,1,1,[],[]⟩],[],[⟨1,0,2,[]⟩]⟩,pz,pz,⟨1,cz,cz,cz,⟨1,-1,-1,-1,-1,-1⟩⟩⟩
theorem aRw:kS wI=(wB,0):=by decide +kernel
theorem aUk:aK9 wI 0 0=(1,0):=by decide +kernel
theorem aPd:eK wI=false:=by decide +kernel
theorem aU9:AllLe [.agg [i8 1,int 0,int 7,.lst 5 [[int 2,int 1,int 0,str [],str []],[int 5,int 1,int 1,str [],str []]],bU,.lst 4 [[int 1,int 0,int 2,bU]],int 0,int 0,.lst 5 [],.lst 3 [],.lst 4 [],int 0,int 0,.lst 5 [],.lst 3 [],.lst 4 [],int 1,i8 0,int 0,int 0,int 0,int 0,.lst 1 [],.lst 3 [],int 0,i8 0,int 0,int 0,int 0,int 0,.lst 1 [],.lst 3 [],int 0,i8 0,int 0,int 0,int 0,int 0,.lst 1 [],.lst 3 [],int 0,int 3,int (-1),int (-1),int (-1),int (-1),int (-1)]] [.agg wI.dv]:=by
 have hg:∀ l:List D,AllLe l l:=fun l=>by
  induction l with
  | nil=>exact .nil
  | cons a l ih=>exact .cons (.refl _) ih
 have hp:jA (.lst 4 [[int 1,int 0,int 2,bU]]) (.lst 4 [[int 1,int 0,int 2,.lst 3 []]]):=jA.lst (.cons (.cons (.refl _) (.cons (.refl _) (.cons (.refl _) (.cons (.nil 3) .nil)))) .nil)
 exact .cons (jA.agg (.cons (.refl _) (.cons (.refl _) (.cons (.refl _) (.cons (.refl _) (.cons (.nil 3) (.cons hp (hg _)))))))) .nil
theorem eX:aJ Tryz.prog 9 [] (dC true):=by
 have c1:=aM6 1
 obtain⟨hs,hr⟩:=hX aPd
 have c2:=aJ.args aU9 (qO wI hs hr)
 have c3:=aJ.args (xs:=[_,int 0,int 0]) (match aU9 with | .cons h .nil=>.cons h (.cons (.refl _) (.cons (.refl _) .nil))) (aRl wI 0 0 hs)
 rw[aRw] at c2
 rw[aUk] at c3
 simp only[aP8,wB,ImgD.dv,PartD.dv,RowD.dv,ProdD.dv,pz,StateD.dv,CoordD.dv,GrpD.dv,aEv,cz,gm1,List.map_cons,List.map_nil,List.cons_append,List.nil_append] at c1 c2 c3
 (refine aJ.of_body Tryz.func9 rfl rfl Tryz.ntmps9 Tryz.results9 (by simp) ?_)
 (refine aI ?_;try with_reducible exact tt)
 (refine aK ?_;try with_reducible exact tt)
end Go.Proofs.YtkmfmphpndhkjaaGreatDoor
