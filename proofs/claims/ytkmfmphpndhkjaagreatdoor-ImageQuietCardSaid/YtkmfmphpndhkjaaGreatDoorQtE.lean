/- The law ImageQuiet: the walk. -/
import Derived.Test.YtkmfmphpndhkjaaGreatDoorQtM
import Derived.Test.YtkmfmphpndhkjaaGreatDoorQtN
import Derived.Test.YtkmfmphpndhkjaaGreatDoorRsH
namespace Go.Proofs.YtkmfmphpndhkjaaGreatDoor
open Go Go.RowKit
set_option maxHeartbeats 8000000
set_option maxRecDepth 100000
set_option linter.unusedVariables false
set_option linter.unusedSimpArgs false
theorem aO0 (i:ImgD) (hg:eK i=true):aJ Tryz.prog 6 [.agg i.dv] (dC true):=by
 have c0:=eU i
 have c1:=eX
 rw[hg] at c0
 simp only[ImgD.dv,PartD.dv,StateD.dv,CoordD.dv,GrpD.dv,List.cons_append,List.nil_append] at c0
 (refine aJ.of_body Tryz.func6 rfl rfl Tryz.ntmps6 Tryz.results6 (by simp) ?_)
 (refine gO (ai @ImgD.dv.eq_1 (ai @PartD.dv.eq_1 (ai @StateD.dv.eq_1 (ai @CoordD.dv.eq_1 (@GrpD.dv.eq_1))))) ?_;try with_reducible exact tt)
 (refine aK ?_;try with_reducible exact tt)
theorem aO1 (i:ImgD) (h8:I8I i) (hg:eK i=false) (hb:aS i=false):aJ Tryz.prog 6 [.agg i.dv] (dC true):=by
 have hs:=(hX hg).1
 have c0:=eU i
 have c1:=eX
 have c2:=jE i hs h8
 rw[hg] at c0
 rw[hb] at c2
 simp only[ImgD.dv,PartD.dv,StateD.dv,CoordD.dv,GrpD.dv,List.cons_append,List.nil_append,Bool.false_eq_true,if_false] at c0 c2
 (refine aJ.of_body Tryz.func6 rfl rfl Tryz.ntmps6 Tryz.results6 (by simp) ?_)
 (refine gO (ai @ImgD.dv.eq_1 (ai @PartD.dv.eq_1 (ai @StateD.dv.eq_1 (ai @CoordD.dv.eq_1 (@GrpD.dv.eq_1))))) ?_;try with_reducible exact tt)
 (refine aK ?_;try with_reducible exact tt)
theorem aO2 (i:ImgD) (h8:I8I i) (hg:eK i=false) (hc:aS i=true):aJ Tryz.prog 6 [.agg i.dv] (dC true):=by
 obtain⟨hs,hr⟩:=hX hg
 have hok:=rP hc
 have c0:=eU i
 have c1:=eX
 have c2:=jE i hs h8
 have c3:=aM5 i hs (fun q o ho=>(zB (hok o (by match q,ho with|0,ho=>exact .inl ho|1,ho=>exact .inr (.inl ho)|_+2,ho=>exact .inr (.inr ho))).1).2)
 have c4:=aOm i hs
 have c5:=aM8 i
 have cO:=fun x=>aIa i.m x
 have hpo:=aTg hc
 have pB:=(aB5 (iY i)).1
 have hql:=aO3 (i:=i)
 have hlen:(oV (iY i)).length≤300000:=by
  have h1:=aDp (gN (iY i))
  have h2:(gN (iY i)).length=(iY i).length:=List.length_mergeSort _
  have h3:=tV 100000 i (fun q=>(qD hs q).opens) 3
  show (Lib.compact (gN (iY i))).length≤_
  have h4:(fY i 3).length=(iY i).length:=rfl
  omega
 obtain⟨b,e1,e2⟩:∃ b,(((aGs i:Nat):Int) == 0)=b∧((((oV (iY i)).length:Nat):Int) == 0)=b:=by
  refine⟨decide (oV (iY i)=[]),?_,?_⟩
  ·rw[Bool.eq_iff_iff]
   simp only[beq_iff_eq,decide_eq_true_eq]
   rw[← aP6 hc];omega
  ·rw[Bool.eq_iff_iff]
   simp only[beq_iff_eq,decide_eq_true_eq]
   rw[← List.length_eq_zero_iff];omega
 obtain⟨s1,hs1⟩:∃ s:Nat,s=i.p0.rows.length+i.p1.rows.length:=⟨_,rfl⟩
 obtain⟨s2,hs2⟩:∃ s:Nat,s=aQs i:=⟨_,rfl⟩
 have eR:s2=s1+i.p2.rows.length:=by rw[hs1,hs2];show ((0+i.p0.rows.length)+i.p1.rows.length)+i.p2.rows.length=_;omega
 rw[← hs2] at c3
 have hz:gW i=true→(((aGs i:Nat):Int) == 0)=true:=fun h=>by rw[hql h];rfl
 have hR0:=hs.p0.rows
 have hR1:=hs.p1.rows
 have hR2:=hs.p2.rows
 rw[hg] at c0
 rw[hc,if_pos rfl] at c2
 have er:((s2:Int) != (0+(i.p0.rows.length:Int)+(i.p1.rows.length:Int)+(i.p2.rows.length:Int)))=false:=by rw[bne_eq_false_iff_eq];omega
 have hqb:=Bool.eq_false_or_eq_true (gW i)
 generalize hN:aGs i=N at *
 generalize gW i=qb at *
 generalize oV (iY i)=Z at *
 clear hql eR hok hs1 hs2
 simp only[ImgD.dv,PartD.dv,StateD.dv,CoordD.dv,GrpD.dv,List.cons_append,List.nil_append] at c0 c2 c3 c4 c5 cO
 (refine aJ.of_body Tryz.func6 rfl rfl Tryz.ntmps6 Tryz.results6 (by simp) ?_)
 (refine gO (ai @ImgD.dv.eq_1 (ai @PartD.dv.eq_1 (ai @StateD.dv.eq_1 (ai @CoordD.dv.eq_1 (@GrpD.dv.eq_1))))) ?_;try with_reducible exact tt)
 refine Wp.rounds 4 (aN.go ?_)
 (refine gO (ai @ImgD.dv.eq_1 (ai @PartD.dv.eq_1 (ai @StateD.dv.eq_1 (ai @CoordD.dv.eq_1 (@GrpD.dv.eq_1))))) ?_;try with_reducible exact tt)
 have e3:(b != b)=false:=by cases b<;>rfl
 (first|refine Wp.sto 49 (vb false) ?_ ?_|refine Wp.rtoS 49 (vb false) ?_ ?_|(refine Wp.seq ?_;first|refine Wp.sto 49 (vb false) ?_ ?_|refine Wp.rtoS 49 (vb false) ?_ ?_))
 ·((refine rO (ai er (ai e1 (ai e2 (ai e3 (ai @ImgD.dv.eq_1 (ai @PartD.dv.eq_1 (ai @StateD.dv.eq_1 (ai @CoordD.dv.eq_1 (@GrpD.dv.eq_1))))))))) ?_;try with_reducible exact tt);(repeat (refine aQ (by assumption) ?_;(refine rO (ai er (ai e1 (ai e2 (ai e3 (ai @ImgD.dv.eq_1 (ai @PartD.dv.eq_1 (ai @StateD.dv.eq_1 (ai @CoordD.dv.eq_1 (@GrpD.dv.eq_1))))))))) ?_;try with_reducible exact tt))))
 (refine gO (ai @ImgD.dv.eq_1 (ai @PartD.dv.eq_1 (ai @StateD.dv.eq_1 (ai @CoordD.dv.eq_1 (@GrpD.dv.eq_1))))) ?_;try with_reducible exact tt)
 refine Wp.loop (fun k:Nat=>⟨dI [(1,.c (.own 0 0)),(4,vi .i64 N),(8,.c (.d (.lst 1 (Z.map fun n=>[int n])))),(50,.c (.d (.lst 1 (Z.map fun n=>[int n])))),(51,vi .i64 Z.length),(52,vi .i64 k)],bJ [(0,.cells (i.dv.map .d))],20,90,0⟩) (fun k=>k≤Z.length) (fun k=>Z.length - k) 0 (Nat.zero_le _) ?_ ?_
 ·refine aD.keep rfl (by simp[aO,SV.ids,HE.ids,CV.ids,kX,ImgD.dv,PartD.dv,StateD.dv,CoordD.dv,GrpD.dv];rfl) ?_
  (refine rO (ai @ImgD.dv.eq_1 (ai @PartD.dv.eq_1 (ai @StateD.dv.eq_1 (ai @CoordD.dv.eq_1 (ai @GrpD.dv.eq_1 (ai @List.map_append.{0,0} (ai @List.map_cons.{0,0} (@List.map_nil.{0,0})))))))) ?_;try with_reducible exact tt)
 intro k hk
 by_cases hlt:k<Z.length
 ·have dk:decide ((k:Int)<(Z.length:Int))=true:=decide_eq_true (by omega)
  have g1:Z[k]? = some Z[k]:=List.getElem?_eq_getElem hlt
  have hwk:IntKind.i64.wrap ((k:Int)+1)=((k+1:Nat):Int):=by rw[aG (by omega)];rfl
  have c6:=cO Z[k]
  rw[hpo _ (List.getElem_mem hlt)] at c6
  have hlow:∀ j,j+1=k→∃ y,Z[j]? = some y∧decide (Z[k]≤y)=false:=fun j hj=>by
   have:=List.pairwise_iff_getElem.1 pB j k (by omega) hlt (by omega)
   exact⟨Z[j],List.getElem?_eq_getElem (by omega),decide_eq_false (by omega)⟩
  generalize Z[k]=x at *
  generalize (nG i.m x).1=n at *
  (refine gO (ai dk (ai g1 (ai @ImgD.dv.eq_1 (ai @PartD.dv.eq_1 (ai @StateD.dv.eq_1 (ai @CoordD.dv.eq_1 (@GrpD.dv.eq_1))))))) ?_;try with_reducible exact tt)
  cases k with
  | zero =>
   (refine gO (ai @ImgD.dv.eq_1 (ai @PartD.dv.eq_1 (ai @StateD.dv.eq_1 (ai @CoordD.dv.eq_1 (@GrpD.dv.eq_1))))) ?_;try with_reducible exact tt)
   refine⟨1,by omega,by omega,aD.keep rfl (by simp[aO,SV.ids,HE.ids,CV.ids,kX,ImgD.dv,PartD.dv,StateD.dv,CoordD.dv,GrpD.dv];rfl) ?_⟩
   (refine rO (ai @ImgD.dv.eq_1 (ai @PartD.dv.eq_1 (ai @StateD.dv.eq_1 (ai @CoordD.dv.eq_1 (ai @GrpD.dv.eq_1 (ai @List.map_append.{0,0} (ai @List.map_cons.{0,0} (@List.map_nil.{0,0})))))))) ?_;try with_reducible exact tt)
  | succ j =>
   obtain⟨y,g2,hxy⟩:=hlow j rfl
   have dz:decide ((0:Int)<((j+1:Nat):Int))=true:=decide_eq_true (by omega)
   have dz2:decide ((0:Int)<(j:Int)+1)=true:=decide_eq_true (by omega)
   have hjj:(j:Int)+1 - 1=(j:Int):=by omega
   have hwm:IntKind.i64.wrap (((j+1:Nat):Int) - 1)=((j:Nat):Int):=by rw[aG (by omega)];omega
   (refine gO (ai dz (ai dz2 (ai hwm (ai hjj (ai g2 (ai hxy (ai @ImgD.dv.eq_1 (ai @PartD.dv.eq_1 (ai @StateD.dv.eq_1 (ai @CoordD.dv.eq_1 (@GrpD.dv.eq_1))))))))))) ?_;try with_reducible exact tt)
   refine⟨j+1+1,by omega,by omega,aD.keep rfl (by simp[aO,SV.ids,HE.ids,CV.ids,kX,ImgD.dv,PartD.dv,StateD.dv,CoordD.dv,GrpD.dv];rfl) ?_⟩
   (refine rO (ai hwk (ai @ImgD.dv.eq_1 (ai @PartD.dv.eq_1 (ai @StateD.dv.eq_1 (ai @CoordD.dv.eq_1 (ai @GrpD.dv.eq_1 (ai @List.map_append.{0,0} (ai @List.map_cons.{0,0} (@List.map_nil.{0,0}))))))))) ?_;try with_reducible exact tt)
 have hk2:k=Z.length:=by omega
 subst hk2
 have dk:decide ((Z.length:Int)<(Z.length:Int))=false:=decide_eq_false (by omega)
 rcases hqb with hq|hq
 ·have hN0:N=0:=by simpa using hz hq
  subst hq hN0
  (refine gO (ai dk (ai @ImgD.dv.eq_1 (ai @PartD.dv.eq_1 (ai @StateD.dv.eq_1 (ai @CoordD.dv.eq_1 (@GrpD.dv.eq_1)))))) ?_;try with_reducible exact tt)
  (refine aK ?_;try with_reducible exact tt)
 ·subst hq
  (refine gO (ai dk (ai @ImgD.dv.eq_1 (ai @PartD.dv.eq_1 (ai @StateD.dv.eq_1 (ai @CoordD.dv.eq_1 (@GrpD.dv.eq_1)))))) ?_;try with_reducible exact tt)
  (refine aK ?_;try with_reducible exact tt)
theorem aAe (i:ImgD) (h8:I8I i):aJ Tryz.prog 6 [.agg i.dv] (dC true):=by
 cases hg:eK i with
 | true=>exact aO0 i hg
 | false =>
  cases hc:aS i with
  | false=>exact aO1 i h8 hg hc
  | true=>exact aO2 i h8 hg hc
end Go.Proofs.YtkmfmphpndhkjaaGreatDoor
