/- The law ImageBare: the walk. -/
import Derived.Test.YtkmfmphpndhkjaaGreatDoorRsMj
namespace Go.Proofs.YtkmfmphpndhkjaaGreatDoor
open Go Go.RowKit
set_option maxHeartbeats 16000000
set_option maxRecDepth 100000
set_option linter.unusedVariables false
set_option linter.unusedSimpArgs false
theorem aOv (i:ImgD) (hg:eK i=true):aJ Tryz.prog 4 [.agg i.dv] (dC true):=by
 have c0:=eU i
 have c1:=eX
 rw[hg] at c0
 simp only[ImgD.dv,PartD.dv,StateD.dv,CoordD.dv,GrpD.dv,List.cons_append,List.nil_append] at c0
 (refine aJ.of_body Tryz.func4 rfl rfl Tryz.ntmps4 Tryz.results4 (by simp) ?_)
 (refine gO (ai @ImgD.dv.eq_1 (ai @PartD.dv.eq_1 (ai @StateD.dv.eq_1 (ai @CoordD.dv.eq_1 (@GrpD.dv.eq_1))))) ?_;try with_reducible exact tt)
 (refine aK ?_;try with_reducible exact tt)
theorem aOw (i:ImgD) (h8:I8I i) (hg:eK i=false) (hb:aS i=false):aJ Tryz.prog 4 [.agg i.dv] (dC true):=by
 have hs:=(hX hg).1
 have c0:=eU i
 have c1:=eX
 have c2:=jE i hs h8
 rw[hg] at c0
 rw[hb] at c2
 simp only[ImgD.dv,PartD.dv,StateD.dv,CoordD.dv,GrpD.dv,List.cons_append,List.nil_append,Bool.false_eq_true,if_false] at c0 c2
 (refine aJ.of_body Tryz.func4 rfl rfl Tryz.ntmps4 Tryz.results4 (by simp) ?_)
 (refine gO (ai @ImgD.dv.eq_1 (ai @PartD.dv.eq_1 (ai @StateD.dv.eq_1 (ai @CoordD.dv.eq_1 (@GrpD.dv.eq_1))))) ?_;try with_reducible exact tt)
 (refine aK ?_;try with_reducible exact tt)
theorem aOx (i:ImgD) (h8:I8I i) (hg:eK i=false) (hc:aS i=true) (hb:eT i=false):aJ Tryz.prog 4 [.agg i.dv] (dC true):=by
 obtain⟨hs,hr⟩:=hX hg
 have c0:=eU i
 have c1:=eX
 have c2:=jE i hs h8
 have c3:=qO i hs hr
 rw[hg] at c0
 rw[hc,if_pos rfl] at c2
 rw[show kS i=(iz,2) by unfold kS;rw[hb];rfl] at c3
 generalize iz=z at *
 simp only[ImgD.dv,PartD.dv,StateD.dv,CoordD.dv,GrpD.dv,List.cons_append,List.nil_append] at c0 c2 c3
 (refine aJ.of_body Tryz.func4 rfl rfl Tryz.ntmps4 Tryz.results4 (by simp) ?_)
 (refine gO (ai @ImgD.dv.eq_1 (ai @PartD.dv.eq_1 (ai @StateD.dv.eq_1 (ai @CoordD.dv.eq_1 (@GrpD.dv.eq_1))))) ?_;try with_reducible exact tt)
 (refine aK ?_;try with_reducible exact tt)
theorem aOy (i:ImgD) (h8:I8I i) (hg:eK i=false) (hc:aS i=true) (hb:eT i=true):aJ Tryz.prog 4 [.agg i.dv] (dC true):=by
 obtain⟨hs,hr⟩:=hX hg
 have c0:=eU i
 have c1:=eX
 have c2:=jE i hs h8
 have c3:=qO i hs hr
 have hbb:=aMi hb hr
 have hok:eT (bM i)=true:=by
  cases h:eT (bM i) with
  | true=>rfl
  | false=>unfold kS at hbb;rw[h] at hbb;have:=congrArg Prod.snd hbb;simp at this
 have hfix:bM (bM i)=bM i:=by
  unfold kS at hbb;rw[hok] at hbb;exact congrArg Prod.fst hbb
 have c4:=qO (bM i) (qC hs) (yI hr)
 have c5:=aL1 (bM i) (bM i) (qC hs)
 have c6:=sC i (bM i) hs hr (qC hs) (yI hr) hb hok
 have c7:=sC i i hs hr hs hr hb hb
 rw[hg] at c0
 rw[hc,if_pos rfl] at c2
 rw[show kS i=(bM i,0) by unfold kS;rw[hb];rfl] at c3
 rw[hbb] at c4
 rw[decide_eq_true rfl] at c5 c7
 rw[hfix,decide_eq_true rfl] at c6
 have l0:(((bM i).p0.rows.length:Int) != (i.p0.rows.length:Int))=false:=by rw[show (bM i).p0.rows.length=i.p0.rows.length from cY _];simp
 have f0:((bM i).p0.fin != (i.p0.rows.length:Int))=false:=by show ((i.p0.rows.length:Int) != _)=false;simp
 have r0:∀ (k:Nat) (h:k<i.p0.rows.length),(bM i).p0.rows[k]? = some { i.p0.rows[k] with off:=(k:Int) }:=fun k h=>by
  show (cX i.p0.rows)[k]? = _
  rw[dP,List.getElem?_eq_getElem h];rfl
 have l1:(((bM i).p1.rows.length:Int) != (i.p1.rows.length:Int))=false:=by rw[show (bM i).p1.rows.length=i.p1.rows.length from cY _];simp
 have f1:((bM i).p1.fin != (i.p1.rows.length:Int))=false:=by show ((i.p1.rows.length:Int) != _)=false;simp
 have r1:∀ (k:Nat) (h:k<i.p1.rows.length),(bM i).p1.rows[k]? = some { i.p1.rows[k] with off:=(k:Int) }:=fun k h=>by
  show (cX i.p1.rows)[k]? = _
  rw[dP,List.getElem?_eq_getElem h];rfl
 have l2:(((bM i).p2.rows.length:Int) != (i.p2.rows.length:Int))=false:=by rw[show (bM i).p2.rows.length=i.p2.rows.length from cY _];simp
 have f2:((bM i).p2.fin != (i.p2.rows.length:Int))=false:=by show ((i.p2.rows.length:Int) != _)=false;simp
 have r2:∀ (k:Nat) (h:k<i.p2.rows.length),(bM i).p2.rows[k]? = some { i.p2.rows[k] with off:=(k:Int) }:=fun k h=>by
  show (cX i.p2.rows)[k]? = _
  rw[dP,List.getElem?_eq_getElem h];rfl
 have hl:=hs.p0.rows
 have hl1:=hs.p1.rows
 have hl2:=hs.p2.rows
 generalize bM i=b at *
 clear hbb hok hfix
 simp only[ImgD.dv,PartD.dv,StateD.dv,CoordD.dv,GrpD.dv,List.cons_append,List.nil_append] at c0 c2 c3 c4 c5 c6 c7
 (refine aJ.of_body Tryz.func4 rfl rfl Tryz.ntmps4 Tryz.results4 (by simp) ?_)
 (refine gO (ai @ImgD.dv.eq_1 (ai @PartD.dv.eq_1 (ai @StateD.dv.eq_1 (ai @CoordD.dv.eq_1 (@GrpD.dv.eq_1))))) ?_;try with_reducible exact tt)
 refine Wp.rounds 4 (aN.go ?_)
 (refine gO (ai @ImgD.dv.eq_1 (ai @PartD.dv.eq_1 (ai @StateD.dv.eq_1 (ai @CoordD.dv.eq_1 (ai @GrpD.dv.eq_1 (ai l0 (f0))))))) ?_;try with_reducible exact tt)
 refine Wp.loop (fun k:Nat=>⟨dI [(1,.c (.own 0 0)),(3,.c (.own 1 0)),(7,vi .i64 0),(52,vi .i64 0),(86,.c (.d (.lst 5 (i.p0.rows.map RowD.dv)))),(87,vi .i64 i.p0.rows.length),(88,vi .i64 k)],bJ [(0,.cells (i.dv.map .d)),(1,.cells (b.dv.map .d))],20,114,0⟩) (fun k=>k≤i.p0.rows.length) (fun k=>i.p0.rows.length - k) 0 (Nat.zero_le _) ?_ ?_
 ·refine aD.keep rfl (by simp[aO,SV.ids,HE.ids,CV.ids,ImgD.dv,PartD.dv,StateD.dv,CoordD.dv,GrpD.dv];rfl) ?_
  (refine rO (ai @ImgD.dv.eq_1 (ai @PartD.dv.eq_1 (ai @StateD.dv.eq_1 (ai @CoordD.dv.eq_1 (ai @GrpD.dv.eq_1 (ai @List.map_append.{0,0} (ai @List.map_cons.{0,0} (@List.map_nil.{0,0})))))))) ?_;try with_reducible exact tt)
 intro k hk
 by_cases hlt:k<i.p0.rows.length
 ·have dk:decide ((k:Int)<(i.p0.rows.length:Int))=true:=decide_eq_true (by omega)
  have g1:i.p0.rows[k]? = some i.p0.rows[k]:=List.getElem?_eq_getElem hlt
  have g2:=r0 k hlt
  have hwk:IntKind.i64.wrap ((k:Int)+1)=((k+1:Nat):Int):=by rw[aG (by omega)];rfl
  generalize i.p0.rows[k]=r at *
  have hbin:=fun x y=>(qR x y r r).2
  have hkk:((k:Int) != (k:Int))=false:=by simp
  have hrr:(!decide (r=r))=false:=by simp
  (refine gO (ai dk (ai g1 (ai g2 (ai @ImgD.dv.eq_1 (ai @PartD.dv.eq_1 (ai @StateD.dv.eq_1 (ai @CoordD.dv.eq_1 (ai @GrpD.dv.eq_1 (ai @RowD.dv.eq_1 (ai hkk (ai hbin (hrr)))))))))))) ?_;try with_reducible exact tt)
  refine⟨k+1,by omega,by omega,aD.keep rfl (by simp[aO,SV.ids,HE.ids,CV.ids,ImgD.dv,PartD.dv,StateD.dv,CoordD.dv,GrpD.dv];rfl) ?_⟩
  (refine rO (ai hwk (ai @ImgD.dv.eq_1 (ai @PartD.dv.eq_1 (ai @StateD.dv.eq_1 (ai @CoordD.dv.eq_1 (ai @GrpD.dv.eq_1 (ai @List.map_append.{0,0} (ai @List.map_cons.{0,0} (@List.map_nil.{0,0}))))))))) ?_;try with_reducible exact tt)
 have dk:decide ((k:Int)<(i.p0.rows.length:Int))=false:=decide_eq_false (by omega)
 (refine gO (ai dk (ai @ImgD.dv.eq_1 (ai @PartD.dv.eq_1 (ai @StateD.dv.eq_1 (ai @CoordD.dv.eq_1 (@GrpD.dv.eq_1)))))) ?_;try with_reducible exact tt)
 (refine gO (ai @ImgD.dv.eq_1 (ai @PartD.dv.eq_1 (ai @StateD.dv.eq_1 (ai @CoordD.dv.eq_1 (ai @GrpD.dv.eq_1 (ai l1 (f1))))))) ?_;try with_reducible exact tt)
 refine Wp.loop (fun k:Nat=>⟨dI [(1,.c (.own 0 0)),(3,.c (.own 1 0)),(7,vi .i64 1),(52,vi .i64 1),(86,.c (.d (.lst 5 (i.p1.rows.map RowD.dv)))),(87,vi .i64 i.p1.rows.length),(88,vi .i64 k)],bJ [(0,.cells (i.dv.map .d)),(1,.cells (b.dv.map .d))],20,114,0⟩) (fun k=>k≤i.p1.rows.length) (fun k=>i.p1.rows.length - k) 0 (Nat.zero_le _) ?_ ?_
 ·refine aD.keep rfl (by simp[aO,SV.ids,HE.ids,CV.ids,ImgD.dv,PartD.dv,StateD.dv,CoordD.dv,GrpD.dv];rfl) ?_
  (refine rO (ai @ImgD.dv.eq_1 (ai @PartD.dv.eq_1 (ai @StateD.dv.eq_1 (ai @CoordD.dv.eq_1 (ai @GrpD.dv.eq_1 (ai @List.map_append.{0,0} (ai @List.map_cons.{0,0} (@List.map_nil.{0,0})))))))) ?_;try with_reducible exact tt)
 intro k hk
 by_cases hlt:k<i.p1.rows.length
 ·have dk:decide ((k:Int)<(i.p1.rows.length:Int))=true:=decide_eq_true (by omega)
  have g1:i.p1.rows[k]? = some i.p1.rows[k]:=List.getElem?_eq_getElem hlt
  have g2:=r1 k hlt
  have hwk:IntKind.i64.wrap ((k:Int)+1)=((k+1:Nat):Int):=by rw[aG (by omega)];rfl
  generalize i.p1.rows[k]=r at *
  have hbin:=fun x y=>(qR x y r r).2
  have hkk:((k:Int) != (k:Int))=false:=by simp
  have hrr:(!decide (r=r))=false:=by simp
  (refine gO (ai dk (ai g1 (ai g2 (ai @ImgD.dv.eq_1 (ai @PartD.dv.eq_1 (ai @StateD.dv.eq_1 (ai @CoordD.dv.eq_1 (ai @GrpD.dv.eq_1 (ai @RowD.dv.eq_1 (ai hkk (ai hbin (hrr)))))))))))) ?_;try with_reducible exact tt)
  refine⟨k+1,by omega,by omega,aD.keep rfl (by simp[aO,SV.ids,HE.ids,CV.ids,ImgD.dv,PartD.dv,StateD.dv,CoordD.dv,GrpD.dv];rfl) ?_⟩
  (refine rO (ai hwk (ai @ImgD.dv.eq_1 (ai @PartD.dv.eq_1 (ai @StateD.dv.eq_1 (ai @CoordD.dv.eq_1 (ai @GrpD.dv.eq_1 (ai @List.map_append.{0,0} (ai @List.map_cons.{0,0} (@List.map_nil.{0,0}))))))))) ?_;try with_reducible exact tt)
 have dk:decide ((k:Int)<(i.p1.rows.length:Int))=false:=decide_eq_false (by omega)
 (refine gO (ai dk (ai @ImgD.dv.eq_1 (ai @PartD.dv.eq_1 (ai @StateD.dv.eq_1 (ai @CoordD.dv.eq_1 (@GrpD.dv.eq_1)))))) ?_;try with_reducible exact tt)
 (refine gO (ai @ImgD.dv.eq_1 (ai @PartD.dv.eq_1 (ai @StateD.dv.eq_1 (ai @CoordD.dv.eq_1 (ai @GrpD.dv.eq_1 (ai l2 (f2))))))) ?_;try with_reducible exact tt)
 refine Wp.loop (fun k:Nat=>⟨dI [(1,.c (.own 0 0)),(3,.c (.own 1 0)),(7,vi .i64 2),(52,vi .i64 2),(86,.c (.d (.lst 5 (i.p2.rows.map RowD.dv)))),(87,vi .i64 i.p2.rows.length),(88,vi .i64 k)],bJ [(0,.cells (i.dv.map .d)),(1,.cells (b.dv.map .d))],20,114,0⟩) (fun k=>k≤i.p2.rows.length) (fun k=>i.p2.rows.length - k) 0 (Nat.zero_le _) ?_ ?_
 ·refine aD.keep rfl (by simp[aO,SV.ids,HE.ids,CV.ids,ImgD.dv,PartD.dv,StateD.dv,CoordD.dv,GrpD.dv];rfl) ?_
  (refine rO (ai @ImgD.dv.eq_1 (ai @PartD.dv.eq_1 (ai @StateD.dv.eq_1 (ai @CoordD.dv.eq_1 (ai @GrpD.dv.eq_1 (ai @List.map_append.{0,0} (ai @List.map_cons.{0,0} (@List.map_nil.{0,0})))))))) ?_;try with_reducible exact tt)
 intro k hk
 by_cases hlt:k<i.p2.rows.length
 ·have dk:decide ((k:Int)<(i.p2.rows.length:Int))=true:=decide_eq_true (by omega)
  have g1:i.p2.rows[k]? = some i.p2.rows[k]:=List.getElem?_eq_getElem hlt
  have g2:=r2 k hlt
  have hwk:IntKind.i64.wrap ((k:Int)+1)=((k+1:Nat):Int):=by rw[aG (by omega)];rfl
  generalize i.p2.rows[k]=r at *
  have hbin:=fun x y=>(qR x y r r).2
  have hkk:((k:Int) != (k:Int))=false:=by simp
  have hrr:(!decide (r=r))=false:=by simp
  (refine gO (ai dk (ai g1 (ai g2 (ai @ImgD.dv.eq_1 (ai @PartD.dv.eq_1 (ai @StateD.dv.eq_1 (ai @CoordD.dv.eq_1 (ai @GrpD.dv.eq_1 (ai @RowD.dv.eq_1 (ai hkk (ai hbin (hrr)))))))))))) ?_;try with_reducible exact tt)
  refine⟨k+1,by omega,by omega,aD.keep rfl (by simp[aO,SV.ids,HE.ids,CV.ids,ImgD.dv,PartD.dv,StateD.dv,CoordD.dv,GrpD.dv];rfl) ?_⟩
  (refine rO (ai hwk (ai @ImgD.dv.eq_1 (ai @PartD.dv.eq_1 (ai @StateD.dv.eq_1 (ai @CoordD.dv.eq_1 (ai @GrpD.dv.eq_1 (ai @List.map_append.{0,0} (ai @List.map_cons.{0,0} (@List.map_nil.{0,0}))))))))) ?_;try with_reducible exact tt)
 have dk:decide ((k:Int)<(i.p2.rows.length:Int))=false:=decide_eq_false (by omega)
 (refine gO (ai dk (ai @ImgD.dv.eq_1 (ai @PartD.dv.eq_1 (ai @StateD.dv.eq_1 (ai @CoordD.dv.eq_1 (@GrpD.dv.eq_1)))))) ?_;try with_reducible exact tt)
 (refine aK ?_;try with_reducible exact tt)
theorem aCf (i:ImgD) (h8:I8I i):aJ Tryz.prog 4 [.agg i.dv] (dC true):=by
 cases hg:eK i with
 | true=>exact aOv i hg
 | false =>
  cases hc:aS i with
  | false=>exact aOw i h8 hg hc
  | true =>
   cases hb:eT i with
   | false=>exact aOx i h8 hg hc hb
   | true=>exact aOy i h8 hg hc hb
end Go.Proofs.YtkmfmphpndhkjaaGreatDoor
