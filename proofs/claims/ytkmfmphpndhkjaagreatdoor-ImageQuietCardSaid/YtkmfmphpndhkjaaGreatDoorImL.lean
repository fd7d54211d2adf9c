/- Package image: Lag. -/
import Derived.Test.YtkmfmphpndhkjaaGreatDoorPnM
namespace Go.Proofs.YtkmfmphpndhkjaaGreatDoor
open Go Go.RowKit
set_option maxHeartbeats 16000000
set_option maxRecDepth 100000
set_option linter.unusedVariables false
set_option linter.unusedSimpArgs false
abbrev aVy:D:=str [97,32,103,114,111,117,112,32,111,114,32,97,32,112,97,114,116,105,116,105,111,110]
def rH (i:ImgD) (g q:Int):Bool:=decide (g<0) || decide ((2:Int)≤g) || decide (q<0) || decide ((3:Int)≤q) || !aS i
theorem aN5 (i:ImgD) (g q:Int):rH i g q = !(aU g 0 1 && aU q 0 2 && aS i):=by
 unfold rH aU
 rw[Bool.eq_iff_iff]
 simp only[Bool.or_eq_true,decide_eq_true_eq,Bool.not_eq_true',Bool.and_eq_false_iff,decide_eq_false_iff_not]
 constructor
 ·rintro ((((h|h)|h)|h)|h)
  ·exact .inl (.inl (.inl (by omega)))
  ·exact .inl (.inl (.inr (by omega)))
  ·exact .inl (.inr (.inl (by omega)))
  ·exact .inl (.inr (.inr (by omega)))
  ·exact .inr h
 ·rintro ((((h|h))|(h|h))|h)
  ·exact .inl (.inl (.inl (.inl (by omega))))
  ·exact .inl (.inl (.inl (.inr (by omega))))
  ·exact .inl (.inl (.inr (by omega)))
  ·exact .inl (.inr (by omega))
  ·exact .inr h
theorem aYb (i:ImgD):((if aS i then (0:Int) else 2) != 0) = !aS i:=by cases aS i<;>rfl
theorem aN6 (i:ImgD) (g q:Int) (hs:SmallI i) (hb:rH i g q=true):aJ Tryz.prog 10 [.agg i.dv,int g,int q] (.tup [int 0,int 2]):=by
 have c0:=cG i hs
 have c1:=qY aVy 2
 have hk:=aYb i
 simp only[ImgD.dv,PartD.dv,StateD.dv,CoordD.dv,GrpD.dv,List.cons_append,List.nil_append] at c0
 (refine aJ.of_body Tryz.func10 rfl rfl Tryz.ntmps10 Tryz.results10 (by simp) ?_)
 (refine gO (ai @ImgD.dv.eq_1 (ai @PartD.dv.eq_1 (ai @StateD.dv.eq_1 (ai @CoordD.dv.eq_1 (@GrpD.dv.eq_1))))) ?_;try with_reducible exact tt)
 (first|refine Wp.sto 29 (vb (rH i g q)) ?_ ?_|refine Wp.rtoS 29 (vb (rH i g q)) ?_ ?_|(refine Wp.seq ?_;first|refine Wp.sto 29 (vb (rH i g q)) ?_ ?_|refine Wp.rtoS 29 (vb (rH i g q)) ?_ ?_))
 ·unfold rH;((rcases Bool.eq_false_or_eq_true (decide (g<0)) with hL1|hL1;focus (((refine rO (ai hL1 (ai @ImgD.dv.eq_1 (ai @PartD.dv.eq_1 (ai @StateD.dv.eq_1 (ai @CoordD.dv.eq_1 (ai @GrpD.dv.eq_1 (hk))))))) ?_;try with_reducible exact tt);(repeat (refine aQ (by assumption) ?_;(refine rO (ai hL1 (ai @ImgD.dv.eq_1 (ai @PartD.dv.eq_1 (ai @StateD.dv.eq_1 (ai @CoordD.dv.eq_1 (ai @GrpD.dv.eq_1 (hk))))))) ?_;try with_reducible exact tt))));all_goals (exact (show aH _ _=true by kernel_rfl))));(rcases Bool.eq_false_or_eq_true (decide ((2:Int)≤g)) with hL2|hL2;focus (((refine rO (ai hL1 (ai hL2 (ai @ImgD.dv.eq_1 (ai @PartD.dv.eq_1 (ai @StateD.dv.eq_1 (ai @CoordD.dv.eq_1 (ai @GrpD.dv.eq_1 (hk)))))))) ?_;try with_reducible exact tt);(repeat (refine aQ (by assumption) ?_;(refine rO (ai hL1 (ai hL2 (ai @ImgD.dv.eq_1 (ai @PartD.dv.eq_1 (ai @StateD.dv.eq_1 (ai @CoordD.dv.eq_1 (ai @GrpD.dv.eq_1 (hk)))))))) ?_;try with_reducible exact tt))));all_goals (exact (show aH _ _=true by kernel_rfl))));(rcases Bool.eq_false_or_eq_true (decide (q<0)) with hL3|hL3;focus (((refine rO (ai hL1 (ai hL2 (ai hL3 (ai @ImgD.dv.eq_1 (ai @PartD.dv.eq_1 (ai @StateD.dv.eq_1 (ai @CoordD.dv.eq_1 (ai @GrpD.dv.eq_1 (hk))))))))) ?_;try with_reducible exact tt);(repeat (refine aQ (by assumption) ?_;(refine rO (ai hL1 (ai hL2 (ai hL3 (ai @ImgD.dv.eq_1 (ai @PartD.dv.eq_1 (ai @StateD.dv.eq_1 (ai @CoordD.dv.eq_1 (ai @GrpD.dv.eq_1 (hk))))))))) ?_;try with_reducible exact tt))));all_goals (exact (show aH _ _=true by kernel_rfl))));(rcases Bool.eq_false_or_eq_true (decide ((3:Int)≤q)) with hL4|hL4;focus (((refine rO (ai hL1 (ai hL2 (ai hL3 (ai hL4 (ai @ImgD.dv.eq_1 (ai @PartD.dv.eq_1 (ai @StateD.dv.eq_1 (ai @CoordD.dv.eq_1 (ai @GrpD.dv.eq_1 (hk)))))))))) ?_;try with_reducible exact tt);(repeat (refine aQ (by assumption) ?_;(refine rO (ai hL1 (ai hL2 (ai hL3 (ai hL4 (ai @ImgD.dv.eq_1 (ai @PartD.dv.eq_1 (ai @StateD.dv.eq_1 (ai @CoordD.dv.eq_1 (ai @GrpD.dv.eq_1 (hk)))))))))) ?_;try with_reducible exact tt))));all_goals (exact (show aH _ _=true by kernel_rfl))));(rcases Bool.eq_false_or_eq_true (!aS i) with hL5|hL5;focus (((refine rO (ai hL1 (ai hL2 (ai hL3 (ai hL4 (ai hL5 (ai @ImgD.dv.eq_1 (ai @PartD.dv.eq_1 (ai @StateD.dv.eq_1 (ai @CoordD.dv.eq_1 (ai @GrpD.dv.eq_1 (hk))))))))))) ?_;try with_reducible exact tt);(repeat (refine aQ (by assumption) ?_;(refine rO (ai hL1 (ai hL2 (ai hL3 (ai hL4 (ai hL5 (ai @ImgD.dv.eq_1 (ai @PartD.dv.eq_1 (ai @StateD.dv.eq_1 (ai @CoordD.dv.eq_1 (ai @GrpD.dv.eq_1 (hk))))))))))) ?_;try with_reducible exact tt))));all_goals (exact (show aH _ _=true by kernel_rfl))));((refine rO (ai hL1 (ai hL2 (ai hL3 (ai hL4 (ai hL5 (ai @ImgD.dv.eq_1 (ai @PartD.dv.eq_1 (ai @StateD.dv.eq_1 (ai @CoordD.dv.eq_1 (ai @GrpD.dv.eq_1 (hk))))))))))) ?_;try with_reducible exact tt);(repeat (refine aQ (by assumption) ?_;(refine rO (ai hL1 (ai hL2 (ai hL3 (ai hL4 (ai hL5 (ai @ImgD.dv.eq_1 (ai @PartD.dv.eq_1 (ai @StateD.dv.eq_1 (ai @CoordD.dv.eq_1 (ai @GrpD.dv.eq_1 (hk))))))))))) ?_;try with_reducible exact tt))));all_goals (exact (show aH _ _=true by kernel_rfl)))
 (refine gO (hb) ?_;try with_reducible exact tt)
 (refine aK ?_;try with_reducible exact tt)
theorem kJ {α:Type} (p:α→Bool) (l:List α) (k:Nat) (h:k<l.length):(l.take (k+1)).countP p=(l.take k).countP p+(if p l[k] then 1 else 0):=by
 rw[List.take_succ_eq_append_getElem h,List.countP_append,List.countP_singleton]
theorem aN7 (i:ImgD) (hs:SmallI i) (hc:aS i=true):aJ Tryz.prog 10 [.agg i.dv,int 0,int 0] (.tup [int (vD i.p0 i.m.gr.a0:Nat),int 0]):=by
 have c0:=cG i hs
 have hl:=hs.p0.rows
 rw[hc,if_pos rfl] at c0
 simp only[ImgD.dv,PartD.dv,StateD.dv,CoordD.dv,GrpD.dv,List.cons_append,List.nil_append] at c0
 (refine aJ.of_body Tryz.func10 rfl rfl Tryz.ntmps10 Tryz.results10 (by simp) ?_)
 (refine gO (ai @ImgD.dv.eq_1 (ai @PartD.dv.eq_1 (ai @StateD.dv.eq_1 (ai @CoordD.dv.eq_1 (@GrpD.dv.eq_1))))) ?_;try with_reducible exact tt)
 refine Wp.loop (fun k:Nat=>⟨dI [(1,vi .i64 0),(2,vi .i64 0),(3,.c (.own 0 0)),(8,vi .i64 (((i.p0.rows.take k).countP (fun r=>decide (i.m.gr.a0≤r.off)):Nat):Int)),(38,.c (.d (.lst 5 (i.p0.rows.map RowD.dv)))),(39,vi .i64 i.p0.rows.length),(40,vi .i64 k)],bJ [(0,.cells (i.dv.map .d))],20,58,0⟩) (fun k=>k≤i.p0.rows.length) (fun k=>i.p0.rows.length - k) 0 (Nat.zero_le _) ?_ ?_
 ·refine aD.keep rfl (by simp[aO,SV.ids,HE.ids,CV.ids,ImgD.dv,PartD.dv,StateD.dv,CoordD.dv,GrpD.dv];rfl) ?_
  (refine rO (ai @ImgD.dv.eq_1 (ai @PartD.dv.eq_1 (ai @StateD.dv.eq_1 (ai @CoordD.dv.eq_1 (ai @GrpD.dv.eq_1 (ai @List.map_append.{0,0} (ai @List.map_cons.{0,0} (ai @List.map_nil.{0,0} (ai @List.take_zero.{0} (@List.countP_nil.{0})))))))))) ?_;try with_reducible exact tt)
 intro k hk
 by_cases hlt:k<i.p0.rows.length
 ·have dk:decide ((k:Int)<(i.p0.rows.length:Int))=true:=decide_eq_true (by omega)
  have g1:i.p0.rows[k]? = some i.p0.rows[k]:=List.getElem?_eq_getElem hlt
  have hwk:IntKind.i64.wrap ((k:Int)+1)=((k+1:Nat):Int):=by rw[aG (by omega)];rfl
  have hcn:=kJ (fun r:RowD=>decide (i.m.gr.a0≤r.off)) i.p0.rows k hlt
  have hcl:=List.countP_le_length (p:=fun r:RowD=>decide (i.m.gr.a0≤r.off)) (l:=i.p0.rows.take k)
  have htl:=List.length_take_le k i.p0.rows
  generalize i.p0.rows[k]=r at *
  generalize (i.p0.rows.take k).countP (fun r=>decide (i.m.gr.a0≤r.off))=n at *
  have hwn:IntKind.i64.wrap ((n:Int)+1)=((n+1:Nat):Int):=by rw[aG (by omega)];rfl
  (refine gO (ai dk (ai g1 (ai @ImgD.dv.eq_1 (ai @PartD.dv.eq_1 (ai @StateD.dv.eq_1 (ai @CoordD.dv.eq_1 (ai @GrpD.dv.eq_1 (@RowD.dv.eq_1)))))))) ?_;try with_reducible exact tt)
  refine Wp.cond (by (refine aK ?_;try with_reducible exact tt);rfl) (fun h=>?_) (fun h=>?_)
  ·rw[h] at hcn
   (refine aI ?_;try with_reducible exact tt)
   refine⟨k+1,by omega,by omega,aD.keep rfl (by simp[aO,SV.ids,HE.ids,CV.ids,ImgD.dv,PartD.dv,StateD.dv,CoordD.dv,GrpD.dv];rfl) ?_⟩
   (refine rO (ai hwk (ai hwn (ai hcn (ai @ImgD.dv.eq_1 (ai @PartD.dv.eq_1 (ai @StateD.dv.eq_1 (ai @CoordD.dv.eq_1 (ai @GrpD.dv.eq_1 (ai @List.map_append.{0,0} (ai @List.map_cons.{0,0} (@List.map_nil.{0,0}))))))))))) ?_;try with_reducible exact tt)
  ·rw[h] at hcn
   (refine aI ?_;try with_reducible exact tt)
   refine⟨k+1,by omega,by omega,aD.keep rfl (by simp[aO,SV.ids,HE.ids,CV.ids,ImgD.dv,PartD.dv,StateD.dv,CoordD.dv,GrpD.dv];rfl) ?_⟩
   (refine rO (ai hwk (ai hcn (ai @ImgD.dv.eq_1 (ai @PartD.dv.eq_1 (ai @StateD.dv.eq_1 (ai @CoordD.dv.eq_1 (ai @GrpD.dv.eq_1 (ai @List.map_append.{0,0} (ai @List.map_cons.{0,0} (@List.map_nil.{0,0})))))))))) ?_;try with_reducible exact tt)
 ·have dk:decide ((k:Int)<(i.p0.rows.length:Int))=false:=decide_eq_false (by omega)
  have htk:i.p0.rows.take k=i.p0.rows:=List.take_of_length_le (by omega)
  rw[htk]
  (refine gO (dk) ?_;try with_reducible exact tt)
  simp (maxSteps:=2000000) (disch:=omega) only[bF,aL,rD0,eS,Nat.reduceBEq,vD]
theorem aN8 (i:ImgD) (hs:SmallI i) (hc:aS i=true):aJ Tryz.prog 10 [.agg i.dv,int 0,int 1] (.tup [int (vD i.p1 i.m.gr.a1:Nat),int 0]):=by
 have c0:=cG i hs
 have hl:=hs.p1.rows
 rw[hc,if_pos rfl] at c0
 simp only[ImgD.dv,PartD.dv,StateD.dv,CoordD.dv,GrpD.dv,List.cons_append,List.nil_append] at c0
 (refine aJ.of_body Tryz.func10 rfl rfl Tryz.ntmps10 Tryz.results10 (by simp) ?_)
 (refine gO (ai @ImgD.dv.eq_1 (ai @PartD.dv.eq_1 (ai @StateD.dv.eq_1 (ai @CoordD.dv.eq_1 (@GrpD.dv.eq_1))))) ?_;try with_reducible exact tt)
 refine Wp.loop (fun k:Nat=>⟨dI [(1,vi .i64 0),(2,vi .i64 1),(3,.c (.own 0 0)),(8,vi .i64 (((i.p1.rows.take k).countP (fun r=>decide (i.m.gr.a1≤r.off)):Nat):Int)),(38,.c (.d (.lst 5 (i.p1.rows.map RowD.dv)))),(39,vi .i64 i.p1.rows.length),(40,vi .i64 k)],bJ [(0,.cells (i.dv.map .d))],20,58,0⟩) (fun k=>k≤i.p1.rows.length) (fun k=>i.p1.rows.length - k) 0 (Nat.zero_le _) ?_ ?_
 ·refine aD.keep rfl (by simp[aO,SV.ids,HE.ids,CV.ids,ImgD.dv,PartD.dv,StateD.dv,CoordD.dv,GrpD.dv];rfl) ?_
  (refine rO (ai @ImgD.dv.eq_1 (ai @PartD.dv.eq_1 (ai @StateD.dv.eq_1 (ai @CoordD.dv.eq_1 (ai @GrpD.dv.eq_1 (ai @List.map_append.{0,0} (ai @List.map_cons.{0,0} (ai @List.map_nil.{0,0} (ai @List.take_zero.{0} (@List.countP_nil.{0})))))))))) ?_;try with_reducible exact tt)
 intro k hk
 by_cases hlt:k<i.p1.rows.length
 ·have dk:decide ((k:Int)<(i.p1.rows.length:Int))=true:=decide_eq_true (by omega)
  have g1:i.p1.rows[k]? = some i.p1.rows[k]:=List.getElem?_eq_getElem hlt
  have hwk:IntKind.i64.wrap ((k:Int)+1)=((k+1:Nat):Int):=by rw[aG (by omega)];rfl
  have hcn:=kJ (fun r:RowD=>decide (i.m.gr.a1≤r.off)) i.p1.rows k hlt
  have hcl:=List.countP_le_length (p:=fun r:RowD=>decide (i.m.gr.a1≤r.off)) (l:=i.p1.rows.take k)
  have htl:=List.length_take_le k i.p1.rows
  generalize i.p1.rows[k]=r at *
  generalize (i.p1.rows.take k).countP (fun r=>decide (i.m.gr.a1≤r.off))=n at *
  have hwn:IntKind.i64.wrap ((n:Int)+1)=((n+1:Nat):Int):=by rw[aG (by omega)];rfl
  (refine gO (ai dk (ai g1 (ai @ImgD.dv.eq_1 (ai @PartD.dv.eq_1 (ai @StateD.dv.eq_1 (ai @CoordD.dv.eq_1 (ai @GrpD.dv.eq_1 (@RowD.dv.eq_1)))))))) ?_;try with_reducible exact tt)
  refine Wp.cond (by (refine aK ?_;try with_reducible exact tt);rfl) (fun h=>?_) (fun h=>?_)
  ·rw[h] at hcn
   (refine aI ?_;try with_reducible exact tt)
   refine⟨k+1,by omega,by omega,aD.keep rfl (by simp[aO,SV.ids,HE.ids,CV.ids,ImgD.dv,PartD.dv,StateD.dv,CoordD.dv,GrpD.dv];rfl) ?_⟩
   (refine rO (ai hwk (ai hwn (ai hcn (ai @ImgD.dv.eq_1 (ai @PartD.dv.eq_1 (ai @StateD.dv.eq_1 (ai @CoordD.dv.eq_1 (ai @GrpD.dv.eq_1 (ai @List.map_append.{0,0} (ai @List.map_cons.{0,0} (@List.map_nil.{0,0}))))))))))) ?_;try with_reducible exact tt)
  ·rw[h] at hcn
   (refine aI ?_;try with_reducible exact tt)
   refine⟨k+1,by omega,by omega,aD.keep rfl (by simp[aO,SV.ids,HE.ids,CV.ids,ImgD.dv,PartD.dv,StateD.dv,CoordD.dv,GrpD.dv];rfl) ?_⟩
   (refine rO (ai hwk (ai hcn (ai @ImgD.dv.eq_1 (ai @PartD.dv.eq_1 (ai @StateD.dv.eq_1 (ai @CoordD.dv.eq_1 (ai @GrpD.dv.eq_1 (ai @List.map_append.{0,0} (ai @List.map_cons.{0,0} (@List.map_nil.{0,0})))))))))) ?_;try with_reducible exact tt)
 ·have dk:decide ((k:Int)<(i.p1.rows.length:Int))=false:=decide_eq_false (by omega)
  have htk:i.p1.rows.take k=i.p1.rows:=List.take_of_length_le (by omega)
  rw[htk]
  (refine gO (dk) ?_;try with_reducible exact tt)
  simp (maxSteps:=2000000) (disch:=omega) only[bF,aL,rD0,eS,Nat.reduceBEq,vD]
theorem aN9 (i:ImgD) (hs:SmallI i) (hc:aS i=true):aJ Tryz.prog 10 [.agg i.dv,int 0,int 2] (.tup [int (vD i.p2 i.m.gr.a2:Nat),int 0]):=by
 have c0:=cG i hs
 have hl:=hs.p2.rows
 rw[hc,if_pos rfl] at c0
 simp only[ImgD.dv,PartD.dv,StateD.dv,CoordD.dv,GrpD.dv,List.cons_append,List.nil_append] at c0
 (refine aJ.of_body Tryz.func10 rfl rfl Tryz.ntmps10 Tryz.results10 (by simp) ?_)
 (refine gO (ai @ImgD.dv.eq_1 (ai @PartD.dv.eq_1 (ai @StateD.dv.eq_1 (ai @CoordD.dv.eq_1 (@GrpD.dv.eq_1))))) ?_;try with_reducible exact tt)
 refine Wp.loop (fun k:Nat=>⟨dI [(1,vi .i64 0),(2,vi .i64 2),(3,.c (.own 0 0)),(8,vi .i64 (((i.p2.rows.take k).countP (fun r=>decide (i.m.gr.a2≤r.off)):Nat):Int)),(38,.c (.d (.lst 5 (i.p2.rows.map RowD.dv)))),(39,vi .i64 i.p2.rows.length),(40,vi .i64 k)],bJ [(0,.cells (i.dv.map .d))],20,58,0⟩) (fun k=>k≤i.p2.rows.length) (fun k=>i.p2.rows.length - k) 0 (Nat.zero_le _) ?_ ?_
 ·refine aD.keep rfl (by simp[aO,SV.ids,HE.ids,CV.ids,ImgD.dv,PartD.dv,StateD.dv,CoordD.dv,GrpD.dv];rfl) ?_
  (refine rO (ai @ImgD.dv.eq_1 (ai @PartD.dv.eq_1 (ai @StateD.dv.eq_1 (ai @CoordD.dv.eq_1 (ai @GrpD.dv.eq_1 (ai @List.map_append.{0,0} (ai @List.map_cons.{0,0} (ai @List.map_nil.{0,0} (ai @List.take_zero.{0} (@List.countP_nil.{0})))))))))) ?_;try with_reducible exact tt)
 intro k hk
 by_cases hlt:k<i.p2.rows.length
 ·have dk:decide ((k:Int)<(i.p2.rows.length:Int))=true:=decide_eq_true (by omega)
  have g1:i.p2.rows[k]? = some i.p2.rows[k]:=List.getElem?_eq_getElem hlt
  have hwk:IntKind.i64.wrap ((k:Int)+1)=((k+1:Nat):Int):=by rw[aG (by omega)];rfl
  have hcn:=kJ (fun r:RowD=>decide (i.m.gr.a2≤r.off)) i.p2.rows k hlt
  have hcl:=List.countP_le_length (p:=fun r:RowD=>decide (i.m.gr.a2≤r.off)) (l:=i.p2.rows.take k)
  have htl:=List.length_take_le k i.p2.rows
  generalize i.p2.rows[k]=r at *
  generalize (i.p2.rows.take k).countP (fun r=>decide (i.m.gr.a2≤r.off))=n at *
  have hwn:IntKind.i64.wrap ((n:Int)+1)=((n+1:Nat):Int):=by rw[aG (by omega)];rfl
  (refine gO (ai dk (ai g1 (ai @ImgD.dv.eq_1 (ai @PartD.dv.eq_1 (ai @StateD.dv.eq_1 (ai @CoordD.dv.eq_1 (ai @GrpD.dv.eq_1 (@RowD.dv.eq_1)))))))) ?_;try with_reducible exact tt)
  refine Wp.cond (by (refine aK ?_;try with_reducible exact tt);rfl) (fun h=>?_) (fun h=>?_)
  ·rw[h] at hcn
   (refine aI ?_;try with_reducible exact tt)
   refine⟨k+1,by omega,by omega,aD.keep rfl (by simp[aO,SV.ids,HE.ids,CV.ids,ImgD.dv,PartD.dv,StateD.dv,CoordD.dv,GrpD.dv];rfl) ?_⟩
   (refine rO (ai hwk (ai hwn (ai hcn (ai @ImgD.dv.eq_1 (ai @PartD.dv.eq_1 (ai @StateD.dv.eq_1 (ai @CoordD.dv.eq_1 (ai @GrpD.dv.eq_1 (ai @List.map_append.{0,0} (ai @List.map_cons.{0,0} (@List.map_nil.{0,0}))))))))))) ?_;try with_reducible exact tt)
  ·rw[h] at hcn
   (refine aI ?_;try with_reducible exact tt)
   refine⟨k+1,by omega,by omega,aD.keep rfl (by simp[aO,SV.ids,HE.ids,CV.ids,ImgD.dv,PartD.dv,StateD.dv,CoordD.dv,GrpD.dv];rfl) ?_⟩
   (refine rO (ai hwk (ai hcn (ai @ImgD.dv.eq_1 (ai @PartD.dv.eq_1 (ai @StateD.dv.eq_1 (ai @CoordD.dv.eq_1 (ai @GrpD.dv.eq_1 (ai @List.map_append.{0,0} (ai @List.map_cons.{0,0} (@List.map_nil.{0,0})))))))))) ?_;try with_reducible exact tt)
 ·have dk:decide ((k:Int)<(i.p2.rows.length:Int))=false:=decide_eq_false (by omega)
  have htk:i.p2.rows.take k=i.p2.rows:=List.take_of_length_le (by omega)
  rw[htk]
  (refine gO (dk) ?_;try with_reducible exact tt)
  simp (maxSteps:=2000000) (disch:=omega) only[bF,aL,rD0,eS,Nat.reduceBEq,vD]
theorem aNa (i:ImgD) (hs:SmallI i) (hc:aS i=true):aJ Tryz.prog 10 [.agg i.dv,int 1,int 0] (.tup [int (vD i.p0 i.m.gr.b0:Nat),int 0]):=by
 have c0:=cG i hs
 have hl:=hs.p0.rows
 rw[hc,if_pos rfl] at c0
 simp only[ImgD.dv,PartD.dv,StateD.dv,CoordD.dv,GrpD.dv,List.cons_append,List.nil_append] at c0
 (refine aJ.of_body Tryz.func10 rfl rfl Tryz.ntmps10 Tryz.results10 (by simp) ?_)
 (refine gO (ai @ImgD.dv.eq_1 (ai @PartD.dv.eq_1 (ai @StateD.dv.eq_1 (ai @CoordD.dv.eq_1 (@GrpD.dv.eq_1))))) ?_;try with_reducible exact tt)
 refine Wp.loop (fun k:Nat=>⟨dI [(1,vi .i64 1),(2,vi .i64 0),(3,.c (.own 0 0)),(8,vi .i64 (((i.p0.rows.take k).countP (fun r=>decide (i.m.gr.b0≤r.off)):Nat):Int)),(38,.c (.d (.lst 5 (i.p0.rows.map RowD.dv)))),(39,vi .i64 i.p0.rows.length),(40,vi .i64 k)],bJ [(0,.cells (i.dv.map .d))],20,58,0⟩) (fun k=>k≤i.p0.rows.length) (fun k=>i.p0.rows.length - k) 0 (Nat.zero_le _) ?_ ?_
 ·refine aD.keep rfl (by simp[aO,SV.ids,HE.ids,CV.ids,ImgD.dv,PartD.dv,StateD.dv,CoordD.dv,GrpD.dv];rfl) ?_
  (refine rO (ai @ImgD.dv.eq_1 (ai @PartD.dv.eq_1 (ai @StateD.dv.eq_1 (ai @CoordD.dv.eq_1 (ai @GrpD.dv.eq_1 (ai @List.map_append.{0,0} (ai @List.map_cons.{0,0} (ai @List.map_nil.{0,0} (ai @List.take_zero.{0} (@List.countP_nil.{0})))))))))) ?_;try with_reducible exact tt)
 intro k hk
 by_cases hlt:k<i.p0.rows.length
 ·have dk:decide ((k:Int)<(i.p0.rows.length:Int))=true:=decide_eq_true (by omega)
  have g1:i.p0.rows[k]? = some i.p0.rows[k]:=List.getElem?_eq_getElem hlt
  have hwk:IntKind.i64.wrap ((k:Int)+1)=((k+1:Nat):Int):=by rw[aG (by omega)];rfl
  have hcn:=kJ (fun r:RowD=>decide (i.m.gr.b0≤r.off)) i.p0.rows k hlt
  have hcl:=List.countP_le_length (p:=fun r:RowD=>decide (i.m.gr.b0≤r.off)) (l:=i.p0.rows.take k)
  have htl:=List.length_take_le k i.p0.rows
  generalize i.p0.rows[k]=r at *
  generalize (i.p0.rows.take k).countP (fun r=>decide (i.m.gr.b0≤r.off))=n at *
  have hwn:IntKind.i64.wrap ((n:Int)+1)=((n+1:Nat):Int):=by rw[aG (by omega)];rfl
  (refine gO (ai dk (ai g1 (ai @ImgD.dv.eq_1 (ai @PartD.dv.eq_1 (ai @StateD.dv.eq_1 (ai @CoordD.dv.eq_1 (ai @GrpD.dv.eq_1 (@RowD.dv.eq_1)))))))) ?_;try with_reducible exact tt)
  refine Wp.cond (by (refine aK ?_;try with_reducible exact tt);rfl) (fun h=>?_) (fun h=>?_)
  ·rw[h] at hcn
   (refine aI ?_;try with_reducible exact tt)
   refine⟨k+1,by omega,by omega,aD.keep rfl (by simp[aO,SV.ids,HE.ids,CV.ids,ImgD.dv,PartD.dv,StateD.dv,CoordD.dv,GrpD.dv];rfl) ?_⟩
   (refine rO (ai hwk (ai hwn (ai hcn (ai @ImgD.dv.eq_1 (ai @PartD.dv.eq_1 (ai @StateD.dv.eq_1 (ai @CoordD.dv.eq_1 (ai @GrpD.dv.eq_1 (ai @List.map_append.{0,0} (ai @List.map_cons.{0,0} (@List.map_nil.{0,0}))))))))))) ?_;try with_reducible exact tt)
  ·rw[h] at hcn
   (refine aI ?_;try with_reducible exact tt)
   refine⟨k+1,by omega,by omega,aD.keep rfl (by simp[aO,SV.ids,HE.ids,CV.ids,ImgD.dv,PartD.dv,StateD.dv,CoordD.dv,GrpD.dv];rfl) ?_⟩
   (refine rO (ai hwk (ai hcn (ai @ImgD.dv.eq_1 (ai @PartD.dv.eq_1 (ai @StateD.dv.eq_1 (ai @CoordD.dv.eq_1 (ai @GrpD.dv.eq_1 (ai @List.map_append.{0,0} (ai @List.map_cons.{0,0} (@List.map_nil.{0,0})))))))))) ?_;try with_reducible exact tt)
 ·have dk:decide ((k:Int)<(i.p0.rows.length:Int))=false:=decide_eq_false (by omega)
  have htk:i.p0.rows.take k=i.p0.rows:=List.take_of_length_le (by omega)
  rw[htk]
  (refine gO (dk) ?_;try with_reducible exact tt)
  simp (maxSteps:=2000000) (disch:=omega) only[bF,aL,rD0,eS,Nat.reduceBEq,vD]
theorem aNb (i:ImgD) (hs:SmallI i) (hc:aS i=true):aJ Tryz.prog 10 [.agg i.dv,int 1,int 1] (.tup [int (vD i.p1 i.m.gr.b1:Nat),int 0]):=by
 have c0:=cG i hs
 have hl:=hs.p1.rows
 rw[hc,if_pos rfl] at c0
 simp only[ImgD.dv,PartD.dv,StateD.dv,CoordD.dv,GrpD.dv,List.cons_append,List.nil_append] at c0
 (refine aJ.of_body Tryz.func10 rfl rfl Tryz.ntmps10 Tryz.results10 (by simp) ?_)
 (refine gO (ai @ImgD.dv.eq_1 (ai @PartD.dv.eq_1 (ai @StateD.dv.eq_1 (ai @CoordD.dv.eq_1 (@GrpD.dv.eq_1))))) ?_;try with_reducible exact tt)
 refine Wp.loop (fun k:Nat=>⟨dI [(1,vi .i64 1),(2,vi .i64 1),(3,.c (.own 0 0)),(8,vi .i64 (((i.p1.rows.take k).countP (fun r=>decide (i.m.gr.b1≤r.off)):Nat):Int)),(38,.c (.d (.lst 5 (i.p1.rows.map RowD.dv)))),(39,vi .i64 i.p1.rows.length),(40,vi .i64 k)],bJ [(0,.cells (i.dv.map .d))],20,58,0⟩) (fun k=>k≤i.p1.rows.length) (fun k=>i.p1.rows.length - k) 0 (Nat.zero_le _) ?_ ?_
 ·refine aD.keep rfl (by simp[aO,SV.ids,HE.ids,CV.ids,ImgD.dv,PartD.dv,StateD.dv,CoordD.dv,GrpD.dv];rfl) ?_
  (refine rO (ai @ImgD.dv.eq_1 (ai @PartD.dv.eq_1 (ai @StateD.dv.eq_1 (ai @CoordD.dv.eq_1 (ai @GrpD.dv.eq_1 (ai @List.map_append.{0,0} (ai @List.map_cons.{0,0} (ai @List.map_nil.{0,0} (ai @List.take_zero.{0} (@List.countP_nil.{0})))))))))) ?_;try with_reducible exact tt)
 intro k hk
 by_cases hlt:k<i.p1.rows.length
 ·have dk:decide ((k:Int)<(i.p1.rows.length:Int))=true:=decide_eq_true (by omega)
  have g1:i.p1.rows[k]? = some i.p1.rows[k]:=List.getElem?_eq_getElem hlt
  have hwk:IntKind.i64.wrap ((k:Int)+1)=((k+1:Nat):Int):=by rw[aG (by omega)];rfl
  have hcn:=kJ (fun r:RowD=>decide (i.m.gr.b1≤r.off)) i.p1.rows k hlt
  have hcl:=List.countP_le_length (p:=fun r:RowD=>decide (i.m.gr.b1≤r.off)) (l:=i.p1.rows.take k)
  have htl:=List.length_take_le k i.p1.rows
  generalize i.p1.rows[k]=r at *
  generalize (i.p1.rows.take k).countP (fun r=>decide (i.m.gr.b1≤r.off))=n at *
  have hwn:IntKind.i64.wrap ((n:Int)+1)=((n+1:Nat):Int):=by rw[aG (by omega)];rfl
  (refine gO (ai dk (ai g1 (ai @ImgD.dv.eq_1 (ai @PartD.dv.eq_1 (ai @StateD.dv.eq_1 (ai @CoordD.dv.eq_1 (ai @GrpD.dv.eq_1 (@RowD.dv.eq_1)))))))) ?_;try with_reducible exact tt)
  refine Wp.cond (by (refine aK ?_;try with_reducible exact tt);rfl) (fun h=>?_) (fun h=>?_)
  ·rw[h] at hcn
   (refine aI ?_;try with_reducible exact tt)
   refine⟨k+1,by omega,by omega,aD.keep rfl (by simp[aO,SV.ids,HE.ids,CV.ids,ImgD.dv,PartD.dv,StateD.dv,CoordD.dv,GrpD.dv];rfl) ?_⟩
   (refine rO (ai hwk (ai hwn (ai hcn (ai @ImgD.dv.eq_1 (ai @PartD.dv.eq_1 (ai @StateD.dv.eq_1 (ai @CoordD.dv.eq_1 (ai @GrpD.dv.eq_1 (ai @List.map_append.{0,0} (ai @List.map_cons.{0,0} (@List.map_nil.{0,0}))))))))))) ?_;try with_reducible exact tt)
  ·rw[h] at hcn
   (refine aI ?_;try with_reducible exact tt)
   refine⟨k+1,by omega,by omega,aD.keep rfl (by simp[aO,SV.ids,HE.ids,CV.ids,ImgD.dv,PartD.dv,StateD.dv,CoordD.dv,GrpD.dv];rfl) ?_⟩
   (refine rO (ai hwk (ai hcn (ai @ImgD.dv.eq_1 (ai @PartD.dv.eq_1 (ai @StateD.dv.eq_1 (ai @CoordD.dv.eq_1 (ai @GrpD.dv.eq_1 (ai @List.map_append.{0,0} (ai @List.map_cons.{0,0} (@List.map_nil.{0,0})))))))))) ?_;try with_reducible exact tt)
 ·have dk:decide ((k:Int)<(i.p1.rows.length:Int))=false:=decide_eq_false (by omega)
  have htk:i.p1.rows.take k=i.p1.rows:=List.take_of_length_le (by omega)
  rw[htk]
  (refine gO (dk) ?_;try with_reducible exact tt)
  simp (maxSteps:=2000000) (disch:=omega) only[bF,aL,rD0,eS,Nat.reduceBEq,vD]
theorem aNc (i:ImgD) (hs:SmallI i) (hc:aS i=true):aJ Tryz.prog 10 [.agg i.dv,int 1,int 2] (.tup [int (vD i.p2 i.m.gr.b2:Nat),int 0]):=by
 have c0:=cG i hs
 have hl:=hs.p2.rows
 rw[hc,if_pos rfl] at c0
 simp only[ImgD.dv,PartD.dv,StateD.dv,CoordD.dv,GrpD.dv,List.cons_append,List.nil_append] at c0
 (refine aJ.of_body Tryz.func10 rfl rfl Tryz.ntmps10 Tryz.results10 (by simp) ?_)
 (refine gO (ai @ImgD.dv.eq_1 (ai @PartD.dv.eq_1 (ai @StateD.dv.eq_1 (ai @CoordD.dv.eq_1 (@GrpD.dv.eq_1))))) ?_;try with_reducible exact tt)
 refine Wp.loop (fun k:Nat=>⟨dI [(1,vi .i64 1),(2,vi .i64 2),(3,.c (.own 0 0)),(8,vi .i64 (((i.p2.rows.take k).countP (fun r=>decide (i.m.gr.b2≤r.off)):Nat):Int)),(38,.c (.d (.lst 5 (i.p2.rows.map RowD.dv)))),(39,vi .i64 i.p2.rows.length),(40,vi .i64 k)],bJ [(0,.cells (i.dv.map .d))],20,58,0⟩) (fun k=>k≤i.p2.rows.length) (fun k=>i.p2.rows.length - k) 0 (Nat.zero_le _) ?_ ?_
 ·refine aD.keep rfl (by simp[aO,SV.ids,HE.ids,CV.ids,ImgD.dv,PartD.dv,StateD.dv,CoordD.dv,GrpD.dv];rfl) ?_
  (refine rO (ai @ImgD.dv.eq_1 (ai @PartD.dv.eq_1 (ai @StateD.dv.eq_1 (ai @CoordD.dv.eq_1 (ai @GrpD.dv.eq_1 (ai @List.map_append.{0,0} (ai @List.map_cons.{0,0} (ai @List.map_nil.{0,0} (ai @List.take_zero.{0} (@List.countP_nil.{0})))))))))) ?_;try with_reducible exact tt)
 intro k hk
 by_cases hlt:k<i.p2.rows.length
 ·have dk:decide ((k:Int)<(i.p2.rows.length:Int))=true:=decide_eq_true (by omega)
  have g1:i.p2.rows[k]? = some i.p2.rows[k]:=List.getElem?_eq_getElem hlt
  have hwk:IntKind.i64.wrap ((k:Int)+1)=((k+1:Nat):Int):=by rw[aG (by omega)];rfl
  have hcn:=kJ (fun r:RowD=>decide (i.m.gr.b2≤r.off)) i.p2.rows k hlt
  have hcl:=List.countP_le_length (p:=fun r:RowD=>decide (i.m.gr.b2≤r.off)) (l:=i.p2.rows.take k)
  have htl:=List.length_take_le k i.p2.rows
  generalize i.p2.rows[k]=r at *
  generalize (i.p2.rows.take k).countP (fun r=>decide (i.m.gr.b2≤r.off))=n at *
  have hwn:IntKind.i64.wrap ((n:Int)+1)=((n+1:Nat):Int):=by rw[aG (by omega)];rfl
  (refine gO (ai dk (ai g1 (ai @ImgD.dv.eq_1 (ai @PartD.dv.eq_1 (ai @StateD.dv.eq_1 (ai @CoordD.dv.eq_1 (ai @GrpD.dv.eq_1 (@RowD.dv.eq_1)))))))) ?_;try with_reducible exact tt)
  refine Wp.cond (by (refine aK ?_;try with_reducible exact tt);rfl) (fun h=>?_) (fun h=>?_)
  ·rw[h] at hcn
   (refine aI ?_;try with_reducible exact tt)
   refine⟨k+1,by omega,by omega,aD.keep rfl (by simp[aO,SV.ids,HE.ids,CV.ids,ImgD.dv,PartD.dv,StateD.dv,CoordD.dv,GrpD.dv];rfl) ?_⟩
   (refine rO (ai hwk (ai hwn (ai hcn (ai @ImgD.dv.eq_1 (ai @PartD.dv.eq_1 (ai @StateD.dv.eq_1 (ai @CoordD.dv.eq_1 (ai @GrpD.dv.eq_1 (ai @List.map_append.{0,0} (ai @List.map_cons.{0,0} (@List.map_nil.{0,0}))))))))))) ?_;try with_reducible exact tt)
  ·rw[h] at hcn
   (refine aI ?_;try with_reducible exact tt)
   refine⟨k+1,by omega,by omega,aD.keep rfl (by simp[aO,SV.ids,HE.ids,CV.ids,ImgD.dv,PartD.dv,StateD.dv,CoordD.dv,GrpD.dv];rfl) ?_⟩
   (refine rO (ai hwk (ai hcn (ai @ImgD.dv.eq_1 (ai @PartD.dv.eq_1 (ai @StateD.dv.eq_1 (ai @CoordD.dv.eq_1 (ai @GrpD.dv.eq_1 (ai @List.map_append.{0,0} (ai @List.map_cons.{0,0} (@List.map_nil.{0,0})))))))))) ?_;try with_reducible exact tt)
 ·have dk:decide ((k:Int)<(i.p2.rows.length:Int))=false:=decide_eq_false (by omega)
  have htk:i.p2.rows.take k=i.p2.rows:=List.take_of_length_le (by omega)
  rw[htk]
  (refine gO (dk) ?_;try with_reducible exact tt)
  simp (maxSteps:=2000000) (disch:=omega) only[bF,aL,rD0,eS,Nat.reduceBEq,vD]
theorem aRl (i:ImgD) (g q:Int) (hs:SmallI i):aJ Tryz.prog 10 [.agg i.dv,int g,int q] (.tup [int (aK9 i g q).1,int (aK9 i g q).2]):=by
 have hb:=aN5 i g q
 cases hw:(aU g 0 1 && aU q 0 2 && aS i) with
 | false =>
  rw[hw] at hb
  have e:aK9 i g q=(0,2):=by unfold aK9;rw[hw];rfl
  rw[e]
  exact aN6 i g q hs hb
 | true =>
  have e:aK9 i g q=(((vD (i.p q.toNat) (i.m.gr.at g.toNat q.toNat):Nat):Int),0):=by unfold aK9;rw[hw];rfl
  rw[e]
  simp only[Bool.and_eq_true,aU,decide_eq_true_eq] at hw
  obtain⟨⟨⟨h1,h2⟩,h3,h4⟩,hc⟩:=hw
  rcases (show g=0∨g=1 by omega) with rfl|rfl<;>rcases (show q=0∨q=1∨q=2 by omega) with rfl|rfl|rfl
  ·exact aN7 i hs hc
  ·exact aN8 i hs hc
  ·exact aN9 i hs hc
  ·exact aNa i hs hc
  ·exact aNb i hs hc
  ·exact aNc i hs hc
end Go.Proofs.YtkmfmphpndhkjaaGreatDoor
