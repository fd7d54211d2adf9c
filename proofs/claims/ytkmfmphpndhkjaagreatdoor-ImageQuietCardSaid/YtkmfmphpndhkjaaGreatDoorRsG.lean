/- The reference of layer 22: Check. -/
import Derived.Test.YtkmfmphpndhkjaaGreatDoorRsF
namespace Go.Proofs.YtkmfmphpndhkjaaGreatDoor
open Go Go.RowKit
set_option maxHeartbeats 16000000
set_option maxRecDepth 100000
set_option linter.unusedVariables false
set_option linter.unusedSimpArgs false
theorem aJo (i:ImgD):aS i=(aCp i && (fG i.m && (bE i.p0 && (i.p0.opens.all (cH i) && (bE i.p1 && (i.p1.opens.all (cH i) && (bE i.p2 && (i.p2.opens.all (cH i) && (dD i 0 && (dD i 1 && dD i 2)))))))))):=by
 unfold aS nS
 cases aCp i<;>cases fG i.m<;>cases bE i.p0<;>cases bE i.p1<;>cases bE i.p2<;>simp[Bool.and_comm,Bool.and_left_comm,Bool.and_assoc]
structure I8I (i:ImgD):Prop where
 c0:I8C i.m.c0
 c1:I8C i.m.c1
 c2:I8C i.m.c2
theorem aAb {p:PartD} (h:bE p=true):mY p 0=false:=by
 unfold mY
 rw[List.any_eq_false]
 intro o ho hp
 simp only[bE,Bool.and_eq_true,List.all_eq_true] at h
 have hk:=h.2 o ho
 simp only[cV,Bool.and_eq_true] at hk
 obtain⟨hpos,_⟩:=zC hk.1
 have h1:=hk.1
 simp only[wG,Bool.and_eq_true,List.all_eq_true] at h1
 have h2:=h1.2 0 (by simpa using hpos)
 unfold xK at h2
 rw[List.getElem?_eq_getElem hpos] at h2
 simp only[iX,Bool.not_eq_true',Bool.or_eq_false_iff,Bool.not_eq_false',bne_eq_false_iff_eq,mW,Bool.and_eq_true,decide_eq_false_iff_not] at h2
 have hpo:o.pid=0:=by simpa using hp
 omega
theorem uG {i:ImgD} (h0:bE i.p0=true) (h1:bE i.p1=true) (h2:bE i.p2=true):aY i 0=[]:=by
 unfold aY
 rw[aAb h0,aAb h1,aAb h2]
 rfl
theorem jE (i:ImgD) (hs:SmallI i) (h8:I8I i):aJ Tryz.prog 8 [.agg i.dv] (int (if aS i then 0 else 2)):=by
 have cm:=aNg i.m hs.m h8.c0 h8.c1 h8.c2
 have c0:=qV i.p0 hs.p0
 have c1:=qV i.p1 hs.p1
 have c2:=qV i.p2 hs.p2
 have co:∀ pid,aJ Tryz.prog 17 [.agg i.m.dv,int pid] (.tup [int ((nG i.m pid).1:Nat),dC (nG i.m pid).2]):=fun pid=>aIa i.m pid
 have hc:=aJo i
 have ht:aCp i = !(i.tag != 0 && i.tag != 1):=by
  unfold aCp;cases h0:(i.tag == 0)<;>cases h1:(i.tag == 1)<;>simp[bne,h0,h1]
 simp only[ImgD.dv,PartD.dv,StateD.dv,CoordD.dv,GrpD.dv,List.cons_append,List.nil_append] at cm c0 c1 c2 co
 (refine aJ.of_body Tryz.func8 rfl rfl Tryz.ntmps8 Tryz.results8 (by simp) ?_)
 (refine gO (ai @ImgD.dv.eq_1 (ai @PartD.dv.eq_1 (ai @StateD.dv.eq_1 (ai @CoordD.dv.eq_1 (@GrpD.dv.eq_1))))) ?_;try with_reducible exact tt)
 (first|refine Wp.sto 25 (vb ((i.tag != 0 && i.tag != 1) || !fG i.m)) ?_ ?_|refine Wp.rtoS 25 (vb ((i.tag != 0 && i.tag != 1) || !fG i.m)) ?_ ?_|(refine Wp.seq ?_;first|refine Wp.sto 25 (vb ((i.tag != 0 && i.tag != 1) || !fG i.m)) ?_ ?_|refine Wp.rtoS 25 (vb ((i.tag != 0 && i.tag != 1) || !fG i.m)) ?_ ?_))
 ·((rcases Bool.eq_false_or_eq_true (i.tag != 0) with hL1|hL1)<;>(rcases Bool.eq_false_or_eq_true (i.tag != 1) with hL2|hL2)<;>(rcases Bool.eq_false_or_eq_true (!fG i.m) with hL3|hL3)<;>(((refine rO (ai hL1 (ai hL2 (ai hL3 (ai @ImgD.dv.eq_1 (ai @PartD.dv.eq_1 (ai @StateD.dv.eq_1 (ai @CoordD.dv.eq_1 (@GrpD.dv.eq_1)))))))) ?_;try with_reducible exact tt);(repeat (refine aQ (by assumption) ?_;(refine rO (ai hL1 (ai hL2 (ai hL3 (ai @ImgD.dv.eq_1 (ai @PartD.dv.eq_1 (ai @StateD.dv.eq_1 (ai @CoordD.dv.eq_1 (@GrpD.dv.eq_1)))))))) ?_;try with_reducible exact tt))));all_goals (exact (show aH _ _=true by kernel_rfl))))
 refine Wp.cond (by (refine aK ?_;try with_reducible exact tt);rfl) (fun h=>?_) (fun h=>?_)
 ·have e:aS i=false:=by
   rw[hc,ht]
   cases h1:(i.tag != 0 && i.tag != 1) with
   | true=>rfl
   | false=>rw[h1] at h;simp only[Bool.false_or,Bool.not_eq_true'] at h;rw[h];rfl
  (refine aI ?_;try with_reducible exact tt)
  (refine rO (ai e (ai @Bool.false_eq_true (@if_false.{1}))) ?_;try with_reducible exact tt)
 have ht1:aCp i=true:=by
  rw[ht];simp only[Bool.or_eq_false_iff] at h;rw[h.1];rfl
 have hm1:fG i.m=true:=by
  simp only[Bool.or_eq_false_iff,Bool.not_eq_false'] at h;exact h.2
 clear ht h cm
 (refine gO (ai @ImgD.dv.eq_1 (ai @PartD.dv.eq_1 (ai @StateD.dv.eq_1 (ai @CoordD.dv.eq_1 (@GrpD.dv.eq_1))))) ?_;try with_reducible exact tt)
 refine Wp.rounds 4 (aN.go ?_)
 cases q0:bE i.p0 with
 | false =>
  have e:aS i=false:=by rw[hc,ht1,hm1,q0];rfl
  rw[q0] at c0
  simp only[Bool.false_eq_true,if_false] at c0
  (refine gO (ai @ImgD.dv.eq_1 (ai @PartD.dv.eq_1 (ai @StateD.dv.eq_1 (ai @CoordD.dv.eq_1 (ai @GrpD.dv.eq_1 (ai @List.map_append.{0,0} (ai @List.map_cons.{0,0} (@List.map_nil.{0,0})))))))) ?_;try with_reducible exact tt)
  (refine rO (ai e (ai @Bool.false_eq_true (@if_false.{1}))) ?_;try with_reducible exact tt)
 | true =>
 rw[q0,if_pos rfl] at c0
 (refine gO (ai @ImgD.dv.eq_1 (ai @PartD.dv.eq_1 (ai @StateD.dv.eq_1 (ai @CoordD.dv.eq_1 (ai @GrpD.dv.eq_1 (ai @List.map_append.{0,0} (ai @List.map_cons.{0,0} (@List.map_nil.{0,0})))))))) ?_;try with_reducible exact tt)
 have hl0:=hs.p0.opens
 refine Wp.loop (fun k:Nat=>⟨dI [(1,.c (.own 0 0)),(3,vi .i64 0),(4,.c (.own 1 0)),(5,vi .i64 k)],bJ [(0,.cells (i.dv.map .d)),(1,.cells (i.p0.dv.map .d))],20,111,0⟩) (fun k=>k≤i.p0.opens.length∧(i.p0.opens.take k).all (cH i)=true) (fun k=>i.p0.opens.length - k) 0 ⟨Nat.zero_le _,rfl⟩ ?_ ?_
 ·refine aD.keep rfl (by simp[aO,SV.ids,HE.ids,CV.ids,ImgD.dv,PartD.dv,StateD.dv,CoordD.dv,GrpD.dv];rfl) ?_
  (refine rO (ai @ImgD.dv.eq_1 (ai @PartD.dv.eq_1 (ai @StateD.dv.eq_1 (ai @CoordD.dv.eq_1 (ai @GrpD.dv.eq_1 (ai @List.map_append.{0,0} (ai @List.map_cons.{0,0} (@List.map_nil.{0,0})))))))) ?_;try with_reducible exact tt)
 rintro k ⟨hk,hall⟩
 by_cases hlt:k<i.p0.opens.length
 ·have dk:decide ((k:Int)<(i.p0.opens.length:Int))=true:=decide_eq_true (by omega)
  have g1:i.p0.opens[k]? = some i.p0.opens[k]:=List.getElem?_eq_getElem hlt
  have hwk:IntKind.i64.wrap ((k:Int)+1)=((k+1:Nat):Int):=by rw[aG (by omega)];rfl
  have hsn:=eC (cH i) i.p0.opens k hlt
  have hmem:=List.getElem_mem hlt
  generalize i.p0.opens[k]=o at *
  have c5:=co o.pid
  have hcase:=xJ i.m o.pid
  obtain⟨tid,ok,hto⟩:∃ tid ok,nG i.m o.pid=(tid,ok):=⟨_,_,rfl⟩
  have hown:=sI i o hto
  rw[hto] at c5 hcase
  simp only at c5 hcase
  have hbad:(!ok || ((i.m.c tid).epoch != o.epoch))=true→i.p0.opens.all (cH i)=false:=fun hb=>by
   rw[List.all_eq_false];exact⟨o,hmem,by rw[hown,hb];simp⟩
  rcases hcase with rfl|rfl|rfl
  ·have hb:(!ok || (i.m.c0.epoch != o.epoch))=true→i.p0.opens.all (cH i)=false:=hbad
   have hown:cH i o = !(!ok || (i.m.c0.epoch != o.epoch)):=hown
   (refine gO (ai dk (ai g1 (ai @ImgD.dv.eq_1 (ai @PartD.dv.eq_1 (ai @StateD.dv.eq_1 (ai @CoordD.dv.eq_1 (ai @GrpD.dv.eq_1 (@OpenD.dv.eq_1)))))))) ?_;try with_reducible exact tt)
   (first|refine Wp.stoD 72 (vb (!ok || (i.m.c0.epoch != o.epoch))) aA ?_ ?_|refine Wp.rtoDS 72 (vb (!ok || (i.m.c0.epoch != o.epoch))) aA ?_ ?_|(refine Wp.seq ?_;first|refine Wp.stoD 72 (vb (!ok || (i.m.c0.epoch != o.epoch))) aA ?_ ?_|refine Wp.rtoDS 72 (vb (!ok || (i.m.c0.epoch != o.epoch))) aA ?_ ?_))
   ·((rcases Bool.eq_false_or_eq_true (!ok) with hL1|hL1)<;>(rcases Bool.eq_false_or_eq_true (i.m.c0.epoch != o.epoch) with hL2|hL2)<;>(((refine rO (ai hL1 (ai hL2 (ai @ImgD.dv.eq_1 (ai @PartD.dv.eq_1 (ai @StateD.dv.eq_1 (ai @CoordD.dv.eq_1 (ai @GrpD.dv.eq_1 (ai @OpenD.dv.eq_1 (g1))))))))) ?_;try with_reducible exact tt);(repeat (refine aQ (by assumption) ?_;(refine rO (ai hL1 (ai hL2 (ai @ImgD.dv.eq_1 (ai @PartD.dv.eq_1 (ai @StateD.dv.eq_1 (ai @CoordD.dv.eq_1 (ai @GrpD.dv.eq_1 (ai @OpenD.dv.eq_1 (g1))))))))) ?_;try with_reducible exact tt))));all_goals (exact (show aH _ _=true by kernel_rfl))))
   refine Wp.cond (by (refine aK ?_;try with_reducible exact tt);rfl) (fun h=>?_) (fun h=>?_)
   ·have e:aS i=false:=by rw[hc,ht1,hm1,q0,hb h];rfl
    (refine aI ?_;try with_reducible exact tt)
    (refine rO (ai e (ai @Bool.false_eq_true (@if_false.{1}))) ?_;try with_reducible exact tt)
   ·(refine aI ?_;try with_reducible exact tt)
    refine⟨k+1,⟨by omega,by rw[hsn,hall,hown,h];rfl⟩,by omega,aD.keep rfl (by simp[aO,SV.ids,HE.ids,CV.ids,ImgD.dv,PartD.dv,StateD.dv,CoordD.dv,GrpD.dv];rfl) ?_⟩
    (refine rO (ai hwk (ai @ImgD.dv.eq_1 (ai @PartD.dv.eq_1 (ai @StateD.dv.eq_1 (ai @CoordD.dv.eq_1 (ai @GrpD.dv.eq_1 (ai @List.map_append.{0,0} (ai @List.map_cons.{0,0} (@List.map_nil.{0,0}))))))))) ?_;try with_reducible exact tt)
  ·have hb:(!ok || (i.m.c1.epoch != o.epoch))=true→i.p0.opens.all (cH i)=false:=hbad
   have hown:cH i o = !(!ok || (i.m.c1.epoch != o.epoch)):=hown
   (refine gO (ai dk (ai g1 (ai @ImgD.dv.eq_1 (ai @PartD.dv.eq_1 (ai @StateD.dv.eq_1 (ai @CoordD.dv.eq_1 (ai @GrpD.dv.eq_1 (@OpenD.dv.eq_1)))))))) ?_;try with_reducible exact tt)
   (first|refine Wp.stoD 72 (vb (!ok || (i.m.c1.epoch != o.epoch))) aA ?_ ?_|refine Wp.rtoDS 72 (vb (!ok || (i.m.c1.epoch != o.epoch))) aA ?_ ?_|(refine Wp.seq ?_;first|refine Wp.stoD 72 (vb (!ok || (i.m.c1.epoch != o.epoch))) aA ?_ ?_|refine Wp.rtoDS 72 (vb (!ok || (i.m.c1.epoch != o.epoch))) aA ?_ ?_))
   ·((rcases Bool.eq_false_or_eq_true (!ok) with hL1|hL1)<;>(rcases Bool.eq_false_or_eq_true (i.m.c1.epoch != o.epoch) with hL2|hL2)<;>(((refine rO (ai hL1 (ai hL2 (ai @ImgD.dv.eq_1 (ai @PartD.dv.eq_1 (ai @StateD.dv.eq_1 (ai @CoordD.dv.eq_1 (ai @GrpD.dv.eq_1 (ai @OpenD.dv.eq_1 (g1))))))))) ?_;try with_reducible exact tt);(repeat (refine aQ (by assumption) ?_;(refine rO (ai hL1 (ai hL2 (ai @ImgD.dv.eq_1 (ai @PartD.dv.eq_1 (ai @StateD.dv.eq_1 (ai @CoordD.dv.eq_1 (ai @GrpD.dv.eq_1 (ai @OpenD.dv.eq_1 (g1))))))))) ?_;try with_reducible exact tt))));all_goals (exact (show aH _ _=true by kernel_rfl))))
   refine Wp.cond (by (refine aK ?_;try with_reducible exact tt);rfl) (fun h=>?_) (fun h=>?_)
   ·have e:aS i=false:=by rw[hc,ht1,hm1,q0,hb h];rfl
    (refine aI ?_;try with_reducible exact tt)
    (refine rO (ai e (ai @Bool.false_eq_true (@if_false.{1}))) ?_;try with_reducible exact tt)
   ·(refine aI ?_;try with_reducible exact tt)
    refine⟨k+1,⟨by omega,by rw[hsn,hall,hown,h];rfl⟩,by omega,aD.keep rfl (by simp[aO,SV.ids,HE.ids,CV.ids,ImgD.dv,PartD.dv,StateD.dv,CoordD.dv,GrpD.dv];rfl) ?_⟩
    (refine rO (ai hwk (ai @ImgD.dv.eq_1 (ai @PartD.dv.eq_1 (ai @StateD.dv.eq_1 (ai @CoordD.dv.eq_1 (ai @GrpD.dv.eq_1 (ai @List.map_append.{0,0} (ai @List.map_cons.{0,0} (@List.map_nil.{0,0}))))))))) ?_;try with_reducible exact tt)
  ·have hb:(!ok || (i.m.c2.epoch != o.epoch))=true→i.p0.opens.all (cH i)=false:=hbad
   have hown:cH i o = !(!ok || (i.m.c2.epoch != o.epoch)):=hown
   (refine gO (ai dk (ai g1 (ai @ImgD.dv.eq_1 (ai @PartD.dv.eq_1 (ai @StateD.dv.eq_1 (ai @CoordD.dv.eq_1 (ai @GrpD.dv.eq_1 (@OpenD.dv.eq_1)))))))) ?_;try with_reducible exact tt)
   (first|refine Wp.stoD 72 (vb (!ok || (i.m.c2.epoch != o.epoch))) aA ?_ ?_|refine Wp.rtoDS 72 (vb (!ok || (i.m.c2.epoch != o.epoch))) aA ?_ ?_|(refine Wp.seq ?_;first|refine Wp.stoD 72 (vb (!ok || (i.m.c2.epoch != o.epoch))) aA ?_ ?_|refine Wp.rtoDS 72 (vb (!ok || (i.m.c2.epoch != o.epoch))) aA ?_ ?_))
   ·((rcases Bool.eq_false_or_eq_true (!ok) with hL1|hL1)<;>(rcases Bool.eq_false_or_eq_true (i.m.c2.epoch != o.epoch) with hL2|hL2)<;>(((refine rO (ai hL1 (ai hL2 (ai @ImgD.dv.eq_1 (ai @PartD.dv.eq_1 (ai @StateD.dv.eq_1 (ai @CoordD.dv.eq_1 (ai @GrpD.dv.eq_1 (ai @OpenD.dv.eq_1 (g1))))))))) ?_;try with_reducible exact tt);(repeat (refine aQ (by assumption) ?_;(refine rO (ai hL1 (ai hL2 (ai @ImgD.dv.eq_1 (ai @PartD.dv.eq_1 (ai @StateD.dv.eq_1 (ai @CoordD.dv.eq_1 (ai @GrpD.dv.eq_1 (ai @OpenD.dv.eq_1 (g1))))))))) ?_;try with_reducible exact tt))));all_goals (exact (show aH _ _=true by kernel_rfl))))
   refine Wp.cond (by (refine aK ?_;try with_reducible exact tt);rfl) (fun h=>?_) (fun h=>?_)
   ·have e:aS i=false:=by rw[hc,ht1,hm1,q0,hb h];rfl
    (refine aI ?_;try with_reducible exact tt)
    (refine rO (ai e (ai @Bool.false_eq_true (@if_false.{1}))) ?_;try with_reducible exact tt)
   ·(refine aI ?_;try with_reducible exact tt)
    refine⟨k+1,⟨by omega,by rw[hsn,hall,hown,h];rfl⟩,by omega,aD.keep rfl (by simp[aO,SV.ids,HE.ids,CV.ids,ImgD.dv,PartD.dv,StateD.dv,CoordD.dv,GrpD.dv];rfl) ?_⟩
    (refine rO (ai hwk (ai @ImgD.dv.eq_1 (ai @PartD.dv.eq_1 (ai @StateD.dv.eq_1 (ai @CoordD.dv.eq_1 (ai @GrpD.dv.eq_1 (ai @List.map_append.{0,0} (ai @List.map_cons.{0,0} (@List.map_nil.{0,0}))))))))) ?_;try with_reducible exact tt)
 have a0:i.p0.opens.all (cH i)=true:=by rw[List.take_of_length_le (by omega)] at hall;exact hall
 have d0:decide ((k:Int)<(i.p0.opens.length:Int))=false:=decide_eq_false (by omega)
 clear hall hlt hk
 cases q1:bE i.p1 with
 | false =>
  have e:aS i=false:=by rw[hc,ht1,hm1,q0,a0,q1];rfl
  rw[q1] at c1
  simp only[Bool.false_eq_true,if_false] at c1
  (refine gO (ai d0 (ai @ImgD.dv.eq_1 (ai @PartD.dv.eq_1 (ai @StateD.dv.eq_1 (ai @CoordD.dv.eq_1 (ai @GrpD.dv.eq_1 (ai @List.map_append.{0,0} (ai @List.map_cons.{0,0} (@List.map_nil.{0,0}))))))))) ?_;try with_reducible exact tt)
  (refine rO (ai e (ai @Bool.false_eq_true (@if_false.{1}))) ?_;try with_reducible exact tt)
 | true =>
 rw[q1,if_pos rfl] at c1
 (refine gO (ai d0 (ai @ImgD.dv.eq_1 (ai @PartD.dv.eq_1 (ai @StateD.dv.eq_1 (ai @CoordD.dv.eq_1 (ai @GrpD.dv.eq_1 (ai @List.map_append.{0,0} (ai @List.map_cons.{0,0} (@List.map_nil.{0,0}))))))))) ?_;try with_reducible exact tt)
 have hl1:=hs.p1.opens
 refine Wp.loop (fun k:Nat=>⟨dI [(1,.c (.own 0 0)),(3,vi .i64 1),(4,.c (.own 20 0)),(5,vi .i64 k)],bJ [(0,.cells (i.dv.map .d)),(20,.cells (i.p1.dv.map .d))],40,111,0⟩) (fun k=>k≤i.p1.opens.length∧(i.p1.opens.take k).all (cH i)=true) (fun k=>i.p1.opens.length - k) 0 ⟨Nat.zero_le _,rfl⟩ ?_ ?_
 ·refine aD.keep rfl (by simp[aO,SV.ids,HE.ids,CV.ids,ImgD.dv,PartD.dv,StateD.dv,CoordD.dv,GrpD.dv];rfl) ?_
  (refine rO (ai @ImgD.dv.eq_1 (ai @PartD.dv.eq_1 (ai @StateD.dv.eq_1 (ai @CoordD.dv.eq_1 (ai @GrpD.dv.eq_1 (ai @List.map_append.{0,0} (ai @List.map_cons.{0,0} (@List.map_nil.{0,0})))))))) ?_;try with_reducible exact tt)
 rintro k ⟨hk,hall⟩
 by_cases hlt:k<i.p1.opens.length
 ·have dk:decide ((k:Int)<(i.p1.opens.length:Int))=true:=decide_eq_true (by omega)
  have g1:i.p1.opens[k]? = some i.p1.opens[k]:=List.getElem?_eq_getElem hlt
  have hwk:IntKind.i64.wrap ((k:Int)+1)=((k+1:Nat):Int):=by rw[aG (by omega)];rfl
  have hsn:=eC (cH i) i.p1.opens k hlt
  have hmem:=List.getElem_mem hlt
  generalize i.p1.opens[k]=o at *
  have c5:=co o.pid
  have hcase:=xJ i.m o.pid
  obtain⟨tid,ok,hto⟩:∃ tid ok,nG i.m o.pid=(tid,ok):=⟨_,_,rfl⟩
  have hown:=sI i o hto
  rw[hto] at c5 hcase
  simp only at c5 hcase
  have hbad:(!ok || ((i.m.c tid).epoch != o.epoch))=true→i.p1.opens.all (cH i)=false:=fun hb=>by
   rw[List.all_eq_false];exact⟨o,hmem,by rw[hown,hb];simp⟩
  rcases hcase with rfl|rfl|rfl
  ·have hb:(!ok || (i.m.c0.epoch != o.epoch))=true→i.p1.opens.all (cH i)=false:=hbad
   have hown:cH i o = !(!ok || (i.m.c0.epoch != o.epoch)):=hown
   (refine gO (ai dk (ai g1 (ai @ImgD.dv.eq_1 (ai @PartD.dv.eq_1 (ai @StateD.dv.eq_1 (ai @CoordD.dv.eq_1 (ai @GrpD.dv.eq_1 (@OpenD.dv.eq_1)))))))) ?_;try with_reducible exact tt)
   (first|refine Wp.stoD 72 (vb (!ok || (i.m.c0.epoch != o.epoch))) aA ?_ ?_|refine Wp.rtoDS 72 (vb (!ok || (i.m.c0.epoch != o.epoch))) aA ?_ ?_|(refine Wp.seq ?_;first|refine Wp.stoD 72 (vb (!ok || (i.m.c0.epoch != o.epoch))) aA ?_ ?_|refine Wp.rtoDS 72 (vb (!ok || (i.m.c0.epoch != o.epoch))) aA ?_ ?_))
   ·((rcases Bool.eq_false_or_eq_true (!ok) with hL1|hL1)<;>(rcases Bool.eq_false_or_eq_true (i.m.c0.epoch != o.epoch) with hL2|hL2)<;>(((refine rO (ai hL1 (ai hL2 (ai @ImgD.dv.eq_1 (ai @PartD.dv.eq_1 (ai @StateD.dv.eq_1 (ai @CoordD.dv.eq_1 (ai @GrpD.dv.eq_1 (ai @OpenD.dv.eq_1 (g1))))))))) ?_;try with_reducible exact tt);(repeat (refine aQ (by assumption) ?_;(refine rO (ai hL1 (ai hL2 (ai @ImgD.dv.eq_1 (ai @PartD.dv.eq_1 (ai @StateD.dv.eq_1 (ai @CoordD.dv.eq_1 (ai @GrpD.dv.eq_1 (ai @OpenD.dv.eq_1 (g1))))))))) ?_;try with_reducible exact tt))));all_goals (exact (show aH _ _=true by kernel_rfl))))
   refine Wp.cond (by (refine aK ?_;try with_reducible exact tt);rfl) (fun h=>?_) (fun h=>?_)
   ·have e:aS i=false:=by rw[hc,ht1,hm1,q0,a0,q1,hb h];rfl
    (refine aI ?_;try with_reducible exact tt)
    (refine rO (ai e (ai @Bool.false_eq_true (@if_false.{1}))) ?_;try with_reducible exact tt)
   ·(refine aI ?_;try with_reducible exact tt)
    refine⟨k+1,⟨by omega,by rw[hsn,hall,hown,h];rfl⟩,by omega,aD.keep rfl (by simp[aO,SV.ids,HE.ids,CV.ids,ImgD.dv,PartD.dv,StateD.dv,CoordD.dv,GrpD.dv];rfl) ?_⟩
    (refine rO (ai hwk (ai @ImgD.dv.eq_1 (ai @PartD.dv.eq_1 (ai @StateD.dv.eq_1 (ai @CoordD.dv.eq_1 (ai @GrpD.dv.eq_1 (ai @List.map_append.{0,0} (ai @List.map_cons.{0,0} (@List.map_nil.{0,0}))))))))) ?_;try with_reducible exact tt)
  ·have hb:(!ok || (i.m.c1.epoch != o.epoch))=true→i.p1.opens.all (cH i)=false:=hbad
   have hown:cH i o = !(!ok || (i.m.c1.epoch != o.epoch)):=hown
   (refine gO (ai dk (ai g1 (ai @ImgD.dv.eq_1 (ai @PartD.dv.eq_1 (ai @StateD.dv.eq_1 (ai @CoordD.dv.eq_1 (ai @GrpD.dv.eq_1 (@OpenD.dv.eq_1)))))))) ?_;try with_reducible exact tt)
   (first|refine Wp.stoD 72 (vb (!ok || (i.m.c1.epoch != o.epoch))) aA ?_ ?_|refine Wp.rtoDS 72 (vb (!ok || (i.m.c1.epoch != o.epoch))) aA ?_ ?_|(refine Wp.seq ?_;first|refine Wp.stoD 72 (vb (!ok || (i.m.c1.epoch != o.epoch))) aA ?_ ?_|refine Wp.rtoDS 72 (vb (!ok || (i.m.c1.epoch != o.epoch))) aA ?_ ?_))
   ·((rcases Bool.eq_false_or_eq_true (!ok) with hL1|hL1)<;>(rcases Bool.eq_false_or_eq_true (i.m.c1.epoch != o.epoch) with hL2|hL2)<;>(((refine rO (ai hL1 (ai hL2 (ai @ImgD.dv.eq_1 (ai @PartD.dv.eq_1 (ai @StateD.dv.eq_1 (ai @CoordD.dv.eq_1 (ai @GrpD.dv.eq_1 (ai @OpenD.dv.eq_1 (g1))))))))) ?_;try with_reducible exact tt);(repeat (refine aQ (by assumption) ?_;(refine rO (ai hL1 (ai hL2 (ai @ImgD.dv.eq_1 (ai @PartD.dv.eq_1 (ai @StateD.dv.eq_1 (ai @CoordD.dv.eq_1 (ai @GrpD.dv.eq_1 (ai @OpenD.dv.eq_1 (g1))))))))) ?_;try with_reducible exact tt))));all_goals (exact (show aH _ _=true by kernel_rfl))))
   refine Wp.cond (by (refine aK ?_;try with_reducible exact tt);rfl) (fun h=>?_) (fun h=>?_)
   ·have e:aS i=false:=by rw[hc,ht1,hm1,q0,a0,q1,hb h];rfl
    (refine aI ?_;try with_reducible exact tt)
    (refine rO (ai e (ai @Bool.false_eq_true (@if_false.{1}))) ?_;try with_reducible exact tt)
   ·(refine aI ?_;try with_reducible exact tt)
    refine⟨k+1,⟨by omega,by rw[hsn,hall,hown,h];rfl⟩,by omega,aD.keep rfl (by simp[aO,SV.ids,HE.ids,CV.ids,ImgD.dv,PartD.dv,StateD.dv,CoordD.dv,GrpD.dv];rfl) ?_⟩
    (refine rO (ai hwk (ai @ImgD.dv.eq_1 (ai @PartD.dv.eq_1 (ai @StateD.dv.eq_1 (ai @CoordD.dv.eq_1 (ai @GrpD.dv.eq_1 (ai @List.map_append.{0,0} (ai @List.map_cons.{0,0} (@List.map_nil.{0,0}))))))))) ?_;try with_reducible exact tt)
  ·have hb:(!ok || (i.m.c2.epoch != o.epoch))=true→i.p1.opens.all (cH i)=false:=hbad
   have hown:cH i o = !(!ok || (i.m.c2.epoch != o.epoch)):=hown
   (refine gO (ai dk (ai g1 (ai @ImgD.dv.eq_1 (ai @PartD.dv.eq_1 (ai @StateD.dv.eq_1 (ai @CoordD.dv.eq_1 (ai @GrpD.dv.eq_1 (@OpenD.dv.eq_1)))))))) ?_;try with_reducible exact tt)
   (first|refine Wp.stoD 72 (vb (!ok || (i.m.c2.epoch != o.epoch))) aA ?_ ?_|refine Wp.rtoDS 72 (vb (!ok || (i.m.c2.epoch != o.epoch))) aA ?_ ?_|(refine Wp.seq ?_;first|refine Wp.stoD 72 (vb (!ok || (i.m.c2.epoch != o.epoch))) aA ?_ ?_|refine Wp.rtoDS 72 (vb (!ok || (i.m.c2.epoch != o.epoch))) aA ?_ ?_))
   ·((rcases Bool.eq_false_or_eq_true (!ok) with hL1|hL1)<;>(rcases Bool.eq_false_or_eq_true (i.m.c2.epoch != o.epoch) with hL2|hL2)<;>(((refine rO (ai hL1 (ai hL2 (ai @ImgD.dv.eq_1 (ai @PartD.dv.eq_1 (ai @StateD.dv.eq_1 (ai @CoordD.dv.eq_1 (ai @GrpD.dv.eq_1 (ai @OpenD.dv.eq_1 (g1))))))))) ?_;try with_reducible exact tt);(repeat (refine aQ (by assumption) ?_;(refine rO (ai hL1 (ai hL2 (ai @ImgD.dv.eq_1 (ai @PartD.dv.eq_1 (ai @StateD.dv.eq_1 (ai @CoordD.dv.eq_1 (ai @GrpD.dv.eq_1 (ai @OpenD.dv.eq_1 (g1))))))))) ?_;try with_reducible exact tt))));all_goals (exact (show aH _ _=true by kernel_rfl))))
   refine Wp.cond (by (refine aK ?_;try with_reducible exact tt);rfl) (fun h=>?_) (fun h=>?_)
   ·have e:aS i=false:=by rw[hc,ht1,hm1,q0,a0,q1,hb h];rfl
    (refine aI ?_;try with_reducible exact tt)
    (refine rO (ai e (ai @Bool.false_eq_true (@if_false.{1}))) ?_;try with_reducible exact tt)
   ·(refine aI ?_;try with_reducible exact tt)
    refine⟨k+1,⟨by omega,by rw[hsn,hall,hown,h];rfl⟩,by omega,aD.keep rfl (by simp[aO,SV.ids,HE.ids,CV.ids,ImgD.dv,PartD.dv,StateD.dv,CoordD.dv,GrpD.dv];rfl) ?_⟩
    (refine rO (ai hwk (ai @ImgD.dv.eq_1 (ai @PartD.dv.eq_1 (ai @StateD.dv.eq_1 (ai @CoordD.dv.eq_1 (ai @GrpD.dv.eq_1 (ai @List.map_append.{0,0} (ai @List.map_cons.{0,0} (@List.map_nil.{0,0}))))))))) ?_;try with_reducible exact tt)
 have a1:i.p1.opens.all (cH i)=true:=by rw[List.take_of_length_le (by omega)] at hall;exact hall
 have d1:decide ((k:Int)<(i.p1.opens.length:Int))=false:=decide_eq_false (by omega)
 clear hall hlt hk
 cases q2:bE i.p2 with
 | false =>
  have e:aS i=false:=by rw[hc,ht1,hm1,q0,a0,q1,a1,q2];rfl
  rw[q2] at c2
  simp only[Bool.false_eq_true,if_false] at c2
  (refine gO (ai d1 (ai @ImgD.dv.eq_1 (ai @PartD.dv.eq_1 (ai @StateD.dv.eq_1 (ai @CoordD.dv.eq_1 (ai @GrpD.dv.eq_1 (ai @List.map_append.{0,0} (ai @List.map_cons.{0,0} (@List.map_nil.{0,0}))))))))) ?_;try with_reducible exact tt)
  (refine rO (ai e (ai @Bool.false_eq_true (@if_false.{1}))) ?_;try with_reducible exact tt)
 | true =>
 rw[q2,if_pos rfl] at c2
 (refine gO (ai d1 (ai @ImgD.dv.eq_1 (ai @PartD.dv.eq_1 (ai @StateD.dv.eq_1 (ai @CoordD.dv.eq_1 (ai @GrpD.dv.eq_1 (ai @List.map_append.{0,0} (ai @List.map_cons.{0,0} (@List.map_nil.{0,0}))))))))) ?_;try with_reducible exact tt)
 have hl2:=hs.p2.opens
 refine Wp.loop (fun k:Nat=>⟨dI [(1,.c (.own 0 0)),(3,vi .i64 2),(4,.c (.own 40 0)),(5,vi .i64 k)],bJ [(0,.cells (i.dv.map .d)),(40,.cells (i.p2.dv.map .d))],60,111,0⟩) (fun k=>k≤i.p2.opens.length∧(i.p2.opens.take k).all (cH i)=true) (fun k=>i.p2.opens.length - k) 0 ⟨Nat.zero_le _,rfl⟩ ?_ ?_
 ·refine aD.keep rfl (by simp[aO,SV.ids,HE.ids,CV.ids,ImgD.dv,PartD.dv,StateD.dv,CoordD.dv,GrpD.dv];rfl) ?_
  (refine rO (ai @ImgD.dv.eq_1 (ai @PartD.dv.eq_1 (ai @StateD.dv.eq_1 (ai @CoordD.dv.eq_1 (ai @GrpD.dv.eq_1 (ai @List.map_append.{0,0} (ai @List.map_cons.{0,0} (@List.map_nil.{0,0})))))))) ?_;try with_reducible exact tt)
 rintro k ⟨hk,hall⟩
 by_cases hlt:k<i.p2.opens.length
 ·have dk:decide ((k:Int)<(i.p2.opens.length:Int))=true:=decide_eq_true (by omega)
  have g1:i.p2.opens[k]? = some i.p2.opens[k]:=List.getElem?_eq_getElem hlt
  have hwk:IntKind.i64.wrap ((k:Int)+1)=((k+1:Nat):Int):=by rw[aG (by omega)];rfl
  have hsn:=eC (cH i) i.p2.opens k hlt
  have hmem:=List.getElem_mem hlt
  generalize i.p2.opens[k]=o at *
  have c5:=co o.pid
  have hcase:=xJ i.m o.pid
  obtain⟨tid,ok,hto⟩:∃ tid ok,nG i.m o.pid=(tid,ok):=⟨_,_,rfl⟩
  have hown:=sI i o hto
  rw[hto] at c5 hcase
  simp only at c5 hcase
  have hbad:(!ok || ((i.m.c tid).epoch != o.epoch))=true→i.p2.opens.all (cH i)=false:=fun hb=>by
   rw[List.all_eq_false];exact⟨o,hmem,by rw[hown,hb];simp⟩
  rcases hcase with rfl|rfl|rfl
  ·have hb:(!ok || (i.m.c0.epoch != o.epoch))=true→i.p2.opens.all (cH i)=false:=hbad
   have hown:cH i o = !(!ok || (i.m.c0.epoch != o.epoch)):=hown
   (refine gO (ai dk (ai g1 (ai @ImgD.dv.eq_1 (ai @PartD.dv.eq_1 (ai @StateD.dv.eq_1 (ai @CoordD.dv.eq_1 (ai @GrpD.dv.eq_1 (@OpenD.dv.eq_1)))))))) ?_;try with_reducible exact tt)
   (first|refine Wp.stoD 72 (vb (!ok || (i.m.c0.epoch != o.epoch))) aA ?_ ?_|refine Wp.rtoDS 72 (vb (!ok || (i.m.c0.epoch != o.epoch))) aA ?_ ?_|(refine Wp.seq ?_;first|refine Wp.stoD 72 (vb (!ok || (i.m.c0.epoch != o.epoch))) aA ?_ ?_|refine Wp.rtoDS 72 (vb (!ok || (i.m.c0.epoch != o.epoch))) aA ?_ ?_))
   ·((rcases Bool.eq_false_or_eq_true (!ok) with hL1|hL1)<;>(rcases Bool.eq_false_or_eq_true (i.m.c0.epoch != o.epoch) with hL2|hL2)<;>(((refine rO (ai hL1 (ai hL2 (ai @ImgD.dv.eq_1 (ai @PartD.dv.eq_1 (ai @StateD.dv.eq_1 (ai @CoordD.dv.eq_1 (ai @GrpD.dv.eq_1 (ai @OpenD.dv.eq_1 (g1))))))))) ?_;try with_reducible exact tt);(repeat (refine aQ (by assumption) ?_;(refine rO (ai hL1 (ai hL2 (ai @ImgD.dv.eq_1 (ai @PartD.dv.eq_1 (ai @StateD.dv.eq_1 (ai @CoordD.dv.eq_1 (ai @GrpD.dv.eq_1 (ai @OpenD.dv.eq_1 (g1))))))))) ?_;try with_reducible exact tt))));all_goals (exact (show aH _ _=true by kernel_rfl))))
   refine Wp.cond (by (refine aK ?_;try with_reducible exact tt);rfl) (fun h=>?_) (fun h=>?_)
   ·have e:aS i=false:=by rw[hc,ht1,hm1,q0,a0,q1,a1,q2,hb h];rfl
    (refine aI ?_;try with_reducible exact tt)
    (refine rO (ai e (ai @Bool.false_eq_true (@if_false.{1}))) ?_;try with_reducible exact tt)
   ·(refine aI ?_;try with_reducible exact tt)
    refine⟨k+1,⟨by omega,by rw[hsn,hall,hown,h];rfl⟩,by omega,aD.keep rfl (by simp[aO,SV.ids,HE.ids,CV.ids,ImgD.dv,PartD.dv,StateD.dv,CoordD.dv,GrpD.dv];rfl) ?_⟩
    (refine rO (ai hwk (ai @ImgD.dv.eq_1 (ai @PartD.dv.eq_1 (ai @StateD.dv.eq_1 (ai @CoordD.dv.eq_1 (ai @GrpD.dv.eq_1 (ai @List.map_append.{0,0} (ai @List.map_cons.{0,0} (@List.map_nil.{0,0}))))))))) ?_;try with_reducible exact tt)
  ·have hb:(!ok || (i.m.c1.epoch != o.epoch))=true→i.p2.opens.all (cH i)=false:=hbad
   have hown:cH i o = !(!ok || (i.m.c1.epoch != o.epoch)):=hown
   (refine gO (ai dk (ai g1 (ai @ImgD.dv.eq_1 (ai @PartD.dv.eq_1 (ai @StateD.dv.eq_1 (ai @CoordD.dv.eq_1 (ai @GrpD.dv.eq_1 (@OpenD.dv.eq_1)))))))) ?_;try with_reducible exact tt)
   (first|refine Wp.stoD 72 (vb (!ok || (i.m.c1.epoch != o.epoch))) aA ?_ ?_|refine Wp.rtoDS 72 (vb (!ok || (i.m.c1.epoch != o.epoch))) aA ?_ ?_|(refine Wp.seq ?_;first|refine Wp.stoD 72 (vb (!ok || (i.m.c1.epoch != o.epoch))) aA ?_ ?_|refine Wp.rtoDS 72 (vb (!ok || (i.m.c1.epoch != o.epoch))) aA ?_ ?_))
   ·((rcases Bool.eq_false_or_eq_true (!ok) with hL1|hL1)<;>(rcases Bool.eq_false_or_eq_true (i.m.c1.epoch != o.epoch) with hL2|hL2)<;>(((refine rO (ai hL1 (ai hL2 (ai @ImgD.dv.eq_1 (ai @PartD.dv.eq_1 (ai @StateD.dv.eq_1 (ai @CoordD.dv.eq_1 (ai @GrpD.dv.eq_1 (ai @OpenD.dv.eq_1 (g1))))))))) ?_;try with_reducible exact tt);(repeat (refine aQ (by assumption) ?_;(refine rO (ai hL1 (ai hL2 (ai @ImgD.dv.eq_1 (ai @PartD.dv.eq_1 (ai @StateD.dv.eq_1 (ai @CoordD.dv.eq_1 (ai @GrpD.dv.eq_1 (ai @OpenD.dv.eq_1 (g1))))))))) ?_;try with_reducible exact tt))));all_goals (exact (show aH _ _=true by kernel_rfl))))
   refine Wp.cond (by (refine aK ?_;try with_reducible exact tt);rfl) (fun h=>?_) (fun h=>?_)
   ·have e:aS i=false:=by rw[hc,ht1,hm1,q0,a0,q1,a1,q2,hb h];rfl
    (refine aI ?_;try with_reducible exact tt)
    (refine rO (ai e (ai @Bool.false_eq_true (@if_false.{1}))) ?_;try with_reducible exact tt)
   ·(refine aI ?_;try with_reducible exact tt)
    refine⟨k+1,⟨by omega,by rw[hsn,hall,hown,h];rfl⟩,by omega,aD.keep rfl (by simp[aO,SV.ids,HE.ids,CV.ids,ImgD.dv,PartD.dv,StateD.dv,CoordD.dv,GrpD.dv];rfl) ?_⟩
    (refine rO (ai hwk (ai @ImgD.dv.eq_1 (ai @PartD.dv.eq_1 (ai @StateD.dv.eq_1 (ai @CoordD.dv.eq_1 (ai @GrpD.dv.eq_1 (ai @List.map_append.{0,0} (ai @List.map_cons.{0,0} (@List.map_nil.{0,0}))))))))) ?_;try with_reducible exact tt)
  ·have hb:(!ok || (i.m.c2.epoch != o.epoch))=true→i.p2.opens.all (cH i)=false:=hbad
   have hown:cH i o = !(!ok || (i.m.c2.epoch != o.epoch)):=hown
   (refine gO (ai dk (ai g1 (ai @ImgD.dv.eq_1 (ai @PartD.dv.eq_1 (ai @StateD.dv.eq_1 (ai @CoordD.dv.eq_1 (ai @GrpD.dv.eq_1 (@OpenD.dv.eq_1)))))))) ?_;try with_reducible exact tt)
   (first|refine Wp.stoD 72 (vb (!ok || (i.m.c2.epoch != o.epoch))) aA ?_ ?_|refine Wp.rtoDS 72 (vb (!ok || (i.m.c2.epoch != o.epoch))) aA ?_ ?_|(refine Wp.seq ?_;first|refine Wp.stoD 72 (vb (!ok || (i.m.c2.epoch != o.epoch))) aA ?_ ?_|refine Wp.rtoDS 72 (vb (!ok || (i.m.c2.epoch != o.epoch))) aA ?_ ?_))
   ·((rcases Bool.eq_false_or_eq_true (!ok) with hL1|hL1)<;>(rcases Bool.eq_false_or_eq_true (i.m.c2.epoch != o.epoch) with hL2|hL2)<;>(((refine rO (ai hL1 (ai hL2 (ai @ImgD.dv.eq_1 (ai @PartD.dv.eq_1 (ai @StateD.dv.eq_1 (ai @CoordD.dv.eq_1 (ai @GrpD.dv.eq_1 (ai @OpenD.dv.eq_1 (g1))))))))) ?_;try with_reducible exact tt);(repeat (refine aQ (by assumption) ?_;(refine rO (ai hL1 (ai hL2 (ai @ImgD.dv.eq_1 (ai @PartD.dv.eq_1 (ai @StateD.dv.eq_1 (ai @CoordD.dv.eq_1 (ai @GrpD.dv.eq_1 (ai @OpenD.dv.eq_1 (g1))))))))) ?_;try with_reducible exact tt))));all_goals (exact (show aH _ _=true by kernel_rfl))))
   refine Wp.cond (by (refine aK ?_;try with_reducible exact tt);rfl) (fun h=>?_) (fun h=>?_)
   ·have e:aS i=false:=by rw[hc,ht1,hm1,q0,a0,q1,a1,q2,hb h];rfl
    (refine aI ?_;try with_reducible exact tt)
    (refine rO (ai e (ai @Bool.false_eq_true (@if_false.{1}))) ?_;try with_reducible exact tt)
   ·(refine aI ?_;try with_reducible exact tt)
    refine⟨k+1,⟨by omega,by rw[hsn,hall,hown,h];rfl⟩,by omega,aD.keep rfl (by simp[aO,SV.ids,HE.ids,CV.ids,ImgD.dv,PartD.dv,StateD.dv,CoordD.dv,GrpD.dv];rfl) ?_⟩
    (refine rO (ai hwk (ai @ImgD.dv.eq_1 (ai @PartD.dv.eq_1 (ai @StateD.dv.eq_1 (ai @CoordD.dv.eq_1 (ai @GrpD.dv.eq_1 (ai @List.map_append.{0,0} (ai @List.map_cons.{0,0} (@List.map_nil.{0,0}))))))))) ?_;try with_reducible exact tt)
 have a2:i.p2.opens.all (cH i)=true:=by rw[List.take_of_length_le (by omega)] at hall;exact hall
 have d2:decide ((k:Int)<(i.p2.opens.length:Int))=false:=decide_eq_false (by omega)
 clear hall hlt hk
 have hck:aS i=(dD i 0 && (dD i 1 && dD i 2)):=by rw[hc,ht1,hm1,q0,a0,q1,a1,q2,a2];rfl
 clear hc
 rw[hck]
 (refine gO (ai d2 (ai @ImgD.dv.eq_1 (ai @PartD.dv.eq_1 (ai @StateD.dv.eq_1 (ai @CoordD.dv.eq_1 (ai @GrpD.dv.eq_1 (ai @List.map_append.{0,0} (ai @List.map_cons.{0,0} (@List.map_nil.{0,0}))))))))) ?_;try with_reducible exact tt)
 refine Wp.loop (fun k:Nat=>⟨dI [(1,.c (.own 0 0)),(8,vi .i64 k)],bJ [(0,.cells (i.dv.map .d))],60,111,0⟩) (fun k=>k≤3∧(1≤k→dD i 0=true)∧(2≤k→dD i 1=true)∧(3≤k→dD i 2=true)) (fun k=>3 - k) 0 ⟨by omega,by omega,by omega,by omega⟩ ?_ ?_
 ·refine aD.keep rfl (by simp[aO,SV.ids,HE.ids,CV.ids,ImgD.dv,PartD.dv,StateD.dv,CoordD.dv,GrpD.dv];rfl) ?_
  (refine rO (ai @ImgD.dv.eq_1 (ai @PartD.dv.eq_1 (ai @StateD.dv.eq_1 (ai @CoordD.dv.eq_1 (ai @GrpD.dv.eq_1 (ai @List.map_append.{0,0} (ai @List.map_cons.{0,0} (@List.map_nil.{0,0})))))))) ?_;try with_reducible exact tt)
 rintro k ⟨hk,z0,z1,z2⟩
 clear c0 c1 c2 co d0 d1 d2
 rcases (show k=0∨k=1∨k=2∨k=3 by omega) with rfl|rfl|rfl|rfl
 ·have w:=rN i i.m.c0.pid hs q0 q1 q2
  simp only[ImgD.dv,PartD.dv,StateD.dv,CoordD.dv,GrpD.dv,List.cons_append,List.nil_append] at w
  have hw:(i.m.c0.pid == 0)=true→aY i i.m.c0.pid=[]:=fun h=>by
   have:i.m.c0.pid=0:=by simpa using h
   rw[this];exact uG q0 q1 q2
  have hL:(aY i i.m.c0.pid).length≤3:=by
   unfold aY
   cases mY i.p0 i.m.c0.pid<;>cases mY i.p1 i.m.c0.pid<;>cases mY i.p2 i.m.c0.pid<;>simp
  have ttq:dD i 0=decide (i.m.c0.parts=aY i i.m.c0.pid):=rfl
  have bad:¬ i.m.c0.parts=aY i i.m.c0.pid→(dD i 0 && (dD i 1 && dD i 2))=false:=fun h=>by
   have:dD i 0=false:=by rw[ttq];exact decide_eq_false h
   rw[this];simp
  have good:i.m.c0.parts=aY i i.m.c0.pid→dD i 0=true:=fun h=>by rw[ttq];exact decide_eq_true h
  generalize aY i i.m.c0.pid=L at *
  (refine gO (ai @ImgD.dv.eq_1 (ai @PartD.dv.eq_1 (ai @StateD.dv.eq_1 (ai @CoordD.dv.eq_1 (ai @GrpD.dv.eq_1 (ai @List.map_append.{0,0} (ai @List.map_cons.{0,0} (@List.map_nil.{0,0})))))))) ?_;try with_reducible exact tt)
  refine Wp.cond (by (refine aK ?_;try with_reducible exact tt);rfl) (fun h=>?_) (fun h=>?_)
  ·have hn:=hw h
   subst hn
   (refine aI ?_;try with_reducible exact tt)
   refine Wp.cond (by (refine aK ?_;try with_reducible exact tt);rfl) (fun h=>?_) (fun h=>?_)
   ·have e:=bad (fun q=>by rw[q] at h;simp at h)
    (refine aI ?_;try with_reducible exact tt)
    (refine rO (ai e (ai @Bool.false_eq_true (@if_false.{1}))) ?_;try with_reducible exact tt)
   ·have hp:i.m.c0.parts=[]:=by
     have:i.m.c0.parts.length=0:=by simp only[bne_eq_false_iff_eq] at h;omega
     exact List.eq_nil_of_length_eq_zero this
    have g:=good hp
    (refine aI ?_;try with_reducible exact tt)
    refine Wp.rounds 1 (aN.go ?_)
    (refine aI ?_;try with_reducible exact tt)
    refine⟨1,⟨by omega,by first|exact fun _=>g|exact z0|(intro h;omega)|exact fun _=>z0 (by omega),by first|exact fun _=>g|(intro h;omega)|exact fun _=>z1 (by omega),by first|exact fun _=>g|(intro h;omega)⟩,by omega,aD.keep rfl (by simp[aO,SV.ids,HE.ids,CV.ids,ImgD.dv,PartD.dv,StateD.dv,CoordD.dv,GrpD.dv];rfl) ?_⟩
    (refine rO (ai @ImgD.dv.eq_1 (ai @PartD.dv.eq_1 (ai @StateD.dv.eq_1 (ai @CoordD.dv.eq_1 (ai @GrpD.dv.eq_1 (ai @List.map_append.{0,0} (ai @List.map_cons.{0,0} (@List.map_nil.{0,0})))))))) ?_;try with_reducible exact tt)
  (refine aI ?_;try with_reducible exact tt)
  refine Wp.cond (by (refine aK ?_;try with_reducible exact tt);rfl) (fun h=>?_) (fun h=>?_)
  ·have e:=bad (fun q=>by rw[q] at h;simp at h)
   (refine aI ?_;try with_reducible exact tt)
   (refine rO (ai e (ai @Bool.false_eq_true (@if_false.{1}))) ?_;try with_reducible exact tt)
  have hlen:L.length=i.m.c0.parts.length:=by simp only[bne_eq_false_iff_eq] at h;omega
  clear h
  (refine aI ?_;try with_reducible exact tt)
  refine Wp.loop (fun j:Nat=>⟨dI [(1,.c (.own 0 0)),(8,vi .i64 0),(9,.c (.own 60 0)),(10,.c (.d (oQ L))),(11,vi .i64 j)],bJ [(0,.cells (i.dv.map .d)),(60,.cells (i.m.c0.dv.map .d))],80,111,0⟩) (fun j=>j≤L.length∧i.m.c0.parts.take j=L.take j) (fun j=>L.length - j) 0 ⟨Nat.zero_le _,rfl⟩ ?_ ?_
  ·refine aD.keep rfl (by simp[aO,SV.ids,HE.ids,CV.ids,ImgD.dv,PartD.dv,StateD.dv,CoordD.dv,GrpD.dv];rfl) ?_
   (refine rO (ai @ImgD.dv.eq_1 (ai @PartD.dv.eq_1 (ai @StateD.dv.eq_1 (ai @CoordD.dv.eq_1 (ai @GrpD.dv.eq_1 (ai @List.map_append.{0,0} (ai @List.map_cons.{0,0} (@List.map_nil.{0,0})))))))) ?_;try with_reducible exact tt)
  rintro j ⟨hj,hall⟩
  by_cases hlt:j<L.length
  ·have dj:decide ((j:Int)<(L.length:Int))=true:=decide_eq_true (by omega)
   have gL:L[j]? = some L[j]:=List.getElem?_eq_getElem hlt
   have gP:i.m.c0.parts[j]? = some (i.m.c0.parts[j]'(by omega)):=List.getElem?_eq_getElem (by omega)
   have hwj:IntKind.i64.wrap ((j:Int)+1)=((j+1:Nat):Int):=by rw[aG (by omega)];rfl
   have s1:=aF L j hlt
   have s2:=aF i.m.c0.parts j (by omega)
   have hne:L[j]≠i.m.c0.parts[j]'(by omega)→¬ i.m.c0.parts=L:=fun hx e=>by
    apply hx;subst e;rfl
   generalize L[j]=x at *
   generalize i.m.c0.parts[j]'(by omega)=y at *
   (refine gO (ai dj (ai gL (ai gP (ai @ImgD.dv.eq_1 (ai @PartD.dv.eq_1 (ai @StateD.dv.eq_1 (ai @CoordD.dv.eq_1 (ai @GrpD.dv.eq_1 (ai @List.map_append.{0,0} (ai @List.map_cons.{0,0} (@List.map_nil.{0,0}))))))))))) ?_;try with_reducible exact tt)
   refine Wp.cond (by (refine aK ?_;try with_reducible exact tt);rfl) (fun h=>?_) (fun h=>?_)
   ·have e:=bad (hne (by simpa using h))
    (refine aI ?_;try with_reducible exact tt)
    (refine rO (ai e (ai @Bool.false_eq_true (@if_false.{1}))) ?_;try with_reducible exact tt)
   ·have h:x=y:=by simpa using h
    (refine aI ?_;try with_reducible exact tt)
    refine⟨j+1,⟨by omega,by rw[s1,s2,hall,h]⟩,by omega,aD.keep rfl (by simp[aO,SV.ids,HE.ids,CV.ids,ImgD.dv,PartD.dv,StateD.dv,CoordD.dv,GrpD.dv];rfl) ?_⟩
    (refine rO (ai hwj (ai @ImgD.dv.eq_1 (ai @PartD.dv.eq_1 (ai @StateD.dv.eq_1 (ai @CoordD.dv.eq_1 (ai @GrpD.dv.eq_1 (ai @List.map_append.{0,0} (ai @List.map_cons.{0,0} (@List.map_nil.{0,0}))))))))) ?_;try with_reducible exact tt)
  ·have hq:i.m.c0.parts=L:=by
    rw[List.take_of_length_le (by omega),List.take_of_length_le (by omega)] at hall;exact hall
   have g:=good hq
   have dj:decide ((j:Int)<(L.length:Int))=false:=decide_eq_false (by omega)
   (refine gO (ai dj (ai @ImgD.dv.eq_1 (ai @PartD.dv.eq_1 (ai @StateD.dv.eq_1 (ai @CoordD.dv.eq_1 (ai @GrpD.dv.eq_1 (ai @List.map_append.{0,0} (ai @List.map_cons.{0,0} (@List.map_nil.{0,0}))))))))) ?_;try with_reducible exact tt)
   refine⟨1,⟨by omega,by first|exact fun _=>g|exact fun _=>z0 (by omega)|(intro h;omega),by first|exact fun _=>g|exact fun _=>z1 (by omega)|(intro h;omega),by first|exact fun _=>g|(intro h;omega)⟩,by omega,aD.keep rfl (by simp[aO,SV.ids,HE.ids,CV.ids,ImgD.dv,PartD.dv,StateD.dv,CoordD.dv,GrpD.dv];rfl) ?_⟩
   (refine rO (ai @ImgD.dv.eq_1 (ai @PartD.dv.eq_1 (ai @StateD.dv.eq_1 (ai @CoordD.dv.eq_1 (ai @GrpD.dv.eq_1 (ai @List.map_append.{0,0} (ai @List.map_cons.{0,0} (@List.map_nil.{0,0})))))))) ?_;try with_reducible exact tt)
 ·have w:=rN i i.m.c1.pid hs q0 q1 q2
  simp only[ImgD.dv,PartD.dv,StateD.dv,CoordD.dv,GrpD.dv,List.cons_append,List.nil_append] at w
  have hw:(i.m.c1.pid == 0)=true→aY i i.m.c1.pid=[]:=fun h=>by
   have:i.m.c1.pid=0:=by simpa using h
   rw[this];exact uG q0 q1 q2
  have hL:(aY i i.m.c1.pid).length≤3:=by
   unfold aY
   cases mY i.p0 i.m.c1.pid<;>cases mY i.p1 i.m.c1.pid<;>cases mY i.p2 i.m.c1.pid<;>simp
  have ttq:dD i 1=decide (i.m.c1.parts=aY i i.m.c1.pid):=rfl
  have bad:¬ i.m.c1.parts=aY i i.m.c1.pid→(dD i 0 && (dD i 1 && dD i 2))=false:=fun h=>by
   have:dD i 1=false:=by rw[ttq];exact decide_eq_false h
   rw[this];simp
  have good:i.m.c1.parts=aY i i.m.c1.pid→dD i 1=true:=fun h=>by rw[ttq];exact decide_eq_true h
  generalize aY i i.m.c1.pid=L at *
  (refine gO (ai @ImgD.dv.eq_1 (ai @PartD.dv.eq_1 (ai @StateD.dv.eq_1 (ai @CoordD.dv.eq_1 (ai @GrpD.dv.eq_1 (ai @List.map_append.{0,0} (ai @List.map_cons.{0,0} (@List.map_nil.{0,0})))))))) ?_;try with_reducible exact tt)
  refine Wp.cond (by (refine aK ?_;try with_reducible exact tt);rfl) (fun h=>?_) (fun h=>?_)
  ·have hn:=hw h
   subst hn
   (refine aI ?_;try with_reducible exact tt)
   refine Wp.cond (by (refine aK ?_;try with_reducible exact tt);rfl) (fun h=>?_) (fun h=>?_)
   ·have e:=bad (fun q=>by rw[q] at h;simp at h)
    (refine aI ?_;try with_reducible exact tt)
    (refine rO (ai e (ai @Bool.false_eq_true (@if_false.{1}))) ?_;try with_reducible exact tt)
   ·have hp:i.m.c1.parts=[]:=by
     have:i.m.c1.parts.length=0:=by simp only[bne_eq_false_iff_eq] at h;omega
     exact List.eq_nil_of_length_eq_zero this
    have g:=good hp
    (refine aI ?_;try with_reducible exact tt)
    refine Wp.rounds 1 (aN.go ?_)
    (refine aI ?_;try with_reducible exact tt)
    refine⟨2,⟨by omega,by first|exact fun _=>g|exact z0|(intro h;omega)|exact fun _=>z0 (by omega),by first|exact fun _=>g|(intro h;omega)|exact fun _=>z1 (by omega),by first|exact fun _=>g|(intro h;omega)⟩,by omega,aD.keep rfl (by simp[aO,SV.ids,HE.ids,CV.ids,ImgD.dv,PartD.dv,StateD.dv,CoordD.dv,GrpD.dv];rfl) ?_⟩
    (refine rO (ai @ImgD.dv.eq_1 (ai @PartD.dv.eq_1 (ai @StateD.dv.eq_1 (ai @CoordD.dv.eq_1 (ai @GrpD.dv.eq_1 (ai @List.map_append.{0,0} (ai @List.map_cons.{0,0} (@List.map_nil.{0,0})))))))) ?_;try with_reducible exact tt)
  (refine aI ?_;try with_reducible exact tt)
  refine Wp.cond (by (refine aK ?_;try with_reducible exact tt);rfl) (fun h=>?_) (fun h=>?_)
  ·have e:=bad (fun q=>by rw[q] at h;simp at h)
   (refine aI ?_;try with_reducible exact tt)
   (refine rO (ai e (ai @Bool.false_eq_true (@if_false.{1}))) ?_;try with_reducible exact tt)
  have hlen:L.length=i.m.c1.parts.length:=by simp only[bne_eq_false_iff_eq] at h;omega
  clear h
  (refine aI ?_;try with_reducible exact tt)
  refine Wp.loop (fun j:Nat=>⟨dI [(1,.c (.own 0 0)),(8,vi .i64 1),(9,.c (.own 60 0)),(10,.c (.d (oQ L))),(11,vi .i64 j)],bJ [(0,.cells (i.dv.map .d)),(60,.cells (i.m.c1.dv.map .d))],80,111,0⟩) (fun j=>j≤L.length∧i.m.c1.parts.take j=L.take j) (fun j=>L.length - j) 0 ⟨Nat.zero_le _,rfl⟩ ?_ ?_
  ·refine aD.keep rfl (by simp[aO,SV.ids,HE.ids,CV.ids,ImgD.dv,PartD.dv,StateD.dv,CoordD.dv,GrpD.dv];rfl) ?_
   (refine rO (ai @ImgD.dv.eq_1 (ai @PartD.dv.eq_1 (ai @StateD.dv.eq_1 (ai @CoordD.dv.eq_1 (ai @GrpD.dv.eq_1 (ai @List.map_append.{0,0} (ai @List.map_cons.{0,0} (@List.map_nil.{0,0})))))))) ?_;try with_reducible exact tt)
  rintro j ⟨hj,hall⟩
  by_cases hlt:j<L.length
  ·have dj:decide ((j:Int)<(L.length:Int))=true:=decide_eq_true (by omega)
   have gL:L[j]? = some L[j]:=List.getElem?_eq_getElem hlt
   have gP:i.m.c1.parts[j]? = some (i.m.c1.parts[j]'(by omega)):=List.getElem?_eq_getElem (by omega)
   have hwj:IntKind.i64.wrap ((j:Int)+1)=((j+1:Nat):Int):=by rw[aG (by omega)];rfl
   have s1:=aF L j hlt
   have s2:=aF i.m.c1.parts j (by omega)
   have hne:L[j]≠i.m.c1.parts[j]'(by omega)→¬ i.m.c1.parts=L:=fun hx e=>by
    apply hx;subst e;rfl
   generalize L[j]=x at *
   generalize i.m.c1.parts[j]'(by omega)=y at *
   (refine gO (ai dj (ai gL (ai gP (ai @ImgD.dv.eq_1 (ai @PartD.dv.eq_1 (ai @StateD.dv.eq_1 (ai @CoordD.dv.eq_1 (ai @GrpD.dv.eq_1 (ai @List.map_append.{0,0} (ai @List.map_cons.{0,0} (@List.map_nil.{0,0}))))))))))) ?_;try with_reducible exact tt)
   refine Wp.cond (by (refine aK ?_;try with_reducible exact tt);rfl) (fun h=>?_) (fun h=>?_)
   ·have e:=bad (hne (by simpa using h))
    (refine aI ?_;try with_reducible exact tt)
    (refine rO (ai e (ai @Bool.false_eq_true (@if_false.{1}))) ?_;try with_reducible exact tt)
   ·have h:x=y:=by simpa using h
    (refine aI ?_;try with_reducible exact tt)
    refine⟨j+1,⟨by omega,by rw[s1,s2,hall,h]⟩,by omega,aD.keep rfl (by simp[aO,SV.ids,HE.ids,CV.ids,ImgD.dv,PartD.dv,StateD.dv,CoordD.dv,GrpD.dv];rfl) ?_⟩
    (refine rO (ai hwj (ai @ImgD.dv.eq_1 (ai @PartD.dv.eq_1 (ai @StateD.dv.eq_1 (ai @CoordD.dv.eq_1 (ai @GrpD.dv.eq_1 (ai @List.map_append.{0,0} (ai @List.map_cons.{0,0} (@List.map_nil.{0,0}))))))))) ?_;try with_reducible exact tt)
  ·have hq:i.m.c1.parts=L:=by
    rw[List.take_of_length_le (by omega),List.take_of_length_le (by omega)] at hall;exact hall
   have g:=good hq
   have dj:decide ((j:Int)<(L.length:Int))=false:=decide_eq_false (by omega)
   (refine gO (ai dj (ai @ImgD.dv.eq_1 (ai @PartD.dv.eq_1 (ai @StateD.dv.eq_1 (ai @CoordD.dv.eq_1 (ai @GrpD.dv.eq_1 (ai @List.map_append.{0,0} (ai @List.map_cons.{0,0} (@List.map_nil.{0,0}))))))))) ?_;try with_reducible exact tt)
   refine⟨2,⟨by omega,by first|exact fun _=>g|exact fun _=>z0 (by omega)|(intro h;omega),by first|exact fun _=>g|exact fun _=>z1 (by omega)|(intro h;omega),by first|exact fun _=>g|(intro h;omega)⟩,by omega,aD.keep rfl (by simp[aO,SV.ids,HE.ids,CV.ids,ImgD.dv,PartD.dv,StateD.dv,CoordD.dv,GrpD.dv];rfl) ?_⟩
   (refine rO (ai @ImgD.dv.eq_1 (ai @PartD.dv.eq_1 (ai @StateD.dv.eq_1 (ai @CoordD.dv.eq_1 (ai @GrpD.dv.eq_1 (ai @List.map_append.{0,0} (ai @List.map_cons.{0,0} (@List.map_nil.{0,0})))))))) ?_;try with_reducible exact tt)
 ·have w:=rN i i.m.c2.pid hs q0 q1 q2
  simp only[ImgD.dv,PartD.dv,StateD.dv,CoordD.dv,GrpD.dv,List.cons_append,List.nil_append] at w
  have hw:(i.m.c2.pid == 0)=true→aY i i.m.c2.pid=[]:=fun h=>by
   have:i.m.c2.pid=0:=by simpa using h
   rw[this];exact uG q0 q1 q2
  have hL:(aY i i.m.c2.pid).length≤3:=by
   unfold aY
   cases mY i.p0 i.m.c2.pid<;>cases mY i.p1 i.m.c2.pid<;>cases mY i.p2 i.m.c2.pid<;>simp
  have ttq:dD i 2=decide (i.m.c2.parts=aY i i.m.c2.pid):=rfl
  have bad:¬ i.m.c2.parts=aY i i.m.c2.pid→(dD i 0 && (dD i 1 && dD i 2))=false:=fun h=>by
   have:dD i 2=false:=by rw[ttq];exact decide_eq_false h
   rw[this];simp
  have good:i.m.c2.parts=aY i i.m.c2.pid→dD i 2=true:=fun h=>by rw[ttq];exact decide_eq_true h
  generalize aY i i.m.c2.pid=L at *
  (refine gO (ai @ImgD.dv.eq_1 (ai @PartD.dv.eq_1 (ai @StateD.dv.eq_1 (ai @CoordD.dv.eq_1 (ai @GrpD.dv.eq_1 (ai @List.map_append.{0,0} (ai @List.map_cons.{0,0} (@List.map_nil.{0,0})))))))) ?_;try with_reducible exact tt)
  refine Wp.cond (by (refine aK ?_;try with_reducible exact tt);rfl) (fun h=>?_) (fun h=>?_)
  ·have hn:=hw h
   subst hn
   (refine aI ?_;try with_reducible exact tt)
   refine Wp.cond (by (refine aK ?_;try with_reducible exact tt);rfl) (fun h=>?_) (fun h=>?_)
   ·have e:=bad (fun q=>by rw[q] at h;simp at h)
    (refine aI ?_;try with_reducible exact tt)
    (refine rO (ai e (ai @Bool.false_eq_true (@if_false.{1}))) ?_;try with_reducible exact tt)
   ·have hp:i.m.c2.parts=[]:=by
     have:i.m.c2.parts.length=0:=by simp only[bne_eq_false_iff_eq] at h;omega
     exact List.eq_nil_of_length_eq_zero this
    have g:=good hp
    (refine aI ?_;try with_reducible exact tt)
    refine Wp.rounds 1 (aN.go ?_)
    (refine aI ?_;try with_reducible exact tt)
    refine⟨3,⟨by omega,by first|exact fun _=>g|exact z0|(intro h;omega)|exact fun _=>z0 (by omega),by first|exact fun _=>g|(intro h;omega)|exact fun _=>z1 (by omega),by first|exact fun _=>g|(intro h;omega)⟩,by omega,aD.keep rfl (by simp[aO,SV.ids,HE.ids,CV.ids,ImgD.dv,PartD.dv,StateD.dv,CoordD.dv,GrpD.dv];rfl) ?_⟩
    (refine rO (ai @ImgD.dv.eq_1 (ai @PartD.dv.eq_1 (ai @StateD.dv.eq_1 (ai @CoordD.dv.eq_1 (ai @GrpD.dv.eq_1 (ai @List.map_append.{0,0} (ai @List.map_cons.{0,0} (@List.map_nil.{0,0})))))))) ?_;try with_reducible exact tt)
  (refine aI ?_;try with_reducible exact tt)
  refine Wp.cond (by (refine aK ?_;try with_reducible exact tt);rfl) (fun h=>?_) (fun h=>?_)
  ·have e:=bad (fun q=>by rw[q] at h;simp at h)
   (refine aI ?_;try with_reducible exact tt)
   (refine rO (ai e (ai @Bool.false_eq_true (@if_false.{1}))) ?_;try with_reducible exact tt)
  have hlen:L.length=i.m.c2.parts.length:=by simp only[bne_eq_false_iff_eq] at h;omega
  clear h
  (refine aI ?_;try with_reducible exact tt)
  refine Wp.loop (fun j:Nat=>⟨dI [(1,.c (.own 0 0)),(8,vi .i64 2),(9,.c (.own 60 0)),(10,.c (.d (oQ L))),(11,vi .i64 j)],bJ [(0,.cells (i.dv.map .d)),(60,.cells (i.m.c2.dv.map .d))],80,111,0⟩) (fun j=>j≤L.length∧i.m.c2.parts.take j=L.take j) (fun j=>L.length - j) 0 ⟨Nat.zero_le _,rfl⟩ ?_ ?_
  ·refine aD.keep rfl (by simp[aO,SV.ids,HE.ids,CV.ids,ImgD.dv,PartD.dv,StateD.dv,CoordD.dv,GrpD.dv];rfl) ?_
   (refine rO (ai @ImgD.dv.eq_1 (ai @PartD.dv.eq_1 (ai @StateD.dv.eq_1 (ai @CoordD.dv.eq_1 (ai @GrpD.dv.eq_1 (ai @List.map_append.{0,0} (ai @List.map_cons.{0,0} (@List.map_nil.{0,0})))))))) ?_;try with_reducible exact tt)
  rintro j ⟨hj,hall⟩
  by_cases hlt:j<L.length
  ·have dj:decide ((j:Int)<(L.length:Int))=true:=decide_eq_true (by omega)
   have gL:L[j]? = some L[j]:=List.getElem?_eq_getElem hlt
   have gP:i.m.c2.parts[j]? = some (i.m.c2.parts[j]'(by omega)):=List.getElem?_eq_getElem (by omega)
   have hwj:IntKind.i64.wrap ((j:Int)+1)=((j+1:Nat):Int):=by rw[aG (by omega)];rfl
   have s1:=aF L j hlt
   have s2:=aF i.m.c2.parts j (by omega)
   have hne:L[j]≠i.m.c2.parts[j]'(by omega)→¬ i.m.c2.parts=L:=fun hx e=>by
    apply hx;subst e;rfl
   generalize L[j]=x at *
   generalize i.m.c2.parts[j]'(by omega)=y at *
   (refine gO (ai dj (ai gL (ai gP (ai @ImgD.dv.eq_1 (ai @PartD.dv.eq_1 (ai @StateD.dv.eq_1 (ai @CoordD.dv.eq_1 (ai @GrpD.dv.eq_1 (ai @List.map_append.{0,0} (ai @List.map_cons.{0,0} (@List.map_nil.{0,0}))))))))))) ?_;try with_reducible exact tt)
   refine Wp.cond (by (refine aK ?_;try with_reducible exact tt);rfl) (fun h=>?_) (fun h=>?_)
   ·have e:=bad (hne (by simpa using h))
    (refine aI ?_;try with_reducible exact tt)
    (refine rO (ai e (ai @Bool.false_eq_true (@if_false.{1}))) ?_;try with_reducible exact tt)
   ·have h:x=y:=by simpa using h
    (refine aI ?_;try with_reducible exact tt)
    refine⟨j+1,⟨by omega,by rw[s1,s2,hall,h]⟩,by omega,aD.keep rfl (by simp[aO,SV.ids,HE.ids,CV.ids,ImgD.dv,PartD.dv,StateD.dv,CoordD.dv,GrpD.dv];rfl) ?_⟩
    (refine rO (ai hwj (ai @ImgD.dv.eq_1 (ai @PartD.dv.eq_1 (ai @StateD.dv.eq_1 (ai @CoordD.dv.eq_1 (ai @GrpD.dv.eq_1 (ai @List.map_append.{0,0} (ai @List.map_cons.{0,0} (@List.map_nil.{0,0}))))))))) ?_;try with_reducible exact tt)
  ·have hq:i.m.c2.parts=L:=by
    rw[List.take_of_length_le (by omega),List.take_of_length_le (by omega)] at hall;exact hall
   have g:=good hq
   have dj:decide ((j:Int)<(L.length:Int))=false:=decide_eq_false (by omega)
   (refine gO (ai dj (ai @ImgD.dv.eq_1 (ai @PartD.dv.eq_1 (ai @StateD.dv.eq_1 (ai @CoordD.dv.eq_1 (ai @GrpD.dv.eq_1 (ai @List.map_append.{0,0} (ai @List.map_cons.{0,0} (@List.map_nil.{0,0}))))))))) ?_;try with_reducible exact tt)
   refine⟨3,⟨by omega,by first|exact fun _=>g|exact fun _=>z0 (by omega)|(intro h;omega),by first|exact fun _=>g|exact fun _=>z1 (by omega)|(intro h;omega),by first|exact fun _=>g|(intro h;omega)⟩,by omega,aD.keep rfl (by simp[aO,SV.ids,HE.ids,CV.ids,ImgD.dv,PartD.dv,StateD.dv,CoordD.dv,GrpD.dv];rfl) ?_⟩
   (refine rO (ai @ImgD.dv.eq_1 (ai @PartD.dv.eq_1 (ai @StateD.dv.eq_1 (ai @CoordD.dv.eq_1 (ai @GrpD.dv.eq_1 (ai @List.map_append.{0,0} (ai @List.map_cons.{0,0} (@List.map_nil.{0,0})))))))) ?_;try with_reducible exact tt)
 ·have e:(dD i 0 && (dD i 1 && dD i 2))=true:=by rw[z0 (by omega),z1 (by omega),z2 (by omega)];rfl
  (refine aI ?_;try with_reducible exact tt)
  (refine rO (ai e (@if_true.{1})) ?_;try with_reducible exact tt)
end Go.Proofs.YtkmfmphpndhkjaaGreatDoor
