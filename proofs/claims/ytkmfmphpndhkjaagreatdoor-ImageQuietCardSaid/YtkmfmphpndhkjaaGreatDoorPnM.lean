/- The abstract machine (PnI, PnJ, PnK). -/
import Derived.Test.YtkmfmphpndhkjaaGreatDoorMtC
import Derived.Test.YtkmfmphpndhkjaaGreatDoorEnM
namespace Go.Proofs.YtkmfmphpndhkjaaGreatDoor
open Go Go.RowKit
set_option maxHeartbeats 16000000
set_option maxRecDepth 100000
set_option linter.unusedVariables false
set_option linter.unusedSimpArgs false
structure SmallI (i:ImgD):Prop where
 p0:SmallP i.p0
 p1:SmallP i.p1
 p2:SmallP i.p2
 m:SmallS i.m
theorem xQ (i:ImgD) (pid:Int) (hs:SmallI i):aJ Tryz.prog 77 [.agg i.dv,int pid] (oQ (aY i pid)):=by
 have c0:=aF2 i.p0 pid hs.p0
 have c1:=aF2 i.p1 pid hs.p1
 have c2:=aF2 i.p2 pid hs.p2
 simp only[PartD.dv,OpenD.dv] at c0 c1 c2
 (refine aJ.of_bodyW Tryz.func77 rfl rfl Tryz.ntmps77 Tryz.results77 (by simp) ?_)
 (refine gO (ai @ImgD.dv.eq_1 (ai @PartD.dv.eq_1 (ai @StateD.dv.eq_1 (ai @CoordD.dv.eq_1 (@GrpD.dv.eq_1))))) ?_;try with_reducible exact tt)
 refine Wp.rounds 4 (aN.go ?_)
 cases h0:mY i.p0 pid<;>rw[h0] at c0<;>cases h1:mY i.p1 pid<;>rw[h1] at c1<;>cases h2:mY i.p2 pid<;>rw[h2] at c2
 ·have e:aY i pid=[]:=by unfold aY;rw[h0,h1,h2];rfl
  rw[e]
  (refine aI ?_;try with_reducible exact tt)
  (refine aK ?_;try with_reducible exact tt)
  exact⟨_,rfl,jA.nil 1⟩
 ·have e:aY i pid=[2]:=by unfold aY;rw[h0,h1,h2];rfl
  rw[e]
  (refine aI ?_;try with_reducible exact tt)
  (refine aK ?_;try with_reducible exact tt)
  exact⟨_,rfl,fun K v h=>h⟩
 ·have e:aY i pid=[1]:=by unfold aY;rw[h0,h1,h2];rfl
  rw[e]
  (refine aI ?_;try with_reducible exact tt)
  (refine aK ?_;try with_reducible exact tt)
  exact⟨_,rfl,fun K v h=>h⟩
 ·have e:aY i pid=[1,2]:=by unfold aY;rw[h0,h1,h2];rfl
  rw[e]
  (refine aI ?_;try with_reducible exact tt)
  (refine aK ?_;try with_reducible exact tt)
  exact⟨_,rfl,fun K v h=>h⟩
 ·have e:aY i pid=[0]:=by unfold aY;rw[h0,h1,h2];rfl
  rw[e]
  (refine aI ?_;try with_reducible exact tt)
  (refine aK ?_;try with_reducible exact tt)
  exact⟨_,rfl,fun K v h=>h⟩
 ·have e:aY i pid=[0,2]:=by unfold aY;rw[h0,h1,h2];rfl
  rw[e]
  (refine aI ?_;try with_reducible exact tt)
  (refine aK ?_;try with_reducible exact tt)
  exact⟨_,rfl,fun K v h=>h⟩
 ·have e:aY i pid=[0,1]:=by unfold aY;rw[h0,h1,h2];rfl
  rw[e]
  (refine aI ?_;try with_reducible exact tt)
  (refine aK ?_;try with_reducible exact tt)
  exact⟨_,rfl,fun K v h=>h⟩
 ·have e:aY i pid=[0,1,2]:=by unfold aY;rw[h0,h1,h2];rfl
  rw[e]
  (refine aI ?_;try with_reducible exact tt)
  (refine aK ?_;try with_reducible exact tt)
  exact⟨_,rfl,fun K v h=>h⟩
theorem aB9 (i:ImgD) (hs:SmallI i):aJ Tryz.prog 44 [.agg i.dv] (dC (bE i.p0 && (bE i.p1 && bE i.p2))):=by
 have c0:=pC i.p0 hs.p0
 have c1:=pC i.p1 hs.p1
 have c2:=pC i.p2 hs.p2
 simp only[PartD.dv] at c0 c1 c2
 (refine aJ.of_body Tryz.func44 rfl rfl Tryz.ntmps44 Tryz.results44 (by simp) ?_)
 (refine gO (ai @ImgD.dv.eq_1 (ai @PartD.dv.eq_1 (ai @StateD.dv.eq_1 (ai @CoordD.dv.eq_1 (@GrpD.dv.eq_1))))) ?_;try with_reducible exact tt)
 refine Wp.rounds 4 (aN.go ?_)
 cases h0:bE i.p0 with
 | false =>
  rw[h0] at c0
  simp only[Bool.false_eq_true,if_false] at c0
  (refine aI ?_;try with_reducible exact tt)
  (refine aK ?_;try with_reducible exact tt)
 | true =>
 rw[h0,if_pos rfl] at c0
 cases h1:bE i.p1 with
 | false =>
  rw[h1] at c1
  simp only[Bool.false_eq_true,if_false] at c1
  (refine aI ?_;try with_reducible exact tt)
  (refine aK ?_;try with_reducible exact tt)
 | true =>
 rw[h1,if_pos rfl] at c1
 cases h2:bE i.p2 with
 | false =>
  rw[h2] at c2
  simp only[Bool.false_eq_true,if_false] at c2
  (refine aI ?_;try with_reducible exact tt)
  (refine aK ?_;try with_reducible exact tt)
 | true =>
  rw[h2,if_pos rfl] at c2
  (refine aI ?_;try with_reducible exact tt)
  (refine aK ?_;try with_reducible exact tt)
theorem xJ (s:StateD) (pid:Int):(nG s pid).1=0∨(nG s pid).1=1∨(nG s pid).1=2:=by
 unfold nG
 split
 ·exact .inl rfl
 split
 ·exact .inl rfl
 split
 ·exact .inr (.inl rfl)
 split
 ·exact .inr (.inr rfl)
 ·exact .inl rfl
theorem sI (i:ImgD) (o:OpenD) {tid:Nat} {ok:Bool} (h:nG i.m o.pid=(tid,ok)):cH i o = !(!ok || ((i.m.c tid).epoch != o.epoch)):=by
 unfold cH
 rw[h]
 simp only
 cases ok<;>simp[bne]
def dT (i:ImgD):Bool:=dD i 0 && (dD i 1 && (dD i 2 && (i.p0.opens.all (cH i) && (i.p1.opens.all (cH i) && i.p2.opens.all (cH i)))))
theorem aNr (i:ImgD):dT i=nS i:=by
 unfold dT nS
 simp only[Bool.and_assoc]
theorem aNs (i:ImgD) (hs:SmallI i):aJ Tryz.prog 45 [.agg i.dv] (dC (nS i)):=by
 have c0:=xQ i i.m.c0.pid hs
 have c1:=xQ i i.m.c1.pid hs
 have c2:=xQ i i.m.c2.pid hs
 have e0:=lV i.m.c0.parts (aY i i.m.c0.pid) (by have:=hs.m.c0.parts;omega)
 have e1:=lV i.m.c1.parts (aY i i.m.c1.pid) (by have:=hs.m.c1.parts;omega)
 have e2:=lV i.m.c2.parts (aY i i.m.c2.pid) (by have:=hs.m.c2.parts;omega)
 have co:∀ pid,aJ Tryz.prog 78 [.agg i.m.dv,int pid] (.tup [int ((nG i.m pid).1:Nat),dC (nG i.m pid).2]):=fun pid=>aUt i.m pid
 simp only[ImgD.dv,PartD.dv,StateD.dv,CoordD.dv,GrpD.dv,List.cons_append,List.nil_append] at c0 c1 c2 co
 rw[← aNr]
 (refine aJ.of_body Tryz.func45 rfl rfl Tryz.ntmps45 Tryz.results45 (by simp) ?_)
 (refine gO (ai @ImgD.dv.eq_1 (ai @PartD.dv.eq_1 (ai @StateD.dv.eq_1 (ai @CoordD.dv.eq_1 (@GrpD.dv.eq_1))))) ?_;try with_reducible exact tt)
 refine Wp.rounds 4 (aN.go ?_)
 have t0:dD i 0=decide (i.m.c0.parts=aY i i.m.c0.pid):=rfl
 cases h0:decide (i.m.c0.parts=aY i i.m.c0.pid) with
 | false =>
  rw[h0] at e0
  rw[h0] at t0
  have e:dT i=false:=by unfold dT;rw[t0];rfl
  (refine aI ?_;try with_reducible exact tt)
  (refine rO (e) ?_;try with_reducible exact tt)
 | true =>
 rw[h0] at e0
 rw[h0] at t0
 have t1:dD i 1=decide (i.m.c1.parts=aY i i.m.c1.pid):=rfl
 cases h1:decide (i.m.c1.parts=aY i i.m.c1.pid) with
 | false =>
  rw[h1] at e1
  rw[h1] at t1
  have e:dT i=false:=by unfold dT;rw[t0,t1];rfl
  (refine aI ?_;try with_reducible exact tt)
  (refine rO (e) ?_;try with_reducible exact tt)
 | true =>
 rw[h1] at e1
 rw[h1] at t1
 have t2:dD i 2=decide (i.m.c2.parts=aY i i.m.c2.pid):=rfl
 cases h2:decide (i.m.c2.parts=aY i i.m.c2.pid) with
 | false =>
  rw[h2] at e2
  rw[h2] at t2
  have e:dT i=false:=by unfold dT;rw[t0,t1,t2];rfl
  (refine aI ?_;try with_reducible exact tt)
  (refine rO (e) ?_;try with_reducible exact tt)
 | true =>
 rw[h2] at e2
 rw[h2] at t2
 (refine aI ?_;try with_reducible exact tt)
 refine Wp.rounds 4 (aN.go ?_)
 (refine aI ?_;try with_reducible exact tt)
 have hl0:=hs.p0.opens
 refine Wp.loop (fun k:Nat=>⟨dI [(1,.c (.own 0 0)),(27,.agg ((i.p0.dv++(i.p1.dv++i.p2.dv)).map .d)),(28,vi .i64 0),(32,.c (.d (.lst 3 (i.p0.opens.map OpenD.dv)))),(33,vi .i64 i.p0.opens.length),(34,vi .i64 k)],bJ [(0,.cells (i.dv.map .d))],20,61,0⟩) (fun k=>k≤i.p0.opens.length∧(i.p0.opens.take k).all (cH i)=true) (fun k=>i.p0.opens.length - k) 0 ⟨Nat.zero_le _,rfl⟩ ?_ ?_
 ·refine aD.keep rfl (by simp[aO,SV.ids,HE.ids,CV.ids,ImgD.dv,PartD.dv,StateD.dv,CoordD.dv,GrpD.dv];rfl) ?_
  (refine rO (ai @ImgD.dv.eq_1 (ai @PartD.dv.eq_1 (ai @StateD.dv.eq_1 (ai @CoordD.dv.eq_1 (ai @GrpD.dv.eq_1 (ai @List.map_append.{0,0} (ai @List.map_cons.{0,0} (@List.map_nil.{0,0})))))))) ?_;try with_reducible exact tt)
 rintro k ⟨hk,hall⟩
 by_cases hlt:k<i.p0.opens.length
 ·have dk:decide ((k:Int)<(i.p0.opens.length:Int))=true:=decide_eq_true (by omega)
  have g1:i.p0.opens[k]? = some i.p0.opens[k]:=List.getElem?_eq_getElem hlt
  have hwk:IntKind.i64.wrap ((k:Int)+1)=((k+1:Nat):Int):=by rw[aG (by omega)];rfl
  have hsn:=eC (cH i) i.p0.opens k hlt
  have hmem:=List.getElem_mem hlt
  generalize i.p0.opens[k]=o at *
  have c5:=co o.pid
  have hcase:=xJ i.m o.pid
  obtain⟨tid,ok,hto⟩:∃ tid ok,nG i.m o.pid=(tid,ok):=⟨_,_,rfl⟩
  have hown:=sI i o hto
  rw[hto] at c5 hcase
  simp only at c5 hcase
  have hbad:(!ok || ((i.m.c tid).epoch != o.epoch))=true→i.p0.opens.all (cH i)=false:=fun hb=>by
   rw[List.all_eq_false];exact⟨o,hmem,by rw[hown,hb];simp⟩
  rcases hcase with rfl|rfl|rfl
  ·have hb:(!ok || (i.m.c0.epoch != o.epoch))=true→i.p0.opens.all (cH i)=false:=hbad
   have hown:cH i o = !(!ok || (i.m.c0.epoch != o.epoch)):=hown
   (refine gO (ai dk (ai g1 (ai @ImgD.dv.eq_1 (ai @PartD.dv.eq_1 (ai @StateD.dv.eq_1 (ai @CoordD.dv.eq_1 (ai @GrpD.dv.eq_1 (@OpenD.dv.eq_1)))))))) ?_;try with_reducible exact tt)
   (first|refine Wp.stoD 58 (vb (!ok || (i.m.c0.epoch != o.epoch))) aA ?_ ?_|refine Wp.rtoDS 58 (vb (!ok || (i.m.c0.epoch != o.epoch))) aA ?_ ?_|(refine Wp.seq ?_;first|refine Wp.stoD 58 (vb (!ok || (i.m.c0.epoch != o.epoch))) aA ?_ ?_|refine Wp.rtoDS 58 (vb (!ok || (i.m.c0.epoch != o.epoch))) aA ?_ ?_))
   ·((rcases Bool.eq_false_or_eq_true (!ok) with hL1|hL1)<;>(rcases Bool.eq_false_or_eq_true (i.m.c0.epoch != o.epoch) with hL2|hL2)<;>(((refine rO (ai hL1 (ai hL2 (ai @ImgD.dv.eq_1 (ai @PartD.dv.eq_1 (ai @StateD.dv.eq_1 (ai @CoordD.dv.eq_1 (ai @GrpD.dv.eq_1 (@OpenD.dv.eq_1)))))))) ?_;try with_reducible exact tt);(repeat (refine aQ (by assumption) ?_;(refine rO (ai hL1 (ai hL2 (ai @ImgD.dv.eq_1 (ai @PartD.dv.eq_1 (ai @StateD.dv.eq_1 (ai @CoordD.dv.eq_1 (ai @GrpD.dv.eq_1 (@OpenD.dv.eq_1)))))))) ?_;try with_reducible exact tt))));all_goals (exact (show aH _ _=true by kernel_rfl))))
   refine Wp.cond (by (refine aK ?_;try with_reducible exact tt);rfl) (fun h=>?_) (fun h=>?_)
   ·have e:dT i=false:=by unfold dT;rw[t0,t1,t2,hb h];rfl
    (refine aI ?_;try with_reducible exact tt)
    (refine rO (e) ?_;try with_reducible exact tt)
   ·(refine aI ?_;try with_reducible exact tt)
    refine⟨k+1,⟨by omega,by rw[hsn,hall,hown,h];rfl⟩,by omega,aD.keep rfl (by simp[aO,SV.ids,HE.ids,CV.ids,ImgD.dv,PartD.dv,StateD.dv,CoordD.dv,GrpD.dv];rfl) ?_⟩
    (refine rO (ai hwk (ai @ImgD.dv.eq_1 (ai @PartD.dv.eq_1 (ai @StateD.dv.eq_1 (ai @CoordD.dv.eq_1 (ai @GrpD.dv.eq_1 (ai @List.map_append.{0,0} (ai @List.map_cons.{0,0} (@List.map_nil.{0,0}))))))))) ?_;try with_reducible exact tt)
  ·have hb:(!ok || (i.m.c1.epoch != o.epoch))=true→i.p0.opens.all (cH i)=false:=hbad
   have hown:cH i o = !(!ok || (i.m.c1.epoch != o.epoch)):=hown
   (refine gO (ai dk (ai g1 (ai @ImgD.dv.eq_1 (ai @PartD.dv.eq_1 (ai @StateD.dv.eq_1 (ai @CoordD.dv.eq_1 (ai @GrpD.dv.eq_1 (@OpenD.dv.eq_1)))))))) ?_;try with_reducible exact tt)
   (first|refine Wp.stoD 58 (vb (!ok || (i.m.c1.epoch != o.epoch))) aA ?_ ?_|refine Wp.rtoDS 58 (vb (!ok || (i.m.c1.epoch != o.epoch))) aA ?_ ?_|(refine Wp.seq ?_;first|refine Wp.stoD 58 (vb (!ok || (i.m.c1.epoch != o.epoch))) aA ?_ ?_|refine Wp.rtoDS 58 (vb (!ok || (i.m.c1.epoch != o.epoch))) aA ?_ ?_))
   ·((rcases Bool.eq_false_or_eq_true (!ok) with hL1|hL1)<;>(rcases Bool.eq_false_or_eq_true (i.m.c1.epoch != o.epoch) with hL2|hL2)<;>(((refine rO (ai hL1 (ai hL2 (ai @ImgD.dv.eq_1 (ai @PartD.dv.eq_1 (ai @StateD.dv.eq_1 (ai @CoordD.dv.eq_1 (ai @GrpD.dv.eq_1 (@OpenD.dv.eq_1)))))))) ?_;try with_reducible exact tt);(repeat (refine aQ (by assumption) ?_;(refine rO (ai hL1 (ai hL2 (ai @ImgD.dv.eq_1 (ai @PartD.dv.eq_1 (ai @StateD.dv.eq_1 (ai @CoordD.dv.eq_1 (ai @GrpD.dv.eq_1 (@OpenD.dv.eq_1)))))))) ?_;try with_reducible exact tt))));all_goals (exact (show aH _ _=true by kernel_rfl))))
   refine Wp.cond (by (refine aK ?_;try with_reducible exact tt);rfl) (fun h=>?_) (fun h=>?_)
   ·have e:dT i=false:=by unfold dT;rw[t0,t1,t2,hb h];rfl
    (refine aI ?_;try with_reducible exact tt)
    (refine rO (e) ?_;try with_reducible exact tt)
   ·(refine aI ?_;try with_reducible exact tt)
    refine⟨k+1,⟨by omega,by rw[hsn,hall,hown,h];rfl⟩,by omega,aD.keep rfl (by simp[aO,SV.ids,HE.ids,CV.ids,ImgD.dv,PartD.dv,StateD.dv,CoordD.dv,GrpD.dv];rfl) ?_⟩
    (refine rO (ai hwk (ai @ImgD.dv.eq_1 (ai @PartD.dv.eq_1 (ai @StateD.dv.eq_1 (ai @CoordD.dv.eq_1 (ai @GrpD.dv.eq_1 (ai @List.map_append.{0,0} (ai @List.map_cons.{0,0} (@List.map_nil.{0,0}))))))))) ?_;try with_reducible exact tt)
  ·have hb:(!ok || (i.m.c2.epoch != o.epoch))=true→i.p0.opens.all (cH i)=false:=hbad
   have hown:cH i o = !(!ok || (i.m.c2.epoch != o.epoch)):=hown
   (refine gO (ai dk (ai g1 (ai @ImgD.dv.eq_1 (ai @PartD.dv.eq_1 (ai @StateD.dv.eq_1 (ai @CoordD.dv.eq_1 (ai @GrpD.dv.eq_1 (@OpenD.dv.eq_1)))))))) ?_;try with_reducible exact tt)
   (first|refine Wp.stoD 58 (vb (!ok || (i.m.c2.epoch != o.epoch))) aA ?_ ?_|refine Wp.rtoDS 58 (vb (!ok || (i.m.c2.epoch != o.epoch))) aA ?_ ?_|(refine Wp.seq ?_;first|refine Wp.stoD 58 (vb (!ok || (i.m.c2.epoch != o.epoch))) aA ?_ ?_|refine Wp.rtoDS 58 (vb (!ok || (i.m.c2.epoch != o.epoch))) aA ?_ ?_))
   ·((rcases Bool.eq_false_or_eq_true (!ok) with hL1|hL1)<;>(rcases Bool.eq_false_or_eq_true (i.m.c2.epoch != o.epoch) with hL2|hL2)<;>(((refine rO (ai hL1 (ai hL2 (ai @ImgD.dv.eq_1 (ai @PartD.dv.eq_1 (ai @StateD.dv.eq_1 (ai @CoordD.dv.eq_1 (ai @GrpD.dv.eq_1 (@OpenD.dv.eq_1)))))))) ?_;try with_reducible exact tt);(repeat (refine aQ (by assumption) ?_;(refine rO (ai hL1 (ai hL2 (ai @ImgD.dv.eq_1 (ai @PartD.dv.eq_1 (ai @StateD.dv.eq_1 (ai @CoordD.dv.eq_1 (ai @GrpD.dv.eq_1 (@OpenD.dv.eq_1)))))))) ?_;try with_reducible exact tt))));all_goals (exact (show aH _ _=true by kernel_rfl))))
   refine Wp.cond (by (refine aK ?_;try with_reducible exact tt);rfl) (fun h=>?_) (fun h=>?_)
   ·have e:dT i=false:=by unfold dT;rw[t0,t1,t2,hb h];rfl
    (refine aI ?_;try with_reducible exact tt)
    (refine rO (e) ?_;try with_reducible exact tt)
   ·(refine aI ?_;try with_reducible exact tt)
    refine⟨k+1,⟨by omega,by rw[hsn,hall,hown,h];rfl⟩,by omega,aD.keep rfl (by simp[aO,SV.ids,HE.ids,CV.ids,ImgD.dv,PartD.dv,StateD.dv,CoordD.dv,GrpD.dv];rfl) ?_⟩
    (refine rO (ai hwk (ai @ImgD.dv.eq_1 (ai @PartD.dv.eq_1 (ai @StateD.dv.eq_1 (ai @CoordD.dv.eq_1 (ai @GrpD.dv.eq_1 (ai @List.map_append.{0,0} (ai @List.map_cons.{0,0} (@List.map_nil.{0,0}))))))))) ?_;try with_reducible exact tt)
 have a0:i.p0.opens.all (cH i)=true:=by rw[List.take_of_length_le (by omega)] at hall;exact hall
 have d0:decide ((k:Int)<(i.p0.opens.length:Int))=false:=decide_eq_false (by omega)
 clear hall hlt hk
 (refine gO (ai d0 (ai @PartD.dv.eq_1 (ai @List.map_append.{0,0} (ai @List.map_cons.{0,0} (@List.map_nil.{0,0}))))) ?_;try with_reducible exact tt)
 have hl1:=hs.p1.opens
 refine Wp.loop (fun k:Nat=>⟨dI [(1,.c (.own 0 0)),(27,.agg ((i.p0.dv++(i.p1.dv++i.p2.dv)).map .d)),(28,vi .i64 1),(32,.c (.d (.lst 3 (i.p1.opens.map OpenD.dv)))),(33,vi .i64 i.p1.opens.length),(34,vi .i64 k)],bJ [(0,.cells (i.dv.map .d))],20,61,0⟩) (fun k=>k≤i.p1.opens.length∧(i.p1.opens.take k).all (cH i)=true) (fun k=>i.p1.opens.length - k) 0 ⟨Nat.zero_le _,rfl⟩ ?_ ?_
 ·refine aD.keep rfl (by simp[aO,SV.ids,HE.ids,CV.ids,ImgD.dv,PartD.dv,StateD.dv,CoordD.dv,GrpD.dv];rfl) ?_
  (refine rO (ai @ImgD.dv.eq_1 (ai @PartD.dv.eq_1 (ai @StateD.dv.eq_1 (ai @CoordD.dv.eq_1 (ai @GrpD.dv.eq_1 (ai @List.map_append.{0,0} (ai @List.map_cons.{0,0} (@List.map_nil.{0,0})))))))) ?_;try with_reducible exact tt)
 rintro k ⟨hk,hall⟩
 by_cases hlt:k<i.p1.opens.length
 ·have dk:decide ((k:Int)<(i.p1.opens.length:Int))=true:=decide_eq_true (by omega)
  have g1:i.p1.opens[k]? = some i.p1.opens[k]:=List.getElem?_eq_getElem hlt
  have hwk:IntKind.i64.wrap ((k:Int)+1)=((k+1:Nat):Int):=by rw[aG (by omega)];rfl
  have hsn:=eC (cH i) i.p1.opens k hlt
  have hmem:=List.getElem_mem hlt
  generalize i.p1.opens[k]=o at *
  have c5:=co o.pid
  have hcase:=xJ i.m o.pid
  obtain⟨tid,ok,hto⟩:∃ tid ok,nG i.m o.pid=(tid,ok):=⟨_,_,rfl⟩
  have hown:=sI i o hto
  rw[hto] at c5 hcase
  simp only at c5 hcase
  have hbad:(!ok || ((i.m.c tid).epoch != o.epoch))=true→i.p1.opens.all (cH i)=false:=fun hb=>by
   rw[List.all_eq_false];exact⟨o,hmem,by rw[hown,hb];simp⟩
  rcases hcase with rfl|rfl|rfl
  ·have hb:(!ok || (i.m.c0.epoch != o.epoch))=true→i.p1.opens.all (cH i)=false:=hbad
   have hown:cH i o = !(!ok || (i.m.c0.epoch != o.epoch)):=hown
   (refine gO (ai dk (ai g1 (ai @ImgD.dv.eq_1 (ai @PartD.dv.eq_1 (ai @StateD.dv.eq_1 (ai @CoordD.dv.eq_1 (ai @GrpD.dv.eq_1 (@OpenD.dv.eq_1)))))))) ?_;try with_reducible exact tt)
   (first|refine Wp.stoD 58 (vb (!ok || (i.m.c0.epoch != o.epoch))) aA ?_ ?_|refine Wp.rtoDS 58 (vb (!ok || (i.m.c0.epoch != o.epoch))) aA ?_ ?_|(refine Wp.seq ?_;first|refine Wp.stoD 58 (vb (!ok || (i.m.c0.epoch != o.epoch))) aA ?_ ?_|refine Wp.rtoDS 58 (vb (!ok || (i.m.c0.epoch != o.epoch))) aA ?_ ?_))
   ·((rcases Bool.eq_false_or_eq_true (!ok) with hL1|hL1)<;>(rcases Bool.eq_false_or_eq_true (i.m.c0.epoch != o.epoch) with hL2|hL2)<;>(((refine rO (ai hL1 (ai hL2 (ai @ImgD.dv.eq_1 (ai @PartD.dv.eq_1 (ai @StateD.dv.eq_1 (ai @CoordD.dv.eq_1 (ai @GrpD.dv.eq_1 (@OpenD.dv.eq_1)))))))) ?_;try with_reducible exact tt);(repeat (refine aQ (by assumption) ?_;(refine rO (ai hL1 (ai hL2 (ai @ImgD.dv.eq_1 (ai @PartD.dv.eq_1 (ai @StateD.dv.eq_1 (ai @CoordD.dv.eq_1 (ai @GrpD.dv.eq_1 (@OpenD.dv.eq_1)))))))) ?_;try with_reducible exact tt))));all_goals (exact (show aH _ _=true by kernel_rfl))))
   refine Wp.cond (by (refine aK ?_;try with_reducible exact tt);rfl) (fun h=>?_) (fun h=>?_)
   ·have e:dT i=false:=by unfold dT;rw[t0,t1,t2,a0,hb h];rfl
    (refine aI ?_;try with_reducible exact tt)
    (refine rO (e) ?_;try with_reducible exact tt)
   ·(refine aI ?_;try with_reducible exact tt)
    refine⟨k+1,⟨by omega,by rw[hsn,hall,hown,h];rfl⟩,by omega,aD.keep rfl (by simp[aO,SV.ids,HE.ids,CV.ids,ImgD.dv,PartD.dv,StateD.dv,CoordD.dv,GrpD.dv];rfl) ?_⟩
    (refine rO (ai hwk (ai @ImgD.dv.eq_1 (ai @PartD.dv.eq_1 (ai @StateD.dv.eq_1 (ai @CoordD.dv.eq_1 (ai @GrpD.dv.eq_1 (ai @List.map_append.{0,0} (ai @List.map_cons.{0,0} (@List.map_nil.{0,0}))))))))) ?_;try with_reducible exact tt)
  ·have hb:(!ok || (i.m.c1.epoch != o.epoch))=true→i.p1.opens.all (cH i)=false:=hbad
   have hown:cH i o = !(!ok || (i.m.c1.epoch != o.epoch)):=hown
   (refine gO (ai dk (ai g1 (ai @ImgD.dv.eq_1 (ai @PartD.dv.eq_1 (ai @StateD.dv.eq_1 (ai @CoordD.dv.eq_1 (ai @GrpD.dv.eq_1 (@OpenD.dv.eq_1)))))))) ?_;try with_reducible exact tt)
   (first|refine Wp.stoD 58 (vb (!ok || (i.m.c1.epoch != o.epoch))) aA ?_ ?_|refine Wp.rtoDS 58 (vb (!ok || (i.m.c1.epoch != o.epoch))) aA ?_ ?_|(refine Wp.seq ?_;first|refine Wp.stoD 58 (vb (!ok || (i.m.c1.epoch != o.epoch))) aA ?_ ?_|refine Wp.rtoDS 58 (vb (!ok || (i.m.c1.epoch != o.epoch))) aA ?_ ?_))
   ·((rcases Bool.eq_false_or_eq_true (!ok) with hL1|hL1)<;>(rcases Bool.eq_false_or_eq_true (i.m.c1.epoch != o.epoch) with hL2|hL2)<;>(((refine rO (ai hL1 (ai hL2 (ai @ImgD.dv.eq_1 (ai @PartD.dv.eq_1 (ai @StateD.dv.eq_1 (ai @CoordD.dv.eq_1 (ai @GrpD.dv.eq_1 (@OpenD.dv.eq_1)))))))) ?_;try with_reducible exact tt);(repeat (refine aQ (by assumption) ?_;(refine rO (ai hL1 (ai hL2 (ai @ImgD.dv.eq_1 (ai @PartD.dv.eq_1 (ai @StateD.dv.eq_1 (ai @CoordD.dv.eq_1 (ai @GrpD.dv.eq_1 (@OpenD.dv.eq_1)))))))) ?_;try with_reducible exact tt))));all_goals (exact (show aH _ _=true by kernel_rfl))))
   refine Wp.cond (by (refine aK ?_;try with_reducible exact tt);rfl) (fun h=>?_) (fun h=>?_)
   ·have e:dT i=false:=by unfold dT;rw[t0,t1,t2,a0,hb h];rfl
    (refine aI ?_;try with_reducible exact tt)
    (refine rO (e) ?_;try with_reducible exact tt)
   ·(refine aI ?_;try with_reducible exact tt)
    refine⟨k+1,⟨by omega,by rw[hsn,hall,hown,h];rfl⟩,by omega,aD.keep rfl (by simp[aO,SV.ids,HE.ids,CV.ids,ImgD.dv,PartD.dv,StateD.dv,CoordD.dv,GrpD.dv];rfl) ?_⟩
    (refine rO (ai hwk (ai @ImgD.dv.eq_1 (ai @PartD.dv.eq_1 (ai @StateD.dv.eq_1 (ai @CoordD.dv.eq_1 (ai @GrpD.dv.eq_1 (ai @List.map_append.{0,0} (ai @List.map_cons.{0,0} (@List.map_nil.{0,0}))))))))) ?_;try with_reducible exact tt)
  ·have hb:(!ok || (i.m.c2.epoch != o.epoch))=true→i.p1.opens.all (cH i)=false:=hbad
   have hown:cH i o = !(!ok || (i.m.c2.epoch != o.epoch)):=hown
   (refine gO (ai dk (ai g1 (ai @ImgD.dv.eq_1 (ai @PartD.dv.eq_1 (ai @StateD.dv.eq_1 (ai @CoordD.dv.eq_1 (ai @GrpD.dv.eq_1 (@OpenD.dv.eq_1)))))))) ?_;try with_reducible exact tt)
   (first|refine Wp.stoD 58 (vb (!ok || (i.m.c2.epoch != o.epoch))) aA ?_ ?_|refine Wp.rtoDS 58 (vb (!ok || (i.m.c2.epoch != o.epoch))) aA ?_ ?_|(refine Wp.seq ?_;first|refine Wp.stoD 58 (vb (!ok || (i.m.c2.epoch != o.epoch))) aA ?_ ?_|refine Wp.rtoDS 58 (vb (!ok || (i.m.c2.epoch != o.epoch))) aA ?_ ?_))
   ·((rcases Bool.eq_false_or_eq_true (!ok) with hL1|hL1)<;>(rcases Bool.eq_false_or_eq_true (i.m.c2.epoch != o.epoch) with hL2|hL2)<;>(((refine rO (ai hL1 (ai hL2 (ai @ImgD.dv.eq_1 (ai @PartD.dv.eq_1 (ai @StateD.dv.eq_1 (ai @CoordD.dv.eq_1 (ai @GrpD.dv.eq_1 (@OpenD.dv.eq_1)))))))) ?_;try with_reducible exact tt);(repeat (refine aQ (by assumption) ?_;(refine rO (ai hL1 (ai hL2 (ai @ImgD.dv.eq_1 (ai @PartD.dv.eq_1 (ai @StateD.dv.eq_1 (ai @CoordD.dv.eq_1 (ai @GrpD.dv.eq_1 (@OpenD.dv.eq_1)))))))) ?_;try with_reducible exact tt))));all_goals (exact (show aH _ _=true by kernel_rfl))))
   refine Wp.cond (by (refine aK ?_;try with_reducible exact tt);rfl) (fun h=>?_) (fun h=>?_)
   ·have e:dT i=false:=by unfold dT;rw[t0,t1,t2,a0,hb h];rfl
    (refine aI ?_;try with_reducible exact tt)
    (refine rO (e) ?_;try with_reducible exact tt)
   ·(refine aI ?_;try with_reducible exact tt)
    refine⟨k+1,⟨by omega,by rw[hsn,hall,hown,h];rfl⟩,by omega,aD.keep rfl (by simp[aO,SV.ids,HE.ids,CV.ids,ImgD.dv,PartD.dv,StateD.dv,CoordD.dv,GrpD.dv];rfl) ?_⟩
    (refine rO (ai hwk (ai @ImgD.dv.eq_1 (ai @PartD.dv.eq_1 (ai @StateD.dv.eq_1 (ai @CoordD.dv.eq_1 (ai @GrpD.dv.eq_1 (ai @List.map_append.{0,0} (ai @List.map_cons.{0,0} (@List.map_nil.{0,0}))))))))) ?_;try with_reducible exact tt)
 have a1:i.p1.opens.all (cH i)=true:=by rw[List.take_of_length_le (by omega)] at hall;exact hall
 have d1:decide ((k:Int)<(i.p1.opens.length:Int))=false:=decide_eq_false (by omega)
 clear hall hlt hk
 (refine gO (ai d1 (ai @PartD.dv.eq_1 (ai @List.map_append.{0,0} (ai @List.map_cons.{0,0} (@List.map_nil.{0,0}))))) ?_;try with_reducible exact tt)
 have hl2:=hs.p2.opens
 refine Wp.loop (fun k:Nat=>⟨dI [(1,.c (.own 0 0)),(27,.agg ((i.p0.dv++(i.p1.dv++i.p2.dv)).map .d)),(28,vi .i64 2),(32,.c (.d (.lst 3 (i.p2.opens.map OpenD.dv)))),(33,vi .i64 i.p2.opens.length),(34,vi .i64 k)],bJ [(0,.cells (i.dv.map .d))],20,61,0⟩) (fun k=>k≤i.p2.opens.length∧(i.p2.opens.take k).all (cH i)=true) (fun k=>i.p2.opens.length - k) 0 ⟨Nat.zero_le _,rfl⟩ ?_ ?_
 ·refine aD.keep rfl (by simp[aO,SV.ids,HE.ids,CV.ids,ImgD.dv,PartD.dv,StateD.dv,CoordD.dv,GrpD.dv];rfl) ?_
  (refine rO (ai @ImgD.dv.eq_1 (ai @PartD.dv.eq_1 (ai @StateD.dv.eq_1 (ai @CoordD.dv.eq_1 (ai @GrpD.dv.eq_1 (ai @List.map_append.{0,0} (ai @List.map_cons.{0,0} (@List.map_nil.{0,0})))))))) ?_;try with_reducible exact tt)
 rintro k ⟨hk,hall⟩
 by_cases hlt:k<i.p2.opens.length
 ·have dk:decide ((k:Int)<(i.p2.opens.length:Int))=true:=decide_eq_true (by omega)
  have g1:i.p2.opens[k]? = some i.p2.opens[k]:=List.getElem?_eq_getElem hlt
  have hwk:IntKind.i64.wrap ((k:Int)+1)=((k+1:Nat):Int):=by rw[aG (by omega)];rfl
  have hsn:=eC (cH i) i.p2.opens k hlt
  have hmem:=List.getElem_mem hlt
  generalize i.p2.opens[k]=o at *
  have c5:=co o.pid
  have hcase:=xJ i.m o.pid
  obtain⟨tid,ok,hto⟩:∃ tid ok,nG i.m o.pid=(tid,ok):=⟨_,_,rfl⟩
  have hown:=sI i o hto
  rw[hto] at c5 hcase
  simp only at c5 hcase
  have hbad:(!ok || ((i.m.c tid).epoch != o.epoch))=true→i.p2.opens.all (cH i)=false:=fun hb=>by
   rw[List.all_eq_false];exact⟨o,hmem,by rw[hown,hb];simp⟩
  rcases hcase with rfl|rfl|rfl
  ·have hb:(!ok || (i.m.c0.epoch != o.epoch))=true→i.p2.opens.all (cH i)=false:=hbad
   have hown:cH i o = !(!ok || (i.m.c0.epoch != o.epoch)):=hown
   (refine gO (ai dk (ai g1 (ai @ImgD.dv.eq_1 (ai @PartD.dv.eq_1 (ai @StateD.dv.eq_1 (ai @CoordD.dv.eq_1 (ai @GrpD.dv.eq_1 (@OpenD.dv.eq_1)))))))) ?_;try with_reducible exact tt)
   (first|refine Wp.stoD 58 (vb (!ok || (i.m.c0.epoch != o.epoch))) aA ?_ ?_|refine Wp.rtoDS 58 (vb (!ok || (i.m.c0.epoch != o.epoch))) aA ?_ ?_|(refine Wp.seq ?_;first|refine Wp.stoD 58 (vb (!ok || (i.m.c0.epoch != o.epoch))) aA ?_ ?_|refine Wp.rtoDS 58 (vb (!ok || (i.m.c0.epoch != o.epoch))) aA ?_ ?_))
   ·((rcases Bool.eq_false_or_eq_true (!ok) with hL1|hL1)<;>(rcases Bool.eq_false_or_eq_true (i.m.c0.epoch != o.epoch) with hL2|hL2)<;>(((refine rO (ai hL1 (ai hL2 (ai @ImgD.dv.eq_1 (ai @PartD.dv.eq_1 (ai @StateD.dv.eq_1 (ai @CoordD.dv.eq_1 (ai @GrpD.dv.eq_1 (@OpenD.dv.eq_1)))))))) ?_;try with_reducible exact tt);(repeat (refine aQ (by assumption) ?_;(refine rO (ai hL1 (ai hL2 (ai @ImgD.dv.eq_1 (ai @PartD.dv.eq_1 (ai @StateD.dv.eq_1 (ai @CoordD.dv.eq_1 (ai @GrpD.dv.eq_1 (@OpenD.dv.eq_1)))))))) ?_;try with_reducible exact tt))));all_goals (exact (show aH _ _=true by kernel_rfl))))
   refine Wp.cond (by (refine aK ?_;try with_reducible exact tt);rfl) (fun h=>?_) (fun h=>?_)
   ·have e:dT i=false:=by unfold dT;rw[t0,t1,t2,a0,a1,hb h];rfl
    (refine aI ?_;try with_reducible exact tt)
    (refine rO (e) ?_;try with_reducible exact tt)
   ·(refine aI ?_;try with_reducible exact tt)
    refine⟨k+1,⟨by omega,by rw[hsn,hall,hown,h];rfl⟩,by omega,aD.keep rfl (by simp[aO,SV.ids,HE.ids,CV.ids,ImgD.dv,PartD.dv,StateD.dv,CoordD.dv,GrpD.dv];rfl) ?_⟩
    (refine rO (ai hwk (ai @ImgD.dv.eq_1 (ai @PartD.dv.eq_1 (ai @StateD.dv.eq_1 (ai @CoordD.dv.eq_1 (ai @GrpD.dv.eq_1 (ai @List.map_append.{0,0} (ai @List.map_cons.{0,0} (@List.map_nil.{0,0}))))))))) ?_;try with_reducible exact tt)
  ·have hb:(!ok || (i.m.c1.epoch != o.epoch))=true→i.p2.opens.all (cH i)=false:=hbad
   have hown:cH i o = !(!ok || (i.m.c1.epoch != o.epoch)):=hown
   (refine gO (ai dk (ai g1 (ai @ImgD.dv.eq_1 (ai @PartD.dv.eq_1 (ai @StateD.dv.eq_1 (ai @CoordD.dv.eq_1 (ai @GrpD.dv.eq_1 (@OpenD.dv.eq_1)))))))) ?_;try with_reducible exact tt)
   (first|refine Wp.stoD 58 (vb (!ok || (i.m.c1.epoch != o.epoch))) aA ?_ ?_|refine Wp.rtoDS 58 (vb (!ok || (i.m.c1.epoch != o.epoch))) aA ?_ ?_|(refine Wp.seq ?_;first|refine Wp.stoD 58 (vb (!ok || (i.m.c1.epoch != o.epoch))) aA ?_ ?_|refine Wp.rtoDS 58 (vb (!ok || (i.m.c1.epoch != o.epoch))) aA ?_ ?_))
   ·((rcases Bool.eq_false_or_eq_true (!ok) with hL1|hL1)<;>(rcases Bool.eq_false_or_eq_true (i.m.c1.epoch != o.epoch) with hL2|hL2)<;>(((refine rO (ai hL1 (ai hL2 (ai @ImgD.dv.eq_1 (ai @PartD.dv.eq_1 (ai @StateD.dv.eq_1 (ai @CoordD.dv.eq_1 (ai @GrpD.dv.eq_1 (@OpenD.dv.eq_1)))))))) ?_;try with_reducible exact tt);(repeat (refine aQ (by assumption) ?_;(refine rO (ai hL1 (ai hL2 (ai @ImgD.dv.eq_1 (ai @PartD.dv.eq_1 (ai @StateD.dv.eq_1 (ai @CoordD.dv.eq_1 (ai @GrpD.dv.eq_1 (@OpenD.dv.eq_1)))))))) ?_;try with_reducible exact tt))));all_goals (exact (show aH _ _=true by kernel_rfl))))
   refine Wp.cond (by (refine aK ?_;try with_reducible exact tt);rfl) (fun h=>?_) (fun h=>?_)
   ·have e:dT i=false:=by unfold dT;rw[t0,t1,t2,a0,a1,hb h];rfl
    (refine aI ?_;try with_reducible exact tt)
    (refine rO (e) ?_;try with_reducible exact tt)
   ·(refine aI ?_;try with_reducible exact tt)
    refine⟨k+1,⟨by omega,by rw[hsn,hall,hown,h];rfl⟩,by omega,aD.keep rfl (by simp[aO,SV.ids,HE.ids,CV.ids,ImgD.dv,PartD.dv,StateD.dv,CoordD.dv,GrpD.dv];rfl) ?_⟩
    (refine rO (ai hwk (ai @ImgD.dv.eq_1 (ai @PartD.dv.eq_1 (ai @StateD.dv.eq_1 (ai @CoordD.dv.eq_1 (ai @GrpD.dv.eq_1 (ai @List.map_append.{0,0} (ai @List.map_cons.{0,0} (@List.map_nil.{0,0}))))))))) ?_;try with_reducible exact tt)
  ·have hb:(!ok || (i.m.c2.epoch != o.epoch))=true→i.p2.opens.all (cH i)=false:=hbad
   have hown:cH i o = !(!ok || (i.m.c2.epoch != o.epoch)):=hown
   (refine gO (ai dk (ai g1 (ai @ImgD.dv.eq_1 (ai @PartD.dv.eq_1 (ai @StateD.dv.eq_1 (ai @CoordD.dv.eq_1 (ai @GrpD.dv.eq_1 (@OpenD.dv.eq_1)))))))) ?_;try with_reducible exact tt)
   (first|refine Wp.stoD 58 (vb (!ok || (i.m.c2.epoch != o.epoch))) aA ?_ ?_|refine Wp.rtoDS 58 (vb (!ok || (i.m.c2.epoch != o.epoch))) aA ?_ ?_|(refine Wp.seq ?_;first|refine Wp.stoD 58 (vb (!ok || (i.m.c2.epoch != o.epoch))) aA ?_ ?_|refine Wp.rtoDS 58 (vb (!ok || (i.m.c2.epoch != o.epoch))) aA ?_ ?_))
   ·((rcases Bool.eq_false_or_eq_true (!ok) with hL1|hL1)<;>(rcases Bool.eq_false_or_eq_true (i.m.c2.epoch != o.epoch) with hL2|hL2)<;>(((refine rO (ai hL1 (ai hL2 (ai @ImgD.dv.eq_1 (ai @PartD.dv.eq_1 (ai @StateD.dv.eq_1 (ai @CoordD.dv.eq_1 (ai @GrpD.dv.eq_1 (@OpenD.dv.eq_1)))))))) ?_;try with_reducible exact tt);(repeat (refine aQ (by assumption) ?_;(refine rO (ai hL1 (ai hL2 (ai @ImgD.dv.eq_1 (ai @PartD.dv.eq_1 (ai @StateD.dv.eq_1 (ai @CoordD.dv.eq_1 (ai @GrpD.dv.eq_1 (@OpenD.dv.eq_1)))))))) ?_;try with_reducible exact tt))));all_goals (exact (show aH _ _=true by kernel_rfl))))
   refine Wp.cond (by (refine aK ?_;try with_reducible exact tt);rfl) (fun h=>?_) (fun h=>?_)
   ·have e:dT i=false:=by unfold dT;rw[t0,t1,t2,a0,a1,hb h];rfl
    (refine aI ?_;try with_reducible exact tt)
    (refine rO (e) ?_;try with_reducible exact tt)
   ·(refine aI ?_;try with_reducible exact tt)
    refine⟨k+1,⟨by omega,by rw[hsn,hall,hown,h];rfl⟩,by omega,aD.keep rfl (by simp[aO,SV.ids,HE.ids,CV.ids,ImgD.dv,PartD.dv,StateD.dv,CoordD.dv,GrpD.dv];rfl) ?_⟩
    (refine rO (ai hwk (ai @ImgD.dv.eq_1 (ai @PartD.dv.eq_1 (ai @StateD.dv.eq_1 (ai @CoordD.dv.eq_1 (ai @GrpD.dv.eq_1 (ai @List.map_append.{0,0} (ai @List.map_cons.{0,0} (@List.map_nil.{0,0}))))))))) ?_;try with_reducible exact tt)
 have a2:i.p2.opens.all (cH i)=true:=by rw[List.take_of_length_le (by omega)] at hall;exact hall
 have d2:decide ((k:Int)<(i.p2.opens.length:Int))=false:=decide_eq_false (by omega)
 clear hall hlt hk
 have e:dT i=true:=by unfold dT;rw[t0,t1,t2,a0,a1,a2];rfl
 (refine gO (ai d2 (ai @PartD.dv.eq_1 (ai @List.map_append.{0,0} (ai @List.map_cons.{0,0} (@List.map_nil.{0,0}))))) ?_;try with_reducible exact tt)
 (refine rO (e) ?_;try with_reducible exact tt)
theorem cG (i:ImgD) (hs:SmallI i):aJ Tryz.prog 24 [.agg i.dv] (int (if aS i then 0 else 2)):=by
 have c0:=aPs i.m hs.m
 have c1:=aB9 i hs
 have c2:=aNs i hs
 have hc:aS i=(aCp i && fG i.m && (bE i.p0 && (bE i.p1 && bE i.p2)) && nS i):=rfl
 have ht:aCp i = !(i.tag != 0 && i.tag != 1):=by
  unfold aCp;cases h0:(i.tag == 0)<;>cases h1:(i.tag == 1)<;>simp[bne,h0,h1]
 simp only[ImgD.dv,PartD.dv,StateD.dv,CoordD.dv,GrpD.dv,List.cons_append,List.nil_append] at c0 c1 c2
 (refine aJ.of_body Tryz.func24 rfl rfl Tryz.ntmps24 Tryz.results24 (by simp) ?_)
 (refine gO (ai @ImgD.dv.eq_1 (ai @PartD.dv.eq_1 (ai @StateD.dv.eq_1 (ai @CoordD.dv.eq_1 (@GrpD.dv.eq_1))))) ?_;try with_reducible exact tt)
 (first|refine Wp.sto 3 (vb (i.tag != 0 && i.tag != 1)) ?_ ?_|refine Wp.rtoS 3 (vb (i.tag != 0 && i.tag != 1)) ?_ ?_|(refine Wp.seq ?_;first|refine Wp.sto 3 (vb (i.tag != 0 && i.tag != 1)) ?_ ?_|refine Wp.rtoS 3 (vb (i.tag != 0 && i.tag != 1)) ?_ ?_))
 ·((rcases Bool.eq_false_or_eq_true (i.tag != 0) with hL1|hL1)<;>(rcases Bool.eq_false_or_eq_true (i.tag != 1) with hL2|hL2)<;>(((refine rO (ai hL1 (ai hL2 (ai @ImgD.dv.eq_1 (ai @PartD.dv.eq_1 (ai @StateD.dv.eq_1 (ai @CoordD.dv.eq_1 (@GrpD.dv.eq_1))))))) ?_;try with_reducible exact tt);(repeat (refine aQ (by assumption) ?_;(refine rO (ai hL1 (ai hL2 (ai @ImgD.dv.eq_1 (ai @PartD.dv.eq_1 (ai @StateD.dv.eq_1 (ai @CoordD.dv.eq_1 (@GrpD.dv.eq_1))))))) ?_;try with_reducible exact tt))));all_goals (exact (show aH _ _=true by kernel_rfl))))
 refine Wp.cond (by (refine aK ?_;try with_reducible exact tt);rfl) (fun h=>?_) (fun h=>?_)
 ·have e:aS i=false:=by rw[hc,ht,h];rfl
  (refine aI ?_;try with_reducible exact tt)
  (refine rO (ai e (ai @Bool.false_eq_true (@if_false.{1}))) ?_;try with_reducible exact tt)
 have ht1:aCp i=true:=by rw[ht,h];rfl
 clear ht h
 cases h1:fG i.m with
 | false =>
  have e:aS i=false:=by rw[hc,ht1,h1];rfl
  rw[h1] at c0
  (refine gO (ai @ImgD.dv.eq_1 (ai @PartD.dv.eq_1 (ai @StateD.dv.eq_1 (ai @CoordD.dv.eq_1 (@GrpD.dv.eq_1))))) ?_;try with_reducible exact tt)
  (refine rO (ai e (ai @Bool.false_eq_true (@if_false.{1}))) ?_;try with_reducible exact tt)
 | true =>
 rw[h1] at c0
 cases h2:(bE i.p0 && (bE i.p1 && bE i.p2)) with
 | false =>
  have e:aS i=false:=by rw[hc,ht1,h1,h2];rfl
  rw[h2] at c1
  (refine gO (ai @ImgD.dv.eq_1 (ai @PartD.dv.eq_1 (ai @StateD.dv.eq_1 (ai @CoordD.dv.eq_1 (@GrpD.dv.eq_1))))) ?_;try with_reducible exact tt)
  (refine rO (ai e (ai @Bool.false_eq_true (@if_false.{1}))) ?_;try with_reducible exact tt)
 | true =>
 rw[h2] at c1
 cases h3:nS i with
 | false =>
  have e:aS i=false:=by rw[hc,ht1,h1,h2,h3];rfl
  rw[h3] at c2
  (refine gO (ai @ImgD.dv.eq_1 (ai @PartD.dv.eq_1 (ai @StateD.dv.eq_1 (ai @CoordD.dv.eq_1 (@GrpD.dv.eq_1))))) ?_;try with_reducible exact tt)
  (refine rO (ai e (ai @Bool.false_eq_true (@if_false.{1}))) ?_;try with_reducible exact tt)
 | true =>
  have e:aS i=true:=by rw[hc,ht1,h1,h2,h3];rfl
  rw[h3] at c2
  (refine gO (ai @ImgD.dv.eq_1 (ai @PartD.dv.eq_1 (ai @StateD.dv.eq_1 (ai @CoordD.dv.eq_1 (@GrpD.dv.eq_1))))) ?_;try with_reducible exact tt)
  (refine rO (ai e (@if_true.{1})) ?_;try with_reducible exact tt)
end Go.Proofs.YtkmfmphpndhkjaaGreatDoor
