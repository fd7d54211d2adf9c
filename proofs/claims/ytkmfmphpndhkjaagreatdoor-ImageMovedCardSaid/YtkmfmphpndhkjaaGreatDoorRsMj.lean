/- The abstract machine (RsI, ImC, BaJ). -/
import Derived.Test.YtkmfmphpndhkjaaGreatDoorRsH
import Derived.Test.YtkmfmphpndhkjaaGreatDoorCpMe
import Derived.Test.YtkmfmphpndhkjaaGreatDoorImB
namespace Go.Proofs.YtkmfmphpndhkjaaGreatDoor
open Go Go.RowKit
set_option maxHeartbeats 16000000
set_option maxRecDepth 100000
set_option linter.unusedVariables false
set_option linter.unusedSimpArgs false
theorem aBn (a b:List BatD) (hl:a.length≤100000) (hr:∀ b ∈ a,b.recs.length≤100000):aJ Tryz.prog 58 [.lst 5 (a.map BatD.dv),.lst 5 (b.map BatD.dv)] (dC (decide (a=b))):=by
 (refine aJ.of_body Tryz.func58 rfl rfl Tryz.ntmps58 Tryz.results58 (by simp) ?_)
 by_cases hlen:a.length=b.length
 ·have hne:((a.length:Int) != (b.length:Int))=false:=by simp[hlen]
  (refine gO (hne) ?_;try with_reducible exact tt)
  refine Wp.loop (fun k:Nat=>⟨dI [(0,.c (.d (.lst 5 (a.map BatD.dv)))),(1,.c (.d (.lst 5 (b.map BatD.dv)))),(5,vi .i64 k)],bJ [],0,27,0⟩) (fun k=>k≤a.length∧a.take k=b.take k) (fun k=>a.length - k) 0 ⟨Nat.zero_le _,rfl⟩ ?_ ?_
  ·refine aD.keep rfl rfl ?_
   (refine aK ?_;try with_reducible exact tt)
  rintro k ⟨hk,hall⟩
  (refine aI ?_;try with_reducible exact tt)
  refine Wp.cond (by (refine aK ?_;try with_reducible exact tt);rfl) (fun h=>?_) (fun h=>?_)
  ·have hlt:k<a.length:=by simpa using h
   have hlt2:k<b.length:=by omega
   have g1:a[k]? = some a[k]:=List.getElem?_eq_getElem hlt
   have g2:b[k]? = some b[k]:=List.getElem?_eq_getElem hlt2
   have t1:=aF a k hlt
   have t2:=aF b k hlt2
   have hne:a[k]≠b[k]→¬ a=b:=fun hx e=>by subst e;exact hx rfl
   have hq:=hr _ (List.getElem_mem hlt)
   have c1:=aIs a[k] b[k] (by omega)
   generalize a[k]=x at *
   generalize b[k]=y at *
   simp only[BatD.dv] at c1
   (refine gO (ai g1 (ai g2 (@BatD.dv.eq_1))) ?_;try with_reducible exact tt)
   refine Wp.cond (by (refine aK ?_;try with_reducible exact tt);rfl) (fun h=>?_) (fun h=>?_)
   ·have hf:decide (a=b)=false:=decide_eq_false (hne (by simpa using h))
    (refine aI ?_;try with_reducible exact tt)
    (refine rO (hf) ?_;try with_reducible exact tt)
   ·simp only[Bool.not_eq_false',decide_eq_true_eq] at h
    (refine aI ?_;try with_reducible exact tt)
    refine⟨k+1,⟨by omega,by rw[t1,t2,hall,h]⟩,by omega,aD.keep rfl rfl ?_⟩
    (refine aK ?_;try with_reducible exact tt)
  ·have hk:k=a.length:=by simp only[decide_eq_false_iff_not] at h;omega
   have hf:decide (a=b)=true:=by
    rw[List.take_of_length_le (by omega),List.take_of_length_le (by omega)] at hall;simp[hall]
   (refine aI ?_;try with_reducible exact tt)
   (refine rO (hf) ?_;try with_reducible exact tt)
 ·have hne:((a.length:Int) != (b.length:Int))=true:=by simp;omega
  have hf:decide (a=b)=false:=decide_eq_false (fun e=>hlen (by rw[e]))
  (refine gO (hne) ?_;try with_reducible exact tt)
  (refine rO (hf) ?_;try with_reducible exact tt)
def aKp (a b:OpenD):Bool:=(a.pid != b.pid) || (a.epoch != b.epoch) || !decide (a.bats=b.bats)
theorem aTa (a b:OpenD):aKp a b = !decide (a=b):=by
 obtain⟨a1,a2,a3⟩:=a
 obtain⟨b1,b2,b3⟩:=b
 rw[Bool.eq_iff_iff]
 simp only[aKp,Bool.or_eq_true,bne_iff_ne,Bool.not_eq_true',decide_eq_false_iff_not,OpenD.mk.injEq,ne_eq]
 by_cases h1:a1=b1<;>by_cases h2:a2=b2<;>simp[h1,h2]
def aF3 (a b:PartD):Bool:=(a.start != b.start) || (a.fin != b.fin) || !decide (a.rows=b.rows) || ((a.opens.length:Int) != (b.opens.length:Int))
theorem aSj {a b:PartD} (h:aF3 a b=true):decide (a=b)=false:=by
 refine decide_eq_false fun e=>?_
 subst e
 simp[aF3] at h
theorem aSi {a b:PartD} (h:aF3 a b=false):a.start=b.start∧a.fin=b.fin∧a.rows=b.rows∧a.opens.length=b.opens.length:=by
 simp only[aF3,Bool.or_eq_false_iff,bne_eq_false_iff_eq,Bool.not_eq_false',decide_eq_true_eq] at h
 exact⟨h.1.1.1,h.1.1.2,h.1.2,by omega⟩
theorem uA (a b:PartD) (hs:SmallP a):aJ Tryz.prog 27 [.agg a.dv,.agg b.dv] (dC (decide (a=b))):=by
 have hl:=hs.opens
 have hr:=hs.rows
 have c0:=aFr a.rows b.rows (by omega)
 have c2:=aL2 a.prods b.prods hs.prods
 (refine aJ.of_body Tryz.func27 rfl rfl Tryz.ntmps27 Tryz.results27 (by simp) ?_)
 (refine gO (@PartD.dv.eq_1) ?_;try with_reducible exact tt)
 (first|refine Wp.sto 36 (vb (aF3 a b)) ?_ ?_|refine Wp.rtoS 36 (vb (aF3 a b)) ?_ ?_|(refine Wp.seq ?_;first|refine Wp.sto 36 (vb (aF3 a b)) ?_ ?_|refine Wp.rtoS 36 (vb (aF3 a b)) ?_ ?_))
 ·unfold aF3;((rcases Bool.eq_false_or_eq_true (a.start != b.start) with hL1|hL1)<;>(rcases Bool.eq_false_or_eq_true (a.fin != b.fin) with hL2|hL2)<;>(rcases Bool.eq_false_or_eq_true (!decide (a.rows=b.rows)) with hL3|hL3)<;>(rcases Bool.eq_false_or_eq_true ((a.opens.length:Int) != (b.opens.length:Int)) with hL4|hL4)<;>(((refine rO (ai hL1 (ai hL2 (ai hL3 (ai hL4 (@PartD.dv.eq_1))))) ?_;try with_reducible exact tt);(repeat (refine aQ (by assumption) ?_;(refine rO (ai hL1 (ai hL2 (ai hL3 (ai hL4 (@PartD.dv.eq_1))))) ?_;try with_reducible exact tt))));all_goals (exact (show aH _ _=true by kernel_rfl))))
 refine Wp.cond (by (refine aK ?_;try with_reducible exact tt);rfl) (fun h=>?_) (fun h=>?_)
 ·have e:=aSj h
  (refine aI ?_;try with_reducible exact tt)
  (refine rO (e) ?_;try with_reducible exact tt)
 obtain⟨l1,l2,l3,l4⟩:=aSi h
 clear h
 (refine aI ?_;try with_reducible exact tt)
 refine Wp.loop (fun k:Nat=>⟨dI [(2,.c (.own 0 0)),(3,.c (.own 1 0)),(5,vi .i64 k)],bJ [(0,.cells (a.dv.map .d)),(1,.cells (b.dv.map .d))],20,79,0⟩) (fun k=>k≤a.opens.length∧a.opens.take k=b.opens.take k) (fun k=>a.opens.length - k) 0 ⟨Nat.zero_le _,rfl⟩ ?_ ?_
 ·refine aD.keep rfl (by simp[aO,SV.ids,HE.ids,CV.ids,PartD.dv];rfl) ?_
  (refine rO (@PartD.dv.eq_1) ?_;try with_reducible exact tt)
 rintro k ⟨hk,hall⟩
 by_cases hlt:k<a.opens.length
 ·have dk:decide ((k:Int)<(a.opens.length:Int))=true:=decide_eq_true (by omega)
  have g1:a.opens[k]? = some a.opens[k]:=List.getElem?_eq_getElem hlt
  have g2:b.opens[k]? = some (b.opens[k]'(by omega)):=List.getElem?_eq_getElem (by omega)
  have hwk:IntKind.i64.wrap ((k:Int)+1)=((k+1:Nat):Int):=by rw[aG (by omega)];rfl
  have t1:=aF a.opens k hlt
  have t2:=aF b.opens k (by omega)
  have hne:a.opens[k]≠b.opens[k]'(by omega)→¬ a=b:=fun hx e=>by subst e;exact hx rfl
  have ho:=hs.open1 _ (List.getElem_mem hlt)
  generalize a.opens[k]=x at *
  generalize b.opens[k]'(by omega)=y at *
  have c1:=aBn x.bats y.bats ho.bats ho.recs
  have hop:=aTa x y
  (refine gO (ai dk (ai @PartD.dv.eq_1 (ai @OpenD.dv.eq_1 (ai g1 (g2))))) ?_;try with_reducible exact tt)
  (first|refine Wp.sto 73 (vb (aKp x y)) ?_ ?_|refine Wp.rtoS 73 (vb (aKp x y)) ?_ ?_|(refine Wp.seq ?_;first|refine Wp.sto 73 (vb (aKp x y)) ?_ ?_|refine Wp.rtoS 73 (vb (aKp x y)) ?_ ?_))
  ·unfold aKp;((rcases Bool.eq_false_or_eq_true (x.pid != y.pid) with hL1|hL1)<;>(rcases Bool.eq_false_or_eq_true (x.epoch != y.epoch) with hL2|hL2)<;>(rcases Bool.eq_false_or_eq_true (!decide (x.bats=y.bats)) with hL3|hL3)<;>(((refine rO (ai hL1 (ai hL2 (ai hL3 (ai @PartD.dv.eq_1 (@OpenD.dv.eq_1))))) ?_;try with_reducible exact tt);(repeat (refine aQ (by assumption) ?_;(refine rO (ai hL1 (ai hL2 (ai hL3 (ai @PartD.dv.eq_1 (@OpenD.dv.eq_1))))) ?_;try with_reducible exact tt))));all_goals (exact (show aH _ _=true by kernel_rfl))))
  refine Wp.cond (by (refine aK ?_;try with_reducible exact tt);rfl) (fun h=>?_) (fun h=>?_)
  ·rw[h] at hop
   have e:decide (a=b)=false:=decide_eq_false (hne (by simpa using hop.symm))
   (refine aI ?_;try with_reducible exact tt)
   (refine rO (e) ?_;try with_reducible exact tt)
  ·rw[h] at hop
   have h:x=y:=by simpa using hop.symm
   (refine aI ?_;try with_reducible exact tt)
   refine⟨k+1,⟨by omega,by rw[t1,t2,hall,h]⟩,by omega,aD.keep rfl (by simp[aO,SV.ids,HE.ids,CV.ids,PartD.dv];rfl) ?_⟩
   (refine rO (ai hwk (@PartD.dv.eq_1)) ?_;try with_reducible exact tt)
 have hoe:a.opens=b.opens:=by
  rw[List.take_of_length_le (by omega),List.take_of_length_le (by omega)] at hall;exact hall
 have dk:decide ((k:Int)<(a.opens.length:Int))=false:=decide_eq_false (by omega)
 have e:decide (a=b)=decide (a.prods=b.prods):=by
  obtain⟨a1,a2,a3,a4,a5⟩:=a
  obtain⟨b1,b2,b3,b4,b5⟩:=b
  simp only at l1 l2 l3 hoe
  subst l1;subst l2;subst l3;subst hoe
  rw[Bool.eq_iff_iff]
  simp only[decide_eq_true_eq,PartD.mk.injEq,true_and]
 rw[e]
 (refine gO (ai dk (@PartD.dv.eq_1)) ?_;try with_reducible exact tt)
 (refine aK ?_;try with_reducible exact tt)
theorem aL0 (a b:StateD) (hs:SmallS a):aJ Tryz.prog 28 [.agg a.dv,.agg b.dv] (dC (decide (a=b))):=by
 have c0:=qB a.c0 b.c0 hs.c0
 have c1:=qB a.c1 b.c1 hs.c1
 have c2:=qB a.c2 b.c2 hs.c2
 rw[← aM0]
 simp only[CoordD.dv] at c0 c1 c2
 (refine aJ.of_body Tryz.func28 rfl rfl Tryz.ntmps28 Tryz.results28 (by simp) ?_)
 (refine gO (ai @StateD.dv.eq_1 (ai @CoordD.dv.eq_1 (@GrpD.dv.eq_1))) ?_;try with_reducible exact tt)
 refine Wp.rounds 4 (aN.go ?_)
 cases h0:decide (a.c0=b.c0) with
 | false =>
  have e:qM a b=false:=by unfold qM;rw[h0];rfl
  (refine gO (h0) ?_;try with_reducible exact tt)
  (refine rO (e) ?_;try with_reducible exact tt)
 | true =>
 cases h1:decide (a.c1=b.c1) with
 | false =>
  have e:qM a b=false:=by unfold qM;rw[h0,h1];rfl
  (refine gO (ai h0 (h1)) ?_;try with_reducible exact tt)
  (refine rO (e) ?_;try with_reducible exact tt)
 | true =>
 cases h2:decide (a.c2=b.c2) with
 | false =>
  have e:qM a b=false:=by unfold qM;rw[h0,h1,h2];rfl
  (refine gO (ai h0 (ai h1 (h2))) ?_;try with_reducible exact tt)
  (refine rO (e) ?_;try with_reducible exact tt)
 | true =>
  have e:qM a b=(a.made == b.made && decide (a.gr=b.gr)):=by unfold qM;rw[h0,h1,h2];rfl
  rw[e]
  have gb:=fun x y=>aLj x y a.gr b.gr
  (refine gO (ai h0 (ai h1 (h2))) ?_;try with_reducible exact tt)
  (first|refine Wp.sto 4 (vb (a.made == b.made && decide (a.gr=b.gr))) ?_ ?_|refine Wp.rtoS 4 (vb (a.made == b.made && decide (a.gr=b.gr))) ?_ ?_|(refine Wp.seq ?_;first|refine Wp.sto 4 (vb (a.made == b.made && decide (a.gr=b.gr))) ?_ ?_|refine Wp.rtoS 4 (vb (a.made == b.made && decide (a.gr=b.gr))) ?_ ?_))
  ·((rcases Bool.eq_false_or_eq_true (a.made == b.made) with hL1|hL1)<;>(rcases Bool.eq_false_or_eq_true (decide (a.gr=b.gr)) with hL2|hL2)<;>(((refine rO (ai hL1 (ai hL2 (ai @StateD.dv.eq_1 (ai @CoordD.dv.eq_1 (ai @GrpD.dv.eq_1 (gb)))))) ?_;try with_reducible exact tt);(repeat (refine aQ (by assumption) ?_;(refine rO (ai hL1 (ai hL2 (ai @StateD.dv.eq_1 (ai @CoordD.dv.eq_1 (ai @GrpD.dv.eq_1 (gb)))))) ?_;try with_reducible exact tt))));all_goals (exact (show aH _ _=true by kernel_rfl))))
  (refine aI ?_;try with_reducible exact tt)
  (refine aK ?_;try with_reducible exact tt)
def qL (a b:ImgD):Bool:=decide (a.p0=b.p0) && (decide (a.p1=b.p1) && (decide (a.p2=b.p2) && (a.tag == b.tag && decide (a.m=b.m))))
theorem aLl (a b:ImgD):qL a b=decide (a=b):=by
 obtain⟨a1,a2,a3,a4,a5⟩:=a
 obtain⟨b1,b2,b3,b4,b5⟩:=b
 rw[Bool.eq_iff_iff]
 simp only[qL,Bool.and_eq_true,beq_iff_eq,decide_eq_true_eq,ImgD.mk.injEq]
 constructor
 ·rintro⟨h1,h2,h3,h4,h5⟩;exact⟨h4,h1,h2,h3,h5⟩
 ·rintro⟨h4,h1,h2,h3,h5⟩;exact⟨h1,h2,h3,h4,h5⟩
theorem aL1 (a b:ImgD) (hs:SmallI a):aJ Tryz.prog 12 [.agg a.dv,.agg b.dv] (dC (decide (a=b))):=by
 have c0:=uA a.p0 b.p0 hs.p0
 have c1:=uA a.p1 b.p1 hs.p1
 have c2:=uA a.p2 b.p2 hs.p2
 have c3:=aL0 a.m b.m hs.m
 rw[← aLl]
 simp only[StateD.dv,CoordD.dv,GrpD.dv,PartD.dv,List.cons_append,List.nil_append] at c0 c1 c2 c3
 (refine aJ.of_body Tryz.func12 rfl rfl Tryz.ntmps12 Tryz.results12 (by simp) ?_)
 (refine gO (ai @ImgD.dv.eq_1 (ai @PartD.dv.eq_1 (ai @StateD.dv.eq_1 (ai @CoordD.dv.eq_1 (@GrpD.dv.eq_1))))) ?_;try with_reducible exact tt)
 refine Wp.rounds 4 (aN.go ?_)
 cases h0:decide (a.p0=b.p0) with
 | false =>
  have e:qL a b=false:=by unfold qL;rw[h0];rfl
  (refine gO (h0) ?_;try with_reducible exact tt)
  (refine rO (e) ?_;try with_reducible exact tt)
 | true =>
 cases h1:decide (a.p1=b.p1) with
 | false =>
  have e:qL a b=false:=by unfold qL;rw[h0,h1];rfl
  (refine gO (ai h0 (h1)) ?_;try with_reducible exact tt)
  (refine rO (e) ?_;try with_reducible exact tt)
 | true =>
 cases h2:decide (a.p2=b.p2) with
 | false =>
  have e:qL a b=false:=by unfold qL;rw[h0,h1,h2];rfl
  (refine gO (ai h0 (ai h1 (h2))) ?_;try with_reducible exact tt)
  (refine rO (e) ?_;try with_reducible exact tt)
 | true =>
  have e:qL a b=(a.tag == b.tag && decide (a.m=b.m)):=by unfold qL;rw[h0,h1,h2];rfl
  rw[e]
  (refine gO (ai h0 (ai h1 (h2))) ?_;try with_reducible exact tt)
  (first|refine Wp.sto 4 (vb (a.tag == b.tag && decide (a.m=b.m))) ?_ ?_|refine Wp.rtoS 4 (vb (a.tag == b.tag && decide (a.m=b.m))) ?_ ?_|(refine Wp.seq ?_;first|refine Wp.sto 4 (vb (a.tag == b.tag && decide (a.m=b.m))) ?_ ?_|refine Wp.rtoS 4 (vb (a.tag == b.tag && decide (a.m=b.m))) ?_ ?_))
  ·((rcases Bool.eq_false_or_eq_true (a.tag == b.tag) with hL1|hL1)<;>(rcases Bool.eq_false_or_eq_true (decide (a.m=b.m)) with hL2|hL2)<;>(((refine rO (ai hL1 (ai hL2 (ai @ImgD.dv.eq_1 (ai @PartD.dv.eq_1 (ai @StateD.dv.eq_1 (ai @CoordD.dv.eq_1 (@GrpD.dv.eq_1))))))) ?_;try with_reducible exact tt);(repeat (refine aQ (by assumption) ?_;(refine rO (ai hL1 (ai hL2 (ai @ImgD.dv.eq_1 (ai @PartD.dv.eq_1 (ai @StateD.dv.eq_1 (ai @CoordD.dv.eq_1 (@GrpD.dv.eq_1))))))) ?_;try with_reducible exact tt))));all_goals (exact (show aH _ _=true by kernel_rfl))))
  (refine aI ?_;try with_reducible exact tt)
  (refine aK ?_;try with_reducible exact tt)
theorem aEc (a b:ImgD) (hs:SmallI a):aJ Tryz.prog 29 [.agg a.dv,.agg b.dv] (dC (decide (a=b))):=by
 have c0:=rB a.p0 b.p0 hs.p0
 have c1:=rB a.p1 b.p1 hs.p1
 have c2:=rB a.p2 b.p2 hs.p2
 have c3:=aO7 a.m b.m hs.m
 rw[← aLl]
 simp only[StateD.dv,CoordD.dv,GrpD.dv,PartD.dv,List.cons_append,List.nil_append] at c0 c1 c2 c3
 (refine aJ.of_body Tryz.func29 rfl rfl Tryz.ntmps29 Tryz.results29 (by simp) ?_)
 (refine gO (ai @ImgD.dv.eq_1 (ai @PartD.dv.eq_1 (ai @StateD.dv.eq_1 (ai @CoordD.dv.eq_1 (@GrpD.dv.eq_1))))) ?_;try with_reducible exact tt)
 refine Wp.rounds 4 (aN.go ?_)
 cases h0:decide (a.p0=b.p0) with
 | false =>
  have e:qL a b=false:=by unfold qL;rw[h0];rfl
  (refine gO (h0) ?_;try with_reducible exact tt)
  (refine rO (e) ?_;try with_reducible exact tt)
 | true =>
 cases h1:decide (a.p1=b.p1) with
 | false =>
  have e:qL a b=false:=by unfold qL;rw[h0,h1];rfl
  (refine gO (ai h0 (h1)) ?_;try with_reducible exact tt)
  (refine rO (e) ?_;try with_reducible exact tt)
 | true =>
 cases h2:decide (a.p2=b.p2) with
 | false =>
  have e:qL a b=false:=by unfold qL;rw[h0,h1,h2];rfl
  (refine gO (ai h0 (ai h1 (h2))) ?_;try with_reducible exact tt)
  (refine rO (e) ?_;try with_reducible exact tt)
 | true =>
  have e:qL a b=(a.tag == b.tag && decide (a.m=b.m)):=by unfold qL;rw[h0,h1,h2];rfl
  rw[e]
  (refine gO (ai h0 (ai h1 (h2))) ?_;try with_reducible exact tt)
  (first|refine Wp.sto 4 (vb (a.tag == b.tag && decide (a.m=b.m))) ?_ ?_|refine Wp.rtoS 4 (vb (a.tag == b.tag && decide (a.m=b.m))) ?_ ?_|(refine Wp.seq ?_;first|refine Wp.sto 4 (vb (a.tag == b.tag && decide (a.m=b.m))) ?_ ?_|refine Wp.rtoS 4 (vb (a.tag == b.tag && decide (a.m=b.m))) ?_ ?_))
  ·((rcases Bool.eq_false_or_eq_true (a.tag == b.tag) with hL1|hL1)<;>(rcases Bool.eq_false_or_eq_true (decide (a.m=b.m)) with hL2|hL2)<;>(((refine rO (ai hL1 (ai hL2 (ai @ImgD.dv.eq_1 (ai @PartD.dv.eq_1 (ai @StateD.dv.eq_1 (ai @CoordD.dv.eq_1 (@GrpD.dv.eq_1))))))) ?_;try with_reducible exact tt);(repeat (refine aQ (by assumption) ?_;(refine rO (ai hL1 (ai hL2 (ai @ImgD.dv.eq_1 (ai @PartD.dv.eq_1 (ai @StateD.dv.eq_1 (ai @CoordD.dv.eq_1 (@GrpD.dv.eq_1))))))) ?_;try with_reducible exact tt))));all_goals (exact (show aH _ _=true by kernel_rfl))))
  (refine aI ?_;try with_reducible exact tt)
  (refine aK ?_;try with_reducible exact tt)
set_option maxHeartbeats 4000000
def mvN (n:Int):Int:=if 0≤n then 2*n else n
def hJ (n:Int):Int:=if decide (0≤n) && decide (n≤2000) then 2*n else n
def aAu (odd:Int) (r:RowD):RowD:={ r with off:=2*r.off+odd }
def lB (s:SeenD):SeenD:=if 0≤s.base then { s with base:=2*s.base } else s
def lA (q:ProdD):ProdD:={ q with seen:=q.seen.map lB }
def aX (odd:Int) (p:PartD):PartD:=⟨2*p.start,2*p.fin,p.rows.map (aAu odd),p.opens,p.prods.map lA⟩
def lQ (x:PendD):PendD:={ x with off:=2*x.off }
def mvC (c:CoordD):CoordD:={ c with pends:=c.pends.map lQ }
def aUr (g:GrpD):GrpD:=⟨hJ g.a0,hJ g.a1,hJ g.a2,hJ g.b0,hJ g.b1,hJ g.b2⟩
def mvI (odd:Int) (i:ImgD):ImgD:=⟨i.tag,aX odd i.p0,aX odd i.p1,aX odd i.p2,⟨i.m.made,mvC i.m.c0,mvC i.m.c1,mvC i.m.c2,aUr i.m.gr⟩⟩
theorem aW3 (odd:Int) (i:ImgD) (q:Nat):(mvI odd i).p q=aX odd (i.p q):=by
 match q with
 | 0=>rfl
 | 1=>rfl
 | _+2=>rfl
theorem aW2 (odd:Int) (i:ImgD) (k:Nat):(mvI odd i).m.c k=mvC (i.m.c k):=by
 match k with
 | 0=>rfl
 | 1=>rfl
 | _+2=>rfl
theorem aI5 {odd:Int} {p:PartD} (ho:odd=0∨odd=1) (h:bB p=true) (hf:p.fin≤1000):bB (aX odd p)=true:=by
 obtain⟨h6,h7⟩:=yF h
 obtain⟨g1,g2,g3⟩:=jI h
 refine aIg (by simp only[aX];omega) (by simp only[aX];omega) (by simp only[aX];omega) (aFp _ (fun k hk=>?_)) (fun r hr=>?_) h6 h7
 ·simp only[aX,List.getElem_map]
  have:=oH _ (vQ h) k (k+1) (by simpa [aX] using hk) (by omega)
  simp only[List.getElem_map] at this
  simp only[aAu];omega
 ·simp only[aX,List.mem_map] at hr
  obtain⟨x,hx,rfl⟩:=hr
  have:=oW h x hx
  simp only[aX,aAu];omega
theorem aSg {odd:Int} (p:PartD) (ho:odd=0∨odd=1) (n:Int):dQ (aX odd p) (2*n)=dQ p n:=by
 unfold dQ
 simp only[aX,List.findIdx_map]
 congr 1
 funext r
 show decide (2*n≤2*r.off+odd)=decide (n≤r.off)
 rw[Bool.eq_iff_iff,decide_eq_true_eq,decide_eq_true_eq];omega
theorem aBr {odd:Int} {p:PartD} (ho:odd=0∨odd=1) (h:bB p=true) (hl:p.rows.length≤1048576) (hf:p.fin≤1000) {n:Int} (hn:(jT p n).2=0):jT (aX odd p) (mvN n)=jT p n:=by
 have hB:=aI5 ho h hf
 have hl2:(aX odd p).rows.length≤1048576:=by simpa [aX] using hl
 rcases aFv h hl hn with rfl|⟨h0,h1,h2⟩
 ·rw[uF hB hl2,uF h hl];rfl
 ·have e:mvN n=2*n:=by unfold mvN;rw[if_pos h0]
  rw[e,uF hB hl2,uF h hl]
  have a1:¬ ((2*n == -1)=true):=by simp only[beq_iff_eq];omega
  have a2:¬ ((n == -1)=true):=by simp only[beq_iff_eq];omega
  have b1:¬ ((decide (2*n < -1) || decide ((aX odd p).fin<2*n))=true):=by
   rw[Bool.not_eq_true,Bool.or_eq_false_iff,decide_eq_false_iff_not,decide_eq_false_iff_not]
   show ¬ 2*n < -1∧¬ 2*p.fin<2*n
   omega
  have b2:¬ ((decide (n < -1) || decide (p.fin<n))=true):=by
   rw[Bool.not_eq_true,Bool.or_eq_false_iff,decide_eq_false_iff_not,decide_eq_false_iff_not]
   omega
  rw[if_neg a1,if_neg a2,if_neg b1,if_neg b2,aSg p ho]
theorem yD (s:SeenD):(lB s).base=mvN s.base:=by
 unfold lB mvN;split<;>rfl
theorem xI (s:SeenD):(lB s).seq=s.seq∧(lB s).count=s.count:=by
 unfold lB;split<;>exact⟨rfl,rfl⟩
theorem xW {odd:Int} {p:PartD} (ho:odd=0∨odd=1) (h:bB p=true) (hl:p.rows.length≤1048576) (hf:p.fin≤1000) {s:SeenD} (hs:rT p s=true):jY (aX odd p) (lB s)=jY p s∧rT (aX odd p) (lB s)=true:=by
 simp only[rT,beq_iff_eq] at hs
 have:=aBr ho h hl hf hs
 have e:=yD s
 constructor
 ·unfold jY
  rw[e,this,SeenD.mk.injEq]
  exact⟨(xI s).1,(xI s).2,rfl⟩
 ·unfold rT;rw[e,this,hs];rfl
theorem xV {odd:Int} {p:PartD} (ho:odd=0∨odd=1) (h:bB p=true) (hl:p.rows.length≤1048576) (hf:p.fin≤1000) {q:ProdD} (hs:oK p q=true):eP (aX odd p) (lA q)=eP p q∧oK (aX odd p) (lA q)=true:=by
 simp only[oK,List.all_eq_true] at hs
 constructor
 ·simp only[eP,lA,List.map_map]
  congr 1
  exact List.map_congr_left (fun s hm=>(xW ho h hl hf (hs s hm)).1)
 ·simp only[oK,lA,List.all_map,List.all_eq_true]
  exact fun s hm=>(xW ho h hl hf (hs s hm)).2
theorem qS {odd:Int} {p:PartD} (ho:odd=0∨odd=1) (h:bB p=true) (hl:p.rows.length≤1048576) (hf:p.fin≤1000) (hb:fQ p=true):aP (aX odd p)=aP p∧fQ (aX odd p)=true:=by
 simp only[fQ,List.all_eq_true] at hb
 constructor
 ·unfold aP
  rw[PartD.mk.injEq]
  refine⟨rfl,by simp[aX],?_,rfl,?_⟩
  ·apply List.ext_getElem?
   intro k
   rw[dP,dP]
   simp only[aX,List.getElem?_map]
   cases p.rows[k]?<;>rfl
  ·simp only[aX,List.map_map]
   exact List.map_congr_left (fun q hm=>(xV ho h hl hf (hb q hm)).1)
 ·simp only[fQ]
  rw[show (aX odd p).prods=p.prods.map lA from rfl,List.all_map,List.all_eq_true]
  exact fun q hm=>(xV ho h hl hf (hb q hm)).2
theorem aSf (l:List ProdD) (pid:Int):(eI (l.map lA) pid).2=(eI l pid).2∧(eI (l.map lA) pid).1.epoch=(eI l pid).1.epoch∧(eI (l.map lA) pid).1.next=(eI l pid).1.next:=by
 unfold eI
 rw[List.find?_map]
 have:((fun q:ProdD=>q.pid == pid) ∘ lA)=fun q=>q.pid == pid:=rfl
 rw[this]
 cases l.find? (fun q=>q.pid == pid)<;>exact⟨rfl,rfl,rfl⟩
theorem xH {odd:Int} {p:PartD} (ho:odd=0∨odd=1) (h:bE p=true) (hl:p.rows.length≤1048576) (hf:p.fin≤1000) (hb:fQ p=true):bE (aX odd p)=true:=by
 have hB:=dA h
 simp only[fQ,List.all_eq_true] at hb
 simp only[bE,Bool.and_eq_true] at h ⊢
 refine⟨⟨⟨aI5 ho hB hf,?_⟩,?_⟩,?_⟩
 ·have:=h.1.1.2
  simp only[aX,List.all_map]
  rw[List.all_eq_true] at this ⊢
  exact fun r hr=>this r hr
 ·refine aAs lA (fun _=>rfl) _ _ (fun q hq hk=>aDh (f:=lB) xI (fun s hs=>?_) hk) h.1.2
  have h1:=hb q hq
  simp only[oK,List.all_eq_true] at h1
  have h2:=h1 s hs
  simp only[rT,beq_iff_eq] at h2
  rw[yD]
  unfold mvN
  rcases aFv hB hl h2 with e|⟨a,b,_⟩
  ·rw[e];simp
  ·rw[if_pos a];omega
 ·have:=h.2
  rw[List.all_eq_true] at this ⊢
  intro o hm
  have:=this o hm
  obtain⟨e1,e2,e3⟩:=aSf p.prods o.pid
  simp only[cV,aX,e1,e2,e3] at this ⊢
  exact this
structure Fin1 (i:ImgD):Prop where
 h0:i.p0.fin≤1000
 h1:i.p1.fin≤1000
 h2:i.p2.fin≤1000
theorem Fin1.p {i:ImgD} (h:Fin1 i) (q:Nat):(i.p q).fin≤1000:=by
 match q with
 | 0=>exact h.h0
 | 1=>exact h.h1
 | _+2=>exact h.h2
theorem aKh {p:PartD} (h:bB p=true) (hl:p.rows.length≤1048576) (hf:p.fin≤1000) {n:Int} (hn:(jT p n).2=0):hJ n=mvN n∧aHi (hJ n)=true:=by
 rcases aFv h hl hn with rfl|⟨a,b,_⟩
 ·exact⟨rfl,rfl⟩
 ·have c:(decide (0≤n) && decide (n≤2000))=true:=by simp only[Bool.and_eq_true,decide_eq_true_eq];omega
  unfold hJ mvN
  rw[if_pos c,if_pos a]
  refine⟨rfl,?_⟩
  simp only[aHi,aU,Bool.and_eq_true,decide_eq_true_eq];omega
theorem aQc {i:ImgD} {c:CoordD} (h:fF c=true):∀ x ∈ c.pends,dG x=true:=by
 intro x hx
 unfold fF at h
 split at h
 ·have:c=cz:=by simpa using h
  subst this;simp[cz] at hx
 ·simp only[Bool.and_eq_true,dK,List.all_eq_true] at h
  exact h.2.1.1.1.1.1.1 x hx
theorem zM {odd:Int} {i:ImgD} (ho:odd=0∨odd=1) (hc:aS i=true) (hr:RowsOk i) (hf:Fin1 i) {c:CoordD} (hm:fF c=true) (hp:c.pends.all (nT i)=true) :
  hU (mvI odd i) (mvC c)=hU i c∧(mvC c).pends.all (nT (mvI odd i))=true∧fF (mvC c)=true:=by
 have hpm:=aQc (i:=i) hm
 rw[List.all_eq_true] at hp
 have key:∀ x ∈ c.pends,jT ((mvI odd i).p x.part.toNat) (2*x.off)=jT (i.p x.part.toNat) x.off∧0≤x.off∧x.off≤1000:=by
  intro x hx
  have h1:=hp x hx
  have h2:=hpm x hx
  simp only[nT,beq_iff_eq] at h1
  simp only[dG,aU,Bool.and_eq_true,decide_eq_true_eq] at h2
  have hB:=dA (bI hc x.part.toNat)
  have h3:=aBr ho hB (hr.p _) (hf.p _) h1
  have e:mvN x.off=2*x.off:=by unfold mvN;rw[if_pos (by omega)]
  rw[e] at h3
  rw[aW3]
  refine⟨h3,by omega,?_⟩
  have:=hf.p x.part.toNat
  rcases aFv hB (hr.p _) h1 with e|⟨a,b,_⟩<;>omega
 refine⟨?_,?_,?_⟩
 ·simp only[hU,mvC,List.map_map]
  congr 1
  refine List.map_congr_left (fun x hx=>?_)
  simp only[Function.comp,nJ,lQ,(key x hx).1]
 ·simp only[mvC,List.all_map,List.all_eq_true]
  intro x hx
  have h1:=hp x hx
  simp only[Function.comp,nT,lQ,(key x hx).1] at h1 ⊢
  exact h1
 ·refine aHz (fun _=>⟨rfl,rfl⟩) (fun x hx hpx=>?_) hm
  have:=key x hx
  have e1:dG (lQ x)=(aU x.grp 0 1 && aU x.part 0 2 && aU (2*x.off) 0 1048576):=rfl
  have e2:dG x=(aU x.grp 0 1 && aU x.part 0 2 && aU x.off 0 1048576):=rfl
  rw[e2] at hpx
  rw[e1]
  simp only[Bool.and_eq_true] at hpx ⊢
  refine⟨hpx.1,?_⟩
  simp only[aU,Bool.and_eq_true,decide_eq_true_eq];omega
theorem aRv {odd:Int} {i:ImgD} (ho:odd=0∨odd=1) (h:eT i=true) (hr:RowsOk i) (hf:Fin1 i):eT (mvI odd i)=true∧bM (mvI odd i)=bM i:=by
 have h0:=h
 simp only[eT,Bool.and_eq_true] at h
 obtain⟨hc,⟨b0,b1,b2⟩,ht,hg⟩:=h
 have hp:=fun q=>dA (bI hc q)
 have e0:=qS ho (hp 0) (hr.p 0) (hf.p 0) b0
 have e1:=qS ho (hp 1) (hr.p 1) (hf.p 1) b1
 have e2:=qS ho (hp 2) (hr.p 2) (hf.p 2) b2
 simp only[nX,Bool.and_eq_true] at ht
 have hc0:=hc
 simp only[aS,Bool.and_eq_true] at hc
 have hms:=hc.1.1.2
 simp only[fG,Bool.and_eq_true,cOk] at hms
 obtain⟨⟨h1,⟨⟨h2,h3⟩,h4⟩,⟨⟨h5,h6⟩,h7⟩,⟨⟨h8,h9⟩,h10⟩⟩,h11⟩:=hms
 have d0:=zM (c:=i.m.c0) ho hc0 hr hf h2 ht.1
 have d1:=zM (c:=i.m.c1) ho hc0 hr hf h5 ht.2.1
 have d2:=zM (c:=i.m.c2) ho hc0 hr hf h8 ht.2.2
 simp only[kF,Bool.and_eq_true,rF,beq_iff_eq] at hg
 obtain⟨⟨k0,k1,k2⟩,k3,k4,k5⟩:=hg
 have q0:=fun n hn=>aKh (n:=n) (hp 0) (hr.p 0) (hf.p 0) hn
 have q1:=fun n hn=>aKh (n:=n) (hp 1) (hr.p 1) (hf.p 1) hn
 have q2:=fun n hn=>aKh (n:=n) (hp 2) (hr.p 2) (hf.p 2) hn
 have t0:=fun n hn=>aBr (n:=n) ho (hp 0) (hr.p 0) (hf.p 0) hn
 have t1:=fun n hn=>aBr (n:=n) ho (hp 1) (hr.p 1) (hf.p 1) hn
 have t2:=fun n hn=>aBr (n:=n) ho (hp 2) (hr.p 2) (hf.p 2) hn
 have r0:∀ n,(jT (i.p 0) n).2=0→jT (aX odd i.p0) (hJ n)=jT i.p0 n:=fun n hn=>by rw[(q0 n hn).1];exact t0 n hn
 have r1:∀ n,(jT (i.p 1) n).2=0→jT (aX odd i.p1) (hJ n)=jT i.p1 n:=fun n hn=>by rw[(q1 n hn).1];exact t1 n hn
 have r2:∀ n,(jT (i.p 2) n).2=0→jT (aX odd i.p2) (hJ n)=jT i.p2 n:=fun n hn=>by rw[(q2 n hn).1];exact t2 n hn
 have hbg:sQ (mvI odd i)=sQ i:=by
  unfold sQ
  rw[GrpD.mk.injEq]
  exact⟨congrArg Prod.fst (r0 _ k0),congrArg Prod.fst (r1 _ k1),congrArg Prod.fst (r2 _ k2),congrArg Prod.fst (r0 _ k3),congrArg Prod.fst (r1 _ k4),congrArg Prod.fst (r2 _ k5)⟩
 have hck:aS (mvI odd i)=true:=by
  simp only[aS,Bool.and_eq_true]
  refine⟨⟨⟨hc.1.1.1,?_⟩,xH ho hc.1.2.1 (hr.p 0) (hf.p 0) b0,xH ho hc.1.2.2.1 (hr.p 1) (hf.p 1) b1,xH ho hc.1.2.2.2 (hr.p 2) (hf.p 2) b2⟩,?_⟩
  rotate_left
  ·rw[aIe (j:=mvI odd i) (i:=i) rfl rfl rfl (fun k=>by rw[aW2];exact⟨rfl,rfl,rfl⟩)]
   exact hc.2
  simp only[fG,Bool.and_eq_true,cOk]
  refine⟨⟨h1,⟨⟨d0.2.2,h3⟩,h4⟩,⟨⟨d1.2.2,h6⟩,h7⟩,⟨⟨d2.2.2,h9⟩,h10⟩⟩,?_⟩
  simp only[mvI,aUr,GrpD.ls,List.all_cons,List.all_nil,Bool.and_true,Bool.and_eq_true]
  exact⟨(q0 _ k0).2,(q1 _ k1).2,(q2 _ k2).2,(q0 _ k3).2,(q1 _ k4).2,(q2 _ k5).2⟩
 constructor
 ·simp only[eT,Bool.and_eq_true]
  refine⟨hck,⟨e0.2,e1.2,e2.2⟩,?_,?_⟩
  ·simp only[nX,Bool.and_eq_true];exact⟨d0.2.1,d1.2.1,d2.2.1⟩
  ·simp only[kF,Bool.and_eq_true,rF,beq_iff_eq]
   exact⟨⟨(congrArg Prod.snd (r0 _ k0)).trans k0,(congrArg Prod.snd (r1 _ k1)).trans k1,(congrArg Prod.snd (r2 _ k2)).trans k2⟩,(congrArg Prod.snd (r0 _ k3)).trans k3,(congrArg Prod.snd (r1 _ k4)).trans k4,(congrArg Prod.snd (r2 _ k5)).trans k5⟩
 ·show (⟨0,aP (aX odd i.p0),aP (aX odd i.p1),aP (aX odd i.p2),⟨i.m.made,hU (mvI odd i) (mvC i.m.c0),hU (mvI odd i) (mvC i.m.c1),hU (mvI odd i) (mvC i.m.c2),sQ (mvI odd i)⟩⟩:ImgD)=_
  rw[hbg]
  have a0:aP (aX odd i.p0)=aP i.p0:=e0.1
  have a1:aP (aX odd i.p1)=aP i.p1:=e1.1
  have a2:aP (aX odd i.p2)=aP i.p2:=e2.1
  rw[a0,a1,a2,d0.1,d1.1,d2.1]
  rfl
set_option maxHeartbeats 16000000
theorem rW {p:PartD} (h:SmallP p):SmallP (aP p) :=
 ⟨by show (cX p.rows).length≤_;rw[cY];exact h.rows,h.opens,h.open1,by
  refine⟨by show (p.prods.map _).length≤_;rw[List.length_map];exact h.prods.len,fun q hq=>?_⟩
  obtain⟨q',h1,rfl⟩:=List.mem_map.1 hq
  show (q'.seen.map _).length≤_
  rw[List.length_map];exact h.prods.seen q' h1⟩
theorem rV {i:ImgD} {c:CoordD} (h:SmallC c):SmallC (hU i c) :=
 ⟨h.parts,by show (c.pends.map _).length≤_;rw[List.length_map];exact h.pends⟩
theorem qC {i:ImgD} (h:SmallI i):SmallI (bM i) :=
 ⟨rW h.p0,rW h.p1,rW h.p2,⟨rV h.m.c0,rV h.m.c1,rV h.m.c2⟩⟩
theorem yI {i:ImgD} (h:RowsOk i):RowsOk (bM i) :=
 ⟨by show (cX i.p0.rows).length≤_;rw[cY];exact h.1,by show (cX i.p1.rows).length≤_;rw[cY];exact h.2,by show (cX i.p2.rows).length≤_;rw[cY];exact h.3⟩
theorem sC (a b:ImgD) (hs:SmallI a) (hr:RowsOk a) (hs2:SmallI b) (hr2:RowsOk b) (ha:eT a=true) (hb:eT b=true):aJ Tryz.prog 13 [.agg a.dv,.agg b.dv] (dC (decide (bM a=bM b))):=by
 have c1:=(wR a hs hr).resolve_right (fun h=>by rw[ha] at h;exact absurd h.1 (by decide))
 have c2:=(wR b hs2 hr2).resolve_right (fun h=>by rw[hb] at h;exact absurd h.1 (by decide))
 have c3:=aEc (bM a) (bM b) (qC hs)
 replace c1:=c1.2
 replace c2:=c2.2
 generalize bM a=x at *
 generalize bM b=y at *
 simp only[ImgD.dv,PartD.dv,StateD.dv,CoordD.dv,GrpD.dv,List.cons_append,List.nil_append] at c1 c2 c3
 (refine aJ.of_body Tryz.func13 rfl rfl Tryz.ntmps13 Tryz.results13 (by simp) ?_)
 (refine gO (ai @ImgD.dv.eq_1 (ai @PartD.dv.eq_1 (ai @StateD.dv.eq_1 (ai @CoordD.dv.eq_1 (@GrpD.dv.eq_1))))) ?_;try with_reducible exact tt)
 (refine aK ?_;try with_reducible exact tt)
end Go.Proofs.YtkmfmphpndhkjaaGreatDoor
