/- The abstract machine (RsA, RsB). -/
import Derived.Test.YtkmfmphpndhkjaaGreatDoorStM
import Derived.Test.YtkmfmphpndhkjaaGreatDoorRnd
namespace Go.Proofs.YtkmfmphpndhkjaaGreatDoor
open Go Go.RowKit
set_option maxHeartbeats 8000000
set_option maxRecDepth 100000
set_option linter.unusedVariables false
set_option linter.unusedSimpArgs false
theorem kW (n a b:Int):aJ Tryz.prog 65 [int n,int a,int b] (dC (aU n a b)):=by
 (refine aJ.of_body Tryz.func65 rfl rfl Tryz.ntmps65 Tryz.results65 (by simp) ?_)
 (refine aI ?_;try with_reducible exact tt)
 (first|refine Wp.sto 6 (vb (aU n a b)) ?_ ?_|refine Wp.rtoS 6 (vb (aU n a b)) ?_ ?_|(refine Wp.seq ?_;first|refine Wp.sto 6 (vb (aU n a b)) ?_ ?_|refine Wp.rtoS 6 (vb (aU n a b)) ?_ ?_))
 ·unfold aU;((rcases Bool.eq_false_or_eq_true (decide (a≤n)) with hL1|hL1)<;>(rcases Bool.eq_false_or_eq_true (decide (n≤b)) with hL2|hL2)<;>(((refine rO (ai hL1 (hL2)) ?_;try with_reducible exact tt);(repeat (refine aQ (by assumption) ?_;(refine rO (ai hL1 (hL2)) ?_;try with_reducible exact tt))));all_goals (exact (show aH _ _=true by kernel_rfl))))
 (refine aI ?_;try with_reducible exact tt)
 (refine aK ?_;try with_reducible exact tt)
theorem aBa (p:PendD):aJ Tryz.prog 67 [.agg p.dv] (dC (dG p)):=by
 have c1:=kW p.grp 0 1
 have c2:=kW p.part 0 2
 have c3:=kW p.off 0 1048576
 (refine aJ.of_body Tryz.func67 rfl rfl Tryz.ntmps67 Tryz.results67 (by simp) ?_)
 (refine gO (@PendD.dv.eq_1) ?_;try with_reducible exact tt)
 (first|refine Wp.sto 2 (vb (dG p)) ?_ ?_|refine Wp.rtoS 2 (vb (dG p)) ?_ ?_|(refine Wp.seq ?_;first|refine Wp.sto 2 (vb (dG p)) ?_ ?_|refine Wp.rtoS 2 (vb (dG p)) ?_ ?_))
 ·unfold dG;((rcases Bool.eq_false_or_eq_true (aU p.grp 0 1) with hL1|hL1)<;>(rcases Bool.eq_false_or_eq_true (aU p.part 0 2) with hL2|hL2)<;>(rcases Bool.eq_false_or_eq_true (aU p.off 0 1048576) with hL3|hL3)<;>(((refine rO (ai hL1 (ai hL2 (ai hL3 (@PendD.dv.eq_1)))) ?_;try with_reducible exact tt);(repeat (refine aQ (by assumption) ?_;(refine rO (ai hL1 (ai hL2 (ai hL3 (@PendD.dv.eq_1)))) ?_;try with_reducible exact tt))));all_goals (exact (show aH _ _=true by kernel_rfl))))
 (refine aI ?_;try with_reducible exact tt)
 (refine aK ?_;try with_reducible exact tt)
theorem aG8 (a b:PendD):aJ Tryz.prog 68 [.agg a.dv,.agg b.dv] (dC (iC a b)):=by
 (refine aJ.of_body Tryz.func68 rfl rfl Tryz.ntmps68 Tryz.results68 (by simp) ?_)
 (refine gO (@PendD.dv.eq_1) ?_;try with_reducible exact tt)
 (first|refine Wp.sto 4 (vb (iC a b)) ?_ ?_|refine Wp.rtoS 4 (vb (iC a b)) ?_ ?_|(refine Wp.seq ?_;first|refine Wp.sto 4 (vb (iC a b)) ?_ ?_|refine Wp.rtoS 4 (vb (iC a b)) ?_ ?_))
 ·unfold iC;((rcases Bool.eq_false_or_eq_true (decide (a.grp<b.grp)) with hL1|hL1)<;>(rcases Bool.eq_false_or_eq_true (a.grp == b.grp) with hL2|hL2)<;>(rcases Bool.eq_false_or_eq_true (decide (a.part<b.part)) with hL3|hL3)<;>(((refine rO (ai hL1 (ai hL2 (ai hL3 (@PendD.dv.eq_1)))) ?_;try with_reducible exact tt);(repeat (refine aQ (by assumption) ?_;(refine rO (ai hL1 (ai hL2 (ai hL3 (@PendD.dv.eq_1)))) ?_;try with_reducible exact tt))));all_goals (exact (show aH _ _=true by kernel_rfl))))
 (refine aI ?_;try with_reducible exact tt)
 (refine aK ?_;try with_reducible exact tt)
theorem aJl (c:CoordD):aJ Tryz.prog 69 [.agg c.dv] (dC (kI c)):=by
 (refine aJ.of_body Tryz.func69 rfl rfl Tryz.ntmps69 Tryz.results69 (by simp) ?_)
 (refine gO (@CoordD.dv.eq_1) ?_;try with_reducible exact tt)
 (first|refine Wp.sto 2 (vb (kI c)) ?_ ?_|refine Wp.rtoS 2 (vb (kI c)) ?_ ?_|(refine Wp.seq ?_;first|refine Wp.sto 2 (vb (kI c)) ?_ ?_|refine Wp.rtoS 2 (vb (kI c)) ?_ ?_))
 ·unfold kI;((rcases Bool.eq_false_or_eq_true (c.st == 2) with hL1|hL1)<;>(rcases Bool.eq_false_or_eq_true (c.st == 3) with hL2|hL2)<;>(rcases Bool.eq_false_or_eq_true (c.st == 4) with hL3|hL3)<;>(((refine rO (ai hL1 (ai hL2 (ai hL3 (@CoordD.dv.eq_1)))) ?_;try with_reducible exact tt);(repeat (refine aQ (by assumption) ?_;(refine rO (ai hL1 (ai hL2 (ai hL3 (@CoordD.dv.eq_1)))) ?_;try with_reducible exact tt))));all_goals (exact (show aH _ _=true by kernel_rfl))))
 (refine aI ?_;try with_reducible exact tt)
 (refine aK ?_;try with_reducible exact tt)
def qG (l:List Int):Nat→Int
 | 0=>-1
 | k+1=>match l[k]? with
  | some n=>n
  | none=>-1
def yK (l:List Int) (k:Nat) (n:Int):Bool:=decide (n≤qG l k) || decide ((3:Int)≤n)
theorem aDv (l:List Int):nV l=true ↔ ∀ (j:Nat) (h:j<l.length),yK l j l[j]=false:=by
 unfold nV
 rw[Bool.and_eq_true,rS,List.all_eq_true]
 constructor
 ·rintro⟨h1,h2⟩ j hj
  have h3:=h2 _ (List.getElem_mem hj)
  simp only[gS,aU,Bool.and_eq_true,decide_eq_true_eq] at h3
  simp only[yK,Bool.or_eq_false_iff,decide_eq_false_iff_not]
  cases j with
  | zero=>simp only[qG];omega
  | succ j =>
   have:=h1 j (by omega)
   simp only[qG,List.getElem?_eq_getElem (show j<l.length by omega)]
   omega
 ·intro h
  have hk:∀ (j:Nat) (hj:j<l.length),qG l j<l[j]∧l[j]<3:=fun j hj=>by
   have:=h j hj
   simp only[yK,Bool.or_eq_false_iff,decide_eq_false_iff_not] at this
   omega
  have hlo:∀ (j:Nat) (hj:j<l.length),0≤l[j]:=by
   intro j
   induction j with
   | zero=>intro hj;have:=(hk 0 hj).1;simp only[qG] at this;omega
   | succ j ih =>
    intro hj
    have h1:=ih (by omega)
    have h2:=(hk (j+1) hj).1
    simp only[qG,List.getElem?_eq_getElem (show j<l.length by omega)] at h2
    omega
  refine⟨fun j hj=>?_,fun x hx=>?_⟩
  ·have h2:=(hk (j+1) hj).1
   simp only[qG,List.getElem?_eq_getElem (show j<l.length by omega)] at h2
   exact h2
  ·obtain⟨j,hj,rfl⟩:=List.getElem_of_mem hx
   have:=hlo j hj
   have:=(hk j hj).2
   simp only[gS,aU,Bool.and_eq_true,decide_eq_true_eq];omega
theorem aKz (l:List Int) (hl:l.length≤100000):aJ Tryz.prog 66 [.lst 1 (l.map fun n=>[int n])] (dC (nV l)):=by
 (refine aJ.of_body Tryz.func66 rfl rfl Tryz.ntmps66 Tryz.results66 (by simp) ?_)
 (refine aI ?_;try with_reducible exact tt)
 refine Wp.loop (fun k:Nat=>⟨dI [(0,.c (.d (.lst 1 (l.map fun n=>[int n])))),(3,vi .i64 (qG l k)),(4,vi .i64 k)],bJ [],0,28,0⟩) (fun k=>k≤l.length∧∀ (j:Nat) (h:j<l.length),j<k→yK l j l[j]=false) (fun k=>l.length - k) 0 ⟨Nat.zero_le _,fun j h h2=>by omega⟩ ?_ ?_
 ·refine aD.keep rfl rfl ?_
  simp (maxSteps:=2000000) (disch:=omega) only[bF,TY,aL,bQ,cD,SV.ofD,bW,cF,bX,fB,bK,fC,eQ,cQ,cL,dO,eZ,eY,fA,CV.exact,CV.lstOf,CV.lenOf,CV.one,D.one,Value.oneCell',CV.toD0,fS,cC,dU,eV,rD0,eS,eO,fT,reduceCtorEq,reduceIte,Nat.reduceBEq,Nat.reduceEqDiff,Nat.reduceAdd,Nat.reduceMul,Nat.reduceSub,Nat.reduceLT,Nat.reduceLeDiff,Nat.reduceBNe,Int.reduceLE,Int.reduceLT,Int.reduceBEq,Int.reduceBNe,Int.reduceEq,Int.reduceNeg,Int.reduceAdd,Int.reduceSub,Int.reduceToNat,forall_const,qG]
 rintro k ⟨hk,hall⟩
 by_cases hlt:k<l.length
 ·have dk:decide ((k:Int)<(l.length:Int))=true:=decide_eq_true (by omega)
  have g1:l[k]? = some l[k]:=List.getElem?_eq_getElem hlt
  have hwk:IntKind.i64.wrap ((k:Int)+1)=((k+1:Nat):Int):=by rw[aG (by omega)];rfl
  have hn:qG l (k+1)=l[k]:=by simp only[qG,g1]
  have hstop:yK l k l[k]=true→nV l=false:=fun h=>by
   cases hr:nV l with
   | false=>rfl
   | true=>have:=(aDv l).1 hr k hlt;rw[h] at this;cases this
  have hgo:yK l k l[k]=false→∀ (j:Nat) (h:j<l.length),j<k+1→yK l j l[j]=false:=fun h j hj hjk=>by
   rcases Nat.lt_or_ge j k with h1|h1
   ·exact hall j hj h1
   ·have e:j=k:=by omega
    subst e;exact h
  generalize l[k]=n at *
  (refine gO (dk) ?_;try with_reducible exact tt)
  (first|refine Wp.sto 23 (vb (yK l k n)) ?_ ?_|refine Wp.rtoS 23 (vb (yK l k n)) ?_ ?_|(refine Wp.seq ?_;first|refine Wp.sto 23 (vb (yK l k n)) ?_ ?_|refine Wp.rtoS 23 (vb (yK l k n)) ?_ ?_))
  ·unfold yK;((rcases Bool.eq_false_or_eq_true (decide (n≤qG l k)) with hL1|hL1)<;>(rcases Bool.eq_false_or_eq_true (decide ((3:Int)≤n)) with hL2|hL2)<;>(((refine rO (ai hL1 (ai hL2 (g1))) ?_;try with_reducible exact tt);(repeat (refine aQ (by assumption) ?_;(refine rO (ai hL1 (ai hL2 (g1))) ?_;try with_reducible exact tt))));all_goals (exact (show aH _ _=true by kernel_rfl))))
  refine Wp.cond (by (refine aK ?_;try with_reducible exact tt);rfl) (fun h=>?_) (fun h=>?_)
  ·have e:=hstop h
   (refine aI ?_;try with_reducible exact tt)
   (refine rO (e) ?_;try with_reducible exact tt)
  ·have hg:=hgo h
   (refine gO (g1) ?_;try with_reducible exact tt)
   refine⟨k+1,⟨by omega,hg⟩,by omega,aD.keep rfl rfl ?_⟩
   (refine rO (ai hwk (hn)) ?_;try with_reducible exact tt)
 ·have dk:decide ((k:Int)<(l.length:Int))=false:=decide_eq_false (by omega)
  have e:nV l=true:=(aDv l).2 (fun j hj=>hall j hj (by omega))
  (refine gO (dk) ?_;try with_reducible exact tt)
  (refine rO (e) ?_;try with_reducible exact tt)
def pQ (a b:CoordD):Bool:=(a.st != b.st) || (a.pid != b.pid) || (a.epoch != b.epoch) || (a.timeout != b.timeout) || (a.thn != b.thn) || (a.age != b.age) || ((a.parts.length:Int) != (b.parts.length:Int)) || ((a.pends.length:Int) != (b.pends.length:Int))
theorem aN2 {a b:CoordD} (h:pQ a b=true):decide (a=b)=false:=by
 refine decide_eq_false (fun e=>?_)
 subst e
 simp[pQ] at h
theorem aN1 {a b:CoordD} (h:pQ a b=false):a.parts.length=b.parts.length∧a.pends.length=b.pends.length∧(a.parts=b.parts→a.pends=b.pends→a=b):=by
 simp only[pQ,Bool.or_eq_false_iff,bne_eq_false_iff_eq] at h
 obtain⟨⟨⟨⟨⟨⟨⟨h1,h2⟩,h3⟩,h4⟩,h5⟩,h6⟩,h7⟩,h8⟩:=h
 refine⟨by omega,by omega,fun h9 h10=>?_⟩
 obtain⟨a1,a2,a3,a4,a5,a6,a7,a8⟩:=a
 obtain⟨b1,b2,b3,b4,b5,b6,b7,b8⟩:=b
 simp only at h1 h2 h3 h4 h5 h6 h9 h10
 subst h1 h2 h3 h4 h5 h6 h9 h10
 rfl
theorem qB (a b:CoordD) (hs:SmallC a):aJ Tryz.prog 60 [.agg a.dv,.agg b.dv] (dC (decide (a=b))):=by
 have hp1:=hs.parts
 have hp2:=hs.pends
 (refine aJ.of_body Tryz.func60 rfl rfl Tryz.ntmps60 Tryz.results60 (by simp) ?_)
 (refine gO (@CoordD.dv.eq_1) ?_;try with_reducible exact tt)
 (first|refine Wp.sto 64 (vb (pQ a b)) ?_ ?_|refine Wp.rtoS 64 (vb (pQ a b)) ?_ ?_|(refine Wp.seq ?_;first|refine Wp.sto 64 (vb (pQ a b)) ?_ ?_|refine Wp.rtoS 64 (vb (pQ a b)) ?_ ?_))
 ·unfold pQ;((rcases Bool.eq_false_or_eq_true (a.st != b.st) with hL1|hL1;focus (((refine rO (ai hL1 (@CoordD.dv.eq_1)) ?_;try with_reducible exact tt);(repeat (refine aQ (by assumption) ?_;(refine rO (ai hL1 (@CoordD.dv.eq_1)) ?_;try with_reducible exact tt))));all_goals (exact (show aH _ _=true by kernel_rfl))));(rcases Bool.eq_false_or_eq_true (a.pid != b.pid) with hL2|hL2;focus (((refine rO (ai hL1 (ai hL2 (@CoordD.dv.eq_1))) ?_;try with_reducible exact tt);(repeat (refine aQ (by assumption) ?_;(refine rO (ai hL1 (ai hL2 (@CoordD.dv.eq_1))) ?_;try with_reducible exact tt))));all_goals (exact (show aH _ _=true by kernel_rfl))));(rcases Bool.eq_false_or_eq_true (a.epoch != b.epoch) with hL3|hL3;focus (((refine rO (ai hL1 (ai hL2 (ai hL3 (@CoordD.dv.eq_1)))) ?_;try with_reducible exact tt);(repeat (refine aQ (by assumption) ?_;(refine rO (ai hL1 (ai hL2 (ai hL3 (@CoordD.dv.eq_1)))) ?_;try with_reducible exact tt))));all_goals (exact (show aH _ _=true by kernel_rfl))));(rcases Bool.eq_false_or_eq_true (a.timeout != b.timeout) with hL4|hL4;focus (((refine rO (ai hL1 (ai hL2 (ai hL3 (ai hL4 (@CoordD.dv.eq_1))))) ?_;try with_reducible exact tt);(repeat (refine aQ (by assumption) ?_;(refine rO (ai hL1 (ai hL2 (ai hL3 (ai hL4 (@CoordD.dv.eq_1))))) ?_;try with_reducible exact tt))));all_goals (exact (show aH _ _=true by kernel_rfl))));(rcases Bool.eq_false_or_eq_true (a.thn != b.thn) with hL5|hL5;focus (((refine rO (ai hL1 (ai hL2 (ai hL3 (ai hL4 (ai hL5 (@CoordD.dv.eq_1)))))) ?_;try with_reducible exact tt);(repeat (refine aQ (by assumption) ?_;(refine rO (ai hL1 (ai hL2 (ai hL3 (ai hL4 (ai hL5 (@CoordD.dv.eq_1)))))) ?_;try with_reducible exact tt))));all_goals (exact (show aH _ _=true by kernel_rfl))));(rcases Bool.eq_false_or_eq_true (a.age != b.age) with hL6|hL6;focus (((refine rO (ai hL1 (ai hL2 (ai hL3 (ai hL4 (ai hL5 (ai hL6 (@CoordD.dv.eq_1))))))) ?_;try with_reducible exact tt);(repeat (refine aQ (by assumption) ?_;(refine rO (ai hL1 (ai hL2 (ai hL3 (ai hL4 (ai hL5 (ai hL6 (@CoordD.dv.eq_1))))))) ?_;try with_reducible exact tt))));all_goals (exact (show aH _ _=true by kernel_rfl))));(rcases Bool.eq_false_or_eq_true ((a.parts.length:Int) != (b.parts.length:Int)) with hL7|hL7;focus (((refine rO (ai hL1 (ai hL2 (ai hL3 (ai hL4 (ai hL5 (ai hL6 (ai hL7 (@CoordD.dv.eq_1)))))))) ?_;try with_reducible exact tt);(repeat (refine aQ (by assumption) ?_;(refine rO (ai hL1 (ai hL2 (ai hL3 (ai hL4 (ai hL5 (ai hL6 (ai hL7 (@CoordD.dv.eq_1)))))))) ?_;try with_reducible exact tt))));all_goals (exact (show aH _ _=true by kernel_rfl))));(rcases Bool.eq_false_or_eq_true ((a.pends.length:Int) != (b.pends.length:Int)) with hL8|hL8;focus (((refine rO (ai hL1 (ai hL2 (ai hL3 (ai hL4 (ai hL5 (ai hL6 (ai hL7 (ai hL8 (@CoordD.dv.eq_1))))))))) ?_;try with_reducible exact tt);(repeat (refine aQ (by assumption) ?_;(refine rO (ai hL1 (ai hL2 (ai hL3 (ai hL4 (ai hL5 (ai hL6 (ai hL7 (ai hL8 (@CoordD.dv.eq_1))))))))) ?_;try with_reducible exact tt))));all_goals (exact (show aH _ _=true by kernel_rfl))));((refine rO (ai hL1 (ai hL2 (ai hL3 (ai hL4 (ai hL5 (ai hL6 (ai hL7 (ai hL8 (@CoordD.dv.eq_1))))))))) ?_;try with_reducible exact tt);(repeat (refine aQ (by assumption) ?_;(refine rO (ai hL1 (ai hL2 (ai hL3 (ai hL4 (ai hL5 (ai hL6 (ai hL7 (ai hL8 (@CoordD.dv.eq_1))))))))) ?_;try with_reducible exact tt))));all_goals (exact (show aH _ _=true by kernel_rfl)))
 refine Wp.cond (by (refine aK ?_;try with_reducible exact tt);rfl) (fun h=>?_) (fun h=>?_)
 ·have e:=aN2 h
  (refine aI ?_;try with_reducible exact tt)
  (refine rO (e) ?_;try with_reducible exact tt)
 obtain⟨l1,l2,hfin⟩:=aN1 h
 clear h
 (refine aI ?_;try with_reducible exact tt)
 refine Wp.loop (fun k:Nat=>⟨dI [(2,.c (.own 0 0)),(3,.c (.own 1 0)),(5,vi .i64 k)],bJ [(0,.cells (a.dv.map .d)),(1,.cells (b.dv.map .d))],2,101,0⟩) (fun k=>k≤a.parts.length∧a.parts.take k=b.parts.take k) (fun k=>a.parts.length - k) 0 ⟨Nat.zero_le _,rfl⟩ ?_ ?_
 ·refine aD.keep rfl rfl ?_
  (refine rO (@CoordD.dv.eq_1) ?_;try with_reducible exact tt)
 rintro k ⟨hk,hall⟩
 by_cases hlt:k<a.parts.length
 ·have dk:decide ((k:Int)<(a.parts.length:Int))=true:=decide_eq_true (by omega)
  have g1:a.parts[k]? = some a.parts[k]:=List.getElem?_eq_getElem hlt
  have g2:b.parts[k]? = some (b.parts[k]'(by omega)):=List.getElem?_eq_getElem (by omega)
  have hwk:IntKind.i64.wrap ((k:Int)+1)=((k+1:Nat):Int):=by rw[aG (by omega)];rfl
  have t1:=aF a.parts k hlt
  have t2:=aF b.parts k (by omega)
  have hne:a.parts[k]≠b.parts[k]'(by omega)→¬ a=b:=fun hx e=>by subst e;exact hx rfl
  generalize a.parts[k]=x at *
  generalize b.parts[k]'(by omega)=y at *
  (refine gO (ai dk (ai @CoordD.dv.eq_1 (ai g1 (g2)))) ?_;try with_reducible exact tt)
  refine Wp.cond (by (refine aK ?_;try with_reducible exact tt);rfl) (fun h=>?_) (fun h=>?_)
  ·have e:decide (a=b)=false:=decide_eq_false (hne (by simpa using h))
   (refine aI ?_;try with_reducible exact tt)
   (refine rO (e) ?_;try with_reducible exact tt)
  ·have h:x=y:=by simpa using h
   (refine aI ?_;try with_reducible exact tt)
   refine⟨k+1,⟨by omega,by rw[t1,t2,hall,h]⟩,by omega,aD.keep rfl rfl ?_⟩
   (refine rO (ai hwk (@CoordD.dv.eq_1)) ?_;try with_reducible exact tt)
 have hpe:a.parts=b.parts:=by
  rw[List.take_of_length_le (by omega),List.take_of_length_le (by omega)] at hall;exact hall
 have dk:decide ((k:Int)<(a.parts.length:Int))=false:=decide_eq_false (by omega)
 (refine gO (ai dk (@CoordD.dv.eq_1)) ?_;try with_reducible exact tt)
 clear hall hlt hk dk
 refine Wp.loop (fun k:Nat=>⟨dI [(2,.c (.own 0 0)),(3,.c (.own 1 0)),(6,vi .i64 k)],bJ [(0,.cells (a.dv.map .d)),(1,.cells (b.dv.map .d))],2,101,0⟩) (fun k=>k≤a.pends.length∧a.pends.take k=b.pends.take k) (fun k=>a.pends.length - k) 0 ⟨Nat.zero_le _,rfl⟩ ?_ ?_
 ·refine aD.keep rfl rfl ?_
  (refine rO (@CoordD.dv.eq_1) ?_;try with_reducible exact tt)
 rintro k ⟨hk,hall⟩
 by_cases hlt:k<a.pends.length
 ·have dk:decide ((k:Int)<(a.pends.length:Int))=true:=decide_eq_true (by omega)
  have g1:a.pends[k]? = some a.pends[k]:=List.getElem?_eq_getElem hlt
  have g2:b.pends[k]? = some (b.pends[k]'(by omega)):=List.getElem?_eq_getElem (by omega)
  have hwk:IntKind.i64.wrap ((k:Int)+1)=((k+1:Nat):Int):=by rw[aG (by omega)];rfl
  have t1:=aF a.pends k hlt
  have t2:=aF b.pends k (by omega)
  have hne:a.pends[k]≠b.pends[k]'(by omega)→¬ a=b:=fun hx e=>by subst e;exact hx rfl
  generalize a.pends[k]=x at *
  generalize b.pends[k]'(by omega)=y at *
  (refine gO (ai dk (ai @CoordD.dv.eq_1 (ai g1 (ai g2 (ai @PendD.dv.eq_1 (aCs)))))) ?_;try with_reducible exact tt)
  refine Wp.cond (by (refine aK ?_;try with_reducible exact tt);rfl) (fun h=>?_) (fun h=>?_)
  ·have e:decide (a=b)=false:=decide_eq_false (hne (by simpa using h))
   (refine aI ?_;try with_reducible exact tt)
   (refine rO (e) ?_;try with_reducible exact tt)
  ·have h:x=y:=by simpa using h
   (refine aI ?_;try with_reducible exact tt)
   refine⟨k+1,⟨by omega,by rw[t1,t2,hall,h]⟩,by omega,aD.keep rfl rfl ?_⟩
   (refine rO (ai hwk (@CoordD.dv.eq_1)) ?_;try with_reducible exact tt)
 have hqe:a.pends=b.pends:=by
  rw[List.take_of_length_le (by omega),List.take_of_length_le (by omega)] at hall;exact hall
 have dk:decide ((k:Int)<(a.pends.length:Int))=false:=decide_eq_false (by omega)
 have e:decide (a=b)=true:=decide_eq_true (hfin hpe hqe)
 (refine gO (ai dk (@CoordD.dv.eq_1)) ?_;try with_reducible exact tt)
 (refine rO (e) ?_;try with_reducible exact tt)
def tO (c:CoordD):Bool:=!aU c.st 1 6 || !aU c.pid 1 8 || !aU c.epoch 0 100 || !aU c.timeout 1 20 || !aU c.age 0 1048576 || !nV c.parts || !aU c.thn 0 20
def kB (l:List PendD) (k:Nat) (x:PendD):Bool:=!dG x || (decide (0<k) && match l[k - 1]? with
 | some y=>!iC y x
 | none=>false)
def pR (c:CoordD):Bool:=(!kI c && (decide ((0:Int)<(c.parts.length:Int)) || decide ((0:Int)<(c.pends.length:Int)) || decide (0<c.age))) || (c.st == 2 && ((c.parts.length:Int) == 0) && ((c.pends.length:Int) == 0))
def qE (c:CoordD):Bool:=c.thn == 0 || (c.st == 4 && decide (c.epoch<100))
theorem aIi (l:List PendD):(l.all dG && oL l)=true ↔ ∀ (j:Nat) (h:j<l.length),kB l j l[j]=false:=by
 rw[Bool.and_eq_true,vT,List.all_eq_true]
 constructor
 ·rintro⟨h1,h2⟩ j hj
  have h3:=h1 _ (List.getElem_mem hj)
  unfold kB
  rw[h3]
  cases j with
  | zero=>rfl
  | succ j =>
   have:=h2 j (by omega)
   simp only[Nat.add_sub_cancel,List.getElem?_eq_getElem (show j<l.length by omega),this]
   simp
 ·intro h
  refine⟨fun x hx=>?_,fun j hj=>?_⟩
  ·obtain⟨j,hj,rfl⟩:=List.getElem_of_mem hx
   have:=h j hj
   simp only[kB,Bool.or_eq_false_iff,Bool.not_eq_false'] at this
   exact this.1
  ·have:=h (j+1) hj
   simp only[kB,Bool.or_eq_false_iff,Nat.add_sub_cancel,List.getElem?_eq_getElem (show j<l.length by omega)] at this
   simpa using this.2
theorem aPr (c:CoordD) (h0:(c.st == 0)=false):fF c=(!tO c && ((c.pends.all dG && oL c.pends) && (!pR c && qE c))):=by
 have hP:decide ((0:Int)<(c.parts.length:Int)) = !(c.parts == []):=by cases c.parts<;>simp
 have hQ:decide ((0:Int)<(c.pends.length:Int)) = !(c.pends == []):=by cases c.pends<;>simp
 unfold fF
 rw[if_neg (by rw[h0];simp)]
 unfold lT dK tO pR qE kI
 rw[hP,hQ,aNd,aNd]
 generalize (c.parts == [])=P
 generalize (c.pends == [])=Q
 generalize c.pends.all dG=A
 generalize oL c.pends=S
 generalize nV c.parts=R
 unfold aU
 generalize c.st=st at *
 generalize c.pid=pid
 generalize c.epoch=ep
 generalize c.timeout=tm
 generalize c.age=age
 generalize c.thn=thn
 simp only[beq_eq_false_iff_ne] at h0
 grind
end Go.Proofs.YtkmfmphpndhkjaaGreatDoor
