/- Layer 10's statements: great ones,wakes. -/
import Derived.Test.YtpklhnpchhaccaaGreatDoorSqN
namespace Go.Proofs.YtpklhnpchhaccaaGreatDoor
open Go Go.RowKit
set_option maxHeartbeats 4000000
set_option maxRecDepth 100000
set_option linter.unusedVariables false
set_option linter.unusedSimpArgs false
def m5 (n:Int):Int:=if (5000:Int)<n then 5000 else n
def xK:List RecD→Int
 | []=>0
 | r::l=>m5 r.key.length+m5 r.value.length+xK l
theorem aFz (r:RecD):∀ l:List RecD,xK (l++[r])=xK l+(m5 r.key.length+m5 r.value.length)
 | []=>by simp[xK]
 | a::l=>by simp only[List.cons_append,xK,aFz r l];omega
theorem aH9 (n:Nat):0≤m5 n∧m5 n≤5000:=by unfold m5;split<;>omega
theorem aL0:∀ l:List RecD,0≤xK l∧xK l≤10000*l.length
 | []=>by simp[xK]
 | r::l=>by
  have h1:=aH9 r.key.length
  have h2:=aH9 r.value.length
  have h3:=aL0 l
  simp only[xK,List.length_cons]
  omega
def g06 (b:BatD):Bool:=decide (60<(b.recs.length:Int)) || decide (4000<xK (b.recs.take 61))
theorem aJm (b:BatD):bF Tryz.prog 22 [.agg b.dv] (gD (g06 b)):=by
 (refine bF.of_body Tryz.func22 rfl rfl Tryz.ntmps22 Tryz.results22 (by simp) ?_)
 (refine gO (@BatD.dv.eq_1) ?_)
 refine Wp.loop (fun k:Nat=>⟨iC [(1,.c (.own 0 0)),(3,vi .i64 (xK (b.recs.take k))),(4,vi .i64 k)],bK [(0,.cells (b.dv.map .d))],1,43,0⟩) (fun k=>k≤b.recs.length∧k≤61) (fun k=>b.recs.length - k) 0 ⟨Nat.zero_le _,Nat.zero_le _⟩ ?_ ?_
 ·refine aD.keep rfl rfl ?_
  simp (maxSteps:=2000000) (disch:=omega) only[gE,TY,bV,eJ,fQ,SV.ofD,dS,eQ,fL,fM,bP,fN,eW,eT,fO,eN,fJ,fI,fK,CV.exact,CV.lstOf,CV.lenOf,CV.one,D.one,Value.oneCell',CV.toD0,fT,eB,fW,fG,rD0,gA,fF,fV,reduceCtorEq,reduceIte,Nat.reduceBEq,Nat.reduceEqDiff,Nat.reduceAdd,Nat.reduceMul,Nat.reduceSub,Nat.reduceLT,Nat.reduceLeDiff,Nat.reduceBNe,Int.reduceLE,Int.reduceLT,Int.reduceBEq,Int.reduceBNe,Int.reduceEq,Int.reduceNeg,Int.reduceAdd,Int.reduceSub,Int.reduceToNat,forall_const,BatD.dv,xK,List.take_zero]
 rintro k ⟨hk,hk61⟩
 (refine gO (@BatD.dv.eq_1) ?_)
 (first|refine Wp.sto 13 (vb (decide ((k:Int)<(b.recs.length:Int)) && decide ((k:Int)≤60))) ?_ ?_|refine Wp.rtoS 13 (vb (decide ((k:Int)<(b.recs.length:Int)) && decide ((k:Int)≤60))) ?_ ?_|(refine Wp.seq ?_;first|refine Wp.sto 13 (vb (decide ((k:Int)<(b.recs.length:Int)) && decide ((k:Int)≤60))) ?_ ?_|refine Wp.rtoS 13 (vb (decide ((k:Int)<(b.recs.length:Int)) && decide ((k:Int)≤60))) ?_ ?_))
 ·((rcases Bool.eq_false_or_eq_true (decide ((k:Int)<(b.recs.length:Int))) with hL1|hL1)<;>(rcases Bool.eq_false_or_eq_true (decide ((k:Int)≤60)) with hL2|hL2)<;>(((refine rO (ai hL1 (ai hL2 (@BatD.dv.eq_1))) ?_;try with_reducible exact tt);(repeat (refine eA (by assumption) ?_;(refine rO (ai hL1 (ai hL2 (@BatD.dv.eq_1))) ?_))));all_goals (exact (show bI _ _=true by kernel_rfl))))
 refine Wp.cond (by (refine aY ?_);rfl) (fun h=>?_) (fun h=>?_)
 ·simp only[Bool.and_eq_true,decide_eq_true_eq] at h
  have hlt:k<b.recs.length:=by omega
  have hk60:k+1≤61:=by omega
  have hge:b.recs[k]? = some b.recs[k]:=List.getElem?_eq_getElem hlt
  have htk:=aU b.recs k hlt
  have hsr:=aL0 (b.recs.take k)
  have htl:(b.recs.take k).length=k:=by rw[List.length_take];omega
  rw[htl] at hsr
  generalize b.recs[k]=r at *
  have h1:=aH9 r.key.length
  have h2:=aH9 r.value.length
  have hm1:(if (5000:Int)<(r.key.length:Int) then (5000:Int) else (r.key.length:Int))=m5 r.key.length:=rfl
  have hm2:(if (5000:Int)<(r.value.length:Int) then (5000:Int) else (r.value.length:Int))=m5 r.value.length:=rfl
  have hsn:=aFz r (b.recs.take k)
  rw[← htk] at hsn
  generalize m5 r.key.length=x at *
  generalize m5 r.value.length=y at *
  generalize xK (b.recs.take k)=n at *
  have hw1:IntKind.i64.wrap (n+x)=n+x:=aT ⟨by omega,by omega⟩
  have hw2:IntKind.i64.wrap (n+x+y)=n+(x+y):=by rw[aT ⟨by omega,by omega⟩];omega
  (refine gO (ai hge (ai @BatD.dv.eq_1 (ai @RecD.dv.eq_1 (ai hm1 (ai hm2 (ai hw1 (hw2))))))) ?_)
  refine⟨k+1,⟨by omega,hk60⟩,by omega,aD.keep rfl rfl ?_⟩
  (refine rO (ai @BatD.dv.eq_1 (ai hsn (ai hw1 (ai hw2 (ai hm1 (ai hm2 (@Int.add_assoc))))))) ?_;try with_reducible exact tt)
 ·have hor:k=b.recs.length∨k=61:=by
   simp only[Bool.and_eq_false_iff,decide_eq_false_iff_not] at h
   omega
  have ht:b.recs.take 61=b.recs.take k:=by
   rcases hor with rfl|rfl
   ·rw[List.take_length,List.take_of_length_le (by omega)]
   ·rfl
  (refine gO (@BatD.dv.eq_1) ?_)
  (first|refine Wp.sto 2 (vb (g06 b)) ?_ ?_|refine Wp.rtoS 2 (vb (g06 b)) ?_ ?_|(refine Wp.seq ?_;first|refine Wp.sto 2 (vb (g06 b)) ?_ ?_|refine Wp.rtoS 2 (vb (g06 b)) ?_ ?_))
  ·unfold g06;rw[ht];((rcases Bool.eq_false_or_eq_true (decide (60<(b.recs.length:Int))) with hL1|hL1)<;>(rcases Bool.eq_false_or_eq_true (decide (4000<xK (b.recs.take k))) with hL2|hL2)<;>(((refine rO (ai hL1 (ai hL2 (@BatD.dv.eq_1))) ?_;try with_reducible exact tt);(repeat (refine eA (by assumption) ?_;(refine rO (ai hL1 (ai hL2 (@BatD.dv.eq_1))) ?_))));all_goals (exact (show bI _ _=true by kernel_rfl))))
  (refine cA ?_)
  (refine aY ?_;try with_reducible exact tt)
end Go.Proofs.YtpklhnpchhaccaaGreatDoor
