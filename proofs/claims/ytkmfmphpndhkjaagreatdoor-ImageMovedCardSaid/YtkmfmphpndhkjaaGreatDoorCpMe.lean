/- The abstract machine (CpD0, CpD, EnC). -/
import Derived.Test.YtkmfmphpndhkjaaGreatDoorApA
import Derived.Test.YtkmfmphpndhkjaaGreatDoorSqM
import Derived.Test.YtkmfmphpndhkjaaGreatDoorEnM
import Derived.Test.YtkmfmphpndhkjaaGreatDoorSqN
namespace Go.Proofs.YtkmfmphpndhkjaaGreatDoor
open Go Go.RowKit
set_option maxHeartbeats 8000000
set_option maxRecDepth 100000
set_option linter.unusedVariables false
set_option linter.unusedSimpArgs false
/-! too great? -/
theorem aRm (f g:RecD):∃ fs,Tryz.prog.underlying 129=some (.struct fs)∧uV Tryz.prog 9999 #[.string ⟨List.toArray f.key⟩,.string ⟨List.toArray f.value⟩] #[.string ⟨List.toArray g.key⟩,.string ⟨List.toArray g.value⟩] fs.toList=some (decide (f=g)):=by
 refine⟨_,Tryz.underlying129,?_⟩
 have is:aT Tryz.prog (isAgg 9)=some false:=by kernel_rfl
 have ss:=fun x y=>aH3 (d:=9998) Tryz.underlying9 x y
 simp only[Nat.reduceAdd] at ss
 obtain⟨a1,a2⟩:=f
 obtain⟨b1,b2⟩:=g
 have e:decide (RecD.mk a1 a2=RecD.mk b1 b2)=(a1 == b1 && (a2 == b2)):=by rw[Bool.eq_iff_iff];simp only[RecD.mk.injEq,Bool.and_eq_true,beq_iff_eq,decide_eq_true_eq]
 rw[e]
 cases h1:(a1 == b1)<;>cases h2:(a2 == b2)<;>simp[uV,is,ss,aEd,h1,h2]
theorem aG2 (x y:Operand) (f g:RecD):gG Tryz.prog .eql 129 x y (.agg [.d (str f.key),.d (str f.value)]) (.agg [.d (str g.key),.d (str g.value)])=some (Res.pure (vb (decide (f=g))))∧gG Tryz.prog .neq 129 x y (.agg [.d (str f.key),.d (str f.value)]) (.agg [.d (str g.key),.d (str g.value)])=some (Res.pure (vb (!decide (f=g)))):=by
 obtain⟨fs,hu,he⟩:=aRm f g
 exact yX hu (by kernel_rfl) (by kernel_rfl) he
def zQ (a b:BatD):Bool:=a.pid != b.pid || a.epoch != b.epoch || a.seq != b.seq || !(a.txn == b.txn) || (a.recs.length:Int) != (b.recs.length:Int)
theorem aIs (a b:BatD) (hl:a.recs.length<2 ^ 40):aJ Tryz.prog 92 [.agg a.dv,.agg b.dv] (dC (decide (a=b))):=by
 (refine aJ.of_body Tryz.func92 rfl rfl Tryz.ntmps92 Tryz.results92 (by simp) ?_)
 (refine gO (@BatD.dv.eq_1) ?_)
 (first|refine Wp.sto 40 (vb (zQ a b)) ?_ ?_|refine Wp.rtoS 40 (vb (zQ a b)) ?_ ?_|(refine Wp.seq ?_;first|refine Wp.sto 40 (vb (zQ a b)) ?_ ?_|refine Wp.rtoS 40 (vb (zQ a b)) ?_ ?_))
 ·unfold zQ;((rcases Bool.eq_false_or_eq_true (a.pid != b.pid) with hL1|hL1;focus (((refine rO (ai hL1 (@BatD.dv.eq_1)) ?_;try with_reducible exact tt);(repeat (refine aQ (by assumption) ?_;(refine rO (ai hL1 (@BatD.dv.eq_1)) ?_))));all_goals (exact (show aH _ _=true by kernel_rfl))));(rcases Bool.eq_false_or_eq_true (a.epoch != b.epoch) with hL2|hL2;focus (((refine rO (ai hL1 (ai hL2 (@BatD.dv.eq_1))) ?_;try with_reducible exact tt);(repeat (refine aQ (by assumption) ?_;(refine rO (ai hL1 (ai hL2 (@BatD.dv.eq_1))) ?_))));all_goals (exact (show aH _ _=true by kernel_rfl))));(rcases Bool.eq_false_or_eq_true (a.seq != b.seq) with hL3|hL3;focus (((refine rO (ai hL1 (ai hL2 (ai hL3 (@BatD.dv.eq_1)))) ?_;try with_reducible exact tt);(repeat (refine aQ (by assumption) ?_;(refine rO (ai hL1 (ai hL2 (ai hL3 (@BatD.dv.eq_1)))) ?_))));all_goals (exact (show aH _ _=true by kernel_rfl))));(rcases Bool.eq_false_or_eq_true (!(a.txn == b.txn)) with hL4|hL4;focus (((refine rO (ai hL1 (ai hL2 (ai hL3 (ai hL4 (@BatD.dv.eq_1))))) ?_;try with_reducible exact tt);(repeat (refine aQ (by assumption) ?_;(refine rO (ai hL1 (ai hL2 (ai hL3 (ai hL4 (@BatD.dv.eq_1))))) ?_))));all_goals (exact (show aH _ _=true by kernel_rfl))));(rcases Bool.eq_false_or_eq_true ((a.recs.length:Int) != (b.recs.length:Int)) with hL5|hL5;focus (((refine rO (ai hL1 (ai hL2 (ai hL3 (ai hL4 (ai hL5 (@BatD.dv.eq_1)))))) ?_;try with_reducible exact tt);(repeat (refine aQ (by assumption) ?_;(refine rO (ai hL1 (ai hL2 (ai hL3 (ai hL4 (ai hL5 (@BatD.dv.eq_1)))))) ?_))));all_goals (exact (show aH _ _=true by kernel_rfl))));((refine rO (ai hL1 (ai hL2 (ai hL3 (ai hL4 (ai hL5 (@BatD.dv.eq_1)))))) ?_;try with_reducible exact tt);(repeat (refine aQ (by assumption) ?_;(refine rO (ai hL1 (ai hL2 (ai hL3 (ai hL4 (ai hL5 (@BatD.dv.eq_1)))))) ?_))));all_goals (exact (show aH _ _=true by kernel_rfl)))
 refine Wp.cond (by (refine aK ?_);rfl) (fun h=>?_) (fun h=>?_)
 ·have hf:decide (a=b)=false:=by
   refine decide_eq_false (fun e=>?_)
   subst e
   simp[zQ] at h
  (refine aI ?_)
  (refine rO (hf) ?_;try with_reducible exact tt)
 simp only[zQ,Bool.or_eq_false_iff,bne_eq_false_iff_eq,Bool.not_eq_false',beq_iff_eq] at h
 obtain⟨⟨⟨⟨h1,h2⟩,h3⟩,h4⟩,h5⟩:=h
 have hlen:a.recs.length=b.recs.length:=by omega
 (refine gO (@BatD.dv.eq_1) ?_)
 refine Wp.loop (fun k:Nat=>⟨dI [(2,.c (.own 0 0)),(3,.c (.own 1 0)),(5,vi .i64 k)],bJ [(0,.cells (a.dv.map .d)),(1,.cells (b.dv.map .d))],2,59,0⟩) (fun k=>k≤a.recs.length∧a.recs.take k=b.recs.take k) (fun k=>a.recs.length - k) 0 ⟨Nat.zero_le _,rfl⟩ ?_ ?_
 ·refine aD.keep rfl rfl ?_
  (refine rO (@BatD.dv.eq_1) ?_;try with_reducible exact tt)
 rintro k ⟨hk,hall⟩
 (refine gO (@BatD.dv.eq_1) ?_)
 refine Wp.cond (by (refine aK ?_);rfl) (fun h=>?_) (fun h=>?_)
 ·have hlt:k<a.recs.length:=by simpa using h
  have hlt2:k<b.recs.length:=by omega
  have g1:a.recs[k]? = some a.recs[k]:=List.getElem?_eq_getElem hlt
  have g2:b.recs[k]? = some b.recs[k]:=List.getElem?_eq_getElem hlt2
  have t1:=aF a.recs k hlt
  have t2:=aF b.recs k hlt2
  have hne:a.recs[k]≠b.recs[k]→¬ a=b:=fun hx e=>by subst e;exact hx rfl
  generalize a.recs[k]=x at *
  generalize b.recs[k]=y at *
  (refine gO (ai g1 (ai g2 (ai @RecD.dv.eq_1 (@aG2)))) ?_)
  refine Wp.cond (by (refine aK ?_);rfl) (fun h=>?_) (fun h=>?_)
  ·have hf:decide (a=b)=false:=decide_eq_false (hne (by simpa using h))
   (refine aI ?_)
   (refine rO (hf) ?_;try with_reducible exact tt)
  ·simp only[Bool.not_eq_false',decide_eq_true_eq] at h
   (refine aI ?_)
   refine⟨k+1,⟨by omega,by rw[t1,t2,hall,h]⟩,by omega,aD.keep rfl rfl ?_⟩
   (refine rO (@BatD.dv.eq_1) ?_;try with_reducible exact tt)
 ·have hk:k=a.recs.length:=by simp only[decide_eq_false_iff_not] at h;omega
  have hf:decide (a=b)=true:=by
   rw[List.take_of_length_le (by omega),List.take_of_length_le (by omega)] at hall
   obtain⟨a1,a2,a3,a4,a5⟩:=a
   obtain⟨b1,b2,b3,b4,b5⟩:=b
   simp only at h1 h2 h3 h4 hall
   subst h1 h2 h3 h4 hall
   simp
  (refine aI ?_)
  (refine rO (hf) ?_;try with_reducible exact tt)
theorem aK0 (a b:List RecD) (hl:a.length≤100000):aJ Tryz.prog 130 [.lst 2 (a.map RecD.dv),.lst 2 (b.map RecD.dv)] (dC (decide (a=b))):=by
 (refine aJ.of_body Tryz.func130 rfl rfl Tryz.ntmps130 Tryz.results130 (by simp) ?_)
 by_cases hlen:a.length=b.length
 ·have hne:((a.length:Int) != (b.length:Int))=false:=by simp[hlen]
  (refine gO (hne) ?_;try with_reducible exact tt)
  refine Wp.loop (fun k:Nat=>⟨dI [(0,.c (.d (.lst 2 (a.map RecD.dv)))),(1,.c (.d (.lst 2 (b.map RecD.dv)))),(12,vi .i64 a.length),(13,vi .i64 k)],bJ [],0,26,0⟩) (fun k=>k≤a.length∧a.take k=b.take k) (fun k=>a.length - k) 0 ⟨Nat.zero_le _,rfl⟩ ?_ ?_
  ·refine aD.keep rfl rfl ?_
   (refine aK ?_;try with_reducible exact tt)
  rintro k ⟨hk,hall⟩
  (refine aI ?_;try with_reducible exact tt)
  refine Wp.cond (by (refine aK ?_;try with_reducible exact tt);rfl) (fun h=>?_) (fun h=>?_)
  ·have hlt:k<a.length:=by simpa using h
   have hlt2:k<b.length:=by omega
   have g1:a[k]? = some a[k]:=List.getElem?_eq_getElem hlt
   have g2:b[k]? = some b[k]:=List.getElem?_eq_getElem hlt2
   have t1:=aF a k hlt
   have t2:=aF b k hlt2
   have hne:a[k]≠b[k]→¬ a=b:=fun hx e=>by subst e;exact hx rfl
   generalize a[k]=x at *
   generalize b[k]=y at *
   (refine gO (ai g1 (ai g2 (ai @RecD.dv.eq_1 (aG2)))) ?_;try with_reducible exact tt)
   refine Wp.cond (by (refine aK ?_;try with_reducible exact tt);rfl) (fun h=>?_) (fun h=>?_)
   ·have hf:decide (a=b)=false:=decide_eq_false (hne (by simpa using h))
    (refine aI ?_;try with_reducible exact tt)
    (refine rO (hf) ?_;try with_reducible exact tt)
   ·simp only[Bool.not_eq_false',decide_eq_true_eq] at h
    (refine aI ?_;try with_reducible exact tt)
    refine⟨k+1,⟨by omega,by rw[t1,t2,hall,h]⟩,by omega,aD.keep rfl rfl ?_⟩
    (refine aK ?_;try with_reducible exact tt)
  ·have hk:k=a.length:=by simp only[decide_eq_false_iff_not] at h;omega
   have hf:decide (a=b)=true:=by
    rw[List.take_of_length_le (by omega),List.take_of_length_le (by omega)] at hall;simp[hall]
   (refine aI ?_;try with_reducible exact tt)
   (refine rO (hf) ?_;try with_reducible exact tt)
 ·have hne:((a.length:Int) != (b.length:Int))=true:=by simp;omega
  have hf:decide (a=b)=false:=decide_eq_false (fun e=>hlen (by rw[e]))
  (refine gO (hne) ?_;try with_reducible exact tt)
  (refine rO (hf) ?_;try with_reducible exact tt)
def tC (a b:BatD):Bool:=a.pid == b.pid && a.epoch == b.epoch && a.seq == b.seq && a.txn == b.txn && decide (a.recs=b.recs)
theorem aMj (a b:BatD):tC a b=decide (a=b):=by
 rw[Bool.eq_iff_iff]
 obtain⟨a1,a2,a3,a4,a5⟩:=a
 obtain⟨b1,b2,b3,b4,b5⟩:=b
 simp only[tC,Bool.and_eq_true,beq_iff_eq,decide_eq_true_eq,BatD.mk.injEq,and_assoc]
theorem aJy (a b:BatD) (hl:a.recs.length≤100000):aJ Tryz.prog 99 [.agg a.dv,.agg b.dv] (dC (decide (a=b))):=by
 have c1:=aK0 a.recs b.recs hl
 rw[← aMj]
 (refine aJ.of_body Tryz.func99 rfl rfl Tryz.ntmps99 Tryz.results99 (by simp) ?_)
 (refine gO (@BatD.dv.eq_1) ?_;try with_reducible exact tt)
 (first|refine Wp.sto 4 (vb (tC a b)) ?_ ?_|refine Wp.rtoS 4 (vb (tC a b)) ?_ ?_|(refine Wp.seq ?_;first|refine Wp.sto 4 (vb (tC a b)) ?_ ?_|refine Wp.rtoS 4 (vb (tC a b)) ?_ ?_))
 ·unfold tC;((rcases (Bool.eq_false_or_eq_true (a.pid == b.pid)).symm with hL1|hL1;focus (((refine rO (ai hL1 (ai @BatD.dv.eq_1 (@iM))) ?_;try with_reducible exact tt);(repeat (refine aQ (by assumption) ?_;(refine rO (ai hL1 (ai @BatD.dv.eq_1 (@iM))) ?_;try with_reducible exact tt))));all_goals (exact (show aH _ _=true by kernel_rfl))));(rcases (Bool.eq_false_or_eq_true (a.epoch == b.epoch)).symm with hL2|hL2;focus (((refine rO (ai hL1 (ai hL2 (ai @BatD.dv.eq_1 (@iM)))) ?_;try with_reducible exact tt);(repeat (refine aQ (by assumption) ?_;(refine rO (ai hL1 (ai hL2 (ai @BatD.dv.eq_1 (@iM)))) ?_;try with_reducible exact tt))));all_goals (exact (show aH _ _=true by kernel_rfl))));(rcases (Bool.eq_false_or_eq_true (a.seq == b.seq)).symm with hL3|hL3;focus (((refine rO (ai hL1 (ai hL2 (ai hL3 (ai @BatD.dv.eq_1 (@iM))))) ?_;try with_reducible exact tt);(repeat (refine aQ (by assumption) ?_;(refine rO (ai hL1 (ai hL2 (ai hL3 (ai @BatD.dv.eq_1 (@iM))))) ?_;try with_reducible exact tt))));all_goals (exact (show aH _ _=true by kernel_rfl))));(rcases (Bool.eq_false_or_eq_true (a.txn == b.txn)).symm with hL4|hL4;focus (((refine rO (ai hL1 (ai hL2 (ai hL3 (ai hL4 (ai @BatD.dv.eq_1 (@iM)))))) ?_;try with_reducible exact tt);(repeat (refine aQ (by assumption) ?_;(refine rO (ai hL1 (ai hL2 (ai hL3 (ai hL4 (ai @BatD.dv.eq_1 (@iM)))))) ?_;try with_reducible exact tt))));all_goals (exact (show aH _ _=true by kernel_rfl))));(rcases (Bool.eq_false_or_eq_true (decide (a.recs=b.recs))).symm with hL5|hL5;focus (((refine rO (ai hL1 (ai hL2 (ai hL3 (ai hL4 (ai hL5 (ai @BatD.dv.eq_1 (@iM))))))) ?_;try with_reducible exact tt);(repeat (refine aQ (by assumption) ?_;(refine rO (ai hL1 (ai hL2 (ai hL3 (ai hL4 (ai hL5 (ai @BatD.dv.eq_1 (@iM))))))) ?_;try with_reducible exact tt))));all_goals (exact (show aH _ _=true by kernel_rfl))));((refine rO (ai hL1 (ai hL2 (ai hL3 (ai hL4 (ai hL5 (ai @BatD.dv.eq_1 (@iM))))))) ?_;try with_reducible exact tt);(repeat (refine aQ (by assumption) ?_;(refine rO (ai hL1 (ai hL2 (ai hL3 (ai hL4 (ai hL5 (ai @BatD.dv.eq_1 (@iM))))))) ?_;try with_reducible exact tt))));all_goals (exact (show aH _ _=true by kernel_rfl)))
 (refine aI ?_;try with_reducible exact tt)
 (refine aK ?_;try with_reducible exact tt)
theorem aK1 (a b:RowD):aJ Tryz.prog 95 [.agg a.dv,.agg b.dv] (dC (decide (a=b))):=by
 have hbin:=fun x y=>(qR x y a b).1
 (refine aJ.of_body Tryz.func95 rfl rfl Tryz.ntmps95 Tryz.results95 (by simp) ?_)
 (refine gO (ai @RowD.dv.eq_1 (hbin)) ?_;try with_reducible exact tt)
 (refine aK ?_;try with_reducible exact tt)
theorem aH6 (a b:List RowD) (hl:a.length≤100000):aJ Tryz.prog 94 [.lst 5 (a.map RowD.dv),.lst 5 (b.map RowD.dv),.fn (.func 95) []] (dC (decide (a=b))):=by
 (refine aJ.of_body Tryz.func94 rfl rfl Tryz.ntmps94 Tryz.results94 (by simp) ?_)
 by_cases hlen:a.length=b.length
 ·have hne:((a.length:Int) != (b.length:Int))=false:=by simp[hlen]
  (refine gO (hne) ?_;try with_reducible exact tt)
  refine Wp.loop (fun k:Nat=>⟨dI [(0,.c (.d (.lst 5 (a.map RowD.dv)))),(1,.c (.d (.lst 5 (b.map RowD.dv)))),(2,.c (.d (.fn (.func 95) []))),(14,vi .i64 a.length),(15,vi .i64 k)],bJ [],0,30,0⟩) (fun k=>k≤a.length∧a.take k=b.take k) (fun k=>a.length - k) 0 ⟨Nat.zero_le _,rfl⟩ ?_ ?_
  ·refine aD.keep rfl rfl ?_
   (refine aK ?_;try with_reducible exact tt)
  rintro k ⟨hk,hall⟩
  (refine aI ?_;try with_reducible exact tt)
  refine Wp.cond (by (refine aK ?_;try with_reducible exact tt);rfl) (fun h=>?_) (fun h=>?_)
  ·have hlt:k<a.length:=by simpa using h
   have hlt2:k<b.length:=by omega
   have g1:a[k]? = some a[k]:=List.getElem?_eq_getElem hlt
   have g2:b[k]? = some b[k]:=List.getElem?_eq_getElem hlt2
   have t1:=aF a k hlt
   have t2:=aF b k hlt2
   have hne:a[k]≠b[k]→¬ a=b:=fun hx e=>by subst e;exact hx rfl
   have c1:=aK1 a[k] b[k]
   generalize a[k]=x at *
   generalize b[k]=y at *
   simp only[RowD.dv] at c1
   (refine gO (ai g1 (ai g2 (@RowD.dv.eq_1))) ?_;try with_reducible exact tt)
   refine Wp.cond (by (refine aK ?_;try with_reducible exact tt);rfl) (fun h=>?_) (fun h=>?_)
   ·have hf:decide (a=b)=false:=decide_eq_false (hne (by simpa using h))
    (refine aI ?_;try with_reducible exact tt)
    (refine rO (hf) ?_;try with_reducible exact tt)
   ·simp only[Bool.not_eq_false',decide_eq_true_eq] at h
    (refine aI ?_;try with_reducible exact tt)
    refine⟨k+1,⟨by omega,by rw[t1,t2,hall,h]⟩,by omega,aD.keep rfl rfl ?_⟩
    (refine aK ?_;try with_reducible exact tt)
  ·have hk:k=a.length:=by simp only[decide_eq_false_iff_not] at h;omega
   have hf:decide (a=b)=true:=by
    rw[List.take_of_length_le (by omega),List.take_of_length_le (by omega)] at hall;simp[hall]
   (refine aI ?_;try with_reducible exact tt)
   (refine rO (hf) ?_;try with_reducible exact tt)
 ·have hne:((a.length:Int) != (b.length:Int))=true:=by simp;omega
  have hf:decide (a=b)=false:=decide_eq_false (fun e=>hlen (by rw[e]))
  (refine gO (hne) ?_;try with_reducible exact tt)
  (refine rO (hf) ?_;try with_reducible exact tt)
theorem aH1 (a b:List BatD) (hl:a.length≤100000) (hr:∀ b ∈ a,b.recs.length≤100000):aJ Tryz.prog 98 [.lst 5 (a.map BatD.dv),.lst 5 (b.map BatD.dv),.fn (.func 99) []] (dC (decide (a=b))):=by
 (refine aJ.of_body Tryz.func98 rfl rfl Tryz.ntmps98 Tryz.results98 (by simp) ?_)
 by_cases hlen:a.length=b.length
 ·have hne:((a.length:Int) != (b.length:Int))=false:=by simp[hlen]
  (refine gO (hne) ?_;try with_reducible exact tt)
  refine Wp.loop (fun k:Nat=>⟨dI [(0,.c (.d (.lst 5 (a.map BatD.dv)))),(1,.c (.d (.lst 5 (b.map BatD.dv)))),(2,.c (.d (.fn (.func 99) []))),(14,vi .i64 a.length),(15,vi .i64 k)],bJ [],0,30,0⟩) (fun k=>k≤a.length∧a.take k=b.take k) (fun k=>a.length - k) 0 ⟨Nat.zero_le _,rfl⟩ ?_ ?_
  ·refine aD.keep rfl rfl ?_
   (refine aK ?_;try with_reducible exact tt)
  rintro k ⟨hk,hall⟩
  (refine aI ?_;try with_reducible exact tt)
  refine Wp.cond (by (refine aK ?_;try with_reducible exact tt);rfl) (fun h=>?_) (fun h=>?_)
  ·have hlt:k<a.length:=by simpa using h
   have hlt2:k<b.length:=by omega
   have g1:a[k]? = some a[k]:=List.getElem?_eq_getElem hlt
   have g2:b[k]? = some b[k]:=List.getElem?_eq_getElem hlt2
   have t1:=aF a k hlt
   have t2:=aF b k hlt2
   have hne:a[k]≠b[k]→¬ a=b:=fun hx e=>by subst e;exact hx rfl
   have c1:=aJy a[k] b[k] (hr _ (List.getElem_mem hlt))
   generalize a[k]=x at *
   generalize b[k]=y at *
   simp only[BatD.dv] at c1
   (refine gO (ai g1 (ai g2 (@BatD.dv.eq_1))) ?_;try with_reducible exact tt)
   refine Wp.cond (by (refine aK ?_;try with_reducible exact tt);rfl) (fun h=>?_) (fun h=>?_)
   ·have hf:decide (a=b)=false:=decide_eq_false (hne (by simpa using h))
    (refine aI ?_;try with_reducible exact tt)
    (refine rO (hf) ?_;try with_reducible exact tt)
   ·simp only[Bool.not_eq_false',decide_eq_true_eq] at h
    (refine aI ?_;try with_reducible exact tt)
    refine⟨k+1,⟨by omega,by rw[t1,t2,hall,h]⟩,by omega,aD.keep rfl rfl ?_⟩
    (refine aK ?_;try with_reducible exact tt)
  ·have hk:k=a.length:=by simp only[decide_eq_false_iff_not] at h;omega
   have hf:decide (a=b)=true:=by
    rw[List.take_of_length_le (by omega),List.take_of_length_le (by omega)] at hall;simp[hall]
   (refine aI ?_;try with_reducible exact tt)
   (refine rO (hf) ?_;try with_reducible exact tt)
 ·have hne:((a.length:Int) != (b.length:Int))=true:=by simp;omega
  have hf:decide (a=b)=false:=decide_eq_false (fun e=>hlen (by rw[e]))
  (refine gO (hne) ?_;try with_reducible exact tt)
  (refine rO (hf) ?_;try with_reducible exact tt)
def pV (a b:OpenD):Bool:=a.pid == b.pid && a.epoch == b.epoch && decide (a.bats=b.bats)
theorem aKq (a b:OpenD):pV a b=decide (a=b):=by
 rw[Bool.eq_iff_iff]
 obtain⟨a1,a2,a3⟩:=a
 obtain⟨b1,b2,b3⟩:=b
 simp only[pV,Bool.and_eq_true,beq_iff_eq,decide_eq_true_eq,OpenD.mk.injEq,and_assoc]
theorem aH5 (a b:OpenD) (hs:SmallO a):aJ Tryz.prog 97 [.agg a.dv,.agg b.dv] (dC (decide (a=b))):=by
 have c1:=aH1 a.bats b.bats hs.bats hs.recs
 rw[← aKq]
 (refine aJ.of_body Tryz.func97 rfl rfl Tryz.ntmps97 Tryz.results97 (by simp) ?_)
 (refine gO (@OpenD.dv.eq_1) ?_;try with_reducible exact tt)
 (first|refine Wp.sto 4 (vb (pV a b)) ?_ ?_|refine Wp.rtoS 4 (vb (pV a b)) ?_ ?_|(refine Wp.seq ?_;first|refine Wp.sto 4 (vb (pV a b)) ?_ ?_|refine Wp.rtoS 4 (vb (pV a b)) ?_ ?_))
 ·unfold pV;((rcases Bool.eq_false_or_eq_true (a.pid == b.pid) with hL1|hL1)<;>(rcases Bool.eq_false_or_eq_true (a.epoch == b.epoch) with hL2|hL2)<;>(rcases Bool.eq_false_or_eq_true (decide (a.bats=b.bats)) with hL3|hL3)<;>(((refine rO (ai hL1 (ai hL2 (ai hL3 (@OpenD.dv.eq_1)))) ?_;try with_reducible exact tt);(repeat (refine aQ (by assumption) ?_;(refine rO (ai hL1 (ai hL2 (ai hL3 (@OpenD.dv.eq_1)))) ?_;try with_reducible exact tt))));all_goals (exact (show aH _ _=true by kernel_rfl))))
 (refine aI ?_;try with_reducible exact tt)
 (refine aK ?_;try with_reducible exact tt)
theorem aEr (a b:List OpenD) (hl:a.length≤100000) (hr:∀ b ∈ a,SmallO b):aJ Tryz.prog 96 [.lst 3 (a.map OpenD.dv),.lst 3 (b.map OpenD.dv),.fn (.func 97) []] (dC (decide (a=b))):=by
 (refine aJ.of_body Tryz.func96 rfl rfl Tryz.ntmps96 Tryz.results96 (by simp) ?_)
 by_cases hlen:a.length=b.length
 ·have hne:((a.length:Int) != (b.length:Int))=false:=by simp[hlen]
  (refine gO (hne) ?_;try with_reducible exact tt)
  refine Wp.loop (fun k:Nat=>⟨dI [(0,.c (.d (.lst 3 (a.map OpenD.dv)))),(1,.c (.d (.lst 3 (b.map OpenD.dv)))),(2,.c (.d (.fn (.func 97) []))),(14,vi .i64 a.length),(15,vi .i64 k)],bJ [],0,30,0⟩) (fun k=>k≤a.length∧a.take k=b.take k) (fun k=>a.length - k) 0 ⟨Nat.zero_le _,rfl⟩ ?_ ?_
  ·refine aD.keep rfl rfl ?_
   (refine aK ?_;try with_reducible exact tt)
  rintro k ⟨hk,hall⟩
  (refine aI ?_;try with_reducible exact tt)
  refine Wp.cond (by (refine aK ?_;try with_reducible exact tt);rfl) (fun h=>?_) (fun h=>?_)
  ·have hlt:k<a.length:=by simpa using h
   have hlt2:k<b.length:=by omega
   have g1:a[k]? = some a[k]:=List.getElem?_eq_getElem hlt
   have g2:b[k]? = some b[k]:=List.getElem?_eq_getElem hlt2
   have t1:=aF a k hlt
   have t2:=aF b k hlt2
   have hne:a[k]≠b[k]→¬ a=b:=fun hx e=>by subst e;exact hx rfl
   have c1:=aH5 a[k] b[k] (hr _ (List.getElem_mem hlt))
   generalize a[k]=x at *
   generalize b[k]=y at *
   simp only[OpenD.dv] at c1
   (refine gO (ai g1 (ai g2 (@OpenD.dv.eq_1))) ?_;try with_reducible exact tt)
   refine Wp.cond (by (refine aK ?_;try with_reducible exact tt);rfl) (fun h=>?_) (fun h=>?_)
   ·have hf:decide (a=b)=false:=decide_eq_false (hne (by simpa using h))
    (refine aI ?_;try with_reducible exact tt)
    (refine rO (hf) ?_;try with_reducible exact tt)
   ·simp only[Bool.not_eq_false',decide_eq_true_eq] at h
    (refine aI ?_;try with_reducible exact tt)
    refine⟨k+1,⟨by omega,by rw[t1,t2,hall,h]⟩,by omega,aD.keep rfl rfl ?_⟩
    (refine aK ?_;try with_reducible exact tt)
  ·have hk:k=a.length:=by simp only[decide_eq_false_iff_not] at h;omega
   have hf:decide (a=b)=true:=by
    rw[List.take_of_length_le (by omega),List.take_of_length_le (by omega)] at hall;simp[hall]
   (refine aI ?_;try with_reducible exact tt)
   (refine rO (hf) ?_;try with_reducible exact tt)
 ·have hne:((a.length:Int) != (b.length:Int))=true:=by simp;omega
  have hf:decide (a=b)=false:=decide_eq_false (fun e=>hlen (by rw[e]))
  (refine gO (hne) ?_;try with_reducible exact tt)
  (refine rO (hf) ?_;try with_reducible exact tt)
def pW (a b:PartD):Bool:=a.start == b.start && a.fin == b.fin && decide (a.rows=b.rows) && decide (a.opens=b.opens) && decide (a.prods=b.prods)
theorem aKt (a b:PartD):pW a b=decide (a=b):=by
 rw[Bool.eq_iff_iff]
 obtain⟨a1,a2,a3,a4,a5⟩:=a
 obtain⟨b1,b2,b3,b4,b5⟩:=b
 simp only[pW,Bool.and_eq_true,beq_iff_eq,decide_eq_true_eq,PartD.mk.injEq,and_assoc]
theorem rB (a b:PartD) (hs:SmallP a):aJ Tryz.prog 61 [.agg a.dv,.agg b.dv] (dC (decide (a=b))):=by
 have c1:=aH6 a.rows b.rows hs.rows
 have c2:=aEr a.opens b.opens hs.opens hs.open1
 have c3:=aO8 a.prods b.prods hs.prods
 rw[← aKt]
 (refine aJ.of_body Tryz.func61 rfl rfl Tryz.ntmps61 Tryz.results61 (by simp) ?_)
 (refine gO (@PartD.dv.eq_1) ?_;try with_reducible exact tt)
 (first|refine Wp.sto 4 (vb (pW a b)) ?_ ?_|refine Wp.rtoS 4 (vb (pW a b)) ?_ ?_|(refine Wp.seq ?_;first|refine Wp.sto 4 (vb (pW a b)) ?_ ?_|refine Wp.rtoS 4 (vb (pW a b)) ?_ ?_))
 ·unfold pW;((rcases (Bool.eq_false_or_eq_true (a.start == b.start)).symm with hL1|hL1;focus (((refine rO (ai hL1 (@PartD.dv.eq_1)) ?_;try with_reducible exact tt);(repeat (refine aQ (by assumption) ?_;(refine rO (ai hL1 (@PartD.dv.eq_1)) ?_;try with_reducible exact tt))));all_goals (exact (show aH _ _=true by kernel_rfl))));(rcases (Bool.eq_false_or_eq_true (a.fin == b.fin)).symm with hL2|hL2;focus (((refine rO (ai hL1 (ai hL2 (@PartD.dv.eq_1))) ?_;try with_reducible exact tt);(repeat (refine aQ (by assumption) ?_;(refine rO (ai hL1 (ai hL2 (@PartD.dv.eq_1))) ?_;try with_reducible exact tt))));all_goals (exact (show aH _ _=true by kernel_rfl))));(rcases (Bool.eq_false_or_eq_true (decide (a.rows=b.rows))).symm with hL3|hL3;focus (((refine rO (ai hL1 (ai hL2 (ai hL3 (@PartD.dv.eq_1)))) ?_;try with_reducible exact tt);(repeat (refine aQ (by assumption) ?_;(refine rO (ai hL1 (ai hL2 (ai hL3 (@PartD.dv.eq_1)))) ?_;try with_reducible exact tt))));all_goals (exact (show aH _ _=true by kernel_rfl))));(rcases (Bool.eq_false_or_eq_true (decide (a.opens=b.opens))).symm with hL4|hL4;focus (((refine rO (ai hL1 (ai hL2 (ai hL3 (ai hL4 (@PartD.dv.eq_1))))) ?_;try with_reducible exact tt);(repeat (refine aQ (by assumption) ?_;(refine rO (ai hL1 (ai hL2 (ai hL3 (ai hL4 (@PartD.dv.eq_1))))) ?_;try with_reducible exact tt))));all_goals (exact (show aH _ _=true by kernel_rfl))));(rcases (Bool.eq_false_or_eq_true (decide (a.prods=b.prods))).symm with hL5|hL5;focus (((refine rO (ai hL1 (ai hL2 (ai hL3 (ai hL4 (ai hL5 (@PartD.dv.eq_1)))))) ?_;try with_reducible exact tt);(repeat (refine aQ (by assumption) ?_;(refine rO (ai hL1 (ai hL2 (ai hL3 (ai hL4 (ai hL5 (@PartD.dv.eq_1)))))) ?_;try with_reducible exact tt))));all_goals (exact (show aH _ _=true by kernel_rfl))));((refine rO (ai hL1 (ai hL2 (ai hL3 (ai hL4 (ai hL5 (@PartD.dv.eq_1)))))) ?_;try with_reducible exact tt);(repeat (refine aQ (by assumption) ?_;(refine rO (ai hL1 (ai hL2 (ai hL3 (ai hL4 (ai hL5 (@PartD.dv.eq_1)))))) ?_;try with_reducible exact tt))));all_goals (exact (show aH _ _=true by kernel_rfl)))
 (refine aI ?_;try with_reducible exact tt)
 (refine aK ?_;try with_reducible exact tt)
end Go.Proofs.YtkmfmphpndhkjaaGreatDoor
