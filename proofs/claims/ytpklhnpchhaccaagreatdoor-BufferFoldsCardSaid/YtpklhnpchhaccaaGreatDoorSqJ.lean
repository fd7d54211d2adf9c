/- Package seqs: Same. -/
import Derived.Test.YtpklhnpchhaccaaGreatDoorSqN
namespace Go.Proofs.YtpklhnpchhaccaaGreatDoor
open Go Go.RowKit
set_option maxHeartbeats 4000000
set_option maxRecDepth 100000
set_option linter.unusedVariables false
set_option linter.unusedSimpArgs false
theorem aKy (a b:List SeenD) (hl:a.length≤100000):aW Tryz.prog 171 [.lst 3 (a.map SeenD.dv),.lst 3 (b.map SeenD.dv)] (dM (decide (a=b))):=by
 (refine aW.of_body Tryz.func171 rfl rfl Tryz.ntmps171 Tryz.results171 (by simp) ?_)
 by_cases hlen:a.length=b.length
 ·have hne:((a.length:Int) != (b.length:Int))=false:=by simp[hlen]
  (refine gO (hne) ?_)
  refine Wp.loop (fun k:Nat=>⟨iH [(0,.c (.d (.lst 3 (a.map SeenD.dv)))),(1,.c (.d (.lst 3 (b.map SeenD.dv)))),(12,vi .i64 a.length),(13,vi .i64 k)],bI [],0,26,0⟩) (fun k=>k≤a.length∧a.take k=b.take k) (fun k=>a.length - k) 0 ⟨Nat.zero_le _,rfl⟩ ?_ ?_
  ·refine aD.keep rfl rfl ?_
   (refine aT ?_;try with_reducible exact tt)
  rintro k ⟨hk,hall⟩
  (refine bP ?_)
  refine Wp.cond (by (refine aT ?_);rfl) (fun h=>?_) (fun h=>?_)
  ·have hlt:k<a.length:=by simpa using h
   have hlt2:k<b.length:=by omega
   have g1:a[k]? = some a[k]:=List.getElem?_eq_getElem hlt
   have g2:b[k]? = some b[k]:=List.getElem?_eq_getElem hlt2
   have t1:=aV a k hlt
   have t2:=aV b k hlt2
   have hne:a[k]≠b[k]→¬ a=b:=fun hx e=>by subst e;exact hx rfl
   generalize a[k]=x at *
   generalize b[k]=y at *
   (refine gO (ai g1 (ai g2 (ai @SeenD.dv.eq_1 (aDg)))) ?_)
   refine Wp.cond (by (refine aT ?_);rfl) (fun h=>?_) (fun h=>?_)
   ·have hf:decide (a=b)=false:=decide_eq_false (hne (by simpa using h))
    (refine bP ?_)
    (refine rO (hf) ?_;try with_reducible exact tt)
   ·simp only[Bool.not_eq_false',decide_eq_true_eq] at h
    (refine bP ?_)
    refine⟨k+1,⟨by omega,by rw[t1,t2,hall,h]⟩,by omega,aD.keep rfl rfl ?_⟩
    (refine aT ?_;try with_reducible exact tt)
  ·have hk:k=a.length:=by simp only[decide_eq_false_iff_not] at h;omega
   have hf:decide (a=b)=true:=by
    rw[List.take_of_length_le (by omega),List.take_of_length_le (by omega)] at hall;simp[hall]
   (refine bP ?_)
   (refine rO (hf) ?_;try with_reducible exact tt)
 ·have hne:((a.length:Int) != (b.length:Int))=true:=by simp;omega
  have hf:decide (a=b)=false:=decide_eq_false (fun e=>hlen (by rw[e]))
  (refine gO (hne) ?_)
  (refine rO (hf) ?_;try with_reducible exact tt)
def tV (a b:ProdD):Bool:=a.pid == b.pid && a.epoch == b.epoch && a.next == b.next && decide (a.seen=b.seen)
theorem aPs (a b:ProdD):tV a b=decide (a=b):=by
 rw[Bool.eq_iff_iff]
 obtain⟨a1,a2,a3,a4⟩:=a
 obtain⟨b1,b2,b3,b4⟩:=b
 simp only[tV,Bool.and_eq_true,beq_iff_eq,decide_eq_true_eq,ProdD.mk.injEq,and_assoc]
theorem aKx (a b:ProdD) (hl:a.seen.length≤100000):aW Tryz.prog 119 [.agg a.dv,.agg b.dv] (dM (decide (a=b))):=by
 have c1:=aKy a.seen b.seen hl
 rw[← aPs]
 (refine aW.of_body Tryz.func119 rfl rfl Tryz.ntmps119 Tryz.results119 (by simp) ?_)
 (refine gO (@ProdD.dv.eq_1) ?_)
 (first|refine Wp.sto 4 (vb (tV a b)) ?_ ?_|refine Wp.rtoS 4 (vb (tV a b)) ?_ ?_|(refine Wp.seq ?_;first|refine Wp.sto 4 (vb (tV a b)) ?_ ?_|refine Wp.rtoS 4 (vb (tV a b)) ?_ ?_))
 ·unfold tV;((rcases Bool.eq_false_or_eq_true (a.pid == b.pid) with hL1|hL1)<;>(rcases Bool.eq_false_or_eq_true (a.epoch == b.epoch) with hL2|hL2)<;>(rcases Bool.eq_false_or_eq_true (a.next == b.next) with hL3|hL3)<;>(rcases Bool.eq_false_or_eq_true (decide (a.seen=b.seen)) with hL4|hL4)<;>(((refine rO (ai hL1 (ai hL2 (ai hL3 (ai hL4 (@ProdD.dv.eq_1))))) ?_;try with_reducible exact tt);(repeat (refine dB (by assumption) ?_;(refine rO (ai hL1 (ai hL2 (ai hL3 (ai hL4 (@ProdD.dv.eq_1))))) ?_;try with_reducible exact tt))));all_goals (exact (show bE _ _=true by kernel_rfl))))
 (refine bP ?_)
 (refine aT ?_;try with_reducible exact tt)
end Go.Proofs.YtpklhnpchhaccaaGreatDoor
