/- The abstract machine (SqE, SqF0, SqJ). -/
import Derived.Test.YtkmfmphpndhkjaaGreatDoorSqM
import Derived.Test.YtkmfmphpndhkjaaGreatDoorCpA
import Derived.Test.YtkmfmphpndhkjaaGreatDoorErSq
namespace Go.Proofs.YtkmfmphpndhkjaaGreatDoor
open Go Go.RowKit
set_option maxHeartbeats 4000000
set_option maxRecDepth 100000
set_option linter.unusedVariables false
set_option linter.unusedSimpArgs false

theorem aK2 (a b:List SeenD) (hl:a.length≤100000):aJ Tryz.prog 162 [.lst 3 (a.map SeenD.dv),.lst 3 (b.map SeenD.dv)] (dC (decide (a=b))):=by
 (refine aJ.of_body Tryz.func162 rfl rfl Tryz.ntmps162 Tryz.results162 (by simp) ?_)
 by_cases hlen:a.length=b.length
 ·have hne:((a.length:Int) != (b.length:Int))=false:=by simp[hlen]
  (refine gO (hne) ?_)
  refine Wp.loop (fun k:Nat=>⟨dI [(0,.c (.d (.lst 3 (a.map SeenD.dv)))),(1,.c (.d (.lst 3 (b.map SeenD.dv)))),(12,vi .i64 a.length),(13,vi .i64 k)],bJ [],0,26,0⟩) (fun k=>k≤a.length∧a.take k=b.take k) (fun k=>a.length - k) 0 ⟨Nat.zero_le _,rfl⟩ ?_ ?_
  ·refine aD.keep rfl rfl ?_
   (refine aK ?_;try with_reducible exact tt)
  rintro k ⟨hk,hall⟩
  (refine aI ?_)
  refine Wp.cond (by (refine aK ?_);rfl) (fun h=>?_) (fun h=>?_)
  ·have hlt:k<a.length:=by simpa using h
   have hlt2:k<b.length:=by omega
   have g1:a[k]? = some a[k]:=List.getElem?_eq_getElem hlt
   have g2:b[k]? = some b[k]:=List.getElem?_eq_getElem hlt2
   have t1:=aF a k hlt
   have t2:=aF b k hlt2
   have hne:a[k]≠b[k]→¬ a=b:=fun hx e=>by subst e;exact hx rfl
   generalize a[k]=x at *
   generalize b[k]=y at *
   (refine gO (ai g1 (ai g2 (ai @SeenD.dv.eq_1 (aCt)))) ?_)
   refine Wp.cond (by (refine aK ?_);rfl) (fun h=>?_) (fun h=>?_)
   ·have hf:decide (a=b)=false:=decide_eq_false (hne (by simpa using h))
    (refine aI ?_)
    (refine rO (hf) ?_;try with_reducible exact tt)
   ·simp only[Bool.not_eq_false',decide_eq_true_eq] at h
    (refine aI ?_)
    refine⟨k+1,⟨by omega,by rw[t1,t2,hall,h]⟩,by omega,aD.keep rfl rfl ?_⟩
    (refine aK ?_;try with_reducible exact tt)
  ·have hk:k=a.length:=by simp only[decide_eq_false_iff_not] at h;omega
   have hf:decide (a=b)=true:=by
    rw[List.take_of_length_le (by omega),List.take_of_length_le (by omega)] at hall;simp[hall]
   (refine aI ?_)
   (refine rO (hf) ?_;try with_reducible exact tt)
 ·have hne:((a.length:Int) != (b.length:Int))=true:=by simp;omega
  have hf:decide (a=b)=false:=decide_eq_false (fun e=>hlen (by rw[e]))
  (refine gO (hne) ?_)
  (refine rO (hf) ?_;try with_reducible exact tt)
def tW (a b:ProdD):Bool:=a.pid == b.pid && a.epoch == b.epoch && a.next == b.next && decide (a.seen=b.seen)
theorem aNx (a b:ProdD):tW a b=decide (a=b):=by
 rw[Bool.eq_iff_iff]
 obtain⟨a1,a2,a3,a4⟩:=a
 obtain⟨b1,b2,b3,b4⟩:=b
 simp only[tW,Bool.and_eq_true,beq_iff_eq,decide_eq_true_eq,ProdD.mk.injEq,and_assoc]
theorem aJz (a b:ProdD) (hl:a.seen.length≤100000):aJ Tryz.prog 132 [.agg a.dv,.agg b.dv] (dC (decide (a=b))):=by
 have c1:=aK2 a.seen b.seen hl
 rw[← aNx]
 (refine aJ.of_body Tryz.func132 rfl rfl Tryz.ntmps132 Tryz.results132 (by simp) ?_)
 (refine gO (@ProdD.dv.eq_1) ?_)
 (first|refine Wp.sto 4 (vb (tW a b)) ?_ ?_|refine Wp.rtoS 4 (vb (tW a b)) ?_ ?_|(refine Wp.seq ?_;first|refine Wp.sto 4 (vb (tW a b)) ?_ ?_|refine Wp.rtoS 4 (vb (tW a b)) ?_ ?_))
 ·unfold tW;((rcases Bool.eq_false_or_eq_true (a.pid == b.pid) with hL1|hL1)<;>(rcases Bool.eq_false_or_eq_true (a.epoch == b.epoch) with hL2|hL2)<;>(rcases Bool.eq_false_or_eq_true (a.next == b.next) with hL3|hL3)<;>(rcases Bool.eq_false_or_eq_true (decide (a.seen=b.seen)) with hL4|hL4)<;>(((refine rO (ai hL1 (ai hL2 (ai hL3 (ai hL4 (@ProdD.dv.eq_1))))) ?_;try with_reducible exact tt);(repeat (refine aQ (by assumption) ?_;(refine rO (ai hL1 (ai hL2 (ai hL3 (ai hL4 (@ProdD.dv.eq_1))))) ?_;try with_reducible exact tt))));all_goals (exact (show aH _ _=true by kernel_rfl))))
 (refine aI ?_)
 (refine aK ?_;try with_reducible exact tt)
theorem aO8 (a b:List ProdD) (hs:SmallL a):aJ Tryz.prog 100 [.lst 4 (a.map ProdD.dv),.lst 4 (b.map ProdD.dv)] (dC (decide (a=b))):=by
 have hl:=hs.len
 have c0:aJ Tryz.prog 131 [.lst 4 (a.map ProdD.dv),.lst 4 (b.map ProdD.dv),.fn (.func 132) []] (dC (decide (a=b))):=by
  (refine aJ.of_body Tryz.func131 rfl rfl Tryz.ntmps131 Tryz.results131 (by simp) ?_)
  by_cases hlen:a.length=b.length
  ·have hne:((a.length:Int) != (b.length:Int))=false:=by simp[hlen]
   (refine gO (hne) ?_)
   refine Wp.loop (fun k:Nat=>⟨dI [(1,.c (.d (.lst 4 (b.map ProdD.dv)))),(2,.c (.d (.fn (.func 132) []))),(15,.c (.d (.lst 4 (a.map ProdD.dv)))),(16,vi .i64 a.length),(17,vi .i64 k)],bJ [],0,32,0⟩) (fun k=>k≤a.length∧a.take k=b.take k) (fun k=>a.length - k) 0 ⟨Nat.zero_le _,rfl⟩ ?_ ?_
   ·refine aD.keep rfl rfl ?_
    (refine aK ?_;try with_reducible exact tt)
   rintro k ⟨hk,hall⟩
   (refine aI ?_)
   refine Wp.cond (by (refine aK ?_);rfl) (fun h=>?_) (fun h=>?_)
   ·have hlt:k<a.length:=by simpa using h
    have hlt2:k<b.length:=by omega
    have g1:a[k]? = some a[k]:=List.getElem?_eq_getElem hlt
    have g2:b[k]? = some b[k]:=List.getElem?_eq_getElem hlt2
    have t1:=aF a k hlt
    have t2:=aF b k hlt2
    have hne:a[k]≠b[k]→¬ a=b:=fun hx e=>by subst e;exact hx rfl
    have c1:=aJz a[k] b[k] (hs.seen _ (List.getElem_mem hlt))
    generalize a[k]=x at *
    generalize b[k]=y at *
    simp only[ProdD.dv] at c1
    (refine gO (ai g1 (ai g2 (@ProdD.dv.eq_1))) ?_)
    refine Wp.cond (by (refine aK ?_);rfl) (fun h=>?_) (fun h=>?_)
    ·have hf:decide (a=b)=false:=decide_eq_false (hne (by simpa using h))
     (refine aI ?_)
     (refine rO (hf) ?_;try with_reducible exact tt)
    ·simp only[Bool.not_eq_false',decide_eq_true_eq] at h
     (refine aI ?_)
     refine⟨k+1,⟨by omega,by rw[t1,t2,hall,h]⟩,by omega,aD.keep rfl rfl ?_⟩
     (refine aK ?_;try with_reducible exact tt)
   ·have hk:k=a.length:=by simp only[decide_eq_false_iff_not] at h;omega
    have hf:decide (a=b)=true:=by
     rw[List.take_of_length_le (by omega),List.take_of_length_le (by omega)] at hall;simp[hall]
    (refine aI ?_)
    (refine rO (hf) ?_;try with_reducible exact tt)
  ·have hne:((a.length:Int) != (b.length:Int))=true:=by simp;omega
   have hf:decide (a=b)=false:=decide_eq_false (fun e=>hlen (by rw[e]))
   (refine gO (hne) ?_)
   (refine rO (hf) ?_;try with_reducible exact tt)
 (refine aJ.of_body Tryz.func100 rfl rfl Tryz.ntmps100 Tryz.results100 (by simp) ?_)
 (refine aI ?_)
 (refine aK ?_;try with_reducible exact tt)
end Go.Proofs.YtkmfmphpndhkjaaGreatDoor
