/- The abstract machine (SqD, SqF, SqG). -/
import Derived.Test.YtpklhnpchhaccaaGreatDoorSqM
import Derived.Test.YtpklhnpchhaccaaGreatDoorSqN
import Derived.Test.YtpklhnpchhaccaaGreatDoorCpMc
namespace Go.Proofs.YtpklhnpchhaccaaGreatDoor
open Go Go.RowKit
set_option maxHeartbeats 4000000
set_option maxRecDepth 100000
set_option linter.unusedVariables false
set_option linter.unusedSimpArgs false
theorem aD2 (a b:List ProdD) (hs:SmallL a):bF Tryz.prog 33 [.lst 4 (a.map ProdD.dv),.lst 4 (b.map ProdD.dv)] (gD (decide (a=b))):=by
 have hl:=hs.len
 (refine bF.of_body Tryz.func33 rfl rfl Tryz.ntmps33 Tryz.results33 (by simp) ?_)
 by_cases hlen:a.length=b.length
 ·have hne:((a.length:Int) != (b.length:Int))=false:=by simp[hlen]
  (refine gO (hne) ?_)
  refine Wp.loop (fun k:Nat=>⟨iC [(0,.c (.d (.lst 4 (a.map ProdD.dv)))),(1,.c (.d (.lst 4 (b.map ProdD.dv)))),(5,vi .i64 k)],bK [],0,27,0⟩) (fun k=>k≤a.length∧a.take k=b.take k) (fun k=>a.length - k) 0 ⟨Nat.zero_le _,rfl⟩ ?_ ?_
  ·refine aD.keep rfl rfl ?_
   (refine aY ?_;try with_reducible exact tt)
  rintro k ⟨hk,hall⟩
  (refine cA ?_)
  refine Wp.cond (by (refine aY ?_);rfl) (fun h=>?_) (fun h=>?_)
  ·have hlt:k<a.length:=by simpa using h
   have hlt2:k<b.length:=by omega
   have g1:a[k]? = some a[k]:=List.getElem?_eq_getElem hlt
   have g2:b[k]? = some b[k]:=List.getElem?_eq_getElem hlt2
   have t1:=aU a k hlt
   have t2:=aU b k hlt2
   have hne:a[k]≠b[k]→¬ a=b:=fun hx e=>by subst e;exact hx rfl
   have c1:=xF a[k] b[k] (by have:=hs.seen _ (List.getElem_mem hlt);omega)
   generalize a[k]=x at *
   generalize b[k]=y at *
   simp only[ProdD.dv] at c1
   (refine gO (ai g1 (ai g2 (@ProdD.dv.eq_1))) ?_)
   refine Wp.cond (by (refine aY ?_);rfl) (fun h=>?_) (fun h=>?_)
   ·have hf:decide (a=b)=false:=decide_eq_false (hne (by simpa using h))
    (refine cA ?_)
    (refine rO (hf) ?_;try with_reducible exact tt)
   ·simp only[Bool.not_eq_false',decide_eq_true_eq] at h
    (refine cA ?_)
    refine⟨k+1,⟨by omega,by rw[t1,t2,hall,h]⟩,by omega,aD.keep rfl rfl ?_⟩
    (refine aY ?_;try with_reducible exact tt)
  ·have hk:k=a.length:=by simp only[decide_eq_false_iff_not] at h;omega
   have hf:decide (a=b)=true:=by
    rw[List.take_of_length_le (by omega),List.take_of_length_le (by omega)] at hall;simp[hall]
   (refine cA ?_)
   (refine rO (hf) ?_;try with_reducible exact tt)
 ·have hne:((a.length:Int) != (b.length:Int))=true:=by simp;omega
  have hf:decide (a=b)=false:=decide_eq_false (fun e=>hlen (by rw[e]))
  (refine gO (hne) ?_)
  (refine rO (hf) ?_;try with_reducible exact tt)


end Go.Proofs.YtpklhnpchhaccaaGreatDoor
