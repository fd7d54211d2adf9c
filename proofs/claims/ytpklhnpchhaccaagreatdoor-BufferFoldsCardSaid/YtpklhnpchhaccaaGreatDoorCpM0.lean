/- The abstract machine (CpA, CpD0). -/
import Derived.Test.YtpklhnpchhaccaaGreatDoorApA
import Derived.Test.YtpklhnpchhaccaaGreatDoorErM
namespace Go.Proofs.YtpklhnpchhaccaaGreatDoor
open Go Go.RowKit
set_option maxHeartbeats 4000000
set_option maxRecDepth 100000
set_option linter.unusedVariables false
set_option linter.unusedSimpArgs false
theorem aP6 {α:Type} {p:α→Bool} {l:List α} {k:Nat} (h:k<l.length) (hn:(l.take k).any p=false) (hp:p l[k]=true):l.findIdx p=k:=by
 rw[List.findIdx_eq h]
 refine⟨hp,fun j hj=>?_⟩
 have:=List.any_eq_false.1 hn (l[j]) (by rw[List.mem_take_iff_getElem];exact⟨j,by omega,rfl⟩)
 simpa using this
def fV (r:RecD):Bool:=decide (16<(r.key.length:Int)) || decide (16<(r.value.length:Int))
theorem aKh (r:RecD):aW Tryz.prog 217 [.agg r.dv] (dM (fV r)):=by
 (refine aW.of_body Tryz.func217 rfl rfl Tryz.ntmps217 Tryz.results217 (by simp) ?_)
 (refine gO (@RecD.dv.eq_1) ?_)
 (first|refine Wp.sto 2 (vb (fV r)) ?_ ?_|refine Wp.rtoS 2 (vb (fV r)) ?_ ?_|(refine Wp.seq ?_;first|refine Wp.sto 2 (vb (fV r)) ?_ ?_|refine Wp.rtoS 2 (vb (fV r)) ?_ ?_))
 ·unfold fV;((rcases Bool.eq_false_or_eq_true (decide (16<(r.key.length:Int))) with hL1|hL1)<;>(rcases Bool.eq_false_or_eq_true (decide (16<(r.value.length:Int))) with hL2|hL2)<;>(((refine rO (ai hL1 (ai hL2 (@RecD.dv.eq_1))) ?_;try with_reducible exact tt);(repeat (refine dB (by assumption) ?_;(refine rO (ai hL1 (ai hL2 (@RecD.dv.eq_1))) ?_))));all_goals (exact (show bE _ _=true by kernel_rfl))))
 (refine bP ?_)
 (refine aT ?_;try with_reducible exact tt)
theorem wV (l:List RecD) (f:Nat) (caps:List D) (p:RecD→Bool) (hp:∀ x ∈ l,aW Tryz.prog f (.agg x.dv::caps) (dM (p x))) (hl:l.length<2 ^ 40) :
  aW Tryz.prog 255 [.lst 2 (l.map RecD.dv),.fn (.func f) caps] (int (if l.any p then (l.findIdx p:Int) else -1)):=by
 (refine aW.of_body Tryz.func255 rfl rfl Tryz.ntmps255 Tryz.results255 (by simp) ?_)
 (refine bP ?_)
 refine Wp.loop (fun k:Nat=>⟨iH [(0,.c (.d (.lst 2 (l.map RecD.dv)))),(1,.c (.d (.fn (.func f) caps))),(7,vi .i64 l.length),(8,vi .i64 k)],bI [],0,19,0⟩) (fun k=>k≤l.length∧(l.take k).any p=false) (fun k=>l.length - k) 0 ⟨Nat.zero_le _,rfl⟩ ?_ ?_
 ·refine aD.keep rfl rfl ?_
  (refine aT ?_;try with_reducible exact tt)
 rintro k ⟨hk,hall⟩
 (refine bP ?_)
 refine Wp.cond (by (refine aT ?_);rfl) (fun h=>?_) (fun h=>?_)
 ·have hlt:k<l.length:=by simpa using h
  have c1:=hp l[k] (List.getElem_mem hlt)
  have hs:=gV p l k hlt
  simp only[RecD.dv] at c1
  (refine gO (ai (List.getElem?_eq_getElem hlt) (@RecD.dv.eq_1)) ?_)
  refine Wp.cond (by (refine aT ?_);rfl) (fun h=>?_) (fun h=>?_)
  ·have hi:=aP6 hlt hall h
   have ha:l.any p=true:=List.any_eq_true.2 ⟨l[k],List.getElem_mem hlt,h⟩
   (refine bP ?_)
   (refine rO (ai hi (ha)) ?_;try with_reducible exact tt)
  ·(refine bP ?_)
   refine⟨k+1,⟨by omega,by rw[hs,hall,h];rfl⟩,by omega,aD.keep rfl rfl ?_⟩
   (refine aT ?_;try with_reducible exact tt)
 ·have ha:l.any p=false:=by
   rw[List.take_of_length_le (by simp only[decide_eq_false_iff_not] at h;omega)] at hall;exact hall
  (refine bP ?_)
  (refine rO (ha) ?_;try with_reducible exact tt)
theorem sX (l:List RecD) (f:Nat) (caps:List D) (p:RecD→Bool) (hp:∀ x ∈ l,aW Tryz.prog f (.agg x.dv::caps) (dM (p x))) (hl:l.length<2 ^ 40) :
  aW Tryz.prog 216 [.lst 2 (l.map RecD.dv),.fn (.func f) caps] (dM (l.any p)):=by
 have h1:=wV l f caps p hp hl
 (refine aW.of_body Tryz.func216 rfl rfl Tryz.ntmps216 Tryz.results216 (by simp) ?_)
 cases ha:l.any p with
 | false =>
  rw[ha] at h1
  simp only[Bool.false_eq_true,if_false] at h1
  (refine bP ?_)
  (refine aT ?_;try with_reducible exact tt)
 | true =>
  rw[ha,if_pos rfl] at h1
  (refine bP ?_)
  (refine aT ?_;try with_reducible exact tt)
def dQ (b:BatD):Bool:=!(decide (b.pid<1) || decide (8<b.pid)) && !(decide (b.epoch<0) || decide (100<b.epoch)) && !(decide ((b.recs.length:Int)<1) || decide (4<(b.recs.length:Int))) && !(decide (b.seq<0) || decide (1048576 - (b.recs.length:Int)<b.seq)) && !b.recs.any fV
theorem tX (b:BatD) (hl:b.recs.length≤100000):aW Tryz.prog 172 [.agg b.dv] (dM (dQ b)):=by
 have c1:=sX b.recs 217 [] fV (fun x _=>aKh x) (by omega)
 (refine aW.of_body Tryz.func172 rfl rfl Tryz.ntmps172 Tryz.results172 (by simp) ?_)
 (refine gO (@BatD.dv.eq_1) ?_)
 (first|refine Wp.sto 7 (vb (decide (b.pid<1) || decide (8<b.pid))) ?_ ?_|refine Wp.rtoS 7 (vb (decide (b.pid<1) || decide (8<b.pid))) ?_ ?_|(refine Wp.seq ?_;first|refine Wp.sto 7 (vb (decide (b.pid<1) || decide (8<b.pid))) ?_ ?_|refine Wp.rtoS 7 (vb (decide (b.pid<1) || decide (8<b.pid))) ?_ ?_))
 ·((rcases Bool.eq_false_or_eq_true (decide (b.pid<1)) with hL1|hL1)<;>(rcases Bool.eq_false_or_eq_true (decide (8<b.pid)) with hL2|hL2)<;>(((refine rO (ai hL1 (ai hL2 (@BatD.dv.eq_1))) ?_;try with_reducible exact tt);(repeat (refine dB (by assumption) ?_;(refine rO (ai hL1 (ai hL2 (@BatD.dv.eq_1))) ?_))));all_goals (exact (show bE _ _=true by kernel_rfl))))
 refine Wp.cond (by (refine aT ?_);rfl) (fun h=>?_) (fun h=>?_)
 ·have hf:dQ b=false:=by simp only[dQ,h,Bool.not_true,Bool.false_and]
  (refine bP ?_)
  (refine rO (hf) ?_;try with_reducible exact tt)
 have h1:=h
 (refine gO (@BatD.dv.eq_1) ?_)
 (first|refine Wp.sto 16 (vb (decide (b.epoch<0) || decide (100<b.epoch))) ?_ ?_|refine Wp.rtoS 16 (vb (decide (b.epoch<0) || decide (100<b.epoch))) ?_ ?_|(refine Wp.seq ?_;first|refine Wp.sto 16 (vb (decide (b.epoch<0) || decide (100<b.epoch))) ?_ ?_|refine Wp.rtoS 16 (vb (decide (b.epoch<0) || decide (100<b.epoch))) ?_ ?_))
 ·((rcases Bool.eq_false_or_eq_true (decide (b.epoch<0)) with hL1|hL1)<;>(rcases Bool.eq_false_or_eq_true (decide (100<b.epoch)) with hL2|hL2)<;>(((refine rO (ai hL1 (ai hL2 (@BatD.dv.eq_1))) ?_;try with_reducible exact tt);(repeat (refine dB (by assumption) ?_;(refine rO (ai hL1 (ai hL2 (@BatD.dv.eq_1))) ?_))));all_goals (exact (show bE _ _=true by kernel_rfl))))
 refine Wp.cond (by (refine aT ?_);rfl) (fun h=>?_) (fun h=>?_)
 ·have hf:dQ b=false:=by simp only[dQ,h,Bool.not_true,Bool.and_false,Bool.false_and]
  (refine bP ?_)
  (refine rO (hf) ?_;try with_reducible exact tt)
 have h2:=h
 (refine gO (@BatD.dv.eq_1) ?_)
 (first|refine Wp.sto 25 (vb (decide ((b.recs.length:Int)<1) || decide (4<(b.recs.length:Int)))) ?_ ?_|refine Wp.rtoS 25 (vb (decide ((b.recs.length:Int)<1) || decide (4<(b.recs.length:Int)))) ?_ ?_|(refine Wp.seq ?_;first|refine Wp.sto 25 (vb (decide ((b.recs.length:Int)<1) || decide (4<(b.recs.length:Int)))) ?_ ?_|refine Wp.rtoS 25 (vb (decide ((b.recs.length:Int)<1) || decide (4<(b.recs.length:Int)))) ?_ ?_))
 ·((rcases Bool.eq_false_or_eq_true (decide ((b.recs.length:Int)<1)) with hL1|hL1)<;>(rcases Bool.eq_false_or_eq_true (decide (4<(b.recs.length:Int))) with hL2|hL2)<;>(((refine rO (ai hL1 (ai hL2 (@BatD.dv.eq_1))) ?_;try with_reducible exact tt);(repeat (refine dB (by assumption) ?_;(refine rO (ai hL1 (ai hL2 (@BatD.dv.eq_1))) ?_))));all_goals (exact (show bE _ _=true by kernel_rfl))))
 refine Wp.cond (by (refine aT ?_);rfl) (fun h=>?_) (fun h=>?_)
 ·have hf:dQ b=false:=by simp only[dQ,h,Bool.not_true,Bool.and_false,Bool.false_and]
  (refine bP ?_)
  (refine rO (hf) ?_;try with_reducible exact tt)
 have h3:=h
 (refine gO (@BatD.dv.eq_1) ?_)
 (first|refine Wp.sto 32 (vb (decide (b.seq<0) || decide (1048576 - (b.recs.length:Int)<b.seq))) ?_ ?_|refine Wp.rtoS 32 (vb (decide (b.seq<0) || decide (1048576 - (b.recs.length:Int)<b.seq))) ?_ ?_|(refine Wp.seq ?_;first|refine Wp.sto 32 (vb (decide (b.seq<0) || decide (1048576 - (b.recs.length:Int)<b.seq))) ?_ ?_|refine Wp.rtoS 32 (vb (decide (b.seq<0) || decide (1048576 - (b.recs.length:Int)<b.seq))) ?_ ?_))
 ·((rcases Bool.eq_false_or_eq_true (decide (b.seq<0)) with hL1|hL1)<;>(rcases Bool.eq_false_or_eq_true (decide (1048576 - (b.recs.length:Int)<b.seq)) with hL2|hL2)<;>(((refine rO (ai hL1 (ai hL2 (@BatD.dv.eq_1))) ?_;try with_reducible exact tt);(repeat (refine dB (by assumption) ?_;(refine rO (ai hL1 (ai hL2 (@BatD.dv.eq_1))) ?_))));all_goals (exact (show bE _ _=true by kernel_rfl))))
 refine Wp.cond (by (refine aT ?_);rfl) (fun h=>?_) (fun h=>?_)
 ·have hf:dQ b=false:=by simp only[dQ,h,Bool.not_true,Bool.and_false,Bool.false_and]
  (refine bP ?_)
  (refine rO (hf) ?_;try with_reducible exact tt)
 have h4:=h
 have hf:dQ b = !b.recs.any fV:=by simp only[dQ,h1,h2,h3,h4,Bool.not_false,Bool.true_and]
 (refine gO (@BatD.dv.eq_1) ?_)
 (refine rO (hf) ?_;try with_reducible exact tt)
def eB (b:BatD):Int:=IntKind.i64.wrap (b.seq+(b.recs.length:Int))
theorem aMr (b:BatD):aW Tryz.prog 207 [.agg b.dv] (int (eB b)):=by
 (refine aW.of_body Tryz.func207 rfl rfl Tryz.ntmps207 Tryz.results207 (by simp) ?_)
 (refine gO (@BatD.dv.eq_1) ?_)
 (refine rO (@eB.eq_1) ?_;try with_reducible exact tt)
set_option maxHeartbeats 8000000
structure SmallE (e:EntD):Prop where
 recs:e.b.recs.length≤100000
 seen:e.prod.seen.length≤100000
/-! too great? -/
def aG5 (r:RecD):Bool:=decide (200<(r.key.length:Int)) || decide (200<(r.value.length:Int))
def yH (e:EntD):Bool:=decide (40<(e.b.recs.length:Int)) || decide (200<(e.row.key.length:Int)) || decide (200<(e.row.value.length:Int)) || decide (40<(e.prod.seen.length:Int))
def wT (e:EntD):Bool:=yH e || e.b.recs.any aG5
theorem aRg (e:EntD):aW Tryz.prog 101 [.agg e.dv] (dM (wT e)):=by
 (refine aW.of_body Tryz.func101 rfl rfl Tryz.ntmps101 Tryz.results101 (by simp) ?_)
 (refine gO (@EntD.dv.eq_1) ?_)
 (first|refine Wp.sto 29 (vb (yH e)) ?_ ?_|refine Wp.rtoS 29 (vb (yH e)) ?_ ?_|(refine Wp.seq ?_;first|refine Wp.sto 29 (vb (yH e)) ?_ ?_|refine Wp.rtoS 29 (vb (yH e)) ?_ ?_))
 ·unfold yH;((rcases Bool.eq_false_or_eq_true (decide (40<(e.b.recs.length:Int))) with hL1|hL1)<;>(rcases Bool.eq_false_or_eq_true (decide (200<(e.row.key.length:Int))) with hL2|hL2)<;>(rcases Bool.eq_false_or_eq_true (decide (200<(e.row.value.length:Int))) with hL3|hL3)<;>(rcases Bool.eq_false_or_eq_true (decide (40<(e.prod.seen.length:Int))) with hL4|hL4)<;>(((refine rO (ai hL1 (ai hL2 (ai hL3 (ai hL4 (@EntD.dv.eq_1))))) ?_;try with_reducible exact tt);(repeat (refine dB (by assumption) ?_;(refine rO (ai hL1 (ai hL2 (ai hL3 (ai hL4 (@EntD.dv.eq_1))))) ?_))));all_goals (exact (show bE _ _=true by kernel_rfl))))
 refine Wp.cond (by (refine aT ?_);rfl) (fun h=>?_) (fun h=>?_)
 ·have hf:wT e=true:=by simp only[wT,h,Bool.true_or]
  (refine bP ?_)
  (refine rO (hf) ?_;try with_reducible exact tt)
 have h1:=h
 have hl:e.b.recs.length≤40:=by simp only[yH,Bool.or_eq_false_iff,decide_eq_false_iff_not] at h;omega
 (refine gO (@EntD.dv.eq_1) ?_)
 refine Wp.loop (fun k:Nat=>⟨iH [(1,.c (.own 0 0)),(3,vi .i64 k)],bI [(0,.cells (e.dv.map .d))],1,58,0⟩) (fun k=>k≤e.b.recs.length∧(e.b.recs.take k).any aG5=false) (fun k=>e.b.recs.length - k) 0 ⟨Nat.zero_le _,rfl⟩ ?_ ?_
 ·refine aD.keep rfl rfl ?_
  (refine rO (@EntD.dv.eq_1) ?_;try with_reducible exact tt)
 rintro k ⟨hk,hall⟩
 (refine gO (@EntD.dv.eq_1) ?_)
 refine Wp.cond (by (refine aT ?_);rfl) (fun h=>?_) (fun h=>?_)
 ·have hlt:k<e.b.recs.length:=by simpa using h
  have hs:=gV aG5 e.b.recs k hlt
  have hm:e.b.recs[k] ∈ e.b.recs:=List.getElem_mem hlt
  have hge:e.b.recs[k]? = some e.b.recs[k]:=List.getElem?_eq_getElem hlt
  generalize e.b.recs[k]=r at *
  (refine bP ?_)
  (first|refine Wp.sto 57 (vb (aG5 r)) ?_ ?_|refine Wp.rtoS 57 (vb (aG5 r)) ?_ ?_|(refine Wp.seq ?_;first|refine Wp.sto 57 (vb (aG5 r)) ?_ ?_|refine Wp.rtoS 57 (vb (aG5 r)) ?_ ?_))
  ·unfold aG5;((rcases Bool.eq_false_or_eq_true (decide (200<(r.key.length:Int))) with hL1|hL1)<;>(rcases Bool.eq_false_or_eq_true (decide (200<(r.value.length:Int))) with hL2|hL2)<;>(((refine rO (ai hL1 (ai hL2 (ai hge (ai @RecD.dv.eq_1 (@EntD.dv.eq_1))))) ?_;try with_reducible exact tt);(repeat (refine dB (by assumption) ?_;(refine rO (ai hL1 (ai hL2 (ai hge (ai @RecD.dv.eq_1 (@EntD.dv.eq_1))))) ?_))));all_goals (exact (show bE _ _=true by kernel_rfl))))
  refine Wp.cond (by (refine aT ?_);rfl) (fun h=>?_) (fun h=>?_)
  ·have hf:wT e=true:=by
    have:e.b.recs.any aG5=true:=List.any_eq_true.2 ⟨r,hm,h⟩
    simp only[wT,this,Bool.or_true]
   (refine bP ?_)
   (refine rO (hf) ?_;try with_reducible exact tt)
  ·(refine bP ?_)
   refine⟨k+1,⟨by omega,by rw[hs,hall,h];rfl⟩,by omega,aD.keep rfl rfl ?_⟩
   (refine rO (@EntD.dv.eq_1) ?_;try with_reducible exact tt)
 ·have hf:wT e=false:=by
   rw[List.take_of_length_le (by simp only[decide_eq_false_iff_not] at h;omega)] at hall
   simp only[wT,h1,hall];rfl
  (refine bP ?_)
  (refine rO (hf) ?_;try with_reducible exact tt)
def wS (l:List EntD):Bool:=decide (200<(l.length:Int)) || l.any wT
theorem aIr (l:List EntD):aW Tryz.prog 51 [.lst 18 (l.map EntD.dv)] (dM (wS l)):=by
 (refine aW.of_body Tryz.func51 rfl rfl Tryz.ntmps51 Tryz.results51 (by simp) ?_)
 (refine bP ?_)
 refine Wp.cond (by (refine aT ?_);rfl) (fun h=>?_) (fun h=>?_)
 ·have hf:wS l=true:=by simp only[wS,h,Bool.true_or]
  (refine bP ?_)
  (refine rO (hf) ?_;try with_reducible exact tt)
 have h1:=h
 have hl:l.length≤200:=by simp only[decide_eq_false_iff_not] at h;omega
 (refine bP ?_)
 refine Wp.loop (fun k:Nat=>⟨iH [(0,.c (.d (.lst 18 (l.map EntD.dv)))),(3,vi .i64 k)],bI [],0,18,0⟩) (fun k=>k≤l.length∧(l.take k).any wT=false) (fun k=>l.length - k) 0 ⟨Nat.zero_le _,rfl⟩ ?_ ?_
 ·refine aD.keep rfl rfl ?_
  (refine aT ?_;try with_reducible exact tt)
 rintro k ⟨hk,hall⟩
 (refine bP ?_)
 refine Wp.cond (by (refine aT ?_);rfl) (fun h=>?_) (fun h=>?_)
 ·have hlt:k<l.length:=by simpa using h
  have hs:=gV wT l k hlt
  have hm:l[k] ∈ l:=List.getElem_mem hlt
  have hge:l[k]? = some l[k]:=List.getElem?_eq_getElem hlt
  generalize l[k]=e at *
  have c1:=aRg e
  simp only[EntD.dv] at c1
  (refine gO (ai hge (@EntD.dv.eq_1)) ?_)
  refine Wp.cond (by (refine aT ?_);rfl) (fun h=>?_) (fun h=>?_)
  ·have hf:wS l=true:=by
    have:l.any wT=true:=List.any_eq_true.2 ⟨e,hm,h⟩
    simp only[wS,this,Bool.or_true]
   (refine bP ?_)
   (refine rO (hf) ?_;try with_reducible exact tt)
  ·(refine bP ?_)
   refine⟨k+1,⟨by omega,by rw[hs,hall,h];rfl⟩,by omega,aD.keep rfl rfl ?_⟩
   (refine aT ?_;try with_reducible exact tt)
 ·have hf:wS l=false:=by
   rw[List.take_of_length_le (by simp only[decide_eq_false_iff_not] at h;omega)] at hall
   simp only[wS,h1,hall];rfl
  (refine bP ?_)
  (refine rO (hf) ?_;try with_reducible exact tt)
end Go.Proofs.YtpklhnpchhaccaaGreatDoor
