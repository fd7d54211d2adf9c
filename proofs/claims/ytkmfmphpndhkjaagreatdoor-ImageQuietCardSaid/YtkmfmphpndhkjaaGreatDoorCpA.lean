/- Packages record,copying and their references: batches that may be. -/
import Derived.Test.YtkmfmphpndhkjaaGreatDoorApA
import Derived.Test.YtkmfmphpndhkjaaGreatDoorErM
namespace Go.Proofs.YtkmfmphpndhkjaaGreatDoor
open Go Go.RowKit
set_option maxHeartbeats 4000000
set_option maxRecDepth 100000
set_option linter.unusedVariables false
set_option linter.unusedSimpArgs false
theorem aN3 {α:Type} {p:α→Bool} {l:List α} {k:Nat} (h:k<l.length) (hn:(l.take k).any p=false) (hp:p l[k]=true):l.findIdx p=k:=by
 rw[List.findIdx_eq h]
 refine⟨hp,fun j hj=>?_⟩
 have:=List.any_eq_false.1 hn (l[j]) (by rw[List.mem_take_iff_getElem];exact⟨j,by omega,rfl⟩)
 simpa using this
def iS (r:RecD):Bool:=decide (16<(r.key.length:Int)) || decide (16<(r.value.length:Int))
theorem aJf (r:RecD):aJ Tryz.prog 202 [.agg r.dv] (dC (iS r)):=by
 (refine aJ.of_body Tryz.func202 rfl rfl Tryz.ntmps202 Tryz.results202 (by simp) ?_)
 (refine gO (@RecD.dv.eq_1) ?_)
 (first|refine Wp.sto 2 (vb (iS r)) ?_ ?_|refine Wp.rtoS 2 (vb (iS r)) ?_ ?_|(refine Wp.seq ?_;first|refine Wp.sto 2 (vb (iS r)) ?_ ?_|refine Wp.rtoS 2 (vb (iS r)) ?_ ?_))
 ·unfold iS;((rcases Bool.eq_false_or_eq_true (decide (16<(r.key.length:Int))) with hL1|hL1)<;>(rcases Bool.eq_false_or_eq_true (decide (16<(r.value.length:Int))) with hL2|hL2)<;>(((refine rO (ai hL1 (ai hL2 (@RecD.dv.eq_1))) ?_;try with_reducible exact tt);(repeat (refine aQ (by assumption) ?_;(refine rO (ai hL1 (ai hL2 (@RecD.dv.eq_1))) ?_))));all_goals (exact (show aH _ _=true by kernel_rfl))))
 (refine aI ?_)
 (refine aK ?_;try with_reducible exact tt)
theorem wY (l:List RecD) (f:Nat) (caps:List D) (p:RecD→Bool) (hp:∀ x ∈ l,aJ Tryz.prog f (.agg x.dv::caps) (dC (p x))) (hl:l.length<2 ^ 40) :
  aJ Tryz.prog 203 [.lst 2 (l.map RecD.dv),.fn (.func f) caps] (int (if l.any p then (l.findIdx p:Int) else -1)):=by
 (refine aJ.of_body Tryz.func203 rfl rfl Tryz.ntmps203 Tryz.results203 (by simp) ?_)
 (refine aI ?_)
 refine Wp.loop (fun k:Nat=>⟨dI [(0,.c (.d (.lst 2 (l.map RecD.dv)))),(1,.c (.d (.fn (.func f) caps))),(7,vi .i64 l.length),(8,vi .i64 k)],bJ [],0,19,0⟩) (fun k=>k≤l.length∧(l.take k).any p=false) (fun k=>l.length - k) 0 ⟨Nat.zero_le _,rfl⟩ ?_ ?_
 ·refine aD.keep rfl rfl ?_
  (refine aK ?_;try with_reducible exact tt)
 rintro k ⟨hk,hall⟩
 (refine aI ?_)
 refine Wp.cond (by (refine aK ?_);rfl) (fun h=>?_) (fun h=>?_)
 ·have hlt:k<l.length:=by simpa using h
  have c1:=hp l[k] (List.getElem_mem hlt)
  have hs:=dH p l k hlt
  simp only[RecD.dv] at c1
  (refine gO (ai (List.getElem?_eq_getElem hlt) (@RecD.dv.eq_1)) ?_)
  refine Wp.cond (by (refine aK ?_);rfl) (fun h=>?_) (fun h=>?_)
  ·have hi:=aN3 hlt hall h
   have ha:l.any p=true:=List.any_eq_true.2 ⟨l[k],List.getElem_mem hlt,h⟩
   (refine aI ?_)
   (refine rO (ai hi (ha)) ?_;try with_reducible exact tt)
  ·(refine aI ?_)
   refine⟨k+1,⟨by omega,by rw[hs,hall,h];rfl⟩,by omega,aD.keep rfl rfl ?_⟩
   (refine aK ?_;try with_reducible exact tt)
 ·have ha:l.any p=false:=by
   rw[List.take_of_length_le (by simp only[decide_eq_false_iff_not] at h;omega)] at hall;exact hall
  (refine aI ?_)
  (refine rO (ha) ?_;try with_reducible exact tt)
theorem sN (l:List RecD) (f:Nat) (caps:List D) (p:RecD→Bool) (hp:∀ x ∈ l,aJ Tryz.prog f (.agg x.dv::caps) (dC (p x))) (hl:l.length<2 ^ 40) :
  aJ Tryz.prog 201 [.lst 2 (l.map RecD.dv),.fn (.func f) caps] (dC (l.any p)):=by
 have h1:=wY l f caps p hp hl
 (refine aJ.of_body Tryz.func201 rfl rfl Tryz.ntmps201 Tryz.results201 (by simp) ?_)
 cases ha:l.any p with
 | false =>
  rw[ha] at h1
  simp only[Bool.false_eq_true,if_false] at h1
  (refine aI ?_)
  (refine aK ?_;try with_reducible exact tt)
 | true =>
  rw[ha,if_pos rfl] at h1
  (refine aI ?_)
  (refine aK ?_;try with_reducible exact tt)
def mW (b:BatD):Bool:=!(decide (b.pid<1) || decide (8<b.pid)) && !(decide (b.epoch<0) || decide (100<b.epoch)) && !(decide ((b.recs.length:Int)<1) || decide (4<(b.recs.length:Int))) && !(decide (b.seq<0) || decide (1048576 - (b.recs.length:Int)<b.seq)) && !b.recs.any iS
theorem aKv (b:BatD) (hl:b.recs.length≤100000):aJ Tryz.prog 196 [.agg b.dv] (dC (mW b)):=by
 have c1:=sN b.recs 202 [] iS (fun x _=>aJf x) (by omega)
 (refine aJ.of_body Tryz.func196 rfl rfl Tryz.ntmps196 Tryz.results196 (by simp) ?_)
 (refine gO (@BatD.dv.eq_1) ?_)
 (first|refine Wp.sto 7 (vb (decide (b.pid<1) || decide (8<b.pid))) ?_ ?_|refine Wp.rtoS 7 (vb (decide (b.pid<1) || decide (8<b.pid))) ?_ ?_|(refine Wp.seq ?_;first|refine Wp.sto 7 (vb (decide (b.pid<1) || decide (8<b.pid))) ?_ ?_|refine Wp.rtoS 7 (vb (decide (b.pid<1) || decide (8<b.pid))) ?_ ?_))
 ·((rcases Bool.eq_false_or_eq_true (decide (b.pid<1)) with hL1|hL1)<;>(rcases Bool.eq_false_or_eq_true (decide (8<b.pid)) with hL2|hL2)<;>(((refine rO (ai hL1 (ai hL2 (@BatD.dv.eq_1))) ?_;try with_reducible exact tt);(repeat (refine aQ (by assumption) ?_;(refine rO (ai hL1 (ai hL2 (@BatD.dv.eq_1))) ?_))));all_goals (exact (show aH _ _=true by kernel_rfl))))
 refine Wp.cond (by (refine aK ?_);rfl) (fun h=>?_) (fun h=>?_)
 ·have hf:mW b=false:=by simp only[mW,h,Bool.not_true,Bool.false_and]
  (refine aI ?_)
  (refine rO (hf) ?_;try with_reducible exact tt)
 have h1:=h
 (refine gO (@BatD.dv.eq_1) ?_)
 (first|refine Wp.sto 16 (vb (decide (b.epoch<0) || decide (100<b.epoch))) ?_ ?_|refine Wp.rtoS 16 (vb (decide (b.epoch<0) || decide (100<b.epoch))) ?_ ?_|(refine Wp.seq ?_;first|refine Wp.sto 16 (vb (decide (b.epoch<0) || decide (100<b.epoch))) ?_ ?_|refine Wp.rtoS 16 (vb (decide (b.epoch<0) || decide (100<b.epoch))) ?_ ?_))
 ·((rcases Bool.eq_false_or_eq_true (decide (b.epoch<0)) with hL1|hL1)<;>(rcases Bool.eq_false_or_eq_true (decide (100<b.epoch)) with hL2|hL2)<;>(((refine rO (ai hL1 (ai hL2 (@BatD.dv.eq_1))) ?_;try with_reducible exact tt);(repeat (refine aQ (by assumption) ?_;(refine rO (ai hL1 (ai hL2 (@BatD.dv.eq_1))) ?_))));all_goals (exact (show aH _ _=true by kernel_rfl))))
 refine Wp.cond (by (refine aK ?_);rfl) (fun h=>?_) (fun h=>?_)
 ·have hf:mW b=false:=by simp only[mW,h,Bool.not_true,Bool.and_false,Bool.false_and]
  (refine aI ?_)
  (refine rO (hf) ?_;try with_reducible exact tt)
 have h2:=h
 (refine gO (@BatD.dv.eq_1) ?_)
 (first|refine Wp.sto 25 (vb (decide ((b.recs.length:Int)<1) || decide (4<(b.recs.length:Int)))) ?_ ?_|refine Wp.rtoS 25 (vb (decide ((b.recs.length:Int)<1) || decide (4<(b.recs.length:Int)))) ?_ ?_|(refine Wp.seq ?_;first|refine Wp.sto 25 (vb (decide ((b.recs.length:Int)<1) || decide (4<(b.recs.length:Int)))) ?_ ?_|refine Wp.rtoS 25 (vb (decide ((b.recs.length:Int)<1) || decide (4<(b.recs.length:Int)))) ?_ ?_))
 ·((rcases Bool.eq_false_or_eq_true (decide ((b.recs.length:Int)<1)) with hL1|hL1)<;>(rcases Bool.eq_false_or_eq_true (decide (4<(b.recs.length:Int))) with hL2|hL2)<;>(((refine rO (ai hL1 (ai hL2 (@BatD.dv.eq_1))) ?_;try with_reducible exact tt);(repeat (refine aQ (by assumption) ?_;(refine rO (ai hL1 (ai hL2 (@BatD.dv.eq_1))) ?_))));all_goals (exact (show aH _ _=true by kernel_rfl))))
 refine Wp.cond (by (refine aK ?_);rfl) (fun h=>?_) (fun h=>?_)
 ·have hf:mW b=false:=by simp only[mW,h,Bool.not_true,Bool.and_false,Bool.false_and]
  (refine aI ?_)
  (refine rO (hf) ?_;try with_reducible exact tt)
 have h3:=h
 (refine gO (@BatD.dv.eq_1) ?_)
 (first|refine Wp.sto 32 (vb (decide (b.seq<0) || decide (1048576 - (b.recs.length:Int)<b.seq))) ?_ ?_|refine Wp.rtoS 32 (vb (decide (b.seq<0) || decide (1048576 - (b.recs.length:Int)<b.seq))) ?_ ?_|(refine Wp.seq ?_;first|refine Wp.sto 32 (vb (decide (b.seq<0) || decide (1048576 - (b.recs.length:Int)<b.seq))) ?_ ?_|refine Wp.rtoS 32 (vb (decide (b.seq<0) || decide (1048576 - (b.recs.length:Int)<b.seq))) ?_ ?_))
 ·((rcases Bool.eq_false_or_eq_true (decide (b.seq<0)) with hL1|hL1)<;>(rcases Bool.eq_false_or_eq_true (decide (1048576 - (b.recs.length:Int)<b.seq)) with hL2|hL2)<;>(((refine rO (ai hL1 (ai hL2 (@BatD.dv.eq_1))) ?_;try with_reducible exact tt);(repeat (refine aQ (by assumption) ?_;(refine rO (ai hL1 (ai hL2 (@BatD.dv.eq_1))) ?_))));all_goals (exact (show aH _ _=true by kernel_rfl))))
 refine Wp.cond (by (refine aK ?_);rfl) (fun h=>?_) (fun h=>?_)
 ·have hf:mW b=false:=by simp only[mW,h,Bool.not_true,Bool.and_false,Bool.false_and]
  (refine aI ?_)
  (refine rO (hf) ?_;try with_reducible exact tt)
 have h4:=h
 have hf:mW b = !b.recs.any iS:=by simp only[mW,h1,h2,h3,h4,Bool.not_false,Bool.true_and]
 (refine gO (@BatD.dv.eq_1) ?_)
 (refine rO (hf) ?_;try with_reducible exact tt)
def wS (b:BatD):Int:=IntKind.i64.wrap (b.seq+(b.recs.length:Int))
theorem aEb (b:BatD):aJ Tryz.prog 150 [.agg b.dv] (int (wS b)):=by
 (refine aJ.of_body Tryz.func150 rfl rfl Tryz.ntmps150 Tryz.results150 (by simp) ?_)
 (refine gO (@BatD.dv.eq_1) ?_)
 (refine rO (@wS.eq_1) ?_;try with_reducible exact tt)
end Go.Proofs.YtkmfmphpndhkjaaGreatDoor
