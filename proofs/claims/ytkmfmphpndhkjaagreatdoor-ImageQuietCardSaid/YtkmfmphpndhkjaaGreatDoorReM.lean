/- The abstract machine (ReA, ReB, ReC, ReD). -/
import Derived.Test.YtkmfmphpndhkjaaGreatDoorApA
import Derived.Test.YtkmfmphpndhkjaaGreatDoorErN
namespace Go.Proofs.YtkmfmphpndhkjaaGreatDoor
open Go Go.RowKit
set_option maxHeartbeats 4000000
set_option maxRecDepth 100000
set_option linter.unusedVariables false
set_option linter.unusedSimpArgs false
def eH:List Int→Bool
 | a::b::l=>decide (a<b) && eH (b::l)
 | _=>true
theorem aIo:∀ (l:List Int) (a b:Int),eH (l++[a,b])=(eH (l++[a]) && decide (a<b))
 | [],a,b=>by simp[eH]
 | [x],a,b=>by simp[eH,Bool.and_assoc]
 | x::y::l,a,b=>by
  have:=aIo (y::l) a b
  simp only[List.cons_append,eH] at this ⊢
  rw[this,Bool.and_assoc]
theorem aBj (l:List Int) (k:Nat) (h:k+1<l.length):eH (l.take (k+2))=(eH (l.take (k+1)) && decide (l[k]<l[k+1])):=by
 rw[List.take_succ_eq_append_getElem h,List.take_succ_eq_append_getElem (show k<l.length by omega)]
 rw[List.append_assoc]
 exact aIo (l.take k) l[k] l[k+1]
theorem aLy (l:List Int):eH (l.take 1)=true:=by
 match l with
 | []=>rfl
 | [a]=>rfl
 | a::b::l=>rfl
theorem aDt (l:List Int) (k:Nat):∀ (n:Nat),eH (l.take k)=false→eH (l.take (k+n))=false
 | 0,h=>h
 | n+1,h=>by
  have ih:=aDt l k n h
  by_cases hk:k+n+1≤l.length
  ·match hm:k+n with
   | 0=>rw[hm] at ih;simp[eH] at ih
   | m+1=>rw[hm] at ih hk;rw[show k+(n+1)=m+2 by omega,aBj l m (by omega),ih];rfl
  ·rw[List.take_of_length_le (by omega)] at ih ⊢;exact ih
theorem aDu (l:List Int) (k:Nat) (h:eH (l.take k)=false):eH l=false:=by
 have:=aDt l k l.length h
 rwa [List.take_of_length_le (by omega)] at this
theorem aDn (r:RowD):aJ Tryz.prog 188 [.agg r.dv] (int r.off):=by
 (refine aJ.of_body Tryz.func188 rfl rfl Tryz.ntmps188 Tryz.results188 (by simp) ?_)
 (refine gO (@RowD.dv.eq_1) ?_;try with_reducible exact tt)
 (refine aK ?_;try with_reducible exact tt)
theorem aDq (o:OpenD):aJ Tryz.prog 190 [.agg o.dv] (int o.pid):=by
 (refine aJ.of_body Tryz.func190 rfl rfl Tryz.ntmps190 Tryz.results190 (by simp) ?_)
 (refine gO (@OpenD.dv.eq_1) ?_;try with_reducible exact tt)
 (refine aK ?_;try with_reducible exact tt)
theorem aGy (o:OpenD):aJ Tryz.prog 192 [.agg o.dv] (dC (o.bats == [])):=by
 (refine aJ.of_body Tryz.func192 rfl rfl Tryz.ntmps192 Tryz.results192 (by simp) ?_)
 (refine gO (@OpenD.dv.eq_1) ?_;try with_reducible exact tt)
 (refine aK ?_;try with_reducible exact tt)
 cases o.bats<;>rfl
theorem aBl (l:List RowD) (hl:l.length<2 ^ 40):aJ Tryz.prog 187 [.lst 5 (l.map RowD.dv),.fn (.func 188) []] (dC (eH (l.map (·.off)))):=by
 (refine aJ.of_body Tryz.func187 rfl rfl Tryz.ntmps187 Tryz.results187 (by simp) ?_)
 (refine aI ?_;try with_reducible exact tt)
 refine Wp.loop (fun k:Nat=>⟨dI [(0,.c (.d (.lst 5 (l.map RowD.dv)))),(1,.c (.d (.fn (.func 188) []))),(5,vi .i64 ((k+1:Nat):Int))],bJ [],0,26,0⟩) (fun k=>k≤l.length∧eH ((l.map (·.off)).take (k+1))=true) (fun k=>l.length - k) 0 ⟨Nat.zero_le _,aLy _⟩ ?_ ?_
 ·refine aD.keep rfl rfl ?_
  (refine aK ?_;try with_reducible exact tt)
 rintro k ⟨hk,hall⟩
 (refine aI ?_;try with_reducible exact tt)
 refine Wp.cond (by (refine aK ?_;try with_reducible exact tt);rfl) (fun h=>?_) (fun h=>?_)
 ·have hlt:k+1<l.length:=by simp only[decide_eq_true_eq] at h;omega
  have hlt0:k<l.length:=by omega
  have c1:=aDn l[k+1]
  have c2:=aDn l[k]
  have hs:=aBj (l.map (·.off)) k (by simpa using hlt)
  simp only[List.getElem_map] at hs
  simp only[RowD.dv] at c1 c2
  (refine gO (ai (List.getElem?_eq_getElem hlt) (ai (List.getElem?_eq_getElem hlt0) (@RowD.dv.eq_1))) ?_;try with_reducible exact tt)
  refine Wp.cond (by (refine aK ?_;try with_reducible exact tt);rfl) (fun h=>?_) (fun h=>?_)
  ·have hf:eH (l.map (·.off))=false:=aDu _ (k+2) (by rw[hs,decide_eq_false (by simp only[decide_eq_true_eq] at h;omega)];simp)
   (refine aI ?_;try with_reducible exact tt)
   (refine rO (hf) ?_;try with_reducible exact tt)
  ·(refine aI ?_;try with_reducible exact tt)
   refine⟨k+1,⟨by omega,by rw[hs,hall,Bool.true_and];simp only[decide_eq_false_iff_not] at h;simp;omega⟩,by omega,aD.keep rfl rfl ?_⟩
   (refine aK ?_;try with_reducible exact tt)
 ·have ht:eH (l.map (·.off))=true:=by
   rw[List.take_of_length_le (by simp only[decide_eq_false_iff_not] at h;simp;omega)] at hall;exact hall
  (refine aI ?_;try with_reducible exact tt)
  (refine rO (ht) ?_;try with_reducible exact tt)
theorem yU (l:List OpenD) (hl:l.length<2 ^ 40):aJ Tryz.prog 189 [.lst 3 (l.map OpenD.dv),.fn (.func 190) []] (dC (eH (l.map (·.pid)))):=by
 (refine aJ.of_body Tryz.func189 rfl rfl Tryz.ntmps189 Tryz.results189 (by simp) ?_)
 (refine aI ?_;try with_reducible exact tt)
 refine Wp.loop (fun k:Nat=>⟨dI [(0,.c (.d (.lst 3 (l.map OpenD.dv)))),(1,.c (.d (.fn (.func 190) []))),(5,vi .i64 ((k+1:Nat):Int))],bJ [],0,26,0⟩) (fun k=>k≤l.length∧eH ((l.map (·.pid)).take (k+1))=true) (fun k=>l.length - k) 0 ⟨Nat.zero_le _,aLy _⟩ ?_ ?_
 ·refine aD.keep rfl rfl ?_
  (refine aK ?_;try with_reducible exact tt)
 rintro k ⟨hk,hall⟩
 (refine aI ?_;try with_reducible exact tt)
 refine Wp.cond (by (refine aK ?_;try with_reducible exact tt);rfl) (fun h=>?_) (fun h=>?_)
 ·have hlt:k+1<l.length:=by simp only[decide_eq_true_eq] at h;omega
  have hlt0:k<l.length:=by omega
  have c1:=aDq l[k+1]
  have c2:=aDq l[k]
  have hs:=aBj (l.map (·.pid)) k (by simpa using hlt)
  simp only[List.getElem_map] at hs
  simp only[OpenD.dv] at c1 c2
  (refine gO (ai (List.getElem?_eq_getElem hlt) (ai (List.getElem?_eq_getElem hlt0) (@OpenD.dv.eq_1))) ?_;try with_reducible exact tt)
  refine Wp.cond (by (refine aK ?_;try with_reducible exact tt);rfl) (fun h=>?_) (fun h=>?_)
  ·have hf:eH (l.map (·.pid))=false:=aDu _ (k+2) (by rw[hs,decide_eq_false (by simp only[decide_eq_true_eq] at h;omega)];simp)
   (refine aI ?_;try with_reducible exact tt)
   (refine rO (hf) ?_;try with_reducible exact tt)
  ·(refine aI ?_;try with_reducible exact tt)
   refine⟨k+1,⟨by omega,by rw[hs,hall,Bool.true_and];simp only[decide_eq_false_iff_not] at h;simp;omega⟩,by omega,aD.keep rfl rfl ?_⟩
   (refine aK ?_;try with_reducible exact tt)
 ·have ht:eH (l.map (·.pid))=true:=by
   rw[List.take_of_length_le (by simp only[decide_eq_false_iff_not] at h;simp;omega)] at hall;exact hall
  (refine aI ?_;try with_reducible exact tt)
  (refine rO (ht) ?_;try with_reducible exact tt)
theorem aHj {α:Type} {p:α→Bool} {l:List α} {k:Nat} (h:k<l.length) (hn:(l.take k).any p=false) (hp:p l[k]=true):l.findIdx p=k:=by
 rw[List.findIdx_eq h]
 refine⟨hp,fun j hj=>?_⟩
 have:=List.any_eq_false.1 hn (l[j]) (by rw[List.mem_take_iff_getElem];exact⟨j,by omega,rfl⟩)
 simpa using this
theorem rG (l:List OpenD) (f:Nat) (caps:List D) (p:OpenD→Bool) (hp:∀ x ∈ l,aJ Tryz.prog f (.agg x.dv::caps) (dC (p x))) (hl:l.length<2 ^ 40) :
  aJ Tryz.prog 181 [.lst 3 (l.map OpenD.dv),.fn (.func f) caps] (int (if l.any p then (l.findIdx p:Int) else -1)):=by
 (refine aJ.of_body Tryz.func181 rfl rfl Tryz.ntmps181 Tryz.results181 (by simp) ?_)
 (refine aI ?_;try with_reducible exact tt)
 refine Wp.loop (fun k:Nat=>⟨dI [(0,.c (.d (.lst 3 (l.map OpenD.dv)))),(1,.c (.d (.fn (.func f) caps))),(7,vi .i64 l.length),(8,vi .i64 k)],bJ [],0,19,0⟩) (fun k=>k≤l.length∧(l.take k).any p=false) (fun k=>l.length - k) 0 ⟨Nat.zero_le _,rfl⟩ ?_ ?_
 ·refine aD.keep rfl rfl ?_
  (refine aK ?_;try with_reducible exact tt)
 rintro k ⟨hk,hall⟩
 (refine aI ?_;try with_reducible exact tt)
 refine Wp.cond (by (refine aK ?_;try with_reducible exact tt);rfl) (fun h=>?_) (fun h=>?_)
 ·have hlt:k<l.length:=by simpa using h
  have c1:=hp l[k] (List.getElem_mem hlt)
  have hs:=dH p l k hlt
  simp only[OpenD.dv] at c1
  (refine gO (ai (List.getElem?_eq_getElem hlt) (@OpenD.dv.eq_1)) ?_;try with_reducible exact tt)
  refine Wp.cond (by (refine aK ?_;try with_reducible exact tt);rfl) (fun h=>?_) (fun h=>?_)
  ·have hi:=aHj hlt hall h
   have ha:l.any p=true:=List.any_eq_true.2 ⟨l[k],List.getElem_mem hlt,h⟩
   (refine aI ?_;try with_reducible exact tt)
   (refine rO (ai hi (ha)) ?_;try with_reducible exact tt)
  ·(refine aI ?_;try with_reducible exact tt)
   refine⟨k+1,⟨by omega,by rw[hs,hall,h];rfl⟩,by omega,aD.keep rfl rfl ?_⟩
   (refine aK ?_;try with_reducible exact tt)
 ·have ha:l.any p=false:=by
   rw[List.take_of_length_le (by simp only[decide_eq_false_iff_not] at h;omega)] at hall;exact hall
  (refine aI ?_;try with_reducible exact tt)
  (refine rO (ha) ?_;try with_reducible exact tt)
theorem uT (l:List OpenD) (f:Nat) (caps:List D) (p:OpenD→Bool) (hp:∀ x ∈ l,aJ Tryz.prog f (.agg x.dv::caps) (dC (p x))) (hl:l.length<2 ^ 40) :
  aJ Tryz.prog 191 [.lst 3 (l.map OpenD.dv),.fn (.func f) caps] (dC (l.any p)):=by
 have h1:=rG l f caps p hp hl
 (refine aJ.of_body Tryz.func191 rfl rfl Tryz.ntmps191 Tryz.results191 (by simp) ?_)
 cases ha:l.any p with
 | false =>
  rw[ha] at h1
  simp only[Bool.false_eq_true,if_false] at h1
  (refine aI ?_;try with_reducible exact tt)
  (refine aK ?_;try with_reducible exact tt)
 | true =>
  rw[ha,if_pos rfl] at h1
  (refine aI ?_;try with_reducible exact tt)
  (refine aK ?_;try with_reducible exact tt)
def eG (p:PartD):Bool:=decide (p.start<0) || decide (p.fin<p.start) || decide (1048576<p.fin)
def gQ (p:PartD):Bool:=match p.rows.head?,p.rows.getLast? with
 | some a,some b=>decide (a.off<p.start) || decide (p.fin≤b.off)
 | _,_=>false
def bB (p:PartD):Bool:=!eG p && eH (p.rows.map (·.off)) && !gQ p && eH (p.opens.map (·.pid)) && !p.opens.any (fun o=>o.bats == [])
abbrev pX:D:=str [97,32,112,97,114,116,32,116,104,97,116,32,99,97,110,110,111,116,32,98,101,32,114,101,97,100]
theorem aMo (p:PartD) (hr:p.rows.length<2 ^ 40) (ho:p.opens.length<2 ^ 40):aJ Tryz.prog 169 [.agg p.dv] (if bB p then .val .nilIface else nK pX 2):=by
 have c1:=aBl p.rows hr
 have c2:=yU p.opens ho
 have c3:=uT p.opens 192 [] (fun o=>o.bats == []) (fun x _=>aGy x) ho
 (refine aJ.of_body Tryz.func169 rfl rfl Tryz.ntmps169 Tryz.results169 (by simp) ?_)
 (refine gO (@PartD.dv.eq_1) ?_;try with_reducible exact tt)
 (first|refine Wp.sto 7 (vb (eG p)) ?_ ?_|refine Wp.rtoS 7 (vb (eG p)) ?_ ?_|(refine Wp.seq ?_;first|refine Wp.sto 7 (vb (eG p)) ?_ ?_|refine Wp.rtoS 7 (vb (eG p)) ?_ ?_))
 ·unfold eG;((rcases Bool.eq_false_or_eq_true (decide (p.start<0)) with hL1|hL1)<;>(rcases Bool.eq_false_or_eq_true (decide (p.fin<p.start)) with hL2|hL2)<;>(rcases Bool.eq_false_or_eq_true (decide (1048576<p.fin)) with hL3|hL3)<;>(((refine rO (ai hL1 (ai hL2 (ai hL3 (@PartD.dv.eq_1)))) ?_;try with_reducible exact tt);(repeat (refine aQ (by assumption) ?_;(refine rO (ai hL1 (ai hL2 (ai hL3 (@PartD.dv.eq_1)))) ?_;try with_reducible exact tt))));all_goals (exact (show aH _ _=true by kernel_rfl))))
 refine Wp.cond (by (refine aK ?_;try with_reducible exact tt);rfl) (fun h=>?_) (fun h=>?_)
 ·have hf:bB p=false:=by simp[bB,h]
  (refine aI ?_;try with_reducible exact tt)
  (refine rO (ai hf (ai @pX.eq_1 (@nK.eq_1))) ?_;try with_reducible exact tt)
 have h1:eG p=false:=h
 (refine gO (@PartD.dv.eq_1) ?_;try with_reducible exact tt)
 refine Wp.cond (by (refine aK ?_;try with_reducible exact tt);rfl) (fun h=>?_) (fun h=>?_)
 ·have hf:bB p=false:=by simp only[Bool.not_eq_true'] at h;simp[bB,h]
  (refine aI ?_;try with_reducible exact tt)
  (refine rO (ai hf (ai @pX.eq_1 (@nK.eq_1))) ?_;try with_reducible exact tt)
 have h2:eH (p.rows.map (·.off))=true:=by simpa using h
 refine Wp.skip ?_
 (first|refine Wp.stoD 28 (vb (gQ p)) aA ?_ ?_|refine Wp.rtoDS 28 (vb (gQ p)) aA ?_ ?_|(refine Wp.seq ?_;first|refine Wp.stoD 28 (vb (gQ p)) aA ?_ ?_|refine Wp.rtoDS 28 (vb (gQ p)) aA ?_ ?_))
 ·by_cases hrow:p.rows=[]
  ·((refine rO (ai hrow (ai @gQ.eq_1 (ai @PartD.dv.eq_1 (@List.head?_nil.{0})))) ?_;try with_reducible exact tt);(repeat (refine aQ (by assumption) ?_;(refine rO (ai hrow (ai @gQ.eq_1 (ai @PartD.dv.eq_1 (@List.head?_nil.{0})))) ?_;try with_reducible exact tt))))
   exact (show aH _ _=true by kernel_rfl)
  ·have hn:1≤p.rows.length:=by
    cases hq:p.rows with
    | nil=>exact absurd hq hrow
    | cons a l=>simp
   have h0:p.rows[0]? = some (p.rows[0]'(by omega)):=List.getElem?_eq_getElem (by omega)
   generalize p.rows[0]'(by omega)=a at h0
   have hpos:(decide ((0:Int)<(p.rows.length:Int)))=true:=by simp;omega
   have ht:((p.rows.length:Int) - 1).toNat=p.rows.length - 1:=by omega
   have hge:((0:Int)≤(p.rows.length:Int) - 1)=True:=by simp;omega
   have hg:p.rows[p.rows.length - 1]? = some (p.rows[p.rows.length - 1]'(by omega)):=List.getElem?_eq_getElem (by omega)
   have he:gQ p=(decide (a.off<p.start) || decide (p.fin≤(p.rows[p.rows.length - 1]'(by omega)).off)):=by
    unfold gQ;rw[List.head?_eq_getElem?,List.getLast?_eq_getElem?,h0,hg]
   rw[he]
   generalize p.rows[p.rows.length - 1]'(by omega)=z at hg he
   clear hrow
   ((rcases Bool.eq_false_or_eq_true (decide (a.off<p.start)) with hL1|hL1)<;>(rcases Bool.eq_false_or_eq_true (decide (p.fin≤z.off)) with hL2|hL2)<;>(((refine rO (ai hL1 (ai hL2 (ai hpos (ai h0 (ai ht (ai hge (ai hg (ai @RowD.dv.eq_1 (@PartD.dv.eq_1))))))))) ?_;try with_reducible exact tt);(repeat (refine aQ (by assumption) ?_;(refine rO (ai hL1 (ai hL2 (ai hpos (ai h0 (ai ht (ai hge (ai hg (ai @RowD.dv.eq_1 (@PartD.dv.eq_1))))))))) ?_;try with_reducible exact tt))));all_goals (exact (show aH _ _=true by kernel_rfl))))
 refine Wp.cond (by (refine aK ?_;try with_reducible exact tt);rfl) (fun h=>?_) (fun h=>?_)
 ·have hf:bB p=false:=by simp[bB,h]
  (refine aI ?_;try with_reducible exact tt)
  (refine rO (ai hf (ai @pX.eq_1 (@nK.eq_1))) ?_;try with_reducible exact tt)
 have h3:gQ p=false:=h
 (refine gO (@PartD.dv.eq_1) ?_;try with_reducible exact tt)
 refine Wp.cond (by (refine aK ?_;try with_reducible exact tt);rfl) (fun h=>?_) (fun h=>?_)
 ·have hf:bB p=false:=by simp only[Bool.not_eq_true'] at h;simp[bB,h]
  (refine aI ?_;try with_reducible exact tt)
  (refine rO (ai hf (ai @pX.eq_1 (@nK.eq_1))) ?_;try with_reducible exact tt)
 have h4:eH (p.opens.map (·.pid))=true:=by simpa using h
 (refine gO (@PartD.dv.eq_1) ?_;try with_reducible exact tt)
 refine Wp.cond (by (refine aK ?_;try with_reducible exact tt);rfl) (fun h=>?_) (fun h=>?_)
 ·have hf:bB p=false:=by simp only[bB,h,Bool.not_true,Bool.and_false]
  (refine aI ?_;try with_reducible exact tt)
  (refine rO (ai hf (ai @pX.eq_1 (@nK.eq_1))) ?_;try with_reducible exact tt)
 have hf:bB p=true:=by simp only[bB,h1,h2,h3,h4,h];rfl
 (refine aI ?_;try with_reducible exact tt)
 (refine rO (hf) ?_;try with_reducible exact tt)
structure Small (p:PartD):Prop where
 rows:p.rows.length≤100000
 opens:p.opens.length≤100000
def dQ (p:PartD) (off:Int):Nat:=p.rows.findIdx (fun r=>decide (off≤r.off))
theorem oH:∀ (l:List Int),eH l=true→∀ (i j:Nat) (hj:j<l.length) (hij:i<j),l[i]<l[j]
 | [],_,i,j,hj,_=>by simp at hj
 | [a],_,i,j,hj,hij=>by simp at hj;omega
 | a::b::l,h,i,j,hj,hij=>by
  simp only[eH,Bool.and_eq_true,decide_eq_true_eq] at h
  match j,i with
  | j+1,0 =>
   rcases Nat.eq_zero_or_pos j with h0|h0
   ·subst h0;exact h.1
   ·have:=oH (b::l) h.2 0 j (by simpa using hj) h0
    simp only[List.getElem_cons_zero,List.getElem_cons_succ] at this ⊢
    omega
  | j+1,i+1 => 
   have:=oH (b::l) h.2 i j (by simpa using hj) (by omega)
   simpa using this
theorem yZ (p:PartD) (off:Int):dQ p off≤p.rows.length:=List.findIdx_le_length
theorem vQ {p:PartD} (h:bB p=true):eH (p.rows.map (·.off))=true:=by
 simp only[bB,Bool.and_eq_true] at h;exact h.1.1.1.2
theorem jI {p:PartD} (h:bB p=true):0≤p.start∧p.start≤p.fin∧p.fin≤1048576:=by
 simp only[bB,Bool.and_eq_true,Bool.not_eq_true',eG,Bool.or_eq_false_iff,decide_eq_false_iff_not] at h
 omega
theorem oW {p:PartD} (h:bB p=true):∀ r ∈ p.rows,p.start≤r.off∧r.off<p.fin:=by
 intro r hr
 have hr1:=vQ h
 obtain⟨k,hk,rfl⟩:=List.getElem_of_mem hr
 have he:gQ p=false:=by simp only[bB,Bool.and_eq_true,Bool.not_eq_true'] at h;exact h.1.1.2
 have hg:p.rows[p.rows.length - 1]? = some (p.rows[p.rows.length - 1]'(by omega)):=List.getElem?_eq_getElem (by omega)
 have h0:p.rows[0]? = some (p.rows[0]'(by omega)):=List.getElem?_eq_getElem (by omega)
 unfold gQ at he
 rw[List.head?_eq_getElem?,List.getLast?_eq_getElem?,h0,hg] at he
 simp only[Bool.or_eq_false_iff,decide_eq_false_iff_not] at he
 have lt:∀ i j (hj:j<p.rows.length) (hij:i<j),(p.rows[i]).off<(p.rows[j]).off:=fun i j hj hij=>by
  have:=oH _ hr1 i j (by simpa using hj) hij
  simpa using this
 constructor
 ·rcases Nat.eq_zero_or_pos k with h1|h1
  ·subst h1;omega
  ·have:=lt 0 k hk h1;omega
 ·rcases Nat.lt_or_ge k (p.rows.length - 1) with h1|h1
  ·have:=lt k (p.rows.length - 1) (by omega) h1;omega
  ·have e:k=p.rows.length - 1:=by omega
   subst e;omega
theorem wH (p:PartD) (hs:Small p):aJ Tryz.prog 144 [.agg p.dv] (int (if bB p then 0 else 2)):=by
 have c1:=aMo p (by have:=hs.rows;omega) (by have:=hs.opens;omega)
 have c2:=aC8 pX 2
 have c3:=aC9
 simp only[PartD.dv] at c1
 (refine aJ.of_body Tryz.func144 rfl rfl Tryz.ntmps144 Tryz.results144 (by simp) ?_)
 cases hp:bB p<;>(
  simp only[hp,if_true,if_false,Bool.false_eq_true] at c1
  (refine gO (@PartD.dv.eq_1) ?_;try with_reducible exact tt)
  (refine aK ?_;try with_reducible exact tt))
end Go.Proofs.YtkmfmphpndhkjaaGreatDoor
