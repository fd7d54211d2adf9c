/- The reference of layer 13: Great..,SameRows. -/
import Derived.Test.YtkmfmphpndhkjaaGreatDoorSqM
namespace Go.Proofs.YtkmfmphpndhkjaaGreatDoor
open Go Go.RowKit
set_option maxHeartbeats 4000000
set_option maxRecDepth 100000
set_option linter.unusedVariables false
set_option linter.unusedSimpArgs false
def kA (r:RowD):Bool:=decide (200<(r.key.length:Int)) || decide (200<(r.value.length:Int))
def eE (l:List RowD):Bool:=decide (300<l.length) || l.any kA
theorem zI (l:List RowD):aJ Tryz.prog 32 [.lst 5 (l.map RowD.dv)] (eK (eE l)):=by
 (refine aJ.of_body Tryz.func32 rfl rfl Tryz.ntmps32 Tryz.results32 (by simp) ?_)
 (refine aH ?_;try with_reducible exact tt)
 refine Wp.cond (by (refine aM ?_;try with_reducible exact tt);rfl) (fun h=>?_) (fun h=>?_)
 ·have:eE l=true:=by simp only[decide_eq_true_eq] at h;simp only[eE,Bool.or_eq_true,decide_eq_true_eq];left;omega
  (refine aH ?_;try with_reducible exact tt)
  (refine rO (this) ?_;try with_reducible exact tt)
 have hl:l.length≤300:=by simp only[decide_eq_false_iff_not] at h;omega
 (refine aH ?_;try with_reducible exact tt)
 refine Wp.loop (fun k:Nat=>⟨fP [(0,.c (.d (.lst 5 (l.map RowD.dv)))),(3,vi .i64 k)],cL [],0,29,0⟩) (fun k=>k≤l.length∧(l.take k).any kA=false) (fun k=>l.length - k) 0 ⟨Nat.zero_le _,rfl⟩ ?_ ?_
 ·refine aD.keep rfl rfl ?_
  (refine aM ?_;try with_reducible exact tt)
 rintro k ⟨hk,hall⟩
 (refine aH ?_;try with_reducible exact tt)
 refine Wp.cond (by (refine aM ?_;try with_reducible exact tt);rfl) (fun h=>?_) (fun h=>?_)
 ·have hlt:k<l.length:=by simpa using h
  have hs:=dG kA l k hlt
  (refine aH ?_;try with_reducible exact tt)
  (first|refine Wp.sto 28 (vb (kA l[k])) ?_ ?_|refine Wp.rtoS 28 (vb (kA l[k])) ?_ ?_|(refine Wp.seq ?_;first|refine Wp.sto 28 (vb (kA l[k])) ?_ ?_|refine Wp.rtoS 28 (vb (kA l[k])) ?_ ?_))
  ·unfold kA;((rcases Bool.eq_false_or_eq_true (decide (200<(l[k].key.length:Int))) with hL1|hL1)<;>(rcases Bool.eq_false_or_eq_true (decide (200<(l[k].value.length:Int))) with hL2|hL2)<;>(((refine rO (ai hL1 (ai hL2 (ai (List.getElem?_eq_getElem hlt) (@RowD.dv.eq_1)))) ?_;try with_reducible exact tt);(repeat (refine aV (by assumption) ?_;(refine rO (ai hL1 (ai hL2 (ai (List.getElem?_eq_getElem hlt) (@RowD.dv.eq_1)))) ?_;try with_reducible exact tt))));all_goals (exact (show aG _ _=true by kernel_rfl))))
  refine Wp.cond (by (refine aM ?_;try with_reducible exact tt);rfl) (fun h=>?_) (fun h=>?_)
  ·have:eE l=true:=by
    have:l.any kA=true:=List.any_eq_true.2 ⟨l[k],List.getElem_mem hlt,h⟩
    simp[eE,this]
   (refine aH ?_;try with_reducible exact tt)
   (refine rO (this) ?_;try with_reducible exact tt)
  ·(refine aH ?_;try with_reducible exact tt)
   refine⟨k+1,⟨by omega,by rw[hs,hall,h];rfl⟩,by omega,aD.keep rfl rfl ?_⟩
   (refine aM ?_;try with_reducible exact tt)
 ·have:eE l=false:=by
   rw[List.take_of_length_le (by simp only[decide_eq_false_iff_not] at h;omega)] at hall
   simp only[eE,hall,Bool.or_false,decide_eq_false_iff_not];omega
  (refine aH ?_;try with_reducible exact tt)
  (refine rO (this) ?_;try with_reducible exact tt)
def jZ (r:RecD):Bool:=decide (200<(r.key.length:Int)) || decide (200<(r.value.length:Int))
def jG (b:BatD):Bool:=decide (40<b.recs.length) || b.recs.any jZ
def dU (l:List BatD):Bool:=decide (40<l.length) || l.any jG
theorem zH (l:List BatD):aJ Tryz.prog 33 [.lst 5 (l.map BatD.dv)] (eK (dU l)):=by
 (refine aJ.of_body Tryz.func33 rfl rfl Tryz.ntmps33 Tryz.results33 (by simp) ?_)
 (refine aH ?_;try with_reducible exact tt)
 refine Wp.cond (by (refine aM ?_;try with_reducible exact tt);rfl) (fun h=>?_) (fun h=>?_)
 ·have:dU l=true:=by simp only[decide_eq_true_eq] at h;simp only[dU,Bool.or_eq_true,decide_eq_true_eq];left;omega
  (refine aH ?_;try with_reducible exact tt)
  (refine rO (this) ?_;try with_reducible exact tt)
 have hl:l.length≤40:=by simp only[decide_eq_false_iff_not] at h;omega
 (refine aH ?_;try with_reducible exact tt)
 refine Wp.loop (fun k:Nat=>⟨fP [(0,.c (.d (.lst 5 (l.map BatD.dv)))),(3,vi .i64 k)],cL [],0,55,0⟩) (fun k=>k≤l.length∧(l.take k).any jG=false) (fun k=>l.length - k) 0 ⟨Nat.zero_le _,rfl⟩ ?_ ?_
 ·refine aD.keep rfl rfl ?_
  (refine aM ?_;try with_reducible exact tt)
 rintro k ⟨hk,hall⟩
 (refine aH ?_;try with_reducible exact tt)
 refine Wp.cond (by (refine aM ?_;try with_reducible exact tt);rfl) (fun h=>?_) (fun h=>?_)
 ·have hlt:k<l.length:=by simpa using h
  have hs:=dG jG l k hlt
  have hG:jG l[k]=true→dU l=true:=fun hb=>by
   have:l.any jG=true:=List.any_eq_true.2 ⟨l[k],List.getElem_mem hlt,hb⟩
   simp[dU,this]
  (refine gO (ai (List.getElem?_eq_getElem hlt) (@BatD.dv.eq_1)) ?_;try with_reducible exact tt)
  refine Wp.cond (by (refine aM ?_;try with_reducible exact tt);rfl) (fun h=>?_) (fun h=>?_)
  ·have:dU l=true:=hG (by simp only[decide_eq_true_eq] at h;simp only[jG,Bool.or_eq_true,decide_eq_true_eq];left;omega)
   (refine aH ?_;try with_reducible exact tt)
   (refine rO (this) ?_;try with_reducible exact tt)
  have hrl:l[k].recs.length≤40:=by simp only[decide_eq_false_iff_not] at h;omega
  (refine aH ?_;try with_reducible exact tt)
  refine Wp.loop (fun j:Nat=>⟨fP [(0,.c (.d (.lst 5 (l.map BatD.dv)))),(3,vi .i64 k),(4,vi .i64 j)],cL [],0,55,0⟩) (fun j=>j≤l[k].recs.length∧(l[k].recs.take j).any jZ=false) (fun j=>l[k].recs.length - j) 0 ⟨Nat.zero_le _,rfl⟩ ?_ ?_
  ·refine aD.keep rfl rfl ?_
   (refine aM ?_;try with_reducible exact tt)
  rintro j ⟨hj,hallj⟩
  (refine gO (ai (List.getElem?_eq_getElem hlt) (@BatD.dv.eq_1)) ?_;try with_reducible exact tt)
  refine Wp.cond (by (refine aM ?_;try with_reducible exact tt);rfl) (fun h=>?_) (fun h=>?_)
  ·have hltj:j<l[k].recs.length:=by simpa using h
   have hsj:=dG jZ l[k].recs j hltj
   (refine aH ?_;try with_reducible exact tt)
   (first|refine Wp.sto 54 (vb (jZ l[k].recs[j])) ?_ ?_|refine Wp.rtoS 54 (vb (jZ l[k].recs[j])) ?_ ?_|(refine Wp.seq ?_;first|refine Wp.sto 54 (vb (jZ l[k].recs[j])) ?_ ?_|refine Wp.rtoS 54 (vb (jZ l[k].recs[j])) ?_ ?_))
   ·unfold jZ;((rcases Bool.eq_false_or_eq_true (decide (200<(l[k].recs[j].key.length:Int))) with hL1|hL1)<;>(rcases Bool.eq_false_or_eq_true (decide (200<(l[k].recs[j].value.length:Int))) with hL2|hL2)<;>(((refine rO (ai hL1 (ai hL2 (ai (List.getElem?_eq_getElem hlt) (ai (List.getElem?_eq_getElem hltj) (ai @BatD.dv.eq_1 (@RecD.dv.eq_1)))))) ?_;try with_reducible exact tt);(repeat (refine aV (by assumption) ?_;(refine rO (ai hL1 (ai hL2 (ai (List.getElem?_eq_getElem hlt) (ai (List.getElem?_eq_getElem hltj) (ai @BatD.dv.eq_1 (@RecD.dv.eq_1)))))) ?_;try with_reducible exact tt))));all_goals (exact (show aG _ _=true by kernel_rfl))))
   refine Wp.cond (by (refine aM ?_;try with_reducible exact tt);rfl) (fun h=>?_) (fun h=>?_)
   ·have:dU l=true:=hG (by
     have:l[k].recs.any jZ=true:=List.any_eq_true.2 ⟨l[k].recs[j],List.getElem_mem hltj,h⟩
     simp[jG,this])
    (refine aH ?_;try with_reducible exact tt)
    (refine rO (this) ?_;try with_reducible exact tt)
   ·(refine aH ?_;try with_reducible exact tt)
    refine⟨j+1,⟨by omega,by rw[hsj,hallj,h];rfl⟩,by omega,aD.keep rfl rfl ?_⟩
    (refine aM ?_;try with_reducible exact tt)
  ·have hb:jG l[k]=false:=by
    rw[List.take_of_length_le (by simp only[decide_eq_false_iff_not] at h;omega)] at hallj
    simp only[jG,hallj,Bool.or_false,decide_eq_false_iff_not];omega
   (refine aH ?_;try with_reducible exact tt)
   refine⟨k+1,⟨by omega,by rw[hs,hall,hb];rfl⟩,by omega,aD.keep rfl rfl ?_⟩
   (refine aM ?_;try with_reducible exact tt)
 ·have:dU l=false:=by
   rw[List.take_of_length_le (by simp only[decide_eq_false_iff_not] at h;omega)] at hall
   simp only[dU,hall,Bool.or_false,decide_eq_false_iff_not];omega
  (refine aH ?_;try with_reducible exact tt)
  (refine rO (this) ?_;try with_reducible exact tt)
def jB (p:PartD):Bool:=eE p.rows || decide (40<p.opens.length) || decide (40<p.prods.length) || p.opens.any (fun o=>dU o.bats) || p.prods.any (fun q=>decide (40<q.seen.length))
theorem qU (p:PartD):aJ Tryz.prog 19 [.agg p.dv] (eK (jB p)):=by
 have c1:=zI p.rows
 (refine aJ.of_body Tryz.func19 rfl rfl Tryz.ntmps19 Tryz.results19 (by simp) ?_)
 (refine gO (@PartD.dv.eq_1) ?_;try with_reducible exact tt)
 (first|refine Wp.sto 19 (vb (eE p.rows || decide (40<(p.opens.length:Int)) || decide (40<(p.prods.length:Int)))) ?_ ?_|refine Wp.rtoS 19 (vb (eE p.rows || decide (40<(p.opens.length:Int)) || decide (40<(p.prods.length:Int)))) ?_ ?_|(refine Wp.seq ?_;first|refine Wp.sto 19 (vb (eE p.rows || decide (40<(p.opens.length:Int)) || decide (40<(p.prods.length:Int)))) ?_ ?_|refine Wp.rtoS 19 (vb (eE p.rows || decide (40<(p.opens.length:Int)) || decide (40<(p.prods.length:Int)))) ?_ ?_))
 ·((rcases Bool.eq_false_or_eq_true (eE p.rows) with hL1|hL1)<;>(rcases Bool.eq_false_or_eq_true (decide (40<(p.opens.length:Int))) with hL2|hL2)<;>(rcases Bool.eq_false_or_eq_true (decide (40<(p.prods.length:Int))) with hL3|hL3)<;>(((refine rO (ai hL1 (ai hL2 (ai hL3 (@PartD.dv.eq_1)))) ?_;try with_reducible exact tt);(repeat (refine aV (by assumption) ?_;(refine rO (ai hL1 (ai hL2 (ai hL3 (@PartD.dv.eq_1)))) ?_;try with_reducible exact tt))));all_goals (exact (show aG _ _=true by kernel_rfl))))
 refine Wp.cond (by (refine aM ?_;try with_reducible exact tt);rfl) (fun h=>?_) (fun h=>?_)
 ·have:jB p=true:=by
   simp only[Bool.or_eq_true,decide_eq_true_eq] at h
   rcases h with (h|h)|h
   ·simp[jB,h]
   ·have:40<p.opens.length:=by omega
    simp[jB,this]
   ·have:40<p.prods.length:=by omega
    simp[jB,this]
  (refine aH ?_;try with_reducible exact tt)
  (refine rO (this) ?_;try with_reducible exact tt)
 simp only[Bool.or_eq_false_iff,decide_eq_false_iff_not] at h
 obtain⟨⟨hg1,hg2⟩,hg3⟩:=h
 (refine aH ?_;try with_reducible exact tt)
 refine Wp.loop (fun k:Nat=>⟨fP [(1,.c (.own 0 0)),(3,vi .i64 k)],cL [(0,.cells (p.dv.map .d))],1,49,0⟩) (fun k=>k≤p.opens.length∧(p.opens.take k).any (fun o=>dU o.bats)=false) (fun k=>p.opens.length - k) 0 ⟨Nat.zero_le _,rfl⟩ ?_ ?_
 ·refine aD.keep rfl rfl ?_
  (refine rO (@PartD.dv.eq_1) ?_;try with_reducible exact tt)
 rintro k ⟨hk,hall⟩
 (refine gO (@PartD.dv.eq_1) ?_;try with_reducible exact tt)
 refine Wp.cond (by (refine aM ?_;try with_reducible exact tt);rfl) (fun h=>?_) (fun h=>?_)
 ·have hlt:k<p.opens.length:=by simpa using h
  have hs:=dG (fun o:OpenD=>dU o.bats) p.opens k hlt
  have c2:=zH p.opens[k].bats
  (refine gO (ai @PartD.dv.eq_1 (ai (List.getElem?_eq_getElem hlt) (@OpenD.dv.eq_1))) ?_;try with_reducible exact tt)
  refine Wp.cond (by (refine aM ?_;try with_reducible exact tt);rfl) (fun h=>?_) (fun h=>?_)
  ·have:jB p=true:=by
    have:p.opens.any (fun o=>dU o.bats)=true:=List.any_eq_true.2 ⟨p.opens[k],List.getElem_mem hlt,h⟩
    simp only[jB,this,Bool.or_true,Bool.true_or]
   (refine aH ?_;try with_reducible exact tt)
   (refine rO (this) ?_;try with_reducible exact tt)
  ·(refine aH ?_;try with_reducible exact tt)
   refine⟨k+1,⟨by omega,by rw[hs,hall,h];rfl⟩,by omega,aD.keep rfl rfl ?_⟩
   (refine rO (@PartD.dv.eq_1) ?_;try with_reducible exact tt)
 have hall1:p.opens.any (fun o=>dU o.bats)=false:=by
  rw[List.take_of_length_le (by simp only[decide_eq_false_iff_not] at h;omega)] at hall;exact hall
 (refine aH ?_;try with_reducible exact tt)
 refine Wp.loop (fun k:Nat=>⟨fP [(1,.c (.own 0 0)),(4,vi .i64 k)],cL [(0,.cells (p.dv.map .d))],1,49,0⟩) (fun k=>k≤p.prods.length∧(p.prods.take k).any (fun q=>decide (40<q.seen.length))=false) (fun k=>p.prods.length - k) 0 ⟨Nat.zero_le _,rfl⟩ ?_ ?_
 ·refine aD.keep rfl rfl ?_
  (refine rO (@PartD.dv.eq_1) ?_;try with_reducible exact tt)
 clear hall hk h k
 rintro k ⟨hk,hall⟩
 (refine gO (@PartD.dv.eq_1) ?_;try with_reducible exact tt)
 refine Wp.cond (by (refine aM ?_;try with_reducible exact tt);rfl) (fun h=>?_) (fun h=>?_)
 ·have hlt:k<p.prods.length:=by simpa using h
  have hs:=dG (fun q:ProdD=>decide (40<q.seen.length)) p.prods k hlt
  (refine gO (ai @PartD.dv.eq_1 (ai (List.getElem?_eq_getElem hlt) (@ProdD.dv.eq_1))) ?_;try with_reducible exact tt)
  refine Wp.cond (by (refine aM ?_;try with_reducible exact tt);rfl) (fun h=>?_) (fun h=>?_)
  ·have:jB p=true:=by
    have:p.prods.any (fun q=>decide (40<q.seen.length))=true:=List.any_eq_true.2 ⟨p.prods[k],List.getElem_mem hlt,by simp only[decide_eq_true_eq] at h ⊢;omega⟩
    simp only[jB,this,Bool.or_true]
   (refine aH ?_;try with_reducible exact tt)
   (refine rO (this) ?_;try with_reducible exact tt)
  ·(refine aH ?_;try with_reducible exact tt)
   refine⟨k+1,⟨by omega,by rw[hs,hall];simp only[decide_eq_false_iff_not] at h;simp;omega⟩,by omega,aD.keep rfl rfl ?_⟩
   (refine rO (@PartD.dv.eq_1) ?_;try with_reducible exact tt)
 ·have:jB p=false:=by
   rw[List.take_of_length_le (by simp only[decide_eq_false_iff_not] at h;omega)] at hall
   simp only[jB,hg1,hall1,hall,Bool.or_false,Bool.false_or,decide_eq_false (show ¬ 40<p.opens.length by omega),decide_eq_false (show ¬ 40<p.prods.length by omega)]
  (refine aH ?_;try with_reducible exact tt)
  (refine rO (this) ?_;try with_reducible exact tt)
end Go.Proofs.YtkmfmphpndhkjaaGreatDoor
