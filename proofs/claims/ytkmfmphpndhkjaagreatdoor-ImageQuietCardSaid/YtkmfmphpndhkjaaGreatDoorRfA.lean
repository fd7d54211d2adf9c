/- The reference of layer 13: Great..,SameRows. -/
import Derived.Test.YtkmfmphpndhkjaaGreatDoorSqM
namespace Go.Proofs.YtkmfmphpndhkjaaGreatDoor
open Go Go.RowKit
set_option maxHeartbeats 4000000
set_option maxRecDepth 100000
set_option linter.unusedVariables false
set_option linter.unusedSimpArgs false
theorem aFr (a b:List RowD) (hl:a.length<2 ^ 40):aJ Tryz.prog 57 [.lst 5 (a.map RowD.dv),.lst 5 (b.map RowD.dv)] (dC (decide (a=b))):=by
 (refine aJ.of_body Tryz.func57 rfl rfl Tryz.ntmps57 Tryz.results57 (by simp) ?_)
 by_cases hlen:a.length=b.length
 ·have hne:((a.length:Int) != (b.length:Int))=false:=by simp[hlen]
  (refine gO (hne) ?_;try with_reducible exact tt)
  refine Wp.loop (fun k:Nat=>⟨dI [(0,.c (.d (.lst 5 (a.map RowD.dv)))),(1,.c (.d (.lst 5 (b.map RowD.dv)))),(5,vi .i64 k)],bJ [],0,26,0⟩) (fun k=>k≤a.length∧a.take k=b.take k) (fun k=>a.length - k) 0 ⟨Nat.zero_le _,rfl⟩ ?_ ?_
  ·refine aD.keep rfl rfl ?_
   (refine aK ?_;try with_reducible exact tt)
  rintro k ⟨hk,hall⟩
  (refine aI ?_;try with_reducible exact tt)
  refine Wp.cond (by (refine aK ?_;try with_reducible exact tt);rfl) (fun h=>?_) (fun h=>?_)
  ·have hlt:k<a.length:=by simpa using h
   have hlt2:k<b.length:=by omega
   (refine gO (ai (List.getElem?_eq_getElem hlt) (ai (List.getElem?_eq_getElem hlt2) (ai @RowD.dv.eq_1 (qR)))) ?_;try with_reducible exact tt)
   refine Wp.cond (by (refine aK ?_;try with_reducible exact tt);rfl) (fun h=>?_) (fun h=>?_)
   ·have:¬ a=b:=by
     simp only[Bool.not_eq_true',decide_eq_false_iff_not] at h
     intro e;subst e;exact h rfl
    have:decide (a=b)=false:=by simp[this]
    (refine aI ?_;try with_reducible exact tt)
    (refine rO (this) ?_;try with_reducible exact tt)
   ·simp only[Bool.not_eq_false',decide_eq_true_eq] at h
    (refine aI ?_;try with_reducible exact tt)
    refine⟨k+1,⟨by omega,?_⟩,by omega,aD.keep rfl rfl ?_⟩
    ·rw[List.take_succ_eq_append_getElem hlt,List.take_succ_eq_append_getElem hlt2,hall,h]
    (refine aK ?_;try with_reducible exact tt)
  ·have hk:k=a.length:=by simp only[decide_eq_false_iff_not] at h;omega
   have:a=b:=by rw[List.take_of_length_le (by omega),List.take_of_length_le (by omega)] at hall;exact hall
   have:decide (a=b)=true:=by simp[this]
   (refine aI ?_;try with_reducible exact tt)
   (refine rO (this) ?_;try with_reducible exact tt)
 ·have hne:((a.length:Int) != (b.length:Int))=true:=by simp;omega
  have:¬ a=b:=fun e=>hlen (by rw[e])
  have:decide (a=b)=false:=by simp[this]
  (refine gO (hne) ?_;try with_reducible exact tt)
  (refine rO (this) ?_;try with_reducible exact tt)
def kV (r:RowD):Bool:=decide (200<(r.key.length:Int)) || decide (200<(r.value.length:Int))
def eJ (l:List RowD):Bool:=decide (300<l.length) || l.any kV
theorem aCe (l:List RowD):aJ Tryz.prog 32 [.lst 5 (l.map RowD.dv)] (dC (eJ l)):=by
 (refine aJ.of_body Tryz.func32 rfl rfl Tryz.ntmps32 Tryz.results32 (by simp) ?_)
 (refine aI ?_;try with_reducible exact tt)
 refine Wp.cond (by (refine aK ?_;try with_reducible exact tt);rfl) (fun h=>?_) (fun h=>?_)
 ·have:eJ l=true:=by simp only[decide_eq_true_eq] at h;simp only[eJ,Bool.or_eq_true,decide_eq_true_eq];left;omega
  (refine aI ?_;try with_reducible exact tt)
  (refine rO (this) ?_;try with_reducible exact tt)
 have hl:l.length≤300:=by simp only[decide_eq_false_iff_not] at h;omega
 (refine aI ?_;try with_reducible exact tt)
 refine Wp.loop (fun k:Nat=>⟨dI [(0,.c (.d (.lst 5 (l.map RowD.dv)))),(3,vi .i64 k)],bJ [],0,29,0⟩) (fun k=>k≤l.length∧(l.take k).any kV=false) (fun k=>l.length - k) 0 ⟨Nat.zero_le _,rfl⟩ ?_ ?_
 ·refine aD.keep rfl rfl ?_
  (refine aK ?_;try with_reducible exact tt)
 rintro k ⟨hk,hall⟩
 (refine aI ?_;try with_reducible exact tt)
 refine Wp.cond (by (refine aK ?_;try with_reducible exact tt);rfl) (fun h=>?_) (fun h=>?_)
 ·have hlt:k<l.length:=by simpa using h
  have hs:=dH kV l k hlt
  (refine aI ?_;try with_reducible exact tt)
  (first|refine Wp.sto 28 (vb (kV l[k])) ?_ ?_|refine Wp.rtoS 28 (vb (kV l[k])) ?_ ?_|(refine Wp.seq ?_;first|refine Wp.sto 28 (vb (kV l[k])) ?_ ?_|refine Wp.rtoS 28 (vb (kV l[k])) ?_ ?_))
  ·unfold kV;((rcases Bool.eq_false_or_eq_true (decide (200<(l[k].key.length:Int))) with hL1|hL1)<;>(rcases Bool.eq_false_or_eq_true (decide (200<(l[k].value.length:Int))) with hL2|hL2)<;>(((refine rO (ai hL1 (ai hL2 (ai (List.getElem?_eq_getElem hlt) (@RowD.dv.eq_1)))) ?_;try with_reducible exact tt);(repeat (refine aQ (by assumption) ?_;(refine rO (ai hL1 (ai hL2 (ai (List.getElem?_eq_getElem hlt) (@RowD.dv.eq_1)))) ?_;try with_reducible exact tt))));all_goals (exact (show aH _ _=true by kernel_rfl))))
  refine Wp.cond (by (refine aK ?_;try with_reducible exact tt);rfl) (fun h=>?_) (fun h=>?_)
  ·have:eJ l=true:=by
    have:l.any kV=true:=List.any_eq_true.2 ⟨l[k],List.getElem_mem hlt,h⟩
    simp[eJ,this]
   (refine aI ?_;try with_reducible exact tt)
   (refine rO (this) ?_;try with_reducible exact tt)
  ·(refine aI ?_;try with_reducible exact tt)
   refine⟨k+1,⟨by omega,by rw[hs,hall,h];rfl⟩,by omega,aD.keep rfl rfl ?_⟩
   (refine aK ?_;try with_reducible exact tt)
 ·have:eJ l=false:=by
   rw[List.take_of_length_le (by simp only[decide_eq_false_iff_not] at h;omega)] at hall
   simp only[eJ,hall,Bool.or_false,decide_eq_false_iff_not];omega
  (refine aI ?_;try with_reducible exact tt)
  (refine rO (this) ?_;try with_reducible exact tt)
def kU (r:RecD):Bool:=decide (200<(r.key.length:Int)) || decide (200<(r.value.length:Int))
def jZ (b:BatD):Bool:=decide (40<b.recs.length) || b.recs.any kU
def eA (l:List BatD):Bool:=decide (40<l.length) || l.any jZ
theorem aCd (l:List BatD):aJ Tryz.prog 33 [.lst 5 (l.map BatD.dv)] (dC (eA l)):=by
 (refine aJ.of_body Tryz.func33 rfl rfl Tryz.ntmps33 Tryz.results33 (by simp) ?_)
 (refine aI ?_;try with_reducible exact tt)
 refine Wp.cond (by (refine aK ?_;try with_reducible exact tt);rfl) (fun h=>?_) (fun h=>?_)
 ·have:eA l=true:=by simp only[decide_eq_true_eq] at h;simp only[eA,Bool.or_eq_true,decide_eq_true_eq];left;omega
  (refine aI ?_;try with_reducible exact tt)
  (refine rO (this) ?_;try with_reducible exact tt)
 have hl:l.length≤40:=by simp only[decide_eq_false_iff_not] at h;omega
 (refine aI ?_;try with_reducible exact tt)
 refine Wp.loop (fun k:Nat=>⟨dI [(0,.c (.d (.lst 5 (l.map BatD.dv)))),(3,vi .i64 k)],bJ [],0,55,0⟩) (fun k=>k≤l.length∧(l.take k).any jZ=false) (fun k=>l.length - k) 0 ⟨Nat.zero_le _,rfl⟩ ?_ ?_
 ·refine aD.keep rfl rfl ?_
  (refine aK ?_;try with_reducible exact tt)
 rintro k ⟨hk,hall⟩
 (refine aI ?_;try with_reducible exact tt)
 refine Wp.cond (by (refine aK ?_;try with_reducible exact tt);rfl) (fun h=>?_) (fun h=>?_)
 ·have hlt:k<l.length:=by simpa using h
  have hs:=dH jZ l k hlt
  have hG:jZ l[k]=true→eA l=true:=fun hb=>by
   have:l.any jZ=true:=List.any_eq_true.2 ⟨l[k],List.getElem_mem hlt,hb⟩
   simp[eA,this]
  (refine gO (ai (List.getElem?_eq_getElem hlt) (@BatD.dv.eq_1)) ?_;try with_reducible exact tt)
  refine Wp.cond (by (refine aK ?_;try with_reducible exact tt);rfl) (fun h=>?_) (fun h=>?_)
  ·have:eA l=true:=hG (by simp only[decide_eq_true_eq] at h;simp only[jZ,Bool.or_eq_true,decide_eq_true_eq];left;omega)
   (refine aI ?_;try with_reducible exact tt)
   (refine rO (this) ?_;try with_reducible exact tt)
  have hrl:l[k].recs.length≤40:=by simp only[decide_eq_false_iff_not] at h;omega
  (refine aI ?_;try with_reducible exact tt)
  refine Wp.loop (fun j:Nat=>⟨dI [(0,.c (.d (.lst 5 (l.map BatD.dv)))),(3,vi .i64 k),(4,vi .i64 j)],bJ [],0,55,0⟩) (fun j=>j≤l[k].recs.length∧(l[k].recs.take j).any kU=false) (fun j=>l[k].recs.length - j) 0 ⟨Nat.zero_le _,rfl⟩ ?_ ?_
  ·refine aD.keep rfl rfl ?_
   (refine aK ?_;try with_reducible exact tt)
  rintro j ⟨hj,hallj⟩
  (refine gO (ai (List.getElem?_eq_getElem hlt) (@BatD.dv.eq_1)) ?_;try with_reducible exact tt)
  refine Wp.cond (by (refine aK ?_;try with_reducible exact tt);rfl) (fun h=>?_) (fun h=>?_)
  ·have hltj:j<l[k].recs.length:=by simpa using h
   have hsj:=dH kU l[k].recs j hltj
   (refine aI ?_;try with_reducible exact tt)
   (first|refine Wp.sto 54 (vb (kU l[k].recs[j])) ?_ ?_|refine Wp.rtoS 54 (vb (kU l[k].recs[j])) ?_ ?_|(refine Wp.seq ?_;first|refine Wp.sto 54 (vb (kU l[k].recs[j])) ?_ ?_|refine Wp.rtoS 54 (vb (kU l[k].recs[j])) ?_ ?_))
   ·unfold kU;((rcases Bool.eq_false_or_eq_true (decide (200<(l[k].recs[j].key.length:Int))) with hL1|hL1)<;>(rcases Bool.eq_false_or_eq_true (decide (200<(l[k].recs[j].value.length:Int))) with hL2|hL2)<;>(((refine rO (ai hL1 (ai hL2 (ai (List.getElem?_eq_getElem hlt) (ai (List.getElem?_eq_getElem hltj) (ai @BatD.dv.eq_1 (@RecD.dv.eq_1)))))) ?_;try with_reducible exact tt);(repeat (refine aQ (by assumption) ?_;(refine rO (ai hL1 (ai hL2 (ai (List.getElem?_eq_getElem hlt) (ai (List.getElem?_eq_getElem hltj) (ai @BatD.dv.eq_1 (@RecD.dv.eq_1)))))) ?_;try with_reducible exact tt))));all_goals (exact (show aH _ _=true by kernel_rfl))))
   refine Wp.cond (by (refine aK ?_;try with_reducible exact tt);rfl) (fun h=>?_) (fun h=>?_)
   ·have:eA l=true:=hG (by
     have:l[k].recs.any kU=true:=List.any_eq_true.2 ⟨l[k].recs[j],List.getElem_mem hltj,h⟩
     simp[jZ,this])
    (refine aI ?_;try with_reducible exact tt)
    (refine rO (this) ?_;try with_reducible exact tt)
   ·(refine aI ?_;try with_reducible exact tt)
    refine⟨j+1,⟨by omega,by rw[hsj,hallj,h];rfl⟩,by omega,aD.keep rfl rfl ?_⟩
    (refine aK ?_;try with_reducible exact tt)
  ·have hb:jZ l[k]=false:=by
    rw[List.take_of_length_le (by simp only[decide_eq_false_iff_not] at h;omega)] at hallj
    simp only[jZ,hallj,Bool.or_false,decide_eq_false_iff_not];omega
   (refine aI ?_;try with_reducible exact tt)
   refine⟨k+1,⟨by omega,by rw[hs,hall,hb];rfl⟩,by omega,aD.keep rfl rfl ?_⟩
   (refine aK ?_;try with_reducible exact tt)
 ·have:eA l=false:=by
   rw[List.take_of_length_le (by simp only[decide_eq_false_iff_not] at h;omega)] at hall
   simp only[eA,hall,Bool.or_false,decide_eq_false_iff_not];omega
  (refine aI ?_;try with_reducible exact tt)
  (refine rO (this) ?_;try with_reducible exact tt)
def jU (p:PartD):Bool:=eJ p.rows || decide (40<p.opens.length) || decide (40<p.prods.length) || p.opens.any (fun o=>eA o.bats) || p.prods.any (fun q=>decide (40<q.seen.length))
theorem tN (p:PartD):aJ Tryz.prog 19 [.agg p.dv] (dC (jU p)):=by
 have c1:=aCe p.rows
 (refine aJ.of_body Tryz.func19 rfl rfl Tryz.ntmps19 Tryz.results19 (by simp) ?_)
 (refine gO (@PartD.dv.eq_1) ?_;try with_reducible exact tt)
 (first|refine Wp.sto 19 (vb (eJ p.rows || decide (40<(p.opens.length:Int)) || decide (40<(p.prods.length:Int)))) ?_ ?_|refine Wp.rtoS 19 (vb (eJ p.rows || decide (40<(p.opens.length:Int)) || decide (40<(p.prods.length:Int)))) ?_ ?_|(refine Wp.seq ?_;first|refine Wp.sto 19 (vb (eJ p.rows || decide (40<(p.opens.length:Int)) || decide (40<(p.prods.length:Int)))) ?_ ?_|refine Wp.rtoS 19 (vb (eJ p.rows || decide (40<(p.opens.length:Int)) || decide (40<(p.prods.length:Int)))) ?_ ?_))
 ·((rcases Bool.eq_false_or_eq_true (eJ p.rows) with hL1|hL1)<;>(rcases Bool.eq_false_or_eq_true (decide (40<(p.opens.length:Int))) with hL2|hL2)<;>(rcases Bool.eq_false_or_eq_true (decide (40<(p.prods.length:Int))) with hL3|hL3)<;>(((refine rO (ai hL1 (ai hL2 (ai hL3 (@PartD.dv.eq_1)))) ?_;try with_reducible exact tt);(repeat (refine aQ (by assumption) ?_;(refine rO (ai hL1 (ai hL2 (ai hL3 (@PartD.dv.eq_1)))) ?_;try with_reducible exact tt))));all_goals (exact (show aH _ _=true by kernel_rfl))))
 refine Wp.cond (by (refine aK ?_;try with_reducible exact tt);rfl) (fun h=>?_) (fun h=>?_)
 ·have:jU p=true:=by
   simp only[Bool.or_eq_true,decide_eq_true_eq] at h
   rcases h with (h|h)|h
   ·simp[jU,h]
   ·have:40<p.opens.length:=by omega
    simp[jU,this]
   ·have:40<p.prods.length:=by omega
    simp[jU,this]
  (refine aI ?_;try with_reducible exact tt)
  (refine rO (this) ?_;try with_reducible exact tt)
 simp only[Bool.or_eq_false_iff,decide_eq_false_iff_not] at h
 obtain⟨⟨hg1,hg2⟩,hg3⟩:=h
 (refine aI ?_;try with_reducible exact tt)
 refine Wp.loop (fun k:Nat=>⟨dI [(1,.c (.own 0 0)),(3,vi .i64 k)],bJ [(0,.cells (p.dv.map .d))],1,49,0⟩) (fun k=>k≤p.opens.length∧(p.opens.take k).any (fun o=>eA o.bats)=false) (fun k=>p.opens.length - k) 0 ⟨Nat.zero_le _,rfl⟩ ?_ ?_
 ·refine aD.keep rfl rfl ?_
  (refine rO (@PartD.dv.eq_1) ?_;try with_reducible exact tt)
 rintro k ⟨hk,hall⟩
 (refine gO (@PartD.dv.eq_1) ?_;try with_reducible exact tt)
 refine Wp.cond (by (refine aK ?_;try with_reducible exact tt);rfl) (fun h=>?_) (fun h=>?_)
 ·have hlt:k<p.opens.length:=by simpa using h
  have hs:=dH (fun o:OpenD=>eA o.bats) p.opens k hlt
  have c2:=aCd p.opens[k].bats
  (refine gO (ai @PartD.dv.eq_1 (ai (List.getElem?_eq_getElem hlt) (@OpenD.dv.eq_1))) ?_;try with_reducible exact tt)
  refine Wp.cond (by (refine aK ?_;try with_reducible exact tt);rfl) (fun h=>?_) (fun h=>?_)
  ·have:jU p=true:=by
    have:p.opens.any (fun o=>eA o.bats)=true:=List.any_eq_true.2 ⟨p.opens[k],List.getElem_mem hlt,h⟩
    simp only[jU,this,Bool.or_true,Bool.true_or]
   (refine aI ?_;try with_reducible exact tt)
   (refine rO (this) ?_;try with_reducible exact tt)
  ·(refine aI ?_;try with_reducible exact tt)
   refine⟨k+1,⟨by omega,by rw[hs,hall,h];rfl⟩,by omega,aD.keep rfl rfl ?_⟩
   (refine rO (@PartD.dv.eq_1) ?_;try with_reducible exact tt)
 have hall1:p.opens.any (fun o=>eA o.bats)=false:=by
  rw[List.take_of_length_le (by simp only[decide_eq_false_iff_not] at h;omega)] at hall;exact hall
 (refine aI ?_;try with_reducible exact tt)
 refine Wp.loop (fun k:Nat=>⟨dI [(1,.c (.own 0 0)),(4,vi .i64 k)],bJ [(0,.cells (p.dv.map .d))],1,49,0⟩) (fun k=>k≤p.prods.length∧(p.prods.take k).any (fun q=>decide (40<q.seen.length))=false) (fun k=>p.prods.length - k) 0 ⟨Nat.zero_le _,rfl⟩ ?_ ?_
 ·refine aD.keep rfl rfl ?_
  (refine rO (@PartD.dv.eq_1) ?_;try with_reducible exact tt)
 clear hall hk h k
 rintro k ⟨hk,hall⟩
 (refine gO (@PartD.dv.eq_1) ?_;try with_reducible exact tt)
 refine Wp.cond (by (refine aK ?_;try with_reducible exact tt);rfl) (fun h=>?_) (fun h=>?_)
 ·have hlt:k<p.prods.length:=by simpa using h
  have hs:=dH (fun q:ProdD=>decide (40<q.seen.length)) p.prods k hlt
  (refine gO (ai @PartD.dv.eq_1 (ai (List.getElem?_eq_getElem hlt) (@ProdD.dv.eq_1))) ?_;try with_reducible exact tt)
  refine Wp.cond (by (refine aK ?_;try with_reducible exact tt);rfl) (fun h=>?_) (fun h=>?_)
  ·have:jU p=true:=by
    have:p.prods.any (fun q=>decide (40<q.seen.length))=true:=List.any_eq_true.2 ⟨p.prods[k],List.getElem_mem hlt,by simp only[decide_eq_true_eq] at h ⊢;omega⟩
    simp only[jU,this,Bool.or_true]
   (refine aI ?_;try with_reducible exact tt)
   (refine rO (this) ?_;try with_reducible exact tt)
  ·(refine aI ?_;try with_reducible exact tt)
   refine⟨k+1,⟨by omega,by rw[hs,hall];simp only[decide_eq_false_iff_not] at h;simp;omega⟩,by omega,aD.keep rfl rfl ?_⟩
   (refine rO (@PartD.dv.eq_1) ?_;try with_reducible exact tt)
 ·have:jU p=false:=by
   rw[List.take_of_length_le (by simp only[decide_eq_false_iff_not] at h;omega)] at hall
   simp only[jU,hg1,hall1,hall,Bool.or_false,Bool.false_or,decide_eq_false (show ¬ 40<p.opens.length by omega),decide_eq_false (show ¬ 40<p.prods.length by omega)]
  (refine aI ?_;try with_reducible exact tt)
  (refine rO (this) ?_;try with_reducible exact tt)
end Go.Proofs.YtkmfmphpndhkjaaGreatDoor
