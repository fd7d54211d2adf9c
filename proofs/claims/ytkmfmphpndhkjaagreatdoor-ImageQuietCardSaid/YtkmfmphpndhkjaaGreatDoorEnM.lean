/- The abstract machine (EnA, EnB). -/
import Derived.Test.YtkmfmphpndhkjaaGreatDoorCpMa
import Derived.Test.YtkmfmphpndhkjaaGreatDoorImA
import Derived.Test.YtkmfmphpndhkjaaGreatDoorErN
namespace Go.Proofs.YtkmfmphpndhkjaaGreatDoor
open Go Go.RowKit
set_option maxHeartbeats 8000000
set_option maxRecDepth 100000
set_option linter.unusedVariables false
set_option linter.unusedSimpArgs false
theorem aGz (b:BatD) (hb:b.recs.length≤100000):aJ Tryz.prog 183 [.agg b.dv] (.agg b.dv):=by
 have c1:=(uS (b.recs.map RecD.dv) (by simp;omega)).fun
 (refine aJ.of_body Tryz.func183 rfl rfl Tryz.ntmps183 Tryz.results183 (by simp) ?_)
 (refine gO (@BatD.dv.eq_1) ?_;try with_reducible exact tt)
 (refine rO (@BatD.dv.eq_1) ?_;try with_reducible exact tt)
theorem aJx (o:OpenD) (hs:SmallO o):aJ Tryz.prog 152 [.agg o.dv] (.agg o.dv):=by
 have hbl:=hs.bats
 (refine aJ.of_body Tryz.func152 rfl rfl Tryz.ntmps152 Tryz.results152 (by simp) ?_)
 (refine gO (@OpenD.dv.eq_1) ?_;try with_reducible exact tt)
 refine Wp.weak (aD.nilAppCell (id:=0) (k:=2) (τ:=9) (cs:=[.d (int o.pid),.d (int o.epoch),.d bU]) 86 5 (by decide) (by (refine aK ?_;try with_reducible exact tt)) (by (refine aK ?_;try with_reducible exact tt)) rfl) ?_
 refine Wp.loop (fun k:Nat=>⟨dI [(1,.c (.own 0 0)),(2,.c (.own 1 0)),(9,.c (.d (.lst 5 (o.bats.map BatD.dv)))),(10,vi .i64 o.bats.length),(11,vi .i64 k)],bJ [(0,.cells [.d (int o.pid),.d (int o.epoch),.app 9 5 ((o.bats.take k).map BatD.dv)]),(1,.cells [.d (int 0),.d (int 0),.d bU]),(9,.row 86 5 k)],20,24,0⟩) (fun k=>k≤o.bats.length) (fun k=>o.bats.length - k) 0 (Nat.zero_le _) ?_ ?_
 ·refine aD.keep rfl rfl ?_
  (refine rO (ai @List.set_cons_succ.{0} (ai @List.set_cons_zero.{0} (@List.take_zero.{0}))) ?_;try with_reducible exact tt)
 intro k hk
 by_cases hlt:k<o.bats.length
 ·have d1:decide ((k:Int)<(o.bats.length:Int))=true:=decide_eq_true (by omega)
  have g1:o.bats[k]? = some o.bats[k]:=List.getElem?_eq_getElem hlt
  have hsn:=aF o.bats k hlt
  have htl:(o.bats.take k).length=k:=by rw[List.length_take];omega
  have c1:=aGz o.bats[k] (hs.recs _ (List.getElem_mem hlt))
  have hwk:IntKind.i64.wrap ((k:Int)+1)=((k+1:Nat):Int):=by rw[aG (by omega)];rfl
  have hb:(k+1)*56≤140737488355328:=by omega
  generalize o.bats[k]=b at *
  simp only[BatD.dv] at c1
  (refine gO (ai d1 (ai g1 (ai @BatD.dv.eq_1 (ai htl (hb))))) ?_;try with_reducible exact tt)
  refine⟨k+1,by omega,by omega,aD.keep rfl rfl ?_⟩
  (refine rO (ai hsn (ai hwk (ai @List.map_append.{0,0} (ai @BatD.dv.eq_1 (htl))))) ?_;try with_reducible exact tt)
 ·have hke:k=o.bats.length:=by omega
  subst hke
  have d1:decide ((o.bats.length:Int)<(o.bats.length:Int))=false:=by simp
  (refine gO (ai d1 (@List.take_length.{0})) ?_;try with_reducible exact tt)
  (refine rO (ai @OpenD.dv.eq_1 (@List.take_length.{0})) ?_;try with_reducible exact tt)
theorem aMv (o:OpenD) (pid:Int):aJ Tryz.prog 182 [.agg o.dv,.ptr [int pid] 0] (dC (o.pid == pid)):=by
 (refine aJ.of_body Tryz.func182 rfl rfl Tryz.ntmps182 Tryz.results182 (by simp) ?_)
 (refine gO (@OpenD.dv.eq_1) ?_;try with_reducible exact tt)
 (refine aK ?_;try with_reducible exact tt)
theorem aMx (l:List OpenD) (pid:Int) (hl:l.length≤100000):aJ Tryz.prog 151 [.lst 3 (l.map OpenD.dv),int pid] (.tup [int (if l.any (fun o=>o.pid == pid) then (l.findIdx (fun o=>o.pid == pid):Int) else -1),dC (l.any (fun o=>o.pid == pid))]):=by
 have c1:=rG l 182 [.ptr [int pid] 0] (fun o=>o.pid == pid) (fun x _=>aMv x pid) (by omega)
 (refine aJ.of_body Tryz.func151 rfl rfl Tryz.ntmps151 Tryz.results151 (by simp) ?_)
 (refine aI ?_;try with_reducible exact tt)
 (refine Wp.weak (aD.freeze (id:=0) (by (refine aK ?_;try with_reducible exact tt);rfl) (by (refine aK ?_;try with_reducible exact tt);rfl)) ?_)
 cases ha:l.any (fun o=>o.pid == pid) with
 | false =>
  rw[ha] at c1
  simp only[Bool.false_eq_true,if_false] at c1
  (refine aI ?_;try with_reducible exact tt)
  (refine aK ?_;try with_reducible exact tt)
 | true =>
  rw[ha,if_pos rfl] at c1
  have d1:decide ((0:Int)≤(l.findIdx (fun o=>o.pid == pid):Int))=true:=decide_eq_true (by omega)
  (refine gO (d1) ?_;try with_reducible exact tt)
  (refine aK ?_;try with_reducible exact tt)
abbrev oz:OpenD:=⟨0,0,[]⟩
theorem aW5:jA (.agg [int 0,int 0,bU]) (.agg oz.dv):=jA.agg (.cons (.refl _) (.cons (.refl _) (.cons (.nil 5) .nil)))
def aVw (l:List OpenD) (pid:Int):OpenD:=match l.find? (fun o=>o.pid == pid) with
 | some o=>o
 | none=>oz
structure SmallP (p:PartD):Prop where
 rows:p.rows.length≤100000
 opens:p.opens.length≤100000
 open1:∀ o ∈ p.opens,SmallO o
 prods:SmallL p.prods
theorem aF2 (p:PartD) (pid:Int) (hs:SmallP p):aJ Tryz.prog 118 [.agg p.dv,int pid] (.tup [.agg (aVw p.opens pid).dv,dC (mY p pid)]):=by
 have c1:=aMx p.opens pid hs.opens
 unfold mY aVw
 (refine aJ.of_bodyW Tryz.func118 rfl rfl Tryz.ntmps118 Tryz.results118 (by simp) ?_)
 cases ha:p.opens.any (fun o=>o.pid == pid) with
 | false =>
  have hn:p.opens.find? (fun o=>o.pid == pid)=none:=List.find?_eq_none.2 (fun x hx=>by simpa using List.any_eq_false.1 ha x hx)
  rw[ha] at c1
  simp only[Bool.false_eq_true,if_false] at c1
  rw[hn]
  (refine gO (@PartD.dv.eq_1) ?_;try with_reducible exact tt)
  (refine aK ?_;try with_reducible exact tt)
  exact⟨_,rfl,jA.tup (.cons aW5 (.cons (.refl _) .nil))⟩
 | true =>
  rw[ha,if_pos rfl] at c1
  have hfi:=pN _ p.opens ha
  obtain⟨x,hx,hpx⟩:=List.any_eq_true.1 ha
  cases hq:p.opens.find? (fun o=>o.pid == pid) with
  | none=>have:=List.find?_eq_none.1 hq x hx;exact absurd hpx this
  | some o =>
   rw[hq] at hfi
   have c2:=aJx o (hs.open1 o (List.mem_of_getElem? hfi))
   generalize p.opens.findIdx (fun o=>o.pid == pid)=k at *
   simp only[OpenD.dv] at c2
   (refine gO (ai hfi (ai @PartD.dv.eq_1 (@OpenD.dv.eq_1))) ?_;try with_reducible exact tt)
   (refine rO (@OpenD.dv.eq_1) ?_;try with_reducible exact tt)
   exact⟨_,rfl,fun K v h=>h⟩
def uH (r:RowD):Bool:=decide (r.pid<1) || decide (8<r.pid) || decide (r.seq<0) || decide ((1048576:Int)≤r.seq) || decide (16<(r.key.length:Int)) || decide (16<(r.value.length:Int))
theorem aOh (r:RowD):uH r = !fV r:=by
 unfold uH fV aU
 rw[Bool.eq_iff_iff]
 simp only[Bool.and_eq_true,Bool.not_eq_true',Bool.and_eq_false_iff,Bool.or_eq_true,decide_eq_true_eq,decide_eq_false_iff_not]
 omega
theorem aOi (r:RowD):aJ Tryz.prog 146 [.agg r.dv] (dC (!fV r)):=by
 rw[← aOh]
 (refine aJ.of_body Tryz.func146 rfl rfl Tryz.ntmps146 Tryz.results146 (by simp) ?_)
 (refine gO (@RowD.dv.eq_1) ?_;try with_reducible exact tt)
 (first|refine Wp.sto 2 (vb (uH r)) ?_ ?_|refine Wp.rtoS 2 (vb (uH r)) ?_ ?_|(refine Wp.seq ?_;first|refine Wp.sto 2 (vb (uH r)) ?_ ?_|refine Wp.rtoS 2 (vb (uH r)) ?_ ?_))
 ·unfold uH;((rcases Bool.eq_false_or_eq_true (decide (r.pid<1)) with hL1|hL1;focus (((refine rO (ai hL1 (@RowD.dv.eq_1)) ?_;try with_reducible exact tt);(repeat (refine aQ (by assumption) ?_;(refine rO (ai hL1 (@RowD.dv.eq_1)) ?_;try with_reducible exact tt))));all_goals (exact (show aH _ _=true by kernel_rfl))));(rcases Bool.eq_false_or_eq_true (decide (8<r.pid)) with hL2|hL2;focus (((refine rO (ai hL1 (ai hL2 (@RowD.dv.eq_1))) ?_;try with_reducible exact tt);(repeat (refine aQ (by assumption) ?_;(refine rO (ai hL1 (ai hL2 (@RowD.dv.eq_1))) ?_;try with_reducible exact tt))));all_goals (exact (show aH _ _=true by kernel_rfl))));(rcases Bool.eq_false_or_eq_true (decide (r.seq<0)) with hL3|hL3;focus (((refine rO (ai hL1 (ai hL2 (ai hL3 (@RowD.dv.eq_1)))) ?_;try with_reducible exact tt);(repeat (refine aQ (by assumption) ?_;(refine rO (ai hL1 (ai hL2 (ai hL3 (@RowD.dv.eq_1)))) ?_;try with_reducible exact tt))));all_goals (exact (show aH _ _=true by kernel_rfl))));(rcases Bool.eq_false_or_eq_true (decide ((1048576:Int)≤r.seq)) with hL4|hL4;focus (((refine rO (ai hL1 (ai hL2 (ai hL3 (ai hL4 (@RowD.dv.eq_1))))) ?_;try with_reducible exact tt);(repeat (refine aQ (by assumption) ?_;(refine rO (ai hL1 (ai hL2 (ai hL3 (ai hL4 (@RowD.dv.eq_1))))) ?_;try with_reducible exact tt))));all_goals (exact (show aH _ _=true by kernel_rfl))));(rcases Bool.eq_false_or_eq_true (decide (16<(r.key.length:Int))) with hL5|hL5;focus (((refine rO (ai hL1 (ai hL2 (ai hL3 (ai hL4 (ai hL5 (@RowD.dv.eq_1)))))) ?_;try with_reducible exact tt);(repeat (refine aQ (by assumption) ?_;(refine rO (ai hL1 (ai hL2 (ai hL3 (ai hL4 (ai hL5 (@RowD.dv.eq_1)))))) ?_;try with_reducible exact tt))));all_goals (exact (show aH _ _=true by kernel_rfl))));(rcases Bool.eq_false_or_eq_true (decide (16<(r.value.length:Int))) with hL6|hL6;focus (((refine rO (ai hL1 (ai hL2 (ai hL3 (ai hL4 (ai hL5 (ai hL6 (@RowD.dv.eq_1))))))) ?_;try with_reducible exact tt);(repeat (refine aQ (by assumption) ?_;(refine rO (ai hL1 (ai hL2 (ai hL3 (ai hL4 (ai hL5 (ai hL6 (@RowD.dv.eq_1))))))) ?_;try with_reducible exact tt))));all_goals (exact (show aH _ _=true by kernel_rfl))));((refine rO (ai hL1 (ai hL2 (ai hL3 (ai hL4 (ai hL5 (ai hL6 (@RowD.dv.eq_1))))))) ?_;try with_reducible exact tt);(repeat (refine aQ (by assumption) ?_;(refine rO (ai hL1 (ai hL2 (ai hL3 (ai hL4 (ai hL5 (ai hL6 (@RowD.dv.eq_1))))))) ?_;try with_reducible exact tt))));all_goals (exact (show aH _ _=true by kernel_rfl)))
 (refine aI ?_;try with_reducible exact tt)
 (refine aK ?_;try with_reducible exact tt)
theorem yQ (l:List RowD) (f:Nat) (caps:List D) (p:RowD→Bool) (hp:∀ x ∈ l,aJ Tryz.prog f (.agg x.dv::caps) (dC (p x))) (hl:l.length<2 ^ 40) :
  aJ Tryz.prog 170 [.lst 5 (l.map RowD.dv),.fn (.func f) caps] (int (if l.any p then (l.findIdx p:Int) else -1)):=by
 (refine aJ.of_body Tryz.func170 rfl rfl Tryz.ntmps170 Tryz.results170 (by simp) ?_)
 (refine aI ?_;try with_reducible exact tt)
 refine Wp.loop (fun k:Nat=>⟨dI [(0,.c (.d (.lst 5 (l.map RowD.dv)))),(1,.c (.d (.fn (.func f) caps))),(7,vi .i64 l.length),(8,vi .i64 k)],bJ [],0,19,0⟩) (fun k=>k≤l.length∧(l.take k).any p=false) (fun k=>l.length - k) 0 ⟨Nat.zero_le _,rfl⟩ ?_ ?_
 ·refine aD.keep rfl rfl ?_
  (refine aK ?_;try with_reducible exact tt)
 rintro k ⟨hk,hall⟩
 (refine aI ?_;try with_reducible exact tt)
 refine Wp.cond (by (refine aK ?_;try with_reducible exact tt);rfl) (fun h=>?_) (fun h=>?_)
 ·have hlt:k<l.length:=by simpa using h
  have c1:=hp l[k] (List.getElem_mem hlt)
  have hs:=dH p l k hlt
  simp only[RowD.dv] at c1
  (refine gO (ai (List.getElem?_eq_getElem hlt) (@RowD.dv.eq_1)) ?_;try with_reducible exact tt)
  refine Wp.cond (by (refine aK ?_;try with_reducible exact tt);rfl) (fun h=>?_) (fun h=>?_)
  ·have hi:=aHj hlt hall h
   have ha:l.any p=true:=List.any_eq_true.2 ⟨l[k],List.getElem_mem hlt,h⟩
   (refine aI ?_;try with_reducible exact tt)
   (refine rO (ai hi (ha)) ?_;try with_reducible exact tt)
  ·(refine aI ?_;try with_reducible exact tt)
   refine⟨k+1,⟨by omega,by rw[hs,hall,h];rfl⟩,by omega,aD.keep rfl rfl ?_⟩
   (refine aK ?_;try with_reducible exact tt)
 ·have ha:l.any p=false:=by
   rw[List.take_of_length_le (by simp only[decide_eq_false_iff_not] at h;omega)] at hall;exact hall
  (refine aI ?_;try with_reducible exact tt)
  (refine rO (ha) ?_;try with_reducible exact tt)
theorem tI (l:List RowD) (f:Nat) (caps:List D) (p:RowD→Bool) (hp:∀ x ∈ l,aJ Tryz.prog f (.agg x.dv::caps) (dC (p x))) (hl:l.length<2 ^ 40) :
  aJ Tryz.prog 145 [.lst 5 (l.map RowD.dv),.fn (.func f) caps] (dC (l.any p)):=by
 have h1:=yQ l f caps p hp hl
 (refine aJ.of_body Tryz.func145 rfl rfl Tryz.ntmps145 Tryz.results145 (by simp) ?_)
 cases ha:l.any p with
 | false =>
  rw[ha] at h1
  simp only[Bool.false_eq_true,if_false] at h1
  (refine aI ?_;try with_reducible exact tt)
  (refine aK ?_;try with_reducible exact tt)
 | true =>
  rw[ha,if_pos rfl] at h1
  (refine aI ?_;try with_reducible exact tt)
  (refine aK ?_;try with_reducible exact tt)
abbrev aLh:D:=str [97,32,112,97,114,116]
abbrev aU0:D:=str [97,110,32,111,112,101,110,32,116,114,97,110,115,97,99,116,105,111,110]
abbrev aU1:D:=str [116,104,101,32,112,114,111,100,117,99,101,114,32,111,102,32,97,110,32,111,112,101,110,32,116,114,97,110,115,97,99,116,105,111,110]
def tP (p:PartD):Bool:=bB p && p.rows.all fV && sO p.prods
def mT (p:PartD):List OpenD→D
 | []=>.val .nilIface
 | o::l=>if wG o then (if cV p o then mT p l else fM aU1 2) else fM aU0 2
def yN (p:PartD):D:=if tP p then mT p p.opens else fM aLh 2
theorem yE (p:PartD):∀ (l:List OpenD),(l.all (cV p)=true∧mT p l = .val .nilIface)∨(l.all (cV p)=false∧∃ x,mT p l=fM x 2)
 | []=>.inl ⟨rfl,rfl⟩
 | o::l=>by
  rcases yE p l with ⟨h1,h2⟩|⟨h1,x,h2⟩
  ·cases ho:cV p o with
   | true =>
    have hk:wG o=true:=by simp only[cV,Bool.and_eq_true] at ho;exact ho.1
    left;refine⟨by rw[List.all_cons,ho,h1];rfl,?_⟩;rw[mT,hk,ho,if_pos rfl,if_pos rfl,h2]
   | false =>
    right
    refine⟨by simp[ho],?_⟩
    unfold mT
    split
    ·rw[ho];exact⟨_,rfl⟩
    ·exact⟨_,rfl⟩
  ·right
   refine⟨by simp[h1],?_⟩
   unfold mT
   split
   ·split
    ·exact⟨x,h2⟩
    ·exact⟨_,rfl⟩
   ·exact⟨_,rfl⟩
theorem aB6 (p:PartD):∀ (l:List OpenD) (k:Nat),(∀ (j:Nat) (h:j<l.length),j<k→cV p l[j]=true)→mT p l=mT p (l.drop k)
 | l,0,_=>by simp
 | [],k+1,_=>by simp
 | o::l,k+1,h=>by
  have h0:=h 0 (by simp) (by omega)
  simp only[List.getElem_cons_zero] at h0
  have hk:wG o=true:=by simp only[cV,Bool.and_eq_true] at h0;exact h0.1
  rw[mT,hk,h0]
  simp only[if_true,List.drop_succ_cons]
  exact aB6 p l k (fun j hj hjk=>by have:=h (j+1) (by simpa using hj) (by omega);simpa using this)
theorem aEp (p:PartD) (hs:SmallP p):aJ Tryz.prog 117 [.agg p.dv] (yN p):=by
 have c1:=wH p ⟨hs.rows,hs.opens⟩
 have c2:=tI p.rows 146 [] (fun r=>!fV r) (fun r _=>aOi r) (by have:=hs.rows;omega)
 have c3:=aSu p.prods hs.prods
 have hol:=hs.opens
 have hany:p.rows.any (fun r=>!fV r) = !p.rows.all fV:=by rw[List.not_all_eq_any_not]
 rw[hany] at c2
 simp only[PartD.dv] at c1
 (refine aJ.of_body Tryz.func117 rfl rfl Tryz.ntmps117 Tryz.results117 (by simp) ?_)
 cases h1:bB p with
 | false =>
  have e:yN p=fM aLh 2:=by unfold yN tP;rw[h1];rfl
  rw[h1] at c1
  simp only[Bool.false_eq_true,if_false] at c1
  (refine gO (@PartD.dv.eq_1) ?_;try with_reducible exact tt)
  (refine rO (e) ?_;try with_reducible exact tt)
 | true =>
 rw[h1,if_pos rfl] at c1
 cases h2:p.rows.all fV with
 | false =>
  have e:yN p=fM aLh 2:=by unfold yN tP;rw[h1,h2];rfl
  rw[h2] at c2
  (refine gO (@PartD.dv.eq_1) ?_;try with_reducible exact tt)
  (refine rO (e) ?_;try with_reducible exact tt)
 | true =>
 rw[h2] at c2
 cases h3:sO p.prods with
 | false =>
  have e:yN p=fM aLh 2:=by unfold yN tP;rw[h1,h2,h3];rfl
  rw[h3] at c3
  (refine gO (@PartD.dv.eq_1) ?_;try with_reducible exact tt)
  (refine rO (e) ?_;try with_reducible exact tt)
 | true =>
 rw[h3] at c3
 have e:yN p=mT p p.opens:=by unfold yN tP;rw[h1,h2,h3];rfl
 rw[e]
 (refine gO (@PartD.dv.eq_1) ?_;try with_reducible exact tt)
 refine Wp.loop (fun k:Nat=>⟨dI [(1,.c (.own 0 0)),(26,.c (.d (.lst 3 (p.opens.map OpenD.dv)))),(27,vi .i64 p.opens.length),(28,vi .i64 k)],bJ [(0,.cells (p.dv.map .d))],1,77,0⟩) (fun k=>k≤p.opens.length∧∀ (j:Nat) (h:j<p.opens.length),j<k→cV p p.opens[j]=true) (fun k=>p.opens.length - k) 0 ⟨Nat.zero_le _,fun j h h2=>by omega⟩ ?_ ?_
 ·refine aD.keep rfl rfl ?_
  (refine rO (@PartD.dv.eq_1) ?_;try with_reducible exact tt)
 rintro k ⟨hk,hall⟩
 have htk:=aB6 p p.opens k hall
 by_cases hlt:k<p.opens.length
 ·have d1:decide ((k:Int)<(p.opens.length:Int))=true:=decide_eq_true (by omega)
  have g1:p.opens[k]? = some p.opens[k]:=List.getElem?_eq_getElem hlt
  have hwk:IntKind.i64.wrap ((k:Int)+1)=((k+1:Nat):Int):=by rw[aG (by omega)];rfl
  have hdr:p.opens.drop k=p.opens[k]::p.opens.drop (k+1):=List.drop_eq_getElem_cons hlt
  have hsm:=hs.open1 _ (List.getElem_mem hlt)
  have hgo:cV p p.opens[k]=true→∀ (j:Nat) (h:j<p.opens.length),j<k+1→cV p p.opens[j]=true:=fun h j hj hjk=>by
   rcases Nat.lt_or_ge j k with h1|h1
   ·exact hall j hj h1
   ·have e:j=k:=by omega
    subst e;exact h
  rw[hdr] at htk
  generalize p.opens[k]=o at *
  have c4:=aJu o hsm
  have c5:=aPc p.prods o.pid hs.prods
  simp only[OpenD.dv] at c4
  cases ho:wG o with
  | false =>
   have e2:mT p p.opens=fM aU0 2:=by rw[htk,mT,ho];rfl
   have e3:(cpF o).2=2:=by unfold cpF;rw[ho];rfl
   rw[e3] at c4
   (refine gO (ai d1 (ai g1 (ai @PartD.dv.eq_1 (@OpenD.dv.eq_1)))) ?_;try with_reducible exact tt)
   (refine rO (e2) ?_;try with_reducible exact tt)
  | true =>
   have e3:(cpF o).2=0:=by unfold cpF;rw[ho];rfl
   rw[e3] at c4
   obtain⟨hpos,_⟩:=zC ho
   have hz:o.bats[o.bats.length - 1]? = some (o.bats[o.bats.length - 1]'(by omega)):=List.getElem?_eq_getElem (by omega)
   have hla:hZ o=wS (o.bats[o.bats.length - 1]'(by omega)):=by
    unfold hZ;rw[List.getLast?_eq_getElem?,hz]
   have ew:IntKind.i64.wrap ((o.bats.length:Int) - 1)=((o.bats.length - 1:Nat):Int):=by rw[aG (by omega)];omega
   generalize o.bats[o.bats.length - 1]'(by omega)=z at *
   have c6:=aEb z
   simp only[BatD.dv] at c6
   have hok:cV p o=((eI p.prods o.pid).2 && ((eI p.prods o.pid).1.epoch == o.epoch && (eI p.prods o.pid).1.next == hZ o)):=by unfold cV;rw[ho];rfl
   rw[← hla] at c6
   obtain⟨q,is,hq⟩:∃ q is,eI p.prods o.pid=(q,is):=⟨_,_,rfl⟩
   rw[hq] at c5 hok
   simp only[ProdD.dv] at c5
   (refine gO (ai d1 (ai g1 (ai @PartD.dv.eq_1 (@OpenD.dv.eq_1)))) ?_;try with_reducible exact tt)
   (first|refine Wp.stoD 72 (vb (!is || (q.epoch != o.epoch) || (q.next != hZ o))) aA ?_ ?_|refine Wp.rtoDS 72 (vb (!is || (q.epoch != o.epoch) || (q.next != hZ o))) aA ?_ ?_|(refine Wp.seq ?_;first|refine Wp.stoD 72 (vb (!is || (q.epoch != o.epoch) || (q.next != hZ o))) aA ?_ ?_|refine Wp.rtoDS 72 (vb (!is || (q.epoch != o.epoch) || (q.next != hZ o))) aA ?_ ?_))
   ·((rcases Bool.eq_false_or_eq_true (!is) with hL1|hL1)<;>(rcases Bool.eq_false_or_eq_true (q.epoch != o.epoch) with hL2|hL2)<;>(rcases Bool.eq_false_or_eq_true (q.next != hZ o) with hL3|hL3)<;>(((refine rO (ai hL1 (ai hL2 (ai hL3 (ai @PartD.dv.eq_1 (ai @OpenD.dv.eq_1 (ai @ProdD.dv.eq_1 (ai @BatD.dv.eq_1 (ai hz (ew))))))))) ?_;try with_reducible exact tt);(repeat (refine aQ (by assumption) ?_;(refine rO (ai hL1 (ai hL2 (ai hL3 (ai @PartD.dv.eq_1 (ai @OpenD.dv.eq_1 (ai @ProdD.dv.eq_1 (ai @BatD.dv.eq_1 (ai hz (ew))))))))) ?_;try with_reducible exact tt))));all_goals (exact (show aH _ _=true by kernel_rfl))))
   refine Wp.cond (by (refine aK ?_;try with_reducible exact tt);rfl) (fun h=>?_) (fun h=>?_)
   ·have hf:cV p o=false:=by
     rw[hok]
     simp only[Bool.or_eq_true,Bool.not_eq_true',bne_iff_ne] at h
     rw[Bool.and_eq_false_iff,Bool.and_eq_false_iff,beq_eq_false_iff_ne,beq_eq_false_iff_ne]
     rcases h with (h|h)|h
     ·exact .inl h
     ·exact .inr (.inl h)
     ·exact .inr (.inr h)
    have e2:mT p p.opens=fM aU1 2:=by rw[htk,mT,ho,hf];rfl
    (refine aI ?_;try with_reducible exact tt)
    (refine rO (e2) ?_;try with_reducible exact tt)
   ·have hf:cV p o=true:=by
     rw[hok]
     simp only[Bool.or_eq_false_iff,Bool.not_eq_false',bne_eq_false_iff_eq] at h
     rw[h.1.1,h.1.2,h.2];simp
    (refine aI ?_;try with_reducible exact tt)
    refine⟨k+1,⟨by omega,hgo hf⟩,by omega,aD.keep rfl rfl ?_⟩
    (refine rO (ai hwk (@PartD.dv.eq_1)) ?_;try with_reducible exact tt)
 ·have hke:k=p.opens.length:=by omega
  rw[hke,List.drop_length] at htk
  have d1:decide ((k:Int)<(p.opens.length:Int))=false:=decide_eq_false (by omega)
  (refine gO (d1) ?_;try with_reducible exact tt)
  simp (maxSteps:=2000000) (disch:=omega) only[bF,TY,aL,bQ,cD,SV.ofD,bW,cF,bX,fB,bK,fC,eQ,cQ,cL,dO,eZ,eY,fA,CV.exact,CV.lstOf,CV.lenOf,CV.one,D.one,Value.oneCell',CV.toD0,fS,cC,dU,eV,rD0,eS,eO,fT,reduceCtorEq,reduceIte,Nat.reduceBEq,Nat.reduceEqDiff,Nat.reduceAdd,Nat.reduceMul,Nat.reduceSub,Nat.reduceLT,Nat.reduceLeDiff,Nat.reduceBNe,Int.reduceLE,Int.reduceLT,Int.reduceBEq,Int.reduceBNe,Int.reduceEq,Int.reduceNeg,Int.reduceAdd,Int.reduceSub,Int.reduceToNat,forall_const,htk,mT]
theorem aSb (p:PartD):(bE p=true∧yN p = .val .nilIface)∨(bE p=false∧∃ x,yN p=fM x 2):=by
 unfold yN
 have hp:bE p=(tP p && p.opens.all (cV p)):=rfl
 cases hh:tP p with
 | false =>
  right;rw[hp,hh]
  exact⟨rfl,_,rfl⟩
 | true =>
  rw[hp,hh]
  simp only[Bool.true_and,if_true]
  exact yE p p.opens
theorem pC (p:PartD) (hs:SmallP p):aJ Tryz.prog 75 [.agg p.dv] (int (if bE p then 0 else 2)):=by
 have c1:=aEp p hs
 rcases aSb p with ⟨h1,h2⟩|⟨h1,x,h2⟩
 ·rw[h2] at c1
  have c2:=yM
  rw[h1]
  simp only[PartD.dv] at c1
  (refine aJ.of_body Tryz.func75 rfl rfl Tryz.ntmps75 Tryz.results75 (by simp) ?_)
  (refine gO (@PartD.dv.eq_1) ?_;try with_reducible exact tt)
  (refine rO (@if_true.{1}) ?_;try with_reducible exact tt)
 ·rw[h2] at c1
  have c2:=yL x 2
  rw[h1]
  simp only[PartD.dv] at c1
  (refine aJ.of_body Tryz.func75 rfl rfl Tryz.ntmps75 Tryz.results75 (by simp) ?_)
  (refine gO (@PartD.dv.eq_1) ?_;try with_reducible exact tt)
  (refine rO (ai @Bool.false_eq_true (@if_false.{1})) ?_;try with_reducible exact tt)
end Go.Proofs.YtkmfmphpndhkjaaGreatDoor
