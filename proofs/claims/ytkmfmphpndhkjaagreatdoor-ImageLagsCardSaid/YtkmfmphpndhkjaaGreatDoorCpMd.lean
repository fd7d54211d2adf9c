/- The abstract machine (CpR6, CpR). -/
import Derived.Test.YtkmfmphpndhkjaaGreatDoorCpA
import Derived.Test.YtkmfmphpndhkjaaGreatDoorCpMb
namespace Go.Proofs.YtkmfmphpndhkjaaGreatDoor
open Go Go.RowKit
set_option maxHeartbeats 8000000
set_option maxRecDepth 100000
set_option linter.unusedVariables false
set_option linter.unusedSimpArgs false
def aCz (b:BatD):Bool:=decide (b.pid<1) || decide (8<b.pid) || decide (b.epoch<0) || decide (100<b.epoch) || decide (b.seq<0) || decide (1048576<b.seq) || decide ((b.recs.length:Int)<1) || decide (4<(b.recs.length:Int)) || decide (1048576<IntKind.i64.wrap (b.seq+(b.recs.length:Int)))
theorem aN1 (b:BatD) (hl:b.recs.length≤100000):lV b=(!aCz b && !b.recs.any hJ):=by
 have hw:b.seq≤1048576→0≤b.seq→IntKind.i64.wrap (b.seq+(b.recs.length:Int))=b.seq+(b.recs.length:Int):=fun h h'=>aF ⟨by omega,by omega⟩
 have key:(!(decide (b.pid<1) || decide (8<b.pid)) && !(decide (b.epoch<0) || decide (100<b.epoch)) && !(decide ((b.recs.length:Int)<1) || decide (4<(b.recs.length:Int))) && !(decide (b.seq<0) || decide (1048576 - (b.recs.length:Int)<b.seq))) = !aCz b:=by
  rw[Bool.eq_iff_iff]
  simp only[aCz,Bool.and_eq_true,Bool.not_eq_true',Bool.or_eq_false_iff,decide_eq_false_iff_not]
  constructor
  ·rintro⟨⟨⟨⟨h1,h2⟩,h3,h4⟩,h5,h6⟩,h7,h8⟩
   rw[hw (by omega) (by omega)]
   refine⟨⟨⟨⟨⟨⟨⟨⟨h1,h2⟩,h3⟩,h4⟩,h7⟩,by omega⟩,h5⟩,h6⟩,by omega⟩
  ·rintro⟨⟨⟨⟨⟨⟨⟨⟨h1,h2⟩,h3⟩,h4⟩,h7⟩,h9⟩,h5⟩,h6⟩,h8⟩
   rw[hw (by omega) (by omega)] at h8
   refine⟨⟨⟨⟨h1,h2⟩,h3,h4⟩,h5,h6⟩,h7,by omega⟩
 unfold lV
 rw[key]
theorem aGt (b:BatD) (hl:b.recs.length≤100000):aJ Tryz.prog 114 [.agg b.dv] (eK (lV b)):=by
 have heq:=aN1 b hl
 (refine aJ.of_body Tryz.func114 rfl rfl Tryz.ntmps114 Tryz.results114 (by simp) ?_)
 (refine gO (@BatD.dv.eq_1) ?_)
 (first|refine Wp.sto 52 (vb (aCz b)) ?_ ?_|refine Wp.rtoS 52 (vb (aCz b)) ?_ ?_|(refine Wp.seq ?_;first|refine Wp.sto 52 (vb (aCz b)) ?_ ?_|refine Wp.rtoS 52 (vb (aCz b)) ?_ ?_))
 ·unfold aCz;((rcases Bool.eq_false_or_eq_true (decide (b.pid<1)) with hL1|hL1;focus (((refine rO (ai hL1 (@BatD.dv.eq_1)) ?_;try with_reducible exact tt);(repeat (refine aV (by assumption) ?_;(refine rO (ai hL1 (@BatD.dv.eq_1)) ?_))));all_goals (exact (show aG _ _=true by kernel_rfl))));(rcases Bool.eq_false_or_eq_true (decide (8<b.pid)) with hL2|hL2;focus (((refine rO (ai hL1 (ai hL2 (@BatD.dv.eq_1))) ?_;try with_reducible exact tt);(repeat (refine aV (by assumption) ?_;(refine rO (ai hL1 (ai hL2 (@BatD.dv.eq_1))) ?_))));all_goals (exact (show aG _ _=true by kernel_rfl))));(rcases Bool.eq_false_or_eq_true (decide (b.epoch<0)) with hL3|hL3;focus (((refine rO (ai hL1 (ai hL2 (ai hL3 (@BatD.dv.eq_1)))) ?_;try with_reducible exact tt);(repeat (refine aV (by assumption) ?_;(refine rO (ai hL1 (ai hL2 (ai hL3 (@BatD.dv.eq_1)))) ?_))));all_goals (exact (show aG _ _=true by kernel_rfl))));(rcases Bool.eq_false_or_eq_true (decide (100<b.epoch)) with hL4|hL4;focus (((refine rO (ai hL1 (ai hL2 (ai hL3 (ai hL4 (@BatD.dv.eq_1))))) ?_;try with_reducible exact tt);(repeat (refine aV (by assumption) ?_;(refine rO (ai hL1 (ai hL2 (ai hL3 (ai hL4 (@BatD.dv.eq_1))))) ?_))));all_goals (exact (show aG _ _=true by kernel_rfl))));(rcases Bool.eq_false_or_eq_true (decide (b.seq<0)) with hL5|hL5;focus (((refine rO (ai hL1 (ai hL2 (ai hL3 (ai hL4 (ai hL5 (@BatD.dv.eq_1)))))) ?_;try with_reducible exact tt);(repeat (refine aV (by assumption) ?_;(refine rO (ai hL1 (ai hL2 (ai hL3 (ai hL4 (ai hL5 (@BatD.dv.eq_1)))))) ?_))));all_goals (exact (show aG _ _=true by kernel_rfl))));(rcases Bool.eq_false_or_eq_true (decide (1048576<b.seq)) with hL6|hL6;focus (((refine rO (ai hL1 (ai hL2 (ai hL3 (ai hL4 (ai hL5 (ai hL6 (@BatD.dv.eq_1))))))) ?_;try with_reducible exact tt);(repeat (refine aV (by assumption) ?_;(refine rO (ai hL1 (ai hL2 (ai hL3 (ai hL4 (ai hL5 (ai hL6 (@BatD.dv.eq_1))))))) ?_))));all_goals (exact (show aG _ _=true by kernel_rfl))));(rcases Bool.eq_false_or_eq_true (decide ((b.recs.length:Int)<1)) with hL7|hL7;focus (((refine rO (ai hL1 (ai hL2 (ai hL3 (ai hL4 (ai hL5 (ai hL6 (ai hL7 (@BatD.dv.eq_1)))))))) ?_;try with_reducible exact tt);(repeat (refine aV (by assumption) ?_;(refine rO (ai hL1 (ai hL2 (ai hL3 (ai hL4 (ai hL5 (ai hL6 (ai hL7 (@BatD.dv.eq_1)))))))) ?_))));all_goals (exact (show aG _ _=true by kernel_rfl))));(rcases Bool.eq_false_or_eq_true (decide (4<(b.recs.length:Int))) with hL8|hL8;focus (((refine rO (ai hL1 (ai hL2 (ai hL3 (ai hL4 (ai hL5 (ai hL6 (ai hL7 (ai hL8 (@BatD.dv.eq_1))))))))) ?_;try with_reducible exact tt);(repeat (refine aV (by assumption) ?_;(refine rO (ai hL1 (ai hL2 (ai hL3 (ai hL4 (ai hL5 (ai hL6 (ai hL7 (ai hL8 (@BatD.dv.eq_1))))))))) ?_))));all_goals (exact (show aG _ _=true by kernel_rfl))));(rcases Bool.eq_false_or_eq_true (decide (1048576<IntKind.i64.wrap (b.seq+(b.recs.length:Int)))) with hL9|hL9;focus (((refine rO (ai hL1 (ai hL2 (ai hL3 (ai hL4 (ai hL5 (ai hL6 (ai hL7 (ai hL8 (ai hL9 (@BatD.dv.eq_1)))))))))) ?_;try with_reducible exact tt);(repeat (refine aV (by assumption) ?_;(refine rO (ai hL1 (ai hL2 (ai hL3 (ai hL4 (ai hL5 (ai hL6 (ai hL7 (ai hL8 (ai hL9 (@BatD.dv.eq_1)))))))))) ?_))));all_goals (exact (show aG _ _=true by kernel_rfl))));((refine rO (ai hL1 (ai hL2 (ai hL3 (ai hL4 (ai hL5 (ai hL6 (ai hL7 (ai hL8 (ai hL9 (@BatD.dv.eq_1)))))))))) ?_;try with_reducible exact tt);(repeat (refine aV (by assumption) ?_;(refine rO (ai hL1 (ai hL2 (ai hL3 (ai hL4 (ai hL5 (ai hL6 (ai hL7 (ai hL8 (ai hL9 (@BatD.dv.eq_1)))))))))) ?_))));all_goals (exact (show aG _ _=true by kernel_rfl)))
 refine Wp.cond (by (refine aM ?_);rfl) (fun h=>?_) (fun h=>?_)
 ·have hf:lV b=false:=by rw[heq,h];rfl
  (refine aH ?_)
  (refine rO (hf) ?_;try with_reducible exact tt)
 have h1:=h
 (refine gO (@BatD.dv.eq_1) ?_)
 refine Wp.loop (fun k:Nat=>⟨fP [(1,.c (.own 0 0)),(3,vi .i64 k)],cL [(0,.cells (b.dv.map .d))],1,78,0⟩) (fun k=>k≤b.recs.length∧(b.recs.take k).any hJ=false) (fun k=>b.recs.length - k) 0 ⟨Nat.zero_le _,rfl⟩ ?_ ?_
 ·refine aD.keep rfl rfl ?_
  (refine rO (@BatD.dv.eq_1) ?_;try with_reducible exact tt)
 rintro k ⟨hk,hall⟩
 (refine gO (@BatD.dv.eq_1) ?_)
 refine Wp.cond (by (refine aM ?_);rfl) (fun h=>?_) (fun h=>?_)
 ·have hlt:k<b.recs.length:=by simpa using h
  have hs:=dG hJ b.recs k hlt
  have hm:b.recs[k] ∈ b.recs:=List.getElem_mem hlt
  have hge:b.recs[k]? = some b.recs[k]:=List.getElem?_eq_getElem hlt
  generalize b.recs[k]=r at *
  (refine aH ?_)
  (first|refine Wp.sto 77 (vb (hJ r)) ?_ ?_|refine Wp.rtoS 77 (vb (hJ r)) ?_ ?_|(refine Wp.seq ?_;first|refine Wp.sto 77 (vb (hJ r)) ?_ ?_|refine Wp.rtoS 77 (vb (hJ r)) ?_ ?_))
  ·unfold hJ;((rcases Bool.eq_false_or_eq_true (decide (16<(r.key.length:Int))) with hL1|hL1)<;>(rcases Bool.eq_false_or_eq_true (decide (16<(r.value.length:Int))) with hL2|hL2)<;>(((refine rO (ai hL1 (ai hL2 (ai hge (ai @RecD.dv.eq_1 (@BatD.dv.eq_1))))) ?_;try with_reducible exact tt);(repeat (refine aV (by assumption) ?_;(refine rO (ai hL1 (ai hL2 (ai hge (ai @RecD.dv.eq_1 (@BatD.dv.eq_1))))) ?_))));all_goals (exact (show aG _ _=true by kernel_rfl))))
  refine Wp.cond (by (refine aM ?_);rfl) (fun h=>?_) (fun h=>?_)
  ·have hf:lV b=false:=by
    have:b.recs.any hJ=true:=List.any_eq_true.2 ⟨r,hm,h⟩
    rw[heq,this];simp
   (refine aH ?_)
   (refine rO (hf) ?_;try with_reducible exact tt)
  ·(refine aH ?_)
   refine⟨k+1,⟨by omega,by rw[hs,hall,h];rfl⟩,by omega,aD.keep rfl rfl ?_⟩
   (refine rO (@BatD.dv.eq_1) ?_;try with_reducible exact tt)
 ·have hf:lV b=true:=by
   rw[List.take_of_length_le (by simp only[decide_eq_false_iff_not] at h;omega)] at hall
   rw[heq,h1,hall];rfl
  (refine aH ?_)
  (refine rO (hf) ?_;try with_reducible exact tt)
theorem rB (b:BatD):aJ Tryz.prog 40 [.agg b.dv] (int (tL b)):=by
 (refine aJ.of_body Tryz.func40 rfl rfl Tryz.ntmps40 Tryz.results40 (by simp) ?_)
 (refine gO (@BatD.dv.eq_1) ?_)
 (refine rO (@tL.eq_1) ?_;try with_reducible exact tt)
abbrev aPm (o:OpenD) (k:Nat):St:=⟨fP [(1,.c (.own 0 0)),(3,vi .i64 k)],cL [(0,.cells (o.dv.map .d))],1,65,0⟩
theorem aEp (o:OpenD) (hs:SmallO o):aJ Tryz.prog 72 [.agg o.dv] (eK (vO o)):=by
 have hbl:=hs.bats
 (refine aJ.of_body Tryz.func72 rfl rfl Tryz.ntmps72 Tryz.results72 (by simp) ?_)
 (refine gO (@OpenD.dv.eq_1) ?_;try with_reducible exact tt)
 (first|refine Wp.sto 14 (vb (hU o)) ?_ ?_|refine Wp.rtoS 14 (vb (hU o)) ?_ ?_|(refine Wp.seq ?_;first|refine Wp.sto 14 (vb (hU o)) ?_ ?_|refine Wp.rtoS 14 (vb (hU o)) ?_ ?_))
 ·unfold hU;((rcases Bool.eq_false_or_eq_true (decide ((o.bats.length:Int)<1)) with hL1|hL1)<;>(rcases Bool.eq_false_or_eq_true (decide (8<(o.bats.length:Int))) with hL2|hL2)<;>(((refine rO (ai hL1 (ai hL2 (@OpenD.dv.eq_1))) ?_;try with_reducible exact tt);(repeat (refine aV (by assumption) ?_;(refine rO (ai hL1 (ai hL2 (@OpenD.dv.eq_1))) ?_;try with_reducible exact tt))));all_goals (exact (show aG _ _=true by kernel_rfl))))
 refine Wp.cond (by (refine aM ?_;try with_reducible exact tt);rfl) (fun h=>?_) (fun h=>?_)
 ·have hf:vO o=false:=by simp only[vO,h,Bool.not_true,Bool.false_and]
  (refine aH ?_;try with_reducible exact tt)
  (refine rO (hf) ?_;try with_reducible exact tt)
 have h1:hU o=false:=h
 (refine gO (@OpenD.dv.eq_1) ?_;try with_reducible exact tt)
 refine Wp.loop (aPm o) (fun k=>k≤o.bats.length∧∀ i,i<k→vD o i=true) (fun k=>o.bats.length - k) 0 ⟨Nat.zero_le _,fun i hi=>by omega⟩ ?_ ?_
 ·refine aD.keep rfl rfl ?_
  (refine rO (@OpenD.dv.eq_1) ?_;try with_reducible exact tt)
 rintro k ⟨hk,hall⟩
 (refine gO (@OpenD.dv.eq_1) ?_;try with_reducible exact tt)
 refine Wp.cond (by (refine aM ?_;try with_reducible exact tt);rfl) (fun h=>?_) (fun h=>?_)
 ·have hlt:k<o.bats.length:=by simpa using h
  have hge:o.bats[k]? = some o.bats[k]:=List.getElem?_eq_getElem hlt
  have hrl:=hs.recs o.bats[k] (List.getElem_mem hlt)
  generalize o.bats[k]=b at *
  have c1:=aGt b hrl
  have hbad:iL o k b=true→vO o=false:=aHi hge
  have hstep:iL o k b=false→∀ i,i<k+1→vD o i=true:=fun hb i hi=>by
   rcases Nat.lt_or_ge i k with h2|h2
   ·exact hall i h2
   ·obtain rfl:i=k:=by omega
    simp only[vD,hge,hb];rfl
  simp only[BatD.dv] at c1
  (refine gO (ai hge (ai @BatD.dv.eq_1 (@OpenD.dv.eq_1))) ?_;try with_reducible exact tt)
  rcases Nat.eq_zero_or_pos k with hk0|hk0
  ·subst hk0
   have hsq:(b.seq != pL o.bats 0)=false:=by simp[pL,hge]
   have hb:iL o 0 b=(!lV b || !b.txn || b.pid != o.pid || b.epoch != o.epoch):=by simp only[iL,hsq,Bool.or_false]
   (first|refine Wp.stoD 64 (vb (iL o 0 b)) aA ?_ ?_|refine Wp.rtoDS 64 (vb (iL o 0 b)) aA ?_ ?_|(refine Wp.seq ?_;first|refine Wp.stoD 64 (vb (iL o 0 b)) aA ?_ ?_|refine Wp.rtoDS 64 (vb (iL o 0 b)) aA ?_ ?_))
   ·rw[hb];((rcases Bool.eq_false_or_eq_true (!lV b) with hL1|hL1)<;>(rcases Bool.eq_false_or_eq_true (!b.txn) with hL2|hL2)<;>(rcases Bool.eq_false_or_eq_true (b.pid != o.pid) with hL3|hL3)<;>(rcases Bool.eq_false_or_eq_true (b.epoch != o.epoch) with hL4|hL4)<;>(((refine rO (ai hL1 (ai hL2 (ai hL3 (ai hL4 (ai @BatD.dv.eq_1 (@OpenD.dv.eq_1)))))) ?_;try with_reducible exact tt);(repeat (refine aV (by assumption) ?_;(refine rO (ai hL1 (ai hL2 (ai hL3 (ai hL4 (ai @BatD.dv.eq_1 (@OpenD.dv.eq_1)))))) ?_;try with_reducible exact tt))));all_goals (exact (show aG _ _=true by kernel_rfl))))
   refine Wp.cond (by (refine aM ?_;try with_reducible exact tt);rfl) (fun h=>?_) (fun h=>?_)
   ·have hf:=hbad h
    (refine aH ?_;try with_reducible exact tt)
    (refine rO (hf) ?_;try with_reducible exact tt)
   ·(refine aH ?_;try with_reducible exact tt)
    refine⟨0+1,⟨by omega,hstep h⟩,by omega,aD.keep rfl rfl ?_⟩
    (refine rO (@OpenD.dv.eq_1) ?_;try with_reducible exact tt)
  ·obtain⟨j,rfl⟩:∃ j,k=j+1:=⟨k - 1,by omega⟩
   have hgj:o.bats[j]? = some (o.bats[j]'(by omega)):=List.getElem?_eq_getElem (by omega)
   have hsq:pL o.bats (j+1)=tL (o.bats[j]'(by omega)):=by simp only[pL,hgj]
   generalize o.bats[j]'(by omega)=bj at hgj hsq
   have c2:=rB bj
   simp only[BatD.dv] at c2
   have hpos:decide ((0:Int)<((j:Int)+1))=true:=decide_eq_true (by omega)
   (first|refine Wp.stoD 64 (vb (iL o (j+1) b)) aA ?_ ?_|refine Wp.rtoDS 64 (vb (iL o (j+1) b)) aA ?_ ?_|(refine Wp.seq ?_;first|refine Wp.stoD 64 (vb (iL o (j+1) b)) aA ?_ ?_|refine Wp.rtoDS 64 (vb (iL o (j+1) b)) aA ?_ ?_))
   ·rw[iL,hsq];((rcases Bool.eq_false_or_eq_true (!lV b) with hL1|hL1;focus (((refine rO (ai hL1 (ai @BatD.dv.eq_1 (ai @OpenD.dv.eq_1 (ai hpos (hgj))))) ?_;try with_reducible exact tt);(repeat (refine aV (by assumption) ?_;(refine rO (ai hL1 (ai @BatD.dv.eq_1 (ai @OpenD.dv.eq_1 (ai hpos (hgj))))) ?_;try with_reducible exact tt))));all_goals (exact (show aG _ _=true by kernel_rfl))));(rcases Bool.eq_false_or_eq_true (!b.txn) with hL2|hL2;focus (((refine rO (ai hL1 (ai hL2 (ai @BatD.dv.eq_1 (ai @OpenD.dv.eq_1 (ai hpos (hgj)))))) ?_;try with_reducible exact tt);(repeat (refine aV (by assumption) ?_;(refine rO (ai hL1 (ai hL2 (ai @BatD.dv.eq_1 (ai @OpenD.dv.eq_1 (ai hpos (hgj)))))) ?_;try with_reducible exact tt))));all_goals (exact (show aG _ _=true by kernel_rfl))));(rcases Bool.eq_false_or_eq_true (b.pid != o.pid) with hL3|hL3;focus (((refine rO (ai hL1 (ai hL2 (ai hL3 (ai @BatD.dv.eq_1 (ai @OpenD.dv.eq_1 (ai hpos (hgj))))))) ?_;try with_reducible exact tt);(repeat (refine aV (by assumption) ?_;(refine rO (ai hL1 (ai hL2 (ai hL3 (ai @BatD.dv.eq_1 (ai @OpenD.dv.eq_1 (ai hpos (hgj))))))) ?_;try with_reducible exact tt))));all_goals (exact (show aG _ _=true by kernel_rfl))));(rcases Bool.eq_false_or_eq_true (b.epoch != o.epoch) with hL4|hL4;focus (((refine rO (ai hL1 (ai hL2 (ai hL3 (ai hL4 (ai @BatD.dv.eq_1 (ai @OpenD.dv.eq_1 (ai hpos (hgj)))))))) ?_;try with_reducible exact tt);(repeat (refine aV (by assumption) ?_;(refine rO (ai hL1 (ai hL2 (ai hL3 (ai hL4 (ai @BatD.dv.eq_1 (ai @OpenD.dv.eq_1 (ai hpos (hgj)))))))) ?_;try with_reducible exact tt))));all_goals (exact (show aG _ _=true by kernel_rfl))));(rcases Bool.eq_false_or_eq_true (b.seq != tL bj) with hL5|hL5;focus (((refine rO (ai hL1 (ai hL2 (ai hL3 (ai hL4 (ai hL5 (ai @BatD.dv.eq_1 (ai @OpenD.dv.eq_1 (ai hpos (hgj))))))))) ?_;try with_reducible exact tt);(repeat (refine aV (by assumption) ?_;(refine rO (ai hL1 (ai hL2 (ai hL3 (ai hL4 (ai hL5 (ai @BatD.dv.eq_1 (ai @OpenD.dv.eq_1 (ai hpos (hgj))))))))) ?_;try with_reducible exact tt))));all_goals (exact (show aG _ _=true by kernel_rfl))));((refine rO (ai hL1 (ai hL2 (ai hL3 (ai hL4 (ai hL5 (ai @BatD.dv.eq_1 (ai @OpenD.dv.eq_1 (ai hpos (hgj))))))))) ?_;try with_reducible exact tt);(repeat (refine aV (by assumption) ?_;(refine rO (ai hL1 (ai hL2 (ai hL3 (ai hL4 (ai hL5 (ai @BatD.dv.eq_1 (ai @OpenD.dv.eq_1 (ai hpos (hgj))))))))) ?_;try with_reducible exact tt))));all_goals (exact (show aG _ _=true by kernel_rfl)))
   refine Wp.cond (by (refine aM ?_;try with_reducible exact tt);rfl) (fun h=>?_) (fun h=>?_)
   ·have hf:=hbad h
    (refine aH ?_;try with_reducible exact tt)
    (refine rO (hf) ?_;try with_reducible exact tt)
   ·(refine aH ?_;try with_reducible exact tt)
    refine⟨j+1+1,⟨by omega,hstep h⟩,by omega,aD.keep rfl rfl ?_⟩
    (refine rO (@OpenD.dv.eq_1) ?_;try with_reducible exact tt)
 ·have hk2:k=o.bats.length:=by simp only[decide_eq_false_iff_not] at h;omega
  subst hk2
  have hf:=aEh h1 hall
  (refine aH ?_;try with_reducible exact tt)
  (refine rO (hf) ?_;try with_reducible exact tt)
theorem zO (o:OpenD) (hs:SmallO o) (h:0<o.bats.length):aJ Tryz.prog 73 [.agg o.dv] (int (gG o)):=by
 have hbl:=hs.bats
 have hg:o.bats[o.bats.length - 1]? = some (o.bats[o.bats.length - 1]'(by omega)):=List.getElem?_eq_getElem (by omega)
 have hl:gG o=tL (o.bats[o.bats.length - 1]'(by omega)):=by unfold gG;rw[List.getLast?_eq_getElem?,hg]
 generalize o.bats[o.bats.length - 1]'(by omega)=b at hg hl
 have c1:=rB b
 simp only[BatD.dv] at c1
 have ht:((o.bats.length:Int) - 1).toNat=o.bats.length - 1:=by omega
 have hge:((0:Int)≤(o.bats.length:Int) - 1)=True:=by simp;omega
 (refine aJ.of_body Tryz.func73 rfl rfl Tryz.ntmps73 Tryz.results73 (by simp) ?_)
 (refine gO (ai @OpenD.dv.eq_1 (ai ht (ai hge (ai hg (@BatD.dv.eq_1))))) ?_;try with_reducible exact tt)
 (refine rO (hl) ?_;try with_reducible exact tt)
abbrev rcS (o:OpenD) (k:Nat):St:=⟨fP [(1,.c (.own 0 0)),(4,.c (.app 1 18 (((cpL o).take k).map EntD.dvz))),(5,vi .i64 k)],cL [(0,.cells (o.dv.map .d)),(1,.row 137 18 k)],2,38,0⟩
theorem zP (o:OpenD) (hs:SmallO o):aJ Tryz.prog 38 [.agg o.dv] (.tup [.lst 18 ((cpF o).1.map EntD.dv),int (cpF o).2]):=by
 have c1:=aEp o hs
 have hbl:=hs.bats
 simp only[OpenD.dv] at c1
 (refine aJ.of_bodyW Tryz.func38 rfl rfl Tryz.ntmps38 Tryz.results38 (by simp) ?_)
 cases hok:vO o with
 | false =>
  have e1:cpF o=([],2):=by simp only[cpF,hok];rfl
  rw[e1]
  rw[hok] at c1
  (refine gO (@OpenD.dv.eq_1) ?_;try with_reducible exact tt)
  (refine rO (@List.map_nil.{0,0}) ?_;try with_reducible exact tt)
  exact⟨_,rfl,iI.tup (.cons (.nil 18) (.cons (.refl _) .nil))⟩
 | true =>
  have e1:cpF o=(cpL o,0):=by simp only[cpF,hok];rfl
  rw[e1]
  rw[hok] at c1
  have c4:=zO o hs (vP hok).1
  simp only[OpenD.dv] at c4
  (refine gO (@OpenD.dv.eq_1) ?_;try with_reducible exact tt)
  refine Wp.loop (rcS o) (fun k=>k≤o.bats.length) (fun k=>o.bats.length - k) 0 (Nat.zero_le _) ?_ ?_
  ·refine aD.trans (aD.nilApp (t:=4) (τ:=1) 137 18 (by (refine aM ?_;try with_reducible exact tt)) (by (refine aM ?_;try with_reducible exact tt))) (aD.keep rfl rfl ?_)
   (refine rO (@OpenD.dv.eq_1) ?_;try with_reducible exact tt)
  intro k hk
  (refine gO (@OpenD.dv.eq_1) ?_;try with_reducible exact tt)
  refine Wp.cond (by (refine aM ?_;try with_reducible exact tt);rfl) (fun h=>?_) (fun h=>?_)
  ·have hlt:k<o.bats.length:=by simpa using h
   have hge:o.bats[k]? = some o.bats[k]:=List.getElem?_eq_getElem hlt
   have htk:(cpL o).take (k+1)=(cpL o).take k++[oL o k o.bats[k]]:=aEc o.bats (oL o) k hlt
   have htl:((cpL o).take k).length=k:=by rw[List.length_take,cpL,sI];omega
   have hb:(k+1)*192≤140737488355328:=by omega
   generalize o.bats[k]=b at *
   cases hq:decide ((k:Int)=(o.bats.length:Int) - 1) with
   | true =>
    have h1:k+1=o.bats.length:=by have:=of_decide_eq_true hq;omega
    have h2:((k:Int) == (o.bats.length:Int) - 1)=true:=by rw[beq_iff_eq];omega
    have he:oL o k b=⟨3,b,true,gG o,0,aEv,uU⟩:=by simp only[oL,h1,if_true]
    rw[he] at htk
    (refine gO (ai @BatD.dv.eq_1 (ai @OpenD.dv.eq_1 (ai h2 (ai hge (ai htl (hb)))))) ?_;try with_reducible exact tt)
    refine⟨k+1,by omega,by omega,aD.keep rfl rfl ?_⟩
    (refine rO (ai @OpenD.dv.eq_1 (ai htk (ai @List.map_append.{0,0} (ai @EntD.dvz.eq_1 (ai @aEv.eq_1 (@uU.eq_1)))))) ?_;try with_reducible exact tt)
   | false =>
    have h1:¬ k+1=o.bats.length:=by have:=of_decide_eq_false hq;omega
    have h2:((k:Int) == (o.bats.length:Int) - 1)=false:=by rw[beq_eq_false_iff_ne];omega
    have he:oL o k b=⟨3,b,false,0,0,aEv,uU⟩:=by simp only[oL,h1,if_false]
    rw[he] at htk
    (refine gO (ai @BatD.dv.eq_1 (ai @OpenD.dv.eq_1 (ai h2 (ai hge (ai htl (hb)))))) ?_;try with_reducible exact tt)
    refine⟨k+1,by omega,by omega,aD.keep rfl rfl ?_⟩
    (refine rO (ai @OpenD.dv.eq_1 (ai htk (ai @List.map_append.{0,0} (ai @EntD.dvz.eq_1 (ai @aEv.eq_1 (@uU.eq_1)))))) ?_;try with_reducible exact tt)
  ·have hk2:k=o.bats.length:=by simp only[decide_eq_false_iff_not] at h;omega
   have htk:(cpL o).take k=cpL o:=List.take_of_length_le (by rw[cpL,sI];omega)
   (refine aH ?_;try with_reducible exact tt)
   (refine rO (htk) ?_;try with_reducible exact tt)
   exact⟨_,rfl,iI.tup (.cons (.lst (aH5 _ (aKk o))) (.cons (.refl _) .nil))⟩
end Go.Proofs.YtkmfmphpndhkjaaGreatDoor
