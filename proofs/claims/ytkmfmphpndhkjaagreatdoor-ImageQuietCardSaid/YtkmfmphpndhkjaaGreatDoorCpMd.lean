/- The abstract machine (CpR6, CpR). -/
import Derived.Test.YtkmfmphpndhkjaaGreatDoorCpA
import Derived.Test.YtkmfmphpndhkjaaGreatDoorCpMb
namespace Go.Proofs.YtkmfmphpndhkjaaGreatDoor
open Go Go.RowKit
set_option maxHeartbeats 8000000
set_option maxRecDepth 100000
set_option linter.unusedVariables false
set_option linter.unusedSimpArgs false
def aGg (b:BatD):Bool:=decide (b.pid<1) || decide (8<b.pid) || decide (b.epoch<0) || decide (100<b.epoch) || decide (b.seq<0) || decide (1048576<b.seq) || decide ((b.recs.length:Int)<1) || decide (4<(b.recs.length:Int)) || decide (1048576<IntKind.i64.wrap (b.seq+(b.recs.length:Int)))
theorem aRx (b:BatD) (hl:b.recs.length≤100000):mW b=(!aGg b && !b.recs.any iS):=by
 have hw:b.seq≤1048576→0≤b.seq→IntKind.i64.wrap (b.seq+(b.recs.length:Int))=b.seq+(b.recs.length:Int):=fun h h'=>aG ⟨by omega,by omega⟩
 have key:(!(decide (b.pid<1) || decide (8<b.pid)) && !(decide (b.epoch<0) || decide (100<b.epoch)) && !(decide ((b.recs.length:Int)<1) || decide (4<(b.recs.length:Int))) && !(decide (b.seq<0) || decide (1048576 - (b.recs.length:Int)<b.seq))) = !aGg b:=by
  rw[Bool.eq_iff_iff]
  simp only[aGg,Bool.and_eq_true,Bool.not_eq_true',Bool.or_eq_false_iff,decide_eq_false_iff_not]
  constructor
  ·rintro⟨⟨⟨⟨h1,h2⟩,h3,h4⟩,h5,h6⟩,h7,h8⟩
   rw[hw (by omega) (by omega)]
   refine⟨⟨⟨⟨⟨⟨⟨⟨h1,h2⟩,h3⟩,h4⟩,h7⟩,by omega⟩,h5⟩,h6⟩,by omega⟩
  ·rintro⟨⟨⟨⟨⟨⟨⟨⟨h1,h2⟩,h3⟩,h4⟩,h7⟩,h9⟩,h5⟩,h6⟩,h8⟩
   rw[hw (by omega) (by omega)] at h8
   refine⟨⟨⟨⟨h1,h2⟩,h3,h4⟩,h5,h6⟩,h7,by omega⟩
 unfold mW
 rw[key]
theorem aKw (b:BatD) (hl:b.recs.length≤100000):aJ Tryz.prog 114 [.agg b.dv] (dC (mW b)):=by
 have heq:=aRx b hl
 (refine aJ.of_body Tryz.func114 rfl rfl Tryz.ntmps114 Tryz.results114 (by simp) ?_)
 (refine gO (@BatD.dv.eq_1) ?_)
 (first|refine Wp.sto 52 (vb (aGg b)) ?_ ?_|refine Wp.rtoS 52 (vb (aGg b)) ?_ ?_|(refine Wp.seq ?_;first|refine Wp.sto 52 (vb (aGg b)) ?_ ?_|refine Wp.rtoS 52 (vb (aGg b)) ?_ ?_))
 ·unfold aGg;((rcases Bool.eq_false_or_eq_true (decide (b.pid<1)) with hL1|hL1;focus (((refine rO (ai hL1 (@BatD.dv.eq_1)) ?_;try with_reducible exact tt);(repeat (refine aQ (by assumption) ?_;(refine rO (ai hL1 (@BatD.dv.eq_1)) ?_))));all_goals (exact (show aH _ _=true by kernel_rfl))));(rcases Bool.eq_false_or_eq_true (decide (8<b.pid)) with hL2|hL2;focus (((refine rO (ai hL1 (ai hL2 (@BatD.dv.eq_1))) ?_;try with_reducible exact tt);(repeat (refine aQ (by assumption) ?_;(refine rO (ai hL1 (ai hL2 (@BatD.dv.eq_1))) ?_))));all_goals (exact (show aH _ _=true by kernel_rfl))));(rcases Bool.eq_false_or_eq_true (decide (b.epoch<0)) with hL3|hL3;focus (((refine rO (ai hL1 (ai hL2 (ai hL3 (@BatD.dv.eq_1)))) ?_;try with_reducible exact tt);(repeat (refine aQ (by assumption) ?_;(refine rO (ai hL1 (ai hL2 (ai hL3 (@BatD.dv.eq_1)))) ?_))));all_goals (exact (show aH _ _=true by kernel_rfl))));(rcases Bool.eq_false_or_eq_true (decide (100<b.epoch)) with hL4|hL4;focus (((refine rO (ai hL1 (ai hL2 (ai hL3 (ai hL4 (@BatD.dv.eq_1))))) ?_;try with_reducible exact tt);(repeat (refine aQ (by assumption) ?_;(refine rO (ai hL1 (ai hL2 (ai hL3 (ai hL4 (@BatD.dv.eq_1))))) ?_))));all_goals (exact (show aH _ _=true by kernel_rfl))));(rcases Bool.eq_false_or_eq_true (decide (b.seq<0)) with hL5|hL5;focus (((refine rO (ai hL1 (ai hL2 (ai hL3 (ai hL4 (ai hL5 (@BatD.dv.eq_1)))))) ?_;try with_reducible exact tt);(repeat (refine aQ (by assumption) ?_;(refine rO (ai hL1 (ai hL2 (ai hL3 (ai hL4 (ai hL5 (@BatD.dv.eq_1)))))) ?_))));all_goals (exact (show aH _ _=true by kernel_rfl))));(rcases Bool.eq_false_or_eq_true (decide (1048576<b.seq)) with hL6|hL6;focus (((refine rO (ai hL1 (ai hL2 (ai hL3 (ai hL4 (ai hL5 (ai hL6 (@BatD.dv.eq_1))))))) ?_;try with_reducible exact tt);(repeat (refine aQ (by assumption) ?_;(refine rO (ai hL1 (ai hL2 (ai hL3 (ai hL4 (ai hL5 (ai hL6 (@BatD.dv.eq_1))))))) ?_))));all_goals (exact (show aH _ _=true by kernel_rfl))));(rcases Bool.eq_false_or_eq_true (decide ((b.recs.length:Int)<1)) with hL7|hL7;focus (((refine rO (ai hL1 (ai hL2 (ai hL3 (ai hL4 (ai hL5 (ai hL6 (ai hL7 (@BatD.dv.eq_1)))))))) ?_;try with_reducible exact tt);(repeat (refine aQ (by assumption) ?_;(refine rO (ai hL1 (ai hL2 (ai hL3 (ai hL4 (ai hL5 (ai hL6 (ai hL7 (@BatD.dv.eq_1)))))))) ?_))));all_goals (exact (show aH _ _=true by kernel_rfl))));(rcases Bool.eq_false_or_eq_true (decide (4<(b.recs.length:Int))) with hL8|hL8;focus (((refine rO (ai hL1 (ai hL2 (ai hL3 (ai hL4 (ai hL5 (ai hL6 (ai hL7 (ai hL8 (@BatD.dv.eq_1))))))))) ?_;try with_reducible exact tt);(repeat (refine aQ (by assumption) ?_;(refine rO (ai hL1 (ai hL2 (ai hL3 (ai hL4 (ai hL5 (ai hL6 (ai hL7 (ai hL8 (@BatD.dv.eq_1))))))))) ?_))));all_goals (exact (show aH _ _=true by kernel_rfl))));(rcases Bool.eq_false_or_eq_true (decide (1048576<IntKind.i64.wrap (b.seq+(b.recs.length:Int)))) with hL9|hL9;focus (((refine rO (ai hL1 (ai hL2 (ai hL3 (ai hL4 (ai hL5 (ai hL6 (ai hL7 (ai hL8 (ai hL9 (@BatD.dv.eq_1)))))))))) ?_;try with_reducible exact tt);(repeat (refine aQ (by assumption) ?_;(refine rO (ai hL1 (ai hL2 (ai hL3 (ai hL4 (ai hL5 (ai hL6 (ai hL7 (ai hL8 (ai hL9 (@BatD.dv.eq_1)))))))))) ?_))));all_goals (exact (show aH _ _=true by kernel_rfl))));((refine rO (ai hL1 (ai hL2 (ai hL3 (ai hL4 (ai hL5 (ai hL6 (ai hL7 (ai hL8 (ai hL9 (@BatD.dv.eq_1)))))))))) ?_;try with_reducible exact tt);(repeat (refine aQ (by assumption) ?_;(refine rO (ai hL1 (ai hL2 (ai hL3 (ai hL4 (ai hL5 (ai hL6 (ai hL7 (ai hL8 (ai hL9 (@BatD.dv.eq_1)))))))))) ?_))));all_goals (exact (show aH _ _=true by kernel_rfl)))
 refine Wp.cond (by (refine aK ?_);rfl) (fun h=>?_) (fun h=>?_)
 ·have hf:mW b=false:=by rw[heq,h];rfl
  (refine aI ?_)
  (refine rO (hf) ?_;try with_reducible exact tt)
 have h1:=h
 (refine gO (@BatD.dv.eq_1) ?_)
 refine Wp.loop (fun k:Nat=>⟨dI [(1,.c (.own 0 0)),(3,vi .i64 k)],bJ [(0,.cells (b.dv.map .d))],1,78,0⟩) (fun k=>k≤b.recs.length∧(b.recs.take k).any iS=false) (fun k=>b.recs.length - k) 0 ⟨Nat.zero_le _,rfl⟩ ?_ ?_
 ·refine aD.keep rfl rfl ?_
  (refine rO (@BatD.dv.eq_1) ?_;try with_reducible exact tt)
 rintro k ⟨hk,hall⟩
 (refine gO (@BatD.dv.eq_1) ?_)
 refine Wp.cond (by (refine aK ?_);rfl) (fun h=>?_) (fun h=>?_)
 ·have hlt:k<b.recs.length:=by simpa using h
  have hs:=dH iS b.recs k hlt
  have hm:b.recs[k] ∈ b.recs:=List.getElem_mem hlt
  have hge:b.recs[k]? = some b.recs[k]:=List.getElem?_eq_getElem hlt
  generalize b.recs[k]=r at *
  (refine aI ?_)
  (first|refine Wp.sto 77 (vb (iS r)) ?_ ?_|refine Wp.rtoS 77 (vb (iS r)) ?_ ?_|(refine Wp.seq ?_;first|refine Wp.sto 77 (vb (iS r)) ?_ ?_|refine Wp.rtoS 77 (vb (iS r)) ?_ ?_))
  ·unfold iS;((rcases Bool.eq_false_or_eq_true (decide (16<(r.key.length:Int))) with hL1|hL1)<;>(rcases Bool.eq_false_or_eq_true (decide (16<(r.value.length:Int))) with hL2|hL2)<;>(((refine rO (ai hL1 (ai hL2 (ai hge (ai @RecD.dv.eq_1 (@BatD.dv.eq_1))))) ?_;try with_reducible exact tt);(repeat (refine aQ (by assumption) ?_;(refine rO (ai hL1 (ai hL2 (ai hge (ai @RecD.dv.eq_1 (@BatD.dv.eq_1))))) ?_))));all_goals (exact (show aH _ _=true by kernel_rfl))))
  refine Wp.cond (by (refine aK ?_);rfl) (fun h=>?_) (fun h=>?_)
  ·have hf:mW b=false:=by
    have:b.recs.any iS=true:=List.any_eq_true.2 ⟨r,hm,h⟩
    rw[heq,this];simp
   (refine aI ?_)
   (refine rO (hf) ?_;try with_reducible exact tt)
  ·(refine aI ?_)
   refine⟨k+1,⟨by omega,by rw[hs,hall,h];rfl⟩,by omega,aD.keep rfl rfl ?_⟩
   (refine rO (@BatD.dv.eq_1) ?_;try with_reducible exact tt)
 ·have hf:mW b=true:=by
   rw[List.take_of_length_le (by simp only[decide_eq_false_iff_not] at h;omega)] at hall
   rw[heq,h1,hall];rfl
  (refine aI ?_)
  (refine rO (hf) ?_;try with_reducible exact tt)
theorem tY (b:BatD):aJ Tryz.prog 40 [.agg b.dv] (int (wS b)):=by
 (refine aJ.of_body Tryz.func40 rfl rfl Tryz.ntmps40 Tryz.results40 (by simp) ?_)
 (refine gO (@BatD.dv.eq_1) ?_)
 (refine rO (@wS.eq_1) ?_;try with_reducible exact tt)
abbrev aUm (o:OpenD) (k:Nat):St:=⟨dI [(1,.c (.own 0 0)),(3,vi .i64 k)],bJ [(0,.cells (o.dv.map .d))],1,65,0⟩
theorem aIk (o:OpenD) (hs:SmallO o):aJ Tryz.prog 72 [.agg o.dv] (dC (wG o)):=by
 have hbl:=hs.bats
 (refine aJ.of_body Tryz.func72 rfl rfl Tryz.ntmps72 Tryz.results72 (by simp) ?_)
 (refine gO (@OpenD.dv.eq_1) ?_;try with_reducible exact tt)
 (first|refine Wp.sto 14 (vb (iI o)) ?_ ?_|refine Wp.rtoS 14 (vb (iI o)) ?_ ?_|(refine Wp.seq ?_;first|refine Wp.sto 14 (vb (iI o)) ?_ ?_|refine Wp.rtoS 14 (vb (iI o)) ?_ ?_))
 ·unfold iI;((rcases Bool.eq_false_or_eq_true (decide ((o.bats.length:Int)<1)) with hL1|hL1)<;>(rcases Bool.eq_false_or_eq_true (decide (8<(o.bats.length:Int))) with hL2|hL2)<;>(((refine rO (ai hL1 (ai hL2 (@OpenD.dv.eq_1))) ?_;try with_reducible exact tt);(repeat (refine aQ (by assumption) ?_;(refine rO (ai hL1 (ai hL2 (@OpenD.dv.eq_1))) ?_;try with_reducible exact tt))));all_goals (exact (show aH _ _=true by kernel_rfl))))
 refine Wp.cond (by (refine aK ?_;try with_reducible exact tt);rfl) (fun h=>?_) (fun h=>?_)
 ·have hf:wG o=false:=by simp only[wG,h,Bool.not_true,Bool.false_and]
  (refine aI ?_;try with_reducible exact tt)
  (refine rO (hf) ?_;try with_reducible exact tt)
 have h1:iI o=false:=h
 (refine gO (@OpenD.dv.eq_1) ?_;try with_reducible exact tt)
 refine Wp.loop (aUm o) (fun k=>k≤o.bats.length∧∀ i,i<k→xK o i=true) (fun k=>o.bats.length - k) 0 ⟨Nat.zero_le _,fun i hi=>by omega⟩ ?_ ?_
 ·refine aD.keep rfl rfl ?_
  (refine rO (@OpenD.dv.eq_1) ?_;try with_reducible exact tt)
 rintro k ⟨hk,hall⟩
 (refine gO (@OpenD.dv.eq_1) ?_;try with_reducible exact tt)
 refine Wp.cond (by (refine aK ?_;try with_reducible exact tt);rfl) (fun h=>?_) (fun h=>?_)
 ·have hlt:k<o.bats.length:=by simpa using h
  have hge:o.bats[k]? = some o.bats[k]:=List.getElem?_eq_getElem hlt
  have hrl:=hs.recs o.bats[k] (List.getElem_mem hlt)
  generalize o.bats[k]=b at *
  have c1:=aKw b hrl
  have hbad:iX o k b=true→wG o=false:=aLt hge
  have hstep:iX o k b=false→∀ i,i<k+1→xK o i=true:=fun hb i hi=>by
   rcases Nat.lt_or_ge i k with h2|h2
   ·exact hall i h2
   ·obtain rfl:i=k:=by omega
    simp only[xK,hge,hb];rfl
  simp only[BatD.dv] at c1
  (refine gO (ai hge (ai @BatD.dv.eq_1 (@OpenD.dv.eq_1))) ?_;try with_reducible exact tt)
  rcases Nat.eq_zero_or_pos k with hk0|hk0
  ·subst hk0
   have hsq:(b.seq != rL o.bats 0)=false:=by simp[rL,hge]
   have hb:iX o 0 b=(!mW b || !b.txn || b.pid != o.pid || b.epoch != o.epoch):=by simp only[iX,hsq,Bool.or_false]
   (first|refine Wp.stoD 64 (vb (iX o 0 b)) aA ?_ ?_|refine Wp.rtoDS 64 (vb (iX o 0 b)) aA ?_ ?_|(refine Wp.seq ?_;first|refine Wp.stoD 64 (vb (iX o 0 b)) aA ?_ ?_|refine Wp.rtoDS 64 (vb (iX o 0 b)) aA ?_ ?_))
   ·rw[hb];((rcases Bool.eq_false_or_eq_true (!mW b) with hL1|hL1)<;>(rcases Bool.eq_false_or_eq_true (!b.txn) with hL2|hL2)<;>(rcases Bool.eq_false_or_eq_true (b.pid != o.pid) with hL3|hL3)<;>(rcases Bool.eq_false_or_eq_true (b.epoch != o.epoch) with hL4|hL4)<;>(((refine rO (ai hL1 (ai hL2 (ai hL3 (ai hL4 (ai @BatD.dv.eq_1 (@OpenD.dv.eq_1)))))) ?_;try with_reducible exact tt);(repeat (refine aQ (by assumption) ?_;(refine rO (ai hL1 (ai hL2 (ai hL3 (ai hL4 (ai @BatD.dv.eq_1 (@OpenD.dv.eq_1)))))) ?_;try with_reducible exact tt))));all_goals (exact (show aH _ _=true by kernel_rfl))))
   refine Wp.cond (by (refine aK ?_;try with_reducible exact tt);rfl) (fun h=>?_) (fun h=>?_)
   ·have hf:=hbad h
    (refine aI ?_;try with_reducible exact tt)
    (refine rO (hf) ?_;try with_reducible exact tt)
   ·(refine aI ?_;try with_reducible exact tt)
    refine⟨0+1,⟨by omega,hstep h⟩,by omega,aD.keep rfl rfl ?_⟩
    (refine rO (@OpenD.dv.eq_1) ?_;try with_reducible exact tt)
  ·obtain⟨j,rfl⟩:∃ j,k=j+1:=⟨k - 1,by omega⟩
   have hgj:o.bats[j]? = some (o.bats[j]'(by omega)):=List.getElem?_eq_getElem (by omega)
   have hsq:rL o.bats (j+1)=wS (o.bats[j]'(by omega)):=by simp only[rL,hgj]
   generalize o.bats[j]'(by omega)=bj at hgj hsq
   have c2:=tY bj
   simp only[BatD.dv] at c2
   have hpos:decide ((0:Int)<((j:Int)+1))=true:=decide_eq_true (by omega)
   (first|refine Wp.stoD 64 (vb (iX o (j+1) b)) aA ?_ ?_|refine Wp.rtoDS 64 (vb (iX o (j+1) b)) aA ?_ ?_|(refine Wp.seq ?_;first|refine Wp.stoD 64 (vb (iX o (j+1) b)) aA ?_ ?_|refine Wp.rtoDS 64 (vb (iX o (j+1) b)) aA ?_ ?_))
   ·rw[iX,hsq];((rcases Bool.eq_false_or_eq_true (!mW b) with hL1|hL1;focus (((refine rO (ai hL1 (ai @BatD.dv.eq_1 (ai @OpenD.dv.eq_1 (ai hpos (hgj))))) ?_;try with_reducible exact tt);(repeat (refine aQ (by assumption) ?_;(refine rO (ai hL1 (ai @BatD.dv.eq_1 (ai @OpenD.dv.eq_1 (ai hpos (hgj))))) ?_;try with_reducible exact tt))));all_goals (exact (show aH _ _=true by kernel_rfl))));(rcases Bool.eq_false_or_eq_true (!b.txn) with hL2|hL2;focus (((refine rO (ai hL1 (ai hL2 (ai @BatD.dv.eq_1 (ai @OpenD.dv.eq_1 (ai hpos (hgj)))))) ?_;try with_reducible exact tt);(repeat (refine aQ (by assumption) ?_;(refine rO (ai hL1 (ai hL2 (ai @BatD.dv.eq_1 (ai @OpenD.dv.eq_1 (ai hpos (hgj)))))) ?_;try with_reducible exact tt))));all_goals (exact (show aH _ _=true by kernel_rfl))));(rcases Bool.eq_false_or_eq_true (b.pid != o.pid) with hL3|hL3;focus (((refine rO (ai hL1 (ai hL2 (ai hL3 (ai @BatD.dv.eq_1 (ai @OpenD.dv.eq_1 (ai hpos (hgj))))))) ?_;try with_reducible exact tt);(repeat (refine aQ (by assumption) ?_;(refine rO (ai hL1 (ai hL2 (ai hL3 (ai @BatD.dv.eq_1 (ai @OpenD.dv.eq_1 (ai hpos (hgj))))))) ?_;try with_reducible exact tt))));all_goals (exact (show aH _ _=true by kernel_rfl))));(rcases Bool.eq_false_or_eq_true (b.epoch != o.epoch) with hL4|hL4;focus (((refine rO (ai hL1 (ai hL2 (ai hL3 (ai hL4 (ai @BatD.dv.eq_1 (ai @OpenD.dv.eq_1 (ai hpos (hgj)))))))) ?_;try with_reducible exact tt);(repeat (refine aQ (by assumption) ?_;(refine rO (ai hL1 (ai hL2 (ai hL3 (ai hL4 (ai @BatD.dv.eq_1 (ai @OpenD.dv.eq_1 (ai hpos (hgj)))))))) ?_;try with_reducible exact tt))));all_goals (exact (show aH _ _=true by kernel_rfl))));(rcases Bool.eq_false_or_eq_true (b.seq != wS bj) with hL5|hL5;focus (((refine rO (ai hL1 (ai hL2 (ai hL3 (ai hL4 (ai hL5 (ai @BatD.dv.eq_1 (ai @OpenD.dv.eq_1 (ai hpos (hgj))))))))) ?_;try with_reducible exact tt);(repeat (refine aQ (by assumption) ?_;(refine rO (ai hL1 (ai hL2 (ai hL3 (ai hL4 (ai hL5 (ai @BatD.dv.eq_1 (ai @OpenD.dv.eq_1 (ai hpos (hgj))))))))) ?_;try with_reducible exact tt))));all_goals (exact (show aH _ _=true by kernel_rfl))));((refine rO (ai hL1 (ai hL2 (ai hL3 (ai hL4 (ai hL5 (ai @BatD.dv.eq_1 (ai @OpenD.dv.eq_1 (ai hpos (hgj))))))))) ?_;try with_reducible exact tt);(repeat (refine aQ (by assumption) ?_;(refine rO (ai hL1 (ai hL2 (ai hL3 (ai hL4 (ai hL5 (ai @BatD.dv.eq_1 (ai @OpenD.dv.eq_1 (ai hpos (hgj))))))))) ?_;try with_reducible exact tt))));all_goals (exact (show aH _ _=true by kernel_rfl)))
   refine Wp.cond (by (refine aK ?_;try with_reducible exact tt);rfl) (fun h=>?_) (fun h=>?_)
   ·have hf:=hbad h
    (refine aI ?_;try with_reducible exact tt)
    (refine rO (hf) ?_;try with_reducible exact tt)
   ·(refine aI ?_;try with_reducible exact tt)
    refine⟨j+1+1,⟨by omega,hstep h⟩,by omega,aD.keep rfl rfl ?_⟩
    (refine rO (@OpenD.dv.eq_1) ?_;try with_reducible exact tt)
 ·have hk2:k=o.bats.length:=by simp only[decide_eq_false_iff_not] at h;omega
  subst hk2
  have hf:=aIb h1 hall
  (refine aI ?_;try with_reducible exact tt)
  (refine rO (hf) ?_;try with_reducible exact tt)
theorem aCl (o:OpenD) (hs:SmallO o) (h:0<o.bats.length):aJ Tryz.prog 73 [.agg o.dv] (int (hZ o)):=by
 have hbl:=hs.bats
 have hg:o.bats[o.bats.length - 1]? = some (o.bats[o.bats.length - 1]'(by omega)):=List.getElem?_eq_getElem (by omega)
 have hl:hZ o=wS (o.bats[o.bats.length - 1]'(by omega)):=by unfold hZ;rw[List.getLast?_eq_getElem?,hg]
 generalize o.bats[o.bats.length - 1]'(by omega)=b at hg hl
 have c1:=tY b
 simp only[BatD.dv] at c1
 have ht:((o.bats.length:Int) - 1).toNat=o.bats.length - 1:=by omega
 have hge:((0:Int)≤(o.bats.length:Int) - 1)=True:=by simp;omega
 (refine aJ.of_body Tryz.func73 rfl rfl Tryz.ntmps73 Tryz.results73 (by simp) ?_)
 (refine gO (ai @OpenD.dv.eq_1 (ai ht (ai hge (ai hg (@BatD.dv.eq_1))))) ?_;try with_reducible exact tt)
 (refine rO (hl) ?_;try with_reducible exact tt)
abbrev rcS (o:OpenD) (k:Nat):St:=⟨dI [(1,.c (.own 0 0)),(4,.c (.app 1 18 (((cpL o).take k).map EntD.dvz))),(5,vi .i64 k)],bJ [(0,.cells (o.dv.map .d)),(1,.row 137 18 k)],2,38,0⟩
theorem aCm (o:OpenD) (hs:SmallO o):aJ Tryz.prog 38 [.agg o.dv] (.tup [.lst 18 ((cpF o).1.map EntD.dv),int (cpF o).2]):=by
 have c1:=aIk o hs
 have hbl:=hs.bats
 simp only[OpenD.dv] at c1
 (refine aJ.of_bodyW Tryz.func38 rfl rfl Tryz.ntmps38 Tryz.results38 (by simp) ?_)
 cases hok:wG o with
 | false =>
  have e1:cpF o=([],2):=by simp only[cpF,hok];rfl
  rw[e1]
  rw[hok] at c1
  (refine gO (@OpenD.dv.eq_1) ?_;try with_reducible exact tt)
  (refine rO (@List.map_nil.{0,0}) ?_;try with_reducible exact tt)
  exact⟨_,rfl,jA.tup (.cons (.nil 18) (.cons (.refl _) .nil))⟩
 | true =>
  have e1:cpF o=(cpL o,0):=by simp only[cpF,hok];rfl
  rw[e1]
  rw[hok] at c1
  have c4:=aCl o hs (zC hok).1
  simp only[OpenD.dv] at c4
  (refine gO (@OpenD.dv.eq_1) ?_;try with_reducible exact tt)
  refine Wp.loop (rcS o) (fun k=>k≤o.bats.length) (fun k=>o.bats.length - k) 0 (Nat.zero_le _) ?_ ?_
  ·refine aD.trans (aD.nilApp (t:=4) (τ:=1) 137 18 (by (refine aK ?_;try with_reducible exact tt)) (by (refine aK ?_;try with_reducible exact tt))) (aD.keep rfl rfl ?_)
   (refine rO (@OpenD.dv.eq_1) ?_;try with_reducible exact tt)
  intro k hk
  (refine gO (@OpenD.dv.eq_1) ?_;try with_reducible exact tt)
  refine Wp.cond (by (refine aK ?_;try with_reducible exact tt);rfl) (fun h=>?_) (fun h=>?_)
  ·have hlt:k<o.bats.length:=by simpa using h
   have hge:o.bats[k]? = some o.bats[k]:=List.getElem?_eq_getElem hlt
   have htk:(cpL o).take (k+1)=(cpL o).take k++[qF o k o.bats[k]]:=aI3 o.bats (qF o) k hlt
   have htl:((cpL o).take k).length=k:=by rw[List.length_take,cpL,vJ];omega
   have hb:(k+1)*192≤140737488355328:=by omega
   generalize o.bats[k]=b at *
   cases hq:decide ((k:Int)=(o.bats.length:Int) - 1) with
   | true =>
    have h1:k+1=o.bats.length:=by have:=of_decide_eq_true hq;omega
    have h2:((k:Int) == (o.bats.length:Int) - 1)=true:=by rw[beq_iff_eq];omega
    have he:qF o k b=⟨3,b,true,hZ o,0,aIr,yH⟩:=by simp only[qF,h1,if_true]
    rw[he] at htk
    (refine gO (ai @BatD.dv.eq_1 (ai @OpenD.dv.eq_1 (ai h2 (ai hge (ai htl (hb)))))) ?_;try with_reducible exact tt)
    refine⟨k+1,by omega,by omega,aD.keep rfl rfl ?_⟩
    (refine rO (ai @OpenD.dv.eq_1 (ai htk (ai @List.map_append.{0,0} (ai @EntD.dvz.eq_1 (ai @aIr.eq_1 (@yH.eq_1)))))) ?_;try with_reducible exact tt)
   | false =>
    have h1:¬ k+1=o.bats.length:=by have:=of_decide_eq_false hq;omega
    have h2:((k:Int) == (o.bats.length:Int) - 1)=false:=by rw[beq_eq_false_iff_ne];omega
    have he:qF o k b=⟨3,b,false,0,0,aIr,yH⟩:=by simp only[qF,h1,if_false]
    rw[he] at htk
    (refine gO (ai @BatD.dv.eq_1 (ai @OpenD.dv.eq_1 (ai h2 (ai hge (ai htl (hb)))))) ?_;try with_reducible exact tt)
    refine⟨k+1,by omega,by omega,aD.keep rfl rfl ?_⟩
    (refine rO (ai @OpenD.dv.eq_1 (ai htk (ai @List.map_append.{0,0} (ai @EntD.dvz.eq_1 (ai @aIr.eq_1 (@yH.eq_1)))))) ?_;try with_reducible exact tt)
  ·have hk2:k=o.bats.length:=by simp only[decide_eq_false_iff_not] at h;omega
   have htk:(cpL o).take k=cpL o:=List.take_of_length_le (by rw[cpL,vJ];omega)
   (refine aI ?_;try with_reducible exact tt)
   (refine rO (htk) ?_;try with_reducible exact tt)
   exact⟨_,rfl,jA.tup (.cons (.lst (aLf _ (aP7 o))) (.cons (.refl _) .nil))⟩
end Go.Proofs.YtkmfmphpndhkjaaGreatDoor
