/- The abstract machine (InQ, InR, InS). -/
import Derived.Test.YtpklhnpchhaccaaGreatDoorInMc
import Derived.Test.YtpklhnpchhaccaaGreatDoorSqJ
import Derived.Test.YtpklhnpchhaccaaGreatDoorCpMc
import Derived.Test.YtpklhnpchhaccaaGreatDoorMacD
namespace Go.Proofs.YtpklhnpchhaccaaGreatDoor
open Go Go.RowKit
set_option maxHeartbeats 4000000
set_option maxRecDepth 100000
set_option linter.unusedVariables false
set_option linter.unusedSimpArgs false
theorem aOx (a b:List RecD) (hl:a.length≤100000):aW Tryz.prog 170 [.lst 2 (a.map RecD.dv),.lst 2 (b.map RecD.dv)] (dM (decide (a=b))):=by
 (refine aW.of_body Tryz.func170 rfl rfl Tryz.ntmps170 Tryz.results170 (by simp) ?_)
 by_cases hlen:a.length=b.length
 ·have hne:((a.length:Int) != (b.length:Int))=false:=by simp[hlen]
  (refine gO (hne) ?_)
  refine Wp.loop (fun k:Nat=>⟨iH [(0,.c (.d (.lst 2 (a.map RecD.dv)))),(1,.c (.d (.lst 2 (b.map RecD.dv)))),(12,vi .i64 a.length),(13,vi .i64 k)],bI [],0,26,0⟩) (fun k=>k≤a.length∧a.take k=b.take k) (fun k=>a.length - k) 0 ⟨Nat.zero_le _,rfl⟩ ?_ ?_
  ·refine aD.keep rfl rfl ?_
   (refine aT ?_;try with_reducible exact tt)
  rintro k ⟨hk,hall⟩
  (refine bP ?_)
  refine Wp.cond (by (refine aT ?_);rfl) (fun h=>?_) (fun h=>?_)
  ·have hlt:k<a.length:=by simpa using h
   have hlt2:k<b.length:=by omega
   have g1:a[k]? = some a[k]:=List.getElem?_eq_getElem hlt
   have g2:b[k]? = some b[k]:=List.getElem?_eq_getElem hlt2
   have t1:=aV a k hlt
   have t2:=aV b k hlt2
   have hne:a[k]≠b[k]→¬ a=b:=fun hx e=>by subst e;exact hx rfl
   generalize a[k]=x at *
   generalize b[k]=y at *
   (refine gO (ai g1 (ai g2 (ai @RecD.dv.eq_1 (aH7)))) ?_)
   refine Wp.cond (by (refine aT ?_);rfl) (fun h=>?_) (fun h=>?_)
   ·have hf:decide (a=b)=false:=decide_eq_false (hne (by simpa using h))
    (refine bP ?_)
    (refine rO (hf) ?_;try with_reducible exact tt)
   ·simp only[Bool.not_eq_false',decide_eq_true_eq] at h
    (refine bP ?_)
    refine⟨k+1,⟨by omega,by rw[t1,t2,hall,h]⟩,by omega,aD.keep rfl rfl ?_⟩
    (refine aT ?_;try with_reducible exact tt)
  ·have hk:k=a.length:=by simp only[decide_eq_false_iff_not] at h;omega
   have hf:decide (a=b)=true:=by
    rw[List.take_of_length_le (by omega),List.take_of_length_le (by omega)] at hall;simp[hall]
   (refine bP ?_)
   (refine rO (hf) ?_;try with_reducible exact tt)
 ·have hne:((a.length:Int) != (b.length:Int))=true:=by simp;omega
  have hf:decide (a=b)=false:=decide_eq_false (fun e=>hlen (by rw[e]))
  (refine gO (hne) ?_)
  (refine rO (hf) ?_;try with_reducible exact tt)
def tI (a b:BatD):Bool:=a.pid == b.pid && a.epoch == b.epoch && a.seq == b.seq && a.txn == b.txn && decide (a.recs=b.recs)
theorem aOe (a b:BatD):tI a b=decide (a=b):=by
 rw[Bool.eq_iff_iff]
 obtain⟨a1,a2,a3,a4,a5⟩:=a
 obtain⟨b1,b2,b3,b4,b5⟩:=b
 simp only[tI,Bool.and_eq_true,beq_iff_eq,decide_eq_true_eq,BatD.mk.injEq,and_assoc]
theorem aDx (a b:BatD) (hl:a.recs.length≤100000):aW Tryz.prog 118 [.agg a.dv,.agg b.dv] (dM (decide (a=b))):=by
 have c1:=aOx a.recs b.recs hl
 rw[← aOe]
 (refine aW.of_body Tryz.func118 rfl rfl Tryz.ntmps118 Tryz.results118 (by simp) ?_)
 (refine gO (@BatD.dv.eq_1) ?_)
 (first|refine Wp.sto 4 (vb (tI a b)) ?_ ?_|refine Wp.rtoS 4 (vb (tI a b)) ?_ ?_|(refine Wp.seq ?_;first|refine Wp.sto 4 (vb (tI a b)) ?_ ?_|refine Wp.rtoS 4 (vb (tI a b)) ?_ ?_))
 ·unfold tI;((rcases (Bool.eq_false_or_eq_true (a.pid == b.pid)).symm with hL1|hL1;focus (((refine rO (ai hL1 (ai @BatD.dv.eq_1 (@bS))) ?_;try with_reducible exact tt);(repeat (refine dB (by assumption) ?_;(refine rO (ai hL1 (ai @BatD.dv.eq_1 (@bS))) ?_))));all_goals (exact (show bE _ _=true by kernel_rfl))));(rcases (Bool.eq_false_or_eq_true (a.epoch == b.epoch)).symm with hL2|hL2;focus (((refine rO (ai hL1 (ai hL2 (ai @BatD.dv.eq_1 (@bS)))) ?_;try with_reducible exact tt);(repeat (refine dB (by assumption) ?_;(refine rO (ai hL1 (ai hL2 (ai @BatD.dv.eq_1 (@bS)))) ?_))));all_goals (exact (show bE _ _=true by kernel_rfl))));(rcases (Bool.eq_false_or_eq_true (a.seq == b.seq)).symm with hL3|hL3;focus (((refine rO (ai hL1 (ai hL2 (ai hL3 (ai @BatD.dv.eq_1 (@bS))))) ?_;try with_reducible exact tt);(repeat (refine dB (by assumption) ?_;(refine rO (ai hL1 (ai hL2 (ai hL3 (ai @BatD.dv.eq_1 (@bS))))) ?_))));all_goals (exact (show bE _ _=true by kernel_rfl))));(rcases (Bool.eq_false_or_eq_true (a.txn == b.txn)).symm with hL4|hL4;focus (((refine rO (ai hL1 (ai hL2 (ai hL3 (ai hL4 (ai @BatD.dv.eq_1 (@bS)))))) ?_;try with_reducible exact tt);(repeat (refine dB (by assumption) ?_;(refine rO (ai hL1 (ai hL2 (ai hL3 (ai hL4 (ai @BatD.dv.eq_1 (@bS)))))) ?_))));all_goals (exact (show bE _ _=true by kernel_rfl))));(rcases (Bool.eq_false_or_eq_true (decide (a.recs=b.recs))).symm with hL5|hL5;focus (((refine rO (ai hL1 (ai hL2 (ai hL3 (ai hL4 (ai hL5 (ai @BatD.dv.eq_1 (@bS))))))) ?_);(repeat (refine dB (by assumption) ?_;(refine rO (ai hL1 (ai hL2 (ai hL3 (ai hL4 (ai hL5 (ai @BatD.dv.eq_1 (@bS))))))) ?_;try with_reducible exact tt))));all_goals (exact (show bE _ _=true by kernel_rfl))));((refine rO (ai hL1 (ai hL2 (ai hL3 (ai hL4 (ai hL5 (ai @BatD.dv.eq_1 (@bS))))))) ?_);(repeat (refine dB (by assumption) ?_;(refine rO (ai hL1 (ai hL2 (ai hL3 (ai hL4 (ai hL5 (ai @BatD.dv.eq_1 (@bS))))))) ?_;try with_reducible exact tt))));all_goals (exact (show bE _ _=true by kernel_rfl)))
 (refine bP ?_)
 (refine aT ?_;try with_reducible exact tt)
def tL (a b:EntD):Bool:=a.kind == b.kind && decide (a.b=b.b) && a.yes == b.yes && a.next == b.next && a.off == b.off && decide (a.row=b.row) && decide (a.prod=b.prod)
theorem aOt (a b:EntD):tL a b=decide (a=b):=by
 rw[Bool.eq_iff_iff]
 obtain⟨a1,a2,a3,a4,a5,a6,a7⟩:=a
 obtain⟨b1,b2,b3,b4,b5,b6,b7⟩:=b
 simp only[tL,Bool.and_eq_true,beq_iff_eq,decide_eq_true_eq,EntD.mk.injEq,and_assoc]
theorem jY (a b:EntD) (hr:a.b.recs.length≤100000) (hq:a.prod.seen.length≤100000):aW Tryz.prog 65 [.agg a.dv,.agg b.dv] (dM (decide (a=b))):=by
 have c1:=aDx a.b b.b hr
 have c2:=aKx a.prod b.prod hq
 have hbin:=fun x y=>(zR x y a.row b.row).1
 simp only[BatD.dv,ProdD.dv] at c1 c2
 rw[← aOt]
 (refine aW.of_body Tryz.func65 rfl rfl Tryz.ntmps65 Tryz.results65 (by simp) ?_)
 (refine gO (@EntD.dv.eq_1) ?_)
 (first|refine Wp.sto 4 (vb (tL a b)) ?_ ?_|refine Wp.rtoS 4 (vb (tL a b)) ?_ ?_|(refine Wp.seq ?_;first|refine Wp.sto 4 (vb (tL a b)) ?_ ?_|refine Wp.rtoS 4 (vb (tL a b)) ?_ ?_))
 ·unfold tL;((rcases (Bool.eq_false_or_eq_true (a.kind == b.kind)).symm with hL1|hL1;focus (((refine rO (ai hL1 (ai @EntD.dv.eq_1 (ai hbin (@bS)))) ?_;try with_reducible exact tt);(repeat (refine dB (by assumption) ?_;(refine rO (ai hL1 (ai @EntD.dv.eq_1 (ai hbin (@bS)))) ?_))));all_goals (exact (show bE _ _=true by kernel_rfl))));(rcases (Bool.eq_false_or_eq_true (decide (a.b=b.b))).symm with hL2|hL2;focus (((refine rO (ai hL1 (ai hL2 (ai @EntD.dv.eq_1 (ai hbin (@bS))))) ?_);(repeat (refine dB (by assumption) ?_;(refine rO (ai hL1 (ai hL2 (ai @EntD.dv.eq_1 (ai hbin (@bS))))) ?_;try with_reducible exact tt))));all_goals (exact (show bE _ _=true by kernel_rfl))));(rcases (Bool.eq_false_or_eq_true (a.yes == b.yes)).symm with hL3|hL3;focus (((refine rO (ai hL1 (ai hL2 (ai hL3 (ai @EntD.dv.eq_1 (ai hbin (@bS)))))) ?_);(repeat (refine dB (by assumption) ?_;(refine rO (ai hL1 (ai hL2 (ai hL3 (ai @EntD.dv.eq_1 (ai hbin (@bS)))))) ?_;try with_reducible exact tt))));all_goals (exact (show bE _ _=true by kernel_rfl))));(rcases (Bool.eq_false_or_eq_true (a.next == b.next)).symm with hL4|hL4;focus (((refine rO (ai hL1 (ai hL2 (ai hL3 (ai hL4 (ai @EntD.dv.eq_1 (ai hbin (@bS))))))) ?_);(repeat (refine dB (by assumption) ?_;(refine rO (ai hL1 (ai hL2 (ai hL3 (ai hL4 (ai @EntD.dv.eq_1 (ai hbin (@bS))))))) ?_;try with_reducible exact tt))));all_goals (exact (show bE _ _=true by kernel_rfl))));(rcases (Bool.eq_false_or_eq_true (a.off == b.off)).symm with hL5|hL5;focus (((refine rO (ai hL1 (ai hL2 (ai hL3 (ai hL4 (ai hL5 (ai @EntD.dv.eq_1 (ai hbin (@bS)))))))) ?_);(repeat (refine dB (by assumption) ?_;(refine rO (ai hL1 (ai hL2 (ai hL3 (ai hL4 (ai hL5 (ai @EntD.dv.eq_1 (ai hbin (@bS)))))))) ?_;try with_reducible exact tt))));all_goals (exact (show bE _ _=true by kernel_rfl))));(rcases (Bool.eq_false_or_eq_true (decide (a.row=b.row))).symm with hL6|hL6;focus (((refine rO (ai hL1 (ai hL2 (ai hL3 (ai hL4 (ai hL5 (ai hL6 (ai @EntD.dv.eq_1 (ai hbin (@bS))))))))) ?_);(repeat (refine dB (by assumption) ?_;(refine rO (ai hL1 (ai hL2 (ai hL3 (ai hL4 (ai hL5 (ai hL6 (ai @EntD.dv.eq_1 (ai hbin (@bS))))))))) ?_;try with_reducible exact tt))));all_goals (exact (show bE _ _=true by kernel_rfl))));(rcases (Bool.eq_false_or_eq_true (decide (a.prod=b.prod))).symm with hL7|hL7;focus (((refine rO (ai hL1 (ai hL2 (ai hL3 (ai hL4 (ai hL5 (ai hL6 (ai hL7 (ai @EntD.dv.eq_1 (ai hbin (@bS)))))))))) ?_);(repeat (refine dB (by assumption) ?_;(refine rO (ai hL1 (ai hL2 (ai hL3 (ai hL4 (ai hL5 (ai hL6 (ai hL7 (ai @EntD.dv.eq_1 (ai hbin (@bS)))))))))) ?_;try with_reducible exact tt))));all_goals (exact (show bE _ _=true by kernel_rfl))));((refine rO (ai hL1 (ai hL2 (ai hL3 (ai hL4 (ai hL5 (ai hL6 (ai hL7 (ai @EntD.dv.eq_1 (ai hbin (@bS)))))))))) ?_);(repeat (refine dB (by assumption) ?_;(refine rO (ai hL1 (ai hL2 (ai hL3 (ai hL4 (ai hL5 (ai hL6 (ai hL7 (ai @EntD.dv.eq_1 (ai hbin (@bS)))))))))) ?_;try with_reducible exact tt))));all_goals (exact (show bE _ _=true by kernel_rfl)))
 (refine bP ?_)
 (refine aT ?_;try with_reducible exact tt)
def nF (r:RowD):Bool:=r.off == 0 && dN r.pid 0 && decide (0≤r.seq) && decide (r.seq<1048576) && decide ((r.key.length:Int)≤16) && decide ((r.value.length:Int)≤16)
theorem aSv (r:RowD):aW Tryz.prog 206 [.agg r.dv] (dM (nF r)):=by
 have c1:=mD r.pid 0
 (refine aW.of_body Tryz.func206 rfl rfl Tryz.ntmps206 Tryz.results206 (by simp) ?_)
 (refine gO (@RowD.dv.eq_1) ?_)
 (first|refine Wp.sto 2 (vb (nF r)) ?_ ?_|refine Wp.rtoS 2 (vb (nF r)) ?_ ?_|(refine Wp.seq ?_;first|refine Wp.sto 2 (vb (nF r)) ?_ ?_|refine Wp.rtoS 2 (vb (nF r)) ?_ ?_))
 ·unfold nF;((rcases (Bool.eq_false_or_eq_true (r.off == 0)).symm with hL1|hL1;focus (((refine rO (ai hL1 (@RowD.dv.eq_1)) ?_;try with_reducible exact tt);(repeat (refine dB (by assumption) ?_;(refine rO (ai hL1 (@RowD.dv.eq_1)) ?_))));all_goals (exact (show bE _ _=true by kernel_rfl))));(rcases (Bool.eq_false_or_eq_true (dN r.pid 0)).symm with hL2|hL2;focus (((refine rO (ai hL1 (ai hL2 (@RowD.dv.eq_1))) ?_);(repeat (refine dB (by assumption) ?_;(refine rO (ai hL1 (ai hL2 (@RowD.dv.eq_1))) ?_;try with_reducible exact tt))));all_goals (exact (show bE _ _=true by kernel_rfl))));(rcases (Bool.eq_false_or_eq_true (decide (0≤r.seq))).symm with hL3|hL3;focus (((refine rO (ai hL1 (ai hL2 (ai hL3 (@RowD.dv.eq_1)))) ?_);(repeat (refine dB (by assumption) ?_;(refine rO (ai hL1 (ai hL2 (ai hL3 (@RowD.dv.eq_1)))) ?_;try with_reducible exact tt))));all_goals (exact (show bE _ _=true by kernel_rfl))));(rcases (Bool.eq_false_or_eq_true (decide (r.seq<1048576))).symm with hL4|hL4;focus (((refine rO (ai hL1 (ai hL2 (ai hL3 (ai hL4 (@RowD.dv.eq_1))))) ?_);(repeat (refine dB (by assumption) ?_;(refine rO (ai hL1 (ai hL2 (ai hL3 (ai hL4 (@RowD.dv.eq_1))))) ?_;try with_reducible exact tt))));all_goals (exact (show bE _ _=true by kernel_rfl))));(rcases (Bool.eq_false_or_eq_true (decide ((r.key.length:Int)≤16))).symm with hL5|hL5;focus (((refine rO (ai hL1 (ai hL2 (ai hL3 (ai hL4 (ai hL5 (@RowD.dv.eq_1)))))) ?_);(repeat (refine dB (by assumption) ?_;(refine rO (ai hL1 (ai hL2 (ai hL3 (ai hL4 (ai hL5 (@RowD.dv.eq_1)))))) ?_;try with_reducible exact tt))));all_goals (exact (show bE _ _=true by kernel_rfl))));(rcases (Bool.eq_false_or_eq_true (decide ((r.value.length:Int)≤16))).symm with hL6|hL6;focus (((refine rO (ai hL1 (ai hL2 (ai hL3 (ai hL4 (ai hL5 (ai hL6 (@RowD.dv.eq_1))))))) ?_);(repeat (refine dB (by assumption) ?_;(refine rO (ai hL1 (ai hL2 (ai hL3 (ai hL4 (ai hL5 (ai hL6 (@RowD.dv.eq_1))))))) ?_;try with_reducible exact tt))));all_goals (exact (show bE _ _=true by kernel_rfl))));((refine rO (ai hL1 (ai hL2 (ai hL3 (ai hL4 (ai hL5 (ai hL6 (@RowD.dv.eq_1))))))) ?_);(repeat (refine dB (by assumption) ?_;(refine rO (ai hL1 (ai hL2 (ai hL3 (ai hL4 (ai hL5 (ai hL6 (@RowD.dv.eq_1))))))) ?_;try with_reducible exact tt))));all_goals (exact (show bE _ _=true by kernel_rfl)))
 (refine bP ?_)
 (refine aT ?_;try with_reducible exact tt)
def jD:BatD:=⟨0,0,0,false,[]⟩
def zE (k:Int):EntD:=⟨k,jD,false,0,0,iR,dF⟩
theorem aCk (k:Int):AllLe (zE k).dvn (zE k).dv:=aX3 _ rfl rfl
def EntD.dvb (e:EntD):List D:=[i8 e.kind,int e.b.pid,int e.b.epoch,int e.b.seq,dM e.b.txn,oC,dM e.yes,int e.next,int e.off,int e.row.off,int e.row.pid,int e.row.seq,str e.row.key,str e.row.value,int e.prod.pid,int e.prod.epoch,int e.prod.next,.lst 3 (e.prod.seen.map SeenD.dv)]
theorem aR7 (e:EntD) (h' : e.b.recs=[]):AllLe e.dvb e.dv:=by
 unfold EntD.dvb EntD.dv
 rw[h']
 exact .cons (.refl _) (.cons (.refl _) (.cons (.refl _) (.cons (.refl _) (.cons (.refl _) (.cons (.nil 2) (AllLe.refl _))))))
theorem aRq (b:BatD) (yes:Bool) (next off:Int) (row:RowD) (prod:ProdD) (hr:b.recs.length≤100000) (hq:prod.seen.length≤100000) :
  aW Tryz.prog 158 [.agg (EntD.mk 0 b yes next off row prod).dv] (dM (dQ b && decide ((⟨0,jD,yes,next,off,row,prod⟩:EntD)=zE 0))):=by
 have c1:=tX b hr
 have c2:=(jY ⟨0,jD,yes,next,off,row,prod⟩ (zE 0) (by simp[jD]) hq).args (.cons (.agg (aR7 ⟨0,jD,yes,next,off,row,prod⟩ rfl)) (.cons (.agg (aCk 0)) .nil))
 simp only[BatD.dv,EntD.dvb,EntD.dvn,zE,jD,iR,dF] at c1 c2 ⊢
 (refine aW.of_body Tryz.func158 rfl rfl Tryz.ntmps158 Tryz.results158 (by simp) ?_)
 cases hb:dQ b<;>rw[hb] at c1<;>((refine gO (@EntD.dv.eq_1) ?_);(refine aT ?_;try with_reducible exact tt))
theorem aRr (b:BatD) (yes:Bool) (next off:Int) (row:RowD) (prod:ProdD) (hr:b.recs.length≤100000) (hq:prod.seen.length≤100000) :
  aW Tryz.prog 158 [.agg (EntD.mk 1 b yes next off row prod).dv] (dM (dN b.pid b.epoch && decide ((⟨1,⟨0,0,b.seq,b.txn,b.recs⟩,false,next,off,row,prod⟩:EntD)=zE 1))):=by
 have c1:=mD b.pid b.epoch
 have c2:=(jY ⟨1,⟨0,0,b.seq,b.txn,b.recs⟩,false,next,off,row,prod⟩ (zE 1) hr hq).args (.cons (.refl _) (.cons (.agg (aCk 1)) .nil))
 simp only[EntD.dv,EntD.dvn,zE,jD,iR,dF] at c2 ⊢
 (refine aW.of_body Tryz.func158 rfl rfl Tryz.ntmps158 Tryz.results158 (by simp) ?_)
 cases hb:dN b.pid b.epoch<;>rw[hb] at c1<;>((refine gO (@EntD.dv.eq_1) ?_);(refine aT ?_;try with_reducible exact tt))
theorem aRs (b:BatD) (yes:Bool) (next off:Int) (row:RowD) (prod:ProdD) (hr:b.recs.length≤100000) (hq:prod.seen.length≤100000) :
  aW Tryz.prog 158 [.agg (EntD.mk 2 b yes next off row prod).dv] (dM (cC off 0 1048576 && decide ((⟨2,b,yes,next,0,row,prod⟩:EntD)=zE 2))):=by
 have c2:=(jY ⟨2,b,yes,next,0,row,prod⟩ (zE 2) hr hq).args (.cons (.refl _) (.cons (.agg (aCk 2)) .nil))
 simp only[EntD.dv,EntD.dvn,zE,jD,iR,dF] at c2 ⊢
 (refine aW.of_body Tryz.func158 rfl rfl Tryz.ntmps158 Tryz.results158 (by simp) ?_)
 cases h1:decide (0≤off)<;>cases h2:decide (off≤1048576)<;>((refine gO (ai @EntD.dv.eq_1 (ai h1 (h2))) ?_);(refine rO (ai @cC.eq_1 (ai h1 (h2))) ?_;try with_reducible exact tt))
theorem aRt (b:BatD) (yes:Bool) (next off:Int) (row:RowD) (prod:ProdD) (hr:b.recs.length≤100000) (hq:prod.seen.length≤100000) :
  aW Tryz.prog 158 [.agg (EntD.mk 3 b yes next off row prod).dv] (dM (b.txn && ((!yes || cC next 0 1048576) && (dQ b && decide ((⟨3,jD,false,if yes then 0 else next,off,row,prod⟩:EntD)=zE 3))))):=by
 have c1:=tX b hr
 have c3:=qB next
 have c2:=(jY ⟨3,jD,false,if yes then 0 else next,off,row,prod⟩ (zE 3) (by simp[jD]) hq).args (.cons (.agg (aR7 ⟨3,jD,false,if yes then 0 else next,off,row,prod⟩ rfl)) (.cons (.agg (aCk 3)) .nil))
 simp only[BatD.dv,EntD.dvb,EntD.dvn,zE,jD,iR,dF] at c1 c2 ⊢
 (refine aW.of_body Tryz.func158 rfl rfl Tryz.ntmps158 Tryz.results158 (by simp) ?_)
 cases ht:b.txn
 ·(refine gO (ai @EntD.dv.eq_1 (ht)) ?_)
  (refine rO (ht) ?_;try with_reducible exact tt)
 rw[ht] at c1
 cases yes
 ·simp only[Bool.false_eq_true,if_false] at c2 ⊢
  cases hb:dQ b<;>rw[hb] at c1<;>((refine gO (ai @EntD.dv.eq_1 (ht)) ?_);(refine rO (ht) ?_;try with_reducible exact tt))
 ·simp only[if_true] at c2 ⊢
  cases hw:cC next 0 1048576<;>rw[hw] at c3
  ·(refine gO (ai @EntD.dv.eq_1 (ht)) ?_)
   (refine rO (ht) ?_;try with_reducible exact tt)
  ·cases hb:dQ b<;>rw[hb] at c1<;>((refine gO (ai @EntD.dv.eq_1 (ht)) ?_);(refine rO (ht) ?_;try with_reducible exact tt))
theorem aRu (b:BatD) (yes:Bool) (next off:Int) (row:RowD) (prod:ProdD) (hr:b.recs.length≤100000) (hq:prod.seen.length≤100000) :
  aW Tryz.prog 158 [.agg (EntD.mk 4 b yes next off row prod).dv] (dM (!yes && (cC next 0 1048576 && (dN b.pid b.epoch && decide ((⟨4,⟨0,0,b.seq,b.txn,b.recs⟩,false,0,off,row,prod⟩:EntD)=zE 4))))):=by
 have c1:=mD b.pid b.epoch
 have c3:=qB next
 have c2:=(jY ⟨4,⟨0,0,b.seq,b.txn,b.recs⟩,false,0,off,row,prod⟩ (zE 4) hr hq).args (.cons (.refl _) (.cons (.agg (aCk 4)) .nil))
 simp only[EntD.dv,EntD.dvn,zE,jD,iR,dF] at c2 ⊢
 (refine aW.of_body Tryz.func158 rfl rfl Tryz.ntmps158 Tryz.results158 (by simp) ?_)
 cases hy:yes
 rotate_left
 ·(refine gO (ai @EntD.dv.eq_1 (hy)) ?_)
  (refine rO (hy) ?_;try with_reducible exact tt)
 cases hw:cC next 0 1048576<;>rw[hw] at c3
 ·(refine gO (ai @EntD.dv.eq_1 (hy)) ?_)
  (refine rO (hy) ?_;try with_reducible exact tt)
 ·cases hb:dN b.pid b.epoch<;>rw[hb] at c1<;>((refine gO (ai @EntD.dv.eq_1 (hy)) ?_);(refine rO (hy) ?_;try with_reducible exact tt))
theorem aRv (b:BatD) (yes:Bool) (next off:Int) (row:RowD) (prod:ProdD) (hr:b.recs.length≤100000) (hq:prod.seen.length≤100000) :
  aW Tryz.prog 158 [.agg (EntD.mk 5 b yes next off row prod).dv] (dM (nF row && decide ((⟨5,b,yes,next,off,iR,prod⟩:EntD)=zE 5))):=by
 have c1:=aSv row
 have c2:=(jY ⟨5,b,yes,next,off,iR,prod⟩ (zE 5) hr hq).args (.cons (.refl _) (.cons (.agg (aCk 5)) .nil))
 simp only[RowD.dv,EntD.dv,EntD.dvn,zE,jD,iR,dF] at c1 c2 ⊢
 (refine aW.of_body Tryz.func158 rfl rfl Tryz.ntmps158 Tryz.results158 (by simp) ?_)
 cases hb:nF row<;>rw[hb] at c1<;>((refine gO (@EntD.dv.eq_1) ?_);(refine aT ?_;try with_reducible exact tt))
theorem aRw (b:BatD) (yes:Bool) (next off:Int) (row:RowD) (prod:ProdD) (hr:b.recs.length≤100000) (hq:prod.seen.length≤100000) :
  aW Tryz.prog 158 [.agg (EntD.mk 6 b yes next off row prod).dv] (dM (bC prod && decide ((⟨6,b,yes,next,off,row,dF⟩:EntD)=zE 6))):=by
 have c1:=aE7 prod hq
 have c2:=(jY ⟨6,b,yes,next,off,row,dF⟩ (zE 6) hr (by simp[dF])).args (.cons (.agg (aX4 ⟨6,b,yes,next,off,row,dF⟩ rfl)) (.cons (.agg (aCk 6)) .nil))
 simp only[ProdD.dv,EntD.dvz,EntD.dvn,zE,jD,iR,dF] at c1 c2 ⊢
 (refine aW.of_body Tryz.func158 rfl rfl Tryz.ntmps158 Tryz.results158 (by simp) ?_)
 cases hb:bC prod<;>rw[hb] at c1<;>((refine gO (@EntD.dv.eq_1) ?_);(refine aT ?_;try with_reducible exact tt))
set_option maxHeartbeats 8000000
def nB (e:EntD):Bool :=
 if e.kind=0 then dQ e.b && decide ((⟨0,jD,e.yes,e.next,e.off,e.row,e.prod⟩:EntD)=zE 0)
 else if e.kind=1 then dN e.b.pid e.b.epoch && decide ((⟨1,⟨0,0,e.b.seq,e.b.txn,e.b.recs⟩,false,e.next,e.off,e.row,e.prod⟩:EntD)=zE 1)
 else if e.kind=2 then cC e.off 0 1048576 && decide ((⟨2,e.b,e.yes,e.next,0,e.row,e.prod⟩:EntD)=zE 2)
 else if e.kind=3 then e.b.txn && ((!e.yes || cC e.next 0 1048576) && (dQ e.b && decide ((⟨3,jD,false,if e.yes then 0 else e.next,e.off,e.row,e.prod⟩:EntD)=zE 3)))
 else if e.kind=4 then !e.yes && (cC e.next 0 1048576 && (dN e.b.pid e.b.epoch && decide ((⟨4,⟨0,0,e.b.seq,e.b.txn,e.b.recs⟩,false,0,e.off,e.row,e.prod⟩:EntD)=zE 4)))
 else if e.kind=5 then nF e.row && decide ((⟨5,e.b,e.yes,e.next,e.off,iR,e.prod⟩:EntD)=zE 5)
 else bC e.prod && decide ((⟨6,e.b,e.yes,e.next,e.off,e.row,dF⟩:EntD)=zE 6)
theorem aAe (e:EntD) (hk:0≤e.kind∧e.kind<7) (hr:e.b.recs.length≤100000) (hq:e.prod.seen.length≤100000):aW Tryz.prog 158 [.agg e.dv] (dM (nB e)):=by
 obtain⟨k,b,yes,next,off,row,prod⟩:=e
 have:k=0∨k=1∨k=2∨k=3∨k=4∨k=5∨k=6:=by simp only at hk;omega
 rcases this with rfl|rfl|rfl|rfl|rfl|rfl|rfl
 ·exact aRq b yes next off row prod hr hq
 ·exact aRr b yes next off row prod hr hq
 ·exact aRs b yes next off row prod hr hq
 ·exact aRt b yes next off row prod hr hq
 ·exact aRu b yes next off row prod hr hq
 ·exact aRv b yes next off row prod hr hq
 ·exact aRw b yes next off row prod hr hq
theorem aWi:Tryz.prog.underlying 339=some (.array 7 338):=by kernel_rfl
theorem aVk:∃ j,Tryz.prog.info? 338=some j∧j.size=1:=by
 obtain⟨j,h1,h2⟩:=Option.map_eq_some_iff.1 (show (Tryz.prog.info? 338).map (·.size)=some 1 by kernel_rfl)
 exact⟨j,h1,h2⟩
abbrev aRx:Value:=.agg #[.nilFunc,.nilFunc,.nilFunc,.nilFunc,.nilFunc,.nilFunc,.nilFunc]
theorem aGe:aRx.cells.toList=[.nilFunc,.nilFunc,.nilFunc,.nilFunc,.nilFunc,.nilFunc,.nilFunc]:=rfl
theorem bB3:aX Tryz.prog (zeroValue 339)=some aRx:=by kernel_rfl
abbrev fnC (f:FuncId):CV:=.d (.fn (.func f) [])
abbrev nxB:List CV:=[fnC 283,fnC 284,fnC 285,fnC 286,fnC 286,fnC 287,fnC 288]
def nxF (k:Int):FuncId:=if k=0 then 283 else if k=1 then 284 else if k=2 then 285 else if k=3 then 286 else if k=4 then 286 else if k=5 then 287 else 288
theorem aYn:∃ j,TI Tryz.prog 338=some j∧j.agg=false:=by
 obtain⟨j,h1,h2⟩:=Option.map_eq_some_iff.1 (show (TI Tryz.prog 338).map (·.agg)=some false by kernel_rfl)
 exact⟨j,h1,h2⟩
theorem aXd (k:Int) (h0:0≤k) (h5:k<7):nxB[k.toNat*1]? = some (fnC (nxF k)):=by
 have:k=0∨k=1∨k=2∨k=3∨k=4∨k=5∨k=6:=by omega
 rcases this with e|e|e|e|e|e|e<;>subst e<;>rfl
theorem gR (s t:FoldS) (e:EntD) (r:SV) (hp:OpOk s.p.opens) (hpt:mQ t.p.opens) (hrid:nM r.ids qL=true) (hk:0≤e.kind∧e.kind<7) (hr:e.b.recs.length≤100000) (hq:e.prod.seen.length≤100000) (hm:nB e=true) (hf:s.p.fin≤1048576)
  (hgo:FunG Tryz.prog (nxF e.kind) [.c (.own 0 0),jG e] qL (bI (oB s)) r qL (bI (oB t))) :
  FunG Tryz.prog 252 [.c (.own 0 0),jG e] qL (bI (oB s)) r qL (bI (oB t)):=by
 have c1:=aAe e hk hr hq
 rw[hm] at c1
 have c2:=rB s.p 0
 rw[show IntKind.i64.wrap (1048576 - 0)=1048576 from bA (by decide),show decide (s.p.fin≤1048576)=true from decide_eq_true hf] at c2
 have d1:decide (e.kind<0)=false:=decide_eq_false (by omega)
 have d2:decide (7≤e.kind)=false:=decide_eq_false (by omega)
 have hwr:IntKind.i64.wrap e.kind=e.kind:=bA (by omega)
 have hk0:=hk.1
 have hbV:jG e = .agg [.d (i8 e.kind),.d (int e.b.pid),.d (int e.b.epoch),.d (int e.b.seq),.d (dM e.b.txn),.d (.lst 2 (e.b.recs.map RecD.dv)),.d (dM e.yes),.d (int e.next),.d (int e.off),.d (int e.row.off),.d (int e.row.pid),.d (int e.row.seq),.d (str e.row.key),.d (str e.row.value),.d (int e.prod.pid),.d (int e.prod.epoch),.d (int e.prod.next),.d (.lst 3 (e.prod.seen.map SeenD.dv))]:=rfl
 simp only[EntD.dv] at c1
 obtain⟨fi,fi1,fi2⟩:=aVk
 refine FunG.of_bodyH rfl rfl Tryz.func252 rfl rfl Tryz.ntmps252 Tryz.results252 (Nat.le_of_ble_eq_true rfl) (nD rfl hrid hp.pid hpt) ?_
 (refine gO (ai @aC (@EntD.dv.eq_1)) ?_)
 (first|refine Wp.sregG ?_|refine Wp.regG ?_|(refine Wp.seq ?_;first|refine Wp.sregG ?_|refine Wp.regG ?_))
 refine aH.arrNew (s:=1) (cs:=nxB) rfl aWi fi1 fi2 bB3 (by rfl) ⟨by kernel_rfl,by kernel_rfl,?_⟩ ?_
 ·simp (maxSteps:=2000000) (disch:=omega) only[gE,TY,bW,eH,fP,SV.ofD,eA,eO,fI,fJ,bR,fK,eX,eQ,fL,eL,fG,fF,fH,CV.exact,CV.lstOf,CV.lenOf,CV.one,D.one,Value.oneCell',CV.toD0,fX,eF,fZ,fC,rD0,gC,fD,fY,reduceCtorEq,reduceIte,Nat.reduceBEq,Nat.reduceEqDiff,Nat.reduceAdd,Nat.reduceMul,Nat.reduceSub,Nat.reduceLT,Nat.reduceLeDiff,Nat.reduceBNe,Int.reduceLE,Int.reduceLT,Int.reduceBEq,Int.reduceBNe,Int.reduceEq,Int.reduceNeg,Int.reduceAdd,Int.reduceSub,Int.reduceToNat,forall_const,List.map_cons,List.map_nil,aGe,tB,SV.cells,CV.one,eD,List.length_cons,List.length_nil,List.drop_succ_cons,List.drop_zero,List.take_succ_cons,List.take_zero]
 (refine aH.done (fun K hK=>?_);(refine rO (@aC) ?_);refine hK _ ?_;clear hK K)
 (first|refine Wp.sreg (fun K hK=>?_)|refine Wp.reg (fun K hK=>?_)|(refine Wp.seq ?_;first|refine Wp.sreg (fun K hK=>?_)|refine Wp.reg (fun K hK=>?_)))
 (refine rO (ai @aC (ai @EntD.dv.eq_1 (ai d1 (ai d2 (ai @aNf (hwr)))))) ?_)
 refine dB c1 ?_
 (refine rO (ai @aC (ai @EntD.dv.eq_1 (ai d1 (ai d2 (ai @aNf (hwr)))))) ?_)
 refine fQ c2 rfl (iK hp (by (refine rO (ai @aC (ai @aJ.eq_1 (@aJ.eq_2))) ?_;try with_reducible exact tt))) ?_
 (refine rO (@aC) ?_)
 refine hK _ ?_
 clear hK K
 (refine gO (ai @aC (@EntD.dv.eq_1)) ?_)
 (first|refine Wp.sregM aI ?_|refine Wp.regM aI ?_|(refine Wp.seq ?_;first|refine Wp.sregM aI ?_|refine Wp.regM aI ?_))
 (refine cR.at 2 (fun K hK=>?_);(refine rO (@aC) ?_);refine hK _ _ ?_;clear hK K)
 refine cR.arrAt rfl 1001 0 e.kind.toNat aWi fi1 fi2 (by omega) ⟨by kernel_rfl,by kernel_rfl,?_,?_⟩ ?_
 ·(refine rO (@aC) ?_;try with_reducible exact tt)
 ·(refine rO (ai @aC (hk0)) ?_;try with_reducible exact tt)
 have hld:=aXd e.kind hk.1 hk.2
 obtain⟨fj,fj1,fj2⟩:=aYn
 (refine cR.at 3 (fun K hK=>?_);(refine rO (ai @aC (ai hld (ai fj1 (ai fj2 (@EntD.dv.eq_1))))) ?_);refine hK _ _ ?_;clear hK K)
 (refine cR.call (hgo) [] 1004 rfl rfl ?_ ?_;(focus ((refine wG (ai @cT (ai @aC (ai @aM (hbV)))) ?_;try with_reducible exact tt);done)))
 (refine cR.done (fun K hK=>?_);(refine rOt (ai @aC (ai @cH.eq_1 (ai @cH.eq_2 (ai @aM (@bU))))) ?_);refine hK _ _ ?_;clear hK K;refine⟨by kernel_rfl,?_⟩)
 (refine bP ?_)
 refine aO.ret ?_
 (refine rO (ai @aC (ai @aJ.eq_1 (@aJ.eq_2))) ?_;try with_reducible exact tt)
def aL (e:EntD):Bool:=decide (0≤e.kind) && decide (e.kind<7) && nB e
end Go.Proofs.YtpklhnpchhaccaaGreatDoor
