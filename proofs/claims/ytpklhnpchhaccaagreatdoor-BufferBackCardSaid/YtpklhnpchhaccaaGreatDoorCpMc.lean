/- The abstract machine (CpD, CpR6). -/
import Derived.Test.YtpklhnpchhaccaaGreatDoorCpM0
import Derived.Test.YtpklhnpchhaccaaGreatDoorSqM
namespace Go.Proofs.YtpklhnpchhaccaaGreatDoor
open Go Go.RowKit
set_option maxHeartbeats 8000000
set_option maxRecDepth 100000
set_option linter.unusedVariables false
set_option linter.unusedSimpArgs false
theorem aV5 (f g:RecD):∃ fs,Tryz.prog.underlying 112=some (.struct fs)∧aAd Tryz.prog 9999 #[.string ⟨List.toArray f.key⟩,.string ⟨List.toArray f.value⟩] #[.string ⟨List.toArray g.key⟩,.string ⟨List.toArray g.value⟩] fs.toList=some (decide (f=g)):=by
 refine⟨_,Tryz.underlying112,?_⟩
 have is:aV Tryz.prog (isAgg 9)=some false:=by kernel_rfl
 have ss:=fun x y=>aJ6 (d:=9998) Tryz.underlying9 x y
 simp only[Nat.reduceAdd] at ss
 obtain⟨a1,a2⟩:=f
 obtain⟨b1,b2⟩:=g
 have e:decide (RecD.mk a1 a2=RecD.mk b1 b2)=(a1 == b1 && (a2 == b2)):=by rw[Bool.eq_iff_iff];simp only[RecD.mk.injEq,Bool.and_eq_true,beq_iff_eq,decide_eq_true_eq]
 rw[e]
 cases h1:(a1 == b1)<;>cases h2:(a2 == b2)<;>simp[aAd,is,ss,aLj,h1,h2]
theorem aI6 (x y:Operand) (f g:RecD):fA Tryz.prog .eql 112 x y (.agg [.d (str f.key),.d (str f.value)]) (.agg [.d (str g.key),.d (str g.value)])=some (Res.pure (vb (decide (f=g))))∧fA Tryz.prog .neq 112 x y (.agg [.d (str f.key),.d (str f.value)]) (.agg [.d (str g.key),.d (str g.value)])=some (Res.pure (vb (!decide (f=g)))):=by
 obtain⟨fs,hu,he⟩:=aV5 f g
 exact aGe hu (by kernel_rfl) (by kernel_rfl) he
def aAw (a b:BatD):Bool:=a.pid != b.pid || a.epoch != b.epoch || a.seq != b.seq || !(a.txn == b.txn) || (a.recs.length:Int) != (b.recs.length:Int)
theorem zZ (a b:BatD) (hl:a.recs.length<2 ^ 40):bF Tryz.prog 30 [.agg a.dv,.agg b.dv] (gD (decide (a=b))):=by
 (refine bF.of_body Tryz.func30 rfl rfl Tryz.ntmps30 Tryz.results30 (by simp) ?_)
 (refine gO (@BatD.dv.eq_1) ?_)
 (first|refine Wp.sto 40 (vb (aAw a b)) ?_ ?_|refine Wp.rtoS 40 (vb (aAw a b)) ?_ ?_|(refine Wp.seq ?_;first|refine Wp.sto 40 (vb (aAw a b)) ?_ ?_|refine Wp.rtoS 40 (vb (aAw a b)) ?_ ?_))
 ·unfold aAw;((rcases Bool.eq_false_or_eq_true (a.pid != b.pid) with hL1|hL1;focus (((refine rO (ai hL1 (@BatD.dv.eq_1)) ?_;try with_reducible exact tt);(repeat (refine eA (by assumption) ?_;(refine rO (ai hL1 (@BatD.dv.eq_1)) ?_))));all_goals (exact (show bI _ _=true by kernel_rfl))));(rcases Bool.eq_false_or_eq_true (a.epoch != b.epoch) with hL2|hL2;focus (((refine rO (ai hL1 (ai hL2 (@BatD.dv.eq_1))) ?_;try with_reducible exact tt);(repeat (refine eA (by assumption) ?_;(refine rO (ai hL1 (ai hL2 (@BatD.dv.eq_1))) ?_))));all_goals (exact (show bI _ _=true by kernel_rfl))));(rcases Bool.eq_false_or_eq_true (a.seq != b.seq) with hL3|hL3;focus (((refine rO (ai hL1 (ai hL2 (ai hL3 (@BatD.dv.eq_1)))) ?_;try with_reducible exact tt);(repeat (refine eA (by assumption) ?_;(refine rO (ai hL1 (ai hL2 (ai hL3 (@BatD.dv.eq_1)))) ?_))));all_goals (exact (show bI _ _=true by kernel_rfl))));(rcases Bool.eq_false_or_eq_true (!(a.txn == b.txn)) with hL4|hL4;focus (((refine rO (ai hL1 (ai hL2 (ai hL3 (ai hL4 (@BatD.dv.eq_1))))) ?_;try with_reducible exact tt);(repeat (refine eA (by assumption) ?_;(refine rO (ai hL1 (ai hL2 (ai hL3 (ai hL4 (@BatD.dv.eq_1))))) ?_))));all_goals (exact (show bI _ _=true by kernel_rfl))));(rcases Bool.eq_false_or_eq_true ((a.recs.length:Int) != (b.recs.length:Int)) with hL5|hL5;focus (((refine rO (ai hL1 (ai hL2 (ai hL3 (ai hL4 (ai hL5 (@BatD.dv.eq_1)))))) ?_;try with_reducible exact tt);(repeat (refine eA (by assumption) ?_;(refine rO (ai hL1 (ai hL2 (ai hL3 (ai hL4 (ai hL5 (@BatD.dv.eq_1)))))) ?_))));all_goals (exact (show bI _ _=true by kernel_rfl))));((refine rO (ai hL1 (ai hL2 (ai hL3 (ai hL4 (ai hL5 (@BatD.dv.eq_1)))))) ?_;try with_reducible exact tt);(repeat (refine eA (by assumption) ?_;(refine rO (ai hL1 (ai hL2 (ai hL3 (ai hL4 (ai hL5 (@BatD.dv.eq_1)))))) ?_))));all_goals (exact (show bI _ _=true by kernel_rfl)))
 refine Wp.cond (by (refine aY ?_);rfl) (fun h=>?_) (fun h=>?_)
 ·have hf:decide (a=b)=false:=by
   refine decide_eq_false (fun e=>?_)
   subst e
   simp[aAw] at h
  (refine cA ?_)
  (refine rO (hf) ?_;try with_reducible exact tt)
 simp only[aAw,Bool.or_eq_false_iff,bne_eq_false_iff_eq,Bool.not_eq_false',beq_iff_eq] at h
 obtain⟨⟨⟨⟨h1,h2⟩,h3⟩,h4⟩,h5⟩:=h
 have hlen:a.recs.length=b.recs.length:=by omega
 (refine gO (@BatD.dv.eq_1) ?_)
 refine Wp.loop (fun k:Nat=>⟨iC [(2,.c (.own 0 0)),(3,.c (.own 1 0)),(5,vi .i64 k)],bK [(0,.cells (a.dv.map .d)),(1,.cells (b.dv.map .d))],2,59,0⟩) (fun k=>k≤a.recs.length∧a.recs.take k=b.recs.take k) (fun k=>a.recs.length - k) 0 ⟨Nat.zero_le _,rfl⟩ ?_ ?_
 ·refine aD.keep rfl rfl ?_
  (refine rO (@BatD.dv.eq_1) ?_;try with_reducible exact tt)
 rintro k ⟨hk,hall⟩
 (refine gO (@BatD.dv.eq_1) ?_)
 refine Wp.cond (by (refine aY ?_);rfl) (fun h=>?_) (fun h=>?_)
 ·have hlt:k<a.recs.length:=by simpa using h
  have hlt2:k<b.recs.length:=by omega
  have g1:a.recs[k]? = some a.recs[k]:=List.getElem?_eq_getElem hlt
  have g2:b.recs[k]? = some b.recs[k]:=List.getElem?_eq_getElem hlt2
  have t1:=aU a.recs k hlt
  have t2:=aU b.recs k hlt2
  have hne:a.recs[k]≠b.recs[k]→¬ a=b:=fun hx e=>by subst e;exact hx rfl
  generalize a.recs[k]=x at *
  generalize b.recs[k]=y at *
  (refine gO (ai g1 (ai g2 (ai @RecD.dv.eq_1 (@aI6)))) ?_)
  refine Wp.cond (by (refine aY ?_);rfl) (fun h=>?_) (fun h=>?_)
  ·have hf:decide (a=b)=false:=decide_eq_false (hne (by simpa using h))
   (refine cA ?_)
   (refine rO (hf) ?_;try with_reducible exact tt)
  ·simp only[Bool.not_eq_false',decide_eq_true_eq] at h
   (refine cA ?_)
   refine⟨k+1,⟨by omega,by rw[t1,t2,hall,h]⟩,by omega,aD.keep rfl rfl ?_⟩
   (refine rO (@BatD.dv.eq_1) ?_;try with_reducible exact tt)
 ·have hk:k=a.recs.length:=by simp only[decide_eq_false_iff_not] at h;omega
  have hf:decide (a=b)=true:=by
   rw[List.take_of_length_le (by omega),List.take_of_length_le (by omega)] at hall
   obtain⟨a1,a2,a3,a4,a5⟩:=a
   obtain⟨b1,b2,b3,b4,b5⟩:=b
   simp only at h1 h2 h3 h4 hall
   subst h1 h2 h3 h4 hall
   simp
  (refine cA ?_)
  (refine rO (hf) ?_;try with_reducible exact tt)
def aBc (a b:EntD):Bool:=a.kind == b.kind && decide (a.b=b.b) && a.yes == b.yes && a.next == b.next && a.off == b.off && decide (a.row=b.row) && decide (a.prod=b.prod)
theorem aS6 (a b:EntD):aBc a b=decide (a=b):=by
 rw[Bool.eq_iff_iff]
 obtain⟨a1,a2,a3,a4,a5,a6,a7⟩:=a
 obtain⟨b1,b2,b3,b4,b5,b6,b7⟩:=b
 simp only[aBc,Bool.and_eq_true,beq_iff_eq,decide_eq_true_eq,EntD.mk.injEq,and_assoc]
theorem aTw (a b:EntD) (hs:SmallE a):bF Tryz.prog 69 [.agg a.dv,.agg b.dv] (gD (decide (a=b))):=by
 have hr:=hs.recs
 have hq:=hs.seen
 have c1:=zZ a.b b.b (by omega)
 have c2:=xF a.prod b.prod (by omega)
 have hbin:=fun x y=>(vD x y a.row b.row).1
 simp only[BatD.dv,ProdD.dv] at c1 c2
 rw[← aS6]
 (refine bF.of_body Tryz.func69 rfl rfl Tryz.ntmps69 Tryz.results69 (by simp) ?_)
 (refine gO (@EntD.dv.eq_1) ?_)
 (first|refine Wp.sto 4 (vb (aBc a b)) ?_ ?_|refine Wp.rtoS 4 (vb (aBc a b)) ?_ ?_|(refine Wp.seq ?_;first|refine Wp.sto 4 (vb (aBc a b)) ?_ ?_|refine Wp.rtoS 4 (vb (aBc a b)) ?_ ?_))
 ·unfold aBc;((rcases (Bool.eq_false_or_eq_true (a.kind == b.kind)).symm with hL1|hL1;focus (((refine rO (ai hL1 (ai @EntD.dv.eq_1 (hbin))) ?_;try with_reducible exact tt);(repeat (refine eA (by assumption) ?_;(refine rO (ai hL1 (ai @EntD.dv.eq_1 (hbin))) ?_))));all_goals (exact (show bI _ _=true by kernel_rfl))));(rcases (Bool.eq_false_or_eq_true (decide (a.b=b.b))).symm with hL2|hL2;focus (((refine rO (ai hL1 (ai hL2 (ai @EntD.dv.eq_1 (hbin)))) ?_);(repeat (refine eA (by assumption) ?_;(refine rO (ai hL1 (ai hL2 (ai @EntD.dv.eq_1 (hbin)))) ?_;try with_reducible exact tt))));all_goals (exact (show bI _ _=true by kernel_rfl))));(rcases (Bool.eq_false_or_eq_true (a.yes == b.yes)).symm with hL3|hL3;focus (((refine rO (ai hL1 (ai hL2 (ai hL3 (ai @EntD.dv.eq_1 (hbin))))) ?_);(repeat (refine eA (by assumption) ?_;(refine rO (ai hL1 (ai hL2 (ai hL3 (ai @EntD.dv.eq_1 (hbin))))) ?_;try with_reducible exact tt))));all_goals (exact (show bI _ _=true by kernel_rfl))));(rcases (Bool.eq_false_or_eq_true (a.next == b.next)).symm with hL4|hL4;focus (((refine rO (ai hL1 (ai hL2 (ai hL3 (ai hL4 (ai @EntD.dv.eq_1 (hbin)))))) ?_);(repeat (refine eA (by assumption) ?_;(refine rO (ai hL1 (ai hL2 (ai hL3 (ai hL4 (ai @EntD.dv.eq_1 (hbin)))))) ?_;try with_reducible exact tt))));all_goals (exact (show bI _ _=true by kernel_rfl))));(rcases (Bool.eq_false_or_eq_true (a.off == b.off)).symm with hL5|hL5;focus (((refine rO (ai hL1 (ai hL2 (ai hL3 (ai hL4 (ai hL5 (ai @EntD.dv.eq_1 (hbin))))))) ?_);(repeat (refine eA (by assumption) ?_;(refine rO (ai hL1 (ai hL2 (ai hL3 (ai hL4 (ai hL5 (ai @EntD.dv.eq_1 (hbin))))))) ?_;try with_reducible exact tt))));all_goals (exact (show bI _ _=true by kernel_rfl))));(rcases (Bool.eq_false_or_eq_true (decide (a.row=b.row))).symm with hL6|hL6;focus (((refine rO (ai hL1 (ai hL2 (ai hL3 (ai hL4 (ai hL5 (ai hL6 (ai @EntD.dv.eq_1 (hbin)))))))) ?_);(repeat (refine eA (by assumption) ?_;(refine rO (ai hL1 (ai hL2 (ai hL3 (ai hL4 (ai hL5 (ai hL6 (ai @EntD.dv.eq_1 (hbin)))))))) ?_;try with_reducible exact tt))));all_goals (exact (show bI _ _=true by kernel_rfl))));(rcases (Bool.eq_false_or_eq_true (decide (a.prod=b.prod))).symm with hL7|hL7;focus (((refine rO (ai hL1 (ai hL2 (ai hL3 (ai hL4 (ai hL5 (ai hL6 (ai hL7 (ai @EntD.dv.eq_1 (hbin))))))))) ?_);(repeat (refine eA (by assumption) ?_;(refine rO (ai hL1 (ai hL2 (ai hL3 (ai hL4 (ai hL5 (ai hL6 (ai hL7 (ai @EntD.dv.eq_1 (hbin))))))))) ?_;try with_reducible exact tt))));all_goals (exact (show bI _ _=true by kernel_rfl))));((refine rO (ai hL1 (ai hL2 (ai hL3 (ai hL4 (ai hL5 (ai hL6 (ai hL7 (ai @EntD.dv.eq_1 (hbin))))))))) ?_);(repeat (refine eA (by assumption) ?_;(refine rO (ai hL1 (ai hL2 (ai hL3 (ai hL4 (ai hL5 (ai hL6 (ai hL7 (ai @EntD.dv.eq_1 (hbin))))))))) ?_;try with_reducible exact tt))));all_goals (exact (show bI _ _=true by kernel_rfl)))
 (refine cA ?_)
 (refine aY ?_;try with_reducible exact tt)
theorem zY (a b:List EntD) (hl:a.length<2 ^ 40) (hs:∀ e ∈ a,SmallE e):bF Tryz.prog 34 [.lst 18 (a.map EntD.dv),.lst 18 (b.map EntD.dv)] (gD (decide (a=b))):=by
 (refine bF.of_body Tryz.func34 rfl rfl Tryz.ntmps34 Tryz.results34 (by simp) ?_)
 by_cases hlen:a.length=b.length
 ·have hne:((a.length:Int) != (b.length:Int))=false:=by simp[hlen]
  (refine gO (hne) ?_)
  refine Wp.loop (fun k:Nat=>⟨iC [(0,.c (.d (.lst 18 (a.map EntD.dv)))),(1,.c (.d (.lst 18 (b.map EntD.dv)))),(5,vi .i64 k)],bK [],0,27,0⟩) (fun k=>k≤a.length∧a.take k=b.take k) (fun k=>a.length - k) 0 ⟨Nat.zero_le _,rfl⟩ ?_ ?_
  ·refine aD.keep rfl rfl ?_
   (refine aY ?_;try with_reducible exact tt)
  rintro k ⟨hk,hall⟩
  (refine cA ?_)
  refine Wp.cond (by (refine aY ?_);rfl) (fun h=>?_) (fun h=>?_)
  ·have hlt:k<a.length:=by simpa using h
   have hlt2:k<b.length:=by omega
   have g1:a[k]? = some a[k]:=List.getElem?_eq_getElem hlt
   have g2:b[k]? = some b[k]:=List.getElem?_eq_getElem hlt2
   have t1:=aU a k hlt
   have t2:=aU b k hlt2
   have hne:a[k]≠b[k]→¬ a=b:=fun hx e=>by subst e;exact hx rfl
   have c1:=aTw a[k] b[k] (hs _ (List.getElem_mem hlt))
   generalize a[k]=x at *
   generalize b[k]=y at *
   simp only[EntD.dv] at c1
   (refine gO (ai g1 (ai g2 (@EntD.dv.eq_1))) ?_)
   refine Wp.cond (by (refine aY ?_);rfl) (fun h=>?_) (fun h=>?_)
   ·have hf:decide (a=b)=false:=decide_eq_false (hne (by simpa using h))
    (refine cA ?_)
    (refine rO (hf) ?_;try with_reducible exact tt)
   ·simp only[Bool.not_eq_false',decide_eq_true_eq] at h
    (refine cA ?_)
    refine⟨k+1,⟨by omega,by rw[t1,t2,hall,h]⟩,by omega,aD.keep rfl rfl ?_⟩
    (refine aY ?_;try with_reducible exact tt)
  ·have hk:k=a.length:=by simp only[decide_eq_false_iff_not] at h;omega
   have hf:decide (a=b)=true:=by
    rw[List.take_of_length_le (by omega),List.take_of_length_le (by omega)] at hall;simp[hall]
   (refine cA ?_)
   (refine rO (hf) ?_;try with_reducible exact tt)
 ·have hne:((a.length:Int) != (b.length:Int))=true:=by simp;omega
  have hf:decide (a=b)=false:=decide_eq_false (fun e=>hlen (by rw[e]))
  (refine gO (hne) ?_)
  (refine rO (hf) ?_;try with_reducible exact tt)
theorem aN1 (b:BatD):bF Tryz.prog 24 [.agg b.dv] (int (dQ b)):=by
 (refine bF.of_body Tryz.func24 rfl rfl Tryz.ntmps24 Tryz.results24 (by simp) ?_)
 (refine gO (@BatD.dv.eq_1) ?_)
 (refine rO (@dQ.eq_1) ?_;try with_reducible exact tt)
end Go.Proofs.YtpklhnpchhaccaaGreatDoor
