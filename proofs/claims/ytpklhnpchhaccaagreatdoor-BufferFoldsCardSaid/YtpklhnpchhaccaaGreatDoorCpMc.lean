/- The abstract machine (CpD, CpR6). -/
import Derived.Test.YtpklhnpchhaccaaGreatDoorCpM0
import Derived.Test.YtpklhnpchhaccaaGreatDoorSqM
namespace Go.Proofs.YtpklhnpchhaccaaGreatDoor
open Go Go.RowKit
set_option maxHeartbeats 8000000
set_option maxRecDepth 100000
set_option linter.unusedVariables false
set_option linter.unusedSimpArgs false
theorem aU6 (f g:RecD):∃ fs,Tryz.prog.underlying 112=some (.struct fs)∧zD Tryz.prog 9999 #[.string ⟨List.toArray f.key⟩,.string ⟨List.toArray f.value⟩] #[.string ⟨List.toArray g.key⟩,.string ⟨List.toArray g.value⟩] fs.toList=some (decide (f=g)):=by
 refine⟨_,Tryz.underlying112,?_⟩
 have is:aX Tryz.prog (isAgg 9)=some false:=by kernel_rfl
 have ss:=fun x y=>aIc (d:=9998) Tryz.underlying9 x y
 simp only[Nat.reduceAdd] at ss
 obtain⟨a1,a2⟩:=f
 obtain⟨b1,b2⟩:=g
 have e:decide (RecD.mk a1 a2=RecD.mk b1 b2)=(a1 == b1 && (a2 == b2)):=by rw[Bool.eq_iff_iff];simp only[RecD.mk.injEq,Bool.and_eq_true,beq_iff_eq,decide_eq_true_eq]
 rw[e]
 cases h1:(a1 == b1)<;>cases h2:(a2 == b2)<;>simp[zD,is,ss,aKk,h1,h2]
theorem aH7 (x y:Operand) (f g:RecD):eW Tryz.prog .eql 112 x y (.agg [.d (str f.key),.d (str f.value)]) (.agg [.d (str g.key),.d (str g.value)])=some (Res.pure (vb (decide (f=g))))∧eW Tryz.prog .neq 112 x y (.agg [.d (str f.key),.d (str f.value)]) (.agg [.d (str g.key),.d (str g.value)])=some (Res.pure (vb (!decide (f=g)))):=by
 obtain⟨fs,hu,he⟩:=aU6 f g
 exact aFc hu (by kernel_rfl) (by kernel_rfl) he
def zZ (a b:BatD):Bool:=a.pid != b.pid || a.epoch != b.epoch || a.seq != b.seq || !(a.txn == b.txn) || (a.recs.length:Int) != (b.recs.length:Int)
theorem nY (a b:BatD) (hl:a.recs.length<2 ^ 40):aW Tryz.prog 30 [.agg a.dv,.agg b.dv] (dM (decide (a=b))):=by
 (refine aW.of_body Tryz.func30 rfl rfl Tryz.ntmps30 Tryz.results30 (by simp) ?_)
 (refine gO (@BatD.dv.eq_1) ?_)
 (first|refine Wp.sto 40 (vb (zZ a b)) ?_ ?_|refine Wp.rtoS 40 (vb (zZ a b)) ?_ ?_|(refine Wp.seq ?_;first|refine Wp.sto 40 (vb (zZ a b)) ?_ ?_|refine Wp.rtoS 40 (vb (zZ a b)) ?_ ?_))
 ·unfold zZ;((rcases Bool.eq_false_or_eq_true (a.pid != b.pid) with hL1|hL1;focus (((refine rO (ai hL1 (@BatD.dv.eq_1)) ?_;try with_reducible exact tt);(repeat (refine dB (by assumption) ?_;(refine rO (ai hL1 (@BatD.dv.eq_1)) ?_))));all_goals (exact (show bE _ _=true by kernel_rfl))));(rcases Bool.eq_false_or_eq_true (a.epoch != b.epoch) with hL2|hL2;focus (((refine rO (ai hL1 (ai hL2 (@BatD.dv.eq_1))) ?_;try with_reducible exact tt);(repeat (refine dB (by assumption) ?_;(refine rO (ai hL1 (ai hL2 (@BatD.dv.eq_1))) ?_))));all_goals (exact (show bE _ _=true by kernel_rfl))));(rcases Bool.eq_false_or_eq_true (a.seq != b.seq) with hL3|hL3;focus (((refine rO (ai hL1 (ai hL2 (ai hL3 (@BatD.dv.eq_1)))) ?_;try with_reducible exact tt);(repeat (refine dB (by assumption) ?_;(refine rO (ai hL1 (ai hL2 (ai hL3 (@BatD.dv.eq_1)))) ?_))));all_goals (exact (show bE _ _=true by kernel_rfl))));(rcases Bool.eq_false_or_eq_true (!(a.txn == b.txn)) with hL4|hL4;focus (((refine rO (ai hL1 (ai hL2 (ai hL3 (ai hL4 (@BatD.dv.eq_1))))) ?_;try with_reducible exact tt);(repeat (refine dB (by assumption) ?_;(refine rO (ai hL1 (ai hL2 (ai hL3 (ai hL4 (@BatD.dv.eq_1))))) ?_))));all_goals (exact (show bE _ _=true by kernel_rfl))));(rcases Bool.eq_false_or_eq_true ((a.recs.length:Int) != (b.recs.length:Int)) with hL5|hL5;focus (((refine rO (ai hL1 (ai hL2 (ai hL3 (ai hL4 (ai hL5 (@BatD.dv.eq_1)))))) ?_;try with_reducible exact tt);(repeat (refine dB (by assumption) ?_;(refine rO (ai hL1 (ai hL2 (ai hL3 (ai hL4 (ai hL5 (@BatD.dv.eq_1)))))) ?_))));all_goals (exact (show bE _ _=true by kernel_rfl))));((refine rO (ai hL1 (ai hL2 (ai hL3 (ai hL4 (ai hL5 (@BatD.dv.eq_1)))))) ?_;try with_reducible exact tt);(repeat (refine dB (by assumption) ?_;(refine rO (ai hL1 (ai hL2 (ai hL3 (ai hL4 (ai hL5 (@BatD.dv.eq_1)))))) ?_))));all_goals (exact (show bE _ _=true by kernel_rfl)))
 refine Wp.cond (by (refine aT ?_);rfl) (fun h=>?_) (fun h=>?_)
 ·have hf:decide (a=b)=false:=by
   refine decide_eq_false (fun e=>?_)
   subst e
   simp[zZ] at h
  (refine bP ?_)
  (refine rO (hf) ?_;try with_reducible exact tt)
 simp only[zZ,Bool.or_eq_false_iff,bne_eq_false_iff_eq,Bool.not_eq_false',beq_iff_eq] at h
 obtain⟨⟨⟨⟨h1,h2⟩,h3⟩,h4⟩,h5⟩:=h
 have hlen:a.recs.length=b.recs.length:=by omega
 (refine gO (@BatD.dv.eq_1) ?_)
 refine Wp.loop (fun k:Nat=>⟨iH [(2,.c (.own 0 0)),(3,.c (.own 1 0)),(5,vi .i64 k)],bI [(0,.cells (a.dv.map .d)),(1,.cells (b.dv.map .d))],2,59,0⟩) (fun k=>k≤a.recs.length∧a.recs.take k=b.recs.take k) (fun k=>a.recs.length - k) 0 ⟨Nat.zero_le _,rfl⟩ ?_ ?_
 ·refine aD.keep rfl rfl ?_
  (refine rO (@BatD.dv.eq_1) ?_;try with_reducible exact tt)
 rintro k ⟨hk,hall⟩
 (refine gO (@BatD.dv.eq_1) ?_)
 refine Wp.cond (by (refine aT ?_);rfl) (fun h=>?_) (fun h=>?_)
 ·have hlt:k<a.recs.length:=by simpa using h
  have hlt2:k<b.recs.length:=by omega
  have g1:a.recs[k]? = some a.recs[k]:=List.getElem?_eq_getElem hlt
  have g2:b.recs[k]? = some b.recs[k]:=List.getElem?_eq_getElem hlt2
  have t1:=aV a.recs k hlt
  have t2:=aV b.recs k hlt2
  have hne:a.recs[k]≠b.recs[k]→¬ a=b:=fun hx e=>by subst e;exact hx rfl
  generalize a.recs[k]=x at *
  generalize b.recs[k]=y at *
  (refine gO (ai g1 (ai g2 (ai @RecD.dv.eq_1 (@aH7)))) ?_)
  refine Wp.cond (by (refine aT ?_);rfl) (fun h=>?_) (fun h=>?_)
  ·have hf:decide (a=b)=false:=decide_eq_false (hne (by simpa using h))
   (refine bP ?_)
   (refine rO (hf) ?_;try with_reducible exact tt)
  ·simp only[Bool.not_eq_false',decide_eq_true_eq] at h
   (refine bP ?_)
   refine⟨k+1,⟨by omega,by rw[t1,t2,hall,h]⟩,by omega,aD.keep rfl rfl ?_⟩
   (refine rO (@BatD.dv.eq_1) ?_;try with_reducible exact tt)
 ·have hk:k=a.recs.length:=by simp only[decide_eq_false_iff_not] at h;omega
  have hf:decide (a=b)=true:=by
   rw[List.take_of_length_le (by omega),List.take_of_length_le (by omega)] at hall
   obtain⟨a1,a2,a3,a4,a5⟩:=a
   obtain⟨b1,b2,b3,b4,b5⟩:=b
   simp only at h1 h2 h3 h4 hall
   subst h1 h2 h3 h4 hall
   simp
  (refine bP ?_)
  (refine rO (hf) ?_;try with_reducible exact tt)
def aAd (a b:EntD):Bool:=a.kind == b.kind && decide (a.b=b.b) && a.yes == b.yes && a.next == b.next && a.off == b.off && decide (a.row=b.row) && decide (a.prod=b.prod)
theorem aRa (a b:EntD):aAd a b=decide (a=b):=by
 rw[Bool.eq_iff_iff]
 obtain⟨a1,a2,a3,a4,a5,a6,a7⟩:=a
 obtain⟨b1,b2,b3,b4,b5,b6,b7⟩:=b
 simp only[aAd,Bool.and_eq_true,beq_iff_eq,decide_eq_true_eq,EntD.mk.injEq,and_assoc]
theorem aJp (a b:EntD) (hs:SmallE a):aW Tryz.prog 69 [.agg a.dv,.agg b.dv] (dM (decide (a=b))):=by
 have hr:=hs.recs
 have hq:=hs.seen
 have c1:=nY a.b b.b (by omega)
 have c2:=vZ a.prod b.prod (by omega)
 have hbin:=fun x y=>(zR x y a.row b.row).1
 simp only[BatD.dv,ProdD.dv] at c1 c2
 rw[← aRa]
 (refine aW.of_body Tryz.func69 rfl rfl Tryz.ntmps69 Tryz.results69 (by simp) ?_)
 (refine gO (@EntD.dv.eq_1) ?_)
 (first|refine Wp.sto 4 (vb (aAd a b)) ?_ ?_|refine Wp.rtoS 4 (vb (aAd a b)) ?_ ?_|(refine Wp.seq ?_;first|refine Wp.sto 4 (vb (aAd a b)) ?_ ?_|refine Wp.rtoS 4 (vb (aAd a b)) ?_ ?_))
 ·unfold aAd;((rcases (Bool.eq_false_or_eq_true (a.kind == b.kind)).symm with hL1|hL1;focus (((refine rO (ai hL1 (ai @EntD.dv.eq_1 (hbin))) ?_;try with_reducible exact tt);(repeat (refine dB (by assumption) ?_;(refine rO (ai hL1 (ai @EntD.dv.eq_1 (hbin))) ?_))));all_goals (exact (show bE _ _=true by kernel_rfl))));(rcases (Bool.eq_false_or_eq_true (decide (a.b=b.b))).symm with hL2|hL2;focus (((refine rO (ai hL1 (ai hL2 (ai @EntD.dv.eq_1 (hbin)))) ?_);(repeat (refine dB (by assumption) ?_;(refine rO (ai hL1 (ai hL2 (ai @EntD.dv.eq_1 (hbin)))) ?_;try with_reducible exact tt))));all_goals (exact (show bE _ _=true by kernel_rfl))));(rcases (Bool.eq_false_or_eq_true (a.yes == b.yes)).symm with hL3|hL3;focus (((refine rO (ai hL1 (ai hL2 (ai hL3 (ai @EntD.dv.eq_1 (hbin))))) ?_);(repeat (refine dB (by assumption) ?_;(refine rO (ai hL1 (ai hL2 (ai hL3 (ai @EntD.dv.eq_1 (hbin))))) ?_;try with_reducible exact tt))));all_goals (exact (show bE _ _=true by kernel_rfl))));(rcases (Bool.eq_false_or_eq_true (a.next == b.next)).symm with hL4|hL4;focus (((refine rO (ai hL1 (ai hL2 (ai hL3 (ai hL4 (ai @EntD.dv.eq_1 (hbin)))))) ?_);(repeat (refine dB (by assumption) ?_;(refine rO (ai hL1 (ai hL2 (ai hL3 (ai hL4 (ai @EntD.dv.eq_1 (hbin)))))) ?_;try with_reducible exact tt))));all_goals (exact (show bE _ _=true by kernel_rfl))));(rcases (Bool.eq_false_or_eq_true (a.off == b.off)).symm with hL5|hL5;focus (((refine rO (ai hL1 (ai hL2 (ai hL3 (ai hL4 (ai hL5 (ai @EntD.dv.eq_1 (hbin))))))) ?_);(repeat (refine dB (by assumption) ?_;(refine rO (ai hL1 (ai hL2 (ai hL3 (ai hL4 (ai hL5 (ai @EntD.dv.eq_1 (hbin))))))) ?_;try with_reducible exact tt))));all_goals (exact (show bE _ _=true by kernel_rfl))));(rcases (Bool.eq_false_or_eq_true (decide (a.row=b.row))).symm with hL6|hL6;focus (((refine rO (ai hL1 (ai hL2 (ai hL3 (ai hL4 (ai hL5 (ai hL6 (ai @EntD.dv.eq_1 (hbin)))))))) ?_);(repeat (refine dB (by assumption) ?_;(refine rO (ai hL1 (ai hL2 (ai hL3 (ai hL4 (ai hL5 (ai hL6 (ai @EntD.dv.eq_1 (hbin)))))))) ?_;try with_reducible exact tt))));all_goals (exact (show bE _ _=true by kernel_rfl))));(rcases (Bool.eq_false_or_eq_true (decide (a.prod=b.prod))).symm with hL7|hL7;focus (((refine rO (ai hL1 (ai hL2 (ai hL3 (ai hL4 (ai hL5 (ai hL6 (ai hL7 (ai @EntD.dv.eq_1 (hbin))))))))) ?_);(repeat (refine dB (by assumption) ?_;(refine rO (ai hL1 (ai hL2 (ai hL3 (ai hL4 (ai hL5 (ai hL6 (ai hL7 (ai @EntD.dv.eq_1 (hbin))))))))) ?_;try with_reducible exact tt))));all_goals (exact (show bE _ _=true by kernel_rfl))));((refine rO (ai hL1 (ai hL2 (ai hL3 (ai hL4 (ai hL5 (ai hL6 (ai hL7 (ai @EntD.dv.eq_1 (hbin))))))))) ?_);(repeat (refine dB (by assumption) ?_;(refine rO (ai hL1 (ai hL2 (ai hL3 (ai hL4 (ai hL5 (ai hL6 (ai hL7 (ai @EntD.dv.eq_1 (hbin))))))))) ?_;try with_reducible exact tt))));all_goals (exact (show bE _ _=true by kernel_rfl)))
 (refine bP ?_)
 (refine aT ?_;try with_reducible exact tt)
def aHj (b:BatD):Bool:=decide (b.pid<1) || decide (8<b.pid) || decide (b.epoch<0) || decide (100<b.epoch) || decide (b.seq<0) || decide (1048576<b.seq) || decide ((b.recs.length:Int)<1) || decide (4<(b.recs.length:Int)) || decide (1048576<IntKind.i64.wrap (b.seq+(b.recs.length:Int)))
theorem aUf (b:BatD) (hl:b.recs.length≤100000):dQ b=(!aHj b && !b.recs.any fV):=by
 have hw:b.seq≤1048576→0≤b.seq→IntKind.i64.wrap (b.seq+(b.recs.length:Int))=b.seq+(b.recs.length:Int):=fun h h'=>bA ⟨by omega,by omega⟩
 have key:(!(decide (b.pid<1) || decide (8<b.pid)) && !(decide (b.epoch<0) || decide (100<b.epoch)) && !(decide ((b.recs.length:Int)<1) || decide (4<(b.recs.length:Int))) && !(decide (b.seq<0) || decide (1048576 - (b.recs.length:Int)<b.seq))) = !aHj b:=by
  rw[Bool.eq_iff_iff]
  simp only[aHj,Bool.and_eq_true,Bool.not_eq_true',Bool.or_eq_false_iff,decide_eq_false_iff_not]
  constructor
  ·rintro⟨⟨⟨⟨h1,h2⟩,h3,h4⟩,h5,h6⟩,h7,h8⟩
   rw[hw (by omega) (by omega)]
   refine⟨⟨⟨⟨⟨⟨⟨⟨h1,h2⟩,h3⟩,h4⟩,h7⟩,by omega⟩,h5⟩,h6⟩,by omega⟩
  ·rintro⟨⟨⟨⟨⟨⟨⟨⟨h1,h2⟩,h3⟩,h4⟩,h7⟩,h9⟩,h5⟩,h6⟩,h8⟩
   rw[hw (by omega) (by omega)] at h8
   refine⟨⟨⟨⟨h1,h2⟩,h3,h4⟩,h5,h6⟩,h7,by omega⟩
 unfold dQ
 rw[key]
theorem tY (b:BatD) (hl:b.recs.length≤100000):aW Tryz.prog 108 [.agg b.dv] (dM (dQ b)):=by
 have heq:=aUf b hl
 (refine aW.of_body Tryz.func108 rfl rfl Tryz.ntmps108 Tryz.results108 (by simp) ?_)
 (refine gO (@BatD.dv.eq_1) ?_)
 (first|refine Wp.sto 52 (vb (aHj b)) ?_ ?_|refine Wp.rtoS 52 (vb (aHj b)) ?_ ?_|(refine Wp.seq ?_;first|refine Wp.sto 52 (vb (aHj b)) ?_ ?_|refine Wp.rtoS 52 (vb (aHj b)) ?_ ?_))
 ·unfold aHj;((rcases Bool.eq_false_or_eq_true (decide (b.pid<1)) with hL1|hL1;focus (((refine rO (ai hL1 (@BatD.dv.eq_1)) ?_;try with_reducible exact tt);(repeat (refine dB (by assumption) ?_;(refine rO (ai hL1 (@BatD.dv.eq_1)) ?_))));all_goals (exact (show bE _ _=true by kernel_rfl))));(rcases Bool.eq_false_or_eq_true (decide (8<b.pid)) with hL2|hL2;focus (((refine rO (ai hL1 (ai hL2 (@BatD.dv.eq_1))) ?_;try with_reducible exact tt);(repeat (refine dB (by assumption) ?_;(refine rO (ai hL1 (ai hL2 (@BatD.dv.eq_1))) ?_))));all_goals (exact (show bE _ _=true by kernel_rfl))));(rcases Bool.eq_false_or_eq_true (decide (b.epoch<0)) with hL3|hL3;focus (((refine rO (ai hL1 (ai hL2 (ai hL3 (@BatD.dv.eq_1)))) ?_;try with_reducible exact tt);(repeat (refine dB (by assumption) ?_;(refine rO (ai hL1 (ai hL2 (ai hL3 (@BatD.dv.eq_1)))) ?_))));all_goals (exact (show bE _ _=true by kernel_rfl))));(rcases Bool.eq_false_or_eq_true (decide (100<b.epoch)) with hL4|hL4;focus (((refine rO (ai hL1 (ai hL2 (ai hL3 (ai hL4 (@BatD.dv.eq_1))))) ?_;try with_reducible exact tt);(repeat (refine dB (by assumption) ?_;(refine rO (ai hL1 (ai hL2 (ai hL3 (ai hL4 (@BatD.dv.eq_1))))) ?_))));all_goals (exact (show bE _ _=true by kernel_rfl))));(rcases Bool.eq_false_or_eq_true (decide (b.seq<0)) with hL5|hL5;focus (((refine rO (ai hL1 (ai hL2 (ai hL3 (ai hL4 (ai hL5 (@BatD.dv.eq_1)))))) ?_;try with_reducible exact tt);(repeat (refine dB (by assumption) ?_;(refine rO (ai hL1 (ai hL2 (ai hL3 (ai hL4 (ai hL5 (@BatD.dv.eq_1)))))) ?_))));all_goals (exact (show bE _ _=true by kernel_rfl))));(rcases Bool.eq_false_or_eq_true (decide (1048576<b.seq)) with hL6|hL6;focus (((refine rO (ai hL1 (ai hL2 (ai hL3 (ai hL4 (ai hL5 (ai hL6 (@BatD.dv.eq_1))))))) ?_;try with_reducible exact tt);(repeat (refine dB (by assumption) ?_;(refine rO (ai hL1 (ai hL2 (ai hL3 (ai hL4 (ai hL5 (ai hL6 (@BatD.dv.eq_1))))))) ?_))));all_goals (exact (show bE _ _=true by kernel_rfl))));(rcases Bool.eq_false_or_eq_true (decide ((b.recs.length:Int)<1)) with hL7|hL7;focus (((refine rO (ai hL1 (ai hL2 (ai hL3 (ai hL4 (ai hL5 (ai hL6 (ai hL7 (@BatD.dv.eq_1)))))))) ?_;try with_reducible exact tt);(repeat (refine dB (by assumption) ?_;(refine rO (ai hL1 (ai hL2 (ai hL3 (ai hL4 (ai hL5 (ai hL6 (ai hL7 (@BatD.dv.eq_1)))))))) ?_))));all_goals (exact (show bE _ _=true by kernel_rfl))));(rcases Bool.eq_false_or_eq_true (decide (4<(b.recs.length:Int))) with hL8|hL8;focus (((refine rO (ai hL1 (ai hL2 (ai hL3 (ai hL4 (ai hL5 (ai hL6 (ai hL7 (ai hL8 (@BatD.dv.eq_1))))))))) ?_;try with_reducible exact tt);(repeat (refine dB (by assumption) ?_;(refine rO (ai hL1 (ai hL2 (ai hL3 (ai hL4 (ai hL5 (ai hL6 (ai hL7 (ai hL8 (@BatD.dv.eq_1))))))))) ?_))));all_goals (exact (show bE _ _=true by kernel_rfl))));(rcases Bool.eq_false_or_eq_true (decide (1048576<IntKind.i64.wrap (b.seq+(b.recs.length:Int)))) with hL9|hL9;focus (((refine rO (ai hL1 (ai hL2 (ai hL3 (ai hL4 (ai hL5 (ai hL6 (ai hL7 (ai hL8 (ai hL9 (@BatD.dv.eq_1)))))))))) ?_;try with_reducible exact tt);(repeat (refine dB (by assumption) ?_;(refine rO (ai hL1 (ai hL2 (ai hL3 (ai hL4 (ai hL5 (ai hL6 (ai hL7 (ai hL8 (ai hL9 (@BatD.dv.eq_1)))))))))) ?_))));all_goals (exact (show bE _ _=true by kernel_rfl))));((refine rO (ai hL1 (ai hL2 (ai hL3 (ai hL4 (ai hL5 (ai hL6 (ai hL7 (ai hL8 (ai hL9 (@BatD.dv.eq_1)))))))))) ?_;try with_reducible exact tt);(repeat (refine dB (by assumption) ?_;(refine rO (ai hL1 (ai hL2 (ai hL3 (ai hL4 (ai hL5 (ai hL6 (ai hL7 (ai hL8 (ai hL9 (@BatD.dv.eq_1)))))))))) ?_))));all_goals (exact (show bE _ _=true by kernel_rfl)))
 refine Wp.cond (by (refine aT ?_);rfl) (fun h=>?_) (fun h=>?_)
 ·have hf:dQ b=false:=by rw[heq,h];rfl
  (refine bP ?_)
  (refine rO (hf) ?_;try with_reducible exact tt)
 have h1:=h
 (refine gO (@BatD.dv.eq_1) ?_)
 refine Wp.loop (fun k:Nat=>⟨iH [(1,.c (.own 0 0)),(3,vi .i64 k)],bI [(0,.cells (b.dv.map .d))],1,78,0⟩) (fun k=>k≤b.recs.length∧(b.recs.take k).any fV=false) (fun k=>b.recs.length - k) 0 ⟨Nat.zero_le _,rfl⟩ ?_ ?_
 ·refine aD.keep rfl rfl ?_
  (refine rO (@BatD.dv.eq_1) ?_;try with_reducible exact tt)
 rintro k ⟨hk,hall⟩
 (refine gO (@BatD.dv.eq_1) ?_)
 refine Wp.cond (by (refine aT ?_);rfl) (fun h=>?_) (fun h=>?_)
 ·have hlt:k<b.recs.length:=by simpa using h
  have hs:=gV fV b.recs k hlt
  have hm:b.recs[k] ∈ b.recs:=List.getElem_mem hlt
  have hge:b.recs[k]? = some b.recs[k]:=List.getElem?_eq_getElem hlt
  generalize b.recs[k]=r at *
  (refine bP ?_)
  (first|refine Wp.sto 77 (vb (fV r)) ?_ ?_|refine Wp.rtoS 77 (vb (fV r)) ?_ ?_|(refine Wp.seq ?_;first|refine Wp.sto 77 (vb (fV r)) ?_ ?_|refine Wp.rtoS 77 (vb (fV r)) ?_ ?_))
  ·unfold fV;((rcases Bool.eq_false_or_eq_true (decide (16<(r.key.length:Int))) with hL1|hL1)<;>(rcases Bool.eq_false_or_eq_true (decide (16<(r.value.length:Int))) with hL2|hL2)<;>(((refine rO (ai hL1 (ai hL2 (ai hge (ai @RecD.dv.eq_1 (@BatD.dv.eq_1))))) ?_;try with_reducible exact tt);(repeat (refine dB (by assumption) ?_;(refine rO (ai hL1 (ai hL2 (ai hge (ai @RecD.dv.eq_1 (@BatD.dv.eq_1))))) ?_))));all_goals (exact (show bE _ _=true by kernel_rfl))))
  refine Wp.cond (by (refine aT ?_);rfl) (fun h=>?_) (fun h=>?_)
  ·have hf:dQ b=false:=by
    have:b.recs.any fV=true:=List.any_eq_true.2 ⟨r,hm,h⟩
    rw[heq,this];simp
   (refine bP ?_)
   (refine rO (hf) ?_;try with_reducible exact tt)
  ·(refine bP ?_)
   refine⟨k+1,⟨by omega,by rw[hs,hall,h];rfl⟩,by omega,aD.keep rfl rfl ?_⟩
   (refine rO (@BatD.dv.eq_1) ?_;try with_reducible exact tt)
 ·have hf:dQ b=true:=by
   rw[List.take_of_length_le (by simp only[decide_eq_false_iff_not] at h;omega)] at hall
   rw[heq,h1,hall];rfl
  (refine bP ?_)
  (refine rO (hf) ?_;try with_reducible exact tt)
theorem aBn (b:BatD):aW Tryz.prog 24 [.agg b.dv] (int (eB b)):=by
 (refine aW.of_body Tryz.func24 rfl rfl Tryz.ntmps24 Tryz.results24 (by simp) ?_)
 (refine gO (@BatD.dv.eq_1) ?_)
 (refine rO (@eB.eq_1) ?_;try with_reducible exact tt)
end Go.Proofs.YtpklhnpchhaccaaGreatDoor
