/- The abstract machine (RsC, RsD). -/
import Derived.Test.YtkmfmphpndhkjaaGreatDoorRsM
import Derived.Test.YtkmfmphpndhkjaaGreatDoorMtM
namespace Go.Proofs.YtkmfmphpndhkjaaGreatDoor
open Go Go.RowKit
set_option maxHeartbeats 16000000
set_option maxRecDepth 100000
set_option linter.unusedVariables false
set_option linter.unusedSimpArgs false
theorem tT (c:CoordD) (hs:SmallC c) (h8 : -128≤c.st∧c.st≤127):aJ Tryz.prog 34 [.agg c.dv] (eK (gW c)):=by
 have hpl:=hs.pends
 have c1:=aJ.args (.cons (.refl (.agg c.dv)) aOv) (aGx c cz hs)
 have i1:=kB c.st 1 6
 have i2:=kB c.pid 1 8
 have i3:=kB c.epoch 0 100
 have i4:=kB c.timeout 1 20
 have i5:=kB c.age 0 1048576
 have i6:=aGw c.parts hs.parts
 have i7:=kB c.thn 0 20
 have cb:=aFn c
 have hw:IntKind.i64.wrap c.st=c.st:=aF (by omega)
 simp only[CoordD.dv] at c1 cb
 (refine aJ.of_body Tryz.func34 rfl rfl Tryz.ntmps34 Tryz.results34 (by simp) ?_)
 cases e0:(c.st == 0) with
 | true =>
  have hm:gW c=decide (c=cz):=by unfold gW;rw[if_pos e0]
  (refine gO (ai @CoordD.dv.eq_1 (e0)) ?_;try with_reducible exact tt)
  (refine rO (hm) ?_;try with_reducible exact tt)
 | false =>
 rw[aL3 c e0]
 (refine gO (ai @CoordD.dv.eq_1 (e0)) ?_;try with_reducible exact tt)
 (first|refine Wp.sto 50 (vb (qV c)) ?_ ?_|refine Wp.rtoS 50 (vb (qV c)) ?_ ?_|(refine Wp.seq ?_;first|refine Wp.sto 50 (vb (qV c)) ?_ ?_|refine Wp.rtoS 50 (vb (qV c)) ?_ ?_))
 ·unfold qV;((rcases Bool.eq_false_or_eq_true (!aT c.st 1 6) with hL1|hL1;focus (((refine rO (ai hL1 (ai @CoordD.dv.eq_1 (ai @fX (hw)))) ?_;try with_reducible exact tt);(repeat (refine aV (by assumption) ?_;(refine rO (ai hL1 (ai @CoordD.dv.eq_1 (ai @fX (hw)))) ?_;try with_reducible exact tt))));all_goals (exact (show aG _ _=true by kernel_rfl))));(rcases Bool.eq_false_or_eq_true (!aT c.pid 1 8) with hL2|hL2;focus (((refine rO (ai hL1 (ai hL2 (ai @CoordD.dv.eq_1 (ai @fX (hw))))) ?_;try with_reducible exact tt);(repeat (refine aV (by assumption) ?_;(refine rO (ai hL1 (ai hL2 (ai @CoordD.dv.eq_1 (ai @fX (hw))))) ?_;try with_reducible exact tt))));all_goals (exact (show aG _ _=true by kernel_rfl))));(rcases Bool.eq_false_or_eq_true (!aT c.epoch 0 100) with hL3|hL3;focus (((refine rO (ai hL1 (ai hL2 (ai hL3 (ai @CoordD.dv.eq_1 (ai @fX (hw)))))) ?_;try with_reducible exact tt);(repeat (refine aV (by assumption) ?_;(refine rO (ai hL1 (ai hL2 (ai hL3 (ai @CoordD.dv.eq_1 (ai @fX (hw)))))) ?_;try with_reducible exact tt))));all_goals (exact (show aG _ _=true by kernel_rfl))));(rcases Bool.eq_false_or_eq_true (!aT c.timeout 1 20) with hL4|hL4;focus (((refine rO (ai hL1 (ai hL2 (ai hL3 (ai hL4 (ai @CoordD.dv.eq_1 (ai @fX (hw))))))) ?_;try with_reducible exact tt);(repeat (refine aV (by assumption) ?_;(refine rO (ai hL1 (ai hL2 (ai hL3 (ai hL4 (ai @CoordD.dv.eq_1 (ai @fX (hw))))))) ?_;try with_reducible exact tt))));all_goals (exact (show aG _ _=true by kernel_rfl))));(rcases Bool.eq_false_or_eq_true (!aT c.age 0 1048576) with hL5|hL5;focus (((refine rO (ai hL1 (ai hL2 (ai hL3 (ai hL4 (ai hL5 (ai @CoordD.dv.eq_1 (ai @fX (hw)))))))) ?_;try with_reducible exact tt);(repeat (refine aV (by assumption) ?_;(refine rO (ai hL1 (ai hL2 (ai hL3 (ai hL4 (ai hL5 (ai @CoordD.dv.eq_1 (ai @fX (hw)))))))) ?_;try with_reducible exact tt))));all_goals (exact (show aG _ _=true by kernel_rfl))));(rcases Bool.eq_false_or_eq_true (!mM c.parts) with hL6|hL6;focus (((refine rO (ai hL1 (ai hL2 (ai hL3 (ai hL4 (ai hL5 (ai hL6 (ai @CoordD.dv.eq_1 (ai @fX (hw))))))))) ?_;try with_reducible exact tt);(repeat (refine aV (by assumption) ?_;(refine rO (ai hL1 (ai hL2 (ai hL3 (ai hL4 (ai hL5 (ai hL6 (ai @CoordD.dv.eq_1 (ai @fX (hw))))))))) ?_;try with_reducible exact tt))));all_goals (exact (show aG _ _=true by kernel_rfl))));(rcases Bool.eq_false_or_eq_true (!aT c.thn 0 20) with hL7|hL7;focus (((refine rO (ai hL1 (ai hL2 (ai hL3 (ai hL4 (ai hL5 (ai hL6 (ai hL7 (ai @CoordD.dv.eq_1 (ai @fX (hw)))))))))) ?_;try with_reducible exact tt);(repeat (refine aV (by assumption) ?_;(refine rO (ai hL1 (ai hL2 (ai hL3 (ai hL4 (ai hL5 (ai hL6 (ai hL7 (ai @CoordD.dv.eq_1 (ai @fX (hw)))))))))) ?_;try with_reducible exact tt))));all_goals (exact (show aG _ _=true by kernel_rfl))));((refine rO (ai hL1 (ai hL2 (ai hL3 (ai hL4 (ai hL5 (ai hL6 (ai hL7 (ai @CoordD.dv.eq_1 (ai @fX (hw)))))))))) ?_;try with_reducible exact tt);(repeat (refine aV (by assumption) ?_;(refine rO (ai hL1 (ai hL2 (ai hL3 (ai hL4 (ai hL5 (ai hL6 (ai hL7 (ai @CoordD.dv.eq_1 (ai @fX (hw)))))))))) ?_;try with_reducible exact tt))));all_goals (exact (show aG _ _=true by kernel_rfl)))
 refine Wp.cond (by (refine aM ?_;try with_reducible exact tt);rfl) (fun h=>?_) (fun h=>?_)
 ·(refine aH ?_;try with_reducible exact tt)
  (refine rO (h) ?_;try with_reducible exact tt)
 rw[h]
 clear h c1 i1 i2 i3 i4 i5 i6 i7
 (refine aH ?_;try with_reducible exact tt)
 refine Wp.loop (fun k:Nat=>⟨fP [(1,.c (.own 0 0)),(3,vi .i64 k)],cL [(0,.cells (c.dv.map .d))],1,134,0⟩) (fun k=>k≤c.pends.length∧∀ (j:Nat) (h:j<c.pends.length),j<k→jI c.pends j c.pends[j]=false) (fun k=>c.pends.length - k) 0 ⟨Nat.zero_le _,fun j h h2=>by omega⟩ ?_ ?_
 ·refine aD.keep rfl rfl ?_
  (refine rO (@CoordD.dv.eq_1) ?_;try with_reducible exact tt)
 rintro k ⟨hk,hall⟩
 by_cases hlt:k<c.pends.length
 ·have dk:decide ((k:Int)<(c.pends.length:Int))=true:=decide_eq_true (by omega)
  have g1:c.pends[k]? = some c.pends[k]:=List.getElem?_eq_getElem hlt
  have hwk:IntKind.i64.wrap ((k:Int)+1)=((k+1:Nat):Int):=by rw[aF (by omega)];rfl
  have hstop:jI c.pends k c.pends[k]=true→(c.pends.all eW && oR c.pends)=false:=fun h=>by
   cases hr:(c.pends.all eW && oR c.pends) with
   | false=>rfl
   | true=>have:=(aEo c.pends).1 hr k hlt;rw[h] at this;cases this
  have hgo:jI c.pends k c.pends[k]=false→∀ (j:Nat) (h:j<c.pends.length),j<k+1→jI c.pends j c.pends[j]=false:=fun h j hj hjk=>by
   rcases Nat.lt_or_ge j k with h1|h1
   ·exact hall j hj h1
   ·have e:j=k:=by omega
    subst e;exact h
  rcases Nat.eq_zero_or_pos k with hz|hpos
  ·subst hz
   have dk:decide ((0:Int)<(c.pends.length:Int))=true:=decide_eq_true (by omega)
   have hb:jI c.pends 0 c.pends[0] = !eW c.pends[0]:=by unfold jI;simp
   rw[hb] at hstop hgo
   generalize c.pends[0]=x at *
   have c2:=xW x
   simp only[PendD.dv] at c2
   cases hx:eW x with
   | false =>
    rw[hx] at c2 hstop
    have e:=hstop rfl
    (refine gO (ai dk (ai @CoordD.dv.eq_1 (ai g1 (@PendD.dv.eq_1)))) ?_;try with_reducible exact tt)
    (refine rO (e) ?_;try with_reducible exact tt)
   | true =>
    rw[hx] at c2 hgo
    have hg:=hgo rfl
    (refine gO (ai dk (ai @CoordD.dv.eq_1 (ai g1 (@PendD.dv.eq_1)))) ?_;try with_reducible exact tt)
    refine⟨1,⟨by omega,hg⟩,by omega,aD.keep rfl rfl ?_⟩
    (refine rO (@CoordD.dv.eq_1) ?_;try with_reducible exact tt)
  ·have gp:c.pends[k - 1]? = some (c.pends[k - 1]'(by omega)):=List.getElem?_eq_getElem (by omega)
   have hb:jI c.pends k c.pends[k]=(!eW c.pends[k] || !gY (c.pends[k - 1]'(by omega)) c.pends[k]):=by
    unfold jI;rw[gp];simp[hpos]
   have dp:decide ((0:Int)<(k:Int))=true:=decide_eq_true (by omega)
   have ek:IntKind.i64.wrap ((k:Int) - 1)=((k - 1:Nat):Int):=by rw[aF (by omega)];omega
   rw[hb] at hstop hgo
   generalize c.pends[k - 1]'(by omega)=y at *
   generalize c.pends[k]=x at *
   have c2:=xW x
   have c3:=aCm y x
   simp only[PendD.dv] at c2 c3
   cases hx:eW x with
   | false =>
    rw[hx] at c2 hstop
    have e:=hstop rfl
    (refine gO (ai dk (ai @CoordD.dv.eq_1 (ai g1 (@PendD.dv.eq_1)))) ?_;try with_reducible exact tt)
    (refine rO (e) ?_;try with_reducible exact tt)
   | true =>
   cases hy:gY y x with
   | false =>
    rw[hx] at c2 hstop
    rw[hy] at c3 hstop
    have e:=hstop rfl
    (refine gO (ai dk (ai dp (ai ek (ai gp (ai @CoordD.dv.eq_1 (ai g1 (@PendD.dv.eq_1))))))) ?_;try with_reducible exact tt)
    (refine rO (e) ?_;try with_reducible exact tt)
   | true =>
    rw[hx] at c2 hgo
    rw[hy] at c3 hgo
    have hg:=hgo rfl
    (refine gO (ai dk (ai dp (ai ek (ai gp (ai @CoordD.dv.eq_1 (ai g1 (@PendD.dv.eq_1))))))) ?_;try with_reducible exact tt)
    refine⟨k+1,⟨by omega,hg⟩,by omega,aD.keep rfl rfl ?_⟩
    (refine rO (ai hwk (@CoordD.dv.eq_1)) ?_;try with_reducible exact tt)
 have hpe:(c.pends.all eW && oR c.pends)=true:=(aEo c.pends).2 (fun j hj=>hall j hj (by omega))
 have dk:decide ((k:Int)<(c.pends.length:Int))=false:=decide_eq_false (by omega)
 rw[hpe]
 (refine gO (ai dk (@CoordD.dv.eq_1)) ?_;try with_reducible exact tt)
 (first|refine Wp.sto 120 (vb (oF c)) ?_ ?_|refine Wp.rtoS 120 (vb (oF c)) ?_ ?_|(refine Wp.seq ?_;first|refine Wp.sto 120 (vb (oF c)) ?_ ?_|refine Wp.rtoS 120 (vb (oF c)) ?_ ?_))
 ·unfold oF
  cases hb:rS c<;>rw[hb] at cb
  ·rcases Bool.eq_false_or_eq_true ((c.parts.length:Int) == 0) with hp|hp<;>rcases Bool.eq_false_or_eq_true ((c.pends.length:Int) == 0) with hq|hq
   ·((rcases Bool.eq_false_or_eq_true (decide ((0:Int)<(c.parts.length:Int))) with hL1|hL1)<;>(rcases Bool.eq_false_or_eq_true (decide ((0:Int)<(c.pends.length:Int))) with hL2|hL2)<;>(rcases Bool.eq_false_or_eq_true (decide (0<c.age)) with hL3|hL3)<;>(rcases Bool.eq_false_or_eq_true ((c.st == 2)) with hL4|hL4)<;>(((refine rO (ai hL1 (ai hL2 (ai hL3 (ai hL4 (ai @CoordD.dv.eq_1 (ai hp (hq))))))) ?_;try with_reducible exact tt);(repeat (refine aV (by assumption) ?_;(refine rO (ai hL1 (ai hL2 (ai hL3 (ai hL4 (ai @CoordD.dv.eq_1 (ai hp (hq))))))) ?_;try with_reducible exact tt))));all_goals (exact (show aG _ _=true by kernel_rfl))))
   ·((rcases Bool.eq_false_or_eq_true (decide ((0:Int)<(c.parts.length:Int))) with hL1|hL1)<;>(rcases Bool.eq_false_or_eq_true (decide ((0:Int)<(c.pends.length:Int))) with hL2|hL2)<;>(rcases Bool.eq_false_or_eq_true (decide (0<c.age)) with hL3|hL3)<;>(rcases Bool.eq_false_or_eq_true ((c.st == 2)) with hL4|hL4)<;>(((refine rO (ai hL1 (ai hL2 (ai hL3 (ai hL4 (ai @CoordD.dv.eq_1 (ai hp (hq))))))) ?_;try with_reducible exact tt);(repeat (refine aV (by assumption) ?_;(refine rO (ai hL1 (ai hL2 (ai hL3 (ai hL4 (ai @CoordD.dv.eq_1 (ai hp (hq))))))) ?_;try with_reducible exact tt))));all_goals (exact (show aG _ _=true by kernel_rfl))))
   ·((rcases Bool.eq_false_or_eq_true (decide ((0:Int)<(c.parts.length:Int))) with hL1|hL1)<;>(rcases Bool.eq_false_or_eq_true (decide ((0:Int)<(c.pends.length:Int))) with hL2|hL2)<;>(rcases Bool.eq_false_or_eq_true (decide (0<c.age)) with hL3|hL3)<;>(rcases Bool.eq_false_or_eq_true ((c.st == 2)) with hL4|hL4)<;>(((refine rO (ai hL1 (ai hL2 (ai hL3 (ai hL4 (ai @CoordD.dv.eq_1 (ai hp (hq))))))) ?_;try with_reducible exact tt);(repeat (refine aV (by assumption) ?_;(refine rO (ai hL1 (ai hL2 (ai hL3 (ai hL4 (ai @CoordD.dv.eq_1 (ai hp (hq))))))) ?_;try with_reducible exact tt))));all_goals (exact (show aG _ _=true by kernel_rfl))))
   ·((rcases Bool.eq_false_or_eq_true (decide ((0:Int)<(c.parts.length:Int))) with hL1|hL1)<;>(rcases Bool.eq_false_or_eq_true (decide ((0:Int)<(c.pends.length:Int))) with hL2|hL2)<;>(rcases Bool.eq_false_or_eq_true (decide (0<c.age)) with hL3|hL3)<;>(rcases Bool.eq_false_or_eq_true ((c.st == 2)) with hL4|hL4)<;>(((refine rO (ai hL1 (ai hL2 (ai hL3 (ai hL4 (ai @CoordD.dv.eq_1 (ai hp (hq))))))) ?_;try with_reducible exact tt);(repeat (refine aV (by assumption) ?_;(refine rO (ai hL1 (ai hL2 (ai hL3 (ai hL4 (ai @CoordD.dv.eq_1 (ai hp (hq))))))) ?_;try with_reducible exact tt))));all_goals (exact (show aG _ _=true by kernel_rfl))))
  ·((rcases Bool.eq_false_or_eq_true ((c.st == 2)) with hL1|hL1)<;>(rcases Bool.eq_false_or_eq_true (((c.parts.length:Int) == 0)) with hL2|hL2)<;>(rcases Bool.eq_false_or_eq_true (((c.pends.length:Int) == 0)) with hL3|hL3)<;>(((refine rO (ai hL1 (ai hL2 (ai hL3 (@CoordD.dv.eq_1)))) ?_;try with_reducible exact tt);(repeat (refine aV (by assumption) ?_;(refine rO (ai hL1 (ai hL2 (ai hL3 (@CoordD.dv.eq_1)))) ?_;try with_reducible exact tt))));all_goals (exact (show aG _ _=true by kernel_rfl))))
 refine Wp.cond (by (refine aM ?_;try with_reducible exact tt);rfl) (fun h=>?_) (fun h=>?_)
 ·(refine aH ?_;try with_reducible exact tt)
  (refine rO (h) ?_;try with_reducible exact tt)
 rw[h]
 (refine aH ?_;try with_reducible exact tt)
 (first|refine Wp.sto 2 (vb (oK c)) ?_ ?_|refine Wp.rtoS 2 (vb (oK c)) ?_ ?_|(refine Wp.seq ?_;first|refine Wp.sto 2 (vb (oK c)) ?_ ?_|refine Wp.rtoS 2 (vb (oK c)) ?_ ?_))
 ·unfold oK;((rcases Bool.eq_false_or_eq_true (c.thn == 0) with hL1|hL1)<;>(rcases Bool.eq_false_or_eq_true (c.st == 4) with hL2|hL2)<;>(rcases Bool.eq_false_or_eq_true (decide (c.epoch<100)) with hL3|hL3)<;>(((refine rO (ai hL1 (ai hL2 (ai hL3 (@CoordD.dv.eq_1)))) ?_;try with_reducible exact tt);(repeat (refine aV (by assumption) ?_;(refine rO (ai hL1 (ai hL2 (ai hL3 (@CoordD.dv.eq_1)))) ?_;try with_reducible exact tt))));all_goals (exact (show aG _ _=true by kernel_rfl))))
 (refine aH ?_;try with_reducible exact tt)
 (refine aM ?_;try with_reducible exact tt)
theorem aL8 (s:StateD) (pid:Int):aJ Tryz.prog 17 [.agg s.dv,int pid] (.tup [int ((nL s pid).1:Nat),eK (nL s pid).2]):=by
 (refine aJ.of_body Tryz.func17 rfl rfl Tryz.ntmps17 Tryz.results17 (by simp) ?_)
 (refine gO (ai @StateD.dv.eq_1 (ai @CoordD.dv.eq_1 (@GrpD.dv.eq_1))) ?_;try with_reducible exact tt)
 by_cases hp:pid<1
 ·have d1:decide ((0:Int)<pid)=false:=decide_eq_false (by omega)
  have e:nL s pid=(0,false):=by unfold nL;rw[if_pos hp]
  rw[e]
  refine Wp.rounds 4 (aL.go ?_)
  (refine gO (d1) ?_;try with_reducible exact tt)
  (refine aM ?_;try with_reducible exact tt)
 have d1:decide ((0:Int)<pid)=true:=decide_eq_true (by omega)
 cases h0:(s.c0.pid == pid) with
 | true =>
  have e:nL s pid=(0,true):=by unfold nL;rw[if_neg hp,if_pos (by simpa using h0)]
  rw[e]
  refine Wp.rounds 4 (aL.go ?_)
  (refine gO (ai d1 (h0)) ?_;try with_reducible exact tt)
  (refine aM ?_;try with_reducible exact tt)
 | false =>
 cases h1:(s.c1.pid == pid) with
 | true =>
  have e:nL s pid=(1,true):=by unfold nL;rw[if_neg hp,if_neg (by simpa using h0),if_pos (by simpa using h1)]
  rw[e]
  refine Wp.rounds 4 (aL.go ?_)
  (refine gO (ai d1 (ai h0 (h1))) ?_;try with_reducible exact tt)
  (refine aM ?_;try with_reducible exact tt)
 | false =>
 cases h2:(s.c2.pid == pid) with
 | true =>
  have e:nL s pid=(2,true):=by unfold nL;rw[if_neg hp,if_neg (by simpa using h0),if_neg (by simpa using h1),if_pos (by simpa using h2)]
  rw[e]
  refine Wp.rounds 4 (aL.go ?_)
  (refine gO (ai d1 (ai h0 (ai h1 (h2)))) ?_;try with_reducible exact tt)
  (refine aM ?_;try with_reducible exact tt)
 | false =>
  have e:nL s pid=(0,false):=by unfold nL;rw[if_neg hp,if_neg (by simpa using h0),if_neg (by simpa using h1),if_neg (by simpa using h2)]
  rw[e]
  refine Wp.rounds 4 (aL.go ?_)
  (refine gO (ai d1 (ai h0 (ai h1 (h2)))) ?_;try with_reducible exact tt)
  (refine aM ?_;try with_reducible exact tt)
def I8C (c:CoordD):Prop:=-128≤c.st∧c.st≤127
def lE (c d:CoordD):Bool:=decide (0<c.pid) && (d.pid == c.pid)
theorem aL2 {c:CoordD} (h:gW c=true):0≤c.pid:=by
 unfold gW at h
 split at h
 ·have:c=cz:=by simpa using h
  subst this;exact Int.le_refl _
 ·simp only[Bool.and_eq_true,dV,aT,decide_eq_true_eq] at h
  omega
theorem yM {s:StateD} {c d:CoordD} (h:gD s c=false):lE c d=gA c d:=by
 have hm:gW c=true:=by simp only[gD,Bool.or_eq_false_iff,Bool.not_eq_false'] at h;exact h.1
 have:=aL2 hm
 unfold lE gA
 have e:decide (0<c.pid)=(c.pid != 0):=by
  rw[Bool.eq_iff_iff,decide_eq_true_eq,bne_iff_ne];omega
 rw[e]
theorem aJ3 (s:StateD) (hs:SmallS s) (i0:I8C s.c0) (i1:I8C s.c1) (i2:I8C s.c2):aJ Tryz.prog 20 [.agg s.dv] (eK (eO s)):=by
 have c0:=tT s.c0 hs.c0 i0
 have c1:=tT s.c1 hs.c1 i1
 have c2:=tT s.c2 hs.c2 i2
 have hall:=aHe s
 simp only[CoordD.dv] at c0 c1 c2
 (refine aJ.of_body Tryz.func20 rfl rfl Tryz.ntmps20 Tryz.results20 (by simp) ?_)
 (refine gO (ai @StateD.dv.eq_1 (ai @CoordD.dv.eq_1 (@GrpD.dv.eq_1))) ?_;try with_reducible exact tt)
 (first|refine Wp.sto 14 (vb (nJ s.made)) ?_ ?_|refine Wp.rtoS 14 (vb (nJ s.made)) ?_ ?_|(refine Wp.seq ?_;first|refine Wp.sto 14 (vb (nJ s.made)) ?_ ?_|refine Wp.rtoS 14 (vb (nJ s.made)) ?_ ?_))
 ·unfold nJ;((rcases Bool.eq_false_or_eq_true (decide (s.made<0)) with hL1|hL1)<;>(rcases Bool.eq_false_or_eq_true (decide (8<s.made)) with hL2|hL2)<;>(((refine rO (ai hL1 (ai hL2 (ai @StateD.dv.eq_1 (ai @CoordD.dv.eq_1 (@GrpD.dv.eq_1))))) ?_;try with_reducible exact tt);(repeat (refine aV (by assumption) ?_;(refine rO (ai hL1 (ai hL2 (ai @StateD.dv.eq_1 (ai @CoordD.dv.eq_1 (@GrpD.dv.eq_1))))) ?_;try with_reducible exact tt))));all_goals (exact (show aG _ _=true by kernel_rfl))))
 refine Wp.cond (by (refine aM ?_;try with_reducible exact tt);rfl) (fun h=>?_) (fun h=>?_)
 ·have e:eO s=false:=by rw[hall,h];rfl
  (refine aH ?_;try with_reducible exact tt)
  (refine rO (e) ?_;try with_reducible exact tt)
 have k0:=h
 clear h
 (refine gO (ai @StateD.dv.eq_1 (ai @CoordD.dv.eq_1 (@GrpD.dv.eq_1))) ?_;try with_reducible exact tt)
 refine Wp.rounds 4 (aL.go ?_)
 (refine aH ?_;try with_reducible exact tt)
 (first|refine Wp.stoD 34 (vb (gD s s.c0)) aA ?_ ?_|refine Wp.rtoDS 34 (vb (gD s s.c0)) aA ?_ ?_|(refine Wp.seq ?_;first|refine Wp.stoD 34 (vb (gD s s.c0)) aA ?_ ?_|refine Wp.rtoDS 34 (vb (gD s s.c0)) aA ?_ ?_))
 ·unfold gD;((rcases Bool.eq_false_or_eq_true (!gW s.c0) with hL1|hL1)<;>(rcases Bool.eq_false_or_eq_true (decide (s.made<s.c0.pid)) with hL2|hL2)<;>(((refine rO (ai hL1 (hL2)) ?_;try with_reducible exact tt);(repeat (refine aV (by assumption) ?_;(refine rO (ai hL1 (hL2)) ?_;try with_reducible exact tt))));all_goals (exact (show aG _ _=true by kernel_rfl))))
 refine Wp.cond (by (refine aM ?_;try with_reducible exact tt);rfl) (fun h=>?_) (fun h=>?_)
 ·have e:eO s=false:=by rw[hall,k0,h];rfl
  (refine aH ?_;try with_reducible exact tt)
  (refine rO (e) ?_;try with_reducible exact tt)
 have k1:=h
 clear h
 (refine aH ?_;try with_reducible exact tt)
 refine Wp.rounds 1 (aL.go ?_)
 (refine aH ?_;try with_reducible exact tt)
 (first|refine Wp.stoD 34 (vb (gD s s.c1)) aA ?_ ?_|refine Wp.rtoDS 34 (vb (gD s s.c1)) aA ?_ ?_|(refine Wp.seq ?_;first|refine Wp.stoD 34 (vb (gD s s.c1)) aA ?_ ?_|refine Wp.rtoDS 34 (vb (gD s s.c1)) aA ?_ ?_))
 ·unfold gD;((rcases Bool.eq_false_or_eq_true (!gW s.c1) with hL1|hL1)<;>(rcases Bool.eq_false_or_eq_true (decide (s.made<s.c1.pid)) with hL2|hL2)<;>(((refine rO (ai hL1 (hL2)) ?_;try with_reducible exact tt);(repeat (refine aV (by assumption) ?_;(refine rO (ai hL1 (hL2)) ?_;try with_reducible exact tt))));all_goals (exact (show aG _ _=true by kernel_rfl))))
 refine Wp.cond (by (refine aM ?_;try with_reducible exact tt);rfl) (fun h=>?_) (fun h=>?_)
 ·have e:eO s=false:=by rw[hall,k0,k1,h];rfl
  (refine aH ?_;try with_reducible exact tt)
  (refine rO (e) ?_;try with_reducible exact tt)
 have k2:=h
 clear h
 (refine aH ?_;try with_reducible exact tt)
 refine Wp.rounds 2 (aL.go ?_)
 (refine aH ?_;try with_reducible exact tt)
 have tw:=yM (d:=s.c0) k2
 (first|refine Wp.stoD 58 (vb (lE s.c1 s.c0)) aA ?_ ?_|refine Wp.rtoDS 58 (vb (lE s.c1 s.c0)) aA ?_ ?_|(refine Wp.seq ?_;first|refine Wp.stoD 58 (vb (lE s.c1 s.c0)) aA ?_ ?_|refine Wp.rtoDS 58 (vb (lE s.c1 s.c0)) aA ?_ ?_))
 ·unfold lE;((rcases Bool.eq_false_or_eq_true (decide (0<s.c1.pid)) with hL1|hL1)<;>(rcases Bool.eq_false_or_eq_true (s.c0.pid == s.c1.pid) with hL2|hL2)<;>(((refine rO (ai hL1 (hL2)) ?_;try with_reducible exact tt);(repeat (refine aV (by assumption) ?_;(refine rO (ai hL1 (hL2)) ?_;try with_reducible exact tt))));all_goals (exact (show aG _ _=true by kernel_rfl))))
 rw[tw]
 clear tw
 refine Wp.cond (by (refine aM ?_;try with_reducible exact tt);rfl) (fun h=>?_) (fun h=>?_)
 ·have e:eO s=false:=by rw[hall,k0,k1,k2,h];rfl
  (refine aH ?_;try with_reducible exact tt)
  (refine rO (e) ?_;try with_reducible exact tt)
 have k3:=h
 clear h
 (refine aH ?_;try with_reducible exact tt)
 (first|refine Wp.stoD 34 (vb (gD s s.c2)) aA ?_ ?_|refine Wp.rtoDS 34 (vb (gD s s.c2)) aA ?_ ?_|(refine Wp.seq ?_;first|refine Wp.stoD 34 (vb (gD s s.c2)) aA ?_ ?_|refine Wp.rtoDS 34 (vb (gD s s.c2)) aA ?_ ?_))
 ·unfold gD;((rcases Bool.eq_false_or_eq_true (!gW s.c2) with hL1|hL1)<;>(rcases Bool.eq_false_or_eq_true (decide (s.made<s.c2.pid)) with hL2|hL2)<;>(((refine rO (ai hL1 (hL2)) ?_;try with_reducible exact tt);(repeat (refine aV (by assumption) ?_;(refine rO (ai hL1 (hL2)) ?_;try with_reducible exact tt))));all_goals (exact (show aG _ _=true by kernel_rfl))))
 refine Wp.cond (by (refine aM ?_;try with_reducible exact tt);rfl) (fun h=>?_) (fun h=>?_)
 ·have e:eO s=false:=by rw[hall,k0,k1,k2,k3,h];rfl
  (refine aH ?_;try with_reducible exact tt)
  (refine rO (e) ?_;try with_reducible exact tt)
 have k4:=h
 clear h
 (refine aH ?_;try with_reducible exact tt)
 refine Wp.rounds 3 (aL.go ?_)
 (refine aH ?_;try with_reducible exact tt)
 have tw:=yM (d:=s.c0) k4
 (first|refine Wp.stoD 58 (vb (lE s.c2 s.c0)) aA ?_ ?_|refine Wp.rtoDS 58 (vb (lE s.c2 s.c0)) aA ?_ ?_|(refine Wp.seq ?_;first|refine Wp.stoD 58 (vb (lE s.c2 s.c0)) aA ?_ ?_|refine Wp.rtoDS 58 (vb (lE s.c2 s.c0)) aA ?_ ?_))
 ·unfold lE;((rcases Bool.eq_false_or_eq_true (decide (0<s.c2.pid)) with hL1|hL1)<;>(rcases Bool.eq_false_or_eq_true (s.c0.pid == s.c2.pid) with hL2|hL2)<;>(((refine rO (ai hL1 (hL2)) ?_;try with_reducible exact tt);(repeat (refine aV (by assumption) ?_;(refine rO (ai hL1 (hL2)) ?_;try with_reducible exact tt))));all_goals (exact (show aG _ _=true by kernel_rfl))))
 rw[tw]
 clear tw
 refine Wp.cond (by (refine aM ?_;try with_reducible exact tt);rfl) (fun h=>?_) (fun h=>?_)
 ·have e:eO s=false:=by rw[hall,k0,k1,k2,k3,k4,h];rfl
  (refine aH ?_;try with_reducible exact tt)
  (refine rO (e) ?_;try with_reducible exact tt)
 have k5:=h
 clear h
 (refine aH ?_;try with_reducible exact tt)
 have tw:=yM (d:=s.c1) k4
 (first|refine Wp.stoD 58 (vb (lE s.c2 s.c1)) aA ?_ ?_|refine Wp.rtoDS 58 (vb (lE s.c2 s.c1)) aA ?_ ?_|(refine Wp.seq ?_;first|refine Wp.stoD 58 (vb (lE s.c2 s.c1)) aA ?_ ?_|refine Wp.rtoDS 58 (vb (lE s.c2 s.c1)) aA ?_ ?_))
 ·unfold lE;((rcases Bool.eq_false_or_eq_true (decide (0<s.c2.pid)) with hL1|hL1)<;>(rcases Bool.eq_false_or_eq_true (s.c1.pid == s.c2.pid) with hL2|hL2)<;>(((refine rO (ai hL1 (hL2)) ?_;try with_reducible exact tt);(repeat (refine aV (by assumption) ?_;(refine rO (ai hL1 (hL2)) ?_;try with_reducible exact tt))));all_goals (exact (show aG _ _=true by kernel_rfl))))
 rw[tw]
 clear tw
 refine Wp.cond (by (refine aM ?_;try with_reducible exact tt);rfl) (fun h=>?_) (fun h=>?_)
 ·have e:eO s=false:=by rw[hall,k0,k1,k2,k3,k4,k5,h];rfl
  (refine aH ?_;try with_reducible exact tt)
  (refine rO (e) ?_;try with_reducible exact tt)
 have k6:=h
 clear h
 (refine aH ?_;try with_reducible exact tt)
 refine Wp.rounds 3 (aL.go ?_)
 (refine aH ?_;try with_reducible exact tt)
 refine Wp.rounds 4 (aL.go ?_)
 (refine aH ?_;try with_reducible exact tt)
 (first|refine Wp.sto 82 (vb (cX s.gr.a0)) ?_ ?_|refine Wp.rtoS 82 (vb (cX s.gr.a0)) ?_ ?_|(refine Wp.seq ?_;first|refine Wp.sto 82 (vb (cX s.gr.a0)) ?_ ?_|refine Wp.rtoS 82 (vb (cX s.gr.a0)) ?_ ?_))
 ·unfold cX;((rcases Bool.eq_false_or_eq_true (decide (s.gr.a0 < -1)) with hL1|hL1)<;>(rcases Bool.eq_false_or_eq_true (decide (1048576<s.gr.a0)) with hL2|hL2)<;>(((refine rO (ai hL1 (hL2)) ?_;try with_reducible exact tt);(repeat (refine aV (by assumption) ?_;(refine rO (ai hL1 (hL2)) ?_;try with_reducible exact tt))));all_goals (exact (show aG _ _=true by kernel_rfl))))
 refine Wp.cond (by (refine aM ?_;try with_reducible exact tt);rfl) (fun h=>?_) (fun h=>?_)
 ·have e:eO s=false:=by rw[hall,k0,k1,k2,k3,k4,k5,k6,h];rfl
  (refine aH ?_;try with_reducible exact tt)
  (refine rO (e) ?_;try with_reducible exact tt)
 have k7:=h
 clear h
 (refine aH ?_;try with_reducible exact tt)
 (first|refine Wp.sto 82 (vb (cX s.gr.a1)) ?_ ?_|refine Wp.rtoS 82 (vb (cX s.gr.a1)) ?_ ?_|(refine Wp.seq ?_;first|refine Wp.sto 82 (vb (cX s.gr.a1)) ?_ ?_|refine Wp.rtoS 82 (vb (cX s.gr.a1)) ?_ ?_))
 ·unfold cX;((rcases Bool.eq_false_or_eq_true (decide (s.gr.a1 < -1)) with hL1|hL1)<;>(rcases Bool.eq_false_or_eq_true (decide (1048576<s.gr.a1)) with hL2|hL2)<;>(((refine rO (ai hL1 (hL2)) ?_;try with_reducible exact tt);(repeat (refine aV (by assumption) ?_;(refine rO (ai hL1 (hL2)) ?_;try with_reducible exact tt))));all_goals (exact (show aG _ _=true by kernel_rfl))))
 refine Wp.cond (by (refine aM ?_;try with_reducible exact tt);rfl) (fun h=>?_) (fun h=>?_)
 ·have e:eO s=false:=by rw[hall,k0,k1,k2,k3,k4,k5,k6,k7,h];rfl
  (refine aH ?_;try with_reducible exact tt)
  (refine rO (e) ?_;try with_reducible exact tt)
 have k8:=h
 clear h
 (refine aH ?_;try with_reducible exact tt)
 (first|refine Wp.sto 82 (vb (cX s.gr.a2)) ?_ ?_|refine Wp.rtoS 82 (vb (cX s.gr.a2)) ?_ ?_|(refine Wp.seq ?_;first|refine Wp.sto 82 (vb (cX s.gr.a2)) ?_ ?_|refine Wp.rtoS 82 (vb (cX s.gr.a2)) ?_ ?_))
 ·unfold cX;((rcases Bool.eq_false_or_eq_true (decide (s.gr.a2 < -1)) with hL1|hL1)<;>(rcases Bool.eq_false_or_eq_true (decide (1048576<s.gr.a2)) with hL2|hL2)<;>(((refine rO (ai hL1 (hL2)) ?_;try with_reducible exact tt);(repeat (refine aV (by assumption) ?_;(refine rO (ai hL1 (hL2)) ?_;try with_reducible exact tt))));all_goals (exact (show aG _ _=true by kernel_rfl))))
 refine Wp.cond (by (refine aM ?_;try with_reducible exact tt);rfl) (fun h=>?_) (fun h=>?_)
 ·have e:eO s=false:=by rw[hall,k0,k1,k2,k3,k4,k5,k6,k7,k8,h];rfl
  (refine aH ?_;try with_reducible exact tt)
  (refine rO (e) ?_;try with_reducible exact tt)
 have k9:=h
 clear h
 (refine aH ?_;try with_reducible exact tt)
 refine Wp.rounds 4 (aL.go ?_)
 (refine aH ?_;try with_reducible exact tt)
 (first|refine Wp.sto 82 (vb (cX s.gr.b0)) ?_ ?_|refine Wp.rtoS 82 (vb (cX s.gr.b0)) ?_ ?_|(refine Wp.seq ?_;first|refine Wp.sto 82 (vb (cX s.gr.b0)) ?_ ?_|refine Wp.rtoS 82 (vb (cX s.gr.b0)) ?_ ?_))
 ·unfold cX;((rcases Bool.eq_false_or_eq_true (decide (s.gr.b0 < -1)) with hL1|hL1)<;>(rcases Bool.eq_false_or_eq_true (decide (1048576<s.gr.b0)) with hL2|hL2)<;>(((refine rO (ai hL1 (hL2)) ?_;try with_reducible exact tt);(repeat (refine aV (by assumption) ?_;(refine rO (ai hL1 (hL2)) ?_;try with_reducible exact tt))));all_goals (exact (show aG _ _=true by kernel_rfl))))
 refine Wp.cond (by (refine aM ?_;try with_reducible exact tt);rfl) (fun h=>?_) (fun h=>?_)
 ·have e:eO s=false:=by rw[hall,k0,k1,k2,k3,k4,k5,k6,k7,k8,k9,h];rfl
  (refine aH ?_;try with_reducible exact tt)
  (refine rO (e) ?_;try with_reducible exact tt)
 have k10:=h
 clear h
 (refine aH ?_;try with_reducible exact tt)
 (first|refine Wp.sto 82 (vb (cX s.gr.b1)) ?_ ?_|refine Wp.rtoS 82 (vb (cX s.gr.b1)) ?_ ?_|(refine Wp.seq ?_;first|refine Wp.sto 82 (vb (cX s.gr.b1)) ?_ ?_|refine Wp.rtoS 82 (vb (cX s.gr.b1)) ?_ ?_))
 ·unfold cX;((rcases Bool.eq_false_or_eq_true (decide (s.gr.b1 < -1)) with hL1|hL1)<;>(rcases Bool.eq_false_or_eq_true (decide (1048576<s.gr.b1)) with hL2|hL2)<;>(((refine rO (ai hL1 (hL2)) ?_;try with_reducible exact tt);(repeat (refine aV (by assumption) ?_;(refine rO (ai hL1 (hL2)) ?_;try with_reducible exact tt))));all_goals (exact (show aG _ _=true by kernel_rfl))))
 refine Wp.cond (by (refine aM ?_;try with_reducible exact tt);rfl) (fun h=>?_) (fun h=>?_)
 ·have e:eO s=false:=by rw[hall,k0,k1,k2,k3,k4,k5,k6,k7,k8,k9,k10,h];rfl
  (refine aH ?_;try with_reducible exact tt)
  (refine rO (e) ?_;try with_reducible exact tt)
 have k11:=h
 clear h
 (refine aH ?_;try with_reducible exact tt)
 (first|refine Wp.sto 82 (vb (cX s.gr.b2)) ?_ ?_|refine Wp.rtoS 82 (vb (cX s.gr.b2)) ?_ ?_|(refine Wp.seq ?_;first|refine Wp.sto 82 (vb (cX s.gr.b2)) ?_ ?_|refine Wp.rtoS 82 (vb (cX s.gr.b2)) ?_ ?_))
 ·unfold cX;((rcases Bool.eq_false_or_eq_true (decide (s.gr.b2 < -1)) with hL1|hL1)<;>(rcases Bool.eq_false_or_eq_true (decide (1048576<s.gr.b2)) with hL2|hL2)<;>(((refine rO (ai hL1 (hL2)) ?_;try with_reducible exact tt);(repeat (refine aV (by assumption) ?_;(refine rO (ai hL1 (hL2)) ?_;try with_reducible exact tt))));all_goals (exact (show aG _ _=true by kernel_rfl))))
 refine Wp.cond (by (refine aM ?_;try with_reducible exact tt);rfl) (fun h=>?_) (fun h=>?_)
 ·have e:eO s=false:=by rw[hall,k0,k1,k2,k3,k4,k5,k6,k7,k8,k9,k10,k11,h];rfl
  (refine aH ?_;try with_reducible exact tt)
  (refine rO (e) ?_;try with_reducible exact tt)
 have k12:=h
 clear h
 (refine aH ?_;try with_reducible exact tt)
 have e:eO s=true:=by rw[hall,k0,k1,k2,k3,k4,k5,k6,k7,k8,k9,k10,k11,k12];rfl
 (refine rO (e) ?_;try with_reducible exact tt)
end Go.Proofs.YtkmfmphpndhkjaaGreatDoor
