/- The abstract machine (RsC, RsD). -/
import Derived.Test.YtkmfmphpndhkjaaGreatDoorRsM
import Derived.Test.YtkmfmphpndhkjaaGreatDoorMtM
namespace Go.Proofs.YtkmfmphpndhkjaaGreatDoor
open Go Go.RowKit
set_option maxHeartbeats 16000000
set_option maxRecDepth 100000
set_option linter.unusedVariables false
set_option linter.unusedSimpArgs false
theorem xA (c:CoordD) (hs:SmallC c) (h8 : -128≤c.st∧c.st≤127):aJ Tryz.prog 34 [.agg c.dv] (dC (fF c)):=by
 have hpl:=hs.pends
 have c1:=aJ.args (.cons (.refl (.agg c.dv)) aTy) (qB c cz hs)
 have i1:=kW c.st 1 6
 have i2:=kW c.pid 1 8
 have i3:=kW c.epoch 0 100
 have i4:=kW c.timeout 1 20
 have i5:=kW c.age 0 1048576
 have i6:=aKz c.parts hs.parts
 have i7:=kW c.thn 0 20
 have cb:=aJl c
 have hw:IntKind.i64.wrap c.st=c.st:=aG (by omega)
 simp only[CoordD.dv] at c1 cb
 (refine aJ.of_body Tryz.func34 rfl rfl Tryz.ntmps34 Tryz.results34 (by simp) ?_)
 cases e0:(c.st == 0) with
 | true =>
  have hm:fF c=decide (c=cz):=by unfold fF;rw[if_pos e0]
  (refine gO (ai @CoordD.dv.eq_1 (e0)) ?_;try with_reducible exact tt)
  (refine rO (hm) ?_;try with_reducible exact tt)
 | false =>
 rw[aPr c e0]
 (refine gO (ai @CoordD.dv.eq_1 (e0)) ?_;try with_reducible exact tt)
 (first|refine Wp.sto 50 (vb (tO c)) ?_ ?_|refine Wp.rtoS 50 (vb (tO c)) ?_ ?_|(refine Wp.seq ?_;first|refine Wp.sto 50 (vb (tO c)) ?_ ?_|refine Wp.rtoS 50 (vb (tO c)) ?_ ?_))
 ·unfold tO;((rcases Bool.eq_false_or_eq_true (!aU c.st 1 6) with hL1|hL1;focus (((refine rO (ai hL1 (ai @CoordD.dv.eq_1 (ai @gU (hw)))) ?_;try with_reducible exact tt);(repeat (refine aQ (by assumption) ?_;(refine rO (ai hL1 (ai @CoordD.dv.eq_1 (ai @gU (hw)))) ?_;try with_reducible exact tt))));all_goals (exact (show aH _ _=true by kernel_rfl))));(rcases Bool.eq_false_or_eq_true (!aU c.pid 1 8) with hL2|hL2;focus (((refine rO (ai hL1 (ai hL2 (ai @CoordD.dv.eq_1 (ai @gU (hw))))) ?_;try with_reducible exact tt);(repeat (refine aQ (by assumption) ?_;(refine rO (ai hL1 (ai hL2 (ai @CoordD.dv.eq_1 (ai @gU (hw))))) ?_;try with_reducible exact tt))));all_goals (exact (show aH _ _=true by kernel_rfl))));(rcases Bool.eq_false_or_eq_true (!aU c.epoch 0 100) with hL3|hL3;focus (((refine rO (ai hL1 (ai hL2 (ai hL3 (ai @CoordD.dv.eq_1 (ai @gU (hw)))))) ?_;try with_reducible exact tt);(repeat (refine aQ (by assumption) ?_;(refine rO (ai hL1 (ai hL2 (ai hL3 (ai @CoordD.dv.eq_1 (ai @gU (hw)))))) ?_;try with_reducible exact tt))));all_goals (exact (show aH _ _=true by kernel_rfl))));(rcases Bool.eq_false_or_eq_true (!aU c.timeout 1 20) with hL4|hL4;focus (((refine rO (ai hL1 (ai hL2 (ai hL3 (ai hL4 (ai @CoordD.dv.eq_1 (ai @gU (hw))))))) ?_;try with_reducible exact tt);(repeat (refine aQ (by assumption) ?_;(refine rO (ai hL1 (ai hL2 (ai hL3 (ai hL4 (ai @CoordD.dv.eq_1 (ai @gU (hw))))))) ?_;try with_reducible exact tt))));all_goals (exact (show aH _ _=true by kernel_rfl))));(rcases Bool.eq_false_or_eq_true (!aU c.age 0 1048576) with hL5|hL5;focus (((refine rO (ai hL1 (ai hL2 (ai hL3 (ai hL4 (ai hL5 (ai @CoordD.dv.eq_1 (ai @gU (hw)))))))) ?_;try with_reducible exact tt);(repeat (refine aQ (by assumption) ?_;(refine rO (ai hL1 (ai hL2 (ai hL3 (ai hL4 (ai hL5 (ai @CoordD.dv.eq_1 (ai @gU (hw)))))))) ?_;try with_reducible exact tt))));all_goals (exact (show aH _ _=true by kernel_rfl))));(rcases Bool.eq_false_or_eq_true (!nV c.parts) with hL6|hL6;focus (((refine rO (ai hL1 (ai hL2 (ai hL3 (ai hL4 (ai hL5 (ai hL6 (ai @CoordD.dv.eq_1 (ai @gU (hw))))))))) ?_;try with_reducible exact tt);(repeat (refine aQ (by assumption) ?_;(refine rO (ai hL1 (ai hL2 (ai hL3 (ai hL4 (ai hL5 (ai hL6 (ai @CoordD.dv.eq_1 (ai @gU (hw))))))))) ?_;try with_reducible exact tt))));all_goals (exact (show aH _ _=true by kernel_rfl))));(rcases Bool.eq_false_or_eq_true (!aU c.thn 0 20) with hL7|hL7;focus (((refine rO (ai hL1 (ai hL2 (ai hL3 (ai hL4 (ai hL5 (ai hL6 (ai hL7 (ai @CoordD.dv.eq_1 (ai @gU (hw)))))))))) ?_;try with_reducible exact tt);(repeat (refine aQ (by assumption) ?_;(refine rO (ai hL1 (ai hL2 (ai hL3 (ai hL4 (ai hL5 (ai hL6 (ai hL7 (ai @CoordD.dv.eq_1 (ai @gU (hw)))))))))) ?_;try with_reducible exact tt))));all_goals (exact (show aH _ _=true by kernel_rfl))));((refine rO (ai hL1 (ai hL2 (ai hL3 (ai hL4 (ai hL5 (ai hL6 (ai hL7 (ai @CoordD.dv.eq_1 (ai @gU (hw)))))))))) ?_;try with_reducible exact tt);(repeat (refine aQ (by assumption) ?_;(refine rO (ai hL1 (ai hL2 (ai hL3 (ai hL4 (ai hL5 (ai hL6 (ai hL7 (ai @CoordD.dv.eq_1 (ai @gU (hw)))))))))) ?_;try with_reducible exact tt))));all_goals (exact (show aH _ _=true by kernel_rfl)))
 refine Wp.cond (by (refine aK ?_;try with_reducible exact tt);rfl) (fun h=>?_) (fun h=>?_)
 ·(refine aI ?_;try with_reducible exact tt)
  (refine rO (h) ?_;try with_reducible exact tt)
 rw[h]
 clear h c1 i1 i2 i3 i4 i5 i6 i7
 (refine aI ?_;try with_reducible exact tt)
 refine Wp.loop (fun k:Nat=>⟨dI [(1,.c (.own 0 0)),(3,vi .i64 k)],bJ [(0,.cells (c.dv.map .d))],1,134,0⟩) (fun k=>k≤c.pends.length∧∀ (j:Nat) (h:j<c.pends.length),j<k→kB c.pends j c.pends[j]=false) (fun k=>c.pends.length - k) 0 ⟨Nat.zero_le _,fun j h h2=>by omega⟩ ?_ ?_
 ·refine aD.keep rfl rfl ?_
  (refine rO (@CoordD.dv.eq_1) ?_;try with_reducible exact tt)
 rintro k ⟨hk,hall⟩
 by_cases hlt:k<c.pends.length
 ·have dk:decide ((k:Int)<(c.pends.length:Int))=true:=decide_eq_true (by omega)
  have g1:c.pends[k]? = some c.pends[k]:=List.getElem?_eq_getElem hlt
  have hwk:IntKind.i64.wrap ((k:Int)+1)=((k+1:Nat):Int):=by rw[aG (by omega)];rfl
  have hstop:kB c.pends k c.pends[k]=true→(c.pends.all dG && oL c.pends)=false:=fun h=>by
   cases hr:(c.pends.all dG && oL c.pends) with
   | false=>rfl
   | true=>have:=(aIi c.pends).1 hr k hlt;rw[h] at this;cases this
  have hgo:kB c.pends k c.pends[k]=false→∀ (j:Nat) (h:j<c.pends.length),j<k+1→kB c.pends j c.pends[j]=false:=fun h j hj hjk=>by
   rcases Nat.lt_or_ge j k with h1|h1
   ·exact hall j hj h1
   ·have e:j=k:=by omega
    subst e;exact h
  rcases Nat.eq_zero_or_pos k with hz|hpos
  ·subst hz
   have dk:decide ((0:Int)<(c.pends.length:Int))=true:=decide_eq_true (by omega)
   have hb:kB c.pends 0 c.pends[0] = !dG c.pends[0]:=by unfold kB;simp
   rw[hb] at hstop hgo
   generalize c.pends[0]=x at *
   have c2:=aBa x
   simp only[PendD.dv] at c2
   cases hx:dG x with
   | false =>
    rw[hx] at c2 hstop
    have e:=hstop rfl
    (refine gO (ai dk (ai @CoordD.dv.eq_1 (ai g1 (@PendD.dv.eq_1)))) ?_;try with_reducible exact tt)
    (refine rO (e) ?_;try with_reducible exact tt)
   | true =>
    rw[hx] at c2 hgo
    have hg:=hgo rfl
    (refine gO (ai dk (ai @CoordD.dv.eq_1 (ai g1 (@PendD.dv.eq_1)))) ?_;try with_reducible exact tt)
    refine⟨1,⟨by omega,hg⟩,by omega,aD.keep rfl rfl ?_⟩
    (refine rO (@CoordD.dv.eq_1) ?_;try with_reducible exact tt)
  ·have gp:c.pends[k - 1]? = some (c.pends[k - 1]'(by omega)):=List.getElem?_eq_getElem (by omega)
   have hb:kB c.pends k c.pends[k]=(!dG c.pends[k] || !iC (c.pends[k - 1]'(by omega)) c.pends[k]):=by
    unfold kB;rw[gp];simp[hpos]
   have dp:decide ((0:Int)<(k:Int))=true:=decide_eq_true (by omega)
   have ek:IntKind.i64.wrap ((k:Int) - 1)=((k - 1:Nat):Int):=by rw[aG (by omega)];omega
   rw[hb] at hstop hgo
   generalize c.pends[k - 1]'(by omega)=y at *
   generalize c.pends[k]=x at *
   have c2:=aBa x
   have c3:=aG8 y x
   simp only[PendD.dv] at c2 c3
   cases hx:dG x with
   | false =>
    rw[hx] at c2 hstop
    have e:=hstop rfl
    (refine gO (ai dk (ai @CoordD.dv.eq_1 (ai g1 (@PendD.dv.eq_1)))) ?_;try with_reducible exact tt)
    (refine rO (e) ?_;try with_reducible exact tt)
   | true =>
   cases hy:iC y x with
   | false =>
    rw[hx] at c2 hstop
    rw[hy] at c3 hstop
    have e:=hstop rfl
    (refine gO (ai dk (ai dp (ai ek (ai gp (ai @CoordD.dv.eq_1 (ai g1 (@PendD.dv.eq_1))))))) ?_;try with_reducible exact tt)
    (refine rO (e) ?_;try with_reducible exact tt)
   | true =>
    rw[hx] at c2 hgo
    rw[hy] at c3 hgo
    have hg:=hgo rfl
    (refine gO (ai dk (ai dp (ai ek (ai gp (ai @CoordD.dv.eq_1 (ai g1 (@PendD.dv.eq_1))))))) ?_;try with_reducible exact tt)
    refine⟨k+1,⟨by omega,hg⟩,by omega,aD.keep rfl rfl ?_⟩
    (refine rO (ai hwk (@CoordD.dv.eq_1)) ?_;try with_reducible exact tt)
 have hpe:(c.pends.all dG && oL c.pends)=true:=(aIi c.pends).2 (fun j hj=>hall j hj (by omega))
 have dk:decide ((k:Int)<(c.pends.length:Int))=false:=decide_eq_false (by omega)
 rw[hpe]
 (refine gO (ai dk (@CoordD.dv.eq_1)) ?_;try with_reducible exact tt)
 (first|refine Wp.sto 120 (vb (pR c)) ?_ ?_|refine Wp.rtoS 120 (vb (pR c)) ?_ ?_|(refine Wp.seq ?_;first|refine Wp.sto 120 (vb (pR c)) ?_ ?_|refine Wp.rtoS 120 (vb (pR c)) ?_ ?_))
 ·unfold pR
  cases hb:kI c<;>rw[hb] at cb
  ·rcases Bool.eq_false_or_eq_true ((c.parts.length:Int) == 0) with hp|hp<;>rcases Bool.eq_false_or_eq_true ((c.pends.length:Int) == 0) with hq|hq
   ·((rcases Bool.eq_false_or_eq_true (decide ((0:Int)<(c.parts.length:Int))) with hL1|hL1)<;>(rcases Bool.eq_false_or_eq_true (decide ((0:Int)<(c.pends.length:Int))) with hL2|hL2)<;>(rcases Bool.eq_false_or_eq_true (decide (0<c.age)) with hL3|hL3)<;>(rcases Bool.eq_false_or_eq_true ((c.st == 2)) with hL4|hL4)<;>(((refine rO (ai hL1 (ai hL2 (ai hL3 (ai hL4 (ai @CoordD.dv.eq_1 (ai hp (hq))))))) ?_;try with_reducible exact tt);(repeat (refine aQ (by assumption) ?_;(refine rO (ai hL1 (ai hL2 (ai hL3 (ai hL4 (ai @CoordD.dv.eq_1 (ai hp (hq))))))) ?_;try with_reducible exact tt))));all_goals (exact (show aH _ _=true by kernel_rfl))))
   ·((rcases Bool.eq_false_or_eq_true (decide ((0:Int)<(c.parts.length:Int))) with hL1|hL1)<;>(rcases Bool.eq_false_or_eq_true (decide ((0:Int)<(c.pends.length:Int))) with hL2|hL2)<;>(rcases Bool.eq_false_or_eq_true (decide (0<c.age)) with hL3|hL3)<;>(rcases Bool.eq_false_or_eq_true ((c.st == 2)) with hL4|hL4)<;>(((refine rO (ai hL1 (ai hL2 (ai hL3 (ai hL4 (ai @CoordD.dv.eq_1 (ai hp (hq))))))) ?_;try with_reducible exact tt);(repeat (refine aQ (by assumption) ?_;(refine rO (ai hL1 (ai hL2 (ai hL3 (ai hL4 (ai @CoordD.dv.eq_1 (ai hp (hq))))))) ?_;try with_reducible exact tt))));all_goals (exact (show aH _ _=true by kernel_rfl))))
   ·((rcases Bool.eq_false_or_eq_true (decide ((0:Int)<(c.parts.length:Int))) with hL1|hL1)<;>(rcases Bool.eq_false_or_eq_true (decide ((0:Int)<(c.pends.length:Int))) with hL2|hL2)<;>(rcases Bool.eq_false_or_eq_true (decide (0<c.age)) with hL3|hL3)<;>(rcases Bool.eq_false_or_eq_true ((c.st == 2)) with hL4|hL4)<;>(((refine rO (ai hL1 (ai hL2 (ai hL3 (ai hL4 (ai @CoordD.dv.eq_1 (ai hp (hq))))))) ?_;try with_reducible exact tt);(repeat (refine aQ (by assumption) ?_;(refine rO (ai hL1 (ai hL2 (ai hL3 (ai hL4 (ai @CoordD.dv.eq_1 (ai hp (hq))))))) ?_;try with_reducible exact tt))));all_goals (exact (show aH _ _=true by kernel_rfl))))
   ·((rcases Bool.eq_false_or_eq_true (decide ((0:Int)<(c.parts.length:Int))) with hL1|hL1)<;>(rcases Bool.eq_false_or_eq_true (decide ((0:Int)<(c.pends.length:Int))) with hL2|hL2)<;>(rcases Bool.eq_false_or_eq_true (decide (0<c.age)) with hL3|hL3)<;>(rcases Bool.eq_false_or_eq_true ((c.st == 2)) with hL4|hL4)<;>(((refine rO (ai hL1 (ai hL2 (ai hL3 (ai hL4 (ai @CoordD.dv.eq_1 (ai hp (hq))))))) ?_;try with_reducible exact tt);(repeat (refine aQ (by assumption) ?_;(refine rO (ai hL1 (ai hL2 (ai hL3 (ai hL4 (ai @CoordD.dv.eq_1 (ai hp (hq))))))) ?_;try with_reducible exact tt))));all_goals (exact (show aH _ _=true by kernel_rfl))))
  ·((rcases Bool.eq_false_or_eq_true ((c.st == 2)) with hL1|hL1)<;>(rcases Bool.eq_false_or_eq_true (((c.parts.length:Int) == 0)) with hL2|hL2)<;>(rcases Bool.eq_false_or_eq_true (((c.pends.length:Int) == 0)) with hL3|hL3)<;>(((refine rO (ai hL1 (ai hL2 (ai hL3 (@CoordD.dv.eq_1)))) ?_;try with_reducible exact tt);(repeat (refine aQ (by assumption) ?_;(refine rO (ai hL1 (ai hL2 (ai hL3 (@CoordD.dv.eq_1)))) ?_;try with_reducible exact tt))));all_goals (exact (show aH _ _=true by kernel_rfl))))
 refine Wp.cond (by (refine aK ?_;try with_reducible exact tt);rfl) (fun h=>?_) (fun h=>?_)
 ·(refine aI ?_;try with_reducible exact tt)
  (refine rO (h) ?_;try with_reducible exact tt)
 rw[h]
 (refine aI ?_;try with_reducible exact tt)
 (first|refine Wp.sto 2 (vb (qE c)) ?_ ?_|refine Wp.rtoS 2 (vb (qE c)) ?_ ?_|(refine Wp.seq ?_;first|refine Wp.sto 2 (vb (qE c)) ?_ ?_|refine Wp.rtoS 2 (vb (qE c)) ?_ ?_))
 ·unfold qE;((rcases Bool.eq_false_or_eq_true (c.thn == 0) with hL1|hL1)<;>(rcases Bool.eq_false_or_eq_true (c.st == 4) with hL2|hL2)<;>(rcases Bool.eq_false_or_eq_true (decide (c.epoch<100)) with hL3|hL3)<;>(((refine rO (ai hL1 (ai hL2 (ai hL3 (@CoordD.dv.eq_1)))) ?_;try with_reducible exact tt);(repeat (refine aQ (by assumption) ?_;(refine rO (ai hL1 (ai hL2 (ai hL3 (@CoordD.dv.eq_1)))) ?_;try with_reducible exact tt))));all_goals (exact (show aH _ _=true by kernel_rfl))))
 (refine aI ?_;try with_reducible exact tt)
 (refine aK ?_;try with_reducible exact tt)
theorem aIa (s:StateD) (pid:Int):aJ Tryz.prog 17 [.agg s.dv,int pid] (.tup [int ((nG s pid).1:Nat),dC (nG s pid).2]):=by
 (refine aJ.of_body Tryz.func17 rfl rfl Tryz.ntmps17 Tryz.results17 (by simp) ?_)
 (refine gO (ai @StateD.dv.eq_1 (ai @CoordD.dv.eq_1 (@GrpD.dv.eq_1))) ?_;try with_reducible exact tt)
 by_cases hp:pid<1
 ·have d1:decide ((0:Int)<pid)=false:=decide_eq_false (by omega)
  have e:nG s pid=(0,false):=by unfold nG;rw[if_pos hp]
  rw[e]
  refine Wp.rounds 4 (aN.go ?_)
  (refine gO (d1) ?_;try with_reducible exact tt)
  (refine aK ?_;try with_reducible exact tt)
 have d1:decide ((0:Int)<pid)=true:=decide_eq_true (by omega)
 cases h0:(s.c0.pid == pid) with
 | true =>
  have e:nG s pid=(0,true):=by unfold nG;rw[if_neg hp,if_pos (by simpa using h0)]
  rw[e]
  refine Wp.rounds 4 (aN.go ?_)
  (refine gO (ai d1 (h0)) ?_;try with_reducible exact tt)
  (refine aK ?_;try with_reducible exact tt)
 | false =>
 cases h1:(s.c1.pid == pid) with
 | true =>
  have e:nG s pid=(1,true):=by unfold nG;rw[if_neg hp,if_neg (by simpa using h0),if_pos (by simpa using h1)]
  rw[e]
  refine Wp.rounds 4 (aN.go ?_)
  (refine gO (ai d1 (ai h0 (h1))) ?_;try with_reducible exact tt)
  (refine aK ?_;try with_reducible exact tt)
 | false =>
 cases h2:(s.c2.pid == pid) with
 | true =>
  have e:nG s pid=(2,true):=by unfold nG;rw[if_neg hp,if_neg (by simpa using h0),if_neg (by simpa using h1),if_pos (by simpa using h2)]
  rw[e]
  refine Wp.rounds 4 (aN.go ?_)
  (refine gO (ai d1 (ai h0 (ai h1 (h2)))) ?_;try with_reducible exact tt)
  (refine aK ?_;try with_reducible exact tt)
 | false =>
  have e:nG s pid=(0,false):=by unfold nG;rw[if_neg hp,if_neg (by simpa using h0),if_neg (by simpa using h1),if_neg (by simpa using h2)]
  rw[e]
  refine Wp.rounds 4 (aN.go ?_)
  (refine gO (ai d1 (ai h0 (ai h1 (h2)))) ?_;try with_reducible exact tt)
  (refine aK ?_;try with_reducible exact tt)
def I8C (c:CoordD):Prop:=-128≤c.st∧c.st≤127
def mJ (c d:CoordD):Bool:=decide (0<c.pid) && (d.pid == c.pid)
theorem aPq {c:CoordD} (h:fF c=true):0≤c.pid:=by
 unfold fF at h
 split at h
 ·have:c=cz:=by simpa using h
  subst this;exact Int.le_refl _
 ·simp only[Bool.and_eq_true,dK,aU,decide_eq_true_eq] at h
  omega
theorem aBs {s:StateD} {c d:CoordD} (h:hO s c=false):mJ c d=gY c d:=by
 have hm:fF c=true:=by simp only[hO,Bool.or_eq_false_iff,Bool.not_eq_false'] at h;exact h.1
 have:=aPq hm
 unfold mJ gY
 have e:decide (0<c.pid)=(c.pid != 0):=by
  rw[Bool.eq_iff_iff,decide_eq_true_eq,bne_iff_ne];omega
 rw[e]
theorem aNg (s:StateD) (hs:SmallS s) (i0:I8C s.c0) (i1:I8C s.c1) (i2:I8C s.c2):aJ Tryz.prog 20 [.agg s.dv] (dC (fG s)):=by
 have c0:=xA s.c0 hs.c0 i0
 have c1:=xA s.c1 hs.c1 i1
 have c2:=xA s.c2 hs.c2 i2
 have hall:=aLq s
 simp only[CoordD.dv] at c0 c1 c2
 (refine aJ.of_body Tryz.func20 rfl rfl Tryz.ntmps20 Tryz.results20 (by simp) ?_)
 (refine gO (ai @StateD.dv.eq_1 (ai @CoordD.dv.eq_1 (@GrpD.dv.eq_1))) ?_;try with_reducible exact tt)
 (first|refine Wp.sto 14 (vb (oS s.made)) ?_ ?_|refine Wp.rtoS 14 (vb (oS s.made)) ?_ ?_|(refine Wp.seq ?_;first|refine Wp.sto 14 (vb (oS s.made)) ?_ ?_|refine Wp.rtoS 14 (vb (oS s.made)) ?_ ?_))
 ·unfold oS;((rcases Bool.eq_false_or_eq_true (decide (s.made<0)) with hL1|hL1)<;>(rcases Bool.eq_false_or_eq_true (decide (8<s.made)) with hL2|hL2)<;>(((refine rO (ai hL1 (ai hL2 (ai @StateD.dv.eq_1 (ai @CoordD.dv.eq_1 (@GrpD.dv.eq_1))))) ?_;try with_reducible exact tt);(repeat (refine aQ (by assumption) ?_;(refine rO (ai hL1 (ai hL2 (ai @StateD.dv.eq_1 (ai @CoordD.dv.eq_1 (@GrpD.dv.eq_1))))) ?_;try with_reducible exact tt))));all_goals (exact (show aH _ _=true by kernel_rfl))))
 refine Wp.cond (by (refine aK ?_;try with_reducible exact tt);rfl) (fun h=>?_) (fun h=>?_)
 ·have e:fG s=false:=by rw[hall,h];rfl
  (refine aI ?_;try with_reducible exact tt)
  (refine rO (e) ?_;try with_reducible exact tt)
 have k0:=h
 clear h
 (refine gO (ai @StateD.dv.eq_1 (ai @CoordD.dv.eq_1 (@GrpD.dv.eq_1))) ?_;try with_reducible exact tt)
 refine Wp.rounds 4 (aN.go ?_)
 (refine aI ?_;try with_reducible exact tt)
 (first|refine Wp.stoD 34 (vb (hO s s.c0)) aA ?_ ?_|refine Wp.rtoDS 34 (vb (hO s s.c0)) aA ?_ ?_|(refine Wp.seq ?_;first|refine Wp.stoD 34 (vb (hO s s.c0)) aA ?_ ?_|refine Wp.rtoDS 34 (vb (hO s s.c0)) aA ?_ ?_))
 ·unfold hO;((rcases Bool.eq_false_or_eq_true (!fF s.c0) with hL1|hL1)<;>(rcases Bool.eq_false_or_eq_true (decide (s.made<s.c0.pid)) with hL2|hL2)<;>(((refine rO (ai hL1 (hL2)) ?_;try with_reducible exact tt);(repeat (refine aQ (by assumption) ?_;(refine rO (ai hL1 (hL2)) ?_;try with_reducible exact tt))));all_goals (exact (show aH _ _=true by kernel_rfl))))
 refine Wp.cond (by (refine aK ?_;try with_reducible exact tt);rfl) (fun h=>?_) (fun h=>?_)
 ·have e:fG s=false:=by rw[hall,k0,h];rfl
  (refine aI ?_;try with_reducible exact tt)
  (refine rO (e) ?_;try with_reducible exact tt)
 have k1:=h
 clear h
 (refine aI ?_;try with_reducible exact tt)
 refine Wp.rounds 1 (aN.go ?_)
 (refine aI ?_;try with_reducible exact tt)
 (first|refine Wp.stoD 34 (vb (hO s s.c1)) aA ?_ ?_|refine Wp.rtoDS 34 (vb (hO s s.c1)) aA ?_ ?_|(refine Wp.seq ?_;first|refine Wp.stoD 34 (vb (hO s s.c1)) aA ?_ ?_|refine Wp.rtoDS 34 (vb (hO s s.c1)) aA ?_ ?_))
 ·unfold hO;((rcases Bool.eq_false_or_eq_true (!fF s.c1) with hL1|hL1)<;>(rcases Bool.eq_false_or_eq_true (decide (s.made<s.c1.pid)) with hL2|hL2)<;>(((refine rO (ai hL1 (hL2)) ?_;try with_reducible exact tt);(repeat (refine aQ (by assumption) ?_;(refine rO (ai hL1 (hL2)) ?_;try with_reducible exact tt))));all_goals (exact (show aH _ _=true by kernel_rfl))))
 refine Wp.cond (by (refine aK ?_;try with_reducible exact tt);rfl) (fun h=>?_) (fun h=>?_)
 ·have e:fG s=false:=by rw[hall,k0,k1,h];rfl
  (refine aI ?_;try with_reducible exact tt)
  (refine rO (e) ?_;try with_reducible exact tt)
 have k2:=h
 clear h
 (refine aI ?_;try with_reducible exact tt)
 refine Wp.rounds 2 (aN.go ?_)
 (refine aI ?_;try with_reducible exact tt)
 have tw:=aBs (d:=s.c0) k2
 (first|refine Wp.stoD 58 (vb (mJ s.c1 s.c0)) aA ?_ ?_|refine Wp.rtoDS 58 (vb (mJ s.c1 s.c0)) aA ?_ ?_|(refine Wp.seq ?_;first|refine Wp.stoD 58 (vb (mJ s.c1 s.c0)) aA ?_ ?_|refine Wp.rtoDS 58 (vb (mJ s.c1 s.c0)) aA ?_ ?_))
 ·unfold mJ;((rcases Bool.eq_false_or_eq_true (decide (0<s.c1.pid)) with hL1|hL1)<;>(rcases Bool.eq_false_or_eq_true (s.c0.pid == s.c1.pid) with hL2|hL2)<;>(((refine rO (ai hL1 (hL2)) ?_;try with_reducible exact tt);(repeat (refine aQ (by assumption) ?_;(refine rO (ai hL1 (hL2)) ?_;try with_reducible exact tt))));all_goals (exact (show aH _ _=true by kernel_rfl))))
 rw[tw]
 clear tw
 refine Wp.cond (by (refine aK ?_;try with_reducible exact tt);rfl) (fun h=>?_) (fun h=>?_)
 ·have e:fG s=false:=by rw[hall,k0,k1,k2,h];rfl
  (refine aI ?_;try with_reducible exact tt)
  (refine rO (e) ?_;try with_reducible exact tt)
 have k3:=h
 clear h
 (refine aI ?_;try with_reducible exact tt)
 (first|refine Wp.stoD 34 (vb (hO s s.c2)) aA ?_ ?_|refine Wp.rtoDS 34 (vb (hO s s.c2)) aA ?_ ?_|(refine Wp.seq ?_;first|refine Wp.stoD 34 (vb (hO s s.c2)) aA ?_ ?_|refine Wp.rtoDS 34 (vb (hO s s.c2)) aA ?_ ?_))
 ·unfold hO;((rcases Bool.eq_false_or_eq_true (!fF s.c2) with hL1|hL1)<;>(rcases Bool.eq_false_or_eq_true (decide (s.made<s.c2.pid)) with hL2|hL2)<;>(((refine rO (ai hL1 (hL2)) ?_;try with_reducible exact tt);(repeat (refine aQ (by assumption) ?_;(refine rO (ai hL1 (hL2)) ?_;try with_reducible exact tt))));all_goals (exact (show aH _ _=true by kernel_rfl))))
 refine Wp.cond (by (refine aK ?_;try with_reducible exact tt);rfl) (fun h=>?_) (fun h=>?_)
 ·have e:fG s=false:=by rw[hall,k0,k1,k2,k3,h];rfl
  (refine aI ?_;try with_reducible exact tt)
  (refine rO (e) ?_;try with_reducible exact tt)
 have k4:=h
 clear h
 (refine aI ?_;try with_reducible exact tt)
 refine Wp.rounds 3 (aN.go ?_)
 (refine aI ?_;try with_reducible exact tt)
 have tw:=aBs (d:=s.c0) k4
 (first|refine Wp.stoD 58 (vb (mJ s.c2 s.c0)) aA ?_ ?_|refine Wp.rtoDS 58 (vb (mJ s.c2 s.c0)) aA ?_ ?_|(refine Wp.seq ?_;first|refine Wp.stoD 58 (vb (mJ s.c2 s.c0)) aA ?_ ?_|refine Wp.rtoDS 58 (vb (mJ s.c2 s.c0)) aA ?_ ?_))
 ·unfold mJ;((rcases Bool.eq_false_or_eq_true (decide (0<s.c2.pid)) with hL1|hL1)<;>(rcases Bool.eq_false_or_eq_true (s.c0.pid == s.c2.pid) with hL2|hL2)<;>(((refine rO (ai hL1 (hL2)) ?_;try with_reducible exact tt);(repeat (refine aQ (by assumption) ?_;(refine rO (ai hL1 (hL2)) ?_;try with_reducible exact tt))));all_goals (exact (show aH _ _=true by kernel_rfl))))
 rw[tw]
 clear tw
 refine Wp.cond (by (refine aK ?_;try with_reducible exact tt);rfl) (fun h=>?_) (fun h=>?_)
 ·have e:fG s=false:=by rw[hall,k0,k1,k2,k3,k4,h];rfl
  (refine aI ?_;try with_reducible exact tt)
  (refine rO (e) ?_;try with_reducible exact tt)
 have k5:=h
 clear h
 (refine aI ?_;try with_reducible exact tt)
 have tw:=aBs (d:=s.c1) k4
 (first|refine Wp.stoD 58 (vb (mJ s.c2 s.c1)) aA ?_ ?_|refine Wp.rtoDS 58 (vb (mJ s.c2 s.c1)) aA ?_ ?_|(refine Wp.seq ?_;first|refine Wp.stoD 58 (vb (mJ s.c2 s.c1)) aA ?_ ?_|refine Wp.rtoDS 58 (vb (mJ s.c2 s.c1)) aA ?_ ?_))
 ·unfold mJ;((rcases Bool.eq_false_or_eq_true (decide (0<s.c2.pid)) with hL1|hL1)<;>(rcases Bool.eq_false_or_eq_true (s.c1.pid == s.c2.pid) with hL2|hL2)<;>(((refine rO (ai hL1 (hL2)) ?_;try with_reducible exact tt);(repeat (refine aQ (by assumption) ?_;(refine rO (ai hL1 (hL2)) ?_;try with_reducible exact tt))));all_goals (exact (show aH _ _=true by kernel_rfl))))
 rw[tw]
 clear tw
 refine Wp.cond (by (refine aK ?_;try with_reducible exact tt);rfl) (fun h=>?_) (fun h=>?_)
 ·have e:fG s=false:=by rw[hall,k0,k1,k2,k3,k4,k5,h];rfl
  (refine aI ?_;try with_reducible exact tt)
  (refine rO (e) ?_;try with_reducible exact tt)
 have k6:=h
 clear h
 (refine aI ?_;try with_reducible exact tt)
 refine Wp.rounds 3 (aN.go ?_)
 (refine aI ?_;try with_reducible exact tt)
 refine Wp.rounds 4 (aN.go ?_)
 (refine aI ?_;try with_reducible exact tt)
 (first|refine Wp.sto 82 (vb (cT s.gr.a0)) ?_ ?_|refine Wp.rtoS 82 (vb (cT s.gr.a0)) ?_ ?_|(refine Wp.seq ?_;first|refine Wp.sto 82 (vb (cT s.gr.a0)) ?_ ?_|refine Wp.rtoS 82 (vb (cT s.gr.a0)) ?_ ?_))
 ·unfold cT;((rcases Bool.eq_false_or_eq_true (decide (s.gr.a0 < -1)) with hL1|hL1)<;>(rcases Bool.eq_false_or_eq_true (decide (1048576<s.gr.a0)) with hL2|hL2)<;>(((refine rO (ai hL1 (hL2)) ?_;try with_reducible exact tt);(repeat (refine aQ (by assumption) ?_;(refine rO (ai hL1 (hL2)) ?_;try with_reducible exact tt))));all_goals (exact (show aH _ _=true by kernel_rfl))))
 refine Wp.cond (by (refine aK ?_;try with_reducible exact tt);rfl) (fun h=>?_) (fun h=>?_)
 ·have e:fG s=false:=by rw[hall,k0,k1,k2,k3,k4,k5,k6,h];rfl
  (refine aI ?_;try with_reducible exact tt)
  (refine rO (e) ?_;try with_reducible exact tt)
 have k7:=h
 clear h
 (refine aI ?_;try with_reducible exact tt)
 (first|refine Wp.sto 82 (vb (cT s.gr.a1)) ?_ ?_|refine Wp.rtoS 82 (vb (cT s.gr.a1)) ?_ ?_|(refine Wp.seq ?_;first|refine Wp.sto 82 (vb (cT s.gr.a1)) ?_ ?_|refine Wp.rtoS 82 (vb (cT s.gr.a1)) ?_ ?_))
 ·unfold cT;((rcases Bool.eq_false_or_eq_true (decide (s.gr.a1 < -1)) with hL1|hL1)<;>(rcases Bool.eq_false_or_eq_true (decide (1048576<s.gr.a1)) with hL2|hL2)<;>(((refine rO (ai hL1 (hL2)) ?_;try with_reducible exact tt);(repeat (refine aQ (by assumption) ?_;(refine rO (ai hL1 (hL2)) ?_;try with_reducible exact tt))));all_goals (exact (show aH _ _=true by kernel_rfl))))
 refine Wp.cond (by (refine aK ?_;try with_reducible exact tt);rfl) (fun h=>?_) (fun h=>?_)
 ·have e:fG s=false:=by rw[hall,k0,k1,k2,k3,k4,k5,k6,k7,h];rfl
  (refine aI ?_;try with_reducible exact tt)
  (refine rO (e) ?_;try with_reducible exact tt)
 have k8:=h
 clear h
 (refine aI ?_;try with_reducible exact tt)
 (first|refine Wp.sto 82 (vb (cT s.gr.a2)) ?_ ?_|refine Wp.rtoS 82 (vb (cT s.gr.a2)) ?_ ?_|(refine Wp.seq ?_;first|refine Wp.sto 82 (vb (cT s.gr.a2)) ?_ ?_|refine Wp.rtoS 82 (vb (cT s.gr.a2)) ?_ ?_))
 ·unfold cT;((rcases Bool.eq_false_or_eq_true (decide (s.gr.a2 < -1)) with hL1|hL1)<;>(rcases Bool.eq_false_or_eq_true (decide (1048576<s.gr.a2)) with hL2|hL2)<;>(((refine rO (ai hL1 (hL2)) ?_;try with_reducible exact tt);(repeat (refine aQ (by assumption) ?_;(refine rO (ai hL1 (hL2)) ?_;try with_reducible exact tt))));all_goals (exact (show aH _ _=true by kernel_rfl))))
 refine Wp.cond (by (refine aK ?_;try with_reducible exact tt);rfl) (fun h=>?_) (fun h=>?_)
 ·have e:fG s=false:=by rw[hall,k0,k1,k2,k3,k4,k5,k6,k7,k8,h];rfl
  (refine aI ?_;try with_reducible exact tt)
  (refine rO (e) ?_;try with_reducible exact tt)
 have k9:=h
 clear h
 (refine aI ?_;try with_reducible exact tt)
 refine Wp.rounds 4 (aN.go ?_)
 (refine aI ?_;try with_reducible exact tt)
 (first|refine Wp.sto 82 (vb (cT s.gr.b0)) ?_ ?_|refine Wp.rtoS 82 (vb (cT s.gr.b0)) ?_ ?_|(refine Wp.seq ?_;first|refine Wp.sto 82 (vb (cT s.gr.b0)) ?_ ?_|refine Wp.rtoS 82 (vb (cT s.gr.b0)) ?_ ?_))
 ·unfold cT;((rcases Bool.eq_false_or_eq_true (decide (s.gr.b0 < -1)) with hL1|hL1)<;>(rcases Bool.eq_false_or_eq_true (decide (1048576<s.gr.b0)) with hL2|hL2)<;>(((refine rO (ai hL1 (hL2)) ?_;try with_reducible exact tt);(repeat (refine aQ (by assumption) ?_;(refine rO (ai hL1 (hL2)) ?_;try with_reducible exact tt))));all_goals (exact (show aH _ _=true by kernel_rfl))))
 refine Wp.cond (by (refine aK ?_;try with_reducible exact tt);rfl) (fun h=>?_) (fun h=>?_)
 ·have e:fG s=false:=by rw[hall,k0,k1,k2,k3,k4,k5,k6,k7,k8,k9,h];rfl
  (refine aI ?_;try with_reducible exact tt)
  (refine rO (e) ?_;try with_reducible exact tt)
 have k10:=h
 clear h
 (refine aI ?_;try with_reducible exact tt)
 (first|refine Wp.sto 82 (vb (cT s.gr.b1)) ?_ ?_|refine Wp.rtoS 82 (vb (cT s.gr.b1)) ?_ ?_|(refine Wp.seq ?_;first|refine Wp.sto 82 (vb (cT s.gr.b1)) ?_ ?_|refine Wp.rtoS 82 (vb (cT s.gr.b1)) ?_ ?_))
 ·unfold cT;((rcases Bool.eq_false_or_eq_true (decide (s.gr.b1 < -1)) with hL1|hL1)<;>(rcases Bool.eq_false_or_eq_true (decide (1048576<s.gr.b1)) with hL2|hL2)<;>(((refine rO (ai hL1 (hL2)) ?_;try with_reducible exact tt);(repeat (refine aQ (by assumption) ?_;(refine rO (ai hL1 (hL2)) ?_;try with_reducible exact tt))));all_goals (exact (show aH _ _=true by kernel_rfl))))
 refine Wp.cond (by (refine aK ?_;try with_reducible exact tt);rfl) (fun h=>?_) (fun h=>?_)
 ·have e:fG s=false:=by rw[hall,k0,k1,k2,k3,k4,k5,k6,k7,k8,k9,k10,h];rfl
  (refine aI ?_;try with_reducible exact tt)
  (refine rO (e) ?_;try with_reducible exact tt)
 have k11:=h
 clear h
 (refine aI ?_;try with_reducible exact tt)
 (first|refine Wp.sto 82 (vb (cT s.gr.b2)) ?_ ?_|refine Wp.rtoS 82 (vb (cT s.gr.b2)) ?_ ?_|(refine Wp.seq ?_;first|refine Wp.sto 82 (vb (cT s.gr.b2)) ?_ ?_|refine Wp.rtoS 82 (vb (cT s.gr.b2)) ?_ ?_))
 ·unfold cT;((rcases Bool.eq_false_or_eq_true (decide (s.gr.b2 < -1)) with hL1|hL1)<;>(rcases Bool.eq_false_or_eq_true (decide (1048576<s.gr.b2)) with hL2|hL2)<;>(((refine rO (ai hL1 (hL2)) ?_;try with_reducible exact tt);(repeat (refine aQ (by assumption) ?_;(refine rO (ai hL1 (hL2)) ?_;try with_reducible exact tt))));all_goals (exact (show aH _ _=true by kernel_rfl))))
 refine Wp.cond (by (refine aK ?_;try with_reducible exact tt);rfl) (fun h=>?_) (fun h=>?_)
 ·have e:fG s=false:=by rw[hall,k0,k1,k2,k3,k4,k5,k6,k7,k8,k9,k10,k11,h];rfl
  (refine aI ?_;try with_reducible exact tt)
  (refine rO (e) ?_;try with_reducible exact tt)
 have k12:=h
 clear h
 (refine aI ?_;try with_reducible exact tt)
 have e:fG s=true:=by rw[hall,k0,k1,k2,k3,k4,k5,k6,k7,k8,k9,k10,k11,k12];rfl
 (refine rO (e) ?_;try with_reducible exact tt)
end Go.Proofs.YtkmfmphpndhkjaaGreatDoor
