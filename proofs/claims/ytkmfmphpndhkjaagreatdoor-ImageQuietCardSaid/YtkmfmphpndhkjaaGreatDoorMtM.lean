/- The abstract machine (MtA, MtB). -/
import Derived.Test.YtkmfmphpndhkjaaGreatDoorStM
import Derived.Test.YtkmfmphpndhkjaaGreatDoorRnd
namespace Go.Proofs.YtkmfmphpndhkjaaGreatDoor
open Go Go.RowKit
set_option maxHeartbeats 8000000
set_option maxRecDepth 100000
set_option linter.unusedVariables false
set_option linter.unusedSimpArgs false
def gm1:GrpD:=⟨-1,-1,-1,-1,-1,-1⟩
def aEv:StateD:=⟨0,cz,cz,cz,gm1⟩
theorem aMq (made:Int) (g:GrpD):jA (.agg ([int made,i8 0,int 0,int 0,int 0,int 0,bU,bU,int 0,i8 0,int 0,int 0,int 0,int 0,bU,bU,int 0,i8 0,int 0,int 0,int 0,int 0,bU,bU,int 0]++g.dv)) (.agg (StateD.mk made cz cz cz g).dv):=by
 have key:∀ (l l' : List D),AllLe l l'→AllLe ([i8 0,int 0,int 0,int 0,int 0,bU,bU,int 0]++l) (cz.dv++l'):=fun l l' h =>
  .cons (.refl _) (.cons (.refl _) (.cons (.refl _) (.cons (.refl _) (.cons (.refl _) (.cons (.nil 1) (.cons (.nil 3) (.cons (.refl _) h)))))))
 have hg:∀ l:List D,AllLe l l:=fun l=>by
  induction l with
  | nil=>exact .nil
  | cons a l ih=>exact .cons (.refl _) ih
 exact .agg (.cons (.refl _) (key _ _ (key _ _ (key _ _ (hg _)))))
theorem aH8:aJ Tryz.prog 42 [] (.agg aEv.dv):=by
 (refine aJ.of_bodyW Tryz.func42 rfl rfl Tryz.ntmps42 Tryz.results42 (by simp) ?_)
 (refine aI ?_;try with_reducible exact tt)
 refine Wp.rounds 3 (aN.go ?_)
 (refine aI ?_;try with_reducible exact tt)
 refine Wp.rounds 4 (aN.go ?_)
 (refine aI ?_;try with_reducible exact tt)
 refine Wp.rounds 4 (aN.go ?_)
 (refine aI ?_;try with_reducible exact tt)
 (refine aK ?_;try with_reducible exact tt)
 exact⟨_,rfl,aMq 0 gm1⟩
theorem aUt (s:StateD) (pid:Int):aJ Tryz.prog 78 [.agg s.dv,int pid] (.tup [int ((nG s pid).1:Nat),dC (nG s pid).2]):=by
 (refine aJ.of_body Tryz.func78 rfl rfl Tryz.ntmps78 Tryz.results78 (by simp) ?_)
 (refine gO (ai @StateD.dv.eq_1 (ai @CoordD.dv.eq_1 (@GrpD.dv.eq_1))) ?_;try with_reducible exact tt)
 by_cases hp:pid<1
 ·have d1:decide ((1:Int)≤pid)=false:=decide_eq_false (by omega)
  have e:nG s pid=(0,false):=by unfold nG;rw[if_pos hp]
  rw[e]
  refine Wp.rounds 4 (aN.go ?_)
  (refine gO (d1) ?_;try with_reducible exact tt)
  (refine aK ?_;try with_reducible exact tt)
 have d1:decide ((1:Int)≤pid)=true:=decide_eq_true (by omega)
 cases h0:(s.c0.pid == pid) with
 | true =>
  have e:nG s pid=(0,true):=by unfold nG;rw[if_neg hp,if_pos (by simpa using h0)]
  rw[e]
  refine Wp.rounds 4 (aN.go ?_)
  (refine gO (ai d1 (h0)) ?_;try with_reducible exact tt)
  (refine aK ?_;try with_reducible exact tt)
 | false =>
 cases h1:(s.c1.pid == pid) with
 | true =>
  have e:nG s pid=(1,true):=by unfold nG;rw[if_neg hp,if_neg (by simpa using h0),if_pos (by simpa using h1)]
  rw[e]
  refine Wp.rounds 4 (aN.go ?_)
  (refine gO (ai d1 (ai h0 (h1))) ?_;try with_reducible exact tt)
  (refine aK ?_;try with_reducible exact tt)
 | false =>
 cases h2:(s.c2.pid == pid) with
 | true =>
  have e:nG s pid=(2,true):=by unfold nG;rw[if_neg hp,if_neg (by simpa using h0),if_neg (by simpa using h1),if_pos (by simpa using h2)]
  rw[e]
  refine Wp.rounds 4 (aN.go ?_)
  (refine gO (ai d1 (ai h0 (ai h1 (h2)))) ?_;try with_reducible exact tt)
  (refine aK ?_;try with_reducible exact tt)
 | false =>
  have e:nG s pid=(0,false):=by unfold nG;rw[if_neg hp,if_neg (by simpa using h0),if_neg (by simpa using h1),if_neg (by simpa using h2)]
  rw[e]
  refine Wp.rounds 4 (aN.go ?_)
  (refine gO (ai d1 (ai h0 (ai h1 (h2)))) ?_;try with_reducible exact tt)
  (refine aK ?_;try with_reducible exact tt)
structure SmallS (s:StateD):Prop where
 c0:SmallC s.c0
 c1:SmallC s.c1
 c2:SmallC s.c2
def cT (n:Int):Bool:=decide (n < -1) || decide (1048576<n)
theorem aTc (n:Int):cT n = !aHi n:=by
 unfold cT aHi aU
 rw[Bool.eq_iff_iff]
 simp only[Bool.or_eq_true,decide_eq_true_eq,Bool.not_eq_true',Bool.and_eq_false_iff,decide_eq_false_iff_not]
 omega
def oS (n:Int):Bool:=decide (n<0) || decide (8<n)
def hO (s:StateD) (c:CoordD):Bool:=!fF c || decide (s.made<c.pid)
def gY (c d:CoordD):Bool:=c.pid != 0 && d.pid == c.pid
theorem aLq (s:StateD):fG s=(!oS s.made && (!hO s s.c0 && (!hO s s.c1 && (!gY s.c1 s.c0 && (!hO s s.c2 && (!gY s.c2 s.c0 && (!gY s.c2 s.c1 && (!cT s.gr.a0 && (!cT s.gr.a1 && (!cT s.gr.a2 && (!cT s.gr.b0 && (!cT s.gr.b1 && !cT s.gr.b2)))))))))))):=by
 have hm:aU s.made 0 8 = !oS s.made:=by
  unfold oS aU
  rw[Bool.eq_iff_iff]
  simp only[Bool.and_eq_true,decide_eq_true_eq,Bool.not_eq_true',Bool.or_eq_false_iff,decide_eq_false_iff_not]
  omega
 have ht:∀ c:CoordD,(fF c && decide (c.pid≤s.made)) = !hO s c:=fun c=>by
  unfold hO
  have:decide (c.pid≤s.made) = !decide (s.made<c.pid):=by
   rw[Bool.eq_iff_iff]
   simp only[decide_eq_true_eq,Bool.not_eq_true',decide_eq_false_iff_not]
   omega
  rw[this]
  cases fF c<;>cases decide (s.made<c.pid)<;>rfl
 have hw:aRb s 2=(gY s.c2 s.c0 || gY s.c2 s.c1):=by
  show (s.c2.pid != 0 && (s.c0.pid == s.c2.pid || s.c1.pid == s.c2.pid))=_
  unfold gY
  cases (s.c2.pid != 0)<;>rfl
 have h0:cOk s 0 = !hO s s.c0:=by
  show (fF s.c0 && decide (s.c0.pid≤s.made) && !false)=_
  rw[ht];simp
 have h1:cOk s 1=(!hO s s.c1 && !gY s.c1 s.c0):=by
  show (fF s.c1 && decide (s.c1.pid≤s.made) && !gY s.c1 s.c0)=_
  rw[ht]
 have h2:cOk s 2=(!hO s s.c2 && (!gY s.c2 s.c0 && !gY s.c2 s.c1)):=by
  show (fF s.c2 && decide (s.c2.pid≤s.made) && !aRb s 2)=_
  rw[ht,hw,Bool.not_or]
 unfold fG
 rw[hm,h0,h1,h2]
 simp only[GrpD.ls,List.all_cons,List.all_nil,Bool.and_true,aTc,Bool.not_not,Bool.and_assoc]
theorem aPs (s:StateD) (hs:SmallS s):aJ Tryz.prog 43 [.agg s.dv] (dC (fG s)):=by
 have c0:=aAr s.c0 hs.c0
 have c1:=aAr s.c1 hs.c1
 have c2:=aAr s.c2 hs.c2
 have hall:=aLq s
 simp only[CoordD.dv] at c0 c1 c2
 (refine aJ.of_body Tryz.func43 rfl rfl Tryz.ntmps43 Tryz.results43 (by simp) ?_)
 (refine gO (ai @StateD.dv.eq_1 (ai @CoordD.dv.eq_1 (@GrpD.dv.eq_1))) ?_;try with_reducible exact tt)
 (first|refine Wp.sto 18 (vb (oS s.made)) ?_ ?_|refine Wp.rtoS 18 (vb (oS s.made)) ?_ ?_|(refine Wp.seq ?_;first|refine Wp.sto 18 (vb (oS s.made)) ?_ ?_|refine Wp.rtoS 18 (vb (oS s.made)) ?_ ?_))
 ·unfold oS;((rcases Bool.eq_false_or_eq_true (decide (s.made<0)) with hL1|hL1)<;>(rcases Bool.eq_false_or_eq_true (decide (8<s.made)) with hL2|hL2)<;>(((refine rO (ai hL1 (ai hL2 (ai @StateD.dv.eq_1 (ai @CoordD.dv.eq_1 (@GrpD.dv.eq_1))))) ?_;try with_reducible exact tt);(repeat (refine aQ (by assumption) ?_;(refine rO (ai hL1 (ai hL2 (ai @StateD.dv.eq_1 (ai @CoordD.dv.eq_1 (@GrpD.dv.eq_1))))) ?_;try with_reducible exact tt))));all_goals (exact (show aH _ _=true by kernel_rfl))))
 refine Wp.cond (by (refine aK ?_;try with_reducible exact tt);rfl) (fun h=>?_) (fun h=>?_)
 ·have e:fG s=false:=by rw[hall,h];rfl
  (refine aI ?_;try with_reducible exact tt)
  (refine rO (e) ?_;try with_reducible exact tt)
 have k0:=h
 clear h
 (refine gO (ai @StateD.dv.eq_1 (ai @CoordD.dv.eq_1 (@GrpD.dv.eq_1))) ?_;try with_reducible exact tt)
 refine Wp.rounds 4 (aN.go ?_)
 (refine aI ?_;try with_reducible exact tt)
 (first|refine Wp.sto 34 (vb (hO s s.c0)) ?_ ?_|refine Wp.rtoS 34 (vb (hO s s.c0)) ?_ ?_|(refine Wp.seq ?_;first|refine Wp.sto 34 (vb (hO s s.c0)) ?_ ?_|refine Wp.rtoS 34 (vb (hO s s.c0)) ?_ ?_))
 ·unfold hO;((rcases Bool.eq_false_or_eq_true (!fF s.c0) with hL1|hL1)<;>(rcases Bool.eq_false_or_eq_true (decide (s.made<s.c0.pid)) with hL2|hL2)<;>(((refine rO (ai hL1 (hL2)) ?_;try with_reducible exact tt);(repeat (refine aQ (by assumption) ?_;(refine rO (ai hL1 (hL2)) ?_;try with_reducible exact tt))));all_goals (exact (show aH _ _=true by kernel_rfl))))
 refine Wp.cond (by (refine aK ?_;try with_reducible exact tt);rfl) (fun h=>?_) (fun h=>?_)
 ·have e:fG s=false:=by rw[hall,k0,h];rfl
  (refine aI ?_;try with_reducible exact tt)
  (refine rO (e) ?_;try with_reducible exact tt)
 have k1:=h
 clear h
 (refine aI ?_;try with_reducible exact tt)
 refine Wp.rounds 1 (aN.go ?_)
 (refine aI ?_;try with_reducible exact tt)
 (first|refine Wp.sto 34 (vb (hO s s.c1)) ?_ ?_|refine Wp.rtoS 34 (vb (hO s s.c1)) ?_ ?_|(refine Wp.seq ?_;first|refine Wp.sto 34 (vb (hO s s.c1)) ?_ ?_|refine Wp.rtoS 34 (vb (hO s s.c1)) ?_ ?_))
 ·unfold hO;((rcases Bool.eq_false_or_eq_true (!fF s.c1) with hL1|hL1)<;>(rcases Bool.eq_false_or_eq_true (decide (s.made<s.c1.pid)) with hL2|hL2)<;>(((refine rO (ai hL1 (hL2)) ?_;try with_reducible exact tt);(repeat (refine aQ (by assumption) ?_;(refine rO (ai hL1 (hL2)) ?_;try with_reducible exact tt))));all_goals (exact (show aH _ _=true by kernel_rfl))))
 refine Wp.cond (by (refine aK ?_;try with_reducible exact tt);rfl) (fun h=>?_) (fun h=>?_)
 ·have e:fG s=false:=by rw[hall,k0,k1,h];rfl
  (refine aI ?_;try with_reducible exact tt)
  (refine rO (e) ?_;try with_reducible exact tt)
 have k2:=h
 clear h
 (refine aI ?_;try with_reducible exact tt)
 refine Wp.rounds 2 (aN.go ?_)
 (refine aI ?_;try with_reducible exact tt)
 (first|refine Wp.sto 52 (vb (gY s.c1 s.c0)) ?_ ?_|refine Wp.rtoS 52 (vb (gY s.c1 s.c0)) ?_ ?_|(refine Wp.seq ?_;first|refine Wp.sto 52 (vb (gY s.c1 s.c0)) ?_ ?_|refine Wp.rtoS 52 (vb (gY s.c1 s.c0)) ?_ ?_))
 ·unfold gY;((rcases Bool.eq_false_or_eq_true (s.c1.pid != 0) with hL1|hL1)<;>(rcases Bool.eq_false_or_eq_true (s.c0.pid == s.c1.pid) with hL2|hL2)<;>(((refine rO (ai hL1 (hL2)) ?_;try with_reducible exact tt);(repeat (refine aQ (by assumption) ?_;(refine rO (ai hL1 (hL2)) ?_;try with_reducible exact tt))));all_goals (exact (show aH _ _=true by kernel_rfl))))
 refine Wp.cond (by (refine aK ?_;try with_reducible exact tt);rfl) (fun h=>?_) (fun h=>?_)
 ·have e:fG s=false:=by rw[hall,k0,k1,k2,h];rfl
  (refine aI ?_;try with_reducible exact tt)
  (refine rO (e) ?_;try with_reducible exact tt)
 have k3:=h
 clear h
 (refine aI ?_;try with_reducible exact tt)
 (first|refine Wp.sto 34 (vb (hO s s.c2)) ?_ ?_|refine Wp.rtoS 34 (vb (hO s s.c2)) ?_ ?_|(refine Wp.seq ?_;first|refine Wp.sto 34 (vb (hO s s.c2)) ?_ ?_|refine Wp.rtoS 34 (vb (hO s s.c2)) ?_ ?_))
 ·unfold hO;((rcases Bool.eq_false_or_eq_true (!fF s.c2) with hL1|hL1)<;>(rcases Bool.eq_false_or_eq_true (decide (s.made<s.c2.pid)) with hL2|hL2)<;>(((refine rO (ai hL1 (hL2)) ?_;try with_reducible exact tt);(repeat (refine aQ (by assumption) ?_;(refine rO (ai hL1 (hL2)) ?_;try with_reducible exact tt))));all_goals (exact (show aH _ _=true by kernel_rfl))))
 refine Wp.cond (by (refine aK ?_;try with_reducible exact tt);rfl) (fun h=>?_) (fun h=>?_)
 ·have e:fG s=false:=by rw[hall,k0,k1,k2,k3,h];rfl
  (refine aI ?_;try with_reducible exact tt)
  (refine rO (e) ?_;try with_reducible exact tt)
 have k4:=h
 clear h
 (refine aI ?_;try with_reducible exact tt)
 refine Wp.rounds 3 (aN.go ?_)
 (refine aI ?_;try with_reducible exact tt)
 (first|refine Wp.sto 52 (vb (gY s.c2 s.c0)) ?_ ?_|refine Wp.rtoS 52 (vb (gY s.c2 s.c0)) ?_ ?_|(refine Wp.seq ?_;first|refine Wp.sto 52 (vb (gY s.c2 s.c0)) ?_ ?_|refine Wp.rtoS 52 (vb (gY s.c2 s.c0)) ?_ ?_))
 ·unfold gY;((rcases Bool.eq_false_or_eq_true (s.c2.pid != 0) with hL1|hL1)<;>(rcases Bool.eq_false_or_eq_true (s.c0.pid == s.c2.pid) with hL2|hL2)<;>(((refine rO (ai hL1 (hL2)) ?_;try with_reducible exact tt);(repeat (refine aQ (by assumption) ?_;(refine rO (ai hL1 (hL2)) ?_;try with_reducible exact tt))));all_goals (exact (show aH _ _=true by kernel_rfl))))
 refine Wp.cond (by (refine aK ?_;try with_reducible exact tt);rfl) (fun h=>?_) (fun h=>?_)
 ·have e:fG s=false:=by rw[hall,k0,k1,k2,k3,k4,h];rfl
  (refine aI ?_;try with_reducible exact tt)
  (refine rO (e) ?_;try with_reducible exact tt)
 have k5:=h
 clear h
 (refine aI ?_;try with_reducible exact tt)
 (first|refine Wp.sto 52 (vb (gY s.c2 s.c1)) ?_ ?_|refine Wp.rtoS 52 (vb (gY s.c2 s.c1)) ?_ ?_|(refine Wp.seq ?_;first|refine Wp.sto 52 (vb (gY s.c2 s.c1)) ?_ ?_|refine Wp.rtoS 52 (vb (gY s.c2 s.c1)) ?_ ?_))
 ·unfold gY;((rcases Bool.eq_false_or_eq_true (s.c2.pid != 0) with hL1|hL1)<;>(rcases Bool.eq_false_or_eq_true (s.c1.pid == s.c2.pid) with hL2|hL2)<;>(((refine rO (ai hL1 (hL2)) ?_;try with_reducible exact tt);(repeat (refine aQ (by assumption) ?_;(refine rO (ai hL1 (hL2)) ?_;try with_reducible exact tt))));all_goals (exact (show aH _ _=true by kernel_rfl))))
 refine Wp.cond (by (refine aK ?_;try with_reducible exact tt);rfl) (fun h=>?_) (fun h=>?_)
 ·have e:fG s=false:=by rw[hall,k0,k1,k2,k3,k4,k5,h];rfl
  (refine aI ?_;try with_reducible exact tt)
  (refine rO (e) ?_;try with_reducible exact tt)
 have k6:=h
 clear h
 (refine aI ?_;try with_reducible exact tt)
 refine Wp.rounds 3 (aN.go ?_)
 (refine aI ?_;try with_reducible exact tt)
 refine Wp.rounds 4 (aN.go ?_)
 (refine aI ?_;try with_reducible exact tt)
 (first|refine Wp.sto 69 (vb (cT s.gr.a0)) ?_ ?_|refine Wp.rtoS 69 (vb (cT s.gr.a0)) ?_ ?_|(refine Wp.seq ?_;first|refine Wp.sto 69 (vb (cT s.gr.a0)) ?_ ?_|refine Wp.rtoS 69 (vb (cT s.gr.a0)) ?_ ?_))
 ·unfold cT;((rcases Bool.eq_false_or_eq_true (decide (s.gr.a0 < -1)) with hL1|hL1)<;>(rcases Bool.eq_false_or_eq_true (decide (1048576<s.gr.a0)) with hL2|hL2)<;>(((refine rO (ai hL1 (hL2)) ?_;try with_reducible exact tt);(repeat (refine aQ (by assumption) ?_;(refine rO (ai hL1 (hL2)) ?_;try with_reducible exact tt))));all_goals (exact (show aH _ _=true by kernel_rfl))))
 refine Wp.cond (by (refine aK ?_;try with_reducible exact tt);rfl) (fun h=>?_) (fun h=>?_)
 ·have e:fG s=false:=by rw[hall,k0,k1,k2,k3,k4,k5,k6,h];rfl
  (refine aI ?_;try with_reducible exact tt)
  (refine rO (e) ?_;try with_reducible exact tt)
 have k7:=h
 clear h
 (refine aI ?_;try with_reducible exact tt)
 (first|refine Wp.sto 69 (vb (cT s.gr.a1)) ?_ ?_|refine Wp.rtoS 69 (vb (cT s.gr.a1)) ?_ ?_|(refine Wp.seq ?_;first|refine Wp.sto 69 (vb (cT s.gr.a1)) ?_ ?_|refine Wp.rtoS 69 (vb (cT s.gr.a1)) ?_ ?_))
 ·unfold cT;((rcases Bool.eq_false_or_eq_true (decide (s.gr.a1 < -1)) with hL1|hL1)<;>(rcases Bool.eq_false_or_eq_true (decide (1048576<s.gr.a1)) with hL2|hL2)<;>(((refine rO (ai hL1 (hL2)) ?_;try with_reducible exact tt);(repeat (refine aQ (by assumption) ?_;(refine rO (ai hL1 (hL2)) ?_;try with_reducible exact tt))));all_goals (exact (show aH _ _=true by kernel_rfl))))
 refine Wp.cond (by (refine aK ?_;try with_reducible exact tt);rfl) (fun h=>?_) (fun h=>?_)
 ·have e:fG s=false:=by rw[hall,k0,k1,k2,k3,k4,k5,k6,k7,h];rfl
  (refine aI ?_;try with_reducible exact tt)
  (refine rO (e) ?_;try with_reducible exact tt)
 have k8:=h
 clear h
 (refine aI ?_;try with_reducible exact tt)
 (first|refine Wp.sto 69 (vb (cT s.gr.a2)) ?_ ?_|refine Wp.rtoS 69 (vb (cT s.gr.a2)) ?_ ?_|(refine Wp.seq ?_;first|refine Wp.sto 69 (vb (cT s.gr.a2)) ?_ ?_|refine Wp.rtoS 69 (vb (cT s.gr.a2)) ?_ ?_))
 ·unfold cT;((rcases Bool.eq_false_or_eq_true (decide (s.gr.a2 < -1)) with hL1|hL1)<;>(rcases Bool.eq_false_or_eq_true (decide (1048576<s.gr.a2)) with hL2|hL2)<;>(((refine rO (ai hL1 (hL2)) ?_;try with_reducible exact tt);(repeat (refine aQ (by assumption) ?_;(refine rO (ai hL1 (hL2)) ?_;try with_reducible exact tt))));all_goals (exact (show aH _ _=true by kernel_rfl))))
 refine Wp.cond (by (refine aK ?_;try with_reducible exact tt);rfl) (fun h=>?_) (fun h=>?_)
 ·have e:fG s=false:=by rw[hall,k0,k1,k2,k3,k4,k5,k6,k7,k8,h];rfl
  (refine aI ?_;try with_reducible exact tt)
  (refine rO (e) ?_;try with_reducible exact tt)
 have k9:=h
 clear h
 (refine aI ?_;try with_reducible exact tt)
 refine Wp.rounds 4 (aN.go ?_)
 (refine aI ?_;try with_reducible exact tt)
 (first|refine Wp.sto 69 (vb (cT s.gr.b0)) ?_ ?_|refine Wp.rtoS 69 (vb (cT s.gr.b0)) ?_ ?_|(refine Wp.seq ?_;first|refine Wp.sto 69 (vb (cT s.gr.b0)) ?_ ?_|refine Wp.rtoS 69 (vb (cT s.gr.b0)) ?_ ?_))
 ·unfold cT;((rcases Bool.eq_false_or_eq_true (decide (s.gr.b0 < -1)) with hL1|hL1)<;>(rcases Bool.eq_false_or_eq_true (decide (1048576<s.gr.b0)) with hL2|hL2)<;>(((refine rO (ai hL1 (hL2)) ?_;try with_reducible exact tt);(repeat (refine aQ (by assumption) ?_;(refine rO (ai hL1 (hL2)) ?_;try with_reducible exact tt))));all_goals (exact (show aH _ _=true by kernel_rfl))))
 refine Wp.cond (by (refine aK ?_;try with_reducible exact tt);rfl) (fun h=>?_) (fun h=>?_)
 ·have e:fG s=false:=by rw[hall,k0,k1,k2,k3,k4,k5,k6,k7,k8,k9,h];rfl
  (refine aI ?_;try with_reducible exact tt)
  (refine rO (e) ?_;try with_reducible exact tt)
 have k10:=h
 clear h
 (refine aI ?_;try with_reducible exact tt)
 (first|refine Wp.sto 69 (vb (cT s.gr.b1)) ?_ ?_|refine Wp.rtoS 69 (vb (cT s.gr.b1)) ?_ ?_|(refine Wp.seq ?_;first|refine Wp.sto 69 (vb (cT s.gr.b1)) ?_ ?_|refine Wp.rtoS 69 (vb (cT s.gr.b1)) ?_ ?_))
 ·unfold cT;((rcases Bool.eq_false_or_eq_true (decide (s.gr.b1 < -1)) with hL1|hL1)<;>(rcases Bool.eq_false_or_eq_true (decide (1048576<s.gr.b1)) with hL2|hL2)<;>(((refine rO (ai hL1 (hL2)) ?_;try with_reducible exact tt);(repeat (refine aQ (by assumption) ?_;(refine rO (ai hL1 (hL2)) ?_;try with_reducible exact tt))));all_goals (exact (show aH _ _=true by kernel_rfl))))
 refine Wp.cond (by (refine aK ?_;try with_reducible exact tt);rfl) (fun h=>?_) (fun h=>?_)
 ·have e:fG s=false:=by rw[hall,k0,k1,k2,k3,k4,k5,k6,k7,k8,k9,k10,h];rfl
  (refine aI ?_;try with_reducible exact tt)
  (refine rO (e) ?_;try with_reducible exact tt)
 have k11:=h
 clear h
 (refine aI ?_;try with_reducible exact tt)
 (first|refine Wp.sto 69 (vb (cT s.gr.b2)) ?_ ?_|refine Wp.rtoS 69 (vb (cT s.gr.b2)) ?_ ?_|(refine Wp.seq ?_;first|refine Wp.sto 69 (vb (cT s.gr.b2)) ?_ ?_|refine Wp.rtoS 69 (vb (cT s.gr.b2)) ?_ ?_))
 ·unfold cT;((rcases Bool.eq_false_or_eq_true (decide (s.gr.b2 < -1)) with hL1|hL1)<;>(rcases Bool.eq_false_or_eq_true (decide (1048576<s.gr.b2)) with hL2|hL2)<;>(((refine rO (ai hL1 (hL2)) ?_;try with_reducible exact tt);(repeat (refine aQ (by assumption) ?_;(refine rO (ai hL1 (hL2)) ?_;try with_reducible exact tt))));all_goals (exact (show aH _ _=true by kernel_rfl))))
 refine Wp.cond (by (refine aK ?_;try with_reducible exact tt);rfl) (fun h=>?_) (fun h=>?_)
 ·have e:fG s=false:=by rw[hall,k0,k1,k2,k3,k4,k5,k6,k7,k8,k9,k10,k11,h];rfl
  (refine aI ?_;try with_reducible exact tt)
  (refine rO (e) ?_;try with_reducible exact tt)
 have k12:=h
 clear h
 (refine aI ?_;try with_reducible exact tt)
 have e:fG s=true:=by rw[hall,k0,k1,k2,k3,k4,k5,k6,k7,k8,k9,k10,k11,k12];rfl
 (refine rO (e) ?_;try with_reducible exact tt)
end Go.Proofs.YtkmfmphpndhkjaaGreatDoor
