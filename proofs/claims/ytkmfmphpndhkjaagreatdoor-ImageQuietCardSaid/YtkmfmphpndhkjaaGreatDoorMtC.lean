/- Package meta: Same;equality of arrays. -/
import Derived.Test.YtkmfmphpndhkjaaGreatDoorMtM
namespace Go.Proofs.YtkmfmphpndhkjaaGreatDoor
open Go Go.RowKit
set_option maxHeartbeats 8000000
set_option maxRecDepth 100000
set_option linter.unusedVariables false
set_option linter.unusedSimpArgs false
section
variable {P:Program} {d:Nat} {t:TypeId}
def yO (P:Program) (d e s:Nat) (xs ys:Array Value):List Nat→Option Bool
 | []=>some true
 | i::l=>match aT P (part e xs (i*s)),aT P (part e ys (i*s)) with
  | some x,some y=>match aT P (Op.equalIn d e x y) with
   | some true=>yO P d e s xs ys l
   | some false=>some false
   | none=>none
  | _,_=>none
theorem aH0 {e s:Nat} {xs ys:Array Value}:∀ {l:List Nat} {q:Bool},yO P d e s xs ys l=some q →
  aT P (forIn l ((none,()):Option Bool × Unit) fun i _=>do
    let x ← part e xs (i*s)
    let y ← part e ys (i*s)
    let r ← Op.equalIn d e x y
    if (!r)=true then pure (ForInStep.done (some false,())) else pure (ForInStep.yield (none,())))=some (if q then (none,()) else (some false,()))
 | [],q,h=>by
  simp only[yO,Option.some.injEq] at h;subst h
  rw[List.forIn_nil];rfl
 | i::l,q,h=>by
  unfold yO at h
  rw[List.forIn_cons,aM]
  split at h
  ·rename_i x y hx hy
   split at h
   ·rename_i he
    rw[aM,hx];simp only
    rw[aM,hy];simp only
    rw[aM,he];simp only[Bool.not_true,Bool.false_eq_true,if_false]
    exact aH0 h
   ·rename_i he
    simp only[Option.some.injEq] at h;subst h
    rw[aM,hx];simp only
    rw[aM,hy];simp only
    rw[aM,he];simp only[Bool.not_false,if_true];rfl
   ·cases h
  ·cases h
theorem aA3 {n e s:Nat} {xs ys:Array Value} {q:Bool} (hu:P.underlying t=some (.array n e)) (hs:aT P (sizeOf e)=some s) (h:yO P d e s xs ys (List.range n)=some q):aT P (Op.equalIn (d+1) t (.agg xs) (.agg ys))=some q:=by
 unfold Op.equalIn;rw[aM,eW hu]
 simp only
 rw[aM,hs]
 simp only
 rw[aM,Std.Legacy.Range.forIn_eq_forIn_range']
 have hr:List.range' 0 (Std.Legacy.Range.size [0:n]) 1=List.range n:=by
  rw[List.range_eq_range'];simp[Std.Legacy.Range.size]
 rw[hr,aH0 h]
 cases q<;>rfl
theorem aRq {x y:Operand} {xs ys:Array Value} {q:Bool} (hg:P.eqGuardType P.depth t=false) (h:aT P (Op.equalIn 10000 t (.agg xs) (.agg ys))=some q) :
  sc P (do eqGuard .eql t x y (.agg xs) (.agg ys);binOp .eql t (.agg xs) (.agg ys))=some (Res.pure (vb q)):=by
 have e0:aT P (Op.equal t (.agg xs) (.agg ys))=some q:=h
 have eg:aT P (eqGuard .eql t x y (.agg xs) (.agg ys))=some ():=by
  unfold eqGuard
  simp[aM,pY,hg];rfl
 exact pU (op:=.eql) eg e0 (.inl ⟨rfl,rfl⟩)
end
theorem eq3 (d:Nat) (a b c x y z:Int):aT Tryz.prog (Op.equalIn (d+2) 34 (.agg #[.int .i64 a,.int .i64 b,.int .i64 c]) (.agg #[.int .i64 x,.int .i64 y,.int .i64 z]))=some (a == x && (b == y && c == z)):=by
 have ii:aT Tryz.prog (isAgg 3)=some false:=by kernel_rfl
 have si:=fun x y=>uW (d:=d) Tryz.underlying3 .i64 x y
 refine aA3 (s:=1) Tryz.underlying34 (by kernel_rfl) ?_
 have p:∀ (u v w:Value) (k:Nat) (r:Value),(#[u,v,w]:Array Value)[k]? = some r→aT Tryz.prog (part 3 #[u,v,w] k)=some r:=fun u v w k r h=>lC ii h
 show yO Tryz.prog (d+1) 3 1 _ _ [0,1,2]=_
 unfold yO
 rw[p _ _ _ (0*1) (.int .i64 a) rfl,p _ _ _ (0*1) (.int .i64 x) rfl]
 simp only
 rw[si a x]
 cases h1:(a == x)
 ·rfl
 simp only
 unfold yO
 rw[p _ _ _ (1*1) (.int .i64 b) rfl,p _ _ _ (1*1) (.int .i64 y) rfl]
 simp only
 rw[si b y]
 cases h2:(b == y)
 ·rfl
 simp only
 unfold yO
 rw[p _ _ _ (2*1) (.int .i64 c) rfl,p _ _ _ (2*1) (.int .i64 z) rfl]
 simp only
 rw[si c z]
 cases h3:(c == z)<;>rfl
theorem eq6 (a b:GrpD):aT Tryz.prog (Op.equalIn 10000 35 (.agg #[.int .i64 a.a0,.int .i64 a.a1,.int .i64 a.a2,.int .i64 a.b0,.int .i64 a.b1,.int .i64 a.b2]) (.agg #[.int .i64 b.a0,.int .i64 b.a1,.int .i64 b.a2,.int .i64 b.b0,.int .i64 b.b1,.int .i64 b.b2]))=some (decide (a=b)):=by
 have ii:aT Tryz.prog (isAgg 34)=some true:=by kernel_rfl
 have iz:aT Tryz.prog (sizeOf 34)=some 3:=by kernel_rfl
 have e:decide (a=b)=((a.a0 == b.a0 && (a.a1 == b.a1 && a.a2 == b.a2)) && (a.b0 == b.b0 && (a.b1 == b.b1 && a.b2 == b.b2))):=by
  obtain⟨a1,a2,a3,a4,a5,a6⟩:=a
  obtain⟨b1,b2,b3,b4,b5,b6⟩:=b
  rw[Bool.eq_iff_iff]
  simp only[Bool.and_eq_true,beq_iff_eq,decide_eq_true_eq,GrpD.mk.injEq,and_assoc]
 rw[e]
 refine aA3 (d:=9999) (s:=3) Tryz.underlying35 iz ?_
 have p:∀ (cs:Array Value) (k:Nat),aT Tryz.prog (part 34 cs k)=some (.agg (cs.extract k (k+3))):=fun cs k=>by
  unfold part;rw[aM,ii];simp only[if_true];rw[aM,iz];rfl
 show yO Tryz.prog 9999 34 3 _ _ [0,1]=_
 unfold yO
 rw[p,p]
 simp only
 have q1:=eq3 9997 a.a0 a.a1 a.a2 b.a0 b.a1 b.a2
 have q2:=eq3 9997 a.b0 a.b1 a.b2 b.b0 b.b1 b.b2
 simp only[Nat.reduceAdd] at q1 q2
 rw[show ∀ u0 u1 u2 u3 u4 u5:Value,(#[u0,u1,u2,u3,u4,u5]:Array Value).extract (0*3) (0*3+3) = #[u0,u1,u2] from fun _ _ _ _ _ _=>rfl,show ∀ u0 u1 u2 u3 u4 u5:Value,(#[u0,u1,u2,u3,u4,u5]:Array Value).extract (0*3) (0*3+3) = #[u0,u1,u2] from fun _ _ _ _ _ _=>rfl,q1]
 cases h1:(a.a0 == b.a0 && (a.a1 == b.a1 && a.a2 == b.a2))
 ·rfl
 simp only
 unfold yO
 rw[p,p]
 simp only
 rw[show ∀ u0 u1 u2 u3 u4 u5:Value,(#[u0,u1,u2,u3,u4,u5]:Array Value).extract (1*3) (1*3+3) = #[u3,u4,u5] from fun _ _ _ _ _ _=>rfl,show ∀ u0 u1 u2 u3 u4 u5:Value,(#[u0,u1,u2,u3,u4,u5]:Array Value).extract (1*3) (1*3+3) = #[u3,u4,u5] from fun _ _ _ _ _ _=>rfl,q2]
 cases h2:(a.b0 == b.b0 && (a.b1 == b.b1 && a.b2 == b.b2))<;>rfl
theorem aLj (x y:Operand) (a b:GrpD):gG Tryz.prog .eql 35 x y (.agg [.d (int a.a0),.d (int a.a1),.d (int a.a2),.d (int a.b0),.d (int a.b1),.d (int a.b2)]) (.agg [.d (int b.a0),.d (int b.a1),.d (int b.a2),.d (int b.b0),.d (int b.b1),.d (int b.b2)])=some (Res.pure (vb (decide (a=b)))) :=
 aRq (by kernel_rfl) (eq6 a b)
def qM (a b:StateD):Bool:=decide (a.c0=b.c0) && (decide (a.c1=b.c1) && (decide (a.c2=b.c2) && (a.made == b.made && decide (a.gr=b.gr))))
theorem aM0 (a b:StateD):qM a b=decide (a=b):=by
 obtain⟨a1,a2,a3,a4,a5⟩:=a
 obtain⟨b1,b2,b3,b4,b5⟩:=b
 rw[Bool.eq_iff_iff]
 simp only[qM,Bool.and_eq_true,beq_iff_eq,decide_eq_true_eq,StateD.mk.injEq]
 constructor
 ·rintro⟨h1,h2,h3,h4,h5⟩;exact⟨h4,h1,h2,h3,h5⟩
 ·rintro⟨h4,h1,h2,h3,h5⟩;exact⟨h1,h2,h3,h4,h5⟩
theorem aO7 (a b:StateD) (hs:SmallS a):aJ Tryz.prog 62 [.agg a.dv,.agg b.dv] (dC (decide (a=b))):=by
 have c0:=sL a.c0 b.c0 hs.c0
 have c1:=sL a.c1 b.c1 hs.c1
 have c2:=sL a.c2 b.c2 hs.c2
 rw[← aM0]
 simp only[CoordD.dv] at c0 c1 c2
 (refine aJ.of_body Tryz.func62 rfl rfl Tryz.ntmps62 Tryz.results62 (by simp) ?_)
 (refine gO (ai @StateD.dv.eq_1 (ai @CoordD.dv.eq_1 (@GrpD.dv.eq_1))) ?_;try with_reducible exact tt)
 refine Wp.rounds 4 (aN.go ?_)
 cases h0:decide (a.c0=b.c0) with
 | false =>
  have e:qM a b=false:=by unfold qM;rw[h0];rfl
  (refine gO (h0) ?_;try with_reducible exact tt)
  (refine rO (e) ?_;try with_reducible exact tt)
 | true =>
 cases h1:decide (a.c1=b.c1) with
 | false =>
  have e:qM a b=false:=by unfold qM;rw[h0,h1];rfl
  (refine gO (ai h0 (h1)) ?_;try with_reducible exact tt)
  (refine rO (e) ?_;try with_reducible exact tt)
 | true =>
 cases h2:decide (a.c2=b.c2) with
 | false =>
  have e:qM a b=false:=by unfold qM;rw[h0,h1,h2];rfl
  (refine gO (ai h0 (ai h1 (h2))) ?_;try with_reducible exact tt)
  (refine rO (e) ?_;try with_reducible exact tt)
 | true =>
  have e:qM a b=(a.made == b.made && decide (a.gr=b.gr)):=by unfold qM;rw[h0,h1,h2];rfl
  rw[e]
  have gb:=fun x y=>aLj x y a.gr b.gr
  (refine gO (ai h0 (ai h1 (h2))) ?_;try with_reducible exact tt)
  (first|refine Wp.sto 4 (vb (a.made == b.made && decide (a.gr=b.gr))) ?_ ?_|refine Wp.rtoS 4 (vb (a.made == b.made && decide (a.gr=b.gr))) ?_ ?_|(refine Wp.seq ?_;first|refine Wp.sto 4 (vb (a.made == b.made && decide (a.gr=b.gr))) ?_ ?_|refine Wp.rtoS 4 (vb (a.made == b.made && decide (a.gr=b.gr))) ?_ ?_))
  ·((rcases Bool.eq_false_or_eq_true (a.made == b.made) with hL1|hL1)<;>(rcases Bool.eq_false_or_eq_true (decide (a.gr=b.gr)) with hL2|hL2)<;>(((refine rO (ai hL1 (ai hL2 (ai @StateD.dv.eq_1 (ai @CoordD.dv.eq_1 (ai @GrpD.dv.eq_1 (gb)))))) ?_;try with_reducible exact tt);(repeat (refine aQ (by assumption) ?_;(refine rO (ai hL1 (ai hL2 (ai @StateD.dv.eq_1 (ai @CoordD.dv.eq_1 (ai @GrpD.dv.eq_1 (gb)))))) ?_;try with_reducible exact tt))));all_goals (exact (show aH _ _=true by kernel_rfl))))
  (refine aI ?_;try with_reducible exact tt)
  (refine aK ?_;try with_reducible exact tt)
end Go.Proofs.YtkmfmphpndhkjaaGreatDoor
