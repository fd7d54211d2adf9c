/- The abstract machine (StA, StB). -/
import Derived.Test.YtkmfmphpndhkjaaGreatDoorImA
import Derived.Test.YtkmfmphpndhkjaaGreatDoorTbM
import Derived.Test.YtkmfmphpndhkjaaGreatDoorMacC
import Derived.Test.YtkmfmphpndhkjaaGreatDoorApA
namespace Go.Proofs.YtkmfmphpndhkjaaGreatDoor
open Go Go.RowKit
set_option maxHeartbeats 8000000
set_option maxRecDepth 100000
set_option linter.unusedVariables false
set_option linter.unusedSimpArgs false
theorem aOn (f g:PendD):∃ fs,Tryz.prog.underlying 54=some (.struct fs)∧uV Tryz.prog 9999 #[.int .i64 f.grp,.int .i64 f.part,.int .i64 f.off] #[.int .i64 g.grp,.int .i64 g.part,.int .i64 g.off] fs.toList=some (decide (f=g)):=by
 refine⟨_,Tryz.underlying54,?_⟩
 have ii:aT Tryz.prog (isAgg 3)=some false:=by kernel_rfl
 have si:=fun x y=>uW (d:=9998) Tryz.underlying3 .i64 x y
 simp only[Nat.reduceAdd] at si
 obtain⟨a1,a2,a3⟩:=f
 obtain⟨b1,b2,b3⟩:=g
 have e:decide (PendD.mk a1 a2 a3=PendD.mk b1 b2 b3)=(a1 == b1 && (a2 == b2 && (a3 == b3))):=by rw[Bool.eq_iff_iff];simp only[PendD.mk.injEq,Bool.and_eq_true,beq_iff_eq,decide_eq_true_eq]
 rw[e]
 cases h1:(a1 == b1)<;>cases h2:(a2 == b2)<;>cases h3:(a3 == b3)<;>simp[uV,ii,si,aEd,h1,h2,h3]
theorem aCs (x y:Operand) (f g:PendD):gG Tryz.prog .eql 54 x y (.agg [.d (int f.grp),.d (int f.part),.d (int f.off)]) (.agg [.d (int g.grp),.d (int g.part),.d (int g.off)])=some (Res.pure (vb (decide (f=g))))∧gG Tryz.prog .neq 54 x y (.agg [.d (int f.grp),.d (int f.part),.d (int f.off)]) (.agg [.d (int g.grp),.d (int g.part),.d (int g.off)])=some (Res.pure (vb (!decide (f=g)))):=by
 obtain⟨fs,hu,he⟩:=aOn f g
 exact yX hu (by kernel_rfl) (by kernel_rfl) he
theorem aEs (a b:List PendD) (hl:a.length≤100000):aJ Tryz.prog 133 [.lst 3 (a.map PendD.dv),.lst 3 (b.map PendD.dv)] (dC (decide (a=b))):=by
 (refine aJ.of_body Tryz.func133 rfl rfl Tryz.ntmps133 Tryz.results133 (by simp) ?_)
 by_cases hlen:a.length=b.length
 ·have hne:((a.length:Int) != (b.length:Int))=false:=by simp[hlen]
  (refine gO (hne) ?_;try with_reducible exact tt)
  refine Wp.loop (fun k:Nat=>⟨dI [(0,.c (.d (.lst 3 (a.map PendD.dv)))),(1,.c (.d (.lst 3 (b.map PendD.dv)))),(12,vi .i64 a.length),(13,vi .i64 k)],bJ [],0,26,0⟩) (fun k=>k≤a.length∧a.take k=b.take k) (fun k=>a.length - k) 0 ⟨Nat.zero_le _,rfl⟩ ?_ ?_
  ·refine aD.keep rfl rfl ?_
   (refine aK ?_;try with_reducible exact tt)
  rintro k ⟨hk,hall⟩
  (refine aI ?_;try with_reducible exact tt)
  refine Wp.cond (by (refine aK ?_;try with_reducible exact tt);rfl) (fun h=>?_) (fun h=>?_)
  ·have hlt:k<a.length:=by simpa using h
   have hlt2:k<b.length:=by omega
   have g1:a[k]? = some a[k]:=List.getElem?_eq_getElem hlt
   have g2:b[k]? = some b[k]:=List.getElem?_eq_getElem hlt2
   have t1:=aF a k hlt
   have t2:=aF b k hlt2
   have hne:a[k]≠b[k]→¬ a=b:=fun hx e=>by subst e;exact hx rfl
   generalize a[k]=x at *
   generalize b[k]=y at *
   (repeat (first|apply Wp.skip|apply Wp.exit|apply Wp.ret|apply Wp.block|apply Wp.label|((first|refine Wp.sreg (fun K hK=>?_)|refine Wp.reg (fun K hK=>?_)|refine Wp.sdrw aA (fun K hK=>?_)|refine Wp.drw aA (fun K hK=>?_)|refine Wp.condG (fun K hK hF=>?_));(repeat (revert hK;intro hK;simp (maxSteps:=2000000) (disch:=omega) only[bF,TY,aL,bQ,cD,SV.ofD,bW,cF,bX,fB,bK,fC,eQ,cQ,cL,dO,eZ,eY,fA,CV.exact,CV.lstOf,CV.lenOf,CV.one,D.one,Value.oneCell',CV.toD0,fS,cC,dU,eV,rD0,eS,eO,fT,reduceCtorEq,reduceIte,Nat.reduceBEq,Nat.reduceEqDiff,Nat.reduceAdd,Nat.reduceMul,Nat.reduceSub,Nat.reduceLT,Nat.reduceLeDiff,Nat.reduceBNe,Int.reduceLE,Int.reduceLT,Int.reduceBEq,Int.reduceBNe,Int.reduceEq,Int.reduceNeg,Int.reduceAdd,Int.reduceSub,Int.reduceToNat,forall_const,g1,g2,PendD.dv,aCs];(first|(refine hK _ ?_;clear hK K)|(refine⟨by kernel_rfl,hK _ ?_⟩;clear hK K)|(refine hK ?_;clear hK hF K)|(refine hF ?_;clear hK hF K)|refine aQ (by assumption) ?_|refine gJ (by assumption) ?_)));fail_if_success (revert hK;intro hK))|apply Wp.seq))
   refine Wp.cond (by (refine aK ?_;try with_reducible exact tt);rfl) (fun h=>?_) (fun h=>?_)
   ·have hf:decide (a=b)=false:=decide_eq_false (hne (by simpa using h))
    (refine aI ?_;try with_reducible exact tt)
    (refine rO (hf) ?_;try with_reducible exact tt)
   ·simp only[Bool.not_eq_false',decide_eq_true_eq] at h
    (refine aI ?_;try with_reducible exact tt)
    refine⟨k+1,⟨by omega,by rw[t1,t2,hall,h]⟩,by omega,aD.keep rfl rfl ?_⟩
    (refine aK ?_;try with_reducible exact tt)
  ·have hk:k=a.length:=by simp only[decide_eq_false_iff_not] at h;omega
   have hf:decide (a=b)=true:=by
    rw[List.take_of_length_le (by omega),List.take_of_length_le (by omega)] at hall;simp[hall]
   (refine aI ?_;try with_reducible exact tt)
   (refine rO (hf) ?_;try with_reducible exact tt)
 ·have hne:((a.length:Int) != (b.length:Int))=true:=by simp;omega
  have hf:decide (a=b)=false:=decide_eq_false (fun e=>hlen (by rw[e]))
  (refine gO (hne) ?_;try with_reducible exact tt)
  (refine rO (hf) ?_;try with_reducible exact tt)
theorem aDg (n:Int):aJ Tryz.prog 139 [int n] (dC false):=by
 (refine aJ.of_body Tryz.func139 rfl rfl Tryz.ntmps139 Tryz.results139 (by simp) ?_)
 (refine gO (@bne_self_eq_false.{0}) ?_;try with_reducible exact tt)
 (refine aK ?_;try with_reducible exact tt)
def qW (a b:Int):Int:=if a<b then -1 else if b<a then 1 else 0
theorem rA (a b:Int):aJ Tryz.prog 166 [int a,int b] (int (qW a b)):=by
 have c1:=aDg a
 have c2:=aDg b
 (refine aJ.of_body Tryz.func166 rfl rfl Tryz.ntmps166 Tryz.results166 (by simp) ?_)
 (refine aI ?_;try with_reducible exact tt)
 refine Wp.cond (by (refine aK ?_;try with_reducible exact tt);rfl) (fun h=>?_) (fun h=>?_)
 ·have e:qW a b = -1:=by unfold qW;rw[if_pos (by simpa using h)]
  (refine aI ?_;try with_reducible exact tt)
  (refine rO (e) ?_;try with_reducible exact tt)
 ·have h1:¬ a<b:=by simpa using h
  (refine aI ?_;try with_reducible exact tt)
  refine Wp.cond (by (refine aK ?_;try with_reducible exact tt);rfl) (fun h=>?_) (fun h=>?_)
  ·have e:qW a b=1:=by unfold qW;rw[if_neg h1,if_pos (by simpa using h)]
   (refine aI ?_;try with_reducible exact tt)
   (refine rO (e) ?_;try with_reducible exact tt)
  ·have e:qW a b=0:=by unfold qW;rw[if_neg h1,if_neg (by simpa using h)]
   (refine aI ?_;try with_reducible exact tt)
   (refine rO (e) ?_;try with_reducible exact tt)
theorem aUy (a b:Int):aJ Tryz.prog 167 [.lst 1 [[int a],[int b]]] (int (if a=0 then b else a)):=by
 (refine aJ.of_body Tryz.func167 rfl rfl Tryz.ntmps167 Tryz.results167 (by simp) ?_)
 (refine aI ?_;try with_reducible exact tt)
 refine Wp.loop (fun k:Nat=>⟨dI [(3,vi .i64 0),(6,.c (.d (.lst 1 [[int a],[int b]]))),(7,vi .i64 2),(8,vi .i64 k)],bJ [],0,18,0⟩) (fun k=>k≤2∧(1≤k→a=0)∧(2≤k→b=0)) (fun k=>2 - k) 0 ⟨by omega,by omega,by omega⟩ ?_ ?_
 ·refine aD.keep rfl rfl ?_
  (refine aK ?_;try with_reducible exact tt)
 rintro k ⟨hk,ha,hb⟩
 rcases (show k=0∨k=1∨k=2 by omega) with rfl|rfl|rfl
 ·(refine aI ?_;try with_reducible exact tt)
  refine Wp.cond (by (refine aK ?_;try with_reducible exact tt);rfl) (fun h=>?_) (fun h=>?_)
  ·have e:(if a=0 then b else a)=a:=if_neg (by simpa using h)
   (refine aI ?_;try with_reducible exact tt)
   (refine rO (e) ?_;try with_reducible exact tt)
  ·have h0:a=0:=by simpa using h
   (refine aI ?_;try with_reducible exact tt)
   refine⟨1,⟨by omega,fun _=>h0,by omega⟩,by omega,aD.keep rfl rfl ?_⟩
   (refine aK ?_;try with_reducible exact tt)
 ·have h0:=ha (by omega)
  (refine aI ?_;try with_reducible exact tt)
  refine Wp.cond (by (refine aK ?_;try with_reducible exact tt);rfl) (fun h=>?_) (fun h=>?_)
  ·have e:(if a=0 then b else a)=b:=if_pos h0
   (refine aI ?_;try with_reducible exact tt)
   (refine rO (e) ?_;try with_reducible exact tt)
  ·have h1:b=0:=by simpa using h
   (refine aI ?_;try with_reducible exact tt)
   refine⟨2,⟨by omega,fun _=>h0,fun _=>h1⟩,by omega,aD.keep rfl rfl ?_⟩
   (refine aK ?_;try with_reducible exact tt)
 ·have h0:=ha (by omega)
  have h1:=hb (by omega)
  have e:(if a=0 then b else a)=0:=by rw[if_pos h0,h1]
  (refine aI ?_;try with_reducible exact tt)
  (refine rO (e) ?_;try with_reducible exact tt)
def plF (a b:PendD):Int:=if qW a.grp b.grp=0 then qW a.part b.part else qW a.grp b.grp
theorem aNv (a b:PendD):decide ((0:Int)≤plF a b) = !iC a b:=by
 have key:∀ x y:Int,(qW x y=0 ↔ x=y)∧(0≤qW x y ↔ y≤x):=by
  intro x y
  unfold qW
  split
  ·constructor<;>constructor<;>intro h<;>omega
  ·split
   ·constructor<;>constructor<;>intro h<;>omega
   ·constructor<;>constructor<;>intro h<;>omega
 have k1:=key a.grp b.grp
 have k2:=key a.part b.part
 have hz:(0≤plF a b) ↔ ¬ a.grp<b.grp∧(¬ a.grp=b.grp∨¬ a.part<b.part):=by
  unfold plF
  split
  ·rename_i h
   have:=k1.1.1 h
   rw[k2.2];omega
  ·rename_i h
   have:¬ a.grp=b.grp:=fun e=>h (k1.1.2 e)
   rw[k1.2];omega
 rw[Bool.eq_iff_iff,decide_eq_true_eq,hz]
 simp only[iC,Bool.not_eq_true',Bool.or_eq_false_iff,decide_eq_false_iff_not,Bool.and_eq_false_iff,beq_eq_false_iff_ne,ne_eq]
theorem aGi (a b:PendD):aJ Tryz.prog 143 [.agg a.dv,.agg b.dv] (int (plF a b)):=by
 have c1:=rA a.grp b.grp
 have c2:=rA a.part b.part
 have c3:=aUy (qW a.grp b.grp) (qW a.part b.part)
 (refine aJ.of_body Tryz.func143 rfl rfl Tryz.ntmps143 Tryz.results143 (by simp) ?_)
 (refine gO (@PendD.dv.eq_1) ?_;try with_reducible exact tt)
 simp (maxSteps:=2000000) (disch:=omega) only[bF,TY,aL,bQ,cD,SV.ofD,bW,cF,bX,fB,bK,fC,eQ,cQ,cL,dO,eZ,eY,fA,CV.exact,CV.lstOf,CV.lenOf,CV.one,D.one,Value.oneCell',CV.toD0,fS,cC,dU,eV,rD0,eS,eO,fT,reduceCtorEq,reduceIte,Nat.reduceBEq,Nat.reduceEqDiff,Nat.reduceAdd,Nat.reduceMul,Nat.reduceSub,Nat.reduceLT,Nat.reduceLeDiff,Nat.reduceBNe,Int.reduceLE,Int.reduceLT,Int.reduceBEq,Int.reduceBNe,Int.reduceEq,Int.reduceNeg,Int.reduceAdd,Int.reduceSub,Int.reduceToNat,forall_const,plF]
theorem vT:∀ (l:List PendD),oL l=true ↔ ∀ (j:Nat) (h:j+1<l.length),iC l[j] l[j+1]=true
 | []=>by simp[oL]
 | [a]=>by simp[oL]
 | a::b::l=>by
  rw[oL,Bool.and_eq_true,vT (b::l)]
  constructor
  ·rintro⟨h1,h2⟩ j hj
   cases j with
   | zero=>exact h1
   | succ j=>exact h2 j (by simpa using hj)
  ·intro h
   exact⟨h 0 (by simp),fun j hj=>h (j+1) (by simpa using hj)⟩
theorem rS:∀ (l:List Int),eH l=true ↔ ∀ (j:Nat) (h:j+1<l.length),l[j]<l[j+1]
 | []=>by simp[eH]
 | [a]=>by simp[eH]
 | a::b::l=>by
  rw[eH,Bool.and_eq_true,rS (b::l),decide_eq_true_eq]
  constructor
  ·rintro⟨h1,h2⟩ j hj
   cases j with
   | zero=>exact h1
   | succ j=>exact h2 j (by simpa using hj)
  ·intro h
   exact⟨h 0 (by simp),fun j hj=>h (j+1) (by simpa using hj)⟩
theorem aIq (l:List PendD) (hl:l.length≤100000):aJ Tryz.prog 142 [.lst 3 (l.map PendD.dv),.fn (.func 143) []] (dC (oL l)):=by
 (refine aJ.of_body Tryz.func142 rfl rfl Tryz.ntmps142 Tryz.results142 (by simp) ?_)
 (refine aI ?_;try with_reducible exact tt)
 refine Wp.loop (fun k:Nat=>⟨dI [(0,.c (.d (.lst 3 (l.map PendD.dv)))),(1,.c (.d (.fn (.func 143) []))),(5,vi .i64 ((k:Int)+1))],bJ [],0,24,0⟩) (fun k=>k≤l.length∧∀ (j:Nat) (h:j+1<l.length),j<k→iC l[j] l[j+1]=true) (fun k=>l.length - k) 0 ⟨Nat.zero_le _,fun j h h2=>by omega⟩ ?_ ?_
 ·refine aD.keep rfl rfl ?_
  (refine aK ?_;try with_reducible exact tt)
 rintro k ⟨hk,hall⟩
 by_cases hlt:k+1<l.length
 ·have d1:decide ((k:Int)+1<(l.length:Int))=true:=decide_eq_true (by omega)
  have g1:l[k+1]? = some l[k+1]:=List.getElem?_eq_getElem hlt
  have g0:l[k]? = some (l[k]'(by omega)):=List.getElem?_eq_getElem (by omega)
  have e1:IntKind.i64.wrap ((k:Int)+1 - 1)=(k:Int):=by rw[aG (by omega)];omega
  have e2:IntKind.i64.wrap ((k:Int)+1+1)=(k:Int)+1+1:=by rw[aG (by omega)]
  have hstop:iC (l[k]'(by omega)) l[k+1]=false→oL l=false:=fun h=>by
   cases hr:oL l with
   | false=>rfl
   | true=>have:=(vT l).1 hr k hlt;rw[h] at this;cases this
  have hgo:iC (l[k]'(by omega)) l[k+1]=true→∀ (j:Nat) (h:j+1<l.length),j<k+1→iC l[j] l[j+1]=true:=fun h j hj hjk=>by
   rcases Nat.lt_or_ge j k with h1|h1
   ·exact hall j hj h1
   ·have e:j=k:=by omega
    subst e;exact h
  generalize l[k]'(by omega)=x at *
  generalize l[k+1]=y at *
  have c1:=aGi x y
  have hp:=aNv x y
  simp only[PendD.dv] at c1
  cases ha:iC x y with
  | false =>
   rw[ha] at hp
   have hr:=hstop ha
   (refine gO (ai d1 (ai g0 (ai g1 (ai e1 (ai @PendD.dv.eq_1 (hp)))))) ?_;try with_reducible exact tt)
   (refine rO (hr) ?_;try with_reducible exact tt)
  | true =>
   rw[ha] at hp
   (refine gO (ai d1 (ai g0 (ai g1 (ai e1 (ai @PendD.dv.eq_1 (hp)))))) ?_;try with_reducible exact tt)
   refine⟨k+1,⟨by omega,hgo ha⟩,by omega,aD.keep rfl rfl ?_⟩
   (refine rO (e2) ?_;try with_reducible exact tt)
 ·have d1:decide ((k:Int)+1<(l.length:Int))=false:=decide_eq_false (by omega)
  have hr:oL l=true:=(vT l).2 (fun j hj=>hall j hj (by omega))
  (refine gO (d1) ?_;try with_reducible exact tt)
  (refine rO (hr) ?_;try with_reducible exact tt)
theorem aIp (l:List Int) (hl:l.length≤100000):aJ Tryz.prog 165 [oQ l,.fn (.func 166) []] (dC (eH l)):=by
 (refine aJ.of_body Tryz.func165 rfl rfl Tryz.ntmps165 Tryz.results165 (by simp) ?_)
 (refine aI ?_;try with_reducible exact tt)
 refine Wp.loop (fun k:Nat=>⟨dI [(0,.c (.d (oQ l))),(1,.c (.d (.fn (.func 166) []))),(5,vi .i64 ((k:Int)+1))],bJ [],0,24,0⟩) (fun k=>k≤l.length∧∀ (j:Nat) (h:j+1<l.length),j<k→l[j]<l[j+1]) (fun k=>l.length - k) 0 ⟨Nat.zero_le _,fun j h h2=>by omega⟩ ?_ ?_
 ·refine aD.keep rfl rfl ?_
  (refine aK ?_;try with_reducible exact tt)
 rintro k ⟨hk,hall⟩
 by_cases hlt:k+1<l.length
 ·have d1:decide ((k:Int)+1<(l.length:Int))=true:=decide_eq_true (by omega)
  have g1:l[k+1]? = some l[k+1]:=List.getElem?_eq_getElem hlt
  have g0:l[k]? = some (l[k]'(by omega)):=List.getElem?_eq_getElem (by omega)
  have e1:IntKind.i64.wrap ((k:Int)+1 - 1)=(k:Int):=by rw[aG (by omega)];omega
  have e2:IntKind.i64.wrap ((k:Int)+1+1)=(k:Int)+1+1:=by rw[aG (by omega)]
  have hstop:¬ (l[k]'(by omega))<l[k+1]→eH l=false:=fun h=>by
   cases hr:eH l with
   | false=>rfl
   | true=>exact absurd ((rS l).1 hr k hlt) h
  have hgo:(l[k]'(by omega))<l[k+1]→∀ (j:Nat) (h:j+1<l.length),j<k+1→l[j]<l[j+1]:=fun h j hj hjk=>by
   rcases Nat.lt_or_ge j k with h1|h1
   ·exact hall j hj h1
   ·have e:j=k:=by omega
    subst e;exact h
  generalize l[k]'(by omega)=x at *
  generalize l[k+1]=y at *
  have c1:=rA x y
  have hp:decide ((0:Int)≤qW x y) = !decide (x<y):=by
   unfold qW
   by_cases h1:x<y
   ·simp[h1]
   ·by_cases h2:y<x<;>simp[h1,h2]
  cases ha:decide (x<y) with
  | false =>
   rw[ha] at hp
   have hr:=hstop (by simpa using ha)
   (refine gO (ai d1 (ai g0 (ai g1 (ai e1 (hp))))) ?_;try with_reducible exact tt)
   (refine rO (hr) ?_;try with_reducible exact tt)
  | true =>
   rw[ha] at hp
   (refine gO (ai d1 (ai g0 (ai g1 (ai e1 (hp))))) ?_;try with_reducible exact tt)
   refine⟨k+1,⟨by omega,hgo (by simpa using ha)⟩,by omega,aD.keep rfl rfl ?_⟩
   (refine rO (e2) ?_;try with_reducible exact tt)
 ·have d1:decide ((k:Int)+1<(l.length:Int))=false:=decide_eq_false (by omega)
  have hr:eH l=true:=(rS l).2 (fun j hj=>hall j hj (by omega))
  (refine gO (d1) ?_;try with_reducible exact tt)
  (refine rO (hr) ?_;try with_reducible exact tt)
theorem tQ (q:Int):aJ Tryz.prog 164 [int q] (dC (gS q)):=by
 have e:gS q=(decide ((0:Int)≤q) && decide (q<3)):=by
  unfold gS aU
  rw[Bool.eq_iff_iff];simp only[Bool.and_eq_true,decide_eq_true_eq];omega
 rw[e]
 (refine aJ.of_body Tryz.func164 rfl rfl Tryz.ntmps164 Tryz.results164 (by simp) ?_)
 (refine aI ?_;try with_reducible exact tt)
 (first|refine Wp.sto 2 (vb (decide ((0:Int)≤q) && decide (q<3))) ?_ ?_|refine Wp.rtoS 2 (vb (decide ((0:Int)≤q) && decide (q<3))) ?_ ?_|(refine Wp.seq ?_;first|refine Wp.sto 2 (vb (decide ((0:Int)≤q) && decide (q<3))) ?_ ?_|refine Wp.rtoS 2 (vb (decide ((0:Int)≤q) && decide (q<3))) ?_ ?_))
 ·((rcases Bool.eq_false_or_eq_true (decide ((0:Int)≤q)) with hL1|hL1)<;>(rcases Bool.eq_false_or_eq_true (decide (q<3)) with hL2|hL2)<;>(((refine rO (ai hL1 (hL2)) ?_;try with_reducible exact tt);(repeat (refine aQ (by assumption) ?_;(refine rO (ai hL1 (hL2)) ?_;try with_reducible exact tt))));all_goals (exact (show aH _ _=true by kernel_rfl))))
 (refine aI ?_;try with_reducible exact tt)
 (refine aK ?_;try with_reducible exact tt)
def aBb (p:PendD):Bool:=decide ((0:Int)≤p.grp) && decide (p.grp<2) && gS p.part && decide ((0:Int)≤p.off) && decide (p.off≤1048576)
theorem aQb (p:PendD):aBb p=dG p:=by
 unfold aBb dG gS aU
 rw[Bool.eq_iff_iff];simp only[Bool.and_eq_true,decide_eq_true_eq];omega
theorem aK7 (p:PendD):aJ Tryz.prog 140 [.agg p.dv] (dC (dG p)):=by
 have c1:=tQ p.part
 rw[← aQb]
 (refine aJ.of_body Tryz.func140 rfl rfl Tryz.ntmps140 Tryz.results140 (by simp) ?_)
 (refine gO (@PendD.dv.eq_1) ?_;try with_reducible exact tt)
 (first|refine Wp.sto 2 (vb (aBb p)) ?_ ?_|refine Wp.rtoS 2 (vb (aBb p)) ?_ ?_|(refine Wp.seq ?_;first|refine Wp.sto 2 (vb (aBb p)) ?_ ?_|refine Wp.rtoS 2 (vb (aBb p)) ?_ ?_))
 ·unfold aBb;((rcases (Bool.eq_false_or_eq_true (decide ((0:Int)≤p.grp))).symm with hL1|hL1;focus (((refine rO (ai hL1 (@PendD.dv.eq_1)) ?_;try with_reducible exact tt);(repeat (refine aQ (by assumption) ?_;(refine rO (ai hL1 (@PendD.dv.eq_1)) ?_;try with_reducible exact tt))));all_goals (exact (show aH _ _=true by kernel_rfl))));(rcases (Bool.eq_false_or_eq_true (decide (p.grp<2))).symm with hL2|hL2;focus (((refine rO (ai hL1 (ai hL2 (@PendD.dv.eq_1))) ?_;try with_reducible exact tt);(repeat (refine aQ (by assumption) ?_;(refine rO (ai hL1 (ai hL2 (@PendD.dv.eq_1))) ?_;try with_reducible exact tt))));all_goals (exact (show aH _ _=true by kernel_rfl))));(rcases (Bool.eq_false_or_eq_true (gS p.part)).symm with hL3|hL3;focus (((refine rO (ai hL1 (ai hL2 (ai hL3 (@PendD.dv.eq_1)))) ?_;try with_reducible exact tt);(repeat (refine aQ (by assumption) ?_;(refine rO (ai hL1 (ai hL2 (ai hL3 (@PendD.dv.eq_1)))) ?_;try with_reducible exact tt))));all_goals (exact (show aH _ _=true by kernel_rfl))));(rcases (Bool.eq_false_or_eq_true (decide ((0:Int)≤p.off))).symm with hL4|hL4;focus (((refine rO (ai hL1 (ai hL2 (ai hL3 (ai hL4 (@PendD.dv.eq_1))))) ?_;try with_reducible exact tt);(repeat (refine aQ (by assumption) ?_;(refine rO (ai hL1 (ai hL2 (ai hL3 (ai hL4 (@PendD.dv.eq_1))))) ?_;try with_reducible exact tt))));all_goals (exact (show aH _ _=true by kernel_rfl))));(rcases (Bool.eq_false_or_eq_true (decide (p.off≤1048576))).symm with hL5|hL5;focus (((refine rO (ai hL1 (ai hL2 (ai hL3 (ai hL4 (ai hL5 (@PendD.dv.eq_1)))))) ?_;try with_reducible exact tt);(repeat (refine aQ (by assumption) ?_;(refine rO (ai hL1 (ai hL2 (ai hL3 (ai hL4 (ai hL5 (@PendD.dv.eq_1)))))) ?_;try with_reducible exact tt))));all_goals (exact (show aH _ _=true by kernel_rfl))));((refine rO (ai hL1 (ai hL2 (ai hL3 (ai hL4 (ai hL5 (@PendD.dv.eq_1)))))) ?_;try with_reducible exact tt);(repeat (refine aQ (by assumption) ?_;(refine rO (ai hL1 (ai hL2 (ai hL3 (ai hL4 (ai hL5 (@PendD.dv.eq_1)))))) ?_;try with_reducible exact tt))));all_goals (exact (show aH _ _=true by kernel_rfl)))
 (refine aI ?_;try with_reducible exact tt)
 (refine aK ?_;try with_reducible exact tt)
def aBk (l:List Int):Bool:=eH l && match l.head?,l.getLast? with
 | some a,some z=>gS a && gS z
 | _,_=>true
theorem aQq (l:List Int):aBk l=nV l:=by
 unfold aBk nV
 cases hr:eH l with
 | false=>rfl
 | true =>
  simp only[Bool.true_and]
  cases l with
  | nil=>rfl
  | cons a t =>
   have hz:(a::t).getLast? = some ((a::t).getLast (by simp)):=by rw[List.getLast?_eq_some_getLast (by simp)]
   rw[hz]
   simp only[List.head?_cons]
   have hm:=(rS (a::t)).1 hr
   have hlo:∀ (j:Nat) (hj:j<(a::t).length),a≤(a::t)[j]:=by
    intro j
    induction j with
    | zero=>intro _;exact Int.le_refl _
    | succ j ih=>intro hj;have:=ih (by omega);have:=hm j hj;omega
   have hhi:∀ (d j:Nat) (hj:j+d<(a::t).length),(a::t)[j]≤(a::t)[j+d]:=by
    intro d
    induction d with
    | zero=>intro j _;exact Int.le_refl _
    | succ d ih=>intro j hj;have:=ih j (by omega);have:=hm (j+d) (by omega);simp only[Nat.add_assoc] at *;omega
   rw[Bool.eq_iff_iff,Bool.and_eq_true,List.all_eq_true]
   constructor
   ·rintro⟨h1,h2⟩ x hx
    obtain⟨j,hj,rfl⟩:=List.getElem_of_mem hx
    have k1:=hlo j hj
    have k2:=hhi ((a::t).length - 1 - j) j (by omega)
    have e:j+((a::t).length - 1 - j)=(a::t).length - 1:=by omega
    simp only[e] at k2
    rw[List.getLast_eq_getElem] at h2
    simp only[gS,aU,Bool.and_eq_true,decide_eq_true_eq] at h1 h2 ⊢
    omega
   ·intro h
    exact⟨h a (by simp),h _ (List.getLast_mem _)⟩
theorem aE7 (l:List Int) (hl:l.length≤100000):aJ Tryz.prog 141 [oQ l] (dC (nV l)):=by
 have c1:=aIp l hl
 rw[← aQq]
 (refine aJ.of_body Tryz.func141 rfl rfl Tryz.ntmps141 Tryz.results141 (by simp) ?_)
 (refine aI ?_;try with_reducible exact tt)
 cases hr:eH l with
 | false =>
  rw[hr] at c1
  have e:aBk l=false:=by unfold aBk;rw[hr];rfl
  (refine aI ?_;try with_reducible exact tt)
  (refine rO (e) ?_;try with_reducible exact tt)
 | true =>
  rw[hr] at c1
  by_cases hn:l.length=0
  ·have e:aBk l=true:=by
    obtain rfl:=List.eq_nil_of_length_eq_zero hn
    rfl
   have e2:((l.length:Int) == 0)=true:=by rw[hn];rfl
   (refine gO (e2) ?_;try with_reducible exact tt)
   (refine rO (e) ?_;try with_reducible exact tt)
  ·have g0:l[0]? = some (l[0]'(by omega)):=List.getElem?_eq_getElem (by omega)
   have gz:l[l.length - 1]? = some (l[l.length - 1]'(by omega)):=List.getElem?_eq_getElem (by omega)
   have c2:=tQ (l[0]'(by omega))
   have c3:=tQ (l[l.length - 1]'(by omega))
   have e:aBk l=(gS (l[0]'(by omega)) && gS (l[l.length - 1]'(by omega))):=by
    unfold aBk
    rw[hr,List.getLast?_eq_getElem?,List.head?_eq_getElem?,g0,gz]
    rfl
   rw[e]
   generalize l[0]'(by omega)=a at *
   generalize l[l.length - 1]'(by omega)=z at *
   have e1:IntKind.i64.wrap ((l.length:Int) - 1)=((l.length - 1:Nat):Int):=by rw[aG (by omega)];omega
   have e2:((l.length:Int) == 0)=false:=by rw[beq_eq_false_iff_ne];omega
   cases ha:gS a<;>cases hb:gS z<;>rw[ha] at c2<;>rw[hb] at c3<;>((repeat (first|apply Wp.skip|apply Wp.exit|apply Wp.ret|apply Wp.block|apply Wp.label|((first|refine Wp.sreg (fun K hK=>?_)|refine Wp.reg (fun K hK=>?_)|refine Wp.sdrw aA (fun K hK=>?_)|refine Wp.drw aA (fun K hK=>?_)|refine Wp.condG (fun K hK hF=>?_));(repeat (revert hK;intro hK;simp (maxSteps:=2000000) (disch:=omega) only[bF,TY,aL,bQ,cD,SV.ofD,bW,cF,bX,fB,bK,fC,eQ,cQ,cL,dO,eZ,eY,fA,CV.exact,CV.lstOf,CV.lenOf,CV.one,D.one,Value.oneCell',CV.toD0,fS,cC,dU,eV,rD0,eS,eO,fT,reduceCtorEq,reduceIte,Nat.reduceBEq,Nat.reduceEqDiff,Nat.reduceAdd,Nat.reduceMul,Nat.reduceSub,Nat.reduceLT,Nat.reduceLeDiff,Nat.reduceBNe,Int.reduceLE,Int.reduceLT,Int.reduceBEq,Int.reduceBNe,Int.reduceEq,Int.reduceNeg,Int.reduceAdd,Int.reduceSub,Int.reduceToNat,forall_const,e1,e2,g0,gz];(first|(refine hK _ ?_;clear hK K)|(refine⟨by kernel_rfl,hK _ ?_⟩;clear hK K)|(refine hK ?_;clear hK hF K)|(refine hF ?_;clear hK hF K)|refine aQ (by assumption) ?_|refine gJ (by assumption) ?_)));fail_if_success (revert hK;intro hK))|apply Wp.seq));(refine aK ?_;try with_reducible exact tt))
def pZ (c:CoordD):Bool:=decide ((1:Int)≤c.pid) && decide (c.pid≤8) && decide ((0:Int)≤c.epoch) && decide (c.epoch≤100) && decide ((1:Int)≤c.timeout) && decide (c.timeout≤20) && decide ((0:Int)≤c.age) && decide (c.age≤1048576) && nV c.parts && oL c.pends
theorem aO4 (c:CoordD):(c.pends.all dG && pZ c)=dK c:=by
 unfold pZ dK aU
 rw[Bool.eq_iff_iff];simp only[Bool.and_eq_true]
 constructor
 ·rintro⟨h0,⟨⟨⟨⟨⟨⟨⟨⟨⟨h1,h2⟩,h3⟩,h4⟩,h5⟩,h6⟩,h7⟩,h8⟩,h9⟩,h10⟩⟩
  exact⟨⟨⟨⟨⟨⟨h0,h1,h2⟩,h3,h4⟩,h5,h6⟩,h7,h8⟩,h9⟩,h10⟩
 ·rintro⟨⟨⟨⟨⟨⟨h0,h1,h2⟩,h3,h4⟩,h5,h6⟩,h7,h8⟩,h9⟩,h10⟩
  exact⟨h0,⟨⟨⟨⟨⟨⟨⟨⟨⟨h1,h2⟩,h3⟩,h4⟩,h5⟩,h6⟩,h7⟩,h8⟩,h9⟩,h10⟩⟩
structure SmallC (c:CoordD):Prop where
 parts:c.parts.length≤100000
 pends:c.pends.length≤100000
theorem aHl (c:CoordD) (hs:SmallC c):aJ Tryz.prog 115 [.agg c.dv] (dC (dK c)):=by
 have hpl:=hs.pends
 have c1:=aE7 c.parts hs.parts
 have c2:=aIq c.pends hs.pends
 rw[← aO4]
 (refine aJ.of_body Tryz.func115 rfl rfl Tryz.ntmps115 Tryz.results115 (by simp) ?_)
 (refine gO (@CoordD.dv.eq_1) ?_;try with_reducible exact tt)
 refine Wp.loop (fun k:Nat=>⟨dI [(1,.c (.own 0 0)),(6,.c (.d (.lst 3 (c.pends.map PendD.dv)))),(7,vi .i64 c.pends.length),(8,vi .i64 k)],bJ [(0,.cells (c.dv.map .d))],1,64,0⟩) (fun k=>k≤c.pends.length∧(c.pends.take k).all dG=true) (fun k=>c.pends.length - k) 0 ⟨Nat.zero_le _,rfl⟩ ?_ ?_
 ·refine aD.keep rfl rfl ?_
  (refine rO (@CoordD.dv.eq_1) ?_;try with_reducible exact tt)
 rintro k ⟨hk,hall⟩
 (refine aI ?_;try with_reducible exact tt)
 refine Wp.cond (by (refine aK ?_;try with_reducible exact tt);rfl) (fun h=>?_) (fun h=>?_)
 ·have hlt:k<c.pends.length:=by simpa using h
  have g1:c.pends[k]? = some c.pends[k]:=List.getElem?_eq_getElem hlt
  have hsn:=eC dG c.pends k hlt
  have c3:=aK7 c.pends[k]
  have hmem:=List.getElem_mem hlt
  generalize c.pends[k]=x at *
  simp only[PendD.dv] at c3
  cases hx:dG x with
  | false =>
   rw[hx] at c3
   have e:c.pends.all dG=false:=by rw[List.all_eq_false];exact⟨x,hmem,by rw[hx];simp⟩
   (refine gO (ai g1 (@PendD.dv.eq_1)) ?_;try with_reducible exact tt)
   (refine rO (e) ?_;try with_reducible exact tt)
  | true =>
   rw[hx] at c3
   rw[hx,hall] at hsn
   (refine gO (ai g1 (@PendD.dv.eq_1)) ?_;try with_reducible exact tt)
   refine⟨k+1,⟨by omega,hsn⟩,by omega,aD.keep rfl rfl ?_⟩
   (refine rO (@CoordD.dv.eq_1) ?_;try with_reducible exact tt)
 ·have hke:k=c.pends.length:=by simp only[decide_eq_false_iff_not] at h;omega
  rw[hke,List.take_length] at hall
  have e:(c.pends.all dG && pZ c)=pZ c:=by rw[hall];rfl
  rw[e]
  (refine aI ?_;try with_reducible exact tt)
  (first|refine Wp.sto 2 (vb (pZ c)) ?_ ?_|refine Wp.rtoS 2 (vb (pZ c)) ?_ ?_|(refine Wp.seq ?_;first|refine Wp.sto 2 (vb (pZ c)) ?_ ?_|refine Wp.rtoS 2 (vb (pZ c)) ?_ ?_))
  ·unfold pZ;((rcases (Bool.eq_false_or_eq_true (decide ((1:Int)≤c.pid))).symm with hL1|hL1;focus (((refine rO (ai hL1 (@CoordD.dv.eq_1)) ?_;try with_reducible exact tt);(repeat (refine aQ (by assumption) ?_;(refine rO (ai hL1 (@CoordD.dv.eq_1)) ?_;try with_reducible exact tt))));all_goals (exact (show aH _ _=true by kernel_rfl))));(rcases (Bool.eq_false_or_eq_true (decide (c.pid≤8))).symm with hL2|hL2;focus (((refine rO (ai hL1 (ai hL2 (@CoordD.dv.eq_1))) ?_;try with_reducible exact tt);(repeat (refine aQ (by assumption) ?_;(refine rO (ai hL1 (ai hL2 (@CoordD.dv.eq_1))) ?_;try with_reducible exact tt))));all_goals (exact (show aH _ _=true by kernel_rfl))));(rcases (Bool.eq_false_or_eq_true (decide ((0:Int)≤c.epoch))).symm with hL3|hL3;focus (((refine rO (ai hL1 (ai hL2 (ai hL3 (@CoordD.dv.eq_1)))) ?_;try with_reducible exact tt);(repeat (refine aQ (by assumption) ?_;(refine rO (ai hL1 (ai hL2 (ai hL3 (@CoordD.dv.eq_1)))) ?_;try with_reducible exact tt))));all_goals (exact (show aH _ _=true by kernel_rfl))));(rcases (Bool.eq_false_or_eq_true (decide (c.epoch≤100))).symm with hL4|hL4;focus (((refine rO (ai hL1 (ai hL2 (ai hL3 (ai hL4 (@CoordD.dv.eq_1))))) ?_;try with_reducible exact tt);(repeat (refine aQ (by assumption) ?_;(refine rO (ai hL1 (ai hL2 (ai hL3 (ai hL4 (@CoordD.dv.eq_1))))) ?_;try with_reducible exact tt))));all_goals (exact (show aH _ _=true by kernel_rfl))));(rcases (Bool.eq_false_or_eq_true (decide ((1:Int)≤c.timeout))).symm with hL5|hL5;focus (((refine rO (ai hL1 (ai hL2 (ai hL3 (ai hL4 (ai hL5 (@CoordD.dv.eq_1)))))) ?_;try with_reducible exact tt);(repeat (refine aQ (by assumption) ?_;(refine rO (ai hL1 (ai hL2 (ai hL3 (ai hL4 (ai hL5 (@CoordD.dv.eq_1)))))) ?_;try with_reducible exact tt))));all_goals (exact (show aH _ _=true by kernel_rfl))));(rcases (Bool.eq_false_or_eq_true (decide (c.timeout≤20))).symm with hL6|hL6;focus (((refine rO (ai hL1 (ai hL2 (ai hL3 (ai hL4 (ai hL5 (ai hL6 (@CoordD.dv.eq_1))))))) ?_;try with_reducible exact tt);(repeat (refine aQ (by assumption) ?_;(refine rO (ai hL1 (ai hL2 (ai hL3 (ai hL4 (ai hL5 (ai hL6 (@CoordD.dv.eq_1))))))) ?_;try with_reducible exact tt))));all_goals (exact (show aH _ _=true by kernel_rfl))));(rcases (Bool.eq_false_or_eq_true (decide ((0:Int)≤c.age))).symm with hL7|hL7;focus (((refine rO (ai hL1 (ai hL2 (ai hL3 (ai hL4 (ai hL5 (ai hL6 (ai hL7 (@CoordD.dv.eq_1)))))))) ?_;try with_reducible exact tt);(repeat (refine aQ (by assumption) ?_;(refine rO (ai hL1 (ai hL2 (ai hL3 (ai hL4 (ai hL5 (ai hL6 (ai hL7 (@CoordD.dv.eq_1)))))))) ?_;try with_reducible exact tt))));all_goals (exact (show aH _ _=true by kernel_rfl))));(rcases (Bool.eq_false_or_eq_true (decide (c.age≤1048576))).symm with hL8|hL8;focus (((refine rO (ai hL1 (ai hL2 (ai hL3 (ai hL4 (ai hL5 (ai hL6 (ai hL7 (ai hL8 (@CoordD.dv.eq_1))))))))) ?_;try with_reducible exact tt);(repeat (refine aQ (by assumption) ?_;(refine rO (ai hL1 (ai hL2 (ai hL3 (ai hL4 (ai hL5 (ai hL6 (ai hL7 (ai hL8 (@CoordD.dv.eq_1))))))))) ?_;try with_reducible exact tt))));all_goals (exact (show aH _ _=true by kernel_rfl))));(rcases (Bool.eq_false_or_eq_true (nV c.parts)).symm with hL9|hL9;focus (((refine rO (ai hL1 (ai hL2 (ai hL3 (ai hL4 (ai hL5 (ai hL6 (ai hL7 (ai hL8 (ai hL9 (@CoordD.dv.eq_1)))))))))) ?_;try with_reducible exact tt);(repeat (refine aQ (by assumption) ?_;(refine rO (ai hL1 (ai hL2 (ai hL3 (ai hL4 (ai hL5 (ai hL6 (ai hL7 (ai hL8 (ai hL9 (@CoordD.dv.eq_1)))))))))) ?_;try with_reducible exact tt))));all_goals (exact (show aH _ _=true by kernel_rfl))));(rcases (Bool.eq_false_or_eq_true (oL c.pends)).symm with hL10|hL10;focus (((refine rO (ai hL1 (ai hL2 (ai hL3 (ai hL4 (ai hL5 (ai hL6 (ai hL7 (ai hL8 (ai hL9 (ai hL10 (@CoordD.dv.eq_1))))))))))) ?_;try with_reducible exact tt);(repeat (refine aQ (by assumption) ?_;(refine rO (ai hL1 (ai hL2 (ai hL3 (ai hL4 (ai hL5 (ai hL6 (ai hL7 (ai hL8 (ai hL9 (ai hL10 (@CoordD.dv.eq_1))))))))))) ?_;try with_reducible exact tt))));all_goals (exact (show aH _ _=true by kernel_rfl))));((refine rO (ai hL1 (ai hL2 (ai hL3 (ai hL4 (ai hL5 (ai hL6 (ai hL7 (ai hL8 (ai hL9 (ai hL10 (@CoordD.dv.eq_1))))))))))) ?_;try with_reducible exact tt);(repeat (refine aQ (by assumption) ?_;(refine rO (ai hL1 (ai hL2 (ai hL3 (ai hL4 (ai hL5 (ai hL6 (ai hL7 (ai hL8 (ai hL9 (ai hL10 (@CoordD.dv.eq_1))))))))))) ?_;try with_reducible exact tt))));all_goals (exact (show aH _ _=true by kernel_rfl)))
  (refine aI ?_;try with_reducible exact tt)
  (refine aK ?_;try with_reducible exact tt)
def pM (a b:CoordD):Bool:=a.st == b.st && a.pid == b.pid && a.epoch == b.epoch && a.timeout == b.timeout && a.thn == b.thn && a.age == b.age && decide (a.parts=b.parts) && decide (a.pends=b.pends)
theorem aJs (a b:CoordD):pM a b=decide (a=b):=by
 rw[Bool.eq_iff_iff]
 obtain⟨a1,a2,a3,a4,a5,a6,a7,a8⟩:=a
 obtain⟨b1,b2,b3,b4,b5,b6,b7,b8⟩:=b
 simp only[pM,Bool.and_eq_true,beq_iff_eq,decide_eq_true_eq,CoordD.mk.injEq]
 constructor
 ·rintro⟨⟨⟨⟨⟨⟨⟨h1,h2⟩,h3⟩,h4⟩,h5⟩,h6⟩,h7⟩,h8⟩;exact⟨h1,h2,h3,h4,h5,h7,h8,h6⟩
 ·rintro⟨h1,h2,h3,h4,h5,h7,h8,h6⟩;exact⟨⟨⟨⟨⟨⟨⟨h1,h2⟩,h3⟩,h4⟩,h5⟩,h6⟩,h7⟩,h8⟩
theorem sL (a b:CoordD) (hs:SmallC a):aJ Tryz.prog 101 [.agg a.dv,.agg b.dv] (dC (decide (a=b))):=by
 have c1:=lV a.parts b.parts (by have:=hs.parts;omega)
 have c2:=aEs a.pends b.pends hs.pends
 rw[← aJs]
 (refine aJ.of_body Tryz.func101 rfl rfl Tryz.ntmps101 Tryz.results101 (by simp) ?_)
 (refine gO (@CoordD.dv.eq_1) ?_;try with_reducible exact tt)
 (first|refine Wp.sto 4 (vb (pM a b)) ?_ ?_|refine Wp.rtoS 4 (vb (pM a b)) ?_ ?_|(refine Wp.seq ?_;first|refine Wp.sto 4 (vb (pM a b)) ?_ ?_|refine Wp.rtoS 4 (vb (pM a b)) ?_ ?_))
 ·unfold pM;((rcases (Bool.eq_false_or_eq_true (a.st == b.st)).symm with hL1|hL1;focus (((refine rO (ai hL1 (@CoordD.dv.eq_1)) ?_;try with_reducible exact tt);(repeat (refine aQ (by assumption) ?_;(refine rO (ai hL1 (@CoordD.dv.eq_1)) ?_;try with_reducible exact tt))));all_goals (exact (show aH _ _=true by kernel_rfl))));(rcases (Bool.eq_false_or_eq_true (a.pid == b.pid)).symm with hL2|hL2;focus (((refine rO (ai hL1 (ai hL2 (@CoordD.dv.eq_1))) ?_;try with_reducible exact tt);(repeat (refine aQ (by assumption) ?_;(refine rO (ai hL1 (ai hL2 (@CoordD.dv.eq_1))) ?_;try with_reducible exact tt))));all_goals (exact (show aH _ _=true by kernel_rfl))));(rcases (Bool.eq_false_or_eq_true (a.epoch == b.epoch)).symm with hL3|hL3;focus (((refine rO (ai hL1 (ai hL2 (ai hL3 (@CoordD.dv.eq_1)))) ?_;try with_reducible exact tt);(repeat (refine aQ (by assumption) ?_;(refine rO (ai hL1 (ai hL2 (ai hL3 (@CoordD.dv.eq_1)))) ?_;try with_reducible exact tt))));all_goals (exact (show aH _ _=true by kernel_rfl))));(rcases (Bool.eq_false_or_eq_true (a.timeout == b.timeout)).symm with hL4|hL4;focus (((refine rO (ai hL1 (ai hL2 (ai hL3 (ai hL4 (@CoordD.dv.eq_1))))) ?_;try with_reducible exact tt);(repeat (refine aQ (by assumption) ?_;(refine rO (ai hL1 (ai hL2 (ai hL3 (ai hL4 (@CoordD.dv.eq_1))))) ?_;try with_reducible exact tt))));all_goals (exact (show aH _ _=true by kernel_rfl))));(rcases (Bool.eq_false_or_eq_true (a.thn == b.thn)).symm with hL5|hL5;focus (((refine rO (ai hL1 (ai hL2 (ai hL3 (ai hL4 (ai hL5 (@CoordD.dv.eq_1)))))) ?_;try with_reducible exact tt);(repeat (refine aQ (by assumption) ?_;(refine rO (ai hL1 (ai hL2 (ai hL3 (ai hL4 (ai hL5 (@CoordD.dv.eq_1)))))) ?_;try with_reducible exact tt))));all_goals (exact (show aH _ _=true by kernel_rfl))));(rcases (Bool.eq_false_or_eq_true (a.age == b.age)).symm with hL6|hL6;focus (((refine rO (ai hL1 (ai hL2 (ai hL3 (ai hL4 (ai hL5 (ai hL6 (@CoordD.dv.eq_1))))))) ?_;try with_reducible exact tt);(repeat (refine aQ (by assumption) ?_;(refine rO (ai hL1 (ai hL2 (ai hL3 (ai hL4 (ai hL5 (ai hL6 (@CoordD.dv.eq_1))))))) ?_;try with_reducible exact tt))));all_goals (exact (show aH _ _=true by kernel_rfl))));(rcases (Bool.eq_false_or_eq_true (decide (a.parts=b.parts))).symm with hL7|hL7;focus (((refine rO (ai hL1 (ai hL2 (ai hL3 (ai hL4 (ai hL5 (ai hL6 (ai hL7 (@CoordD.dv.eq_1)))))))) ?_;try with_reducible exact tt);(repeat (refine aQ (by assumption) ?_;(refine rO (ai hL1 (ai hL2 (ai hL3 (ai hL4 (ai hL5 (ai hL6 (ai hL7 (@CoordD.dv.eq_1)))))))) ?_;try with_reducible exact tt))));all_goals (exact (show aH _ _=true by kernel_rfl))));(rcases (Bool.eq_false_or_eq_true (decide (a.pends=b.pends))).symm with hL8|hL8;focus (((refine rO (ai hL1 (ai hL2 (ai hL3 (ai hL4 (ai hL5 (ai hL6 (ai hL7 (ai hL8 (@CoordD.dv.eq_1))))))))) ?_;try with_reducible exact tt);(repeat (refine aQ (by assumption) ?_;(refine rO (ai hL1 (ai hL2 (ai hL3 (ai hL4 (ai hL5 (ai hL6 (ai hL7 (ai hL8 (@CoordD.dv.eq_1))))))))) ?_;try with_reducible exact tt))));all_goals (exact (show aH _ _=true by kernel_rfl))));((refine rO (ai hL1 (ai hL2 (ai hL3 (ai hL4 (ai hL5 (ai hL6 (ai hL7 (ai hL8 (@CoordD.dv.eq_1))))))))) ?_;try with_reducible exact tt);(repeat (refine aQ (by assumption) ?_;(refine rO (ai hL1 (ai hL2 (ai hL3 (ai hL4 (ai hL5 (ai hL6 (ai hL7 (ai hL8 (@CoordD.dv.eq_1))))))))) ?_;try with_reducible exact tt))));all_goals (exact (show aH _ _=true by kernel_rfl)))
 (refine aI ?_;try with_reducible exact tt)
 (refine aK ?_;try with_reducible exact tt)
theorem aNd {α:Type} [DecidableEq α] (l:List α):((l.length:Int) == 0)=(l == []):=by
 cases l with
 | nil=>rfl
 | cons a l =>
  have h1:(((a::l).length:Int) == 0)=false:=by rw[beq_eq_false_iff_ne];simp;omega
  rw[h1];rfl
theorem aTy:AllLe [.agg [i8 0,int 0,int 0,int 0,int 0,bU,bU,int 0]] [.agg cz.dv] :=
 .cons (.agg (.cons (.refl _) (.cons (.refl _) (.cons (.refl _) (.cons (.refl _) (.cons (.refl _) (.cons (.nil 1) (.cons (.nil 3) (.cons (.refl _) .nil))))))))) .nil
def gM (c:CoordD):Bool:=decide (c.thn<0) || decide (20<c.thn) || (decide (0<c.thn) && decide (100≤c.epoch))
theorem aAr (c:CoordD) (hs:SmallC c):aJ Tryz.prog 74 [.agg c.dv] (dC (fF c)):=by
 have c1:=aHl c hs
 have c2:=aJ.args (.cons (.refl (.agg c.dv)) aTy) (sL c cz hs)
 simp only[CoordD.dv] at c1 c2
 (refine aJ.of_body Tryz.func74 rfl rfl Tryz.ntmps74 Tryz.results74 (by simp) ?_)
 cases e0:(c.st == 0) with
 | true =>
  have hm:fF c=decide (c=cz):=by unfold fF;rw[if_pos e0]
  (refine gO (ai @CoordD.dv.eq_1 (e0)) ?_;try with_reducible exact tt)
  (refine rO (hm) ?_;try with_reducible exact tt)
 | false =>
 have hm:fF c=(lT c && dK c):=by unfold fF;rw[if_neg (by rw[e0];simp)]
 cases e2:(c.st == 2) with
 | true =>
  have hst:lT c=(!(((c.parts.length:Int) == 0) && ((c.pends.length:Int) == 0)) && c.thn == 0):=by unfold lT;rw[if_pos e2,aNd,aNd]
  (refine gO (ai @CoordD.dv.eq_1 (ai e0 (e2))) ?_;try with_reducible exact tt)
  (first|refine Wp.sto 31 (vb (((c.parts.length:Int) == 0) && ((c.pends.length:Int) == 0))) ?_ ?_|refine Wp.rtoS 31 (vb (((c.parts.length:Int) == 0) && ((c.pends.length:Int) == 0))) ?_ ?_|(refine Wp.seq ?_;first|refine Wp.sto 31 (vb (((c.parts.length:Int) == 0) && ((c.pends.length:Int) == 0))) ?_ ?_|refine Wp.rtoS 31 (vb (((c.parts.length:Int) == 0) && ((c.pends.length:Int) == 0))) ?_ ?_))
  ·((rcases Bool.eq_false_or_eq_true (((c.parts.length:Int) == 0)) with hL1|hL1)<;>(rcases Bool.eq_false_or_eq_true (((c.pends.length:Int) == 0)) with hL2|hL2)<;>(((refine rO (ai hL1 (ai hL2 (@CoordD.dv.eq_1))) ?_;try with_reducible exact tt);(repeat (refine aQ (by assumption) ?_;(refine rO (ai hL1 (ai hL2 (@CoordD.dv.eq_1))) ?_;try with_reducible exact tt))));all_goals (exact (show aH _ _=true by kernel_rfl))))
  refine Wp.cond (by (refine aK ?_;try with_reducible exact tt);rfl) (fun h=>?_) (fun h=>?_)
  ·have e:fF c=false:=by rw[hm,hst,h];rfl
   (refine aI ?_;try with_reducible exact tt)
   (refine rO (e) ?_;try with_reducible exact tt)
  ·rw[h] at hst
   (refine gO (@CoordD.dv.eq_1) ?_;try with_reducible exact tt)
   refine Wp.cond (by (refine aK ?_;try with_reducible exact tt);rfl) (fun h=>?_) (fun h=>?_)
   ·have e:fF c=false:=by
     have h:(c.thn == 0)=false:=by simpa using h
     rw[hm,hst,h];rfl
    (refine aI ?_;try with_reducible exact tt)
    (refine rO (e) ?_;try with_reducible exact tt)
   ·have h:(c.thn == 0)=true:=by simpa using h
    have ht:c.thn=0:=by simpa using h
    have e:fF c=dK c:=by rw[hm,hst,h];rfl
    have hb:gM c=false:=by unfold gM;rw[ht];rfl
    (refine aI ?_;try with_reducible exact tt)
    (first|refine Wp.sto 52 (vb (gM c)) ?_ ?_|refine Wp.rtoS 52 (vb (gM c)) ?_ ?_|(refine Wp.seq ?_;first|refine Wp.sto 52 (vb (gM c)) ?_ ?_|refine Wp.rtoS 52 (vb (gM c)) ?_ ?_))
    ·unfold gM;((rcases Bool.eq_false_or_eq_true (decide (c.thn<0)) with hL1|hL1)<;>(rcases Bool.eq_false_or_eq_true (decide (20<c.thn)) with hL2|hL2)<;>(rcases Bool.eq_false_or_eq_true (decide (0<c.thn)) with hL3|hL3)<;>(rcases Bool.eq_false_or_eq_true (decide (100≤c.epoch)) with hL4|hL4)<;>(((refine rO (ai hL1 (ai hL2 (ai hL3 (ai hL4 (@CoordD.dv.eq_1))))) ?_;try with_reducible exact tt);(repeat (refine aQ (by assumption) ?_;(refine rO (ai hL1 (ai hL2 (ai hL3 (ai hL4 (@CoordD.dv.eq_1))))) ?_;try with_reducible exact tt))));all_goals (exact (show aH _ _=true by kernel_rfl))))
    (refine gO (ai hb (@CoordD.dv.eq_1)) ?_;try with_reducible exact tt)
    (refine rO (e) ?_;try with_reducible exact tt)
 | false =>
 cases e3:(c.st == 3) with
 | true =>
  have hst:lT c=(c.thn == 0):=by unfold lT;rw[if_neg (by rw[e2];simp),if_pos e3]
  (refine gO (ai @CoordD.dv.eq_1 (ai e0 (ai e2 (e3)))) ?_;try with_reducible exact tt)
  refine Wp.cond (by (refine aK ?_;try with_reducible exact tt);rfl) (fun h=>?_) (fun h=>?_)
  ·have e:fF c=false:=by
    have h:(c.thn == 0)=false:=by simpa using h
    rw[hm,hst,h];rfl
   (refine aI ?_;try with_reducible exact tt)
   (refine rO (e) ?_;try with_reducible exact tt)
  ·have h:(c.thn == 0)=true:=by simpa using h
   have ht:c.thn=0:=by simpa using h
   have e:fF c=dK c:=by rw[hm,hst,h];rfl
   have hb:gM c=false:=by unfold gM;rw[ht];rfl
   (refine aI ?_;try with_reducible exact tt)
   (first|refine Wp.sto 52 (vb (gM c)) ?_ ?_|refine Wp.rtoS 52 (vb (gM c)) ?_ ?_|(refine Wp.seq ?_;first|refine Wp.sto 52 (vb (gM c)) ?_ ?_|refine Wp.rtoS 52 (vb (gM c)) ?_ ?_))
   ·unfold gM;((rcases Bool.eq_false_or_eq_true (decide (c.thn<0)) with hL1|hL1)<;>(rcases Bool.eq_false_or_eq_true (decide (20<c.thn)) with hL2|hL2)<;>(rcases Bool.eq_false_or_eq_true (decide (0<c.thn)) with hL3|hL3)<;>(rcases Bool.eq_false_or_eq_true (decide (100≤c.epoch)) with hL4|hL4)<;>(((refine rO (ai hL1 (ai hL2 (ai hL3 (ai hL4 (@CoordD.dv.eq_1))))) ?_;try with_reducible exact tt);(repeat (refine aQ (by assumption) ?_;(refine rO (ai hL1 (ai hL2 (ai hL3 (ai hL4 (@CoordD.dv.eq_1))))) ?_;try with_reducible exact tt))));all_goals (exact (show aH _ _=true by kernel_rfl))))
   (refine gO (ai hb (@CoordD.dv.eq_1)) ?_;try with_reducible exact tt)
   (refine rO (e) ?_;try with_reducible exact tt)
 | false =>
 cases e4:(c.st == 4) with
 | true =>
  have hst:lT c = !gM c:=by
   unfold lT;rw[if_neg (by rw[e2];simp),if_neg (by rw[e3];simp),if_pos e4]
   unfold gM aU
   rw[Bool.eq_iff_iff]
   simp only[Bool.and_eq_true,Bool.not_eq_true',Bool.and_eq_false_iff,Bool.or_eq_false_iff,decide_eq_true_eq,decide_eq_false_iff_not]
   omega
  (refine gO (ai @CoordD.dv.eq_1 (ai e0 (ai e2 (ai e3 (e4))))) ?_;try with_reducible exact tt)
  (first|refine Wp.sto 52 (vb (gM c)) ?_ ?_|refine Wp.rtoS 52 (vb (gM c)) ?_ ?_|(refine Wp.seq ?_;first|refine Wp.sto 52 (vb (gM c)) ?_ ?_|refine Wp.rtoS 52 (vb (gM c)) ?_ ?_))
  ·unfold gM;((rcases Bool.eq_false_or_eq_true (decide (c.thn<0)) with hL1|hL1)<;>(rcases Bool.eq_false_or_eq_true (decide (20<c.thn)) with hL2|hL2)<;>(rcases Bool.eq_false_or_eq_true (decide (0<c.thn)) with hL3|hL3)<;>(rcases Bool.eq_false_or_eq_true (decide (100≤c.epoch)) with hL4|hL4)<;>(((refine rO (ai hL1 (ai hL2 (ai hL3 (ai hL4 (@CoordD.dv.eq_1))))) ?_;try with_reducible exact tt);(repeat (refine aQ (by assumption) ?_;(refine rO (ai hL1 (ai hL2 (ai hL3 (ai hL4 (@CoordD.dv.eq_1))))) ?_;try with_reducible exact tt))));all_goals (exact (show aH _ _=true by kernel_rfl))))
  refine Wp.cond (by (refine aK ?_;try with_reducible exact tt);rfl) (fun h=>?_) (fun h=>?_)
  ·have e:fF c=false:=by rw[hm,hst,h];rfl
   (refine aI ?_;try with_reducible exact tt)
   (refine rO (e) ?_;try with_reducible exact tt)
  ·have e:fF c=dK c:=by rw[hm,hst,h];rfl
   (refine gO (@CoordD.dv.eq_1) ?_;try with_reducible exact tt)
   (refine rO (e) ?_;try with_reducible exact tt)
 | false =>
 have key:(c.st == 1 || c.st == 5 || c.st == 6)=true→fF c=(c.thn == 0 && c.age == 0 && ((c.parts.length:Int) == 0) && ((c.pends.length:Int) == 0) && dK c):=by
  intro h
  rw[hm]
  unfold lT
  rw[if_neg (by rw[e2];simp),if_neg (by rw[e3];simp),if_neg (by rw[e4];simp),if_pos h,aNd,aNd]
 cases e1:(c.st == 1) with
 | true =>
  rw[key (by rw[e1];rfl)]
  (refine gO (ai @CoordD.dv.eq_1 (ai e0 (ai e2 (ai e3 (ai e4 (e1)))))) ?_;try with_reducible exact tt)
  (first|refine Wp.sto 2 (vb (c.thn == 0 && c.age == 0 && ((c.parts.length:Int) == 0) && ((c.pends.length:Int) == 0) && dK c)) ?_ ?_|refine Wp.rtoS 2 (vb (c.thn == 0 && c.age == 0 && ((c.parts.length:Int) == 0) && ((c.pends.length:Int) == 0) && dK c)) ?_ ?_|(refine Wp.seq ?_;first|refine Wp.sto 2 (vb (c.thn == 0 && c.age == 0 && ((c.parts.length:Int) == 0) && ((c.pends.length:Int) == 0) && dK c)) ?_ ?_|refine Wp.rtoS 2 (vb (c.thn == 0 && c.age == 0 && ((c.parts.length:Int) == 0) && ((c.pends.length:Int) == 0) && dK c)) ?_ ?_))
  ·((rcases (Bool.eq_false_or_eq_true (c.thn == 0)).symm with hL1|hL1;focus (((refine rO (ai hL1 (@CoordD.dv.eq_1)) ?_;try with_reducible exact tt);(repeat (refine aQ (by assumption) ?_;(refine rO (ai hL1 (@CoordD.dv.eq_1)) ?_;try with_reducible exact tt))));all_goals (exact (show aH _ _=true by kernel_rfl))));(rcases (Bool.eq_false_or_eq_true (c.age == 0)).symm with hL2|hL2;focus (((refine rO (ai hL1 (ai hL2 (@CoordD.dv.eq_1))) ?_;try with_reducible exact tt);(repeat (refine aQ (by assumption) ?_;(refine rO (ai hL1 (ai hL2 (@CoordD.dv.eq_1))) ?_;try with_reducible exact tt))));all_goals (exact (show aH _ _=true by kernel_rfl))));(rcases (Bool.eq_false_or_eq_true (((c.parts.length:Int) == 0))).symm with hL3|hL3;focus (((refine rO (ai hL1 (ai hL2 (ai hL3 (@CoordD.dv.eq_1)))) ?_;try with_reducible exact tt);(repeat (refine aQ (by assumption) ?_;(refine rO (ai hL1 (ai hL2 (ai hL3 (@CoordD.dv.eq_1)))) ?_;try with_reducible exact tt))));all_goals (exact (show aH _ _=true by kernel_rfl))));(rcases (Bool.eq_false_or_eq_true (((c.pends.length:Int) == 0))).symm with hL4|hL4;focus (((refine rO (ai hL1 (ai hL2 (ai hL3 (ai hL4 (@CoordD.dv.eq_1))))) ?_;try with_reducible exact tt);(repeat (refine aQ (by assumption) ?_;(refine rO (ai hL1 (ai hL2 (ai hL3 (ai hL4 (@CoordD.dv.eq_1))))) ?_;try with_reducible exact tt))));all_goals (exact (show aH _ _=true by kernel_rfl))));(rcases (Bool.eq_false_or_eq_true (dK c)).symm with hL5|hL5;focus (((refine rO (ai hL1 (ai hL2 (ai hL3 (ai hL4 (ai hL5 (@CoordD.dv.eq_1)))))) ?_;try with_reducible exact tt);(repeat (refine aQ (by assumption) ?_;(refine rO (ai hL1 (ai hL2 (ai hL3 (ai hL4 (ai hL5 (@CoordD.dv.eq_1)))))) ?_;try with_reducible exact tt))));all_goals (exact (show aH _ _=true by kernel_rfl))));((refine rO (ai hL1 (ai hL2 (ai hL3 (ai hL4 (ai hL5 (@CoordD.dv.eq_1)))))) ?_;try with_reducible exact tt);(repeat (refine aQ (by assumption) ?_;(refine rO (ai hL1 (ai hL2 (ai hL3 (ai hL4 (ai hL5 (@CoordD.dv.eq_1)))))) ?_;try with_reducible exact tt))));all_goals (exact (show aH _ _=true by kernel_rfl)))
  (refine aI ?_;try with_reducible exact tt)
  (refine aK ?_;try with_reducible exact tt)
 | false =>
 cases e5:(c.st == 5) with
 | true =>
  rw[key (by rw[e1,e5];rfl)]
  (refine gO (ai @CoordD.dv.eq_1 (ai e0 (ai e2 (ai e3 (ai e4 (ai e1 (e5))))))) ?_;try with_reducible exact tt)
  (first|refine Wp.sto 2 (vb (c.thn == 0 && c.age == 0 && ((c.parts.length:Int) == 0) && ((c.pends.length:Int) == 0) && dK c)) ?_ ?_|refine Wp.rtoS 2 (vb (c.thn == 0 && c.age == 0 && ((c.parts.length:Int) == 0) && ((c.pends.length:Int) == 0) && dK c)) ?_ ?_|(refine Wp.seq ?_;first|refine Wp.sto 2 (vb (c.thn == 0 && c.age == 0 && ((c.parts.length:Int) == 0) && ((c.pends.length:Int) == 0) && dK c)) ?_ ?_|refine Wp.rtoS 2 (vb (c.thn == 0 && c.age == 0 && ((c.parts.length:Int) == 0) && ((c.pends.length:Int) == 0) && dK c)) ?_ ?_))
  ·((rcases (Bool.eq_false_or_eq_true (c.thn == 0)).symm with hL1|hL1;focus (((refine rO (ai hL1 (@CoordD.dv.eq_1)) ?_;try with_reducible exact tt);(repeat (refine aQ (by assumption) ?_;(refine rO (ai hL1 (@CoordD.dv.eq_1)) ?_;try with_reducible exact tt))));all_goals (exact (show aH _ _=true by kernel_rfl))));(rcases (Bool.eq_false_or_eq_true (c.age == 0)).symm with hL2|hL2;focus (((refine rO (ai hL1 (ai hL2 (@CoordD.dv.eq_1))) ?_;try with_reducible exact tt);(repeat (refine aQ (by assumption) ?_;(refine rO (ai hL1 (ai hL2 (@CoordD.dv.eq_1))) ?_;try with_reducible exact tt))));all_goals (exact (show aH _ _=true by kernel_rfl))));(rcases (Bool.eq_false_or_eq_true (((c.parts.length:Int) == 0))).symm with hL3|hL3;focus (((refine rO (ai hL1 (ai hL2 (ai hL3 (@CoordD.dv.eq_1)))) ?_;try with_reducible exact tt);(repeat (refine aQ (by assumption) ?_;(refine rO (ai hL1 (ai hL2 (ai hL3 (@CoordD.dv.eq_1)))) ?_;try with_reducible exact tt))));all_goals (exact (show aH _ _=true by kernel_rfl))));(rcases (Bool.eq_false_or_eq_true (((c.pends.length:Int) == 0))).symm with hL4|hL4;focus (((refine rO (ai hL1 (ai hL2 (ai hL3 (ai hL4 (@CoordD.dv.eq_1))))) ?_;try with_reducible exact tt);(repeat (refine aQ (by assumption) ?_;(refine rO (ai hL1 (ai hL2 (ai hL3 (ai hL4 (@CoordD.dv.eq_1))))) ?_;try with_reducible exact tt))));all_goals (exact (show aH _ _=true by kernel_rfl))));(rcases (Bool.eq_false_or_eq_true (dK c)).symm with hL5|hL5;focus (((refine rO (ai hL1 (ai hL2 (ai hL3 (ai hL4 (ai hL5 (@CoordD.dv.eq_1)))))) ?_;try with_reducible exact tt);(repeat (refine aQ (by assumption) ?_;(refine rO (ai hL1 (ai hL2 (ai hL3 (ai hL4 (ai hL5 (@CoordD.dv.eq_1)))))) ?_;try with_reducible exact tt))));all_goals (exact (show aH _ _=true by kernel_rfl))));((refine rO (ai hL1 (ai hL2 (ai hL3 (ai hL4 (ai hL5 (@CoordD.dv.eq_1)))))) ?_;try with_reducible exact tt);(repeat (refine aQ (by assumption) ?_;(refine rO (ai hL1 (ai hL2 (ai hL3 (ai hL4 (ai hL5 (@CoordD.dv.eq_1)))))) ?_;try with_reducible exact tt))));all_goals (exact (show aH _ _=true by kernel_rfl)))
  (refine aI ?_;try with_reducible exact tt)
  (refine aK ?_;try with_reducible exact tt)
 | false =>
 cases e6:(c.st == 6) with
 | true =>
  rw[key (by rw[e1,e5,e6];rfl)]
  (refine gO (ai @CoordD.dv.eq_1 (ai e0 (ai e2 (ai e3 (ai e4 (ai e1 (ai e5 (e6)))))))) ?_;try with_reducible exact tt)
  (first|refine Wp.sto 2 (vb (c.thn == 0 && c.age == 0 && ((c.parts.length:Int) == 0) && ((c.pends.length:Int) == 0) && dK c)) ?_ ?_|refine Wp.rtoS 2 (vb (c.thn == 0 && c.age == 0 && ((c.parts.length:Int) == 0) && ((c.pends.length:Int) == 0) && dK c)) ?_ ?_|(refine Wp.seq ?_;first|refine Wp.sto 2 (vb (c.thn == 0 && c.age == 0 && ((c.parts.length:Int) == 0) && ((c.pends.length:Int) == 0) && dK c)) ?_ ?_|refine Wp.rtoS 2 (vb (c.thn == 0 && c.age == 0 && ((c.parts.length:Int) == 0) && ((c.pends.length:Int) == 0) && dK c)) ?_ ?_))
  ·((rcases (Bool.eq_false_or_eq_true (c.thn == 0)).symm with hL1|hL1;focus (((refine rO (ai hL1 (@CoordD.dv.eq_1)) ?_;try with_reducible exact tt);(repeat (refine aQ (by assumption) ?_;(refine rO (ai hL1 (@CoordD.dv.eq_1)) ?_;try with_reducible exact tt))));all_goals (exact (show aH _ _=true by kernel_rfl))));(rcases (Bool.eq_false_or_eq_true (c.age == 0)).symm with hL2|hL2;focus (((refine rO (ai hL1 (ai hL2 (@CoordD.dv.eq_1))) ?_;try with_reducible exact tt);(repeat (refine aQ (by assumption) ?_;(refine rO (ai hL1 (ai hL2 (@CoordD.dv.eq_1))) ?_;try with_reducible exact tt))));all_goals (exact (show aH _ _=true by kernel_rfl))));(rcases (Bool.eq_false_or_eq_true (((c.parts.length:Int) == 0))).symm with hL3|hL3;focus (((refine rO (ai hL1 (ai hL2 (ai hL3 (@CoordD.dv.eq_1)))) ?_;try with_reducible exact tt);(repeat (refine aQ (by assumption) ?_;(refine rO (ai hL1 (ai hL2 (ai hL3 (@CoordD.dv.eq_1)))) ?_;try with_reducible exact tt))));all_goals (exact (show aH _ _=true by kernel_rfl))));(rcases (Bool.eq_false_or_eq_true (((c.pends.length:Int) == 0))).symm with hL4|hL4;focus (((refine rO (ai hL1 (ai hL2 (ai hL3 (ai hL4 (@CoordD.dv.eq_1))))) ?_;try with_reducible exact tt);(repeat (refine aQ (by assumption) ?_;(refine rO (ai hL1 (ai hL2 (ai hL3 (ai hL4 (@CoordD.dv.eq_1))))) ?_;try with_reducible exact tt))));all_goals (exact (show aH _ _=true by kernel_rfl))));(rcases (Bool.eq_false_or_eq_true (dK c)).symm with hL5|hL5;focus (((refine rO (ai hL1 (ai hL2 (ai hL3 (ai hL4 (ai hL5 (@CoordD.dv.eq_1)))))) ?_;try with_reducible exact tt);(repeat (refine aQ (by assumption) ?_;(refine rO (ai hL1 (ai hL2 (ai hL3 (ai hL4 (ai hL5 (@CoordD.dv.eq_1)))))) ?_;try with_reducible exact tt))));all_goals (exact (show aH _ _=true by kernel_rfl))));((refine rO (ai hL1 (ai hL2 (ai hL3 (ai hL4 (ai hL5 (@CoordD.dv.eq_1)))))) ?_;try with_reducible exact tt);(repeat (refine aQ (by assumption) ?_;(refine rO (ai hL1 (ai hL2 (ai hL3 (ai hL4 (ai hL5 (@CoordD.dv.eq_1)))))) ?_;try with_reducible exact tt))));all_goals (exact (show aH _ _=true by kernel_rfl)))
  (refine aI ?_;try with_reducible exact tt)
  (refine aK ?_;try with_reducible exact tt)
 | false =>
  have e:fF c=false:=by
   rw[hm]
   have:lT c=false:=by
    unfold lT
    rw[if_neg (by rw[e2];simp),if_neg (by rw[e3];simp),if_neg (by rw[e4];simp),if_neg (by rw[e1,e5,e6];simp)]
   rw[this];rfl
  (refine gO (ai @CoordD.dv.eq_1 (ai e0 (ai e2 (ai e3 (ai e4 (ai e1 (ai e5 (e6)))))))) ?_;try with_reducible exact tt)
  (refine rO (e) ?_;try with_reducible exact tt)
end Go.Proofs.YtkmfmphpndhkjaaGreatDoor
