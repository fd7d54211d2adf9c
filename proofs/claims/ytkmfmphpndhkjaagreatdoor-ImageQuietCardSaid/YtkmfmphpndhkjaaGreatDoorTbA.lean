/- Package table: tables as plain data,and what its functions answer. -/
import Derived.Test.YtkmfmphpndhkjaaGreatDoorReM
namespace Go.Proofs.YtkmfmphpndhkjaaGreatDoor
open Go Go.RowKit
set_option maxHeartbeats 4000000
set_option maxRecDepth 100000
set_option linter.unusedVariables false
set_option linter.unusedSimpArgs false
structure TabD where
 start:Int
 fin:Int
 news:List Int
abbrev oQ (l:List Int):D:=.lst 1 (l.map fun n=>[int n])
def TabD.dv (t:TabD):List D:=[int t.start,int t.fin,.lst 1 (t.news.map fun n=>[int n])]
def lF:TabD:=⟨0,0,[]⟩
def upB:Int→List Int→Bool
 | _,[]=>true
 | m,n::l=>!(decide (n<m) || decide (1048576<n)) && upB n l
def nW (t:TabD):Bool:=decide (t.start<0) || decide (t.fin<t.start) || decide (1048576<t.fin)
def rY (t:TabD):Bool:=(t.news.length:Int) == t.fin - t.start+1
def vX (t:TabD):Bool:=!nW t && rY t && upB 0 t.news
theorem aJ2:∀ (m:Int) (l:List Int) (k:Nat),upB m l=true→upB m (l.take k)=true
 | _,[],k,_=>by simp[upB]
 | m,n::l,0,_=>by simp[upB]
 | m,n::l,k+1,h=>by
  simp only[upB,Bool.and_eq_true,List.take_succ_cons] at h ⊢
  exact⟨h.1,aJ2 n l k h.2⟩
theorem aRd:∀ (m:Int) (l:List Int),(∀ (i:Nat) (hi:i<l.length),m≤l[i]∧l[i]≤1048576)→(∀ (i:Nat) (hi:i+1<l.length),l[i]≤l[i+1])→upB m l=true
 | _,[],_,_=>rfl
 | m,n::l,h,hs=>by
  have h0:=h 0 (by simp)
  simp only[List.getElem_cons_zero] at h0
  simp only[upB,Bool.and_eq_true,Bool.not_eq_true',Bool.or_eq_false_iff,decide_eq_false_iff_not]
  refine⟨by omega,aRd n l (fun i hi=>?_) (fun i hi=>by have:=hs (i+1) (by simpa using hi);simpa using this)⟩
  have h1:=h (i+1) (by simpa using hi)
  simp only[List.getElem_cons_succ] at h1
  refine⟨?_,h1.2⟩
  have key:∀ (k:Nat) (hk:k<(n::l).length),n≤(n::l)[k]:=by
   intro k
   induction k with
   | zero=>intro _;exact Int.le_refl _
   | succ k ih=>intro hk;have:=ih (by omega);have:=hs k hk;omega
  have:=key (i+1) (by simpa using hi)
  simpa using this
theorem aOd {t:TabD} (h:vX t=true):0≤t.start∧t.start≤t.fin∧t.fin≤1048576∧(t.news.length:Int)=t.fin - t.start+1∧upB 0 t.news=true:=by
 simp only[vX,nW,rY,Bool.and_eq_true,Bool.not_eq_true',Bool.or_eq_false_iff,decide_eq_false_iff_not,beq_iff_eq] at h
 refine⟨?_,?_,?_,h.1.2,h.2⟩<;>omega
def nR (old fresh:PartD) (n:Int):Int:=match fresh.rows[dQ old n]? with
 | some r=>r.off
 | none=>fresh.fin
def mS (old fresh:PartD) (k:Nat):List Int:=(List.range k).map fun i:Nat=>nR old fresh (old.start+(i:Int))
def mM (old fresh:PartD):Bool:=bB old && bB fresh && old.rows.length == fresh.rows.length
def vY (old fresh:PartD):TabD:=⟨old.start,old.fin,mS old fresh (old.fin - old.start+1).toNat⟩
def yC (old fresh:PartD):TabD × Int:=if mM old fresh then (vY old fresh,0) else (lF,2)
def cB (t:TabD) (off:Int):Int × Int :=
 if !vX t then (0,2) else if off == -1 then (-1,0) else if decide (off < -1) || decide (t.fin<off) then (0,130) else (t.news.getD (off - t.start).toNat 0,0)
theorem fH (old fresh:PartD) (k:Nat):(mS old fresh k).length=k:=by simp[mS]
theorem sH {old fresh:PartD} {k i:Nat} (h:i<k):(mS old fresh k)[i]? = some (nR old fresh (old.start+i)):=by simp[mS,h]
theorem aAx (old fresh:PartD) (k:Nat):mS old fresh (k+1)=mS old fresh k++[nR old fresh (old.start+k)]:=by
 simp[mS,List.range_succ]
theorem aHy {old fresh:PartD} (h:mM old fresh=true):bB old=true∧bB fresh=true∧old.rows.length=fresh.rows.length:=by
 simp only[mM,Bool.and_eq_true,beq_iff_eq] at h
 exact⟨h.1.1,h.1.2,h.2⟩
theorem aMz (p:PartD) {m n:Int} (h:m≤n):dQ p m≤dQ p n:=by
 rcases Nat.lt_or_ge (dQ p n) (dQ p m) with hlt|hge
 ·have h1:=List.not_of_lt_findIdx hlt
  have hl:dQ p n<p.rows.length:=Nat.lt_of_lt_of_le hlt (yZ p m)
  have h2:decide (n≤(p.rows[dQ p n]).off)=true:=List.findIdx_getElem (p:=fun r:RowD=>decide (n≤r.off)) (xs:=p.rows) (w:=hl)
  simp only[decide_eq_true_eq,decide_eq_false_iff_not] at h1 h2
  simp at h1
  omega
 ·exact hge
theorem aI8 {old fresh:PartD} (hf:bB fresh=true) (n:Int):0≤nR old fresh n∧fresh.start≤nR old fresh n∧nR old fresh n≤fresh.fin:=by
 obtain⟨h1,h2,h3⟩:=jI hf
 unfold nR
 cases hq:fresh.rows[dQ old n]? with
 | none=>simp only;omega
 | some r =>
  have:=oW hf r (List.mem_of_getElem? hq)
  simp only;omega
theorem aKl {old fresh:PartD} (hf:bB fresh=true) {m n:Int} (h:m≤n):nR old fresh m≤nR old fresh n:=by
 have hm:=aMz old h
 unfold nR
 cases hq:fresh.rows[dQ old n]? with
 | none =>
  have:=aI8 (old:=old) hf m
  unfold nR at this
  exact this.2.2
 | some r =>
  have hl:=(List.getElem?_eq_some_iff.1 hq).1
  have hl2:dQ old m<fresh.rows.length:=by omega
  rw[List.getElem?_eq_getElem hl2]
  rw[List.getElem?_eq_getElem hl] at hq
  cases hq
  simp only
  rcases Nat.lt_or_ge (dQ old m) (dQ old n) with h1|h1
  ·have:=oH _ (vQ hf) (dQ old m) (dQ old n) (by simpa using hl) h1
   simp only[List.getElem_map] at this
   omega
  ·have e:dQ old m=dQ old n:=by omega
   simp only[e];exact Int.le_refl _
theorem aR9 {old fresh:PartD} (h:mM old fresh=true):vX (vY old fresh)=true:=by
 obtain⟨ho,hf,hl⟩:=aHy h
 obtain⟨h1,h2,h3⟩:=jI ho
 obtain⟨g1,g2,g3⟩:=jI hf
 have hbad:nW (vY old fresh)=false:=by
  show (decide (old.start<0) || decide (old.fin<old.start) || decide (1048576<old.fin))=false
  simp only[Bool.or_eq_false_iff,decide_eq_false_iff_not]
  omega
 have hlen:rY (vY old fresh)=true:=by
  simp only[rY,vY,beq_iff_eq,fH];omega
 simp only[vX,hbad,hlen,Bool.not_false,Bool.true_and]
 refine aRd _ _ (fun i hi=>?_) (fun i hi=>?_)<;>simp only[vY] at hi ⊢
 ·rw[fH] at hi
  have h4:=sH (old:=old) (fresh:=fresh) hi
  rw[List.getElem?_eq_getElem (by rw[fH];exact hi)] at h4
  have:=aI8 (old:=old) hf (old.start+i)
  simp only[Option.some.injEq] at h4
  rw[h4];omega
 ·rw[fH] at hi
  have h4:=sH (old:=old) (fresh:=fresh) (show i<_ from by omega:i<(old.fin - old.start+1).toNat)
  have h5:=sH (old:=old) (fresh:=fresh) hi
  rw[List.getElem?_eq_getElem (by rw[fH];omega)] at h4 h5
  simp only[Option.some.injEq] at h4 h5
  rw[h4,h5]
  exact aKl hf (by omega)
/-! the laws -/
end Go.Proofs.YtkmfmphpndhkjaaGreatDoor
