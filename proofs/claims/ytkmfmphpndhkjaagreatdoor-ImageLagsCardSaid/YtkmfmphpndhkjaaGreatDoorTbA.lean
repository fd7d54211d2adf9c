/- Package table: tables as plain data,and what its functions answer. -/
import Derived.Test.YtkmfmphpndhkjaaGreatDoorReM
namespace Go.Proofs.YtkmfmphpndhkjaaGreatDoor
open Go Go.RowKit
set_option maxHeartbeats 4000000
set_option maxRecDepth 100000
set_option linter.unusedVariables false
set_option linter.unusedSimpArgs false
structure TabD where
 start:Int
 fin:Int
 news:List Int
abbrev nG (l:List Int):D:=.lst 1 (l.map fun n=>[int n])
def TabD.dv (t:TabD):List D:=[int t.start,int t.fin,.lst 1 (t.news.map fun n=>[int n])]
def fR:TabD:=⟨0,0,[]⟩
def upB:Int→List Int→Bool
 | _,[]=>true
 | m,n::l=>!(decide (n<m) || decide (1048576<n)) && upB n l
def nA (t:TabD):Bool:=decide (t.start<0) || decide (t.fin<t.start) || decide (1048576<t.fin)
def uE (t:TabD):Bool:=(t.news.length:Int) == t.fin - t.start+1
def vI (t:TabD):Bool:=!nA t && uE t && upB 0 t.news
theorem aF3:∀ (m:Int) (l:List Int) (k:Nat),upB m l=true→upB m (l.take k)=true
 | _,[],k,_=>by simp[upB]
 | m,n::l,0,_=>by simp[upB]
 | m,n::l,k+1,h=>by
  simp only[upB,Bool.and_eq_true,List.take_succ_cons] at h ⊢
  exact⟨h.1,aF3 n l k h.2⟩
theorem aJv {t:TabD} (h:vI t=true):0≤t.start∧t.start≤t.fin∧t.fin≤1048576∧(t.news.length:Int)=t.fin - t.start+1∧upB 0 t.news=true:=by
 simp only[vI,nA,uE,Bool.and_eq_true,Bool.not_eq_true',Bool.or_eq_false_iff,decide_eq_false_iff_not,beq_iff_eq] at h
 refine⟨?_,?_,?_,h.1.2,h.2⟩<;>omega
def aHg (old fresh:PartD) (n:Int):Int:=match fresh.rows[nF old n]? with
 | some r=>r.off
 | none=>fresh.fin
def mW (old fresh:PartD) (k:Nat):List Int:=(List.range k).map fun i:Nat=>aHg old fresh (old.start+(i:Int))
def mH (old fresh:PartD):Bool:=cD old && cD fresh && old.rows.length == fresh.rows.length
def aMl (old fresh:PartD):TabD:=⟨old.start,old.fin,mW old fresh (old.fin - old.start+1).toNat⟩
def uR (old fresh:PartD):TabD × Int:=if mH old fresh then (aMl old fresh,0) else (fR,2)
def cM (t:TabD) (off:Int):Int × Int :=
 if !vI t then (0,2) else if off == -1 then (-1,0) else if decide (off < -1) || decide (t.fin<off) then (0,130) else (t.news.getD (off - t.start).toNat 0,0)
theorem jT (old fresh:PartD) (k:Nat):(mW old fresh k).length=k:=by simp[mW]
theorem xK (old fresh:PartD) (k:Nat):mW old fresh (k+1)=mW old fresh k++[aHg old fresh (old.start+k)]:=by
 simp[mW,List.range_succ]
theorem aL1 {old fresh:PartD} (h:mH old fresh=true):cD old=true∧cD fresh=true∧old.rows.length=fresh.rows.length:=by
 simp only[mH,Bool.and_eq_true,beq_iff_eq] at h
 exact⟨h.1.1,h.1.2,h.2⟩
/-! the laws -/
end Go.Proofs.YtkmfmphpndhkjaaGreatDoor
