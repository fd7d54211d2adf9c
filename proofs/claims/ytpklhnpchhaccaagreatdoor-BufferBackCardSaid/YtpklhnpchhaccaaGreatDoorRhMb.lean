/- The abstract machine (RhF, RhG, RhH, RhI, RhJ). -/
import Derived.Test.YtpklhnpchhaccaaGreatDoorRhMa
import Derived.Test.YtpklhnpchhaccaaGreatDoorCpMc
namespace Go.Proofs.YtpklhnpchhaccaaGreatDoor
open Go Go.RowKit
set_option maxHeartbeats 16000000
set_option maxRecDepth 100000
set_option linter.unusedVariables false
set_option linter.unusedSimpArgs false
def jW (p:PartD) (e:EntD):Bool:=(bE p.prods e.b.pid).2 && (decide (e.b.epoch<(bE p.prods e.b.pid).1.epoch) || (e.b.epoch == (bE p.prods e.b.pid).1.epoch && decide (e.next<(bE p.prods e.b.pid).1.next)))
def zJ (p:PartD) (e:EntD):PartD:={ p with prods:=cM p.prods ⟨e.b.pid,e.b.epoch,e.next,[]⟩ }
def oQ (s:RefS) (e:EntD):Bool × RefS:=if jW s.p e then (false,s) else (true,⟨zJ s.p e,(s.away e.b.pid).w,(s.away e.b.pid).v⟩)
def jP (s:RefS) (e:EntD):Bool × RefS :=
 if e.kind=0 then (match iU s.p e.b with
  | some q=>(true,⟨q,s.w,s.v⟩)
  | none=>(false,s))
 else if e.kind=3 then lY s e
 else if e.kind=4 then oQ s e
 else match iP s.p e with
  | some q=>(true,⟨q,s.w,s.v⟩)
  | none=>(false,s)
structure SideD where
 pid:Int
 l:List EntD
 deriving DecidableEq
abbrev SideD.dv (s:SideD):List D:=[int s.pid,.lst 18 (s.l.map EntD.dv)]
def oC (s:SideD) (x:EntD):Bool:=!aK x || (x.kind != 0 || (!x.b.txn || (x.b.pid != s.pid || match s.l with
 | []=>false
 | y::_=>x.b.epoch != y.b.epoch)))
def nH (s:SideD) (p:PartD) (x:EntD):Option PartD:=if oC s x then none else aE8 p x.b
def dY (s:SideD):PartD→List EntD→Bool × PartD
 | p,[]=>(true,p)
 | p,x::l=>match nH s p x with
  | none=>(false,p)
  | some q=>dY s q l
theorem yP (s:SideD):∀ (l:List EntD) (p:PartD) (r:List EntD),dY s p (l++r)=if (dY s p l).1 then dY s (dY s p l).2 r else dY s p l
 | [],p,r=>rfl
 | x::l,p,r=>by
  show (match nH s p x with|none=>(false,p)|some q=>dY s q (l++r))=_
  have e:dY s p (x::l)=match nH s p x with|none=>(false,p)|some q=>dY s q l:=rfl
  rw[e]
  cases nH s p x with
  | none=>rfl
  | some q=>exact yP s l q r
theorem aNa {s:SideD} {p:PartD} {l:List EntD} {k:Nat} (hk:k<l.length) (h:(dY s p (l.take k)).1=true):dY s p (l.take (k+1))=match nH s (dY s p (l.take k)).2 l[k] with
  | none=>(false,(dY s p (l.take k)).2)
  | some q=>(true,q):=by
 rw[List.take_succ_eq_append_getElem hk,yP,if_pos h]
 rfl
def lK (s:RefS) (x:SideD):Bool × RefS :=
 if x.l.length=0∨8<x.l.length then (false,s) else ((dY x s.p x.l).1,⟨(dY x s.p x.l).2,s.w,s.v⟩)
def nK (p:PartD) (x:Int × List BatD):Bool:=bX p.opens x.1 && match p.opens[aQ p.opens x.1]? with
 | some o=>decide (x.2.length<o.bats.length) && decide (x.2=o.bats.take x.2.length)
 | none=>false
def aZ (s:RefS) (e:EntD):Option RefS:=if aK e=false then none else if (jP s e).1=false then none else if 1048576<(jP s e).2.p.fin then none else some (jP s e).2
def eL:RefS→List EntD→Option RefS
 | s,[]=>some s
 | s,e::l=>match aZ s e with
  | none=>none
  | some t=>eL t l
theorem sA:∀ (l:List EntD) (s:RefS) (r:List EntD),eL s (l++r)=match eL s l with
  | none=>none
  | some t=>eL t r
 | [],s,r=>rfl
 | e::l,s,r=>by
  show (match aZ s e with|none=>none|some t=>eL t (l++r))=match (match aZ s e with|none=>none|some t=>eL t l) with|none=>none|some t=>eL t r
  cases aZ s e with
  | none=>rfl
  | some t=>exact sA l t r
def aL (l:List SideD) (k:Nat):Bool:=match k,l[k]?,l[k - 1]? with
 | 0,_,_=>true
 | _+1,some x,some y=>decide (y.pid<x.pid)
 | _,_,_=>false
def lR (all:List SideD):RefS→Nat→List SideD→Option RefS
 | s,_,[]=>some s
 | s,k,x::l=>if aL all k=false then none else if (lK s x).1=false then none else lR all (lK s x).2 (k+1) l
def ref0:RefS:=⟨pZ,[],0⟩
def iT (main:List EntD) (sides:List SideD):Option RefS:=match eL ref0 main with
 | none=>none
 | some s=>match lR sides s 0 sides with
  | none=>none
  | some t=>if t.w.all (nK t.p) then some t else none
theorem lI {e:EntD} (h:aK e=true):e.b.recs.length≤4∧e.prod.seen.length≤3:=by
 unfold aK at h
 simp only[Bool.and_eq_true,decide_eq_true_eq] at h
 obtain⟨⟨h1,h2⟩,h3⟩:=h
 obtain⟨k,b,yes,next,off,row,prod⟩:=e
 have hk7:k=0∨k=1∨k=2∨k=3∨k=4∨k=5∨k=6:=by simp only at h1 h2;omega
 have hz:∀ n:Int,(zE n).b.recs=[]∧(zE n).prod.seen=[]:=fun n=>⟨rfl,rfl⟩
 rcases hk7 with rfl|rfl|rfl|rfl|rfl|rfl|rfl
 ·simp only[qK,if_true,Bool.and_eq_true,decide_eq_true_eq] at h3
  have h4:=congrArg (fun x:EntD=>x.prod.seen) h3.2
  refine⟨(lC h3.1).2,?_⟩
  dsimp only at h4 ⊢;rw[h4];exact Nat.zero_le _
 ·have h3:(gY b.pid b.epoch && decide ((⟨1,⟨0,0,b.seq,b.txn,b.recs⟩,false,next,off,row,prod⟩:EntD)=zE 1))=true:=h3
  simp only[Bool.and_eq_true,decide_eq_true_eq] at h3
  have h4:=congrArg (fun x:EntD=>x.prod.seen) h3.2
  have h5:=congrArg (fun x:EntD=>x.b.recs) h3.2
  dsimp only at h4 h5 ⊢;rw[h4,h5];exact⟨Nat.zero_le _,Nat.zero_le _⟩
 ·have h3:(fS off 0 1048576 && decide ((⟨2,b,yes,next,0,row,prod⟩:EntD)=zE 2))=true:=h3
  simp only[Bool.and_eq_true,decide_eq_true_eq] at h3
  have h4:=congrArg (fun x:EntD=>x.prod.seen) h3.2
  have h5:=congrArg (fun x:EntD=>x.b.recs) h3.2
  dsimp only at h4 h5 ⊢;rw[h4,h5];exact⟨Nat.zero_le _,Nat.zero_le _⟩
 ·have h3:(b.txn && ((!yes || fS next 0 1048576) && (dK b && decide ((⟨3,kA,false,if yes then 0 else next,off,row,prod⟩:EntD)=zE 3))))=true:=h3
  simp only[Bool.and_eq_true,decide_eq_true_eq] at h3
  have h4:=congrArg (fun x:EntD=>x.prod.seen) h3.2.2.2
  refine⟨(lC h3.2.2.1).2,?_⟩
  dsimp only at h4 ⊢;rw[h4];exact Nat.zero_le _
 ·have h3:(!yes && (fS next 0 1048576 && (gY b.pid b.epoch && decide ((⟨4,⟨0,0,b.seq,b.txn,b.recs⟩,false,0,off,row,prod⟩:EntD)=zE 4))))=true:=h3
  simp only[Bool.and_eq_true,decide_eq_true_eq] at h3
  have h4:=congrArg (fun x:EntD=>x.prod.seen) h3.2.2.2
  have h5:=congrArg (fun x:EntD=>x.b.recs) h3.2.2.2
  dsimp only at h4 h5 ⊢;rw[h4,h5];exact⟨Nat.zero_le _,Nat.zero_le _⟩
 ·have h3:(lN row && decide ((⟨5,b,yes,next,off,lJ,prod⟩:EntD)=zE 5))=true:=h3
  simp only[Bool.and_eq_true,decide_eq_true_eq] at h3
  have h4:=congrArg (fun x:EntD=>x.prod.seen) h3.2
  have h5:=congrArg (fun x:EntD=>x.b.recs) h3.2
  dsimp only at h4 h5 ⊢;rw[h4,h5];exact⟨Nat.zero_le _,Nat.zero_le _⟩
 ·have h3:(bB prod && decide ((⟨6,b,yes,next,off,row,dA⟩:EntD)=zE 6))=true:=h3
  simp only[Bool.and_eq_true,decide_eq_true_eq] at h3
  have h5:=congrArg (fun x:EntD=>x.b.recs) h3.2
  refine⟨?_,zR h3.1⟩
  dsimp only at h5 ⊢;rw[h5];exact Nat.zero_le _
structure FOk14 (k:Nat) (s:RefS):Prop where
 fin:0≤s.p.fin∧s.p.fin≤1048576
 opens:s.p.opens=[]
 rows:s.p.rows.length≤40*k
 prods:s.p.prods.length≤10*k
 seen:∀ x ∈ s.p.prods,x.seen.length≤100
 wts:s.w.length≤k
 bats:∀ x ∈ s.w,x.2.length≤8
 recs:∀ x ∈ s.w,∀ b ∈ x.2,b.recs.length≤4
theorem FOk14.sm {k:Nat} {s:RefS} (h:FOk14 k s) (hk:k≤1000):Sm14 s.p s.w :=
 ⟨h.fin,by rw[h.opens];exact Nat.zero_le _,by have:=h.rows;omega,by have:=h.prods;omega,h.seen,by have:=h.wts;omega,h.bats,h.recs⟩
theorem aVw:FOk14 0 ref0:=⟨by decide,rfl,Nat.le_refl _,Nat.le_refl _,(fun x hx=>by cases hx),Nat.le_refl _,(fun x hx=>by cases hx),(fun x hx=>by cases hx)⟩
theorem aOm {w:eV} {pid:Int} {b:BatD} (h:b ∈ cG w pid):∃ x ∈ w,b ∈ x.2:=by
 unfold cG at h
 cases hq:w[wI w pid]? with
 | none=>rw[hq] at h;cases h
 | some x=>rw[hq] at h;exact⟨x,List.mem_of_getElem? hq,h⟩
theorem aNz {w:eV} {pid:Int} {x:Int × List BatD} (h:x ∈ nM w pid):x ∈ w∨x.2=[]:=by
 unfold nM at h
 split at h
 ·exact .inl h
 ·rcases List.mem_append.1 h with h|h
  ·exact .inl h
  ·simp at h;subst h;exact .inr rfl
theorem aGh {l:List BatD} {b:BatD} (h:jT l b=false):l.length<8:=by
 unfold jT at h
 simp only[Bool.or_eq_false_iff,decide_eq_false_iff_not] at h
 omega
theorem aLp (l:List ProdD) (pid:Int) (k:Nat) (h:∀ x ∈ l,x.seen.length≤100):(mT l pid).length≤l.length+1∧∀ x ∈ mT l pid,x.seen.length≤100:=by
 unfold mT
 split
 ·refine⟨pJ _ _,fun x hx=>?_⟩
  rcases pK hx with hx|rfl
  ·exact h x hx
  ·simp
 ·exact⟨by omega,h⟩
theorem aPi {k:Nat} {s t:RefS} {e:EntD} (h:FOk14 k s) (hb:e.b.recs.length≤4) (hc:lY s e=(true,t)) (hf:t.p.fin≤1048576):FOk14 (k+1) t:=by
 have hfin:=h.fin
 have hrow:=h.rows
 have hpr:=h.prods
 have hw:=h.wts
 have hel:=aVs s.w e.b.pid
 have hset:∀ (hbad:jT (cG s.w e.b.pid) e.b=false),∀ x ∈ (nM s.w e.b.pid).set (wI s.w e.b.pid) (e.b.pid,cG s.w e.b.pid++[e.b]),x.2.length≤8∧∀ b ∈ x.2,b.recs.length≤4:=fun hbad x hx=>by
  rcases List.mem_or_eq_of_mem_set hx with hx|rfl
  ·rcases aNz hx with hx|hx
   ·exact⟨h.bats x hx,h.recs x hx⟩
   ·rw[hx];exact⟨Nat.zero_le _,fun b hb=>by cases hb⟩
  ·have:=aGh hbad
   refine⟨by rw[List.length_append];simp;omega,fun b hbm=>?_⟩
   rcases List.mem_append.1 hbm with hbm|hbm
   ·obtain⟨y,hy,hy2⟩:=aOm hbm;exact h.recs y hy b hy2
   ·simp at hbm;subst hbm;exact hb
 have her:∀ x ∈ (nM s.w e.b.pid).eraseIdx (wI s.w e.b.pid),x ∈ s.w∨x.2=[]:=fun x hx=>aNz (List.mem_of_mem_eraseIdx hx)
 unfold lY at hc
 split at hc
 ·cases hc
 rename_i hbad
 have hbad:jT (cG s.w e.b.pid) e.b=false:=by simpa using hbad
 split at hc
 ·cases hc
  exact⟨hfin,h.opens,by show s.p.rows.length≤_;omega,by show s.p.prods.length≤_;omega,h.seen,by show (List.set _ _ _).length≤_;rw[List.length_set];omega,fun x hx=>(hset hbad x hx).1,fun x hx=>(hset hbad x hx).2⟩
 split at hc
 ·cases hc
 split at hc
 ·cases hc
 cases hc
 have hbl:=aGh hbad
 have hL:(cG s.w e.b.pid++[e.b]).length≤8:=by rw[List.length_append];simp;omega
 obtain⟨g1,g2,g3,g4,g5,g6,g7⟩:=yT (cG s.w e.b.pid++[e.b]) s.p (fun b hbm=>by
  rcases List.mem_append.1 hbm with hbm|hbm
  ·obtain⟨y,hy,hy2⟩:=aOm hbm;exact h.recs y hy b hy2
  ·simp at hbm;subst hbm;exact hb) h.seen
 generalize (aF s.p (cG s.w e.b.pid++[e.b])).2=q at *
 obtain⟨c1,c2⟩:=aLp q.prods e.b.pid 0 g7
 refine⟨⟨?_,hf⟩,g1.trans h.opens,by show q.rows.length≤_;omega,by show (mT _ _).length≤_;omega,c2,?_,fun x hx=>?_,fun x hx=>?_⟩
 ·show 0≤q.fin;omega
 ·show (List.eraseIdx _ _).length≤_
  have:=List.length_eraseIdx_le (nM s.w e.b.pid) (wI s.w e.b.pid)
  omega
 ·rcases her x hx with hx|hx
  ·exact h.bats x hx
  ·rw[hx];exact Nat.zero_le _
 ·rcases her x hx with hx|hx
  ·exact h.recs x hx
  ·rw[hx];exact fun b hb=>by cases hb
theorem aQk {k:Nat} {s t:RefS} {e:EntD} (h:FOk14 k s) (hs:aZ s e=some t):FOk14 (k+1) t:=by
 unfold aZ at hs
 split at hs
 ·cases hs
 rename_i hok
 have hok:aK e=true:=by simpa using hok
 obtain⟨hb,hq⟩:=lI hok
 split at hs
 ·cases hs
 rename_i hn
 split at hs
 ·cases hs
 rename_i hf
 cases hs
 have hfin:=h.fin
 have hrow:=h.rows
 have hpr:=h.prods
 have hw:=h.wts
 unfold jP at hn hf ⊢
 split
 ·rename_i k0
  simp only[k0,if_true] at hn hf
  cases hp:iU s.p e.b with
  | none=>rw[hp] at hn;exact absurd rfl hn
  | some q =>
   rw[hp] at hf
   dsimp only at hf ⊢
   unfold iU at hp
   split at hp
   ·cases hp
   cases hp
   obtain⟨t1,t2⟩:=nI (k:=s.p.prods.length) e.b s.p.fin (Nat.le_refl _) h.seen
   dsimp only at hf
   refine⟨⟨by show 0≤s.p.fin+_;omega,by show s.p.fin+_≤_;omega⟩,h.opens,?_,by show (aJ _ _ _).1.length≤_;omega,t2,by show s.w.length≤_;omega,h.bats,h.recs⟩
   show (s.p.rows++cB e.b s.p.fin).length≤_
   rw[List.length_append,iL];omega
 rename_i k0
 simp only[k0,if_false] at hn hf
 split
 ·rename_i k3
  simp only[k3,if_true] at hn hf
  exact aPi h hb (Prod.ext (by simpa using hn) rfl) (by omega)
 rename_i k3
 simp only[k3,if_false] at hn hf
 split
 ·rename_i k4
  simp only[k4,if_true] at hn hf
  unfold oQ at hn hf ⊢
  split
  ·rename_i hd;rw[hd] at hn;exact absurd rfl hn
  ·dsimp only
   have haw:(s.away e.b.pid).w.length≤s.w.length∧∀ x ∈ (s.away e.b.pid).w,x ∈ s.w:=by
    unfold RefS.away
    split
    ·exact⟨List.length_eraseIdx_le ..,fun x hx=>List.mem_of_mem_eraseIdx hx⟩
    ·exact⟨Nat.le_refl _,fun x hx=>hx⟩
   have:=pJ s.p.prods ⟨e.b.pid,e.b.epoch,e.next,[]⟩
   refine⟨hfin,h.opens,by show s.p.rows.length≤_;omega,by show (cM _ _).length≤_;omega,fun x hx=>?_,by have:=haw.1;show (s.away e.b.pid).w.length≤_;omega,fun x hx=>h.bats x (haw.2 x hx),fun x hx=>h.recs x (haw.2 x hx)⟩
   rcases pK hx with hx|rfl
   ·exact h.seen x hx
   ·simp
 rename_i k4
 simp only[k4,if_false] at hn hf
 cases hp:iP s.p e with
 | none=>rw[hp] at hn;exact absurd rfl hn
 | some q =>
  rw[hp] at hf
  dsimp only at hf ⊢
  unfold iP at hp
  split at hp
  ·split at hp
   ·cases hp
   cases hp
   have:=aF9 (aB8 e.off) s.p.rows
   exact⟨hfin,h.opens,by show (tQ _ _).length≤_;omega,by show s.p.prods.length≤_;omega,h.seen,by show s.w.length≤_;omega,h.bats,h.recs⟩
  split at hp
  ·cases hp
   dsimp only at hf
   exact⟨⟨by show 0≤s.p.fin+1;omega,by show s.p.fin+1≤_;omega⟩,h.opens,by show (s.p.rows++[_]).length≤_;rw[List.length_append];simp only[List.length_cons,List.length_nil];omega,by show s.p.prods.length≤_;omega,h.seen,by show s.w.length≤_;omega,h.bats,h.recs⟩
  split at hp
  ·split at hp
   ·cases hp
   cases hp
   have:=pJ s.p.prods e.prod
   refine⟨hfin,h.opens,by show s.p.rows.length≤_;omega,by show (cM _ _).length≤_;omega,fun x hx=>?_,by show s.w.length≤_;omega,h.bats,h.recs⟩
   rcases pK hx with hx|rfl
   ·exact h.seen x hx
   ·omega
  ·cases hp
def r14 (o:Option RefS):PartD × Int:=match o with
 | some t=>(t.p,0)
 | none=>(pZ,70)
end Go.Proofs.YtpklhnpchhaccaaGreatDoor
