/- The abstract machine (RgA, RgB, RgC, RgD, PlA). -/
import Derived.Test.YtpklhnpchhaccaaGreatDoorInMe
import Derived.Test.YtpklhnpchhaccaaGreatDoorSqO
import Derived.Test.YtpklhnpchhaccaaGreatDoorSqN
namespace Go.Proofs.YtpklhnpchhaccaaGreatDoor
open Go Go.RowKit
set_option maxHeartbeats 4000000
set_option maxRecDepth 100000
set_option linter.unusedVariables false
set_option linter.unusedSimpArgs false


def mT (l:List ProdD) (pid:Int):List ProdD:=if (bE l pid).2=true then cM l ⟨(bE l pid).1.pid,(bE l pid).1.epoch,(bE l pid).1.next,[]⟩ else l
def aA8 (pid:Int):List ProdD→List ProdD
 | []=>[]
 | x::l=>if x.pid=pid then ⟨x.pid,x.epoch,x.next,[]⟩::l else x::aA8 pid l
theorem nS (pid:Int):∀ l:List ProdD,dT l pid=aA8 pid l
 | []=>by simp[dT,aA8]
 | x::l=>by
  have ih:=nS pid l
  by_cases h:x.pid=pid
  ·have h' : (x.pid == pid)=true:=by simpa using h
   simp[dT,aA8,List.findIdx_cons,h',h]
  ·have h' : (x.pid == pid)=false:=by simpa using h
   simp only[aA8,h,if_false,← ih]
   simp only[dT,List.findIdx_cons,h',cond_false,List.getElem?_cons_succ]
   split<;>simp
theorem aHb:∀ (l:List ProdD) (b:Int),jB l b=true→∀ p ∈ l,b<p.pid
 | [],_,_,p,hp=>by simp at hp
 | x::l,b,h,p,hp=>by
  rw[jB,Bool.and_eq_true] at h
  have h1:=h.1
  simp only[Bool.not_eq_true',Bool.or_eq_false_iff,decide_eq_false_iff_not] at h1
  rcases List.mem_cons.1 hp with rfl|hp
  ·omega
  ·have:=aHb l x.pid h.2 p hp
   omega
theorem dU (x:ProdD) (l:List ProdD) (pid:Int):bE (x::l) pid=if x.pid=pid then (x,true) else bE l pid:=by
 unfold bE
 by_cases h:x.pid=pid
 ·simp[h]
 ·have h' : (x.pid == pid)=false:=by simpa using h
  rw[List.find?_cons_of_neg (by simp[h']),if_neg h]
theorem aQ2 {l:List ProdD} {pid:Int} {p:ProdD} (h:bE l pid=(p,true)):p.pid=pid:=by
 unfold bE at h
 split at h
 ·rename_i q hq
  have:=List.find?_some hq
  cases h
  simpa using this
 ·cases h
theorem zF (pid:Int):∀ (l:List ProdD) (b:Int),jB l b=true→mT l pid=aA8 pid l
 | [],_,_=>rfl
 | x::l,b,h=>by
  rw[jB,Bool.and_eq_true] at h
  have ih:=zF pid l x.pid h.2
  unfold mT at ih ⊢
  rw[dU]
  by_cases hx:x.pid=pid
  ·rw[if_pos hx,if_pos rfl,dI]
   simp only[eI,aA8,hx,Int.le_refl,if_true]
  ·rw[if_neg hx]
   simp only[aA8,hx,if_false]
   rw[← ih]
   cases hf:bE l pid with
   | mk q k =>
    cases k with
    | false=>rfl
    | true =>
     have hq:=aQ2 hf
     have hg:=aHb l x.pid h.2 q (kK hf)
     simp only[if_true,dI]
     rw[eI,if_neg (by show ¬ q.pid≤x.pid;omega)]
theorem aEm {l:List ProdD} (pid:Int) (h:gH l=true):mT l pid=dT l pid:=by
 rw[zF pid l 0 h,nS]
theorem aQ8 {p:ProdD} (h:bB p=true):bB ⟨p.pid,p.epoch,p.next,[]⟩=true:=by
 unfold bB at h ⊢
 rw[Bool.and_eq_true] at h ⊢
 refine⟨?_,rfl⟩
 have h1:=h.1
 unfold fB at h1 ⊢
 simp only[Bool.not_eq_true',Bool.or_eq_false_iff] at h1 ⊢
 exact⟨h1.1,by simp⟩
theorem aK1 (pid:Int):∀ (l:List ProdD) (b:Int),jB l b=true→jB (aA8 pid l) b=true
 | [],_,_=>rfl
 | x::l,b,h=>by
  rw[jB,Bool.and_eq_true] at h
  unfold aA8
  split
  ·rw[jB,Bool.and_eq_true]
   refine⟨?_,h.2⟩
   have h1:=h.1
   simp only[Bool.not_eq_true',Bool.or_eq_false_iff,Bool.not_eq_false'] at h1 ⊢
   exact⟨h1.1,aQ8 h1.2⟩
  ·rw[jB,h.1,aK1 pid l x.pid h.2];rfl
theorem aFe {l:List ProdD} (pid:Int) (h:gH l=true):gH (dT l pid)=true:=by
 rw[nS];exact aK1 pid l 0 h
theorem sO {l:List ProdD} {b:BatD} {base:Int} (h:(aJ l b base).2=0):gH (aJ l b base).1=true:=by
 obtain⟨a1,a2,a3,a4⟩:=pO h
 rw[a4]
 exact nU (pU a2).1 (tA a1 a2 a3)
theorem mN (l:List ProdD) (b:BatD) (base:Int) (hb : -1≤base∧base≤1048576):(aJ l b base).2=0 ↔ (aN l b).2.2=0∧(aN l b).2.1=false :=
 ⟨fun h=>⟨(pO h).2.1,(pO h).2.2.1⟩,fun h=>aDb l b base h.1 h.2 hb⟩
def iU (p:PartD) (b:BatD):Option PartD :=
 if bX p.opens b.pid=true∨b.txn=true∨(aJ p.prods b p.fin).2≠0 then none else some { p with prods:=(aJ p.prods b p.fin).1,rows:=p.rows++cB b p.fin,fin:=p.fin+(b.recs.length:Int) }
def aKh (p:PartD) (b:BatD):Option PartD :=
 match bX p.opens b.pid,p.opens[aQ p.opens b.pid]? with
 | true,some o=>if o.epoch≠b.epoch∨8≤o.bats.length then none else some { p with opens:=p.opens.take (aQ p.opens b.pid)++(⟨b.pid,b.epoch,o.bats++[b]⟩:OpenD)::p.opens.drop (aQ p.opens b.pid+1) }
 | _,_=>some { p with opens:=p.opens.take (aQ p.opens b.pid)++(⟨b.pid,b.epoch,[b]⟩:OpenD)::p.opens.drop (aQ p.opens b.pid) }
def aE8 (p:PartD) (b:BatD):Option PartD :=
 if (aJ p.prods b (-1)).2≠0 then none else match aKh p b with
 | some q=>some { q with prods:=(aJ p.prods b (-1)).1 }
 | none=>none
def aSm (p:PartD) (b:BatD) (yes:Bool):Option PartD :=
 match bX p.opens b.pid,p.opens[aQ p.opens b.pid]? with
 | true,some o=>if o.epoch≠b.epoch then none else
   some { jE { p with opens:=p.opens.take (aQ p.opens b.pid)++p.opens.drop (aQ p.opens b.pid+1) } (if yes then o.bats else []) with fin:=(jE { p with opens:=p.opens.take (aQ p.opens b.pid)++p.opens.drop (aQ p.opens b.pid+1) } (if yes then o.bats else [])).fin+1,prods:=mT p.prods b.pid }
 | _,_=>none
def iP (p:PartD) (e:EntD):Option PartD :=
 if e.kind=2 then (if e.off<p.start∨p.fin<e.off then none else some { p with start:=e.off,rows:=tQ (aB8 e.off) p.rows })
 else if e.kind=5 then some { p with rows:=p.rows++[{ e.row with off:=p.fin }],fin:=p.fin+1 }
 else if e.kind=6 then (if bX p.opens e.prod.pid=true then none else some { p with prods:=cM p.prods e.prod })
 else none
def aO7 (p:PartD) (e:EntD):Option PartD :=
 if e.kind=0 then (if e.b.txn=true then aE8 p e.b else iU p e.b)
 else if e.kind=1 then aSm p e.b e.yes
 else iP p e
def aUf (p:PartD) (e:EntD):Option PartD :=
 if aK e=false then none else match aO7 p e with
 | some q=>if 1048576<q.fin then none else some q
 | none=>none
theorem aCr (os:List OpenD):∀ (l:List BatD) (p:PartD),jE { p with opens:=os } l = { jE p l with opens:=os }
 | [],p=>rfl
 | b::l,p=>aCr os l { p with rows:=p.rows++cB b p.fin,fin:=p.fin+(b.recs.length:Int) }
theorem aNw (p:PartD) (b:BatD) (hf:0≤p.fin∧p.fin≤1048576):(match (if b.txn=true then aE8 p b else iU p b) with|some q=>if 1048576<q.fin then none else some q|none=>none)=kE p b:=by
 have i1:=mN p.prods b (-1) (by omega)
 have i2:=mN p.prods b p.fin (by omega)
 unfold kE
 by_cases hc:(aN p.prods b).2.2≠0∨(aN p.prods b).2.1=true
 ·rw[if_pos hc]
  have hn:¬ ((aN p.prods b).2.2=0∧(aN p.prods b).2.1=false):=fun h=>by
   rcases hc with hc|hc
   ·exact hc h.1
   ·rw[h.2] at hc;cases hc
  have n1:(aJ p.prods b (-1)).2≠0:=fun h=>hn (i1.1 h)
  have n2:(aJ p.prods b p.fin).2≠0:=fun h=>hn (i2.1 h)
  cases ht:b.txn with
  | true=>rw[if_pos rfl];unfold aE8;rw[if_pos n1]
  | false=>rw[if_neg (by simp)];unfold iU;rw[if_pos (.inr (.inr n2))]
 ·rw[if_neg hc]
  have hy:(aN p.prods b).2.2=0∧(aN p.prods b).2.1=false:=by
   refine⟨Decidable.not_not.1 (fun h=>hc (.inl h)),?_⟩
   cases h:(aN p.prods b).2.1 with
   | false=>rfl
   | true=>exact absurd (.inr h) hc
  have n1:=i1.2 hy
  have n2:=i2.2 hy
  cases ho:bX p.opens b.pid with
  | true =>
   obtain⟨o,hi,hpid⟩:=tD ho
   simp only[hi]
   cases ht:b.txn with
   | false =>
    rw[if_neg (by simp),if_pos (.inl rfl)]
    unfold iU
    rw[if_pos (.inl ho)]
   | true =>
    rw[if_pos rfl]
    unfold aE8 aKh
    rw[if_neg (by simp[n1])]
    simp only[ho,hi]
    by_cases hx:o.epoch≠b.epoch∨8≤o.bats.length
    ·rw[if_pos hx,if_pos (.inr hx)]
    ·rw[if_neg hx,if_neg (fun h=>h.elim (fun h=>by cases h) hx)]
     have he:o.epoch=b.epoch:=Decidable.not_not.1 (fun h=>hx (.inl h))
     have hlt:=(List.getElem?_eq_some_iff.1 hi).1
     simp only
     rw[if_neg (by omega),List.set_eq_take_append_cons_drop,if_pos hlt,hpid,he]
  | false =>
   simp only
   cases ht:b.txn with
   | false =>
    rw[if_neg (by simp),if_pos rfl]
    unfold iU
    rw[if_neg (by rw[ho,ht,n2];simp)]
   | true =>
    rw[if_pos rfl,if_neg (by simp)]
    unfold aE8 aKh
    rw[if_neg (by simp[n1])]
    simp only[ho]
    rw[if_neg (by omega)]
theorem aWc (p:PartD) (b:BatD) (yes:Bool) (hm:gH p.prods=true):(match aSm p b yes with|some q=>if 1048576<q.fin then none else some q|none=>none)=wD p b yes:=by
 unfold aSm wD
 cases ho:bX p.opens b.pid with
 | false=>rfl
 | true =>
  obtain⟨o,hi,hpid⟩:=tD ho
  simp only[hi]
  by_cases he:o.epoch=b.epoch
  ·have hne:¬ o.epoch≠b.epoch:=fun h=>h he
   rw[if_neg hne,if_neg hne]
   obtain⟨L,hL⟩:∃ L,L=(if yes then o.bats else []):=⟨_,rfl⟩
   rw[← hL,aCr,aEm b.pid hm]
   have hk:=(uS L p).2.2.2.1
   simp only[hk]
  ·have hne:o.epoch≠b.epoch:=he
   rw[if_pos hne,if_pos hne]
theorem aX9 (p:PartD) (e:EntD) (hf:0≤p.fin∧p.fin≤1048576) (hm:gH p.prods=true):aUf p e=bO p e:=by
 unfold aUf bO
 cases ho:aK e with
 | false=>rfl
 | true =>
  simp only[aK,Bool.and_eq_true,decide_eq_true_eq] at ho
  rw[if_neg (by simp),if_neg (by simp)]
  unfold aO7
  by_cases h0:e.kind=0
  ·rw[if_pos h0,if_pos h0];exact aNw p e.b hf
  rw[if_neg h0,if_neg h0]
  by_cases h1:e.kind=1
  ·rw[if_pos h1,if_pos h1];exact aWc p e.b e.yes hm
  rw[if_neg h1,if_neg h1]
  unfold iP
  by_cases h2:e.kind=2
  ·rw[if_pos h2,if_pos h2]
   by_cases hx:e.off<p.start∨p.fin<e.off
   ·rw[if_pos hx]
   ·rw[if_neg hx];simp only;rw[if_neg (by omega)]
  rw[if_neg h2,if_neg h2]
  by_cases h3:e.kind=3
  ·rw[if_pos h3,if_neg (by omega),if_neg (by omega)]
  rw[if_neg h3]
  by_cases h4:e.kind=4
  ·rw[if_pos h4,if_neg (by omega),if_neg (by omega)]
  rw[if_neg h4]
  by_cases h5:e.kind=5
  ·rw[if_pos h5,if_pos h5]
   simp only
   by_cases hx:p.fin=1048576
   ·rw[if_pos hx,if_pos (by omega)]
   ·rw[if_neg hx,if_neg (by omega)]
  ·have h6:e.kind=6:=by omega
   rw[if_neg h5,if_neg h5,if_pos h6]
   by_cases hx:bX p.opens e.prod.pid=true
   ·rw[if_pos hx]
   ·rw[if_neg hx];simp only;rw[if_neg (by omega)]
theorem aM9 {e:EntD} (ho:aK e=true) (h6:e.kind=6):bB e.prod=true:=by
 simp only[aK,Bool.and_eq_true,decide_eq_true_eq] at ho
 have hm2:=ho.2
 unfold qK at hm2
 rw[if_neg (by omega),if_neg (by omega),if_neg (by omega),if_neg (by omega),if_neg (by omega),if_neg (by omega),Bool.and_eq_true] at hm2
 exact hm2.1
theorem aKz {p p' : PartD} {e:EntD} (hf:0≤p.fin∧p.fin≤1048576) (hm:gH p.prods=true) (h:bO p e=some p'):gH p'.prods=true:=by
 unfold bO at h
 cases ho:aK e with
 | false=>rw[ho,if_pos rfl] at h;cases h
 | true =>
  rw[ho,if_neg (by simp)] at h
  split at h
  ·unfold kE at h
   split at h
   ·cases h
   rename_i hc
   have hy:(aN p.prods e.b).2.2=0∧(aN p.prods e.b).2.1=false:=by
    refine⟨Decidable.not_not.1 (fun h=>hc (.inl h)),?_⟩
    cases h:(aN p.prods e.b).2.1 with
    | false=>rfl
    | true=>exact absurd (.inr h) hc
   have n1:=sO ((mN p.prods e.b (-1) (by omega)).2 hy)
   have n2:=sO ((mN p.prods e.b p.fin (by omega)).2 hy)
   split at h
   ·split at h
    ·cases h
    ·cases h;exact n1
   ·split at h
    ·split at h
     ·cases h
     ·cases h;exact n2
    ·cases h;exact n1
  split at h
  ·unfold wD at h
   split at h
   ·rename_i o _ _
    obtain⟨L,hL⟩:∃ L,L=(if e.yes=true then o.bats else []):=⟨_,rfl⟩
    rw[← hL] at h
    split at h
    ·cases h
    split at h
    ·cases h
    ·cases h;exact aFe _ hm
   ·cases h
  split at h
  ·split at h
   ·cases h
   ·cases h;exact hm
  split at h
  ·cases h
  split at h
  ·cases h
  split at h
  ·split at h
   ·cases h
   ·cases h;exact hm
  ·split at h
   ·cases h
   ·cases h
    simp only[aK,Bool.and_eq_true,decide_eq_true_eq] at ho
    exact nU hm (aM9 (by simp[aK];exact⟨⟨by omega,by omega⟩,ho.2⟩) (by omega))
structure FOkM (k:Nat) (p:PartD):Prop extends FOk k p where
 may:gH p.prods=true
theorem aD9 {k:Nat} {p p' : PartD} {e:EntD} (h:FOkM k p) (hm:bO p e=some p'):FOkM (k+1) p':=⟨aHv h.toFOk hm,aKz h.fin h.may hm⟩
theorem aSb:FOkM 0 pZ:=⟨bC4,rfl⟩
theorem vY:∀ (l:List EntD) (k:Nat) (p p' : PartD),FOkM k p→eS p l=some p'→FOkM (k+l.length) p'
 | [],k,p,p',h,hm=>by cases hm;exact h
 | e::l,k,p,p',h,hm=>by
  unfold eS at hm
  split at hm
  ·rename_i q hq
   have:=vY l (k+1) q p' (aD9 h hq) hm
   rw[List.length_cons,show k+(l.length+1)=k+1+l.length by omega]
   exact this
  ·cases hm
end Go.Proofs.YtpklhnpchhaccaaGreatDoor
