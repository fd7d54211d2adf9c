/- The abstract machine (RhA, RhB, RhC, RhD, RhE). -/
import Derived.Test.YtpklhnpchhaccaaGreatDoorRgN
import Derived.Test.YtpklhnpchhaccaaGreatDoorMpQ
import Derived.Test.YtpklhnpchhaccaaGreatDoorRgM
namespace Go.Proofs.YtpklhnpchhaccaaGreatDoor
open Go Go.RowKit
set_option maxHeartbeats 8000000
set_option maxRecDepth 100000
set_option linter.unusedVariables false
set_option linter.unusedSimpArgs false
abbrev eV:=List (Int × List BatD)
structure RefS where
 p:PartD
 w:eV
 v:Nat
abbrev aXr (x:Int × List BatD):List D:=[int x.1,.lst 5 (x.2.map BatD.dv)]
def aNo (w:eV):List CV:=(w.map aXr).flatten.map CV.d
abbrev hK:List Nat:=[0,9]
abbrev hM (s : RefS) : List (Nat × HE) :=
  [(0, .cells [.d (int s.p.start), .d (int s.p.fin), .d (.lst 5 (s.p.rows.map RowD.dv)), .d (.lst 3 (s.p.opens.map OpenD.dv)), .d (.lst 4 (s.p.prods.map ProdD.dv)), .mt 9 s.v]),
   (9, .mrow 129 2 s.v (aNo s.w))]
abbrev hD (p:PartD) (w:eV):List D:=[int p.start,int p.fin,.lst 5 (p.rows.map RowD.dv),.lst 3 (p.opens.map OpenD.dv),.lst 4 (p.prods.map ProdD.dv),.lst 2 (w.map aXr)]
def wI (w:eV) (pid:Int):Nat:=w.findIdx (fun x=>x.1 == pid)
theorem aUt (w:eV) (pid:Int):wI w pid≤w.length:=List.findIdx_le_length
theorem aOq {w:eV} {pid:Int} (h:wI w pid<w.length):w[wI w pid].1=pid:=by
 have h' : w.findIdx (fun x=>x.1 == pid)<w.length:=h
 have:=List.findIdx_getElem (w:=h')
 exact beq_iff_eq.1 this
theorem aXq {w:eV} {pid:Int} {k:Nat} (hk:k<wI w pid) (h:k<w.length):w[k].1≠pid:=by
 have hk' : k<w.findIdx (fun x=>x.1 == pid):=hk
 have:=List.not_of_lt_findIdx hk'
 simpa using this
def nO (w:eV) (pid:Int):Bool:=decide (wI w pid<w.length)
def cG (w:eV) (pid:Int):List BatD:=match w[wI w pid]? with
 | some x=>x.2
 | none=>[]
def RefS.away (s:RefS) (pid:Int):RefS:=if nO s.w pid then ⟨s.p,s.w.eraseIdx (wI s.w pid),s.v+1⟩ else s
abbrev hM2 (s : RefS) (n : Nat) (u : eV) : List (Nat × HE) :=
  [(0, .cells [.d (int s.p.start), .d (int s.p.fin), .d (.lst 5 (s.p.rows.map RowD.dv)), .d (.lst 3 (s.p.opens.map OpenD.dv)), .d (.lst 4 (s.p.prods.map ProdD.dv)), .mt 9 s.v]),
   (9, .mrow 129 2 s.v (aNo s.w)), (50, .mrow 129 2 n (aNo u))]
set_option maxHeartbeats 16000000
def gZ (p:PartD) (b:BatD):PartD:={ p with prods:=(aJ p.prods b (-1)).1,rows:=p.rows++cB b p.fin,fin:=p.fin+(b.recs.length:Int) }
def aF:PartD→List BatD→Bool × PartD
 | p,[]=>(true,p)
 | p,b::l=>if (aJ p.prods b (-1)).2≠0 then (false,p) else aF (gZ p b) l
theorem qU:∀ (l:List BatD) (p:PartD) (r:List BatD),aF p (l++r)=if (aF p l).1 then aF (aF p l).2 r else aF p l
 | [],p,r=>rfl
 | b::l,p,r=>by
  show (if (aJ p.prods b (-1)).2≠0 then (false,p) else aF (gZ p b) (l++r))=if (if (aJ p.prods b (-1)).2≠0 then (false,p) else aF (gZ p b) l).1 then _ else _
  by_cases h:(aJ p.prods b (-1)).2≠0
  ·have e:aF p (b::l)=(false,p):=by show (if _ then _ else _)=_;rw[if_pos h]
   rw[if_pos h,if_pos h,e];rfl
  ·have e:aF p (b::l)=aF (gZ p b) l:=by show (if _ then _ else _)=_;rw[if_neg h]
   rw[if_neg h,if_neg h,e];exact qU l _ r
def nM (w:eV) (pid:Int):eV:=if nO w pid then w else w++[(pid,[])]
def jT (l:List BatD) (b:BatD):Bool:=decide (8≤(l.length:Int)) || match l with
 | []=>false
 | c::_=>c.epoch != b.epoch
def aGz (s:RefS) (pid:Int):Nat:=if nO s.w pid then s.v else s.v+1
def lY (s:RefS) (e:EntD):Bool × RefS :=
 if jT (cG s.w e.b.pid) e.b then (false,⟨s.p,nM s.w e.b.pid,aGz s e.b.pid⟩) else
 if e.yes=false then (true,⟨s.p,(nM s.w e.b.pid).set (wI s.w e.b.pid) (e.b.pid,cG s.w e.b.pid++[e.b]),aGz s e.b.pid⟩) else
 if e.next≠dQ e.b then (false,⟨s.p,(nM s.w e.b.pid).set (wI s.w e.b.pid) (e.b.pid,cG s.w e.b.pid++[e.b]),aGz s e.b.pid⟩) else
 if (aF s.p (cG s.w e.b.pid++[e.b])).1=false then (false,⟨(aF s.p (cG s.w e.b.pid++[e.b])).2,(nM s.w e.b.pid).eraseIdx (wI s.w e.b.pid),aGz s e.b.pid+1⟩) else
 (true,⟨{ (aF s.p (cG s.w e.b.pid++[e.b])).2 with prods:=mT (aF s.p (cG s.w e.b.pid++[e.b])).2.prods e.b.pid },(nM s.w e.b.pid).eraseIdx (wI s.w e.b.pid),aGz s e.b.pid+1⟩)
theorem xN {w:eV} {pid:Int} (h:nO w pid=false):wI w pid=w.length:=by
 have h1:=aUt w pid
 have h2:¬ wI w pid<w.length:=of_decide_eq_false h
 omega
theorem aYa (w:eV) (pid:Int):(nM w pid)[wI w pid]? = some (pid,cG w pid):=by
 unfold nM cG
 cases h:nO w pid with
 | true =>
  have hlt:wI w pid<w.length:=of_decide_eq_true h
  rw[if_pos rfl,List.getElem?_eq_getElem hlt]
  exact congrArg some (Prod.ext (aOq hlt) rfl)
 | false =>
  rw[if_neg Bool.false_ne_true,xN h,List.getElem?_append_right (Nat.le_refl _),Nat.sub_self,List.getElem?_eq_none (Nat.le_refl _)];rfl
theorem aVs (w:eV) (pid:Int):(nM w pid).length≤w.length+1:=by
 unfold nM;split
 ·omega
 ·rw[List.length_append];simp
structure Sm14 (p:PartD) (w:eV):Prop where
 fin:0≤p.fin∧p.fin≤1048576
 opens:p.opens.length≤1000
 rows:p.rows.length≤100000
 prods:p.prods.length≤10000
 seen:∀ x ∈ p.prods,x.seen.length≤100
 wts:w.length≤1000
 bats:∀ x ∈ w,x.2.length≤8
 recs:∀ x ∈ w,∀ b ∈ x.2,b.recs.length≤4
theorem yT:∀ (l:List BatD) (p:PartD),(∀ b ∈ l,b.recs.length≤4)→(∀ x ∈ p.prods,x.seen.length≤100) →
  (aF p l).2.opens=p.opens∧(aF p l).2.start=p.start∧(aF p l).2.rows.length≤p.rows.length+4*l.length∧p.fin≤(aF p l).2.fin∧(aF p l).2.fin≤p.fin+4*l.length∧(aF p l).2.prods.length≤p.prods.length+l.length∧∀ x ∈ (aF p l).2.prods,x.seen.length≤100
 | [],p,_,h2=>⟨rfl,rfl,by simp[aF],by simp[aF],by simp[aF],by simp[aF],h2⟩
 | b::l,p,hr,h2=>by
  have hb:=hr b (List.mem_cons_self ..)
  by_cases h:(aJ p.prods b (-1)).2≠0
  ·have e:aF p (b::l)=(false,p):=by show (if _ then _ else _)=_;rw[if_pos h]
   rw[e]
   refine⟨rfl,rfl,by simp,by simp,by simp only[List.length_cons];omega,by simp,h2⟩
  ·have e:aF p (b::l)=aF (gZ p b) l:=by show (if _ then _ else _)=_;rw[if_neg h]
   rw[e]
   obtain⟨t1,t2⟩:=nI (k:=p.prods.length) b (-1) (Nat.le_refl _) h2
   have hpl:(gZ p b).prods.length≤p.prods.length+1:=t1
   have hrl:(gZ p b).rows.length=p.rows.length+b.recs.length:=by show (p.rows++cB b p.fin).length=_;rw[List.length_append,iL]
   have hfl:(gZ p b).fin=p.fin+(b.recs.length:Int):=rfl
   obtain⟨q1,q2,q3,q4,q5,q6,q7⟩:=yT l (gZ p b) (fun x hx=>hr x (List.mem_cons_of_mem _ hx)) t2
   refine⟨q1,q2,?_,?_,?_,?_,q7⟩
   ·rw[List.length_cons];omega
   ·omega
   ·rw[List.length_cons];omega
   ·rw[List.length_cons];omega
theorem aZ2 {w1:eV} {i:Nat} {pid:Int} {L:List BatD} (hlt:i<w1.length) (hno:∀ j (h:j<w1.length),j<i→w1[j].1≠pid):wI (w1.set i (pid,L)) pid=i:=by
 unfold wI
 rw[List.findIdx_eq (by rw[List.length_set];exact hlt)]
 refine⟨by rw[List.getElem_set_self];simp,fun j hj=>?_⟩
 rw[List.getElem_set_ne (by omega)]
 simpa using hno j (by omega) hj
theorem aL1 {p:PartD} {l:List BatD} {k:Nat} (hk:k<l.length) (h:(aF p (l.take k)).1=true):aF p (l.take (k+1))=if (aJ (aF p (l.take k)).2.prods l[k] (-1)).2≠0 then (false,(aF p (l.take k)).2) else (true,gZ (aF p (l.take k)).2 l[k]):=by
 rw[List.take_succ_eq_append_getElem hk,qU,if_pos h]
 rfl
theorem aL2 {p:PartD} {l:List BatD} {k:Nat} (h:(aF p (l.take k)).1=false):aF p l=aF p (l.take k):=by
 conv=>lhs;rw[← List.take_append_drop k l]
 rw[qU,if_neg (by rw[h];simp)]
theorem aYb (w:eV) (pid:Int):∀ j (h:j<(nM w pid).length),j<wI w pid→(nM w pid)[j].1≠pid:=fun j h hj=>by
 have hle:=aUt w pid
 have hjl:j<w.length:=by omega
 have hn:=aXq hj hjl
 unfold nM at h ⊢
 split at h
 ·rename_i hk;simp only[hk,if_true];exact hn
 ·rename_i hk
  have e:(if nO w pid=true then w else w++[(pid,[])])[j]? = w[j]?:=by rw[if_neg hk,List.getElem?_append_left hjl]
  have e2:=List.getElem?_eq_getElem hjl
  rw[e2] at e
  have e3:=(List.getElem?_eq_some_iff.1 e).2
  rw[e3];exact hn
theorem aXb {p:PartD} {w:eV} (h:Sm14 p w) (pid:Int):(cG w pid).length≤8∧∀ b ∈ cG w pid,b.recs.length≤4:=by
 unfold cG
 cases hq:w[wI w pid]? with
 | none=>exact⟨by simp,fun b hb=>by simp at hb⟩
 | some x =>
  have hm:=List.mem_of_getElem? hq
  exact⟨h.bats x hm,h.recs x hm⟩
end Go.Proofs.YtpklhnpchhaccaaGreatDoor
