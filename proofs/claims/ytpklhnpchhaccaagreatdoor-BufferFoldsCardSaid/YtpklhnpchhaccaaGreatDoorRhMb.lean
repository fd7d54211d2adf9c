/- The abstract machine (RhF, RhG, RhH, RhI, RhJ). -/
import Derived.Test.YtpklhnpchhaccaaGreatDoorRhMa
import Derived.Test.YtpklhnpchhaccaaGreatDoorCpMc
namespace Go.Proofs.YtpklhnpchhaccaaGreatDoor
open Go Go.RowKit
set_option maxHeartbeats 16000000
set_option maxRecDepth 100000
set_option linter.unusedVariables false
set_option linter.unusedSimpArgs false
def iP (p:PartD) (e:EntD):Bool:=(bB p.prods e.b.pid).2 && (decide (e.b.epoch<(bB p.prods e.b.pid).1.epoch) || (e.b.epoch == (bB p.prods e.b.pid).1.epoch && decide (e.next<(bB p.prods e.b.pid).1.next)))
def uW (p:PartD) (e:EntD):PartD:={ p with prods:=dV p.prods ⟨e.b.pid,e.b.epoch,e.next,[]⟩ }
def kI (s:RefS) (e:EntD):Bool × RefS:=if iP s.p e then (false,s) else (true,⟨uW s.p e,(s.away e.b.pid).w,(s.away e.b.pid).v⟩)
theorem aD0 (s:RefS) (e:EntD) (hsm:Sm14 s.p s.w):FunG Tryz.prog 114 [.c (.own 0 0),jG e] hK (bI (hM s)) (.c (.d (dM (kI s e).1))) hK (bI (hM (kI s e).2)):=by
 have hqs:SmallL s.p.prods:=⟨by have:=hsm.prods;omega,fun x hx=>by have:=hsm.seen x hx;omega⟩
 have hwts:=hsm.wts
 have c1:=lC s.p.prods e.b.pid hqs
 have c2:=(mG s.p.prods ⟨e.b.pid,e.b.epoch,e.next,[]⟩ hqs).args (xs:=[.lst 4 (s.p.prods.map ProdD.dv),.agg [int e.b.pid,int e.b.epoch,int e.next,oC]]) (.cons (.refl _) (.cons (.agg (.cons (.refl _) (.cons (.refl _) (.cons (.refl _) (.cons (.nil 3) .nil))))) .nil))
 unfold kI
 obtain⟨B,hB⟩:∃ B,B=iP s.p e:=⟨_,rfl⟩
 rw[← hB]
 unfold iP at hB
 unfold uW
 generalize hq:(bB s.p.prods e.b.pid).1=q at *
 generalize (bB s.p.prods e.b.pid).2=is at *
 generalize dV s.p.prods ⟨e.b.pid,e.b.epoch,e.next,[]⟩=np at *
 simp only[ProdD.dv] at c1
 refine FunG.of_bodyH rfl rfl Tryz.func114 rfl rfl Tryz.ntmps114 Tryz.results114 (Nat.le_of_ble_eq_true rfl) (aEh rfl rfl) ?_
 (refine gO (ai @aC (ai @EntD.dv.eq_1 (ai @List.map_cons.{0,0} (@List.map_nil.{0,0})))) ?_)
 (first|refine Wp.sto 42 (vb B) ?_ ?_|refine Wp.rtoS 42 (vb B) ?_ ?_|(refine Wp.seq ?_;first|refine Wp.sto 42 (vb B) ?_ ?_|refine Wp.rtoS 42 (vb B) ?_ ?_))
 ·rw[hB]
  cases is<;>cases q1:decide (e.b.epoch<q.epoch)<;>cases q2:(e.b.epoch == q.epoch)<;>cases q3:decide (e.next<q.next)<;>(((refine rO (ai @EntD.dv.eq_1 (ai q1 (ai q2 (q3)))) ?_;try with_reducible exact tt);(repeat (refine dB (by assumption) ?_;(refine rO (ai @EntD.dv.eq_1 (ai q1 (ai q2 (q3)))) ?_))));all_goals (exact (show bE _ _=true by kernel_rfl)))
 cases B with
 | true =>
  (refine gO (@aC) ?_)
  refine aO.ret ?_
  (refine rO (ai @aC (ai @aJ.eq_1 (ai @aJ.eq_2 (@if_true.{1})))) ?_;try with_reducible exact tt)
 | false =>
 rw[if_neg Bool.false_ne_true]
 cases hk:lL s.w e.b.pid with
 | false =>
  have c3:=aKg s e.b.pid (by omega) hk
  have ha:s.away e.b.pid=s:=by unfold RefS.away;rw[hk];rfl
  rw[ha]
  (refine gO (ai @aC (ai @EntD.dv.eq_1 (ai @List.map_cons.{0,0} (@List.map_nil.{0,0})))) ?_)
  (first|refine Wp.sregG ?_|refine Wp.regG ?_|(refine Wp.seq ?_;first|refine Wp.sregG ?_|refine Wp.regG ?_))
  (refine aH.at 4 (fun K hK=>?_);(refine rO (ai @aC (ai @EntD.dv.eq_1 (ai @List.map_cons.{0,0} (@List.map_nil.{0,0})))) ?_);refine hK _ ?_;clear hK K)
  (refine aH.call (c3) [] 1010 rfl rfl ?_ ?_;(focus ((refine wG (ai @cT (ai @aC (ai @aM (ai @EntD.dv.eq_1 (ai @List.map_cons.{0,0} (@List.map_nil.{0,0})))))) ?_;try with_reducible exact tt);done)))
  (refine aH.done (fun K hK=>?_);(refine rOt (ai @aC (ai @cH.eq_1 (ai @cH.eq_2 (ai @aM (ai @bU (ai @List.map_cons.{0,0} (@List.map_nil.{0,0}))))))) ?_);refine hK _ ?_;clear hK K)
  (refine gO (ai @aC (ai @EntD.dv.eq_1 (ai @List.map_cons.{0,0} (@List.map_nil.{0,0})))) ?_)
  refine aO.ret ?_
  (refine rO (ai @aC (ai @aJ.eq_1 (@aJ.eq_2))) ?_;try with_reducible exact tt)
 | true =>
  have c3:=xX s e.b.pid (by omega) hk
  have ha:s.away e.b.pid=⟨s.p,s.w.eraseIdx (wI s.w e.b.pid),s.v+1⟩:=by unfold RefS.away;rw[hk];rfl
  rw[ha]
  (refine gO (ai @aC (ai @EntD.dv.eq_1 (ai @List.map_cons.{0,0} (@List.map_nil.{0,0})))) ?_)
  (first|refine Wp.sregG ?_|refine Wp.regG ?_|(refine Wp.seq ?_;first|refine Wp.sregG ?_|refine Wp.regG ?_))
  (refine aH.at 4 (fun K hK=>?_);(refine rO (ai @aC (ai @EntD.dv.eq_1 (ai @List.map_cons.{0,0} (@List.map_nil.{0,0})))) ?_);refine hK _ ?_;clear hK K)
  (refine aH.call (c3) [] 1010 rfl rfl ?_ ?_;(focus ((refine wG (ai @cT (ai @aC (ai @aM (ai @EntD.dv.eq_1 (ai @List.map_cons.{0,0} (@List.map_nil.{0,0})))))) ?_;try with_reducible exact tt);done)))
  (refine aH.done (fun K hK=>?_);(refine rOt (ai @aC (ai @cH.eq_1 (ai @cH.eq_2 (ai @aM (ai @bU (ai @List.map_cons.{0,0} (@List.map_nil.{0,0}))))))) ?_);refine hK _ ?_;clear hK K)
  (refine gO (ai @aC (ai @EntD.dv.eq_1 (ai @List.map_cons.{0,0} (@List.map_nil.{0,0})))) ?_)
  refine aO.ret ?_
  (refine rO (ai @aC (ai @aJ.eq_1 (@aJ.eq_2))) ?_;try with_reducible exact tt)
theorem aHn (p:PartD) (b:BatD) (yes:Bool) (next off:Int) (row:RowD) (prod:ProdD) :
  aW Tryz.prog 115 [.agg p.dv,.agg (EntD.mk 1 b yes next off row prod).dv] (.tup [.agg p.dv,dM false]):=by
 (refine aW.of_bodyW Tryz.func115 rfl rfl Tryz.ntmps115 Tryz.results115 (by simp) ?_)
 (refine gO (ai @PartD.dv.eq_1 (@EntD.dv.eq_1)) ?_)
 (refine rO (@PartD.dv.eq_1) ?_)
 exact⟨_,rfl,fun K v h=>h⟩
theorem aM0 (p:PartD) (e:EntD) (w:eE) (hsm:Sm14 p w) (ho:e.kind=1∨e.kind=2∨e.kind=5∨e.kind=6) :
  ∃ q ok,aW Tryz.prog 115 [.agg p.dv,.agg e.dv] (.tup [.agg q.dv,dM ok])∧((ok=true∧kF p e=some q)∨(ok=false∧kF p e=none∧q=p)):=by
 have hfin:=hsm.fin
 have hop:=hsm.opens
 have hrw:=hsm.rows
 have hqs:SmallL p.prods:=⟨by have:=hsm.prods;omega,fun x hx=>by have:=hsm.seen x hx;omega⟩
 obtain⟨k,b,yes,next,off,row,prod⟩:=e
 dsimp only at ho
 rcases ho with rfl|rfl|rfl|rfl
 ·exact⟨p,false,aHn p b yes next off row prod,.inr ⟨rfl,rfl,rfl⟩⟩
 ·show ∃ q ok,_∧((ok=true∧(if off<p.start∨p.fin<off then none else some { p with start:=off,rows:=jJ (nJ off) p.rows })=some q)∨(ok=false∧(if off<p.start∨p.fin<off then none else some { p with start:=off,rows:=jJ (nJ off) p.rows })=none∧q=p))
  by_cases hc:off<p.start∨p.fin<off
  ·rw[if_pos hc]
   exact⟨p,false,aKi p b yes next off row prod hc,.inr ⟨rfl,rfl,rfl⟩⟩
  ·rw[if_neg hc]
   exact⟨_,true,aHm p b yes next off row prod (by omega) hc,.inl ⟨rfl,rfl⟩⟩
 ·exact⟨_,true,aHo p b yes next off row prod (by omega) (by omega),.inl ⟨rfl,rfl⟩⟩
 ·show ∃ q ok,_∧((ok=true∧(if bL p.opens prod.pid=true then none else some { p with prods:=dV p.prods prod })=some q)∨(ok=false∧(if bL p.opens prod.pid=true then none else some { p with prods:=dV p.prods prod })=none∧q=p))
  cases hob:bL p.opens prod.pid with
  | true=>exact⟨p,false,aFi p b yes next off row prod (by omega) hob,.inr ⟨rfl,rfl,rfl⟩⟩
  | false=>exact⟨_,true,aCu p b yes next off row prod (by omega) hqs hob,.inl ⟨rfl,rfl⟩⟩
def iW (s:RefS) (e:EntD):Bool × RefS :=
 if e.kind=0 then (match jA s.p e.b with
  | some q=>(true,⟨q,s.w,s.v⟩)
  | none=>(false,s))
 else if e.kind=3 then lA s e
 else if e.kind=4 then kI s e
 else match kF s.p e with
  | some q=>(true,⟨q,s.w,s.v⟩)
  | none=>(false,s)
theorem aLm (s:RefS) (e:EntD) (hsm:Sm14 s.p s.w) (hb:e.b.recs.length≤4) (hk:0≤e.kind∧e.kind<7):FunG Tryz.prog 59 [.c (.own 0 0),jG e] hK (bI (hM s)) (.c (.d (dM (iW s e).1))) hK (bI (hM (iW s e).2)):=by
 have hqs:SmallL s.p.prods:=⟨by have:=hsm.prods;omega,fun x hx=>by have:=hsm.seen x hx;omega⟩
 have hfin:=hsm.fin
 have hop:=hsm.opens
 have hrw:=hsm.rows
 have hbV:jG e = .agg (e.dv.map CV.d):=rfl
 unfold iW
 refine FunG.of_bodyH rfl rfl Tryz.func59 rfl rfl Tryz.ntmps59 Tryz.results59 (Nat.le_of_ble_eq_true rfl) (aEh rfl rfl) ?_
 by_cases k0:e.kind=0
 ·have e0:(e.kind == 0)=true:=by simpa using k0
  have c1:=aGl s.p e.b (by omega) hqs (by omega) (by omega) (by omega)
  rw[if_pos k0]
  unfold jA
  by_cases hc:bL s.p.opens e.b.pid=true∨e.b.txn=true∨(aG s.p.prods e.b s.p.fin).2≠0
  ·rw[if_pos hc,decide_eq_false (fun h=>h hc)] at c1
   rw[if_pos hc]
   simp only[PartD.dv,BatD.dv] at c1
   (refine gO (ai @aC (ai @EntD.dv.eq_1 (ai e0 (ai @List.map_cons.{0,0} (@List.map_nil.{0,0}))))) ?_)
   refine aO.ret ?_
   (refine rO (ai @aC (ai @aJ.eq_1 (@aJ.eq_2))) ?_;try with_reducible exact tt)
  ·rw[if_neg hc,decide_eq_true hc] at c1
   rw[if_neg hc]
   simp only[PartD.dv,BatD.dv] at c1
   (refine gO (ai @aC (ai @EntD.dv.eq_1 (ai e0 (ai @List.map_cons.{0,0} (@List.map_nil.{0,0}))))) ?_)
   refine aO.ret ?_
   (refine rO (ai @aC (ai @aJ.eq_1 (@aJ.eq_2))) ?_;try with_reducible exact tt)
 have e0:(e.kind == 0)=false:=by simpa using k0
 rw[if_neg k0]
 by_cases k3:e.kind=3
 ·have e3:(e.kind == 3)=true:=by simpa using k3
  have c1:=aFw s e hsm hb
  rw[if_pos k3]
  (refine gO (ai @aC (ai @EntD.dv.eq_1 (ai e0 (ai e3 (ai @List.map_cons.{0,0} (@List.map_nil.{0,0})))))) ?_)
  (first|refine Wp.sregG ?_|refine Wp.regG ?_|(refine Wp.seq ?_;first|refine Wp.sregG ?_|refine Wp.regG ?_))
  (refine aH.at 2 (fun K hK=>?_);(refine rO (ai @aC (ai @EntD.dv.eq_1 (ai @List.map_cons.{0,0} (@List.map_nil.{0,0})))) ?_);refine hK _ ?_;clear hK K)
  (refine aH.call (c1) [] 1010 rfl rfl ?_ ?_;(focus ((refine wG (ai @cT (ai @aC (ai @aM (ai hbV (ai @EntD.dv.eq_1 (ai @List.map_cons.{0,0} (@List.map_nil.{0,0}))))))) ?_;try with_reducible exact tt);done)))
  (refine aH.done (fun K hK=>?_);(refine rOt (ai @aC (ai @cH.eq_1 (ai @cH.eq_2 (ai @aM (ai @bU (ai @List.map_cons.{0,0} (@List.map_nil.{0,0}))))))) ?_);refine hK _ ?_;clear hK K)
  (refine gO (@aC) ?_)
  refine aO.ret ?_
  (refine rO (ai @aC (ai @aJ.eq_1 (@aJ.eq_2))) ?_;try with_reducible exact tt)
 have e3:(e.kind == 3)=false:=by simpa using k3
 rw[if_neg k3]
 by_cases k4:e.kind=4
 ·have e4:(e.kind == 4)=true:=by simpa using k4
  have c1:=aD0 s e hsm
  rw[if_pos k4]
  (refine gO (ai @aC (ai @EntD.dv.eq_1 (ai e0 (ai e3 (ai e4 (ai @List.map_cons.{0,0} (@List.map_nil.{0,0}))))))) ?_)
  (first|refine Wp.sregG ?_|refine Wp.regG ?_|(refine Wp.seq ?_;first|refine Wp.sregG ?_|refine Wp.regG ?_))
  (refine aH.at 2 (fun K hK=>?_);(refine rO (ai @aC (ai @EntD.dv.eq_1 (ai @List.map_cons.{0,0} (@List.map_nil.{0,0})))) ?_);refine hK _ ?_;clear hK K)
  (refine aH.call (c1) [] 1010 rfl rfl ?_ ?_;(focus ((refine wG (ai @cT (ai @aC (ai @aM (ai hbV (ai @EntD.dv.eq_1 (ai @List.map_cons.{0,0} (@List.map_nil.{0,0}))))))) ?_;try with_reducible exact tt);done)))
  (refine aH.done (fun K hK=>?_);(refine rOt (ai @aC (ai @cH.eq_1 (ai @cH.eq_2 (ai @aM (ai @bU (ai @List.map_cons.{0,0} (@List.map_nil.{0,0}))))))) ?_);refine hK _ ?_;clear hK K)
  (refine gO (@aC) ?_)
  refine aO.ret ?_
  (refine rO (ai @aC (ai @aJ.eq_1 (@aJ.eq_2))) ?_;try with_reducible exact tt)
 have e4:(e.kind == 4)=false:=by simpa using k4
 rw[if_neg k4]
 obtain⟨q,ok,c1,hcase⟩:=aM0 s.p e s.w hsm (by omega)
 simp only[PartD.dv,EntD.dv] at c1
 (refine gO (ai @aC (ai @EntD.dv.eq_1 (ai e0 (ai e3 (ai e4 (ai @List.map_cons.{0,0} (@List.map_nil.{0,0}))))))) ?_)
 rcases hcase with ⟨rfl,hq⟩|⟨rfl,hq,rfl⟩
 ·rw[hq]
  refine aO.ret ?_
  (refine rO (ai @aC (ai @aJ.eq_1 (@aJ.eq_2))) ?_;try with_reducible exact tt)
 ·rw[hq]
  refine aO.ret ?_
  (refine rO (ai @aC (ai @aJ.eq_1 (@aJ.eq_2))) ?_;try with_reducible exact tt)
structure SideD where
 pid:Int
 l:List EntD
 deriving DecidableEq
abbrev SideD.dv (s:SideD):List D:=[int s.pid,.lst 18 (s.l.map EntD.dv)]
theorem aPz (p:PartD) (b:BatD) (hop:p.opens.length≤100000) :
  ∃ q ok,aW Tryz.prog 117 [.agg p.dv,.agg b.dv] (.tup [.agg q.dv,dM ok])∧((ok=true∧xJ p b=some q)∨(ok=false∧xJ p b=none∧q=p)):=by
 unfold xJ
 cases hob:bL p.opens b.pid with
 | false =>
  have c2:=aDb p b (by omega) hob
  exact⟨_,true,c2,.inl ⟨rfl,rfl⟩⟩
 | true =>
  obtain⟨o,hi,hpid⟩:=oV hob
  simp only[hi]
  by_cases hx:o.epoch≠b.epoch∨8≤o.bats.length
  ·have c2:=aGm p b (by omega) hob o hi hx
   rw[if_pos hx]
   exact⟨_,false,c2,.inr ⟨rfl,rfl,rfl⟩⟩
  ·have hep:o.epoch=b.epoch:=Decidable.not_not.1 (fun h=>hx (.inl h))
   have hbl:o.bats.length<8:=by
    rcases Nat.lt_or_ge o.bats.length 8 with h|h
    ·exact h
    ·exact absurd (.inr h) hx
   have c2:=aDa p b (by omega) hob o hi hep hbl
   rw[if_neg hx]
   exact⟨_,true,c2,.inl ⟨rfl,rfl⟩⟩
def jO (s:SideD) (x:EntD):Bool:=!aL x || (x.kind != 0 || (!x.b.txn || (x.b.pid != s.pid || match s.l with
 | []=>false
 | y::_=>x.b.epoch != y.b.epoch)))
def gU (s:SideD) (p:PartD) (x:EntD):Option PartD:=if jO s x then none else uJ p x.b
def cD (s:SideD):PartD→List EntD→Bool × PartD
 | p,[]=>(true,p)
 | p,x::l=>match gU s p x with
  | none=>(false,p)
  | some q=>cD s q l
theorem sT (s:SideD):∀ (l:List EntD) (p:PartD) (r:List EntD),cD s p (l++r)=if (cD s p l).1 then cD s (cD s p l).2 r else cD s p l
 | [],p,r=>rfl
 | x::l,p,r=>by
  show (match gU s p x with|none=>(false,p)|some q=>cD s q (l++r))=_
  have e:cD s p (x::l)=match gU s p x with|none=>(false,p)|some q=>cD s q l:=rfl
  rw[e]
  cases gU s p x with
  | none=>rfl
  | some q=>exact sT s l q r
theorem aC2 {s:SideD} {p:PartD} {l:List EntD} {k:Nat} (hk:k<l.length) (h:(cD s p (l.take k)).1=true):cD s p (l.take (k+1))=match gU s (cD s p (l.take k)).2 l[k] with
  | none=>(false,(cD s p (l.take k)).2)
  | some q=>(true,q):=by
 rw[List.take_succ_eq_append_getElem hk,sT,if_pos h]
 rfl
theorem aM9 {s:SideD} {p:PartD} {l:List EntD} {k:Nat} (h:(cD s p (l.take k)).1=false):cD s p l=cD s p (l.take k):=by
 conv=>lhs;rw[← List.take_append_drop k l]
 rw[sT,if_neg (by rw[h];simp)]
structure Grow14 (p q:PartD) (k:Nat):Prop where
 fin:q.fin=p.fin
 start:q.start=p.start
 rows:q.rows=p.rows
 opens:q.opens.length≤p.opens.length+k
 prods:q.prods.length≤p.prods.length+k
 seen:∀ x ∈ q.prods,x.seen.length≤100
theorem aQj {p q r:PartD} {b:BatD} {k:Nat} (h:Grow14 p q k) (ht:uJ q b=some r):Grow14 p r (k+1):=by
 unfold uJ at ht
 split at ht
 ·cases ht
 split at ht
 rotate_left
 ·cases ht
 rename_i u hu
 cases ht
 obtain⟨t1,t2⟩:=kX (k:=q.prods.length) b (-1) (Nat.le_refl _) h.seen
 have hprods:=h.prods
 have hopens:=h.opens
 have hfin:=h.fin
 have hstart:=h.start
 have hrows:=h.rows
 unfold xJ at hu
 split at hu
 ·split at hu
  ·cases hu
  ·cases hu
   refine⟨hfin,hstart,hrows,?_,?_,t2⟩
   ·show (q.opens.take _++_::q.opens.drop _).length≤_
    rw[List.length_append,List.length_cons,List.length_take,List.length_drop];omega
   ·show (aG q.prods b (-1)).1.length≤_;omega
 ·cases hu
  refine⟨hfin,hstart,hrows,?_,?_,t2⟩
  ·show (q.opens.take _++_::q.opens.drop _).length≤_
   rw[List.length_append,List.length_cons,List.length_take,List.length_drop];omega
  ·show (aG q.prods b (-1)).1.length≤_;omega
theorem uC (s:SideD):∀ (l:List EntD) (p q:PartD) (k:Nat),Grow14 p q k→Grow14 p (cD s q l).2 (k+l.length)
 | [],p,q,k,h=>h
 | x::l,p,q,k,h=>by
  have e:cD s q (x::l)=match gU s q x with|none=>(false,q)|some r=>cD s r l:=rfl
  rw[e]
  cases hs:gU s q x with
  | none=>exact⟨h.fin,h.start,h.rows,by have:=h.opens;rw[List.length_cons];dsimp only;omega,by have:=h.prods;rw[List.length_cons];dsimp only;omega,h.seen⟩
  | some r =>
   unfold gU at hs
   split at hs
   ·cases hs
   have:=uC s l p r (k+1) (aQj h hs)
   rw[List.length_cons,show k+(l.length+1)=k+1+l.length by omega]
   exact this
def fA (s:RefS) (x:SideD):Bool × RefS :=
 if x.l.length=0∨8<x.l.length then (false,s) else ((cD x s.p x.l).1,⟨(cD x s.p x.l).2,s.w,s.v⟩)
abbrev hMs (s : RefS) (x : SideD) : List (Nat × HE) :=
  [(0, .cells [.d (int s.p.start), .d (int s.p.fin), .d (.lst 5 (s.p.rows.map RowD.dv)), .d (.lst 3 (s.p.opens.map OpenD.dv)), .d (.lst 4 (s.p.prods.map ProdD.dv)), .mt 9 s.v]),
   (9, .mrow 129 2 s.v (aY s.w)), (1000, .cells [.d (int x.pid), .d (.lst 18 (x.l.map EntD.dv))])]
theorem aJc {L:List (Nat × SV)} {s:RefS} {x:SideD} (hL:(L.all fun p=>p.2.ids.all fun i=>[0,9,1000].contains i)=true):(gK L (hMs s x) && dW ⟨[0,9],[],false,none⟩ (hMs s x))=true:=by
 have e1:(hMs s x).map (·.1)=[0,9,1000]:=rfl
 unfold gK
 rw[e1,hL]
 simp only[List.all_cons,List.all_nil,HE.ids,aY,eS,Bool.and_true,Bool.true_and]
 rfl
theorem aMa (s:RefS) (x:SideD) (hsm:s.p.opens.length≤50000∧s.p.prods.length≤50000∧∀ q ∈ s.p.prods,q.seen.length≤100) (hr:∀ e ∈ x.l,e.b.recs.length≤100000∧e.prod.seen.length≤100000):FunG Tryz.prog 60 [.c (.own 0 0),.agg [.d (int x.pid),.d (.lst 18 (x.l.map EntD.dv))]] hK (bI (hM s)) (.c (.d (dM (fA s x).1))) hK (bI (hM (fA s x).2)):=by
 unfold fA
 refine FunG.of_bodyH rfl rfl Tryz.func60 rfl rfl Tryz.ntmps60 Tryz.results60 (Nat.le_of_ble_eq_true rfl) (aEh rfl rfl) ?_
 by_cases h0:x.l.length=0
 ·have d0:((x.l.length:Int) == 0)=true:=by simp[h0]
  rw[if_pos (.inl h0)]
  (refine gO (ai @aC (d0)) ?_)
  refine aO.ret ?_
  (refine rO (ai @aC (ai @aJ.eq_1 (@aJ.eq_2))) ?_;try with_reducible exact tt)
 have d0:((x.l.length:Int) == 0)=false:=by simp[h0]
 by_cases h8:8<x.l.length
 ·have d8:decide ((8:Int)<(x.l.length:Int))=true:=decide_eq_true (by omega)
  rw[if_pos (.inr h8)]
  (refine gO (ai @aC (ai d0 (d8))) ?_)
  refine aO.ret ?_
  (refine rO (ai @aC (ai @aJ.eq_1 (@aJ.eq_2))) ?_;try with_reducible exact tt)
 have d8:decide ((8:Int)<(x.l.length:Int))=false:=decide_eq_false (by omega)
 rw[if_neg (by omega)]
 (refine gO (ai @aC (ai d0 (d8))) ?_)
 refine Wp.loop (fun k:Nat=>⟨iH [(0,.c (.own 0 0)),(3,.c (.own 1000 0)),(5,vi .i64 k)],bI (hMs ⟨(cD x s.p (x.l.take k)).2,s.w,s.v⟩ x),1010,99,⟨[0,9],[],false,none⟩⟩) (fun k=>k≤x.l.length∧(cD x s.p (x.l.take k)).1=true) (fun k=>x.l.length - k) 0 ⟨Nat.zero_le _,rfl⟩ ?_ ?_
 ·refine aD.keep rfl (aJc rfl) ?_
  simp (maxSteps:=2000000) (disch:=omega) only[gE,TY,bW,eH,fP,SV.ofD,eA,eO,fI,fJ,bR,fK,eX,eQ,fL,eL,fG,fF,fH,CV.exact,CV.lstOf,CV.lenOf,CV.one,D.one,Value.oneCell',CV.toD0,fX,eF,fZ,fC,rD0,gC,fD,fY,reduceCtorEq,reduceIte,Nat.reduceBEq,Nat.reduceEqDiff,Nat.reduceAdd,Nat.reduceMul,Nat.reduceSub,Nat.reduceLT,Nat.reduceLeDiff,Nat.reduceBNe,Int.reduceLE,Int.reduceLT,Int.reduceBEq,Int.reduceBNe,Int.reduceEq,Int.reduceNeg,Int.reduceAdd,Int.reduceSub,Int.reduceToNat,forall_const,aC,cD,List.take_zero]
 rintro k ⟨hk,htk⟩
 have hgr:=uC x (x.l.take k) s.p s.p 0 ⟨rfl,rfl,rfl,Nat.le_refl _,Nat.le_refl _,hsm.2.2⟩
 have hlt9:(x.l.take k).length≤9:=by rw[List.length_take];omega
 by_cases hkl:k<x.l.length
 rotate_left
 ·have hke:k=x.l.length:=by omega
  subst hke
  rw[List.take_length] at htk ⊢
  have d1:decide ((x.l.length:Int)<(x.l.length:Int))=false:=by simp
  rw[htk]
  (refine gO (ai @aC (d1)) ?_)
  refine aO.ret ?_
  (refine rO (ai @aC (ai @aJ.eq_1 (@aJ.eq_2))) ?_;try with_reducible exact tt)
 have d1:decide ((k:Int)<(x.l.length:Int))=true:=decide_eq_true (by omega)
 have hge:x.l[k]? = some x.l[k]:=List.getElem?_eq_getElem hkl
 have hwk:IntKind.i64.wrap ((k:Int)+1)=((k+1:Nat):Int):=by rw[bA (by omega)];rfl
 have hsn:=aC2 hkl htk
 have hst:=fun h=>aM9 (s:=x) (p:=s.p) (l:=x.l) (k:=k+1) h
 obtain⟨hr1,hr2⟩:=hr _ (List.getElem_mem hkl)
 obtain⟨y,hg0,hfirst⟩:∃ y,x.l[0]? = some y∧∀ e:EntD,jO x e=(!aL e || (e.kind != 0 || (!e.b.txn || (e.b.pid != x.pid || (e.b.epoch != y.b.epoch))))):=by
  obtain⟨sp,sl⟩:=x
  cases sl with
  | nil=>simp at hkl
  | cons y r=>exact⟨y,rfl,fun e=>rfl⟩
 generalize x.l[k]=e at *
 have hp1:=hgr.prods
 have hp2:=hgr.opens
 have hp3:=hgr.seen
 generalize (cD x s.p (x.l.take k)).2=q at *
 have hqs:SmallL q.prods:=⟨by omega,fun z hz=>by have:=hp3 z hz;omega⟩
 have c1:=vU e ⟨hr1,hr2⟩ hr1 hr2
 have c2:=oE q.prods e.b (-1) hqs hr1
 obtain⟨u,ok,c3,hcase⟩:=aPz q e.b (by omega)
 simp only[EntD.dv] at c1
 simp only[BatD.dv] at c2
 simp only[BatD.dv,PartD.dv] at c3
 (refine gO (ai @aC (ai d1 (ai hge (@EntD.dv.eq_1)))) ?_)
 (first|refine Wp.stoD 65 (vb (jO x e)) aI ?_ ?_|refine Wp.rtoDS 65 (vb (jO x e)) aI ?_ ?_|(refine Wp.seq ?_;first|refine Wp.stoD 65 (vb (jO x e)) aI ?_ ?_|refine Wp.rtoDS 65 (vb (jO x e)) aI ?_ ?_))
 ·rw[hfirst]
  cases q1:aL e with
  | false =>
   rw[q1] at c1
   ((refine rO (ai hge (ai hg0 (@EntD.dv.eq_1))) ?_);(repeat (refine dB (by assumption) ?_;(refine rO (ai hge (ai hg0 (@EntD.dv.eq_1))) ?_))))
   all_goals (exact (show bE _ _=true by kernel_rfl))
  | true =>
  rw[q1] at c1
  cases q2:(e.kind != 0) with
  | true =>
   ((refine rO (ai hge (ai hg0 (ai @EntD.dv.eq_1 (q2)))) ?_);(repeat (refine dB (by assumption) ?_;(refine rO (ai hge (ai hg0 (ai @EntD.dv.eq_1 (q2)))) ?_))))
   all_goals (exact (show bE _ _=true by kernel_rfl))
  | false =>
  cases q3:e.b.txn<;>(rw[q3] at c1)<;>cases q4:(e.b.pid != x.pid)<;>cases q5:(e.b.epoch != y.b.epoch)<;>(((refine rO (ai hge (ai hg0 (ai @EntD.dv.eq_1 (ai q2 (ai q3 (ai q4 (q5))))))) ?_);(repeat (refine dB (by assumption) ?_;(refine rO (ai hge (ai hg0 (ai @EntD.dv.eq_1 (ai q2 (ai q3 (ai q4 (q5))))))) ?_))));all_goals (exact (show bE _ _=true by kernel_rfl)))
 cases hbd:jO x e with
 | true =>
  have ht:gU x q e=none:=by unfold gU;rw[hbd];rfl
  rw[ht] at hsn
  have hs2:=hst (by rw[hsn])
  rw[hsn] at hs2
  rw[hs2]
  (refine gO (@aC) ?_)
  refine aO.ret ?_
  (refine rO (ai @aC (ai @aJ.eq_1 (@aJ.eq_2))) ?_;try with_reducible exact tt)
 | false =>
 have ht:gU x q e=uJ q e.b:=by unfold gU;rw[hbd];rfl
 rw[ht] at hsn
 unfold uJ at hsn
 by_cases hz:(aG q.prods e.b (-1)).2≠0
 ·have dz:((aG q.prods e.b (-1)).2 != 0)=true:=by simpa using hz
  rw[if_pos hz] at hsn
  have hs2:=hst (by rw[hsn])
  rw[hsn] at hs2
  rw[hs2]
  (refine gO (ai @aC (ai @EntD.dv.eq_1 (ai dz (ai @List.map_cons.{0,0} (@List.map_nil.{0,0}))))) ?_)
  refine aO.ret ?_
  (refine rO (ai @aC (ai @aJ.eq_1 (@aJ.eq_2))) ?_;try with_reducible exact tt)
 have dz:((aG q.prods e.b (-1)).2 != 0)=false:=by simpa using hz
 rw[if_neg hz] at hsn
 rcases hcase with ⟨rfl,hq⟩|⟨rfl,hq,rfl⟩
 ·rw[hq] at hsn
  (refine gO (ai @aC (ai @EntD.dv.eq_1 (ai dz (ai @List.map_cons.{0,0} (@List.map_nil.{0,0}))))) ?_)
  refine⟨k+1,⟨hkl,by rw[hsn]⟩,by omega,?_⟩
  rw[hsn]
  refine aD.keep rfl (aJc rfl) ?_
  (refine rO (ai @aC (hwk)) ?_;try with_reducible exact tt)
 ·rw[hq] at hsn
  have hs2:=hst (by rw[hsn])
  rw[hsn] at hs2
  rw[hs2]
  (refine gO (ai @aC (ai @EntD.dv.eq_1 (ai dz (ai @List.map_cons.{0,0} (@List.map_nil.{0,0}))))) ?_)
  refine aO.ret ?_
  (refine rO (ai @aC (ai @aJ.eq_1 (@aJ.eq_2))) ?_;try with_reducible exact tt)
def kK (p:PartD) (x:Int × List BatD):Bool:=bL p.opens x.1 && match p.opens[aZ p.opens x.1]? with
 | some o=>decide (x.2.length<o.bats.length) && decide (x.2=o.bats.take x.2.length)
 | none=>false
theorem aJy {α:Type} [DecidableEq α] (a b:List α) (k:Nat) (hk:k<a.length) (hb:k<b.length) (h:a.take k=b.take k):a.take (k+1)=b.take (k+1) ↔ a[k]=b[k]:=by
 rw[List.take_succ_eq_append_getElem hk,List.take_succ_eq_append_getElem hb,h]
 constructor
 ·intro e;have:=List.append_cancel_left e;simpa using this
 ·intro e;rw[e]
theorem aDe (p:PartD) (w:eE) (x:Int × List BatD) (hop:p.opens.length≤100000) (hx:x.2.length≤100000∧∀ b ∈ x.2,b.recs.length≤100000) (hbl:∀ o ∈ p.opens,o.bats.length≤100000):aW Tryz.prog 61 [.ptr (hD p w) 0,.agg (yV x)] (dM (kK p x)):=by
 obtain⟨pid,l⟩:=x
 obtain⟨hl,hlr⟩:=hx
 have c1:=iI p pid hop
 simp only[PartD.dv] at c1
 unfold kK
 dsimp only at *
 (refine aW.of_body Tryz.func61 rfl rfl Tryz.ntmps61 Tryz.results61 (by simp) ?_)
 cases hob:bL p.opens pid with
 | false =>
  rw[hob] at c1
  (refine bP ?_)
  (refine aT ?_;try with_reducible exact tt)
 | true =>
 rw[hob] at c1
 obtain⟨o,hi,hpid⟩:=oV hob
 have hol:=hbl o (List.mem_of_getElem? hi)
 rw[hi]
 have hile:=rQ p.opens pid
 generalize aZ p.opens pid=i at *
 rw[Bool.true_and]
 dsimp only
 by_cases hlt:l.length<o.bats.length
 rotate_left
 ·have d1:decide ((o.bats.length:Int)≤(l.length:Int))=true:=decide_eq_true (by omega)
  rw[decide_eq_false hlt]
  (refine gO (ai hi (ai @OpenD.dv.eq_1 (d1))) ?_)
  (refine aT ?_;try with_reducible exact tt)
 have d1:decide ((o.bats.length:Int)≤(l.length:Int))=false:=decide_eq_false (by omega)
 rw[decide_eq_true hlt,Bool.true_and]
 (refine gO (ai hi (ai @OpenD.dv.eq_1 (d1))) ?_)
 refine Wp.loop (fun k:Nat=>⟨iH [(0,.c (.d (.ptr (hD p w) 0))),(3,.c (.own 0 0)),(5,vi .i64 i),(7,vi .i64 k)],bI [(0,.cells [.d (int pid),.d (.lst 5 (l.map BatD.dv))])],1,62,0⟩) (fun k=>k≤l.length∧l.take k=o.bats.take k) (fun k=>l.length - k) 0 ⟨Nat.zero_le _,rfl⟩ ?_ ?_
 ·refine aD.keep rfl rfl ?_
  (refine aT ?_;try with_reducible exact tt)
 rintro k ⟨hk,htk⟩
 by_cases hkl:k<l.length
 ·have d2:decide ((k:Int)<(l.length:Int))=true:=decide_eq_true (by omega)
  have hge:l[k]? = some l[k]:=List.getElem?_eq_getElem hkl
  have hgo:o.bats[k]? = some o.bats[k]:=List.getElem?_eq_getElem (by omega)
  have hwk:IntKind.i64.wrap ((k:Int)+1)=((k+1:Nat):Int):=by rw[bA (by omega)];rfl
  have hiff:=aJy l o.bats k hkl (by omega) htk
  have hm:=hlr _ (List.getElem_mem hkl)
  have hbad:¬ l[k]=o.bats[k]→¬ l=o.bats.take l.length:=fun h e=>h (by
   rw[← hiff]
   conv=>lhs;rw[e]
   rw[List.take_take];congr 1;omega)
  generalize l[k]=b at *
  generalize o.bats[k]=c at *
  have c2:=nY b c (by omega)
  simp only[BatD.dv] at c2
  by_cases hbc:b=c
  ·have dd:decide (b=c)=true:=decide_eq_true hbc
   rw[dd] at c2
   (refine gO (ai hi (ai @OpenD.dv.eq_1 (ai d2 (ai hge (ai hgo (@BatD.dv.eq_1)))))) ?_)
   refine⟨k+1,⟨hkl,hiff.2 hbc⟩,by omega,aD.keep rfl rfl ?_⟩
   (refine rO (hwk) ?_;try with_reducible exact tt)
  ·have dd:decide (b=c)=false:=decide_eq_false hbc
   rw[dd] at c2
   rw[decide_eq_false (hbad hbc)]
   (refine gO (ai hi (ai @OpenD.dv.eq_1 (ai d2 (ai hge (ai hgo (@BatD.dv.eq_1)))))) ?_)
   (refine aT ?_;try with_reducible exact tt)
 ·have hke:k=l.length:=by omega
  subst hke
  rw[List.take_length] at htk
  rw[decide_eq_true htk]
  have d2:decide ((l.length:Int)<(l.length:Int))=false:=by simp
  (refine gO (d2) ?_)
  (refine aT ?_;try with_reducible exact tt)
def bF (s:RefS) (e:EntD):Option RefS:=if aL e=false then none else if (iW s e).1=false then none else if 1048576<(iW s e).2.p.fin then none else some (iW s e).2
def eG:RefS→List EntD→Option RefS
 | s,[]=>some s
 | s,e::l=>match bF s e with
  | none=>none
  | some t=>eG t l
theorem rH:∀ (l:List EntD) (s:RefS) (r:List EntD),eG s (l++r)=match eG s l with
  | none=>none
  | some t=>eG t r
 | [],s,r=>rfl
 | e::l,s,r=>by
  show (match bF s e with|none=>none|some t=>eG t (l++r))=match (match bF s e with|none=>none|some t=>eG t l) with|none=>none|some t=>eG t r
  cases bF s e with
  | none=>rfl
  | some t=>exact rH l t r
def aN (l:List SideD) (k:Nat):Bool:=match k,l[k]?,l[k - 1]? with
 | 0,_,_=>true
 | _+1,some x,some y=>decide (y.pid<x.pid)
 | _,_,_=>false
def eC (all:List SideD):RefS→Nat→List SideD→Option RefS
 | s,_,[]=>some s
 | s,k,x::l=>if aN all k=false then none else if (fA s x).1=false then none else eC all (fA s x).2 (k+1) l
def ref0:RefS:=⟨pZ,[],0⟩
def iB (main:List EntD) (sides:List SideD):Option RefS:=match eG ref0 main with
 | none=>none
 | some s=>match eC sides s 0 sides with
  | none=>none
  | some t=>if t.w.all (kK t.p) then some t else none
theorem jZ {e:EntD} (h:aL e=true):e.b.recs.length≤4∧e.prod.seen.length≤3:=by
 unfold aL at h
 simp only[Bool.and_eq_true,decide_eq_true_eq] at h
 obtain⟨⟨h1,h2⟩,h3⟩:=h
 obtain⟨k,b,yes,next,off,row,prod⟩:=e
 have hk7:k=0∨k=1∨k=2∨k=3∨k=4∨k=5∨k=6:=by simp only at h1 h2;omega
 have hz:∀ n:Int,(zE n).b.recs=[]∧(zE n).prod.seen=[]:=fun n=>⟨rfl,rfl⟩
 rcases hk7 with rfl|rfl|rfl|rfl|rfl|rfl|rfl
 ·simp only[nB,if_true,Bool.and_eq_true,decide_eq_true_eq] at h3
  have h4:=congrArg (fun x:EntD=>x.prod.seen) h3.2
  refine⟨(oL h3.1).2,?_⟩
  dsimp only at h4 ⊢;rw[h4];exact Nat.zero_le _
 ·have h3:(dN b.pid b.epoch && decide ((⟨1,⟨0,0,b.seq,b.txn,b.recs⟩,false,next,off,row,prod⟩:EntD)=zE 1))=true:=h3
  simp only[Bool.and_eq_true,decide_eq_true_eq] at h3
  have h4:=congrArg (fun x:EntD=>x.prod.seen) h3.2
  have h5:=congrArg (fun x:EntD=>x.b.recs) h3.2
  dsimp only at h4 h5 ⊢;rw[h4,h5];exact⟨Nat.zero_le _,Nat.zero_le _⟩
 ·have h3:(cC off 0 1048576 && decide ((⟨2,b,yes,next,0,row,prod⟩:EntD)=zE 2))=true:=h3
  simp only[Bool.and_eq_true,decide_eq_true_eq] at h3
  have h4:=congrArg (fun x:EntD=>x.prod.seen) h3.2
  have h5:=congrArg (fun x:EntD=>x.b.recs) h3.2
  dsimp only at h4 h5 ⊢;rw[h4,h5];exact⟨Nat.zero_le _,Nat.zero_le _⟩
 ·have h3:(b.txn && ((!yes || cC next 0 1048576) && (dQ b && decide ((⟨3,jD,false,if yes then 0 else next,off,row,prod⟩:EntD)=zE 3))))=true:=h3
  simp only[Bool.and_eq_true,decide_eq_true_eq] at h3
  have h4:=congrArg (fun x:EntD=>x.prod.seen) h3.2.2.2
  refine⟨(oL h3.2.2.1).2,?_⟩
  dsimp only at h4 ⊢;rw[h4];exact Nat.zero_le _
 ·have h3:(!yes && (cC next 0 1048576 && (dN b.pid b.epoch && decide ((⟨4,⟨0,0,b.seq,b.txn,b.recs⟩,false,0,off,row,prod⟩:EntD)=zE 4))))=true:=h3
  simp only[Bool.and_eq_true,decide_eq_true_eq] at h3
  have h4:=congrArg (fun x:EntD=>x.prod.seen) h3.2.2.2
  have h5:=congrArg (fun x:EntD=>x.b.recs) h3.2.2.2
  dsimp only at h4 h5 ⊢;rw[h4,h5];exact⟨Nat.zero_le _,Nat.zero_le _⟩
 ·have h3:(nF row && decide ((⟨5,b,yes,next,off,iR,prod⟩:EntD)=zE 5))=true:=h3
  simp only[Bool.and_eq_true,decide_eq_true_eq] at h3
  have h4:=congrArg (fun x:EntD=>x.prod.seen) h3.2
  have h5:=congrArg (fun x:EntD=>x.b.recs) h3.2
  dsimp only at h4 h5 ⊢;rw[h4,h5];exact⟨Nat.zero_le _,Nat.zero_le _⟩
 ·have h3:(bC prod && decide ((⟨6,b,yes,next,off,row,dF⟩:EntD)=zE 6))=true:=h3
  simp only[Bool.and_eq_true,decide_eq_true_eq] at h3
  have h5:=congrArg (fun x:EntD=>x.b.recs) h3.2
  refine⟨?_,yJ h3.1⟩
  dsimp only at h5 ⊢;rw[h5];exact Nat.zero_le _
structure FOk14 (k:Nat) (s:RefS):Prop where
 fin:0≤s.p.fin∧s.p.fin≤1048576
 opens:s.p.opens=[]
 rows:s.p.rows.length≤40*k
 prods:s.p.prods.length≤10*k
 seen:∀ x ∈ s.p.prods,x.seen.length≤100
 wts:s.w.length≤k
 bats:∀ x ∈ s.w,x.2.length≤8
 recs:∀ x ∈ s.w,∀ b ∈ x.2,b.recs.length≤4
theorem FOk14.sm {k:Nat} {s:RefS} (h:FOk14 k s) (hk:k≤1000):Sm14 s.p s.w :=
 ⟨h.fin,by rw[h.opens];exact Nat.zero_le _,by have:=h.rows;omega,by have:=h.prods;omega,h.seen,by have:=h.wts;omega,h.bats,h.recs⟩
theorem aMz:FOk14 0 ref0:=⟨by decide,rfl,Nat.le_refl _,Nat.le_refl _,(fun x hx=>by cases hx),Nat.le_refl _,(fun x hx=>by cases hx),(fun x hx=>by cases hx)⟩
theorem aNn {w:eE} {pid:Int} {b:BatD} (h:b ∈ dG w pid):∃ x ∈ w,b ∈ x.2:=by
 unfold dG at h
 cases hq:w[wI w pid]? with
 | none=>rw[hq] at h;cases h
 | some x=>rw[hq] at h;exact⟨x,List.mem_of_getElem? hq,h⟩
theorem aMx {w:eE} {pid:Int} {x:Int × List BatD} (h:x ∈ lO w pid):x ∈ w∨x.2=[]:=by
 unfold lO at h
 split at h
 ·exact .inl h
 ·rcases List.mem_append.1 h with h|h
  ·exact .inl h
  ·simp at h;subst h;exact .inr rfl
theorem aFf {l:List BatD} {b:BatD} (h:kA l b=false):l.length<8:=by
 unfold kA at h
 simp only[Bool.or_eq_false_iff,decide_eq_false_iff_not] at h
 omega
theorem aKq (l:List ProdD) (pid:Int) (k:Nat) (h:∀ x ∈ l,x.seen.length≤100):(lN l pid).length≤l.length+1∧∀ x ∈ lN l pid,x.seen.length≤100:=by
 unfold lN
 split
 ·refine⟨pB _ _,fun x hx=>?_⟩
  rcases pC hx with hx|rfl
  ·exact h x hx
  ·simp
 ·exact⟨by omega,h⟩
theorem aOo {k:Nat} {s t:RefS} {e:EntD} (h:FOk14 k s) (hb:e.b.recs.length≤4) (hc:lA s e=(true,t)) (hf:t.p.fin≤1048576):FOk14 (k+1) t:=by
 have hfin:=h.fin
 have hrow:=h.rows
 have hpr:=h.prods
 have hw:=h.wts
 have hel:=aMw s.w e.b.pid
 have hset:∀ (hbad:kA (dG s.w e.b.pid) e.b=false),∀ x ∈ (lO s.w e.b.pid).set (wI s.w e.b.pid) (e.b.pid,dG s.w e.b.pid++[e.b]),x.2.length≤8∧∀ b ∈ x.2,b.recs.length≤4:=fun hbad x hx=>by
  rcases List.mem_or_eq_of_mem_set hx with hx|rfl
  ·rcases aMx hx with hx|hx
   ·exact⟨h.bats x hx,h.recs x hx⟩
   ·rw[hx];exact⟨Nat.zero_le _,fun b hb=>by cases hb⟩
  ·have:=aFf hbad
   refine⟨by rw[List.length_append];simp;omega,fun b hbm=>?_⟩
   rcases List.mem_append.1 hbm with hbm|hbm
   ·obtain⟨y,hy,hy2⟩:=aNn hbm;exact h.recs y hy b hy2
   ·simp at hbm;subst hbm;exact hb
 have her:∀ x ∈ (lO s.w e.b.pid).eraseIdx (wI s.w e.b.pid),x ∈ s.w∨x.2=[]:=fun x hx=>aMx (List.mem_of_mem_eraseIdx hx)
 unfold lA at hc
 split at hc
 ·cases hc
 rename_i hbad
 have hbad:kA (dG s.w e.b.pid) e.b=false:=by simpa using hbad
 split at hc
 ·cases hc
  exact⟨hfin,h.opens,by show s.p.rows.length≤_;omega,by show s.p.prods.length≤_;omega,h.seen,by show (List.set _ _ _).length≤_;rw[List.length_set];omega,fun x hx=>(hset hbad x hx).1,fun x hx=>(hset hbad x hx).2⟩
 split at hc
 ·cases hc
 split at hc
 ·cases hc
 cases hc
 have hbl:=aFf hbad
 have hL:(dG s.w e.b.pid++[e.b]).length≤8:=by rw[List.length_append];simp;omega
 obtain⟨g1,g2,g3,g4,g5,g6,g7⟩:=sU (dG s.w e.b.pid++[e.b]) s.p (fun b hbm=>by
  rcases List.mem_append.1 hbm with hbm|hbm
  ·obtain⟨y,hy,hy2⟩:=aNn hbm;exact h.recs y hy b hy2
  ·simp at hbm;subst hbm;exact hb) h.seen
 generalize (aF s.p (dG s.w e.b.pid++[e.b])).2=q at *
 obtain⟨c1,c2⟩:=aKq q.prods e.b.pid 0 g7
 refine⟨⟨?_,hf⟩,g1.trans h.opens,by show q.rows.length≤_;omega,by show (lN _ _).length≤_;omega,c2,?_,fun x hx=>?_,fun x hx=>?_⟩
 ·show 0≤q.fin;omega
 ·show (List.eraseIdx _ _).length≤_
  have:=List.length_eraseIdx_le (lO s.w e.b.pid) (wI s.w e.b.pid)
  omega
 ·rcases her x hx with hx|hx
  ·exact h.bats x hx
  ·rw[hx];exact Nat.zero_le _
 ·rcases her x hx with hx|hx
  ·exact h.recs x hx
  ·rw[hx];exact fun b hb=>by cases hb
theorem aEf {k:Nat} {s t:RefS} {e:EntD} (h:FOk14 k s) (hs:bF s e=some t):FOk14 (k+1) t:=by
 unfold bF at hs
 split at hs
 ·cases hs
 rename_i hok
 have hok:aL e=true:=by simpa using hok
 obtain⟨hb,hq⟩:=jZ hok
 split at hs
 ·cases hs
 rename_i hn
 split at hs
 ·cases hs
 rename_i hf
 cases hs
 have hfin:=h.fin
 have hrow:=h.rows
 have hpr:=h.prods
 have hw:=h.wts
 unfold iW at hn hf ⊢
 split
 ·rename_i k0
  simp only[k0,if_true] at hn hf
  cases hp:jA s.p e.b with
  | none=>rw[hp] at hn;exact absurd rfl hn
  | some q =>
   rw[hp] at hf
   dsimp only at hf ⊢
   unfold jA at hp
   split at hp
   ·cases hp
   cases hp
   obtain⟨t1,t2⟩:=kX (k:=s.p.prods.length) e.b s.p.fin (Nat.le_refl _) h.seen
   dsimp only at hf
   refine⟨⟨by show 0≤s.p.fin+_;omega,by show s.p.fin+_≤_;omega⟩,h.opens,?_,by show (aG _ _ _).1.length≤_;omega,t2,by show s.w.length≤_;omega,h.bats,h.recs⟩
   show (s.p.rows++cS e.b s.p.fin).length≤_
   rw[List.length_append,kV];omega
 rename_i k0
 simp only[k0,if_false] at hn hf
 split
 ·rename_i k3
  simp only[k3,if_true] at hn hf
  exact aOo h hb (Prod.ext (by simpa using hn) rfl) (by omega)
 rename_i k3
 simp only[k3,if_false] at hn hf
 split
 ·rename_i k4
  simp only[k4,if_true] at hn hf
  unfold kI at hn hf ⊢
  split
  ·rename_i hd;rw[hd] at hn;exact absurd rfl hn
  ·dsimp only
   have haw:(s.away e.b.pid).w.length≤s.w.length∧∀ x ∈ (s.away e.b.pid).w,x ∈ s.w:=by
    unfold RefS.away
    split
    ·exact⟨List.length_eraseIdx_le ..,fun x hx=>List.mem_of_mem_eraseIdx hx⟩
    ·exact⟨Nat.le_refl _,fun x hx=>hx⟩
   have:=pB s.p.prods ⟨e.b.pid,e.b.epoch,e.next,[]⟩
   refine⟨hfin,h.opens,by show s.p.rows.length≤_;omega,by show (dV _ _).length≤_;omega,fun x hx=>?_,by have:=haw.1;show (s.away e.b.pid).w.length≤_;omega,fun x hx=>h.bats x (haw.2 x hx),fun x hx=>h.recs x (haw.2 x hx)⟩
   rcases pC hx with hx|rfl
   ·exact h.seen x hx
   ·simp
 rename_i k4
 simp only[k4,if_false] at hn hf
 cases hp:kF s.p e with
 | none=>rw[hp] at hn;exact absurd rfl hn
 | some q =>
  rw[hp] at hf
  dsimp only at hf ⊢
  unfold kF at hp
  split at hp
  ·split at hp
   ·cases hp
   cases hp
   have:=wW (nJ e.off) s.p.rows
   exact⟨hfin,h.opens,by show (jJ _ _).length≤_;omega,by show s.p.prods.length≤_;omega,h.seen,by show s.w.length≤_;omega,h.bats,h.recs⟩
  split at hp
  ·cases hp
   dsimp only at hf
   exact⟨⟨by show 0≤s.p.fin+1;omega,by show s.p.fin+1≤_;omega⟩,h.opens,by show (s.p.rows++[_]).length≤_;rw[List.length_append];simp only[List.length_cons,List.length_nil];omega,by show s.p.prods.length≤_;omega,h.seen,by show s.w.length≤_;omega,h.bats,h.recs⟩
  split at hp
  ·split at hp
   ·cases hp
   cases hp
   have:=pB s.p.prods e.prod
   refine⟨hfin,h.opens,by show s.p.rows.length≤_;omega,by show (dV _ _).length≤_;omega,fun x hx=>?_,by show s.w.length≤_;omega,h.bats,h.recs⟩
   rcases pC hx with hx|rfl
   ·exact h.seen x hx
   ·omega
  ·cases hp
theorem aUg (σ:St) (h1:σ.H 1=some (.cells [.d (int 0),.d (int 0),cL,cL,cL,cL])) (h9:σ.H 9=none) (hdf:σ.fx.dfs.contains 1=false) :
  ∃ H',aD σ { σ with H:=H' }∧H' 1=some (.cells [.d (int 0),.d (int 0),.d (.lst 5 []),.d (.lst 3 []),.d (.lst 4 []),.mt 9 0])∧H' 9=some (.mrow 129 2 0 [])∧H' 0=σ.H 0:=by
 have w1:=aD.mtCell (σ:=σ) (id:=1) (k:=5) (τ:=9) 129 2 (by decide) (by decide) h9 h1 rfl
 obtain⟨H1,hH1⟩:∃ H1,H1=upd (upd σ.H 9 (some (.mrow 129 2 0 []))) 1 (some (.cells (List.set [.d (int 0),.d (int 0),cL,cL,cL,cL] 5 (.mt 9 0)))):=⟨_,rfl⟩
 rw[← hH1] at w1
 have a1:H1 1=some (.cells [.d (int 0),.d (int 0),cL,cL,cL,.mt 9 0]):=by rw[hH1];exact aB _ _ _
 have a9:H1 9=some (.mrow 129 2 0 []):=by rw[hH1,aA _ _ (by decide)];exact aB _ _ _
 have a0:H1 0=σ.H 0:=by rw[hH1,aA _ _ (by decide),aA _ _ (by decide)]
 have w2:aD { σ with H:=H1 } { σ with H:=upd H1 1 (some (.cells [.d (int 0),.d (int 0),.d (.lst 5 []),cL,cL,.mt 9 0])) }:=aD.cellLe (σ:={ σ with H:=H1 }) (id:=1) (k:=2) (x:=.val (.slice none 0 0)) (y:=.lst 5 []) a1 rfl (lU.nil 5) hdf
 have w3:aD { σ with H:=upd H1 1 (some (.cells [.d (int 0),.d (int 0),.d (.lst 5 []),cL,cL,.mt 9 0])) } { σ with H:=upd (upd H1 1 (some (.cells [.d (int 0),.d (int 0),.d (.lst 5 []),cL,cL,.mt 9 0]))) 1 (some (.cells [.d (int 0),.d (int 0),.d (.lst 5 []),.d (.lst 3 []),cL,.mt 9 0])) }:=aD.cellLe (σ:={ σ with H:=upd H1 1 (some (.cells [.d (int 0),.d (int 0),.d (.lst 5 []),cL,cL,.mt 9 0])) }) (id:=1) (k:=3) (cs:=[.d (int 0),.d (int 0),.d (.lst 5 []),cL,cL,.mt 9 0]) (x:=.val (.slice none 0 0)) (y:=.lst 3 []) (aB H1 1 _) rfl (lU.nil 3) hdf
 rw[wE] at w3
 have w4:aD { σ with H:=upd H1 1 (some (.cells [.d (int 0),.d (int 0),.d (.lst 5 []),.d (.lst 3 []),cL,.mt 9 0])) } { σ with H:=upd (upd H1 1 (some (.cells [.d (int 0),.d (int 0),.d (.lst 5 []),.d (.lst 3 []),cL,.mt 9 0]))) 1 (some (.cells [.d (int 0),.d (int 0),.d (.lst 5 []),.d (.lst 3 []),.d (.lst 4 []),.mt 9 0])) }:=aD.cellLe (σ:={ σ with H:=upd H1 1 (some (.cells [.d (int 0),.d (int 0),.d (.lst 5 []),.d (.lst 3 []),cL,.mt 9 0])) }) (id:=1) (k:=4) (cs:=[.d (int 0),.d (int 0),.d (.lst 5 []),.d (.lst 3 []),cL,.mt 9 0]) (x:=.val (.slice none 0 0)) (y:=.lst 4 []) (aB H1 1 _) rfl (lU.nil 4) hdf
 rw[wE] at w4
 refine⟨_,((w1.trans w2).trans w3).trans w4,aB _ _ _,?_,?_⟩
 ·rw[aA _ _ (by decide)];exact a9
 ·rw[aA _ _ (by decide)];exact a0
abbrev fM (s : RefS) : List (Nat × HE) :=
  [(0, .cells [.d (int 0), .d (int 0), cL, cL, cL]), (1, .cells [.d (int s.p.start), .d (int s.p.fin), .d (.lst 5 (s.p.rows.map RowD.dv)), .d (.lst 3 (s.p.opens.map OpenD.dv)), .d (.lst 4 (s.p.prods.map ProdD.dv)), .mt 9 s.v]),
   (9, .mrow 129 2 s.v (aY s.w))]
theorem pY {L:List (Nat × SV)} {s:RefS} (hL:(L.all fun p=>p.2.ids.all fun i=>[0,1,9].contains i)=true):(gK L (fM s) && dW 0 (fM s))=true:=by
 have e1:(fM s).map (·.1)=[0,1,9]:=rfl
 unfold gK
 rw[e1,hL]
 simp only[List.all_cons,List.all_nil,HE.ids,aY,eS,Bool.and_true,Bool.true_and]
 rfl
theorem iL (ρ:Nat→Nat) (e v:Nat) (w:eE):HE.ren ρ (.mrow e 2 v (aY w)) = .mrow e 2 v (aY w):=by
 show HE.mrow e 2 v ((aY w).map (CV.ren ρ))=_
 unfold aY
 rw[List.map_map]
 congr 1
def r14 (o:Option RefS):PartD × Int:=match o with
 | some t=>(t.p,0)
 | none=>(pZ,70)
theorem aPg {l:List EntD} {s:RefS} {k:Nat} (h:eG s (l.take k)=none):eG s l=none:=by
 conv=>lhs;rw[← List.take_append_drop k l]
 rw[rH,h]
theorem aN4:∀ (l:List EntD) (k:Nat) (s t:RefS),FOk14 k s→eG s l=some t→FOk14 (k+l.length) t
 | [],k,s,t,h,hl=>by cases hl;exact h
 | e::l,k,s,t,h,hl=>by
  have e1:eG s (e::l)=match bF s e with|none=>none|some t=>eG t l:=rfl
  rw[e1] at hl
  cases hs:bF s e with
  | none=>rw[hs] at hl;cases hl
  | some u =>
   rw[hs] at hl
   have:=aN4 l (k+1) u t (aEf h hs) hl
   rw[List.length_cons,show k+(l.length+1)=k+1+l.length by omega];exact this
def aQa (sides:List SideD):Prop:=sides.length≤100∧∀ x ∈ sides,∀ e ∈ x.l,e.b.recs.length≤100000∧e.prod.seen.length≤100000
theorem aQc {H:Hp} (s:RefS) (x:Int × List BatD) (h:aJ H (bI (fM s)) [1,9]):(bN (SV.snap H) [.c (.own 1 0),.agg [.d (int x.1),.d (.lst 5 (x.2.map BatD.dv))]]).map (· ++ [])=some [.ptr (hD s.p s.w) 0,.agg (yV x)]:=by
 have h0:H 1=some (.cells [.d (int s.p.start),.d (int s.p.fin),.d (.lst 5 (s.p.rows.map RowD.dv)),.d (.lst 3 (s.p.opens.map OpenD.dv)),.d (.lst 4 (s.p.prods.map ProdD.dv)),.mt 9 s.v]):=h.1
 have h9:H 9=some (.mrow 129 2 s.v ((s.w.map yV).flatten.map CV.d)):=h.2.1
 have hm:=nI (k:=1) (s.w.map yV) (by decide) (fun x hx=>by obtain⟨b,_,rfl⟩:=List.mem_map.1 hx;rfl) h9
 have hs:(SV.c (.own 1 0)).snap H=some (.ptr (hD s.p s.w) 0):=by
  show CV.snap H 3 (.own 1 0)=_
  simp only[CV.snap,h0,bN] at hm ⊢
  rw[hm]
  rfl
 simp only[bN,hs]
 simp only[SV.snap,bN,uE,Option.map_some,List.append_nil]
theorem uD (all:List SideD):∀ (l:List SideD) (s:RefS) (j:Nat) (r:List SideD),eC all s j (l++r)=match eC all s j l with
  | none=>none
  | some u=>eC all u (j+l.length) r
 | [],s,j,r=>rfl
 | x::l,s,j,r=>by
  have e1:∀ l,eC all s j (x::l)=if aN all j=false then none else if (fA s x).1=false then none else eC all (fA s x).2 (j+1) l:=fun _=>rfl
  rw[List.cons_append,e1,e1]
  by_cases h1:aN all j=false
  ·rw[if_pos h1,if_pos h1]
  rw[if_neg h1,if_neg h1]
  by_cases h2:(fA s x).1=false
  ·rw[if_pos h2,if_pos h2]
  rw[if_neg h2,if_neg h2,uD all l _ (j+1) r,List.length_cons,show j+(l.length+1)=j+1+l.length by omega]
theorem aJv {all l:List SideD} {s:RefS} {k:Nat} (h:eC all s 0 (l.take k)=none):eC all s 0 l=none:=by
 conv=>lhs;rw[← List.take_append_drop k l]
 rw[uD,h]
def OpB (p:PartD):Prop:=∀ o ∈ p.opens,o.bats.length≤8
theorem aTj {p q:PartD} {b:BatD} (h:OpB p) (ht:uJ p b=some q):OpB q:=by
 unfold uJ at ht
 split at ht
 ·cases ht
 split at ht
 rotate_left
 ·cases ht
 rename_i u hu
 cases ht
 unfold xJ at hu
 have hmm:∀ (i j:Nat) (z:OpenD),z.bats.length≤8→∀ o ∈ p.opens.take i++z::p.opens.drop j,o.bats.length≤8:=fun i j z hz o ho=>by
  rcases List.mem_append.1 ho with ho|ho
  ·exact h o (List.mem_of_mem_take ho)
  ·rcases List.mem_cons.1 ho with rfl|ho
   ·exact hz
   ·exact h o (List.mem_of_mem_drop ho)
 split at hu
 ·rename_i o _ hi
  split at hu
  ·cases hu
  ·rename_i hx
   cases hu
   refine hmm _ _ _ ?_
   show (o.bats++[b]).length≤8
   have:¬ 8≤o.bats.length:=fun h=>hx (.inr h)
   rw[List.length_append];simp;omega
 ·cases hu
  refine hmm _ _ _ ?_
  show ([b]:List BatD).length≤8
  simp
theorem aEq (x:SideD):∀ (l:List EntD) (p:PartD),OpB p→OpB (cD x p l).2
 | [],p,h=>h
 | e::l,p,h=>by
  have e1:cD x p (e::l)=match gU x p e with|none=>(false,p)|some q=>cD x q l:=rfl
  rw[e1]
  cases hs:gU x p e with
  | none=>exact h
  | some q =>
   unfold gU at hs
   split at hs
   ·cases hs
   exact aEq x l q (aTj h hs)
structure SideInv (s u:RefS) (k:Nat):Prop where
 w:u.w=s.w
 v:u.v=s.v
 grow:Grow14 s.p u.p (8*k)
 opb:OpB u.p
theorem aC4 (all:List SideD) (s:RefS):∀ (l:List SideD) (u t:RefS) (j k:Nat),SideInv s u k→eC all u j l=some t→SideInv s t (k+l.length)
 | [],u,t,j,k,h,hl=>by cases hl;exact h
 | x::l,u,t,j,k,h,hl=>by
  have e1:eC all u j (x::l)=if aN all j=false then none else if (fA u x).1=false then none else eC all (fA u x).2 (j+1) l:=rfl
  rw[e1] at hl
  split at hl
  ·cases hl
  split at hl
  ·cases hl
  rename_i h2
  have hx:¬ (x.l.length=0∨8<x.l.length):=fun hx=>h2 (by unfold fA;rw[if_pos hx])
  have e2:(fA u x).2=⟨(cD x u.p x.l).2,u.w,u.v⟩:=by unfold fA;rw[if_neg hx]
  rw[e2] at hl
  have hg:=uC x x.l s.p u.p (8*k) h.grow
  have hinv:SideInv s ⟨(cD x u.p x.l).2,u.w,u.v⟩ (k+1):=⟨h.w,h.v,⟨hg.fin,hg.start,hg.rows,by have:=hg.opens;show (cD x u.p x.l).2.opens.length≤_;omega,by have:=hg.prods;show (cD x u.p x.l).2.prods.length≤_;omega,hg.seen⟩,aEq x x.l u.p h.opb⟩
  have:=aC4 all s l _ t (j+1) (k+1) hinv hl
  rw[List.length_cons,show k+(l.length+1)=k+1+l.length by omega];exact this
theorem aL1 (main:List EntD) (sides:List SideD) (hm:main.length≤900) (hme:∀ e ∈ main,e.b.recs.length≤100000∧e.prod.seen.length≤100000) (hsd:aQa sides) :
  aW Tryz.prog 28 [.lst 18 (main.map EntD.dv),.lst 2 (sides.map SideD.dv)] (.tup [.agg (r14 (iB main sides)).1.dv,int (r14 (iB main sides)).2]):=by
 have hpz:∀ o:Option RefS,o=none→(r14 o).1.dv=[int 0,int 0,.lst 5 [],.lst 3 [],.lst 4 []]∧(r14 o).2=70:=fun o h=>by subst h;exact⟨rfl,rfl⟩
 have hle:lU (.tup [.agg [int 0,int 0,oC,oC,oC],int 70]) (.tup [.agg [int 0,int 0,.lst 5 [],.lst 3 [],.lst 4 []],int 70]):=lU.tup (.cons (.agg (.cons (.refl _) (.cons (.refl _) (.cons (.nil 5) (.cons (.nil 3) (.cons (.nil 4) .nil)))))) (.cons (.refl _) .nil))
 (refine aW.of_bodyW Tryz.func28 rfl rfl Tryz.ntmps28 Tryz.results28 (by simp) ?_)
 (refine bP ?_)
 refine Wp.weakE (aUg _ (by (refine aT ?_;try with_reducible exact tt)) (by simp[upd,bI];rfl) rfl) ?_
 rintro H' ⟨f1,f9,f0⟩
 have f0' : H' 0=some (.cells [.d (int 0),.d (int 0),cL,cL,cL]):=by rw[f0];(refine aT ?_;try with_reducible exact tt)
 refine Wp.loop (fun k:Nat=>⟨iH [(0,.c (.d (.lst 18 (main.map EntD.dv)))),(1,.c (.d (.lst 2 (sides.map SideD.dv)))),(4,.c (.own 0 0)),(6,.c (.own 1 0)),(7,vi .i64 k)],bI (fM ((eG ref0 (main.take k)).getD ref0)),100,98,0⟩) (fun k=>k≤main.length∧(eG ref0 (main.take k)).isSome=true) (fun k=>main.length - k) 0 ⟨Nat.zero_le _,rfl⟩ ?_ ?_
 ·refine aD.keep rfl (pY rfl) ?_
  simp (maxSteps:=2000000) (disch:=omega) only[gE,TY,bW,eH,fP,SV.ofD,eA,eO,fI,fJ,bR,fK,eX,eQ,fL,eL,fG,fF,fH,CV.exact,CV.lstOf,CV.lenOf,CV.one,D.one,Value.oneCell',CV.toD0,fX,eF,fZ,fC,rD0,gC,fD,fY,reduceCtorEq,reduceIte,Nat.reduceBEq,Nat.reduceEqDiff,Nat.reduceAdd,Nat.reduceMul,Nat.reduceSub,Nat.reduceLT,Nat.reduceLeDiff,Nat.reduceBNe,Int.reduceLE,Int.reduceLT,Int.reduceBEq,Int.reduceBNe,Int.reduceEq,Int.reduceNeg,Int.reduceAdd,Int.reduceSub,Int.reduceToNat,forall_const,f1,f9,f0',eG,ref0,pZ,List.take_zero,Option.getD_some,aY,List.map_nil,List.flatten_nil]
 rintro k ⟨hk,hks⟩
 obtain⟨s,hs⟩:=Option.isSome_iff_exists.1 hks
 have hok:=aN4 (main.take k) 0 ref0 s aMz hs
 rw[Nat.zero_add,List.length_take,Nat.min_eq_left hk] at hok
 have hsm:=hok.sm (by omega)
 rw[hs,Option.getD_some]
 by_cases hkl:k<main.length
 ·have d1:decide ((k:Int)<(main.length:Int))=true:=decide_eq_true (by omega)
  have hge:main[k]? = some main[k]:=List.getElem?_eq_getElem hkl
  have hwk:IntKind.i64.wrap ((k:Int)+1)=((k+1:Nat):Int):=by rw[bA (by omega)];rfl
  obtain⟨hr1,hr2⟩:=hme _ (List.getElem_mem hkl)
  have htk:eG ref0 (main.take (k+1))=bF s main[k]:=by
   rw[List.take_succ_eq_append_getElem hkl,rH,hs]
   show (match bF s main[k] with|none=>none|some t=>eG t [])=_
   cases bF s main[k]<;>rfl
  have hno:bF s main[k]=none→iB main sides=none:=fun h=>by
   unfold iB
   rw[aPg (k:=k+1) (htk.trans h)]
  generalize main[k]=e at *
  have c1:=vU e ⟨hr1,hr2⟩ hr1 hr2
  simp only[EntD.dv] at c1
  have hbV:jG e = .agg (e.dv.map CV.d):=rfl
  cases ho:aL e with
  | false =>
   rw[ho] at c1
   obtain⟨q1,q2⟩:=hpz _ (hno (by unfold bF;rw[ho];rfl))
   (refine gO (ai d1 (ai hge (@EntD.dv.eq_1))) ?_)
   (refine aT ?_)
   rw[q1,q2]
   exact⟨_,rfl,hle⟩
  | true =>
   rw[ho] at c1
   have hkd:0≤e.kind∧e.kind<7:=by
    unfold aL at ho;simp only[Bool.and_eq_true,decide_eq_true_eq] at ho;exact ho.1
   have c2:=aLm s e hsm (jZ ho).1 hkd
   have hls:bF s e=if (iW s e).1=false then none else if 1048576<(iW s e).2.p.fin then none else some (iW s e).2:=by
    unfold bF;rw[ho,if_neg (by simp)]
   generalize (iW s e).2=t at *
   (refine gO (d1) ?_)
   (first|refine Wp.sregG ?_|refine Wp.regG ?_|(refine Wp.seq ?_;first|refine Wp.sregG ?_|refine Wp.regG ?_))
   refine aH.at 12 (fun K hK=>?_)
   (refine rO (ai @aC (ai hge (@EntD.dv.eq_1))) ?_)
   refine dB c1 ?_
   (refine rO (ai @aC (ai hge (@EntD.dv.eq_1))) ?_)
   refine hK _ ?_
   clear hK K
   (refine aH.call (c2) [(0,1)] 200 rfl rfl ?_ ?_;(focus (simp (maxSteps:=2000000) (disch:=omega) only[gE,TY,bW,eH,fP,SV.ofD,eA,eO,fI,fJ,bR,fK,eX,eQ,fL,eL,fG,fF,fH,CV.exact,CV.lstOf,CV.lenOf,CV.one,D.one,Value.oneCell',CV.toD0,fX,eF,fZ,fC,rD0,gC,fD,fY,reduceCtorEq,reduceIte,Nat.reduceBEq,Nat.reduceEqDiff,Nat.reduceAdd,Nat.reduceMul,Nat.reduceSub,Nat.reduceLT,Nat.reduceLeDiff,Nat.reduceBNe,Int.reduceLE,Int.reduceLT,Int.reduceBEq,Int.reduceBNe,Int.reduceEq,Int.reduceNeg,Int.reduceAdd,Int.reduceSub,Int.reduceToNat,forall_const,aA6,atB,aD3,qJ,List.nil_append,Cap.sv,lX,SV.ren,CV.ren,cT,qY,aAm,aC,iL,hbV,EntD.dv,List.map_cons,List.map_nil];done)))
   cases hn:(iW s e).1 with
   | false =>
    rw[hn,if_pos rfl] at hls
    obtain⟨q1,q2⟩:=hpz _ (hno hls)
    (refine aH.done (fun K hK=>?_);simp (maxSteps:=2000000) (disch:=omega) only[gE,TY,bW,eH,fP,SV.ofD,eA,eO,fI,fJ,bR,fK,eX,eQ,fL,eL,fG,fF,fH,CV.exact,CV.lstOf,CV.lenOf,CV.one,D.one,Value.oneCell',CV.toD0,fX,eF,fZ,fC,rD0,gC,fD,fY,reduceCtorEq,reduceIte,Nat.reduceBEq,Nat.reduceEqDiff,Nat.reduceAdd,Nat.reduceMul,Nat.reduceSub,Nat.reduceLT,Nat.reduceLeDiff,Nat.reduceBNe,Int.reduceLE,Int.reduceLT,Int.reduceBEq,Int.reduceBNe,Int.reduceEq,Int.reduceNeg,Int.reduceAdd,Int.reduceSub,Int.reduceToNat,forall_const,aC,cH,lX,cT,SV.ren,CV.ren,iL,List.map_cons,List.map_nil];refine hK _ ?_;clear hK K)
    (refine bP ?_)
    (refine aT ?_)
    rw[q1,q2]
    exact⟨_,rfl,hle⟩
   | true =>
    rw[hn,if_neg (by simp)] at hls
    by_cases hf:1048576<t.p.fin
    ·have df:decide (1048576<t.p.fin)=true:=decide_eq_true hf
     rw[if_pos hf] at hls
     obtain⟨q1,q2⟩:=hpz _ (hno hls)
     (refine aH.done (fun K hK=>?_);simp (maxSteps:=2000000) (disch:=omega) only[gE,TY,bW,eH,fP,SV.ofD,eA,eO,fI,fJ,bR,fK,eX,eQ,fL,eL,fG,fF,fH,CV.exact,CV.lstOf,CV.lenOf,CV.one,D.one,Value.oneCell',CV.toD0,fX,eF,fZ,fC,rD0,gC,fD,fY,reduceCtorEq,reduceIte,Nat.reduceBEq,Nat.reduceEqDiff,Nat.reduceAdd,Nat.reduceMul,Nat.reduceSub,Nat.reduceLT,Nat.reduceLeDiff,Nat.reduceBNe,Int.reduceLE,Int.reduceLT,Int.reduceBEq,Int.reduceBNe,Int.reduceEq,Int.reduceNeg,Int.reduceAdd,Int.reduceSub,Int.reduceToNat,forall_const,aC,cH,lX,cT,SV.ren,CV.ren,iL,df,List.map_cons,List.map_nil];refine hK _ ?_;clear hK K)
     (refine bP ?_)
     (refine aT ?_)
     rw[q1,q2]
     exact⟨_,rfl,hle⟩
    ·have df:decide (1048576<t.p.fin)=false:=decide_eq_false hf
     rw[if_neg hf] at hls
     (refine aH.done (fun K hK=>?_);simp (maxSteps:=2000000) (disch:=omega) only[gE,TY,bW,eH,fP,SV.ofD,eA,eO,fI,fJ,bR,fK,eX,eQ,fL,eL,fG,fF,fH,CV.exact,CV.lstOf,CV.lenOf,CV.one,D.one,Value.oneCell',CV.toD0,fX,eF,fZ,fC,rD0,gC,fD,fY,reduceCtorEq,reduceIte,Nat.reduceBEq,Nat.reduceEqDiff,Nat.reduceAdd,Nat.reduceMul,Nat.reduceSub,Nat.reduceLT,Nat.reduceLeDiff,Nat.reduceBNe,Int.reduceLE,Int.reduceLT,Int.reduceBEq,Int.reduceBNe,Int.reduceEq,Int.reduceNeg,Int.reduceAdd,Int.reduceSub,Int.reduceToNat,forall_const,aC,cH,lX,cT,SV.ren,CV.ren,iL,df,List.map_cons,List.map_nil];refine hK _ ?_;clear hK K)
     (refine gO (hwk) ?_)
     refine⟨k+1,⟨hkl,by rw[htk,hls];rfl⟩,by omega,?_⟩
     rw[htk,hls,Option.getD_some]
     refine aD.keep rfl (pY rfl) ?_
     (refine aT ?_;try with_reducible exact tt)
 have hke:k=main.length:=by omega
 subst hke
 rw[List.take_length] at hs
 have hok' : FOk14 main.length s:=hok
 have hfs:iB main sides=match eC sides s 0 sides with
   | none=>none
   | some t=>if t.w.all (kK t.p) then some t else none:=by unfold iB;rw[hs]<;>rfl
 have d1:decide ((main.length:Int)<(main.length:Int))=false:=by simp
 (refine gO (d1) ?_)
 have hinv0:SideInv s s 0:=⟨rfl,rfl,⟨rfl,rfl,rfl,Nat.le_refl _,Nat.le_refl _,hok'.seen⟩,fun o ho=>by rw[hok'.opens] at ho;cases ho⟩
 have hpr0:=hok'.prods
 have hop0:s.p.opens.length=0:=by rw[hok'.opens];rfl
 obtain⟨hsl,hse⟩:=hsd
 refine Wp.loop (fun k:Nat=>⟨iH [(0,.c (.d (.lst 18 (main.map EntD.dv)))),(1,.c (.d (.lst 2 (sides.map SideD.dv)))),(4,.c (.own 0 0)),(6,.c (.own 1 0)),(8,vi .i64 k)],bI (fM ((eC sides s 0 (sides.take k)).getD ref0)),200,98,0⟩) (fun k=>k≤sides.length∧(eC sides s 0 (sides.take k)).isSome=true) (fun k=>sides.length - k) 0 ⟨Nat.zero_le _,rfl⟩ ?_ ?_
 ·refine aD.keep rfl (pY rfl) ?_
  simp (maxSteps:=2000000) (disch:=omega) only[gE,TY,bW,eH,fP,SV.ofD,eA,eO,fI,fJ,bR,fK,eX,eQ,fL,eL,fG,fF,fH,CV.exact,CV.lstOf,CV.lenOf,CV.one,D.one,Value.oneCell',CV.toD0,fX,eF,fZ,fC,rD0,gC,fD,fY,reduceCtorEq,reduceIte,Nat.reduceBEq,Nat.reduceEqDiff,Nat.reduceAdd,Nat.reduceMul,Nat.reduceSub,Nat.reduceLT,Nat.reduceLeDiff,Nat.reduceBNe,Int.reduceLE,Int.reduceLT,Int.reduceBEq,Int.reduceBNe,Int.reduceEq,Int.reduceNeg,Int.reduceAdd,Int.reduceSub,Int.reduceToNat,forall_const,eC,List.take_zero,Option.getD_some]
 rintro k ⟨hk,hks⟩
 obtain⟨u,hu⟩:=Option.isSome_iff_exists.1 hks
 have hinv:=aC4 sides s (sides.take k) s u 0 0 hinv0 hu
 rw[Nat.zero_add,List.length_take,Nat.min_eq_left hk] at hinv
 have hp1:=hinv.grow.prods
 have hp2:=hinv.grow.opens
 have hp3:=hinv.grow.seen
 have huw:=hinv.w
 have huv:=hinv.v
 have hub:=hinv.opb
 rw[hu,Option.getD_some]
 by_cases hkl:k<sides.length
 ·have d2:decide ((k:Int)<(sides.length:Int))=true:=decide_eq_true (by omega)
  have hge:sides[k]? = some sides[k]:=List.getElem?_eq_getElem hkl
  have hwk:IntKind.i64.wrap ((k:Int)+1)=((k+1:Nat):Int):=by rw[bA (by omega)];rfl
  have hxe:=hse _ (List.getElem_mem hkl)
  have htk:eC sides s 0 (sides.take (k+1))=if aN sides k=false then none else if (fA u sides[k]).1=false then none else some (fA u sides[k]).2:=by
   rw[List.take_succ_eq_append_getElem hkl,uD,hu,Nat.zero_add,List.length_take,Nat.min_eq_left (by omega)]
   rfl
  have hno:eC sides s 0 (sides.take (k+1))=none→iB main sides=none:=fun h=>by
   rw[hfs,aJv (k:=k+1) h]
  have hcase:(k=0∧aN sides k=true)∨(0<k∧∃ y,sides[k - 1]? = some y∧aN sides k=decide (y.pid<sides[k].pid)):=by
   cases k with
   | zero=>exact .inl ⟨rfl,rfl⟩
   | succ j =>
    right
    have hgj:sides[j]? = some sides[j]:=List.getElem?_eq_getElem (by omega)
    refine⟨by omega,sides[j],hgj,?_⟩
    unfold aN
    rw[hge,Nat.add_sub_cancel,hgj]
  generalize sides[k]=x at *
  have c3:=aMa u x ⟨by omega,by omega,hp3⟩ hxe
  generalize (fA u x).2=t at *
  rcases hcase with ⟨hk0,hokA⟩|⟨hk0,y,hgy,hokA⟩
  ·have dz:decide ((0:Int)<(k:Int))=false:=decide_eq_false (by omega)
   rw[hokA,if_neg (by simp)] at htk
   (refine gO (d2) ?_)
   (first|refine Wp.sregM aI ?_|refine Wp.regM aI ?_|(refine Wp.seq ?_;first|refine Wp.sregM aI ?_|refine Wp.regM aI ?_))
   (refine cR.at 22 (fun K hK=>?_);(refine rO (ai @aC (ai dz (hge))) ?_);refine hK _ _ ?_;clear hK K)
   (refine cR.call (c3) [(0,1)] 300 rfl rfl ?_ ?_;(focus (simp (maxSteps:=2000000) (disch:=omega) only[gE,TY,bW,eH,fP,SV.ofD,eA,eO,fI,fJ,bR,fK,eX,eQ,fL,eL,fG,fF,fH,CV.exact,CV.lstOf,CV.lenOf,CV.one,D.one,Value.oneCell',CV.toD0,fX,eF,fZ,fC,rD0,gC,fD,fY,reduceCtorEq,reduceIte,Nat.reduceBEq,Nat.reduceEqDiff,Nat.reduceAdd,Nat.reduceMul,Nat.reduceSub,Nat.reduceLT,Nat.reduceLeDiff,Nat.reduceBNe,Int.reduceLE,Int.reduceLT,Int.reduceBEq,Int.reduceBNe,Int.reduceEq,Int.reduceNeg,Int.reduceAdd,Int.reduceSub,Int.reduceToNat,forall_const,aA6,atB,aD3,qJ,List.nil_append,Cap.sv,lX,SV.ren,CV.ren,cT,qY,aAm,aC,iL,List.map_cons,List.map_nil];done)))
   (refine cR.done (fun K hK=>?_);simp (maxSteps:=2000000) (disch:=omega) only[gE,TY,bW,eH,fP,SV.ofD,eA,eO,fI,fJ,bR,fK,eX,eQ,fL,eL,fG,fF,fH,CV.exact,CV.lstOf,CV.lenOf,CV.one,D.one,Value.oneCell',CV.toD0,fX,eF,fZ,fC,rD0,gC,fD,fY,reduceCtorEq,reduceIte,Nat.reduceBEq,Nat.reduceEqDiff,Nat.reduceAdd,Nat.reduceMul,Nat.reduceSub,Nat.reduceLT,Nat.reduceLeDiff,Nat.reduceBNe,Int.reduceLE,Int.reduceLT,Int.reduceBEq,Int.reduceBNe,Int.reduceEq,Int.reduceNeg,Int.reduceAdd,Int.reduceSub,Int.reduceToNat,forall_const,aC,cH,lX,cT,SV.ren,CV.ren,iL,List.map_cons,List.map_nil];refine hK _ _ ?_;clear hK K;refine⟨by kernel_rfl,?_⟩)
   cases hn:(fA u x).1 with
   | false =>
    rw[hn,if_pos rfl] at htk
    obtain⟨q1,q2⟩:=hpz _ (hno htk)
    (refine bP ?_)
    (refine aT ?_)
    rw[q1,q2]
    exact⟨_,rfl,hle⟩
   | true =>
    rw[hn,if_neg (by simp)] at htk
    (refine gO (hwk) ?_)
    refine⟨k+1,⟨hkl,by rw[htk];rfl⟩,by omega,?_⟩
    rw[htk,Option.getD_some]
    refine aD.keep rfl (pY rfl) ?_
    (refine aT ?_;try with_reducible exact tt)
  ·have dz:decide ((0:Int)<(k:Int))=true:=decide_eq_true (by omega)
   have hwm:IntKind.i64.wrap ((k:Int) - 1)=((k - 1:Nat):Int):=by rw[bA (by omega)];omega
   by_cases hxy:y.pid<x.pid
   ·have dle:decide (x.pid≤y.pid)=false:=decide_eq_false (by omega)
    rw[hokA,decide_eq_true hxy,if_neg (by simp)] at htk
    (refine gO (d2) ?_)
    (first|refine Wp.sregM aI ?_|refine Wp.regM aI ?_|(refine Wp.seq ?_;first|refine Wp.sregM aI ?_|refine Wp.regM aI ?_))
    (refine cR.at 22 (fun K hK=>?_);(refine rO (ai @aC (ai dz (ai hge (ai hgy (ai hwm (dle)))))) ?_);refine hK _ _ ?_;clear hK K)
    (refine cR.call (c3) [(0,1)] 300 rfl rfl ?_ ?_;(focus (simp (maxSteps:=2000000) (disch:=omega) only[gE,TY,bW,eH,fP,SV.ofD,eA,eO,fI,fJ,bR,fK,eX,eQ,fL,eL,fG,fF,fH,CV.exact,CV.lstOf,CV.lenOf,CV.one,D.one,Value.oneCell',CV.toD0,fX,eF,fZ,fC,rD0,gC,fD,fY,reduceCtorEq,reduceIte,Nat.reduceBEq,Nat.reduceEqDiff,Nat.reduceAdd,Nat.reduceMul,Nat.reduceSub,Nat.reduceLT,Nat.reduceLeDiff,Nat.reduceBNe,Int.reduceLE,Int.reduceLT,Int.reduceBEq,Int.reduceBNe,Int.reduceEq,Int.reduceNeg,Int.reduceAdd,Int.reduceSub,Int.reduceToNat,forall_const,aA6,atB,aD3,qJ,List.nil_append,Cap.sv,lX,SV.ren,CV.ren,cT,qY,aAm,aC,iL,List.map_cons,List.map_nil];done)))
    (refine cR.done (fun K hK=>?_);simp (maxSteps:=2000000) (disch:=omega) only[gE,TY,bW,eH,fP,SV.ofD,eA,eO,fI,fJ,bR,fK,eX,eQ,fL,eL,fG,fF,fH,CV.exact,CV.lstOf,CV.lenOf,CV.one,D.one,Value.oneCell',CV.toD0,fX,eF,fZ,fC,rD0,gC,fD,fY,reduceCtorEq,reduceIte,Nat.reduceBEq,Nat.reduceEqDiff,Nat.reduceAdd,Nat.reduceMul,Nat.reduceSub,Nat.reduceLT,Nat.reduceLeDiff,Nat.reduceBNe,Int.reduceLE,Int.reduceLT,Int.reduceBEq,Int.reduceBNe,Int.reduceEq,Int.reduceNeg,Int.reduceAdd,Int.reduceSub,Int.reduceToNat,forall_const,aC,cH,lX,cT,SV.ren,CV.ren,iL,List.map_cons,List.map_nil];refine hK _ _ ?_;clear hK K;refine⟨by kernel_rfl,?_⟩)
    cases hn:(fA u x).1 with
    | false =>
     rw[hn,if_pos rfl] at htk
     obtain⟨q1,q2⟩:=hpz _ (hno htk)
     (refine bP ?_)
     (refine aT ?_)
     rw[q1,q2]
     exact⟨_,rfl,hle⟩
    | true =>
     rw[hn,if_neg (by simp)] at htk
     (refine gO (hwk) ?_)
     refine⟨k+1,⟨hkl,by rw[htk];rfl⟩,by omega,?_⟩
     rw[htk,Option.getD_some]
     refine aD.keep rfl (pY rfl) ?_
     (refine aT ?_;try with_reducible exact tt)
   ·have dle:decide (x.pid≤y.pid)=true:=decide_eq_true (by omega)
    rw[hokA,decide_eq_false hxy,if_pos rfl] at htk
    obtain⟨q1,q2⟩:=hpz _ (hno htk)
    (refine gO (ai d2 (ai dz (ai hge (ai hgy (ai hwm (dle)))))) ?_)
    (refine aT ?_)
    rw[q1,q2]
    exact⟨_,rfl,hle⟩
 have hke:k=sides.length:=by omega
 subst hke
 rw[List.take_length] at hu
 have hft:iB main sides=if u.w.all (kK u.p) then some u else none:=by rw[hfs,hu]
 have d2:decide ((sides.length:Int)<(sides.length:Int))=false:=by simp
 have hwl:=eU u.w
 have hdiv:(aY u.w).length / 2=u.w.length:=by rw[hwl,Nat.mul_div_cancel _ (by decide)]
 have huwl:u.w.length≤1000:=by rw[huw];have:=hok'.wts;omega
 have hub8:∀ x ∈ u.w,x.2.length≤100000∧∀ b ∈ x.2,b.recs.length≤100000:=fun x hx=>by
  rw[huw] at hx
  exact⟨by have:=hok'.bats x hx;omega,fun b hb=>by have:=hok'.recs x hx b hb;omega⟩
 (refine gO (d2) ?_)
 refine Wp.loop (fun k:Nat=>⟨iH [(0,.c (.d (.lst 18 (main.map EntD.dv)))),(1,.c (.d (.lst 2 (sides.map SideD.dv)))),(4,.c (.own 0 0)),(6,.c (.own 1 0)),(9,vi .i64 k)],bI (fM u),300,98,0⟩) (fun k=>k≤u.w.length∧(u.w.take k).all (kK u.p)=true) (fun k=>u.w.length - k) 0 ⟨Nat.zero_le _,rfl⟩ ?_ ?_
 ·refine aD.keep rfl (pY rfl) ?_
  (refine aT ?_;try with_reducible exact tt)
 rintro k ⟨hk,hka⟩
 by_cases hkl:k<u.w.length
 ·have d3:decide ((k:Int)<(u.w.length:Int))=true:=decide_eq_true (by omega)
  have hge:u.w[k]? = some u.w[k]:=List.getElem?_eq_getElem hkl
  have hwk:IntKind.i64.wrap ((k:Int)+1)=((k+1:Nat):Int):=by rw[bA (by omega)];rfl
  have hta:(u.w.take (k+1)).all (kK u.p)=kK u.p u.w[k]:=by
   rw[List.take_succ_eq_append_getElem hkl,List.all_append,hka];simp
  have hbad:kK u.p u.w[k]=false→iB main sides=none:=fun h=>by
   rw[hft,if_neg]
   intro h2
   have:=List.all_eq_true.1 h2 _ (List.getElem_mem hkl)
   rw[h] at this;cases this
  have hsub:=aF4 hge
  obtain⟨hx1,hx2⟩:=hub8 _ (List.getElem_mem hkl)
  have hle2:k*2+2≤(aY u.w).length:=by omega
  generalize u.w[k]=x at *
  have c4:=aDe u.p u.w x (by omega) ⟨hx1,hx2⟩ (fun o ho=>by have:=hub o ho;omega)
  (refine gO (ai hdiv (d3)) ?_)
  (first|refine Wp.sreg (fun K hK=>?_)|refine Wp.reg (fun K hK=>?_))
  (refine rO (ai hle2 (hsub)) ?_)
  refine fQ c4 rfl (aQc u x (by (refine rO (ai @aJ.eq_1 (@aJ.eq_2)) ?_;try with_reducible exact tt))) ?_
  (refine aT ?_)
  refine hK _ ?_
  clear hK K
  cases hwo:kK u.p x with
  | true =>
   (refine gO (hwk) ?_)
   refine⟨k+1,⟨hkl,hta.trans hwo⟩,by omega,aD.keep rfl (pY rfl) ?_⟩
   (refine aT ?_;try with_reducible exact tt)
  | false =>
   obtain⟨q1,q2⟩:=hpz _ (hbad hwo)
   (refine bP ?_)
   (refine aT ?_)
   rw[q1,q2]
   exact⟨_,rfl,hle⟩
 ·have hke:k=u.w.length:=by omega
  subst hke
  rw[List.take_length] at hka
  rw[hka,if_pos rfl] at hft
  have d3:decide ((u.w.length:Int)<(u.w.length:Int))=false:=by simp
  rw[hft]
  (refine gO (ai hdiv (d3)) ?_)
  simp (maxSteps:=2000000) (disch:=omega) only[gE,TY,bW,eH,fP,SV.ofD,eA,eO,fI,fJ,bR,fK,eX,eQ,fL,eL,fG,fF,fH,CV.exact,CV.lstOf,CV.lenOf,CV.one,D.one,Value.oneCell',CV.toD0,fX,eF,fZ,fC,rD0,gC,fD,fY,reduceCtorEq,reduceIte,Nat.reduceBEq,Nat.reduceEqDiff,Nat.reduceAdd,Nat.reduceMul,Nat.reduceSub,Nat.reduceLT,Nat.reduceLeDiff,Nat.reduceBNe,Int.reduceLE,Int.reduceLT,Int.reduceBEq,Int.reduceBNe,Int.reduceEq,Int.reduceNeg,Int.reduceAdd,Int.reduceSub,Int.reduceToNat,forall_const,aDo,r14,PartD.dv]
  exact⟨_,rfl,fun _ _ h=>h⟩
end Go.Proofs.YtpklhnpchhaccaaGreatDoor
