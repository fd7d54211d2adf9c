/- The abstract machine (RgA, RgB, RgC, RgD, PlA). -/
import Derived.Test.YtpklhnpchhaccaaGreatDoorInMe
import Derived.Test.YtpklhnpchhaccaaGreatDoorSqO
import Derived.Test.YtpklhnpchhaccaaGreatDoorSqN
namespace Go.Proofs.YtpklhnpchhaccaaGreatDoor
open Go Go.RowKit
set_option maxHeartbeats 4000000
set_option maxRecDepth 100000
set_option linter.unusedVariables false
set_option linter.unusedSimpArgs false
theorem aBm (p:PartD) (b:BatD) (hr:p.rows.length≤1000000) (hb:b.recs.length≤100000) (hf : -1000000000≤p.fin∧p.fin≤1000000000) :
  aW Tryz.prog 164 [.agg p.dv,.agg b.dv] (.agg ({ p with rows:=p.rows++cS b p.fin,fin:=p.fin+(b.recs.length:Int) }:PartD).dv):=by
 have c1:=aJi b p.fin hb
 have hrl:(cS b p.fin).length=b.recs.length:=pA _ _ _
 have hb1:p.rows.length*56≤140737488355328:=by omega
 have hb2:(p.rows.length+b.recs.length)*56≤140737488355328:=by omega
 have hw:IntKind.i64.wrap (p.fin+(b.recs.length:Int))=p.fin+(b.recs.length:Int):=bA (by omega)
 simp only[BatD.dv] at c1
 (refine aW.of_body Tryz.func164 rfl rfl Tryz.ntmps164 Tryz.results164 (by simp) ?_)
 (refine gO (ai @PartD.dv.eq_1 (ai @BatD.dv.eq_1 (ai hrl (ai hb1 (ai hb2 (ai hw (@List.length_map.{0,0}))))))) ?_)
 (refine rO (ai @PartD.dv.eq_1 (@List.map_append.{0,0})) ?_;try with_reducible exact tt)
theorem iI (p:PartD) (pid:Int) (hl:p.opens.length≤100000):aW Tryz.prog 80 [.agg p.dv,int pid] (.tup [int (aZ p.opens pid:Nat),dM (bL p.opens pid)]):=by
 have hile:=rQ p.opens pid
 (refine aW.of_body Tryz.func80 rfl rfl Tryz.ntmps80 Tryz.results80 (by simp) ?_)
 (refine gO (@PartD.dv.eq_1) ?_)
 refine Wp.loop (fun k:Nat=>⟨iH [(1,.c (.d (int pid))),(2,.c (.own 0 0)),(6,vi .i64 k)],bI [(0,.cells (p.dv.map CV.d))],1,40,0⟩) (fun k=>k≤aZ p.opens pid) (fun k=>p.opens.length - k) 0 (Nat.zero_le _) ?_ ?_
 ·refine aD.keep rfl rfl ?_
  (refine rO (ai @PartD.dv.eq_1 (ai @List.map_cons.{0,0} (@List.map_nil.{0,0}))) ?_;try with_reducible exact tt)
 intro k hk
 have hwk:IntKind.i64.wrap ((k:Int)+1)=((k+1:Nat):Int):=by rw[bA (by omega)];rfl
 by_cases hkl:k<p.opens.length
 rotate_left
 ·have d1:decide ((k:Int)<(p.opens.length:Int))=false:=decide_eq_false (by omega)
  have hke:aZ p.opens pid=k:=by omega
  have hob:bL p.opens pid=false:=by
   unfold bL
   rw[List.getElem?_eq_none (by omega)]
  rw[hob,hke]
  (refine gO (ai @PartD.dv.eq_1 (ai @List.map_cons.{0,0} (ai @List.map_nil.{0,0} (ai @List.length_map.{0,0} (d1))))) ?_)
  (refine aT ?_;try with_reducible exact tt)
 have d1:decide ((k:Int)<(p.opens.length:Int))=true:=decide_eq_true (by omega)
 have hge:p.opens[k]? = some p.opens[k]:=List.getElem?_eq_getElem hkl
 by_cases hki:k<aZ p.opens pid
 ·obtain⟨_,hlt⟩:=aBh hki
  have d2:decide (p.opens[k].pid<pid)=true:=decide_eq_true hlt
  generalize p.opens[k]=o at *
  (refine gO (ai @PartD.dv.eq_1 (ai @List.map_cons.{0,0} (ai @List.map_nil.{0,0} (ai @List.length_map.{0,0} (ai d1 (ai hge (ai @OpenD.dv.eq_1 (ai d2 (hwk))))))))) ?_)
  refine⟨k+1,hki,by omega,aD.keep rfl rfl ?_⟩
  (refine rO (ai @PartD.dv.eq_1 (ai @List.map_cons.{0,0} (@List.map_nil.{0,0}))) ?_;try with_reducible exact tt)
 ·have hke:aZ p.opens pid=k:=by omega
  have hg:=aBg (l:=p.opens) (pid:=pid) (by rw[hke];exact hkl)
  simp only[hke] at hg
  have d2:decide (p.opens[k].pid<pid)=false:=decide_eq_false (by omega)
  have hob:bL p.opens pid=(p.opens[k].pid == pid):=by
   unfold bL
   rw[hke,hge]
  rw[hob,hke]
  generalize p.opens[k]=o at *
  (refine gO (ai @PartD.dv.eq_1 (ai @List.map_cons.{0,0} (ai @List.map_nil.{0,0} (ai @List.length_map.{0,0} (ai d1 (ai hge (ai @OpenD.dv.eq_1 (ai d2 (hwk))))))))) ?_)
  (refine aT ?_;try with_reducible exact tt)
theorem aDb (p:PartD) (b:BatD) (hl:p.opens.length≤100000) (hb:bL p.opens b.pid=false) :
  aW Tryz.prog 117 [.agg p.dv,.agg b.dv] (.tup [.agg ({ p with opens:=p.opens.take (aZ p.opens b.pid)++(⟨b.pid,b.epoch,[b]⟩:OpenD)::p.opens.drop (aZ p.opens b.pid) }:PartD).dv,dM true]):=by
 have c1:=iI p b.pid hl
 rw[hb] at c1
 simp only[PartD.dv] at c1
 have hle1:=rQ p.opens b.pid
 generalize aZ p.opens b.pid=i at *
 have hta:((p.opens.map OpenD.dv).take i).length=i:=by rw[List.length_take,List.length_map];omega
 have hdl:((p.opens.map OpenD.dv).drop i).take (p.opens.length - i)=(p.opens.map OpenD.dv).drop i:=List.take_of_length_le (by simp)
 have hdl2:((p.opens.map OpenD.dv).drop i).length=p.opens.length - i:=by rw[List.length_drop,List.length_map]
 have hta2:((p.opens.map OpenD.dv).take i++[[int b.pid,int b.epoch,.lst 5 [[int b.pid,int b.epoch,int b.seq,dM b.txn,.lst 2 (b.recs.map RecD.dv)]]]]).length=i+1:=by rw[List.length_append,hta];rfl
 have hb1:i*40≤140737488355328:=by omega
 have hb2:(i+1)*40≤140737488355328:=by omega
 have hb3:(i+1+(p.opens.length - i))*40≤140737488355328:=by omega
 (refine aW.of_bodyW Tryz.func117 rfl rfl Tryz.ntmps117 Tryz.results117 (by simp) ?_)
 (refine gO (ai @PartD.dv.eq_1 (ai @BatD.dv.eq_1 (ai hle1 (ai @List.length_map.{0,0} (ai hta (ai hta2 (ai hdl (ai hdl2 (ai hb1 (ai hb2 (ai hb3 (@List.nil_append.{0})))))))))))) ?_)
 (refine rO (ai @PartD.dv.eq_1 (ai @OpenD.dv.eq_1 (ai @BatD.dv.eq_1 (ai @List.map_append.{0,0} (ai @List.map_take.{0,0} (ai @List.map_drop.{0,0} (ai @List.map_cons.{0,0} (ai @List.map_nil.{0,0} (ai @List.append_assoc.{0} (ai @List.cons_append.{0} (@List.nil_append.{0}))))))))))) ?_)
 exact⟨_,rfl,fun K v h=>h⟩
theorem aGm (p:PartD) (b:BatD) (hl:p.opens.length≤100000) (hb:bL p.opens b.pid=true) (o:OpenD) (hi:p.opens[aZ p.opens b.pid]? = some o) (hno:o.epoch≠b.epoch∨8≤o.bats.length) :
  aW Tryz.prog 117 [.agg p.dv,.agg b.dv] (.tup [.agg p.dv,dM false]):=by
 have c1:=iI p b.pid hl
 rw[hb] at c1
 simp only[PartD.dv] at c1
 have hlt:=(List.getElem?_eq_some_iff.1 hi).1
 generalize aZ p.opens b.pid=i at *
 have hle1:i≤p.opens.length:=by omega
 have hta:((p.opens.map OpenD.dv).take i).length=i:=by rw[List.length_take,List.length_map];omega
 have hb1:i*40≤140737488355328:=by omega
 (refine aW.of_body Tryz.func117 rfl rfl Tryz.ntmps117 Tryz.results117 (by simp) ?_)
 by_cases h1:o.epoch=b.epoch
 ·have d1:(o.epoch != b.epoch)=false:=by simp[h1]
  have d2:decide (8≤(o.bats.length:Int))=true:=by
   rcases hno with h|h
   ·exact absurd h1 h
   ·exact decide_eq_true (by omega)
  (refine gO (ai @PartD.dv.eq_1 (ai @BatD.dv.eq_1 (ai @OpenD.dv.eq_1 (ai hi (ai hle1 (ai @List.length_map.{0,0} (ai hta (ai hb1 (ai @List.nil_append.{0} (ai d1 (d2))))))))))) ?_)
  (refine rO (@PartD.dv.eq_1) ?_;try with_reducible exact tt)
 ·have d1:(o.epoch != b.epoch)=true:=by simpa using h1
  (refine gO (ai @PartD.dv.eq_1 (ai @BatD.dv.eq_1 (ai @OpenD.dv.eq_1 (ai hi (ai hle1 (ai @List.length_map.{0,0} (ai hta (ai hb1 (ai @List.nil_append.{0} (d1)))))))))) ?_)
  (refine rO (@PartD.dv.eq_1) ?_;try with_reducible exact tt)
theorem aDa (p:PartD) (b:BatD) (hl:p.opens.length≤100000) (hb:bL p.opens b.pid=true) (o:OpenD) (hi:p.opens[aZ p.opens b.pid]? = some o) (hep:o.epoch=b.epoch) (hbl:o.bats.length<8) :
  aW Tryz.prog 117 [.agg p.dv,.agg b.dv] (.tup [.agg ({ p with opens:=p.opens.take (aZ p.opens b.pid)++(⟨b.pid,b.epoch,o.bats++[b]⟩:OpenD)::p.opens.drop (aZ p.opens b.pid+1) }:PartD).dv,dM true]):=by
 have c1:=iI p b.pid hl
 rw[hb] at c1
 simp only[PartD.dv] at c1
 have hlt:=(List.getElem?_eq_some_iff.1 hi).1
 generalize aZ p.opens b.pid=i at *
 have hle1:i≤p.opens.length:=by omega
 have hle2:i+1≤p.opens.length:=hlt
 have hta:((p.opens.map OpenD.dv).take i).length=i:=by rw[List.length_take,List.length_map];omega
 have hdl:((p.opens.map OpenD.dv).drop (i+1)).take (p.opens.length - (i+1))=(p.opens.map OpenD.dv).drop (i+1):=List.take_of_length_le (by simp)
 have hdl2:((p.opens.map OpenD.dv).drop (i+1)).length=p.opens.length - (i+1):=by rw[List.length_drop,List.length_map]
 have htn:((i:Int)+1).toNat=i+1:=by omega
 have hnn:((0:Int)≤(i:Int)+1)=True:=by simp;omega
 have d1:(o.epoch != b.epoch)=false:=by simp[hep]
 have d2:decide (8≤(o.bats.length:Int))=false:=decide_eq_false (by omega)
 have hb1:i*40≤140737488355328:=by omega
 have hb4:o.bats.length*56≤140737488355328:=by omega
 have hb5:(o.bats.length+1)*56≤140737488355328:=by omega
 have hb2:(i+1)*40≤140737488355328:=by omega
 have hb3:(i+1+(p.opens.length - (i+1)))*40≤140737488355328:=by omega
 have hta2:((p.opens.map OpenD.dv).take i++[[int b.pid,int b.epoch,.lst 5 (o.bats.map BatD.dv++[[int b.pid,int b.epoch,int b.seq,dM b.txn,.lst 2 (b.recs.map RecD.dv)]])]]).length=i+1:=by rw[List.length_append,hta];rfl
 (refine aW.of_bodyW Tryz.func117 rfl rfl Tryz.ntmps117 Tryz.results117 (by simp) ?_)
 (refine gO (ai @PartD.dv.eq_1 (ai @BatD.dv.eq_1 (ai @OpenD.dv.eq_1 (ai hi (ai hle1 (ai hle2 (ai @List.length_map.{0,0} (ai hta (ai hta2 (ai hdl (ai hdl2 (ai htn (ai hnn (ai hb1 (ai hb2 (ai hb3 (ai hb4 (ai hb5 (ai @List.nil_append.{0} (ai d1 (d2))))))))))))))))))))) ?_)
 (refine rO (ai @PartD.dv.eq_1 (ai @OpenD.dv.eq_1 (ai @BatD.dv.eq_1 (ai @List.map_append.{0,0} (ai @List.map_take.{0,0} (ai @List.map_drop.{0,0} (ai @List.map_cons.{0,0} (ai @List.map_nil.{0,0} (ai @List.append_assoc.{0} (ai @List.cons_append.{0} (@List.nil_append.{0}))))))))))) ?_)
 exact⟨_,rfl,fun K v h=>h⟩
theorem aGl (p:PartD) (b:BatD) (hl:p.opens.length≤100000) (hs:SmallL p.prods) (hb:b.recs.length≤100000) (hr:p.rows.length≤1000000) (hf : -1000000000≤p.fin∧p.fin≤1000000000) :
  aW Tryz.prog 112 [.agg p.dv,.agg b.dv] (.tup [.agg (if bL p.opens b.pid=true∨b.txn=true∨(aG p.prods b p.fin).2≠0 then p else ({ p with prods:=(aG p.prods b p.fin).1,rows:=p.rows++cS b p.fin,fin:=p.fin+(b.recs.length:Int) }:PartD)).dv,
   dM (decide (¬ (bL p.opens b.pid=true∨b.txn=true∨(aG p.prods b p.fin).2≠0)))]):=by
 have c1:=iI p b.pid hl
 have c2:=oE p.prods b p.fin hs hb
 have c3:=aBm { p with prods:=(aG p.prods b p.fin).1 } b hr hb hf
 simp only[PartD.dv,BatD.dv] at c1 c2 c3
 (refine aW.of_bodyW Tryz.func112 rfl rfl Tryz.ntmps112 Tryz.results112 (by simp) ?_)
 cases ho:bL p.opens b.pid with
 | true =>
  rw[ho] at c1
  (refine gO (ai @PartD.dv.eq_1 (@BatD.dv.eq_1)) ?_)
  (refine rO (@PartD.dv.eq_1) ?_)
  simp
 | false =>
  rw[ho] at c1
  cases ht:b.txn with
  | true =>
   rw[ht] at c2 c3
   (refine gO (ai @PartD.dv.eq_1 (ai @BatD.dv.eq_1 (ht))) ?_)
   (refine rO (ai @PartD.dv.eq_1 (ht)) ?_)
   simp
  | false =>
   rw[ht] at c2 c3
   by_cases hz:(aG p.prods b p.fin).2=0
   ·have d1:((aG p.prods b p.fin).2 != 0)=false:=by simp[hz]
    (refine gO (ai @PartD.dv.eq_1 (ai @BatD.dv.eq_1 (ai ht (d1)))) ?_)
    (refine rO (ai @PartD.dv.eq_1 (ai ht (d1))) ?_)
    simp[hz]
   ·have d1:((aG p.prods b p.fin).2 != 0)=true:=by simpa using hz
    (refine gO (ai @PartD.dv.eq_1 (ai @BatD.dv.eq_1 (ai ht (d1)))) ?_)
    (refine rO (ai @PartD.dv.eq_1 (ai ht (d1))) ?_)
    simp[hz]
def lN (l:List ProdD) (pid:Int):List ProdD:=if (bB l pid).2=true then dV l ⟨(bB l pid).1.pid,(bB l pid).1.epoch,(bB l pid).1.next,[]⟩ else l
theorem aBp (l:List ProdD) (pid:Int) (hs:SmallL l):aW Tryz.prog 167 [.lst 4 (l.map ProdD.dv),int pid] (.lst 4 ((lN l pid).map ProdD.dv)):=by
 have c1:=lC l pid hs
 have c2:=(mG l ⟨(bB l pid).1.pid,(bB l pid).1.epoch,(bB l pid).1.next,[]⟩ hs).args (xs:=[.lst 4 (l.map ProdD.dv),.agg [int (bB l pid).1.pid,int (bB l pid).1.epoch,int (bB l pid).1.next,oC]]) (.cons (.refl _) (.cons (.agg (.cons (.refl _) (.cons (.refl _) (.cons (.refl _) (.cons (.nil 3) .nil))))) .nil))
 unfold lN
 simp only[ProdD.dv] at c1
 generalize bB l pid=f at *
 obtain⟨q,b⟩:=f
 (refine aW.of_body Tryz.func167 rfl rfl Tryz.ntmps167 Tryz.results167 (by simp) ?_)
 cases b with
 | true =>
  (refine gO (@ProdD.dv.eq_1) ?_)
  (refine rO (@if_true.{1}) ?_;try with_reducible exact tt)
 | false =>
  (refine gO (@ProdD.dv.eq_1) ?_)
  (refine aT ?_;try with_reducible exact tt)
def yZ (pid:Int):List ProdD→List ProdD
 | []=>[]
 | x::l=>if x.pid=pid then ⟨x.pid,x.epoch,x.next,[]⟩::l else x::yZ pid l
theorem nQ (pid:Int):∀ l:List ProdD,eP l pid=yZ pid l
 | []=>by simp[eP,yZ]
 | x::l=>by
  have ih:=nQ pid l
  by_cases h:x.pid=pid
  ·have h' : (x.pid == pid)=true:=by simpa using h
   simp[eP,yZ,List.findIdx_cons,h',h]
  ·have h' : (x.pid == pid)=false:=by simpa using h
   simp only[yZ,h,if_false,← ih]
   simp only[eP,List.findIdx_cons,h',cond_false,List.getElem?_cons_succ]
   split<;>simp
theorem aN6:∀ (l:List ProdD) (b:Int),lI l b=true→∀ p ∈ l,b<p.pid
 | [],_,_,p,hp=>by simp at hp
 | x::l,b,h,p,hp=>by
  rw[lI,Bool.and_eq_true] at h
  have h1:=h.1
  simp only[Bool.not_eq_true',Bool.or_eq_false_iff,decide_eq_false_iff_not] at h1
  rcases List.mem_cons.1 hp with rfl|hp
  ·omega
  ·have:=aN6 l x.pid h.2 p hp
   omega
theorem gP (x:ProdD) (l:List ProdD) (pid:Int):bB (x::l) pid=if x.pid=pid then (x,true) else bB l pid:=by
 unfold bB
 by_cases h:x.pid=pid
 ·simp[h]
 ·have h' : (x.pid == pid)=false:=by simpa using h
  rw[List.find?_cons_of_neg (by simp[h']),if_neg h]
theorem aP2 {l:List ProdD} {pid:Int} {p:ProdD} (h:bB l pid=(p,true)):p.pid=pid:=by
 unfold bB at h
 split at h
 ·rename_i q hq
  have:=List.find?_some hq
  cases h
  simpa using this
 ·cases h
theorem yB (pid:Int):∀ (l:List ProdD) (b:Int),lI l b=true→lN l pid=yZ pid l
 | [],_,_=>rfl
 | x::l,b,h=>by
  rw[lI,Bool.and_eq_true] at h
  have ih:=yB pid l x.pid h.2
  unfold lN at ih ⊢
  rw[gP]
  by_cases hx:x.pid=pid
  ·rw[if_pos hx,if_pos rfl,gW]
   simp only[jI,yZ,hx,Int.le_refl,if_true]
  ·rw[if_neg hx]
   simp only[yZ,hx,if_false]
   rw[← ih]
   cases hf:bB l pid with
   | mk q k =>
    cases k with
    | false=>rfl
    | true =>
     have hq:=aP2 hf
     have hg:=aN6 l x.pid h.2 q (mM hf)
     simp only[if_true,gW]
     rw[jI,if_neg (by show ¬ q.pid≤x.pid;omega)]
theorem aOm {l:List ProdD} (pid:Int) (h:iQ l=true):lN l pid=eP l pid:=by
 rw[yB pid l 0 h,nQ]
theorem aP9 {p:ProdD} (h:bC p=true):bC ⟨p.pid,p.epoch,p.next,[]⟩=true:=by
 unfold bC at h ⊢
 rw[Bool.and_eq_true] at h ⊢
 refine⟨?_,rfl⟩
 have h1:=h.1
 unfold cW at h1 ⊢
 simp only[Bool.not_eq_true',Bool.or_eq_false_iff] at h1 ⊢
 exact⟨h1.1,by simp⟩
theorem aJ1 (pid:Int):∀ (l:List ProdD) (b:Int),lI l b=true→lI (yZ pid l) b=true
 | [],_,_=>rfl
 | x::l,b,h=>by
  rw[lI,Bool.and_eq_true] at h
  unfold yZ
  split
  ·rw[lI,Bool.and_eq_true]
   refine⟨?_,h.2⟩
   have h1:=h.1
   simp only[Bool.not_eq_true',Bool.or_eq_false_iff,Bool.not_eq_false'] at h1 ⊢
   exact⟨h1.1,aP9 h1.2⟩
  ·rw[lI,h.1,aJ1 pid l x.pid h.2];rfl
theorem aEb {l:List ProdD} (pid:Int) (h:iQ l=true):iQ (eP l pid)=true:=by
 rw[nQ];exact aJ1 pid l 0 h
theorem rY {l:List ProdD} {b:BatD} {base:Int} (h:(aG l b base).2=0):iQ (aG l b base).1=true:=by
 obtain⟨a1,a2,a3,a4⟩:=pF h
 rw[a4]
 exact pX (mS a2).1 (sL a1 a2 a3)
theorem mP (l:List ProdD) (b:BatD) (base:Int) (hb : -1≤base∧base≤1048576):(aG l b base).2=0 ↔ (aP l b).2.2=0∧(aP l b).2.1=false :=
 ⟨fun h=>⟨(pF h).2.1,(pF h).2.2.1⟩,fun h=>aCb l b base h.1 h.2 hb⟩
def jA (p:PartD) (b:BatD):Option PartD :=
 if bL p.opens b.pid=true∨b.txn=true∨(aG p.prods b p.fin).2≠0 then none else some { p with prods:=(aG p.prods b p.fin).1,rows:=p.rows++cS b p.fin,fin:=p.fin+(b.recs.length:Int) }
def xJ (p:PartD) (b:BatD):Option PartD :=
 match bL p.opens b.pid,p.opens[aZ p.opens b.pid]? with
 | true,some o=>if o.epoch≠b.epoch∨8≤o.bats.length then none else some { p with opens:=p.opens.take (aZ p.opens b.pid)++(⟨b.pid,b.epoch,o.bats++[b]⟩:OpenD)::p.opens.drop (aZ p.opens b.pid+1) }
 | _,_=>some { p with opens:=p.opens.take (aZ p.opens b.pid)++(⟨b.pid,b.epoch,[b]⟩:OpenD)::p.opens.drop (aZ p.opens b.pid) }
def uJ (p:PartD) (b:BatD):Option PartD :=
 if (aG p.prods b (-1)).2≠0 then none else match xJ p b with
 | some q=>some { q with prods:=(aG p.prods b (-1)).1 }
 | none=>none
def kF (p:PartD) (e:EntD):Option PartD :=
 if e.kind=2 then (if e.off<p.start∨p.fin<e.off then none else some { p with start:=e.off,rows:=jJ (nJ e.off) p.rows })
 else if e.kind=5 then some { p with rows:=p.rows++[{ e.row with off:=p.fin }],fin:=p.fin+1 }
 else if e.kind=6 then (if bL p.opens e.prod.pid=true then none else some { p with prods:=dV p.prods e.prod })
 else none
theorem aUs (p:PartD) (b:BatD) (hf:0≤p.fin∧p.fin≤1048576):(match (if b.txn=true then uJ p b else jA p b) with|some q=>if 1048576<q.fin then none else some q|none=>none)=kM p b:=by
 have i1:=mP p.prods b (-1) (by omega)
 have i2:=mP p.prods b p.fin (by omega)
 unfold kM
 by_cases hc:(aP p.prods b).2.2≠0∨(aP p.prods b).2.1=true
 ·rw[if_pos hc]
  have hn:¬ ((aP p.prods b).2.2=0∧(aP p.prods b).2.1=false):=fun h=>by
   rcases hc with hc|hc
   ·exact hc h.1
   ·rw[h.2] at hc;cases hc
  have n1:(aG p.prods b (-1)).2≠0:=fun h=>hn (i1.1 h)
  have n2:(aG p.prods b p.fin).2≠0:=fun h=>hn (i2.1 h)
  cases ht:b.txn with
  | true=>rw[if_pos rfl];unfold uJ;rw[if_pos n1]
  | false=>rw[if_neg (by simp)];unfold jA;rw[if_pos (.inr (.inr n2))]
 ·rw[if_neg hc]
  have hy:(aP p.prods b).2.2=0∧(aP p.prods b).2.1=false:=by
   refine⟨Decidable.not_not.1 (fun h=>hc (.inl h)),?_⟩
   cases h:(aP p.prods b).2.1 with
   | false=>rfl
   | true=>exact absurd (.inr h) hc
  have n1:=i1.2 hy
  have n2:=i2.2 hy
  cases ho:bL p.opens b.pid with
  | true =>
   obtain⟨o,hi,hpid⟩:=oV ho
   simp only[hi]
   cases ht:b.txn with
   | false =>
    rw[if_neg (by simp),if_pos (.inl rfl)]
    unfold jA
    rw[if_pos (.inl ho)]
   | true =>
    rw[if_pos rfl]
    unfold uJ xJ
    rw[if_neg (by simp[n1])]
    simp only[ho,hi]
    by_cases hx:o.epoch≠b.epoch∨8≤o.bats.length
    ·rw[if_pos hx,if_pos (.inr hx)]
    ·rw[if_neg hx,if_neg (fun h=>h.elim (fun h=>by cases h) hx)]
     have he:o.epoch=b.epoch:=Decidable.not_not.1 (fun h=>hx (.inl h))
     have hlt:=(List.getElem?_eq_some_iff.1 hi).1
     simp only
     rw[if_neg (by omega),List.set_eq_take_append_cons_drop,if_pos hlt,hpid,he]
  | false =>
   simp only
   cases ht:b.txn with
   | false =>
    rw[if_neg (by simp),if_pos rfl]
    unfold jA
    rw[if_neg (by rw[ho,ht,n2];simp)]
   | true =>
    rw[if_pos rfl,if_neg (by simp)]
    unfold uJ xJ
    rw[if_neg (by simp[n1])]
    simp only[ho]
    rw[if_neg (by omega)]
theorem aL6 {e:EntD} (ho:aL e=true) (h6:e.kind=6):bC e.prod=true:=by
 simp only[aL,Bool.and_eq_true,decide_eq_true_eq] at ho
 have hm2:=ho.2
 unfold nB at hm2
 rw[if_neg (by omega),if_neg (by omega),if_neg (by omega),if_neg (by omega),if_neg (by omega),if_neg (by omega),Bool.and_eq_true] at hm2
 exact hm2.1
theorem aTg {p p' : PartD} {e:EntD} (hf:0≤p.fin∧p.fin≤1048576) (hm:iQ p.prods=true) (h:cG p e=some p'):iQ p'.prods=true:=by
 unfold cG at h
 cases ho:aL e with
 | false=>rw[ho,if_pos rfl] at h;cases h
 | true =>
  rw[ho,if_neg (by simp)] at h
  split at h
  ·unfold kM at h
   split at h
   ·cases h
   rename_i hc
   have hy:(aP p.prods e.b).2.2=0∧(aP p.prods e.b).2.1=false:=by
    refine⟨Decidable.not_not.1 (fun h=>hc (.inl h)),?_⟩
    cases h:(aP p.prods e.b).2.1 with
    | false=>rfl
    | true=>exact absurd (.inr h) hc
   have n1:=rY ((mP p.prods e.b (-1) (by omega)).2 hy)
   have n2:=rY ((mP p.prods e.b p.fin (by omega)).2 hy)
   split at h
   ·split at h
    ·cases h
    ·cases h;exact n1
   ·split at h
    ·split at h
     ·cases h
     ·cases h;exact n2
    ·cases h;exact n1
  split at h
  ·unfold aB2 at h
   split at h
   ·rename_i o _ _
    obtain⟨L,hL⟩:∃ L,L=(if e.yes=true then o.bats else []):=⟨_,rfl⟩
    rw[← hL] at h
    split at h
    ·cases h
    split at h
    ·cases h
    ·cases h;exact aEb _ hm
   ·cases h
  split at h
  ·split at h
   ·cases h
   ·cases h;exact hm
  split at h
  ·cases h
  split at h
  ·cases h
  split at h
  ·split at h
   ·cases h
   ·cases h;exact hm
  ·split at h
   ·cases h
   ·cases h
    simp only[aL,Bool.and_eq_true,decide_eq_true_eq] at ho
    exact pX hm (aL6 (by simp[aL];exact⟨⟨by omega,by omega⟩,ho.2⟩) (by omega))
structure FOkM (k:Nat) (p:PartD):Prop extends FOk k p where
 may:iQ p.prods=true
theorem aC8 {k:Nat} {p p' : PartD} {e:EntD} (h:FOkM k p) (hm:cG p e=some p'):FOkM (k+1) p':=⟨aGx h.toFOk hm,aTg h.fin h.may hm⟩
theorem aIp:∀ (l:List EntD) (k:Nat) (p p' : PartD),FOkM k p→mX p l=some p'→FOkM (k+l.length) p'
 | [],k,p,p',h,hm=>by cases hm;exact h
 | e::l,k,p,p',h,hm=>by
  unfold mX at hm
  split at hm
  ·rename_i q hq
   have:=aIp l (k+1) q p' (aC8 h hq) hm
   rw[List.length_cons,show k+(l.length+1)=k+1+l.length by omega]
   exact this
  ·cases hm
end Go.Proofs.YtpklhnpchhaccaaGreatDoor
