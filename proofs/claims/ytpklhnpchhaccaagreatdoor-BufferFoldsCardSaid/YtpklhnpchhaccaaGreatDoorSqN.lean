/- The abstract machine (SqE, SqF0, SqF2, SqL, SqI). -/
import Derived.Test.YtpklhnpchhaccaaGreatDoorSqM
import Derived.Test.YtpklhnpchhaccaaGreatDoorCpM0
import Derived.Test.YtpklhnpchhaccaaGreatDoorErN
namespace Go.Proofs.YtpklhnpchhaccaaGreatDoor
open Go Go.RowKit
set_option maxHeartbeats 4000000
set_option maxRecDepth 100000
set_option linter.unusedVariables false
set_option linter.unusedSimpArgs false
def hU (b:BatD) (s:SeenD):Bool:=s.seq == b.seq && s.count == (b.recs.length:Int)
theorem aEp (s:SeenD) (b:BatD):aW Tryz.prog 308 [.agg s.dv,.ptr b.dv 0] (dM (hU b s)):=by
 (refine aW.of_body Tryz.func308 rfl rfl Tryz.ntmps308 Tryz.results308 (by simp) ?_)
 (refine gO (@SeenD.dv.eq_1) ?_)
 (first|refine Wp.sto 3 (vb (hU b s)) ?_ ?_|refine Wp.rtoS 3 (vb (hU b s)) ?_ ?_|(refine Wp.seq ?_;first|refine Wp.sto 3 (vb (hU b s)) ?_ ?_|refine Wp.rtoS 3 (vb (hU b s)) ?_ ?_))
 ·unfold hU;((rcases Bool.eq_false_or_eq_true (s.seq == b.seq) with hL1|hL1)<;>(rcases Bool.eq_false_or_eq_true (s.count == (b.recs.length:Int)) with hL2|hL2)<;>(((refine rO (ai hL1 (ai hL2 (ai @SeenD.dv.eq_1 (@BatD.dv.eq_1)))) ?_;try with_reducible exact tt);(repeat (refine dB (by assumption) ?_;(refine rO (ai hL1 (ai hL2 (ai @SeenD.dv.eq_1 (@BatD.dv.eq_1)))) ?_))));all_goals (exact (show bE _ _=true by kernel_rfl))))
 (refine bP ?_)
 (refine aT ?_;try with_reducible exact tt)
theorem aAk (l:List SeenD) (f:Nat) (caps:List D) (pr:SeenD→Bool) (hl:l.length≤100000) (hf:∀ x ∈ l,aW Tryz.prog f (.agg x.dv::caps) (dM (pr x))) :
  aW Tryz.prog 309 [.lst 3 (l.map SeenD.dv),.fn (.func f) caps] (.tup [int (l.findIdx pr:Nat),dM (l.any pr)]):=by
 (refine aW.of_body Tryz.func309 rfl rfl Tryz.ntmps309 Tryz.results309 (by simp) ?_)
 (refine bP ?_)
 refine Wp.loop (fun k:Nat=>⟨iH [(0,.c (.d (.lst 3 (l.map SeenD.dv)))),(1,.c (.d (.fn (.func f) caps))),(8,.c (.d (.lst 3 (l.map SeenD.dv)))),(9,vi .i64 l.length),(10,vi .i64 k)],bI [],0,22,0⟩) (fun k=>k≤l.length∧(l.take k).any pr=false) (fun k=>l.length - k) 0 ⟨Nat.zero_le _,rfl⟩ ?_ ?_
 ·refine aD.keep rfl rfl ?_
  (refine aT ?_;try with_reducible exact tt)
 rintro k ⟨hk,hall⟩
 (refine bP ?_)
 refine Wp.cond (by (refine aT ?_);rfl) (fun h=>?_) (fun h=>?_)
 ·have hlt:k<l.length:=by simpa using h
  have c1:=hf l[k] (List.getElem_mem hlt)
  have hs:=gV pr l k hlt
  have hix:pr l[k]=true→l.findIdx pr=k:=fun hp=>by
   rw[List.findIdx_eq hlt]
   refine⟨hp,fun j hj=>?_⟩
   have:=List.any_eq_false.1 hall (l[j]) (by rw[List.mem_take_iff_getElem];exact⟨j,by omega,rfl⟩)
   simpa using this
  have han:pr l[k]=true→l.any pr=true:=fun hp=>List.any_eq_true.2 ⟨l[k],List.getElem_mem hlt,hp⟩
  have hge:l[k]? = some l[k]:=List.getElem?_eq_getElem hlt
  generalize l[k]=p at *
  simp only[SeenD.dv] at c1
  (refine gO (ai hge (@SeenD.dv.eq_1)) ?_)
  refine Wp.cond (by (refine aT ?_);rfl) (fun h=>?_) (fun h=>?_)
  ·have h1:=hix h
   have h2:=han h
   (refine bP ?_)
   (refine rO (ai h1 (h2)) ?_;try with_reducible exact tt)
  ·(refine bP ?_)
   refine⟨k+1,⟨by omega,by rw[hs,hall,h];rfl⟩,by omega,aD.keep rfl rfl ?_⟩
   (refine aT ?_;try with_reducible exact tt)
 ·have hall:l.any pr=false:=by
   rw[List.take_of_length_le (by simp only[decide_eq_false_iff_not] at h;omega)] at hall;exact hall
  have hix:l.findIdx pr=l.length:=List.findIdx_eq_length.2 (fun x hx=>by have:=List.any_eq_false.1 hall x hx;simpa using this)
  (refine bP ?_)
  (refine rO (ai hall (hix)) ?_;try with_reducible exact tt)
def uY (l:List ProdD) (b:BatD):ProdD:=if !(bB l b.pid).2 || decide ((bB l b.pid).1.epoch<b.epoch) then pzD else (bB l b.pid).1
def sY (b:BatD) (p:ProdD):Int × Bool × Int:=match p.seen.find? (hU b) with
 | some s=>(s.base,true,0)
 | none=>if b.seq != p.next then (0,false,101) else (-1,false,0)
def mY (l:List ProdD) (b:BatD):Int × Bool × Int:=if (bB l b.pid).2 && decide (b.epoch<(bB l b.pid).1.epoch) then (0,false,100) else sY b (uY l b)
def aAh (b:BatD) (e:Int):D:=if e=0 then .val .nilIface else aIg (int b.pid) e
theorem mM {l:List ProdD} {pid:Int} {p:ProdD} (h:bB l pid=(p,true)):p ∈ l:=by
 unfold bB at h
 cases hq:l.find? (fun p=>p.pid == pid) with
 | none=>rw[hq] at h;cases h
 | some q=>rw[hq] at h;cases h;exact List.mem_of_find?_eq_some hq
theorem mW {l:List ProdD} {pid:Int} {p:ProdD} (h:bB l pid=(p,false)):p=pzD:=by
 unfold bB at h
 cases hq:l.find? (fun p=>p.pid == pid) with
 | none=>rw[hq] at h;cases h;rfl
 | some q=>rw[hq] at h;cases h
theorem aP8 (l:List ProdD) (b:BatD) (hs:SmallL l) (hb:b.recs.length≤100000):aW Tryz.prog 291 [.lst 4 (l.map ProdD.dv),.agg b.dv] (.tup [int (mY l b).1,dM (mY l b).2.1,aAh b (mY l b).2.2]):=by
 have c1:=aAj l b.pid hs
 have hmem:=fun p=>mM (l:=l) (pid:=b.pid) (p:=p)
 have hnone:=fun p=>mW (l:=l) (pid:=b.pid) (p:=p)
 unfold mY uY
 generalize bB l b.pid=fr at *
 obtain⟨p,kn⟩:=fr
 simp only at hmem hnone c1 ⊢
 have c2:=(aAk [] 308 [.ptr b.dv 0] (hU b) (by simp) (fun x hx=>aEp x b)).args (.cons (.nil 3) (.refl [.fn (.func 308) [.ptr b.dv 0]]))
 simp only[ProdD.dv] at c1
 (refine aW.of_body Tryz.func291 rfl rfl Tryz.ntmps291 Tryz.results291 (by simp) ?_)
 have zero:∀ (hz:sY b pzD=if b.seq != 0 then (0,false,101) else (-1,false,0)),True:=fun _=>trivial
 have hz:sY b pzD=if b.seq != 0 then (0,false,101) else (-1,false,0):=rfl
 cases kn with
 | false =>
  simp only[Bool.false_and,Bool.false_eq_true,if_false,Bool.not_false,Bool.true_or,if_true,hz]
  simp only[BatD.dv,List.findIdx_nil,List.any_nil] at c2
  (refine gO (ai @BatD.dv.eq_1 (@ProdD.dv.eq_1)) ?_)
  (refine Wp.weak (aD.freeze (id:=0) (by (refine aT ?_);rfl) (by (refine aT ?_);rfl)) ?_)
  cases q5:(b.seq != 0) with
  | true =>
   (refine gO (ai @BatD.dv.eq_1 (ai @ProdD.dv.eq_1 (ai q5 (@Int.cast_ofNat_Int)))) ?_)
   (refine rO (@aAh.eq_1) ?_;try with_reducible exact tt)
  | false =>
   (refine gO (ai @BatD.dv.eq_1 (ai @ProdD.dv.eq_1 (ai q5 (@Int.cast_ofNat_Int)))) ?_)
   (refine rO (@aAh.eq_1) ?_;try with_reducible exact tt)
 | true =>
  have hm:=hmem p rfl
  have hps:=hs.seen p hm
  cases q1:decide (b.epoch<p.epoch) with
  | true =>
   simp only[Bool.and_self,if_true]
   (refine gO (ai @BatD.dv.eq_1 (ai @ProdD.dv.eq_1 (q1))) ?_)
   (refine rO (@aAh.eq_1) ?_;try with_reducible exact tt)
  | false =>
  simp only[Bool.and_false,Bool.false_eq_true,if_false,Bool.not_true,Bool.false_or]
  cases q2:decide (p.epoch<b.epoch) with
  | true =>
   simp only[if_true,hz]
   simp only[BatD.dv,List.findIdx_nil,List.any_nil] at c2
   (refine gO (ai @BatD.dv.eq_1 (ai @ProdD.dv.eq_1 (ai q1 (q2)))) ?_)
   (refine Wp.weak (aD.freeze (id:=0) (by (refine aT ?_);rfl) (by (refine aT ?_);rfl)) ?_)
   cases q5:(b.seq != 0) with
   | true =>
    (refine gO (ai @BatD.dv.eq_1 (ai @ProdD.dv.eq_1 (ai q5 (@Int.cast_ofNat_Int)))) ?_)
    (refine rO (@aAh.eq_1) ?_;try with_reducible exact tt)
   | false =>
    (refine gO (ai @BatD.dv.eq_1 (ai @ProdD.dv.eq_1 (ai q5 (@Int.cast_ofNat_Int)))) ?_)
    (refine rO (@aAh.eq_1) ?_;try with_reducible exact tt)
  | false =>
   simp only[Bool.false_eq_true,if_false]
   have c3:=aAk p.seen 308 [.ptr b.dv 0] (hU b) hps (fun x hx=>aEp x b)
   cases ha:p.seen.any (hU b) with
   | false =>
    have hn:p.seen.find? (hU b)=none:=List.find?_eq_none.2 (fun x hx=>by simpa using List.any_eq_false.1 ha x hx)
    have hd:sY b p=if b.seq != p.next then (0,false,101) else (-1,false,0):=by simp only[sY,hn]
    rw[hd]
    rw[ha] at c3
    simp only[BatD.dv] at c3
    (refine gO (ai @BatD.dv.eq_1 (ai @ProdD.dv.eq_1 (ai q1 (q2)))) ?_)
    (refine Wp.weak (aD.freeze (id:=0) (by (refine aT ?_);rfl) (by (refine aT ?_);rfl)) ?_)
    cases q5:(b.seq != p.next) with
    | true =>
     (refine gO (ai @BatD.dv.eq_1 (ai @ProdD.dv.eq_1 (q5))) ?_)
     (refine rO (@aAh.eq_1) ?_;try with_reducible exact tt)
    | false =>
     (refine gO (ai @BatD.dv.eq_1 (ai @ProdD.dv.eq_1 (q5))) ?_)
     (refine rO (@aAh.eq_1) ?_;try with_reducible exact tt)
   | true =>
    have hfi:=pT _ p.seen ha
    obtain⟨x,hx,hpx⟩:=List.any_eq_true.1 ha
    cases hq:p.seen.find? (hU b) with
    | none=>have:=List.find?_eq_none.1 hq x hx;exact absurd hpx this
    | some s =>
     have hd:sY b p=(s.base,true,0):=by simp only[sY,hq]
     rw[hd]
     rw[hq] at hfi
     rw[ha] at c3
     simp only[BatD.dv] at c3
     generalize p.seen.findIdx (hU b)=k at *
     (refine gO (ai @BatD.dv.eq_1 (ai @ProdD.dv.eq_1 (ai q1 (q2)))) ?_)
     (refine Wp.weak (aD.freeze (id:=0) (by (refine aT ?_);rfl) (by (refine aT ?_);rfl)) ?_)
     (refine gO (ai @BatD.dv.eq_1 (ai @ProdD.dv.eq_1 (ai hfi (@SeenD.dv.eq_1)))) ?_)
     (refine rO (@aAh.eq_1) ?_;try with_reducible exact tt)
def aP (l:List ProdD) (b:BatD):Int × Bool × Int:=if !iQ l || !dQ b then (0,false,2) else mY l b
theorem nP (l:List ProdD) (b:BatD) (hs:SmallL l) (hb:b.recs.length≤100000):aW Tryz.prog 253 [.lst 4 (l.map ProdD.dv),.agg b.dv] (.tup [int (aP l b).1,dM (aP l b).2.1,int (aP l b).2.2]):=by
 have c1:=aVf l hs
 have c2:=tX b hb
 have c3:=aP8 l b hs hb
 have c4:=aCx
 have c5:=fun n=>aCw (int b.pid) n
 unfold aP
 (refine aW.of_body Tryz.func253 rfl rfl Tryz.ntmps253 Tryz.results253 (by simp) ?_)
 cases q1:iQ l with
 | false =>
  rw[q1] at c1
  simp only[Bool.not_false,Bool.true_or,if_true]
  (refine gO (@BatD.dv.eq_1) ?_)
  (refine aT ?_;try with_reducible exact tt)
 | true =>
 rw[q1] at c1
 cases q2:dQ b with
 | false =>
  rw[q2] at c2
  simp only[Bool.not_true,Bool.not_false,Bool.false_or,if_true]
  simp only[BatD.dv] at c2
  (refine gO (@BatD.dv.eq_1) ?_)
  (refine aT ?_;try with_reducible exact tt)
 | true =>
 rw[q2] at c2
 simp only[Bool.not_true,Bool.false_or,Bool.false_eq_true,if_false]
 generalize mY l b=j at *
 obtain⟨x,y,e⟩:=j
 simp only[BatD.dv] at c2 c3 ⊢
 by_cases he:e=0
 ·subst he
  simp only[aAh,if_true] at c3
  (refine gO (@BatD.dv.eq_1) ?_)
  (refine aT ?_;try with_reducible exact tt)
 ·simp only[aAh,he,if_false] at c3
  have c6:=c5 e
  (refine gO (@BatD.dv.eq_1) ?_)
  (refine aT ?_;try with_reducible exact tt)
def nK (l:List ProdD) (b:BatD):List SeenD:=if (bB l b.pid).1.epoch != b.epoch then [] else (bB l b.pid).1.seen
def kD (l:List ProdD) (b:BatD) (base:Int):List SeenD:=(nK l b++[(⟨b.seq,(b.recs.length:Int),base⟩:SeenD)]).drop ((nK l b).length - 2)
def aG (l:List ProdD) (b:BatD) (base:Int):List ProdD × Int :=
 if decide (base < -1) || decide (1048576<base) then ([],2) else
 if (aP l b).2.2≠0 then ([],(aP l b).2.2) else if (aP l b).2.1 then ([],101) else
 (dV l ⟨b.pid,b.epoch,eB b,kD l b base⟩,0)
theorem mS {l:List ProdD} {b:BatD} (h:(aP l b).2.2=0):iQ l=true∧dQ b=true:=by
 unfold aP at h
 cases q1:iQ l<;>cases q2:dQ b<;>simp[q1,q2] at h ⊢
theorem xB {l:List ProdD} (h:iQ l=true):∀ p ∈ l,bC p=true:=by
 intro p hp
 obtain⟨k,hk,rfl⟩:=List.getElem_of_mem hp
 have:=(rK l).1 h k l[k] (List.getElem?_eq_getElem hk)
 simp only[Bool.or_eq_false_iff,Bool.not_eq_false'] at this
 exact this.2
theorem aL7 {p:ProdD} (h:bC p=true):p.seen.length≤3:=by
 simp only[bC,cW,Bool.and_eq_true,Bool.not_eq_true',Bool.or_eq_false_iff,decide_eq_false_iff_not] at h
 omega
theorem wQ {l:List ProdD} (h:iQ l=true) (pid:Int):(bB l pid).1.seen.length≤3:=by
 cases hq:bB l pid with
 | mk p kn=>cases kn with
  | true=>exact aL7 (xB h p (mM hq))
  | false=>rw[mW hq];simp
theorem uH (l:List ProdD) (b:BatD) (base:Int) (hs:SmallL l) (hb:b.recs.length≤100000):aW Tryz.prog 213 [.lst 4 (l.map ProdD.dv),.agg b.dv,int base] (.tup [.lst 4 ((aG l b base).1.map ProdD.dv),int (aG l b base).2]):=by
 have c1:=nP l b hs hb
 have c2:=aAj l b.pid hs
 have c3:=aMr b
 have hmay:=fun h=>mS (l:=l) (b:=b) h
 have hfs:=fun h=>wQ (l:=l) h b.pid
 have hT1:aG l b base=if decide (base < -1) || decide (1048576<base) then ([],2) else
  if (aP l b).2.2≠0 then ([],(aP l b).2.2) else if (aP l b).2.1 then ([],101) else
  (dV l ⟨b.pid,b.epoch,eB b,kD l b base⟩,0):=rfl
 rw[hT1]
 clear hT1
 simp only[BatD.dv] at c1 c3
 (refine aW.of_bodyW Tryz.func213 rfl rfl Tryz.ntmps213 Tryz.results213 (by simp) ?_)
 cases q0:(decide (base < -1) || decide (1048576<base)) with
 | true =>
  simp only[if_true]
  (refine gO (@BatD.dv.eq_1) ?_)
  (first|refine Wp.sto 21 (vb (decide (base < -1) || decide (1048576<base))) ?_ ?_|refine Wp.rtoS 21 (vb (decide (base < -1) || decide (1048576<base))) ?_ ?_|(refine Wp.seq ?_;first|refine Wp.sto 21 (vb (decide (base < -1) || decide (1048576<base))) ?_ ?_|refine Wp.rtoS 21 (vb (decide (base < -1) || decide (1048576<base))) ?_ ?_))
  ·((rcases Bool.eq_false_or_eq_true (decide (base < -1)) with hL1|hL1)<;>(rcases Bool.eq_false_or_eq_true (decide (1048576<base)) with hL2|hL2)<;>(((refine rO (ai hL1 (ai hL2 (@BatD.dv.eq_1))) ?_;try with_reducible exact tt);(repeat (refine dB (by assumption) ?_;(refine rO (ai hL1 (ai hL2 (@BatD.dv.eq_1))) ?_))));all_goals (exact (show bE _ _=true by kernel_rfl))))
  (refine gO (q0) ?_)
  (refine rO (@List.map_nil.{0,0}) ?_)
  exact⟨_,rfl,lU.tup (.cons (.nil 4) (.cons (.refl _) .nil))⟩
 | false =>
 simp only[Bool.false_eq_true,if_false]
 (refine gO (@BatD.dv.eq_1) ?_)
 (first|refine Wp.sto 21 (vb (decide (base < -1) || decide (1048576<base))) ?_ ?_|refine Wp.rtoS 21 (vb (decide (base < -1) || decide (1048576<base))) ?_ ?_|(refine Wp.seq ?_;first|refine Wp.sto 21 (vb (decide (base < -1) || decide (1048576<base))) ?_ ?_|refine Wp.rtoS 21 (vb (decide (base < -1) || decide (1048576<base))) ?_ ?_))
 ·((rcases Bool.eq_false_or_eq_true (decide (base < -1)) with hL1|hL1)<;>(rcases Bool.eq_false_or_eq_true (decide (1048576<base)) with hL2|hL2)<;>(((refine rO (ai hL1 (ai hL2 (@BatD.dv.eq_1))) ?_;try with_reducible exact tt);(repeat (refine dB (by assumption) ?_;(refine rO (ai hL1 (ai hL2 (@BatD.dv.eq_1))) ?_))));all_goals (exact (show bE _ _=true by kernel_rfl))))
 generalize aP l b=cf at *
 obtain⟨x,y,e⟩:=cf
 simp only at c1 hmay ⊢
 by_cases he:e=0
 ·subst he
  have hm:=(hmay rfl).1
  have hfl:=hfs hm
  rw[if_neg (by simp)]
  cases y with
  | true =>
   rw[if_pos rfl]
   (refine gO (ai q0 (ai @BatD.dv.eq_1 (@bne_self_eq_false.{0}))) ?_)
   (refine rO (@List.map_nil.{0,0}) ?_)
   exact⟨_,rfl,lU.tup (.cons (.nil 4) (.cons (.refl _) .nil))⟩
  | false =>
   rw[if_neg (by simp)]
   have hns:kD l b base=kD l b base:=rfl
   have c4:=fun q (hq:q.seen.length≤100000)=>aGs l q hs hq
   unfold kD nK
   generalize bB l b.pid=fr at *
   obtain⟨p,kn⟩:=fr
   simp only[ProdD.dv] at c2 hfl ⊢
   cases q6:(p.epoch != b.epoch) with
   | true =>
    simp only[if_true,List.nil_append,List.length_nil,Nat.zero_sub,List.drop_zero]
    have c5:=c4 ⟨b.pid,b.epoch,eB b,[(⟨b.seq,(b.recs.length:Int),base⟩:SeenD)]⟩ (by simp)
    simp only[ProdD.dv,List.map_cons,List.map_nil,SeenD.dv] at c5
    (refine gO (ai q0 (ai @BatD.dv.eq_1 (ai @bne_self_eq_false.{0} (ai @ProdD.dv.eq_1 (ai q6 (ai @Int.cast_ofNat_Int (ai @gt_iff_lt.{0} (ai @List.nil_append.{0} (ai @List.drop_zero.{0} (ai @List.take_succ_cons.{0} (@List.take_zero.{0}))))))))))) ?_)
    (refine aT ?_)
    exact⟨_,rfl,fun K v h=>h⟩
   | false =>
    simp only[Bool.false_eq_true,if_false]
    obtain⟨pp,pe,pn,sn⟩:=p
    (try simp only at hfl);(try simp only at q6);(try simp only at c2);(try simp only)
    match sn,hfl with
    | [],_ =>
     have c5:=c4 ⟨b.pid,b.epoch,eB b,[(⟨b.seq,(b.recs.length:Int),base⟩:SeenD)]⟩ (by simp)
     simp only[ProdD.dv,List.map_cons,List.map_nil,SeenD.dv] at c5 c2
     (refine gO (ai q0 (ai @BatD.dv.eq_1 (ai @bne_self_eq_false.{0} (ai @ProdD.dv.eq_1 (ai q6 (ai @Int.cast_ofNat_Int (ai @gt_iff_lt.{0} (ai @List.nil_append.{0} (ai @List.cons_append.{0} (ai @List.drop_zero.{0} (ai @List.drop_succ_cons.{0} (ai @List.take_succ_cons.{0} (ai @List.take_zero.{0} (ai @List.length_cons.{0} (@List.length_nil.{0}))))))))))))))) ?_)
     (refine aT ?_)
     exact⟨_,rfl,fun K v h=>h⟩
    | [s1],_ =>
     have c5:=c4 ⟨b.pid,b.epoch,eB b,[s1,(⟨b.seq,(b.recs.length:Int),base⟩:SeenD)]⟩ (by simp)
     simp only[ProdD.dv,List.map_cons,List.map_nil,SeenD.dv] at c5 c2
     (refine gO (ai q0 (ai @BatD.dv.eq_1 (ai @bne_self_eq_false.{0} (ai @ProdD.dv.eq_1 (ai q6 (ai @Int.cast_ofNat_Int (ai @gt_iff_lt.{0} (ai @List.nil_append.{0} (ai @List.cons_append.{0} (ai @List.drop_zero.{0} (ai @List.drop_succ_cons.{0} (ai @List.take_succ_cons.{0} (ai @List.take_zero.{0} (ai @List.length_cons.{0} (@List.length_nil.{0}))))))))))))))) ?_)
     (refine aT ?_)
     exact⟨_,rfl,fun K v h=>h⟩
    | [s1,s2],_ =>
     have c5:=c4 ⟨b.pid,b.epoch,eB b,[s1,s2,(⟨b.seq,(b.recs.length:Int),base⟩:SeenD)]⟩ (by simp)
     simp only[ProdD.dv,List.map_cons,List.map_nil,SeenD.dv] at c5 c2
     (refine gO (ai q0 (ai @BatD.dv.eq_1 (ai @bne_self_eq_false.{0} (ai @ProdD.dv.eq_1 (ai q6 (ai @Int.cast_ofNat_Int (ai @gt_iff_lt.{0} (ai @List.nil_append.{0} (ai @List.cons_append.{0} (ai @List.drop_zero.{0} (ai @List.drop_succ_cons.{0} (ai @List.take_succ_cons.{0} (ai @List.take_zero.{0} (ai @List.length_cons.{0} (@List.length_nil.{0}))))))))))))))) ?_)
     (refine aT ?_)
     exact⟨_,rfl,fun K v h=>h⟩
    | [s1,s2,s3],_ =>
     have c5:=c4 ⟨b.pid,b.epoch,eB b,[s2,s3,(⟨b.seq,(b.recs.length:Int),base⟩:SeenD)]⟩ (by simp)
     simp only[ProdD.dv,List.map_cons,List.map_nil,SeenD.dv] at c5 c2
     (refine gO (ai q0 (ai @BatD.dv.eq_1 (ai @bne_self_eq_false.{0} (ai @ProdD.dv.eq_1 (ai q6 (ai @Int.cast_ofNat_Int (ai @gt_iff_lt.{0} (ai @List.nil_append.{0} (ai @List.cons_append.{0} (ai @List.drop_zero.{0} (ai @List.drop_succ_cons.{0} (ai @List.take_succ_cons.{0} (ai @List.take_zero.{0} (ai @List.length_cons.{0} (@List.length_nil.{0}))))))))))))))) ?_)
     (refine aT ?_)
     exact⟨_,rfl,fun K v h=>h⟩
 ·rw[if_pos he]
  have hne:(e != 0)=true:=by simpa using he
  (refine gO (ai q0 (ai @BatD.dv.eq_1 (hne))) ?_)
  (refine rO (@List.map_nil.{0,0}) ?_)
  exact⟨_,rfl,lU.tup (.cons (.nil 4) (.cons (.refl _) .nil))⟩
def eP (l:List ProdD) (pid:Int):List ProdD:=match l[l.findIdx (fun x=>x.pid == pid)]? with
 | some p=>l.take (l.findIdx (fun x=>x.pid == pid))++[(⟨p.pid,p.epoch,p.next,[]⟩:ProdD)]++l.drop (l.findIdx (fun x=>x.pid == pid)+1)
 | none=>l
theorem aFr (p:ProdD) (pid:Int):aW Tryz.prog 246 [.agg p.dv,.ptr [int pid] 0] (dM (p.pid == pid)):=by
 (refine aW.of_body Tryz.func246 rfl rfl Tryz.ntmps246 Tryz.results246 (by simp) ?_)
 (refine gO (@ProdD.dv.eq_1) ?_)
 (refine aT ?_;try with_reducible exact tt)
theorem aOn (l:List ProdD) (pid:Int) (hs:SmallL l):aW Tryz.prog 209 [.lst 4 (l.map ProdD.dv),int pid] (.lst 4 ((eP l pid).map ProdD.dv)):=by
 have hl:=hs.len
 have c1:=wR l 246 [.ptr [int pid] 0] (fun p=>p.pid == pid) hl (fun x _=>aFr x pid)
 have hany:l.any (fun p=>p.pid == pid)=decide (l.findIdx (fun p=>p.pid == pid)<l.length):=by
  rw[Bool.eq_iff_iff,decide_eq_true_eq,List.findIdx_lt_length,List.any_eq_true]
 have hC:eP l pid=match l[l.findIdx (fun x=>x.pid == pid)]? with
  | some p=>l.take (l.findIdx (fun x=>x.pid == pid))++[(⟨p.pid,p.epoch,p.next,[]⟩:ProdD)]++l.drop (l.findIdx (fun x=>x.pid == pid)+1)
  | none=>l:=rfl
 rw[hany] at c1
 rw[hC]
 clear hC hany
 generalize l.findIdx (fun p=>p.pid == pid)=k at *
 (refine aW.of_body Tryz.func209 rfl rfl Tryz.ntmps209 Tryz.results209 (by simp) ?_)
 (refine bP ?_)
 (refine Wp.weak (aD.freeze (id:=0) (by (refine aT ?_);rfl) (by (refine aT ?_);rfl)) ?_)
 rcases Nat.lt_or_ge k l.length with hk|hk
 ·have hd:decide (k<l.length)=true:=decide_eq_true hk
  have hge:l[k]? = some l[k]:=List.getElem?_eq_getElem hk
  rw[hd] at c1
  rw[hge]
  simp only
  generalize l[k]=p at *
  have c2:=(aGi l k (k+1) ⟨p.pid,p.epoch,p.next,[]⟩ hs (by simp) (by omega) hk).args (.cons (.refl _) (.cons (.refl _) (.cons (.refl _) (.cons (lU.agg (.cons (.refl (int p.pid)) (.cons (.refl (int p.epoch)) (.cons (.refl (int p.next)) (.cons (.nil 3) .nil))))) .nil))))
  simp only[Int.natCast_add,Int.natCast_one] at c2
  (refine gO (ai @ProdD.dv.eq_1 (hge)) ?_)
  (refine aT ?_;try with_reducible exact tt)
 ·have hd:decide (k<l.length)=false:=decide_eq_false (by omega)
  have hge:l[k]? = none:=List.getElem?_eq_none hk
  rw[hd] at c1
  rw[hge]
  (refine gO (@ProdD.dv.eq_1) ?_)
  (refine aT ?_;try with_reducible exact tt)
def jI (p:ProdD):List ProdD→List ProdD
 | []=>[p]
 | x::l=>if p.pid≤x.pid then (if x.pid=p.pid then p::l else p::x::l) else x::jI p l
theorem gW (p:ProdD):∀ l:List ProdD,dV l p=jI p l
 | []=>by simp[dV,cF,gB,jI]
 | x::l=>by
  have ih:=gW p l
  by_cases h:p.pid≤x.pid
  ·have hp:cF (x::l) p.pid=0:=by simp[cF,List.findIdx_cons,h]
   have ht:gB (x::l) p.pid=(x.pid == p.pid):=by simp[gB,hp]
   simp only[dV,hp,ht,jI,h,if_true]
   by_cases he:x.pid=p.pid
   ·simp[he]
   ·have:(x.pid == p.pid)=false:=by simpa using he
    simp[this,he]
  ·have hp:cF (x::l) p.pid=cF l p.pid+1:=by simp[cF,List.findIdx_cons,h]
   have ht:gB (x::l) p.pid=gB l p.pid:=by simp[gB,hp]
   simp only[jI,h,if_false,← ih]
   simp only[dV,hp,ht]
   cases gB l p.pid<;>simp
theorem aIv (p q:ProdD) (hne:p.pid≠q.pid):∀ l:List ProdD,jI p (jI q l)=jI q (jI p l)
 | []=>by
  simp only[jI]
  by_cases h:p.pid≤q.pid
  ·have h2:¬ q.pid≤p.pid:=by omega
   have h3:¬ q.pid=p.pid:=fun e=>hne e.symm
   simp only[h,if_true,h2,if_false,h3,jI]
  ·have h2:q.pid≤p.pid:=by omega
   simp only[h,if_false,h2,if_true,hne,jI]
 | x::l=>by
  have ih:=aIv p q hne l
  have hne2:¬ q.pid=p.pid:=fun e=>hne e.symm
  by_cases h1:p.pid≤x.pid<;>by_cases h2:q.pid≤x.pid
  ·by_cases e1:x.pid=p.pid<;>by_cases e2:x.pid=q.pid
   ·omega
   ·have a1:¬ p.pid≤q.pid:=by omega
    have a2:q.pid≤p.pid:=by omega
    simp only[jI,h1,h2,e1,e2,a1,a2,if_true,if_false,hne,hne2,Int.le_refl]
   ·have a1:¬ q.pid≤p.pid:=by omega
    have a2:p.pid≤q.pid:=by omega
    simp only[jI,h1,h2,e1,e2,a1,a2,if_true,if_false,hne,hne2,Int.le_refl]
   ·by_cases a1:p.pid≤q.pid
    ·have a2:¬ q.pid≤p.pid:=by omega
     simp[jI,h1,h2,e1,e2,a1,a2,hne,hne2]
    ·have a2:q.pid≤p.pid:=by omega
     simp[jI,h1,h2,e1,e2,a1,a2,hne,hne2]
  ·have a1:p.pid≤q.pid:=by omega
   have a2:¬ q.pid≤p.pid:=by omega
   by_cases e1:x.pid=p.pid
   ·simp[jI,h1,h2,e1,a1,a2,hne,hne2]
   ·simp[jI,h1,h2,e1,a1,a2,hne,hne2]
  ·have a1:q.pid≤p.pid:=by omega
   have a2:¬ p.pid≤q.pid:=by omega
   by_cases e1:x.pid=q.pid
   ·simp[jI,h1,h2,e1,a1,a2,hne,hne2]
   ·simp[jI,h1,h2,e1,a1,a2,hne,hne2]
  ·simp only[jI,h1,h2,if_false,ih]
theorem aIl (p:ProdD) (pid:Int) (hne:p.pid≠pid):∀ l:List ProdD,(jI p l).find? (fun x=>x.pid == pid)=l.find? (fun x=>x.pid == pid)
 | []=>by
  have:(p.pid == pid)=false:=by simpa using hne
  simp[jI,this]
 | x::l=>by
  have hp:(p.pid == pid)=false:=by simpa using hne
  rw[jI]
  split
  ·split
   ·rename_i he
    have hx:(x.pid == pid)=false:=by rw[he];exact hp
    simp[List.find?_cons,hp,hx]
   ·simp[List.find?_cons,hp]
  ·simp only[List.find?_cons,aIl p pid hne l]
theorem oO (l:List ProdD) (p:ProdD) (pid:Int) (hne:p.pid≠pid):bB (dV l p) pid=bB l pid:=by
 unfold bB;rw[gW,aIl p pid hne]
theorem aJ2 (p:ProdD) (hk:bC p=true):∀ (l:List ProdD) (b:Int),b<p.pid→lI l b=true→lI (jI p l) b=true
 | [],b,hb,_=>by
  have:decide (p.pid≤b)=false:=decide_eq_false (by omega)
  simp[jI,lI,this,hk]
 | x::l,b,hb,h=>by
  rw[lI,Bool.and_eq_true] at h
  have hp:decide (p.pid≤b)=false:=decide_eq_false (by omega)
  rw[jI]
  split
  ·split
   ·rename_i h1 he
    rw[lI,hp,hk]
    rw[he] at h
    simpa using h.2
   ·rename_i h1 he
    have hx:decide (x.pid≤p.pid)=false:=decide_eq_false (by omega)
    have hkx:bC x=true:=by have:=h.1;simp at this;exact this.2
    rw[lI,lI,hp,hk,hx,hkx]
    simpa using h.2
  ·rename_i h1
   rw[lI,Bool.and_eq_true]
   exact⟨h.1,aJ2 p hk l x.pid (by omega) h.2⟩
theorem aPa {p:ProdD} (h:bC p=true):1≤p.pid:=by
 simp only[bC,cW,dN,Bool.and_eq_true,Bool.not_eq_true',Bool.or_eq_false_iff,Bool.not_eq_false',decide_eq_true_eq] at h
 omega
theorem pX {l:List ProdD} {p:ProdD} (h:iQ l=true) (hk:bC p=true):iQ (dV l p)=true:=by
 rw[gW]
 exact aJ2 p hk l 0 (by have:=aPa hk;omega) h
theorem aDr:∀ (l:List SeenD) (b:Int) (n:Nat),jR l b=true→jR (l.take n) b=true
 | [],b,n,_=>by simp[jR]
 | s::l,b,0,_=>by simp[jR]
 | s::l,b,n+1,h=>by
  rw[jR,Bool.and_eq_true] at h
  rw[List.take_succ_cons,jR,h.1,aDr l s.seq n h.2];rfl
theorem uU {l:List ProdD} {b:BatD} (h0:(aP l b).2.2=0) (h1:(aP l b).2.1=false):(nK l b=(uY l b).seen)∧b.seq=(uY l b).next∧iQ l=true∧dQ b=true:=by
 obtain⟨hm,hb⟩:=mS h0
 have hc:aP l b=mY l b:=by simp[aP,hm,hb]
 rw[hc] at h0 h1
 unfold mY at h0 h1
 cases hq:bB l b.pid with
 | mk p kn =>
  rw[hq] at h0 h1
  simp only at h0 h1
  have he:nK l b=(uY l b).seen:=by
   unfold nK uY
   rw[hq]
   cases kn with
   | false=>rw[mW hq];simp
   | true =>
    cases q1:decide (b.epoch<p.epoch) with
    | true=>rw[q1] at h0;simp at h0
    | false =>
     simp only[Bool.not_true,Bool.false_or,decide_eq_true_eq,bne_iff_ne,ne_eq]
     have:=of_decide_eq_false q1
     by_cases h2:p.epoch<b.epoch
     ·rw[if_pos (by omega),if_pos h2]
     ·rw[if_neg (by omega),if_neg h2]
  refine⟨he,?_,hm,hb⟩
  have hd:sY b (uY l b)=(if kn && decide (b.epoch<p.epoch) then (0,false,100) else sY b (uY l b))∨False:=by
   cases q1:(kn && decide (b.epoch<p.epoch)) with
   | true=>rw[q1] at h0;simp at h0
   | false=>left;simp
  rcases hd with hd|hd
  ·rw[← hd] at h0 h1
   unfold sY at h0 h1
   split at h0
   ·rename_i s hs;rw[hs] at h1;simp at h1
   ·rename_i hs
    split at h0
    ·simp at h0
    ·rename_i hn;simpa using hn
  ·exact hd.elim
theorem pF {l:List ProdD} {b:BatD} {base:Int} (h:(aG l b base).2=0):(decide (base < -1) || decide (1048576<base))=false∧(aP l b).2.2=0∧(aP l b).2.1=false∧(aG l b base).1=dV l ⟨b.pid,b.epoch,eB b,kD l b base⟩:=by
 unfold aG at h ⊢
 split at h
 ·simp at h
 ·rename_i h1
  split at h
  ·rename_i h2;exact absurd h h2
  ·rename_i h2
   split at h
   ·simp at h
   ·rename_i h3
    have h1' : (decide (base < -1) || decide (1048576<base))=false:=by simpa using h1
    have h2' : (aP l b).2.2=0:=by simpa using h2
    have h3' : (aP l b).2.1=false:=by simpa using h3
    refine⟨h1',h2',h3',?_⟩
    rw[if_neg h1,if_neg h2,if_neg h3]
theorem sL {l:List ProdD} {b:BatD} {base:Int} (hb0:(decide (base < -1) || decide (1048576<base))=false) (h0:(aP l b).2.2=0) (h1:(aP l b).2.1=false):bC ⟨b.pid,b.epoch,eB b,kD l b base⟩=true:=by
 obtain⟨ho,hsq,hm,hbb⟩:=uU h0 h1
 simp only[Bool.or_eq_false_iff,decide_eq_false_iff_not] at hb0
 simp only[dQ,Bool.and_eq_true,Bool.not_eq_true',Bool.or_eq_false_iff,decide_eq_false_iff_not] at hbb
 obtain⟨⟨⟨⟨⟨p1,p2⟩,p3,p4⟩,p5,p6⟩,p7,p8⟩,_⟩:=hbb
 have hbeh:eB b=b.seq+(b.recs.length:Int):=bA ⟨by omega,by omega⟩
 have hol:(nK l b).length≤3:=by
  have:=wQ hm b.pid
  unfold nK;split
  ·simp
  ·exact this
 have hlen:(kD l b base).length≤3:=by unfold kD;rw[List.length_drop,List.length_append,List.length_singleton];omega
 have hold:jR (nK l b).reverse b.seq=true:=by
  rw[ho,hsq]
  unfold uY
  split
  ·rfl
  ·rename_i hq
   cases hf:bB l b.pid with
   | mk p kn =>
    rw[hf] at hq
    cases kn with
    | false=>simp at hq
    | true =>
     have:=xB hm p (mM hf)
     simp only[bC,Bool.and_eq_true] at this
     exact this.2
 have hx:kB ⟨b.seq,(b.recs.length:Int),base⟩ (eB b)=false:=by
  rw[hbeh]
  simp only[kB,zY,aCt,Bool.or_eq_false_iff,decide_eq_false_iff_not]
  exact⟨⟨⟨⟨by omega,by omega⟩,by omega⟩,by omega⟩,by omega,by omega⟩
 have hch:jR (kD l b base).reverse (eB b)=true:=by
  unfold kD
  rw[List.reverse_drop]
  refine aDr _ _ _ ?_
  rw[List.reverse_append]
  show (!kB ⟨b.seq,(b.recs.length:Int),base⟩ (eB b) && jR (nK l b).reverse b.seq)=true
  rw[hx,hold];rfl
 have hhead:cW ⟨b.pid,b.epoch,eB b,kD l b base⟩=false:=by
  have q1:dN b.pid b.epoch=true:=by simp only[dN,Bool.and_eq_true,decide_eq_true_eq];exact⟨⟨⟨by omega,by omega⟩,by omega⟩,by omega⟩
  have q2:cC (eB b) 0 1048576=true:=by rw[hbeh];simp only[cC,Bool.and_eq_true,decide_eq_true_eq];exact⟨by omega,by omega⟩
  have q3:decide (3<((kD l b base).length:Int))=false:=decide_eq_false (by omega)
  simp only[cW,q1,q2,q3];rfl
 simp only[bC,hhead,hch];rfl
theorem yA {l:List ProdD} {b:BatD} {q:ProdD} (hm:iQ l=true) (hk:bC q=true) (hne:q.pid≠b.pid):aP (dV l q) b=aP l b∧∀ base,kD (dV l q) b base=kD l b base:=by
 have hf:=oO l q b.pid hne
 have hm2:=pX hm hk
 refine⟨?_,fun base=>by unfold kD nK;rw[hf]⟩
 unfold aP mY uY
 rw[hf,hm,hm2]
theorem apart {l:List ProdD} {a b:BatD} (hne:a.pid≠b.pid) (ha:(aG l a 7).2=0) (hb:(aG l b 9).2=0) :
  (aG (aG l a 7).1 b 9).2=0∧aG (aG l b 9).1 a 7=aG (aG l a 7).1 b 9∧iQ (aG (aG l a 7).1 b 9).1=true∧bB (aG l a 7).1 b.pid=bB l b.pid:=by
 obtain⟨a1,a2,a3,a4⟩:=pF ha
 obtain⟨b1,b2,b3,b4⟩:=pF hb
 have hm:=(mS a2).1
 have ka:=sL a1 a2 a3
 have kb:=sL b1 b2 b3
 rw[a4,b4]
 obtain⟨x1,x2⟩:=yA (b:=b) hm ka hne
 obtain⟨y1,y2⟩:=yA (b:=a) hm kb (fun e=>hne e.symm)
 have hx:aG (dV l ⟨a.pid,a.epoch,eB a,kD l a 7⟩) b 9=(dV (dV l ⟨a.pid,a.epoch,eB a,kD l a 7⟩) ⟨b.pid,b.epoch,eB b,kD l b 9⟩,0):=by
  unfold aG
  rw[b1,if_neg (by simp),x1,b2,if_neg (by simp),b3,if_neg (by simp),x2]
 have hy:aG (dV l ⟨b.pid,b.epoch,eB b,kD l b 9⟩) a 7=(dV (dV l ⟨b.pid,b.epoch,eB b,kD l b 9⟩) ⟨a.pid,a.epoch,eB a,kD l a 7⟩,0):=by
  unfold aG
  rw[a1,if_neg (by simp),y1,a2,if_neg (by simp),a3,if_neg (by simp),y2]
 rw[hx,hy]
 refine⟨rfl,?_,pX (pX hm ka) kb,oO _ _ _ hne⟩
 rw[gW,gW,gW,gW,aIv _ _ hne]
end Go.Proofs.YtpklhnpchhaccaaGreatDoor
