/- The abstract machine (SqD, SqF, SqG). -/
import Derived.Test.YtpklhnpchhaccaaGreatDoorSqM
import Derived.Test.YtpklhnpchhaccaaGreatDoorSqN
import Derived.Test.YtpklhnpchhaccaaGreatDoorCpMc
namespace Go.Proofs.YtpklhnpchhaccaaGreatDoor
open Go Go.RowKit
set_option maxHeartbeats 4000000
set_option maxRecDepth 100000
set_option linter.unusedVariables false
set_option linter.unusedSimpArgs false
theorem aJg (l:List ProdD) (pid:Int) (hl:l.length≤100000):aW Tryz.prog 215 [.lst 4 (l.map ProdD.dv),int pid] (.tup [int (cF l pid:Nat),dM (gB l pid)]):=by
 (refine aW.of_body Tryz.func215 rfl rfl Tryz.ntmps215 Tryz.results215 (by simp) ?_)
 (refine bP ?_)
 refine Wp.loop (fun k:Nat=>⟨iH [(0,.c (.d (.lst 4 (l.map ProdD.dv)))),(1,vi .i64 pid),(6,vi .i64 k)],bI [],0,36,0⟩) (fun k=>k≤l.length∧∀ j (h:j<l.length),j<k→decide (pid≤l[j].pid)=false) (fun k=>l.length - k) 0 ⟨Nat.zero_le _,fun j _ hj=>by omega⟩ ?_ ?_
 ·refine aD.keep rfl rfl ?_
  (refine aT ?_;try with_reducible exact tt)
 rintro k ⟨hk,hall⟩
 rcases Nat.lt_or_ge k l.length with hlt|hge0
 ·have hd:decide ((k:Int)<(l.length:Int))=true:=decide_eq_true (by omega)
  have hge:l[k]? = some l[k]:=List.getElem?_eq_getElem hlt
  have hidx:decide (pid≤l[k].pid)=true→cF l pid=k:=fun h=>by
   unfold cF;rw[List.findIdx_eq hlt];exact⟨h,fun j hj=>hall j (by omega) hj⟩
  have hth:cF l pid=k→gB l pid=(l[k].pid == pid):=fun h=>by unfold gB;rw[h,hge]
  have hnext:decide (pid≤l[k].pid)=false→∀ j (h:j<l.length),j<k+1→decide (pid≤l[j].pid)=false:=fun hq j hj hjk=>by
   rcases Nat.lt_or_ge j k with h2|h2
   ·exact hall j hj h2
   ·obtain rfl:j=k:=by omega
    exact hq
  generalize l[k]=x at *
  cases hq:decide (pid≤x.pid) with
  | true =>
   have hq2:decide (x.pid<pid)=false:=by have:=of_decide_eq_true hq;exact decide_eq_false (by omega)
   have e1:=hidx hq
   have e2:=hth e1
   (refine gO (ai hd (ai hge (ai @ProdD.dv.eq_1 (hq2)))) ?_)
   (refine rO (ai e1 (e2)) ?_;try with_reducible exact tt)
  | false =>
   have hq2:decide (x.pid<pid)=true:=by have:=of_decide_eq_false hq;exact decide_eq_true (by omega)
   have hn:=hnext hq
   (refine gO (ai hd (ai hge (ai @ProdD.dv.eq_1 (hq2)))) ?_)
   refine⟨k+1,⟨by omega,hn⟩,by omega,aD.keep rfl rfl ?_⟩
   (refine aT ?_;try with_reducible exact tt)
 ·have hkl:k=l.length:=by omega
  have hd:decide ((k:Int)<(l.length:Int))=false:=decide_eq_false (by omega)
  have e1:cF l pid=k:=by
   rw[hkl];unfold cF
   refine List.findIdx_eq_length.2 (fun x hx=>?_)
   obtain⟨j,hj,rfl⟩:=List.getElem_of_mem hx
   exact hall j hj (by omega)
  have e2:gB l pid=false:=by unfold gB;rw[e1,hkl,List.getElem?_eq_none (Nat.le_refl _)]
  (refine gO (hd) ?_)
  (refine rO (ai e1 (e2)) ?_;try with_reducible exact tt)
theorem mG (l:List ProdD) (p:ProdD) (hs:SmallL l):aW Tryz.prog 168 [.lst 4 (l.map ProdD.dv),.agg p.dv] (.lst 4 ((dV l p).map ProdD.dv)):=by
 have hl:=hs.len
 have c1:=aJg l p.pid hl
 have hle:=xI l p.pid
 have hlt:gB l p.pid=true→cF l p.pid<l.length:=aQi
 have hS:dV l p=l.take (cF l p.pid)++[p]++l.drop (if gB l p.pid then cF l p.pid+1 else cF l p.pid):=rfl
 rw[hS]
 generalize cF l p.pid=k at *
 generalize gB l p.pid=th at *
 clear hS
 have hta:((l.map ProdD.dv).take k).length=k:=by rw[List.length_take,List.length_map];omega
 have hta2:((l.map ProdD.dv).take k++[p.dv]).length=k+1:=by rw[List.length_append,hta];rfl
 have hb1:k*48≤140737488355328:=Nat.le_trans (Nat.mul_le_mul_right 48 (show k≤200000 by omega)) (by decide)
 have hb2:(k+1)*48≤140737488355328:=Nat.le_trans (Nat.mul_le_mul_right 48 (show k+1≤200000 by omega)) (by decide)
 simp only[ProdD.dv] at hta2
 cases th with
 | false =>
  have hdl:((l.map ProdD.dv).drop k).take (l.length - k)=(l.map ProdD.dv).drop k:=List.take_of_length_le (by simp)
  have hdl2:((l.map ProdD.dv).drop k).length=l.length - k:=by rw[List.length_drop,List.length_map]
  have hb3:(k+1+(l.length - k))*48≤140737488355328:=Nat.le_trans (Nat.mul_le_mul_right 48 (show k+1+(l.length - k)≤200000 by omega)) (by decide)
  rw[if_neg (by simp),List.map_append,List.map_append,List.map_take,List.map_drop]
  (refine aW.of_body Tryz.func168 rfl rfl Tryz.ntmps168 Tryz.results168 (by simp) ?_)
  (refine gO (ai @ProdD.dv.eq_1 (ai hle (ai hta (ai hta2 (ai hdl (ai hdl2 (ai hb1 (ai hb2 (ai hb3 (@List.nil_append.{0})))))))))) ?_)
  (refine rO (ai @List.map_cons.{0,0} (ai @List.map_nil.{0,0} (@ProdD.dv.eq_1))) ?_;try with_reducible exact tt)
 | true =>
  have hk1:=hlt rfl
  have hdl:((l.map ProdD.dv).drop (k+1)).take (l.length - (k+1))=(l.map ProdD.dv).drop (k+1):=List.take_of_length_le (by simp)
  have hdl2:((l.map ProdD.dv).drop (k+1)).length=l.length - (k+1):=by rw[List.length_drop,List.length_map]
  have hb3:(k+1+(l.length - (k+1)))*48≤140737488355328:=Nat.le_trans (Nat.mul_le_mul_right 48 (show k+1+(l.length - (k+1))≤200000 by omega)) (by decide)
  have hk2:k+1≤l.length:=hk1
  have htn:((k:Int)+1).toNat=k+1:=by omega
  have hnn:((0:Int)≤(k:Int)+1)=True:=by simp;omega
  rw[if_pos rfl,List.map_append,List.map_append,List.map_take,List.map_drop]
  (refine aW.of_body Tryz.func168 rfl rfl Tryz.ntmps168 Tryz.results168 (by simp) ?_)
  (refine gO (ai @ProdD.dv.eq_1 (ai hle (ai hta (ai hta2 (ai hdl (ai hdl2 (ai hb1 (ai hb2 (ai hb3 (ai hk2 (ai htn (ai hnn (@List.nil_append.{0}))))))))))))) ?_)
  (refine rO (ai @List.map_cons.{0,0} (ai @List.map_nil.{0,0} (@ProdD.dv.eq_1))) ?_;try with_reducible exact tt)
theorem lC (l:List ProdD) (pid:Int) (hs:SmallL l):aW Tryz.prog 79 [.lst 4 (l.map ProdD.dv),int pid] (.tup [.agg (bB l pid).1.dv,dM (bB l pid).2]):=by
 have hl:=hs.len
 (refine aW.of_bodyW Tryz.func79 rfl rfl Tryz.ntmps79 Tryz.results79 (by simp) ?_)
 (refine bP ?_)
 refine Wp.loop (fun k:Nat=>⟨iH [(0,.c (.d (.lst 4 (l.map ProdD.dv)))),(1,vi .i64 pid),(4,.c (.own 0 0)),(6,vi .i64 k)],bI [(0,.cells [.d (int 0),.d (int 0),.d (int 0),.d oC])],1,25,0⟩) (fun k=>k≤l.length∧(l.take k).find? (fun p=>p.pid == pid)=none) (fun k=>l.length - k) 0 ⟨Nat.zero_le _,rfl⟩ ?_ ?_
 ·refine aD.keep rfl rfl ?_
  (refine aT ?_;try with_reducible exact tt)
 rintro k ⟨hk,hall⟩
 (refine bP ?_)
 refine Wp.cond (by (refine aT ?_);rfl) (fun h=>?_) (fun h=>?_)
 ·have hlt:k<l.length:=by simpa using h
  have hge:l[k]? = some l[k]:=List.getElem?_eq_getElem hlt
  have hf1:(l[k].pid == pid)=true→bB l pid=(l[k],true):=fun hp=>by
   have:l.find? (fun p=>p.pid == pid)=some l[k]:=by
    conv=>lhs;rw[← List.take_append_drop k l,List.drop_eq_getElem_cons hlt]
    rw[List.find?_append,hall,List.find?_cons,hp];rfl
   simp only[bB,this]
  have hn1:(l[k].pid == pid)=false→(l.take (k+1)).find? (fun p=>p.pid == pid)=none:=fun hp=>by
   rw[aV l k hlt,List.find?_append,hall,List.find?_cons,hp];rfl
  generalize l[k]=x at *
  cases hq:(x.pid == pid) with
  | true =>
   rw[hf1 hq]
   (refine gO (ai hge (ai @ProdD.dv.eq_1 (hq))) ?_)
   (refine rO (@ProdD.dv.eq_1) ?_)
   exact⟨_,rfl,fun K v h=>h⟩
  | false =>
   have hn2:=hn1 hq
   (refine gO (ai hge (ai @ProdD.dv.eq_1 (hq))) ?_)
   refine⟨k+1,⟨by omega,hn2⟩,by omega,aD.keep rfl rfl ?_⟩
   (refine aT ?_;try with_reducible exact tt)
 ·have hall2:l.find? (fun p=>p.pid == pid)=none:=by
   rw[List.take_of_length_le (by simp only[decide_eq_false_iff_not] at h;omega)] at hall;exact hall
  have e1:bB l pid=(pzD,false):=by simp only[bB,hall2]
  rw[e1]
  (refine bP ?_)
  (refine aT ?_)
  exact⟨_,rfl,lU.tup (.cons aWl (.cons (.refl _) .nil))⟩
theorem aGk (l:List ProdD) (hs:SmallL l):aW Tryz.prog 76 [.lst 4 (l.map ProdD.dv)] (dM (iQ l)):=by
 have hsl:=hs.len
 (refine aW.of_body Tryz.func76 rfl rfl Tryz.ntmps76 Tryz.results76 (by simp) ?_)
 (refine bP ?_)
 refine Wp.loop (fun k:Nat=>⟨iH [(0,.c (.d (.lst 4 (l.map ProdD.dv)))),(3,vi .i64 (iE l k)),(4,vi .i64 k)],bI [],0,31,0⟩) (fun k=>k≤l.length∧∀ j p,j<k→l[j]? = some p→(decide (p.pid≤iE l j) || !bC p)=false) (fun k=>l.length - k) 0 ⟨Nat.zero_le _,fun j p hj=>by omega⟩ ?_ ?_
 ·refine aD.keep rfl rfl ?_
  (refine rO (ai @iE.eq_1 (@iE.eq_2)) ?_;try with_reducible exact tt)
 rintro k ⟨hk,hall⟩
 (refine bP ?_)
 refine Wp.cond (by (refine aT ?_);rfl) (fun h=>?_) (fun h=>?_)
 ·have hlt:k<l.length:=by simpa using h
  have hge:l[k]? = some l[k]:=List.getElem?_eq_getElem hlt
  have c1:=aAr l[k] (hs.seen _ (List.getElem_mem hlt))
  have hln:iE l (k+1)=l[k].pid:=by simp only[iE,hge]
  generalize l[k]=p at *
  simp only[ProdD.dv] at c1
  (refine gO (ai hge (@ProdD.dv.eq_1)) ?_)
  (first|refine Wp.sto 25 (vb (!bC p || decide (p.pid≤iE l k))) ?_ ?_|refine Wp.rtoS 25 (vb (!bC p || decide (p.pid≤iE l k))) ?_ ?_|(refine Wp.seq ?_;first|refine Wp.sto 25 (vb (!bC p || decide (p.pid≤iE l k))) ?_ ?_|refine Wp.rtoS 25 (vb (!bC p || decide (p.pid≤iE l k))) ?_ ?_))
  ·((rcases Bool.eq_false_or_eq_true (!bC p) with hL1|hL1)<;>(rcases Bool.eq_false_or_eq_true (decide (p.pid≤iE l k)) with hL2|hL2)<;>(((refine rO (ai hL1 (ai hL2 (ai @ProdD.dv.eq_1 (hge)))) ?_);(repeat (refine dB (by assumption) ?_;(refine rO (ai hL1 (ai hL2 (ai @ProdD.dv.eq_1 (hge)))) ?_;try with_reducible exact tt))));all_goals (exact (show bE _ _=true by kernel_rfl))))
  refine Wp.cond (by (refine aT ?_);rfl) (fun h=>?_) (fun h=>?_)
  ·have hf:iQ l=false:=by
    cases hq:iQ l with
    | false=>rfl
    | true=>have:=(rK l).1 hq k p hge;rw[Bool.or_comm] at this;rw[this] at h;cases h
   (refine bP ?_)
   (refine rO (hf) ?_;try with_reducible exact tt)
  ·have h5:=h
   rw[Bool.or_comm] at h5
   (refine gO (ai @ProdD.dv.eq_1 (hge)) ?_)
   refine⟨k+1,⟨by omega,fun j x hj hx=>?_⟩,by omega,aD.keep rfl rfl ?_⟩
   ·rcases Nat.lt_or_ge j k with h2|h2
    ·exact hall j x h2 hx
    ·obtain rfl:j=k:=by omega
     rw[hge] at hx;cases hx;exact h5
   (refine rO (hln) ?_;try with_reducible exact tt)
 ·have hf:iQ l=true:=(rK l).2 (fun j p hp=>hall j p (by have:=(List.getElem?_eq_some_iff.1 hp).1;simp only[decide_eq_false_iff_not] at h;omega) hp)
  (refine bP ?_)
  (refine rO (hf) ?_;try with_reducible exact tt)
theorem aM4 (a b:List ProdD) (hs:SmallL a):aW Tryz.prog 33 [.lst 4 (a.map ProdD.dv),.lst 4 (b.map ProdD.dv)] (dM (decide (a=b))):=by
 have hl:=hs.len
 (refine aW.of_body Tryz.func33 rfl rfl Tryz.ntmps33 Tryz.results33 (by simp) ?_)
 by_cases hlen:a.length=b.length
 ·have hne:((a.length:Int) != (b.length:Int))=false:=by simp[hlen]
  (refine gO (hne) ?_)
  refine Wp.loop (fun k:Nat=>⟨iH [(0,.c (.d (.lst 4 (a.map ProdD.dv)))),(1,.c (.d (.lst 4 (b.map ProdD.dv)))),(5,vi .i64 k)],bI [],0,27,0⟩) (fun k=>k≤a.length∧a.take k=b.take k) (fun k=>a.length - k) 0 ⟨Nat.zero_le _,rfl⟩ ?_ ?_
  ·refine aD.keep rfl rfl ?_
   (refine aT ?_;try with_reducible exact tt)
  rintro k ⟨hk,hall⟩
  (refine bP ?_)
  refine Wp.cond (by (refine aT ?_);rfl) (fun h=>?_) (fun h=>?_)
  ·have hlt:k<a.length:=by simpa using h
   have hlt2:k<b.length:=by omega
   have g1:a[k]? = some a[k]:=List.getElem?_eq_getElem hlt
   have g2:b[k]? = some b[k]:=List.getElem?_eq_getElem hlt2
   have t1:=aV a k hlt
   have t2:=aV b k hlt2
   have hne:a[k]≠b[k]→¬ a=b:=fun hx e=>by subst e;exact hx rfl
   have c1:=vZ a[k] b[k] (by have:=hs.seen _ (List.getElem_mem hlt);omega)
   generalize a[k]=x at *
   generalize b[k]=y at *
   simp only[ProdD.dv] at c1
   (refine gO (ai g1 (ai g2 (@ProdD.dv.eq_1))) ?_)
   refine Wp.cond (by (refine aT ?_);rfl) (fun h=>?_) (fun h=>?_)
   ·have hf:decide (a=b)=false:=decide_eq_false (hne (by simpa using h))
    (refine bP ?_)
    (refine rO (hf) ?_;try with_reducible exact tt)
   ·simp only[Bool.not_eq_false',decide_eq_true_eq] at h
    (refine bP ?_)
    refine⟨k+1,⟨by omega,by rw[t1,t2,hall,h]⟩,by omega,aD.keep rfl rfl ?_⟩
    (refine aT ?_;try with_reducible exact tt)
  ·have hk:k=a.length:=by simp only[decide_eq_false_iff_not] at h;omega
   have hf:decide (a=b)=true:=by
    rw[List.take_of_length_le (by omega),List.take_of_length_le (by omega)] at hall;simp[hall]
   (refine bP ?_)
   (refine rO (hf) ?_;try with_reducible exact tt)
 ·have hne:((a.length:Int) != (b.length:Int))=true:=by simp;omega
  have hf:decide (a=b)=false:=decide_eq_false (fun e=>hlen (by rw[e]))
  (refine gO (hne) ?_)
  (refine rO (hf) ?_;try with_reducible exact tt)
abbrev rkS (b:BatD) (p:ProdD) (k:Nat):St:=⟨iH [(3,.c (.own 0 0)),(7,.c (.own 1 0)),(9,vi .i64 k)],bI [(0,.cells (b.dv.map .d)),(1,.cells (p.dv.map .d))],2,81,0⟩
theorem aBo (l:List ProdD) (b:BatD) (hs:SmallL l) (hb:b.recs.length≤100000):aW Tryz.prog 169 [.lst 4 (l.map ProdD.dv),.agg b.dv] (.tup [int (aP l b).1,dM (aP l b).2.1,int (aP l b).2.2]):=by
 have c1:=aGk l hs
 have c2:=tY b hb
 have c3:=lC l b.pid hs
 have hmem:=fun p=>mM (l:=l) (pid:=b.pid) (p:=p)
 unfold aP
 (refine aW.of_body Tryz.func169 rfl rfl Tryz.ntmps169 Tryz.results169 (by simp) ?_)
 cases q1:iQ l with
 | false =>
  rw[q1] at c1
  simp only[Bool.not_false,Bool.true_or,if_true]
  (refine gO (@BatD.dv.eq_1) ?_)
  (refine aT ?_;try with_reducible exact tt)
 | true =>
 rw[q1] at c1
 cases q2:dQ b with
 | false =>
  rw[q2] at c2
  simp only[Bool.not_true,Bool.not_false,Bool.false_or,if_true]
  simp only[BatD.dv] at c2
  (refine gO (@BatD.dv.eq_1) ?_)
  (refine aT ?_;try with_reducible exact tt)
 | true =>
 rw[q2] at c2
 simp only[Bool.not_true,Bool.false_or,Bool.false_eq_true,if_false]
 unfold mY uY
 generalize bB l b.pid=fr at *
 obtain⟨p,kn⟩:=fr
 have hz:sY b pzD=if b.seq != 0 then (0,false,101) else (-1,false,0):=rfl
 simp only[ProdD.dv,BatD.dv] at c2 c3 hmem ⊢
 cases kn with
 | false =>
  simp only[Bool.false_and,Bool.false_eq_true,if_false,Bool.not_false,Bool.true_or,if_true,hz]
  cases q5:(b.seq != 0) with
  | true =>
   (refine gO (ai @BatD.dv.eq_1 (ai @ProdD.dv.eq_1 (q5))) ?_)
   (refine aT ?_;try with_reducible exact tt)
  | false =>
   (refine gO (ai @BatD.dv.eq_1 (ai @ProdD.dv.eq_1 (q5))) ?_)
   (refine aT ?_;try with_reducible exact tt)
 | true =>
  have hm:=hmem p rfl
  have hps:=hs.seen p hm
  cases q2b:decide (p.epoch<b.epoch) with
  | true =>
   have q1b:decide (b.epoch<p.epoch)=false:=by have:=of_decide_eq_true q2b;exact decide_eq_false (by omega)
   simp only[q1b,Bool.and_false,Bool.false_eq_true,if_false,Bool.not_true,Bool.false_or,if_true,hz]
   cases q5:(b.seq != 0) with
   | true =>
    (refine gO (ai @BatD.dv.eq_1 (ai @ProdD.dv.eq_1 (ai q5 (q2b)))) ?_)
    (refine aT ?_;try with_reducible exact tt)
   | false =>
    (refine gO (ai @BatD.dv.eq_1 (ai @ProdD.dv.eq_1 (ai q5 (q2b)))) ?_)
    (refine aT ?_;try with_reducible exact tt)
  | false =>
  cases q1b:decide (b.epoch<p.epoch) with
  | true =>
   simp only[Bool.and_self,if_true]
   (refine gO (ai @BatD.dv.eq_1 (ai @ProdD.dv.eq_1 (ai q1b (q2b)))) ?_)
   (refine aT ?_;try with_reducible exact tt)
  | false =>
  simp only[Bool.and_false,Bool.false_eq_true,if_false,Bool.not_true,Bool.false_or]
  (refine gO (ai @BatD.dv.eq_1 (ai @ProdD.dv.eq_1 (ai q1b (q2b)))) ?_)
  refine Wp.loop (rkS b p) (fun k=>k≤p.seen.length∧(p.seen.take k).find? (hU b)=none) (fun k=>p.seen.length - k) 0 ⟨Nat.zero_le _,rfl⟩ ?_ ?_
  ·refine aD.keep rfl rfl ?_
   (refine rO (ai @BatD.dv.eq_1 (@ProdD.dv.eq_1)) ?_;try with_reducible exact tt)
  rintro k ⟨hk,hall⟩
  (refine gO (ai @BatD.dv.eq_1 (@ProdD.dv.eq_1)) ?_)
  refine Wp.cond (by (refine aT ?_);rfl) (fun h=>?_) (fun h=>?_)
  ·have hlt:k<p.seen.length:=by simpa using h
   have hge:p.seen[k]? = some p.seen[k]:=List.getElem?_eq_getElem hlt
   have hf1:hU b p.seen[k]=true→sY b p=(p.seen[k].base,true,0):=fun hp=>by
    have:p.seen.find? (hU b)=some p.seen[k]:=by
     conv=>lhs;rw[← List.take_append_drop k p.seen,List.drop_eq_getElem_cons hlt]
     rw[List.find?_append,hall,List.find?_cons,hp];rfl
    simp only[sY,this]
   have hn1:hU b p.seen[k]=false→(p.seen.take (k+1)).find? (hU b)=none:=fun hp=>by
    rw[aV p.seen k hlt,List.find?_append,hall,List.find?_cons,hp];rfl
   generalize p.seen[k]=s at *
   (refine gO (ai @BatD.dv.eq_1 (@ProdD.dv.eq_1)) ?_)
   (first|refine Wp.stoD 69 (vb (hU b s)) aI ?_ ?_|refine Wp.rtoDS 69 (vb (hU b s)) aI ?_ ?_|(refine Wp.seq ?_;first|refine Wp.stoD 69 (vb (hU b s)) aI ?_ ?_|refine Wp.rtoDS 69 (vb (hU b s)) aI ?_ ?_))
   ·unfold hU;((rcases Bool.eq_false_or_eq_true (s.seq == b.seq) with hL1|hL1)<;>(rcases Bool.eq_false_or_eq_true (s.count == (b.recs.length:Int)) with hL2|hL2)<;>(((refine rO (ai hL1 (ai hL2 (ai hge (ai @SeenD.dv.eq_1 (ai @BatD.dv.eq_1 (@ProdD.dv.eq_1)))))) ?_);(repeat (refine dB (by assumption) ?_;(refine rO (ai hL1 (ai hL2 (ai hge (ai @SeenD.dv.eq_1 (ai @BatD.dv.eq_1 (@ProdD.dv.eq_1)))))) ?_))));all_goals (exact (show bE _ _=true by kernel_rfl))))
   refine Wp.cond (by (refine aT ?_);rfl) (fun h=>?_) (fun h=>?_)
   ·rw[hf1 h]
    (refine gO (ai @BatD.dv.eq_1 (ai @ProdD.dv.eq_1 (ai hge (@SeenD.dv.eq_1)))) ?_)
    (refine aT ?_;try with_reducible exact tt)
   ·have hn2:=hn1 h
    (refine bP ?_)
    refine⟨k+1,⟨by omega,hn2⟩,by omega,aD.keep rfl rfl ?_⟩
    (refine rO (ai @BatD.dv.eq_1 (@ProdD.dv.eq_1)) ?_;try with_reducible exact tt)
  ·have hall2:p.seen.find? (hU b)=none:=by
    rw[List.take_of_length_le (by simp only[decide_eq_false_iff_not] at h;omega)] at hall;exact hall
   have hd:sY b p=if b.seq != p.next then (0,false,101) else (-1,false,0):=by simp only[sY,hall2]
   rw[hd]
   cases q5:(b.seq != p.next) with
   | true =>
    (refine gO (ai @BatD.dv.eq_1 (ai @ProdD.dv.eq_1 (q5))) ?_)
    (refine aT ?_;try with_reducible exact tt)
   | false =>
    (refine gO (ai @BatD.dv.eq_1 (ai @ProdD.dv.eq_1 (q5))) ?_)
    (refine aT ?_;try with_reducible exact tt)
theorem oE (l:List ProdD) (b:BatD) (base:Int) (hs:SmallL l) (hb:b.recs.length≤100000):aW Tryz.prog 116 [.lst 4 (l.map ProdD.dv),.agg b.dv,int base] (.tup [.lst 4 ((aG l b base).1.map ProdD.dv),int (aG l b base).2]):=by
 have c1:=aBo l b hs hb
 have c2:=lC l b.pid hs
 have c3:=aBn b
 have hmay:=fun h=>mS (l:=l) (b:=b) h
 have hfs:=fun h=>wQ (l:=l) h b.pid
 have hnone:=fun p=>mW (l:=l) (pid:=b.pid) (p:=p)
 have hT1:aG l b base=if decide (base < -1) || decide (1048576<base) then ([],2) else
  if (aP l b).2.2≠0 then ([],(aP l b).2.2) else if (aP l b).2.1 then ([],101) else
  (dV l ⟨b.pid,b.epoch,eB b,kD l b base⟩,0):=rfl
 rw[hT1]
 clear hT1
 simp only[BatD.dv] at c1 c3
 (refine aW.of_bodyW Tryz.func116 rfl rfl Tryz.ntmps116 Tryz.results116 (by simp) ?_)
 cases q0:(decide (base < -1) || decide (1048576<base)) with
 | true =>
  simp only[if_true]
  (refine gO (@BatD.dv.eq_1) ?_)
  (first|refine Wp.sto 19 (vb (decide (base < -1) || decide (1048576<base))) ?_ ?_|refine Wp.rtoS 19 (vb (decide (base < -1) || decide (1048576<base))) ?_ ?_|(refine Wp.seq ?_;first|refine Wp.sto 19 (vb (decide (base < -1) || decide (1048576<base))) ?_ ?_|refine Wp.rtoS 19 (vb (decide (base < -1) || decide (1048576<base))) ?_ ?_))
  ·((rcases Bool.eq_false_or_eq_true (decide (base < -1)) with hL1|hL1)<;>(rcases Bool.eq_false_or_eq_true (decide (1048576<base)) with hL2|hL2)<;>(((refine rO (ai hL1 (ai hL2 (@BatD.dv.eq_1))) ?_;try with_reducible exact tt);(repeat (refine dB (by assumption) ?_;(refine rO (ai hL1 (ai hL2 (@BatD.dv.eq_1))) ?_))));all_goals (exact (show bE _ _=true by kernel_rfl))))
  (refine gO (q0) ?_)
  (refine rO (@List.map_nil.{0,0}) ?_)
  exact⟨_,rfl,lU.tup (.cons (.nil 4) (.cons (.refl _) .nil))⟩
 | false =>
 simp only[Bool.false_eq_true,if_false]
 (refine gO (@BatD.dv.eq_1) ?_)
 (first|refine Wp.sto 19 (vb (decide (base < -1) || decide (1048576<base))) ?_ ?_|refine Wp.rtoS 19 (vb (decide (base < -1) || decide (1048576<base))) ?_ ?_|(refine Wp.seq ?_;first|refine Wp.sto 19 (vb (decide (base < -1) || decide (1048576<base))) ?_ ?_|refine Wp.rtoS 19 (vb (decide (base < -1) || decide (1048576<base))) ?_ ?_))
 ·((rcases Bool.eq_false_or_eq_true (decide (base < -1)) with hL1|hL1)<;>(rcases Bool.eq_false_or_eq_true (decide (1048576<base)) with hL2|hL2)<;>(((refine rO (ai hL1 (ai hL2 (@BatD.dv.eq_1))) ?_;try with_reducible exact tt);(repeat (refine dB (by assumption) ?_;(refine rO (ai hL1 (ai hL2 (@BatD.dv.eq_1))) ?_))));all_goals (exact (show bE _ _=true by kernel_rfl))))
 generalize aP l b=cf at *
 obtain⟨x,y,e⟩:=cf
 simp only at c1 hmay ⊢
 by_cases he:e=0
 ·subst he
  have hm:=(hmay rfl).1
  have hfl:=hfs hm
  rw[if_neg (by simp)]
  cases y with
  | true =>
   rw[if_pos rfl]
   (refine gO (ai q0 (ai @BatD.dv.eq_1 (@bne_self_eq_false.{0}))) ?_)
   (refine rO (@List.map_nil.{0,0}) ?_)
   exact⟨_,rfl,lU.tup (.cons (.nil 4) (.cons (.refl _) .nil))⟩
  | false =>
   rw[if_neg (by simp)]
   have c4:=fun q=>mG l q hs
   have hnew:kD l b base=(nK l b++[(⟨b.seq,(b.recs.length:Int),base⟩:SeenD)]).drop ((nK l b).length - 2):=rfl
   have hold:nK l b=if (bB l b.pid).2 && (bB l b.pid).1.epoch == b.epoch then (bB l b.pid).1.seen else []:=by
    unfold nK
    cases hq:bB l b.pid with
    | mk p kn =>
     cases kn with
     | true=>cases he2:(p.epoch == b.epoch)<;>simp_all
     | false=>rw[mW hq];simp
   rw[hnew,hold]
   clear hnew hold
   generalize bB l b.pid=fr at *
   obtain⟨p,kn⟩:=fr
   simp only[ProdD.dv] at c2 hfl ⊢
   cases q6:(kn && p.epoch == b.epoch) with
   | false =>
    simp only[Bool.false_eq_true,if_false,List.nil_append,List.length_nil,Nat.zero_sub,List.drop_zero]
    have c5:=c4 ⟨b.pid,b.epoch,eB b,[(⟨b.seq,(b.recs.length:Int),base⟩:SeenD)]⟩
    simp only[ProdD.dv,List.map_cons,List.map_nil,SeenD.dv] at c5
    (refine gO (ai q0 (ai @BatD.dv.eq_1 (ai @bne_self_eq_false.{0} (@ProdD.dv.eq_1)))) ?_)
    (first|refine Wp.sto 52 (vb (kn && p.epoch == b.epoch)) ?_ ?_|refine Wp.rtoS 52 (vb (kn && p.epoch == b.epoch)) ?_ ?_|(refine Wp.seq ?_;first|refine Wp.sto 52 (vb (kn && p.epoch == b.epoch)) ?_ ?_|refine Wp.rtoS 52 (vb (kn && p.epoch == b.epoch)) ?_ ?_))
    ·((rcases Bool.eq_false_or_eq_true (kn) with hL1|hL1)<;>(rcases Bool.eq_false_or_eq_true (p.epoch == b.epoch) with hL2|hL2)<;>(((refine rO (ai hL1 (ai hL2 (ai @BatD.dv.eq_1 (@ProdD.dv.eq_1)))) ?_;try with_reducible exact tt);(repeat (refine dB (by assumption) ?_;(refine rO (ai hL1 (ai hL2 (ai @BatD.dv.eq_1 (@ProdD.dv.eq_1)))) ?_))));all_goals (exact (show bE _ _=true by kernel_rfl))))
    (refine gO (ai q6 (ai @BatD.dv.eq_1 (ai @Int.cast_ofNat_Int (ai @gt_iff_lt.{0} (ai @List.nil_append.{0} (ai @List.cons_append.{0} (ai @List.drop_zero.{0} (ai @List.take_succ_cons.{0} (ai @List.take_zero.{0} (ai @List.length_cons.{0} (@List.length_nil.{0}))))))))))) ?_)
    (refine aT ?_)
    exact⟨_,rfl,fun K v h=>h⟩
   | true =>
    simp only[if_true]
    obtain⟨pp,pe,pn,sn⟩:=p
    (try simp only at hfl);(try simp only at q6);(try simp only at c2);(try simp only)
    match sn,hfl with
    | [],_ =>
     have c5:=c4 ⟨b.pid,b.epoch,eB b,[(⟨b.seq,(b.recs.length:Int),base⟩:SeenD)]⟩
     simp only[ProdD.dv,List.map_cons,List.map_nil,SeenD.dv] at c5 c2
     (refine gO (ai q0 (ai @BatD.dv.eq_1 (ai @bne_self_eq_false.{0} (@ProdD.dv.eq_1)))) ?_)
     (first|refine Wp.sto 52 (vb (kn && pe == b.epoch)) ?_ ?_|refine Wp.rtoS 52 (vb (kn && pe == b.epoch)) ?_ ?_|(refine Wp.seq ?_;first|refine Wp.sto 52 (vb (kn && pe == b.epoch)) ?_ ?_|refine Wp.rtoS 52 (vb (kn && pe == b.epoch)) ?_ ?_))
     ·((rcases Bool.eq_false_or_eq_true (kn) with hL1|hL1)<;>(rcases Bool.eq_false_or_eq_true (pe == b.epoch) with hL2|hL2)<;>(((refine rO (ai hL1 (ai hL2 (ai @BatD.dv.eq_1 (@ProdD.dv.eq_1)))) ?_;try with_reducible exact tt);(repeat (refine dB (by assumption) ?_;(refine rO (ai hL1 (ai hL2 (ai @BatD.dv.eq_1 (@ProdD.dv.eq_1)))) ?_))));all_goals (exact (show bE _ _=true by kernel_rfl))))
     (refine gO (ai q6 (ai @BatD.dv.eq_1 (ai @Int.cast_ofNat_Int (ai @gt_iff_lt.{0} (ai @List.nil_append.{0} (ai @List.cons_append.{0} (ai @List.drop_zero.{0} (ai @List.drop_succ_cons.{0} (ai @List.take_succ_cons.{0} (ai @List.take_zero.{0} (ai @List.length_cons.{0} (@List.length_nil.{0})))))))))))) ?_)
     (refine aT ?_)
     exact⟨_,rfl,fun K v h=>h⟩
    | [s1],_ =>
     have c5:=c4 ⟨b.pid,b.epoch,eB b,[s1,(⟨b.seq,(b.recs.length:Int),base⟩:SeenD)]⟩
     simp only[ProdD.dv,List.map_cons,List.map_nil,SeenD.dv] at c5 c2
     (refine gO (ai q0 (ai @BatD.dv.eq_1 (ai @bne_self_eq_false.{0} (@ProdD.dv.eq_1)))) ?_)
     (first|refine Wp.sto 52 (vb (kn && pe == b.epoch)) ?_ ?_|refine Wp.rtoS 52 (vb (kn && pe == b.epoch)) ?_ ?_|(refine Wp.seq ?_;first|refine Wp.sto 52 (vb (kn && pe == b.epoch)) ?_ ?_|refine Wp.rtoS 52 (vb (kn && pe == b.epoch)) ?_ ?_))
     ·((rcases Bool.eq_false_or_eq_true (kn) with hL1|hL1)<;>(rcases Bool.eq_false_or_eq_true (pe == b.epoch) with hL2|hL2)<;>(((refine rO (ai hL1 (ai hL2 (ai @BatD.dv.eq_1 (@ProdD.dv.eq_1)))) ?_;try with_reducible exact tt);(repeat (refine dB (by assumption) ?_;(refine rO (ai hL1 (ai hL2 (ai @BatD.dv.eq_1 (@ProdD.dv.eq_1)))) ?_))));all_goals (exact (show bE _ _=true by kernel_rfl))))
     (refine gO (ai q6 (ai @BatD.dv.eq_1 (ai @Int.cast_ofNat_Int (ai @gt_iff_lt.{0} (ai @List.nil_append.{0} (ai @List.cons_append.{0} (ai @List.drop_zero.{0} (ai @List.drop_succ_cons.{0} (ai @List.take_succ_cons.{0} (ai @List.take_zero.{0} (ai @List.length_cons.{0} (@List.length_nil.{0})))))))))))) ?_)
     (refine aT ?_)
     exact⟨_,rfl,fun K v h=>h⟩
    | [s1,s2],_ =>
     have c5:=c4 ⟨b.pid,b.epoch,eB b,[s1,s2,(⟨b.seq,(b.recs.length:Int),base⟩:SeenD)]⟩
     simp only[ProdD.dv,List.map_cons,List.map_nil,SeenD.dv] at c5 c2
     (refine gO (ai q0 (ai @BatD.dv.eq_1 (ai @bne_self_eq_false.{0} (@ProdD.dv.eq_1)))) ?_)
     (first|refine Wp.sto 52 (vb (kn && pe == b.epoch)) ?_ ?_|refine Wp.rtoS 52 (vb (kn && pe == b.epoch)) ?_ ?_|(refine Wp.seq ?_;first|refine Wp.sto 52 (vb (kn && pe == b.epoch)) ?_ ?_|refine Wp.rtoS 52 (vb (kn && pe == b.epoch)) ?_ ?_))
     ·((rcases Bool.eq_false_or_eq_true (kn) with hL1|hL1)<;>(rcases Bool.eq_false_or_eq_true (pe == b.epoch) with hL2|hL2)<;>(((refine rO (ai hL1 (ai hL2 (ai @BatD.dv.eq_1 (@ProdD.dv.eq_1)))) ?_;try with_reducible exact tt);(repeat (refine dB (by assumption) ?_;(refine rO (ai hL1 (ai hL2 (ai @BatD.dv.eq_1 (@ProdD.dv.eq_1)))) ?_))));all_goals (exact (show bE _ _=true by kernel_rfl))))
     (refine gO (ai q6 (ai @BatD.dv.eq_1 (ai @Int.cast_ofNat_Int (ai @gt_iff_lt.{0} (ai @List.nil_append.{0} (ai @List.cons_append.{0} (ai @List.drop_zero.{0} (ai @List.drop_succ_cons.{0} (ai @List.take_succ_cons.{0} (ai @List.take_zero.{0} (ai @List.length_cons.{0} (@List.length_nil.{0})))))))))))) ?_)
     (refine aT ?_)
     exact⟨_,rfl,fun K v h=>h⟩
    | [s1,s2,s3],_ =>
     have c5:=c4 ⟨b.pid,b.epoch,eB b,[s2,s3,(⟨b.seq,(b.recs.length:Int),base⟩:SeenD)]⟩
     simp only[ProdD.dv,List.map_cons,List.map_nil,SeenD.dv] at c5 c2
     (refine gO (ai q0 (ai @BatD.dv.eq_1 (ai @bne_self_eq_false.{0} (@ProdD.dv.eq_1)))) ?_)
     (first|refine Wp.sto 52 (vb (kn && pe == b.epoch)) ?_ ?_|refine Wp.rtoS 52 (vb (kn && pe == b.epoch)) ?_ ?_|(refine Wp.seq ?_;first|refine Wp.sto 52 (vb (kn && pe == b.epoch)) ?_ ?_|refine Wp.rtoS 52 (vb (kn && pe == b.epoch)) ?_ ?_))
     ·((rcases Bool.eq_false_or_eq_true (kn) with hL1|hL1)<;>(rcases Bool.eq_false_or_eq_true (pe == b.epoch) with hL2|hL2)<;>(((refine rO (ai hL1 (ai hL2 (ai @BatD.dv.eq_1 (@ProdD.dv.eq_1)))) ?_;try with_reducible exact tt);(repeat (refine dB (by assumption) ?_;(refine rO (ai hL1 (ai hL2 (ai @BatD.dv.eq_1 (@ProdD.dv.eq_1)))) ?_))));all_goals (exact (show bE _ _=true by kernel_rfl))))
     (refine gO (ai q6 (ai @BatD.dv.eq_1 (ai @Int.cast_ofNat_Int (ai @gt_iff_lt.{0} (ai @List.nil_append.{0} (ai @List.cons_append.{0} (ai @List.drop_zero.{0} (ai @List.drop_succ_cons.{0} (ai @List.take_succ_cons.{0} (ai @List.take_zero.{0} (ai @List.length_cons.{0} (@List.length_nil.{0})))))))))))) ?_)
     (refine aT ?_)
     exact⟨_,rfl,fun K v h=>h⟩
 ·rw[if_pos he]
  have hne:(e != 0)=true:=by simpa using he
  (refine gO (ai q0 (ai @BatD.dv.eq_1 (hne))) ?_)
  (refine rO (@List.map_nil.{0,0}) ?_)
  exact⟨_,rfl,lU.tup (.cons (.nil 4) (.cons (.refl _) .nil))⟩
end Go.Proofs.YtpklhnpchhaccaaGreatDoor
