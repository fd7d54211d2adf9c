/- The abstract machine (RgE, RgF, RgH, RgI, RgG, RgK). -/
import Derived.Test.YtpklhnpchhaccaaGreatDoorRgM
import Derived.Test.YtpklhnpchhaccaaGreatDoorCpMc
import Derived.Test.YtpklhnpchhaccaaGreatDoorMpK
namespace Go.Proofs.YtpklhnpchhaccaaGreatDoor
open Go Go.RowKit
set_option maxHeartbeats 8000000
set_option maxRecDepth 100000
set_option linter.unusedVariables false
set_option linter.unusedSimpArgs false
theorem aFi (p:PartD) (b:BatD) (yes:Bool) (next off:Int) (row:RowD) (prod:ProdD) (hl:p.opens.length≤100000) (hob:bL p.opens prod.pid=true) :
  aW Tryz.prog 115 [.agg p.dv,.agg (EntD.mk 6 b yes next off row prod).dv] (.tup [.agg p.dv,dM false]):=by
 have c1:=iI p prod.pid hl
 rw[hob] at c1
 simp only[PartD.dv] at c1
 (refine aW.of_bodyW Tryz.func115 rfl rfl Tryz.ntmps115 Tryz.results115 (by simp) ?_)
 (refine gO (ai @PartD.dv.eq_1 (@EntD.dv.eq_1)) ?_)
 (refine rO (@PartD.dv.eq_1) ?_)
 exact⟨_,rfl,fun K v h=>h⟩
theorem aCu (p:PartD) (b:BatD) (yes:Bool) (next off:Int) (row:RowD) (prod:ProdD) (hl:p.opens.length≤100000) (hs:SmallL p.prods) (hob:bL p.opens prod.pid=false) :
  aW Tryz.prog 115 [.agg p.dv,.agg (EntD.mk 6 b yes next off row prod).dv] (.tup [.agg ({ p with prods:=dV p.prods prod }:PartD).dv,dM true]):=by
 have c1:=iI p prod.pid hl
 have c2:=mG p.prods prod hs
 rw[hob] at c1
 simp only[PartD.dv,ProdD.dv] at c1 c2
 (refine aW.of_bodyW Tryz.func115 rfl rfl Tryz.ntmps115 Tryz.results115 (by simp) ?_)
 (refine gO (ai @PartD.dv.eq_1 (@EntD.dv.eq_1)) ?_)
 (refine rO (@PartD.dv.eq_1) ?_)
 exact⟨_,rfl,fun K v h=>h⟩
theorem aHo (p:PartD) (b:BatD) (yes:Bool) (next off:Int) (row:RowD) (prod:ProdD) (hr:p.rows.length≤1000000) (hf : -1000000000≤p.fin∧p.fin≤1000000000) :
  aW Tryz.prog 115 [.agg p.dv,.agg (EntD.mk 5 b yes next off row prod).dv] (.tup [.agg ({ p with rows:=p.rows++[{ row with off:=p.fin }],fin:=p.fin+1 }:PartD).dv,dM true]):=by
 have hb1:p.rows.length*56≤140737488355328:=by omega
 have hb2:(p.rows.length+1)*56≤140737488355328:=by omega
 have hw:IntKind.i64.wrap (p.fin+1)=p.fin+1:=bA (by omega)
 (refine aW.of_bodyW Tryz.func115 rfl rfl Tryz.ntmps115 Tryz.results115 (by simp) ?_)
 (refine gO (ai @PartD.dv.eq_1 (ai @EntD.dv.eq_1 (ai hb1 (ai hb2 (ai hw (ai @List.length_map.{0,0} (@List.nil_append.{0}))))))) ?_)
 (refine rO (ai @PartD.dv.eq_1 (ai @RowD.dv.eq_1 (ai @List.map_append.{0,0} (ai @List.map_cons.{0,0} (@List.map_nil.{0,0}))))) ?_)
 exact⟨_,rfl,fun K v h=>h⟩
theorem aKi (p:PartD) (b:BatD) (yes:Bool) (next off:Int) (row:RowD) (prod:ProdD) (hc:off<p.start∨p.fin<off) :
  aW Tryz.prog 115 [.agg p.dv,.agg (EntD.mk 2 b yes next off row prod).dv] (.tup [.agg p.dv,dM false]):=by
 (refine aW.of_bodyW Tryz.func115 rfl rfl Tryz.ntmps115 Tryz.results115 (by simp) ?_)
 cases h1:decide (off<p.start) with
 | true =>
  (refine gO (ai @PartD.dv.eq_1 (ai @EntD.dv.eq_1 (h1))) ?_)
  (refine rO (@PartD.dv.eq_1) ?_)
  exact⟨_,rfl,fun K v h=>h⟩
 | false =>
  have h2:decide (p.fin<off)=true:=decide_eq_true (by have:=of_decide_eq_false h1;omega)
  (refine gO (ai @PartD.dv.eq_1 (ai @EntD.dv.eq_1 (ai h1 (h2)))) ?_)
  (refine rO (@PartD.dv.eq_1) ?_)
  exact⟨_,rfl,fun K v h=>h⟩
theorem aL5 (pr:RowD→Bool) (l:List RowD) (k:Nat) (h:k<l.length):jJ pr (l.take (k+1))=jJ pr (l.take k)++(if pr l[k] then [] else [l[k]]):=by
 rw[List.take_succ_eq_append_getElem h]
 unfold jJ
 rw[List.filter_append]
 cases hp:pr l[k]<;>simp[hp]
theorem aHm (p:PartD) (b:BatD) (yes:Bool) (next off:Int) (row:RowD) (prod:ProdD) (hr:p.rows.length≤1000000) (hc:¬ (off<p.start∨p.fin<off)) :
  aW Tryz.prog 115 [.agg p.dv,.agg (EntD.mk 2 b yes next off row prod).dv] (.tup [.agg ({ p with start:=off,rows:=jJ (nJ off) p.rows }:PartD).dv,dM true]):=by
 have h1:decide (off<p.start)=false:=decide_eq_false (by omega)
 have h2:decide (p.fin<off)=false:=decide_eq_false (by omega)
 (refine aW.of_bodyW Tryz.func115 rfl rfl Tryz.ntmps115 Tryz.results115 (by simp) ?_)
 (refine gO (ai @PartD.dv.eq_1 (ai @EntD.dv.eq_1 (ai h1 (h2)))) ?_)
 refine Wp.weak (aD.nilApp (t:=6) (τ:=3) 47 5 (by (refine aT ?_;try with_reducible exact tt)) (by (refine aT ?_;try with_reducible exact tt))) ?_
 refine Wp.loop (fun k:Nat=>⟨iH [(2,.c (.own 0 0)),(3,.c (.own 1 0)),(4,.c (.own 2 0)),(6,.c (.app 3 5 ((jJ (nJ off) (p.rows.take k)).map RowD.dv))),(7,vi .i64 k)],bI [(0,.cells [.d (int off),.d (int p.fin),.d (.lst 5 (p.rows.map RowD.dv)),.d (.lst 3 (p.opens.map OpenD.dv)),.d (.lst 4 (p.prods.map ProdD.dv))]),(1,.cells ((EntD.mk 2 b yes next off row prod).dv.map .d)),(2,.cells [.d (int 0),.d (int 0),.d oC,.d oC,.d oC]),(3,.row 47 5 (jJ (nJ off) (p.rows.take k)).length)],4,99,0⟩) (fun k=>k≤p.rows.length) (fun k=>p.rows.length - k) 0 (Nat.zero_le _) ?_ ?_
 ·refine aD.keep rfl rfl ?_
  (refine rO (ai @PartD.dv.eq_1 (ai @EntD.dv.eq_1 (ai @List.take_zero.{0} (ai @jJ.eq_1 (ai @List.filter_nil.{0} (ai @List.map_nil.{0,0} (@List.length_nil.{0}))))))) ?_;try with_reducible exact tt)
 intro k hk
 (refine bP ?_)
 refine Wp.cond (by (refine aT ?_);rfl) (fun h=>?_) (fun h=>?_)
 ·have hlt:k<p.rows.length:=by simpa using h
  have hge:p.rows[k]? = some p.rows[k]:=List.getElem?_eq_getElem hlt
  have hs:=aL5 (nJ off) p.rows k hlt
  have hle:(jJ (nJ off) (p.rows.take k)).length≤1000000:=by
   have h3:=wW (nJ off) (p.rows.take k)
   rw[List.length_take] at h3;omega
  have hwk:IntKind.i64.wrap ((k:Int)+1)=((k+1:Nat):Int):=by rw[bA (by omega)];rfl
  generalize p.rows[k]=r at *
  by_cases hc2:off≤r.off
  ·have d1:decide (off≤r.off)=true:=decide_eq_true hc2
   have d2:nJ off r=false:=decide_eq_false (by omega)
   rw[d2] at hs
   have hb:((jJ (nJ off) (p.rows.take k)).length+1)*56≤140737488355328:=by omega
   (refine gO (ai hge (ai @RowD.dv.eq_1 (ai d1 (ai hb (@List.length_map.{0,0}))))) ?_)
   refine⟨k+1,hlt,by omega,aD.keep rfl rfl ?_⟩
   rw[hs]
   (refine rO (ai @EntD.dv.eq_1 (ai @RowD.dv.eq_1 (ai @List.map_append.{0,0} (ai @List.map_cons.{0,0} (ai @List.map_nil.{0,0} (ai @List.length_append.{0} (ai @List.length_cons.{0} (ai @List.length_nil.{0} (ai @Nat.zero_add (ai @Bool.false_eq_true (ai @if_false.{1} (hwk)))))))))))) ?_;try with_reducible exact tt)
  ·have d1:decide (off≤r.off)=false:=decide_eq_false hc2
   have d2:nJ off r=true:=decide_eq_true (by omega)
   rw[d2,if_pos rfl,List.append_nil] at hs
   (refine gO (ai hge (ai @RowD.dv.eq_1 (d1))) ?_)
   refine⟨k+1,hlt,by omega,aD.keep rfl rfl ?_⟩
   rw[hs]
   (refine rO (ai @EntD.dv.eq_1 (hwk)) ?_;try with_reducible exact tt)
 ·have hke:k=p.rows.length:=by
   rw[decide_eq_false_iff_not] at h;omega
  subst hke
  rw[List.take_length]
  (refine gO (@PartD.dv.eq_1) ?_)
  (refine rO (@PartD.dv.eq_1) ?_)
  exact⟨_,rfl,fun K v h=>h⟩
def sM (r:RowD):Bool:=cC r.pid 1 8 && cC r.seq 0 1048575 && decide ((r.key.length:Int)≤16) && decide ((r.value.length:Int)≤16)
theorem aD9 (r:RowD):aW Tryz.prog 77 [.agg r.dv] (dM (sM r)):=by
 have c1:=iM r.pid 1 8
 have c2:=iM r.seq 0 1048575
 (refine aW.of_body Tryz.func77 rfl rfl Tryz.ntmps77 Tryz.results77 (by simp) ?_)
 (refine gO (@RowD.dv.eq_1) ?_)
 unfold sM
 cases h1:cC r.pid 1 8<;>rw[h1] at c1
 ·(refine gO (@RowD.dv.eq_1) ?_)
  (refine aT ?_;try with_reducible exact tt)
 cases h2:cC r.seq 0 1048575<;>rw[h2] at c2
 ·(refine gO (@RowD.dv.eq_1) ?_)
  (refine aT ?_;try with_reducible exact tt)
 cases h3:decide ((r.key.length:Int)≤16)<;>cases h4:decide ((r.value.length:Int)≤16)<;>((refine gO (ai @RowD.dv.eq_1 (ai h3 (h4))) ?_);(refine rO (ai h3 (h4)) ?_;try with_reducible exact tt))
def cI (e:EntD):EntD :=
 if e.kind=0 then ⟨0,e.b,false,0,0,iR,dF⟩
 else if e.kind=1 then ⟨1,⟨e.b.pid,e.b.epoch,0,false,[]⟩,e.yes,0,0,iR,dF⟩
 else if e.kind=2 then ⟨2,jD,false,0,e.off,iR,dF⟩
 else if e.kind=3 then ⟨3,e.b,e.yes,if e.yes then e.next else 0,0,iR,dF⟩
 else if e.kind=4 then ⟨4,⟨e.b.pid,e.b.epoch,0,false,[]⟩,false,e.next,0,iR,dF⟩
 else if e.kind=5 then ⟨5,jD,false,0,0,{ e.row with off:=0 },dF⟩
 else if e.kind=6 then ⟨6,jD,false,0,0,iR,e.prod⟩
 else zE e.kind
theorem hP (e:EntD) (x y:D) (hx:lU x (.lst 2 (e.b.recs.map RecD.dv))) (hy:lU y (.lst 3 (e.prod.seen.map SeenD.dv))):AllLe [i8 e.kind,int e.b.pid,int e.b.epoch,int e.b.seq,dM e.b.txn,x,dM e.yes,int e.next,int e.off,int e.row.off,int e.row.pid,int e.row.seq,str e.row.key,str e.row.value,int e.prod.pid,int e.prod.epoch,int e.prod.next,y] e.dv :=
 .cons (.refl _) (.cons (.refl _) (.cons (.refl _) (.cons (.refl _) (.cons (.refl _) (.cons hx (.cons (.refl _) (.cons (.refl _) (.cons (.refl _) (.cons (.refl _) (.cons (.refl _) (.cons (.refl _) (.cons (.refl _) (.cons (.refl _) (.cons (.refl _) (.cons (.refl _) (.cons (.refl _) (.cons hy .nil)))))))))))))))))
theorem aO6 (b:BatD) (yes:Bool) (next off:Int) (row:RowD) (prod:ProdD):aW Tryz.prog 107 [.agg (EntD.mk 0 b yes next off row prod).dv] (.agg (cI (EntD.mk 0 b yes next off row prod)).dv):=by
 (refine aW.of_bodyW Tryz.func107 rfl rfl Tryz.ntmps107 Tryz.results107 (by simp) ?_)
 (refine gO (@EntD.dv.eq_1) ?_)
 (refine aT ?_)
 exact⟨_,rfl,lU.agg (hP (EntD.mk 0 b false 0 0 iR dF) _ _ (.refl _) (.nil 3))⟩
theorem aO7 (b:BatD) (yes:Bool) (next off:Int) (row:RowD) (prod:ProdD):aW Tryz.prog 107 [.agg (EntD.mk 1 b yes next off row prod).dv] (.agg (cI (EntD.mk 1 b yes next off row prod)).dv):=by
 (refine aW.of_bodyW Tryz.func107 rfl rfl Tryz.ntmps107 Tryz.results107 (by simp) ?_)
 (refine gO (@EntD.dv.eq_1) ?_)
 (refine aT ?_)
 exact⟨_,rfl,lU.agg (hP (EntD.mk 1 ⟨b.pid,b.epoch,0,false,[]⟩ yes 0 0 iR dF) _ _ (.nil 2) (.nil 3))⟩
theorem aO8 (b:BatD) (yes:Bool) (next off:Int) (row:RowD) (prod:ProdD):aW Tryz.prog 107 [.agg (EntD.mk 2 b yes next off row prod).dv] (.agg (cI (EntD.mk 2 b yes next off row prod)).dv):=by
 (refine aW.of_bodyW Tryz.func107 rfl rfl Tryz.ntmps107 Tryz.results107 (by simp) ?_)
 (refine gO (@EntD.dv.eq_1) ?_)
 (refine aT ?_)
 exact⟨_,rfl,lU.agg (hP (EntD.mk 2 jD false 0 off iR dF) _ _ (.nil 2) (.nil 3))⟩
theorem aO9 (b:BatD) (yes:Bool) (next off:Int) (row:RowD) (prod:ProdD):aW Tryz.prog 107 [.agg (EntD.mk 3 b yes next off row prod).dv] (.agg (cI (EntD.mk 3 b yes next off row prod)).dv):=by
 (refine aW.of_bodyW Tryz.func107 rfl rfl Tryz.ntmps107 Tryz.results107 (by simp) ?_)
 cases yes
 ·(refine gO (@EntD.dv.eq_1) ?_)
  (refine aT ?_)
  exact⟨_,rfl,lU.agg (hP (EntD.mk 3 b false 0 0 iR dF) _ _ (.refl _) (.nil 3))⟩
 ·(refine gO (@EntD.dv.eq_1) ?_)
  (refine aT ?_)
  exact⟨_,rfl,lU.agg (hP (EntD.mk 3 b true next 0 iR dF) _ _ (.refl _) (.nil 3))⟩
theorem aOa (b:BatD) (yes:Bool) (next off:Int) (row:RowD) (prod:ProdD):aW Tryz.prog 107 [.agg (EntD.mk 4 b yes next off row prod).dv] (.agg (cI (EntD.mk 4 b yes next off row prod)).dv):=by
 (refine aW.of_bodyW Tryz.func107 rfl rfl Tryz.ntmps107 Tryz.results107 (by simp) ?_)
 (refine gO (@EntD.dv.eq_1) ?_)
 (refine aT ?_)
 exact⟨_,rfl,lU.agg (hP (EntD.mk 4 ⟨b.pid,b.epoch,0,false,[]⟩ false next 0 iR dF) _ _ (.nil 2) (.nil 3))⟩
theorem aOb (b:BatD) (yes:Bool) (next off:Int) (row:RowD) (prod:ProdD):aW Tryz.prog 107 [.agg (EntD.mk 5 b yes next off row prod).dv] (.agg (cI (EntD.mk 5 b yes next off row prod)).dv):=by
 (refine aW.of_bodyW Tryz.func107 rfl rfl Tryz.ntmps107 Tryz.results107 (by simp) ?_)
 (refine gO (@EntD.dv.eq_1) ?_)
 (refine aT ?_)
 exact⟨_,rfl,lU.agg (hP (EntD.mk 5 jD false 0 0 ⟨0,row.pid,row.seq,row.key,row.value⟩ dF) _ _ (.nil 2) (.nil 3))⟩
theorem aOc (b:BatD) (yes:Bool) (next off:Int) (row:RowD) (prod:ProdD):aW Tryz.prog 107 [.agg (EntD.mk 6 b yes next off row prod).dv] (.agg (cI (EntD.mk 6 b yes next off row prod)).dv):=by
 (refine aW.of_bodyW Tryz.func107 rfl rfl Tryz.ntmps107 Tryz.results107 (by simp) ?_)
 (refine gO (@EntD.dv.eq_1) ?_)
 (refine aT ?_)
 exact⟨_,rfl,lU.agg (hP (EntD.mk 6 jD false 0 0 iR prod) _ _ (.nil 2) (.refl _))⟩
theorem aOd (e:EntD) (hk:¬ (0≤e.kind∧e.kind<7)):aW Tryz.prog 107 [.agg e.dv] (.agg (cI e).dv):=by
 have hz:cI e=zE e.kind:=by
  unfold cI
  rw[if_neg (by omega),if_neg (by omega),if_neg (by omega),if_neg (by omega),if_neg (by omega),if_neg (by omega),if_neg (by omega)]
 rw[hz]
 have d0:(e.kind == 0)=false:=by simp;omega
 have d1:(e.kind == 1)=false:=by simp;omega
 have d2:(e.kind == 2)=false:=by simp;omega
 have d3:(e.kind == 3)=false:=by simp;omega
 have d4:(e.kind == 4)=false:=by simp;omega
 have d5:(e.kind == 5)=false:=by simp;omega
 have d6:(e.kind == 6)=false:=by simp;omega
 (refine aW.of_bodyW Tryz.func107 rfl rfl Tryz.ntmps107 Tryz.results107 (by simp) ?_)
 (refine gO (ai @EntD.dv.eq_1 (ai d0 (ai d1 (ai d2 (ai d3 (ai d4 (ai d5 (d6)))))))) ?_)
 (refine aT ?_)
 exact⟨_,rfl,lU.agg (hP (zE e.kind) _ _ (.nil 2) (.nil 3))⟩
theorem vU (e:EntD) (hs:SmallE e) (hr:e.b.recs.length≤100000) (hq:e.prod.seen.length≤100000):aW Tryz.prog 58 [.agg e.dv] (dM (aL e)):=by
 by_cases hk:¬ (0≤e.kind∧e.kind<7)
 ·have c1:=aOd e hk
  have c2:=aJp e (cI e) hs
  have ho:aL e=false:=by
   unfold aL
   cases h1:decide (0≤e.kind)<;>cases h2:decide (e.kind<7)<;>simp
   exact absurd ⟨of_decide_eq_true h1,of_decide_eq_true h2⟩ hk
  have d0:(e.kind == 0)=false:=by simp;omega
  have d1:(e.kind == 1)=false:=by simp;omega
  have d2:(e.kind == 2)=false:=by simp;omega
  have d3:(e.kind == 3)=false:=by simp;omega
  have d4:(e.kind == 4)=false:=by simp;omega
  have d5:(e.kind == 5)=false:=by simp;omega
  have d6:(e.kind == 6)=false:=by simp;omega
  rw[ho]
  generalize cI e=x at *
  obtain⟨k,b,yes,next,off,row,prod⟩:=e
  simp only[EntD.dv] at c1 c2 d0 d1 d2 d3 d4 d5 d6
  (refine aW.of_body Tryz.func58 rfl rfl Tryz.ntmps58 Tryz.results58 (by simp) ?_)
  cases hsm:decide ((⟨k,b,yes,next,off,row,prod⟩:EntD)=x)<;>rw[hsm] at c2<;>((refine gO (ai @EntD.dv.eq_1 (ai d0 (ai d1 (ai d2 (ai d3 (ai d4 (ai d5 (d6)))))))) ?_);(refine aT ?_;try with_reducible exact tt))
 ·have hk:0≤e.kind∧e.kind<7:=Decidable.not_not.1 hk
  have c2:=aJp e (cI e) hs
  obtain⟨k,b,yes,next,off,row,prod⟩:=e
  have hk7:k=0∨k=1∨k=2∨k=3∨k=4∨k=5∨k=6:=by simp only at hk;omega
  rcases hk7 with rfl|rfl|rfl|rfl|rfl|rfl|rfl
  ·have c1:=aO6 b yes next off row prod
   have c3:=tY b hr
   have hv:aL ⟨0,b,yes,next,off,row,prod⟩=(decide ((⟨0,b,yes,next,off,row,prod⟩:EntD)=cI ⟨0,b,yes,next,off,row,prod⟩) && dQ b):=by
    have he:decide ((⟨0,b,yes,next,off,row,prod⟩:EntD)=cI ⟨0,b,yes,next,off,row,prod⟩)=decide ((⟨0,jD,yes,next,off,row,prod⟩:EntD)=zE 0):=by
     apply decide_eq_decide.2;simp[cI,zE]
    rw[he,Bool.and_comm];simp[aL,nB]
   rw[hv]
   generalize cI ⟨0,b,yes,next,off,row,prod⟩=x at *
   simp only[EntD.dv,BatD.dv] at c1 c2 c3
   (refine aW.of_body Tryz.func58 rfl rfl Tryz.ntmps58 Tryz.results58 (by simp) ?_)
   cases hsm:decide ((⟨0,b,yes,next,off,row,prod⟩:EntD)=x)<;>rw[hsm] at c2<;>((refine gO (@EntD.dv.eq_1) ?_);(refine aT ?_;try with_reducible exact tt))
  ·have c1:=aO7 b yes next off row prod
   have c3:=oD b.pid b.epoch
   have hv:aL ⟨1,b,yes,next,off,row,prod⟩=(decide ((⟨1,b,yes,next,off,row,prod⟩:EntD)=cI ⟨1,b,yes,next,off,row,prod⟩) && dN b.pid b.epoch):=by
    have he:decide ((⟨1,b,yes,next,off,row,prod⟩:EntD)=cI ⟨1,b,yes,next,off,row,prod⟩)=decide ((⟨1,⟨0,0,b.seq,b.txn,b.recs⟩,false,next,off,row,prod⟩:EntD)=zE 1):=by
     obtain⟨b1,b2,b3,b4,b5⟩:=b
     apply decide_eq_decide.2;simp[cI,zE,jD]
    rw[he,Bool.and_comm];simp[aL,nB]
   rw[hv]
   generalize cI ⟨1,b,yes,next,off,row,prod⟩=x at *
   simp only[EntD.dv,BatD.dv] at c1 c2 c3
   (refine aW.of_body Tryz.func58 rfl rfl Tryz.ntmps58 Tryz.results58 (by simp) ?_)
   cases hsm:decide ((⟨1,b,yes,next,off,row,prod⟩:EntD)=x)<;>rw[hsm] at c2<;>((refine gO (@EntD.dv.eq_1) ?_);(refine aT ?_;try with_reducible exact tt))
  ·have c1:=aO8 b yes next off row prod
   have c3:=iM off 0 1048576
   have hv:aL ⟨2,b,yes,next,off,row,prod⟩=(decide ((⟨2,b,yes,next,off,row,prod⟩:EntD)=cI ⟨2,b,yes,next,off,row,prod⟩) && cC off 0 1048576):=by
    have he:decide ((⟨2,b,yes,next,off,row,prod⟩:EntD)=cI ⟨2,b,yes,next,off,row,prod⟩)=decide ((⟨2,b,yes,next,0,row,prod⟩:EntD)=zE 2):=by
     apply decide_eq_decide.2;simp[cI,zE]
    rw[he,Bool.and_comm];simp[aL,nB]
   rw[hv]
   generalize cI ⟨2,b,yes,next,off,row,prod⟩=x at *
   simp only[EntD.dv,BatD.dv] at c1 c2 c3
   (refine aW.of_body Tryz.func58 rfl rfl Tryz.ntmps58 Tryz.results58 (by simp) ?_)
   cases hsm:decide ((⟨2,b,yes,next,off,row,prod⟩:EntD)=x)<;>rw[hsm] at c2<;>((refine gO (@EntD.dv.eq_1) ?_);(refine aT ?_;try with_reducible exact tt))
  ·have c1:=aO9 b yes next off row prod
   have c3:=tY b hr
   have c4:=iM next 0 1048576
   have hv:aL ⟨3,b,yes,next,off,row,prod⟩=(decide ((⟨3,b,yes,next,off,row,prod⟩:EntD)=cI ⟨3,b,yes,next,off,row,prod⟩) && (dQ b && (b.txn && cC next 0 1048576))):=by
    cases yes with
    | true =>
     have he:decide ((⟨3,b,true,next,off,row,prod⟩:EntD)=cI ⟨3,b,true,next,off,row,prod⟩)=decide ((⟨3,jD,false,0,off,row,prod⟩:EntD)=zE 3):=by
      apply decide_eq_decide.2;simp[cI,zE]
     rw[he];simp[aL,nB]
     cases b.txn<;>cases cC next 0 1048576<;>cases dQ b<;>simp
    | false =>
     have he:decide ((⟨3,b,false,next,off,row,prod⟩:EntD)=cI ⟨3,b,false,next,off,row,prod⟩)=decide ((⟨3,jD,false,next,off,row,prod⟩:EntD)=zE 3):=by
      apply decide_eq_decide.2;simp[cI,zE]
     rw[he]
     cases hz:decide ((⟨3,jD,false,next,off,row,prod⟩:EntD)=zE 3) with
     | false=>simp only[aL,nB,Bool.false_eq_true,if_false];simp[hz]
     | true =>
      have h0:next=0:=by
       have:=of_decide_eq_true hz
       simp[zE] at this;exact this.1
      subst h0
      simp only[aL,nB,Bool.false_eq_true,if_false];simp[hz,cC]
      cases b.txn<;>cases dQ b<;>simp
   rw[hv]
   generalize cI ⟨3,b,yes,next,off,row,prod⟩=x at *
   simp only[EntD.dv,BatD.dv] at c1 c2 c3
   (refine aW.of_body Tryz.func58 rfl rfl Tryz.ntmps58 Tryz.results58 (by simp) ?_)
   cases hsm:decide ((⟨3,b,yes,next,off,row,prod⟩:EntD)=x)<;>rw[hsm] at c2
   ·(refine gO (@EntD.dv.eq_1) ?_)
    (refine aT ?_;try with_reducible exact tt)
   ·cases hb:dQ b<;>rw[hb] at c3
    ·(refine gO (@EntD.dv.eq_1) ?_)
     (refine aT ?_;try with_reducible exact tt)
    ·cases ht:b.txn<;>simp only[ht] at c1 c2 c3<;>((refine gO (ai @EntD.dv.eq_1 (ht)) ?_);(refine rO (ht) ?_;try with_reducible exact tt))
  ·have c1:=aOa b yes next off row prod
   have c3:=oD b.pid b.epoch
   have c4:=iM next 0 1048576
   have hv:aL ⟨4,b,yes,next,off,row,prod⟩=(decide ((⟨4,b,yes,next,off,row,prod⟩:EntD)=cI ⟨4,b,yes,next,off,row,prod⟩) && (dN b.pid b.epoch && cC next 0 1048576)):=by
    obtain⟨b1,b2,b3,b4,b5⟩:=b
    cases yes with
    | true =>
     have he:decide ((⟨4,⟨b1,b2,b3,b4,b5⟩,true,next,off,row,prod⟩:EntD)=cI ⟨4,⟨b1,b2,b3,b4,b5⟩,true,next,off,row,prod⟩)=false:=by
      apply decide_eq_false;simp[cI]
     rw[he];simp[aL,nB]
    | false =>
     have he:decide ((⟨4,⟨b1,b2,b3,b4,b5⟩,false,next,off,row,prod⟩:EntD)=cI ⟨4,⟨b1,b2,b3,b4,b5⟩,false,next,off,row,prod⟩)=decide ((⟨4,⟨0,0,b3,b4,b5⟩,false,0,off,row,prod⟩:EntD)=zE 4):=by
      apply decide_eq_decide.2;simp[cI,zE,jD]
     rw[he];simp only[aL,nB];simp
     cases dN b1 b2<;>cases cC next 0 1048576<;>simp
   rw[hv]
   generalize cI ⟨4,b,yes,next,off,row,prod⟩=x at *
   simp only[EntD.dv,BatD.dv] at c1 c2 c3
   (refine aW.of_body Tryz.func58 rfl rfl Tryz.ntmps58 Tryz.results58 (by simp) ?_)
   cases hsm:decide ((⟨4,b,yes,next,off,row,prod⟩:EntD)=x)<;>rw[hsm] at c2
   ·(refine gO (@EntD.dv.eq_1) ?_)
    (refine aT ?_;try with_reducible exact tt)
   ·cases hb:dN b.pid b.epoch<;>rw[hb] at c3<;>((refine gO (@EntD.dv.eq_1) ?_);(refine aT ?_;try with_reducible exact tt))
  ·have c1:=aOb b yes next off row prod
   have c3:=aD9 row
   have hv:aL ⟨5,b,yes,next,off,row,prod⟩=(decide ((⟨5,b,yes,next,off,row,prod⟩:EntD)=cI ⟨5,b,yes,next,off,row,prod⟩) && sM row):=by
    obtain⟨r1,r2,r3,r4,r5⟩:=row
    have he:decide ((⟨5,b,yes,next,off,⟨r1,r2,r3,r4,r5⟩,prod⟩:EntD)=cI ⟨5,b,yes,next,off,⟨r1,r2,r3,r4,r5⟩,prod⟩)=(decide ((⟨5,b,yes,next,off,iR,prod⟩:EntD)=zE 5) && (r1 == 0)):=by
     rw[Bool.eq_iff_iff];simp[cI,zE]
     constructor
     ·rintro⟨a1,a2,a3,a4,a5,a6⟩;exact⟨⟨a1,a2,a3,a4,a6⟩,a5⟩
     ·rintro⟨⟨a1,a2,a3,a4,a6⟩,a5⟩;exact⟨a1,a2,a3,a4,a5,a6⟩
    have hm:nF ⟨r1,r2,r3,r4,r5⟩=((r1 == 0) && sM ⟨r1,r2,r3,r4,r5⟩):=by
     rw[Bool.eq_iff_iff]
     simp only[nF,sM,dN,cC,Bool.and_eq_true,beq_iff_eq,decide_eq_true_eq]
     constructor
     ·rintro⟨⟨⟨⟨⟨a1,a2⟩,a3⟩,a4⟩,a5⟩,a6⟩;exact⟨a1,⟨⟨⟨a2.1.1.1,a2.1.1.2⟩,a3,by omega⟩,a5⟩,a6⟩
     ·rintro⟨a1,⟨⟨⟨a2,a3⟩,a4,a5⟩,a6⟩,a7⟩;exact⟨⟨⟨⟨⟨a1,⟨⟨⟨a2,a3⟩,by omega⟩,by omega⟩⟩,a4⟩,by omega⟩,a6⟩,a7⟩
    rw[he];simp only[aL,nB];simp[hm]
    cases (r1 == 0)<;>cases sM ⟨r1,r2,r3,r4,r5⟩<;>simp
   rw[hv]
   generalize cI ⟨5,b,yes,next,off,row,prod⟩=x at *
   simp only[EntD.dv,RowD.dv] at c1 c2 c3
   (refine aW.of_body Tryz.func58 rfl rfl Tryz.ntmps58 Tryz.results58 (by simp) ?_)
   cases hsm:decide ((⟨5,b,yes,next,off,row,prod⟩:EntD)=x)<;>rw[hsm] at c2<;>((refine gO (@EntD.dv.eq_1) ?_);(refine aT ?_;try with_reducible exact tt))
  ·have c1:=aOc b yes next off row prod
   have c3:=aAr prod hq
   have hv:aL ⟨6,b,yes,next,off,row,prod⟩=(decide ((⟨6,b,yes,next,off,row,prod⟩:EntD)=cI ⟨6,b,yes,next,off,row,prod⟩) && bC prod):=by
    have he:decide ((⟨6,b,yes,next,off,row,prod⟩:EntD)=cI ⟨6,b,yes,next,off,row,prod⟩)=decide ((⟨6,b,yes,next,off,row,dF⟩:EntD)=zE 6):=by
     apply decide_eq_decide.2;simp[cI,zE]
    rw[he,Bool.and_comm];simp[aL,nB]
   rw[hv]
   generalize cI ⟨6,b,yes,next,off,row,prod⟩=x at *
   simp only[EntD.dv,ProdD.dv] at c1 c2 c3
   (refine aW.of_body Tryz.func58 rfl rfl Tryz.ntmps58 Tryz.results58 (by simp) ?_)
   cases hsm:decide ((⟨6,b,yes,next,off,row,prod⟩:EntD)=x)<;>rw[hsm] at c2<;>((refine gO (@EntD.dv.eq_1) ?_);(refine aT ?_;try with_reducible exact tt))

structure PSmall (p:PartD):Prop where
 fin:0≤p.fin∧p.fin≤1048576
 opens:p.opens.length≤1000
 rows:p.rows.length≤100000
 prods:SmallL p.prods
 bats:∀ o ∈ p.opens,o.bats.length≤8
 recs:∀ o ∈ p.opens,∀ b ∈ o.bats,b.recs.length≤4
theorem FOk.ps {k:Nat} {p:PartD} (h:FOk k p) (hk:k≤1000):PSmall p:=⟨h.fin,by have:=h.opens;omega,by have:=h.rows;omega,h.small (by omega),h.bats,h.recs⟩
theorem zG (a b:List RowD) (hl:a.length≤1000000):aW Tryz.prog 55 [.lst 5 (a.map RowD.dv),.lst 5 (b.map RowD.dv)] (dM (decide (a=b))):=by
 (refine aW.of_body Tryz.func55 rfl rfl Tryz.ntmps55 Tryz.results55 (by simp) ?_)
 by_cases hlen:a.length=b.length
 ·have hne:((a.length:Int) != (b.length:Int))=false:=by simp[hlen]
  (refine gO (hne) ?_)
  refine Wp.loop (fun k:Nat=>⟨iH [(0,.c (.d (.lst 5 (a.map RowD.dv)))),(1,.c (.d (.lst 5 (b.map RowD.dv)))),(5,vi .i64 k)],bI [],0,26,0⟩) (fun k=>k≤a.length∧a.take k=b.take k) (fun k=>a.length - k) 0 ⟨Nat.zero_le _,rfl⟩ ?_ ?_
  ·refine aD.keep rfl rfl ?_
   (refine aT ?_;try with_reducible exact tt)
  rintro k ⟨hk,hall⟩
  (refine bP ?_)
  refine Wp.cond (by (refine aT ?_);rfl) (fun h=>?_) (fun h=>?_)
  ·have hlt:k<a.length:=by simpa using h
   have hlt2:k<b.length:=by omega
   have g1:a[k]? = some a[k]:=List.getElem?_eq_getElem hlt
   have g2:b[k]? = some b[k]:=List.getElem?_eq_getElem hlt2
   have t1:=aV a k hlt
   have t2:=aV b k hlt2
   have hne:a[k]≠b[k]→¬ a=b:=fun hx e=>by subst e;exact hx rfl
   generalize a[k]=x at *
   generalize b[k]=y at *
   (refine gO (ai g1 (ai g2 (ai @RowD.dv.eq_1 (zR)))) ?_)
   refine Wp.cond (by (refine aT ?_);rfl) (fun h=>?_) (fun h=>?_)
   ·have hf:decide (a=b)=false:=decide_eq_false (hne (by simpa using h))
    (refine bP ?_)
    (refine rO (hf) ?_;try with_reducible exact tt)
   ·simp only[Bool.not_eq_false',decide_eq_true_eq] at h
    (refine bP ?_)
    refine⟨k+1,⟨by omega,by rw[t1,t2,hall,h]⟩,by omega,aD.keep rfl rfl ?_⟩
    (refine aT ?_;try with_reducible exact tt)
  ·have hk:k=a.length:=by simp only[decide_eq_false_iff_not] at h;omega
   have hf:decide (a=b)=true:=by
    rw[List.take_of_length_le (by omega),List.take_of_length_le (by omega)] at hall;simp[hall]
   (refine bP ?_)
   (refine rO (hf) ?_;try with_reducible exact tt)
 ·have hne:((a.length:Int) != (b.length:Int))=true:=by simp;omega
  have hf:decide (a=b)=false:=decide_eq_false (fun e=>hlen (by rw[e]))
  (refine gO (hne) ?_)
  (refine rO (hf) ?_;try with_reducible exact tt)
def tT (x y:OpenD):Bool:=x.pid != y.pid || x.epoch != y.epoch || (x.bats.length:Int) != (y.bats.length:Int)
structure SmallOs (l:List OpenD):Prop where
 len:l.length≤100000
 bats:∀ o ∈ l,o.bats.length≤100000
 recs:∀ o ∈ l,∀ b ∈ o.bats,b.recs.length≤100000
theorem aGq (a b:List OpenD) (hs:SmallOs a):aW Tryz.prog 32 [.lst 3 (a.map OpenD.dv),.lst 3 (b.map OpenD.dv)] (dM (decide (a=b))):=by
 have hl:=hs.len
 (refine aW.of_body Tryz.func32 rfl rfl Tryz.ntmps32 Tryz.results32 (by simp) ?_)
 by_cases hlen:a.length=b.length
 ·have hne:((a.length:Int) != (b.length:Int))=false:=by simp[hlen]
  (refine gO (hne) ?_)
  refine Wp.loop (fun k:Nat=>⟨iH [(0,.c (.d (.lst 3 (a.map OpenD.dv)))),(1,.c (.d (.lst 3 (b.map OpenD.dv)))),(5,vi .i64 k)],bI [],0,85,0⟩) (fun k=>k≤a.length∧a.take k=b.take k) (fun k=>a.length - k) 0 ⟨Nat.zero_le _,rfl⟩ ?_ ?_
  ·refine aD.keep rfl rfl ?_
   (refine aT ?_;try with_reducible exact tt)
  rintro k ⟨hk,hall⟩
  (refine bP ?_)
  refine Wp.cond (by (refine aT ?_);rfl) (fun h=>?_) (fun h=>?_)
  ·have hlt:k<a.length:=by simpa using h
   have hlt2:k<b.length:=by omega
   have g1:a[k]? = some a[k]:=List.getElem?_eq_getElem hlt
   have g2:b[k]? = some b[k]:=List.getElem?_eq_getElem hlt2
   have t1:=aV a k hlt
   have t2:=aV b k hlt2
   have hne:a[k]≠b[k]→¬ a=b:=fun hx e=>by subst e;exact hx rfl
   have hb1:=hs.bats _ (List.getElem_mem hlt)
   have hb2:=hs.recs _ (List.getElem_mem hlt)
   generalize a[k]=x at *
   generalize b[k]=y at *
   (refine bP ?_)
   (first|refine Wp.stoD 56 (vb (tT x y)) aI ?_ ?_|refine Wp.rtoDS 56 (vb (tT x y)) aI ?_ ?_|(refine Wp.seq ?_;first|refine Wp.stoD 56 (vb (tT x y)) aI ?_ ?_|refine Wp.rtoDS 56 (vb (tT x y)) aI ?_ ?_))
   ·unfold tT;((rcases Bool.eq_false_or_eq_true (x.pid != y.pid) with hL1|hL1)<;>(rcases Bool.eq_false_or_eq_true (x.epoch != y.epoch) with hL2|hL2)<;>(rcases Bool.eq_false_or_eq_true ((x.bats.length:Int) != (y.bats.length:Int)) with hL3|hL3)<;>(((refine rO (ai hL1 (ai hL2 (ai hL3 (ai @OpenD.dv.eq_1 (ai g1 (g2)))))) ?_);(repeat (refine dB (by assumption) ?_;(refine rO (ai hL1 (ai hL2 (ai hL3 (ai @OpenD.dv.eq_1 (ai g1 (g2)))))) ?_))));all_goals (exact (show bE _ _=true by kernel_rfl))))
   refine Wp.cond (by (refine aT ?_);rfl) (fun h=>?_) (fun h=>?_)
   ·have hf:decide (a=b)=false:=by
     refine decide_eq_false (hne (fun e=>?_))
     subst e
     simp[tT] at h
    (refine bP ?_)
    (refine rO (hf) ?_;try with_reducible exact tt)
   simp only[tT,Bool.or_eq_false_iff,bne_eq_false_iff_eq] at h
   obtain⟨⟨h1,h2⟩,h3⟩:=h
   have hbl:x.bats.length=y.bats.length:=by omega
   (refine bP ?_)
   refine Wp.loop (fun j:Nat=>⟨iH [(0,.c (.d (.lst 3 (a.map OpenD.dv)))),(1,.c (.d (.lst 3 (b.map OpenD.dv)))),(5,vi .i64 k),(6,vi .i64 j)],bI [],0,85,0⟩) (fun j=>j≤x.bats.length∧x.bats.take j=y.bats.take j) (fun j=>x.bats.length - j) 0 ⟨Nat.zero_le _,rfl⟩ ?_ ?_
   ·refine aD.keep rfl rfl ?_
    (refine aT ?_;try with_reducible exact tt)
   rintro j ⟨hj,hallj⟩
   (refine gO (ai g1 (@OpenD.dv.eq_1)) ?_)
   refine Wp.cond (by (refine aT ?_);rfl) (fun h=>?_) (fun h=>?_)
   ·have hjlt:j<x.bats.length:=by simpa using h
    have hjlt2:j<y.bats.length:=by omega
    have gj1:x.bats[j]? = some x.bats[j]:=List.getElem?_eq_getElem hjlt
    have gj2:y.bats[j]? = some y.bats[j]:=List.getElem?_eq_getElem hjlt2
    have s1:=aV x.bats j hjlt
    have s2:=aV y.bats j hjlt2
    have hnej:x.bats[j]≠y.bats[j]→¬ x=y:=fun hx e=>by subst e;exact hx rfl
    have c1:=nY x.bats[j] y.bats[j] (by have:=hb2 _ (List.getElem_mem hjlt);omega)
    generalize x.bats[j]=u at *
    generalize y.bats[j]=v at *
    simp only[BatD.dv] at c1
    (refine gO (ai g1 (ai g2 (ai gj1 (ai gj2 (ai @OpenD.dv.eq_1 (@BatD.dv.eq_1)))))) ?_)
    refine Wp.cond (by (refine aT ?_);rfl) (fun h=>?_) (fun h=>?_)
    ·have hf:decide (a=b)=false:=decide_eq_false (hne (hnej (by simpa using h)))
     (refine bP ?_)
     (refine rO (hf) ?_;try with_reducible exact tt)
    ·simp only[Bool.not_eq_false',decide_eq_true_eq] at h
     (refine bP ?_)
     refine⟨j+1,⟨by omega,by rw[s1,s2,hallj,h]⟩,by omega,aD.keep rfl rfl ?_⟩
     (refine aT ?_;try with_reducible exact tt)
   ·have hj:j=x.bats.length:=by simp only[decide_eq_false_iff_not] at h;omega
    have hxy:x=y:=by
     rw[List.take_of_length_le (by omega),List.take_of_length_le (by omega)] at hallj
     obtain⟨x1,x2,x3⟩:=x
     obtain⟨y1,y2,y3⟩:=y
     simp only at h1 h2 hallj
     subst h1 h2 hallj
     rfl
    (refine bP ?_)
    refine⟨k+1,⟨by omega,by rw[t1,t2,hall,hxy]⟩,by omega,aD.keep rfl rfl ?_⟩
    (refine aT ?_;try with_reducible exact tt)
  ·have hk:k=a.length:=by simp only[decide_eq_false_iff_not] at h;omega
   have hf:decide (a=b)=true:=by
    rw[List.take_of_length_le (by omega),List.take_of_length_le (by omega)] at hall;simp[hall]
   (refine bP ?_)
   (refine rO (hf) ?_;try with_reducible exact tt)
 ·have hne:((a.length:Int) != (b.length:Int))=true:=by simp;omega
  have hf:decide (a=b)=false:=decide_eq_false (fun e=>hlen (by rw[e]))
  (refine gO (hne) ?_)
  (refine rO (hf) ?_;try with_reducible exact tt)
def tU (p q:PartD):Bool:=p.start != q.start || p.fin != q.fin || !decide (p.rows=q.rows) || !decide (p.opens=q.opens)
theorem aPq (p q:PartD):decide (p=q)=(!tU p q && decide (p.prods=q.prods)):=by
 obtain⟨a1,a2,a3,a4,a5⟩:=p
 obtain⟨b1,b2,b3,b4,b5⟩:=q
 rw[Bool.eq_iff_iff]
 simp[tU]
 constructor
 ·rintro⟨h1,h2,h3,h4,h5⟩;exact⟨⟨⟨⟨h1,h2⟩,h3⟩,h4⟩,h5⟩
 ·rintro⟨⟨⟨⟨h1,h2⟩,h3⟩,h4⟩,h5⟩;exact⟨h1,h2,h3,h4,h5⟩
theorem aGr (p q:PartD) (hr:p.rows.length≤1000000) (ho:SmallOs p.opens) (hs:SmallL p.prods):aW Tryz.prog 25 [.agg p.dv,.agg q.dv] (dM (decide (p=q))):=by
 have c1:=zG p.rows q.rows hr
 have c2:=aGq p.opens q.opens ho
 have c3:=aM4 p.prods q.prods hs
 rw[aPq]
 (refine aW.of_body Tryz.func25 rfl rfl Tryz.ntmps25 Tryz.results25 (by simp) ?_)
 (refine gO (@PartD.dv.eq_1) ?_)
 (first|refine Wp.sto 32 (vb (tU p q)) ?_ ?_|refine Wp.rtoS 32 (vb (tU p q)) ?_ ?_|(refine Wp.seq ?_;first|refine Wp.sto 32 (vb (tU p q)) ?_ ?_|refine Wp.rtoS 32 (vb (tU p q)) ?_ ?_))
 ·unfold tU;((rcases Bool.eq_false_or_eq_true (p.start != q.start) with hL1|hL1)<;>(rcases Bool.eq_false_or_eq_true (p.fin != q.fin) with hL2|hL2)<;>(rcases Bool.eq_false_or_eq_true (!decide (p.rows=q.rows)) with hL3|hL3)<;>(rcases Bool.eq_false_or_eq_true (!decide (p.opens=q.opens)) with hL4|hL4)<;>(((refine rO (ai hL1 (ai hL2 (ai hL3 (ai hL4 (@PartD.dv.eq_1))))) ?_;try with_reducible exact tt);(repeat (refine dB (by assumption) ?_;(refine rO (ai hL1 (ai hL2 (ai hL3 (ai hL4 (@PartD.dv.eq_1))))) ?_;try with_reducible exact tt))));all_goals (exact (show bE _ _=true by kernel_rfl))))
 refine Wp.cond (by (refine aT ?_);rfl) (fun h=>?_) (fun h=>?_)
 ·(refine bP ?_)
  (refine rO (h) ?_;try with_reducible exact tt)
 ·(refine gO (@PartD.dv.eq_1) ?_)
  (refine rO (h) ?_;try with_reducible exact tt)

end Go.Proofs.YtpklhnpchhaccaaGreatDoor
