/- The abstract machine (LwC, LwD). -/
import Derived.Test.YtkmfmphpndhkjaaGreatDoorRsMj
namespace Go.Proofs.YtkmfmphpndhkjaaGreatDoor
open Go Go.RowKit
set_option maxHeartbeats 16000000
set_option maxRecDepth 100000
set_option linter.unusedVariables false
set_option linter.unusedSimpArgs false
def zpC:List CV:=[.d (int 0),.d (int 0),.d bU,.d bU,.d bU]
def mv1 (p:PartD) (odd:Int) (k:Nat):St:=⟨dI [(1,vi .i64 odd),(2,.c (.own 0 0)),(4,.c (.own 1 0)),(5,.c (.own 2 0)),(24,.c (.d (.lst 5 (p.rows.map RowD.dv)))),(25,vi .i64 p.rows.length),(26,vi .i64 k)],bJ [(0,.cells (p.dv.map .d)),(1,.cells zpC),(2,.cells [.d (int (2*p.start)),.d (int (2*p.fin)),.app 9 5 (((p.rows.take k).map (aAu odd)).map RowD.dv),.d (.lst 3 (p.opens.map OpenD.dv)),.d (.lst 4 (p.prods.map ProdD.dv))]),(9,.row 47 5 k)],20,80,0⟩
def mv2 (p:PartD) (odd:Int) (k:Nat):St:=⟨dI [(1,vi .i64 odd),(2,.c (.own 0 0)),(4,.c (.own 1 0)),(5,.c (.own 2 0)),(45,.c (.d (.lst 4 (p.prods.map ProdD.dv)))),(46,vi .i64 p.prods.length),(47,vi .i64 k)],bJ [(0,.cells (p.dv.map .d)),(1,.cells zpC),(2,.cells [.d (int (2*p.start)),.d (int (2*p.fin)),.app 9 5 ((p.rows.map (aAu odd)).map RowD.dv),.d (.lst 3 (p.opens.map OpenD.dv)),.app 10 4 (((p.prods.take k).map lA).map ProdD.dv)]),(9,.row 47 5 p.rows.length),(10,.row 71 4 k)],20,80,0⟩
def mv3 (p:PartD) (odd:Int) (k:Nat) (q:ProdD) (j:Nat):St:=⟨dI [(1,vi .i64 odd),(2,.c (.own 0 0)),(4,.c (.own 1 0)),(5,.c (.own 2 0)),(45,.c (.d (.lst 4 (p.prods.map ProdD.dv)))),(46,vi .i64 p.prods.length),(47,vi .i64 k),(9,.c (.own 20 0)),(10,.c (.app 11 3 (((q.seen.take j).map lB).map SeenD.dv))),(52,.c (.d (.lst 3 (q.seen.map SeenD.dv)))),(53,vi .i64 q.seen.length),(54,vi .i64 j)],bJ [(0,.cells (p.dv.map .d)),(1,.cells zpC),(2,.cells [.d (int (2*p.start)),.d (int (2*p.fin)),.app 9 5 ((p.rows.map (aAu odd)).map RowD.dv),.d (.lst 3 (p.opens.map OpenD.dv)),.app 10 4 (((p.prods.take k).map lA).map ProdD.dv)]),(20,.cells (q.dv.map .d)),(9,.row 47 5 p.rows.length),(10,.row 71 4 k),(11,.row 83 3 j)],40,80,0⟩
theorem xD (p:PartD) (odd:Int) (ho:odd=0∨odd=1) (hs:SmallP p) (hB:bB p=true) (hf:p.fin≤1000) (hb:∀ x ∈ p.prods,∀ s ∈ x.seen,-1≤s.base∧s.base≤1048576):aJ Tryz.prog 14 [.agg p.dv,int odd] (.agg (aX odd p).dv):=by
 have hr:=jI hB
 have hrr:=oW hB
 have hl:=hs.rows
 have w1:IntKind.i64.wrap (2*p.start)=2*p.start:=aG (by omega)
 have w2:IntKind.i64.wrap (2*p.fin)=2*p.fin:=aG (by omega)
 (refine aJ.of_bodyW Tryz.func14 rfl rfl Tryz.ntmps14 Tryz.results14 (by simp) ?_)
 (refine gO (ai @PartD.dv.eq_1 (ai w1 (w2))) ?_;try with_reducible exact tt)
 refine Wp.loop (mv1 p odd) (fun k=>k≤p.rows.length) (fun k=>p.rows.length - k) 0 (Nat.zero_le _) ?_ ?_
 ·refine aD.trans (aD.nilAppCell (id:=2) (k:=2) (τ:=9) 47 5 (by decide) (by (refine aK ?_;try with_reducible exact tt)) (by (refine aK ?_;try with_reducible exact tt);rfl) (by (refine aK ?_;try with_reducible exact tt))) (aD.keep rfl rfl ?_)
  simp (maxSteps:=2000000) (disch:=omega) only[bF,aL,SV.ofD,Nat.reduceBEq,zpC,PartD.dv,List.set_cons_succ,List.set_cons_zero]
 ·intro k hk
  by_cases hlt:k<p.rows.length
  ·have dk:decide ((k:Int)<(p.rows.length:Int))=true:=decide_eq_true (by omega)
   have g1:p.rows[k]? = some p.rows[k]:=List.getElem?_eq_getElem hlt
   have hwk:IntKind.i64.wrap ((k:Int)+1)=((k+1:Nat):Int):=by rw[aG (by omega)];rfl
   have htk:=aF p.rows k hlt
   have hx:=hrr _ (List.getElem_mem hlt)
   have hbb:(k+1)*56≤140737488355328:=by omega
   have htl:(p.rows.take k).length=k:=by simp;omega
   generalize p.rows[k]=r at *
   have w3:IntKind.i64.wrap (2*r.off)=2*r.off:=aG (by omega)
   have w4:IntKind.i64.wrap (2*r.off+odd)=2*r.off+odd:=aG (by omega)
   (repeat (first|apply Wp.skip|apply Wp.exit|apply Wp.ret|apply Wp.block|apply Wp.label|((first|refine Wp.sreg (fun K hK=>?_)|refine Wp.reg (fun K hK=>?_)|refine Wp.sdrw aA (fun K hK=>?_)|refine Wp.drw aA (fun K hK=>?_)|refine Wp.condG (fun K hK hF=>?_));(repeat (revert hK;intro hK;simp (maxSteps:=2000000) (disch:=omega) only[bF,TY,aL,bQ,cD,bW,cF,bX,dO,CV.exact,CV.lstOf,CV.one,D.one,Value.oneCell',CV.toD0,Nat.reduceBEq,Nat.reduceAdd,Nat.reduceMul,Nat.reduceLT,Nat.reduceLeDiff,mv1,zpC,dk,g1,PartD.dv,RowD.dv,htl,hbb,w3,w4];(first|(refine hK _ ?_;clear hK K)|(refine⟨by kernel_rfl,hK _ ?_⟩;clear hK K)|(refine hK ?_;clear hK hF K)|(refine hF ?_;clear hK hF K)|refine aQ (by assumption) ?_|refine gJ (by assumption) ?_)));fail_if_success (revert hK;intro hK))|apply Wp.seq))
   refine⟨k+1,by omega,by omega,aD.keep rfl rfl ?_⟩
   simp (maxSteps:=2000000) (disch:=omega) only[bF,aL,Nat.reduceBEq,zpC,PartD.dv,htk,List.map_append,RowD.dv,aAu]
  have hk2:k=p.rows.length:=by omega
  subst hk2
  have dk:decide ((p.rows.length:Int)<(p.rows.length:Int))=false:=decide_eq_false (by omega)
  (repeat (first|apply Wp.skip|apply Wp.exit|apply Wp.ret|apply Wp.block|apply Wp.label|((first|refine Wp.sreg (fun K hK=>?_)|refine Wp.reg (fun K hK=>?_)|refine Wp.sdrw aA (fun K hK=>?_)|refine Wp.drw aA (fun K hK=>?_)|refine Wp.condG (fun K hK hF=>?_));(repeat (revert hK;intro hK;simp (maxSteps:=2000000) (disch:=omega) only[bF,TY,aL,bQ,cD,bW,cF,bX,bK,dO,CV.lenOf,CV.one,D.one,Value.oneCell',Nat.reduceBEq,Nat.reduceAdd,Nat.reduceLT,mv1,zpC,dk,PartD.dv,List.take_length];(first|(refine hK _ ?_;clear hK K)|(refine⟨by kernel_rfl,hK _ ?_⟩;clear hK K)|(refine hK ?_;clear hK hF K)|(refine hF ?_;clear hK hF K)|refine aQ (by assumption) ?_|refine gJ (by assumption) ?_)));fail_if_success (revert hK;intro hK))|apply Wp.seq))
  refine Wp.loop (mv2 p odd) (fun k=>k≤p.prods.length) (fun k=>p.prods.length - k) 0 (Nat.zero_le _) ?_ ?_
  ·refine aD.trans (aD.nilAppCell (id:=2) (k:=4) (τ:=10) 71 4 (by decide) (by (refine aK ?_;try with_reducible exact tt)) (by (refine aK ?_;try with_reducible exact tt);rfl) (by (refine aK ?_;try with_reducible exact tt))) (aD.keep rfl rfl ?_)
   simp (maxSteps:=2000000) (disch:=omega) only[bF,aL,Nat.reduceBEq,zpC,PartD.dv,List.set_cons_succ,List.set_cons_zero]
  intro k hk
  by_cases hlt:k<p.prods.length
  ·have hlp:=hs.prods.len
   have dk:decide ((k:Int)<(p.prods.length:Int))=true:=decide_eq_true (by omega)
   have g1:p.prods[k]? = some p.prods[k]:=List.getElem?_eq_getElem hlt
   have hwk:IntKind.i64.wrap ((k:Int)+1)=((k+1:Nat):Int):=by rw[aG (by omega)];rfl
   have htk:=aF p.prods k hlt
   have hx:=hb _ (List.getElem_mem hlt)
   have hsl:=hs.prods.seen _ (List.getElem_mem hlt)
   have hbb:(k+1)*48≤140737488355328:=by omega
   have htl:(p.prods.take k).length=k:=by simp;omega
   generalize p.prods[k]=q at *
   (repeat (first|apply Wp.skip|apply Wp.exit|apply Wp.ret|apply Wp.block|apply Wp.label|((first|refine Wp.sreg (fun K hK=>?_)|refine Wp.reg (fun K hK=>?_)|refine Wp.sdrw aA (fun K hK=>?_)|refine Wp.drw aA (fun K hK=>?_)|refine Wp.condG (fun K hK hF=>?_));(repeat (revert hK;intro hK;simp (maxSteps:=2000000) (disch:=omega) only[bF,TY,aL,bQ,cD,bW,cF,bX,bK,dO,CV.exact,CV.lstOf,CV.lenOf,Value.oneCell',Nat.reduceBEq,Nat.reduceAdd,Nat.reduceLT,mv2,zpC,dk,g1,PartD.dv,ProdD.dv];(first|(refine hK _ ?_;clear hK K)|(refine⟨by kernel_rfl,hK _ ?_⟩;clear hK K)|(refine hK ?_;clear hK hF K)|(refine hF ?_;clear hK hF K)|refine aQ (by assumption) ?_|refine gJ (by assumption) ?_)));fail_if_success (revert hK;intro hK))|apply Wp.seq))
   refine Wp.loop (mv3 p odd k q) (fun j=>j≤q.seen.length) (fun j=>q.seen.length - j) 0 (Nat.zero_le _) ?_ ?_
   ·refine aD.trans (aD.nilApp (t:=10) (τ:=11) 83 3 (by (refine aK ?_;try with_reducible exact tt)) (by (refine aK ?_;try with_reducible exact tt))) (aD.keep rfl rfl ?_)
    simp (maxSteps:=2000000) (disch:=omega) only[bF,aL,Nat.reduceBEq,zpC,PartD.dv,ProdD.dv]
   intro j hj
   by_cases hltj:j<q.seen.length
   ·have dj:decide ((j:Int)<(q.seen.length:Int))=true:=decide_eq_true (by omega)
    have g2:q.seen[j]? = some q.seen[j]:=List.getElem?_eq_getElem hltj
    have hwj:IntKind.i64.wrap ((j:Int)+1)=((j+1:Nat):Int):=by rw[aG (by omega)];rfl
    have htj:=aF q.seen j hltj
    have hy:=hx _ (List.getElem_mem hltj)
    have hbc:(j+1)*24≤140737488355328:=by omega
    have htm:(q.seen.take j).length=j:=by simp;omega
    generalize q.seen[j]=z at *
    have w5:IntKind.i64.wrap (2*z.base)=2*z.base:=aG (by omega)
    (repeat (first|apply Wp.skip|apply Wp.exit|apply Wp.ret|apply Wp.block|apply Wp.label|((first|refine Wp.sreg (fun K hK=>?_)|refine Wp.reg (fun K hK=>?_)|refine Wp.sdrw aA (fun K hK=>?_)|refine Wp.drw aA (fun K hK=>?_)|refine Wp.condG (fun K hK hF=>?_));(repeat (revert hK;intro hK;simp (maxSteps:=2000000) (disch:=omega) only[bF,TY,aL,bQ,cD,bW,cF,bX,CV.exact,CV.lstOf,Value.oneCell',Nat.reduceBEq,Nat.reduceAdd,Nat.reduceLT,mv3,zpC,dj,g2,PartD.dv,ProdD.dv,SeenD.dv];(first|(refine hK _ ?_;clear hK K)|(refine⟨by kernel_rfl,hK _ ?_⟩;clear hK K)|(refine hK ?_;clear hK hF K)|(refine hF ?_;clear hK hF K)|refine aQ (by assumption) ?_|refine gJ (by assumption) ?_)));fail_if_success (revert hK;intro hK))|apply Wp.seq))
    refine Wp.cond (by (refine aK ?_;try with_reducible exact tt);rfl) (fun h=>?_) (fun h=>?_)
    ·have hm:lB z = { z with base:=2*z.base }:=by unfold lB;rw[if_pos (by simpa using h)]
     (repeat (first|apply Wp.skip|apply Wp.exit|apply Wp.ret|apply Wp.block|apply Wp.label|((first|refine Wp.sreg (fun K hK=>?_)|refine Wp.reg (fun K hK=>?_)|refine Wp.sdrw aA (fun K hK=>?_)|refine Wp.drw aA (fun K hK=>?_)|refine Wp.condG (fun K hK hF=>?_));(repeat (revert hK;intro hK;simp (maxSteps:=2000000) (disch:=omega) only[bF,TY,aL,bQ,cD,bW,cF,bX,dO,CV.lstOf,CV.one,D.one,Value.oneCell',CV.toD0,Nat.reduceBEq,Nat.reduceAdd,Nat.reduceMul,Nat.reduceLT,Nat.reduceLeDiff,htm,hbc,w5];(first|(refine hK _ ?_;clear hK K)|(refine⟨by kernel_rfl,hK _ ?_⟩;clear hK K)|(refine hK ?_;clear hK hF K)|(refine hF ?_;clear hK hF K)|refine aQ (by assumption) ?_|refine gJ (by assumption) ?_)));fail_if_success (revert hK;intro hK))|apply Wp.seq))
     refine⟨j+1,by omega,by omega,aD.keep rfl rfl ?_⟩
     simp (maxSteps:=2000000) (disch:=omega) only[bF,aL,Nat.reduceBEq,zpC,PartD.dv,ProdD.dv,SeenD.dv,htj,hm,List.map_append]
    ·have hm:lB z=z:=by unfold lB;rw[if_neg (by simpa using h)]
     (repeat (first|apply Wp.skip|apply Wp.exit|apply Wp.ret|apply Wp.block|apply Wp.label|((first|refine Wp.sreg (fun K hK=>?_)|refine Wp.reg (fun K hK=>?_)|refine Wp.sdrw aA (fun K hK=>?_)|refine Wp.drw aA (fun K hK=>?_)|refine Wp.condG (fun K hK hF=>?_));(repeat (revert hK;intro hK;simp (maxSteps:=2000000) (disch:=omega) only[bF,TY,aL,bQ,cD,bW,dO,CV.lstOf,Value.oneCell',CV.toD0,Nat.reduceBEq,Nat.reduceAdd,Nat.reduceMul,Nat.reduceLT,Nat.reduceLeDiff,htm,hbc];(first|(refine hK _ ?_;clear hK K)|(refine⟨by kernel_rfl,hK _ ?_⟩;clear hK K)|(refine hK ?_;clear hK hF K)|(refine hF ?_;clear hK hF K)|refine aQ (by assumption) ?_|refine gJ (by assumption) ?_)));fail_if_success (revert hK;intro hK))|apply Wp.seq))
     refine⟨j+1,by omega,by omega,aD.keep rfl rfl ?_⟩
     simp (maxSteps:=2000000) (disch:=omega) only[bF,aL,Nat.reduceBEq,zpC,PartD.dv,ProdD.dv,SeenD.dv,htj,hm,List.map_append]
   have hj2:j=q.seen.length:=by omega
   subst hj2
   have dj:decide ((q.seen.length:Int)<(q.seen.length:Int))=false:=decide_eq_false (by omega)
   (repeat (first|apply Wp.skip|apply Wp.exit|apply Wp.ret|apply Wp.block|apply Wp.label|((first|refine Wp.sreg (fun K hK=>?_)|refine Wp.reg (fun K hK=>?_)|refine Wp.sdrw aA (fun K hK=>?_)|refine Wp.drw aA (fun K hK=>?_)|refine Wp.condG (fun K hK hF=>?_));(repeat (revert hK;intro hK;simp (maxSteps:=2000000) (disch:=omega) only[bF,TY,aL,bQ,cD,bW,cF,bX,dO,CV.lstOf,CV.one,Value.oneCell',CV.toD0,Nat.reduceBEq,Nat.reduceAdd,Nat.reduceMul,Nat.reduceLT,Nat.reduceLeDiff,mv3,zpC,dj,PartD.dv,ProdD.dv,List.take_length,htl,hbb];(first|(refine hK _ ?_;clear hK K)|(refine⟨by kernel_rfl,hK _ ?_⟩;clear hK K)|(refine hK ?_;clear hK hF K)|(refine hF ?_;clear hK hF K)|refine aQ (by assumption) ?_|refine gJ (by assumption) ?_)));fail_if_success (revert hK;intro hK))|apply Wp.seq))
   refine⟨k+1,by omega,by omega,aD.keep rfl rfl ?_⟩
   simp (maxSteps:=2000000) (disch:=omega) only[bF,aL,Nat.reduceBEq,zpC,PartD.dv,ProdD.dv,lA,htk,List.map_append]
  have hk2:k=p.prods.length:=by omega
  subst hk2
  have dk:decide ((p.prods.length:Int)<(p.prods.length:Int))=false:=decide_eq_false (by omega)
  (repeat (first|apply Wp.skip|apply Wp.exit|apply Wp.ret|apply Wp.block|apply Wp.label|((first|refine Wp.sreg (fun K hK=>?_)|refine Wp.reg (fun K hK=>?_)|refine Wp.sdrw aA (fun K hK=>?_)|refine Wp.drw aA (fun K hK=>?_)|refine Wp.condG (fun K hK hF=>?_));(repeat (revert hK;intro hK;simp (maxSteps:=2000000) (disch:=omega) only[bF,TY,aL,bQ,bW,cF,Nat.reduceBEq,Nat.reduceAdd,Nat.reduceLT,mv2,zpC,dk,PartD.dv,List.take_length];(first|(refine hK _ ?_;clear hK K)|(refine⟨by kernel_rfl,hK _ ?_⟩;clear hK K)|(refine hK ?_;clear hK hF K)|(refine hF ?_;clear hK hF K)|refine aQ (by assumption) ?_|refine gJ (by assumption) ?_)));fail_if_success (revert hK;intro hK))|apply Wp.seq))
  simp (maxSteps:=2000000) (disch:=omega) only[bF,TY,aL,bW,CV.toD0,rD0,Nat.reduceBEq,Nat.reduceAdd,aCz,PartD.dv,aX]
  exact⟨_,rfl,fun K v h=>h⟩
theorem zP {p:PartD} (h:bE p=true):∀ x ∈ p.prods,∀ s ∈ x.seen,-1≤s.base∧s.base≤1048576:=by
 intro q hq s hm
 simp only[bE,Bool.and_eq_true] at h
 have hk:=tS _ _ h.1.2 q hq
 simp only[cM,Bool.and_eq_true] at hk
 exact wU _ _ hk.2 s (by simpa using hm)
theorem aPu {i:ImgD} (h:aS i=true) (k:Nat):fF (i.m.c k)=true:=by
 simp only[aS,fG,cOk,Bool.and_eq_true] at h
 obtain⟨⟨⟨_,⟨_,h0,h1,h2⟩,_⟩,_⟩,_⟩:=h
 match k with
 | 0=>exact h0.1.1
 | 1=>exact h1.1.1
 | _+2=>exact h2.1.1
theorem aIx (odd:Int) {i:ImgD} (h:SmallI i):SmallI (mvI odd i):=by
 have hp:∀ p:PartD,SmallP p→SmallP (aX odd p):=fun p h =>
  ⟨by show (p.rows.map _).length≤_;rw[List.length_map];exact h.rows,h.opens,h.open1,by
   refine⟨by show (p.prods.map _).length≤_;rw[List.length_map];exact h.prods.len,fun q hq=>?_⟩
   obtain⟨q',h1,rfl⟩:=List.mem_map.1 hq
   show (q'.seen.map _).length≤_
   rw[List.length_map];exact h.prods.seen q' h1⟩
 have hc:∀ c:CoordD,SmallC c→SmallC (mvC c):=fun c h =>
  ⟨h.parts,by show (c.pends.map _).length≤_;rw[List.length_map];exact h.pends⟩
 exact⟨hp _ h.p0,hp _ h.p1,hp _ h.p2,⟨hc _ h.m.c0,hc _ h.m.c1,hc _ h.m.c2⟩⟩
theorem aDw (odd:Int) {i:ImgD} (h:RowsOk i):RowsOk (mvI odd i) :=
 ⟨by show (i.p0.rows.map _).length≤_;rw[List.length_map];exact h.1,by show (i.p1.rows.map _).length≤_;rw[List.length_map];exact h.2,by show (i.p2.rows.map _).length≤_;rw[List.length_map];exact h.3⟩
theorem aUn (i:ImgD) (b:Bool) (hg:eK i=true):aJ Tryz.prog 5 [.agg i.dv,dC b] (dC true):=by
 have c0:=eU i
 have c1:=eX
 rw[hg] at c0
 simp only[ImgD.dv,PartD.dv,StateD.dv,CoordD.dv,GrpD.dv,List.cons_append,List.nil_append] at c0
 (refine aJ.of_body Tryz.func5 rfl rfl Tryz.ntmps5 Tryz.results5 (by simp) ?_)
 (refine gO (ai @ImgD.dv.eq_1 (ai @PartD.dv.eq_1 (ai @StateD.dv.eq_1 (ai @CoordD.dv.eq_1 (@GrpD.dv.eq_1))))) ?_;try with_reducible exact tt)
 (refine aK ?_;try with_reducible exact tt)
theorem aUo (i:ImgD) (b:Bool) (h8:I8I i) (hg:eK i=false) (hb:aS i=false):aJ Tryz.prog 5 [.agg i.dv,dC b] (dC true):=by
 have hs:=(hX hg).1
 have c0:=eU i
 have c1:=eX
 have c2:=jE i hs h8
 rw[hg] at c0
 rw[hb] at c2
 simp only[ImgD.dv,PartD.dv,StateD.dv,CoordD.dv,GrpD.dv,List.cons_append,List.nil_append,Bool.false_eq_true,if_false] at c0 c2
 (refine aJ.of_body Tryz.func5 rfl rfl Tryz.ntmps5 Tryz.results5 (by simp) ?_)
 (refine gO (ai @ImgD.dv.eq_1 (ai @PartD.dv.eq_1 (ai @StateD.dv.eq_1 (ai @CoordD.dv.eq_1 (@GrpD.dv.eq_1))))) ?_;try with_reducible exact tt)
 (refine aK ?_;try with_reducible exact tt)
theorem aUp (i:ImgD) (b:Bool) (h8:I8I i) (hg:eK i=false) (hc:aS i=true):aJ Tryz.prog 5 [.agg i.dv,dC b] (dC true):=by
 obtain⟨hs,hr⟩:=hX hg
 obtain⟨odd,hodd⟩:∃ odd:Int,odd=if b=true then 1 else 0:=⟨_,rfl⟩
 have ho:odd=0∨odd=1:=by cases b<;>simp at hodd<;>omega
 have c0:=eU i
 have c1:=eX
 have c2:=jE i hs h8
 have c3:=qO i hs hr
 rw[hg] at c0
 rw[hc,if_pos rfl] at c2
 generalize hz:(kS i).1=z at *
 generalize he:(kS i).2=e at *
 simp only[ImgD.dv,PartD.dv,StateD.dv,CoordD.dv,GrpD.dv,List.cons_append,List.nil_append] at c0 c2 c3
 (refine aJ.of_body Tryz.func5 rfl rfl Tryz.ntmps5 Tryz.results5 (by simp) ?_)
 (refine gO (ai @ImgD.dv.eq_1 (ai @PartD.dv.eq_1 (ai @StateD.dv.eq_1 (ai @CoordD.dv.eq_1 (@GrpD.dv.eq_1))))) ?_;try with_reducible exact tt)
 (first|refine Wp.meet (⟨dI [(2,.c (.own 0 0)),(5,vi .i64 odd)],bJ [(0,.cells (i.dv.map .d))],1,125,0⟩) ?_ ?_|refine Wp.meetT (⟨dI [(2,.c (.own 0 0)),(5,vi .i64 odd)],bJ [(0,.cells (i.dv.map .d))],1,125,0⟩) ?_ ?_|(refine Wp.seq ?_;refine Wp.meetT (⟨dI [(2,.c (.own 0 0)),(5,vi .i64 odd)],bJ [(0,.cells (i.dv.map .d))],1,125,0⟩) ?_ ?_))
 ·cases b<;>(simp only[if_true,if_false,Bool.false_eq_true] at hodd;subst hodd;(refine aI ?_;try with_reducible exact tt);refine aD.keep rfl (by simp[aO,SV.ids,HE.ids,CV.ids,ImgD.dv,PartD.dv,StateD.dv,CoordD.dv,GrpD.dv];rfl) ?_;(refine rO (ai @ImgD.dv.eq_1 (ai @PartD.dv.eq_1 (ai @StateD.dv.eq_1 (ai @CoordD.dv.eq_1 (ai @GrpD.dv.eq_1 (ai @List.map_append.{0,0} (ai @List.map_cons.{0,0} (@List.map_nil.{0,0})))))))) ?_;try with_reducible exact tt))
 (refine gO (ai @ImgD.dv.eq_1 (ai @PartD.dv.eq_1 (ai @StateD.dv.eq_1 (ai @CoordD.dv.eq_1 (ai @GrpD.dv.eq_1 (ai @List.map_append.{0,0} (ai @List.map_cons.{0,0} (@List.map_nil.{0,0})))))))) ?_;try with_reducible exact tt)
 refine Wp.weak (σ':=⟨dI [(2,.c (.own 0 0)),(5,vi .i64 odd),(7,vi .i64 e),(8,.c (.own 2 0)),(32,vi .i64 0)],bJ [(0,.cells (i.dv.map .d)),(2,.cells (i.dv.map .d))],20,125,0⟩) (aD.keep rfl (by simp[aO,SV.ids,HE.ids,CV.ids,ImgD.dv,PartD.dv,StateD.dv,CoordD.dv,GrpD.dv];rfl) (by
  (refine rO (ai @ImgD.dv.eq_1 (ai @PartD.dv.eq_1 (ai @StateD.dv.eq_1 (ai @CoordD.dv.eq_1 (ai @GrpD.dv.eq_1 (ai @List.map_append.{0,0} (ai @List.map_cons.{0,0} (@List.map_nil.{0,0})))))))) ?_;try with_reducible exact tt))) ?_
 clear c0 c2 c3
 have wodd:IntKind.i64.wrap odd=odd:=aG (by omega)
 clear hodd
 refine Wp.rounds 4 (aN.go ?_)
 (refine gO (ai @ImgD.dv.eq_1 (ai @PartD.dv.eq_1 (ai @StateD.dv.eq_1 (ai @CoordD.dv.eq_1 (@GrpD.dv.eq_1))))) ?_;try with_reducible exact tt)
 refine Wp.cond (by (refine aK ?_;try with_reducible exact tt);rfl) (fun h=>?_) (fun h=>?_)
 ·(refine aI ?_;try with_reducible exact tt)
  (refine aK ?_;try with_reducible exact tt)
 have hf0:i.p0.fin≤1000:=by simpa using h
 clear h
 have c4:=xD i.p0 odd ho hs.p0 (dA (bI hc 0)) hf0 (zP (bI hc 0))
 simp only[PartD.dv] at c4
 (refine gO (ai @ImgD.dv.eq_1 (ai @PartD.dv.eq_1 (ai @StateD.dv.eq_1 (ai @CoordD.dv.eq_1 (@GrpD.dv.eq_1))))) ?_;try with_reducible exact tt)
 clear c4
 refine Wp.loop (fun j:Nat=>⟨dI [(2,.c (.own 0 0)),(5,vi .i64 odd),(7,vi .i64 e),(8,.c (.own 2 0)),(9,vi .i64 0),(32,vi .i64 0),(51,vi .i64 j)],bJ [(0,.cells (i.dv.map .d)),(2,.cells ((match j with|0=>(⟨i.tag,(aX odd i.p0),i.p1,i.p2,⟨i.m.made,i.m.c0,i.m.c1,i.m.c2,⟨i.m.gr.a0,i.m.gr.a1,i.m.gr.a2,i.m.gr.b0,i.m.gr.b1,i.m.gr.b2⟩⟩⟩:ImgD)|1=>(⟨i.tag,(aX odd i.p0),i.p1,i.p2,⟨i.m.made,i.m.c0,i.m.c1,i.m.c2,⟨hJ i.m.gr.a0,i.m.gr.a1,i.m.gr.a2,i.m.gr.b0,i.m.gr.b1,i.m.gr.b2⟩⟩⟩:ImgD)|_=>(⟨i.tag,(aX odd i.p0),i.p1,i.p2,⟨i.m.made,i.m.c0,i.m.c1,i.m.c2,⟨hJ i.m.gr.a0,i.m.gr.a1,i.m.gr.a2,hJ i.m.gr.b0,i.m.gr.b1,i.m.gr.b2⟩⟩⟩:ImgD)).dv.map .d))],20,125,0⟩) (fun j=>j≤2) (fun j=>2 - j) 0 (by decide) ?_ ?_
 ·refine aD.keep rfl (by simp[aO,SV.ids,HE.ids,CV.ids,ImgD.dv,PartD.dv,StateD.dv,CoordD.dv,GrpD.dv];rfl) ?_
  (refine rO (ai @ImgD.dv.eq_1 (ai @PartD.dv.eq_1 (ai @StateD.dv.eq_1 (ai @CoordD.dv.eq_1 (ai @GrpD.dv.eq_1 (ai @List.map_append.{0,0} (ai @List.map_cons.{0,0} (@List.map_nil.{0,0})))))))) ?_;try with_reducible exact tt)
 intro j hj
 rcases (show j=0∨j=1∨j=2 by omega) with rfl|rfl|rfl
 ·(refine gO (ai @ImgD.dv.eq_1 (ai @PartD.dv.eq_1 (ai @StateD.dv.eq_1 (ai @CoordD.dv.eq_1 (@GrpD.dv.eq_1))))) ?_;try with_reducible exact tt)
  (first|refine Wp.sto 66 (vb (decide (0≤i.m.gr.a0) && decide (i.m.gr.a0≤2000))) ?_ ?_|refine Wp.rtoS 66 (vb (decide (0≤i.m.gr.a0) && decide (i.m.gr.a0≤2000))) ?_ ?_|(refine Wp.seq ?_;first|refine Wp.sto 66 (vb (decide (0≤i.m.gr.a0) && decide (i.m.gr.a0≤2000))) ?_ ?_|refine Wp.rtoS 66 (vb (decide (0≤i.m.gr.a0) && decide (i.m.gr.a0≤2000))) ?_ ?_))
  ·((rcases Bool.eq_false_or_eq_true (decide (0≤i.m.gr.a0)) with hL1|hL1)<;>(rcases Bool.eq_false_or_eq_true (decide (i.m.gr.a0≤2000)) with hL2|hL2)<;>(((refine rO (ai hL1 (ai hL2 (ai @ImgD.dv.eq_1 (ai @PartD.dv.eq_1 (ai @StateD.dv.eq_1 (ai @CoordD.dv.eq_1 (@GrpD.dv.eq_1))))))) ?_;try with_reducible exact tt);(repeat (refine aQ (by assumption) ?_;(refine rO (ai hL1 (ai hL2 (ai @ImgD.dv.eq_1 (ai @PartD.dv.eq_1 (ai @StateD.dv.eq_1 (ai @CoordD.dv.eq_1 (@GrpD.dv.eq_1))))))) ?_;try with_reducible exact tt))));all_goals (exact (show aH _ _=true by kernel_rfl))))
  refine Wp.cond (by (refine aK ?_;try with_reducible exact tt);rfl) (fun h=>?_) (fun h=>?_)
  ·have hm:hJ i.m.gr.a0=2*i.m.gr.a0:=by unfold hJ;rw[h];rfl
   have h2:=h
   simp only[Bool.and_eq_true,decide_eq_true_eq] at h2
   have hw:IntKind.i64.wrap (2*i.m.gr.a0)=2*i.m.gr.a0:=aG (by omega)
   (refine gO (hw) ?_;try with_reducible exact tt)
   refine⟨1,by omega,by omega,aD.keep rfl (by simp[aO,SV.ids,HE.ids,CV.ids,ImgD.dv,PartD.dv,StateD.dv,CoordD.dv,GrpD.dv];rfl) ?_⟩
   (refine rO (ai hm (ai @ImgD.dv.eq_1 (ai @PartD.dv.eq_1 (ai @StateD.dv.eq_1 (ai @CoordD.dv.eq_1 (ai @GrpD.dv.eq_1 (ai @List.map_append.{0,0} (ai @List.map_cons.{0,0} (@List.map_nil.{0,0}))))))))) ?_;try with_reducible exact tt)
  ·have hm:hJ i.m.gr.a0=i.m.gr.a0:=by unfold hJ;rw[h];rfl
   (refine aI ?_;try with_reducible exact tt)
   refine⟨1,by omega,by omega,aD.keep rfl (by simp[aO,SV.ids,HE.ids,CV.ids,ImgD.dv,PartD.dv,StateD.dv,CoordD.dv,GrpD.dv];rfl) ?_⟩
   (refine rO (ai hm (ai @ImgD.dv.eq_1 (ai @PartD.dv.eq_1 (ai @StateD.dv.eq_1 (ai @CoordD.dv.eq_1 (ai @GrpD.dv.eq_1 (ai @List.map_append.{0,0} (ai @List.map_cons.{0,0} (@List.map_nil.{0,0}))))))))) ?_;try with_reducible exact tt)
 ·(refine gO (ai @ImgD.dv.eq_1 (ai @PartD.dv.eq_1 (ai @StateD.dv.eq_1 (ai @CoordD.dv.eq_1 (@GrpD.dv.eq_1))))) ?_;try with_reducible exact tt)
  (first|refine Wp.sto 66 (vb (decide (0≤i.m.gr.b0) && decide (i.m.gr.b0≤2000))) ?_ ?_|refine Wp.rtoS 66 (vb (decide (0≤i.m.gr.b0) && decide (i.m.gr.b0≤2000))) ?_ ?_|(refine Wp.seq ?_;first|refine Wp.sto 66 (vb (decide (0≤i.m.gr.b0) && decide (i.m.gr.b0≤2000))) ?_ ?_|refine Wp.rtoS 66 (vb (decide (0≤i.m.gr.b0) && decide (i.m.gr.b0≤2000))) ?_ ?_))
  ·((rcases Bool.eq_false_or_eq_true (decide (0≤i.m.gr.b0)) with hL1|hL1)<;>(rcases Bool.eq_false_or_eq_true (decide (i.m.gr.b0≤2000)) with hL2|hL2)<;>(((refine rO (ai hL1 (ai hL2 (ai @ImgD.dv.eq_1 (ai @PartD.dv.eq_1 (ai @StateD.dv.eq_1 (ai @CoordD.dv.eq_1 (@GrpD.dv.eq_1))))))) ?_;try with_reducible exact tt);(repeat (refine aQ (by assumption) ?_;(refine rO (ai hL1 (ai hL2 (ai @ImgD.dv.eq_1 (ai @PartD.dv.eq_1 (ai @StateD.dv.eq_1 (ai @CoordD.dv.eq_1 (@GrpD.dv.eq_1))))))) ?_;try with_reducible exact tt))));all_goals (exact (show aH _ _=true by kernel_rfl))))
  refine Wp.cond (by (refine aK ?_;try with_reducible exact tt);rfl) (fun h=>?_) (fun h=>?_)
  ·have hm:hJ i.m.gr.b0=2*i.m.gr.b0:=by unfold hJ;rw[h];rfl
   have h2:=h
   simp only[Bool.and_eq_true,decide_eq_true_eq] at h2
   have hw:IntKind.i64.wrap (2*i.m.gr.b0)=2*i.m.gr.b0:=aG (by omega)
   (refine gO (hw) ?_;try with_reducible exact tt)
   refine⟨2,by omega,by omega,aD.keep rfl (by simp[aO,SV.ids,HE.ids,CV.ids,ImgD.dv,PartD.dv,StateD.dv,CoordD.dv,GrpD.dv];rfl) ?_⟩
   (refine rO (ai hm (ai @ImgD.dv.eq_1 (ai @PartD.dv.eq_1 (ai @StateD.dv.eq_1 (ai @CoordD.dv.eq_1 (ai @GrpD.dv.eq_1 (ai @List.map_append.{0,0} (ai @List.map_cons.{0,0} (@List.map_nil.{0,0}))))))))) ?_;try with_reducible exact tt)
  ·have hm:hJ i.m.gr.b0=i.m.gr.b0:=by unfold hJ;rw[h];rfl
   (refine aI ?_;try with_reducible exact tt)
   refine⟨2,by omega,by omega,aD.keep rfl (by simp[aO,SV.ids,HE.ids,CV.ids,ImgD.dv,PartD.dv,StateD.dv,CoordD.dv,GrpD.dv];rfl) ?_⟩
   (refine rO (ai hm (ai @ImgD.dv.eq_1 (ai @PartD.dv.eq_1 (ai @StateD.dv.eq_1 (ai @CoordD.dv.eq_1 (ai @GrpD.dv.eq_1 (ai @List.map_append.{0,0} (ai @List.map_cons.{0,0} (@List.map_nil.{0,0}))))))))) ?_;try with_reducible exact tt)
 (refine gO (ai @ImgD.dv.eq_1 (ai @PartD.dv.eq_1 (ai @StateD.dv.eq_1 (ai @CoordD.dv.eq_1 (@GrpD.dv.eq_1))))) ?_;try with_reducible exact tt)
 (refine gO (ai @ImgD.dv.eq_1 (ai @PartD.dv.eq_1 (ai @StateD.dv.eq_1 (ai @CoordD.dv.eq_1 (@GrpD.dv.eq_1))))) ?_;try with_reducible exact tt)
 refine Wp.cond (by (refine aK ?_;try with_reducible exact tt);rfl) (fun h=>?_) (fun h=>?_)
 ·(refine aI ?_;try with_reducible exact tt)
  (refine aK ?_;try with_reducible exact tt)
 have hf1:i.p1.fin≤1000:=by simpa using h
 clear h
 have c4:=xD i.p1 odd ho hs.p1 (dA (bI hc 1)) hf1 (zP (bI hc 1))
 simp only[PartD.dv] at c4
 (refine gO (ai @ImgD.dv.eq_1 (ai @PartD.dv.eq_1 (ai @StateD.dv.eq_1 (ai @CoordD.dv.eq_1 (@GrpD.dv.eq_1))))) ?_;try with_reducible exact tt)
 clear c4
 refine Wp.loop (fun j:Nat=>⟨dI [(2,.c (.own 0 0)),(5,vi .i64 odd),(7,vi .i64 e),(8,.c (.own 2 0)),(9,vi .i64 1),(32,vi .i64 1),(51,vi .i64 j)],bJ [(0,.cells (i.dv.map .d)),(2,.cells ((match j with|0=>(⟨i.tag,(aX odd i.p0),(aX odd i.p1),i.p2,⟨i.m.made,i.m.c0,i.m.c1,i.m.c2,⟨hJ i.m.gr.a0,i.m.gr.a1,i.m.gr.a2,hJ i.m.gr.b0,i.m.gr.b1,i.m.gr.b2⟩⟩⟩:ImgD)|1=>(⟨i.tag,(aX odd i.p0),(aX odd i.p1),i.p2,⟨i.m.made,i.m.c0,i.m.c1,i.m.c2,⟨hJ i.m.gr.a0,hJ i.m.gr.a1,i.m.gr.a2,hJ i.m.gr.b0,i.m.gr.b1,i.m.gr.b2⟩⟩⟩:ImgD)|_=>(⟨i.tag,(aX odd i.p0),(aX odd i.p1),i.p2,⟨i.m.made,i.m.c0,i.m.c1,i.m.c2,⟨hJ i.m.gr.a0,hJ i.m.gr.a1,i.m.gr.a2,hJ i.m.gr.b0,hJ i.m.gr.b1,i.m.gr.b2⟩⟩⟩:ImgD)).dv.map .d))],20,125,0⟩) (fun j=>j≤2) (fun j=>2 - j) 0 (by decide) ?_ ?_
 ·refine aD.keep rfl (by simp[aO,SV.ids,HE.ids,CV.ids,ImgD.dv,PartD.dv,StateD.dv,CoordD.dv,GrpD.dv];rfl) ?_
  (refine rO (ai @ImgD.dv.eq_1 (ai @PartD.dv.eq_1 (ai @StateD.dv.eq_1 (ai @CoordD.dv.eq_1 (ai @GrpD.dv.eq_1 (ai @List.map_append.{0,0} (ai @List.map_cons.{0,0} (@List.map_nil.{0,0})))))))) ?_;try with_reducible exact tt)
 intro j hj
 rcases (show j=0∨j=1∨j=2 by omega) with rfl|rfl|rfl
 ·(refine gO (ai @ImgD.dv.eq_1 (ai @PartD.dv.eq_1 (ai @StateD.dv.eq_1 (ai @CoordD.dv.eq_1 (@GrpD.dv.eq_1))))) ?_;try with_reducible exact tt)
  (first|refine Wp.sto 66 (vb (decide (0≤i.m.gr.a1) && decide (i.m.gr.a1≤2000))) ?_ ?_|refine Wp.rtoS 66 (vb (decide (0≤i.m.gr.a1) && decide (i.m.gr.a1≤2000))) ?_ ?_|(refine Wp.seq ?_;first|refine Wp.sto 66 (vb (decide (0≤i.m.gr.a1) && decide (i.m.gr.a1≤2000))) ?_ ?_|refine Wp.rtoS 66 (vb (decide (0≤i.m.gr.a1) && decide (i.m.gr.a1≤2000))) ?_ ?_))
  ·((rcases Bool.eq_false_or_eq_true (decide (0≤i.m.gr.a1)) with hL1|hL1)<;>(rcases Bool.eq_false_or_eq_true (decide (i.m.gr.a1≤2000)) with hL2|hL2)<;>(((refine rO (ai hL1 (ai hL2 (ai @ImgD.dv.eq_1 (ai @PartD.dv.eq_1 (ai @StateD.dv.eq_1 (ai @CoordD.dv.eq_1 (@GrpD.dv.eq_1))))))) ?_;try with_reducible exact tt);(repeat (refine aQ (by assumption) ?_;(refine rO (ai hL1 (ai hL2 (ai @ImgD.dv.eq_1 (ai @PartD.dv.eq_1 (ai @StateD.dv.eq_1 (ai @CoordD.dv.eq_1 (@GrpD.dv.eq_1))))))) ?_;try with_reducible exact tt))));all_goals (exact (show aH _ _=true by kernel_rfl))))
  refine Wp.cond (by (refine aK ?_;try with_reducible exact tt);rfl) (fun h=>?_) (fun h=>?_)
  ·have hm:hJ i.m.gr.a1=2*i.m.gr.a1:=by unfold hJ;rw[h];rfl
   have h2:=h
   simp only[Bool.and_eq_true,decide_eq_true_eq] at h2
   have hw:IntKind.i64.wrap (2*i.m.gr.a1)=2*i.m.gr.a1:=aG (by omega)
   (refine gO (hw) ?_;try with_reducible exact tt)
   refine⟨1,by omega,by omega,aD.keep rfl (by simp[aO,SV.ids,HE.ids,CV.ids,ImgD.dv,PartD.dv,StateD.dv,CoordD.dv,GrpD.dv];rfl) ?_⟩
   (refine rO (ai hm (ai @ImgD.dv.eq_1 (ai @PartD.dv.eq_1 (ai @StateD.dv.eq_1 (ai @CoordD.dv.eq_1 (ai @GrpD.dv.eq_1 (ai @List.map_append.{0,0} (ai @List.map_cons.{0,0} (@List.map_nil.{0,0}))))))))) ?_;try with_reducible exact tt)
  ·have hm:hJ i.m.gr.a1=i.m.gr.a1:=by unfold hJ;rw[h];rfl
   (refine aI ?_;try with_reducible exact tt)
   refine⟨1,by omega,by omega,aD.keep rfl (by simp[aO,SV.ids,HE.ids,CV.ids,ImgD.dv,PartD.dv,StateD.dv,CoordD.dv,GrpD.dv];rfl) ?_⟩
   (refine rO (ai hm (ai @ImgD.dv.eq_1 (ai @PartD.dv.eq_1 (ai @StateD.dv.eq_1 (ai @CoordD.dv.eq_1 (ai @GrpD.dv.eq_1 (ai @List.map_append.{0,0} (ai @List.map_cons.{0,0} (@List.map_nil.{0,0}))))))))) ?_;try with_reducible exact tt)
 ·(refine gO (ai @ImgD.dv.eq_1 (ai @PartD.dv.eq_1 (ai @StateD.dv.eq_1 (ai @CoordD.dv.eq_1 (@GrpD.dv.eq_1))))) ?_;try with_reducible exact tt)
  (first|refine Wp.sto 66 (vb (decide (0≤i.m.gr.b1) && decide (i.m.gr.b1≤2000))) ?_ ?_|refine Wp.rtoS 66 (vb (decide (0≤i.m.gr.b1) && decide (i.m.gr.b1≤2000))) ?_ ?_|(refine Wp.seq ?_;first|refine Wp.sto 66 (vb (decide (0≤i.m.gr.b1) && decide (i.m.gr.b1≤2000))) ?_ ?_|refine Wp.rtoS 66 (vb (decide (0≤i.m.gr.b1) && decide (i.m.gr.b1≤2000))) ?_ ?_))
  ·((rcases Bool.eq_false_or_eq_true (decide (0≤i.m.gr.b1)) with hL1|hL1)<;>(rcases Bool.eq_false_or_eq_true (decide (i.m.gr.b1≤2000)) with hL2|hL2)<;>(((refine rO (ai hL1 (ai hL2 (ai @ImgD.dv.eq_1 (ai @PartD.dv.eq_1 (ai @StateD.dv.eq_1 (ai @CoordD.dv.eq_1 (@GrpD.dv.eq_1))))))) ?_;try with_reducible exact tt);(repeat (refine aQ (by assumption) ?_;(refine rO (ai hL1 (ai hL2 (ai @ImgD.dv.eq_1 (ai @PartD.dv.eq_1 (ai @StateD.dv.eq_1 (ai @CoordD.dv.eq_1 (@GrpD.dv.eq_1))))))) ?_;try with_reducible exact tt))));all_goals (exact (show aH _ _=true by kernel_rfl))))
  refine Wp.cond (by (refine aK ?_;try with_reducible exact tt);rfl) (fun h=>?_) (fun h=>?_)
  ·have hm:hJ i.m.gr.b1=2*i.m.gr.b1:=by unfold hJ;rw[h];rfl
   have h2:=h
   simp only[Bool.and_eq_true,decide_eq_true_eq] at h2
   have hw:IntKind.i64.wrap (2*i.m.gr.b1)=2*i.m.gr.b1:=aG (by omega)
   (refine gO (hw) ?_;try with_reducible exact tt)
   refine⟨2,by omega,by omega,aD.keep rfl (by simp[aO,SV.ids,HE.ids,CV.ids,ImgD.dv,PartD.dv,StateD.dv,CoordD.dv,GrpD.dv];rfl) ?_⟩
   (refine rO (ai hm (ai @ImgD.dv.eq_1 (ai @PartD.dv.eq_1 (ai @StateD.dv.eq_1 (ai @CoordD.dv.eq_1 (ai @GrpD.dv.eq_1 (ai @List.map_append.{0,0} (ai @List.map_cons.{0,0} (@List.map_nil.{0,0}))))))))) ?_;try with_reducible exact tt)
  ·have hm:hJ i.m.gr.b1=i.m.gr.b1:=by unfold hJ;rw[h];rfl
   (refine aI ?_;try with_reducible exact tt)
   refine⟨2,by omega,by omega,aD.keep rfl (by simp[aO,SV.ids,HE.ids,CV.ids,ImgD.dv,PartD.dv,StateD.dv,CoordD.dv,GrpD.dv];rfl) ?_⟩
   (refine rO (ai hm (ai @ImgD.dv.eq_1 (ai @PartD.dv.eq_1 (ai @StateD.dv.eq_1 (ai @CoordD.dv.eq_1 (ai @GrpD.dv.eq_1 (ai @List.map_append.{0,0} (ai @List.map_cons.{0,0} (@List.map_nil.{0,0}))))))))) ?_;try with_reducible exact tt)
 (refine gO (ai @ImgD.dv.eq_1 (ai @PartD.dv.eq_1 (ai @StateD.dv.eq_1 (ai @CoordD.dv.eq_1 (@GrpD.dv.eq_1))))) ?_;try with_reducible exact tt)
 (refine gO (ai @ImgD.dv.eq_1 (ai @PartD.dv.eq_1 (ai @StateD.dv.eq_1 (ai @CoordD.dv.eq_1 (@GrpD.dv.eq_1))))) ?_;try with_reducible exact tt)
 refine Wp.cond (by (refine aK ?_;try with_reducible exact tt);rfl) (fun h=>?_) (fun h=>?_)
 ·(refine aI ?_;try with_reducible exact tt)
  (refine aK ?_;try with_reducible exact tt)
 have hf2:i.p2.fin≤1000:=by simpa using h
 clear h
 have c4:=xD i.p2 odd ho hs.p2 (dA (bI hc 2)) hf2 (zP (bI hc 2))
 simp only[PartD.dv] at c4
 (refine gO (ai @ImgD.dv.eq_1 (ai @PartD.dv.eq_1 (ai @StateD.dv.eq_1 (ai @CoordD.dv.eq_1 (@GrpD.dv.eq_1))))) ?_;try with_reducible exact tt)
 clear c4
 refine Wp.loop (fun j:Nat=>⟨dI [(2,.c (.own 0 0)),(5,vi .i64 odd),(7,vi .i64 e),(8,.c (.own 2 0)),(9,vi .i64 2),(32,vi .i64 2),(51,vi .i64 j)],bJ [(0,.cells (i.dv.map .d)),(2,.cells ((match j with|0=>(⟨i.tag,(aX odd i.p0),(aX odd i.p1),(aX odd i.p2),⟨i.m.made,i.m.c0,i.m.c1,i.m.c2,⟨hJ i.m.gr.a0,hJ i.m.gr.a1,i.m.gr.a2,hJ i.m.gr.b0,hJ i.m.gr.b1,i.m.gr.b2⟩⟩⟩:ImgD)|1=>(⟨i.tag,(aX odd i.p0),(aX odd i.p1),(aX odd i.p2),⟨i.m.made,i.m.c0,i.m.c1,i.m.c2,⟨hJ i.m.gr.a0,hJ i.m.gr.a1,hJ i.m.gr.a2,hJ i.m.gr.b0,hJ i.m.gr.b1,i.m.gr.b2⟩⟩⟩:ImgD)|_=>(⟨i.tag,(aX odd i.p0),(aX odd i.p1),(aX odd i.p2),⟨i.m.made,i.m.c0,i.m.c1,i.m.c2,⟨hJ i.m.gr.a0,hJ i.m.gr.a1,hJ i.m.gr.a2,hJ i.m.gr.b0,hJ i.m.gr.b1,hJ i.m.gr.b2⟩⟩⟩:ImgD)).dv.map .d))],20,125,0⟩) (fun j=>j≤2) (fun j=>2 - j) 0 (by decide) ?_ ?_
 ·refine aD.keep rfl (by simp[aO,SV.ids,HE.ids,CV.ids,ImgD.dv,PartD.dv,StateD.dv,CoordD.dv,GrpD.dv];rfl) ?_
  (refine rO (ai @ImgD.dv.eq_1 (ai @PartD.dv.eq_1 (ai @StateD.dv.eq_1 (ai @CoordD.dv.eq_1 (ai @GrpD.dv.eq_1 (ai @List.map_append.{0,0} (ai @List.map_cons.{0,0} (@List.map_nil.{0,0})))))))) ?_;try with_reducible exact tt)
 intro j hj
 rcases (show j=0∨j=1∨j=2 by omega) with rfl|rfl|rfl
 ·(refine gO (ai @ImgD.dv.eq_1 (ai @PartD.dv.eq_1 (ai @StateD.dv.eq_1 (ai @CoordD.dv.eq_1 (@GrpD.dv.eq_1))))) ?_;try with_reducible exact tt)
  (first|refine Wp.sto 66 (vb (decide (0≤i.m.gr.a2) && decide (i.m.gr.a2≤2000))) ?_ ?_|refine Wp.rtoS 66 (vb (decide (0≤i.m.gr.a2) && decide (i.m.gr.a2≤2000))) ?_ ?_|(refine Wp.seq ?_;first|refine Wp.sto 66 (vb (decide (0≤i.m.gr.a2) && decide (i.m.gr.a2≤2000))) ?_ ?_|refine Wp.rtoS 66 (vb (decide (0≤i.m.gr.a2) && decide (i.m.gr.a2≤2000))) ?_ ?_))
  ·((rcases Bool.eq_false_or_eq_true (decide (0≤i.m.gr.a2)) with hL1|hL1)<;>(rcases Bool.eq_false_or_eq_true (decide (i.m.gr.a2≤2000)) with hL2|hL2)<;>(((refine rO (ai hL1 (ai hL2 (ai @ImgD.dv.eq_1 (ai @PartD.dv.eq_1 (ai @StateD.dv.eq_1 (ai @CoordD.dv.eq_1 (@GrpD.dv.eq_1))))))) ?_;try with_reducible exact tt);(repeat (refine aQ (by assumption) ?_;(refine rO (ai hL1 (ai hL2 (ai @ImgD.dv.eq_1 (ai @PartD.dv.eq_1 (ai @StateD.dv.eq_1 (ai @CoordD.dv.eq_1 (@GrpD.dv.eq_1))))))) ?_;try with_reducible exact tt))));all_goals (exact (show aH _ _=true by kernel_rfl))))
  refine Wp.cond (by (refine aK ?_;try with_reducible exact tt);rfl) (fun h=>?_) (fun h=>?_)
  ·have hm:hJ i.m.gr.a2=2*i.m.gr.a2:=by unfold hJ;rw[h];rfl
   have h2:=h
   simp only[Bool.and_eq_true,decide_eq_true_eq] at h2
   have hw:IntKind.i64.wrap (2*i.m.gr.a2)=2*i.m.gr.a2:=aG (by omega)
   (refine gO (hw) ?_;try with_reducible exact tt)
   refine⟨1,by omega,by omega,aD.keep rfl (by simp[aO,SV.ids,HE.ids,CV.ids,ImgD.dv,PartD.dv,StateD.dv,CoordD.dv,GrpD.dv];rfl) ?_⟩
   (refine rO (ai hm (ai @ImgD.dv.eq_1 (ai @PartD.dv.eq_1 (ai @StateD.dv.eq_1 (ai @CoordD.dv.eq_1 (ai @GrpD.dv.eq_1 (ai @List.map_append.{0,0} (ai @List.map_cons.{0,0} (@List.map_nil.{0,0}))))))))) ?_;try with_reducible exact tt)
  ·have hm:hJ i.m.gr.a2=i.m.gr.a2:=by unfold hJ;rw[h];rfl
   (refine aI ?_;try with_reducible exact tt)
   refine⟨1,by omega,by omega,aD.keep rfl (by simp[aO,SV.ids,HE.ids,CV.ids,ImgD.dv,PartD.dv,StateD.dv,CoordD.dv,GrpD.dv];rfl) ?_⟩
   (refine rO (ai hm (ai @ImgD.dv.eq_1 (ai @PartD.dv.eq_1 (ai @StateD.dv.eq_1 (ai @CoordD.dv.eq_1 (ai @GrpD.dv.eq_1 (ai @List.map_append.{0,0} (ai @List.map_cons.{0,0} (@List.map_nil.{0,0}))))))))) ?_;try with_reducible exact tt)
 ·(refine gO (ai @ImgD.dv.eq_1 (ai @PartD.dv.eq_1 (ai @StateD.dv.eq_1 (ai @CoordD.dv.eq_1 (@GrpD.dv.eq_1))))) ?_;try with_reducible exact tt)
  (first|refine Wp.sto 66 (vb (decide (0≤i.m.gr.b2) && decide (i.m.gr.b2≤2000))) ?_ ?_|refine Wp.rtoS 66 (vb (decide (0≤i.m.gr.b2) && decide (i.m.gr.b2≤2000))) ?_ ?_|(refine Wp.seq ?_;first|refine Wp.sto 66 (vb (decide (0≤i.m.gr.b2) && decide (i.m.gr.b2≤2000))) ?_ ?_|refine Wp.rtoS 66 (vb (decide (0≤i.m.gr.b2) && decide (i.m.gr.b2≤2000))) ?_ ?_))
  ·((rcases Bool.eq_false_or_eq_true (decide (0≤i.m.gr.b2)) with hL1|hL1)<;>(rcases Bool.eq_false_or_eq_true (decide (i.m.gr.b2≤2000)) with hL2|hL2)<;>(((refine rO (ai hL1 (ai hL2 (ai @ImgD.dv.eq_1 (ai @PartD.dv.eq_1 (ai @StateD.dv.eq_1 (ai @CoordD.dv.eq_1 (@GrpD.dv.eq_1))))))) ?_;try with_reducible exact tt);(repeat (refine aQ (by assumption) ?_;(refine rO (ai hL1 (ai hL2 (ai @ImgD.dv.eq_1 (ai @PartD.dv.eq_1 (ai @StateD.dv.eq_1 (ai @CoordD.dv.eq_1 (@GrpD.dv.eq_1))))))) ?_;try with_reducible exact tt))));all_goals (exact (show aH _ _=true by kernel_rfl))))
  refine Wp.cond (by (refine aK ?_;try with_reducible exact tt);rfl) (fun h=>?_) (fun h=>?_)
  ·have hm:hJ i.m.gr.b2=2*i.m.gr.b2:=by unfold hJ;rw[h];rfl
   have h2:=h
   simp only[Bool.and_eq_true,decide_eq_true_eq] at h2
   have hw:IntKind.i64.wrap (2*i.m.gr.b2)=2*i.m.gr.b2:=aG (by omega)
   (refine gO (hw) ?_;try with_reducible exact tt)
   refine⟨2,by omega,by omega,aD.keep rfl (by simp[aO,SV.ids,HE.ids,CV.ids,ImgD.dv,PartD.dv,StateD.dv,CoordD.dv,GrpD.dv];rfl) ?_⟩
   (refine rO (ai hm (ai @ImgD.dv.eq_1 (ai @PartD.dv.eq_1 (ai @StateD.dv.eq_1 (ai @CoordD.dv.eq_1 (ai @GrpD.dv.eq_1 (ai @List.map_append.{0,0} (ai @List.map_cons.{0,0} (@List.map_nil.{0,0}))))))))) ?_;try with_reducible exact tt)
  ·have hm:hJ i.m.gr.b2=i.m.gr.b2:=by unfold hJ;rw[h];rfl
   (refine aI ?_;try with_reducible exact tt)
   refine⟨2,by omega,by omega,aD.keep rfl (by simp[aO,SV.ids,HE.ids,CV.ids,ImgD.dv,PartD.dv,StateD.dv,CoordD.dv,GrpD.dv];rfl) ?_⟩
   (refine rO (ai hm (ai @ImgD.dv.eq_1 (ai @PartD.dv.eq_1 (ai @StateD.dv.eq_1 (ai @CoordD.dv.eq_1 (ai @GrpD.dv.eq_1 (ai @List.map_append.{0,0} (ai @List.map_cons.{0,0} (@List.map_nil.{0,0}))))))))) ?_;try with_reducible exact tt)
 (refine gO (ai @ImgD.dv.eq_1 (ai @PartD.dv.eq_1 (ai @StateD.dv.eq_1 (ai @CoordD.dv.eq_1 (@GrpD.dv.eq_1))))) ?_;try with_reducible exact tt)
 refine Wp.rounds 4 (aN.go ?_)
 have hl0:=hs.m.c0.pends
 have hp0:=sJ (aPu hc 0)
 simp only[StateD.c] at hp0
 (refine gO (ai @ImgD.dv.eq_1 (ai @PartD.dv.eq_1 (ai @StateD.dv.eq_1 (ai @CoordD.dv.eq_1 (@GrpD.dv.eq_1))))) ?_;try with_reducible exact tt)
 refine Wp.loop (fun k:Nat=>⟨dI [(2,.c (.own 0 0)),(7,vi .i64 e),(8,.c (.own 2 0)),(12,vi .i64 0),(14,.c (.app 41 3 (((i.m.c0.pends.take k).map lQ).map PendD.dv))),(79,.agg ((i.m.c0.dv++(i.m.c1.dv++i.m.c2.dv)).map .d)),(80,vi .i64 0),(85,.c (.d (.lst 3 (i.m.c0.pends.map PendD.dv)))),(86,vi .i64 i.m.c0.pends.length),(87,vi .i64 k)],bJ [(0,.cells (i.dv.map .d)),(2,.cells (((⟨i.tag,(aX odd i.p0),(aX odd i.p1),(aX odd i.p2),⟨i.m.made,i.m.c0,i.m.c1,i.m.c2,⟨hJ i.m.gr.a0,hJ i.m.gr.a1,hJ i.m.gr.a2,hJ i.m.gr.b0,hJ i.m.gr.b1,hJ i.m.gr.b2⟩⟩⟩:ImgD).dv.map .d))),(41,.row 54 3 k)],60,125,0⟩) (fun k=>k≤i.m.c0.pends.length) (fun k=>i.m.c0.pends.length - k) 0 (Nat.zero_le _) ?_ ?_
 ·refine aD.trans (aD.nilApp (t:=14) (τ:=41) 54 3 (by (refine aK ?_;try with_reducible exact tt)) (by (refine aK ?_;try with_reducible exact tt))) (aD.keep rfl (by simp[aO,SV.ids,HE.ids,CV.ids,ImgD.dv,PartD.dv,StateD.dv,CoordD.dv,GrpD.dv];rfl) ?_)
  simp (maxSteps:=2000000) (disch:=omega) only[bF,aL,Nat.reduceBEq,ImgD.dv,PartD.dv,StateD.dv,CoordD.dv,GrpD.dv]
 intro k hk
 by_cases hlt:k<i.m.c0.pends.length
 ·have dk:decide ((k:Int)<(i.m.c0.pends.length:Int))=true:=decide_eq_true (by omega)
  have g1:i.m.c0.pends[k]? = some i.m.c0.pends[k]:=List.getElem?_eq_getElem hlt
  have hwk:IntKind.i64.wrap ((k:Int)+1)=((k+1:Nat):Int):=by rw[aG (by omega)];rfl
  have htk:=aF i.m.c0.pends k hlt
  have hx:=hp0 _ (List.getElem_mem hlt)
  have hbb:(k+1)*24≤140737488355328:=by omega
  have htl:(i.m.c0.pends.take k).length=k:=by simp;omega
  generalize i.m.c0.pends[k]=r at *
  have hro:0≤r.off∧r.off≤1048576:=by simp only[dG,aU,Bool.and_eq_true,decide_eq_true_eq] at hx;exact hx.2
  have w3:IntKind.i64.wrap (2*r.off)=2*r.off:=aG (by omega)
  (refine gO (ai dk (ai g1 (ai @ImgD.dv.eq_1 (ai @PartD.dv.eq_1 (ai @StateD.dv.eq_1 (ai @CoordD.dv.eq_1 (ai @GrpD.dv.eq_1 (ai @List.set_cons_succ.{0} (ai @List.set_cons_zero.{0} (ai @PendD.dv.eq_1 (ai htl (ai hbb (w3))))))))))))) ?_;try with_reducible exact tt)
  refine Wp.cond (by (refine aK ?_;try with_reducible exact tt);rfl) (fun h=>?_) (fun h=>?_)
  ·(refine aI ?_;try with_reducible exact tt)
   (refine aK ?_;try with_reducible exact tt)
  (refine gO (ai @ImgD.dv.eq_1 (ai @PartD.dv.eq_1 (ai @StateD.dv.eq_1 (ai @CoordD.dv.eq_1 (ai @GrpD.dv.eq_1 (ai @List.set_cons_succ.{0} (ai @List.set_cons_zero.{0} (ai @PendD.dv.eq_1 (ai htl (ai hbb (w3))))))))))) ?_;try with_reducible exact tt)
  refine⟨k+1,by omega,by omega,aD.keep rfl (by simp[aO,SV.ids,HE.ids,CV.ids,ImgD.dv,PartD.dv,StateD.dv,CoordD.dv,GrpD.dv];rfl) ?_⟩
  simp (maxSteps:=2000000) (disch:=omega) only[bF,aL,Nat.reduceBEq,ImgD.dv,PartD.dv,StateD.dv,CoordD.dv,GrpD.dv,htk,PendD.dv,lQ,List.map_append]
 have hk2:k=i.m.c0.pends.length:=by omega
 subst hk2
 have dk:decide ((i.m.c0.pends.length:Int)<(i.m.c0.pends.length:Int))=false:=decide_eq_false (by omega)
 (refine gO (ai dk (ai @ImgD.dv.eq_1 (ai @PartD.dv.eq_1 (ai @StateD.dv.eq_1 (ai @CoordD.dv.eq_1 (ai @GrpD.dv.eq_1 (ai @List.set_cons_succ.{0} (ai @List.set_cons_zero.{0} (@List.take_length.{0}))))))))) ?_;try with_reducible exact tt)
 clear dk
 have hl1:=hs.m.c1.pends
 have hp1:=sJ (aPu hc 1)
 simp only[StateD.c] at hp1
 (refine gO (ai @ImgD.dv.eq_1 (ai @PartD.dv.eq_1 (ai @StateD.dv.eq_1 (ai @CoordD.dv.eq_1 (@GrpD.dv.eq_1))))) ?_;try with_reducible exact tt)
 refine Wp.loop (fun k:Nat=>⟨dI [(2,.c (.own 0 0)),(7,vi .i64 e),(8,.c (.own 2 0)),(12,vi .i64 1),(14,.c (.app 42 3 (((i.m.c1.pends.take k).map lQ).map PendD.dv))),(79,.agg ((i.m.c0.dv++(i.m.c1.dv++i.m.c2.dv)).map .d)),(80,vi .i64 1),(85,.c (.d (.lst 3 (i.m.c1.pends.map PendD.dv)))),(86,vi .i64 i.m.c1.pends.length),(87,vi .i64 k)],bJ [(0,.cells (i.dv.map .d)),(2,.cells ((((⟨i.tag,(aX odd i.p0),(aX odd i.p1),(aX odd i.p2),⟨i.m.made,(mvC i.m.c0),i.m.c1,i.m.c2,⟨hJ i.m.gr.a0,hJ i.m.gr.a1,hJ i.m.gr.a2,hJ i.m.gr.b0,hJ i.m.gr.b1,hJ i.m.gr.b2⟩⟩⟩:ImgD).dv.map .d).set 23 (.app 41 3 ((i.m.c0.pends.map lQ).map PendD.dv))))),(41,.row 54 3 i.m.c0.pends.length),(42,.row 54 3 k)],60,125,0⟩) (fun k=>k≤i.m.c1.pends.length) (fun k=>i.m.c1.pends.length - k) 0 (Nat.zero_le _) ?_ ?_
 ·refine aD.trans (aD.nilApp (t:=14) (τ:=42) 54 3 (by (refine aK ?_;try with_reducible exact tt)) (by (refine aK ?_;try with_reducible exact tt))) (aD.keep rfl (by simp[aO,SV.ids,HE.ids,CV.ids,ImgD.dv,PartD.dv,StateD.dv,CoordD.dv,GrpD.dv];rfl) ?_)
  simp (maxSteps:=2000000) (disch:=omega) only[bF,aL,Nat.reduceBEq,ImgD.dv,PartD.dv,StateD.dv,CoordD.dv,GrpD.dv,List.set_cons_succ,List.set_cons_zero,mvC]
 intro k hk
 by_cases hlt:k<i.m.c1.pends.length
 ·have dk:decide ((k:Int)<(i.m.c1.pends.length:Int))=true:=decide_eq_true (by omega)
  have g1:i.m.c1.pends[k]? = some i.m.c1.pends[k]:=List.getElem?_eq_getElem hlt
  have hwk:IntKind.i64.wrap ((k:Int)+1)=((k+1:Nat):Int):=by rw[aG (by omega)];rfl
  have htk:=aF i.m.c1.pends k hlt
  have hx:=hp1 _ (List.getElem_mem hlt)
  have hbb:(k+1)*24≤140737488355328:=by omega
  have htl:(i.m.c1.pends.take k).length=k:=by simp;omega
  generalize i.m.c1.pends[k]=r at *
  have hro:0≤r.off∧r.off≤1048576:=by simp only[dG,aU,Bool.and_eq_true,decide_eq_true_eq] at hx;exact hx.2
  have w3:IntKind.i64.wrap (2*r.off)=2*r.off:=aG (by omega)
  (refine gO (ai dk (ai g1 (ai @ImgD.dv.eq_1 (ai @PartD.dv.eq_1 (ai @StateD.dv.eq_1 (ai @CoordD.dv.eq_1 (ai @GrpD.dv.eq_1 (ai @List.set_cons_succ.{0} (ai @List.set_cons_zero.{0} (ai @PendD.dv.eq_1 (ai htl (ai hbb (w3))))))))))))) ?_;try with_reducible exact tt)
  refine Wp.cond (by (refine aK ?_;try with_reducible exact tt);rfl) (fun h=>?_) (fun h=>?_)
  ·(refine aI ?_;try with_reducible exact tt)
   (refine aK ?_;try with_reducible exact tt)
  (refine gO (ai @ImgD.dv.eq_1 (ai @PartD.dv.eq_1 (ai @StateD.dv.eq_1 (ai @CoordD.dv.eq_1 (ai @GrpD.dv.eq_1 (ai @List.set_cons_succ.{0} (ai @List.set_cons_zero.{0} (ai @PendD.dv.eq_1 (ai htl (ai hbb (w3))))))))))) ?_;try with_reducible exact tt)
  refine⟨k+1,by omega,by omega,aD.keep rfl (by simp[aO,SV.ids,HE.ids,CV.ids,ImgD.dv,PartD.dv,StateD.dv,CoordD.dv,GrpD.dv];rfl) ?_⟩
  simp (maxSteps:=2000000) (disch:=omega) only[bF,aL,Nat.reduceBEq,ImgD.dv,PartD.dv,StateD.dv,CoordD.dv,GrpD.dv,List.set_cons_succ,List.set_cons_zero,htk,PendD.dv,lQ,List.map_append]
 have hk2:k=i.m.c1.pends.length:=by omega
 subst hk2
 have dk:decide ((i.m.c1.pends.length:Int)<(i.m.c1.pends.length:Int))=false:=decide_eq_false (by omega)
 (refine gO (ai dk (ai @ImgD.dv.eq_1 (ai @PartD.dv.eq_1 (ai @StateD.dv.eq_1 (ai @CoordD.dv.eq_1 (ai @GrpD.dv.eq_1 (ai @List.set_cons_succ.{0} (ai @List.set_cons_zero.{0} (@List.take_length.{0}))))))))) ?_;try with_reducible exact tt)
 clear dk
 have hl2:=hs.m.c2.pends
 have hp2:=sJ (aPu hc 2)
 simp only[StateD.c] at hp2
 (refine gO (ai @ImgD.dv.eq_1 (ai @PartD.dv.eq_1 (ai @StateD.dv.eq_1 (ai @CoordD.dv.eq_1 (@GrpD.dv.eq_1))))) ?_;try with_reducible exact tt)
 refine Wp.loop (fun k:Nat=>⟨dI [(2,.c (.own 0 0)),(7,vi .i64 e),(8,.c (.own 2 0)),(12,vi .i64 2),(14,.c (.app 43 3 (((i.m.c2.pends.take k).map lQ).map PendD.dv))),(79,.agg ((i.m.c0.dv++(i.m.c1.dv++i.m.c2.dv)).map .d)),(80,vi .i64 2),(85,.c (.d (.lst 3 (i.m.c2.pends.map PendD.dv)))),(86,vi .i64 i.m.c2.pends.length),(87,vi .i64 k)],bJ [(0,.cells (i.dv.map .d)),(2,.cells (((((⟨i.tag,(aX odd i.p0),(aX odd i.p1),(aX odd i.p2),⟨i.m.made,(mvC i.m.c0),(mvC i.m.c1),i.m.c2,⟨hJ i.m.gr.a0,hJ i.m.gr.a1,hJ i.m.gr.a2,hJ i.m.gr.b0,hJ i.m.gr.b1,hJ i.m.gr.b2⟩⟩⟩:ImgD).dv.map .d).set 23 (.app 41 3 ((i.m.c0.pends.map lQ).map PendD.dv))).set 31 (.app 42 3 ((i.m.c1.pends.map lQ).map PendD.dv))))),(41,.row 54 3 i.m.c0.pends.length),(42,.row 54 3 i.m.c1.pends.length),(43,.row 54 3 k)],60,125,0⟩) (fun k=>k≤i.m.c2.pends.length) (fun k=>i.m.c2.pends.length - k) 0 (Nat.zero_le _) ?_ ?_
 ·refine aD.trans (aD.nilApp (t:=14) (τ:=43) 54 3 (by (refine aK ?_;try with_reducible exact tt)) (by (refine aK ?_;try with_reducible exact tt))) (aD.keep rfl (by simp[aO,SV.ids,HE.ids,CV.ids,ImgD.dv,PartD.dv,StateD.dv,CoordD.dv,GrpD.dv];rfl) ?_)
  simp (maxSteps:=2000000) (disch:=omega) only[bF,aL,Nat.reduceBEq,ImgD.dv,PartD.dv,StateD.dv,CoordD.dv,GrpD.dv,List.set_cons_succ,List.set_cons_zero,mvC]
 intro k hk
 by_cases hlt:k<i.m.c2.pends.length
 ·have dk:decide ((k:Int)<(i.m.c2.pends.length:Int))=true:=decide_eq_true (by omega)
  have g1:i.m.c2.pends[k]? = some i.m.c2.pends[k]:=List.getElem?_eq_getElem hlt
  have hwk:IntKind.i64.wrap ((k:Int)+1)=((k+1:Nat):Int):=by rw[aG (by omega)];rfl
  have htk:=aF i.m.c2.pends k hlt
  have hx:=hp2 _ (List.getElem_mem hlt)
  have hbb:(k+1)*24≤140737488355328:=by omega
  have htl:(i.m.c2.pends.take k).length=k:=by simp;omega
  generalize i.m.c2.pends[k]=r at *
  have hro:0≤r.off∧r.off≤1048576:=by simp only[dG,aU,Bool.and_eq_true,decide_eq_true_eq] at hx;exact hx.2
  have w3:IntKind.i64.wrap (2*r.off)=2*r.off:=aG (by omega)
  (refine gO (ai dk (ai g1 (ai @ImgD.dv.eq_1 (ai @PartD.dv.eq_1 (ai @StateD.dv.eq_1 (ai @CoordD.dv.eq_1 (ai @GrpD.dv.eq_1 (ai @List.set_cons_succ.{0} (ai @List.set_cons_zero.{0} (ai @PendD.dv.eq_1 (ai htl (ai hbb (w3))))))))))))) ?_;try with_reducible exact tt)
  refine Wp.cond (by (refine aK ?_;try with_reducible exact tt);rfl) (fun h=>?_) (fun h=>?_)
  ·(refine aI ?_;try with_reducible exact tt)
   (refine aK ?_;try with_reducible exact tt)
  (refine gO (ai @ImgD.dv.eq_1 (ai @PartD.dv.eq_1 (ai @StateD.dv.eq_1 (ai @CoordD.dv.eq_1 (ai @GrpD.dv.eq_1 (ai @List.set_cons_succ.{0} (ai @List.set_cons_zero.{0} (ai @PendD.dv.eq_1 (ai htl (ai hbb (w3))))))))))) ?_;try with_reducible exact tt)
  refine⟨k+1,by omega,by omega,aD.keep rfl (by simp[aO,SV.ids,HE.ids,CV.ids,ImgD.dv,PartD.dv,StateD.dv,CoordD.dv,GrpD.dv];rfl) ?_⟩
  simp (maxSteps:=2000000) (disch:=omega) only[bF,aL,Nat.reduceBEq,ImgD.dv,PartD.dv,StateD.dv,CoordD.dv,GrpD.dv,List.set_cons_succ,List.set_cons_zero,htk,PendD.dv,lQ,List.map_append]
 have hk2:k=i.m.c2.pends.length:=by omega
 subst hk2
 have dk:decide ((i.m.c2.pends.length:Int)<(i.m.c2.pends.length:Int))=false:=decide_eq_false (by omega)
 (refine gO (ai dk (ai @ImgD.dv.eq_1 (ai @PartD.dv.eq_1 (ai @StateD.dv.eq_1 (ai @CoordD.dv.eq_1 (ai @GrpD.dv.eq_1 (ai @List.set_cons_succ.{0} (ai @List.set_cons_zero.{0} (@List.take_length.{0}))))))))) ?_;try with_reducible exact tt)
 clear dk
 cases hb:eT i with
 | false =>
  have e0:e=2:=by rw[← he];unfold kS;rw[hb];rfl
  subst e0
  (refine aI ?_;try with_reducible exact tt)
  (refine aK ?_;try with_reducible exact tt)
 | true =>
  have e0:e=0:=by rw[← he];unfold kS;rw[hb];rfl
  subst e0
  obtain⟨hb2,heq⟩:=aRv ho hb hr ⟨hf0,hf1,hf2⟩
  have c5:=sC i (mvI odd i) hs hr (aIx odd hs) (aDw odd hr) hb hb2
  have c6:=sC (mvI odd i) i (aIx odd hs) (aDw odd hr) hs hr hb2 hb
  rw[heq,decide_eq_true rfl] at c5 c6
  simp only[mvI,aUr,ImgD.dv,PartD.dv,StateD.dv,CoordD.dv,GrpD.dv,List.cons_append,List.nil_append] at c5 c6
  (refine gO (ai @ImgD.dv.eq_1 (ai @PartD.dv.eq_1 (ai @StateD.dv.eq_1 (ai @CoordD.dv.eq_1 (@GrpD.dv.eq_1))))) ?_;try with_reducible exact tt)
  (refine aK ?_;try with_reducible exact tt)
theorem aAd (i:ImgD) (b:Bool) (h8:I8I i):aJ Tryz.prog 5 [.agg i.dv,dC b] (dC true):=by
 cases hg:eK i with
 | true=>exact aUn i b hg
 | false =>
  cases hc:aS i with
  | false=>exact aUo i b h8 hg hc
  | true=>exact aUp i b h8 hg hc
end Go.Proofs.YtkmfmphpndhkjaaGreatDoor
