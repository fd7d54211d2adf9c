/- The abstract machine (FiA, FrsA, FrsB). -/
import Derived.Test.YtkmfmphpndhkjaaGreatDoorApA
import Derived.Test.YtkmfmphpndhkjaaGreatDoorMacB
import Derived.Test.YtkmfmphpndhkjaaGreatDoorRnd
import Derived.Test.YtkmfmphpndhkjaaGreatDoorImA
import Derived.Test.YtkmfmphpndhkjaaGreatDoorEnM
import Derived.Test.YtkmfmphpndhkjaaGreatDoorMtC
namespace Go.Proofs.YtkmfmphpndhkjaaGreatDoor
open Go Go.RowKit
set_option maxHeartbeats 4000000
set_option maxRecDepth 100000
set_option linter.unusedVariables false
set_option linter.unusedSimpArgs false
def cG (ds:List (List D)) (z:List D) (m:Nat):List CV:=(ds.flatten++(List.replicate m z).flatten).map .d
theorem aBq {α:Type} (z:List α) (m:Nat):(List.replicate m z).flatten.length=m*z.length:=by
 induction m with
 | zero=>simp
 | succ m ih=>rw[List.replicate_succ,List.flatten_cons,List.length_append,ih,Nat.succ_mul];omega
theorem eZ {ds:List (List D)} {z:List D} {m:Nat} (h:∀ x ∈ ds,x.length=z.length):(cG ds z m).length=(ds.length+m)*z.length:=by
 simp only[cG,List.length_map,List.length_append,aBq,dQ h,Nat.add_mul]
theorem bT (ds:List (List D)) (z:List D) (m:Nat):(cG ds z m).flatMap CV.ids=[]:=by
 simp only[cG,List.flatMap_map,CV.ids,List.flatMap_eq_nil_iff,implies_true]
theorem dT (zs:List Value):∀ n,(mP zs n).map (fun v=>CV.d (.val v))=cG [] (zs.map .val) n
 | 0=>rfl
 | n+1=>by
  have ih:=dT zs n
  simp only[cG,List.flatten_nil,List.nil_append] at ih ⊢
  rw[mP,List.map_append,ih,List.replicate_succ,List.flatten_cons,List.map_append,List.map_map]
  rfl
theorem fA {ds:List (List D)} {z x:List D} {m o:Nat} (hd:∀ y ∈ ds,y.length=z.length) (hx:x.length=z.length) (ho:o=ds.length*z.length) {us:List CV} (hu:us=x.map .d) {o2:Nat} (ho2:o2=o+z.length):List.take o (cG ds z (m+1))++us++List.drop o2 (cG ds z (m+1))=cG (ds++[x]) z m:=by
 subst ho hu ho2
 have e:cG ds z (m+1)=ds.flatten.map CV.d++(z.map CV.d++((List.replicate m z).flatten.map CV.d)):=by
  simp only[cG,List.replicate_succ,List.flatten_cons,List.map_append]
 have hl:(ds.flatten.map CV.d).length=ds.length*z.length:=by rw[List.length_map,dQ hd]
 rw[e,List.take_left' hl,← hl,List.drop_append]
 rw[List.drop_left' (by simp)]
 simp[cG]
theorem aA9 (ds:List (List D)) (z:List D):cQ CV.toD0 (cG ds z 0)=some ds.flatten:=by
 have:cG ds z 0=ds.flatten.map CV.d:=by simp[cG]
 rw[this]
 induction ds.flatten with
 | nil=>rfl
 | cons a l ih=>simp only[List.map_cons,cQ,CV.toD0,ih]
theorem qO {α:Type} {s:Nat}:∀ (ds:List (List α)),(∀ x ∈ ds,x.length=s)→gV s ds.length ds.flatten=ds
 | [],_=>rfl
 | x::ds,h=>by
  have hx:=h x (by simp)
  simp only[List.length_cons,gV,List.flatten_cons]
  rw[List.take_left' hx,List.drop_left' hx,qO ds (fun y hy=>h y (by simp[hy]))]
theorem aD.slotH {σ:St} {t:Nat} {x y:SV} (ht:σ.env t=x) (hxy:∀ F K0 g w v,RelH F K0 g σ.H w→bB g σ.H x v→bB g σ.H y v):aD σ { σ with env:=upd σ.env t y }:=by
 intro W0 K0 g a w r
 refine⟨g,r.mem,fun u=>?_,r.size,r.defers,r.ln,r.rd,r.nodup,r.lt⟩
 show bB g σ.H (upd σ.env t y u) _
 by_cases h:u=t
 ·subst h;rw[aC];exact hxy _ _ _ _ _ r.mem (ht ▸ r.env u)
 ·rw[aB _ _ h];exact r.env u
theorem aD.fillSlot {σ:St} {B t n s:Nat} {z:List D} {ds:List (List D)} (ht:σ.env t = .c (.view B s 0 n)) (hB:σ.H B=some (.cells (cG ds z 0))) (hs:∀ x ∈ ds,x.length=s) (hn:ds.length=n) :
  aD σ { σ with env:=upd σ.env t (.c (.d (.lst s ds))),H:=upd σ.H B (some (.froz ds.flatten)) }:=by
 refine aD.trans (aD.freeze (id:=B) hB (aA9 ds z)) ?_
 refine aD.slotH (t:=t) ht (fun F K0 g w v hm r=>?_)
 have:=aF5 (n:=n) (sz:=s) hm (aC _ _ _) (by rw[dQ hs,hn]) r
 rw[← hn,qO ds hs] at this
 exact this
theorem aD.fillCell {σ:St} {A B k n s:Nat} {cs:List CV} {z:List D} {ds:List (List D)} (hA:σ.H A=some (.cells cs)) (hAB:A≠B) (hk:cs[k]? = some (.view B s 0 n)) (hB:σ.H B=some (.cells (cG ds z 0))) (hs:∀ x ∈ ds,x.length=s) (hn:ds.length=n) :
  aD σ { σ with H:=upd (upd σ.H B (some (.froz ds.flatten))) A (some (.cells (cs.set k (.d (.lst s ds))))) }:=by
 refine aD.trans (aD.freeze (id:=B) hB (aA9 ds z)) ?_
 have:=aD.viewCell (σ:={ σ with H:=upd σ.H B (some (.froz ds.flatten)) }) (A:=A) (B:=B) (k:=k) (sz:=s) (n:=n) (cs:=cs) (ds:=ds.flatten) ((aB _ _ hAB).trans hA) hk (aC _ _ _) (by rw[dQ hs,hn])
 rw[← hn,qO ds hs] at this
 exact this
theorem aJ.of_nil {P:Program} {f:FuncId} {s:Nat} {rest:List D} {r:D} (h:∀ a c,aJ P f (.val (.slice a 0 c)::rest) r):aJ P f (.lst s []::rest) r:=by
 refine⟨(h none 0).1,fun K w vs hB hk hL=>?_⟩
 have hl:=hL.1
 match vs,hl with
 | v::vs,hl =>
  have hv:=hL.2 0 _ v rfl rfl
  obtain⟨a,c,us,rfl,_⟩:=hv.inv
  exact (h a c).2 K w _ hB hk ⟨hL.1,fun j x v hx hv=>by
   cases j with
   | zero=>simp at hx hv;subst hx hv;exact Rep.val _
   | succ j=>exact hL.2 (j+1) x v hx hv⟩
set_option maxHeartbeats 8000000
def yP:List D:=[str [],str []]
theorem aKy (l:List RecD) (k:Nat):∀ y ∈ (l.take k).map RecD.dv,y.length=yP.length:=fun y hy=>by
 obtain⟨x,_,rfl⟩:=List.mem_map.1 hy
 rfl
theorem aE5 (l:List RecD) (f:Nat) (hl:l.length≤100000) (hf:∀ x ∈ l,aJ Tryz.prog f [.agg x.dv] (.agg x.dv)):aJ Tryz.prog 198 [.lst 2 (l.map RecD.dv),.fn (.func f) []] (.lst 2 (l.map RecD.dv)):=by
 cases hq:l with
 | nil =>
  refine aJ.of_nil (fun a c=>?_)
  (refine aJ.of_bodyW Tryz.func198 rfl rfl Tryz.ntmps198 Tryz.results198 (by simp) ?_)
  cases a with
  | none =>
   (refine gO (ai @Option.isNone_none.{0} (@Option.isNone_some.{0})) ?_;try with_reducible exact tt)
   (refine aM ?_;try with_reducible exact tt)
   exact⟨_,rfl,iI.nil 2⟩
  | some ad =>
   (refine gO (ai @Option.isNone_none.{0} (@Option.isNone_some.{0})) ?_;try with_reducible exact tt)
   refine Wp.rounds 1 (aL.go ?_)
   (refine aH ?_;try with_reducible exact tt)
   (refine aM ?_;try with_reducible exact tt)
   exact⟨_,rfl,fun K v h=>h⟩
 | cons x xs =>
  rw[← hq]
  have hcons:l.map RecD.dv=x.dv::xs.map RecD.dv:=by rw[hq];rfl
  have hlen:xs.length+1=l.length:=by rw[hq];rfl
  have e3:32*l.length≤140737488355328:=by omega
  have e4:l.length≠0:=by omega
  have hzl:yP.length=2:=rfl
  (refine aJ.of_body Tryz.func198 rfl rfl Tryz.ntmps198 Tryz.results198 (by simp) ?_)
  (repeat (first|apply Wp.skip|apply Wp.exit|apply Wp.ret|apply Wp.block|apply Wp.label|((first|refine Wp.sreg (fun K hK=>?_)|refine Wp.reg (fun K hK=>?_)|refine Wp.sdrw aA (fun K hK=>?_)|refine Wp.drw aA (fun K hK=>?_)|refine Wp.condG (fun K hK hF=>?_));(repeat (revert hK;intro hK;simp (maxSteps:=2000000) (disch:=omega) only[bZ,TY,aK,bD,bS,SV.ofD,bA,bF,bO,bP,aI,bQ,bI,bH,bR,bE,bM,bL,bN,CV.exact,CV.lstOf,CV.lenOf,CV.one,D.one,Value.oneCell',CV.toD0,bU,bC,bW,bK,rD0,bY,bJ,bV,reduceCtorEq,reduceIte,Nat.reduceBEq,Nat.reduceEqDiff,Nat.reduceAdd,Nat.reduceMul,Nat.reduceSub,Nat.reduceLT,Nat.reduceLeDiff,Nat.reduceBNe,Int.reduceLE,Int.reduceLT,Int.reduceBEq,Int.reduceBNe,Int.reduceEq,Int.reduceNeg,Int.reduceAdd,Int.reduceSub,Int.reduceToNat,forall_const,hcons,hlen,e3,e4,dT,List.length_map];(first|(refine hK _ ?_;clear hK K)|(refine⟨by kernel_rfl,hK _ ?_⟩;clear hK K)|(refine hK ?_;clear hK hF K)|(refine hF ?_;clear hK hF K)|refine aV (by assumption) ?_|refine gM (by assumption) ?_)));fail_if_success (revert hK;intro hK))|apply Wp.seq))
  refine Wp.loop (fun k:Nat=>⟨fP [(1,.c (.d (.fn (.func f) []))),(5,.c (.view 0 2 0 l.length)),(13,.c (.d (.lst 2 (l.map RecD.dv)))),(14,vi .i64 l.length),(15,vi .i64 k)],cL [(0,.cells (cG ((l.take k).map RecD.dv) yP (l.length - k)))],20,28,0⟩) (fun k=>k≤l.length) (fun k=>l.length - k) 0 (Nat.zero_le _) ?_ ?_
  ·refine aD.keep rfl (by simp[aN,SV.ids,HE.ids,CV.ids,bT];rfl) ?_
   simp (maxSteps:=2000000) (disch:=omega) only[bZ,TY,aK,bD,bS,SV.ofD,bA,bF,bO,bP,aI,bQ,bI,bH,bR,bE,bM,bL,bN,CV.exact,CV.lstOf,CV.lenOf,CV.one,D.one,Value.oneCell',CV.toD0,bU,bC,bW,bK,rD0,bY,bJ,bV,reduceCtorEq,reduceIte,Nat.reduceBEq,Nat.reduceEqDiff,Nat.reduceAdd,Nat.reduceMul,Nat.reduceSub,Nat.reduceLT,Nat.reduceLeDiff,Nat.reduceBNe,Int.reduceLE,Int.reduceLT,Int.reduceBEq,Int.reduceBNe,Int.reduceEq,Int.reduceNeg,Int.reduceAdd,Int.reduceSub,Int.reduceToNat,forall_const,hcons,yP,List.take_zero,List.map_nil,Nat.sub_zero]
  intro k hk
  by_cases hlt:k<l.length
  ·have dk:decide ((k:Int)<(l.length:Int))=true:=decide_eq_true (by omega)
   have g1:l[k]? = some l[k]:=List.getElem?_eq_getElem hlt
   have hwk:IntKind.i64.wrap ((k:Int)+1)=((k+1:Nat):Int):=by rw[aF (by omega)];rfl
   have hsn:(l.take (k+1)).map RecD.dv=(l.take k).map RecD.dv++[l[k].dv]:=by rw[aP l k hlt,List.map_append];rfl
   have c1:=hf _ (List.getElem_mem hlt)
   have hln:=aKy l k
   have htl:((l.take k).map RecD.dv).length=k:=by simp;omega
   generalize l[k]=y at *
   have hcl:(cG ((l.take k).map RecD.dv) yP (l.length - k)).length=l.length*2:=by
    rw[eZ hln,htl,hzl,show k+(l.length - k)=l.length by omega]
   have hk1:k*2+2≤l.length*2:=by omega
   have hput:=fun (us:List CV) (hu:us=y.dv.map .d)=>fA (m:=l.length - (k+1)) (x:=y.dv) hln rfl (o:=k*2) (by rw[htl,hzl]) hu (o2:=k*2+2) rfl
   rw[← hsn,show l.length - (k+1)+1=l.length - k by omega] at hput
   generalize cG ((l.take k).map RecD.dv) yP (l.length - k)=A at *
   have hput:=hput _ rfl
   simp only[RecD.dv,List.map_cons,List.map_nil] at c1 hput
   (refine gO (ai dk (ai g1 (ai @RecD.dv.eq_1 (ai hlt (ai hcl (ai hk1 (hput))))))) ?_;try with_reducible exact tt)
   refine⟨k+1,by omega,by omega,aD.keep rfl (by simp[aN,SV.ids,HE.ids,CV.ids,bT];rfl) ?_⟩
   (refine rO (hwk) ?_;try with_reducible exact tt)
  ·have hke:k=l.length:=by omega
   subst hke
   have dk:decide ((l.length:Int)<(l.length:Int))=false:=by simp
   refine Wp.weak (aD.fillSlot (t:=5) (B:=0) (n:=l.length) (s:=2) (z:=yP) (ds:=l.map RecD.dv) (by (refine aM ?_;try with_reducible exact tt)) (by (refine rO (ai @List.take_length.{0} (@Nat.sub_self)) ?_;try with_reducible exact tt)) (fun y hy=>by have:=aKy l l.length;rw[List.take_length] at this;exact this y hy) (by simp)) ?_
   (refine gO (dk) ?_;try with_reducible exact tt)
   (refine aM ?_;try with_reducible exact tt)
theorem aBn (x:RecD):aJ Tryz.prog 199 [.agg x.dv] (.agg x.dv):=by
 (refine aJ.of_body Tryz.func199 rfl rfl Tryz.ntmps199 Tryz.results199 (by simp) ?_)
 (refine gO (@RecD.dv.eq_1) ?_;try with_reducible exact tt)
 (refine rO (@RecD.dv.eq_1) ?_;try with_reducible exact tt)
theorem aDm (l:List RecD) (hl:l.length≤100000):aJ Tryz.prog 184 [.lst 2 (l.map RecD.dv)] (.lst 2 (l.map RecD.dv)):=by
 have c1:=aE5 l 199 hl (fun x _=>aBn x)
 (refine aJ.of_body Tryz.func184 rfl rfl Tryz.ntmps184 Tryz.results184 (by simp) ?_)
 (refine aH ?_;try with_reducible exact tt)
 (refine aM ?_;try with_reducible exact tt)
def iU:List D:=[int 0,int 0,int 0]
theorem aHd (l:List SeenD) (k:Nat):∀ y ∈ (l.take k).map SeenD.dv,y.length=iU.length:=fun y hy=>by
 obtain⟨x,_,rfl⟩:=List.mem_map.1 hy
 rfl
theorem aBy (l:List SeenD) (f:Nat) (hl:l.length≤100000) (hf:∀ x ∈ l,aJ Tryz.prog f [.agg x.dv] (.agg x.dv)):aJ Tryz.prog 185 [.lst 3 (l.map SeenD.dv),.fn (.func f) []] (.lst 3 (l.map SeenD.dv)):=by
 cases hq:l with
 | nil =>
  refine aJ.of_nil (fun a c=>?_)
  (refine aJ.of_bodyW Tryz.func185 rfl rfl Tryz.ntmps185 Tryz.results185 (by simp) ?_)
  cases a with
  | none =>
   (refine gO (ai @Option.isNone_none.{0} (@Option.isNone_some.{0})) ?_;try with_reducible exact tt)
   (refine aM ?_;try with_reducible exact tt)
   exact⟨_,rfl,iI.nil 3⟩
  | some ad =>
   (refine gO (ai @Option.isNone_none.{0} (@Option.isNone_some.{0})) ?_;try with_reducible exact tt)
   refine Wp.rounds 1 (aL.go ?_)
   (refine aH ?_;try with_reducible exact tt)
   (refine aM ?_;try with_reducible exact tt)
   exact⟨_,rfl,fun K v h=>h⟩
 | cons x xs =>
  rw[← hq]
  have hcons:l.map SeenD.dv=x.dv::xs.map SeenD.dv:=by rw[hq];rfl
  have hlen:xs.length+1=l.length:=by rw[hq];rfl
  have e3:24*l.length≤140737488355328:=by omega
  have e4:l.length≠0:=by omega
  have hzl:iU.length=3:=rfl
  (refine aJ.of_body Tryz.func185 rfl rfl Tryz.ntmps185 Tryz.results185 (by simp) ?_)
  (repeat (first|apply Wp.skip|apply Wp.exit|apply Wp.ret|apply Wp.block|apply Wp.label|((first|refine Wp.sreg (fun K hK=>?_)|refine Wp.reg (fun K hK=>?_)|refine Wp.sdrw aA (fun K hK=>?_)|refine Wp.drw aA (fun K hK=>?_)|refine Wp.condG (fun K hK hF=>?_));(repeat (revert hK;intro hK;simp (maxSteps:=2000000) (disch:=omega) only[bZ,TY,aK,bD,bS,SV.ofD,bA,bF,bO,bP,aI,bQ,bI,bH,bR,bE,bM,bL,bN,CV.exact,CV.lstOf,CV.lenOf,CV.one,D.one,Value.oneCell',CV.toD0,bU,bC,bW,bK,rD0,bY,bJ,bV,reduceCtorEq,reduceIte,Nat.reduceBEq,Nat.reduceEqDiff,Nat.reduceAdd,Nat.reduceMul,Nat.reduceSub,Nat.reduceLT,Nat.reduceLeDiff,Nat.reduceBNe,Int.reduceLE,Int.reduceLT,Int.reduceBEq,Int.reduceBNe,Int.reduceEq,Int.reduceNeg,Int.reduceAdd,Int.reduceSub,Int.reduceToNat,forall_const,hcons,hlen,e3,e4,dT,List.length_map];(first|(refine hK _ ?_;clear hK K)|(refine⟨by kernel_rfl,hK _ ?_⟩;clear hK K)|(refine hK ?_;clear hK hF K)|(refine hF ?_;clear hK hF K)|refine aV (by assumption) ?_|refine gM (by assumption) ?_)));fail_if_success (revert hK;intro hK))|apply Wp.seq))
  refine Wp.loop (fun k:Nat=>⟨fP [(1,.c (.d (.fn (.func f) []))),(5,.c (.view 0 3 0 l.length)),(13,.c (.d (.lst 3 (l.map SeenD.dv)))),(14,vi .i64 l.length),(15,vi .i64 k)],cL [(0,.cells (cG ((l.take k).map SeenD.dv) iU (l.length - k)))],20,28,0⟩) (fun k=>k≤l.length) (fun k=>l.length - k) 0 (Nat.zero_le _) ?_ ?_
  ·refine aD.keep rfl (by simp[aN,SV.ids,HE.ids,CV.ids,bT];rfl) ?_
   simp (maxSteps:=2000000) (disch:=omega) only[bZ,TY,aK,bD,bS,SV.ofD,bA,bF,bO,bP,aI,bQ,bI,bH,bR,bE,bM,bL,bN,CV.exact,CV.lstOf,CV.lenOf,CV.one,D.one,Value.oneCell',CV.toD0,bU,bC,bW,bK,rD0,bY,bJ,bV,reduceCtorEq,reduceIte,Nat.reduceBEq,Nat.reduceEqDiff,Nat.reduceAdd,Nat.reduceMul,Nat.reduceSub,Nat.reduceLT,Nat.reduceLeDiff,Nat.reduceBNe,Int.reduceLE,Int.reduceLT,Int.reduceBEq,Int.reduceBNe,Int.reduceEq,Int.reduceNeg,Int.reduceAdd,Int.reduceSub,Int.reduceToNat,forall_const,hcons,iU,List.take_zero,List.map_nil,Nat.sub_zero]
  intro k hk
  by_cases hlt:k<l.length
  ·have dk:decide ((k:Int)<(l.length:Int))=true:=decide_eq_true (by omega)
   have g1:l[k]? = some l[k]:=List.getElem?_eq_getElem hlt
   have hwk:IntKind.i64.wrap ((k:Int)+1)=((k+1:Nat):Int):=by rw[aF (by omega)];rfl
   have hsn:(l.take (k+1)).map SeenD.dv=(l.take k).map SeenD.dv++[l[k].dv]:=by rw[aP l k hlt,List.map_append];rfl
   have c1:=hf _ (List.getElem_mem hlt)
   have hln:=aHd l k
   have htl:((l.take k).map SeenD.dv).length=k:=by simp;omega
   generalize l[k]=y at *
   have hcl:(cG ((l.take k).map SeenD.dv) iU (l.length - k)).length=l.length*3:=by
    rw[eZ hln,htl,hzl,show k+(l.length - k)=l.length by omega]
   have hk1:k*3+3≤l.length*3:=by omega
   have hput:=fun (us:List CV) (hu:us=y.dv.map .d)=>fA (m:=l.length - (k+1)) (x:=y.dv) hln rfl (o:=k*3) (by rw[htl,hzl]) hu (o2:=k*3+3) rfl
   rw[← hsn,show l.length - (k+1)+1=l.length - k by omega] at hput
   generalize cG ((l.take k).map SeenD.dv) iU (l.length - k)=A at *
   have hput:=hput _ rfl
   simp only[SeenD.dv,List.map_cons,List.map_nil] at c1 hput
   (refine gO (ai dk (ai g1 (ai @SeenD.dv.eq_1 (ai hlt (ai hcl (ai hk1 (hput))))))) ?_;try with_reducible exact tt)
   refine⟨k+1,by omega,by omega,aD.keep rfl (by simp[aN,SV.ids,HE.ids,CV.ids,bT];rfl) ?_⟩
   (refine rO (hwk) ?_;try with_reducible exact tt)
  ·have hke:k=l.length:=by omega
   subst hke
   have dk:decide ((l.length:Int)<(l.length:Int))=false:=by simp
   refine Wp.weak (aD.fillSlot (t:=5) (B:=0) (n:=l.length) (s:=3) (z:=iU) (ds:=l.map SeenD.dv) (by (refine aM ?_;try with_reducible exact tt)) (by (refine rO (ai @List.take_length.{0} (@Nat.sub_self)) ?_;try with_reducible exact tt)) (fun y hy=>by have:=aHd l l.length;rw[List.take_length] at this;exact this y hy) (by simp)) ?_
   (refine gO (dk) ?_;try with_reducible exact tt)
   (refine aM ?_;try with_reducible exact tt)
theorem zG (x:SeenD):aJ Tryz.prog 186 [.agg x.dv] (.agg x.dv):=by
 (refine aJ.of_body Tryz.func186 rfl rfl Tryz.ntmps186 Tryz.results186 (by simp) ?_)
 (refine gO (@SeenD.dv.eq_1) ?_;try with_reducible exact tt)
 (refine rO (@SeenD.dv.eq_1) ?_;try with_reducible exact tt)
theorem aBp (l:List SeenD) (hl:l.length≤100000):aJ Tryz.prog 161 [.lst 3 (l.map SeenD.dv)] (.lst 3 (l.map SeenD.dv)):=by
 have c1:=aBy l 186 hl (fun x _=>zG x)
 (refine aJ.of_body Tryz.func161 rfl rfl Tryz.ntmps161 Tryz.results161 (by simp) ?_)
 (refine aH ?_;try with_reducible exact tt)
 (refine aM ?_;try with_reducible exact tt)
def jN:List D:=[int 0,int 0,int 0]
theorem aHb (l:List PendD) (k:Nat):∀ y ∈ (l.take k).map PendD.dv,y.length=jN.length:=fun y hy=>by
 obtain⟨x,_,rfl⟩:=List.mem_map.1 hy
 rfl
theorem aBw (l:List PendD) (f:Nat) (hl:l.length≤100000) (hf:∀ x ∈ l,aJ Tryz.prog f [.agg x.dv] (.agg x.dv)):aJ Tryz.prog 155 [.lst 3 (l.map PendD.dv),.fn (.func f) []] (.lst 3 (l.map PendD.dv)):=by
 cases hq:l with
 | nil =>
  refine aJ.of_nil (fun a c=>?_)
  (refine aJ.of_bodyW Tryz.func155 rfl rfl Tryz.ntmps155 Tryz.results155 (by simp) ?_)
  cases a with
  | none =>
   (refine gO (ai @Option.isNone_none.{0} (@Option.isNone_some.{0})) ?_;try with_reducible exact tt)
   (refine aM ?_;try with_reducible exact tt)
   exact⟨_,rfl,iI.nil 3⟩
  | some ad =>
   (refine gO (ai @Option.isNone_none.{0} (@Option.isNone_some.{0})) ?_;try with_reducible exact tt)
   refine Wp.rounds 1 (aL.go ?_)
   (refine aH ?_;try with_reducible exact tt)
   (refine aM ?_;try with_reducible exact tt)
   exact⟨_,rfl,fun K v h=>h⟩
 | cons x xs =>
  rw[← hq]
  have hcons:l.map PendD.dv=x.dv::xs.map PendD.dv:=by rw[hq];rfl
  have hlen:xs.length+1=l.length:=by rw[hq];rfl
  have e3:24*l.length≤140737488355328:=by omega
  have e4:l.length≠0:=by omega
  have hzl:jN.length=3:=rfl
  (refine aJ.of_body Tryz.func155 rfl rfl Tryz.ntmps155 Tryz.results155 (by simp) ?_)
  (repeat (first|apply Wp.skip|apply Wp.exit|apply Wp.ret|apply Wp.block|apply Wp.label|((first|refine Wp.sreg (fun K hK=>?_)|refine Wp.reg (fun K hK=>?_)|refine Wp.sdrw aA (fun K hK=>?_)|refine Wp.drw aA (fun K hK=>?_)|refine Wp.condG (fun K hK hF=>?_));(repeat (revert hK;intro hK;simp (maxSteps:=2000000) (disch:=omega) only[bZ,TY,aK,bD,bS,SV.ofD,bA,bF,bO,bP,aI,bQ,bI,bH,bR,bE,bM,bL,bN,CV.exact,CV.lstOf,CV.lenOf,CV.one,D.one,Value.oneCell',CV.toD0,bU,bC,bW,bK,rD0,bY,bJ,bV,reduceCtorEq,reduceIte,Nat.reduceBEq,Nat.reduceEqDiff,Nat.reduceAdd,Nat.reduceMul,Nat.reduceSub,Nat.reduceLT,Nat.reduceLeDiff,Nat.reduceBNe,Int.reduceLE,Int.reduceLT,Int.reduceBEq,Int.reduceBNe,Int.reduceEq,Int.reduceNeg,Int.reduceAdd,Int.reduceSub,Int.reduceToNat,forall_const,hcons,hlen,e3,e4,dT,List.length_map];(first|(refine hK _ ?_;clear hK K)|(refine⟨by kernel_rfl,hK _ ?_⟩;clear hK K)|(refine hK ?_;clear hK hF K)|(refine hF ?_;clear hK hF K)|refine aV (by assumption) ?_|refine gM (by assumption) ?_)));fail_if_success (revert hK;intro hK))|apply Wp.seq))
  refine Wp.loop (fun k:Nat=>⟨fP [(1,.c (.d (.fn (.func f) []))),(5,.c (.view 0 3 0 l.length)),(13,.c (.d (.lst 3 (l.map PendD.dv)))),(14,vi .i64 l.length),(15,vi .i64 k)],cL [(0,.cells (cG ((l.take k).map PendD.dv) jN (l.length - k)))],20,28,0⟩) (fun k=>k≤l.length) (fun k=>l.length - k) 0 (Nat.zero_le _) ?_ ?_
  ·refine aD.keep rfl (by simp[aN,SV.ids,HE.ids,CV.ids,bT];rfl) ?_
   simp (maxSteps:=2000000) (disch:=omega) only[bZ,TY,aK,bD,bS,SV.ofD,bA,bF,bO,bP,aI,bQ,bI,bH,bR,bE,bM,bL,bN,CV.exact,CV.lstOf,CV.lenOf,CV.one,D.one,Value.oneCell',CV.toD0,bU,bC,bW,bK,rD0,bY,bJ,bV,reduceCtorEq,reduceIte,Nat.reduceBEq,Nat.reduceEqDiff,Nat.reduceAdd,Nat.reduceMul,Nat.reduceSub,Nat.reduceLT,Nat.reduceLeDiff,Nat.reduceBNe,Int.reduceLE,Int.reduceLT,Int.reduceBEq,Int.reduceBNe,Int.reduceEq,Int.reduceNeg,Int.reduceAdd,Int.reduceSub,Int.reduceToNat,forall_const,hcons,jN,List.take_zero,List.map_nil,Nat.sub_zero]
  intro k hk
  by_cases hlt:k<l.length
  ·have dk:decide ((k:Int)<(l.length:Int))=true:=decide_eq_true (by omega)
   have g1:l[k]? = some l[k]:=List.getElem?_eq_getElem hlt
   have hwk:IntKind.i64.wrap ((k:Int)+1)=((k+1:Nat):Int):=by rw[aF (by omega)];rfl
   have hsn:(l.take (k+1)).map PendD.dv=(l.take k).map PendD.dv++[l[k].dv]:=by rw[aP l k hlt,List.map_append];rfl
   have c1:=hf _ (List.getElem_mem hlt)
   have hln:=aHb l k
   have htl:((l.take k).map PendD.dv).length=k:=by simp;omega
   generalize l[k]=y at *
   have hcl:(cG ((l.take k).map PendD.dv) jN (l.length - k)).length=l.length*3:=by
    rw[eZ hln,htl,hzl,show k+(l.length - k)=l.length by omega]
   have hk1:k*3+3≤l.length*3:=by omega
   have hput:=fun (us:List CV) (hu:us=y.dv.map .d)=>fA (m:=l.length - (k+1)) (x:=y.dv) hln rfl (o:=k*3) (by rw[htl,hzl]) hu (o2:=k*3+3) rfl
   rw[← hsn,show l.length - (k+1)+1=l.length - k by omega] at hput
   generalize cG ((l.take k).map PendD.dv) jN (l.length - k)=A at *
   have hput:=hput _ rfl
   simp only[PendD.dv,List.map_cons,List.map_nil] at c1 hput
   (refine gO (ai dk (ai g1 (ai @PendD.dv.eq_1 (ai hlt (ai hcl (ai hk1 (hput))))))) ?_;try with_reducible exact tt)
   refine⟨k+1,by omega,by omega,aD.keep rfl (by simp[aN,SV.ids,HE.ids,CV.ids,bT];rfl) ?_⟩
   (refine rO (hwk) ?_;try with_reducible exact tt)
  ·have hke:k=l.length:=by omega
   subst hke
   have dk:decide ((l.length:Int)<(l.length:Int))=false:=by simp
   refine Wp.weak (aD.fillSlot (t:=5) (B:=0) (n:=l.length) (s:=3) (z:=jN) (ds:=l.map PendD.dv) (by (refine aM ?_;try with_reducible exact tt)) (by (refine rO (ai @List.take_length.{0} (@Nat.sub_self)) ?_;try with_reducible exact tt)) (fun y hy=>by have:=aHb l l.length;rw[List.take_length] at this;exact this y hy) (by simp)) ?_
   (refine gO (dk) ?_;try with_reducible exact tt)
   (refine aM ?_;try with_reducible exact tt)
theorem zF (x:PendD):aJ Tryz.prog 156 [.agg x.dv] (.agg x.dv):=by
 (refine aJ.of_body Tryz.func156 rfl rfl Tryz.ntmps156 Tryz.results156 (by simp) ?_)
 (refine gO (@PendD.dv.eq_1) ?_;try with_reducible exact tt)
 (refine rO (@PendD.dv.eq_1) ?_;try with_reducible exact tt)
theorem aBm (l:List PendD) (hl:l.length≤100000):aJ Tryz.prog 122 [.lst 3 (l.map PendD.dv)] (.lst 3 (l.map PendD.dv)):=by
 have c1:=aBw l 156 hl (fun x _=>zF x)
 (refine aJ.of_body Tryz.func122 rfl rfl Tryz.ntmps122 Tryz.results122 (by simp) ?_)
 (refine aH ?_;try with_reducible exact tt)
 (refine aM ?_;try with_reducible exact tt)
def mY:List D:=[int 0,int 0,int 0,str [],str []]
theorem aGb (l:List RowD) (k:Nat):∀ y ∈ (l.take k).map RowD.dv,y.length=mY.length:=fun y hy=>by
 obtain⟨x,_,rfl⟩:=List.mem_map.1 hy
 rfl
theorem aE6 (l:List RowD) (f:Nat) (hl:l.length≤100000) (hf:∀ x ∈ l,aJ Tryz.prog f [.agg x.dv] (.agg x.dv)):aJ Tryz.prog 157 [.lst 5 (l.map RowD.dv),.fn (.func f) []] (.lst 5 (l.map RowD.dv)):=by
 cases hq:l with
 | nil =>
  refine aJ.of_nil (fun a c=>?_)
  (refine aJ.of_bodyW Tryz.func157 rfl rfl Tryz.ntmps157 Tryz.results157 (by simp) ?_)
  cases a with
  | none =>
   (refine gO (ai @Option.isNone_none.{0} (@Option.isNone_some.{0})) ?_;try with_reducible exact tt)
   (refine aM ?_;try with_reducible exact tt)
   exact⟨_,rfl,iI.nil 5⟩
  | some ad =>
   (refine gO (ai @Option.isNone_none.{0} (@Option.isNone_some.{0})) ?_;try with_reducible exact tt)
   refine Wp.rounds 1 (aL.go ?_)
   (refine aH ?_;try with_reducible exact tt)
   (refine aM ?_;try with_reducible exact tt)
   exact⟨_,rfl,fun K v h=>h⟩
 | cons x xs =>
  rw[← hq]
  have hcons:l.map RowD.dv=x.dv::xs.map RowD.dv:=by rw[hq];rfl
  have hlen:xs.length+1=l.length:=by rw[hq];rfl
  have e3:56*l.length≤140737488355328:=by omega
  have e4:l.length≠0:=by omega
  have hzl:mY.length=5:=rfl
  (refine aJ.of_body Tryz.func157 rfl rfl Tryz.ntmps157 Tryz.results157 (by simp) ?_)
  (repeat (first|apply Wp.skip|apply Wp.exit|apply Wp.ret|apply Wp.block|apply Wp.label|((first|refine Wp.sreg (fun K hK=>?_)|refine Wp.reg (fun K hK=>?_)|refine Wp.sdrw aA (fun K hK=>?_)|refine Wp.drw aA (fun K hK=>?_)|refine Wp.condG (fun K hK hF=>?_));(repeat (revert hK;intro hK;simp (maxSteps:=2000000) (disch:=omega) only[bZ,TY,aK,bD,bS,SV.ofD,bA,bF,bO,bP,aI,bQ,bI,bH,bR,bE,bM,bL,bN,CV.exact,CV.lstOf,CV.lenOf,CV.one,D.one,Value.oneCell',CV.toD0,bU,bC,bW,bK,rD0,bY,bJ,bV,reduceCtorEq,reduceIte,Nat.reduceBEq,Nat.reduceEqDiff,Nat.reduceAdd,Nat.reduceMul,Nat.reduceSub,Nat.reduceLT,Nat.reduceLeDiff,Nat.reduceBNe,Int.reduceLE,Int.reduceLT,Int.reduceBEq,Int.reduceBNe,Int.reduceEq,Int.reduceNeg,Int.reduceAdd,Int.reduceSub,Int.reduceToNat,forall_const,hcons,hlen,e3,e4,dT,List.length_map];(first|(refine hK _ ?_;clear hK K)|(refine⟨by kernel_rfl,hK _ ?_⟩;clear hK K)|(refine hK ?_;clear hK hF K)|(refine hF ?_;clear hK hF K)|refine aV (by assumption) ?_|refine gM (by assumption) ?_)));fail_if_success (revert hK;intro hK))|apply Wp.seq))
  refine Wp.loop (fun k:Nat=>⟨fP [(1,.c (.d (.fn (.func f) []))),(5,.c (.view 0 5 0 l.length)),(13,.c (.d (.lst 5 (l.map RowD.dv)))),(14,vi .i64 l.length),(15,vi .i64 k)],cL [(0,.cells (cG ((l.take k).map RowD.dv) mY (l.length - k)))],20,28,0⟩) (fun k=>k≤l.length) (fun k=>l.length - k) 0 (Nat.zero_le _) ?_ ?_
  ·refine aD.keep rfl (by simp[aN,SV.ids,HE.ids,CV.ids,bT];rfl) ?_
   simp (maxSteps:=2000000) (disch:=omega) only[bZ,TY,aK,bD,bS,SV.ofD,bA,bF,bO,bP,aI,bQ,bI,bH,bR,bE,bM,bL,bN,CV.exact,CV.lstOf,CV.lenOf,CV.one,D.one,Value.oneCell',CV.toD0,bU,bC,bW,bK,rD0,bY,bJ,bV,reduceCtorEq,reduceIte,Nat.reduceBEq,Nat.reduceEqDiff,Nat.reduceAdd,Nat.reduceMul,Nat.reduceSub,Nat.reduceLT,Nat.reduceLeDiff,Nat.reduceBNe,Int.reduceLE,Int.reduceLT,Int.reduceBEq,Int.reduceBNe,Int.reduceEq,Int.reduceNeg,Int.reduceAdd,Int.reduceSub,Int.reduceToNat,forall_const,hcons,mY,List.take_zero,List.map_nil,Nat.sub_zero]
  intro k hk
  by_cases hlt:k<l.length
  ·have dk:decide ((k:Int)<(l.length:Int))=true:=decide_eq_true (by omega)
   have g1:l[k]? = some l[k]:=List.getElem?_eq_getElem hlt
   have hwk:IntKind.i64.wrap ((k:Int)+1)=((k+1:Nat):Int):=by rw[aF (by omega)];rfl
   have hsn:(l.take (k+1)).map RowD.dv=(l.take k).map RowD.dv++[l[k].dv]:=by rw[aP l k hlt,List.map_append];rfl
   have c1:=hf _ (List.getElem_mem hlt)
   have hln:=aGb l k
   have htl:((l.take k).map RowD.dv).length=k:=by simp;omega
   generalize l[k]=y at *
   have hcl:(cG ((l.take k).map RowD.dv) mY (l.length - k)).length=l.length*5:=by
    rw[eZ hln,htl,hzl,show k+(l.length - k)=l.length by omega]
   have hk1:k*5+5≤l.length*5:=by omega
   have hput:=fun (us:List CV) (hu:us=y.dv.map .d)=>fA (m:=l.length - (k+1)) (x:=y.dv) hln rfl (o:=k*5) (by rw[htl,hzl]) hu (o2:=k*5+5) rfl
   rw[← hsn,show l.length - (k+1)+1=l.length - k by omega] at hput
   generalize cG ((l.take k).map RowD.dv) mY (l.length - k)=A at *
   have hput:=hput _ rfl
   simp only[RowD.dv,List.map_cons,List.map_nil] at c1 hput
   (refine gO (ai dk (ai g1 (ai @RowD.dv.eq_1 (ai hlt (ai hcl (ai hk1 (hput))))))) ?_;try with_reducible exact tt)
   refine⟨k+1,by omega,by omega,aD.keep rfl (by simp[aN,SV.ids,HE.ids,CV.ids,bT];rfl) ?_⟩
   (refine rO (hwk) ?_;try with_reducible exact tt)
  ·have hke:k=l.length:=by omega
   subst hke
   have dk:decide ((l.length:Int)<(l.length:Int))=false:=by simp
   refine Wp.weak (aD.fillSlot (t:=5) (B:=0) (n:=l.length) (s:=5) (z:=mY) (ds:=l.map RowD.dv) (by (refine aM ?_;try with_reducible exact tt)) (by (refine rO (ai @List.take_length.{0} (@Nat.sub_self)) ?_;try with_reducible exact tt)) (fun y hy=>by have:=aGb l l.length;rw[List.take_length] at this;exact this y hy) (by simp)) ?_
   (refine gO (dk) ?_;try with_reducible exact tt)
   (refine aM ?_;try with_reducible exact tt)
theorem sC (x:RowD):aJ Tryz.prog 158 [.agg x.dv] (.agg x.dv):=by
 (refine aJ.of_body Tryz.func158 rfl rfl Tryz.ntmps158 Tryz.results158 (by simp) ?_)
 (refine gO (@RowD.dv.eq_1) ?_;try with_reducible exact tt)
 (refine rO (@RowD.dv.eq_1) ?_;try with_reducible exact tt)
theorem aDn (l:List RowD) (hl:l.length≤100000):aJ Tryz.prog 124 [.lst 5 (l.map RowD.dv)] (.lst 5 (l.map RowD.dv)):=by
 have c1:=aE6 l 158 hl (fun x _=>sC x)
 (refine aJ.of_body Tryz.func124 rfl rfl Tryz.ntmps124 Tryz.results124 (by simp) ?_)
 (refine aH ?_;try with_reducible exact tt)
 (refine aM ?_;try with_reducible exact tt)
def yN:List D:=[int 0,int 0,int 0,eK false,cH]
theorem aKw (l:List BatD) (k:Nat):∀ y ∈ (l.take k).map BatD.dv,y.length=yN.length:=fun y hy=>by
 obtain⟨x,_,rfl⟩:=List.mem_map.1 hy
 rfl
theorem aE3 (l:List BatD) (f:Nat) (hl:l.length≤100000) (hf:∀ x ∈ l,aJ Tryz.prog f [.agg x.dv] (.agg x.dv)):aJ Tryz.prog 159 [.lst 5 (l.map BatD.dv),.fn (.func f) []] (.lst 5 (l.map BatD.dv)):=by
 cases hq:l with
 | nil =>
  refine aJ.of_nil (fun a c=>?_)
  (refine aJ.of_bodyW Tryz.func159 rfl rfl Tryz.ntmps159 Tryz.results159 (by simp) ?_)
  cases a with
  | none =>
   (refine gO (ai @Option.isNone_none.{0} (@Option.isNone_some.{0})) ?_;try with_reducible exact tt)
   (refine aM ?_;try with_reducible exact tt)
   exact⟨_,rfl,iI.nil 5⟩
  | some ad =>
   (refine gO (ai @Option.isNone_none.{0} (@Option.isNone_some.{0})) ?_;try with_reducible exact tt)
   refine Wp.rounds 1 (aL.go ?_)
   (refine aH ?_;try with_reducible exact tt)
   (refine aM ?_;try with_reducible exact tt)
   exact⟨_,rfl,fun K v h=>h⟩
 | cons x xs =>
  rw[← hq]
  have hcons:l.map BatD.dv=x.dv::xs.map BatD.dv:=by rw[hq];rfl
  have hlen:xs.length+1=l.length:=by rw[hq];rfl
  have e3:56*l.length≤140737488355328:=by omega
  have e4:l.length≠0:=by omega
  have hzl:yN.length=5:=rfl
  (refine aJ.of_body Tryz.func159 rfl rfl Tryz.ntmps159 Tryz.results159 (by simp) ?_)
  (repeat (first|apply Wp.skip|apply Wp.exit|apply Wp.ret|apply Wp.block|apply Wp.label|((first|refine Wp.sreg (fun K hK=>?_)|refine Wp.reg (fun K hK=>?_)|refine Wp.sdrw aA (fun K hK=>?_)|refine Wp.drw aA (fun K hK=>?_)|refine Wp.condG (fun K hK hF=>?_));(repeat (revert hK;intro hK;simp (maxSteps:=2000000) (disch:=omega) only[bZ,TY,aK,bD,bS,SV.ofD,bA,bF,bO,bP,aI,bQ,bI,bH,bR,bE,bM,bL,bN,CV.exact,CV.lstOf,CV.lenOf,CV.one,D.one,Value.oneCell',CV.toD0,bU,bC,bW,bK,rD0,bY,bJ,bV,reduceCtorEq,reduceIte,Nat.reduceBEq,Nat.reduceEqDiff,Nat.reduceAdd,Nat.reduceMul,Nat.reduceSub,Nat.reduceLT,Nat.reduceLeDiff,Nat.reduceBNe,Int.reduceLE,Int.reduceLT,Int.reduceBEq,Int.reduceBNe,Int.reduceEq,Int.reduceNeg,Int.reduceAdd,Int.reduceSub,Int.reduceToNat,forall_const,hcons,hlen,e3,e4,dT,List.length_map];(first|(refine hK _ ?_;clear hK K)|(refine⟨by kernel_rfl,hK _ ?_⟩;clear hK K)|(refine hK ?_;clear hK hF K)|(refine hF ?_;clear hK hF K)|refine aV (by assumption) ?_|refine gM (by assumption) ?_)));fail_if_success (revert hK;intro hK))|apply Wp.seq))
  refine Wp.loop (fun k:Nat=>⟨fP [(1,.c (.d (.fn (.func f) []))),(5,.c (.view 0 5 0 l.length)),(13,.c (.d (.lst 5 (l.map BatD.dv)))),(14,vi .i64 l.length),(15,vi .i64 k)],cL [(0,.cells (cG ((l.take k).map BatD.dv) yN (l.length - k)))],20,28,0⟩) (fun k=>k≤l.length) (fun k=>l.length - k) 0 (Nat.zero_le _) ?_ ?_
  ·refine aD.keep rfl (by simp[aN,SV.ids,HE.ids,CV.ids,bT];rfl) ?_
   simp (maxSteps:=2000000) (disch:=omega) only[bZ,TY,aK,bD,bS,SV.ofD,bA,bF,bO,bP,aI,bQ,bI,bH,bR,bE,bM,bL,bN,CV.exact,CV.lstOf,CV.lenOf,CV.one,D.one,Value.oneCell',CV.toD0,bU,bC,bW,bK,rD0,bY,bJ,bV,reduceCtorEq,reduceIte,Nat.reduceBEq,Nat.reduceEqDiff,Nat.reduceAdd,Nat.reduceMul,Nat.reduceSub,Nat.reduceLT,Nat.reduceLeDiff,Nat.reduceBNe,Int.reduceLE,Int.reduceLT,Int.reduceBEq,Int.reduceBNe,Int.reduceEq,Int.reduceNeg,Int.reduceAdd,Int.reduceSub,Int.reduceToNat,forall_const,hcons,yN,List.take_zero,List.map_nil,Nat.sub_zero]
  intro k hk
  by_cases hlt:k<l.length
  ·have dk:decide ((k:Int)<(l.length:Int))=true:=decide_eq_true (by omega)
   have g1:l[k]? = some l[k]:=List.getElem?_eq_getElem hlt
   have hwk:IntKind.i64.wrap ((k:Int)+1)=((k+1:Nat):Int):=by rw[aF (by omega)];rfl
   have hsn:(l.take (k+1)).map BatD.dv=(l.take k).map BatD.dv++[l[k].dv]:=by rw[aP l k hlt,List.map_append];rfl
   have c1:=hf _ (List.getElem_mem hlt)
   have hln:=aKw l k
   have htl:((l.take k).map BatD.dv).length=k:=by simp;omega
   generalize l[k]=y at *
   have hcl:(cG ((l.take k).map BatD.dv) yN (l.length - k)).length=l.length*5:=by
    rw[eZ hln,htl,hzl,show k+(l.length - k)=l.length by omega]
   have hk1:k*5+5≤l.length*5:=by omega
   have hput:=fun (us:List CV) (hu:us=y.dv.map .d)=>fA (m:=l.length - (k+1)) (x:=y.dv) hln rfl (o:=k*5) (by rw[htl,hzl]) hu (o2:=k*5+5) rfl
   rw[← hsn,show l.length - (k+1)+1=l.length - k by omega] at hput
   generalize cG ((l.take k).map BatD.dv) yN (l.length - k)=A at *
   have hput:=hput _ rfl
   simp only[BatD.dv,List.map_cons,List.map_nil] at c1 hput
   (refine gO (ai dk (ai g1 (ai @BatD.dv.eq_1 (ai hlt (ai hcl (ai hk1 (hput))))))) ?_;try with_reducible exact tt)
   refine⟨k+1,by omega,by omega,aD.keep rfl (by simp[aN,SV.ids,HE.ids,CV.ids,bT];rfl) ?_⟩
   (refine rO (hwk) ?_;try with_reducible exact tt)
  ·have hke:k=l.length:=by omega
   subst hke
   have dk:decide ((l.length:Int)<(l.length:Int))=false:=by simp
   refine Wp.weak (aD.fillSlot (t:=5) (B:=0) (n:=l.length) (s:=5) (z:=yN) (ds:=l.map BatD.dv) (by (refine aM ?_;try with_reducible exact tt)) (by (refine rO (ai @List.take_length.{0} (@Nat.sub_self)) ?_;try with_reducible exact tt)) (fun y hy=>by have:=aKw l l.length;rw[List.take_length] at this;exact this y hy) (by simp)) ?_
   (refine gO (dk) ?_;try with_reducible exact tt)
   (refine aM ?_;try with_reducible exact tt)
def rK:List D:=[int 0,int 0,cH]
theorem aHa (l:List OpenD) (k:Nat):∀ y ∈ (l.take k).map OpenD.dv,y.length=rK.length:=fun y hy=>by
 obtain⟨x,_,rfl⟩:=List.mem_map.1 hy
 rfl
theorem sE (l:List OpenD) (f:Nat) (hl:l.length≤100000) (hf:∀ x ∈ l,aJ Tryz.prog f [.agg x.dv] (.agg x.dv)):aJ Tryz.prog 125 [.lst 3 (l.map OpenD.dv),.fn (.func f) []] (.lst 3 (l.map OpenD.dv)):=by
 cases hq:l with
 | nil =>
  refine aJ.of_nil (fun a c=>?_)
  (refine aJ.of_bodyW Tryz.func125 rfl rfl Tryz.ntmps125 Tryz.results125 (by simp) ?_)
  cases a with
  | none =>
   (refine gO (ai @Option.isNone_none.{0} (@Option.isNone_some.{0})) ?_;try with_reducible exact tt)
   (refine aM ?_;try with_reducible exact tt)
   exact⟨_,rfl,iI.nil 3⟩
  | some ad =>
   (refine gO (ai @Option.isNone_none.{0} (@Option.isNone_some.{0})) ?_;try with_reducible exact tt)
   refine Wp.rounds 1 (aL.go ?_)
   (refine aH ?_;try with_reducible exact tt)
   (refine aM ?_;try with_reducible exact tt)
   exact⟨_,rfl,fun K v h=>h⟩
 | cons x xs =>
  rw[← hq]
  have hcons:l.map OpenD.dv=x.dv::xs.map OpenD.dv:=by rw[hq];rfl
  have hlen:xs.length+1=l.length:=by rw[hq];rfl
  have e3:40*l.length≤140737488355328:=by omega
  have e4:l.length≠0:=by omega
  have hzl:rK.length=3:=rfl
  (refine aJ.of_body Tryz.func125 rfl rfl Tryz.ntmps125 Tryz.results125 (by simp) ?_)
  (repeat (first|apply Wp.skip|apply Wp.exit|apply Wp.ret|apply Wp.block|apply Wp.label|((first|refine Wp.sreg (fun K hK=>?_)|refine Wp.reg (fun K hK=>?_)|refine Wp.sdrw aA (fun K hK=>?_)|refine Wp.drw aA (fun K hK=>?_)|refine Wp.condG (fun K hK hF=>?_));(repeat (revert hK;intro hK;simp (maxSteps:=2000000) (disch:=omega) only[bZ,TY,aK,bD,bS,SV.ofD,bA,bF,bO,bP,aI,bQ,bI,bH,bR,bE,bM,bL,bN,CV.exact,CV.lstOf,CV.lenOf,CV.one,D.one,Value.oneCell',CV.toD0,bU,bC,bW,bK,rD0,bY,bJ,bV,reduceCtorEq,reduceIte,Nat.reduceBEq,Nat.reduceEqDiff,Nat.reduceAdd,Nat.reduceMul,Nat.reduceSub,Nat.reduceLT,Nat.reduceLeDiff,Nat.reduceBNe,Int.reduceLE,Int.reduceLT,Int.reduceBEq,Int.reduceBNe,Int.reduceEq,Int.reduceNeg,Int.reduceAdd,Int.reduceSub,Int.reduceToNat,forall_const,hcons,hlen,e3,e4,dT,List.length_map];(first|(refine hK _ ?_;clear hK K)|(refine⟨by kernel_rfl,hK _ ?_⟩;clear hK K)|(refine hK ?_;clear hK hF K)|(refine hF ?_;clear hK hF K)|refine aV (by assumption) ?_|refine gM (by assumption) ?_)));fail_if_success (revert hK;intro hK))|apply Wp.seq))
  refine Wp.loop (fun k:Nat=>⟨fP [(1,.c (.d (.fn (.func f) []))),(5,.c (.view 0 3 0 l.length)),(13,.c (.d (.lst 3 (l.map OpenD.dv)))),(14,vi .i64 l.length),(15,vi .i64 k)],cL [(0,.cells (cG ((l.take k).map OpenD.dv) rK (l.length - k)))],20,28,0⟩) (fun k=>k≤l.length) (fun k=>l.length - k) 0 (Nat.zero_le _) ?_ ?_
  ·refine aD.keep rfl (by simp[aN,SV.ids,HE.ids,CV.ids,bT];rfl) ?_
   simp (maxSteps:=2000000) (disch:=omega) only[bZ,TY,aK,bD,bS,SV.ofD,bA,bF,bO,bP,aI,bQ,bI,bH,bR,bE,bM,bL,bN,CV.exact,CV.lstOf,CV.lenOf,CV.one,D.one,Value.oneCell',CV.toD0,bU,bC,bW,bK,rD0,bY,bJ,bV,reduceCtorEq,reduceIte,Nat.reduceBEq,Nat.reduceEqDiff,Nat.reduceAdd,Nat.reduceMul,Nat.reduceSub,Nat.reduceLT,Nat.reduceLeDiff,Nat.reduceBNe,Int.reduceLE,Int.reduceLT,Int.reduceBEq,Int.reduceBNe,Int.reduceEq,Int.reduceNeg,Int.reduceAdd,Int.reduceSub,Int.reduceToNat,forall_const,hcons,rK,List.take_zero,List.map_nil,Nat.sub_zero]
  intro k hk
  by_cases hlt:k<l.length
  ·have dk:decide ((k:Int)<(l.length:Int))=true:=decide_eq_true (by omega)
   have g1:l[k]? = some l[k]:=List.getElem?_eq_getElem hlt
   have hwk:IntKind.i64.wrap ((k:Int)+1)=((k+1:Nat):Int):=by rw[aF (by omega)];rfl
   have hsn:(l.take (k+1)).map OpenD.dv=(l.take k).map OpenD.dv++[l[k].dv]:=by rw[aP l k hlt,List.map_append];rfl
   have c1:=hf _ (List.getElem_mem hlt)
   have hln:=aHa l k
   have htl:((l.take k).map OpenD.dv).length=k:=by simp;omega
   generalize l[k]=y at *
   have hcl:(cG ((l.take k).map OpenD.dv) rK (l.length - k)).length=l.length*3:=by
    rw[eZ hln,htl,hzl,show k+(l.length - k)=l.length by omega]
   have hk1:k*3+3≤l.length*3:=by omega
   have hput:=fun (us:List CV) (hu:us=y.dv.map .d)=>fA (m:=l.length - (k+1)) (x:=y.dv) hln rfl (o:=k*3) (by rw[htl,hzl]) hu (o2:=k*3+3) rfl
   rw[← hsn,show l.length - (k+1)+1=l.length - k by omega] at hput
   generalize cG ((l.take k).map OpenD.dv) rK (l.length - k)=A at *
   have hput:=hput _ rfl
   simp only[OpenD.dv,List.map_cons,List.map_nil] at c1 hput
   (refine gO (ai dk (ai g1 (ai @OpenD.dv.eq_1 (ai hlt (ai hcl (ai hk1 (hput))))))) ?_;try with_reducible exact tt)
   refine⟨k+1,by omega,by omega,aD.keep rfl (by simp[aN,SV.ids,HE.ids,CV.ids,bT];rfl) ?_⟩
   (refine rO (hwk) ?_;try with_reducible exact tt)
  ·have hke:k=l.length:=by omega
   subst hke
   have dk:decide ((l.length:Int)<(l.length:Int))=false:=by simp
   refine Wp.weak (aD.fillSlot (t:=5) (B:=0) (n:=l.length) (s:=3) (z:=rK) (ds:=l.map OpenD.dv) (by (refine aM ?_;try with_reducible exact tt)) (by (refine rO (ai @List.take_length.{0} (@Nat.sub_self)) ?_;try with_reducible exact tt)) (fun y hy=>by have:=aHa l l.length;rw[List.take_length] at this;exact this y hy) (by simp)) ?_
   (refine gO (dk) ?_;try with_reducible exact tt)
   (refine aM ?_;try with_reducible exact tt)
def iT:List D:=[int 0,int 0,int 0,cH]
theorem aHc (l:List ProdD) (k:Nat):∀ y ∈ (l.take k).map ProdD.dv,y.length=iT.length:=fun y hy=>by
 obtain⟨x,_,rfl⟩:=List.mem_map.1 hy
 rfl
theorem sF (l:List ProdD) (f:Nat) (hl:l.length≤100000) (hf:∀ x ∈ l,aJ Tryz.prog f [.agg x.dv] (.agg x.dv)):aJ Tryz.prog 127 [.lst 4 (l.map ProdD.dv),.fn (.func f) []] (.lst 4 (l.map ProdD.dv)):=by
 cases hq:l with
 | nil =>
  refine aJ.of_nil (fun a c=>?_)
  (refine aJ.of_bodyW Tryz.func127 rfl rfl Tryz.ntmps127 Tryz.results127 (by simp) ?_)
  cases a with
  | none =>
   (refine gO (ai @Option.isNone_none.{0} (@Option.isNone_some.{0})) ?_;try with_reducible exact tt)
   (refine aM ?_;try with_reducible exact tt)
   exact⟨_,rfl,iI.nil 4⟩
  | some ad =>
   (refine gO (ai @Option.isNone_none.{0} (@Option.isNone_some.{0})) ?_;try with_reducible exact tt)
   refine Wp.rounds 1 (aL.go ?_)
   (refine aH ?_;try with_reducible exact tt)
   (refine aM ?_;try with_reducible exact tt)
   exact⟨_,rfl,fun K v h=>h⟩
 | cons x xs =>
  rw[← hq]
  have hcons:l.map ProdD.dv=x.dv::xs.map ProdD.dv:=by rw[hq];rfl
  have hlen:xs.length+1=l.length:=by rw[hq];rfl
  have e3:48*l.length≤140737488355328:=by omega
  have e4:l.length≠0:=by omega
  have hzl:iT.length=4:=rfl
  (refine aJ.of_body Tryz.func127 rfl rfl Tryz.ntmps127 Tryz.results127 (by simp) ?_)
  (repeat (first|apply Wp.skip|apply Wp.exit|apply Wp.ret|apply Wp.block|apply Wp.label|((first|refine Wp.sreg (fun K hK=>?_)|refine Wp.reg (fun K hK=>?_)|refine Wp.sdrw aA (fun K hK=>?_)|refine Wp.drw aA (fun K hK=>?_)|refine Wp.condG (fun K hK hF=>?_));(repeat (revert hK;intro hK;simp (maxSteps:=2000000) (disch:=omega) only[bZ,TY,aK,bD,bS,SV.ofD,bA,bF,bO,bP,aI,bQ,bI,bH,bR,bE,bM,bL,bN,CV.exact,CV.lstOf,CV.lenOf,CV.one,D.one,Value.oneCell',CV.toD0,bU,bC,bW,bK,rD0,bY,bJ,bV,reduceCtorEq,reduceIte,Nat.reduceBEq,Nat.reduceEqDiff,Nat.reduceAdd,Nat.reduceMul,Nat.reduceSub,Nat.reduceLT,Nat.reduceLeDiff,Nat.reduceBNe,Int.reduceLE,Int.reduceLT,Int.reduceBEq,Int.reduceBNe,Int.reduceEq,Int.reduceNeg,Int.reduceAdd,Int.reduceSub,Int.reduceToNat,forall_const,hcons,hlen,e3,e4,dT,List.length_map];(first|(refine hK _ ?_;clear hK K)|(refine⟨by kernel_rfl,hK _ ?_⟩;clear hK K)|(refine hK ?_;clear hK hF K)|(refine hF ?_;clear hK hF K)|refine aV (by assumption) ?_|refine gM (by assumption) ?_)));fail_if_success (revert hK;intro hK))|apply Wp.seq))
  refine Wp.loop (fun k:Nat=>⟨fP [(1,.c (.d (.fn (.func f) []))),(5,.c (.view 0 4 0 l.length)),(13,.c (.d (.lst 4 (l.map ProdD.dv)))),(14,vi .i64 l.length),(15,vi .i64 k)],cL [(0,.cells (cG ((l.take k).map ProdD.dv) iT (l.length - k)))],20,28,0⟩) (fun k=>k≤l.length) (fun k=>l.length - k) 0 (Nat.zero_le _) ?_ ?_
  ·refine aD.keep rfl (by simp[aN,SV.ids,HE.ids,CV.ids,bT];rfl) ?_
   simp (maxSteps:=2000000) (disch:=omega) only[bZ,TY,aK,bD,bS,SV.ofD,bA,bF,bO,bP,aI,bQ,bI,bH,bR,bE,bM,bL,bN,CV.exact,CV.lstOf,CV.lenOf,CV.one,D.one,Value.oneCell',CV.toD0,bU,bC,bW,bK,rD0,bY,bJ,bV,reduceCtorEq,reduceIte,Nat.reduceBEq,Nat.reduceEqDiff,Nat.reduceAdd,Nat.reduceMul,Nat.reduceSub,Nat.reduceLT,Nat.reduceLeDiff,Nat.reduceBNe,Int.reduceLE,Int.reduceLT,Int.reduceBEq,Int.reduceBNe,Int.reduceEq,Int.reduceNeg,Int.reduceAdd,Int.reduceSub,Int.reduceToNat,forall_const,hcons,iT,List.take_zero,List.map_nil,Nat.sub_zero]
  intro k hk
  by_cases hlt:k<l.length
  ·have dk:decide ((k:Int)<(l.length:Int))=true:=decide_eq_true (by omega)
   have g1:l[k]? = some l[k]:=List.getElem?_eq_getElem hlt
   have hwk:IntKind.i64.wrap ((k:Int)+1)=((k+1:Nat):Int):=by rw[aF (by omega)];rfl
   have hsn:(l.take (k+1)).map ProdD.dv=(l.take k).map ProdD.dv++[l[k].dv]:=by rw[aP l k hlt,List.map_append];rfl
   have c1:=hf _ (List.getElem_mem hlt)
   have hln:=aHc l k
   have htl:((l.take k).map ProdD.dv).length=k:=by simp;omega
   generalize l[k]=y at *
   have hcl:(cG ((l.take k).map ProdD.dv) iT (l.length - k)).length=l.length*4:=by
    rw[eZ hln,htl,hzl,show k+(l.length - k)=l.length by omega]
   have hk1:k*4+4≤l.length*4:=by omega
   have hput:=fun (us:List CV) (hu:us=y.dv.map .d)=>fA (m:=l.length - (k+1)) (x:=y.dv) hln rfl (o:=k*4) (by rw[htl,hzl]) hu (o2:=k*4+4) rfl
   rw[← hsn,show l.length - (k+1)+1=l.length - k by omega] at hput
   generalize cG ((l.take k).map ProdD.dv) iT (l.length - k)=A at *
   have hput:=hput _ rfl
   simp only[ProdD.dv,List.map_cons,List.map_nil] at c1 hput
   (refine gO (ai dk (ai g1 (ai @ProdD.dv.eq_1 (ai hlt (ai hcl (ai hk1 (hput))))))) ?_;try with_reducible exact tt)
   refine⟨k+1,by omega,by omega,aD.keep rfl (by simp[aN,SV.ids,HE.ids,CV.ids,bT];rfl) ?_⟩
   (refine rO (hwk) ?_;try with_reducible exact tt)
  ·have hke:k=l.length:=by omega
   subst hke
   have dk:decide ((l.length:Int)<(l.length:Int))=false:=by simp
   refine Wp.weak (aD.fillSlot (t:=5) (B:=0) (n:=l.length) (s:=4) (z:=iT) (ds:=l.map ProdD.dv) (by (refine aM ?_;try with_reducible exact tt)) (by (refine rO (ai @List.take_length.{0} (@Nat.sub_self)) ?_;try with_reducible exact tt)) (fun y hy=>by have:=aHc l l.length;rw[List.take_length] at this;exact this y hy) (by simp)) ?_
   (refine gO (dk) ?_;try with_reducible exact tt)
   (refine aM ?_;try with_reducible exact tt)
def ivI (n:Int):List D:=[int n]
def yO:List D:=[int 0]
theorem aKx (l:List Int) (k:Nat):∀ y ∈ (l.take k).map ivI,y.length=yO.length:=fun y hy=>by
 obtain⟨x,_,rfl⟩:=List.mem_map.1 hy
 rfl
theorem aE4 (l:List Int) (f:Nat) (hl:l.length≤100000) (hf:∀ x ∈ l,aJ Tryz.prog f [int x] (int x)):aJ Tryz.prog 153 [.lst 1 (l.map ivI),.fn (.func f) []] (.lst 1 (l.map ivI)):=by
 cases hq:l with
 | nil =>
  refine aJ.of_nil (fun a c=>?_)
  (refine aJ.of_bodyW Tryz.func153 rfl rfl Tryz.ntmps153 Tryz.results153 (by simp) ?_)
  cases a with
  | none =>
   (refine gO (ai @Option.isNone_none.{0} (@Option.isNone_some.{0})) ?_;try with_reducible exact tt)
   (refine aM ?_;try with_reducible exact tt)
   exact⟨_,rfl,iI.nil 1⟩
  | some ad =>
   (refine gO (ai @Option.isNone_none.{0} (@Option.isNone_some.{0})) ?_;try with_reducible exact tt)
   refine Wp.rounds 1 (aL.go ?_)
   (refine aH ?_;try with_reducible exact tt)
   (refine aM ?_;try with_reducible exact tt)
   exact⟨_,rfl,fun K v h=>h⟩
 | cons x xs =>
  rw[← hq]
  have hcons:l.map ivI=ivI x::xs.map ivI:=by rw[hq];rfl
  have hlen:xs.length+1=l.length:=by rw[hq];rfl
  have e3:8*l.length≤140737488355328:=by omega
  have e4:l.length≠0:=by omega
  have hzl:yO.length=1:=rfl
  (refine aJ.of_body Tryz.func153 rfl rfl Tryz.ntmps153 Tryz.results153 (by simp) ?_)
  (repeat (first|apply Wp.skip|apply Wp.exit|apply Wp.ret|apply Wp.block|apply Wp.label|((first|refine Wp.sreg (fun K hK=>?_)|refine Wp.reg (fun K hK=>?_)|refine Wp.sdrw aA (fun K hK=>?_)|refine Wp.drw aA (fun K hK=>?_)|refine Wp.condG (fun K hK hF=>?_));(repeat (revert hK;intro hK;simp (maxSteps:=2000000) (disch:=omega) only[bZ,TY,aK,bD,bS,SV.ofD,bA,bF,bO,bP,aI,bQ,bI,bH,bR,bE,bM,bL,bN,CV.exact,CV.lstOf,CV.lenOf,CV.one,D.one,Value.oneCell',CV.toD0,bU,bC,bW,bK,rD0,bY,bJ,bV,reduceCtorEq,reduceIte,Nat.reduceBEq,Nat.reduceEqDiff,Nat.reduceAdd,Nat.reduceMul,Nat.reduceSub,Nat.reduceLT,Nat.reduceLeDiff,Nat.reduceBNe,Int.reduceLE,Int.reduceLT,Int.reduceBEq,Int.reduceBNe,Int.reduceEq,Int.reduceNeg,Int.reduceAdd,Int.reduceSub,Int.reduceToNat,forall_const,hcons,hlen,e3,e4,dT,List.length_map];(first|(refine hK _ ?_;clear hK K)|(refine⟨by kernel_rfl,hK _ ?_⟩;clear hK K)|(refine hK ?_;clear hK hF K)|(refine hF ?_;clear hK hF K)|refine aV (by assumption) ?_|refine gM (by assumption) ?_)));fail_if_success (revert hK;intro hK))|apply Wp.seq))
  refine Wp.loop (fun k:Nat=>⟨fP [(1,.c (.d (.fn (.func f) []))),(5,.c (.view 0 1 0 l.length)),(13,.c (.d (.lst 1 (l.map ivI)))),(14,vi .i64 l.length),(15,vi .i64 k)],cL [(0,.cells (cG ((l.take k).map ivI) yO (l.length - k)))],20,28,0⟩) (fun k=>k≤l.length) (fun k=>l.length - k) 0 (Nat.zero_le _) ?_ ?_
  ·refine aD.keep rfl (by simp[aN,SV.ids,HE.ids,CV.ids,bT];rfl) ?_
   simp (maxSteps:=2000000) (disch:=omega) only[bZ,TY,aK,bD,bS,SV.ofD,bA,bF,bO,bP,aI,bQ,bI,bH,bR,bE,bM,bL,bN,CV.exact,CV.lstOf,CV.lenOf,CV.one,D.one,Value.oneCell',CV.toD0,bU,bC,bW,bK,rD0,bY,bJ,bV,reduceCtorEq,reduceIte,Nat.reduceBEq,Nat.reduceEqDiff,Nat.reduceAdd,Nat.reduceMul,Nat.reduceSub,Nat.reduceLT,Nat.reduceLeDiff,Nat.reduceBNe,Int.reduceLE,Int.reduceLT,Int.reduceBEq,Int.reduceBNe,Int.reduceEq,Int.reduceNeg,Int.reduceAdd,Int.reduceSub,Int.reduceToNat,forall_const,hcons,yO,List.take_zero,List.map_nil,Nat.sub_zero]
  intro k hk
  by_cases hlt:k<l.length
  ·have dk:decide ((k:Int)<(l.length:Int))=true:=decide_eq_true (by omega)
   have g1:l[k]? = some l[k]:=List.getElem?_eq_getElem hlt
   have hwk:IntKind.i64.wrap ((k:Int)+1)=((k+1:Nat):Int):=by rw[aF (by omega)];rfl
   have hsn:(l.take (k+1)).map ivI=(l.take k).map ivI++[ivI l[k]]:=by rw[aP l k hlt,List.map_append];rfl
   have c1:=hf _ (List.getElem_mem hlt)
   have hln:=aKx l k
   have htl:((l.take k).map ivI).length=k:=by simp;omega
   generalize l[k]=y at *
   have hcl:(cG ((l.take k).map ivI) yO (l.length - k)).length=l.length*1:=by
    rw[eZ hln,htl,hzl,show k+(l.length - k)=l.length by omega]
   have hk1:k*1+1≤l.length*1:=by omega
   have hput:=fun (us:List CV) (hu:us=(ivI y).map .d)=>fA (m:=l.length - (k+1)) (x:=ivI y) hln rfl (o:=k*1) (by rw[htl,hzl]) hu (o2:=k*1+1) rfl
   rw[← hsn,show l.length - (k+1)+1=l.length - k by omega] at hput
   generalize cG ((l.take k).map ivI) yO (l.length - k)=A at *
   have hput:=hput _ rfl
   simp only[ivI,List.map_cons,List.map_nil] at c1 hput
   (repeat (first|apply Wp.skip|apply Wp.exit|apply Wp.ret|apply Wp.block|apply Wp.label|((first|refine Wp.sreg (fun K hK=>?_)|refine Wp.reg (fun K hK=>?_)|refine Wp.sdrw aA (fun K hK=>?_)|refine Wp.drw aA (fun K hK=>?_)|refine Wp.condG (fun K hK hF=>?_));(repeat (revert hK;intro hK;simp (maxSteps:=2000000) (disch:=omega) only[bZ,TY,aK,bD,bS,SV.ofD,bA,bF,bO,bP,aI,bQ,bI,bH,bR,bE,bM,bL,bN,CV.exact,CV.lstOf,CV.lenOf,CV.one,D.one,Value.oneCell',CV.toD0,bU,bC,bW,bK,rD0,bY,bJ,bV,reduceCtorEq,reduceIte,Nat.reduceBEq,Nat.reduceEqDiff,Nat.reduceAdd,Nat.reduceMul,Nat.reduceSub,Nat.reduceLT,Nat.reduceLeDiff,Nat.reduceBNe,Int.reduceLE,Int.reduceLT,Int.reduceBEq,Int.reduceBNe,Int.reduceEq,Int.reduceNeg,Int.reduceAdd,Int.reduceSub,Int.reduceToNat,forall_const,dk,g1,ivI,hlt,hcl,hk1,hput];(first|(refine hK _ ?_;clear hK K)|(refine⟨by kernel_rfl,hK _ ?_⟩;clear hK K)|(refine hK ?_;clear hK hF K)|(refine hF ?_;clear hK hF K)|refine aV (by assumption) ?_|refine gM (by assumption) ?_)));fail_if_success (revert hK;intro hK))|apply Wp.seq))
   refine⟨k+1,by omega,by omega,aD.keep rfl (by simp[aN,SV.ids,HE.ids,CV.ids,bT];rfl) ?_⟩
   (refine rO (hwk) ?_;try with_reducible exact tt)
  ·have hke:k=l.length:=by omega
   subst hke
   have dk:decide ((l.length:Int)<(l.length:Int))=false:=by simp
   refine Wp.weak (aD.fillSlot (t:=5) (B:=0) (n:=l.length) (s:=1) (z:=yO) (ds:=l.map ivI) (by (refine aM ?_;try with_reducible exact tt)) (by (refine rO (ai @List.take_length.{0} (@Nat.sub_self)) ?_;try with_reducible exact tt)) (fun y hy=>by have:=aKx l l.length;rw[List.take_length] at this;exact this y hy) (by simp)) ?_
   (refine gO (dk) ?_;try with_reducible exact tt)
   (refine aM ?_;try with_reducible exact tt)
theorem aBl (n:Int):aJ Tryz.prog 154 [int n] (int n):=by
 (refine aJ.of_body Tryz.func154 rfl rfl Tryz.ntmps154 Tryz.results154 (by simp) ?_)
 (refine aH ?_;try with_reducible exact tt)
 (refine aM ?_;try with_reducible exact tt)
theorem aDl (l:List Int) (hl:l.length≤100000):aJ Tryz.prog 121 [.lst 1 (l.map fun n=>[int n])] (.lst 1 (l.map fun n=>[int n])):=by
 have c1:aJ Tryz.prog 153 [.lst 1 (l.map fun n=>[int n]),.fn (.func 154) []] (.lst 1 (l.map fun n=>[int n])):=aE4 l 154 hl (fun n _=>aBl n)
 (refine aJ.of_body Tryz.func121 rfl rfl Tryz.ntmps121 Tryz.results121 (by simp) ?_)
 (refine aH ?_;try with_reducible exact tt)
 (refine aM ?_;try with_reducible exact tt)
theorem aDr (b:BatD) (hb:b.recs.length≤100000):aJ Tryz.prog 160 [.agg b.dv] (.agg b.dv):=by
 have c1:=aDm b.recs hb
 (refine aJ.of_body Tryz.func160 rfl rfl Tryz.ntmps160 Tryz.results160 (by simp) ?_)
 (refine gO (@BatD.dv.eq_1) ?_;try with_reducible exact tt)
 (refine rO (@BatD.dv.eq_1) ?_;try with_reducible exact tt)
theorem wP (o:OpenD) (hs:SmallO o):aJ Tryz.prog 126 [.agg o.dv] (.agg o.dv):=by
 have c1:=aE3 o.bats 160 hs.bats (fun b hb=>aDr b (hs.recs b hb))
 (refine aJ.of_body Tryz.func126 rfl rfl Tryz.ntmps126 Tryz.results126 (by simp) ?_)
 (refine gO (@OpenD.dv.eq_1) ?_;try with_reducible exact tt)
 (refine rO (@OpenD.dv.eq_1) ?_;try with_reducible exact tt)
theorem wQ (q:ProdD) (hq:q.seen.length≤100000):aJ Tryz.prog 128 [.agg q.dv] (.agg q.dv):=by
 have c1:=aBp q.seen hq
 (refine aJ.of_body Tryz.func128 rfl rfl Tryz.ntmps128 Tryz.results128 (by simp) ?_)
 (refine gO (@ProdD.dv.eq_1) ?_;try with_reducible exact tt)
 (refine rO (@ProdD.dv.eq_1) ?_;try with_reducible exact tt)
theorem aG1 (p:PartD) (hs:SmallP p):aJ Tryz.prog 88 [.agg p.dv] (.agg p.dv):=by
 have c1:=aDn p.rows hs.rows
 have c2:=sE p.opens 126 hs.opens (fun o ho=>wP o (hs.open1 o ho))
 have c3:=sF p.prods 128 hs.prods.len (fun q hq=>wQ q (hs.prods.seen q hq))
 (refine aJ.of_body Tryz.func88 rfl rfl Tryz.ntmps88 Tryz.results88 (by simp) ?_)
 (refine gO (@PartD.dv.eq_1) ?_;try with_reducible exact tt)
 (refine rO (@PartD.dv.eq_1) ?_;try with_reducible exact tt)
theorem pF (c:CoordD) (hs:SmallC c):aJ Tryz.prog 85 [.agg c.dv] (.agg c.dv):=by
 have c1:=aDl c.parts hs.parts
 have c2:=aBm c.pends hs.pends
 (refine aJ.of_body Tryz.func85 rfl rfl Tryz.ntmps85 Tryz.results85 (by simp) ?_)
 (refine gO (@CoordD.dv.eq_1) ?_;try with_reducible exact tt)
 (refine rO (@CoordD.dv.eq_1) ?_;try with_reducible exact tt)
theorem lB (s:StateD) (hs:SmallS s):aJ Tryz.prog 48 [.agg s.dv] (.agg s.dv):=by
 have c0:=pF s.c0 hs.c0
 have c1:=pF s.c1 hs.c1
 have c2:=pF s.c2 hs.c2
 simp only[CoordD.dv] at c0 c1 c2
 (refine aJ.of_body Tryz.func48 rfl rfl Tryz.ntmps48 Tryz.results48 (by simp) ?_)
 (refine gO (ai @StateD.dv.eq_1 (ai @CoordD.dv.eq_1 (@GrpD.dv.eq_1))) ?_;try with_reducible exact tt)
 refine Wp.rounds 4 (aL.go ?_)
 (refine aH ?_;try with_reducible exact tt)
 (refine rO (ai @StateD.dv.eq_1 (ai @CoordD.dv.eq_1 (@GrpD.dv.eq_1))) ?_;try with_reducible exact tt)
def kE (l:List RowD):List CV:=cG (l.map RowD.dv) mY 0
theorem uC (l:List RowD):(kE l).flatMap CV.ids=[]:=bT _ _ _
theorem xN {args:List SV} {r:SV} {k:Nat} {l:List RowD} (ha:(args.all fun a=>aJu a.ids [])=true) (hr:aJu r.ids [k]=true):okG args r [] [(k,.cells (kE l))]=true:=by
 unfold okG okB
 simp only[List.map_cons,List.map_nil,List.all_cons,List.all_nil,HE.ids,uC,Bool.and_true,ha,hr]
 rfl
theorem aBx (l:List RowD) (f:Nat) (hl:l.length≤100000) (hpos:0<l.length) (hf:∀ x ∈ l,aJ Tryz.prog f [.agg x.dv] (.agg x.dv)):FunG Tryz.prog 157 [.c (.d (.lst 5 (l.map RowD.dv))),.c (.d (.fn (.func f) []))] [] (cL []) (.c (.view 1000 5 0 l.length)) [1000] (cL [(1000,.cells (kE l))]):=by
 obtain⟨x,xs,hq⟩:∃ x xs,l=x::xs:=by
  cases l with
  | nil=>simp at hpos
  | cons x xs=>exact⟨x,xs,rfl⟩
 have hcons:l.map RowD.dv=x.dv::xs.map RowD.dv:=by rw[hq];rfl
 have hlen:xs.length+1=l.length:=by rw[hq];rfl
 have e3:56*l.length≤140737488355328:=by omega
 have e4:l.length≠0:=by omega
 have hzl:mY.length=5:=rfl
 refine FunG.of_bodyH rfl rfl Tryz.func157 rfl rfl Tryz.ntmps157 Tryz.results157 (Nat.le_of_ble_eq_true rfl) (xN rfl rfl) ?_
 (repeat (first|apply Wp.skip|apply Wp.exit|apply Wp.ret|apply Wp.block|apply Wp.label|((first|refine Wp.sreg (fun K hK=>?_)|refine Wp.reg (fun K hK=>?_)|refine Wp.sdrw aA (fun K hK=>?_)|refine Wp.drw aA (fun K hK=>?_)|refine Wp.condG (fun K hK hF=>?_));(repeat (revert hK;intro hK;simp (maxSteps:=2000000) (disch:=omega) only[bZ,TY,aK,bD,bS,SV.ofD,bA,bF,bO,bP,aI,bQ,bI,bH,bR,bE,bM,bL,bN,CV.exact,CV.lstOf,CV.lenOf,CV.one,D.one,Value.oneCell',CV.toD0,bU,bC,bW,bK,rD0,bY,bJ,bV,reduceCtorEq,reduceIte,Nat.reduceBEq,Nat.reduceEqDiff,Nat.reduceAdd,Nat.reduceMul,Nat.reduceSub,Nat.reduceLT,Nat.reduceLeDiff,Nat.reduceBNe,Int.reduceLE,Int.reduceLT,Int.reduceBEq,Int.reduceBNe,Int.reduceEq,Int.reduceNeg,Int.reduceAdd,Int.reduceSub,Int.reduceToNat,forall_const,aO,hcons,hlen,e3,e4,dT,List.length_map];(first|(refine hK _ ?_;clear hK K)|(refine⟨by kernel_rfl,hK _ ?_⟩;clear hK K)|(refine hK ?_;clear hK hF K)|(refine hF ?_;clear hK hF K)|refine aV (by assumption) ?_|refine gM (by assumption) ?_)));fail_if_success (revert hK;intro hK))|apply Wp.seq))
 refine Wp.loop (fun k:Nat=>⟨fP [(1,.c (.d (.fn (.func f) []))),(5,.c (.view 1000 5 0 l.length)),(13,.c (.d (.lst 5 (l.map RowD.dv)))),(14,vi .i64 l.length),(15,vi .i64 k)],cL [(1000,.cells (cG ((l.take k).map RowD.dv) mY (l.length - k)))],1020,28,⟨[],[],false,none⟩⟩) (fun k=>k≤l.length) (fun k=>l.length - k) 0 (Nat.zero_le _) ?_ ?_
 ·refine aD.keep rfl (by simp[aN,iW,SV.ids,HE.ids,CV.ids,bT]) ?_
  simp (maxSteps:=2000000) (disch:=omega) only[bZ,TY,aK,bD,bS,SV.ofD,bA,bF,bO,bP,aI,bQ,bI,bH,bR,bE,bM,bL,bN,CV.exact,CV.lstOf,CV.lenOf,CV.one,D.one,Value.oneCell',CV.toD0,bU,bC,bW,bK,rD0,bY,bJ,bV,reduceCtorEq,reduceIte,Nat.reduceBEq,Nat.reduceEqDiff,Nat.reduceAdd,Nat.reduceMul,Nat.reduceSub,Nat.reduceLT,Nat.reduceLeDiff,Nat.reduceBNe,Int.reduceLE,Int.reduceLT,Int.reduceBEq,Int.reduceBNe,Int.reduceEq,Int.reduceNeg,Int.reduceAdd,Int.reduceSub,Int.reduceToNat,forall_const,aO,hcons,mY,List.take_zero,List.map_nil,Nat.sub_zero]
 intro k hk
 by_cases hlt:k<l.length
 ·have dk:decide ((k:Int)<(l.length:Int))=true:=decide_eq_true (by omega)
  have g1:l[k]? = some l[k]:=List.getElem?_eq_getElem hlt
  have hwk:IntKind.i64.wrap ((k:Int)+1)=((k+1:Nat):Int):=by rw[aF (by omega)];rfl
  have hsn:(l.take (k+1)).map RowD.dv=(l.take k).map RowD.dv++[l[k].dv]:=by rw[aP l k hlt,List.map_append];rfl
  have c1:=hf _ (List.getElem_mem hlt)
  have hln:=aGb l k
  have htl:((l.take k).map RowD.dv).length=k:=by simp;omega
  generalize l[k]=y at *
  have hcl:(cG ((l.take k).map RowD.dv) mY (l.length - k)).length=l.length*5:=by
   rw[eZ hln,htl,hzl,show k+(l.length - k)=l.length by omega]
  have hk1:k*5+5≤l.length*5:=by omega
  have hput:=fun (us:List CV) (hu:us=y.dv.map .d)=>fA (m:=l.length - (k+1)) (x:=y.dv) hln rfl (o:=k*5) (by rw[htl,hzl]) hu (o2:=k*5+5) rfl
  rw[← hsn,show l.length - (k+1)+1=l.length - k by omega] at hput
  generalize cG ((l.take k).map RowD.dv) mY (l.length - k)=A at *
  have hput:=hput _ rfl
  simp only[RowD.dv,List.map_cons,List.map_nil] at c1 hput
  (refine gO (ai @aO (ai dk (ai g1 (ai @RowD.dv.eq_1 (ai hlt (ai hcl (ai hk1 (hput)))))))) ?_;try with_reducible exact tt)
  refine⟨k+1,by omega,by omega,aD.keep rfl (by simp[aN,iW,SV.ids,HE.ids,CV.ids,bT]) ?_⟩
  (refine rO (ai @aO (hwk)) ?_;try with_reducible exact tt)
 ·have hke:k=l.length:=by omega
  subst hke
  have dk:decide ((l.length:Int)<(l.length:Int))=false:=by simp
  (refine gO (ai @aO (dk)) ?_;try with_reducible exact tt)
  refine cT.ret ?_
  simp (maxSteps:=2000000) (disch:=omega) only[bZ,TY,aK,bD,bS,SV.ofD,bA,bF,bO,bP,aI,bQ,bI,bH,bR,bE,bM,bL,bN,CV.exact,CV.lstOf,CV.lenOf,CV.one,D.one,Value.oneCell',CV.toD0,bU,bC,bW,bK,rD0,bY,bJ,bV,reduceCtorEq,reduceIte,Nat.reduceBEq,Nat.reduceEqDiff,Nat.reduceAdd,Nat.reduceMul,Nat.reduceSub,Nat.reduceLT,Nat.reduceLeDiff,Nat.reduceBNe,Int.reduceLE,Int.reduceLT,Int.reduceBEq,Int.reduceBNe,Int.reduceEq,Int.reduceNeg,Int.reduceAdd,Int.reduceSub,Int.reduceToNat,forall_const,aO,jD,jV,kE,List.take_length,Nat.sub_self]
theorem fZ (ρ:Nat→Nat) (l:List RowD):(kE l).map (CV.ren ρ)=kE l:=by
 unfold kE cG
 rw[List.map_map];rfl
theorem aBo (l:List RowD) (hl:l.length≤100000) (hpos:0<l.length):FunG Tryz.prog 124 [.c (.d (.lst 5 (l.map RowD.dv)))] [] (cL []) (.c (.view 1000 5 0 l.length)) [1000] (cL [(1000,.cells (kE l))]):=by
 have c1:=aBx l 158 hl hpos (fun x _=>sC x)
 refine FunG.of_bodyH rfl rfl Tryz.func124 rfl rfl Tryz.ntmps124 Tryz.results124 (Nat.le_of_ble_eq_true rfl) (xN rfl rfl) ?_
 (refine gO (@aO) ?_;try with_reducible exact tt)
 ((first|refine Wp.sregG ?_|refine Wp.regG ?_|(refine Wp.seq ?_;first|refine Wp.sregG ?_|refine Wp.regG ?_));refine dF.at 1 (fun K hK=>?_);simp (maxSteps:=2000000) (disch:=omega) only[bZ,TY,aK,bD,bS,SV.ofD,bA,bF,bO,bP,aI,bQ,bI,bH,bR,bE,bM,bL,bN,CV.exact,CV.lstOf,CV.lenOf,CV.one,D.one,Value.oneCell',CV.toD0,bU,bC,bW,bK,rD0,bY,bJ,bV,reduceCtorEq,reduceIte,Nat.reduceBEq,Nat.reduceEqDiff,Nat.reduceAdd,Nat.reduceMul,Nat.reduceSub,Nat.reduceLT,Nat.reduceLeDiff,Nat.reduceBNe,Int.reduceLE,Int.reduceLT,Int.reduceBEq,Int.reduceBNe,Int.reduceEq,Int.reduceNeg,Int.reduceAdd,Int.reduceSub,Int.reduceToNat,forall_const,aO,fZ];refine hK _ ?_;clear hK K;refine dF.call (c1) [] 1001 rfl rfl ?_ ?_;(focus (simp (maxSteps:=2000000) (disch:=omega) only[bZ,TY,aK,bD,bS,SV.ofD,bA,bF,bO,bP,aI,bQ,bI,bH,bR,bE,bM,bL,bN,CV.exact,CV.lstOf,CV.lenOf,CV.one,D.one,Value.oneCell',CV.toD0,bU,bC,bW,bK,rD0,bY,bJ,bV,reduceCtorEq,reduceIte,Nat.reduceBEq,Nat.reduceEqDiff,Nat.reduceAdd,Nat.reduceMul,Nat.reduceSub,Nat.reduceLT,Nat.reduceLeDiff,Nat.reduceBNe,Int.reduceLE,Int.reduceLT,Int.reduceBEq,Int.reduceBNe,Int.reduceEq,Int.reduceNeg,Int.reduceAdd,Int.reduceSub,Int.reduceToNat,forall_const,iC,tI,lD,fO,List.nil_append,fQ,SV.ren,CV.ren,HE.ren,dA,fK,aO,fZ];done));refine dF.done (fun K hK=>?_);simp (maxSteps:=2000000) (disch:=omega) only[bZ,TY,aK,bD,bS,SV.ofD,bA,bF,bO,bP,aI,bQ,bI,bH,bR,bE,bM,bL,bN,CV.exact,CV.lstOf,CV.lenOf,CV.one,D.one,Value.oneCell',CV.toD0,bU,bC,bW,bK,rD0,bY,bJ,bV,reduceCtorEq,reduceIte,Nat.reduceBEq,Nat.reduceEqDiff,Nat.reduceAdd,Nat.reduceMul,Nat.reduceSub,Nat.reduceLT,Nat.reduceLeDiff,Nat.reduceBNe,Int.reduceLE,Int.reduceLT,Int.reduceBEq,Int.reduceBNe,Int.reduceEq,Int.reduceNeg,Int.reduceAdd,Int.reduceSub,Int.reduceToNat,forall_const,hZ,fQ,SV.ren,CV.ren,HE.ren,List.map_cons,List.map_nil,fZ];refine hK _ ?_;clear hK K)
 (refine gO (@aO) ?_;try with_reducible exact tt)
 refine cT.ret ?_
 simp (maxSteps:=2000000) (disch:=omega) only[bZ,TY,aK,bD,bS,SV.ofD,bA,bF,bO,bP,aI,bQ,bI,bH,bR,bE,bM,bL,bN,CV.exact,CV.lstOf,CV.lenOf,CV.one,D.one,Value.oneCell',CV.toD0,bU,bC,bW,bK,rD0,bY,bJ,bV,reduceCtorEq,reduceIte,Nat.reduceBEq,Nat.reduceEqDiff,Nat.reduceAdd,Nat.reduceMul,Nat.reduceSub,Nat.reduceLT,Nat.reduceLeDiff,Nat.reduceBNe,Int.reduceLE,Int.reduceLT,Int.reduceBEq,Int.reduceBNe,Int.reduceEq,Int.reduceNeg,Int.reduceAdd,Int.reduceSub,Int.reduceToNat,forall_const,aO,jD,jV,fZ]
theorem aDs (p:PartD) (hs:SmallP p) (hpos:0<p.rows.length):FunG Tryz.prog 88 [.agg (p.dv.map CV.d)] [] (cL []) (.agg [.d (int p.start),.d (int p.fin),.view 1005 5 0 p.rows.length,.d (.lst 3 (p.opens.map OpenD.dv)),.d (.lst 4 (p.prods.map ProdD.dv))]) [1005] (cL [(1005,.cells (kE p.rows))]):=by
 have c1:=aBo p.rows hs.rows hpos
 have c2:=sE p.opens 126 hs.opens (fun o ho=>wP o (hs.open1 o ho))
 have c3:=sF p.prods 128 hs.prods.len (fun q hq=>wQ q (hs.prods.seen q hq))
 refine FunG.of_bodyH rfl rfl Tryz.func88 rfl rfl Tryz.ntmps88 Tryz.results88 (Nat.le_of_ble_eq_true rfl) (xN rfl rfl) ?_
 (refine gO (ai @aO (ai @PartD.dv.eq_1 (ai @List.map_cons.{0,0} (@List.map_nil.{0,0})))) ?_;try with_reducible exact tt)
 ((first|refine Wp.sregG ?_|refine Wp.regG ?_|(refine Wp.seq ?_;first|refine Wp.sregG ?_|refine Wp.regG ?_));refine dF.at 2 (fun K hK=>?_);simp (maxSteps:=2000000) (disch:=omega) only[bZ,TY,aK,bD,bS,SV.ofD,bA,bF,bO,bP,aI,bQ,bI,bH,bR,bE,bM,bL,bN,CV.exact,CV.lstOf,CV.lenOf,CV.one,D.one,Value.oneCell',CV.toD0,bU,bC,bW,bK,rD0,bY,bJ,bV,reduceCtorEq,reduceIte,Nat.reduceBEq,Nat.reduceEqDiff,Nat.reduceAdd,Nat.reduceMul,Nat.reduceSub,Nat.reduceLT,Nat.reduceLeDiff,Nat.reduceBNe,Int.reduceLE,Int.reduceLT,Int.reduceBEq,Int.reduceBNe,Int.reduceEq,Int.reduceNeg,Int.reduceAdd,Int.reduceSub,Int.reduceToNat,forall_const,aO,fZ];refine hK _ ?_;clear hK K;refine dF.call (c1) [(1000,1005)] 1006 rfl rfl ?_ ?_;(focus (simp (maxSteps:=2000000) (disch:=omega) only[bZ,TY,aK,bD,bS,SV.ofD,bA,bF,bO,bP,aI,bQ,bI,bH,bR,bE,bM,bL,bN,CV.exact,CV.lstOf,CV.lenOf,CV.one,D.one,Value.oneCell',CV.toD0,bU,bC,bW,bK,rD0,bY,bJ,bV,reduceCtorEq,reduceIte,Nat.reduceBEq,Nat.reduceEqDiff,Nat.reduceAdd,Nat.reduceMul,Nat.reduceSub,Nat.reduceLT,Nat.reduceLeDiff,Nat.reduceBNe,Int.reduceLE,Int.reduceLT,Int.reduceBEq,Int.reduceBNe,Int.reduceEq,Int.reduceNeg,Int.reduceAdd,Int.reduceSub,Int.reduceToNat,forall_const,iC,tI,lD,fO,List.nil_append,fQ,SV.ren,CV.ren,HE.ren,dA,fK,aO,fZ];done));refine dF.done (fun K hK=>?_);simp (maxSteps:=2000000) (disch:=omega) only[bZ,TY,aK,bD,bS,SV.ofD,bA,bF,bO,bP,aI,bQ,bI,bH,bR,bE,bM,bL,bN,CV.exact,CV.lstOf,CV.lenOf,CV.one,D.one,Value.oneCell',CV.toD0,bU,bC,bW,bK,rD0,bY,bJ,bV,reduceCtorEq,reduceIte,Nat.reduceBEq,Nat.reduceEqDiff,Nat.reduceAdd,Nat.reduceMul,Nat.reduceSub,Nat.reduceLT,Nat.reduceLeDiff,Nat.reduceBNe,Int.reduceLE,Int.reduceLT,Int.reduceBEq,Int.reduceBNe,Int.reduceEq,Int.reduceNeg,Int.reduceAdd,Int.reduceSub,Int.reduceToNat,forall_const,hZ,fQ,SV.ren,CV.ren,HE.ren,List.map_cons,List.map_nil,fZ];refine hK _ ?_;clear hK K)
 (refine gO (@aO) ?_;try with_reducible exact tt)
 refine cT.ret ?_
 simp (maxSteps:=2000000) (disch:=omega) only[bZ,TY,aK,bD,bS,SV.ofD,bA,bF,bO,bP,aI,bQ,bI,bH,bR,bE,bM,bL,bN,CV.exact,CV.lstOf,CV.lenOf,CV.one,D.one,Value.oneCell',CV.toD0,bU,bC,bW,bK,rD0,bY,bJ,bV,reduceCtorEq,reduceIte,Nat.reduceBEq,Nat.reduceEqDiff,Nat.reduceAdd,Nat.reduceMul,Nat.reduceSub,Nat.reduceLT,Nat.reduceLeDiff,Nat.reduceBNe,Int.reduceLE,Int.reduceLT,Int.reduceBEq,Int.reduceBNe,Int.reduceEq,Int.reduceNeg,Int.reduceAdd,Int.reduceSub,Int.reduceToNat,forall_const,aO,jD,jV,fZ]
end Go.Proofs.YtkmfmphpndhkjaaGreatDoor
