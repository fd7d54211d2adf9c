/- The abstract machine (FiA, FrsA, FrsB). -/
import Derived.Test.YtkmfmphpndhkjaaGreatDoorApA
import Derived.Test.YtkmfmphpndhkjaaGreatDoorMacB
import Derived.Test.YtkmfmphpndhkjaaGreatDoorRnd
import Derived.Test.YtkmfmphpndhkjaaGreatDoorImA
import Derived.Test.YtkmfmphpndhkjaaGreatDoorEnM
import Derived.Test.YtkmfmphpndhkjaaGreatDoorMtC
namespace Go.Proofs.YtkmfmphpndhkjaaGreatDoor
open Go Go.RowKit
set_option maxHeartbeats 4000000
set_option maxRecDepth 100000
set_option linter.unusedVariables false
set_option linter.unusedSimpArgs false
def bT (ds:List (List D)) (z:List D) (m:Nat):List CV:=(ds.flatten++(List.replicate m z).flatten).map .d
theorem aF1 {α:Type} (z:List α) (m:Nat):(List.replicate m z).flatten.length=m*z.length:=by
 induction m with
 | zero=>simp
 | succ m ih=>rw[List.replicate_succ,List.flatten_cons,List.length_append,ih,Nat.succ_mul];omega
theorem gD {ds:List (List D)} {z:List D} {m:Nat} (h:∀ x ∈ ds,x.length=z.length):(bT ds z m).length=(ds.length+m)*z.length:=by
 simp only[bT,List.length_map,List.length_append,aF1,dV h,Nat.add_mul]
theorem bN (ds:List (List D)) (z:List D) (m:Nat):(bT ds z m).flatMap CV.ids=[]:=by
 simp only[bT,List.flatMap_map,CV.ids,List.flatMap_eq_nil_iff,implies_true]
theorem dZ (zs:List Value):∀ n,(oB zs n).map (fun v=>CV.d (.val v))=bT [] (zs.map .val) n
 | 0=>rfl
 | n+1=>by
  have ih:=dZ zs n
  simp only[bT,List.flatten_nil,List.nil_append] at ih ⊢
  rw[oB,List.map_append,ih,List.replicate_succ,List.flatten_cons,List.map_append,List.map_map]
  rfl
theorem gE {ds:List (List D)} {z x:List D} {m o:Nat} (hd:∀ y ∈ ds,y.length=z.length) (hx:x.length=z.length) (ho:o=ds.length*z.length) {us:List CV} (hu:us=x.map .d) {o2:Nat} (ho2:o2=o+z.length):List.take o (bT ds z (m+1))++us++List.drop o2 (bT ds z (m+1))=bT (ds++[x]) z m:=by
 subst ho hu ho2
 have e:bT ds z (m+1)=ds.flatten.map CV.d++(z.map CV.d++((List.replicate m z).flatten.map CV.d)):=by
  simp only[bT,List.replicate_succ,List.flatten_cons,List.map_append]
 have hl:(ds.flatten.map CV.d).length=ds.length*z.length:=by rw[List.length_map,dV hd]
 rw[e,List.take_left' hl,← hl,List.drop_append]
 rw[List.drop_left' (by simp)]
 simp[bT]
theorem aD9 (ds:List (List D)) (z:List D):bZ CV.toD0 (bT ds z 0)=some ds.flatten:=by
 have:bT ds z 0=ds.flatten.map CV.d:=by simp[bT]
 rw[this]
 induction ds.flatten with
 | nil=>rfl
 | cons a l ih=>simp only[List.map_cons,bZ,CV.toD0,ih]
theorem tG {α:Type} {s:Nat}:∀ (ds:List (List α)),(∀ x ∈ ds,x.length=s)→fK s ds.length ds.flatten=ds
 | [],_=>rfl
 | x::ds,h=>by
  have hx:=h x (by simp)
  simp only[List.length_cons,fK,List.flatten_cons]
  rw[List.take_left' hx,List.drop_left' hx,tG ds (fun y hy=>h y (by simp[hy]))]
theorem aD.slotH {σ:St} {t:Nat} {x y:SV} (ht:σ.env t=x) (hxy:∀ F K0 g w v,RelH F K0 g σ.H w→bH g σ.H x v→bH g σ.H y v):aD σ { σ with env:=upd σ.env t y }:=by
 intro W0 K0 g a w r
 refine⟨g,r.mem,fun u=>?_,r.size,r.defers,r.ln,r.rd,r.nodup,r.lt⟩
 show bH g σ.H (upd σ.env t y u) _
 by_cases h:u=t
 ·subst h;rw[aC];exact hxy _ _ _ _ _ r.mem (ht ▸ r.env u)
 ·rw[aB _ _ h];exact r.env u
theorem aD.fillSlot {σ:St} {B t n s:Nat} {z:List D} {ds:List (List D)} (ht:σ.env t = .c (.view B s 0 n)) (hB:σ.H B=some (.cells (bT ds z 0))) (hs:∀ x ∈ ds,x.length=s) (hn:ds.length=n) :
  aD σ { σ with env:=upd σ.env t (.c (.d (.lst s ds))),H:=upd σ.H B (some (.froz ds.flatten)) }:=by
 refine aD.trans (aD.freeze (id:=B) hB (aD9 ds z)) ?_
 refine aD.slotH (t:=t) ht (fun F K0 g w v hm r=>?_)
 have:=aJ5 (n:=n) (sz:=s) hm (aC _ _ _) (by rw[dV hs,hn]) r
 rw[← hn,tG ds hs] at this
 exact this
theorem aD.fillCell {σ:St} {A B k n s:Nat} {cs:List CV} {z:List D} {ds:List (List D)} (hA:σ.H A=some (.cells cs)) (hAB:A≠B) (hk:cs[k]? = some (.view B s 0 n)) (hB:σ.H B=some (.cells (bT ds z 0))) (hs:∀ x ∈ ds,x.length=s) (hn:ds.length=n) :
  aD σ { σ with H:=upd (upd σ.H B (some (.froz ds.flatten))) A (some (.cells (cs.set k (.d (.lst s ds))))) }:=by
 refine aD.trans (aD.freeze (id:=B) hB (aD9 ds z)) ?_
 have:=aD.viewCell (σ:={ σ with H:=upd σ.H B (some (.froz ds.flatten)) }) (A:=A) (B:=B) (k:=k) (sz:=s) (n:=n) (cs:=cs) (ds:=ds.flatten) ((aB _ _ hAB).trans hA) hk (aC _ _ _) (by rw[dV hs,hn])
 rw[← hn,tG ds hs] at this
 exact this
theorem aJ.of_nil {P:Program} {f:FuncId} {s:Nat} {rest:List D} {r:D} (h:∀ a c,aJ P f (.val (.slice a 0 c)::rest) r):aJ P f (.lst s []::rest) r:=by
 refine⟨(h none 0).1,fun K w vs hB hk hL=>?_⟩
 have hl:=hL.1
 match vs,hl with
 | v::vs,hl =>
  have hv:=hL.2 0 _ v rfl rfl
  obtain⟨a,c,us,rfl,_⟩:=hv.inv
  exact (h a c).2 K w _ hB hk ⟨hL.1,fun j x v hx hv=>by
   cases j with
   | zero=>simp at hx hv;subst hx hv;exact Rep.val _
   | succ j=>exact hL.2 (j+1) x v hx hv⟩
set_option maxHeartbeats 8000000
def aBw:List D:=[str [],str []]
theorem aPn (l:List RecD) (k:Nat):∀ y ∈ (l.take k).map RecD.dv,y.length=aBw.length:=fun y hy=>by
 obtain⟨x,_,rfl⟩:=List.mem_map.1 hy
 rfl
theorem aHs (l:List RecD) (f:Nat) (hl:l.length≤100000) (hf:∀ x ∈ l,aJ Tryz.prog f [.agg x.dv] (.agg x.dv)):aJ Tryz.prog 198 [.lst 2 (l.map RecD.dv),.fn (.func f) []] (.lst 2 (l.map RecD.dv)):=by
 cases hq:l with
 | nil =>
  refine aJ.of_nil (fun a c=>?_)
  (refine aJ.of_bodyW Tryz.func198 rfl rfl Tryz.ntmps198 Tryz.results198 (by simp) ?_)
  cases a with
  | none =>
   (refine gO (ai @Option.isNone_none.{0} (@Option.isNone_some.{0})) ?_;try with_reducible exact tt)
   (refine aK ?_;try with_reducible exact tt)
   exact⟨_,rfl,jA.nil 2⟩
  | some ad =>
   (refine gO (ai @Option.isNone_none.{0} (@Option.isNone_some.{0})) ?_;try with_reducible exact tt)
   refine Wp.rounds 1 (aN.go ?_)
   (refine aI ?_;try with_reducible exact tt)
   (refine aK ?_;try with_reducible exact tt)
   exact⟨_,rfl,fun K v h=>h⟩
 | cons x xs =>
  rw[← hq]
  have hcons:l.map RecD.dv=x.dv::xs.map RecD.dv:=by rw[hq];rfl
  have hlen:xs.length+1=l.length:=by rw[hq];rfl
  have e3:32*l.length≤140737488355328:=by omega
  have e4:l.length≠0:=by omega
  have hzl:aBw.length=2:=rfl
  (refine aJ.of_body Tryz.func198 rfl rfl Tryz.ntmps198 Tryz.results198 (by simp) ?_)
  (repeat (first|apply Wp.skip|apply Wp.exit|apply Wp.ret|apply Wp.block|apply Wp.label|((first|refine Wp.sreg (fun K hK=>?_)|refine Wp.reg (fun K hK=>?_)|refine Wp.sdrw aA (fun K hK=>?_)|refine Wp.drw aA (fun K hK=>?_)|refine Wp.condG (fun K hK hF=>?_));(repeat (revert hK;intro hK;simp (maxSteps:=2000000) (disch:=omega) only[bF,TY,aL,bQ,cD,SV.ofD,bK,dO,CV.exact,CV.lenOf,Value.oneCell',Nat.reduceBEq,Nat.reduceAdd,Nat.reduceLT,hcons,hlen,e3,e4,dZ];(first|(refine hK _ ?_;clear hK K)|(refine⟨by kernel_rfl,hK _ ?_⟩;clear hK K)|(refine hK ?_;clear hK hF K)|(refine hF ?_;clear hK hF K)|refine aQ (by assumption) ?_|refine gJ (by assumption) ?_)));fail_if_success (revert hK;intro hK))|apply Wp.seq))
  refine Wp.loop (fun k:Nat=>⟨dI [(1,.c (.d (.fn (.func f) []))),(5,.c (.view 0 2 0 l.length)),(13,.c (.d (.lst 2 (l.map RecD.dv)))),(14,vi .i64 l.length),(15,vi .i64 k)],bJ [(0,.cells (bT ((l.take k).map RecD.dv) aBw (l.length - k)))],20,28,0⟩) (fun k=>k≤l.length) (fun k=>l.length - k) 0 (Nat.zero_le _) ?_ ?_
  ·refine aD.keep rfl (by simp[aO,SV.ids,HE.ids,CV.ids,bN];rfl) ?_
   simp (maxSteps:=2000000) (disch:=omega) only[bF,aL,SV.ofD,Nat.reduceBEq,hcons,aBw]
  intro k hk
  by_cases hlt:k<l.length
  ·have dk:decide ((k:Int)<(l.length:Int))=true:=decide_eq_true (by omega)
   have g1:l[k]? = some l[k]:=List.getElem?_eq_getElem hlt
   have hwk:IntKind.i64.wrap ((k:Int)+1)=((k+1:Nat):Int):=by rw[aG (by omega)];rfl
   have hsn:(l.take (k+1)).map RecD.dv=(l.take k).map RecD.dv++[l[k].dv]:=by rw[aF l k hlt,List.map_append];rfl
   have c1:=hf _ (List.getElem_mem hlt)
   have hln:=aPn l k
   have htl:((l.take k).map RecD.dv).length=k:=by simp;omega
   generalize l[k]=y at *
   have hcl:(bT ((l.take k).map RecD.dv) aBw (l.length - k)).length=l.length*2:=by
    rw[gD hln,htl,hzl,show k+(l.length - k)=l.length by omega]
   have hk1:k*2+2≤l.length*2:=by omega
   have hput:=fun (us:List CV) (hu:us=y.dv.map .d)=>gE (m:=l.length - (k+1)) (x:=y.dv) hln rfl (o:=k*2) (by rw[htl,hzl]) hu (o2:=k*2+2) rfl
   rw[← hsn,show l.length - (k+1)+1=l.length - k by omega] at hput
   generalize bT ((l.take k).map RecD.dv) aBw (l.length - k)=A at *
   have hput:=hput _ rfl
   simp only[RecD.dv,List.map_cons,List.map_nil] at c1 hput
   (refine gO (ai dk (ai g1 (ai @RecD.dv.eq_1 (ai hlt (ai hcl (ai hk1 (hput))))))) ?_;try with_reducible exact tt)
   refine⟨k+1,by omega,by omega,aD.keep rfl (by simp[aO,SV.ids,HE.ids,CV.ids,bN];rfl) ?_⟩
   (refine rO (hwk) ?_;try with_reducible exact tt)
  ·have hke:k=l.length:=by omega
   subst hke
   have dk:decide ((l.length:Int)<(l.length:Int))=false:=by simp
   refine Wp.weak (aD.fillSlot (t:=5) (B:=0) (n:=l.length) (s:=2) (z:=aBw) (ds:=l.map RecD.dv) (by (refine aK ?_;try with_reducible exact tt)) (by (refine rO (ai @List.take_length.{0} (@Nat.sub_self)) ?_;try with_reducible exact tt)) (fun y hy=>by have:=aPn l l.length;rw[List.take_length] at this;exact this y hy) (by simp)) ?_
   (refine gO (dk) ?_;try with_reducible exact tt)
   (refine aK ?_;try with_reducible exact tt)
theorem aEy (x:RecD):aJ Tryz.prog 199 [.agg x.dv] (.agg x.dv):=by
 (refine aJ.of_body Tryz.func199 rfl rfl Tryz.ntmps199 Tryz.results199 (by simp) ?_)
 (refine gO (@RecD.dv.eq_1) ?_;try with_reducible exact tt)
 (refine rO (@RecD.dv.eq_1) ?_;try with_reducible exact tt)
theorem aHa (l:List RecD) (hl:l.length≤100000):aJ Tryz.prog 184 [.lst 2 (l.map RecD.dv)] (.lst 2 (l.map RecD.dv)):=by
 have c1:=aHs l 199 hl (fun x _=>aEy x)
 (refine aJ.of_body Tryz.func184 rfl rfl Tryz.ntmps184 Tryz.results184 (by simp) ?_)
 (refine aI ?_;try with_reducible exact tt)
 (refine aK ?_;try with_reducible exact tt)
def jM:List D:=[int 0,int 0,int 0]
theorem aLp (l:List SeenD) (k:Nat):∀ y ∈ (l.take k).map SeenD.dv,y.length=jM.length:=fun y hy=>by
 obtain⟨x,_,rfl⟩:=List.mem_map.1 hy
 rfl
theorem aF9 (l:List SeenD) (f:Nat) (hl:l.length≤100000) (hf:∀ x ∈ l,aJ Tryz.prog f [.agg x.dv] (.agg x.dv)):aJ Tryz.prog 185 [.lst 3 (l.map SeenD.dv),.fn (.func f) []] (.lst 3 (l.map SeenD.dv)):=by
 cases hq:l with
 | nil =>
  refine aJ.of_nil (fun a c=>?_)
  (refine aJ.of_bodyW Tryz.func185 rfl rfl Tryz.ntmps185 Tryz.results185 (by simp) ?_)
  cases a with
  | none =>
   (refine gO (ai @Option.isNone_none.{0} (@Option.isNone_some.{0})) ?_;try with_reducible exact tt)
   (refine aK ?_;try with_reducible exact tt)
   exact⟨_,rfl,jA.nil 3⟩
  | some ad =>
   (refine gO (ai @Option.isNone_none.{0} (@Option.isNone_some.{0})) ?_;try with_reducible exact tt)
   refine Wp.rounds 1 (aN.go ?_)
   (refine aI ?_;try with_reducible exact tt)
   (refine aK ?_;try with_reducible exact tt)
   exact⟨_,rfl,fun K v h=>h⟩
 | cons x xs =>
  rw[← hq]
  have hcons:l.map SeenD.dv=x.dv::xs.map SeenD.dv:=by rw[hq];rfl
  have hlen:xs.length+1=l.length:=by rw[hq];rfl
  have e3:24*l.length≤140737488355328:=by omega
  have e4:l.length≠0:=by omega
  have hzl:jM.length=3:=rfl
  (refine aJ.of_body Tryz.func185 rfl rfl Tryz.ntmps185 Tryz.results185 (by simp) ?_)
  (repeat (first|apply Wp.skip|apply Wp.exit|apply Wp.ret|apply Wp.block|apply Wp.label|((first|refine Wp.sreg (fun K hK=>?_)|refine Wp.reg (fun K hK=>?_)|refine Wp.sdrw aA (fun K hK=>?_)|refine Wp.drw aA (fun K hK=>?_)|refine Wp.condG (fun K hK hF=>?_));(repeat (revert hK;intro hK;simp (maxSteps:=2000000) (disch:=omega) only[bF,TY,aL,bQ,cD,SV.ofD,bK,dO,CV.exact,CV.lenOf,Value.oneCell',Nat.reduceBEq,Nat.reduceAdd,Nat.reduceLT,hcons,hlen,e3,e4,dZ];(first|(refine hK _ ?_;clear hK K)|(refine⟨by kernel_rfl,hK _ ?_⟩;clear hK K)|(refine hK ?_;clear hK hF K)|(refine hF ?_;clear hK hF K)|refine aQ (by assumption) ?_|refine gJ (by assumption) ?_)));fail_if_success (revert hK;intro hK))|apply Wp.seq))
  refine Wp.loop (fun k:Nat=>⟨dI [(1,.c (.d (.fn (.func f) []))),(5,.c (.view 0 3 0 l.length)),(13,.c (.d (.lst 3 (l.map SeenD.dv)))),(14,vi .i64 l.length),(15,vi .i64 k)],bJ [(0,.cells (bT ((l.take k).map SeenD.dv) jM (l.length - k)))],20,28,0⟩) (fun k=>k≤l.length) (fun k=>l.length - k) 0 (Nat.zero_le _) ?_ ?_
  ·refine aD.keep rfl (by simp[aO,SV.ids,HE.ids,CV.ids,bN];rfl) ?_
   simp (maxSteps:=2000000) (disch:=omega) only[bF,aL,SV.ofD,Nat.reduceBEq,hcons,jM]
  intro k hk
  by_cases hlt:k<l.length
  ·have dk:decide ((k:Int)<(l.length:Int))=true:=decide_eq_true (by omega)
   have g1:l[k]? = some l[k]:=List.getElem?_eq_getElem hlt
   have hwk:IntKind.i64.wrap ((k:Int)+1)=((k+1:Nat):Int):=by rw[aG (by omega)];rfl
   have hsn:(l.take (k+1)).map SeenD.dv=(l.take k).map SeenD.dv++[l[k].dv]:=by rw[aF l k hlt,List.map_append];rfl
   have c1:=hf _ (List.getElem_mem hlt)
   have hln:=aLp l k
   have htl:((l.take k).map SeenD.dv).length=k:=by simp;omega
   generalize l[k]=y at *
   have hcl:(bT ((l.take k).map SeenD.dv) jM (l.length - k)).length=l.length*3:=by
    rw[gD hln,htl,hzl,show k+(l.length - k)=l.length by omega]
   have hk1:k*3+3≤l.length*3:=by omega
   have hput:=fun (us:List CV) (hu:us=y.dv.map .d)=>gE (m:=l.length - (k+1)) (x:=y.dv) hln rfl (o:=k*3) (by rw[htl,hzl]) hu (o2:=k*3+3) rfl
   rw[← hsn,show l.length - (k+1)+1=l.length - k by omega] at hput
   generalize bT ((l.take k).map SeenD.dv) jM (l.length - k)=A at *
   have hput:=hput _ rfl
   simp only[SeenD.dv,List.map_cons,List.map_nil] at c1 hput
   (refine gO (ai dk (ai g1 (ai @SeenD.dv.eq_1 (ai hlt (ai hcl (ai hk1 (hput))))))) ?_;try with_reducible exact tt)
   refine⟨k+1,by omega,by omega,aD.keep rfl (by simp[aO,SV.ids,HE.ids,CV.ids,bN];rfl) ?_⟩
   (refine rO (hwk) ?_;try with_reducible exact tt)
  ·have hke:k=l.length:=by omega
   subst hke
   have dk:decide ((l.length:Int)<(l.length:Int))=false:=by simp
   refine Wp.weak (aD.fillSlot (t:=5) (B:=0) (n:=l.length) (s:=3) (z:=jM) (ds:=l.map SeenD.dv) (by (refine aK ?_;try with_reducible exact tt)) (by (refine rO (ai @List.take_length.{0} (@Nat.sub_self)) ?_;try with_reducible exact tt)) (fun y hy=>by have:=aLp l l.length;rw[List.take_length] at this;exact this y hy) (by simp)) ?_
   (refine gO (dk) ?_;try with_reducible exact tt)
   (refine aK ?_;try with_reducible exact tt)
theorem aCc (x:SeenD):aJ Tryz.prog 186 [.agg x.dv] (.agg x.dv):=by
 (refine aJ.of_body Tryz.func186 rfl rfl Tryz.ntmps186 Tryz.results186 (by simp) ?_)
 (refine gO (@SeenD.dv.eq_1) ?_;try with_reducible exact tt)
 (refine rO (@SeenD.dv.eq_1) ?_;try with_reducible exact tt)
theorem aF0 (l:List SeenD) (hl:l.length≤100000):aJ Tryz.prog 161 [.lst 3 (l.map SeenD.dv)] (.lst 3 (l.map SeenD.dv)):=by
 have c1:=aF9 l 186 hl (fun x _=>aCc x)
 (refine aJ.of_body Tryz.func161 rfl rfl Tryz.ntmps161 Tryz.results161 (by simp) ?_)
 (refine aI ?_;try with_reducible exact tt)
 (refine aK ?_;try with_reducible exact tt)
def kG:List D:=[int 0,int 0,int 0]
theorem aLn (l:List PendD) (k:Nat):∀ y ∈ (l.take k).map PendD.dv,y.length=kG.length:=fun y hy=>by
 obtain⟨x,_,rfl⟩:=List.mem_map.1 hy
 rfl
theorem aF7 (l:List PendD) (f:Nat) (hl:l.length≤100000) (hf:∀ x ∈ l,aJ Tryz.prog f [.agg x.dv] (.agg x.dv)):aJ Tryz.prog 155 [.lst 3 (l.map PendD.dv),.fn (.func f) []] (.lst 3 (l.map PendD.dv)):=by
 cases hq:l with
 | nil =>
  refine aJ.of_nil (fun a c=>?_)
  (refine aJ.of_bodyW Tryz.func155 rfl rfl Tryz.ntmps155 Tryz.results155 (by simp) ?_)
  cases a with
  | none =>
   (refine gO (ai @Option.isNone_none.{0} (@Option.isNone_some.{0})) ?_;try with_reducible exact tt)
   (refine aK ?_;try with_reducible exact tt)
   exact⟨_,rfl,jA.nil 3⟩
  | some ad =>
   (refine gO (ai @Option.isNone_none.{0} (@Option.isNone_some.{0})) ?_;try with_reducible exact tt)
   refine Wp.rounds 1 (aN.go ?_)
   (refine aI ?_;try with_reducible exact tt)
   (refine aK ?_;try with_reducible exact tt)
   exact⟨_,rfl,fun K v h=>h⟩
 | cons x xs =>
  rw[← hq]
  have hcons:l.map PendD.dv=x.dv::xs.map PendD.dv:=by rw[hq];rfl
  have hlen:xs.length+1=l.length:=by rw[hq];rfl
  have e3:24*l.length≤140737488355328:=by omega
  have e4:l.length≠0:=by omega
  have hzl:kG.length=3:=rfl
  (refine aJ.of_body Tryz.func155 rfl rfl Tryz.ntmps155 Tryz.results155 (by simp) ?_)
  (repeat (first|apply Wp.skip|apply Wp.exit|apply Wp.ret|apply Wp.block|apply Wp.label|((first|refine Wp.sreg (fun K hK=>?_)|refine Wp.reg (fun K hK=>?_)|refine Wp.sdrw aA (fun K hK=>?_)|refine Wp.drw aA (fun K hK=>?_)|refine Wp.condG (fun K hK hF=>?_));(repeat (revert hK;intro hK;simp (maxSteps:=2000000) (disch:=omega) only[bF,TY,aL,bQ,cD,SV.ofD,bK,dO,CV.exact,CV.lenOf,Value.oneCell',Nat.reduceBEq,Nat.reduceAdd,Nat.reduceLT,hcons,hlen,e3,e4,dZ];(first|(refine hK _ ?_;clear hK K)|(refine⟨by kernel_rfl,hK _ ?_⟩;clear hK K)|(refine hK ?_;clear hK hF K)|(refine hF ?_;clear hK hF K)|refine aQ (by assumption) ?_|refine gJ (by assumption) ?_)));fail_if_success (revert hK;intro hK))|apply Wp.seq))
  refine Wp.loop (fun k:Nat=>⟨dI [(1,.c (.d (.fn (.func f) []))),(5,.c (.view 0 3 0 l.length)),(13,.c (.d (.lst 3 (l.map PendD.dv)))),(14,vi .i64 l.length),(15,vi .i64 k)],bJ [(0,.cells (bT ((l.take k).map PendD.dv) kG (l.length - k)))],20,28,0⟩) (fun k=>k≤l.length) (fun k=>l.length - k) 0 (Nat.zero_le _) ?_ ?_
  ·refine aD.keep rfl (by simp[aO,SV.ids,HE.ids,CV.ids,bN];rfl) ?_
   simp (maxSteps:=2000000) (disch:=omega) only[bF,aL,SV.ofD,Nat.reduceBEq,hcons,kG]
  intro k hk
  by_cases hlt:k<l.length
  ·have dk:decide ((k:Int)<(l.length:Int))=true:=decide_eq_true (by omega)
   have g1:l[k]? = some l[k]:=List.getElem?_eq_getElem hlt
   have hwk:IntKind.i64.wrap ((k:Int)+1)=((k+1:Nat):Int):=by rw[aG (by omega)];rfl
   have hsn:(l.take (k+1)).map PendD.dv=(l.take k).map PendD.dv++[l[k].dv]:=by rw[aF l k hlt,List.map_append];rfl
   have c1:=hf _ (List.getElem_mem hlt)
   have hln:=aLn l k
   have htl:((l.take k).map PendD.dv).length=k:=by simp;omega
   generalize l[k]=y at *
   have hcl:(bT ((l.take k).map PendD.dv) kG (l.length - k)).length=l.length*3:=by
    rw[gD hln,htl,hzl,show k+(l.length - k)=l.length by omega]
   have hk1:k*3+3≤l.length*3:=by omega
   have hput:=fun (us:List CV) (hu:us=y.dv.map .d)=>gE (m:=l.length - (k+1)) (x:=y.dv) hln rfl (o:=k*3) (by rw[htl,hzl]) hu (o2:=k*3+3) rfl
   rw[← hsn,show l.length - (k+1)+1=l.length - k by omega] at hput
   generalize bT ((l.take k).map PendD.dv) kG (l.length - k)=A at *
   have hput:=hput _ rfl
   simp only[PendD.dv,List.map_cons,List.map_nil] at c1 hput
   (refine gO (ai dk (ai g1 (ai @PendD.dv.eq_1 (ai hlt (ai hcl (ai hk1 (hput))))))) ?_;try with_reducible exact tt)
   refine⟨k+1,by omega,by omega,aD.keep rfl (by simp[aO,SV.ids,HE.ids,CV.ids,bN];rfl) ?_⟩
   (refine rO (hwk) ?_;try with_reducible exact tt)
  ·have hke:k=l.length:=by omega
   subst hke
   have dk:decide ((l.length:Int)<(l.length:Int))=false:=by simp
   refine Wp.weak (aD.fillSlot (t:=5) (B:=0) (n:=l.length) (s:=3) (z:=kG) (ds:=l.map PendD.dv) (by (refine aK ?_;try with_reducible exact tt)) (by (refine rO (ai @List.take_length.{0} (@Nat.sub_self)) ?_;try with_reducible exact tt)) (fun y hy=>by have:=aLn l l.length;rw[List.take_length] at this;exact this y hy) (by simp)) ?_
   (refine gO (dk) ?_;try with_reducible exact tt)
   (refine aK ?_;try with_reducible exact tt)
theorem aCb (x:PendD):aJ Tryz.prog 156 [.agg x.dv] (.agg x.dv):=by
 (refine aJ.of_body Tryz.func156 rfl rfl Tryz.ntmps156 Tryz.results156 (by simp) ?_)
 (refine gO (@PendD.dv.eq_1) ?_;try with_reducible exact tt)
 (refine rO (@PendD.dv.eq_1) ?_;try with_reducible exact tt)
theorem aEx (l:List PendD) (hl:l.length≤100000):aJ Tryz.prog 122 [.lst 3 (l.map PendD.dv)] (.lst 3 (l.map PendD.dv)):=by
 have c1:=aF7 l 156 hl (fun x _=>aCb x)
 (refine aJ.of_body Tryz.func122 rfl rfl Tryz.ntmps122 Tryz.results122 (by simp) ?_)
 (refine aI ?_;try with_reducible exact tt)
 (refine aK ?_;try with_reducible exact tt)
def oI:List D:=[int 0,int 0,int 0,str [],str []]
theorem aKa (l:List RowD) (k:Nat):∀ y ∈ (l.take k).map RowD.dv,y.length=oI.length:=fun y hy=>by
 obtain⟨x,_,rfl⟩:=List.mem_map.1 hy
 rfl
theorem aHt (l:List RowD) (f:Nat) (hl:l.length≤100000) (hf:∀ x ∈ l,aJ Tryz.prog f [.agg x.dv] (.agg x.dv)):aJ Tryz.prog 157 [.lst 5 (l.map RowD.dv),.fn (.func f) []] (.lst 5 (l.map RowD.dv)):=by
 cases hq:l with
 | nil =>
  refine aJ.of_nil (fun a c=>?_)
  (refine aJ.of_bodyW Tryz.func157 rfl rfl Tryz.ntmps157 Tryz.results157 (by simp) ?_)
  cases a with
  | none =>
   (refine gO (ai @Option.isNone_none.{0} (@Option.isNone_some.{0})) ?_;try with_reducible exact tt)
   (refine aK ?_;try with_reducible exact tt)
   exact⟨_,rfl,jA.nil 5⟩
  | some ad =>
   (refine gO (ai @Option.isNone_none.{0} (@Option.isNone_some.{0})) ?_;try with_reducible exact tt)
   refine Wp.rounds 1 (aN.go ?_)
   (refine aI ?_;try with_reducible exact tt)
   (refine aK ?_;try with_reducible exact tt)
   exact⟨_,rfl,fun K v h=>h⟩
 | cons x xs =>
  rw[← hq]
  have hcons:l.map RowD.dv=x.dv::xs.map RowD.dv:=by rw[hq];rfl
  have hlen:xs.length+1=l.length:=by rw[hq];rfl
  have e3:56*l.length≤140737488355328:=by omega
  have e4:l.length≠0:=by omega
  have hzl:oI.length=5:=rfl
  (refine aJ.of_body Tryz.func157 rfl rfl Tryz.ntmps157 Tryz.results157 (by simp) ?_)
  (repeat (first|apply Wp.skip|apply Wp.exit|apply Wp.ret|apply Wp.block|apply Wp.label|((first|refine Wp.sreg (fun K hK=>?_)|refine Wp.reg (fun K hK=>?_)|refine Wp.sdrw aA (fun K hK=>?_)|refine Wp.drw aA (fun K hK=>?_)|refine Wp.condG (fun K hK hF=>?_));(repeat (revert hK;intro hK;simp (maxSteps:=2000000) (disch:=omega) only[bF,TY,aL,bQ,cD,SV.ofD,bK,dO,CV.exact,CV.lenOf,Value.oneCell',Nat.reduceBEq,Nat.reduceAdd,Nat.reduceLT,hcons,hlen,e3,e4,dZ];(first|(refine hK _ ?_;clear hK K)|(refine⟨by kernel_rfl,hK _ ?_⟩;clear hK K)|(refine hK ?_;clear hK hF K)|(refine hF ?_;clear hK hF K)|refine aQ (by assumption) ?_|refine gJ (by assumption) ?_)));fail_if_success (revert hK;intro hK))|apply Wp.seq))
  refine Wp.loop (fun k:Nat=>⟨dI [(1,.c (.d (.fn (.func f) []))),(5,.c (.view 0 5 0 l.length)),(13,.c (.d (.lst 5 (l.map RowD.dv)))),(14,vi .i64 l.length),(15,vi .i64 k)],bJ [(0,.cells (bT ((l.take k).map RowD.dv) oI (l.length - k)))],20,28,0⟩) (fun k=>k≤l.length) (fun k=>l.length - k) 0 (Nat.zero_le _) ?_ ?_
  ·refine aD.keep rfl (by simp[aO,SV.ids,HE.ids,CV.ids,bN];rfl) ?_
   simp (maxSteps:=2000000) (disch:=omega) only[bF,aL,SV.ofD,Nat.reduceBEq,hcons,oI]
  intro k hk
  by_cases hlt:k<l.length
  ·have dk:decide ((k:Int)<(l.length:Int))=true:=decide_eq_true (by omega)
   have g1:l[k]? = some l[k]:=List.getElem?_eq_getElem hlt
   have hwk:IntKind.i64.wrap ((k:Int)+1)=((k+1:Nat):Int):=by rw[aG (by omega)];rfl
   have hsn:(l.take (k+1)).map RowD.dv=(l.take k).map RowD.dv++[l[k].dv]:=by rw[aF l k hlt,List.map_append];rfl
   have c1:=hf _ (List.getElem_mem hlt)
   have hln:=aKa l k
   have htl:((l.take k).map RowD.dv).length=k:=by simp;omega
   generalize l[k]=y at *
   have hcl:(bT ((l.take k).map RowD.dv) oI (l.length - k)).length=l.length*5:=by
    rw[gD hln,htl,hzl,show k+(l.length - k)=l.length by omega]
   have hk1:k*5+5≤l.length*5:=by omega
   have hput:=fun (us:List CV) (hu:us=y.dv.map .d)=>gE (m:=l.length - (k+1)) (x:=y.dv) hln rfl (o:=k*5) (by rw[htl,hzl]) hu (o2:=k*5+5) rfl
   rw[← hsn,show l.length - (k+1)+1=l.length - k by omega] at hput
   generalize bT ((l.take k).map RowD.dv) oI (l.length - k)=A at *
   have hput:=hput _ rfl
   simp only[RowD.dv,List.map_cons,List.map_nil] at c1 hput
   (refine gO (ai dk (ai g1 (ai @RowD.dv.eq_1 (ai hlt (ai hcl (ai hk1 (hput))))))) ?_;try with_reducible exact tt)
   refine⟨k+1,by omega,by omega,aD.keep rfl (by simp[aO,SV.ids,HE.ids,CV.ids,bN];rfl) ?_⟩
   (refine rO (hwk) ?_;try with_reducible exact tt)
  ·have hke:k=l.length:=by omega
   subst hke
   have dk:decide ((l.length:Int)<(l.length:Int))=false:=by simp
   refine Wp.weak (aD.fillSlot (t:=5) (B:=0) (n:=l.length) (s:=5) (z:=oI) (ds:=l.map RowD.dv) (by (refine aK ?_;try with_reducible exact tt)) (by (refine rO (ai @List.take_length.{0} (@Nat.sub_self)) ?_;try with_reducible exact tt)) (fun y hy=>by have:=aKa l l.length;rw[List.take_length] at this;exact this y hy) (by simp)) ?_
   (refine gO (dk) ?_;try with_reducible exact tt)
   (refine aK ?_;try with_reducible exact tt)
theorem uZ (x:RowD):aJ Tryz.prog 158 [.agg x.dv] (.agg x.dv):=by
 (refine aJ.of_body Tryz.func158 rfl rfl Tryz.ntmps158 Tryz.results158 (by simp) ?_)
 (refine gO (@RowD.dv.eq_1) ?_;try with_reducible exact tt)
 (refine rO (@RowD.dv.eq_1) ?_;try with_reducible exact tt)
theorem aHb (l:List RowD) (hl:l.length≤100000):aJ Tryz.prog 124 [.lst 5 (l.map RowD.dv)] (.lst 5 (l.map RowD.dv)):=by
 have c1:=aHt l 158 hl (fun x _=>uZ x)
 (refine aJ.of_body Tryz.func124 rfl rfl Tryz.ntmps124 Tryz.results124 (by simp) ?_)
 (refine aI ?_;try with_reducible exact tt)
 (refine aK ?_;try with_reducible exact tt)
def aBt:List D:=[int 0,int 0,int 0,dC false,bU]
theorem aPl (l:List BatD) (k:Nat):∀ y ∈ (l.take k).map BatD.dv,y.length=aBt.length:=fun y hy=>by
 obtain⟨x,_,rfl⟩:=List.mem_map.1 hy
 rfl
theorem aHq (l:List BatD) (f:Nat) (hl:l.length≤100000) (hf:∀ x ∈ l,aJ Tryz.prog f [.agg x.dv] (.agg x.dv)):aJ Tryz.prog 159 [.lst 5 (l.map BatD.dv),.fn (.func f) []] (.lst 5 (l.map BatD.dv)):=by
 cases hq:l with
 | nil =>
  refine aJ.of_nil (fun a c=>?_)
  (refine aJ.of_bodyW Tryz.func159 rfl rfl Tryz.ntmps159 Tryz.results159 (by simp) ?_)
  cases a with
  | none =>
   (refine gO (ai @Option.isNone_none.{0} (@Option.isNone_some.{0})) ?_;try with_reducible exact tt)
   (refine aK ?_;try with_reducible exact tt)
   exact⟨_,rfl,jA.nil 5⟩
  | some ad =>
   (refine gO (ai @Option.isNone_none.{0} (@Option.isNone_some.{0})) ?_;try with_reducible exact tt)
   refine Wp.rounds 1 (aN.go ?_)
   (refine aI ?_;try with_reducible exact tt)
   (refine aK ?_;try with_reducible exact tt)
   exact⟨_,rfl,fun K v h=>h⟩
 | cons x xs =>
  rw[← hq]
  have hcons:l.map BatD.dv=x.dv::xs.map BatD.dv:=by rw[hq];rfl
  have hlen:xs.length+1=l.length:=by rw[hq];rfl
  have e3:56*l.length≤140737488355328:=by omega
  have e4:l.length≠0:=by omega
  have hzl:aBt.length=5:=rfl
  (refine aJ.of_body Tryz.func159 rfl rfl Tryz.ntmps159 Tryz.results159 (by simp) ?_)
  (repeat (first|apply Wp.skip|apply Wp.exit|apply Wp.ret|apply Wp.block|apply Wp.label|((first|refine Wp.sreg (fun K hK=>?_)|refine Wp.reg (fun K hK=>?_)|refine Wp.sdrw aA (fun K hK=>?_)|refine Wp.drw aA (fun K hK=>?_)|refine Wp.condG (fun K hK hF=>?_));(repeat (revert hK;intro hK;simp (maxSteps:=2000000) (disch:=omega) only[bF,TY,aL,bQ,cD,SV.ofD,bK,dO,CV.exact,CV.lenOf,Value.oneCell',Nat.reduceBEq,Nat.reduceAdd,Nat.reduceLT,hcons,hlen,e3,e4,dZ];(first|(refine hK _ ?_;clear hK K)|(refine⟨by kernel_rfl,hK _ ?_⟩;clear hK K)|(refine hK ?_;clear hK hF K)|(refine hF ?_;clear hK hF K)|refine aQ (by assumption) ?_|refine gJ (by assumption) ?_)));fail_if_success (revert hK;intro hK))|apply Wp.seq))
  refine Wp.loop (fun k:Nat=>⟨dI [(1,.c (.d (.fn (.func f) []))),(5,.c (.view 0 5 0 l.length)),(13,.c (.d (.lst 5 (l.map BatD.dv)))),(14,vi .i64 l.length),(15,vi .i64 k)],bJ [(0,.cells (bT ((l.take k).map BatD.dv) aBt (l.length - k)))],20,28,0⟩) (fun k=>k≤l.length) (fun k=>l.length - k) 0 (Nat.zero_le _) ?_ ?_
  ·refine aD.keep rfl (by simp[aO,SV.ids,HE.ids,CV.ids,bN];rfl) ?_
   simp (maxSteps:=2000000) (disch:=omega) only[bF,aL,SV.ofD,Nat.reduceBEq,hcons,aBt]
  intro k hk
  by_cases hlt:k<l.length
  ·have dk:decide ((k:Int)<(l.length:Int))=true:=decide_eq_true (by omega)
   have g1:l[k]? = some l[k]:=List.getElem?_eq_getElem hlt
   have hwk:IntKind.i64.wrap ((k:Int)+1)=((k+1:Nat):Int):=by rw[aG (by omega)];rfl
   have hsn:(l.take (k+1)).map BatD.dv=(l.take k).map BatD.dv++[l[k].dv]:=by rw[aF l k hlt,List.map_append];rfl
   have c1:=hf _ (List.getElem_mem hlt)
   have hln:=aPl l k
   have htl:((l.take k).map BatD.dv).length=k:=by simp;omega
   generalize l[k]=y at *
   have hcl:(bT ((l.take k).map BatD.dv) aBt (l.length - k)).length=l.length*5:=by
    rw[gD hln,htl,hzl,show k+(l.length - k)=l.length by omega]
   have hk1:k*5+5≤l.length*5:=by omega
   have hput:=fun (us:List CV) (hu:us=y.dv.map .d)=>gE (m:=l.length - (k+1)) (x:=y.dv) hln rfl (o:=k*5) (by rw[htl,hzl]) hu (o2:=k*5+5) rfl
   rw[← hsn,show l.length - (k+1)+1=l.length - k by omega] at hput
   generalize bT ((l.take k).map BatD.dv) aBt (l.length - k)=A at *
   have hput:=hput _ rfl
   simp only[BatD.dv,List.map_cons,List.map_nil] at c1 hput
   (refine gO (ai dk (ai g1 (ai @BatD.dv.eq_1 (ai hlt (ai hcl (ai hk1 (hput))))))) ?_;try with_reducible exact tt)
   refine⟨k+1,by omega,by omega,aD.keep rfl (by simp[aO,SV.ids,HE.ids,CV.ids,bN];rfl) ?_⟩
   (refine rO (hwk) ?_;try with_reducible exact tt)
  ·have hke:k=l.length:=by omega
   subst hke
   have dk:decide ((l.length:Int)<(l.length:Int))=false:=by simp
   refine Wp.weak (aD.fillSlot (t:=5) (B:=0) (n:=l.length) (s:=5) (z:=aBt) (ds:=l.map BatD.dv) (by (refine aK ?_;try with_reducible exact tt)) (by (refine rO (ai @List.take_length.{0} (@Nat.sub_self)) ?_;try with_reducible exact tt)) (fun y hy=>by have:=aPl l l.length;rw[List.take_length] at this;exact this y hy) (by simp)) ?_
   (refine gO (dk) ?_;try with_reducible exact tt)
   (refine aK ?_;try with_reducible exact tt)
def uI:List D:=[int 0,int 0,bU]
theorem aLm (l:List OpenD) (k:Nat):∀ y ∈ (l.take k).map OpenD.dv,y.length=uI.length:=fun y hy=>by
 obtain⟨x,_,rfl⟩:=List.mem_map.1 hy
 rfl
theorem vF (l:List OpenD) (f:Nat) (hl:l.length≤100000) (hf:∀ x ∈ l,aJ Tryz.prog f [.agg x.dv] (.agg x.dv)):aJ Tryz.prog 125 [.lst 3 (l.map OpenD.dv),.fn (.func f) []] (.lst 3 (l.map OpenD.dv)):=by
 cases hq:l with
 | nil =>
  refine aJ.of_nil (fun a c=>?_)
  (refine aJ.of_bodyW Tryz.func125 rfl rfl Tryz.ntmps125 Tryz.results125 (by simp) ?_)
  cases a with
  | none =>
   (refine gO (ai @Option.isNone_none.{0} (@Option.isNone_some.{0})) ?_;try with_reducible exact tt)
   (refine aK ?_;try with_reducible exact tt)
   exact⟨_,rfl,jA.nil 3⟩
  | some ad =>
   (refine gO (ai @Option.isNone_none.{0} (@Option.isNone_some.{0})) ?_;try with_reducible exact tt)
   refine Wp.rounds 1 (aN.go ?_)
   (refine aI ?_;try with_reducible exact tt)
   (refine aK ?_;try with_reducible exact tt)
   exact⟨_,rfl,fun K v h=>h⟩
 | cons x xs =>
  rw[← hq]
  have hcons:l.map OpenD.dv=x.dv::xs.map OpenD.dv:=by rw[hq];rfl
  have hlen:xs.length+1=l.length:=by rw[hq];rfl
  have e3:40*l.length≤140737488355328:=by omega
  have e4:l.length≠0:=by omega
  have hzl:uI.length=3:=rfl
  (refine aJ.of_body Tryz.func125 rfl rfl Tryz.ntmps125 Tryz.results125 (by simp) ?_)
  (repeat (first|apply Wp.skip|apply Wp.exit|apply Wp.ret|apply Wp.block|apply Wp.label|((first|refine Wp.sreg (fun K hK=>?_)|refine Wp.reg (fun K hK=>?_)|refine Wp.sdrw aA (fun K hK=>?_)|refine Wp.drw aA (fun K hK=>?_)|refine Wp.condG (fun K hK hF=>?_));(repeat (revert hK;intro hK;simp (maxSteps:=2000000) (disch:=omega) only[bF,TY,aL,bQ,cD,SV.ofD,bK,dO,CV.exact,CV.lenOf,Value.oneCell',Nat.reduceBEq,Nat.reduceAdd,Nat.reduceLT,hcons,hlen,e3,e4,dZ];(first|(refine hK _ ?_;clear hK K)|(refine⟨by kernel_rfl,hK _ ?_⟩;clear hK K)|(refine hK ?_;clear hK hF K)|(refine hF ?_;clear hK hF K)|refine aQ (by assumption) ?_|refine gJ (by assumption) ?_)));fail_if_success (revert hK;intro hK))|apply Wp.seq))
  refine Wp.loop (fun k:Nat=>⟨dI [(1,.c (.d (.fn (.func f) []))),(5,.c (.view 0 3 0 l.length)),(13,.c (.d (.lst 3 (l.map OpenD.dv)))),(14,vi .i64 l.length),(15,vi .i64 k)],bJ [(0,.cells (bT ((l.take k).map OpenD.dv) uI (l.length - k)))],20,28,0⟩) (fun k=>k≤l.length) (fun k=>l.length - k) 0 (Nat.zero_le _) ?_ ?_
  ·refine aD.keep rfl (by simp[aO,SV.ids,HE.ids,CV.ids,bN];rfl) ?_
   simp (maxSteps:=2000000) (disch:=omega) only[bF,aL,SV.ofD,Nat.reduceBEq,hcons,uI]
  intro k hk
  by_cases hlt:k<l.length
  ·have dk:decide ((k:Int)<(l.length:Int))=true:=decide_eq_true (by omega)
   have g1:l[k]? = some l[k]:=List.getElem?_eq_getElem hlt
   have hwk:IntKind.i64.wrap ((k:Int)+1)=((k+1:Nat):Int):=by rw[aG (by omega)];rfl
   have hsn:(l.take (k+1)).map OpenD.dv=(l.take k).map OpenD.dv++[l[k].dv]:=by rw[aF l k hlt,List.map_append];rfl
   have c1:=hf _ (List.getElem_mem hlt)
   have hln:=aLm l k
   have htl:((l.take k).map OpenD.dv).length=k:=by simp;omega
   generalize l[k]=y at *
   have hcl:(bT ((l.take k).map OpenD.dv) uI (l.length - k)).length=l.length*3:=by
    rw[gD hln,htl,hzl,show k+(l.length - k)=l.length by omega]
   have hk1:k*3+3≤l.length*3:=by omega
   have hput:=fun (us:List CV) (hu:us=y.dv.map .d)=>gE (m:=l.length - (k+1)) (x:=y.dv) hln rfl (o:=k*3) (by rw[htl,hzl]) hu (o2:=k*3+3) rfl
   rw[← hsn,show l.length - (k+1)+1=l.length - k by omega] at hput
   generalize bT ((l.take k).map OpenD.dv) uI (l.length - k)=A at *
   have hput:=hput _ rfl
   simp only[OpenD.dv,List.map_cons,List.map_nil] at c1 hput
   (refine gO (ai dk (ai g1 (ai @OpenD.dv.eq_1 (ai hlt (ai hcl (ai hk1 (hput))))))) ?_;try with_reducible exact tt)
   refine⟨k+1,by omega,by omega,aD.keep rfl (by simp[aO,SV.ids,HE.ids,CV.ids,bN];rfl) ?_⟩
   (refine rO (hwk) ?_;try with_reducible exact tt)
  ·have hke:k=l.length:=by omega
   subst hke
   have dk:decide ((l.length:Int)<(l.length:Int))=false:=by simp
   refine Wp.weak (aD.fillSlot (t:=5) (B:=0) (n:=l.length) (s:=3) (z:=uI) (ds:=l.map OpenD.dv) (by (refine aK ?_;try with_reducible exact tt)) (by (refine rO (ai @List.take_length.{0} (@Nat.sub_self)) ?_;try with_reducible exact tt)) (fun y hy=>by have:=aLm l l.length;rw[List.take_length] at this;exact this y hy) (by simp)) ?_
   (refine gO (dk) ?_;try with_reducible exact tt)
   (refine aK ?_;try with_reducible exact tt)
def jL:List D:=[int 0,int 0,int 0,bU]
theorem aLo (l:List ProdD) (k:Nat):∀ y ∈ (l.take k).map ProdD.dv,y.length=jL.length:=fun y hy=>by
 obtain⟨x,_,rfl⟩:=List.mem_map.1 hy
 rfl
theorem vG (l:List ProdD) (f:Nat) (hl:l.length≤100000) (hf:∀ x ∈ l,aJ Tryz.prog f [.agg x.dv] (.agg x.dv)):aJ Tryz.prog 127 [.lst 4 (l.map ProdD.dv),.fn (.func f) []] (.lst 4 (l.map ProdD.dv)):=by
 cases hq:l with
 | nil =>
  refine aJ.of_nil (fun a c=>?_)
  (refine aJ.of_bodyW Tryz.func127 rfl rfl Tryz.ntmps127 Tryz.results127 (by simp) ?_)
  cases a with
  | none =>
   (refine gO (ai @Option.isNone_none.{0} (@Option.isNone_some.{0})) ?_;try with_reducible exact tt)
   (refine aK ?_;try with_reducible exact tt)
   exact⟨_,rfl,jA.nil 4⟩
  | some ad =>
   (refine gO (ai @Option.isNone_none.{0} (@Option.isNone_some.{0})) ?_;try with_reducible exact tt)
   refine Wp.rounds 1 (aN.go ?_)
   (refine aI ?_;try with_reducible exact tt)
   (refine aK ?_;try with_reducible exact tt)
   exact⟨_,rfl,fun K v h=>h⟩
 | cons x xs =>
  rw[← hq]
  have hcons:l.map ProdD.dv=x.dv::xs.map ProdD.dv:=by rw[hq];rfl
  have hlen:xs.length+1=l.length:=by rw[hq];rfl
  have e3:48*l.length≤140737488355328:=by omega
  have e4:l.length≠0:=by omega
  have hzl:jL.length=4:=rfl
  (refine aJ.of_body Tryz.func127 rfl rfl Tryz.ntmps127 Tryz.results127 (by simp) ?_)
  (repeat (first|apply Wp.skip|apply Wp.exit|apply Wp.ret|apply Wp.block|apply Wp.label|((first|refine Wp.sreg (fun K hK=>?_)|refine Wp.reg (fun K hK=>?_)|refine Wp.sdrw aA (fun K hK=>?_)|refine Wp.drw aA (fun K hK=>?_)|refine Wp.condG (fun K hK hF=>?_));(repeat (revert hK;intro hK;simp (maxSteps:=2000000) (disch:=omega) only[bF,TY,aL,bQ,cD,SV.ofD,bK,dO,CV.exact,CV.lenOf,Value.oneCell',Nat.reduceBEq,Nat.reduceAdd,Nat.reduceLT,hcons,hlen,e3,e4,dZ];(first|(refine hK _ ?_;clear hK K)|(refine⟨by kernel_rfl,hK _ ?_⟩;clear hK K)|(refine hK ?_;clear hK hF K)|(refine hF ?_;clear hK hF K)|refine aQ (by assumption) ?_|refine gJ (by assumption) ?_)));fail_if_success (revert hK;intro hK))|apply Wp.seq))
  refine Wp.loop (fun k:Nat=>⟨dI [(1,.c (.d (.fn (.func f) []))),(5,.c (.view 0 4 0 l.length)),(13,.c (.d (.lst 4 (l.map ProdD.dv)))),(14,vi .i64 l.length),(15,vi .i64 k)],bJ [(0,.cells (bT ((l.take k).map ProdD.dv) jL (l.length - k)))],20,28,0⟩) (fun k=>k≤l.length) (fun k=>l.length - k) 0 (Nat.zero_le _) ?_ ?_
  ·refine aD.keep rfl (by simp[aO,SV.ids,HE.ids,CV.ids,bN];rfl) ?_
   simp (maxSteps:=2000000) (disch:=omega) only[bF,aL,SV.ofD,Nat.reduceBEq,hcons,jL]
  intro k hk
  by_cases hlt:k<l.length
  ·have dk:decide ((k:Int)<(l.length:Int))=true:=decide_eq_true (by omega)
   have g1:l[k]? = some l[k]:=List.getElem?_eq_getElem hlt
   have hwk:IntKind.i64.wrap ((k:Int)+1)=((k+1:Nat):Int):=by rw[aG (by omega)];rfl
   have hsn:(l.take (k+1)).map ProdD.dv=(l.take k).map ProdD.dv++[l[k].dv]:=by rw[aF l k hlt,List.map_append];rfl
   have c1:=hf _ (List.getElem_mem hlt)
   have hln:=aLo l k
   have htl:((l.take k).map ProdD.dv).length=k:=by simp;omega
   generalize l[k]=y at *
   have hcl:(bT ((l.take k).map ProdD.dv) jL (l.length - k)).length=l.length*4:=by
    rw[gD hln,htl,hzl,show k+(l.length - k)=l.length by omega]
   have hk1:k*4+4≤l.length*4:=by omega
   have hput:=fun (us:List CV) (hu:us=y.dv.map .d)=>gE (m:=l.length - (k+1)) (x:=y.dv) hln rfl (o:=k*4) (by rw[htl,hzl]) hu (o2:=k*4+4) rfl
   rw[← hsn,show l.length - (k+1)+1=l.length - k by omega] at hput
   generalize bT ((l.take k).map ProdD.dv) jL (l.length - k)=A at *
   have hput:=hput _ rfl
   simp only[ProdD.dv,List.map_cons,List.map_nil] at c1 hput
   (refine gO (ai dk (ai g1 (ai @ProdD.dv.eq_1 (ai hlt (ai hcl (ai hk1 (hput))))))) ?_;try with_reducible exact tt)
   refine⟨k+1,by omega,by omega,aD.keep rfl (by simp[aO,SV.ids,HE.ids,CV.ids,bN];rfl) ?_⟩
   (refine rO (hwk) ?_;try with_reducible exact tt)
  ·have hke:k=l.length:=by omega
   subst hke
   have dk:decide ((l.length:Int)<(l.length:Int))=false:=by simp
   refine Wp.weak (aD.fillSlot (t:=5) (B:=0) (n:=l.length) (s:=4) (z:=jL) (ds:=l.map ProdD.dv) (by (refine aK ?_;try with_reducible exact tt)) (by (refine rO (ai @List.take_length.{0} (@Nat.sub_self)) ?_;try with_reducible exact tt)) (fun y hy=>by have:=aLo l l.length;rw[List.take_length] at this;exact this y hy) (by simp)) ?_
   (refine gO (dk) ?_;try with_reducible exact tt)
   (refine aK ?_;try with_reducible exact tt)
def ivI (n:Int):List D:=[int n]
def aBv:List D:=[int 0]
theorem aPm (l:List Int) (k:Nat):∀ y ∈ (l.take k).map ivI,y.length=aBv.length:=fun y hy=>by
 obtain⟨x,_,rfl⟩:=List.mem_map.1 hy
 rfl
theorem aHr (l:List Int) (f:Nat) (hl:l.length≤100000) (hf:∀ x ∈ l,aJ Tryz.prog f [int x] (int x)):aJ Tryz.prog 153 [.lst 1 (l.map ivI),.fn (.func f) []] (.lst 1 (l.map ivI)):=by
 cases hq:l with
 | nil =>
  refine aJ.of_nil (fun a c=>?_)
  (refine aJ.of_bodyW Tryz.func153 rfl rfl Tryz.ntmps153 Tryz.results153 (by simp) ?_)
  cases a with
  | none =>
   (refine gO (ai @Option.isNone_none.{0} (@Option.isNone_some.{0})) ?_;try with_reducible exact tt)
   (refine aK ?_;try with_reducible exact tt)
   exact⟨_,rfl,jA.nil 1⟩
  | some ad =>
   (refine gO (ai @Option.isNone_none.{0} (@Option.isNone_some.{0})) ?_;try with_reducible exact tt)
   refine Wp.rounds 1 (aN.go ?_)
   (refine aI ?_;try with_reducible exact tt)
   (refine aK ?_;try with_reducible exact tt)
   exact⟨_,rfl,fun K v h=>h⟩
 | cons x xs =>
  rw[← hq]
  have hcons:l.map ivI=ivI x::xs.map ivI:=by rw[hq];rfl
  have hlen:xs.length+1=l.length:=by rw[hq];rfl
  have e3:8*l.length≤140737488355328:=by omega
  have e4:l.length≠0:=by omega
  have hzl:aBv.length=1:=rfl
  (refine aJ.of_body Tryz.func153 rfl rfl Tryz.ntmps153 Tryz.results153 (by simp) ?_)
  (repeat (first|apply Wp.skip|apply Wp.exit|apply Wp.ret|apply Wp.block|apply Wp.label|((first|refine Wp.sreg (fun K hK=>?_)|refine Wp.reg (fun K hK=>?_)|refine Wp.sdrw aA (fun K hK=>?_)|refine Wp.drw aA (fun K hK=>?_)|refine Wp.condG (fun K hK hF=>?_));(repeat (revert hK;intro hK;simp (maxSteps:=2000000) (disch:=omega) only[bF,TY,aL,bQ,cD,SV.ofD,bK,dO,CV.exact,CV.lenOf,Value.oneCell',Nat.reduceBEq,Nat.reduceAdd,Nat.reduceLT,hcons,hlen,e3,e4,dZ];(first|(refine hK _ ?_;clear hK K)|(refine⟨by kernel_rfl,hK _ ?_⟩;clear hK K)|(refine hK ?_;clear hK hF K)|(refine hF ?_;clear hK hF K)|refine aQ (by assumption) ?_|refine gJ (by assumption) ?_)));fail_if_success (revert hK;intro hK))|apply Wp.seq))
  refine Wp.loop (fun k:Nat=>⟨dI [(1,.c (.d (.fn (.func f) []))),(5,.c (.view 0 1 0 l.length)),(13,.c (.d (.lst 1 (l.map ivI)))),(14,vi .i64 l.length),(15,vi .i64 k)],bJ [(0,.cells (bT ((l.take k).map ivI) aBv (l.length - k)))],20,28,0⟩) (fun k=>k≤l.length) (fun k=>l.length - k) 0 (Nat.zero_le _) ?_ ?_
  ·refine aD.keep rfl (by simp[aO,SV.ids,HE.ids,CV.ids,bN];rfl) ?_
   simp (maxSteps:=2000000) (disch:=omega) only[bF,aL,SV.ofD,Nat.reduceBEq,hcons,aBv]
  intro k hk
  by_cases hlt:k<l.length
  ·have dk:decide ((k:Int)<(l.length:Int))=true:=decide_eq_true (by omega)
   have g1:l[k]? = some l[k]:=List.getElem?_eq_getElem hlt
   have hwk:IntKind.i64.wrap ((k:Int)+1)=((k+1:Nat):Int):=by rw[aG (by omega)];rfl
   have hsn:(l.take (k+1)).map ivI=(l.take k).map ivI++[ivI l[k]]:=by rw[aF l k hlt,List.map_append];rfl
   have c1:=hf _ (List.getElem_mem hlt)
   have hln:=aPm l k
   have htl:((l.take k).map ivI).length=k:=by simp;omega
   generalize l[k]=y at *
   have hcl:(bT ((l.take k).map ivI) aBv (l.length - k)).length=l.length*1:=by
    rw[gD hln,htl,hzl,show k+(l.length - k)=l.length by omega]
   have hk1:k*1+1≤l.length*1:=by omega
   have hput:=fun (us:List CV) (hu:us=(ivI y).map .d)=>gE (m:=l.length - (k+1)) (x:=ivI y) hln rfl (o:=k*1) (by rw[htl,hzl]) hu (o2:=k*1+1) rfl
   rw[← hsn,show l.length - (k+1)+1=l.length - k by omega] at hput
   generalize bT ((l.take k).map ivI) aBv (l.length - k)=A at *
   have hput:=hput _ rfl
   simp only[ivI,List.map_cons,List.map_nil] at c1 hput
   (repeat (first|apply Wp.skip|apply Wp.exit|apply Wp.ret|apply Wp.block|apply Wp.label|((first|refine Wp.sreg (fun K hK=>?_)|refine Wp.reg (fun K hK=>?_)|refine Wp.sdrw aA (fun K hK=>?_)|refine Wp.drw aA (fun K hK=>?_)|refine Wp.condG (fun K hK hF=>?_));(repeat (revert hK;intro hK;simp (maxSteps:=2000000) (disch:=omega) only[bF,TY,aL,bQ,cD,SV.ofD,bW,cF,CV.exact,CV.lstOf,CV.one,D.one,Value.oneCell',cC,Nat.reduceBEq,Nat.reduceAdd,Nat.reduceLT,dk,g1,ivI,hlt,hcl,hk1,hput];(first|(refine hK _ ?_;clear hK K)|(refine⟨by kernel_rfl,hK _ ?_⟩;clear hK K)|(refine hK ?_;clear hK hF K)|(refine hF ?_;clear hK hF K)|refine aQ (by assumption) ?_|refine gJ (by assumption) ?_)));fail_if_success (revert hK;intro hK))|apply Wp.seq))
   refine⟨k+1,by omega,by omega,aD.keep rfl (by simp[aO,SV.ids,HE.ids,CV.ids,bN];rfl) ?_⟩
   (refine rO (hwk) ?_;try with_reducible exact tt)
  ·have hke:k=l.length:=by omega
   subst hke
   have dk:decide ((l.length:Int)<(l.length:Int))=false:=by simp
   refine Wp.weak (aD.fillSlot (t:=5) (B:=0) (n:=l.length) (s:=1) (z:=aBv) (ds:=l.map ivI) (by (refine aK ?_;try with_reducible exact tt)) (by (refine rO (ai @List.take_length.{0} (@Nat.sub_self)) ?_;try with_reducible exact tt)) (fun y hy=>by have:=aPm l l.length;rw[List.take_length] at this;exact this y hy) (by simp)) ?_
   (refine gO (dk) ?_;try with_reducible exact tt)
   (refine aK ?_;try with_reducible exact tt)
theorem aEw (n:Int):aJ Tryz.prog 154 [int n] (int n):=by
 (refine aJ.of_body Tryz.func154 rfl rfl Tryz.ntmps154 Tryz.results154 (by simp) ?_)
 (refine aI ?_;try with_reducible exact tt)
 (refine aK ?_;try with_reducible exact tt)
theorem aH9 (l:List Int) (hl:l.length≤100000):aJ Tryz.prog 121 [.lst 1 (l.map fun n=>[int n])] (.lst 1 (l.map fun n=>[int n])):=by
 have c1:aJ Tryz.prog 153 [.lst 1 (l.map fun n=>[int n]),.fn (.func 154) []] (.lst 1 (l.map fun n=>[int n])):=aHr l 154 hl (fun n _=>aEw n)
 (refine aJ.of_body Tryz.func121 rfl rfl Tryz.ntmps121 Tryz.results121 (by simp) ?_)
 (refine aI ?_;try with_reducible exact tt)
 (refine aK ?_;try with_reducible exact tt)
theorem aHf (b:BatD) (hb:b.recs.length≤100000):aJ Tryz.prog 160 [.agg b.dv] (.agg b.dv):=by
 have c1:=aHa b.recs hb
 (refine aJ.of_body Tryz.func160 rfl rfl Tryz.ntmps160 Tryz.results160 (by simp) ?_)
 (refine gO (@BatD.dv.eq_1) ?_;try with_reducible exact tt)
 (refine rO (@BatD.dv.eq_1) ?_;try with_reducible exact tt)
theorem aA7 (o:OpenD) (hs:SmallO o):aJ Tryz.prog 126 [.agg o.dv] (.agg o.dv):=by
 have c1:=aHq o.bats 160 hs.bats (fun b hb=>aHf b (hs.recs b hb))
 (refine aJ.of_body Tryz.func126 rfl rfl Tryz.ntmps126 Tryz.results126 (by simp) ?_)
 (refine gO (@OpenD.dv.eq_1) ?_;try with_reducible exact tt)
 (refine rO (@OpenD.dv.eq_1) ?_;try with_reducible exact tt)
theorem aA8 (q:ProdD) (hq:q.seen.length≤100000):aJ Tryz.prog 128 [.agg q.dv] (.agg q.dv):=by
 have c1:=aF0 q.seen hq
 (refine aJ.of_body Tryz.func128 rfl rfl Tryz.ntmps128 Tryz.results128 (by simp) ?_)
 (refine gO (@ProdD.dv.eq_1) ?_;try with_reducible exact tt)
 (refine rO (@ProdD.dv.eq_1) ?_;try with_reducible exact tt)
theorem aK4 (p:PartD) (hs:SmallP p):aJ Tryz.prog 88 [.agg p.dv] (.agg p.dv):=by
 have c1:=aHb p.rows hs.rows
 have c2:=vF p.opens 126 hs.opens (fun o ho=>aA7 o (hs.open1 o ho))
 have c3:=vG p.prods 128 hs.prods.len (fun q hq=>aA8 q (hs.prods.seen q hq))
 (refine aJ.of_body Tryz.func88 rfl rfl Tryz.ntmps88 Tryz.results88 (by simp) ?_)
 (refine gO (@PartD.dv.eq_1) ?_;try with_reducible exact tt)
 (refine rO (@PartD.dv.eq_1) ?_;try with_reducible exact tt)
theorem rE (c:CoordD) (hs:SmallC c):aJ Tryz.prog 85 [.agg c.dv] (.agg c.dv):=by
 have c1:=aH9 c.parts hs.parts
 have c2:=aEx c.pends hs.pends
 (refine aJ.of_body Tryz.func85 rfl rfl Tryz.ntmps85 Tryz.results85 (by simp) ?_)
 (refine gO (@CoordD.dv.eq_1) ?_;try with_reducible exact tt)
 (refine rO (@CoordD.dv.eq_1) ?_;try with_reducible exact tt)
theorem mG (s:StateD) (hs:SmallS s):aJ Tryz.prog 48 [.agg s.dv] (.agg s.dv):=by
 have c0:=rE s.c0 hs.c0
 have c1:=rE s.c1 hs.c1
 have c2:=rE s.c2 hs.c2
 simp only[CoordD.dv] at c0 c1 c2
 (refine aJ.of_body Tryz.func48 rfl rfl Tryz.ntmps48 Tryz.results48 (by simp) ?_)
 (refine gO (ai @StateD.dv.eq_1 (ai @CoordD.dv.eq_1 (@GrpD.dv.eq_1))) ?_;try with_reducible exact tt)
 refine Wp.rounds 4 (aN.go ?_)
 (refine aI ?_;try with_reducible exact tt)
 (refine rO (ai @StateD.dv.eq_1 (ai @CoordD.dv.eq_1 (@GrpD.dv.eq_1))) ?_;try with_reducible exact tt)
def lD (l:List RowD):List CV:=bT (l.map RowD.dv) oI 0
theorem xN (l:List RowD):(lD l).flatMap CV.ids=[]:=bN _ _ _
theorem aB0 {args:List SV} {r:SV} {k:Nat} {l:List RowD} (ha:(args.all fun a=>aOc a.ids [])=true) (hr:aOc r.ids [k]=true):okG args r [] [(k,.cells (lD l))]=true:=by
 unfold okG okB
 simp only[List.map_cons,List.map_nil,List.all_cons,List.all_nil,HE.ids,xN,Bool.and_true,ha,hr]
 rfl
theorem aF8 (l:List RowD) (f:Nat) (hl:l.length≤100000) (hpos:0<l.length) (hf:∀ x ∈ l,aJ Tryz.prog f [.agg x.dv] (.agg x.dv)):FunG Tryz.prog 157 [.c (.d (.lst 5 (l.map RowD.dv))),.c (.d (.fn (.func f) []))] [] (bJ []) (.c (.view 1000 5 0 l.length)) [1000] (bJ [(1000,.cells (lD l))]):=by
 obtain⟨x,xs,hq⟩:∃ x xs,l=x::xs:=by
  cases l with
  | nil=>simp at hpos
  | cons x xs=>exact⟨x,xs,rfl⟩
 have hcons:l.map RowD.dv=x.dv::xs.map RowD.dv:=by rw[hq];rfl
 have hlen:xs.length+1=l.length:=by rw[hq];rfl
 have e3:56*l.length≤140737488355328:=by omega
 have e4:l.length≠0:=by omega
 have hzl:oI.length=5:=rfl
 refine FunG.of_bodyH rfl rfl Tryz.func157 rfl rfl Tryz.ntmps157 Tryz.results157 (Nat.le_of_ble_eq_true rfl) (aB0 rfl rfl) ?_
 (repeat (first|apply Wp.skip|apply Wp.exit|apply Wp.ret|apply Wp.block|apply Wp.label|((first|refine Wp.sreg (fun K hK=>?_)|refine Wp.reg (fun K hK=>?_)|refine Wp.sdrw aA (fun K hK=>?_)|refine Wp.drw aA (fun K hK=>?_)|refine Wp.condG (fun K hK hF=>?_));(repeat (revert hK;intro hK;simp (maxSteps:=2000000) (disch:=omega) only[bF,TY,aL,bQ,cD,SV.ofD,bW,cF,bX,fB,bK,fC,eQ,cQ,cL,dO,eZ,eY,fA,CV.exact,CV.lstOf,CV.lenOf,CV.one,D.one,Value.oneCell',CV.toD0,fS,cC,dU,eV,rD0,eS,eO,fT,reduceCtorEq,reduceIte,Nat.reduceBEq,Nat.reduceEqDiff,Nat.reduceAdd,Nat.reduceMul,Nat.reduceSub,Nat.reduceLT,Nat.reduceLeDiff,Nat.reduceBNe,Int.reduceLE,Int.reduceLT,Int.reduceBEq,Int.reduceBNe,Int.reduceEq,Int.reduceNeg,Int.reduceAdd,Int.reduceSub,Int.reduceToNat,forall_const,bA,hcons,hlen,e3,e4,dZ,List.length_map];(first|(refine hK _ ?_;clear hK K)|(refine⟨by kernel_rfl,hK _ ?_⟩;clear hK K)|(refine hK ?_;clear hK hF K)|(refine hF ?_;clear hK hF K)|refine aQ (by assumption) ?_|refine gJ (by assumption) ?_)));fail_if_success (revert hK;intro hK))|apply Wp.seq))
 refine Wp.loop (fun k:Nat=>⟨dI [(1,.c (.d (.fn (.func f) []))),(5,.c (.view 1000 5 0 l.length)),(13,.c (.d (.lst 5 (l.map RowD.dv)))),(14,vi .i64 l.length),(15,vi .i64 k)],bJ [(1000,.cells (bT ((l.take k).map RowD.dv) oI (l.length - k)))],1020,28,⟨[],[],false,none⟩⟩) (fun k=>k≤l.length) (fun k=>l.length - k) 0 (Nat.zero_le _) ?_ ?_
 ·refine aD.keep rfl (by simp[aO,jQ,SV.ids,HE.ids,CV.ids,bN]) ?_
  simp (maxSteps:=2000000) (disch:=omega) only[bF,TY,aL,bQ,cD,SV.ofD,bW,cF,bX,fB,bK,fC,eQ,cQ,cL,dO,eZ,eY,fA,CV.exact,CV.lstOf,CV.lenOf,CV.one,D.one,Value.oneCell',CV.toD0,fS,cC,dU,eV,rD0,eS,eO,fT,reduceCtorEq,reduceIte,Nat.reduceBEq,Nat.reduceEqDiff,Nat.reduceAdd,Nat.reduceMul,Nat.reduceSub,Nat.reduceLT,Nat.reduceLeDiff,Nat.reduceBNe,Int.reduceLE,Int.reduceLT,Int.reduceBEq,Int.reduceBNe,Int.reduceEq,Int.reduceNeg,Int.reduceAdd,Int.reduceSub,Int.reduceToNat,forall_const,bA,hcons,oI,List.take_zero,List.map_nil,Nat.sub_zero]
 intro k hk
 by_cases hlt:k<l.length
 ·have dk:decide ((k:Int)<(l.length:Int))=true:=decide_eq_true (by omega)
  have g1:l[k]? = some l[k]:=List.getElem?_eq_getElem hlt
  have hwk:IntKind.i64.wrap ((k:Int)+1)=((k+1:Nat):Int):=by rw[aG (by omega)];rfl
  have hsn:(l.take (k+1)).map RowD.dv=(l.take k).map RowD.dv++[l[k].dv]:=by rw[aF l k hlt,List.map_append];rfl
  have c1:=hf _ (List.getElem_mem hlt)
  have hln:=aKa l k
  have htl:((l.take k).map RowD.dv).length=k:=by simp;omega
  generalize l[k]=y at *
  have hcl:(bT ((l.take k).map RowD.dv) oI (l.length - k)).length=l.length*5:=by
   rw[gD hln,htl,hzl,show k+(l.length - k)=l.length by omega]
  have hk1:k*5+5≤l.length*5:=by omega
  have hput:=fun (us:List CV) (hu:us=y.dv.map .d)=>gE (m:=l.length - (k+1)) (x:=y.dv) hln rfl (o:=k*5) (by rw[htl,hzl]) hu (o2:=k*5+5) rfl
  rw[← hsn,show l.length - (k+1)+1=l.length - k by omega] at hput
  generalize bT ((l.take k).map RowD.dv) oI (l.length - k)=A at *
  have hput:=hput _ rfl
  simp only[RowD.dv,List.map_cons,List.map_nil] at c1 hput
  (refine gO (ai @bA (ai dk (ai g1 (ai @RowD.dv.eq_1 (ai hlt (ai hcl (ai hk1 (hput)))))))) ?_;try with_reducible exact tt)
  refine⟨k+1,by omega,by omega,aD.keep rfl (by simp[aO,jQ,SV.ids,HE.ids,CV.ids,bN]) ?_⟩
  (refine rO (ai @bA (hwk)) ?_;try with_reducible exact tt)
 ·have hke:k=l.length:=by omega
  subst hke
  have dk:decide ((l.length:Int)<(l.length:Int))=false:=by simp
  (refine gO (ai @bA (dk)) ?_;try with_reducible exact tt)
  refine cJ.ret ?_
  simp (maxSteps:=2000000) (disch:=omega) only[bF,TY,aL,bQ,cD,SV.ofD,bW,cF,bX,fB,bK,fC,eQ,cQ,cL,dO,eZ,eY,fA,CV.exact,CV.lstOf,CV.lenOf,CV.one,D.one,Value.oneCell',CV.toD0,fS,cC,dU,eV,rD0,eS,eO,fT,reduceCtorEq,reduceIte,Nat.reduceBEq,Nat.reduceEqDiff,Nat.reduceAdd,Nat.reduceMul,Nat.reduceSub,Nat.reduceLT,Nat.reduceLeDiff,Nat.reduceBNe,Int.reduceLE,Int.reduceLT,Int.reduceBEq,Int.reduceBNe,Int.reduceEq,Int.reduceNeg,Int.reduceAdd,Int.reduceSub,Int.reduceToNat,forall_const,bA,jJ,kO,lD,List.take_length,Nat.sub_self]
theorem gX (ρ:Nat→Nat) (l:List RowD):(lD l).map (CV.ren ρ)=lD l:=by
 unfold lD bT
 rw[List.map_map];rfl
theorem aEz (l:List RowD) (hl:l.length≤100000) (hpos:0<l.length):FunG Tryz.prog 124 [.c (.d (.lst 5 (l.map RowD.dv)))] [] (bJ []) (.c (.view 1000 5 0 l.length)) [1000] (bJ [(1000,.cells (lD l))]):=by
 have c1:=aF8 l 158 hl hpos (fun x _=>uZ x)
 refine FunG.of_bodyH rfl rfl Tryz.func124 rfl rfl Tryz.ntmps124 Tryz.results124 (Nat.le_of_ble_eq_true rfl) (aB0 rfl rfl) ?_
 (refine gO (@bA) ?_;try with_reducible exact tt)
 ((first|refine Wp.sregG ?_|refine Wp.regG ?_|(refine Wp.seq ?_;first|refine Wp.sregG ?_|refine Wp.regG ?_));refine cU.at 1 (fun K hK=>?_);simp (maxSteps:=2000000) (disch:=omega) only[bF,TY,aL,bQ,cD,SV.ofD,bW,cF,bX,fB,bK,fC,eQ,cQ,cL,dO,eZ,eY,fA,CV.exact,CV.lstOf,CV.lenOf,CV.one,D.one,Value.oneCell',CV.toD0,fS,cC,dU,eV,rD0,eS,eO,fT,reduceCtorEq,reduceIte,Nat.reduceBEq,Nat.reduceEqDiff,Nat.reduceAdd,Nat.reduceMul,Nat.reduceSub,Nat.reduceLT,Nat.reduceLeDiff,Nat.reduceBNe,Int.reduceLE,Int.reduceLT,Int.reduceBEq,Int.reduceBNe,Int.reduceEq,Int.reduceNeg,Int.reduceAdd,Int.reduceSub,Int.reduceToNat,forall_const,bA,gX];refine hK _ ?_;clear hK K;refine cU.call (c1) [] 1001 rfl rfl ?_ ?_;(focus (simp (maxSteps:=2000000) (disch:=omega) only[bF,TY,aL,bQ,cD,SV.ofD,bW,cF,bX,fB,bK,fC,eQ,cQ,cL,dO,eZ,eY,fA,CV.exact,CV.lstOf,CV.lenOf,CV.one,D.one,Value.oneCell',CV.toD0,fS,cC,dU,eV,rD0,eS,eO,fT,reduceCtorEq,reduceIte,Nat.reduceBEq,Nat.reduceEqDiff,Nat.reduceAdd,Nat.reduceMul,Nat.reduceSub,Nat.reduceLT,Nat.reduceLeDiff,Nat.reduceBNe,Int.reduceLE,Int.reduceLT,Int.reduceBEq,Int.reduceBNe,Int.reduceEq,Int.reduceNeg,Int.reduceAdd,Int.reduceSub,Int.reduceToNat,forall_const,iN,wF,lR,fX,List.nil_append,iP,SV.ren,CV.ren,HE.ren,cR,pP,bA,gX];done));refine cU.done (fun K hK=>?_);simp (maxSteps:=2000000) (disch:=omega) only[bF,TY,aL,bQ,cD,SV.ofD,bW,cF,bX,fB,bK,fC,eQ,cQ,cL,dO,eZ,eY,fA,CV.exact,CV.lstOf,CV.lenOf,CV.one,D.one,Value.oneCell',CV.toD0,fS,cC,dU,eV,rD0,eS,eO,fT,reduceCtorEq,reduceIte,Nat.reduceBEq,Nat.reduceEqDiff,Nat.reduceAdd,Nat.reduceMul,Nat.reduceSub,Nat.reduceLT,Nat.reduceLeDiff,Nat.reduceBNe,Int.reduceLE,Int.reduceLT,Int.reduceBEq,Int.reduceBNe,Int.reduceEq,Int.reduceNeg,Int.reduceAdd,Int.reduceSub,Int.reduceToNat,forall_const,jR,iP,SV.ren,CV.ren,HE.ren,List.map_cons,List.map_nil,gX];refine hK _ ?_;clear hK K)
 (refine gO (@bA) ?_;try with_reducible exact tt)
 refine cJ.ret ?_
 simp (maxSteps:=2000000) (disch:=omega) only[bF,TY,aL,bQ,cD,SV.ofD,bW,cF,bX,fB,bK,fC,eQ,cQ,cL,dO,eZ,eY,fA,CV.exact,CV.lstOf,CV.lenOf,CV.one,D.one,Value.oneCell',CV.toD0,fS,cC,dU,eV,rD0,eS,eO,fT,reduceCtorEq,reduceIte,Nat.reduceBEq,Nat.reduceEqDiff,Nat.reduceAdd,Nat.reduceMul,Nat.reduceSub,Nat.reduceLT,Nat.reduceLeDiff,Nat.reduceBNe,Int.reduceLE,Int.reduceLT,Int.reduceBEq,Int.reduceBNe,Int.reduceEq,Int.reduceNeg,Int.reduceAdd,Int.reduceSub,Int.reduceToNat,forall_const,bA,jJ,kO,gX]
theorem aHg (p:PartD) (hs:SmallP p) (hpos:0<p.rows.length):FunG Tryz.prog 88 [.agg (p.dv.map CV.d)] [] (bJ []) (.agg [.d (int p.start),.d (int p.fin),.view 1005 5 0 p.rows.length,.d (.lst 3 (p.opens.map OpenD.dv)),.d (.lst 4 (p.prods.map ProdD.dv))]) [1005] (bJ [(1005,.cells (lD p.rows))]):=by
 have c1:=aEz p.rows hs.rows hpos
 have c2:=vF p.opens 126 hs.opens (fun o ho=>aA7 o (hs.open1 o ho))
 have c3:=vG p.prods 128 hs.prods.len (fun q hq=>aA8 q (hs.prods.seen q hq))
 refine FunG.of_bodyH rfl rfl Tryz.func88 rfl rfl Tryz.ntmps88 Tryz.results88 (Nat.le_of_ble_eq_true rfl) (aB0 rfl rfl) ?_
 (refine gO (ai @bA (ai @PartD.dv.eq_1 (ai @List.map_cons.{0,0} (@List.map_nil.{0,0})))) ?_;try with_reducible exact tt)
 ((first|refine Wp.sregG ?_|refine Wp.regG ?_|(refine Wp.seq ?_;first|refine Wp.sregG ?_|refine Wp.regG ?_));refine cU.at 2 (fun K hK=>?_);simp (maxSteps:=2000000) (disch:=omega) only[bF,TY,aL,bQ,cD,SV.ofD,bW,cF,bX,fB,bK,fC,eQ,cQ,cL,dO,eZ,eY,fA,CV.exact,CV.lstOf,CV.lenOf,CV.one,D.one,Value.oneCell',CV.toD0,fS,cC,dU,eV,rD0,eS,eO,fT,reduceCtorEq,reduceIte,Nat.reduceBEq,Nat.reduceEqDiff,Nat.reduceAdd,Nat.reduceMul,Nat.reduceSub,Nat.reduceLT,Nat.reduceLeDiff,Nat.reduceBNe,Int.reduceLE,Int.reduceLT,Int.reduceBEq,Int.reduceBNe,Int.reduceEq,Int.reduceNeg,Int.reduceAdd,Int.reduceSub,Int.reduceToNat,forall_const,bA,gX];refine hK _ ?_;clear hK K;refine cU.call (c1) [(1000,1005)] 1006 rfl rfl ?_ ?_;(focus (simp (maxSteps:=2000000) (disch:=omega) only[bF,TY,aL,bQ,cD,SV.ofD,bW,cF,bX,fB,bK,fC,eQ,cQ,cL,dO,eZ,eY,fA,CV.exact,CV.lstOf,CV.lenOf,CV.one,D.one,Value.oneCell',CV.toD0,fS,cC,dU,eV,rD0,eS,eO,fT,reduceCtorEq,reduceIte,Nat.reduceBEq,Nat.reduceEqDiff,Nat.reduceAdd,Nat.reduceMul,Nat.reduceSub,Nat.reduceLT,Nat.reduceLeDiff,Nat.reduceBNe,Int.reduceLE,Int.reduceLT,Int.reduceBEq,Int.reduceBNe,Int.reduceEq,Int.reduceNeg,Int.reduceAdd,Int.reduceSub,Int.reduceToNat,forall_const,iN,wF,lR,fX,List.nil_append,iP,SV.ren,CV.ren,HE.ren,cR,pP,bA,gX];done));refine cU.done (fun K hK=>?_);simp (maxSteps:=2000000) (disch:=omega) only[bF,TY,aL,bQ,cD,SV.ofD,bW,cF,bX,fB,bK,fC,eQ,cQ,cL,dO,eZ,eY,fA,CV.exact,CV.lstOf,CV.lenOf,CV.one,D.one,Value.oneCell',CV.toD0,fS,cC,dU,eV,rD0,eS,eO,fT,reduceCtorEq,reduceIte,Nat.reduceBEq,Nat.reduceEqDiff,Nat.reduceAdd,Nat.reduceMul,Nat.reduceSub,Nat.reduceLT,Nat.reduceLeDiff,Nat.reduceBNe,Int.reduceLE,Int.reduceLT,Int.reduceBEq,Int.reduceBNe,Int.reduceEq,Int.reduceNeg,Int.reduceAdd,Int.reduceSub,Int.reduceToNat,forall_const,jR,iP,SV.ren,CV.ren,HE.ren,List.map_cons,List.map_nil,gX];refine hK _ ?_;clear hK K)
 (refine gO (@bA) ?_;try with_reducible exact tt)
 refine cJ.ret ?_
 simp (maxSteps:=2000000) (disch:=omega) only[bF,TY,aL,bQ,cD,SV.ofD,bW,cF,bX,fB,bK,fC,eQ,cQ,cL,dO,eZ,eY,fA,CV.exact,CV.lstOf,CV.lenOf,CV.one,D.one,Value.oneCell',CV.toD0,fS,cC,dU,eV,rD0,eS,eO,fT,reduceCtorEq,reduceIte,Nat.reduceBEq,Nat.reduceEqDiff,Nat.reduceAdd,Nat.reduceMul,Nat.reduceSub,Nat.reduceLT,Nat.reduceLeDiff,Nat.reduceBNe,Int.reduceLE,Int.reduceLT,Int.reduceBEq,Int.reduceBNe,Int.reduceEq,Int.reduceNeg,Int.reduceAdd,Int.reduceSub,Int.reduceToNat,forall_const,bA,jJ,kO,gX]
end Go.Proofs.YtkmfmphpndhkjaaGreatDoor
