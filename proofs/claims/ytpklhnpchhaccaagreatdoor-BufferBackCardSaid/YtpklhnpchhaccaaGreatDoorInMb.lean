/- The abstract machine (MpI, MpJ, InF, InG). -/
import Derived.Test.YtpklhnpchhaccaaGreatDoorMpH
import Derived.Test.YtpklhnpchhaccaaGreatDoorInM
import Derived.Test.YtpklhnpchhaccaaGreatDoorSqN
namespace Go.Proofs.YtpklhnpchhaccaaGreatDoor
open Go Go.RowKit
set_option linter.unusedVariables false
set_option linter.unusedSimpArgs false
theorem aG.rowNew {P:Program} {all:List Oper} {o:Oper} {os:List Oper} {σ:St} {k:St→Prop} {t e sz bb len:Nat} {zs:List Value} {ps:Array (Nat × Operand)} {cs:List CV} (id:Nat) (hop:o.op = .buildSlice t len ps)
  (hes:cZ P t=some (e,sz,bb,zs)) (hlen:len≠0∧len*sz≤16777216∧0<len*sz∧zs.length=sz∧zs.all (·.oneCell')=true)
  (hc:bL all σ.env o=some true∧gC σ o=true∧qZ (fun i=>some (i*sz,sz)) ((qX zs len).map fun v=>.d (.val v)) (ps.toList.map fun p=>(p.1,aH σ.env p.2))=some cs∧cs.length=len*sz∧σ.H id=none∧σ.fx.dfs.contains id=false)
  (h:aG P all os ⟨cO σ.env o.dst (.c (.mt id 1)),upd σ.H id (some (.mrow e sz 1 cs)),σ.nx,σ.sz,σ.fx⟩ k):aG P all (o::os) σ k:=by
 obtain⟨hg,hd,hcs,hcl,hn,hdf⟩:=hc
 obtain⟨hl0,hc1,hc2,hc3',hc4⟩:=hlen
 refine aG.opr hg hd (by rw[hop];intro c hc;cases hc) fun F K0 g a w hr=>?_
 have hc3:zs.length≠0:=by intro e;rw[← hc3',e] at hc2;simp at hc2
 have hs0:0<sz:=by omega
 obtain⟨hu,j,z,u,hj,hz,hs,hby,hzs,_⟩:=cQ hes
 rw[aI3 zs hc3 len,hc3'] at hcs
 have hz1:∀ u ∈ gP zs (len*sz),u.oneCell' = true:=fun u hu=>by
  simp only[gP,List.mem_map,List.mem_range] at hu
  obtain⟨i,hi,rfl⟩:=hu
  have hlt:i % zs.length<zs.length:=Nat.mod_lt _ (by omega)
  have:zs.toArray[i % zs.length]! = zs[i % zs.length]:=by simp[hlt]
  rw[this]
  exact List.all_eq_true.1 hc4 _ (List.getElem_mem hlt)
 obtain⟨vs,hf,hrr,h1⟩:=oL (pP g σ.H (gP zs (len*sz))) hz1 (pE (g:=g) (H:=σ.H) (ρ:=aH σ.env) (a:=a) ps.toList (fun p _=>bH hr p.2)) hcs
 have hvl:vs.length=len*sz:=by rw[← hrr.1,hcl]
 obtain⟨h2,l2⟩:=hr.mem.mtok e sz hn hs0
 obtain⟨h3,l3⟩:=h2.mnew (n':=1) (cp:=len) (cs':=cs) (vs:=vs) (rest:=[]) (cur:=vs.toArray) (aB _ _ _) (by decide) hs0 (by rw[hcl,Nat.mul_mod_left]) (by simp) (by simpa using hvl) (hrr.mono l2) h1
 rw[aAl] at h3 l3
 refine⟨_,.slice (some ⟨w.heap.size,0,none⟩) len len,_,_,_,.c (.mt id 1),σ.nx,?_,.inl rfl,h3,l2.trans l3,?_,?_,h⟩
 ·unfold execOp;rw[hop]
  have hqs:(ps.map fun p=>(p.1,a.eval p.2)).toList=ps.toList.map fun p=>(p.1,a.eval p.2):=by simp
  have hrow:(Array.range (len*sz)).map (fun x=>z.cells[x % z.cells.size]!)=(gP zs (len*sz)).toArray:=by
   subst hzs
   apply Array.ext'
   simp[gP]
  have hf' : Instr.fill (fun i=>some (i*sz,sz)) (gP zs (len*sz)).toArray (ps.toList.map fun p=>(p.1,a.eval p.2))=some vs.toArray:=by simpa using hf
  have hb:(Instr.buildSlice t len (ps.map fun p=>(p.1,a.eval p.2))).run P w = .ok (.slice (some ⟨w.heap.size,0,none⟩) len len) (w.alloc (.cells vs.toArray e)):=by
   unfold Instr.buildSlice
   simp only[Sem.run_bind,run_underlying hu,Result.andThen_ok,cC hj,hs]
   rw[if_neg (by omega)]
   rw[if_neg (by omega)]
   simp only[Sem.run_bind,zeroValue,typeInfo,run_program,Result.andThen_ok,hj,Sem.run_pure,hz,hrow,hqs,hf']
   simp[newRow]
  simp[hb,Result.andThen]
 ·refine⟨⟨_,_,_,rfl⟩,e,sz,1,cs,aB _ _ _,Nat.le_refl _,fun _=>.inl ⟨w.heap.size,aB _ _ _,?_⟩⟩
  show _=Value.slice _ _ (upd g.cap id len id)
  rw[aB,hcl,Nat.mul_div_cancel _ hs0]
 ·intro i hi
  rw[aA]
  rintro rfl
  rw[show σ.fx.dfs.contains i=true by simpa using hi] at hdf;cases hdf
theorem cN.rowNew {P:Program} {all:List Oper} {o:Oper} {os:List Oper} {σ:St} {tm:List FootM} {k:St→List FootM→Prop} {t e sz bb len:Nat} {zs:List Value} {ps:Array (Nat × Operand)} {cs:List CV} (id:Nat) (hop:o.op = .buildSlice t len ps)
  (hes:cZ P t=some (e,sz,bb,zs)) (hlen:len≠0∧len*sz≤16777216∧0<len*sz∧zs.length=sz∧zs.all (·.oneCell')=true)
  (hc:bL all σ.env o=some true∧gC σ o=true∧qZ (fun i=>some (i*sz,sz)) ((qX zs len).map fun v=>.d (.val v)) (ps.toList.map fun p=>(p.1,aH σ.env p.2))=some cs∧cs.length=len*sz∧σ.H id=none∧σ.fx.dfs.contains id=false)
  (h:cN P all os ⟨cO σ.env o.dst (.c (.mt id 1)),upd σ.H id (some (.mrow e sz 1 cs)),σ.nx,σ.sz,σ.fx⟩ (⟨[id],[id]⟩::tm) k):cN P all (o::os) σ tm k:=by
 refine cN.rule (σ2:=⟨cO σ.env o.dst (.c (.mt id 1)),upd σ.H id (some (.mrow e sz 1 cs)),σ.nx,σ.sz,σ.fx⟩) [id] [id] (fun _ h=>h) _ rfl rfl rfl (fun i hi=>aA _ _ (by simpa using hi)) (fun E H hE hH=>?_) h
 obtain⟨hg,hd,hcs,hcl,hn,hdf⟩:=hc
 have e2:(ps.toList.map fun p=>(p.1,aH E p.2))=ps.toList.map fun p=>(p.1,aH σ.env p.2):=List.map_congr_left (fun p hp=>by
  rw[bU hE (by rw[hop];simp[Op.operands];exact⟨p.1,by simpa using hp⟩)])
 refine aG.rowNew id hop hes hlen ⟨(bT hE).trans hg,hd,by rw[e2];exact hcs,hcl,(hH id (by simp)).trans hn,hdf⟩ (aG.ret ⟨rfl,?_,rfl,rfl⟩)
 funext i
 show upd H id _ i=over [id] H (upd σ.H id _) i
 by_cases e:i=id
 ·subst e;rw[aB,eC (by simp),aB]
 ·rw[aA _ _ e,cD (by simpa using e)]
theorem aOl {σ:St} {id:Nat} {x:Option HE} (hdf:σ.fx.dfs.contains id=false):∀ i ∈ σ.fx.dfs,upd σ.H id x i=σ.H i:=fun i hi=>by
 rw[aA]
 rintro rfl
 rw[show σ.fx.dfs.contains i=true by simpa using hi] at hdf;cases hdf
set_option maxHeartbeats 4000000
set_option maxRecDepth 100000
def tQ (pr:RowD→Bool) (l:List RowD):List RowD:=l.filter fun r=>!pr r
theorem aX4 (s:FoldS) (e:EntD) (hp:OpOk s.p.opens) (hf:s.p.fin=1048576) :
  FunG Tryz.prog 287 [.c (.own 0 0),kI e] rB (bK (oF s)) (xY [97,32,114,111,119,32,119,105,116,104,111,117,116,32,114,111,111,109]) rB (bK (oF s)):=by
 have c1:=rU s.p 1
 rw[show IntKind.i64.wrap (1048576 - 1)=1048575 from aT (by decide),show decide (s.p.fin≤1048575)=false from decide_eq_false (by omega)] at c1
 have c2:=oU [97,32,114,111,119,32,119,105,116,104,111,117,116,32,114,111,111,109]
 refine FunG.of_bodyH rfl rfl Tryz.func287 rfl rfl Tryz.ntmps287 Tryz.results287 (Nat.le_of_ble_eq_true rfl) (nC rfl rfl hp.pid hp.pid) ?_
 (refine gO (ai @aC (@EntD.dv.eq_1)) ?_)
 refine Wp.reg (fun K hK=>?_)
 (refine rO (ai @aC (@EntD.dv.eq_1)) ?_)
 refine jF c1 rfl (iF hp (by (refine rO (ai @aC (ai @aS.eq_1 (@aS.eq_2))) ?_;try with_reducible exact tt))) ?_
 (refine rO (@aC) ?_)
 refine hK _ ?_
 clear hK K
 (refine gO (ai @aC (@EntD.dv.eq_1)) ?_)
 refine aX.ret ?_
 (refine rO (ai @aC (ai @aS.eq_1 (@aS.eq_2))) ?_;try with_reducible exact tt)
def aNd (s:FoldS) (p:ProdD):FoldS:=⟨{ s.p with prods:=cM s.p.prods p },s.vr,s.vo,s.vt⟩
theorem aR8 (s:FoldS) (e:EntD) (hp:OpOk s.p.opens) (hl:s.p.opens.length≤1000) (ho:bX s.p.opens e.prod.pid=true) :
  FunG Tryz.prog 288 [.c (.own 0 0),kI e] rB (bK (oF s)) (xY [116,104,101,32,115,116,97,116,101,32,111,102,32,97,32,112,114,111,100,117,99,101,114,32,119,105,116,104,32,97,110,32,111,112,101,110,32,116,114,97,110,115,97,99,116,105,111,110]) rB (bK (oF s)):=by
 have c1:=sG s.p e.prod.pid (by omega)
 rw[ho] at c1
 have c2:=oU [116,104,101,32,115,116,97,116,101,32,111,102,32,97,32,112,114,111,100,117,99,101,114,32,119,105,116,104,32,97,110,32,111,112,101,110,32,116,114,97,110,115,97,99,116,105,111,110]
 refine FunG.of_bodyH rfl rfl Tryz.func288 rfl rfl Tryz.ntmps288 Tryz.results288 (Nat.le_of_ble_eq_true rfl) (nC rfl rfl hp.pid hp.pid) ?_
 (refine gO (ai @aC (@EntD.dv.eq_1)) ?_)
 refine Wp.reg (fun K hK=>?_)
 (refine rO (ai @aC (@EntD.dv.eq_1)) ?_)
 refine jF c1 rfl (iF hp (by (refine rO (ai @aC (ai @aS.eq_1 (@aS.eq_2))) ?_;try with_reducible exact tt))) ?_
 (refine rO (@aC) ?_)
 refine hK _ ?_
 clear hK K
 (refine gO (ai @aC (@EntD.dv.eq_1)) ?_)
 refine aX.ret ?_
 (refine rO (ai @aC (ai @aS.eq_1 (@aS.eq_2))) ?_;try with_reducible exact tt)
theorem aNc (s:FoldS) (e:EntD) (hp:OpOk s.p.opens) (hl:s.p.opens.length≤1000) (ho:bX s.p.opens e.prod.pid=false) (hs:SmallL s.p.prods) (he:e.prod.seen.length≤100000) :
  FunG Tryz.prog 288 [.c (.own 0 0),kI e] rB (bK (oF s)) lH rB (bK (oF (aNd s e.prod))):=by
 have c1:=sG s.p e.prod.pid (by omega)
 rw[ho] at c1
 have c2:=aHr s.p.prods e.prod hs he
 simp only[ProdD.dv] at c2
 refine FunG.of_bodyH rfl rfl Tryz.func288 rfl rfl Tryz.ntmps288 Tryz.results288 (Nat.le_of_ble_eq_true rfl) (nC rfl rfl hp.pid hp.pid) ?_
 (refine gO (ai @aC (@EntD.dv.eq_1)) ?_)
 refine Wp.reg (fun K hK=>?_)
 (refine rO (ai @aC (@EntD.dv.eq_1)) ?_)
 refine jF c1 rfl (iF hp (by (refine rO (ai @aC (ai @aS.eq_1 (@aS.eq_2))) ?_;try with_reducible exact tt))) ?_
 (refine rO (@aC) ?_)
 refine hK _ ?_
 clear hK K
 (refine gO (ai @aC (@EntD.dv.eq_1)) ?_)
 refine aX.ret ?_
 (refine rO (ai @aC (ai @aS.eq_1 (ai @aS.eq_2 (@aNd.eq_1)))) ?_;try with_reducible exact tt)
theorem aPl (s:FoldS) (e:EntD) (hp:OpOk s.p.opens) (hc:e.off<s.p.start∨s.p.fin<e.off) :
  FunG Tryz.prog 285 [.c (.own 0 0),kI e] rB (bK (oF s)) (xY [97,32,99,117,116]) rB (bK (oF s)):=by
 have c2:=oU [97,32,99,117,116]
 refine FunG.of_bodyH rfl rfl Tryz.func285 rfl rfl Tryz.ntmps285 Tryz.results285 (Nat.le_of_ble_eq_true rfl) (nC rfl rfl hp.pid hp.pid) ?_
 by_cases h1:e.off<s.p.start
 ·have d1:decide (e.off<s.p.start)=true:=decide_eq_true h1
  (refine gO (ai @aC (ai @EntD.dv.eq_1 (d1))) ?_)
  refine aX.ret ?_
  (refine rO (ai @aC (ai @aS.eq_1 (@aS.eq_2))) ?_;try with_reducible exact tt)
 ·have d1:decide (e.off<s.p.start)=false:=decide_eq_false h1
  have d2:decide (s.p.fin<e.off)=true:=decide_eq_true (by omega)
  (refine gO (ai @aC (ai @EntD.dv.eq_1 (ai d1 (d2)))) ?_)
  refine aX.ret ?_
  (refine rO (ai @aC (ai @aS.eq_1 (@aS.eq_2))) ?_;try with_reducible exact tt)
theorem aQw (ρ:Nat→Nat) (l:List RowD):(fR l).map (CV.ren ρ)=fR l:=by
 unfold fR
 rw[List.map_map]
 exact List.map_congr_left (fun _ _=>rfl)
theorem iK (ρ:Nat→Nat) (e v:Nat) (l:List RowD):HE.ren ρ (.mrow e 5 v (fR l)) = .mrow e 5 v (fR l):=by
 show HE.mrow e 5 v ((fR l).map (CV.ren ρ))=_
 rw[aQw]
def aB8 (o:Int) (r:RowD):Bool:=decide (r.off<o)
end Go.Proofs.YtpklhnpchhaccaaGreatDoor
