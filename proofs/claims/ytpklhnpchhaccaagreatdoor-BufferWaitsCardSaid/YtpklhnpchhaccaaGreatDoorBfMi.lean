/- The abstract machine (MpV, BfLe). -/
import Derived.Test.YtpklhnpchhaccaaGreatDoorRhMa
import Derived.Test.YtpklhnpchhaccaaGreatDoorBfMf
import Derived.Test.YtpklhnpchhaccaaGreatDoorRgN
import Derived.Test.YtpklhnpchhaccaaGreatDoorInMo
namespace Go.Proofs.YtpklhnpchhaccaaGreatDoor
open Go Go.RowKit
set_option linter.unusedVariables false
set_option linter.unusedSimpArgs false
theorem aD.rowCell {σ:St} {id k e sz n:Nat} {cs:List CV} {x y:CV} (hid:σ.H id=some (.mrow e sz n cs)) (hk:cs[k]? = some x) (hxy:∀ g v,bA g σ.H x v→bA g σ.H y v) :
  aD σ { σ with H:=upd σ.H id (some (.mrow e sz n (cs.set k y))) }:=by
 intro W0 K0 g a w r
 have hne0:cs≠[]:=fun q=>by subst q;simp at hk
 obtain⟨_,_,hcase⟩:=r.mem.holds id _ hid
 obtain⟨b,cur,vs,rest,hb,hheap,hcur,hcsz,hr,h1,hn⟩:=hcase.resolve_left (fun h=>hne0 h.2)
 have hr' : bJ g σ.H (cs.set k y) vs:=by
  refine⟨by simp[hr.1],fun j z v hz hv2=>?_⟩
  rw[List.getElem?_set] at hz
  split at hz
  ·rename_i e
   subst e
   split at hz
   ·cases hz
    exact hxy g v (hr.2 _ _ _ hk hv2)
   ·cases hz
  ·exact hr.2 j z v hz hv2
 obtain⟨h8,h9⟩:=RelH.mwr (cs':=cs.set k y) (cur':=cur) r.mem hid hb hheap (by simp) hcur rfl hr' h1
 rw[setRow_self w b cur e (0,0) hheap] at h8
 exact⟨g,h8,fun t=>(r.env t).mono h9,r.size,r.defers.mono h9 (fun i o hi=>by
  show upd σ.H id _ i=_
  rw[aA _ _ (fun e=>by subst e;rw[hid] at hi;cases hi)];exact hi),r.ln,r.rd,r.nodup,r.lt⟩
theorem aD.rowNilApp {σ:St} {id k τ e0 s0 n:Nat} {cs:List CV} (e sz:Nat) (hne:id≠τ) (hτ:σ.H τ=none) (hid:σ.H id=some (.mrow e0 s0 n cs)) (hk:cs[k]? = some (.d (.val (.slice none 0 0)))) :
  aD σ { σ with H:=upd (upd σ.H τ (some (.row e sz 0))) id (some (.mrow e0 s0 n (cs.set k (.app τ sz [])))) } :=
 (aD.tok (τ:=τ) e sz 0 hτ).trans (aD.rowCell (σ:={ σ with H:=upd σ.H τ (some (.row e sz 0)) }) (id:=id) ((aA _ _ hne).trans hid) hk (fun g v h=>aDe (e:=e) (n:=0) (xs:=[]) (aB _ _ _) (.inl ⟨rfl,rfl⟩) rfl v h))
set_option maxHeartbeats 16000000
set_option maxRecDepth 100000
theorem xC:∀ (l:List BatD) (n:Int) (b:BatD),eF n (l++[b])=eF n l++cB b (n+(cY l:Nat))
 | [],n,b=>by simp[eF,cY]
 | c::l,n,b=>by
  rw[List.cons_append]
  show cB c n++eF (n+(c.recs.length:Int)) (l++[b])=(cB c n++eF (n+(c.recs.length:Int)) l)++cB b (n+(cY (c::l):Nat))
  rw[xC l _ b,List.append_assoc]
  congr 3
  simp only[cY]
  omega
theorem sH:∀ (l:List BatD) (n:Int),(eF n l).length=cY l
 | [],_=>rfl
 | c::l,n=>by
  show (cB c n++eF _ l).length=_
  rw[List.length_append,iL,sH l];simp[cY]
def zK (p q:PartD) (bs:List BatD):Bool:=q.fin == p.fin+(cY bs:Nat) && decide (p.rows++eF p.fin bs=q.rows)
theorem aS5 (p q:PartD) (bs:List BatD) (hr:p.rows.length≤100000) (hf:0≤p.fin∧p.fin≤1048576) (hb:bs.length≤8) (hbr:∀ b ∈ bs,b.recs.length≤4):bF Tryz.prog 26 [.agg p.dv,.agg q.dv,.lst 5 (bs.map BatD.dv)] (gD (zK p q bs)):=by
 have hsum:∀ k,cY (bs.take k)≤32:=fun k=>by
  have h1:=qT (bs.take k) (fun b h=>hbr b (List.mem_of_mem_take h))
  rw[List.length_take] at h1
  omega
 (refine bF.of_body Tryz.func26 rfl rfl Tryz.ntmps26 Tryz.results26 (by simp) ?_)
 have hb0:p.rows.length*56≤140737488355328:=by omega
 (refine gO (ai @PartD.dv.eq_1 (ai hb0 (@List.length_map.{0,0}))) ?_)
 refine Wp.loop (fun k:Nat=>⟨iC [(2,.c (.d (.lst 5 (bs.map BatD.dv)))),(3,.c (.own 0 0)),(4,.c (.own 1 0)),(7,.c (.app 2 5 ((p.rows++eF p.fin (bs.take k)).map RowD.dv))),(8,vi .i64 (p.fin+(cY (bs.take k):Nat))),(9,vi .i64 k)],bK [(0,.cells (p.dv.map .d)),(1,.cells (q.dv.map .d)),(2,.row 47 5 (p.rows++eF p.fin (bs.take k)).length)],3,48,0⟩) (fun k=>k≤bs.length) (fun k=>bs.length - k) 0 (Nat.zero_le _) ?_ ?_
 ·have z:cY ([]:List BatD)=0:=rfl
  have z2:p.fin+0=p.fin:=by omega
  refine aD.keep rfl rfl ?_
  simp (maxSteps:=2000000) (disch:=omega) only[gE,TY,bV,eJ,fQ,SV.ofD,dS,eQ,fL,fM,bP,fN,eW,eT,fO,eN,fJ,fI,fK,CV.exact,CV.lstOf,CV.lenOf,CV.one,D.one,Value.oneCell',CV.toD0,fT,eB,fW,fG,rD0,gA,fF,fV,reduceCtorEq,reduceIte,Nat.reduceBEq,Nat.reduceEqDiff,Nat.reduceAdd,Nat.reduceMul,Nat.reduceSub,Nat.reduceLT,Nat.reduceLeDiff,Nat.reduceBNe,Int.reduceLE,Int.reduceLT,Int.reduceBEq,Int.reduceBNe,Int.reduceEq,Int.reduceNeg,Int.reduceAdd,Int.reduceSub,Int.reduceToNat,forall_const,PartD.dv,z,z2,eF,List.append_nil,List.map_nil,List.map_cons,List.length_map]
 intro k hkk
 by_cases hkl:k<bs.length
 ·have d1:decide ((k:Int)<(bs.length:Int))=true:=decide_eq_true (by omega)
  have hge:bs[k]? = some bs[k]:=List.getElem?_eq_getElem hkl
  have hwk:IntKind.i64.wrap ((k:Int)+1)=((k+1:Nat):Int):=by rw[aT (by omega)];rfl
  have hts:bs.take (k+1)=bs.take k++[bs[k]]:=List.take_succ_eq_append_getElem hkl
  have hsk:=hsum k
  have hsk1:=hsum (k+1)
  have hbk:=hbr _ (List.getElem_mem hkl)
  have hrl:=sH (bs.take k) p.fin
  rw[hts] at hsk1
  have hsa:cY (bs.take k++[bs[k]])=cY (bs.take k)+bs[k].recs.length:=by rw[yS];simp[cY]
  generalize bs[k]=b at *
  have hrs:=xC (bs.take k) p.fin b
  have c1:=aKj b (p.fin+(cY (bs.take k):Nat)) (by omega)
  simp only[BatD.dv] at c1
  have hfl:=iL b (p.fin+(cY (bs.take k):Nat))
  have hwf:IntKind.i64.wrap (p.fin+(cY (bs.take k):Nat)+(b.recs.length:Int))=p.fin+(cY (bs.take k++[b]):Nat):=by rw[aT (by omega),hsa];omega
  obtain⟨L,hL⟩:∃ L,L=p.rows++eF p.fin (bs.take k):=⟨_,rfl⟩
  have hLl:L.length≤100032:=by rw[hL,List.length_append];omega
  have hL1:p.rows++eF p.fin (bs.take (k+1))=L++cB b (p.fin+(cY (bs.take k):Nat)):=by rw[hts,hrs,hL,List.append_assoc]
  rw[← hL]
  generalize cB b (p.fin+(cY (bs.take k):Nat))=R at *
  have hbb:(L.length+R.length)*56≤140737488355328:=by omega
  (refine gO (ai d1 (ai hge (ai hbb (ai hwf (ai @BatD.dv.eq_1 (@List.length_map.{0,0})))))) ?_)
  refine⟨k+1,hkl,by omega,?_⟩
  rw[hL1,hts]
  refine aD.keep rfl rfl ?_
  (refine rO (ai hwk (ai @List.map_append.{0,0} (ai @List.length_append.{0} (@List.length_map.{0,0})))) ?_;try with_reducible exact tt)
 ·have hke:k=bs.length:=by omega
  subst hke
  have d1:decide ((bs.length:Int)<(bs.length:Int))=false:=by simp
  rw[List.take_length]
  have hrl:=sH bs p.fin
  have hsl:=hsum bs.length
  rw[List.take_length] at hsl
  have c2:=rD (p.rows++eF p.fin bs) q.rows (by rw[List.length_append];omega)
  (refine gO (d1) ?_)
  (first|refine Wp.sto 6 (vb (zK p q bs)) ?_ ?_|refine Wp.rtoS 6 (vb (zK p q bs)) ?_ ?_|(refine Wp.seq ?_;first|refine Wp.sto 6 (vb (zK p q bs)) ?_ ?_|refine Wp.rtoS 6 (vb (zK p q bs)) ?_ ?_))
  ·unfold zK;((rcases Bool.eq_false_or_eq_true (q.fin == p.fin+(cY bs:Nat)) with hL1|hL1)<;>(rcases Bool.eq_false_or_eq_true (decide (p.rows++eF p.fin bs=q.rows)) with hL2|hL2)<;>(((refine rO (ai hL1 (ai hL2 (ai @PartD.dv.eq_1 (ai @List.map_nil.{0,0} (@List.map_cons.{0,0}))))) ?_;try with_reducible exact tt);(repeat (refine eA (by assumption) ?_;(refine rO (ai hL1 (ai hL2 (ai @PartD.dv.eq_1 (ai @List.map_nil.{0,0} (@List.map_cons.{0,0}))))) ?_;try with_reducible exact tt))));all_goals (exact (show bI _ _=true by kernel_rfl))))
  (refine cA ?_)
  (refine aY ?_;try with_reducible exact tt)
end Go.Proofs.YtpklhnpchhaccaaGreatDoor
