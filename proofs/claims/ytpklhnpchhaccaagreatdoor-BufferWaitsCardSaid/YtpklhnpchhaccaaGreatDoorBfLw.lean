/- Layer 14's statements: BufferWaits. -/
import Derived.Test.YtpklhnpchhaccaaGreatDoorBfMg
import Derived.Test.YtpklhnpchhaccaaGreatDoorBfMi
import Derived.Test.YtpklhnpchhaccaaGreatDoorSqH0
import Derived.Test.YtpklhnpchhaccaaGreatDoorRgL
namespace Go.Proofs.YtpklhnpchhaccaaGreatDoor
open Go Go.RowKit
set_option maxHeartbeats 16000000
set_option maxRecDepth 100000
set_option linter.unusedVariables false
set_option linter.unusedSimpArgs false
theorem aJa:cZ Tryz.prog 65=some (64,2,32,[.int .i64 0,.slice none 0 0]):=by kernel_rfl
theorem AllLe2.app {xs ys xs' ys' : List (List D)} (h:AllLe2 xs ys) (h' : AllLe2 xs' ys'):AllLe2 (xs++xs') (ys++ys'):=by
 induction h with
 | nil=>exact h'
 | cons h t ih=>exact .cons h ih
theorem AllLe2.refl:∀ xs:List (List D),AllLe2 xs xs
 | []=>.nil
 | x::xs=>.cons (.refl x) (AllLe2.refl xs)
def iI (bs:List BatD) (k:Nat):List EntD:=if k<bs.length then vS (bs.take k) else vS (bs.take (k - 1))++(bs.drop (k - 1)).map (fun b=>iS b true)
theorem aY7 {bs:List BatD} (h:0<bs.length):iI bs 0=[]:=by unfold iI;rw[if_pos h];rfl
theorem aPh {bs:List BatD} {k:Nat} (h:k<bs.length):iI bs (k+1)=iI bs k++[iS bs[k] (decide (k+1=bs.length))]:=by
 unfold iI
 rw[if_pos h]
 by_cases h2:k+1<bs.length
 ·rw[if_pos h2,decide_eq_false (by omega)]
  unfold vS
  rw[List.take_succ_eq_append_getElem h,List.map_append];rfl
 ·rw[if_neg h2,decide_eq_true (by omega),Nat.add_sub_cancel,List.drop_eq_getElem_cons h,List.drop_eq_nil_of_le (by omega)];rfl
theorem aPg (bs:List BatD) (k:Nat):∀ e ∈ iI bs k,e.prod.seen=[]:=by
 intro e he
 unfold iI vS at he
 split at he
 ·obtain⟨b,_,rfl⟩:=List.mem_map.1 he;rfl
 ·rcases List.mem_append.1 he with he|he
  ·obtain⟨b,_,rfl⟩:=List.mem_map.1 he;rfl
  ·obtain⟨b,_,rfl⟩:=List.mem_map.1 he;rfl
theorem aLs (bs:List BatD) (hb:∀ b ∈ bs,b.recs.length≤100000) (k:Nat):∀ e ∈ iI bs k,SmallEn e:=by
 intro e he
 unfold iI vS at he
 split at he
 ·obtain⟨b,hm,rfl⟩:=List.mem_map.1 he;exact⟨by simp[iS],hb b (List.mem_of_mem_take hm),by simp[iS,dA]⟩
 ·rcases List.mem_append.1 he with he|he
  ·obtain⟨b,hm,rfl⟩:=List.mem_map.1 he;exact⟨by simp[iS],hb b (List.mem_of_mem_take hm),by simp[iS,dA]⟩
  ·obtain⟨b,hm,rfl⟩:=List.mem_map.1 he;exact⟨by simp[iS],hb b (List.mem_of_mem_drop hm),by simp[iS,dA]⟩
theorem aIu (bs:List BatD) (k:Nat):(iI bs k).length≤bs.length:=by
 unfold iI vS
 split
 ·rw[List.length_map,List.length_take];omega
 ·rw[List.length_append,List.length_map,List.length_map,List.length_take,List.length_drop];omega
abbrev sdZ (bs:List BatD):D:=.lst 2 [[int (pF bs),.lst 18 ((bs.map dZ).map EntD.dvz)]]
theorem aU3 (bs:List BatD):qY (sdZ bs) (gX [dD bs]) :=
 qY.lst (.cons (.cons (.refl _) (.cons (qY.lst (aGy (bs.map dZ) (fun e he=>by obtain⟨b,_,rfl⟩:=List.mem_map.1 he;rfl))) .nil)) .nil)
theorem aA7 (l:List EntD) (bs:List BatD) (hk:∀ e ∈ l,-128≤e.kind∧e.kind≤127):bF Tryz.prog 6 [.lst 18 (l.map EntD.dv),.lst 5 (bs.map BatD.dv)] (gD true):=by
 have cw:=aA4
 have c0:=(zP l []).args (xs:=[.lst 18 (l.map EntD.dv),qL]) (.cons (.refl _) (.cons (.nil 2) .nil))
 (refine bF.of_body Tryz.func6 rfl rfl Tryz.ntmps6 Tryz.results6 (by simp) ?_)
 (refine Wp.sreg (fun K hK=>?_);(refine aY ?_);refine hK _ ?_;clear hK K)
 cases hg:kX l [] with
 | true =>
  rw[hg] at c0
  (first|refine Wp.sto 35 (vb true) ?_ ?_|refine Wp.rtoS 35 (vb true) ?_ ?_|(refine Wp.seq ?_;first|refine Wp.sto 35 (vb true) ?_ ?_|refine Wp.rtoS 35 (vb true) ?_ ?_))
  ·((refine aY ?_);(repeat (refine eA (by assumption) ?_;(refine aY ?_;try with_reducible exact tt))))
   all_goals (exact (show bI _ _=true by kernel_rfl))
  (refine cA ?_)
  (refine aY ?_;try with_reducible exact tt)
 | false =>
 rw[hg] at c0
 obtain⟨hl,hs,_,_⟩:=aBo hg
 have hsm:∀ e ∈ l,SmallEn e:=fun e he=>⟨hk e he,by have:=(hs e he).1;omega,by have:=(hs e he).2;omega⟩
 by_cases h0:bs.length=0
 ·have d0:((bs.length:Int) == 0)=true:=by rw[h0];rfl
  (first|refine Wp.sto 35 (vb true) ?_ ?_|refine Wp.rtoS 35 (vb true) ?_ ?_|(refine Wp.seq ?_;first|refine Wp.sto 35 (vb true) ?_ ?_|refine Wp.rtoS 35 (vb true) ?_ ?_))
  ·((refine rO (d0) ?_);(repeat (refine eA (by assumption) ?_;(refine rO (d0) ?_;try with_reducible exact tt))))
   all_goals (exact (show bI _ _=true by kernel_rfl))
  (refine cA ?_)
  (refine aY ?_;try with_reducible exact tt)
 have d0:((bs.length:Int) == 0)=false:=by rw[beq_eq_false_iff_ne];omega
 by_cases h8:8<bs.length
 ·have d8:decide ((8:Int)<(bs.length:Int))=true:=decide_eq_true (by omega)
  (first|refine Wp.sto 35 (vb true) ?_ ?_|refine Wp.rtoS 35 (vb true) ?_ ?_|(refine Wp.seq ?_;first|refine Wp.sto 35 (vb true) ?_ ?_|refine Wp.rtoS 35 (vb true) ?_ ?_))
  ·((refine rO (ai d0 (d8)) ?_);(repeat (refine eA (by assumption) ?_;(refine rO (ai d0 (d8)) ?_;try with_reducible exact tt))))
   all_goals (exact (show bI _ _=true by kernel_rfl))
  (refine cA ?_)
  (refine aY ?_;try with_reducible exact tt)
 have d8:decide ((8:Int)<(bs.length:Int))=false:=decide_eq_false (by omega)
 obtain⟨b0,hb0,hp0⟩:∃ b0,bs[0]? = some b0∧pF bs=b0.pid:=by
  cases bs with
  | nil=>simp at h0
  | cons b r=>exact⟨b,rfl,rfl⟩
 have cW:=aCt l (pF bs) (by omega)
 rw[hp0] at cW
 by_cases hw:nJ l (pF bs)=[]
 rotate_left
 ·have dw:decide ((0:Int)<((nJ l b0.pid).length:Int))=true:=by
   rw[← hp0]
   refine decide_eq_true ?_
   have:=List.length_pos_iff.2 hw
   omega
  (first|refine Wp.sto 35 (vb true) ?_ ?_|refine Wp.rtoS 35 (vb true) ?_ ?_|(refine Wp.seq ?_;first|refine Wp.sto 35 (vb true) ?_ ?_|refine Wp.rtoS 35 (vb true) ?_ ?_))
  ·((refine rO (ai d0 (ai d8 (ai hb0 (ai dw (ai @BatD.dv.eq_1 (@List.length_map.{0,0})))))) ?_);(repeat (refine eA (by assumption) ?_;(refine rO (ai d0 (ai d8 (ai hb0 (ai dw (ai @BatD.dv.eq_1 (@List.length_map.{0,0})))))) ?_;try with_reducible exact tt))))
   all_goals (exact (show bI _ _=true by kernel_rfl))
  (refine cA ?_)
  (refine aY ?_;try with_reducible exact tt)
 have dw:nJ l b0.pid=[]:=by rw[← hp0];exact hw
 rw[dw,List.map_nil] at cW
 (first|refine Wp.sto 35 (vb false) ?_ ?_|refine Wp.rtoS 35 (vb false) ?_ ?_|(refine Wp.seq ?_;first|refine Wp.sto 35 (vb false) ?_ ?_|refine Wp.rtoS 35 (vb false) ?_ ?_))
 ·((refine rO (ai d0 (ai d8 (ai hb0 (@BatD.dv.eq_1)))) ?_);(repeat (refine eA (by assumption) ?_;(refine rO (ai d0 (ai d8 (ai hb0 (@BatD.dv.eq_1)))) ?_;try with_reducible exact tt))))
  all_goals (exact (show bI _ _=true by kernel_rfl))
 (first|refine Wp.condF (by (refine aY ?_;try with_reducible exact tt)) ?_|(refine Wp.seq ?_;refine Wp.condF (by (refine aY ?_)) ?_))
 refine Wp.skip ?_
 show Wp Tryz.prog _ _ _
 (first|refine Wp.sregG ?_|refine Wp.regG ?_|(refine Wp.seq ?_;first|refine Wp.sregG ?_|refine Wp.regG ?_))
 (refine aG.at 5 (fun K hK=>?_);(refine rO (ai @aC (ai hb0 (@BatD.dv.eq_1))) ?_);refine hK _ ?_;clear hK K)
 refine aG.rowNew (id:=50) (cs:=[.d (int b0.pid),.d (.val (.slice none 0 0))]) rfl aJa ⟨by decide,by decide,by decide,rfl,rfl⟩ ⟨by (refine aY ?_;try with_reducible exact tt),by (refine aY ?_;try with_reducible exact tt),by (refine aY ?_;try with_reducible exact tt),rfl,by (refine aY ?_;try with_reducible exact tt),rfl⟩ ?_
 (refine aG.done (fun K hK=>?_);(refine rO (@aC) ?_);refine hK _ ?_;clear hK K)
 (refine cA ?_)
 refine Wp.weak (aD.rowNilApp (id:=50) (k:=1) (τ:=60) (e0:=64) (s0:=2) (n:=1) (cs:=[.d (int b0.pid),.d (.val (.slice none 0 0))]) 71 18 (by decide) (by (refine aY ?_;try with_reducible exact tt)) (by (refine aY ?_;try with_reducible exact tt)) rfl) ?_
 refine Wp.loop (fun k:Nat=>⟨iC [(0,.c (.d (.lst 18 (l.map EntD.dv)))),(1,.c (.d (.lst 5 (bs.map BatD.dv)))),(5,.c (.mt 50 1)),(6,vi .i64 k)],bK [(50,.mrow 64 2 1 [.d (int b0.pid),.app 60 18 (((bs.take k).map dZ).map EntD.dvz)]),(60,.row 71 18 (bs.take k).length)],70,147,0⟩) (fun k=>k≤bs.length∧∀ b ∈ bs.take k,g06 b=false) (fun k=>bs.length - k) 0 ⟨Nat.zero_le _,fun b hb=>by rw[List.take_zero] at hb;cases hb⟩ ?_ ?_
 ·refine aD.keep rfl rfl ?_
  (refine rO (ai @List.take_zero.{0} (ai @List.map_nil.{0,0} (@List.length_nil.{0}))) ?_)
  rfl
 rintro k ⟨hkk,hg6⟩
 by_cases hkl:k<bs.length
 ·have d1:decide ((k:Int)<(bs.length:Int))=true:=decide_eq_true (by omega)
  have hge:bs[k]? = some bs[k]:=List.getElem?_eq_getElem hkl
  have hwk:IntKind.i64.wrap ((k:Int)+1)=((k+1:Nat):Int):=by rw[aT (by omega)];rfl
  have hts:bs.take (k+1)=bs.take k++[bs[k]]:=List.take_succ_eq_append_getElem hkl
  have htl:(bs.take k).length=k:=by rw[List.length_take];omega
  generalize bs[k]=b at *
  have c6:=aJm b
  simp only[BatD.dv] at c6
  cases hgb:g06 b with
  | true =>
   rw[hgb] at c6
   (refine gO (ai d1 (ai hge (@BatD.dv.eq_1))) ?_)
   (refine aY ?_;try with_reducible exact tt)
  | false =>
  rw[hgb] at c6
  generalize bs.take k=W at *
  have hbb:(W.length+1)*192≤140737488355328:=by omega
  (refine gO (ai d1 (ai hge (ai hbb (ai hwk (ai @BatD.dv.eq_1 (@List.length_map.{0,0})))))) ?_)
  refine⟨k+1,⟨hkl,fun x hx=>?_⟩,by omega,?_⟩
  ·rw[hts] at hx
   rcases List.mem_append.1 hx with hx|hx
   ·exact hg6 x hx
   ·simp at hx;subst hx;exact hgb
  rw[hts]
  refine aD.keep rfl rfl ?_
  simp (maxSteps:=2000000) (disch:=omega) only[gE,TY,bV,eJ,fQ,SV.ofD,dS,eQ,fL,fM,bP,fN,eW,eT,fO,eN,fJ,fI,fK,CV.exact,CV.lstOf,CV.lenOf,CV.one,D.one,Value.oneCell',CV.toD0,fT,eB,fW,fG,rD0,gA,fF,fV,reduceCtorEq,reduceIte,Nat.reduceBEq,Nat.reduceEqDiff,Nat.reduceAdd,Nat.reduceMul,Nat.reduceSub,Nat.reduceLT,Nat.reduceLeDiff,Nat.reduceBNe,Int.reduceLE,Int.reduceLT,Int.reduceBEq,Int.reduceBNe,Int.reduceEq,Int.reduceNeg,Int.reduceAdd,Int.reduceSub,Int.reduceToNat,forall_const,dZ,EntD.dvz,lJ,dA,List.map_append,List.map_cons,List.map_nil,List.length_append,List.length_cons,List.length_nil]
 have hke:k=bs.length:=by omega
 subst hke
 rw[List.take_length] at hg6
 have d1:decide ((bs.length:Int)<(bs.length:Int))=false:=by simp
 rw[List.take_length]
 have hbr:∀ b ∈ bs,b.recs.length≤60:=fun b hb=>by
  have:=hg6 b hb
  unfold g06 at this
  simp only[Bool.or_eq_false_iff,decide_eq_false_iff_not] at this
  omega
 have hz:sdZ bs = .lst 2 [[int b0.pid,.lst 18 ((bs.map dZ).map EntD.dvz)]]:=by rw[sdZ,hp0]
 have hse:∀ x ∈ [dD bs],∀ y ∈ x.l,SmallEn y:=fun x hx y hy=>by
  simp only[List.mem_singleton] at hx
  subst hx
  obtain⟨b,hb,rfl⟩:=List.mem_map.1 hy
  exact⟨by simp[dZ],by have:=hbr b hb;show b.recs.length≤_;omega,by simp[dZ,dA]⟩
 have c1:=(hP l [dD bs] (by omega) hsm (by simp) hse).args (xs:=[.lst 18 (l.map EntD.dv),.lst 2 [[int b0.pid,.lst 18 ((bs.map dZ).map EntD.dvz)]]]) (.cons (.refl _) (.cons (by rw[← hz];exact aU3 bs) .nil))
 have h14:=wV l [dD bs]
 (refine gO (d1) ?_)
 refine Wp.weak (aD.rowCell (id:=50) (k:=1) (e:=64) (sz:=2) (n:=1) (cs:=[.d (int b0.pid),.app 60 18 ((bs.map dZ).map EntD.dvz)]) (x:=.app 60 18 ((bs.map dZ).map EntD.dvz)) (y:=.d (.lst 18 ((bs.map dZ).map EntD.dvz))) (by (refine aY ?_;try with_reducible exact tt)) rfl (fun g v h=>h.1)) ?_
 refine Wp.weak (aD.pubSlot (t:=5) (τ:=50) (e:=64) (sz:=2) (n:=1) (cs:=[.d (int b0.pid),.d (.lst 18 ((bs.map dZ).map EntD.dvz))]) (ds:=[int b0.pid,.lst 18 ((bs.map dZ).map EntD.dvz)]) (by (refine aY ?_);rfl) rfl (by (refine aY ?_;try with_reducible exact tt)) rfl) ?_
 refine Wp.weak (show aD _ (⟨iC [(0,.c (.d (.lst 18 (l.map EntD.dv)))),(1,.c (.d (.lst 5 (bs.map BatD.dv)))),(5,.c (.d (.lst 2 [[int b0.pid,.lst 18 ((bs.map dZ).map EntD.dvz)]])))],bK [],70,147,0⟩:St) from aD.keep rfl rfl ?_) ?_
 ·(refine aY ?_;try with_reducible exact tt)
 cases hfo:iT l [dD bs] with
 | none =>
  rw[hfo] at h14
  have he:e14 l [dD bs]=70:=(congrArg Prod.snd h14).symm
  rw[he] at c1
  generalize a14 l [dD bs]=p at *
  simp only[PartD.dv] at c1
  (refine cA ?_)
  (refine aY ?_;try with_reducible exact tt)
 | some t =>
 obtain⟨s0,hWI⟩:=aUu hfo hw
 rw[hfo] at h14
 have he:e14 l [dD bs]=0:=(congrArg Prod.snd h14).symm
 have ha:a14 l [dD bs]=t.p:=(congrArg Prod.fst h14).symm
 rw[he,ha] at c1
 obtain⟨_,_,_,_,_,hM,hB,hrl,_⟩:=aF1 hfo hl (by simp)
 have hopens:=hWI.opens
 have hol:((t.p.opens.length:Int) != 1)=false:=by rw[hopens];rfl
 have hsee:=fun i (hi:i<bs.length)=>aLu hWI hi
 have hlast:=fun n (hn:bs.length=n+1)=>aIx hWI hl hn
 have hfin:=hM.fin
 have hbr4:∀ b ∈ bs,b.recs.length≤4:=fun b hb=>(lC (hWI.bats b hb).1).2
 have c5:=aHq t.p t.p (by omega) ⟨by have:=hM.opens;omega,fun o ho=>by have:=hM.bats o ho;omega,fun o ho b hb=>by have:=hM.recs o ho b hb;omega⟩ (hM.small (by omega))
 rw[show decide (t.p=t.p)=true by simp] at c5
 clear hWI hM hB h14 he ha hfo hopens
 generalize t.p=p at *
 have hbl:l.length*192≤140737488355328:=by omega
 simp only[PartD.dv] at c1 c5
 (refine gO (ai hol (ai hbl (ai @PartD.dv.eq_1 (@List.length_map.{0,0})))) ?_)
 refine Wp.loop (fun k:Nat=>⟨iC [(1,.c (.d (.lst 5 (bs.map BatD.dv)))),(5,if k<bs.length then .c (.d (.lst 2 [[int b0.pid,.lst 18 ((bs.map dZ).map EntD.dvz)]])) else .c iJ),(7,.c (.own 70 0)),(9,.c (.app 71 18 (l.map EntD.dv++(iI bs k).map EntD.dvz))),(10,vi .i64 k)],bK [(70,.cells (p.dv.map .d)),(71,.row 71 18 (l.length+(iI bs k).length))],80,147,0⟩) (fun k=>k≤bs.length) (fun k=>bs.length - k) 0 (Nat.zero_le _) ?_ ?_
 ·have z1:=aY7 (bs:=bs) (by omega)
  have z2:(0<bs.length)=True:=by simp;omega
  refine aD.keep rfl (by split<;>rfl) ?_
  (refine rO (ai z1 (ai z2 (ai @PartD.dv.eq_1 (ai @if_true.{1} (ai @List.append_nil.{0} (ai @List.length_nil.{0} (ai @List.map_nil.{0,0} (@List.map_cons.{0,0})))))))) ?_;try with_reducible exact tt)
 intro k hkk
 by_cases hkl:k<bs.length
 rotate_left
 ·have hke:k=bs.length:=by omega
  subst hke
  have d1:decide ((bs.length:Int)<(bs.length:Int))=false:=by simp
  (refine gO (d1) ?_)
  (refine aY ?_;try with_reducible exact tt)
 have d1:decide ((k:Int)<(bs.length:Int))=true:=decide_eq_true (by omega)
 have hge:bs[k]? = some bs[k]:=List.getElem?_eq_getElem hkl
 have hwk:IntKind.i64.wrap ((k:Int)+1)=((k+1:Nat):Int):=by rw[aT (by omega)];rfl
 have hwn:IntKind.i64.wrap ((bs.length:Int) - 1)=(bs.length:Int) - 1:=aT (by omega)
 have hcs:=aPh hkl
 have hcl:=aIu bs k
 have hcl1:=aIu bs (k+1)
 have hsm1:∀ e ∈ l++iI bs (k+1),SmallEn e:=fun e he=>by
  rcases List.mem_append.1 he with he|he
  ·exact hsm e he
  ·exact aLs bs (fun b hb=>by have:=hbr b hb;omega) (k+1) e he
 have hle1:AllLe2 (l.map EntD.dv++(iI bs (k+1)).map EntD.dvz) ((l++iI bs (k+1)).map EntD.dv):=by
  rw[List.map_append];exact (AllLe2.refl _).app (aGy _ (aPg bs (k+1)))
 have hle2:(l++iI bs (k+1)).length≤900:=by rw[List.length_append];omega
 rw[if_pos hkl]
 have hbb:(l.length+(iI bs k).length+1)*192≤140737488355328:=by omega
 by_cases hk1:k+1=bs.length
 ·have dl:((k:Int) == (bs.length:Int) - 1)=true:=by rw[beq_iff_eq];omega
  obtain⟨u,hu1,hu2,hu3,hu4⟩:=hlast k hk1.symm
  have hcM:l++iI bs (k+1)=(l++vS (bs.take k))++[iS bs[k] true]:=by
   rw[hcs,decide_eq_true hk1,← List.append_assoc]
   congr 2
   unfold iI;rw[if_pos hkl]
  rw[decide_eq_true hk1] at hcs
  have h14:=wV (l++iI bs (k+1)) []
  rw[hcM] at h14
  rw[hu1] at h14
  rw[← hcM] at h14
  have he:e14 (l++iI bs (k+1)) []=0:=(congrArg Prod.snd h14).symm
  have ha:a14 (l++iI bs (k+1)) []=u.p:=(congrArg Prod.fst h14).symm
  have c3:=(hP (l++iI bs (k+1)) [] hle2 hsm1 (by decide) (fun x hx=>by cases hx)).args (xs:=[.lst 18 (l.map EntD.dv++(iI bs (k+1)).map EntD.dvz),qL]) (.cons (qY.lst hle1) (.cons (.nil 2) .nil))
  rw[he,ha] at c3
  have c6:=aS5 p u.p bs (by omega) hfin (by omega) hbr4
  have hen:zK p u.p bs=true:=by unfold zK;rw[hu3,hu4];simp
  rw[hen] at c6
  have hol2:((u.p.opens.length:Int) != 0)=false:=by rw[hu2];rfl
  generalize u.p=q at *
  generalize bs[k]=b at *
  have c7:=aN1 b
  simp only[BatD.dv] at c7
  generalize iI bs k=C at *
  rw[hcs] at c3
  simp only[PartD.dv] at c3 c6
  (refine gO (ai d1 (ai hge (ai hwn (ai dl (ai hbb (ai @BatD.dv.eq_1 (ai @List.length_map.{0,0} (@List.length_append.{0})))))))) ?_)
  refine Wp.weak (show aD _ (⟨iC [(1,.c (.d (.lst 5 (bs.map BatD.dv)))),(5,.c iJ),(7,.c (.own 70 0)),(9,.c (.app 71 18 (l.map EntD.dv++(C++[iS b true]).map EntD.dvz))),(10,vi .i64 k),(11,.c (.own 80 0))],bK [(70,.cells (p.dv.map .d)),(71,.row 71 18 (l.length+(C++[iS b true]).length)),(80,.cells ((iS b true).dvz.map .d))],90,147,0⟩:St) from aD.keep rfl rfl ?_) ?_
  ·have hra:l.length+C.length+1=l.length+(C.length+1):=Nat.add_assoc ..
   simp (maxSteps:=2000000) (disch:=omega) only[gE,TY,bV,eJ,fQ,SV.ofD,dS,eQ,fL,fM,bP,fN,eW,eT,fO,eN,fJ,fI,fK,CV.exact,CV.lstOf,CV.lenOf,CV.one,D.one,Value.oneCell',CV.toD0,fT,eB,fW,fG,rD0,gA,fF,fV,reduceCtorEq,reduceIte,Nat.reduceBEq,Nat.reduceEqDiff,Nat.reduceAdd,Nat.reduceMul,Nat.reduceSub,Nat.reduceLT,Nat.reduceLeDiff,Nat.reduceBNe,Int.reduceLE,Int.reduceLT,Int.reduceBEq,Int.reduceBNe,Int.reduceEq,Int.reduceNeg,Int.reduceAdd,Int.reduceSub,Int.reduceToNat,forall_const,hra,iS,EntD.dvz,lJ,dA,PartD.dv,if_true,List.map_append,List.map_cons,List.map_nil,List.length_append,List.length_cons,List.length_nil,List.append_assoc]
  (repeat (first|apply Wp.skip|apply Wp.exit|apply Wp.ret|apply Wp.block|apply Wp.label|((first|refine Wp.sreg (fun K hK=>?_)|refine Wp.reg (fun K hK=>?_)|refine Wp.sdrw aI (fun K hK=>?_)|refine Wp.drw aI (fun K hK=>?_)|refine Wp.condG (fun K hK hF=>?_));(repeat (revert hK;intro hK;simp (maxSteps:=2000000) (disch:=omega) only[gE,TY,bV,eJ,fQ,SV.ofD,dS,eQ,fL,fM,bP,fN,eW,eT,fO,eN,fJ,fI,fK,CV.exact,CV.lstOf,CV.lenOf,CV.one,D.one,Value.oneCell',CV.toD0,fT,eB,fW,fG,rD0,gA,fF,fV,reduceCtorEq,reduceIte,Nat.reduceBEq,Nat.reduceEqDiff,Nat.reduceAdd,Nat.reduceMul,Nat.reduceSub,Nat.reduceLT,Nat.reduceLeDiff,Nat.reduceBNe,Int.reduceLE,Int.reduceLT,Int.reduceBEq,Int.reduceBNe,Int.reduceEq,Int.reduceNeg,Int.reduceAdd,Int.reduceSub,Int.reduceToNat,forall_const,hol2,hwk,PartD.dv,EntD.dvz,iS,List.map_cons,List.map_nil];(first|(refine hK _ ?_;clear hK K)|(refine⟨by kernel_rfl,hK _ ?_⟩;clear hK K)|(refine hK ?_;clear hK hF K)|(refine hF ?_;clear hK hF K)|refine eA (by assumption) ?_|refine bca (by assumption) ?_)));fail_if_success (revert hK;intro hK))|apply Wp.seq))
  refine⟨k+1,hkl,by omega,?_⟩
  rw[hcs,if_neg (by omega)]
  refine aD.keep rfl rfl ?_
  simp (maxSteps:=2000000) (disch:=omega) only[gE,TY,bV,eJ,fQ,SV.ofD,dS,eQ,fL,fM,bP,fN,eW,eT,fO,eN,fJ,fI,fK,CV.exact,CV.lstOf,CV.lenOf,CV.one,D.one,Value.oneCell',CV.toD0,fT,eB,fW,fG,rD0,gA,fF,fV,reduceCtorEq,reduceIte,Nat.reduceBEq,Nat.reduceEqDiff,Nat.reduceAdd,Nat.reduceMul,Nat.reduceSub,Nat.reduceLT,Nat.reduceLeDiff,Nat.reduceBNe,Int.reduceLE,Int.reduceLT,Int.reduceBEq,Int.reduceBNe,Int.reduceEq,Int.reduceNeg,Int.reduceAdd,Int.reduceSub,Int.reduceToNat,forall_const,PartD.dv,iS,List.map_cons,List.map_nil]
 ·have dl:((k:Int) == (bs.length:Int) - 1)=false:=by rw[beq_eq_false_iff_ne];omega
  obtain⟨u,hu1,hu2⟩:=hsee (k+1) (by omega)
  have hcM:iI bs (k+1)=vS (bs.take (k+1)):=by unfold iI;rw[if_pos (by omega)]
  rw[decide_eq_false hk1] at hcs
  have h14:=wV (l++iI bs (k+1)) [dD bs]
  rw[hcM,hu1,← hcM] at h14
  have he:e14 (l++iI bs (k+1)) [dD bs]=0:=(congrArg Prod.snd h14).symm
  have ha:a14 (l++iI bs (k+1)) [dD bs]=p:=((congrArg Prod.fst h14).symm).trans hu2
  have c3:=(hP (l++iI bs (k+1)) [dD bs] hle2 hsm1 (by simp) hse).args (xs:=[.lst 18 (l.map EntD.dv++(iI bs (k+1)).map EntD.dvz),.lst 2 [[int b0.pid,.lst 18 ((bs.map dZ).map EntD.dvz)]]]) (.cons (qY.lst hle1) (.cons (by rw[← hz];exact aU3 bs) .nil))
  rw[he,ha] at c3
  generalize bs[k]=b at *
  generalize iI bs k=C at *
  rw[hcs] at c3
  simp only[PartD.dv] at c3
  (refine gO (ai d1 (ai hge (ai hwn (ai dl (ai hbb (ai @BatD.dv.eq_1 (ai @List.length_map.{0,0} (@List.length_append.{0})))))))) ?_)
  refine Wp.weak (show aD _ (⟨iC [(1,.c (.d (.lst 5 (bs.map BatD.dv)))),(5,.c (.d (.lst 2 [[int b0.pid,.lst 18 ((bs.map dZ).map EntD.dvz)]]))),(7,.c (.own 70 0)),(9,.c (.app 71 18 (l.map EntD.dv++(C++[iS b false]).map EntD.dvz))),(10,vi .i64 k),(11,.c (.own 80 0))],bK [(70,.cells (p.dv.map .d)),(71,.row 71 18 (l.length+(C++[iS b false]).length)),(80,.cells ((iS b false).dvz.map .d))],90,147,0⟩:St) from aD.keep rfl rfl ?_) ?_
  ·have hra:l.length+C.length+1=l.length+(C.length+1):=Nat.add_assoc ..
   simp (maxSteps:=2000000) (disch:=omega) only[gE,TY,bV,eJ,fQ,SV.ofD,dS,eQ,fL,fM,bP,fN,eW,eT,fO,eN,fJ,fI,fK,CV.exact,CV.lstOf,CV.lenOf,CV.one,D.one,Value.oneCell',CV.toD0,fT,eB,fW,fG,rD0,gA,fF,fV,reduceCtorEq,reduceIte,Nat.reduceBEq,Nat.reduceEqDiff,Nat.reduceAdd,Nat.reduceMul,Nat.reduceSub,Nat.reduceLT,Nat.reduceLeDiff,Nat.reduceBNe,Int.reduceLE,Int.reduceLT,Int.reduceBEq,Int.reduceBNe,Int.reduceEq,Int.reduceNeg,Int.reduceAdd,Int.reduceSub,Int.reduceToNat,forall_const,hra,iS,EntD.dvz,lJ,dA,PartD.dv,Bool.false_eq_true,if_false,List.map_append,List.map_cons,List.map_nil,List.length_append,List.length_cons,List.length_nil,List.append_assoc]
  (repeat (first|apply Wp.skip|apply Wp.exit|apply Wp.ret|apply Wp.block|apply Wp.label|((first|refine Wp.sreg (fun K hK=>?_)|refine Wp.reg (fun K hK=>?_)|refine Wp.sdrw aI (fun K hK=>?_)|refine Wp.drw aI (fun K hK=>?_)|refine Wp.condG (fun K hK hF=>?_));(repeat (revert hK;intro hK;simp (maxSteps:=2000000) (disch:=omega) only[gE,TY,bV,eJ,fQ,SV.ofD,dS,eQ,fL,fM,bP,fN,eW,eT,fO,eN,fJ,fI,fK,CV.exact,CV.lstOf,CV.lenOf,CV.one,D.one,Value.oneCell',CV.toD0,fT,eB,fW,fG,rD0,gA,fF,fV,reduceCtorEq,reduceIte,Nat.reduceBEq,Nat.reduceEqDiff,Nat.reduceAdd,Nat.reduceMul,Nat.reduceSub,Nat.reduceLT,Nat.reduceLeDiff,Nat.reduceBNe,Int.reduceLE,Int.reduceLT,Int.reduceBEq,Int.reduceBNe,Int.reduceEq,Int.reduceNeg,Int.reduceAdd,Int.reduceSub,Int.reduceToNat,forall_const,hwk,PartD.dv,EntD.dvz,iS,List.map_cons,List.map_nil];(first|(refine hK _ ?_;clear hK K)|(refine⟨by kernel_rfl,hK _ ?_⟩;clear hK K)|(refine hK ?_;clear hK hF K)|(refine hF ?_;clear hK hF K)|refine eA (by assumption) ?_|refine bca (by assumption) ?_)));fail_if_success (revert hK;intro hK))|apply Wp.seq))
  refine⟨k+1,hkl,by omega,?_⟩
  rw[hcs,if_pos (by omega)]
  refine aD.keep rfl rfl ?_
  simp (maxSteps:=2000000) (disch:=omega) only[gE,TY,bV,eJ,fQ,SV.ofD,dS,eQ,fL,fM,bP,fN,eW,eT,fO,eN,fJ,fI,fK,CV.exact,CV.lstOf,CV.lenOf,CV.one,D.one,Value.oneCell',CV.toD0,fT,eB,fW,fG,rD0,gA,fF,fV,reduceCtorEq,reduceIte,Nat.reduceBEq,Nat.reduceEqDiff,Nat.reduceAdd,Nat.reduceMul,Nat.reduceSub,Nat.reduceLT,Nat.reduceLeDiff,Nat.reduceBNe,Int.reduceLE,Int.reduceLT,Int.reduceBEq,Int.reduceBNe,Int.reduceEq,Int.reduceNeg,Int.reduceAdd,Int.reduceSub,Int.reduceToNat,forall_const,PartD.dv,iS,List.map_cons,List.map_nil]
end Go.Proofs.YtpklhnpchhaccaaGreatDoor
