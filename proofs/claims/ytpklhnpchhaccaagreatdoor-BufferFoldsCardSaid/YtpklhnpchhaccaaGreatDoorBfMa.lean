/- The abstract machine (BfB, BfC). -/
import Derived.Test.YtpklhnpchhaccaaGreatDoorBfA
import Derived.Test.YtpklhnpchhaccaaGreatDoorMpX
import Derived.Test.YtpklhnpchhaccaaGreatDoorRhMb
namespace Go.Proofs.YtpklhnpchhaccaaGreatDoor
open Go Go.RowKit
set_option maxHeartbeats 8000000
set_option maxRecDepth 100000
set_option linter.unusedVariables false
set_option linter.unusedSimpArgs false
structure BufS where
 p:PartD
 w:eE
 vr:Nat
 vt:Nat→Nat
 vc:Nat→Nat
def qR (vt:Nat→Nat) (w:eE):List CV:=w.map fun x=>.apt (30+x.1.toNat) 5 (x.2.map BatD.dv) (vt x.1.toNat)
def pG (w:eE):List Int:=w.map (·.1)
abbrev gD:List Nat:=[0,8,9,10,31,32,33,34,35,36,37,38]
abbrev iO (s : BufS) : List (Nat × HE) :=
  [(0, .cells [.d (int s.p.start), .d (int s.p.fin), .apt 9 5 (s.p.rows.map RowD.dv) s.vr, .app 10 3 (s.p.opens.map OpenD.dv), .d (.lst 4 (s.p.prods.map ProdD.dv)), .mp 8]),
   (8, .imap (pG s.w) (qR s.vc s.w)), (9, .rot 47 5 s.vr), (10, .row 95 3 s.p.opens.length),
   (31, .rot 62 5 (s.vt 1)), (32, .rot 62 5 (s.vt 2)), (33, .rot 62 5 (s.vt 3)), (34, .rot 62 5 (s.vt 4)),
   (35, .rot 62 5 (s.vt 5)), (36, .rot 62 5 (s.vt 6)), (37, .rot 62 5 (s.vt 7)), (38, .rot 62 5 (s.vt 8))]
def iN (w:eE):Prop:=∀ x ∈ w,1≤x.1∧x.1≤8
theorem rF (ks:List Int) (cs:List CV):HE.ids (.imap ks cs)=cs.flatMap CV.ids:=rfl
theorem sJ (vt:Nat→Nat):∀ (w:eE),iN w→(((qR vt w).flatMap CV.ids).all fun i=>gD.contains i)=true
 | [],_=>rfl
 | x::w,h=>by
  have h1:=h x (List.mem_cons_self ..)
  have ih:=sJ vt w (fun y hy=>h y (List.mem_cons_of_mem _ hy))
  unfold qR at ih ⊢
  rw[List.map_cons,List.flatMap_cons,List.all_append,ih,Bool.and_true]
  obtain⟨q,hq⟩:∃ q,q=x.1.toNat:=⟨_,rfl⟩
  rw[← hq]
  have h2:1≤q∧q≤8:=by omega
  show (List.all [30+q] fun i=>gD.contains i)=true
  simp only[List.all_cons,List.all_nil,Bool.and_true,List.contains_cons,Bool.or_eq_true,beq_iff_eq]
  omega
theorem aLp (s:BufS) (h:iN s.w):okB gD (iO s)=true:=by
 have h2:=sJ s.vc _ h
 unfold okB
 simp only[iO,List.all_cons,List.all_nil,rF]
 rw[h2]
 rfl
theorem kU {args:List SV} {r:SV} {s t:BufS} (ha:(args.all fun a=>nM a.ids gD)=true) (hr:nM r.ids gD=true) (h1:iN s.w) (h2:iN t.w):okG args r (iO s) (iO t)=true:=by
 have e1:(iO s).map (·.1)=gD:=rfl
 have e2:(iO t).map (·.1)=gD:=rfl
 unfold okG
 rw[e1,e2,aLp s h1,aLp t h2,ha,hr];rfl
abbrev jH (m:List UInt8):SV:=.c (.d (tN (str m)))
theorem aMh (l:List ProdD) (b:BatD) (h:(aG l b (-1)).2≠0):aR3 (aG l b (-1)).2:=by
 unfold aG at h ⊢
 rw[if_neg (by decide)] at h ⊢
 unfold aR3
 split at h
 ·rename_i h1
  rw[if_pos h1]
  dsimp only
  unfold aP at h1 ⊢
  split at h1
  ·rename_i h2;rw[if_pos h2];exact .inl rfl
  ·rename_i h2
   rw[if_neg h2]
   unfold mY at h1 ⊢
   split at h1
   ·rename_i h3;rw[if_pos h3];exact .inr (.inl rfl)
   ·rename_i h3
    rw[if_neg h3]
    unfold sY at h1 ⊢
    split at h1
    ·exact absurd rfl h1
    ·split at h1
     ·rename_i h4;simp only[h4,if_true];exact .inr (.inr (.inl trivial))
     ·exact absurd rfl h1
 ·rename_i h1
  rw[if_neg h1]
  split at h
  ·rename_i h2;rw[if_pos h2];exact .inr (.inr (.inl rfl))
  ·exact absurd rfl h
def aH0 (s:BufS) (b:BatD):BufS:={ s with p:={ s.p with prods:=(aG s.p.prods b (-1)).1 } }
theorem aA4 (s:BufS) (b:BatD) (hw:iN s.w) (hs:SmallL s.p.prods) (hb:b.recs.length≤100000) (h:(aG s.p.prods b (-1)).2=0) :
  FunG Tryz.prog 163 [.c (.own 0 0),aOf b] gD (bI (iO s)) lJ gD (bI (iO (aH0 s b))):=by
 have c1:=uH s.p.prods b (-1) hs hb
 rw[h] at c1
 unfold aH0
 generalize (aG s.p.prods b (-1)).1=np at *
 simp only[BatD.dv] at c1
 refine FunG.of_bodyH rfl rfl Tryz.func163 rfl rfl Tryz.ntmps163 Tryz.results163 (Nat.le_of_ble_eq_true rfl) (kU rfl rfl hw hw) ?_
 (refine gO (ai @aC (ai @BatD.dv.eq_1 (ai @List.map_cons.{0,0} (@List.map_nil.{0,0})))) ?_)
 refine aO.ret ?_
 (refine rO (ai @aC (ai @aJ.eq_1 (@aJ.eq_2))) ?_;try with_reducible exact tt)
def aJz (n:Int):List UInt8:=[97,32,98,97,116,99,104,32,116,104,97,116,32,105,115,32,114,101,102,117,115,101,100,32,119,105,116,104,32]++aRf n
theorem aA3 (s:BufS) (b:BatD) (hw:iN s.w) (hs:SmallL s.p.prods) (hb:b.recs.length≤100000) (h:(aG s.p.prods b (-1)).2≠0) :
  FunG Tryz.prog 163 [.c (.own 0 0),aOf b] gD (bI (iO s)) (jH (aJz (aG s.p.prods b (-1)).2)) gD (bI (iO s)):=by
 have c1:=uH s.p.prods b (-1) hs hb
 obtain⟨c2,hl⟩:=aKz (aMh _ _ h)
 unfold aJz
 have hz:((aG s.p.prods b (-1)).2 != 0)=true:=by simpa using h
 generalize (aG s.p.prods b (-1)).1=np at *
 generalize (aG s.p.prods b (-1)).2=n at *
 generalize aRf n=t at *
 have hA:∀ (P:Program) (ty:TypeId) (x y:Operand),eW P .add ty x y (vs [97,32,98,97,116,99,104,32,116,104,97,116,32,105,115,32,114,101,102,117,115,101,100,32,119,105,116,104,32]) (vs t)=some (Res.pure (vs ([97,32,98,97,116,99,104,32,116,104,97,116,32,105,115,32,114,101,102,117,115,101,100,32,119,105,116,104,32]++t))):=fun P ty x y=>aJq (by simp;omega)
 have c3:=cV ([97,32,98,97,116,99,104,32,116,104,97,116,32,105,115,32,114,101,102,117,115,101,100,32,119,105,116,104,32]++t)
 simp only[BatD.dv] at c1
 refine FunG.of_bodyH rfl rfl Tryz.func163 rfl rfl Tryz.ntmps163 Tryz.results163 (Nat.le_of_ble_eq_true rfl) (kU rfl rfl hw hw) ?_
 (refine gO (ai @aC (ai @BatD.dv.eq_1 (ai hz (ai hA (ai @List.map_cons.{0,0} (@List.map_nil.{0,0})))))) ?_)
 refine aO.ret ?_
 (refine rO (ai @aC (ai @aJ.eq_1 (@aJ.eq_2))) ?_;try with_reducible exact tt)
set_option maxHeartbeats 16000000
theorem jM:Tryz.prog.underlying 114=some (.map 3 57):=Tryz.underlying114
theorem kJ:Tryz.prog.underlying 3=some (.int .i64):=Tryz.underlying3
theorem zM:aX Tryz.prog (zeroValue 57)=some (.slice none 0 0):=by kernel_rfl
theorem xA {α β:Type} (f:α→β):∀ (l:List α) (i:Nat),(l.eraseIdx i).map f=(l.map f).eraseIdx i
 | [],_=>rfl
 | _::_,0=>rfl
 | x::l,i+1=>by simp only[List.eraseIdx_cons_succ,List.map_cons];rw[xA f l i]
theorem sB {w:eE} {pid:Int} (h:lL w pid=true):(pG w)[wI w pid]? = some pid:=by
 have hlt:wI w pid<w.length:=of_decide_eq_true h
 unfold pG
 rw[List.getElem?_map,List.getElem?_eq_getElem hlt,Option.map_some,aK3 hlt]
theorem qH {w:eE} {pid:Int} {j:Nat} (hj:j<wI w pid):(pG w)[j]?≠some pid:=by
 have hjl:j<w.length:=Nat.lt_of_lt_of_le hj (aK2 w pid)
 unfold pG
 rw[List.getElem?_map,List.getElem?_eq_getElem hjl,Option.map_some]
 intro h
 exact aTt hj hjl (Option.some.inj h)
theorem lT {w:eE} {pid:Int} (h:lL w pid=false):pid ∉ pG w:=by
 have hi:=sW h
 intro hm
 obtain⟨j,hj,he⟩:=List.getElem_of_mem hm
 have hjl:j<w.length:=by simpa [pG] using hj
 exact qH (w:=w) (pid:=pid) (j:=j) (by omega) (by rw[List.getElem?_eq_getElem hj,he])
def cU (w:eE) (pid:Int):eE:=if lL w pid then w.eraseIdx (wI w pid) else w
theorem mR {w:eE} (h:iN w) (pid:Int):iN (cU w pid):=by
 unfold cU
 split
 ·exact fun x hx=>h x ((List.eraseIdx_sublist _ _).mem hx)
 ·exact h
theorem aCh (w:eE) (pid:Int) (h:lL w pid=true):(pG w).eraseIdx (wI w pid)=pG (cU w pid):=by
 unfold cU pG;rw[if_pos h,xA]
theorem aCg (vt:Nat→Nat) (w:eE) (pid:Int) (h:lL w pid=true):(qR vt w).eraseIdx (wI w pid)=qR vt (cU w pid):=by
 unfold cU qR;rw[if_pos h,xA]
def aAc (s:BufS) (e:EntD):BufS:={ s with p:=uW s.p e,w:=cU s.w e.b.pid }
theorem eT {σ:St} {m:Operand} {id:Nat} {ks:List Int} {cs:List CV} (h:aK σ.env m = .c (.mp id)) (h2:σ.H id=some (.imap ks cs)):iC σ m id ks cs:=⟨h,h2⟩
abbrev aG1:List UInt8:=[97,32,100,114,111,112,32,116,104,97,116,32,103,111,101,115,32,98,97,99,107]
theorem aUq (s:BufS) (e:EntD) (hw:iN s.w) (hqs:SmallL s.p.prods) :
  FunG Tryz.prog 160 [.c (.own 0 0),jG e] gD (bI (iO s)) (if iP s.p e then jH aG1 else lJ) gD (bI (iO (if iP s.p e then s else aAc s e))):=by
 have c1:=aAj s.p.prods e.b.pid hqs
 have c2:=(aGs s.p.prods ⟨e.b.pid,e.b.epoch,e.next,[]⟩ hqs (by simp)).args (xs:=[.lst 4 (s.p.prods.map ProdD.dv),.agg [int e.b.pid,int e.b.epoch,int e.next,oC]]) (.cons (.refl _) (.cons (.agg (.cons (.refl _) (.cons (.refl _) (.cons (.refl _) (.cons (.nil 3) .nil))))) .nil))
 have c3:=cV aG1
 obtain⟨B,hB⟩:∃ B,B=iP s.p e:=⟨_,rfl⟩
 rw[← hB]
 unfold iP at hB
 unfold aAc uW
 generalize hq:(bB s.p.prods e.b.pid).1=q at *
 generalize (bB s.p.prods e.b.pid).2=is at *
 generalize dV s.p.prods ⟨e.b.pid,e.b.epoch,e.next,[]⟩=np at *
 simp only[ProdD.dv] at c1
 have hwa:=mR hw e.b.pid
 refine FunG.of_bodyH rfl rfl Tryz.func160 rfl rfl Tryz.ntmps160 Tryz.results160 (Nat.le_of_ble_eq_true rfl) (kU rfl (by cases B<;>rfl) hw (by cases B;exact hwa;exact hw)) ?_
 (refine gO (ai @aC (ai @EntD.dv.eq_1 (ai @List.map_cons.{0,0} (@List.map_nil.{0,0})))) ?_)
 (first|refine Wp.sto 42 (vb B) ?_ ?_|refine Wp.rtoS 42 (vb B) ?_ ?_|(refine Wp.seq ?_;first|refine Wp.sto 42 (vb B) ?_ ?_|refine Wp.rtoS 42 (vb B) ?_ ?_))
 ·rw[hB]
  cases is<;>cases q1:decide (e.b.epoch<q.epoch)<;>cases q2:(e.b.epoch == q.epoch)<;>cases q3:decide (e.next<q.next)<;>(((refine rO (ai @EntD.dv.eq_1 (ai q1 (ai q2 (q3)))) ?_;try with_reducible exact tt);(repeat (refine dB (by assumption) ?_;(refine rO (ai @EntD.dv.eq_1 (ai q1 (ai q2 (q3)))) ?_))));all_goals (exact (show bE _ _=true by kernel_rfl)))
 cases B with
 | true =>
  (refine gO (@aC) ?_)
  refine aO.ret ?_
  (refine rO (ai @aC (ai @aJ.eq_1 (ai @aJ.eq_2 (@if_true.{1})))) ?_;try with_reducible exact tt)
 | false =>
 rw[if_neg Bool.false_ne_true,if_neg Bool.false_ne_true]
 (refine gO (ai @aC (ai @EntD.dv.eq_1 (ai @List.map_cons.{0,0} (@List.map_nil.{0,0})))) ?_)
 (first|refine Wp.sregM aI ?_|refine Wp.regM aI ?_|(refine Wp.seq ?_;first|refine Wp.sregM aI ?_|refine Wp.regM aI ?_))
 (refine cR.at 7 (fun K hK=>?_);(refine rO (ai @aC (ai @EntD.dv.eq_1 (ai @List.map_cons.{0,0} (@List.map_nil.{0,0})))) ?_);refine hK _ _ ?_;clear hK K)
 cases hk:lL s.w e.b.pid with
 | true =>
  refine cR.imapDel rfl 8 (pG s.w) (qR s.vc s.w) (wI s.w e.b.pid) e.b.pid jM kJ (sB hk) (fun j hj=>qH hj) ⟨by kernel_rfl,by kernel_rfl,eT ?_ ?_,?_,by kernel_rfl⟩ ?_
  ·(refine rO (@aC) ?_;try with_reducible exact tt)
  ·(refine rO (@aC) ?_;try with_reducible exact tt)
  ·simp (maxSteps:=2000000) (disch:=omega) only[gE,TY,bW,eH,fP,SV.ofD,eA,eO,fI,fJ,bR,fK,eX,eQ,fL,eL,fG,fF,fH,CV.exact,CV.lstOf,CV.lenOf,CV.one,D.one,Value.oneCell',CV.toD0,fX,eF,fZ,fC,rD0,gC,fD,fY,reduceCtorEq,reduceIte,Nat.reduceBEq,Nat.reduceEqDiff,Nat.reduceAdd,Nat.reduceMul,Nat.reduceSub,Nat.reduceLT,Nat.reduceLeDiff,Nat.reduceBNe,Int.reduceLE,Int.reduceLT,Int.reduceBEq,Int.reduceBNe,Int.reduceEq,Int.reduceNeg,Int.reduceAdd,Int.reduceSub,Int.reduceToNat,forall_const,iU,uK,aC,EntD.dv,List.map_cons,List.map_nil]
  rw[aCh _ _ hk,aCg _ _ _ hk]
  (refine cR.done (fun K hK=>?_);(refine rO (ai @aC (ai @EntD.dv.eq_1 (ai @List.map_cons.{0,0} (@List.map_nil.{0,0})))) ?_);refine hK _ _ ?_;clear hK K;refine⟨by kernel_rfl,?_⟩)
  (refine gO (@aC) ?_)
  refine aO.ret ?_
  (refine rO (ai @aC (ai @aJ.eq_1 (@aJ.eq_2))) ?_;try with_reducible exact tt)
 | false =>
  refine cR.imapDelNo rfl 8 (pG s.w) (qR s.vc s.w) e.b.pid jM kJ (lT hk) ⟨by kernel_rfl,by kernel_rfl,eT ?_ ?_,?_,by kernel_rfl⟩ ?_
  ·(refine rO (@aC) ?_;try with_reducible exact tt)
  ·(refine rO (@aC) ?_;try with_reducible exact tt)
  ·simp (maxSteps:=2000000) (disch:=omega) only[gE,TY,bW,eH,fP,SV.ofD,eA,eO,fI,fJ,bR,fK,eX,eQ,fL,eL,fG,fF,fH,CV.exact,CV.lstOf,CV.lenOf,CV.one,D.one,Value.oneCell',CV.toD0,fX,eF,fZ,fC,rD0,gC,fD,fY,reduceCtorEq,reduceIte,Nat.reduceBEq,Nat.reduceEqDiff,Nat.reduceAdd,Nat.reduceMul,Nat.reduceSub,Nat.reduceLT,Nat.reduceLeDiff,Nat.reduceBNe,Int.reduceLE,Int.reduceLT,Int.reduceBEq,Int.reduceBNe,Int.reduceEq,Int.reduceNeg,Int.reduceAdd,Int.reduceSub,Int.reduceToNat,forall_const,iU,uK,aC,EntD.dv,List.map_cons,List.map_nil]
  have e1:cU s.w e.b.pid=s.w:=by unfold cU;rw[hk];rfl
  rw[e1]
  (refine cR.done (fun K hK=>?_);(refine rO (ai @aC (ai @EntD.dv.eq_1 (ai @List.map_cons.{0,0} (@List.map_nil.{0,0})))) ?_);refine hK _ _ ?_;clear hK K;refine⟨by kernel_rfl,?_⟩)
  (refine gO (@aC) ?_)
  refine aO.ret ?_
  (refine rO (ai @aC (ai @aJ.eq_1 (@aJ.eq_2))) ?_;try with_reducible exact tt)
end Go.Proofs.YtpklhnpchhaccaaGreatDoor
