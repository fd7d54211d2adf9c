/- The abstract machine (BfB, BfC). -/
import Derived.Test.YtpklhnpchhaccaaGreatDoorBfA
import Derived.Test.YtpklhnpchhaccaaGreatDoorMpX
import Derived.Test.YtpklhnpchhaccaaGreatDoorRhMb
namespace Go.Proofs.YtpklhnpchhaccaaGreatDoor
open Go Go.RowKit
set_option maxHeartbeats 8000000
set_option maxRecDepth 100000
set_option linter.unusedVariables false
set_option linter.unusedSimpArgs false
structure BufS where
 p:PartD
 w:eV
 vr:Nat
 vt:Nat→Nat
 vc:Nat→Nat
def rJ (vt:Nat→Nat) (w:eV):List CV:=w.map fun x=>.apt (30+x.1.toNat) 5 (x.2.map BatD.dv) (vt x.1.toNat)
def pQ (w:eV):List Int:=w.map (·.1)
abbrev gF:List Nat:=[0,8,9,10,31,32,33,34,35,36,37,38]
abbrev iH (s : BufS) : List (Nat × HE) :=
  [(0, .cells [.d (int s.p.start), .d (int s.p.fin), .apt 9 5 (s.p.rows.map RowD.dv) s.vr, .app 10 3 (s.p.opens.map OpenD.dv), .d (.lst 4 (s.p.prods.map ProdD.dv)), .mp 8]),
   (8, .imap (pQ s.w) (rJ s.vc s.w)), (9, .rot 47 5 s.vr), (10, .row 95 3 s.p.opens.length),
   (31, .rot 62 5 (s.vt 1)), (32, .rot 62 5 (s.vt 2)), (33, .rot 62 5 (s.vt 3)), (34, .rot 62 5 (s.vt 4)),
   (35, .rot 62 5 (s.vt 5)), (36, .rot 62 5 (s.vt 6)), (37, .rot 62 5 (s.vt 7)), (38, .rot 62 5 (s.vt 8))]
def iG (w:eV):Prop:=∀ x ∈ w,1≤x.1∧x.1≤8
theorem rY (ks:List Int) (cs:List CV):HE.ids (.imap ks cs)=cs.flatMap CV.ids:=rfl
theorem sY (vt:Nat→Nat):∀ (w:eV),iG w→(((rJ vt w).flatMap CV.ids).all fun i=>gF.contains i)=true
 | [],_=>rfl
 | x::w,h=>by
  have h1:=h x (List.mem_cons_self ..)
  have ih:=sY vt w (fun y hy=>h y (List.mem_cons_of_mem _ hy))
  unfold rJ at ih ⊢
  rw[List.map_cons,List.flatMap_cons,List.all_append,ih,Bool.and_true]
  obtain⟨q,hq⟩:∃ q,q=x.1.toNat:=⟨_,rfl⟩
  rw[← hq]
  have h2:1≤q∧q≤8:=by omega
  show (List.all [30+q] fun i=>gF.contains i)=true
  simp only[List.all_cons,List.all_nil,Bool.and_true,List.contains_cons,Bool.or_eq_true,beq_iff_eq]
  omega
theorem aMo (s:BufS) (h:iG s.w):okB gF (iH s)=true:=by
 have h2:=sY s.vc _ h
 unfold okB
 simp only[iH,List.all_cons,List.all_nil,rY]
 rw[h2]
 rfl
theorem kS {args:List SV} {r:SV} {s t:BufS} (ha:(args.all fun a=>pM a.ids gF)=true) (hr:pM r.ids gF=true) (h1:iG s.w) (h2:iG t.w):okG args r (iH s) (iH t)=true:=by
 have e1:(iH s).map (·.1)=gF:=rfl
 have e2:(iH t).map (·.1)=gF:=rfl
 unfold okG
 rw[e1,e2,aMo s h1,aMo t h2,ha,hr];rfl
abbrev jA (m:List UInt8):SV:=.c (.d (uG (str m)))
theorem aNh (l:List ProdD) (b:BatD) (h:(aJ l b (-1)).2≠0):aRx (aJ l b (-1)).2:=by
 unfold aJ at h ⊢
 rw[if_neg (by decide)] at h ⊢
 unfold aRx
 split at h
 ·rename_i h1
  rw[if_pos h1]
  dsimp only
  unfold aN at h1 ⊢
  split at h1
  ·rename_i h2;rw[if_pos h2];exact .inl rfl
  ·rename_i h2
   rw[if_neg h2]
   unfold mY at h1 ⊢
   split at h1
   ·rename_i h3;rw[if_pos h3];exact .inr (.inl rfl)
   ·rename_i h3
    rw[if_neg h3]
    unfold aAc at h1 ⊢
    split at h1
    ·exact absurd rfl h1
    ·split at h1
     ·rename_i h4;simp only[h4,if_true];exact .inr (.inr (.inl trivial))
     ·exact absurd rfl h1
 ·rename_i h1
  rw[if_neg h1]
  split at h
  ·rename_i h2;rw[if_pos h2];exact .inr (.inr (.inl rfl))
  ·exact absurd rfl h
def aHy (s:BufS) (b:BatD):BufS:={ s with p:={ s.p with prods:=(aJ s.p.prods b (-1)).1 } }
theorem aB3 (s:BufS) (b:BatD) (hw:iG s.w) (hs:SmallL s.p.prods) (hb:b.recs.length≤100000) (h:(aJ s.p.prods b (-1)).2=0) :
  FunG Tryz.prog 163 [.c (.own 0 0),aP5 b] gF (bK (iH s)) lH gF (bK (iH (aHy s b))):=by
 have c1:=uZ s.p.prods b (-1) hs hb
 rw[h] at c1
 unfold aHy
 generalize (aJ s.p.prods b (-1)).1=np at *
 simp only[BatD.dv] at c1
 refine FunG.of_bodyH rfl rfl Tryz.func163 rfl rfl Tryz.ntmps163 Tryz.results163 (Nat.le_of_ble_eq_true rfl) (kS rfl rfl hw hw) ?_
 (refine gO (ai @aC (ai @BatD.dv.eq_1 (ai @List.map_cons.{0,0} (@List.map_nil.{0,0})))) ?_)
 refine aX.ret ?_
 (refine rO (ai @aC (ai @aS.eq_1 (@aS.eq_2))) ?_;try with_reducible exact tt)
def aL3 (n:Int):List UInt8:=[97,32,98,97,116,99,104,32,116,104,97,116,32,105,115,32,114,101,102,117,115,101,100,32,119,105,116,104,32]++aSa n
theorem aB2 (s:BufS) (b:BatD) (hw:iG s.w) (hs:SmallL s.p.prods) (hb:b.recs.length≤100000) (h:(aJ s.p.prods b (-1)).2≠0) :
  FunG Tryz.prog 163 [.c (.own 0 0),aP5 b] gF (bK (iH s)) (jA (aL3 (aJ s.p.prods b (-1)).2)) gF (bK (iH s)):=by
 have c1:=uZ s.p.prods b (-1) hs hb
 obtain⟨c2,hl⟩:=aM5 (aNh _ _ h)
 unfold aL3
 have hz:((aJ s.p.prods b (-1)).2 != 0)=true:=by simpa using h
 generalize (aJ s.p.prods b (-1)).1=np at *
 generalize (aJ s.p.prods b (-1)).2=n at *
 generalize aSa n=t at *
 have hA:∀ (P:Program) (ty:TypeId) (x y:Operand),fA P .add ty x y (vs [97,32,98,97,116,99,104,32,116,104,97,116,32,105,115,32,114,101,102,117,115,101,100,32,119,105,116,104,32]) (vs t)=some (Res.pure (vs ([97,32,98,97,116,99,104,32,116,104,97,116,32,105,115,32,114,101,102,117,115,101,100,32,119,105,116,104,32]++t))):=fun P ty x y=>aKt (by simp;omega)
 have c3:=cP ([97,32,98,97,116,99,104,32,116,104,97,116,32,105,115,32,114,101,102,117,115,101,100,32,119,105,116,104,32]++t)
 simp only[BatD.dv] at c1
 refine FunG.of_bodyH rfl rfl Tryz.func163 rfl rfl Tryz.ntmps163 Tryz.results163 (Nat.le_of_ble_eq_true rfl) (kS rfl rfl hw hw) ?_
 (refine gO (ai @aC (ai @BatD.dv.eq_1 (ai hz (ai hA (ai @List.map_cons.{0,0} (@List.map_nil.{0,0})))))) ?_)
 refine aX.ret ?_
 (refine rO (ai @aC (ai @aS.eq_1 (@aS.eq_2))) ?_;try with_reducible exact tt)
set_option maxHeartbeats 16000000
theorem jG:Tryz.prog.underlying 114=some (.map 3 57):=Tryz.underlying114
theorem jX:Tryz.prog.underlying 3=some (.int .i64):=Tryz.underlying3
theorem aAk:aV Tryz.prog (zeroValue 57)=some (.slice none 0 0):=by kernel_rfl
theorem yE {α β:Type} (f:α→β):∀ (l:List α) (i:Nat),(l.eraseIdx i).map f=(l.map f).eraseIdx i
 | [],_=>rfl
 | _::_,0=>rfl
 | x::l,i+1=>by simp only[List.eraseIdx_cons_succ,List.map_cons];rw[yE f l i]
theorem sR {w:eV} {pid:Int} (h:nO w pid=true):(pQ w)[wI w pid]? = some pid:=by
 have hlt:wI w pid<w.length:=of_decide_eq_true h
 unfold pQ
 rw[List.getElem?_map,List.getElem?_eq_getElem hlt,Option.map_some,aOq hlt]
theorem qW {w:eV} {pid:Int} {j:Nat} (hj:j<wI w pid):(pQ w)[j]?≠some pid:=by
 have hjl:j<w.length:=Nat.lt_of_lt_of_le hj (aUt w pid)
 unfold pQ
 rw[List.getElem?_map,List.getElem?_eq_getElem hjl,Option.map_some]
 intro h
 exact aXq hj hjl (Option.some.inj h)
theorem kV {w:eV} {pid:Int} (h:nO w pid=false):pid ∉ pQ w:=by
 have hi:=xN h
 intro hm
 obtain⟨j,hj,he⟩:=List.getElem_of_mem hm
 have hjl:j<w.length:=by simpa [pQ] using hj
 exact qW (w:=w) (pid:=pid) (j:=j) (by omega) (by rw[List.getElem?_eq_getElem hj,he])
def cI (w:eV) (pid:Int):eV:=if nO w pid then w.eraseIdx (wI w pid) else w
theorem mQ {w:eV} (h:iG w) (pid:Int):iG (cI w pid):=by
 unfold cI
 split
 ·exact fun x hx=>h x ((List.eraseIdx_sublist _ _).mem hx)
 ·exact h
theorem aDi (w:eV) (pid:Int) (h:nO w pid=true):(pQ w).eraseIdx (wI w pid)=pQ (cI w pid):=by
 unfold cI pQ;rw[if_pos h,yE]
theorem aDh (vt:Nat→Nat) (w:eV) (pid:Int) (h:nO w pid=true):(rJ vt w).eraseIdx (wI w pid)=rJ vt (cI w pid):=by
 unfold cI rJ;rw[if_pos h,yE]
def aBa (s:BufS) (e:EntD):BufS:={ s with p:=zJ s.p e,w:=cI s.w e.b.pid }
theorem eY {σ:St} {m:Operand} {id:Nat} {ks:List Int} {cs:List CV} (h:aH σ.env m = .c (.mp id)) (h2:σ.H id=some (.imap ks cs)):hU σ m id ks cs:=⟨h,h2⟩
abbrev aGx:List UInt8:=[97,32,100,114,111,112,32,116,104,97,116,32,103,111,101,115,32,98,97,99,107]
theorem aVn (s:BufS) (e:EntD) (hw:iG s.w) (hqs:SmallL s.p.prods) :
  FunG Tryz.prog 160 [.c (.own 0 0),kI e] gF (bK (iH s)) (if jW s.p e then jA aGx else lH) gF (bK (iH (if jW s.p e then s else aBa s e))):=by
 have c1:=aBi s.p.prods e.b.pid hqs
 have c2:=(aHr s.p.prods ⟨e.b.pid,e.b.epoch,e.next,[]⟩ hqs (by simp)).args (xs:=[.lst 4 (s.p.prods.map ProdD.dv),.agg [int e.b.pid,int e.b.epoch,int e.next,qL]]) (.cons (.refl _) (.cons (.agg (.cons (.refl _) (.cons (.refl _) (.cons (.refl _) (.cons (.nil 3) .nil))))) .nil))
 have c3:=cP aGx
 obtain⟨B,hB⟩:∃ B,B=jW s.p e:=⟨_,rfl⟩
 rw[← hB]
 unfold jW at hB
 unfold aBa zJ
 generalize hq:(bE s.p.prods e.b.pid).1=q at *
 generalize (bE s.p.prods e.b.pid).2=is at *
 generalize cM s.p.prods ⟨e.b.pid,e.b.epoch,e.next,[]⟩=np at *
 simp only[ProdD.dv] at c1
 have hwa:=mQ hw e.b.pid
 refine FunG.of_bodyH rfl rfl Tryz.func160 rfl rfl Tryz.ntmps160 Tryz.results160 (Nat.le_of_ble_eq_true rfl) (kS rfl (by cases B<;>rfl) hw (by cases B;exact hwa;exact hw)) ?_
 (refine gO (ai @aC (ai @EntD.dv.eq_1 (ai @List.map_cons.{0,0} (@List.map_nil.{0,0})))) ?_)
 (first|refine Wp.sto 42 (vb B) ?_ ?_|refine Wp.rtoS 42 (vb B) ?_ ?_|(refine Wp.seq ?_;first|refine Wp.sto 42 (vb B) ?_ ?_|refine Wp.rtoS 42 (vb B) ?_ ?_))
 ·rw[hB]
  cases is<;>cases q1:decide (e.b.epoch<q.epoch)<;>cases q2:(e.b.epoch == q.epoch)<;>cases q3:decide (e.next<q.next)<;>(((refine rO (ai @EntD.dv.eq_1 (ai q1 (ai q2 (q3)))) ?_;try with_reducible exact tt);(repeat (refine eA (by assumption) ?_;(refine rO (ai @EntD.dv.eq_1 (ai q1 (ai q2 (q3)))) ?_))));all_goals (exact (show bI _ _=true by kernel_rfl)))
 cases B with
 | true =>
  (refine gO (@aC) ?_)
  refine aX.ret ?_
  (refine rO (ai @aC (ai @aS.eq_1 (ai @aS.eq_2 (@if_true.{1})))) ?_;try with_reducible exact tt)
 | false =>
 rw[if_neg Bool.false_ne_true,if_neg Bool.false_ne_true]
 (refine gO (ai @aC (ai @EntD.dv.eq_1 (ai @List.map_cons.{0,0} (@List.map_nil.{0,0})))) ?_)
 (first|refine Wp.sregM aI ?_|refine Wp.regM aI ?_|(refine Wp.seq ?_;first|refine Wp.sregM aI ?_|refine Wp.regM aI ?_))
 (refine cN.at 7 (fun K hK=>?_);(refine rO (ai @aC (ai @EntD.dv.eq_1 (ai @List.map_cons.{0,0} (@List.map_nil.{0,0})))) ?_);refine hK _ _ ?_;clear hK K)
 cases hk:nO s.w e.b.pid with
 | true =>
  refine cN.imapDel rfl 8 (pQ s.w) (rJ s.vc s.w) (wI s.w e.b.pid) e.b.pid jG jX (sR hk) (fun j hj=>qW hj) ⟨by kernel_rfl,by kernel_rfl,eY ?_ ?_,?_,by kernel_rfl⟩ ?_
  ·(refine rO (@aC) ?_;try with_reducible exact tt)
  ·(refine rO (@aC) ?_;try with_reducible exact tt)
  ·simp (maxSteps:=2000000) (disch:=omega) only[gE,TY,bV,eJ,fQ,SV.ofD,dS,eQ,fL,fM,bP,fN,eW,eT,fO,eN,fJ,fI,fK,CV.exact,CV.lstOf,CV.lenOf,CV.one,D.one,Value.oneCell',CV.toD0,fT,eB,fW,fG,rD0,gA,fF,fV,reduceCtorEq,reduceIte,Nat.reduceBEq,Nat.reduceEqDiff,Nat.reduceAdd,Nat.reduceMul,Nat.reduceSub,Nat.reduceLT,Nat.reduceLeDiff,Nat.reduceBNe,Int.reduceLE,Int.reduceLT,Int.reduceBEq,Int.reduceBNe,Int.reduceEq,Int.reduceNeg,Int.reduceAdd,Int.reduceSub,Int.reduceToNat,forall_const,iN,vB,aC,EntD.dv,List.map_cons,List.map_nil]
  rw[aDi _ _ hk,aDh _ _ _ hk]
  (refine cN.done (fun K hK=>?_);(refine rO (ai @aC (ai @EntD.dv.eq_1 (ai @List.map_cons.{0,0} (@List.map_nil.{0,0})))) ?_);refine hK _ _ ?_;clear hK K;refine⟨by kernel_rfl,?_⟩)
  (refine gO (@aC) ?_)
  refine aX.ret ?_
  (refine rO (ai @aC (ai @aS.eq_1 (@aS.eq_2))) ?_;try with_reducible exact tt)
 | false =>
  refine cN.imapDelNo rfl 8 (pQ s.w) (rJ s.vc s.w) e.b.pid jG jX (kV hk) ⟨by kernel_rfl,by kernel_rfl,eY ?_ ?_,?_,by kernel_rfl⟩ ?_
  ·(refine rO (@aC) ?_;try with_reducible exact tt)
  ·(refine rO (@aC) ?_;try with_reducible exact tt)
  ·simp (maxSteps:=2000000) (disch:=omega) only[gE,TY,bV,eJ,fQ,SV.ofD,dS,eQ,fL,fM,bP,fN,eW,eT,fO,eN,fJ,fI,fK,CV.exact,CV.lstOf,CV.lenOf,CV.one,D.one,Value.oneCell',CV.toD0,fT,eB,fW,fG,rD0,gA,fF,fV,reduceCtorEq,reduceIte,Nat.reduceBEq,Nat.reduceEqDiff,Nat.reduceAdd,Nat.reduceMul,Nat.reduceSub,Nat.reduceLT,Nat.reduceLeDiff,Nat.reduceBNe,Int.reduceLE,Int.reduceLT,Int.reduceBEq,Int.reduceBNe,Int.reduceEq,Int.reduceNeg,Int.reduceAdd,Int.reduceSub,Int.reduceToNat,forall_const,iN,vB,aC,EntD.dv,List.map_cons,List.map_nil]
  have e1:cI s.w e.b.pid=s.w:=by unfold cI;rw[hk];rfl
  rw[e1]
  (refine cN.done (fun K hK=>?_);(refine rO (ai @aC (ai @EntD.dv.eq_1 (ai @List.map_cons.{0,0} (@List.map_nil.{0,0})))) ?_);refine hK _ _ ?_;clear hK K;refine⟨by kernel_rfl,?_⟩)
  (refine gO (@aC) ?_)
  refine aX.ret ?_
  (refine rO (ai @aC (ai @aS.eq_1 (@aS.eq_2))) ?_;try with_reducible exact tt)
end Go.Proofs.YtpklhnpchhaccaaGreatDoor
