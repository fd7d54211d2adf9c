/- The abstract machine (BfD, BfE). -/
import Derived.Test.YtpklhnpchhaccaaGreatDoorBfMa
import Derived.Test.YtpklhnpchhaccaaGreatDoorInMn
namespace Go.Proofs.YtpklhnpchhaccaaGreatDoor
open Go Go.RowKit
set_option maxHeartbeats 16000000
set_option maxRecDepth 100000
set_option linter.unusedVariables false
set_option linter.unusedSimpArgs false
theorem aB8 {L:List (Nat × SV)} {s:BufS} (h:iN s.w) (hL:(L.all fun p=>p.2.ids.all fun i=>gD.contains i)=true):(gK L (iO s) && dW ⟨gD,[],false,none⟩ (iO s))=true:=by
 have e1:(iO s).map (·.1)=gD:=rfl
 have h2:=sJ s.vc _ h
 unfold gK
 rw[e1,hL]
 simp only[iO,List.all_cons,List.all_nil,rF]
 rw[h2]
 rfl
def eN (p:PartD):PartD:=⟨p.start,p.fin,[],[],p.prods⟩
def lY (st:Int):List RowD→List RowD
 | []=>[]
 | r::l=>if r.off<st then lY st l else r::l
def jN (p:PartD) (e:EntD):Option PartD:=match cG (eN p) e with
 | some q=>some { p with start:=q.start,fin:=q.fin,prods:=q.prods,rows:=lY q.start (p.rows++q.rows) }
 | none=>none
theorem qZ:dT Tryz.prog 23=some (47,5,56,[.int .i64 0,.int .i64 0,.int .i64 0,.string ByteArray.empty,.string ByteArray.empty]):=by
 (refine aT ?_;try with_reducible exact tt)
 rfl
abbrev aWo:List UInt8:=[97,110,32,101,110,116,114,121,32,97,115,32,105,110,32,105,110,108,105,110,101]
theorem aFm (s:BufS) (e:EntD) (q:PartD) (k:Nat) (hw:iN s.w) (hk:k≤10000) (h:FOk k (eN s.p)) (he:SmallEn e) (hr:s.p.rows.length≤1000000) (hst:cG (eN s.p) e=some q) (hok:aL e=true) (hkd:e.kind=0∧e.b.txn=false∨e.kind=2∨e.kind=5∨e.kind=6) :
  FunG Tryz.prog 161 [.c (.own 0 0),jG e] gD (bI (iO s)) lJ gD (bI (iO ⟨{ s.p with start:=q.start,fin:=q.fin,prods:=q.prods,rows:=lY q.start (s.p.rows++q.rows) },s.w,s.vr+1,s.vt,s.vc⟩)):=by
 have c1:=(aEg (eN s.p) e k h (by omega) he rfl rfl hok hkd).args (xs:=[.agg [int s.p.start,int s.p.fin,oC,oC,.lst 4 (s.p.prods.map ProdD.dv)],.agg e.dv]) (.cons (.agg (.cons (.refl _) (.cons (.refl _) (.cons (.nil 5) (.cons (.nil 3) (.cons (.refl _) .nil)))))) (.cons (.refl _) .nil))
 have hq:=(aGx h hst).rows
 have e1:aLo (eN s.p) e=q.dv:=by unfold aLo;rw[hst]
 have e2:aLn (eN s.p) e=0:=by unfold aLn;rw[hst];rfl
 rw[e1,e2] at c1
 clear e1 e2
 have hlen:(s.p.rows++q.rows).length≤2000000:=by rw[List.length_append];omega
 refine FunG.of_bodyH rfl rfl Tryz.func161 rfl rfl Tryz.ntmps161 Tryz.results161 (Nat.le_of_ble_eq_true rfl) (kU rfl rfl hw hw) ?_
 simp only[EntD.dv,PartD.dv] at c1
 (refine gO (ai @aC (ai @EntD.dv.eq_1 (ai @PartD.dv.eq_1 (ai @List.map_cons.{0,0} (@List.map_nil.{0,0}))))) ?_;try with_reducible exact tt)
 (first|refine Wp.sregM aI ?_|refine Wp.regM aI ?_|(refine Wp.seq ?_;first|refine Wp.sregM aI ?_|refine Wp.regM aI ?_))
 (refine cR.at 8 (fun K hK=>?_);(refine rO (ai @aC (ai @EntD.dv.eq_1 (ai @PartD.dv.eq_1 (ai @List.map_cons.{0,0} (@List.map_nil.{0,0}))))) ?_;try with_reducible exact tt);refine hK _ _ ?_;clear hK K)
 refine cR.rotApp (τ:=9) (n:=s.vr) (xs:=s.p.rows.map RowD.dv) (ys:=q.rows.map RowD.dv) (cy:=.d (.lst 5 (q.rows.map RowD.dv))) rfl qZ ⟨rfl,by decide,by decide⟩ ⟨by (refine rO (@aC) ?_;try with_reducible exact tt),by (refine rO (@aC) ?_;try with_reducible exact tt),by (refine rO (@aC) ?_;try with_reducible exact tt),by (refine rO (@aC) ?_;try with_reducible exact tt),rfl,by (refine rO (@aC) ?_;try with_reducible exact tt),by simp only[List.length_map];rw[← List.length_append];omega,rfl⟩ ?_
 rw[← List.map_append]
 (refine cR.done (fun K hK=>?_);(refine rO (ai @aC (ai @EntD.dv.eq_1 (ai @PartD.dv.eq_1 (ai @List.map_cons.{0,0} (@List.map_nil.{0,0}))))) ?_;try with_reducible exact tt);refine hK _ _ ?_;clear hK K;refine⟨by kernel_rfl,?_⟩)
 (refine gO (@aC) ?_;try with_reducible exact tt)
 generalize s.p.rows++q.rows=L at *
 refine Wp.loop (fun X:List RowD=>⟨iH [(0,.c (.own 0 0))],bI (iO ⟨{ s.p with start:=q.start,fin:=q.fin,prods:=q.prods,rows:=X },s.w,s.vr+1,s.vt,s.vc⟩),1010,98,⟨gD,[],false,none⟩⟩) (fun X=>lY q.start X=lY q.start L∧X.length≤L.length) (fun X=>X.length) L ⟨rfl,Nat.le_refl _⟩ ?_ ?_
 ·refine aD.keep rfl (aB8 hw rfl) ?_
  (refine rO (ai @aC (ai @EntD.dv.eq_1 (ai @PartD.dv.eq_1 (ai @List.map_cons.{0,0} (@List.map_nil.{0,0}))))) ?_;try with_reducible exact tt)
 rintro X ⟨hX,hXl⟩
 cases X with
 | nil =>
  rw[← hX]
  (refine gO (ai @aC (ai @List.map_nil.{0,0} (@List.length_nil.{0}))) ?_;try with_reducible exact tt)
  refine aO.ret ?_
  simp (maxSteps:=2000000) (disch:=omega) only[gE,TY,bW,eH,fP,SV.ofD,eA,eO,fI,fJ,bR,fK,eX,eQ,fL,eL,fG,fF,fH,CV.exact,CV.lstOf,CV.lenOf,CV.one,D.one,Value.oneCell',CV.toD0,fX,eF,fZ,fC,rD0,gC,fD,fY,reduceCtorEq,reduceIte,Nat.reduceBEq,Nat.reduceEqDiff,Nat.reduceAdd,Nat.reduceMul,Nat.reduceSub,Nat.reduceLT,Nat.reduceLeDiff,Nat.reduceBNe,Int.reduceLE,Int.reduceLT,Int.reduceBEq,Int.reduceBNe,Int.reduceEq,Int.reduceNeg,Int.reduceAdd,Int.reduceSub,Int.reduceToNat,forall_const,aC,retG,aJ,lY,List.map_nil]
 | cons r X =>
  have d0:decide ((0:Int)<(X.length:Int)+1)=true:=decide_eq_true (by omega)
  by_cases hlt:r.off<q.start
  ·have d1:decide (r.off<q.start)=true:=decide_eq_true hlt
   (first|refine Wp.stoD 87 (vb true) aI ?_ ?_|refine Wp.rtoDS 87 (vb true) aI ?_ ?_|(refine Wp.seq ?_;first|refine Wp.stoD 87 (vb true) aI ?_ ?_|refine Wp.rtoDS 87 (vb true) aI ?_ ?_))
   ·((refine rO (ai d0 (ai d1 (ai @RowD.dv.eq_1 (ai @List.map_cons.{0,0} (ai @List.length_cons.{0} (@List.length_map.{0,0})))))) ?_;try with_reducible exact tt);(repeat (refine dB (by assumption) ?_;(refine rO (ai d0 (ai d1 (ai @RowD.dv.eq_1 (ai @List.map_cons.{0,0} (ai @List.length_cons.{0} (@List.length_map.{0,0})))))) ?_;try with_reducible exact tt))))
    all_goals (exact (show bE _ _=true by kernel_rfl))
   refine Wp.condT (by (refine rO (@aC) ?_;try with_reducible exact tt)) (Wp.skip ?_)
   show Wp Tryz.prog _ _ _
   refine Wp.block ?_
   (first|refine Wp.sregG ?_|refine Wp.regG ?_|(refine Wp.seq ?_;first|refine Wp.sregG ?_|refine Wp.regG ?_))
   (refine aH.at 6 (fun K hK=>?_);(refine rO (ai @aC (ai @RowD.dv.eq_1 (@List.map_cons.{0,0}))) ?_;try with_reducible exact tt);refine hK _ ?_;clear hK K)
   refine aH.rotTail (τ:=9) (n:=s.vr+1) (x0:=r.dv) (xs:=X.map RowD.dv) rfl qZ ⟨by (refine rO (@aC) ?_;try with_reducible exact tt),by (refine rO (@aC) ?_;try with_reducible exact tt),by (refine rO (ai @aC (ai @RowD.dv.eq_1 (@List.map_cons.{0,0}))) ?_;try with_reducible exact tt),rfl⟩ ?_
   (refine aH.done (fun K hK=>?_);(refine rO (ai @aC (ai @RowD.dv.eq_1 (@List.map_cons.{0,0}))) ?_;try with_reducible exact tt);refine hK _ ?_;clear hK K)
   (refine gO (@aC) ?_;try with_reducible exact tt)
   refine⟨X,⟨?_,by simp only[List.length_cons] at hXl;omega⟩,by simp,aD.keep rfl (aB8 hw rfl) ?_⟩
   ·rw[← hX];show _=if _ then _ else _;rw[if_pos hlt]
   ·(refine rO (@aC) ?_;try with_reducible exact tt)
  ·have d1:decide (r.off<q.start)=false:=decide_eq_false hlt
   have hX2:lY q.start L=r::X:=by rw[← hX];show (if _ then _ else _)=_;rw[if_neg hlt]
   rw[hX2]
   (refine gO (ai @aC (ai d0 (ai d1 (ai @RowD.dv.eq_1 (ai @List.map_cons.{0,0} (ai @List.length_cons.{0} (@List.length_map.{0,0}))))))) ?_;try with_reducible exact tt)
   refine aO.ret ?_
   (refine rO (ai @aC (ai @aJ.eq_1 (ai @aJ.eq_2 (ai @RowD.dv.eq_1 (@List.map_cons.{0,0}))))) ?_;try with_reducible exact tt)
theorem aFl (s:BufS) (e:EntD) (k:Nat) (hw:iN s.w) (hk:k≤10000) (h:FOk k (eN s.p)) (he:SmallEn e) (hst:cG (eN s.p) e=none) (hok:aL e=true) (hkd:e.kind=0∧e.b.txn=false∨e.kind=2∨e.kind=5∨e.kind=6) :
  FunG Tryz.prog 161 [.c (.own 0 0),jG e] gD (bI (iO s)) (jH aWo) gD (bI (iO s)):=by
 have c1:=(aEg (eN s.p) e k h (by omega) he rfl rfl hok hkd).args (xs:=[.agg [int s.p.start,int s.p.fin,oC,oC,.lst 4 (s.p.prods.map ProdD.dv)],.agg e.dv]) (.cons (.agg (.cons (.refl _) (.cons (.refl _) (.cons (.nil 5) (.cons (.nil 3) (.cons (.refl _) .nil)))))) (.cons (.refl _) .nil))
 have e1:aLo (eN s.p) e=aSi:=by unfold aLo;rw[hst]
 have e2:aLn (eN s.p) e=70:=by unfold aLn;rw[hst];rfl
 rw[e1,e2] at c1
 clear e1 e2
 refine FunG.of_bodyH rfl rfl Tryz.func161 rfl rfl Tryz.ntmps161 Tryz.results161 (Nat.le_of_ble_eq_true rfl) (kU rfl rfl hw hw) ?_
 simp only[EntD.dv] at c1
 (refine gO (ai @aC (ai @EntD.dv.eq_1 (ai @List.map_cons.{0,0} (@List.map_nil.{0,0})))) ?_;try with_reducible exact tt)
 (refine rO (@aC) ?_;try with_reducible exact tt)
 refine aO.ret ?_
 (refine rO (ai @aC (ai @aJ.eq_1 (@aJ.eq_2))) ?_;try with_reducible exact tt)
theorem yG:dT Tryz.prog 57=some (62,5,56,[.int .i64 0,.int .i64 0,.int .i64 0,.bool false,.slice none 0 0]):=by
 (refine aT ?_;try with_reducible exact tt)
def gG (w:eE) (pid:Int) (l:List BatD):eE:=if lL w pid then w.set (wI w pid) (pid,l) else w++[(pid,l)]
def kE (vt:Nat→Nat) (q n:Nat):Nat→Nat:=fun i=>if i=q then n else vt i
theorem aGj {w:eE} (h:iN w) {pid:Int} (hp:1≤pid∧pid≤8) (l:List BatD):iN (gG w pid l):=by
 unfold gG
 split
 ·intro x hx
  rcases List.mem_or_eq_of_mem_set hx with h1|rfl
  ·exact h x h1
  ·exact hp
 ·intro x hx
  rcases List.mem_append.1 hx with h1|h1
  ·exact h x h1
  ·simp at h1;subst h1;exact hp
structure OkW (w:eE):Prop where
 pid:iN w
 nd:(w.map (·.1)).Nodup
 bats:∀ x ∈ w,x.2.length≤8
 recs:∀ x ∈ w,∀ b ∈ x.2,b.recs.length≤4
theorem oF {w:eE} {pid:Int} (h:lL w pid=true):w[wI w pid]? = some (pid,dG w pid):=by
 have hlt:wI w pid<w.length:=of_decide_eq_true h
 unfold dG
 rw[List.getElem?_eq_getElem hlt]
 exact congrArg some (Prod.ext (aK3 hlt) rfl)
theorem sA {w:eE} {pid:Int} (h:lL w pid=false):dG w pid=[]:=by
 unfold dG
 rw[sW h,List.getElem?_eq_none (Nat.le_refl _)]
theorem aTq {vt:Nat→Nat} {w:eE} {pid:Int} (h:lL w pid=true):(qR vt w)[wI w pid]? = some (.apt (30+pid.toNat) 5 ((dG w pid).map BatD.dv) (vt pid.toNat)):=by
 unfold qR
 rw[List.getElem?_map,oF h];rfl
theorem zO (w:eE) (pid:Int) (l:List BatD):pG (gG w pid l)=if lL w pid then pG w else pG w++[pid]:=by
 unfold gG pG
 split
 ·rename_i h
  have hk:=sB h
  unfold pG at hk
  rw[List.map_set]
  exact List.ext_getElem? (fun i=>by
   rw[List.getElem?_set]
   split
   ·rename_i e;subst e
    split
    ·rw[hk]
    ·rename_i h2
     rw[List.getElem?_eq_none (by simpa using h2)]
   ·rfl)
 ·simp
theorem aNp {vt:Nat→Nat} {w:eE} {pid:Int} (hw:OkW w) (hp:1≤pid∧pid≤8) (l:List BatD) (n:Nat) :
  qR (kE vt pid.toNat n) (gG w pid l)=if lL w pid then (qR vt w).set (wI w pid) (.apt (30+pid.toNat) 5 (l.map BatD.dv) n) else qR vt w++[.apt (30+pid.toNat) 5 (l.map BatD.dv) n]:=by
 have hb:kE vt pid.toNat n pid.toNat=n:=by unfold kE;rw[if_pos rfl]
 have hne:∀ x ∈ w,x.1≠pid→kE vt pid.toNat n x.1.toNat=vt x.1.toNat:=fun x hx hn=>by
  have:=hw.pid x hx
  unfold kE;rw[if_neg (by omega)]
 unfold gG
 split
 ·rename_i h
  unfold qR
  rw[List.map_set]
  dsimp only
  rw[hb]
  refine List.ext_getElem? (fun j=>?_)
  rw[List.getElem?_set,List.getElem?_set,List.length_map,List.length_map]
  split
  ·rfl
  ·rename_i hj
   rw[List.getElem?_map,List.getElem?_map]
   cases hg:w[j]? with
   | none=>rfl
   | some x =>
    have hjl:=(List.getElem?_eq_some_iff.1 hg).1
    have hlt:wI w pid<w.length:=of_decide_eq_true h
    have hxe:=(List.getElem?_eq_some_iff.1 hg).2
    have:x.1≠pid:=fun e=>by
     have h1:=aK3 hlt
     have hpw:=List.pairwise_iff_getElem.1 hw.nd
     have e3:(w.map (·.1))[wI w pid]'(by simpa using hlt)=(w.map (·.1))[j]'(by simpa using hjl):=by
      rw[List.getElem_map,List.getElem_map,h1,hxe,e]
     rcases Nat.lt_or_gt_of_ne hj with h4|h4
     ·exact hpw _ _ _ _ h4 e3
     ·exact hpw _ _ _ _ h4 e3.symm
    simp only[Option.map_some]
    rw[hne x (List.mem_of_getElem? hg) this]
 ·rename_i h
  have h:lL w pid=false:=by simpa using h
  have hno:=lT h
  unfold qR
  rw[List.map_append,List.map_cons,List.map_nil,hb]
  congr 1
  exact List.map_congr_left (fun x hx=>by rw[hne x hx (fun e=>hno (by unfold pG;exact List.mem_map.2 ⟨x,hx,e⟩))])
theorem aTs {vt:Nat→Nat} {w:eE} {pid:Int} (hw:OkW w) (hp:1≤pid∧pid≤8) (l:List BatD) (n:Nat) (h:lL w pid=true) :
  (qR vt w).set (wI w pid) (.apt (30+pid.toNat) 5 (l.map BatD.dv) n)=qR (kE vt pid.toNat n) (gG w pid l)∧pG w=pG (gG w pid l):=by
 rw[aNp hw hp,zO,if_pos h,if_pos h];exact⟨rfl,rfl⟩
theorem aTr {vt:Nat→Nat} {w:eE} {pid:Int} (hw:OkW w) (hp:1≤pid∧pid≤8) (l:List BatD) (n:Nat) (h:lL w pid=false) :
  qR vt w++[.apt (30+pid.toNat) 5 (l.map BatD.dv) n]=qR (kE vt pid.toNat n) (gG w pid l)∧pG w++[pid]=pG (gG w pid l):=by
 rw[aNp hw hp,zO,if_neg (by rw[h];exact Bool.false_ne_true),if_neg (by rw[h];exact Bool.false_ne_true)];exact⟨rfl,rfl⟩
abbrev bfX (s:BufS) (e:EntD):List (Nat × HE):=iO s++[(1000,.cells (e.dv.map CV.d)),(1001,.cells (e.b.dv.map CV.d))]
theorem oT {L:List (Nat × SV)} {s:BufS} {e:EntD} (h:iN s.w) (hL:(L.all fun p=>p.2.ids.all fun i=>(gD++[1000,1001]).contains i)=true):(gK L (bfX s e) && dW ⟨gD,[],false,none⟩ (bfX s e))=true:=by
 have e1:(bfX s e).map (·.1)=gD++[1000,1001]:=rfl
 have h2:=sJ s.vc _ h
 have h3:(((qR s.vc s.w).flatMap CV.ids).all fun i=>(gD++[1000,1001]).contains i)=true:=by
  rw[List.all_eq_true] at h2 ⊢
  intro i hi
  have:=h2 i hi
  simp only[List.contains_iff_mem,List.mem_append] at this ⊢
  exact .inl this
 unfold gK
 rw[e1,hL]
 have i1:HE.ids (.cells (e.dv.map CV.d))=[]:=eS _
 have i2:HE.ids (.cells (e.b.dv.map CV.d))=[]:=eS _
 simp only[bfX,iO,List.cons_append,List.nil_append,List.all_cons,List.all_nil,rF,i1,i2]
 rw[show ((qR s.vc s.w).flatMap CV.ids).all (fun i=>[0,8,9,10,31,32,33,34,35,36,37,38,1000,1001].contains i)=true from h3]
 rfl
theorem aD.aptD {σ:St} {t τ sz n:Nat} {xs:List (List D)} (ht:σ.env t = .c (.apt τ sz xs n)):aD σ { σ with env:=upd σ.env t (.c (.d (.lst sz xs))) }:=by
 intro W0 K0 g a w r
 refine⟨g,r.mem,fun u=>?_,r.size,r.defers,r.ln,r.rd,r.nodup,r.lt⟩
 show bH g _ (upd σ.env t _ u) _
 by_cases h:u=t
 ·subst h;rw[aB]
  have hv:=r.env u
  rw[ht] at hv
  exact hv.1
 ·rw[aA _ _ h];exact r.env u
end Go.Proofs.YtpklhnpchhaccaaGreatDoor
