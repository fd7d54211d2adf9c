/- The abstract machine (RhA, RhB, RhC, RhD, RhE). -/
import Derived.Test.YtpklhnpchhaccaaGreatDoorRgN
import Derived.Test.YtpklhnpchhaccaaGreatDoorMpQ
import Derived.Test.YtpklhnpchhaccaaGreatDoorRgM
namespace Go.Proofs.YtpklhnpchhaccaaGreatDoor
open Go Go.RowKit
set_option maxHeartbeats 8000000
set_option maxRecDepth 100000
set_option linter.unusedVariables false
set_option linter.unusedSimpArgs false
abbrev eE:=List (Int × List BatD)
structure RefS where
 p:PartD
 w:eE
 v:Nat
abbrev yV (x:Int × List BatD):List D:=[int x.1,.lst 5 (x.2.map BatD.dv)]
def aY (w:eE):List CV:=(w.map yV).flatten.map CV.d
abbrev hK:List Nat:=[0,9]
abbrev hM (s : RefS) : List (Nat × HE) :=
  [(0, .cells [.d (int s.p.start), .d (int s.p.fin), .d (.lst 5 (s.p.rows.map RowD.dv)), .d (.lst 3 (s.p.opens.map OpenD.dv)), .d (.lst 4 (s.p.prods.map ProdD.dv)), .mt 9 s.v]),
   (9, .mrow 129 2 s.v (aY s.w))]
abbrev hD (p:PartD) (w:eE):List D:=[int p.start,int p.fin,.lst 5 (p.rows.map RowD.dv),.lst 3 (p.opens.map OpenD.dv),.lst 4 (p.prods.map ProdD.dv),.lst 2 (w.map yV)]
def wI (w:eE) (pid:Int):Nat:=w.findIdx (fun x=>x.1 == pid)
theorem aK2 (w:eE) (pid:Int):wI w pid≤w.length:=List.findIdx_le_length
theorem aK3 {w:eE} {pid:Int} (h:wI w pid<w.length):w[wI w pid].1=pid:=by
 have h' : w.findIdx (fun x=>x.1 == pid)<w.length:=h
 have:=List.findIdx_getElem (w:=h')
 exact beq_iff_eq.1 this
theorem aTt {w:eE} {pid:Int} {k:Nat} (hk:k<wI w pid) (h:k<w.length):w[k].1≠pid:=by
 have hk' : k<w.findIdx (fun x=>x.1 == pid):=hk
 have:=List.not_of_lt_findIdx hk'
 simpa using this
def lL (w:eE) (pid:Int):Bool:=decide (wI w pid<w.length)
def dG (w:eE) (pid:Int):List BatD:=match w[wI w pid]? with
 | some x=>x.2
 | none=>[]
theorem aWj (s:RefS):okB hK (hM s)=true:=by
 unfold okB
 simp only[hM,List.all_cons,List.all_nil,HE.ids,aY,eS,Bool.and_true]
 rfl
theorem aEh {args:List SV} {r:SV} {s t:RefS} (ha:(args.all fun a=>nM a.ids hK)=true) (hr:nM r.ids hK=true):okG args r (hM s) (hM t)=true:=by
 have e1:(hM s).map (·.1)=hK:=rfl
 have e2:(hM t).map (·.1)=hK:=rfl
 unfold okG
 rw[e1,e2,aWj s,aWj t,ha,hr];rfl
theorem eU (w:eE):(aY w).length=w.length*2:=by
 unfold aY
 rw[List.length_map,cQ (sz:=2) (by intro x hx;obtain⟨r,_,rfl⟩:=List.mem_map.1 hx;rfl),List.length_map]
theorem aXs (s:RefS) {H:Hp} (h:aJ H (bI (hM s)) hK):(SV.c (.own 0 0)).snap H=some (.ptr (hD s.p s.w) 0):=by
 have h0:H 0=some (.cells [.d (int s.p.start),.d (int s.p.fin),.d (.lst 5 (s.p.rows.map RowD.dv)),.d (.lst 3 (s.p.opens.map OpenD.dv)),.d (.lst 4 (s.p.prods.map ProdD.dv)),.mt 9 s.v]):=h.1
 have h9:H 9=some (.mrow 129 2 s.v ((s.w.map yV).flatten.map CV.d)):=h.2.1
 have hm:=nI (k:=1) (s.w.map yV) (by decide) (fun x hx=>by obtain⟨b,_,rfl⟩:=List.mem_map.1 hx;rfl) h9
 show CV.snap H 3 (.own 0 0)=_
 simp only[CV.snap,h0,bN] at hm ⊢
 rw[hm]
 rfl
theorem xK (p:PartD) (w:eE) (pid:Int) (hl:w.length≤100000):aW Tryz.prog 165 [.ptr (hD p w) 0,int pid] (.tup [int (if lL w pid then (wI w pid:Int) else 0),dM (lL w pid)]):=by
 have hile:=aK2 w pid
 have hlt1:=@aK3 w pid
 have hno1:=@aTt w pid
 unfold lL
 generalize wI w pid=i at *
 (refine aW.of_body Tryz.func165 rfl rfl Tryz.ntmps165 Tryz.results165 (by simp) ?_)
 (refine bP ?_)
 refine Wp.loop (fun k:Nat=>⟨iH [(0,.c (.d (.ptr (hD p w) 0))),(1,vi .i64 pid),(6,vi .i64 k)],bI [],0,27,0⟩) (fun k=>k≤i) (fun k=>w.length - k) 0 (Nat.zero_le _) ?_ ?_
 ·refine aD.keep rfl rfl ?_
  (refine aT ?_;try with_reducible exact tt)
 intro k hk
 by_cases hkl:k<w.length
 ·have d1:decide ((k:Int)<(w.length:Int))=true:=decide_eq_true (by omega)
  have hge:w[k]? = some w[k]:=List.getElem?_eq_getElem hkl
  have hwk:IntKind.i64.wrap ((k:Int)+1)=((k+1:Nat):Int):=by rw[bA (by omega)];rfl
  by_cases hki:k=i
  ·have d2:(w[k].1 == pid)=true:=by subst hki;exact beq_iff_eq.2 (hlt1 hkl)
   have hd:decide (i<w.length)=true:=decide_eq_true (by omega)
   rw[hd,if_pos rfl,← hki]
   generalize w[k]=x at *
   (refine gO (ai d1 (ai hge (d2))) ?_)
   (refine aT ?_;try with_reducible exact tt)
  ·have d2:(w[k].1 == pid)=false:=by rw[beq_eq_false_iff_ne];exact hno1 (by omega) hkl
   generalize w[k]=x at *
   (refine gO (ai d1 (ai hge (d2))) ?_)
   refine⟨k+1,by omega,by omega,aD.keep rfl rfl ?_⟩
   (refine rO (hwk) ?_;try with_reducible exact tt)
 ·have d1:decide ((k:Int)<(w.length:Int))=false:=decide_eq_false (by omega)
  have hd:decide (i<w.length)=false:=decide_eq_false (by omega)
  rw[hd,if_neg Bool.false_ne_true]
  (refine gO (d1) ?_)
  (refine aT ?_;try with_reducible exact tt)
theorem xP {H:Hp} (s:RefS) {x:D} (h:aJ H (bI (hM s)) hK):(bN (SV.snap H) [.c (.own 0 0),.c (.d x)]).map (· ++ [])=some [.ptr (hD s.p s.w) 0,x]:=by
 simp only[bN,aXs s h]
 simp only[SV.snap,uE,Option.map_some,List.append_nil]
def RefS.away (s:RefS) (pid:Int):RefS:=if lL s.w pid then ⟨s.p,s.w.eraseIdx (wI s.w pid),s.v+1⟩ else s
theorem aK4 {w:eE} {i:Nat} {x:Int × List BatD} (h:w[i]? = some x):(aY w)[i*2]? = some (.d (int x.1))∧(aY w)[i*2+1]? = some (.d (.lst 5 (x.2.map BatD.dv))):=by
 induction w generalizing i with
 | nil=>simp at h
 | cons y w ih =>
  cases i with
  | zero=>simp at h;subst h;exact⟨rfl,rfl⟩
  | succ i =>
   have h:=ih (i:=i) (by simpa using h)
   have e:aY (y::w)=[.d (int y.1),.d (.lst 5 (y.2.map BatD.dv))]++aY w:=rfl
   rw[e,show (i+1)*2=i*2+2 by omega,show i*2+2+1=i*2+1+2 by omega]
   rw[List.getElem?_append_right (by simp),List.getElem?_append_right (by simp)]
   exact h
theorem aF4 {w:eE} {i:Nat} {x:Int × List BatD} (h:w[i]? = some x):List.take 2 (List.drop (i*2) (aY w))=[.d (int x.1),.d (.lst 5 (x.2.map BatD.dv))]:=by
 induction w generalizing i with
 | nil=>simp at h
 | cons y w ih =>
  have e:aY (y::w)=[.d (int y.1),.d (.lst 5 (y.2.map BatD.dv))]++aY w:=rfl
  cases i with
  | zero=>simp at h;subst h;rw[e];rfl
  | succ i =>
   have h:=ih (i:=i) (by simpa using h)
   rw[e,show (i+1)*2=2+i*2 by omega,← List.drop_drop]
   exact h
theorem aF3 (w u:eE):aY (w++u)=aY w++aY u:=by simp[aY]
theorem aV0 {α:Type} (w:List α) (i j:Nat) (hj:j<w.length):(w.take (j+1)).eraseIdx i=(w.take j).eraseIdx i++(if j=i then [] else [w[j]]):=by
 have hl:(w.take j).length=j:=by rw[List.length_take];omega
 rw[List.take_succ_eq_append_getElem hj]
 rcases Nat.lt_trichotomy i j with h|h|h
 ·rw[List.eraseIdx_append_of_lt_length (by omega),if_neg (by omega)]
 ·subst h
  have h2:(w.take i).eraseIdx i=w.take i:=List.eraseIdx_of_length_le (by omega)
  rw[List.eraseIdx_append_of_length_le (by omega),if_pos rfl,hl,Nat.sub_self,h2];rfl
 ·rw[List.eraseIdx_of_length_le (by rw[List.length_append,hl];simp;omega),List.eraseIdx_of_length_le (by omega),if_neg (by omega)]
abbrev hM2 (s : RefS) (n : Nat) (u : eE) : List (Nat × HE) :=
  [(0, .cells [.d (int s.p.start), .d (int s.p.fin), .d (.lst 5 (s.p.rows.map RowD.dv)), .d (.lst 3 (s.p.opens.map OpenD.dv)), .d (.lst 4 (s.p.prods.map ProdD.dv)), .mt 9 s.v]),
   (9, .mrow 129 2 s.v (aY s.w)), (50, .mrow 129 2 n (aY u))]
theorem aB9 {L:List (Nat × SV)} {s:RefS} {n:Nat} {u:eE} (hL:(L.all fun p=>p.2.ids.all fun i=>[0,9,50].contains i)=true):(gK L (hM2 s n u) && dW ⟨[0,9],[],false,none⟩ (hM2 s n u))=true:=by
 have e1:(hM2 s n u).map (·.1)=[0,9,50]:=rfl
 unfold gK
 rw[e1,hL]
 simp only[List.all_cons,List.all_nil,HE.ids,aY,eS,Bool.and_true,Bool.true_and]
 rfl
theorem aKg (s:RefS) (pid:Int) (hl:s.w.length≤100000) (hno:lL s.w pid=false):FunG Tryz.prog 166 [.c (.own 0 0),.c (.d (int pid))] hK (bI (hM s)) (.c (.d oC)) hK (bI (hM s)):=by
 have c1:=xK s.p s.w pid hl
 rw[hno] at c1
 refine FunG.of_bodyH rfl rfl Tryz.func166 rfl rfl Tryz.ntmps166 Tryz.results166 (Nat.le_of_ble_eq_true rfl) (aEh rfl rfl) ?_
 (refine gO (@aC) ?_)
 (first|refine Wp.sreg (fun K hK=>?_)|refine Wp.reg (fun K hK=>?_))
 (refine rO (@aC) ?_)
 refine fQ c1 rfl (xP s (by (refine rO (ai @aC (ai @aJ.eq_1 (@aJ.eq_2))) ?_;try with_reducible exact tt))) ?_
 (refine rO (@aC) ?_)
 refine hK _ ?_
 clear hK K
 (refine gO (@aC) ?_)
 refine aO.ret ?_
 (refine rO (ai @aC (ai @aJ.eq_1 (@aJ.eq_2))) ?_;try with_reducible exact tt)
theorem xX (s:RefS) (pid:Int) (hl:s.w.length≤100000) (hok:lL s.w pid=true):FunG Tryz.prog 166 [.c (.own 0 0),.c (.d (int pid))] hK (bI (hM s)) (.c (.d (.lst 5 ((dG s.w pid).map BatD.dv)))) hK (bI (hM ⟨s.p,s.w.eraseIdx (wI s.w pid),s.v+1⟩)):=by
 have c1:=xK s.p s.w pid hl
 rw[hok] at c1
 have hlt:wI s.w pid<s.w.length:=of_decide_eq_true hok
 unfold dG
 generalize wI s.w pid=i at *
 obtain⟨p,w,v⟩:=s
 dsimp only at *
 have hgi:w[i]? = some w[i]:=List.getElem?_eq_getElem hlt
 rw[hgi]
 have hai:=aK4 hgi
 have hwl:=eU w
 have hle:i*2+2≤(aY w).length:=by omega
 generalize w[i]=y at *
 dsimp only
 rw[if_pos rfl] at c1
 refine FunG.of_bodyH rfl rfl Tryz.func166 rfl rfl Tryz.ntmps166 Tryz.results166 (Nat.le_of_ble_eq_true rfl) (aEh rfl rfl) ?_
 (refine gO (@aC) ?_)
 (first|refine Wp.sreg (fun K hK=>?_)|refine Wp.reg (fun K hK=>?_))
 (refine rO (@aC) ?_)
 refine fQ c1 rfl (xP ⟨p,w,v⟩ (by (refine rO (ai @aC (ai @aJ.eq_1 (@aJ.eq_2))) ?_;try with_reducible exact tt))) ?_
 (refine rO (@aC) ?_)
 refine hK _ ?_
 clear hK K
 (refine gO (ai @aC (ai hle (ai hai.1 (hai.2)))) ?_)
 have hdiv:(aY w).length / 2=w.length:=by rw[hwl,Nat.mul_div_cancel _ (by decide)]
 refine Wp.weak (aD.mtNew 1 (by decide) (t:=8) (τ:=50) (e:=129) (sz:=2) (by decide) (by (refine rO (@aC) ?_;try with_reducible exact tt)) (by (refine rO (@aC) ?_;try with_reducible exact tt)) (.inl rfl)) ?_
 refine Wp.loop (fun k:Nat=>⟨iH [(0,.c (.own 0 0)),(5,vi .i64 i),(7,.c (.d (.lst 5 (y.2.map BatD.dv)))),(8,.c (.mt 50 (1+((w.take k).eraseIdx i).length))),(9,vi .i64 k)],bI (hM2 ⟨p,w,v⟩ (1+((w.take k).eraseIdx i).length) ((w.take k).eraseIdx i)),1000,53,⟨[0,9],[],false,none⟩⟩) (fun k=>k≤w.length) (fun k=>w.length - k) 0 (Nat.zero_le _) ?_ ?_
 ·refine aD.keep rfl (aB9 rfl) ?_
  simp (maxSteps:=2000000) (disch:=omega) only[gE,TY,bW,eH,fP,SV.ofD,eA,eO,fI,fJ,bR,fK,eX,eQ,fL,eL,fG,fF,fH,CV.exact,CV.lstOf,CV.lenOf,CV.one,D.one,Value.oneCell',CV.toD0,fX,eF,fZ,fC,rD0,gC,fD,fY,reduceCtorEq,reduceIte,Nat.reduceBEq,Nat.reduceEqDiff,Nat.reduceAdd,Nat.reduceMul,Nat.reduceSub,Nat.reduceLT,Nat.reduceLeDiff,Nat.reduceBNe,Int.reduceLE,Int.reduceLT,Int.reduceBEq,Int.reduceBNe,Int.reduceEq,Int.reduceNeg,Int.reduceAdd,Int.reduceSub,Int.reduceToNat,forall_const,aC,List.take_zero,List.eraseIdx_nil,List.length_nil,aY,List.map_nil,List.flatten_nil]
 intro k hk
 (refine gO (ai @aC (hdiv)) ?_)
 refine Wp.cond (by (refine aT ?_);rfl) (fun h=>?_) (fun h=>?_)
 ·have hkl:k<w.length:=by simpa using h
  have hgk:w[k]? = some w[k]:=List.getElem?_eq_getElem hkl
  have hwk:IntKind.i64.wrap ((k:Int)+1)=((k+1:Nat):Int):=by rw[bA (by omega)];rfl
  have hsn:=aV0 w i k hkl
  have hak:=aF4 hgk
  have hle2:k*2+2≤(aY w).length:=by omega
  have hul:((w.take k).eraseIdx i).length≤100000:=by
   have h1:=List.length_eraseIdx_le (w.take k) i
   rw[List.length_take] at h1;omega
  generalize w[k]=x at *
  generalize (w.take k).eraseIdx i=u at *
  by_cases hki:k=i
  ·have d2:((k:Int) != (i:Int))=false:=by simp[hki]
   rw[if_pos hki,List.append_nil] at hsn
   (refine gO (ai @aC (d2)) ?_)
   refine⟨k+1,hkl,by omega,?_⟩
   rw[hsn]
   refine aD.keep rfl (aB9 rfl) ?_
   (refine rO (ai @aC (hwk)) ?_;try with_reducible exact tt)
  ·have d2:((k:Int) != (i:Int))=true:=by simp;omega
   rw[if_neg hki] at hsn
   have hsz:((aY u).length+1)*32≤140737488355328:=by rw[eU];omega
   have hun:1+(u++[x]).length=1+u.length+1:=by simp;omega
   have huc:aY (u++[x])=aY u++[.d (int x.1),.d (.lst 5 (x.2.map BatD.dv))]:=by rw[aF3];rfl
   (refine gO (ai @aC (ai d2 (ai hdiv (ai hle2 (ai hak (hsz)))))) ?_)
   refine⟨k+1,hkl,by omega,?_⟩
   rw[hsn]
   refine aD.keep rfl (aB9 rfl) ?_
   (refine rO (ai @aC (ai hwk (ai hun (ai huc (ai @List.map_cons.{0,0} (ai @List.map_nil.{0,0} (ai @List.flatten_cons.{0} (ai @List.flatten_nil.{0} (@List.append_nil.{0}))))))))) ?_;try with_reducible exact tt)
 ·have hkl:k=w.length:=by
   have:¬ k<w.length:=by simpa using h
   omega
  subst hkl
  rw[List.take_length]
  refine Wp.weak (aD.mtMove (t:=8) (τ:=9) (τ2:=50) (n:=v) (n2:=1+(w.eraseIdx i).length) (cs:=aY w) (cs2:=aY (w.eraseIdx i)) (e:=129) (e2:=129) (sz:=2) (sz2:=2) (v+1) (Nat.lt_succ_self _) (by decide) (by (refine rO (@aC) ?_;try with_reducible exact tt)) (by (refine rO (@aC) ?_;try with_reducible exact tt)) (by (refine rO (@aC) ?_;try with_reducible exact tt))) ?_
  (refine gO (@aC) ?_)
  refine aO.ret ?_
  (refine rO (ai @aC (ai @aJ.eq_1 (@aJ.eq_2))) ?_;try with_reducible exact tt)
set_option maxHeartbeats 16000000
def iX (p:PartD) (b:BatD):PartD:={ p with prods:=(aG p.prods b (-1)).1,rows:=p.rows++cS b p.fin,fin:=p.fin+(b.recs.length:Int) }
def aF:PartD→List BatD→Bool × PartD
 | p,[]=>(true,p)
 | p,b::l=>if (aG p.prods b (-1)).2≠0 then (false,p) else aF (iX p b) l
theorem qG:∀ (l:List BatD) (p:PartD) (r:List BatD),aF p (l++r)=if (aF p l).1 then aF (aF p l).2 r else aF p l
 | [],p,r=>rfl
 | b::l,p,r=>by
  show (if (aG p.prods b (-1)).2≠0 then (false,p) else aF (iX p b) (l++r))=if (if (aG p.prods b (-1)).2≠0 then (false,p) else aF (iX p b) l).1 then _ else _
  by_cases h:(aG p.prods b (-1)).2≠0
  ·have e:aF p (b::l)=(false,p):=by show (if _ then _ else _)=_;rw[if_pos h]
   rw[if_pos h,if_pos h,e];rfl
  ·have e:aF p (b::l)=aF (iX p b) l:=by show (if _ then _ else _)=_;rw[if_neg h]
   rw[if_neg h,if_neg h,e];exact qG l _ r
def lO (w:eE) (pid:Int):eE:=if lL w pid then w else w++[(pid,[])]
def kA (l:List BatD) (b:BatD):Bool:=decide (8≤(l.length:Int)) || match l with
 | []=>false
 | c::_=>c.epoch != b.epoch
def aI8 (s:RefS) (pid:Int):Nat:=if lL s.w pid then s.v else s.v+1
def lA (s:RefS) (e:EntD):Bool × RefS :=
 if kA (dG s.w e.b.pid) e.b then (false,⟨s.p,lO s.w e.b.pid,aI8 s e.b.pid⟩) else
 if e.yes=false then (true,⟨s.p,(lO s.w e.b.pid).set (wI s.w e.b.pid) (e.b.pid,dG s.w e.b.pid++[e.b]),aI8 s e.b.pid⟩) else
 if e.next≠eB e.b then (false,⟨s.p,(lO s.w e.b.pid).set (wI s.w e.b.pid) (e.b.pid,dG s.w e.b.pid++[e.b]),aI8 s e.b.pid⟩) else
 if (aF s.p (dG s.w e.b.pid++[e.b])).1=false then (false,⟨(aF s.p (dG s.w e.b.pid++[e.b])).2,(lO s.w e.b.pid).eraseIdx (wI s.w e.b.pid),aI8 s e.b.pid+1⟩) else
 (true,⟨{ (aF s.p (dG s.w e.b.pid++[e.b])).2 with prods:=lN (aF s.p (dG s.w e.b.pid++[e.b])).2.prods e.b.pid },(lO s.w e.b.pid).eraseIdx (wI s.w e.b.pid),aI8 s e.b.pid+1⟩)
theorem sW {w:eE} {pid:Int} (h:lL w pid=false):wI w pid=w.length:=by
 have h1:=aK2 w pid
 have h2:¬ wI w pid<w.length:=of_decide_eq_false h
 omega
theorem aR8 (w:eE) (pid:Int):(lO w pid)[wI w pid]? = some (pid,dG w pid):=by
 unfold lO dG
 cases h:lL w pid with
 | true =>
  have hlt:wI w pid<w.length:=of_decide_eq_true h
  rw[if_pos rfl,List.getElem?_eq_getElem hlt]
  exact congrArg some (Prod.ext (aK3 hlt) rfl)
 | false =>
  rw[if_neg Bool.false_ne_true,sW h,List.getElem?_append_right (Nat.le_refl _),Nat.sub_self,List.getElem?_eq_none (Nat.le_refl _)];rfl
theorem aMw (w:eE) (pid:Int):(lO w pid).length≤w.length+1:=by
 unfold lO;split
 ·omega
 ·rw[List.length_append];simp
theorem aQ9 {w:eE} {i:Nat} {y:Int × List BatD} (h:w[i]? = some y) (c:CV) (l:List BatD):(List.take (i*2+1) (aY w)++c::List.drop (i*2+2) (aY w)).set (i*2+1) (.d (.lst 5 (l.map BatD.dv)))=aY (w.set i (y.1,l)):=by
 have hlt:=(List.getElem?_eq_some_iff.1 h).1
 have hwl:=eU w
 have hl:(List.take (i*2+1) (aY w)).length=i*2+1:=by rw[List.length_take];omega
 rw[List.set_append_right _ _ (by omega),hl,Nat.sub_self,List.set_cons_zero]
 induction w generalizing i with
 | nil=>simp at h
 | cons z w ih =>
  have e:∀ z w,aY (z::w) = .d (int z.1) :: .d (.lst 5 (z.2.map BatD.dv))::aY w:=fun _ _=>rfl
  cases i with
  | zero =>
   simp at h;subst h
   rw[List.set_cons_zero,e,e];rfl
  | succ i =>
   have h' : w[i]? = some y:=by simpa using h
   have hlt' : i<w.length:=(List.getElem?_eq_some_iff.1 h').1
   have hwl':=eU w
   have ih:=ih h' hlt' hwl' (by rw[List.length_take];omega)
   rw[List.set_cons_succ,e,e,← ih,show (i+1)*2+1=i*2+1+2 by omega,show (i+1)*2+2=i*2+2+2 by omega]
   simp only[List.take_succ_cons,List.drop_succ_cons,List.cons_append]
theorem aD.rowAppD {σ:St} {id k e sz n τ s:Nat} {cs:List CV} {xs:List (List D)} (hid:σ.H id=some (.mrow e sz n cs)) (hk:cs[k]? = some (.app τ s xs)) :
  aD σ { σ with H:=upd σ.H id (some (.mrow e sz n (cs.set k (.d (.lst s xs))))) }:=by
 intro W0 K0 g a w r
 have hne0:cs≠[]:=fun q=>by subst q;simp at hk
 obtain⟨_,_,hcase⟩:=r.mem.holds id _ hid
 obtain⟨b,cur,vs,rest,hb,hheap,hcur,hcsz,hr,h1,hn⟩:=hcase.resolve_left (fun h=>hne0 h.2)
 have hr' : bK g σ.H (cs.set k (.d (.lst s xs))) vs:=by
  refine⟨by simp[hr.1],fun j z v hz hv2=>?_⟩
  rw[List.getElem?_set] at hz
  split at hz
  ·rename_i e
   subst e
   split at hz
   ·cases hz
    exact (hr.2 _ _ _ hk hv2).1
   ·cases hz
  ·exact hr.2 j z v hz hv2
 obtain⟨h8,h9⟩:=RelH.mwr (cs':=cs.set k (.d (.lst s xs))) (cur':=cur) r.mem hid hb hheap (by simp) hcur rfl hr' h1
 rw[setRow_self w b cur e (0,0) hheap] at h8
 exact⟨g,h8,fun t=>(r.env t).mono h9,r.size,r.defers.mono h9 (fun i o hi=>by
  show upd σ.H id _ i=_
  rw[aA _ _ (fun e=>by subst e;rw[hid] at hi;cases hi)];exact hi),r.ln,r.rd,r.nodup,r.lt⟩
theorem aD.rowLe {σ:St} {id k e sz n:Nat} {cs:List CV} {x y:D} (hid:σ.H id=some (.mrow e sz n cs)) (hk:cs[k]? = some (.d x)) (hle:lU x y) :
  aD σ { σ with H:=upd σ.H id (some (.mrow e sz n (cs.set k (.d y)))) }:=by
 intro W0 K0 g a w r
 have hne0:cs≠[]:=fun q=>by subst q;simp at hk
 obtain⟨_,_,hcase⟩:=r.mem.holds id _ hid
 obtain⟨b,cur,vs,rest,hb,hheap,hcur,hcsz,hr,h1,hn⟩:=hcase.resolve_left (fun h=>hne0 h.2)
 have hr' : bK g σ.H (cs.set k (.d y)) vs:=by
  refine⟨by simp[hr.1],fun j z v hz hv2=>?_⟩
  rw[List.getElem?_set] at hz
  split at hz
  ·rename_i e
   subst e
   split at hz
   ·cases hz
    exact hle _ _ (hr.2 _ _ _ hk hv2)
   ·cases hz
  ·exact hr.2 j z v hz hv2
 obtain⟨h8,h9⟩:=RelH.mwr (cs':=cs.set k (.d y)) (cur':=cur) r.mem hid hb hheap (by simp) hcur rfl hr' h1
 rw[setRow_self w b cur e (0,0) hheap] at h8
 exact⟨g,h8,fun t=>(r.env t).mono h9,r.size,r.defers.mono h9 (fun i o hi=>by
  show upd σ.H id _ i=_
  rw[aA _ _ (fun e=>by subst e;rw[hid] at hi;cases hi)];exact hi),r.ln,r.rd,r.nodup,r.lt⟩
abbrev hMx (s : RefS) (e : EntD) : List (Nat × HE) :=
  [(0, .cells [.d (int s.p.start), .d (int s.p.fin), .d (.lst 5 (s.p.rows.map RowD.dv)), .d (.lst 3 (s.p.opens.map OpenD.dv)), .d (.lst 4 (s.p.prods.map ProdD.dv)), .mt 9 s.v]),
   (9, .mrow 129 2 s.v (aY s.w)), (1000, .cells (e.dv.map CV.d))]
theorem rP {L:List (Nat × SV)} {s:RefS} {e:EntD} (hL:(L.all fun p=>p.2.ids.all fun i=>[0,9,1000].contains i)=true):(gK L (hMx s e) && dW ⟨[0,9],[],false,none⟩ (hMx s e))=true:=by
 have e1:(hMx s e).map (·.1)=[0,9,1000]:=rfl
 unfold gK
 rw[e1,hL]
 simp only[List.all_cons,List.all_nil,HE.ids,aY,eS,Bool.and_true,Bool.true_and]
 rfl
structure Sm14 (p:PartD) (w:eE):Prop where
 fin:0≤p.fin∧p.fin≤1048576
 opens:p.opens.length≤1000
 rows:p.rows.length≤100000
 prods:p.prods.length≤10000
 seen:∀ x ∈ p.prods,x.seen.length≤100
 wts:w.length≤1000
 bats:∀ x ∈ w,x.2.length≤8
 recs:∀ x ∈ w,∀ b ∈ x.2,b.recs.length≤4
theorem sU:∀ (l:List BatD) (p:PartD),(∀ b ∈ l,b.recs.length≤4)→(∀ x ∈ p.prods,x.seen.length≤100) →
  (aF p l).2.opens=p.opens∧(aF p l).2.start=p.start∧(aF p l).2.rows.length≤p.rows.length+4*l.length∧p.fin≤(aF p l).2.fin∧(aF p l).2.fin≤p.fin+4*l.length∧(aF p l).2.prods.length≤p.prods.length+l.length∧∀ x ∈ (aF p l).2.prods,x.seen.length≤100
 | [],p,_,h2=>⟨rfl,rfl,by simp[aF],by simp[aF],by simp[aF],by simp[aF],h2⟩
 | b::l,p,hr,h2=>by
  have hb:=hr b (List.mem_cons_self ..)
  by_cases h:(aG p.prods b (-1)).2≠0
  ·have e:aF p (b::l)=(false,p):=by show (if _ then _ else _)=_;rw[if_pos h]
   rw[e]
   refine⟨rfl,rfl,by simp,by simp,by simp only[List.length_cons];omega,by simp,h2⟩
  ·have e:aF p (b::l)=aF (iX p b) l:=by show (if _ then _ else _)=_;rw[if_neg h]
   rw[e]
   obtain⟨t1,t2⟩:=kX (k:=p.prods.length) b (-1) (Nat.le_refl _) h2
   have hpl:(iX p b).prods.length≤p.prods.length+1:=t1
   have hrl:(iX p b).rows.length=p.rows.length+b.recs.length:=by show (p.rows++cS b p.fin).length=_;rw[List.length_append,kV]
   have hfl:(iX p b).fin=p.fin+(b.recs.length:Int):=rfl
   obtain⟨q1,q2,q3,q4,q5,q6,q7⟩:=sU l (iX p b) (fun x hx=>hr x (List.mem_cons_of_mem _ hx)) t2
   refine⟨q1,q2,?_,?_,?_,?_,q7⟩
   ·rw[List.length_cons];omega
   ·omega
   ·rw[List.length_cons];omega
   ·rw[List.length_cons];omega
theorem aTu {w1:eE} {i:Nat} {pid:Int} {L:List BatD} (hlt:i<w1.length) (hno:∀ j (h:j<w1.length),j<i→w1[j].1≠pid):wI (w1.set i (pid,L)) pid=i:=by
 unfold wI
 rw[List.findIdx_eq (by rw[List.length_set];exact hlt)]
 refine⟨by rw[List.getElem_set_self];simp,fun j hj=>?_⟩
 rw[List.getElem_set_ne (by omega)]
 simpa using hno j (by omega) hj
theorem yR {p:PartD} {l:List BatD} {k:Nat} (hk:k<l.length) (h:(aF p (l.take k)).1=true):aF p (l.take (k+1))=if (aG (aF p (l.take k)).2.prods l[k] (-1)).2≠0 then (false,(aF p (l.take k)).2) else (true,iX (aF p (l.take k)).2 l[k]):=by
 rw[List.take_succ_eq_append_getElem hk,qG,if_pos h]
 rfl
theorem yS {p:PartD} {l:List BatD} {k:Nat} (h:(aF p (l.take k)).1=false):aF p l=aF p (l.take k):=by
 conv=>lhs;rw[← List.take_append_drop k l]
 rw[qG,if_neg (by rw[h];simp)]
theorem aR9 (w:eE) (pid:Int):∀ j (h:j<(lO w pid).length),j<wI w pid→(lO w pid)[j].1≠pid:=fun j h hj=>by
 have hle:=aK2 w pid
 have hjl:j<w.length:=by omega
 have hn:=aTt hj hjl
 unfold lO at h ⊢
 split at h
 ·rename_i hk;simp only[hk,if_true];exact hn
 ·rename_i hk
  have e:(if lL w pid=true then w else w++[(pid,[])])[j]? = w[j]?:=by rw[if_neg hk,List.getElem?_append_left hjl]
  have e2:=List.getElem?_eq_getElem hjl
  rw[e2] at e
  have e3:=(List.getElem?_eq_some_iff.1 e).2
  rw[e3];exact hn
theorem aNm {p:PartD} {w:eE} (h:Sm14 p w) (pid:Int):(dG w pid).length≤8∧∀ b ∈ dG w pid,b.recs.length≤4:=by
 unfold dG
 cases hq:w[wI w pid]? with
 | none=>exact⟨by simp,fun b hb=>by simp at hb⟩
 | some x =>
  have hm:=List.mem_of_getElem? hq
  exact⟨h.bats x hm,h.recs x hm⟩
theorem aFw (s:RefS) (e:EntD) (hsm:Sm14 s.p s.w) (hb:e.b.recs.length≤4):FunG Tryz.prog 113 [.c (.own 0 0),jG e] hK (bI (hM s)) (.c (.d (dM (lA s e).1))) hK (bI (hM (lA s e).2)):=by
 have c1:=xK s.p s.w e.b.pid (by have:=hsm.wts;omega)
 obtain⟨hl8,hlr⟩:=aNm hsm e.b.pid
 have hea:=aR8 s.w e.b.pid
 have hel:=aMw s.w e.b.pid
 have hwts:=hsm.wts
 have hile:=aK2 s.w e.b.pid
 obtain⟨l,hl⟩:∃ l,l=dG s.w e.b.pid:=⟨_,rfl⟩
 obtain⟨w1,hw1⟩:∃ w1,w1=lO s.w e.b.pid:=⟨_,rfl⟩
 obtain⟨v1,hv1⟩:∃ v1,v1=aI8 s e.b.pid:=⟨_,rfl⟩
 have hen:∀ j (h:j<w1.length),j<wI s.w e.b.pid→w1[j].1≠e.b.pid:=by subst hw1;exact aR9 _ _
 rw[← hl,← hw1] at hea
 rw[← hw1] at hel
 rw[← hl] at hl8 hlr
 have hai:=aK4 hea
 have hwl1:=eU w1
 have hlt1:=(List.getElem?_eq_some_iff.1 hea).1
 have hcase:(lL s.w e.b.pid=true∧w1=s.w∧v1=s.v)∨(lL s.w e.b.pid=false∧w1=s.w++[(e.b.pid,[])]∧v1=s.v+1∧wI s.w e.b.pid=s.w.length):=by
  cases hk:lL s.w e.b.pid with
  | true=>left;rw[hw1,hv1];unfold lO aI8;rw[hk];exact⟨rfl,rfl,rfl⟩
  | false=>right;rw[hw1,hv1];unfold lO aI8;rw[hk];exact⟨rfl,rfl,rfl,sW hk⟩
 unfold lA
 rw[← hl,← hw1,← hv1]
 clear hl hw1 hv1
 generalize wI s.w e.b.pid=i at *
 refine FunG.of_bodyH rfl rfl Tryz.func113 rfl rfl Tryz.ntmps113 Tryz.results113 (Nat.le_of_ble_eq_true rfl) (aEh rfl rfl) ?_
 (refine gO (ai @aC (@EntD.dv.eq_1)) ?_)
 (first|refine Wp.sreg (fun K hK=>?_)|refine Wp.reg (fun K hK=>?_))
 (refine rO (ai @aC (@EntD.dv.eq_1)) ?_)
 refine fQ c1 rfl (xP s (by (refine rO (ai @aC (ai @aJ.eq_1 (@aJ.eq_2))) ?_;try with_reducible exact tt))) ?_
 (refine rO (@aC) ?_)
 refine hK _ ?_
 clear hK K
 (refine gO (@aC) ?_)
 refine Wp.meetT ⟨iH [(0,.c (.own 0 0)),(3,.c (.own 1000 0)),(5,vi .i64 i)],bI (hMx ⟨s.p,w1,v1⟩ e),1001,148,⟨[0,9],[],false,none⟩⟩ ?_ ?_
 ·rcases hcase with ⟨hk,rfl,rfl⟩|⟨hk,rfl,rfl,hi⟩
  ·rw[hk]
   (refine gO (@aC) ?_)
   refine aD.keep rfl (rP rfl) ?_
   (refine rO (ai @aC (ai @EntD.dv.eq_1 (ai @if_true.{1} (ai @List.map_cons.{0,0} (@List.map_nil.{0,0}))))) ?_;try with_reducible exact tt)
  ·rw[hk]
   have hsz:((aY s.w).length+1)*32≤140737488355328:=by rw[eU];omega
   have hwa:aY (s.w++[(e.b.pid,[])])=aY s.w++[.d (int e.b.pid),.d (.lst 5 [])]:=by rw[aF3];rfl
   have hdiv:(aY s.w++[CV.d (int e.b.pid),.d (.val (.slice none 0 0))]).length / 2=s.w.length+1:=by rw[List.length_append,eU];show (s.w.length*2+2) / 2=_;omega
   have hwr:IntKind.i64.wrap (((s.w.length+1:Nat):Int) - 1)=(s.w.length:Int):=by rw[bA (by omega)];omega
   (refine gO (ai @aC (ai @EntD.dv.eq_1 (ai hsz (ai @List.flatten_cons.{0} (ai @List.flatten_nil.{0} (ai @List.append_nil.{0} (ai @List.map_cons.{0,0} (ai @List.map_nil.{0,0} (ai hdiv (hwr)))))))))) ?_)
   have hset:(aY s.w++[CV.d (int e.b.pid),.d (.val (.slice none 0 0))]).set (s.w.length*2+1) (.d (.lst 5 []))=aY (s.w++[(e.b.pid,[])]):=by
    rw[hwa,List.set_append_right _ _ (by rw[eU];omega),eU,Nat.add_sub_cancel_left];rfl
   refine aD.trans (aD.rowLe (id:=9) (k:=s.w.length*2+1) (cs:=aY s.w++[CV.d (int e.b.pid),.d (.val (.slice none 0 0))]) (e:=129) (sz:=2) (n:=s.v+1) (x:=.val (.slice none 0 0)) (y:=.lst 5 []) (by (refine rO (ai @aC (ai @List.flatten_cons.{0} (ai @List.flatten_nil.{0} (ai @List.append_nil.{0} (ai @List.map_cons.{0,0} (@List.map_nil.{0,0})))))) ?_;try with_reducible exact tt)) (by rw[List.getElem?_append_right (by rw[eU];omega),eU,Nat.add_sub_cancel_left];rfl) (lU.nil 5)) ?_
   rw[hset]
   refine aD.keep rfl (rP rfl) ?_
   (refine rO (ai @aC (ai @EntD.dv.eq_1 (ai hi (ai @List.flatten_cons.{0} (ai @List.flatten_nil.{0} (ai @List.append_nil.{0} (ai @List.map_cons.{0,0} (@List.map_nil.{0,0})))))))) ?_;try with_reducible exact tt)
 have hle:i*2+2≤(aY w1).length:=by omega
 (refine gO (ai @aC (ai hle (ai hai.1 (ai hai.2 (ai @EntD.dv.eq_1 (ai @List.map_cons.{0,0} (@List.map_nil.{0,0}))))))) ?_)
 (first|refine Wp.stoD 67 (vb (kA l e.b)) aI ?_ ?_|refine Wp.rtoDS 67 (vb (kA l e.b)) aI ?_ ?_|(refine Wp.seq ?_;first|refine Wp.stoD 67 (vb (kA l e.b)) aI ?_ ?_|refine Wp.rtoDS 67 (vb (kA l e.b)) aI ?_ ?_))
 ·rcases Nat.eq_zero_or_pos l.length with h0|h0
  ·have e0:kA l e.b=false:=by rw[List.eq_nil_of_length_eq_zero h0];rfl
   have d8:decide ((8:Int)≤(l.length:Int))=false:=decide_eq_false (by omega)
   have dp:decide ((0:Int)<(l.length:Int))=false:=decide_eq_false (by omega)
   rw[e0]
   ((refine rO (ai @EntD.dv.eq_1 (ai d8 (dp))) ?_);(repeat (refine dB (by assumption) ?_;(refine rO (ai @EntD.dv.eq_1 (ai d8 (dp))) ?_))))
   all_goals (exact (show bE _ _=true by kernel_rfl))
  ·have hg0:l[0]? = some l[0]:=List.getElem?_eq_getElem h0
   have e0:kA l e.b=(decide ((8:Int)≤(l.length:Int)) || (l[0].epoch != e.b.epoch)):=by
    cases l with
    | nil=>simp at h0
    | cons c r=>rfl
   have dp:decide ((0:Int)<(l.length:Int))=true:=decide_eq_true (by omega)
   rw[e0]
   generalize l[0]=c at *
   cases q1:decide ((8:Int)≤(l.length:Int))<;>cases q2:(c.epoch != e.b.epoch)<;>(((refine rO (ai @EntD.dv.eq_1 (ai @BatD.dv.eq_1 (ai hg0 (ai q1 (ai q2 (dp)))))) ?_);(repeat (refine dB (by assumption) ?_;(refine rO (ai @EntD.dv.eq_1 (ai @BatD.dv.eq_1 (ai hg0 (ai q1 (ai q2 (dp)))))) ?_))));all_goals (exact (show bE _ _=true by kernel_rfl)))
 cases hbad:kA l e.b with
 | true =>
  (refine gO (@aC) ?_)
  refine aO.ret ?_
  (refine rO (ai @aC (ai @aJ.eq_1 (ai @aJ.eq_2 (@if_true.{1})))) ?_;try with_reducible exact tt)
 | false =>
 rw[if_neg Bool.false_ne_true]
 (refine gO (@aC) ?_)
 have hb8:l.length*56≤140737488355328:=by omega
 have hb9:(l.length+1)*56≤140737488355328:=by omega
 have hle1:i*2+1+1≤(aY w1).length:=by omega
 refine Wp.weak (aD.nilApp (t:=8) (τ:=60) 62 5 (by (refine rO (@aC) ?_;try with_reducible exact tt)) (by (refine rO (@aC) ?_;try with_reducible exact tt))) ?_
 (refine gO (ai @aC (ai hb8 (ai hb9 (ai hle (ai hle1 (ai @EntD.dv.eq_1 (ai @List.length_map.{0,0} (ai @List.map_cons.{0,0} (@List.map_nil.{0,0}))))))))) ?_)
 obtain⟨w2,hw2⟩:∃ w2,w2=w1.set i (e.b.pid,l++[e.b]):=⟨_,rfl⟩
 obtain⟨cA,hcA⟩:∃ cA,cA=CV.app 60 5 (l.map BatD.dv++[[int e.b.pid,int e.b.epoch,int e.b.seq,dM e.b.txn,.lst 2 (e.b.recs.map RecD.dv)]]):=⟨_,rfl⟩
 have htl:(List.take (i*2+1) (aY w1)).length=i*2+1:=by rw[List.length_take];omega
 have hset:(List.take (i*2+1) (aY w1)++[cA]++List.drop (i*2+1+1) (aY w1)).set (i*2+1) (.d (.lst 5 ((l++[e.b]).map BatD.dv)))=aY w2:=by
  rw[hw2,← aQ9 hea cA (l++[e.b])]
  simp only[List.append_assoc,List.singleton_append]
 have hat2:(List.take (i*2+1) (aY w1)++[cA]++List.drop (i*2+1+1) (aY w1))[i*2+1]? = some cA:=by
  rw[List.append_assoc,List.getElem?_append_right (by omega),htl,Nat.sub_self];rfl
 have hxs:(l++[e.b]).map BatD.dv=l.map BatD.dv++[[int e.b.pid,int e.b.epoch,int e.b.seq,dM e.b.txn,.lst 2 (e.b.recs.map RecD.dv)]]:=by rw[List.map_append];rfl
 rw[hcA] at hset hat2
 rw[hxs] at hset
 refine Wp.weak (σ':=⟨iH [(0,.c (.own 0 0)),(3,.c (.own 1000 0)),(85,vb (!e.yes))],bI (hMx ⟨s.p,w2,v1⟩ e),1001,148,⟨[0,9],[],false,none⟩⟩) (aD.trans (aD.rowAppD (id:=9) (k:=i*2+1) (e:=129) (sz:=2) (n:=v1) (by (refine rO (@aC) ?_;try with_reducible exact tt)) hat2) ?_) ?_
 ·rw[hset]
  refine aD.keep rfl (rP rfl) ?_
  (refine rO (ai @aC (ai @EntD.dv.eq_1 (ai @List.map_cons.{0,0} (@List.map_nil.{0,0})))) ?_;try with_reducible exact tt)
 cases hy:e.yes with
 | false =>
  (refine gO (@aC) ?_)
  refine aO.ret ?_
  (refine rO (ai @aC (ai @aJ.eq_1 (ai @aJ.eq_2 (ai @if_true.{1} (hw2))))) ?_;try with_reducible exact tt)
 | true =>
 rw[if_neg (by simp)]
 have c2:=aBn e.b
 simp only[BatD.dv] at c2
 by_cases hn:e.next≠eB e.b
 ·have dn:(e.next != eB e.b)=true:=by simpa using hn
  rw[if_pos hn]
  (refine gO (ai @aC (ai @EntD.dv.eq_1 (ai dn (ai @List.map_cons.{0,0} (@List.map_nil.{0,0}))))) ?_)
  refine aO.ret ?_
  (refine rO (ai @aC (ai @aJ.eq_1 (ai @aJ.eq_2 (hw2)))) ?_;try with_reducible exact tt)
 have dn:(e.next != eB e.b)=false:=by simpa using hn
 rw[if_neg hn]
 have hi2:wI w2 e.b.pid=i:=by rw[hw2];exact aTu hlt1 hen
 have hl2:w2.length=w1.length:=by rw[hw2,List.length_set]
 have hk2:lL w2 e.b.pid=true:=by unfold lL;rw[hi2];exact decide_eq_true (by omega)
 have ha2:dG w2 e.b.pid=l++[e.b]:=by
  unfold dG;rw[hi2,hw2,List.getElem?_set_self hlt1]
 have he2:w2.eraseIdx i=w1.eraseIdx i:=by rw[hw2,List.eraseIdx_set_eq]
 have c3:=xX ⟨s.p,w2,v1⟩ e.b.pid (by show w2.length≤_;omega) hk2
 dsimp only at c3
 rw[hi2,ha2,he2] at c3
 have hLl:(l++[e.b]).length≤9:=by rw[List.length_append];simp;omega
 have hLr:∀ b ∈ l++[e.b],b.recs.length≤4:=fun b hbm=>by
  rcases List.mem_append.1 hbm with h1|h1
  ·exact hlr b h1
  ·simp at h1;subst h1;exact hb
 generalize l++[e.b]=L at *
 generalize w1.eraseIdx i=w3 at *
 (refine gO (ai @aC (ai @EntD.dv.eq_1 (ai dn (ai @List.map_cons.{0,0} (@List.map_nil.{0,0}))))) ?_)
 (first|refine Wp.sregG ?_|refine Wp.regG ?_|(refine Wp.seq ?_;first|refine Wp.sregG ?_|refine Wp.regG ?_))
 (refine aH.at 4 (fun K hK=>?_);(refine rO (ai @aC (ai @EntD.dv.eq_1 (ai @List.map_cons.{0,0} (@List.map_nil.{0,0})))) ?_);refine hK _ ?_;clear hK K)
 (refine aH.call (c3) [] 1010 rfl rfl ?_ ?_;(focus ((refine wG (ai @cT (ai @aC (ai @aM (ai @EntD.dv.eq_1 (ai @List.map_cons.{0,0} (@List.map_nil.{0,0})))))) ?_;try with_reducible exact tt);done)))
 (refine aH.done (fun K hK=>?_);(refine rOt (ai @aC (ai @cH.eq_1 (ai @cH.eq_2 (ai @aM (ai @bU (ai @List.map_cons.{0,0} (@List.map_nil.{0,0}))))))) ?_);refine hK _ ?_;clear hK K)
 (refine gO (@aC) ?_)
 have hsm0:=hsm.prods
 have hfin:=hsm.fin
 have hrows:=hsm.rows
 refine Wp.loop (fun k:Nat=>⟨iH [(0,.c (.own 0 0)),(3,.c (.own 1000 0)),(9,.c (.d (.lst 5 (L.map BatD.dv)))),(10,vi .i64 k)],bI (hMx ⟨(aF s.p (L.take k)).2,w3,v1+1⟩ e),1010,148,⟨[0,9],[],false,none⟩⟩) (fun k=>k≤L.length∧(aF s.p (L.take k)).1=true) (fun k=>L.length - k) 0 ⟨Nat.zero_le _,rfl⟩ ?_ ?_
 ·refine aD.keep rfl (rP rfl) ?_
  simp (maxSteps:=2000000) (disch:=omega) only[gE,TY,bW,eH,fP,SV.ofD,eA,eO,fI,fJ,bR,fK,eX,eQ,fL,eL,fG,fF,fH,CV.exact,CV.lstOf,CV.lenOf,CV.one,D.one,Value.oneCell',CV.toD0,fX,eF,fZ,fC,rD0,gC,fD,fY,reduceCtorEq,reduceIte,Nat.reduceBEq,Nat.reduceEqDiff,Nat.reduceAdd,Nat.reduceMul,Nat.reduceSub,Nat.reduceLT,Nat.reduceLeDiff,Nat.reduceBNe,Int.reduceLE,Int.reduceLT,Int.reduceBEq,Int.reduceBNe,Int.reduceEq,Int.reduceNeg,Int.reduceAdd,Int.reduceSub,Int.reduceToNat,forall_const,aC,EntD.dv,aF,List.take_zero,List.map_cons,List.map_nil]
 rintro k ⟨hk,htk⟩
 obtain⟨g1,g2,g3,g4,g5,g6,g7⟩:=sU (L.take k) s.p (fun b hbm=>hLr b (List.mem_of_mem_take hbm)) hsm.seen
 have hlt9:(L.take k).length≤9:=by rw[List.length_take];omega
 have hqs:SmallL (aF s.p (L.take k)).2.prods:=⟨by omega,fun x hx=>by have:=g7 x hx;omega⟩
 by_cases hkl:k<L.length
 ·have d1:decide ((k:Int)<(L.length:Int))=true:=decide_eq_true (by omega)
  have hge:L[k]? = some L[k]:=List.getElem?_eq_getElem hkl
  have hwk:IntKind.i64.wrap ((k:Int)+1)=((k+1:Nat):Int):=by rw[bA (by omega)];rfl
  have hsn:=yR hkl htk
  have hx:=hLr _ (List.getElem_mem hkl)
  generalize L[k]=b at *
  have hstop:=fun h=>yS (p:=s.p) (l:=L) (k:=k+1) h
  generalize (aF s.p (L.take k)).2=q at *
  have c4:=oE q.prods b (-1) hqs (by omega)
  by_cases hz:(aG q.prods b (-1)).2≠0
  ·have dz:((aG q.prods b (-1)).2 != 0)=true:=by simpa using hz
   rw[if_pos hz] at hsn
   have hst:=hstop (by rw[hsn])
   rw[hsn] at hst
   simp only[BatD.dv] at c4
   rw[hst]
   (refine gO (ai @aC (ai d1 (ai hge (ai @BatD.dv.eq_1 (dz))))) ?_)
   refine aO.ret ?_
   (refine rO (ai @aC (ai @aJ.eq_1 (ai @aJ.eq_2 (@if_true.{1})))) ?_;try with_reducible exact tt)
  ·have dz:((aG q.prods b (-1)).2 != 0)=false:=by simpa using hz
   rw[if_neg hz] at hsn
   have c5:=aBm { q with prods:=(aG q.prods b (-1)).1 } b (by show q.rows.length≤_;omega) (by omega) (by show -1000000000≤q.fin∧q.fin≤_;omega)
   simp only[BatD.dv] at c4
   simp only[BatD.dv,PartD.dv] at c5
   (refine gO (ai @aC (ai d1 (ai hge (ai @BatD.dv.eq_1 (dz))))) ?_)
   refine⟨k+1,⟨hkl,by rw[hsn]⟩,by omega,?_⟩
   rw[hsn]
   refine aD.keep rfl (rP rfl) ?_
   simp (maxSteps:=2000000) (disch:=omega) only[gE,TY,bW,eH,fP,SV.ofD,eA,eO,fI,fJ,bR,fK,eX,eQ,fL,eL,fG,fF,fH,CV.exact,CV.lstOf,CV.lenOf,CV.one,D.one,Value.oneCell',CV.toD0,fX,eF,fZ,fC,rD0,gC,fD,fY,reduceCtorEq,reduceIte,Nat.reduceBEq,Nat.reduceEqDiff,Nat.reduceAdd,Nat.reduceMul,Nat.reduceSub,Nat.reduceLT,Nat.reduceLeDiff,Nat.reduceBNe,Int.reduceLE,Int.reduceLT,Int.reduceBEq,Int.reduceBNe,Int.reduceEq,Int.reduceNeg,Int.reduceAdd,Int.reduceSub,Int.reduceToNat,forall_const,aC,hwk,iX,EntD.dv,List.map_cons,List.map_nil]
 ·have hke:k=L.length:=by omega
  subst hke
  rw[List.take_length] at htk g1 g2 g3 g4 g5 g6 g7 hqs ⊢
  have d1:decide ((L.length:Int)<(L.length:Int))=false:=by simp
  rw[if_neg (by rw[htk];simp)]
  generalize (aF s.p L).2=q at *
  have c6:=aBp q.prods e.b.pid hqs
  (refine gO (ai @aC (ai d1 (ai @EntD.dv.eq_1 (ai @List.map_cons.{0,0} (@List.map_nil.{0,0}))))) ?_)
  refine aO.ret ?_
  (refine rO (ai @aC (ai @aJ.eq_1 (@aJ.eq_2))) ?_;try with_reducible exact tt)
end Go.Proofs.YtpklhnpchhaccaaGreatDoor
