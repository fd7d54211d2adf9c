/- The abstract machine (InNa, InNb, InNc, InNd, InCo). -/
import Derived.Test.YtpklhnpchhaccaaGreatDoorInMe
import Derived.Test.YtpklhnpchhaccaaGreatDoorMpQ
namespace Go.Proofs.YtpklhnpchhaccaaGreatDoor
open Go Go.RowKit
set_option maxHeartbeats 4000000
set_option maxRecDepth 100000
set_option linter.unusedVariables false
set_option linter.unusedSimpArgs false
theorem FunG.of_nil {P:Program} {f:FuncId} {ars:List SV} {sz:Nat} {ks ks' : List Nat} {B B' : Hp} {r:SV} (h:∀ a c,FunG P f (.c (.d (.val (.slice a 0 c)))::ars) ks B r ks' B'):FunG P f (.c (.d (.lst sz []))::ars) ks B r ks' B':=by
 have h0:=h none 0
 refine⟨h0.body,h0.sup,h0.sup',h0.sub,h0.cl,fun a ha i hi=>?_,fun g w vs hh hL=>?_⟩
 ·rcases List.mem_cons.1 ha with rfl|ha
  ·cases hi
  ·exact h0.ids a (List.mem_cons_of_mem _ ha) i hi
 ·obtain⟨h1,h2⟩:=hL
  cases vs with
  | nil=>cases h1
  | cons v vs =>
   have hv:=h2 0 _ v rfl rfl
   have hv:Rep g.K (.lst sz []) v:=hv
   obtain⟨a2,c2,us,rfl,_⟩:=hv.inv
   refine (h a2 c2).calls g w _ hh ⟨h1,fun j x u hx hu=>?_⟩
   cases j with
   | zero=>cases hx;cases hu;exact Rep.val _
   | succ j=>exact h2 (j+1) x u hx hu
theorem aJb {args:List SV} {r:SV} {k e sz v' : Nat} {xs:List (List D)} (ha:(args.all fun a=>nM a.ids [])=true) (hr:nM r.ids [k]=true):okG args r [] [(k,.mrow e sz v' (xs.flatten.map CV.d))]=true:=by
 unfold okG okB
 simp only[List.map_cons,List.map_nil,List.all_cons,List.all_nil,HE.ids,eS,Bool.and_true,ha,hr]
 simp[nM]
theorem aCv (l:List RowD) (hl:l.length≤1000000):FunG Tryz.prog 277 [.c (.d (.lst 5 (l.map RowD.dv)))] [] (bI []) (.c (.mt 9 2)) [9] (bI [(9,.mrow 47 5 2 (fO l))]):=by
 cases l with
 | nil =>
  refine FunG.of_nil (fun a c=>?_)
  refine FunG.of_bodyH rfl rfl Tryz.func277 rfl rfl Tryz.ntmps277 Tryz.results277 (Nat.le_of_ble_eq_true rfl) (aJb (xs:=[]) rfl rfl) ?_
  cases a with
  | none =>
   (refine gO (ai @aC (ai @Option.isNone_none.{0} (@Option.isNone_some.{0}))) ?_)
   show aO _ _ _ _ _ Exit.ret _
   refine aO.weak (aD.mtNew 2 (by decide) (t:=2) (τ:=9) (e:=47) (sz:=5) (by decide) (by (refine rO (@aC) ?_;try with_reducible exact tt)) (by (refine rO (@aC) ?_;try with_reducible exact tt)) (.inl rfl)) ?_
   refine aO.ret ?_
   (refine rO (ai @aC (ai @aJ.eq_1 (ai @aJ.eq_2 (ai @fO.eq_1 (ai @List.map_nil.{0,0} (@List.flatten_nil.{0})))))) ?_;try with_reducible exact tt)
  | some ad =>
   (refine Wp.sreg (fun K hK=>?_);(refine rO (@aC) ?_);refine hK _ ?_;clear hK K)
   refine Wp.seq ?_
   (refine Wp.sreg (fun K hK=>?_);(refine rO (ai @aC (@Option.isNone_some.{0})) ?_);refine hK _ ?_;clear hK K)
   refine Wp.condG (fun K hK hF=>?_)
   (refine rO (@aC) ?_)
   refine hF ?_
   clear hK hF K
   refine Wp.skip ?_
   (first|refine Wp.sregG ?_|refine Wp.regG ?_|(refine Wp.seq ?_;first|refine Wp.sregG ?_|refine Wp.regG ?_))
   (refine aH.at 1 (fun K hK=>?_);(refine rO (@aC) ?_);refine hK _ ?_;clear hK K)
   refine aH.weak (aD.mtNew 1 (by decide) (t:=5) (τ:=9) (e:=47) (sz:=5) (by decide) (by (refine rO (@aC) ?_;try with_reducible exact tt)) (by (refine rO (@aC) ?_;try with_reducible exact tt)) (.inr rfl)) ?_
   (refine aH.done (fun K hK=>?_);(refine rO (@aC) ?_);refine hK _ ?_;clear hK K)
   (refine gO (@aC) ?_)
   refine aO.ret ?_
   (refine rO (ai @aC (ai @aJ.eq_1 (ai @aJ.eq_2 (ai @fO.eq_1 (ai @List.map_nil.{0,0} (@List.flatten_nil.{0})))))) ?_;try with_reducible exact tt)
 | cons f fs =>
  have hb:(fs.length+1)*56≤140737488355328:=by simp at hl;omega
  refine FunG.of_bodyH rfl rfl Tryz.func277 rfl rfl Tryz.ntmps277 Tryz.results277 (Nat.le_of_ble_eq_true rfl) (aJb rfl rfl) ?_
  (refine Wp.sreg (fun K hK=>?_);(refine rO (@aC) ?_);refine hK _ ?_;clear hK K)
  refine Wp.seq ?_
  (refine Wp.sreg (fun K hK=>?_);(refine rO (@aC) ?_);refine hK _ ?_;clear hK K)
  refine Wp.condG (fun K hK hF=>?_)
  (refine rO (@aC) ?_)
  refine hF ?_
  clear hK hF K
  refine Wp.skip ?_
  (first|refine Wp.sregG ?_|refine Wp.regG ?_|(refine Wp.seq ?_;first|refine Wp.sregG ?_|refine Wp.regG ?_))
  (refine aH.at 1 (fun K hK=>?_);(refine rO (@aC) ?_);refine hK _ ?_;clear hK K)
  refine aH.weak (aD.mtNew 1 (by decide) (t:=5) (τ:=9) (e:=47) (sz:=5) (by decide) (by (refine rO (@aC) ?_;try with_reducible exact tt)) (by (refine rO (@aC) ?_;try with_reducible exact tt)) (.inr rfl)) ?_
  (refine aH.done (fun K hK=>?_);(refine rO (ai @aC (hb)) ?_);refine hK _ ?_;clear hK K)
  (refine gO (@aC) ?_)
  refine aO.ret ?_
  (refine rO (ai @aC (ai @aJ.eq_1 (ai @aJ.eq_2 (@fO.eq_1)))) ?_;try with_reducible exact tt)
set_option maxHeartbeats 8000000
theorem vP (ρ:Nat→Nat) (vt:Nat→Nat):∀ (l:List OpenD),(∀ x ∈ l,ρ (10+x.pid.toNat)=10+x.pid.toNat)→(dK vt l).map (CV.ren ρ)=dK vt l
 | [],_=>rfl
 | o::l,h=>by
  have h1:=h o (List.mem_cons_self ..)
  have ih:=vP ρ vt l (fun x hx=>h x (List.mem_cons_of_mem _ hx))
  unfold dK at ih ⊢
  rw[List.flatMap_cons,List.map_append,ih]
  simp only[List.map_cons,List.map_nil,CV.ren,h1]
theorem aSh (q:ProdD) (hq:q.seen.length≤100000):aW Tryz.prog 282 [.agg q.dv] (.agg q.dv):=by
 have c1:=(aA9 (q.seen.map SeenD.dv) (by simp;omega)).fun
 (refine aW.of_body Tryz.func282 rfl rfl Tryz.ntmps282 Tryz.results282 (by simp) ?_)
 (refine gO (@ProdD.dv.eq_1) ?_)
 (refine rO (@ProdD.dv.eq_1) ?_;try with_reducible exact tt)
theorem aPi {α β:Type} (f:α→β) (l:List α) (k:Nat) (h:k<l.length):(l.take (k+1)).map f=(l.take k).map f++[f l[k]]:=by
 rw[List.take_succ_eq_append_getElem h,List.map_append];rfl
theorem aOr (l:List ProdD) (hl:l.length≤100000) (hs:∀ q ∈ l,q.seen.length≤100000):aW Tryz.prog 281 [.lst 4 (l.map ProdD.dv),.fn (.func 282) []] (.lst 4 (l.map ProdD.dv)):=by
 (refine aW.of_body Tryz.func281 rfl rfl Tryz.ntmps281 Tryz.results281 (by simp) ?_)
 (refine bP ?_)
 refine Wp.weak (aD.nilApp (t:=5) (τ:=1) 69 4 (by (refine aT ?_;try with_reducible exact tt)) (by (refine aT ?_;try with_reducible exact tt))) ?_
 refine Wp.loop (fun k:Nat=>⟨iH [(1,.c (.d (.fn (.func 282) []))),(5,.c (.app 1 4 ((l.take k).map ProdD.dv))),(8,.c (.d (.lst 4 (l.map ProdD.dv)))),(9,vi .i64 l.length),(10,vi .i64 k)],bI [(1,.row 69 4 k)],2,22,0⟩) (fun k=>k≤l.length) (fun k=>l.length - k) 0 (Nat.zero_le _) ?_ ?_
 ·refine aD.keep rfl rfl ?_
  (refine rO (ai @List.take_zero.{0} (ai @List.map_nil.{0,0} (@List.length_nil.{0}))) ?_;try with_reducible exact tt)
 intro k hk
 by_cases hkl:k<l.length
 ·have d1:decide ((k:Int)<(l.length:Int))=true:=decide_eq_true (by omega)
  have hge:l[k]? = some l[k]:=List.getElem?_eq_getElem hkl
  have hwk:IntKind.i64.wrap ((k:Int)+1)=((k+1:Nat):Int):=by rw[bA (by omega)];rfl
  have hsn:=aPi ProdD.dv l k hkl
  have hll:((l.take k).map ProdD.dv).length=k:=by rw[List.length_map,List.length_take];omega
  have hx:=hs _ (List.getElem_mem hkl)
  generalize l[k]=q at *
  have c1:=aSh q hx
  simp only[ProdD.dv] at c1
  generalize (l.take k).map ProdD.dv=L at *
  have hsz:(k+1)*48≤140737488355328:=by omega
  (refine gO (ai d1 (ai hge (ai @ProdD.dv.eq_1 (ai hll (hsz))))) ?_)
  refine⟨k+1,hkl,by omega,aD.keep rfl rfl ?_⟩
  rw[hsn]
  (refine rO (ai hwk (ai @ProdD.dv.eq_1 (ai hll (ai @List.map_cons.{0,0} (@List.map_nil.{0,0}))))) ?_;try with_reducible exact tt)
 ·have hke:k=l.length:=by omega
  subst hke
  rw[List.take_length]
  have d1:decide ((l.length:Int)<(l.length:Int))=false:=by simp
  (refine gO (d1) ?_)
  (refine aT ?_;try with_reducible exact tt)
abbrev aX9 (s:FoldS):List (Nat × HE):=(oB s).tail
abbrev aV4:List Nat:=[9,10,11,12,13,14,15,16,17,18]
theorem aVn {args:List SV} {r:SV} {s:FoldS} (ha:(args.all fun a=>nM a.ids [])=true) (hr:nM r.ids aV4=true) (h1:mQ s.p.opens):okG args r [] (aX9 s)=true:=by
 have h2:=aAo aV4 (fun q h1 h2=>by
  have hq2:q=1∨q=2∨q=3∨q=4∨q=5∨q=6∨q=7∨q=8:=by omega
  rcases hq2 with rfl|rfl|rfl|rfl|rfl|rfl|rfl|rfl<;>rfl) s.vt _ h1
 have e2:(aX9 s).map (·.1)=aV4:=rfl
 unfold okG
 rw[e2,hr]
 simp only[List.map_nil,ha]
 unfold okB
 simp only[oB,List.tail_cons,List.all_cons,List.all_nil,HE.ids,fO,fN,eS,Bool.and_true,Bool.true_and]
 rw[h2]
 rfl
theorem nV (e v:Nat) (vt:Nat→Nat) (l:List OpenD):HE.ren (fun x=>if x=0 then 3 else if x=3 then 0 else x) (.mrow e 3 v (dK vt l)) = .mrow e 3 v (dK vt l):=by
 show HE.mrow e 3 v (List.map _ _)=_
 rw[vP _ _ l (fun x hx=>by
  have e1:¬ 10+x.pid.toNat=0:=by omega
  have e2:¬ 10+x.pid.toNat=3:=by omega
  simp only[e1,e2,if_false])]
def aLo (p:PartD) (e:EntD):List D:=match cG p e with
 | some q=>q.dv
 | none=>aSi
def aLn (p:PartD) (e:EntD):Int:=if (cG p e).isSome then 0 else 70
def vt0 (_:Nat):Nat:=0
abbrev eB0 : List (Nat × HE) :=
  [(10, .mrow 95 3 1 (dK vt0 [])),
   (11, .mrow 62 5 (vt0 1) (fN (fW [] 1))), (12, .mrow 62 5 (vt0 2) (fN (fW [] 2))), (13, .mrow 62 5 (vt0 3) (fN (fW [] 3))), (14, .mrow 62 5 (vt0 4) (fN (fW [] 4))),
   (15, .mrow 62 5 (vt0 5) (fN (fW [] 5))), (16, .mrow 62 5 (vt0 6) (fN (fW [] 6))), (17, .mrow 62 5 (vt0 7) (fN (fW [] 7))), (18, .mrow 62 5 (vt0 8) (fN (fW [] 8)))]
abbrev eK0:List Nat:=[10,11,12,13,14,15,16,17,18]
theorem aKv:FunG Tryz.prog 278 [.c (.d (.lst 3 [])),.c (.d (.fn (.func 279) []))] [] (bI []) (.c (.mt 10 1)) eK0 (bI eB0):=by
 refine FunG.of_bodyH rfl rfl Tryz.func278 rfl rfl Tryz.ntmps278 Tryz.results278 (Nat.le_of_ble_eq_true rfl) rfl ?_
 (refine gO (ai @aC (@List.length_nil.{0})) ?_;try with_reducible exact tt)
 refine Wp.weak (aD.mtNew 1 (by decide) (t:=5) (τ:=10) (e:=95) (sz:=3) (by decide) (by (refine rO (@aC) ?_;try with_reducible exact tt)) (by (refine rO (@aC) ?_;try with_reducible exact tt)) (.inl rfl)) ?_
 refine Wp.weakE (aWh 62 5 (by decide) 8 _ 11 (fun i h1 h2=>by
  have g0:¬ i=10:=by omega
  simp[upd,bI,g0])) ?_
 rintro H' ⟨f1,f2⟩
 have f10:H' 10=some (.mrow 95 3 1 []):=(f2 10 (by omega)).trans (by (refine rO (@aC) ?_;try with_reducible exact tt))
 have f11:=f1 11 (by decide) (by decide);have f12:=f1 12 (by decide) (by decide);have f13:=f1 13 (by decide) (by decide);have f14:=f1 14 (by decide) (by decide)
 have f15:=f1 15 (by decide) (by decide);have f16:=f1 16 (by decide) (by decide);have f17:=f1 17 (by decide) (by decide);have f18:=f1 18 (by decide) (by decide)
 clear f1 f2
 refine Wp.loop (fun _:Unit=>⟨iH [(1,.c (.d (.fn (.func 279) []))),(5,.c (.mt 10 1)),(8,.c (.d (.lst 3 []))),(9,vi .i64 0),(10,vi .i64 0)],bI eB0,1000,22,⟨[],[],false,none⟩⟩) (fun _=>True) (fun _=>0) () trivial ?_ ?_
 ·refine aD.keep rfl rfl ?_
  simp (maxSteps:=2000000) (disch:=omega) only[gE,TY,bW,eH,fP,SV.ofD,eA,eO,fI,fJ,bR,fK,eX,eQ,fL,eL,fG,fF,fH,CV.exact,CV.lstOf,CV.lenOf,CV.one,D.one,Value.oneCell',CV.toD0,fX,eF,fZ,fC,rD0,gC,fD,fY,reduceCtorEq,reduceIte,Nat.reduceBEq,Nat.reduceEqDiff,Nat.reduceAdd,Nat.reduceMul,Nat.reduceSub,Nat.reduceLT,Nat.reduceLeDiff,Nat.reduceBNe,Int.reduceLE,Int.reduceLT,Int.reduceBEq,Int.reduceBNe,Int.reduceEq,Int.reduceNeg,Int.reduceAdd,Int.reduceSub,Int.reduceToNat,forall_const,aC,fN,fW,vt0,dK,List.find?_nil,f10,f11,f12,f13,f14,f15,f16,f17,f18,List.map_nil,List.flatten_nil,List.flatMap_nil,List.length_nil]
 intro _ _
 (refine gO (@aC) ?_;try with_reducible exact tt)
 refine aO.ret ?_
 (refine rO (ai @aC (ai @aJ.eq_1 (@aJ.eq_2))) ?_;try with_reducible exact tt)
def aBj (p:PartD):FoldS:=⟨⟨p.start,p.fin,[],[],p.prods⟩,2,1,vt0⟩
theorem aSg (p:PartD) (hr0:p.rows=[]) (ho0:p.opens=[]) (hpr:p.prods.length≤100000) (hs:∀ q ∈ p.prods,q.seen.length≤100000) :
  FunG Tryz.prog 251 [.agg (p.dv.map CV.d)] [] (bI []) (.agg [.d (int p.start),.d (int p.fin),.mt 9 2,.mt 10 1,.d (.lst 4 (p.prods.map ProdD.dv))]) aV4 (bI (aX9 (aBj p))):=by
 obtain⟨pa,pb,pr,po,pp⟩:=p
 dsimp only at hr0 ho0
 subst hr0;subst ho0
 have c1:=aCv [] (by decide)
 have c2:=aKv
 have c3:=aOr pp hpr hs
 refine FunG.of_bodyH rfl rfl Tryz.func251 rfl rfl Tryz.ntmps251 Tryz.results251 (Nat.le_of_ble_eq_true rfl) (aVn rfl rfl (fun x hx=>by cases hx)) ?_
 (refine gO (ai @aC (ai @PartD.dv.eq_1 (ai @List.map_cons.{0,0} (@List.map_nil.{0,0})))) ?_;try with_reducible exact tt)
 (first|refine Wp.sregG ?_|refine Wp.regG ?_|(refine Wp.seq ?_;first|refine Wp.sregG ?_|refine Wp.regG ?_))
 (refine aH.at 2 (fun K hK=>?_);(refine rO (@aC) ?_;try with_reducible exact tt);refine hK _ ?_;clear hK K)
 (refine aH.call (c1) [] 1010 rfl rfl ?_ ?_;(focus ((refine wG (ai @cT (ai @aC (@iS))) ?_;try with_reducible exact tt);done)))
 (refine aH.done (fun K hK=>?_);(refine wG (ai @aC (ai @cH.eq_1 (ai @cH.eq_2 (ai @cT (ai @iS (ai @List.map_cons.{0,0} (@List.map_nil.{0,0}))))))) ?_;try with_reducible exact tt);refine hK _ ?_;clear hK K)
 (first|refine Wp.sregG ?_|refine Wp.regG ?_|(refine Wp.seq ?_;first|refine Wp.sregG ?_|refine Wp.regG ?_))
 (refine aH.at 2 (fun K hK=>?_);(refine rO (@aC) ?_;try with_reducible exact tt);refine hK _ ?_;clear hK K)
 (refine aH.call (c2) [] 1010 rfl rfl ?_ ?_;(focus ((refine wG (ai @cT (ai @aC (ai @iS (@aM)))) ?_;try with_reducible exact tt);done)))
 (refine aH.done (fun K hK=>?_);(refine rOt (ai @aC (ai @cH.eq_1 (ai @cH.eq_2 (ai @aM (ai @bU (ai @List.map_cons.{0,0} (@List.map_nil.{0,0}))))))) ?_;try with_reducible exact tt);refine hK _ ?_;clear hK K)
 (refine gO (@aC) ?_;try with_reducible exact tt)
 refine aO.ret ?_
 simp (maxSteps:=2000000) (disch:=omega) only[gE,TY,bW,eH,fP,SV.ofD,eA,eO,fI,fJ,bR,fK,eX,eQ,fL,eL,fG,fF,fH,CV.exact,CV.lstOf,CV.lenOf,CV.one,D.one,Value.oneCell',CV.toD0,fX,eF,fZ,fC,rD0,gC,fD,fY,reduceCtorEq,reduceIte,Nat.reduceBEq,Nat.reduceEqDiff,Nat.reduceAdd,Nat.reduceMul,Nat.reduceSub,Nat.reduceLT,Nat.reduceLeDiff,Nat.reduceBNe,Int.reduceLE,Int.reduceLT,Int.reduceBEq,Int.reduceBNe,Int.reduceEq,Int.reduceNeg,Int.reduceAdd,Int.reduceSub,Int.reduceToNat,forall_const,aC,retG,aJ,aBj,oB,List.tail_cons]
theorem aIt (f:Nat) (caps:List D) :
  aW Tryz.prog 264 [.lst 5 [],.fn (.func f) caps] (int (-1)):=by
 (refine aW.of_body Tryz.func264 rfl rfl Tryz.ntmps264 Tryz.results264 (by simp) ?_)
 (refine gO (@List.length_nil.{0}) ?_;try with_reducible exact tt)
 refine Wp.loop (fun _:Unit=>⟨iH [(0,.c (.d (.lst 5 []))),(1,.c (.d (.fn (.func f) caps))),(6,.c (.d (.lst 5 []))),(7,vi .i64 0),(8,vi .i64 0)],bI [],0,19,0⟩) (fun _=>True) (fun _=>0) () trivial ?_ ?_
 ·refine aD.keep rfl rfl ?_
  (refine rO (@List.length_nil.{0}) ?_;try with_reducible exact tt)
 intro _ _
 (refine bP ?_;try with_reducible exact tt)
 (refine aT ?_;try with_reducible exact tt)
theorem aS1 {e v v' : Nat} {args:List SV} {r:SV} (ha:(args.all fun a=>nM a.ids [9])=true) (hr:nM r.ids [9]=true):okG args r [(9,.mrow e 5 v (fO []))] [(9,.mrow e 5 v' (fO []))]=true:=by
 unfold okG
 simp only[List.map_cons,List.map_nil,ha,hr]
 rfl
theorem aMb (vr:Nat):CV.snap (bI [(9,.mrow 47 5 vr (fO []))]) 3 (.mt 9 vr)=some (.lst 5 []) :=
 nI (e:=47) [] (by decide) (fun x hx=>by cases hx) rfl
theorem aOq (vr f:Nat) (caps:List D) :
  FunG Tryz.prog 306 [.c (.mt 9 vr),.c (.d (.fn (.func f) caps))] [9] (bI [(9,.mrow 47 5 vr (fO []))]) (.c (.mt 9 vr)) [9] (bI [(9,.mrow 47 5 vr (fO []))]):=by
 have c1:=aIt f caps
 refine FunG.of_bodyH rfl rfl Tryz.func306 rfl rfl Tryz.ntmps306 Tryz.results306 (Nat.le_of_ble_eq_true rfl) (aS1 rfl rfl) ?_
 (refine gO (@aC) ?_;try with_reducible exact tt)
 refine Wp.reg (fun K hK=>?_)
 (refine rO (ai @aC (ai @CV.toD.eq_1 (ai @CV.toD.eq_2 (ai @CV.toD.eq_3 (ai @CV.toD.eq_4 (ai @CV.toD.eq_5 (ai @CV.toD.eq_6 (ai @CV.toD.eq_7 (ai @CV.toD.eq_8 (ai @CV.toD.eq_9 (ai @CV.toD.eq_10 (ai @CV.toD.eq_11 (@CV.toD.eq_12))))))))))))) ?_;try with_reducible exact tt)
 refine fQ c1 rfl (by simp only[bN,SV.snap,aMb vr,uE,Option.map_some,List.append_nil]) ?_
 (refine rO (@aC) ?_;try with_reducible exact tt)
 refine hK _ ?_
 clear hK K
 (refine gO (@aC) ?_;try with_reducible exact tt)
 refine aO.ret ?_
 (refine rO (ai @aC (ai @aJ.eq_1 (@aJ.eq_2))) ?_;try with_reducible exact tt)
def aR5 (s:FoldS) (o:Int):FoldS:=⟨{ s.p with start:=o },s.vr,s.vo,s.vt⟩
theorem aR6 (s:FoldS) (e:EntD) (hp:OpOk s.p.opens) (hr0:s.p.rows=[]) (hc:s.p.start≤e.off∧e.off≤s.p.fin) :
  FunG Tryz.prog 285 [.c (.own 0 0),jG e] qL (bI (oB s)) lJ qL (bI (oB (aR5 s e.off))):=by
 obtain⟨⟨pa,pb,pr,po,pp⟩,vr,vo,vt⟩:=s
 dsimp only at hr0 hc hp
 subst hr0
 have c1:=aOq vr 307 [.ptr e.dv 0]
 have d1:decide (e.off<pa)=false:=decide_eq_false (by omega)
 have d2:decide (pb<e.off)=false:=decide_eq_false (by omega)
 simp only[EntD.dv] at c1
 refine FunG.of_bodyH rfl rfl Tryz.func285 rfl rfl Tryz.ntmps285 Tryz.results285 (Nat.le_of_ble_eq_true rfl) (nD rfl rfl hp.pid hp.pid) ?_
 (refine gO (ai @aC (ai @EntD.dv.eq_1 (ai d1 (d2)))) ?_;try with_reducible exact tt)
 (refine Wp.weak (aD.freeze (id:=1000) (by (refine aT ?_;try with_reducible exact tt);rfl) (by (refine aT ?_;try with_reducible exact tt);rfl)) ?_)
 (first|refine Wp.sregG ?_|refine Wp.regG ?_|(refine Wp.seq ?_;first|refine Wp.sregG ?_|refine Wp.regG ?_))
 (refine aH.at 7 (fun K hK=>?_);simp (maxSteps:=2000000) (disch:=omega) only[gE,TY,bW,eH,fP,SV.ofD,eA,eO,fI,fJ,bR,fK,eX,eQ,fL,eL,fG,fF,fH,CV.exact,CV.lstOf,CV.lenOf,CV.one,D.one,Value.oneCell',CV.toD0,fX,eF,fZ,fC,rD0,gC,fD,fY,reduceCtorEq,reduceIte,Nat.reduceBEq,Nat.reduceEqDiff,Nat.reduceAdd,Nat.reduceMul,Nat.reduceSub,Nat.reduceLT,Nat.reduceLeDiff,Nat.reduceBNe,Int.reduceLE,Int.reduceLT,Int.reduceBEq,Int.reduceBNe,Int.reduceEq,Int.reduceNeg,Int.reduceAdd,Int.reduceSub,Int.reduceToNat,forall_const,aC,aQz];refine hK _ ?_;clear hK K)
 (refine aH.call (c1) [] 1001 rfl rfl ?_ ?_;(focus ((refine wG (ai @cT (ai @aC (@iS))) ?_;try with_reducible exact tt);done)))
 (refine aH.done (fun K hK=>?_);(refine wG (ai @aC (ai @cH.eq_1 (ai @cH.eq_2 (ai @iS (ai @List.map_cons.{0,0} (@List.map_nil.{0,0})))))) ?_;try with_reducible exact tt);refine hK _ ?_;clear hK K)
 (refine gO (ai @aC (@EntD.dv.eq_1)) ?_;try with_reducible exact tt)
 refine aO.ret ?_
 simp (maxSteps:=2000000) (disch:=omega) only[gE,TY,bW,eH,fP,SV.ofD,eA,eO,fI,fJ,bR,fK,eX,eQ,fL,eL,fG,fF,fH,CV.exact,CV.lstOf,CV.lenOf,CV.one,D.one,Value.oneCell',CV.toD0,fX,eF,fZ,fC,rD0,gC,fD,fY,reduceCtorEq,reduceIte,Nat.reduceBEq,Nat.reduceEqDiff,Nat.reduceAdd,Nat.reduceMul,Nat.reduceSub,Nat.reduceLT,Nat.reduceLeDiff,Nat.reduceBNe,Int.reduceLE,Int.reduceLT,Int.reduceBEq,Int.reduceBNe,Int.reduceEq,Int.reduceNeg,Int.reduceAdd,Int.reduceSub,Int.reduceToNat,forall_const,aC,retG,aJ,aR5]
theorem aJa (s:FoldS) (e:EntD) (k:Nat) (h:FOk k s.p) (hk:k≤20000) (hr:e.b.recs.length≤100000) (hq:e.prod.seen.length≤100000) (ho:aL e=true) (he:e.kind=2) (hr0:s.p.rows=[]):zQ s e:=by
 have hok:=ho
 simp only[aL,Bool.and_eq_true,decide_eq_true_eq] at hok
 have hstep:cG s.p e=(if e.off<s.p.start∨s.p.fin<e.off then none else some { s.p with start:=e.off,rows:=jJ (nJ e.off) s.p.rows }):=by
  unfold cG;simp[ho,he]
 have hF:nxF e.kind=285:=by simp[nxF,he]
 by_cases hc:e.off<s.p.start∨s.p.fin<e.off
 ·exact⟨_,_,gR s s e _ h.ok h.ok.pid rfl hok.1 hr hq hok.2 h.fin.2 (hF ▸ aOp s e h.ok hc),.inr ⟨by rw[hstep,if_pos hc],⟨_,rfl⟩,rfl⟩⟩
 ·exact⟨_,_,gR s (aR5 s e.off) e _ h.ok h.ok.pid rfl hok.1 hr hq hok.2 h.fin.2 (hF ▸ aR6 s e h.ok hr0 (by omega)),.inl ⟨by rw[hstep,if_neg hc,hr0];show _=some (PartD.mk _ _ s.p.rows _ _);rw[hr0];rfl,rfl⟩⟩
theorem aGb (s:FoldS) (e:EntD) (k:Nat) (h:FOk k s.p) (hk:k≤20000) (hr:e.b.recs.length≤100000) (hq:e.prod.seen.length≤100000) (ho:aL e=true) (he:e.kind=0) (htx:e.b.txn=false) (ho0:s.p.opens=[]):zQ s e:=by
 have hok:=ho
 simp only[aL,Bool.and_eq_true,decide_eq_true_eq] at hok
 have hop:=h.ok.len8
 have hrow:=h.rows
 have hfin:=h.fin
 have hsm:=h.small hk
 have hbp:=(oL (aN7 hok.2 he)).1
 have hstep:cG s.p e=kM s.p e.b:=by
  unfold cG;simp[ho,he]
 have hF:nxF e.kind=283:=by simp[nxF,he]
 by_cases hc:(aP s.p.prods e.b).2.2≠0∨(aP s.p.prods e.b).2.1=true
 ·exact⟨_,_,gR s s e _ h.ok h.ok.pid rfl hok.1 hr hq hok.2 h.fin.2 (hF ▸ aI4 s e h.ok (by omega) hsm hr hc),.inr ⟨by rw[hstep];unfold kM;rw[if_pos hc],⟨_,rfl⟩,rfl⟩⟩
 have hc' : (aP s.p.prods e.b).2.2=0∧(aP s.p.prods e.b).2.1=false:=by
  refine⟨?_,?_⟩
  ·exact Decidable.not_not.1 (fun h=>hc (.inl h))
  ·cases hh:(aP s.p.prods e.b).2.1 with
   | true=>exact absurd (.inr hh) hc
   | false=>rfl
 have ht2:=aCb s.p.prods e.b s.p.fin hc'.1 hc'.2 (by omega)
 have hob:bL s.p.opens e.b.pid=false:=by rw[ho0];rfl
 have hd:kM s.p e.b=(if 1048576<s.p.fin+(e.b.recs.length:Int) then none else some { s.p with prods:=(aG s.p.prods e.b s.p.fin).1,rows:=s.p.rows++cS e.b s.p.fin,fin:=s.p.fin+(e.b.recs.length:Int) }):=by
  unfold kM;rw[if_neg hc,hob];simp only[];rw[if_pos htx]
 by_cases hf:1048576<s.p.fin+(e.b.recs.length:Int)
 ·exact⟨_,_,gR s s e _ h.ok h.ok.pid rfl hok.1 hr hq hok.2 h.fin.2 (hF ▸ aI5 s e h.ok (by omega) hsm hr hc' hob htx hf),.inr ⟨by rw[hstep,hd,if_pos hf],⟨_,rfl⟩,rfl⟩⟩
 ·exact⟨_,_,gR s (aW0 (aNq s (aG s.p.prods e.b s.p.fin).1) e.b) e _ h.ok h.ok.pid rfl hok.1 hr hq hok.2 h.fin.2 (hF ▸ aI6 s e (aG s.p.prods e.b s.p.fin).1 h.ok (by omega) hsm hr hc' hob htx (by omega) (by omega) (by rw[← ht2])),.inl ⟨by rw[hstep,hd,if_neg hf];rfl,rfl⟩⟩
theorem aVi (s:FoldS) (e:EntD) (k:Nat) (h:FOk k s.p) (hk:k≤20000) (hr:e.b.recs.length≤100000) (hq:e.prod.seen.length≤100000) (hr0:s.p.rows=[]) (ho0:s.p.opens=[]) (ho:aL e=true) (hkd:e.kind=0∧e.b.txn=false∨e.kind=2∨e.kind=5∨e.kind=6):zQ s e:=by
 rcases hkd with ⟨he,htx⟩|he|he|he
 ·exact aGb s e k h hk hr hq ho he htx ho0
 ·exact aJa s e k h hk hr hq ho he hr0
 ·exact aLl s e k h hk hr hq ho he
 ·exact aGc s e k h hk hr hq ho he
theorem aEg (p:PartD) (e:EntD) (k:Nat) (h:FOk k p) (hk:k≤20000) (he:SmallEn e) (hr0:p.rows=[]) (ho0:p.opens=[]) (hok:aL e=true) (hkd:e.kind=0∧e.b.txn=false∨e.kind=2∨e.kind=5∨e.kind=6):aW Tryz.prog 212 [.agg p.dv,.agg e.dv] (.tup [.agg (aLo p e),int (aLn p e)]):=by
 have hp0:(aBj p).p=p:=by obtain⟨a,b,c,d,f⟩:=p;dsimp only at hr0 ho0;subst hr0;subst ho0;rfl
 have h0:FOk k (aBj p).p:=hp0.symm ▸ h
 obtain⟨r,t,c2,hcase⟩:=aVi (aBj p) e k h0 hk he.recs he.seen rfl rfl hok hkd
 have hrow:=h.rows
 have hprod:=h.prods
 have c1:=aSg p hr0 ho0 (by omega) (fun q hq=>by have:=h.seen q hq;omega)
 have hbV:jG e = .agg (e.dv.map CV.d):=rfl
 (refine aW.of_bodyW Tryz.func212 rfl rfl Tryz.ntmps212 Tryz.results212 (by simp) ?_)
 (refine gO (ai @PartD.dv.eq_1 (@EntD.dv.eq_1)) ?_;try with_reducible exact tt)
 (first|refine Wp.sregG ?_|refine Wp.regG ?_|(refine Wp.seq ?_;first|refine Wp.sregG ?_|refine Wp.regG ?_))
 (refine aH.at 1 (fun K hK=>?_);(refine rO (ai @aC (ai @PartD.dv.eq_1 (ai @List.map_cons.{0,0} (@List.map_nil.{0,0})))) ?_;try with_reducible exact tt);refine hK _ ?_;clear hK K)
 (refine aH.call (c1) [] 3 rfl rfl ?_ ?_;(focus ((refine wG (ai @cT (ai @aC (ai @aM (ai @PartD.dv.eq_1 (ai @List.map_cons.{0,0} (@List.map_nil.{0,0})))))) ?_;try with_reducible exact tt);done)))
 (refine aH.done (fun K hK=>?_);simp (maxSteps:=2000000) (disch:=omega) only[gE,TY,bW,eH,fP,SV.ofD,eA,eO,fI,fJ,bR,fK,eX,eQ,fL,eL,fG,fF,fH,CV.exact,CV.lstOf,CV.lenOf,CV.one,D.one,Value.oneCell',CV.toD0,fX,eF,fZ,fC,rD0,gC,fD,fY,reduceCtorEq,reduceIte,Nat.reduceBEq,Nat.reduceEqDiff,Nat.reduceAdd,Nat.reduceMul,Nat.reduceSub,Nat.reduceLT,Nat.reduceLeDiff,Nat.reduceBNe,Int.reduceLE,Int.reduceLT,Int.reduceBEq,Int.reduceBNe,Int.reduceEq,Int.reduceNeg,Int.reduceAdd,Int.reduceSub,Int.reduceToNat,forall_const,aC,cH,lX,aM,bU,oB,List.tail_cons,aBj,List.map_cons,List.map_nil];refine hK _ ?_;clear hK K)
 (first|refine Wp.sregG ?_|refine Wp.regG ?_|(refine Wp.seq ?_;first|refine Wp.sregG ?_|refine Wp.regG ?_))
 (refine aH.at 2 (fun K hK=>?_);(refine rO (ai @aC (ai @EntD.dv.eq_1 (ai @List.map_cons.{0,0} (@List.map_nil.{0,0})))) ?_;try with_reducible exact tt);refine hK _ ?_;clear hK K)
 (refine aH.call (c2) [(0,3)] 200 rfl rfl ?_ ?_;(focus (simp (maxSteps:=2000000) (disch:=omega) only[gE,TY,bW,eH,fP,SV.ofD,eA,eO,fI,fJ,bR,fK,eX,eQ,fL,eL,fG,fF,fH,CV.exact,CV.lstOf,CV.lenOf,CV.one,D.one,Value.oneCell',CV.toD0,fX,eF,fZ,fC,rD0,gC,fD,fY,reduceCtorEq,reduceIte,Nat.reduceBEq,Nat.reduceEqDiff,Nat.reduceAdd,Nat.reduceMul,Nat.reduceSub,Nat.reduceLT,Nat.reduceLeDiff,Nat.reduceBNe,Int.reduceLE,Int.reduceLT,Int.reduceBEq,Int.reduceBNe,Int.reduceEq,Int.reduceNeg,Int.reduceAdd,Int.reduceSub,Int.reduceToNat,forall_const,aA6,atB,aD3,qJ,List.nil_append,Cap.sv,lX,SV.ren,CV.ren,cT,qY,aAm,aC,iS,sE,nV,hbV,EntD.dv,aBj,List.map_cons,List.map_nil];done)))
 rcases hcase with ⟨hst,rfl⟩|⟨hst,⟨m,rfl⟩,rfl⟩
 ·have hst:cG p e=some t.p:=hp0 ▸ hst
  have htok:=(aGx h hst).ok
  (refine aH.done (fun K hK=>?_);simp (maxSteps:=2000000) (disch:=omega) only[gE,TY,bW,eH,fP,SV.ofD,eA,eO,fI,fJ,bR,fK,eX,eQ,fL,eL,fG,fF,fH,CV.exact,CV.lstOf,CV.lenOf,CV.one,D.one,Value.oneCell',CV.toD0,fX,eF,fZ,fC,rD0,gC,fD,fY,reduceCtorEq,reduceIte,Nat.reduceBEq,Nat.reduceEqDiff,Nat.reduceAdd,Nat.reduceMul,Nat.reduceSub,Nat.reduceLT,Nat.reduceLeDiff,Nat.reduceBNe,Int.reduceLE,Int.reduceLT,Int.reduceBEq,Int.reduceBNe,Int.reduceEq,Int.reduceNeg,Int.reduceAdd,Int.reduceSub,Int.reduceToNat,forall_const,aC,cH,lX,cT,SV.ren,CV.ren,iS,sE,nV,List.map_cons,List.map_nil];refine hK _ ?_;clear hK K)
  (refine Wp.sreg (fun K hK=>?_);(refine aT ?_;try with_reducible exact tt);refine hK _ ?_;clear hK K)
  refine Wp.condG (fun K hK hF=>?_)
  (refine aT ?_;try with_reducible exact tt)
  refine hF ?_
  clear hK hF K
  refine Wp.skip ?_
  refine Wp.weakE (aSk t 3 (by decide) _ htok (by (refine aT ?_;try with_reducible exact tt)) (by (refine aT ?_;try with_reducible exact tt)) (by (refine aT ?_;try with_reducible exact tt)) (fun q h1 h2=>by
   have hq2:q=1∨q=2∨q=3∨q=4∨q=5∨q=6∨q=7∨q=8:=by omega
   rcases hq2 with rfl|rfl|rfl|rfl|rfl|rfl|rfl|rfl<;>((refine aT ?_;try with_reducible exact tt)))) ?_
  rintro H2 ⟨p1,p2⟩
  simp only[PartD.dv,List.map_cons,List.map_nil] at p1
  have p0:H2 2=some (.cells [.d (int 0),.d (int 0),cL,cL,cL]):=(p2 2 (by decide) (by decide)).trans (by simp (maxSteps:=2000000) (disch:=omega) only[gE,TY,bW,eH,fP,SV.ofD,eA,eO,fI,fJ,bR,fK,eX,eQ,fL,eL,fG,fF,fH,CV.exact,CV.lstOf,CV.lenOf,CV.one,D.one,Value.oneCell',CV.toD0,fX,eF,fZ,fC,rD0,gC,fD,fY,reduceCtorEq,reduceIte,Nat.reduceBEq,Nat.reduceEqDiff,Nat.reduceAdd,Nat.reduceMul,Nat.reduceSub,Nat.reduceLT,Nat.reduceLeDiff,Nat.reduceBNe,Int.reduceLE,Int.reduceLT,Int.reduceBEq,Int.reduceBNe,Int.reduceEq,Int.reduceNeg,Int.reduceAdd,Int.reduceSub,Int.reduceToNat,forall_const,cH,lX,cT,SV.ren,CV.ren,iS,sE,nV,List.map_cons,List.map_nil])
  dsimp only
  (refine gO (ai p1 (p0)) ?_;try with_reducible exact tt)
  (refine rO (ai p0 (@PartD.dv.eq_1)) ?_;try with_reducible exact tt)
  unfold aLo aLn
  rw[hst]
  exact⟨_,rfl,fun _ _ h=>h⟩
 ·have hst:cG p e=none:=hp0 ▸ hst
  have c3:=zB (str m) 70
  (refine aH.done (fun K hK=>?_);simp (maxSteps:=2000000) (disch:=omega) only[gE,TY,bW,eH,fP,SV.ofD,eA,eO,fI,fJ,bR,fK,eX,eQ,fL,eL,fG,fF,fH,CV.exact,CV.lstOf,CV.lenOf,CV.one,D.one,Value.oneCell',CV.toD0,fX,eF,fZ,fC,rD0,gC,fD,fY,reduceCtorEq,reduceIte,Nat.reduceBEq,Nat.reduceEqDiff,Nat.reduceAdd,Nat.reduceMul,Nat.reduceSub,Nat.reduceLT,Nat.reduceLeDiff,Nat.reduceBNe,Int.reduceLE,Int.reduceLT,Int.reduceBEq,Int.reduceBNe,Int.reduceEq,Int.reduceNeg,Int.reduceAdd,Int.reduceSub,Int.reduceToNat,forall_const,aC,cH,lX,cT,SV.ren,CV.ren,iS,sE,nV,List.map_cons,List.map_nil];refine hK _ ?_;clear hK K)
  (refine bP ?_;try with_reducible exact tt)
  (refine aT ?_;try with_reducible exact tt)
  unfold aLo aLn
  rw[hst]
  exact⟨_,rfl,lU.tup (.cons (.agg (.cons (.refl _) (.cons (.refl _) (.cons (.nil 5) (.cons (.nil 3) (.cons (.nil 4) .nil)))))) (.cons (.refl _) .nil))⟩
end Go.Proofs.YtpklhnpchhaccaaGreatDoor
