/- Package image: Bare. -/
import Derived.Test.YtkmfmphpndhkjaaGreatDoorBaH
namespace Go.Proofs.YtkmfmphpndhkjaaGreatDoor
open Go Go.RowKit
set_option maxHeartbeats 16000000
set_option maxRecDepth 100000
set_option linter.unusedVariables false
set_option linter.unusedSimpArgs false
theorem tO (l:List Int):lF l=0 ↔ ∀ e ∈ l,e=0:=⟨aAb l,lY l⟩
theorem rD (p:PartD) (q:ProdD):uD (aY p) q=0 ↔ aGr p q=true:=by
 unfold uD eJ
 rw[tO]
 simp only[aGr,List.all_eq_true,aMc,beq_iff_eq,List.mem_map,forall_exists_index,and_imp,forall_apply_eq_imp_iff₂]
 exact Iff.rfl
theorem nK (p:PartD):mO p=0 ↔ kR p=true:=by
 unfold mO jP
 rw[tO]
 simp only[kR,List.all_eq_true,List.mem_map,forall_exists_index,and_imp,forall_apply_eq_imp_iff₂]
 constructor
 ·intro h q hq;exact (rD p q).1 (h q hq)
 ·intro h q hq;exact (rD p q).2 (h q hq)
theorem aC0 (p:PartD) (h:kR p=true):iH p=oV p:=by
 simp only[kR,List.all_eq_true] at h
 unfold iH oV
 rw[PartD.mk.injEq]
 refine⟨rfl,rfl,rfl,rfl,List.map_congr_left (fun q hq=>?_)⟩
 have:=(rD p q).2 (h q hq)
 unfold uT aCt
 rw[if_pos this]
 rfl
theorem aOi (i:ImgD) (n:Nat):jW (aY i.p0) (aY i.p1) (aY i.p2) n=aY (i.p n):=by
 match n with
 | 0=>rfl
 | 1=>rfl
 | _+2=>rfl
theorem aLq (i:ImgD) (x:PendD):vG (aY i.p0) (aY i.p1) (aY i.p2) x=(vX i x,(toP (i.p x.part.toNat) x.off).2):=by
 unfold vG vX
 rw[aOi]
 rfl
theorem yA (i:ImgD) (c:CoordD):hX (aY i.p0) (aY i.p1) (aY i.p2) c=0 ↔ c.pends.all (xY i)=true:=by
 unfold hX lQ
 rw[tO]
 simp only[List.all_eq_true,xY,beq_iff_eq,List.mem_map,forall_exists_index,and_imp,forall_apply_eq_imp_iff₂,aLq]
theorem aCa (i:ImgD) (c:CoordD):gU (aY i.p0) (aY i.p1) (aY i.p2) c=aCq i c:=by
 unfold gU aCq
 congr 1
 exact List.map_congr_left (fun x _=>by rw[aLq])
theorem zY:∀ (l:List SeenD) (b:Int),mZ l b=true→∀ s ∈ l,-1≤s.base∧s.base≤1048576
 | [],_,_,s,hs=>by simp at hs
 | a::l,b,h,s,hs=>by
  simp only[mZ,Bool.and_eq_true,Bool.not_eq_true',kJ,Bool.or_eq_false_iff,yX,decide_eq_false_iff_not] at h
  rcases List.mem_cons.1 hs with rfl|hs
  ·omega
  ·exact zY l a.seq h.2 s hs
theorem xG:∀ (l:List ProdD) (b:Int),aGg l b=true→∀ q ∈ l,dO q=true
 | [],_,_,q,hq=>by simp at hq
 | a::l,b,h,q,hq=>by
  simp only[aGg,Bool.and_eq_true,Bool.not_eq_true',Bool.or_eq_false_iff,Bool.not_eq_false'] at h
  rcases List.mem_cons.1 hq with rfl|hq
  ·simpa using h.1.2
  ·exact xG l a.pid h.2 q hq
theorem aB3 {p:PartD} (hs:SmallP p) (h:cA p=true):BaseOk p:=by
 refine⟨hs.prods.len,hs.prods.seen,fun q hq s hm=>?_⟩
 simp only[cA,Bool.and_eq_true] at h
 have hk:=xG _ _ h.1.2 q hq
 simp only[dO,Bool.and_eq_true] at hk
 have:=zY _ _ hk.2 s (by simpa using hm)
 exact⟨by omega,by omega⟩
theorem aJi {c:CoordD} (h:gW c=true):∀ x ∈ c.pends,eW x=true:=by
 intro x hx
 unfold gW at h
 split at h
 ·have:c=cz:=by simpa using h
  subst this;simp[cz] at hx
 ·simp only[Bool.and_eq_true,dV,List.all_eq_true] at h
  exact h.2.1.1.1.1.1.1 x hx
theorem xZ {c:CoordD} (hs:SmallC c) (h:gW c=true):PendsOk c:=by
 have hp:=aJi h
 refine⟨hs.pends,fun x hx=>?_,fun x hx=>?_⟩
 ·have:=hp x hx
  simp only[eW,aT,Bool.and_eq_true,decide_eq_true_eq] at this
  omega
 ·have:=hp x hx
  simp only[eW,aT,Bool.and_eq_true,decide_eq_true_eq] at this
  exact⟨by omega,by omega⟩
theorem aP9 {i:ImgD} (hs:SmallI i) (hr:RowsOk i) (hc:aX i=true):AllOk i:=by
 have q0:=cU hc 0
 have q1:=cU hc 1
 have q2:=cU hc 2
 simp only[aX,Bool.and_eq_true] at hc
 have hm:=hc.1.1.2
 simp only[eO,Bool.and_eq_true,cOk] at hm
 obtain⟨⟨h1,⟨⟨h2,h3⟩,h4⟩,⟨⟨h5,h6⟩,h7⟩,⟨⟨h8,h9⟩,h10⟩⟩,h11⟩:=hm
 refine⟨hs,hr,aB3 hs.p0 q0,aB3 hs.p1 q1,aB3 hs.p2 q2,xZ hs.m.c0 h2,xZ hs.m.c1 h5,xZ hs.m.c2 h8,fun n hn=>?_⟩
 rw[List.all_eq_true] at h11
 have:=h11 n hn
 simp only[lM,aT,Bool.and_eq_true,decide_eq_true_eq] at this
 exact⟨by omega,by omega⟩
theorem aI5 (i:ImgD) (hs:SmallI i) (hr:RowsOk i):(oU i=true∧aJ Tryz.prog 26 [.agg i.dv] (.tup [.agg (aCr i).dv,.val .nilIface]))∨(oU i=false∧∃ x,aJ Tryz.prog 26 [.agg i.dv] (.tup [.agg iz.dv,jQ x 2])):=by
 cases hc:aX i with
 | false=>right;exact⟨by unfold oU;rw[hc];rfl,aFh i hs hc⟩
 | true =>
 have ha:=aP9 hs hr hc
 have ht:Tabs (aY i.p0) (aY i.p1) (aY i.p2):=⟨dR (eQ (cU hc 0)),dR (eQ (cU hc 1)),dR (eQ (cU hc 2))⟩
 have hb:oU i=((kR i.p0 && (kR i.p1 && kR i.p2)) && (rH i && mB i)):=by unfold oU;rw[hc];rfl
 by_cases h0:mO i.p0=0
 rotate_left
 ·right;refine⟨?_,aCu i ha hc h0⟩
  rw[hb,Bool.eq_false_iff.2 (fun h=>h0 ((nK _).2 h))];rfl
 by_cases h1:mO i.p1=0
 rotate_left
 ·right;refine⟨?_,aCv i ha hc h0 h1⟩
  rw[hb,Bool.eq_false_iff.2 (fun h=>h1 ((nK i.p1).2 h))];simp
 by_cases h2:mO i.p2=0
 rotate_left
 ·right;refine⟨?_,aCw i ha hc h0 h1 h2⟩
  rw[hb,Bool.eq_false_iff.2 (fun h=>h2 ((nK i.p2).2 h))];simp
 have b0:=(nK _).1 h0
 have b1:=(nK _).1 h1
 have b2:=(nK _).1 h2
 have hb2:oU i=(rH i && mB i):=by rw[hb,b0,b1,b2];rfl
 have hN:∀ (jx:ImgD),FunG Tryz.prog 56 [.c (.own 5 16),.c (.d (kH (aY i.p0) (aY i.p1) (aY i.p2)))] [5] (cL [(5,.cells ((iX i).dv.map .d))]) (.c (.d (eK false))) [5] (cL [(5,.cells (jx.dv.map .d))])→∃ x,aJ Tryz.prog 26 [.agg i.dv] (.tup [.agg iz.dv,jQ x 2]) :=
  fun jx hR=>aFi i ha hc h0 h1 h2 jx hR
 have ep0:=yA i i.m.c0
 have ep1:=yA i i.m.c1
 have ep2:=yA i i.m.c2
 by_cases k0:hX (aY i.p0) (aY i.p1) (aY i.p2) i.m.c0=0
 rotate_left
 ·right;refine⟨?_,hN _ (aLs _ _ _ (iX i) ht ha.m k0)⟩
  rw[hb2];unfold rH;rw[Bool.eq_false_iff.2 (fun h=>k0 (ep0.2 h))];rfl
 by_cases k1:hX (aY i.p0) (aY i.p1) (aY i.p2) i.m.c1=0
 rotate_left
 ·right;refine⟨?_,hN _ (aLt _ _ _ (iX i) ht ha.m k0 k1)⟩
  rw[hb2];unfold rH;rw[Bool.eq_false_iff.2 (fun h=>k1 (ep1.2 h))];simp
 by_cases k2:hX (aY i.p0) (aY i.p1) (aY i.p2) i.m.c2=0
 rotate_left
 ·right;refine⟨?_,hN _ (aLu _ _ _ (iX i) ht ha.m k0 k1 k2)⟩
  rw[hb2];unfold rH;rw[Bool.eq_false_iff.2 (fun h=>k2 (ep2.2 h))];simp
 have hb3:oU i=mB i:=by
  rw[hb2];unfold rH;rw[ep0.1 k0,ep1.1 k1,ep2.1 k2];rfl
 have gi:∀ (p:PartD) (n:Int),uP p n=true ↔ (cM (aY p) n).2=0:=fun p n=>by unfold uP toP;rw[beq_iff_eq]
 by_cases k3:(cM (aY i.p0) i.m.gr.a0).2=0
 rotate_left
 ·right;refine⟨?_,hN _ (aLv _ _ _ (iX i) ht ha.m k0 k1 k2 k3)⟩
  rw[hb3];unfold mB;rw[Bool.eq_false_iff.2 (fun h=>k3 ((gi _ _).1 h))];rfl
 by_cases k4:(cM (aY i.p1) i.m.gr.a1).2=0
 rotate_left
 ·right;refine⟨?_,hN _ (aLw _ _ _ (iX i) ht ha.m k0 k1 k2 k3 k4)⟩
  rw[hb3];unfold mB;rw[Bool.eq_false_iff.2 (fun h=>k4 ((gi i.p1 i.m.gr.a1).1 h))];simp
 by_cases k5:(cM (aY i.p2) i.m.gr.a2).2=0
 rotate_left
 ·right;refine⟨?_,hN _ (aLx _ _ _ (iX i) ht ha.m k0 k1 k2 k3 k4 k5)⟩
  rw[hb3];unfold mB;rw[Bool.eq_false_iff.2 (fun h=>k5 ((gi i.p2 i.m.gr.a2).1 h))];simp
 by_cases k6:(cM (aY i.p0) i.m.gr.b0).2=0
 rotate_left
 ·right;refine⟨?_,hN _ (aLy _ _ _ (iX i) ht ha.m k0 k1 k2 k3 k4 k5 k6)⟩
  rw[hb3];unfold mB;rw[Bool.eq_false_iff.2 (fun h=>k6 ((gi i.p0 i.m.gr.b0).1 h))];simp
 by_cases k7:(cM (aY i.p1) i.m.gr.b1).2=0
 rotate_left
 ·right;refine⟨?_,hN _ (aLz _ _ _ (iX i) ht ha.m k0 k1 k2 k3 k4 k5 k6 k7)⟩
  rw[hb3];unfold mB;rw[Bool.eq_false_iff.2 (fun h=>k7 ((gi i.p1 i.m.gr.b1).1 h))];simp
 by_cases k8:(cM (aY i.p2) i.m.gr.b2).2=0
 rotate_left
 ·right;refine⟨?_,hN _ (aM0 _ _ _ (iX i) ht ha.m k0 k1 k2 k3 k4 k5 k6 k7 k8)⟩
  rw[hb3];unfold mB;rw[Bool.eq_false_iff.2 (fun h=>k8 ((gi i.p2 i.m.gr.b2).1 h))];simp
 left
 refine⟨?_,?_⟩
 ·rw[hb3];unfold mB
  rw[(gi i.p0 i.m.gr.a0).2 k3,(gi i.p1 i.m.gr.a1).2 k4,(gi i.p2 i.m.gr.a2).2 k5,(gi i.p0 i.m.gr.b0).2 k6,(gi i.p1 i.m.gr.b1).2 k7,(gi i.p2 i.m.gr.b2).2 k8];rfl
 ·have hD:=aFj i ha hc h0 h1 h2 _ (aM1 _ _ _ (iX i) ht ha.m k0 k1 k2 k3 k4 k5 k6 k7 k8)
  have e:(⟨(iX i).tag,(iX i).p0,(iX i).p1,(iX i).p2,⟨(iX i).m.made,gU (aY i.p0) (aY i.p1) (aY i.p2) (iX i).m.c0,gU (aY i.p0) (aY i.p1) (aY i.p2) (iX i).m.c1,gU (aY i.p0) (aY i.p1) (aY i.p2) (iX i).m.c2,⟨(cM (aY i.p0) (iX i).m.gr.a0).1,(cM (aY i.p1) (iX i).m.gr.a1).1,(cM (aY i.p2) (iX i).m.gr.a2).1,(cM (aY i.p0) (iX i).m.gr.b0).1,(cM (aY i.p1) (iX i).m.gr.b1).1,(cM (aY i.p2) (iX i).m.gr.b2).1⟩⟩⟩:ImgD)=aCr i:=by
   rw[aCa,aCa,aCa]
   unfold iX aCr
   rw[aC0 _ b0,aC0 _ b1,aC0 _ b2]
   rfl
  rw[e] at hD
  exact hD
theorem aK3 (i:ImgD) (hs:SmallI i) (hr:RowsOk i):aJ Tryz.prog 11 [.agg i.dv] (.tup [.agg (vY i).1.dv,int (vY i).2]):=by
 rcases aI5 i hs hr with ⟨hb,c1⟩|⟨hb,x,c1⟩
 ·have e:vY i=(aCr i,0):=by unfold vY;rw[hb];rfl
  have c2:=wE
  rw[e]
  simp only[ImgD.dv,PartD.dv,StateD.dv,CoordD.dv,GrpD.dv,List.cons_append,List.nil_append] at c1 ⊢
  (refine aJ.of_body Tryz.func11 rfl rfl Tryz.ntmps11 Tryz.results11 (by simp) ?_)
  (refine aH ?_;try with_reducible exact tt)
  (refine aM ?_;try with_reducible exact tt)
 ·have e:vY i=(iz,2):=by unfold vY;rw[hb];rfl
  have c2:=pA x 2
  rw[e]
  simp only[ImgD.dv,PartD.dv,StateD.dv,CoordD.dv,GrpD.dv,List.cons_append,List.nil_append] at c1 ⊢
  (refine aJ.of_body Tryz.func11 rfl rfl Tryz.ntmps11 Tryz.results11 (by simp) ?_)
  (refine aH ?_;try with_reducible exact tt)
  (refine aM ?_;try with_reducible exact tt)
end Go.Proofs.YtkmfmphpndhkjaaGreatDoor
