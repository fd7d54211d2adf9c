/- Package image: Bare. -/
import Derived.Test.YtkmfmphpndhkjaaGreatDoorBaH
namespace Go.Proofs.YtkmfmphpndhkjaaGreatDoor
open Go Go.RowKit
set_option maxHeartbeats 16000000
set_option maxRecDepth 100000
set_option linter.unusedVariables false
set_option linter.unusedSimpArgs false
theorem wX (l:List Int):mL l=0 ↔ ∀ e ∈ l,e=0:=⟨aDb l,nL l⟩
theorem uB (p:PartD) (q:ProdD):xO (aZ p) q=0 ↔ oK p q=true:=by
 unfold xO fD
 rw[wX]
 simp only[oK,List.all_eq_true,rT,beq_iff_eq,List.mem_map,forall_exists_index,and_imp,forall_apply_eq_imp_iff₂]
 exact Iff.rfl
theorem oT (p:PartD):oA p=0 ↔ fQ p=true:=by
 unfold oA kK
 rw[wX]
 simp only[fQ,List.all_eq_true,List.mem_map,forall_exists_index,and_imp,forall_apply_eq_imp_iff₂]
 constructor
 ·intro h q hq;exact (uB p q).1 (h q hq)
 ·intro h q hq;exact (uB p q).2 (h q hq)
theorem aFb (p:PartD) (h:fQ p=true):pT p=aP p:=by
 simp only[fQ,List.all_eq_true] at h
 unfold pT aP
 rw[PartD.mk.injEq]
 refine⟨rfl,rfl,rfl,rfl,List.map_congr_left (fun q hq=>?_)⟩
 have:=(uB p q).2 (h q hq)
 unfold yG eP
 rw[if_pos this]
 rfl
theorem aTm (i:ImgD) (n:Nat):kQ (aZ i.p0) (aZ i.p1) (aZ i.p2) n=aZ (i.p n):=by
 match n with
 | 0=>rfl
 | 1=>rfl
 | _+2=>rfl
theorem aQd (i:ImgD) (x:PendD):yT (aZ i.p0) (aZ i.p1) (aZ i.p2) x=(nJ i x,(jT (i.p x.part.toNat) x.off).2):=by
 unfold yT nJ
 rw[aTm]
 rfl
theorem aBd (i:ImgD) (c:CoordD):iW (aZ i.p0) (aZ i.p1) (aZ i.p2) c=0 ↔ c.pends.all (nT i)=true:=by
 unfold iW nC
 rw[wX]
 simp only[List.all_eq_true,nT,beq_iff_eq,List.mem_map,forall_exists_index,and_imp,forall_apply_eq_imp_iff₂,aQd]
theorem aFm (i:ImgD) (c:CoordD):iO (aZ i.p0) (aZ i.p1) (aZ i.p2) c=hU i c:=by
 unfold iO hU
 congr 1
 exact List.map_congr_left (fun x _=>by rw[aQd])
theorem wU:∀ (l:List SeenD) (b:Int),mX l b=true→∀ s ∈ l,-1≤s.base∧s.base≤1048576
 | [],_,_,s,hs=>by simp at hs
 | a::l,b,h,s,hs=>by
  simp only[mX,Bool.and_eq_true,Bool.not_eq_true',lE,Bool.or_eq_false_iff,zL,decide_eq_false_iff_not] at h
  rcases List.mem_cons.1 hs with rfl|hs
  ·omega
  ·exact wU l a.seq h.2 s hs
theorem tS:∀ (l:List ProdD) (b:Int),aCg l b=true→∀ q ∈ l,cM q=true
 | [],_,_,q,hq=>by simp at hq
 | a::l,b,h,q,hq=>by
  simp only[aCg,Bool.and_eq_true,Bool.not_eq_true',Bool.or_eq_false_iff,Bool.not_eq_false'] at h
  rcases List.mem_cons.1 hq with rfl|hq
  ·simpa using h.1.2
  ·exact tS l a.pid h.2 q hq
theorem aE9 {p:PartD} (hs:SmallP p) (h:bE p=true):BaseOk p:=by
 refine⟨hs.prods.len,hs.prods.seen,fun q hq s hm=>?_⟩
 simp only[bE,Bool.and_eq_true] at h
 have hk:=tS _ _ h.1.2 q hq
 simp only[cM,Bool.and_eq_true] at hk
 have:=wU _ _ hk.2 s (by simpa using hm)
 exact⟨by omega,by omega⟩
theorem sJ {c:CoordD} (h:fF c=true):∀ x ∈ c.pends,dG x=true:=by
 intro x hx
 unfold fF at h
 split at h
 ·have:c=cz:=by simpa using h
  subst this;simp[cz] at hx
 ·simp only[Bool.and_eq_true,dK,List.all_eq_true] at h
  exact h.2.1.1.1.1.1.1 x hx
theorem aBc {c:CoordD} (hs:SmallC c) (h:fF c=true):PendsOk c:=by
 have hp:=sJ h
 refine⟨hs.pends,fun x hx=>?_,fun x hx=>?_⟩
 ·have:=hp x hx
  simp only[dG,aU,Bool.and_eq_true,decide_eq_true_eq] at this
  omega
 ·have:=hp x hx
  simp only[dG,aU,Bool.and_eq_true,decide_eq_true_eq] at this
  exact⟨by omega,by omega⟩
theorem aUc {i:ImgD} (hs:SmallI i) (hr:RowsOk i) (hc:aS i=true):AllOk i:=by
 have q0:=bI hc 0
 have q1:=bI hc 1
 have q2:=bI hc 2
 simp only[aS,Bool.and_eq_true] at hc
 have hm:=hc.1.1.2
 simp only[fG,Bool.and_eq_true,cOk] at hm
 obtain⟨⟨h1,⟨⟨h2,h3⟩,h4⟩,⟨⟨h5,h6⟩,h7⟩,⟨⟨h8,h9⟩,h10⟩⟩,h11⟩:=hm
 refine⟨hs,hr,aE9 hs.p0 q0,aE9 hs.p1 q1,aE9 hs.p2 q2,aBc hs.m.c0 h2,aBc hs.m.c1 h5,aBc hs.m.c2 h8,fun n hn=>?_⟩
 rw[List.all_eq_true] at h11
 have:=h11 n hn
 simp only[aHi,aU,Bool.and_eq_true,decide_eq_true_eq] at this
 exact⟨by omega,by omega⟩
theorem wR (i:ImgD) (hs:SmallI i) (hr:RowsOk i):(eT i=true∧aJ Tryz.prog 26 [.agg i.dv] (.tup [.agg (bM i).dv,.val .nilIface]))∨(eT i=false∧∃ x,aJ Tryz.prog 26 [.agg i.dv] (.tup [.agg iz.dv,kL x 2])):=by
 cases hc:aS i with
 | false=>right;exact⟨by unfold eT;rw[hc];rfl,aJg i hs hc⟩
 | true =>
 have ha:=aUc hs hr hc
 have ht:Tabs (aZ i.p0) (aZ i.p1) (aZ i.p2):=⟨dX (dA (bI hc 0)),dX (dA (bI hc 1)),dX (dA (bI hc 2))⟩
 have hb:eT i=((fQ i.p0 && (fQ i.p1 && fQ i.p2)) && (nX i && kF i)):=by unfold eT;rw[hc];rfl
 by_cases h0:oA i.p0=0
 rotate_left
 ·right;refine⟨?_,aGc i ha hc h0⟩
  rw[hb,Bool.eq_false_iff.2 (fun h=>h0 ((oT _).2 h))];rfl
 by_cases h1:oA i.p1=0
 rotate_left
 ·right;refine⟨?_,aGd i ha hc h0 h1⟩
  rw[hb,Bool.eq_false_iff.2 (fun h=>h1 ((oT i.p1).2 h))];simp
 by_cases h2:oA i.p2=0
 rotate_left
 ·right;refine⟨?_,aGe i ha hc h0 h1 h2⟩
  rw[hb,Bool.eq_false_iff.2 (fun h=>h2 ((oT i.p2).2 h))];simp
 have b0:=(oT _).1 h0
 have b1:=(oT _).1 h1
 have b2:=(oT _).1 h2
 have hb2:eT i=(nX i && kF i):=by rw[hb,b0,b1,b2];rfl
 have hN:∀ (jx:ImgD),FunG Tryz.prog 56 [.c (.own 5 16),.c (.d (lI (aZ i.p0) (aZ i.p1) (aZ i.p2)))] [5] (bJ [(5,.cells ((kP i).dv.map .d))]) (.c (.d (dC false))) [5] (bJ [(5,.cells (jx.dv.map .d))])→∃ x,aJ Tryz.prog 26 [.agg i.dv] (.tup [.agg iz.dv,kL x 2]) :=
  fun jx hR=>aJh i ha hc h0 h1 h2 jx hR
 have ep0:=aBd i i.m.c0
 have ep1:=aBd i i.m.c1
 have ep2:=aBd i i.m.c2
 by_cases k0:iW (aZ i.p0) (aZ i.p1) (aZ i.p2) i.m.c0=0
 rotate_left
 ·right;refine⟨?_,hN _ (aQf _ _ _ (kP i) ht ha.m k0)⟩
  rw[hb2];unfold nX;rw[Bool.eq_false_iff.2 (fun h=>k0 (ep0.2 h))];rfl
 by_cases k1:iW (aZ i.p0) (aZ i.p1) (aZ i.p2) i.m.c1=0
 rotate_left
 ·right;refine⟨?_,hN _ (aQg _ _ _ (kP i) ht ha.m k0 k1)⟩
  rw[hb2];unfold nX;rw[Bool.eq_false_iff.2 (fun h=>k1 (ep1.2 h))];simp
 by_cases k2:iW (aZ i.p0) (aZ i.p1) (aZ i.p2) i.m.c2=0
 rotate_left
 ·right;refine⟨?_,hN _ (aQh _ _ _ (kP i) ht ha.m k0 k1 k2)⟩
  rw[hb2];unfold nX;rw[Bool.eq_false_iff.2 (fun h=>k2 (ep2.2 h))];simp
 have hb3:eT i=kF i:=by
  rw[hb2];unfold nX;rw[ep0.1 k0,ep1.1 k1,ep2.1 k2];rfl
 have gi:∀ (p:PartD) (n:Int),rF p n=true ↔ (cB (aZ p) n).2=0:=fun p n=>by unfold rF jT;rw[beq_iff_eq]
 by_cases k3:(cB (aZ i.p0) i.m.gr.a0).2=0
 rotate_left
 ·right;refine⟨?_,hN _ (aQi _ _ _ (kP i) ht ha.m k0 k1 k2 k3)⟩
  rw[hb3];unfold kF;rw[Bool.eq_false_iff.2 (fun h=>k3 ((gi _ _).1 h))];rfl
 by_cases k4:(cB (aZ i.p1) i.m.gr.a1).2=0
 rotate_left
 ·right;refine⟨?_,hN _ (aQj _ _ _ (kP i) ht ha.m k0 k1 k2 k3 k4)⟩
  rw[hb3];unfold kF;rw[Bool.eq_false_iff.2 (fun h=>k4 ((gi i.p1 i.m.gr.a1).1 h))];simp
 by_cases k5:(cB (aZ i.p2) i.m.gr.a2).2=0
 rotate_left
 ·right;refine⟨?_,hN _ (aQk _ _ _ (kP i) ht ha.m k0 k1 k2 k3 k4 k5)⟩
  rw[hb3];unfold kF;rw[Bool.eq_false_iff.2 (fun h=>k5 ((gi i.p2 i.m.gr.a2).1 h))];simp
 by_cases k6:(cB (aZ i.p0) i.m.gr.b0).2=0
 rotate_left
 ·right;refine⟨?_,hN _ (aQl _ _ _ (kP i) ht ha.m k0 k1 k2 k3 k4 k5 k6)⟩
  rw[hb3];unfold kF;rw[Bool.eq_false_iff.2 (fun h=>k6 ((gi i.p0 i.m.gr.b0).1 h))];simp
 by_cases k7:(cB (aZ i.p1) i.m.gr.b1).2=0
 rotate_left
 ·right;refine⟨?_,hN _ (aQm _ _ _ (kP i) ht ha.m k0 k1 k2 k3 k4 k5 k6 k7)⟩
  rw[hb3];unfold kF;rw[Bool.eq_false_iff.2 (fun h=>k7 ((gi i.p1 i.m.gr.b1).1 h))];simp
 by_cases k8:(cB (aZ i.p2) i.m.gr.b2).2=0
 rotate_left
 ·right;refine⟨?_,hN _ (aQn _ _ _ (kP i) ht ha.m k0 k1 k2 k3 k4 k5 k6 k7 k8)⟩
  rw[hb3];unfold kF;rw[Bool.eq_false_iff.2 (fun h=>k8 ((gi i.p2 i.m.gr.b2).1 h))];simp
 left
 refine⟨?_,?_⟩
 ·rw[hb3];unfold kF
  rw[(gi i.p0 i.m.gr.a0).2 k3,(gi i.p1 i.m.gr.a1).2 k4,(gi i.p2 i.m.gr.a2).2 k5,(gi i.p0 i.m.gr.b0).2 k6,(gi i.p1 i.m.gr.b1).2 k7,(gi i.p2 i.m.gr.b2).2 k8];rfl
 ·have hD:=aJi i ha hc h0 h1 h2 _ (aQo _ _ _ (kP i) ht ha.m k0 k1 k2 k3 k4 k5 k6 k7 k8)
  have e:(⟨(kP i).tag,(kP i).p0,(kP i).p1,(kP i).p2,⟨(kP i).m.made,iO (aZ i.p0) (aZ i.p1) (aZ i.p2) (kP i).m.c0,iO (aZ i.p0) (aZ i.p1) (aZ i.p2) (kP i).m.c1,iO (aZ i.p0) (aZ i.p1) (aZ i.p2) (kP i).m.c2,⟨(cB (aZ i.p0) (kP i).m.gr.a0).1,(cB (aZ i.p1) (kP i).m.gr.a1).1,(cB (aZ i.p2) (kP i).m.gr.a2).1,(cB (aZ i.p0) (kP i).m.gr.b0).1,(cB (aZ i.p1) (kP i).m.gr.b1).1,(cB (aZ i.p2) (kP i).m.gr.b2).1⟩⟩⟩:ImgD)=bM i:=by
   rw[aFm,aFm,aFm]
   unfold kP bM
   rw[aFb _ b0,aFb _ b1,aFb _ b2]
   rfl
  rw[e] at hD
  exact hD
theorem qO (i:ImgD) (hs:SmallI i) (hr:RowsOk i):aJ Tryz.prog 11 [.agg i.dv] (.tup [.agg (kS i).1.dv,int (kS i).2]):=by
 rcases wR i hs hr with ⟨hb,c1⟩|⟨hb,x,c1⟩
 ·have e:kS i=(bM i,0):=by unfold kS;rw[hb];rfl
  have c2:=zV
  rw[e]
  simp only[ImgD.dv,PartD.dv,StateD.dv,CoordD.dv,GrpD.dv,List.cons_append,List.nil_append] at c1 ⊢
  (refine aJ.of_body Tryz.func11 rfl rfl Tryz.ntmps11 Tryz.results11 (by simp) ?_)
  (refine aI ?_;try with_reducible exact tt)
  (refine aK ?_;try with_reducible exact tt)
 ·have e:kS i=(iz,2):=by unfold kS;rw[hb];rfl
  have c2:=qY x 2
  rw[e]
  simp only[ImgD.dv,PartD.dv,StateD.dv,CoordD.dv,GrpD.dv,List.cons_append,List.nil_append] at c1 ⊢
  (refine aJ.of_body Tryz.func11 rfl rfl Tryz.ntmps11 Tryz.results11 (by simp) ?_)
  (refine aI ?_;try with_reducible exact tt)
  (refine aK ?_;try with_reducible exact tt)
end Go.Proofs.YtkmfmphpndhkjaaGreatDoor
