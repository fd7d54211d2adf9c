/- The abstract machine (BfG, BfH, BfI). -/
import Derived.Test.YtpklhnpchhaccaaGreatDoorBfF
namespace Go.Proofs.YtpklhnpchhaccaaGreatDoor
open Go Go.RowKit
set_option maxHeartbeats 16000000
set_option maxRecDepth 100000
set_option linter.unusedVariables false
set_option linter.unusedSimpArgs false
theorem aDy (e:EntD) (h:e.kind<0∨7≤e.kind):bF Tryz.prog 158 [.agg e.dv] (gD false):=by
 obtain⟨k,b,yes,next,off,row,prod⟩:=e
 dsimp only at h
 have k0:(k == 0)=false:=by rw[beq_eq_false_iff_ne];omega
 have k1:(k == 1)=false:=by rw[beq_eq_false_iff_ne];omega
 have k2:(k == 2)=false:=by rw[beq_eq_false_iff_ne];omega
 have k3:(k == 3)=false:=by rw[beq_eq_false_iff_ne];omega
 have k4:(k == 4)=false:=by rw[beq_eq_false_iff_ne];omega
 have k5:(k == 5)=false:=by rw[beq_eq_false_iff_ne];omega
 have k6:(k == 6)=false:=by rw[beq_eq_false_iff_ne];omega
 (refine bF.of_body Tryz.func158 rfl rfl Tryz.ntmps158 Tryz.results158 (by simp) ?_)
 (refine gO (ai @EntD.dv.eq_1 (ai k0 (ai k1 (ai k2 (ai k3 (ai k4 (ai k5 (k6)))))))) ?_)
 (refine aY ?_;try with_reducible exact tt)
theorem xU (e:EntD) (hr:e.b.recs.length≤100000) (hq:e.prod.seen.length≤100000):bF Tryz.prog 158 [.agg e.dv] (gD (aK e)):=by
 unfold aK
 by_cases h:e.kind<0∨7≤e.kind
 ·have:(decide (0≤e.kind) && decide (e.kind<7))=false:=by simp;omega
  rw[this];exact aDy e h
 ·have:(decide (0≤e.kind) && decide (e.kind<7))=true:=by simp;omega
  rw[this];exact uE e (by omega) hr hq
def pY (p:PartD) (w:eV) (e:EntD):Option (PartD × eV) :=
 if jT (cG w e.b.pid) e.b=true then none else
 if e.yes=false then some (p,eE w e.b.pid (cG w e.b.pid++[e.b])) else
 if e.next≠dQ e.b then none else
 if (aF p (cG w e.b.pid++[e.b])).1=false then none else
 if 1048576<(aF p (cG w e.b.pid++[e.b])).2.fin then none else
 some ({ (aF p (cG w e.b.pid++[e.b])).2 with prods:=dT (aF p (cG w e.b.pid++[e.b])).2.prods e.b.pid },cI (eE w e.b.pid (cG w e.b.pid++[e.b])) e.b.pid)
def zS (p:PartD) (w:eV) (e:EntD):Option (PartD × eV) :=
 if aK e=false then none else
 if e.kind=3 then pY p w e else
 if e.kind=4 then (if jW p e=true then none else some (zJ p e,cI w e.b.pid)) else
 if e.kind=1 then none else
 if e.kind=0∧e.b.txn=true then none else
 match jH p e with
 | some q=>some (q,w)
 | none=>none
def aXc (f:FuncId) (args:List SV) (s:BufS) (o:Option (PartD × eV)):Prop:=∃ r t,FunG Tryz.prog f args gF (bK (iH s)) r gF (bK (iH t))∧iG t.w∧((o=some (t.p,t.w)∧r=lH∧t.vc=t.vt)∨(o=none∧∃ m,r=jA m))
theorem aRy (s:BufS) (e:EntD) (h:s.vc=s.vt):(pY s.p s.w e=some ((aAb s e).p,(aAb s e).w)∧aDx s e=lH∧(aAb s e).vc=(aAb s e).vt)∨(pY s.p s.w e=none∧∃ m,aDx s e=jA m):=by
 unfold pY aDx aAb rG
 split
 ·exact .inr ⟨rfl,_,rfl⟩
 split
 ·refine .inl ⟨rfl,rfl,?_⟩;unfold aLr;rw[h]
 split
 ·exact .inr ⟨rfl,_,rfl⟩
 split
 ·exact .inr ⟨rfl,_,rfl⟩
 split
 ·exact .inr ⟨rfl,_,rfl⟩
 ·refine .inl ⟨rfl,rfl,?_⟩;unfold aY6;rw[h]
abbrev aZo:List UInt8:=[97,110,32,101,110,116,114,121,32,116,104,97,116,32,105,115,32,110,111,116,32,118,97,108,105,100]
abbrev aZp:List UInt8:=[97,32,98,97,116,99,104,32,111,102,32,97,32,116,114,97,110,115,97,99,116,105,111,110,32,105,110,32,116,104,101,32,108,111,103]
abbrev aZq:List UInt8:=[97,110,32,101,110,116,114,121,32,111,102,32,116,104,101,32,111,116,104,101,114,32,101,110,103,105,110,101]
theorem wK (s t:BufS) (e:EntD) (r:SV) (hw:iG s.w) (ht:iG t.w) (hr:pM r.ids gF=true) (he:SmallEn e) (hm:aK e=true)
  (hc:(e.kind=3∧FunG Tryz.prog 159 [.c (.own 0 0),kI e] gF (bK (iH s)) r gF (bK (iH t)))∨(e.kind=4∧FunG Tryz.prog 160 [.c (.own 0 0),kI e] gF (bK (iH s)) r gF (bK (iH t))) ∨
   ((e.kind=0∧e.b.txn=false∨e.kind=2∨e.kind=5∨e.kind=6)∧FunG Tryz.prog 161 [.c (.own 0 0),kI e] gF (bK (iH s)) r gF (bK (iH t)))) :
  FunG Tryz.prog 102 [.c (.own 0 0),kI e] gF (bK (iH s)) r gF (bK (iH t)):=by
 have c1:=xU e he.recs he.seen
 rw[hm] at c1
 have hbV:kI e = .agg (e.dv.map CV.d):=rfl
 simp only[EntD.dv] at c1
 refine FunG.of_bodyH rfl rfl Tryz.func102 rfl rfl Tryz.ntmps102 Tryz.results102 (Nat.le_of_ble_eq_true rfl) (kS rfl hr hw ht) ?_
 rcases hc with ⟨hk,c2⟩|⟨hk,c2⟩|⟨hk,c2⟩
 ·have k3:(e.kind == 3)=true:=by simpa using hk
  (refine gO (ai @aC (ai @EntD.dv.eq_1 (ai k3 (ai @List.map_cons.{0,0} (@List.map_nil.{0,0}))))) ?_)
  (first|refine Wp.sregG ?_|refine Wp.regG ?_|(refine Wp.seq ?_;first|refine Wp.sregG ?_|refine Wp.regG ?_))
  (refine aG.at 2 (fun K hK=>?_);(refine rO (ai @aC (ai @EntD.dv.eq_1 (ai @List.map_cons.{0,0} (@List.map_nil.{0,0})))) ?_);refine hK _ ?_;clear hK K)
  (refine aG.call (c2) [] 1010 rfl rfl ?_ ?_;(focus ((refine yL (ai @eP (ai @aC (ai @aW (ai hbV (ai @EntD.dv.eq_1 (ai @List.map_cons.{0,0} (@List.map_nil.{0,0}))))))) ?_;try with_reducible exact tt);done)))
  (refine aG.done (fun K hK=>?_);(refine rOt (ai @aC (ai @cU.eq_1 (ai @cU.eq_2 (ai @aW (ai @cH (ai @List.map_cons.{0,0} (@List.map_nil.{0,0}))))))) ?_);refine hK _ ?_;clear hK K)
  (refine gO (@aC) ?_)
  refine aX.ret ?_
  (refine rO (ai @aC (ai @aS.eq_1 (@aS.eq_2))) ?_;try with_reducible exact tt)
 ·have k3:(e.kind == 3)=false:=by rw[hk];rfl
  have k4:(e.kind == 4)=true:=by simpa using hk
  (refine gO (ai @aC (ai @EntD.dv.eq_1 (ai k3 (ai k4 (ai @List.map_cons.{0,0} (@List.map_nil.{0,0})))))) ?_)
  (first|refine Wp.sregG ?_|refine Wp.regG ?_|(refine Wp.seq ?_;first|refine Wp.sregG ?_|refine Wp.regG ?_))
  (refine aG.at 2 (fun K hK=>?_);(refine rO (ai @aC (ai @EntD.dv.eq_1 (ai @List.map_cons.{0,0} (@List.map_nil.{0,0})))) ?_);refine hK _ ?_;clear hK K)
  (refine aG.call (c2) [] 1010 rfl rfl ?_ ?_;(focus ((refine yL (ai @eP (ai @aC (ai @aW (ai hbV (ai @EntD.dv.eq_1 (ai @List.map_cons.{0,0} (@List.map_nil.{0,0}))))))) ?_;try with_reducible exact tt);done)))
  (refine aG.done (fun K hK=>?_);(refine rOt (ai @aC (ai @cU.eq_1 (ai @cU.eq_2 (ai @aW (ai @cH (ai @List.map_cons.{0,0} (@List.map_nil.{0,0}))))))) ?_);refine hK _ ?_;clear hK K)
  (refine gO (@aC) ?_)
  refine aX.ret ?_
  (refine rO (ai @aC (ai @aS.eq_1 (@aS.eq_2))) ?_;try with_reducible exact tt)
 ·have k3:(e.kind == 3)=false:=by rw[beq_eq_false_iff_ne];omega
  have k4:(e.kind == 4)=false:=by rw[beq_eq_false_iff_ne];omega
  rcases hk with ⟨hk,htx⟩|hk|hk|hk
  ·have k0:(e.kind == 0)=true:=by simpa using hk
   rw[htx] at c1
   (refine gO (ai @aC (ai @EntD.dv.eq_1 (ai k3 (ai k4 (ai k0 (ai htx (ai @List.map_cons.{0,0} (@List.map_nil.{0,0})))))))) ?_)
   (first|refine Wp.sregG ?_|refine Wp.regG ?_|(refine Wp.seq ?_;first|refine Wp.sregG ?_|refine Wp.regG ?_))
   (refine aG.at 2 (fun K hK=>?_);(refine rO (ai @aC (ai @EntD.dv.eq_1 (ai htx (ai @List.map_cons.{0,0} (@List.map_nil.{0,0}))))) ?_);refine hK _ ?_;clear hK K)
   (refine aG.call (c2) [] 1010 rfl rfl ?_ ?_;(focus ((refine yL (ai @eP (ai @aC (ai @aW (ai hbV (ai htx (ai @EntD.dv.eq_1 (ai @List.map_cons.{0,0} (@List.map_nil.{0,0})))))))) ?_;try with_reducible exact tt);done)))
   (refine aG.done (fun K hK=>?_);(refine rOt (ai @aC (ai @cU.eq_1 (ai @cU.eq_2 (ai @aW (ai @cH (ai @List.map_cons.{0,0} (@List.map_nil.{0,0}))))))) ?_);refine hK _ ?_;clear hK K)
   (refine gO (@aC) ?_)
   refine aX.ret ?_
   (refine rO (ai @aC (ai @aS.eq_1 (@aS.eq_2))) ?_;try with_reducible exact tt)
  ·have k0:(e.kind == 0)=false:=by rw[hk];rfl
   have k2:(e.kind == 2)=true:=by simpa using hk
   (refine gO (ai @aC (ai @EntD.dv.eq_1 (ai k3 (ai k4 (ai k0 (ai k2 (ai @List.map_cons.{0,0} (@List.map_nil.{0,0})))))))) ?_)
   (first|refine Wp.sregG ?_|refine Wp.regG ?_|(refine Wp.seq ?_;first|refine Wp.sregG ?_|refine Wp.regG ?_))
   (refine aG.at 2 (fun K hK=>?_);(refine rO (ai @aC (ai @EntD.dv.eq_1 (ai @List.map_cons.{0,0} (@List.map_nil.{0,0})))) ?_);refine hK _ ?_;clear hK K)
   (refine aG.call (c2) [] 1010 rfl rfl ?_ ?_;(focus ((refine yL (ai @eP (ai @aC (ai @aW (ai hbV (ai @EntD.dv.eq_1 (ai @List.map_cons.{0,0} (@List.map_nil.{0,0}))))))) ?_;try with_reducible exact tt);done)))
   (refine aG.done (fun K hK=>?_);(refine rOt (ai @aC (ai @cU.eq_1 (ai @cU.eq_2 (ai @aW (ai @cH (ai @List.map_cons.{0,0} (@List.map_nil.{0,0}))))))) ?_);refine hK _ ?_;clear hK K)
   (refine gO (@aC) ?_)
   refine aX.ret ?_
   (refine rO (ai @aC (ai @aS.eq_1 (@aS.eq_2))) ?_;try with_reducible exact tt)
  ·have k0:(e.kind == 0)=false:=by rw[hk];rfl
   have k2:(e.kind == 2)=false:=by rw[hk];rfl
   have k5:(e.kind == 5)=true:=by simpa using hk
   (refine gO (ai @aC (ai @EntD.dv.eq_1 (ai k3 (ai k4 (ai k0 (ai k2 (ai k5 (ai @List.map_cons.{0,0} (@List.map_nil.{0,0}))))))))) ?_)
   (first|refine Wp.sregG ?_|refine Wp.regG ?_|(refine Wp.seq ?_;first|refine Wp.sregG ?_|refine Wp.regG ?_))
   (refine aG.at 2 (fun K hK=>?_);(refine rO (ai @aC (ai @EntD.dv.eq_1 (ai @List.map_cons.{0,0} (@List.map_nil.{0,0})))) ?_);refine hK _ ?_;clear hK K)
   (refine aG.call (c2) [] 1010 rfl rfl ?_ ?_;(focus ((refine yL (ai @eP (ai @aC (ai @aW (ai hbV (ai @EntD.dv.eq_1 (ai @List.map_cons.{0,0} (@List.map_nil.{0,0}))))))) ?_;try with_reducible exact tt);done)))
   (refine aG.done (fun K hK=>?_);(refine rOt (ai @aC (ai @cU.eq_1 (ai @cU.eq_2 (ai @aW (ai @cH (ai @List.map_cons.{0,0} (@List.map_nil.{0,0}))))))) ?_);refine hK _ ?_;clear hK K)
   (refine gO (@aC) ?_)
   refine aX.ret ?_
   (refine rO (ai @aC (ai @aS.eq_1 (@aS.eq_2))) ?_;try with_reducible exact tt)
  ·have k0:(e.kind == 0)=false:=by rw[hk];rfl
   have k2:(e.kind == 2)=false:=by rw[hk];rfl
   have k5:(e.kind == 5)=false:=by rw[hk];rfl
   have k6:(e.kind == 6)=true:=by simpa using hk
   (refine gO (ai @aC (ai @EntD.dv.eq_1 (ai k3 (ai k4 (ai k0 (ai k2 (ai k5 (ai k6 (ai @List.map_cons.{0,0} (@List.map_nil.{0,0})))))))))) ?_)
   (first|refine Wp.sregG ?_|refine Wp.regG ?_|(refine Wp.seq ?_;first|refine Wp.sregG ?_|refine Wp.regG ?_))
   (refine aG.at 2 (fun K hK=>?_);(refine rO (ai @aC (ai @EntD.dv.eq_1 (ai @List.map_cons.{0,0} (@List.map_nil.{0,0})))) ?_);refine hK _ ?_;clear hK K)
   (refine aG.call (c2) [] 1010 rfl rfl ?_ ?_;(focus ((refine yL (ai @eP (ai @aC (ai @aW (ai hbV (ai @EntD.dv.eq_1 (ai @List.map_cons.{0,0} (@List.map_nil.{0,0}))))))) ?_;try with_reducible exact tt);done)))
   (refine aG.done (fun K hK=>?_);(refine rOt (ai @aC (ai @cU.eq_1 (ai @cU.eq_2 (ai @aW (ai @cH (ai @List.map_cons.{0,0} (@List.map_nil.{0,0}))))))) ?_);refine hK _ ?_;clear hK K)
   (refine gO (@aC) ?_)
   refine aX.ret ?_
   (refine rO (ai @aC (ai @aS.eq_1 (@aS.eq_2))) ?_;try with_reducible exact tt)
theorem aHe (s:BufS) (e:EntD) (hw:iG s.w) (he:SmallEn e) (hc:aK e=false∨aK e=true∧(e.kind=1∨e.kind=0∧e.b.txn=true)) :
  ∃ m,FunG Tryz.prog 102 [.c (.own 0 0),kI e] gF (bK (iH s)) (jA m) gF (bK (iH s)):=by
 have c1:=xU e he.recs he.seen
 rcases hc with hm|⟨hm,hk|⟨hk,htx⟩⟩
 ·refine⟨aZo,?_⟩
  have c2:=cP aZo
  rw[hm] at c1
  simp only[EntD.dv] at c1
  refine FunG.of_bodyH rfl rfl Tryz.func102 rfl rfl Tryz.ntmps102 Tryz.results102 (Nat.le_of_ble_eq_true rfl) (kS rfl rfl hw hw) ?_
  (refine gO (ai @aC (ai @EntD.dv.eq_1 (ai @List.map_cons.{0,0} (@List.map_nil.{0,0})))) ?_)
  refine aX.ret ?_
  (refine rO (ai @aC (ai @aS.eq_1 (@aS.eq_2))) ?_;try with_reducible exact tt)
 ·refine⟨aZq,?_⟩
  have c2:=cP aZq
  have k3:(e.kind == 3)=false:=by rw[hk];rfl
  have k4:(e.kind == 4)=false:=by rw[hk];rfl
  have k0:(e.kind == 0)=false:=by rw[hk];rfl
  have k2:(e.kind == 2)=false:=by rw[hk];rfl
  have k5:(e.kind == 5)=false:=by rw[hk];rfl
  have k6:(e.kind == 6)=false:=by rw[hk];rfl
  rw[hm] at c1
  simp only[EntD.dv] at c1
  refine FunG.of_bodyH rfl rfl Tryz.func102 rfl rfl Tryz.ntmps102 Tryz.results102 (Nat.le_of_ble_eq_true rfl) (kS rfl rfl hw hw) ?_
  (refine gO (ai @aC (ai @EntD.dv.eq_1 (ai k3 (ai k4 (ai k0 (ai k2 (ai k5 (ai k6 (ai @List.map_cons.{0,0} (@List.map_nil.{0,0})))))))))) ?_)
  refine aX.ret ?_
  (refine rO (ai @aC (ai @aS.eq_1 (@aS.eq_2))) ?_;try with_reducible exact tt)
 ·refine⟨aZp,?_⟩
  have c2:=cP aZp
  have k3:(e.kind == 3)=false:=by rw[hk];rfl
  have k4:(e.kind == 4)=false:=by rw[hk];rfl
  have k0:(e.kind == 0)=true:=by rw[hk];rfl
  rw[hm] at c1
  simp only[EntD.dv,htx] at c1
  refine FunG.of_bodyH rfl rfl Tryz.func102 rfl rfl Tryz.ntmps102 Tryz.results102 (Nat.le_of_ble_eq_true rfl) (kS rfl rfl hw hw) ?_
  (refine gO (ai @aC (ai @EntD.dv.eq_1 (ai k3 (ai k4 (ai k0 (ai htx (ai @List.map_cons.{0,0} (@List.map_nil.{0,0})))))))) ?_)
  refine aX.ret ?_
  (refine rO (ai @aC (ai @aS.eq_1 (@aS.eq_2))) ?_;try with_reducible exact tt)
set_option maxHeartbeats 4000000
theorem vT {e:EntD} (hm:aK e=true) (hk:e.kind=3):dK e.b=true:=by
 obtain⟨k,b,yes,next,off,row,prod⟩:=e
 dsimp only at hk
 subst hk
 unfold aK at hm
 have h1:qK ⟨3,b,yes,next,off,row,prod⟩=(b.txn && ((!yes || fS next 0 1048576) && (dK b && decide ((⟨3,kA,false,if yes then 0 else next,off,row,prod⟩:EntD)=zE 3)))):=rfl
 rw[h1] at hm
 simp only[Bool.and_eq_true] at hm
 exact hm.2.2.2.1
theorem aNv {p:PartD} {w:eV} (h:Sm14 p w):FOk 10000 (eR p) :=
 ⟨⟨fun o ho=>by simp[eR] at ho,by simp[eR]⟩,h.fin,by simp[eR],h.prods,h.seen,by simp[eR],fun x hx=>by simp[eR] at hx,fun x hx=>by simp[eR] at hx⟩
theorem wM {e:EntD} (h:aK e=true):0≤e.kind∧e.kind<7:=by
 unfold aK at h
 simp at h
 exact⟨h.1.1,h.1.2⟩
theorem vI (s:BufS) (e:EntD) (h:BokB s) (he:SmallEn e):aXc 102 [.c (.own 0 0),kI e] s (zS s.p s.w e):=by
 have hw:=h.w.pid
 have hqs:SmallL s.p.prods:=⟨by have:=h.sm.prods;omega,fun x hx=>by have:=h.sm.seen x hx;omega⟩
 unfold zS
 cases hm:aK e with
 | false =>
  obtain⟨m,c⟩:=aHe s e hw he (.inl hm)
  rw[if_pos rfl]
  exact⟨_,s,c,hw,.inr ⟨rfl,m,rfl⟩⟩
 | true =>
 have hrg:=wM hm
 have ny:¬ (true=false):=by simp
 rw[if_neg ny]
 by_cases k3:e.kind=3
 ·rw[if_pos k3]
  obtain⟨hp,hb⟩:=lC (vT hm k3)
  have c:=wK s (aAb s e) e (aDx s e) hw (aB7 h hp) (aIw s e) he hm (.inl ⟨k3,aPb s e h hb hp⟩)
  exact⟨_,_,c,aB7 h hp,aRy s e h.v⟩
 rw[if_neg k3]
 by_cases k4:e.kind=4
 ·rw[if_pos k4]
  have c0:=aVn s e hw hqs
  cases hd:jW s.p e with
  | true =>
   rw[hd,if_pos rfl,if_pos rfl] at c0
   have c:=wK s s e (jA aGx) hw hw rfl he hm (.inr (.inl ⟨k4,c0⟩))
   rw[if_pos rfl]
   exact⟨_,_,c,hw,.inr ⟨rfl,_,rfl⟩⟩
  | false =>
   rw[hd,if_neg Bool.false_ne_true,if_neg Bool.false_ne_true] at c0
   have c:=wK s (aBa s e) e lH hw (mQ hw e.b.pid) rfl he hm (.inr (.inl ⟨k4,c0⟩))
   rw[if_neg Bool.false_ne_true]
   exact⟨_,_,c,mQ hw e.b.pid,.inl ⟨rfl,rfl,h.v⟩⟩
 rw[if_neg k4]
 by_cases k1:e.kind=1
 ·rw[if_pos k1]
  obtain⟨m,c⟩:=aHe s e hw he (.inr ⟨hm,.inl k1⟩)
  exact⟨_,s,c,hw,.inr ⟨rfl,m,rfl⟩⟩
 rw[if_neg k1]
 by_cases k0:e.kind=0∧e.b.txn=true
 ·rw[if_pos k0]
  obtain⟨m,c⟩:=aHe s e hw he (.inr ⟨hm,.inr k0⟩)
  exact⟨_,s,c,hw,.inr ⟨rfl,m,rfl⟩⟩
 rw[if_neg k0]
 have hk:(e.kind=0∧e.b.txn=false∨e.kind=2∨e.kind=5∨e.kind=6):=by
  by_cases h0:e.kind=0
  ·left;refine⟨h0,?_⟩
   cases ht:e.b.txn with
   | false=>rfl
   | true=>exact absurd ⟨h0,ht⟩ k0
  ·right;omega
 unfold jH
 cases hst:bO (eR s.p) e with
 | some q =>
  have c0:=aGn s e q 10000 hw (by omega) (aNv h.sm) he (by have:=h.sm.rows;omega) hst hm hk
  have c:=wK s ⟨{ s.p with start:=q.start,fin:=q.fin,prods:=q.prods,rows:=lV q.start (s.p.rows++q.rows) },s.w,s.vr+1,s.vt,s.vc⟩ e lH hw hw rfl he hm (.inr (.inr ⟨hk,c0⟩))
  exact⟨_,_,c,hw,.inl ⟨rfl,rfl,h.v⟩⟩
 | none =>
  have c0:=aGm s e 10000 hw (by omega) (aNv h.sm) he hst hm hk
  have c:=wK s s e (jA aXn) hw hw rfl he hm (.inr (.inr ⟨hk,c0⟩))
  exact⟨_,_,c,hw,.inr ⟨rfl,_,rfl⟩⟩
set_option maxHeartbeats 16000000
def jZ (x:SideD):Int:=match x.l with
 | []=>0
 | y::_=>y.b.epoch
def eU (x:SideD) (y:EntD):Bool:=!aK y || (y.kind != 0 || (!y.b.txn || (y.b.pid != x.pid || y.b.epoch != jZ x)))
def bN (x:SideD):List ProdD→List EntD→Option (List ProdD)
 | ps,[]=>some ps
 | ps,y::l=>if eU x y=true then none else if (aJ ps y.b (-1)).2≠0 then none else bN x (aJ ps y.b (-1)).1 l
theorem tJ (x:SideD):∀ (l:List EntD) (ps:List ProdD) (r:List EntD),bN x ps (l++r)=match bN x ps l with
  | some qs=>bN x qs r
  | none=>none
 | [],ps,r=>rfl
 | y::l,ps,r=>by
  show (if _ then _ else if _ then _ else bN x _ (l++r))=match (if _ then _ else if _ then _ else bN x _ l) with|some qs=>bN x qs r|none=>none
  split
  ·rfl
  split
  ·rfl
  ·exact tJ x l _ r
theorem qO {x:SideD} {ps qs:List ProdD} {l:List EntD} {k:Nat} (hk:k<l.length) (h:bN x ps (l.take k)=some qs):bN x ps (l.take (k+1))=if eU x l[k]=true then none else if (aJ qs l[k].b (-1)).2≠0 then none else some (aJ qs l[k].b (-1)).1:=by
 rw[List.take_succ_eq_append_getElem hk,tJ,h]
 rfl
theorem aD3 {x:SideD} {ps:List ProdD} {l:List EntD} {k:Nat} (h:bN x ps (l.take k)=none):bN x ps l=none:=by
 conv=>lhs;rw[← List.take_append_drop k l]
 rw[tJ,h]
def gR (p:PartD) (w:eV) (x:SideD):Option (PartD × eV) :=
 if x.l.length=0∨8<x.l.length then none else
 match bN x p.prods x.l with
 | none=>none
 | some qs =>
  if x.l.length≤(cG w x.pid).length then none else
  if cG w x.pid≠(x.l.map (·.b)).take (cG w x.pid).length then none else
  some ({ p with prods:=qs,opens:=p.opens++[⟨x.pid,jZ x,x.l.map (·.b)⟩] },cI w x.pid)
theorem sJ {x:SideD}:∀ (l:List EntD) (ps qs:List ProdD) (n:Nat),ps.length≤n→(∀ q ∈ ps,q.seen.length≤100)→bN x ps l=some qs→qs.length≤n+l.length∧∀ q ∈ qs,q.seen.length≤100
 | [],ps,qs,n,h1,h2,h=>by cases h;exact⟨h1,h2⟩
 | y::l,ps,qs,n,h1,h2,h=>by
  have h:(if eU x y=true then none else if (aJ ps y.b (-1)).2≠0 then none else bN x (aJ ps y.b (-1)).1 l)=some qs:=h
  split at h
  ·cases h
  split at h
  ·cases h
  obtain⟨t1,t2⟩:=nI (k:=n) y.b (-1) h1 h2
  obtain⟨q1,q2⟩:=sJ l _ qs (n+1) t1 t2 h
  exact⟨by rw[List.length_cons];omega,q2⟩
abbrev aOj (x:SideD):SV:=.agg [.d (int x.pid),.d (.lst 18 (x.l.map EntD.dv))]
abbrev aZt:List UInt8:=[116,104,101,32,108,101,110,103,116,104,32,111,102,32,97,32,115,105,100,101,32,102,105,108,101]
theorem aIj (s:BufS) (x:SideD) (hw:iG s.w) (hl:x.l.length=0∨8<x.l.length):FunG Tryz.prog 105 [.c (.own 0 0),aOj x] gF (bK (iH s)) (jA aZt) gF (bK (iH s)):=by
 have c1:=cP aZt
 refine FunG.of_bodyH rfl rfl Tryz.func105 rfl rfl Tryz.ntmps105 Tryz.results105 (Nat.le_of_ble_eq_true rfl) (kS rfl rfl hw hw) ?_
 (refine gO (@aC) ?_)
 (first|refine Wp.sto 22 (vb true) ?_ ?_|refine Wp.rtoS 22 (vb true) ?_ ?_|(refine Wp.seq ?_;first|refine Wp.sto 22 (vb true) ?_ ?_|refine Wp.rtoS 22 (vb true) ?_ ?_))
 ·rcases hl with h|h
  ·have d1:((x.l.length:Int) == 0)=true:=by rw[h];rfl
   ((refine rO (d1) ?_;try with_reducible exact tt);(repeat (refine eA (by assumption) ?_;(refine rO (d1) ?_))))
   all_goals (exact (show bI _ _=true by kernel_rfl))
  ·have d1:((x.l.length:Int) == 0)=false:=by rw[beq_eq_false_iff_ne];omega
   have d2:decide ((8:Int)<(x.l.length:Int))=true:=decide_eq_true (by omega)
   ((refine rO (ai d1 (d2)) ?_;try with_reducible exact tt);(repeat (refine eA (by assumption) ?_;(refine rO (ai d1 (d2)) ?_))))
   all_goals (exact (show bI _ _=true by kernel_rfl))
 (refine gO (@aC) ?_)
 refine aX.ret ?_
 (refine rO (ai @aC (ai @aS.eq_1 (@aS.eq_2))) ?_;try with_reducible exact tt)
end Go.Proofs.YtpklhnpchhaccaaGreatDoor
