/- The abstract machine (BfG, BfH, BfI). -/
import Derived.Test.YtpklhnpchhaccaaGreatDoorBfF
namespace Go.Proofs.YtpklhnpchhaccaaGreatDoor
open Go Go.RowKit
set_option maxHeartbeats 16000000
set_option maxRecDepth 100000
set_option linter.unusedVariables false
set_option linter.unusedSimpArgs false
theorem aD1 (e:EntD) (h:e.kind<0∨7≤e.kind):aW Tryz.prog 158 [.agg e.dv] (dM false):=by
 obtain⟨k,b,yes,next,off,row,prod⟩:=e
 dsimp only at h
 have k0:(k == 0)=false:=by rw[beq_eq_false_iff_ne];omega
 have k1:(k == 1)=false:=by rw[beq_eq_false_iff_ne];omega
 have k2:(k == 2)=false:=by rw[beq_eq_false_iff_ne];omega
 have k3:(k == 3)=false:=by rw[beq_eq_false_iff_ne];omega
 have k4:(k == 4)=false:=by rw[beq_eq_false_iff_ne];omega
 have k5:(k == 5)=false:=by rw[beq_eq_false_iff_ne];omega
 have k6:(k == 6)=false:=by rw[beq_eq_false_iff_ne];omega
 (refine aW.of_body Tryz.func158 rfl rfl Tryz.ntmps158 Tryz.results158 (by simp) ?_)
 (refine gO (ai @EntD.dv.eq_1 (ai k0 (ai k1 (ai k2 (ai k3 (ai k4 (ai k5 (k6)))))))) ?_)
 (refine aT ?_;try with_reducible exact tt)
theorem wP (e:EntD) (hr:e.b.recs.length≤100000) (hq:e.prod.seen.length≤100000):aW Tryz.prog 158 [.agg e.dv] (dM (aL e)):=by
 unfold aL
 by_cases h:e.kind<0∨7≤e.kind
 ·have:(decide (0≤e.kind) && decide (e.kind<7))=false:=by simp;omega
  rw[this];exact aD1 e h
 ·have:(decide (0≤e.kind) && decide (e.kind<7))=true:=by simp;omega
  rw[this];exact aAe e (by omega) hr hq
def pP (p:PartD) (w:eE) (e:EntD):Option (PartD × eE) :=
 if kA (dG w e.b.pid) e.b=true then none else
 if e.yes=false then some (p,gG w e.b.pid (dG w e.b.pid++[e.b])) else
 if e.next≠eB e.b then none else
 if (aF p (dG w e.b.pid++[e.b])).1=false then none else
 if 1048576<(aF p (dG w e.b.pid++[e.b])).2.fin then none else
 some ({ (aF p (dG w e.b.pid++[e.b])).2 with prods:=eP (aF p (dG w e.b.pid++[e.b])).2.prods e.b.pid },cU (gG w e.b.pid (dG w e.b.pid++[e.b])) e.b.pid)
def yL (p:PartD) (w:eE) (e:EntD):Option (PartD × eE) :=
 if aL e=false then none else
 if e.kind=3 then pP p w e else
 if e.kind=4 then (if iP p e=true then none else some (uW p e,cU w e.b.pid)) else
 if e.kind=1 then none else
 if e.kind=0∧e.b.txn=true then none else
 match jN p e with
 | some q=>some (q,w)
 | none=>none
def aWa (f:FuncId) (args:List SV) (s:BufS) (o:Option (PartD × eE)):Prop:=∃ r t,FunG Tryz.prog f args gD (bI (iO s)) r gD (bI (iO t))∧iN t.w∧((o=some (t.p,t.w)∧r=lJ∧t.vc=t.vt)∨(o=none∧∃ m,r=jH m))
theorem aR4 (s:BufS) (e:EntD) (h:s.vc=s.vt):(pP s.p s.w e=some ((zC s e).p,(zC s e).w)∧aCz s e=lJ∧(zC s e).vc=(zC s e).vt)∨(pP s.p s.w e=none∧∃ m,aCz s e=jH m):=by
 unfold pP aCz zC qP
 split
 ·exact .inr ⟨rfl,_,rfl⟩
 split
 ·refine .inl ⟨rfl,rfl,?_⟩;unfold aKs;rw[h]
 split
 ·exact .inr ⟨rfl,_,rfl⟩
 split
 ·exact .inr ⟨rfl,_,rfl⟩
 split
 ·exact .inr ⟨rfl,_,rfl⟩
 ·refine .inl ⟨rfl,rfl,?_⟩;unfold aX2;rw[h]
abbrev aYk:List UInt8:=[97,110,32,101,110,116,114,121,32,116,104,97,116,32,105,115,32,110,111,116,32,118,97,108,105,100]
abbrev aYl:List UInt8:=[97,32,98,97,116,99,104,32,111,102,32,97,32,116,114,97,110,115,97,99,116,105,111,110,32,105,110,32,116,104,101,32,108,111,103]
abbrev aYm:List UInt8:=[97,110,32,101,110,116,114,121,32,111,102,32,116,104,101,32,111,116,104,101,114,32,101,110,103,105,110,101]
theorem vI (s t:BufS) (e:EntD) (r:SV) (hw:iN s.w) (ht:iN t.w) (hr:nM r.ids gD=true) (he:SmallEn e) (hm:aL e=true)
  (hc:(e.kind=3∧FunG Tryz.prog 159 [.c (.own 0 0),jG e] gD (bI (iO s)) r gD (bI (iO t)))∨(e.kind=4∧FunG Tryz.prog 160 [.c (.own 0 0),jG e] gD (bI (iO s)) r gD (bI (iO t))) ∨
   ((e.kind=0∧e.b.txn=false∨e.kind=2∨e.kind=5∨e.kind=6)∧FunG Tryz.prog 161 [.c (.own 0 0),jG e] gD (bI (iO s)) r gD (bI (iO t)))) :
  FunG Tryz.prog 102 [.c (.own 0 0),jG e] gD (bI (iO s)) r gD (bI (iO t)):=by
 have c1:=wP e he.recs he.seen
 rw[hm] at c1
 have hbV:jG e = .agg (e.dv.map CV.d):=rfl
 simp only[EntD.dv] at c1
 refine FunG.of_bodyH rfl rfl Tryz.func102 rfl rfl Tryz.ntmps102 Tryz.results102 (Nat.le_of_ble_eq_true rfl) (kU rfl hr hw ht) ?_
 rcases hc with ⟨hk,c2⟩|⟨hk,c2⟩|⟨hk,c2⟩
 ·have k3:(e.kind == 3)=true:=by simpa using hk
  (refine gO (ai @aC (ai @EntD.dv.eq_1 (ai k3 (ai @List.map_cons.{0,0} (@List.map_nil.{0,0}))))) ?_)
  (first|refine Wp.sregG ?_|refine Wp.regG ?_|(refine Wp.seq ?_;first|refine Wp.sregG ?_|refine Wp.regG ?_))
  (refine aH.at 2 (fun K hK=>?_);(refine rO (ai @aC (ai @EntD.dv.eq_1 (ai @List.map_cons.{0,0} (@List.map_nil.{0,0})))) ?_);refine hK _ ?_;clear hK K)
  (refine aH.call (c2) [] 1010 rfl rfl ?_ ?_;(focus ((refine wG (ai @cT (ai @aC (ai @aM (ai hbV (ai @EntD.dv.eq_1 (ai @List.map_cons.{0,0} (@List.map_nil.{0,0}))))))) ?_;try with_reducible exact tt);done)))
  (refine aH.done (fun K hK=>?_);(refine rOt (ai @aC (ai @cH.eq_1 (ai @cH.eq_2 (ai @aM (ai @bU (ai @List.map_cons.{0,0} (@List.map_nil.{0,0}))))))) ?_);refine hK _ ?_;clear hK K)
  (refine gO (@aC) ?_)
  refine aO.ret ?_
  (refine rO (ai @aC (ai @aJ.eq_1 (@aJ.eq_2))) ?_;try with_reducible exact tt)
 ·have k3:(e.kind == 3)=false:=by rw[hk];rfl
  have k4:(e.kind == 4)=true:=by simpa using hk
  (refine gO (ai @aC (ai @EntD.dv.eq_1 (ai k3 (ai k4 (ai @List.map_cons.{0,0} (@List.map_nil.{0,0})))))) ?_)
  (first|refine Wp.sregG ?_|refine Wp.regG ?_|(refine Wp.seq ?_;first|refine Wp.sregG ?_|refine Wp.regG ?_))
  (refine aH.at 2 (fun K hK=>?_);(refine rO (ai @aC (ai @EntD.dv.eq_1 (ai @List.map_cons.{0,0} (@List.map_nil.{0,0})))) ?_);refine hK _ ?_;clear hK K)
  (refine aH.call (c2) [] 1010 rfl rfl ?_ ?_;(focus ((refine wG (ai @cT (ai @aC (ai @aM (ai hbV (ai @EntD.dv.eq_1 (ai @List.map_cons.{0,0} (@List.map_nil.{0,0}))))))) ?_;try with_reducible exact tt);done)))
  (refine aH.done (fun K hK=>?_);(refine rOt (ai @aC (ai @cH.eq_1 (ai @cH.eq_2 (ai @aM (ai @bU (ai @List.map_cons.{0,0} (@List.map_nil.{0,0}))))))) ?_);refine hK _ ?_;clear hK K)
  (refine gO (@aC) ?_)
  refine aO.ret ?_
  (refine rO (ai @aC (ai @aJ.eq_1 (@aJ.eq_2))) ?_;try with_reducible exact tt)
 ·have k3:(e.kind == 3)=false:=by rw[beq_eq_false_iff_ne];omega
  have k4:(e.kind == 4)=false:=by rw[beq_eq_false_iff_ne];omega
  rcases hk with ⟨hk,htx⟩|hk|hk|hk
  ·have k0:(e.kind == 0)=true:=by simpa using hk
   rw[htx] at c1
   (refine gO (ai @aC (ai @EntD.dv.eq_1 (ai k3 (ai k4 (ai k0 (ai htx (ai @List.map_cons.{0,0} (@List.map_nil.{0,0})))))))) ?_)
   (first|refine Wp.sregG ?_|refine Wp.regG ?_|(refine Wp.seq ?_;first|refine Wp.sregG ?_|refine Wp.regG ?_))
   (refine aH.at 2 (fun K hK=>?_);(refine rO (ai @aC (ai @EntD.dv.eq_1 (ai htx (ai @List.map_cons.{0,0} (@List.map_nil.{0,0}))))) ?_);refine hK _ ?_;clear hK K)
   (refine aH.call (c2) [] 1010 rfl rfl ?_ ?_;(focus ((refine wG (ai @cT (ai @aC (ai @aM (ai hbV (ai htx (ai @EntD.dv.eq_1 (ai @List.map_cons.{0,0} (@List.map_nil.{0,0})))))))) ?_;try with_reducible exact tt);done)))
   (refine aH.done (fun K hK=>?_);(refine rOt (ai @aC (ai @cH.eq_1 (ai @cH.eq_2 (ai @aM (ai @bU (ai @List.map_cons.{0,0} (@List.map_nil.{0,0}))))))) ?_);refine hK _ ?_;clear hK K)
   (refine gO (@aC) ?_)
   refine aO.ret ?_
   (refine rO (ai @aC (ai @aJ.eq_1 (@aJ.eq_2))) ?_;try with_reducible exact tt)
  ·have k0:(e.kind == 0)=false:=by rw[hk];rfl
   have k2:(e.kind == 2)=true:=by simpa using hk
   (refine gO (ai @aC (ai @EntD.dv.eq_1 (ai k3 (ai k4 (ai k0 (ai k2 (ai @List.map_cons.{0,0} (@List.map_nil.{0,0})))))))) ?_)
   (first|refine Wp.sregG ?_|refine Wp.regG ?_|(refine Wp.seq ?_;first|refine Wp.sregG ?_|refine Wp.regG ?_))
   (refine aH.at 2 (fun K hK=>?_);(refine rO (ai @aC (ai @EntD.dv.eq_1 (ai @List.map_cons.{0,0} (@List.map_nil.{0,0})))) ?_);refine hK _ ?_;clear hK K)
   (refine aH.call (c2) [] 1010 rfl rfl ?_ ?_;(focus ((refine wG (ai @cT (ai @aC (ai @aM (ai hbV (ai @EntD.dv.eq_1 (ai @List.map_cons.{0,0} (@List.map_nil.{0,0}))))))) ?_;try with_reducible exact tt);done)))
   (refine aH.done (fun K hK=>?_);(refine rOt (ai @aC (ai @cH.eq_1 (ai @cH.eq_2 (ai @aM (ai @bU (ai @List.map_cons.{0,0} (@List.map_nil.{0,0}))))))) ?_);refine hK _ ?_;clear hK K)
   (refine gO (@aC) ?_)
   refine aO.ret ?_
   (refine rO (ai @aC (ai @aJ.eq_1 (@aJ.eq_2))) ?_;try with_reducible exact tt)
  ·have k0:(e.kind == 0)=false:=by rw[hk];rfl
   have k2:(e.kind == 2)=false:=by rw[hk];rfl
   have k5:(e.kind == 5)=true:=by simpa using hk
   (refine gO (ai @aC (ai @EntD.dv.eq_1 (ai k3 (ai k4 (ai k0 (ai k2 (ai k5 (ai @List.map_cons.{0,0} (@List.map_nil.{0,0}))))))))) ?_)
   (first|refine Wp.sregG ?_|refine Wp.regG ?_|(refine Wp.seq ?_;first|refine Wp.sregG ?_|refine Wp.regG ?_))
   (refine aH.at 2 (fun K hK=>?_);(refine rO (ai @aC (ai @EntD.dv.eq_1 (ai @List.map_cons.{0,0} (@List.map_nil.{0,0})))) ?_);refine hK _ ?_;clear hK K)
   (refine aH.call (c2) [] 1010 rfl rfl ?_ ?_;(focus ((refine wG (ai @cT (ai @aC (ai @aM (ai hbV (ai @EntD.dv.eq_1 (ai @List.map_cons.{0,0} (@List.map_nil.{0,0}))))))) ?_;try with_reducible exact tt);done)))
   (refine aH.done (fun K hK=>?_);(refine rOt (ai @aC (ai @cH.eq_1 (ai @cH.eq_2 (ai @aM (ai @bU (ai @List.map_cons.{0,0} (@List.map_nil.{0,0}))))))) ?_);refine hK _ ?_;clear hK K)
   (refine gO (@aC) ?_)
   refine aO.ret ?_
   (refine rO (ai @aC (ai @aJ.eq_1 (@aJ.eq_2))) ?_;try with_reducible exact tt)
  ·have k0:(e.kind == 0)=false:=by rw[hk];rfl
   have k2:(e.kind == 2)=false:=by rw[hk];rfl
   have k5:(e.kind == 5)=false:=by rw[hk];rfl
   have k6:(e.kind == 6)=true:=by simpa using hk
   (refine gO (ai @aC (ai @EntD.dv.eq_1 (ai k3 (ai k4 (ai k0 (ai k2 (ai k5 (ai k6 (ai @List.map_cons.{0,0} (@List.map_nil.{0,0})))))))))) ?_)
   (first|refine Wp.sregG ?_|refine Wp.regG ?_|(refine Wp.seq ?_;first|refine Wp.sregG ?_|refine Wp.regG ?_))
   (refine aH.at 2 (fun K hK=>?_);(refine rO (ai @aC (ai @EntD.dv.eq_1 (ai @List.map_cons.{0,0} (@List.map_nil.{0,0})))) ?_);refine hK _ ?_;clear hK K)
   (refine aH.call (c2) [] 1010 rfl rfl ?_ ?_;(focus ((refine wG (ai @cT (ai @aC (ai @aM (ai hbV (ai @EntD.dv.eq_1 (ai @List.map_cons.{0,0} (@List.map_nil.{0,0}))))))) ?_;try with_reducible exact tt);done)))
   (refine aH.done (fun K hK=>?_);(refine rOt (ai @aC (ai @cH.eq_1 (ai @cH.eq_2 (ai @aM (ai @bU (ai @List.map_cons.{0,0} (@List.map_nil.{0,0}))))))) ?_);refine hK _ ?_;clear hK K)
   (refine gO (@aC) ?_)
   refine aO.ret ?_
   (refine rO (ai @aC (ai @aJ.eq_1 (@aJ.eq_2))) ?_;try with_reducible exact tt)
theorem aGd (s:BufS) (e:EntD) (hw:iN s.w) (he:SmallEn e) (hc:aL e=false∨aL e=true∧(e.kind=1∨e.kind=0∧e.b.txn=true)) :
  ∃ m,FunG Tryz.prog 102 [.c (.own 0 0),jG e] gD (bI (iO s)) (jH m) gD (bI (iO s)):=by
 have c1:=wP e he.recs he.seen
 rcases hc with hm|⟨hm,hk|⟨hk,htx⟩⟩
 ·refine⟨aYk,?_⟩
  have c2:=cV aYk
  rw[hm] at c1
  simp only[EntD.dv] at c1
  refine FunG.of_bodyH rfl rfl Tryz.func102 rfl rfl Tryz.ntmps102 Tryz.results102 (Nat.le_of_ble_eq_true rfl) (kU rfl rfl hw hw) ?_
  (refine gO (ai @aC (ai @EntD.dv.eq_1 (ai @List.map_cons.{0,0} (@List.map_nil.{0,0})))) ?_)
  refine aO.ret ?_
  (refine rO (ai @aC (ai @aJ.eq_1 (@aJ.eq_2))) ?_;try with_reducible exact tt)
 ·refine⟨aYm,?_⟩
  have c2:=cV aYm
  have k3:(e.kind == 3)=false:=by rw[hk];rfl
  have k4:(e.kind == 4)=false:=by rw[hk];rfl
  have k0:(e.kind == 0)=false:=by rw[hk];rfl
  have k2:(e.kind == 2)=false:=by rw[hk];rfl
  have k5:(e.kind == 5)=false:=by rw[hk];rfl
  have k6:(e.kind == 6)=false:=by rw[hk];rfl
  rw[hm] at c1
  simp only[EntD.dv] at c1
  refine FunG.of_bodyH rfl rfl Tryz.func102 rfl rfl Tryz.ntmps102 Tryz.results102 (Nat.le_of_ble_eq_true rfl) (kU rfl rfl hw hw) ?_
  (refine gO (ai @aC (ai @EntD.dv.eq_1 (ai k3 (ai k4 (ai k0 (ai k2 (ai k5 (ai k6 (ai @List.map_cons.{0,0} (@List.map_nil.{0,0})))))))))) ?_)
  refine aO.ret ?_
  (refine rO (ai @aC (ai @aJ.eq_1 (@aJ.eq_2))) ?_;try with_reducible exact tt)
 ·refine⟨aYl,?_⟩
  have c2:=cV aYl
  have k3:(e.kind == 3)=false:=by rw[hk];rfl
  have k4:(e.kind == 4)=false:=by rw[hk];rfl
  have k0:(e.kind == 0)=true:=by rw[hk];rfl
  rw[hm] at c1
  simp only[EntD.dv,htx] at c1
  refine FunG.of_bodyH rfl rfl Tryz.func102 rfl rfl Tryz.ntmps102 Tryz.results102 (Nat.le_of_ble_eq_true rfl) (kU rfl rfl hw hw) ?_
  (refine gO (ai @aC (ai @EntD.dv.eq_1 (ai k3 (ai k4 (ai k0 (ai htx (ai @List.map_cons.{0,0} (@List.map_nil.{0,0})))))))) ?_)
  refine aO.ret ?_
  (refine rO (ai @aC (ai @aJ.eq_1 (@aJ.eq_2))) ?_;try with_reducible exact tt)
set_option maxHeartbeats 4000000
theorem uV {e:EntD} (hm:aL e=true) (hk:e.kind=3):dQ e.b=true:=by
 obtain⟨k,b,yes,next,off,row,prod⟩:=e
 dsimp only at hk
 subst hk
 unfold aL at hm
 have h1:nB ⟨3,b,yes,next,off,row,prod⟩=(b.txn && ((!yes || cC next 0 1048576) && (dQ b && decide ((⟨3,jD,false,if yes then 0 else next,off,row,prod⟩:EntD)=zE 3)))):=rfl
 rw[h1] at hm
 simp only[Bool.and_eq_true] at hm
 exact hm.2.2.2.1
theorem aMt {p:PartD} {w:eE} (h:Sm14 p w):FOk 10000 (eN p) :=
 ⟨⟨fun o ho=>by simp[eN] at ho,by simp[eN]⟩,h.fin,by simp[eN],h.prods,h.seen,by simp[eN],fun x hx=>by simp[eN] at hx,fun x hx=>by simp[eN] at hx⟩
theorem vK {e:EntD} (h:aL e=true):0≤e.kind∧e.kind<7:=by
 unfold aL at h
 simp at h
 exact⟨h.1.1,h.1.2⟩
theorem uO (s:BufS) (e:EntD) (h:BokB s) (he:SmallEn e):aWa 102 [.c (.own 0 0),jG e] s (yL s.p s.w e):=by
 have hw:=h.w.pid
 have hqs:SmallL s.p.prods:=⟨by have:=h.sm.prods;omega,fun x hx=>by have:=h.sm.seen x hx;omega⟩
 unfold yL
 cases hm:aL e with
 | false =>
  obtain⟨m,c⟩:=aGd s e hw he (.inl hm)
  rw[if_pos rfl]
  exact⟨_,s,c,hw,.inr ⟨rfl,m,rfl⟩⟩
 | true =>
 have hrg:=vK hm
 have ny:¬ (true=false):=by simp
 rw[if_neg ny]
 by_cases k3:e.kind=3
 ·rw[if_pos k3]
  obtain⟨hp,hb⟩:=oL (uV hm k3)
  have c:=vI s (zC s e) e (aCz s e) hw (aAa h hp) (aI3 s e) he hm (.inl ⟨k3,aOk s e h hb hp⟩)
  exact⟨_,_,c,aAa h hp,aR4 s e h.v⟩
 rw[if_neg k3]
 by_cases k4:e.kind=4
 ·rw[if_pos k4]
  have c0:=aUq s e hw hqs
  cases hd:iP s.p e with
  | true =>
   rw[hd,if_pos rfl,if_pos rfl] at c0
   have c:=vI s s e (jH aG1) hw hw rfl he hm (.inr (.inl ⟨k4,c0⟩))
   rw[if_pos rfl]
   exact⟨_,_,c,hw,.inr ⟨rfl,_,rfl⟩⟩
  | false =>
   rw[hd,if_neg Bool.false_ne_true,if_neg Bool.false_ne_true] at c0
   have c:=vI s (aAc s e) e lJ hw (mR hw e.b.pid) rfl he hm (.inr (.inl ⟨k4,c0⟩))
   rw[if_neg Bool.false_ne_true]
   exact⟨_,_,c,mR hw e.b.pid,.inl ⟨rfl,rfl,h.v⟩⟩
 rw[if_neg k4]
 by_cases k1:e.kind=1
 ·rw[if_pos k1]
  obtain⟨m,c⟩:=aGd s e hw he (.inr ⟨hm,.inl k1⟩)
  exact⟨_,s,c,hw,.inr ⟨rfl,m,rfl⟩⟩
 rw[if_neg k1]
 by_cases k0:e.kind=0∧e.b.txn=true
 ·rw[if_pos k0]
  obtain⟨m,c⟩:=aGd s e hw he (.inr ⟨hm,.inr k0⟩)
  exact⟨_,s,c,hw,.inr ⟨rfl,m,rfl⟩⟩
 rw[if_neg k0]
 have hk:(e.kind=0∧e.b.txn=false∨e.kind=2∨e.kind=5∨e.kind=6):=by
  by_cases h0:e.kind=0
  ·left;refine⟨h0,?_⟩
   cases ht:e.b.txn with
   | false=>rfl
   | true=>exact absurd ⟨h0,ht⟩ k0
  ·right;omega
 unfold jN
 cases hst:cG (eN s.p) e with
 | some q =>
  have c0:=aFm s e q 10000 hw (by omega) (aMt h.sm) he (by have:=h.sm.rows;omega) hst hm hk
  have c:=vI s ⟨{ s.p with start:=q.start,fin:=q.fin,prods:=q.prods,rows:=lY q.start (s.p.rows++q.rows) },s.w,s.vr+1,s.vt,s.vc⟩ e lJ hw hw rfl he hm (.inr (.inr ⟨hk,c0⟩))
  exact⟨_,_,c,hw,.inl ⟨rfl,rfl,h.v⟩⟩
 | none =>
  have c0:=aFl s e 10000 hw (by omega) (aMt h.sm) he hst hm hk
  have c:=vI s s e (jH aWo) hw hw rfl he hm (.inr (.inr ⟨hk,c0⟩))
  exact⟨_,_,c,hw,.inr ⟨rfl,_,rfl⟩⟩
set_option maxHeartbeats 16000000
def nH (x:SideD):Int:=match x.l with
 | []=>0
 | y::_=>y.b.epoch
def gA (x:SideD) (y:EntD):Bool:=!aL y || (y.kind != 0 || (!y.b.txn || (y.b.pid != x.pid || y.b.epoch != nH x)))
def bV (x:SideD):List ProdD→List EntD→Option (List ProdD)
 | ps,[]=>some ps
 | ps,y::l=>if gA x y=true then none else if (aG ps y.b (-1)).2≠0 then none else bV x (aG ps y.b (-1)).1 l
theorem sS (x:SideD):∀ (l:List EntD) (ps:List ProdD) (r:List EntD),bV x ps (l++r)=match bV x ps l with
  | some qs=>bV x qs r
  | none=>none
 | [],ps,r=>rfl
 | y::l,ps,r=>by
  show (if _ then _ else if _ then _ else bV x _ (l++r))=match (if _ then _ else if _ then _ else bV x _ l) with|some qs=>bV x qs r|none=>none
  split
  ·rfl
  split
  ·rfl
  ·exact sS x l _ r
theorem qC {x:SideD} {ps qs:List ProdD} {l:List EntD} {k:Nat} (hk:k<l.length) (h:bV x ps (l.take k)=some qs):bV x ps (l.take (k+1))=if gA x l[k]=true then none else if (aG qs l[k].b (-1)).2≠0 then none else some (aG qs l[k].b (-1)).1:=by
 rw[List.take_succ_eq_append_getElem hk,sS,h]
 rfl
theorem aC0 {x:SideD} {ps:List ProdD} {l:List EntD} {k:Nat} (h:bV x ps (l.take k)=none):bV x ps l=none:=by
 conv=>lhs;rw[← List.take_append_drop k l]
 rw[sS,h]
def gT (p:PartD) (w:eE) (x:SideD):Option (PartD × eE) :=
 if x.l.length=0∨8<x.l.length then none else
 match bV x p.prods x.l with
 | none=>none
 | some qs =>
  if x.l.length≤(dG w x.pid).length then none else
  if dG w x.pid≠(x.l.map (·.b)).take (dG w x.pid).length then none else
  some ({ p with prods:=qs,opens:=p.opens++[⟨x.pid,nH x,x.l.map (·.b)⟩] },cU w x.pid)
theorem rT {x:SideD}:∀ (l:List EntD) (ps qs:List ProdD) (n:Nat),ps.length≤n→(∀ q ∈ ps,q.seen.length≤100)→bV x ps l=some qs→qs.length≤n+l.length∧∀ q ∈ qs,q.seen.length≤100
 | [],ps,qs,n,h1,h2,h=>by cases h;exact⟨h1,h2⟩
 | y::l,ps,qs,n,h1,h2,h=>by
  have h:(if gA x y=true then none else if (aG ps y.b (-1)).2≠0 then none else bV x (aG ps y.b (-1)).1 l)=some qs:=h
  split at h
  ·cases h
  split at h
  ·cases h
  obtain⟨t1,t2⟩:=kX (k:=n) y.b (-1) h1 h2
  obtain⟨q1,q2⟩:=rT l _ qs (n+1) t1 t2 h
  exact⟨by rw[List.length_cons];omega,q2⟩
abbrev aNj (x:SideD):SV:=.agg [.d (int x.pid),.d (.lst 18 (x.l.map EntD.dv))]
abbrev aYo:List UInt8:=[116,104,101,32,108,101,110,103,116,104,32,111,102,32,97,32,115,105,100,101,32,102,105,108,101]
theorem aHq (s:BufS) (x:SideD) (hw:iN s.w) (hl:x.l.length=0∨8<x.l.length):FunG Tryz.prog 105 [.c (.own 0 0),aNj x] gD (bI (iO s)) (jH aYo) gD (bI (iO s)):=by
 have c1:=cV aYo
 refine FunG.of_bodyH rfl rfl Tryz.func105 rfl rfl Tryz.ntmps105 Tryz.results105 (Nat.le_of_ble_eq_true rfl) (kU rfl rfl hw hw) ?_
 (refine gO (@aC) ?_)
 (first|refine Wp.sto 22 (vb true) ?_ ?_|refine Wp.rtoS 22 (vb true) ?_ ?_|(refine Wp.seq ?_;first|refine Wp.sto 22 (vb true) ?_ ?_|refine Wp.rtoS 22 (vb true) ?_ ?_))
 ·rcases hl with h|h
  ·have d1:((x.l.length:Int) == 0)=true:=by rw[h];rfl
   ((refine rO (d1) ?_;try with_reducible exact tt);(repeat (refine dB (by assumption) ?_;(refine rO (d1) ?_))))
   all_goals (exact (show bE _ _=true by kernel_rfl))
  ·have d1:((x.l.length:Int) == 0)=false:=by rw[beq_eq_false_iff_ne];omega
   have d2:decide ((8:Int)<(x.l.length:Int))=true:=decide_eq_true (by omega)
   ((refine rO (ai d1 (d2)) ?_;try with_reducible exact tt);(repeat (refine dB (by assumption) ?_;(refine rO (ai d1 (d2)) ?_))))
   all_goals (exact (show bE _ _=true by kernel_rfl))
 (refine gO (@aC) ?_)
 refine aO.ret ?_
 (refine rO (ai @aC (ai @aJ.eq_1 (@aJ.eq_2))) ?_;try with_reducible exact tt)
end Go.Proofs.YtpklhnpchhaccaaGreatDoor
