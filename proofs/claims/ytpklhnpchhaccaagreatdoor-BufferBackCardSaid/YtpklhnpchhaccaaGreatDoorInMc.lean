/- The abstract machine (InH, InI, InJ, InK, InL, InN, InO, InP). -/
import Derived.Test.YtpklhnpchhaccaaGreatDoorInMb
namespace Go.Proofs.YtpklhnpchhaccaaGreatDoor
open Go Go.RowKit
set_option maxHeartbeats 4000000
set_option maxRecDepth 100000
set_option linter.unusedVariables false
set_option linter.unusedSimpArgs false
theorem vR (xs:List (List D)) (hl:xs.length≤1000000):mO Tryz.prog 106 [.lst 2 xs] 112 2 xs:=by
 cases xs with
 | nil =>
  refine mO.of_nil (fun a c=>?_)
  (refine mO.of_body Tryz.func106 rfl rfl Tryz.ntmps106 Tryz.results106 (by simp) ?_)
  cases a with
  | none =>
   (repeat (first|refine Wp.skip ?_|refine Wp.exit ?_|refine Wp.ret ?_|refine Wp.block ?_|refine Wp.label ?_|((first|(first|refine Wp.sreg (fun K hK=>?_)|refine Wp.reg (fun K hK=>?_)|refine Wp.sdrw aI (fun K hK=>?_)|refine Wp.drw aI (fun K hK=>?_))|refine Wp.condG (fun K hT hF=>?_));(refine rO (ai @Option.isNone_none.{0} (@Option.isNone_some.{0})) ?_);(first|(refine hK _ ?_;clear hK K)|(refine⟨by kernel_rfl,hK _ ?_⟩;clear hK K)|(refine hT ?_;clear hT hF K)|(refine hF ?_;clear hT hF K)))|refine Wp.seq ?_))
   (refine aY ?_;try with_reducible exact tt)
  | some ad =>
   (repeat (first|refine Wp.skip ?_|refine Wp.exit ?_|refine Wp.ret ?_|refine Wp.block ?_|refine Wp.label ?_|((first|(first|refine Wp.sreg (fun K hK=>?_)|refine Wp.reg (fun K hK=>?_)|refine Wp.sdrw aI (fun K hK=>?_)|refine Wp.drw aI (fun K hK=>?_))|refine Wp.condG (fun K hT hF=>?_));(refine rO (ai @Option.isNone_none.{0} (@Option.isNone_some.{0})) ?_);(first|(refine hK _ ?_;clear hK K)|(refine⟨by kernel_rfl,hK _ ?_⟩;clear hK K)|(refine hT ?_;clear hT hF K)|(refine hF ?_;clear hT hF K)))|refine Wp.seq ?_))
   (refine aY ?_)
   exact .inl ⟨0,rfl,rfl⟩
 | cons f fs =>
  have hb:(fs.length+1)*32≤140737488355328:=by simp at hl;omega
  (refine mO.of_body Tryz.func106 rfl rfl Tryz.ntmps106 Tryz.results106 (by simp) ?_)
  (repeat (first|refine Wp.skip ?_|refine Wp.exit ?_|refine Wp.ret ?_|refine Wp.block ?_|refine Wp.label ?_|((first|(first|refine Wp.sreg (fun K hK=>?_)|refine Wp.reg (fun K hK=>?_)|refine Wp.sdrw aI (fun K hK=>?_)|refine Wp.drw aI (fun K hK=>?_))|refine Wp.condG (fun K hT hF=>?_));(refine rO (hb) ?_);(first|(refine hK _ ?_;clear hK K)|(refine⟨by kernel_rfl,hK _ ?_⟩;clear hK K)|(refine hT ?_;clear hT hF K)|(refine hF ?_;clear hT hF K)))|refine Wp.seq ?_))
  (refine aY ?_)
  exact .inl ⟨0,rfl,rfl⟩
theorem aHi (b:BatD) (hb:b.recs.length≤100000):bF Tryz.prog 123 [.agg b.dv] (.agg b.dv):=by
 have c1:=(vR (b.recs.map RecD.dv) (by simp;omega)).fun
 (refine bF.of_body Tryz.func123 rfl rfl Tryz.ntmps123 Tryz.results123 (by simp) ?_)
 (refine gO (@BatD.dv.eq_1) ?_)
 (refine rO (@BatD.dv.eq_1) ?_;try with_reducible exact tt)
abbrev aGj:List UInt8:=[97,32,98,97,116,99,104]
theorem aIy (s:FoldS) (e:EntD) (hp:OpOk s.p.opens) (hl:s.p.opens.length≤1000) (hs:SmallL s.p.prods) (hb:e.b.recs.length≤100000) (hc:(aN s.p.prods e.b).2.2≠0∨(aN s.p.prods e.b).2.1=true) :
  FunG Tryz.prog 283 [.c (.own 0 0),kI e] rB (bK (oF s)) (xY aGj) rB (bK (oF s)):=by
 have c1:=sG s.p e.b.pid (by omega)
 have c2:=oU aGj
 have c3:=nR s.p.prods e.b hs hb
 simp only[BatD.dv] at c3
 refine FunG.of_bodyH rfl rfl Tryz.func283 rfl rfl Tryz.ntmps283 Tryz.results283 (Nat.le_of_ble_eq_true rfl) (nC rfl rfl hp.pid hp.pid) ?_
 by_cases h1:(aN s.p.prods e.b).2.2=0
 ·have h2:(aN s.p.prods e.b).2.1=true:=hc.resolve_left (fun h=>h h1)
  have d1:((aN s.p.prods e.b).2.2 != 0)=false:=by simp[h1]
  (refine gO (ai @aC (ai @EntD.dv.eq_1 (@BatD.dv.eq_1))) ?_)
  refine Wp.reg (fun K hK=>?_)
  (refine rO (ai @aC (@EntD.dv.eq_1)) ?_)
  refine jF c1 rfl (iF hp (by (refine rO (ai @aC (ai @aS.eq_1 (@aS.eq_2))) ?_;try with_reducible exact tt))) ?_
  (refine rO (@aC) ?_)
  refine hK _ ?_
  clear hK K
  (refine gO (ai @aC (ai @EntD.dv.eq_1 (ai d1 (h2)))) ?_)
  refine aX.ret ?_
  (refine rO (ai @aC (ai @aS.eq_1 (@aS.eq_2))) ?_;try with_reducible exact tt)
 ·have d1:((aN s.p.prods e.b).2.2 != 0)=true:=by simpa using h1
  (refine gO (ai @aC (ai @EntD.dv.eq_1 (@BatD.dv.eq_1))) ?_)
  refine Wp.reg (fun K hK=>?_)
  (refine rO (ai @aC (@EntD.dv.eq_1)) ?_)
  refine jF c1 rfl (iF hp (by (refine rO (ai @aC (ai @aS.eq_1 (@aS.eq_2))) ?_;try with_reducible exact tt))) ?_
  (refine rO (@aC) ?_)
  refine hK _ ?_
  clear hK K
  (refine gO (ai @aC (ai @EntD.dv.eq_1 (d1))) ?_)
  refine aX.ret ?_
  (refine rO (ai @aC (ai @aS.eq_1 (@aS.eq_2))) ?_;try with_reducible exact tt)
theorem aMv {l:List OpenD} {pid:Int} (h:bX l pid=true):∃ h:aQ l pid<l.length,l[aQ l pid].pid=pid:=by
 unfold bX at h
 cases hq:l[aQ l pid]? with
 | none=>rw[hq] at h;cases h
 | some o =>
  rw[hq] at h
  obtain⟨hlt,he⟩:=List.getElem?_eq_some_iff.1 hq
  exact⟨hlt,by rw[he];simpa using h⟩
theorem aP6 (l:List BatD):(fP l).length=l.length*5:=by
 unfold fP
 rw[List.length_map,cR (sz:=5) (by intro x hx;obtain⟨r,_,rfl⟩:=List.mem_map.1 hx;rfl),List.length_map]
theorem aIz (s:FoldS) (e:EntD) (hp:OpOk s.p.opens) (hl:s.p.opens.length≤1000) (hs:SmallL s.p.prods) (hb:e.b.recs.length≤100000) (hc:(aN s.p.prods e.b).2.2=0∧(aN s.p.prods e.b).2.1=false)
  (ho:bX s.p.opens e.b.pid=false) (ht:e.b.txn=false) (hf:1048576<s.p.fin+(e.b.recs.length:Int)) :
  FunG Tryz.prog 283 [.c (.own 0 0),kI e] rB (bK (oF s)) (xY aGj) rB (bK (oF s)):=by
 have c1:=sG s.p e.b.pid (by omega)
 have c2:=oU aGj
 have c3:=nR s.p.prods e.b hs hb
 have c4:=rU s.p (e.b.recs.length:Nat)
 rw[show IntKind.i64.wrap (1048576 - (e.b.recs.length:Int))=1048576 - (e.b.recs.length:Int) from aT (by omega),show decide (s.p.fin≤1048576 - (e.b.recs.length:Int))=false from decide_eq_false (by omega)] at c4
 rw[ho] at c1
 simp only[BatD.dv,ht] at c3
 have d1:((aN s.p.prods e.b).2.2 != 0)=false:=by simp[hc.1]
 have d2:=hc.2
 refine FunG.of_bodyH rfl rfl Tryz.func283 rfl rfl Tryz.ntmps283 Tryz.results283 (Nat.le_of_ble_eq_true rfl) (nC rfl rfl hp.pid hp.pid) ?_
 (refine gO (ai @aC (ai @EntD.dv.eq_1 (ai @BatD.dv.eq_1 (ht)))) ?_)
 refine Wp.reg (fun K hK=>?_)
 (refine rO (ai @aC (@EntD.dv.eq_1)) ?_)
 refine jF c1 rfl (iF hp (by (refine rO (ai @aC (ai @aS.eq_1 (@aS.eq_2))) ?_;try with_reducible exact tt))) ?_
 (refine rO (@aC) ?_)
 refine hK _ ?_
 clear hK K
 (refine gO (ai @aC (ai @EntD.dv.eq_1 (ai d1 (d2)))) ?_)
 refine Wp.reg (fun K hK=>?_)
 (refine rO (ai @aC (ai @EntD.dv.eq_1 (@List.length_map.{0,0}))) ?_)
 refine jF c4 rfl (iF hp (by (refine rO (ai @aC (ai @aS.eq_1 (@aS.eq_2))) ?_;try with_reducible exact tt))) ?_
 (refine rO (@aC) ?_)
 refine hK _ ?_
 clear hK K
 (refine gO (@aC) ?_)
 refine aX.ret ?_
 (refine rO (ai @aC (ai @aS.eq_1 (@aS.eq_2))) ?_;try with_reducible exact tt)
theorem aE9 (c:CV):CV.ren (fun x=>x) c=c:=by
 have hc:∀ l:List Cap,l.map (Cap.ren fun x=>x)=l:=fun l=>by
  rw[show (Cap.ren fun x=>x)=id from funext fun c=>by cases c<;>rfl,List.map_id]
 cases c<;>simp[CV.ren,hc]
theorem aAn (l:List CV):l.map (CV.ren fun x=>x)=l:=by
 rw[show (CV.ren fun x=>x)=id from funext aE9,List.map_id]
theorem cH (c:SV):SV.ren (fun x=>x) c=c:=by
 cases c
 ·simp[SV.ren,aE9]
 ·simp[SV.ren,aAn]
theorem aW (h:HE):HE.ren (fun x=>x) h=h:=by
 cases h<;>simp[HE.ren,aAn]
def aOr (s:FoldS) (l:List ProdD):FoldS:=⟨{ s.p with prods:=l },s.vr,s.vo,s.vt⟩
theorem aJ0 (s:FoldS) (e:EntD) (np:List ProdD) (hp:OpOk s.p.opens) (hl:s.p.opens.length≤1000) (hs:SmallL s.p.prods) (hb:e.b.recs.length≤100000) (hc:(aN s.p.prods e.b).2.2=0∧(aN s.p.prods e.b).2.1=false)
  (ho:bX s.p.opens e.b.pid=false) (ht:e.b.txn=false) (hf : -1000000000≤s.p.fin∧s.p.fin+(e.b.recs.length:Int)≤1048576) (hr:s.p.rows.length≤1000000) (hk:aJ s.p.prods e.b s.p.fin=(np,0)) :
  FunG Tryz.prog 283 [.c (.own 0 0),kI e] rB (bK (oF s)) lH rB (bK (oF (aX2 (aOr s np) e.b))):=by
 have c1:=sG s.p e.b.pid (by omega)
 have c3:=nR s.p.prods e.b hs hb
 have c4:=rU s.p (e.b.recs.length:Nat)
 rw[show IntKind.i64.wrap (1048576 - (e.b.recs.length:Int))=1048576 - (e.b.recs.length:Int) from aT (by omega),show decide (s.p.fin≤1048576 - (e.b.recs.length:Int))=true from decide_eq_true (by omega)] at c4
 have c5:=uZ s.p.prods e.b s.p.fin hs hb
 rw[hk] at c5
 have c6:=aQu (aOr s np) e.b hp.pid (by show _≤s.p.fin∧s.p.fin≤_;omega) hb hr
 rw[ho] at c1
 have hbV:aP5 e.b = .agg [.d (int e.b.pid),.d (int e.b.epoch),.d (int e.b.seq),.d (gD false),.d (.lst 2 (e.b.recs.map RecD.dv))]:=by
  show SV.agg (e.b.dv.map CV.d)=_
  simp only[BatD.dv,ht,List.map_cons,List.map_nil]
 simp only[BatD.dv,ht] at c3 c5
 have d1:((aN s.p.prods e.b).2.2 != 0)=false:=by simp[hc.1]
 have d2:=hc.2
 refine FunG.of_bodyH rfl rfl Tryz.func283 rfl rfl Tryz.ntmps283 Tryz.results283 (Nat.le_of_ble_eq_true rfl) (nC rfl rfl hp.pid hp.pid) ?_
 (refine gO (ai @aC (ai @EntD.dv.eq_1 (ai @BatD.dv.eq_1 (ht)))) ?_)
 refine Wp.reg (fun K hK=>?_)
 (refine rO (ai @aC (@EntD.dv.eq_1)) ?_)
 refine jF c1 rfl (iF hp (by (refine rO (ai @aC (ai @aS.eq_1 (@aS.eq_2))) ?_;try with_reducible exact tt))) ?_
 (refine rO (@aC) ?_)
 refine hK _ ?_
 clear hK K
 (refine gO (ai @aC (ai @EntD.dv.eq_1 (ai d1 (d2)))) ?_)
 refine Wp.reg (fun K hK=>?_)
 (refine rO (ai @aC (ai @EntD.dv.eq_1 (@List.length_map.{0,0}))) ?_)
 refine jF c4 rfl (iF hp (by (refine rO (ai @aC (ai @aS.eq_1 (@aS.eq_2))) ?_;try with_reducible exact tt))) ?_
 (refine rO (@aC) ?_)
 refine hK _ ?_
 clear hK K
 (refine gO (@aC) ?_)
 (first|refine Wp.sregG ?_|refine Wp.regG ?_|(refine Wp.seq ?_;first|refine Wp.sregG ?_|refine Wp.regG ?_))
 (refine aG.at 2 (fun K hK=>?_);(refine rO (@aC) ?_);refine hK _ ?_;clear hK K)
 (refine aG.call (c6) [] 1002 rfl rfl ?_ ?_;(focus ((refine yL (ai @eP (ai @aC (ai @aW (ai @aOr.eq_1 (hbV))))) ?_;try with_reducible exact tt);done)))
 (refine aG.done (fun K hK=>?_);(refine rOt (ai @aC (ai @cU.eq_1 (ai @cU.eq_2 (ai @aW (@cH))))) ?_);refine hK _ ?_;clear hK K)
 (refine gO (@aC) ?_)
 refine aX.ret ?_
 (refine rO (ai @aC (ai @aS.eq_1 (@aS.eq_2))) ?_;try with_reducible exact tt)
set_option maxHeartbeats 8000000

theorem aCm {l:List OpenD} {pid:Int} (h:aQ l pid<l.length):pid≤l[aQ l pid].pid:=by
 have:=List.findIdx_getElem (p:=fun x:OpenD=>decide (pid≤x.pid)) (xs:=l) (w:=h)
 exact of_decide_eq_true this
theorem aCn {l:List OpenD} {pid:Int} {j:Nat} (h:j<aQ l pid):∃ hj:j<l.length,l[j].pid<pid:=by
 have hle:=sF l pid
 have hj:j<l.length:=by omega
 have:=List.not_of_lt_findIdx (p:=fun x:OpenD=>decide (pid≤x.pid)) (xs:=l) (i:=j) h
 exact⟨hj,by simpa using this⟩
theorem aMu {l:List OpenD} (hr:l.Pairwise (fun a b=>a.pid<b.pid)) {pid:Int} (h:bX l pid=false):∀ o ∈ l,o.pid≠pid:=by
 intro o ho he
 obtain⟨j,hj,rfl⟩:=List.getElem_of_mem ho
 rcases Nat.lt_trichotomy j (aQ l pid) with hlt|heq|hgt
 ·obtain⟨_,h1⟩:=aCn hlt;omega
 ·have:bX l pid=true:=by
   unfold bX
   rw[← heq,List.getElem?_eq_getElem hj];simpa using he
  rw[h] at this;cases this
 ·have hi:aQ l pid<l.length:=by omega
  have h1:=aCm hi
  have h2:=List.pairwise_iff_getElem.1 hr (aQ l pid) j hi hj hgt
  omega
theorem OpOk.ins {l:List OpenD} (h:OpOk l) {pid:Int} (hb:bX l pid=false) (hp:1≤pid∧pid≤8) (ep:Int) (bs:List BatD):OpOk (l.take (aQ l pid)++⟨pid,ep,bs⟩::l.drop (aQ l pid)):=by
 refine⟨h.pid.ins _ hp,?_⟩
 have hr:=h.rise
 have hno:=aMu hr hb
 have hr2:=hr
 rw[← List.take_append_drop (aQ l pid) l,List.pairwise_append] at hr2
 obtain⟨h1,h2,h3⟩:=hr2
 rw[List.pairwise_append]
 refine⟨h1,List.pairwise_cons.2 ⟨fun x hx=>?_,h2⟩,fun a ha x hx=>?_⟩
 ·show pid<x.pid
  obtain⟨k,hk,rfl⟩:=List.getElem_of_mem hx
  rw[List.getElem_drop]
  have hk' : aQ l pid+k<l.length:=by rw[List.length_drop] at hk;omega
  have hi:aQ l pid<l.length:=by omega
  have g1:=aCm hi
  have g2:=hno _ (List.getElem_mem hi)
  rcases Nat.eq_zero_or_pos k with rfl|h0
  ·show pid<l[aQ l pid+0].pid
   simp only[Nat.add_zero];omega
  ·have:=List.pairwise_iff_getElem.1 hr (aQ l pid) (aQ l pid+k) hi hk' (by omega)
   omega
 ·obtain⟨k,hk,rfl⟩:=List.mem_take_iff_getElem.1 ha
  obtain⟨hj,g1⟩:=aCn (l:=l) (pid:=pid) (j:=k) (by omega)
  rcases List.mem_cons.1 hx with rfl|hx
  ·exact g1
  ·exact h3 _ ha x hx
def cY:List BatD→Nat
 | []=>0
 | b::l=>b.recs.length+cY l


end Go.Proofs.YtpklhnpchhaccaaGreatDoor
