/- The abstract machine (InH, InI, InJ, InK, InL, InN, InO, InP). -/
import Derived.Test.YtpklhnpchhaccaaGreatDoorInMb
namespace Go.Proofs.YtpklhnpchhaccaaGreatDoor
open Go Go.RowKit
set_option maxHeartbeats 4000000
set_option maxRecDepth 100000
set_option linter.unusedVariables false
set_option linter.unusedSimpArgs false
theorem aFs (xs:List (List D)) (hl:xs.length≤1000000):pH Tryz.prog 106 [.lst 2 xs] 112 2 xs:=by
 cases xs with
 | nil =>
  refine pH.of_nil (fun a c=>?_)
  (refine pH.of_body Tryz.func106 rfl rfl Tryz.ntmps106 Tryz.results106 (by simp) ?_)
  cases a with
  | none =>
   (repeat (first|refine Wp.skip ?_|refine Wp.exit ?_|refine Wp.ret ?_|refine Wp.block ?_|refine Wp.label ?_|((first|(first|refine Wp.sreg (fun K hK=>?_)|refine Wp.reg (fun K hK=>?_)|refine Wp.sdrw aI (fun K hK=>?_)|refine Wp.drw aI (fun K hK=>?_))|refine Wp.condG (fun K hT hF=>?_));(refine rO (ai @Option.isNone_none.{0} (@Option.isNone_some.{0})) ?_);(first|(refine hK _ ?_;clear hK K)|(refine⟨by kernel_rfl,hK _ ?_⟩;clear hK K)|(refine hT ?_;clear hT hF K)|(refine hF ?_;clear hT hF K)))|refine Wp.seq ?_))
   (refine aT ?_;try with_reducible exact tt)
  | some ad =>
   (repeat (first|refine Wp.skip ?_|refine Wp.exit ?_|refine Wp.ret ?_|refine Wp.block ?_|refine Wp.label ?_|((first|(first|refine Wp.sreg (fun K hK=>?_)|refine Wp.reg (fun K hK=>?_)|refine Wp.sdrw aI (fun K hK=>?_)|refine Wp.drw aI (fun K hK=>?_))|refine Wp.condG (fun K hT hF=>?_));(refine rO (ai @Option.isNone_none.{0} (@Option.isNone_some.{0})) ?_);(first|(refine hK _ ?_;clear hK K)|(refine⟨by kernel_rfl,hK _ ?_⟩;clear hK K)|(refine hT ?_;clear hT hF K)|(refine hF ?_;clear hT hF K)))|refine Wp.seq ?_))
   (refine aT ?_)
   exact .inl ⟨0,rfl,rfl⟩
 | cons f fs =>
  have hb:(fs.length+1)*32≤140737488355328:=by simp at hl;omega
  (refine pH.of_body Tryz.func106 rfl rfl Tryz.ntmps106 Tryz.results106 (by simp) ?_)
  (repeat (first|refine Wp.skip ?_|refine Wp.exit ?_|refine Wp.ret ?_|refine Wp.block ?_|refine Wp.label ?_|((first|(first|refine Wp.sreg (fun K hK=>?_)|refine Wp.reg (fun K hK=>?_)|refine Wp.sdrw aI (fun K hK=>?_)|refine Wp.drw aI (fun K hK=>?_))|refine Wp.condG (fun K hT hF=>?_));(refine rO (hb) ?_);(first|(refine hK _ ?_;clear hK K)|(refine⟨by kernel_rfl,hK _ ?_⟩;clear hK K)|(refine hT ?_;clear hT hF K)|(refine hF ?_;clear hT hF K)))|refine Wp.seq ?_))
  (refine aT ?_)
  exact .inl ⟨0,rfl,rfl⟩
abbrev aFh:List UInt8:=[97,32,98,97,116,99,104]
theorem aI4 (s:FoldS) (e:EntD) (hp:OpOk s.p.opens) (hl:s.p.opens.length≤1000) (hs:SmallL s.p.prods) (hb:e.b.recs.length≤100000) (hc:(aP s.p.prods e.b).2.2≠0∨(aP s.p.prods e.b).2.1=true) :
  FunG Tryz.prog 283 [.c (.own 0 0),jG e] qL (bI (oB s)) (wU aFh) qL (bI (oB s)):=by
 have c1:=rR s.p e.b.pid (by omega)
 have c2:=oQ aFh
 have c3:=nP s.p.prods e.b hs hb
 simp only[BatD.dv] at c3
 refine FunG.of_bodyH rfl rfl Tryz.func283 rfl rfl Tryz.ntmps283 Tryz.results283 (Nat.le_of_ble_eq_true rfl) (nD rfl rfl hp.pid hp.pid) ?_
 by_cases h1:(aP s.p.prods e.b).2.2=0
 ·have h2:(aP s.p.prods e.b).2.1=true:=hc.resolve_left (fun h=>h h1)
  have d1:((aP s.p.prods e.b).2.2 != 0)=false:=by simp[h1]
  (refine gO (ai @aC (ai @EntD.dv.eq_1 (@BatD.dv.eq_1))) ?_)
  refine Wp.reg (fun K hK=>?_)
  (refine rO (ai @aC (@EntD.dv.eq_1)) ?_)
  refine fQ c1 rfl (iK hp (by (refine rO (ai @aC (ai @aJ.eq_1 (@aJ.eq_2))) ?_;try with_reducible exact tt))) ?_
  (refine rO (@aC) ?_)
  refine hK _ ?_
  clear hK K
  (refine gO (ai @aC (ai @EntD.dv.eq_1 (ai d1 (h2)))) ?_)
  refine aO.ret ?_
  (refine rO (ai @aC (ai @aJ.eq_1 (@aJ.eq_2))) ?_;try with_reducible exact tt)
 ·have d1:((aP s.p.prods e.b).2.2 != 0)=true:=by simpa using h1
  (refine gO (ai @aC (ai @EntD.dv.eq_1 (@BatD.dv.eq_1))) ?_)
  refine Wp.reg (fun K hK=>?_)
  (refine rO (ai @aC (@EntD.dv.eq_1)) ?_)
  refine fQ c1 rfl (iK hp (by (refine rO (ai @aC (ai @aJ.eq_1 (@aJ.eq_2))) ?_;try with_reducible exact tt))) ?_
  (refine rO (@aC) ?_)
  refine hK _ ?_
  clear hK K
  (refine gO (ai @aC (ai @EntD.dv.eq_1 (d1))) ?_)
  refine aO.ret ?_
  (refine rO (ai @aC (ai @aJ.eq_1 (@aJ.eq_2))) ?_;try with_reducible exact tt)
theorem aLv {l:List OpenD} {pid:Int} (h:bL l pid=true):∃ h:aZ l pid<l.length,l[aZ l pid].pid=pid:=by
 unfold bL at h
 cases hq:l[aZ l pid]? with
 | none=>rw[hq] at h;cases h
 | some o =>
  rw[hq] at h
  obtain⟨hlt,he⟩:=List.getElem?_eq_some_iff.1 hq
  exact⟨hlt,by rw[he];simpa using h⟩
theorem aOg (l:List BatD):(fN l).length=l.length*5:=by
 unfold fN
 rw[List.length_map,cQ (sz:=5) (by intro x hx;obtain⟨r,_,rfl⟩:=List.mem_map.1 hx;rfl),List.length_map]
theorem aI5 (s:FoldS) (e:EntD) (hp:OpOk s.p.opens) (hl:s.p.opens.length≤1000) (hs:SmallL s.p.prods) (hb:e.b.recs.length≤100000) (hc:(aP s.p.prods e.b).2.2=0∧(aP s.p.prods e.b).2.1=false)
  (ho:bL s.p.opens e.b.pid=false) (ht:e.b.txn=false) (hf:1048576<s.p.fin+(e.b.recs.length:Int)) :
  FunG Tryz.prog 283 [.c (.own 0 0),jG e] qL (bI (oB s)) (wU aFh) qL (bI (oB s)):=by
 have c1:=rR s.p e.b.pid (by omega)
 have c2:=oQ aFh
 have c3:=nP s.p.prods e.b hs hb
 have c4:=rB s.p (e.b.recs.length:Nat)
 rw[show IntKind.i64.wrap (1048576 - (e.b.recs.length:Int))=1048576 - (e.b.recs.length:Int) from bA (by omega),show decide (s.p.fin≤1048576 - (e.b.recs.length:Int))=false from decide_eq_false (by omega)] at c4
 rw[ho] at c1
 simp only[BatD.dv,ht] at c3
 have d1:((aP s.p.prods e.b).2.2 != 0)=false:=by simp[hc.1]
 have d2:=hc.2
 refine FunG.of_bodyH rfl rfl Tryz.func283 rfl rfl Tryz.ntmps283 Tryz.results283 (Nat.le_of_ble_eq_true rfl) (nD rfl rfl hp.pid hp.pid) ?_
 (refine gO (ai @aC (ai @EntD.dv.eq_1 (ai @BatD.dv.eq_1 (ht)))) ?_)
 refine Wp.reg (fun K hK=>?_)
 (refine rO (ai @aC (@EntD.dv.eq_1)) ?_)
 refine fQ c1 rfl (iK hp (by (refine rO (ai @aC (ai @aJ.eq_1 (@aJ.eq_2))) ?_;try with_reducible exact tt))) ?_
 (refine rO (@aC) ?_)
 refine hK _ ?_
 clear hK K
 (refine gO (ai @aC (ai @EntD.dv.eq_1 (ai d1 (d2)))) ?_)
 refine Wp.reg (fun K hK=>?_)
 (refine rO (ai @aC (ai @EntD.dv.eq_1 (@List.length_map.{0,0}))) ?_)
 refine fQ c4 rfl (iK hp (by (refine rO (ai @aC (ai @aJ.eq_1 (@aJ.eq_2))) ?_;try with_reducible exact tt))) ?_
 (refine rO (@aC) ?_)
 refine hK _ ?_
 clear hK K
 (refine gO (@aC) ?_)
 refine aO.ret ?_
 (refine rO (ai @aC (ai @aJ.eq_1 (@aJ.eq_2))) ?_;try with_reducible exact tt)
theorem aDf (c:CV):CV.ren (fun x=>x) c=c:=by
 have hc:∀ l:List Cap,l.map (Cap.ren fun x=>x)=l:=fun l=>by
  rw[show (Cap.ren fun x=>x)=id from funext fun c=>by cases c<;>rfl,List.map_id]
 cases c<;>simp[CV.ren,hc]
theorem zP (l:List CV):l.map (CV.ren fun x=>x)=l:=by
 rw[show (CV.ren fun x=>x)=id from funext aDf,List.map_id]
theorem bU (c:SV):SV.ren (fun x=>x) c=c:=by
 cases c
 ·simp[SV.ren,aDf]
 ·simp[SV.ren,zP]
theorem aM (h:HE):HE.ren (fun x=>x) h=h:=by
 cases h<;>simp[HE.ren,zP]
def aNq (s:FoldS) (l:List ProdD):FoldS:=⟨{ s.p with prods:=l },s.vr,s.vo,s.vt⟩
theorem aI6 (s:FoldS) (e:EntD) (np:List ProdD) (hp:OpOk s.p.opens) (hl:s.p.opens.length≤1000) (hs:SmallL s.p.prods) (hb:e.b.recs.length≤100000) (hc:(aP s.p.prods e.b).2.2=0∧(aP s.p.prods e.b).2.1=false)
  (ho:bL s.p.opens e.b.pid=false) (ht:e.b.txn=false) (hf : -1000000000≤s.p.fin∧s.p.fin+(e.b.recs.length:Int)≤1048576) (hr:s.p.rows.length≤1000000) (hk:aG s.p.prods e.b s.p.fin=(np,0)) :
  FunG Tryz.prog 283 [.c (.own 0 0),jG e] qL (bI (oB s)) lJ qL (bI (oB (aW0 (aNq s np) e.b))):=by
 have c1:=rR s.p e.b.pid (by omega)
 have c3:=nP s.p.prods e.b hs hb
 have c4:=rB s.p (e.b.recs.length:Nat)
 rw[show IntKind.i64.wrap (1048576 - (e.b.recs.length:Int))=1048576 - (e.b.recs.length:Int) from bA (by omega),show decide (s.p.fin≤1048576 - (e.b.recs.length:Int))=true from decide_eq_true (by omega)] at c4
 have c5:=uH s.p.prods e.b s.p.fin hs hb
 rw[hk] at c5
 have c6:=aPw (aNq s np) e.b hp.pid (by show _≤s.p.fin∧s.p.fin≤_;omega) hb hr
 rw[ho] at c1
 have hbV:aOf e.b = .agg [.d (int e.b.pid),.d (int e.b.epoch),.d (int e.b.seq),.d (dM false),.d (.lst 2 (e.b.recs.map RecD.dv))]:=by
  show SV.agg (e.b.dv.map CV.d)=_
  simp only[BatD.dv,ht,List.map_cons,List.map_nil]
 simp only[BatD.dv,ht] at c3 c5
 have d1:((aP s.p.prods e.b).2.2 != 0)=false:=by simp[hc.1]
 have d2:=hc.2
 refine FunG.of_bodyH rfl rfl Tryz.func283 rfl rfl Tryz.ntmps283 Tryz.results283 (Nat.le_of_ble_eq_true rfl) (nD rfl rfl hp.pid hp.pid) ?_
 (refine gO (ai @aC (ai @EntD.dv.eq_1 (ai @BatD.dv.eq_1 (ht)))) ?_)
 refine Wp.reg (fun K hK=>?_)
 (refine rO (ai @aC (@EntD.dv.eq_1)) ?_)
 refine fQ c1 rfl (iK hp (by (refine rO (ai @aC (ai @aJ.eq_1 (@aJ.eq_2))) ?_;try with_reducible exact tt))) ?_
 (refine rO (@aC) ?_)
 refine hK _ ?_
 clear hK K
 (refine gO (ai @aC (ai @EntD.dv.eq_1 (ai d1 (d2)))) ?_)
 refine Wp.reg (fun K hK=>?_)
 (refine rO (ai @aC (ai @EntD.dv.eq_1 (@List.length_map.{0,0}))) ?_)
 refine fQ c4 rfl (iK hp (by (refine rO (ai @aC (ai @aJ.eq_1 (@aJ.eq_2))) ?_;try with_reducible exact tt))) ?_
 (refine rO (@aC) ?_)
 refine hK _ ?_
 clear hK K
 (refine gO (@aC) ?_)
 (first|refine Wp.sregG ?_|refine Wp.regG ?_|(refine Wp.seq ?_;first|refine Wp.sregG ?_|refine Wp.regG ?_))
 (refine aH.at 2 (fun K hK=>?_);(refine rO (@aC) ?_);refine hK _ ?_;clear hK K)
 (refine aH.call (c6) [] 1002 rfl rfl ?_ ?_;(focus ((refine wG (ai @cT (ai @aC (ai @aM (ai @aNq.eq_1 (hbV))))) ?_;try with_reducible exact tt);done)))
 (refine aH.done (fun K hK=>?_);(refine rOt (ai @aC (ai @cH.eq_1 (ai @cH.eq_2 (ai @aM (@bU))))) ?_);refine hK _ ?_;clear hK K)
 (refine gO (@aC) ?_)
 refine aO.ret ?_
 (refine rO (ai @aC (ai @aJ.eq_1 (@aJ.eq_2))) ?_;try with_reducible exact tt)
set_option maxHeartbeats 8000000

theorem aBg {l:List OpenD} {pid:Int} (h:aZ l pid<l.length):pid≤l[aZ l pid].pid:=by
 have:=List.findIdx_getElem (p:=fun x:OpenD=>decide (pid≤x.pid)) (xs:=l) (w:=h)
 exact of_decide_eq_true this
theorem aBh {l:List OpenD} {pid:Int} {j:Nat} (h:j<aZ l pid):∃ hj:j<l.length,l[j].pid<pid:=by
 have hle:=rQ l pid
 have hj:j<l.length:=by omega
 have:=List.not_of_lt_findIdx (p:=fun x:OpenD=>decide (pid≤x.pid)) (xs:=l) (i:=j) h
 exact⟨hj,by simpa using this⟩
theorem aLu {l:List OpenD} (hr:l.Pairwise (fun a b=>a.pid<b.pid)) {pid:Int} (h:bL l pid=false):∀ o ∈ l,o.pid≠pid:=by
 intro o ho he
 obtain⟨j,hj,rfl⟩:=List.getElem_of_mem ho
 rcases Nat.lt_trichotomy j (aZ l pid) with hlt|heq|hgt
 ·obtain⟨_,h1⟩:=aBh hlt;omega
 ·have:bL l pid=true:=by
   unfold bL
   rw[← heq,List.getElem?_eq_getElem hj];simpa using he
  rw[h] at this;cases this
 ·have hi:aZ l pid<l.length:=by omega
  have h1:=aBg hi
  have h2:=List.pairwise_iff_getElem.1 hr (aZ l pid) j hi hj hgt
  omega
theorem OpOk.ins {l:List OpenD} (h:OpOk l) {pid:Int} (hb:bL l pid=false) (hp:1≤pid∧pid≤8) (ep:Int) (bs:List BatD):OpOk (l.take (aZ l pid)++⟨pid,ep,bs⟩::l.drop (aZ l pid)):=by
 refine⟨h.pid.ins _ hp,?_⟩
 have hr:=h.rise
 have hno:=aLu hr hb
 have hr2:=hr
 rw[← List.take_append_drop (aZ l pid) l,List.pairwise_append] at hr2
 obtain⟨h1,h2,h3⟩:=hr2
 rw[List.pairwise_append]
 refine⟨h1,List.pairwise_cons.2 ⟨fun x hx=>?_,h2⟩,fun a ha x hx=>?_⟩
 ·show pid<x.pid
  obtain⟨k,hk,rfl⟩:=List.getElem_of_mem hx
  rw[List.getElem_drop]
  have hk' : aZ l pid+k<l.length:=by rw[List.length_drop] at hk;omega
  have hi:aZ l pid<l.length:=by omega
  have g1:=aBg hi
  have g2:=hno _ (List.getElem_mem hi)
  rcases Nat.eq_zero_or_pos k with rfl|h0
  ·show pid<l[aZ l pid+0].pid
   simp only[Nat.add_zero];omega
  ·have:=List.pairwise_iff_getElem.1 hr (aZ l pid) (aZ l pid+k) hi hk' (by omega)
   omega
 ·obtain⟨k,hk,rfl⟩:=List.mem_take_iff_getElem.1 ha
  obtain⟨hj,g1⟩:=aBh (l:=l) (pid:=pid) (j:=k) (by omega)
  rcases List.mem_cons.1 hx with rfl|hx
  ·exact g1
  ·exact h3 _ ha x hx
def hJ:List BatD→Nat
 | []=>0
 | b::l=>b.recs.length+hJ l


end Go.Proofs.YtpklhnpchhaccaaGreatDoor
