/- The abstract machine (ErCp, CpB, CpC). -/
import Derived.Test.YtkmfmphpndhkjaaGreatDoorErM
import Derived.Test.YtkmfmphpndhkjaaGreatDoorCpA
namespace Go.Proofs.YtkmfmphpndhkjaaGreatDoor
open Go.RowKit Go.Extern.Stop Go.Stop Go.Extern
set_option maxRecDepth 100000
set_option linter.unusedVariables false
set_option linter.unusedSimpArgs false
theorem aJ1 (a:Addr) (n:Int) (w:World) (hc:w.cell? ⟨a.block,a.off+1,none⟩=some (.int .i64 n)) (ha:a.spot=none) :
  Calls Tryz.prog 245 #[.pointer (some a)] w fun e w'=>e = .returned (.iface 41 (.int .i64 n))∧w=w':=by
 obtain⟨b,o,sp⟩:=a
 cases ha
 go_enter Tryz.func245,Tryz.ntmps245
 go_wp2_with fail
 go_ret
 exact⟨rfl,rfl⟩
theorem uX:ErrT 268 245 where
 tof:=fun v w=>by kernel_rfl
 asg:=fun w=>by kernel_rfl
 unw:=aJ1
 taA:=fun a w=>run_typeAssert_lacksB Tryz.underlying202 (by kernel_rfl) (by kernel_rfl) _ _ w
 taI:=fun a w=>run_typeAssert_lacksB Tryz.underlying192 (by kernel_rfl) (by kernel_rfl) _ _ w
 taU:=fun a w=>run_typeAssert_hasB Tryz.underlying195 (by kernel_rfl) _ _ w
 mU:=fun a w=>by kernel_rfl
 fE:=fun args w=>by simp[callFunc,Tryz.func245,Tryz.f245]
 ne:=by decide
set_option maxHeartbeats 1000000 in
theorem aC7 (b o:Nat) (n:Int) (w:World) (hg:qP w) (hc:w.cell? ⟨b,o+1,none⟩=some (.int .i64 n)) (hbl:b<w.heap.size) :
  Calls Tryz.prog 173 #[.iface 268 (.pointer (some ⟨b,o,none⟩))] w fun e w'=>e = .returned (.int .i64 n)∧Below w.heap.size w w':=by
 have b0:Below w.heap.size w (w.alloc (.cells #[.int .i64 0] 41)):=(Below.refl _ _).alloc (Nat.le_refl _) _
 have l0:=dF.new w #[.int .i64 0] 41
 have hg0:qP (w.alloc (.cells #[.int .i64 0] 41)):=hg.below b0
 go_enter Tryz.func173,Tryz.ntmps173
 go_wp2_with fail
 generalize w.alloc (.cells #[.int .i64 0] 41)=W0 at b0 l0 hg0 ⊢
 refine (isR uX b o n 2 W0 ((b0.cell (p:=⟨b,o+1,none⟩) hbl).trans hc)).mono ?_
 rintro e w' ⟨rfl,rfl⟩
 cases hn:(n == 2)
 ·go_wp2_with fail
  refine (asR uX b o n w.heap.size (.int .i64 0) W0 ((b0.cell (p:=⟨b,o+1,none⟩) hbl).trans hc) (by have:=l0.lt;omega) hg0 (l0.cell 0) (l0.frozen 0) l0.lt).mono ?_
  rintro e w' ⟨rfl,hgr,hcell⟩
  have hb1:Below w.heap.size w w':=b0.grown hgr b0.size (fun k e=>by cases e;exact Nat.le_refl _)
  go_wp2_with fail
  go_ret
  exact⟨rfl,hb1⟩
 ·obtain rfl:n=2:=by simpa using hn
  go_wp2_with fail
  go_ret
  exact⟨rfl,b0⟩
abbrev rC (x:D) (n:Int):D:=.iface 268 (.ptr [x,int n] 0)
theorem oO (x:D) (n:Int):aJ Tryz.prog 173 [rC x n] (int n):=mD (by kernel_rfl) aC7 x
end Go.Proofs.YtkmfmphpndhkjaaGreatDoor
namespace Go.Proofs.YtkmfmphpndhkjaaGreatDoor
open Go Go.RowKit
set_option maxHeartbeats 8000000
set_option maxRecDepth 100000
set_option linter.unusedVariables false
set_option linter.unusedSimpArgs false
structure SmallO (o:OpenD):Prop where
 bats:o.bats.length≤100000
 recs:∀ b ∈ o.bats,b.recs.length≤100000
def rL (l:List BatD):Nat→Int
 | 0=>match l[0]? with
  | some b=>b.seq
  | none=>0
 | i+1=>match l[i]? with
  | some b=>wS b
  | none=>0
def iX (o:OpenD) (i:Nat) (b:BatD):Bool:=!mW b || !b.txn || b.pid != o.pid || b.epoch != o.epoch || b.seq != rL o.bats i
def xK (o:OpenD) (i:Nat):Bool:=match o.bats[i]? with
 | some b=>!iX o i b
 | none=>true
def iI (o:OpenD):Bool:=decide ((o.bats.length:Int)<1) || decide (8<(o.bats.length:Int))
def wG (o:OpenD):Bool:=!iI o && (List.range o.bats.length).all (xK o)
theorem aLt {o:OpenD} {i:Nat} {b:BatD} (hb:o.bats[i]? = some b) (h:iX o i b=true):wG o=false:=by
 have hlt:=(List.getElem?_eq_some_iff.1 hb).1
 have:xK o i=false:=by simp only[xK,hb,h];rfl
 have h2:(List.range o.bats.length).all (xK o)=false:=by
  rw[List.all_eq_false]
  exact⟨i,by simpa using hlt,by rw[this];simp⟩
 simp only[wG,h2,Bool.and_false]
theorem aIb {o:OpenD} (h1:iI o=false) (h:∀ i,i<o.bats.length→xK o i=true):wG o=true:=by
 simp only[wG,h1,Bool.not_false,Bool.true_and]
 exact List.all_eq_true.2 (fun i hi=>h i (by simpa using hi))
abbrev aTw:D:=str [116,104,101,32,110,117,109,98,101,114,32,111,102,32,98,97,116,99,104,101,115]
abbrev aTx:D:=str [97,32,98,97,116,99,104]
def aC4 (o:OpenD):D:=if wG o then .val .nilIface else if iI o then rC aTw 2 else rC aTx 2
abbrev chS (o:OpenD) (k:Nat):St:=⟨dI [(1,.c (.own 0 0)),(3,vi .i64 (rL o.bats k)),(25,.c (.d (.lst 5 (o.bats.map BatD.dv)))),(26,vi .i64 o.bats.length),(27,vi .i64 k)],bJ [(0,.cells (o.dv.map .d))],1,63,0⟩
theorem aGx (o:OpenD) (hs:SmallO o):aJ Tryz.prog 172 [.agg o.dv] (aC4 o):=by
 have hbl:=hs.bats
 (refine aJ.of_body Tryz.func172 rfl rfl Tryz.ntmps172 Tryz.results172 (by simp) ?_)
 (refine gO (@OpenD.dv.eq_1) ?_;try with_reducible exact tt)
 (first|refine Wp.sto 15 (vb (iI o)) ?_ ?_|refine Wp.rtoS 15 (vb (iI o)) ?_ ?_|(refine Wp.seq ?_;first|refine Wp.sto 15 (vb (iI o)) ?_ ?_|refine Wp.rtoS 15 (vb (iI o)) ?_ ?_))
 ·unfold iI;((rcases Bool.eq_false_or_eq_true (decide ((o.bats.length:Int)<1)) with hL1|hL1)<;>(rcases Bool.eq_false_or_eq_true (decide (8<(o.bats.length:Int))) with hL2|hL2)<;>(((refine rO (ai hL1 (ai hL2 (@OpenD.dv.eq_1))) ?_;try with_reducible exact tt);(repeat (refine aQ (by assumption) ?_;(refine rO (ai hL1 (ai hL2 (@OpenD.dv.eq_1))) ?_;try with_reducible exact tt))));all_goals (exact (show aH _ _=true by kernel_rfl))))
 refine Wp.cond (by (refine aK ?_;try with_reducible exact tt);rfl) (fun h=>?_) (fun h=>?_)
 ·have hf:wG o=false:=by simp only[wG,h,Bool.not_true,Bool.false_and]
  (refine aI ?_;try with_reducible exact tt)
  (refine rO (ai @aC4.eq_1 (ai hf (h))) ?_;try with_reducible exact tt)
 have h1:iI o=false:=h
 have hpos:0<o.bats.length:=by simp only[iI,Bool.or_eq_false_iff,decide_eq_false_iff_not] at h;omega
 have h0:o.bats[0]? = some (o.bats[0]'hpos):=List.getElem?_eq_getElem hpos
 have hn0:rL o.bats 0=(o.bats[0]'hpos).seq:=by simp only[rL,h0]
 generalize o.bats[0]'hpos=b0 at h0 hn0
 (refine gO (ai @OpenD.dv.eq_1 (ai h0 (@BatD.dv.eq_1))) ?_;try with_reducible exact tt)
 refine Wp.loop (chS o) (fun k=>k≤o.bats.length∧∀ i,i<k→xK o i=true) (fun k=>o.bats.length - k) 0 ⟨Nat.zero_le _,fun i hi=>by omega⟩ ?_ ?_
 ·refine aD.keep rfl rfl ?_
  (refine rO (ai @OpenD.dv.eq_1 (hn0)) ?_;try with_reducible exact tt)
 rintro k ⟨hk,hall⟩
 (refine gO (@OpenD.dv.eq_1) ?_;try with_reducible exact tt)
 refine Wp.cond (by (refine aK ?_;try with_reducible exact tt);rfl) (fun h=>?_) (fun h=>?_)
 ·have hlt:k<o.bats.length:=by simpa using h
  have hge:o.bats[k]? = some o.bats[k]:=List.getElem?_eq_getElem hlt
  have hrl:=hs.recs o.bats[k] (List.getElem_mem hlt)
  have hnx:rL o.bats (k+1)=wS o.bats[k]:=by simp only[rL,hge]
  generalize o.bats[k]=b at *
  have c1:=aKv b hrl
  have c2:=aEb b
  simp only[BatD.dv] at c1 c2
  have hbad:iX o k b=true→wG o=false:=aLt hge
  have e3:=h1
  cases q1:mW b with
  | false =>
   have hf:=hbad (by simp only[iX,q1,Bool.not_false,Bool.true_or])
   rw[q1] at c1
   (refine gO (ai hge (ai @BatD.dv.eq_1 (@OpenD.dv.eq_1))) ?_;try with_reducible exact tt)
   (refine rO (ai @aC4.eq_1 (ai hf (e3))) ?_;try with_reducible exact tt)
  | true =>
  rw[q1] at c1
  cases q2:b.txn with
  | false =>
   have hf:=hbad (by simp only[iX,q2,Bool.not_false,Bool.true_or,Bool.or_true])
   rw[q2] at c1
   (refine gO (ai hge (ai @BatD.dv.eq_1 (ai @OpenD.dv.eq_1 (q2)))) ?_;try with_reducible exact tt)
   (refine rO (ai @aC4.eq_1 (ai hf (e3))) ?_;try with_reducible exact tt)
  | true =>
  rw[q2] at c1 c2
  cases q3:(b.pid != o.pid) with
  | true =>
   have hf:=hbad (by simp only[iX,q3,Bool.true_or,Bool.or_true])
   (refine gO (ai hge (ai @BatD.dv.eq_1 (ai @OpenD.dv.eq_1 (ai q2 (q3))))) ?_;try with_reducible exact tt)
   (refine rO (ai @aC4.eq_1 (ai hf (e3))) ?_;try with_reducible exact tt)
  | false =>
  cases q4:(b.epoch != o.epoch) with
  | true =>
   have hf:=hbad (by simp only[iX,q4,Bool.true_or,Bool.or_true])
   (refine gO (ai hge (ai @BatD.dv.eq_1 (ai @OpenD.dv.eq_1 (ai q2 (ai q3 (q4)))))) ?_;try with_reducible exact tt)
   (refine rO (ai @aC4.eq_1 (ai hf (e3))) ?_;try with_reducible exact tt)
  | false =>
  cases q5:(b.seq != rL o.bats k) with
  | true =>
   have hf:=hbad (by simp only[iX,q5,Bool.or_true])
   (refine gO (ai hge (ai @BatD.dv.eq_1 (ai @OpenD.dv.eq_1 (ai q2 (ai q3 (ai q4 (q5))))))) ?_;try with_reducible exact tt)
   (refine rO (ai @aC4.eq_1 (ai hf (e3))) ?_;try with_reducible exact tt)
  | false =>
   have hok:xK o k=true:=by simp only[xK,hge,iX,q1,q2,q3,q4,q5];rfl
   (refine gO (ai hge (ai @BatD.dv.eq_1 (ai @OpenD.dv.eq_1 (ai q2 (ai q3 (ai q4 (q5))))))) ?_;try with_reducible exact tt)
   refine⟨k+1,⟨by omega,fun i hi=>?_⟩,by omega,aD.keep rfl rfl ?_⟩
   ·rcases Nat.lt_or_ge i k with h2|h2
    ·exact hall i h2
    ·obtain rfl:i=k:=by omega
     exact hok
   (refine rO (ai @OpenD.dv.eq_1 (hnx)) ?_;try with_reducible exact tt)
 ·have hk2:k=o.bats.length:=by simp only[decide_eq_false_iff_not] at h;omega
  subst hk2
  have hf:=aIb h1 hall
  (refine aI ?_;try with_reducible exact tt)
  (refine rO (ai @aC4.eq_1 (hf)) ?_;try with_reducible exact tt)
def hZ (o:OpenD):Int:=match o.bats.getLast? with
 | some b=>wS b
 | none=>0
theorem zC {o:OpenD} (h:wG o=true):0<o.bats.length∧o.bats.length≤8:=by
 simp only[wG,Bool.and_eq_true,Bool.not_eq_true',iI,Bool.or_eq_false_iff,decide_eq_false_iff_not] at h
 omega
theorem aEk (o:OpenD) (hs:SmallO o) (h:0<o.bats.length):aJ Tryz.prog 177 [.agg o.dv] (int (hZ o)):=by
 have hbl:=hs.bats
 have hg:o.bats[o.bats.length - 1]? = some (o.bats[o.bats.length - 1]'(by omega)):=List.getElem?_eq_getElem (by omega)
 have hl:hZ o=wS (o.bats[o.bats.length - 1]'(by omega)):=by unfold hZ;rw[List.getLast?_eq_getElem?,hg]
 generalize o.bats[o.bats.length - 1]'(by omega)=b at hg hl
 have c1:=aEb b
 simp only[BatD.dv] at c1
 have ht:((o.bats.length:Int) - 1).toNat=o.bats.length - 1:=by omega
 have hge:((0:Int)≤(o.bats.length:Int) - 1)=True:=by simp;omega
 (refine aJ.of_body Tryz.func177 rfl rfl Tryz.ntmps177 Tryz.results177 (by simp) ?_)
 (refine gO (ai @OpenD.dv.eq_1 (ai ht (ai hge (ai hg (@BatD.dv.eq_1))))) ?_;try with_reducible exact tt)
 (refine rO (hl) ?_;try with_reducible exact tt)
theorem uS (xs:List (List D)) (hl:xs.length≤1000000):pD Tryz.prog 176 [.lst 2 xs] 129 2 xs:=by
 cases xs with
 | nil =>
  refine pD.of_nil (fun a c=>?_)
  (refine pD.of_body Tryz.func176 rfl rfl Tryz.ntmps176 Tryz.results176 (by simp) ?_)
  cases a with
  | none =>
   (repeat (first|refine Wp.skip ?_|refine Wp.exit ?_|refine Wp.ret ?_|refine Wp.block ?_|refine Wp.label ?_|((first|(first|refine Wp.sreg (fun K hK=>?_)|refine Wp.reg (fun K hK=>?_)|refine Wp.sdrw aA (fun K hK=>?_)|refine Wp.drw aA (fun K hK=>?_))|refine Wp.condG (fun K hT hF=>?_));(refine rO (ai @Option.isNone_none.{0} (@Option.isNone_some.{0})) ?_;try with_reducible exact tt);(first|(refine hK _ ?_;clear hK K)|(refine⟨by kernel_rfl,hK _ ?_⟩;clear hK K)|(refine hT ?_;clear hT hF K)|(refine hF ?_;clear hT hF K)))|refine Wp.seq ?_))
   (refine aK ?_;try with_reducible exact tt)
  | some ad =>
   (repeat (first|refine Wp.skip ?_|refine Wp.exit ?_|refine Wp.ret ?_|refine Wp.block ?_|refine Wp.label ?_|((first|(first|refine Wp.sreg (fun K hK=>?_)|refine Wp.reg (fun K hK=>?_)|refine Wp.sdrw aA (fun K hK=>?_)|refine Wp.drw aA (fun K hK=>?_))|refine Wp.condG (fun K hT hF=>?_));(refine rO (ai @Option.isNone_none.{0} (@Option.isNone_some.{0})) ?_;try with_reducible exact tt);(first|(refine hK _ ?_;clear hK K)|(refine⟨by kernel_rfl,hK _ ?_⟩;clear hK K)|(refine hT ?_;clear hT hF K)|(refine hF ?_;clear hT hF K)))|refine Wp.seq ?_))
   (refine aK ?_;try with_reducible exact tt)
   exact .inl ⟨0,rfl,rfl⟩
 | cons f fs =>
  have hb:(fs.length+1)*32≤140737488355328:=by simp at hl;omega
  (refine pD.of_body Tryz.func176 rfl rfl Tryz.ntmps176 Tryz.results176 (by simp) ?_)
  (repeat (first|refine Wp.skip ?_|refine Wp.exit ?_|refine Wp.ret ?_|refine Wp.block ?_|refine Wp.label ?_|((first|(first|refine Wp.sreg (fun K hK=>?_)|refine Wp.reg (fun K hK=>?_)|refine Wp.sdrw aA (fun K hK=>?_)|refine Wp.drw aA (fun K hK=>?_))|refine Wp.condG (fun K hT hF=>?_));(refine rO (hb) ?_;try with_reducible exact tt);(first|(refine hK _ ?_;clear hK K)|(refine⟨by kernel_rfl,hK _ ?_⟩;clear hK K)|(refine hT ?_;clear hT hF K)|(refine hF ?_;clear hT hF K)))|refine Wp.seq ?_))
  (refine aK ?_;try with_reducible exact tt)
  exact .inl ⟨0,rfl,rfl⟩
def qF (o:OpenD) (i:Nat) (b:BatD):EntD:=if i+1=o.bats.length then ⟨3,b,true,hZ o,0,aIr,yH⟩ else ⟨3,b,false,0,0,aIr,yH⟩
def mkL (l:List BatD) (mk:Nat→BatD→EntD):List EntD:=l.zipIdx.map fun (b,i)=>mk i b
theorem vJ (l:List BatD) (mk:Nat→BatD→EntD):(mkL l mk).length=l.length:=by simp[mkL]
theorem aI3 (l:List BatD) (mk:Nat→BatD→EntD) (k:Nat) (h:k<l.length):(mkL l mk).take (k+1)=(mkL l mk).take k++[mk k l[k]]:=by
 rw[aF _ k (by rw[vJ];exact h)]
 simp[mkL]
theorem aMr (o:OpenD) (hs:SmallO o) (i:Nat) (b:BatD) (hi:i<o.bats.length) (hb:b.recs.length≤100000):aJ Tryz.prog 175 [int i,.agg b.dv,.ptr o.dv 0] (.agg (qF o i b).dv):=by
 have c1:=(uS (b.recs.map RecD.dv) (by simp;omega)).fun
 have c2:=aEk o hs (by omega)
 have hbl:=hs.bats
 simp only[OpenD.dv] at c2
 (refine aJ.of_bodyW Tryz.func175 rfl rfl Tryz.ntmps175 Tryz.results175 (by simp) ?_)
 cases hq:decide ((i:Int)=(o.bats.length:Int) - 1) with
 | true =>
  have h1:i+1=o.bats.length:=by have:=of_decide_eq_true hq;omega
  have h2:((i:Int) == (o.bats.length:Int) - 1)=true:=by rw[beq_iff_eq];omega
  (refine gO (ai @BatD.dv.eq_1 (ai @OpenD.dv.eq_1 (h2))) ?_;try with_reducible exact tt)
  (refine rO (ai @qF.eq_1 (h1)) ?_;try with_reducible exact tt)
  exact⟨_,rfl,jA.agg (aJv ⟨3,b,true,hZ o,0,aIr,yH⟩ rfl)⟩
 | false =>
  have h1:¬ i+1=o.bats.length:=by have:=of_decide_eq_false hq;omega
  have h2:((i:Int) == (o.bats.length:Int) - 1)=false:=by rw[beq_eq_false_iff_ne];omega
  (refine gO (ai @BatD.dv.eq_1 (ai @OpenD.dv.eq_1 (h2))) ?_;try with_reducible exact tt)
  (refine rO (ai @qF.eq_1 (h1)) ?_;try with_reducible exact tt)
  exact⟨_,rfl,jA.agg (aJv ⟨3,b,false,0,0,aIr,yH⟩ rfl)⟩
abbrev mdS (l:List BatD) (f:Nat) (caps:List D) (mk:Nat→BatD→EntD) (k:Nat):St:=⟨dI [(1,.c (.d (.fn (.func f) caps))),(5,.c (.app 0 18 (((mkL l mk).take k).map EntD.dv))),(11,.c (.d (.lst 5 (l.map BatD.dv)))),(12,vi .i64 l.length),(13,vi .i64 k)],bJ [(0,.row 137 18 k)],1,27,0⟩
theorem aPp (l:List BatD) (f:Nat) (caps:List D) (mk:Nat→BatD→EntD) (hl:l.length≤100000) (hf:∀ i (h:i<l.length),aJ Tryz.prog f (int i :: .agg l[i].dv::caps) (.agg (mk i l[i]).dv)) :
  aJ Tryz.prog 174 [.lst 5 (l.map BatD.dv),.fn (.func f) caps] (.lst 18 ((mkL l mk).map EntD.dv)):=by
 have hb0:192*l.length≤140737488355328:=by omega
 (refine aJ.of_body Tryz.func174 rfl rfl Tryz.ntmps174 Tryz.results174 (by simp) ?_)
 (refine gO (hb0) ?_;try with_reducible exact tt)
 refine Wp.loop (mdS l f caps mk) (fun k=>k≤l.length) (fun k=>l.length - k) 0 (Nat.zero_le _) ?_ ?_
 ·refine aD.keep rfl rfl ?_
  (refine aK ?_;try with_reducible exact tt)
 intro k hk
 (refine aI ?_;try with_reducible exact tt)
 refine Wp.cond (by (refine aK ?_;try with_reducible exact tt);rfl) (fun h=>?_) (fun h=>?_)
 ·have hlt:k<l.length:=by simpa using h
  have hge:l[k]? = some l[k]:=List.getElem?_eq_getElem hlt
  have c1:=hf k hlt
  have htk:=aI3 l mk k hlt
  have htl:((mkL l mk).take k).length=k:=by rw[List.length_take,vJ];omega
  have hb:(k+1)*192≤140737488355328:=by omega
  generalize l[k]=b at *
  generalize mk k b=e at *
  simp only[BatD.dv,EntD.dv] at c1
  (refine gO (ai hge (ai @BatD.dv.eq_1 (ai htl (hb)))) ?_;try with_reducible exact tt)
  refine⟨k+1,by omega,by omega,aD.keep rfl rfl ?_⟩
  (refine rO (ai htk (ai @List.map_append.{0,0} (@EntD.dv.eq_1))) ?_;try with_reducible exact tt)
 ·have hk2:k=l.length:=by simp only[decide_eq_false_iff_not] at h;omega
  have htk:(mkL l mk).take k=mkL l mk:=List.take_of_length_le (by rw[vJ];omega)
  (refine aI ?_;try with_reducible exact tt)
  (refine rO (htk) ?_;try with_reducible exact tt)
def cpL (o:OpenD):List EntD:=mkL o.bats (qF o)
def cpF (o:OpenD):List EntD × Int:=if wG o then (cpL o,0) else ([],2)
theorem aJu (o:OpenD) (hs:SmallO o):aJ Tryz.prog 148 [.agg o.dv] (.tup [.lst 18 ((cpF o).1.map EntD.dv),int (cpF o).2]):=by
 have c1:=aGx o hs
 have c2:=oO aTw 2
 have c3:=oO aTx 2
 have hbl:=hs.bats
 simp only[OpenD.dv] at c1
 (refine aJ.of_bodyW Tryz.func148 rfl rfl Tryz.ntmps148 Tryz.results148 (by simp) ?_)
 cases hok:wG o with
 | false =>
  have e1:cpF o=([],2):=by simp only[cpF,hok];rfl
  rw[e1]
  cases hlb:iI o<;>(
   simp only[aC4,hok,hlb,if_true,if_false,Bool.false_eq_true] at c1
   (refine gO (@OpenD.dv.eq_1) ?_;try with_reducible exact tt)
   (refine rO (@List.map_nil.{0,0}) ?_;try with_reducible exact tt)
   exact⟨_,rfl,jA.tup (.cons (.nil 18) (.cons (.refl _) .nil))⟩)
 | true =>
  have e1:cpF o=(cpL o,0):=by simp only[cpF,hok];rfl
  rw[e1]
  simp only[aC4,hok,if_true] at c1
  have c4:=aPp o.bats 175 [.ptr o.dv 0] (qF o) hbl (fun i h=>aMr o hs i o.bats[i] h (hs.recs _ (List.getElem_mem h)))
  simp only[OpenD.dv] at c4
  (refine gO (@OpenD.dv.eq_1) ?_;try with_reducible exact tt)
  (refine Wp.weak (aD.freeze (id:=0) (by (refine aK ?_;try with_reducible exact tt);rfl) (by (refine aK ?_;try with_reducible exact tt);rfl)) ?_)
  (refine gO (@OpenD.dv.eq_1) ?_;try with_reducible exact tt)
  (refine rO (@cpL.eq_1) ?_;try with_reducible exact tt)
  exact⟨_,rfl,fun K v h=>h⟩
theorem aP7 (o:OpenD):∀ e ∈ cpL o,e.prod.seen=[]:=by
 intro e he
 simp only[cpL,mkL,List.mem_map] at he
 obtain⟨⟨b,i⟩,_,rfl⟩:=he
 simp only[qF]
 split<;>rfl
end Go.Proofs.YtkmfmphpndhkjaaGreatDoor
