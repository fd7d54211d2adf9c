/- The abstract machine (RgP, RgQ, RgR, RgS). -/
import Derived.Test.YtpklhnpchhaccaaGreatDoorRgN
import Derived.Test.YtpklhnpchhaccaaGreatDoorPlM
namespace Go.Proofs.YtpklhnpchhaccaaGreatDoor
open Go Go.RowKit
set_option maxHeartbeats 8000000
set_option maxRecDepth 100000
set_option linter.unusedVariables false
set_option linter.unusedSimpArgs false
abbrev qB (q:ProdD):List (Nat × HE):=[(0,.cells (q.dv.map .d))]
theorem aLy (o:OpenD) (q:ProdD):FunG Tryz.prog 174 [.agg (o.dv.map CV.d),.c (.own 0 0)] [0] (bK (qB q)) (.c (.d (gD (decide (q.pid≤o.pid))))) [0] (bK (qB q)):=by
 (refine FunG.of_bodyH rfl rfl Tryz.func174 rfl rfl Tryz.ntmps174 Tryz.results174 (Nat.le_of_ble_eq_true rfl) rfl ?_)
 (refine gO (ai @aC (ai @OpenD.dv.eq_1 (ai @ProdD.dv.eq_1 (ai @List.map_cons.{0,0} (@List.map_nil.{0,0}))))) ?_)
 refine aX.ret ?_
 (refine rO (ai @aC (ai @aS.eq_1 (ai @aS.eq_2 (ai @ProdD.dv.eq_1 (ai @List.map_cons.{0,0} (@List.map_nil.{0,0})))))) ?_;try with_reducible exact tt)
theorem aN0 (l:List OpenD) (q:ProdD) (hl:l.length≤100000):FunG Tryz.prog 175 [.c (.d (.lst 3 (l.map OpenD.dv))),.c (.clo (.func 174) [.own 0 0])] [0] (bK (qB q)) (.c (.d (int (aQ l q.pid:Nat)))) [0] (bK (qB q)):=by
 have hile:=sF l q.pid
 (refine FunG.of_bodyH rfl rfl Tryz.func175 rfl rfl Tryz.ntmps175 Tryz.results175 (Nat.le_of_ble_eq_true rfl) rfl ?_)
 (refine gO (@aC) ?_)
 refine Wp.loop (fun k:Nat=>⟨iC [(0,.c (.d (.lst 3 (l.map OpenD.dv)))),(1,.c (.clo (.func 174) [.own 0 0])),(7,.c (.d (.lst 3 (l.map OpenD.dv)))),(8,vi .i64 l.length),(9,vi .i64 k)],bK (qB q),1000,21,⟨[0],[],false,none⟩⟩) (fun k=>k≤aQ l q.pid) (fun k=>l.length - k) 0 (Nat.zero_le _) ?_ ?_
 ·refine aD.keep rfl rfl ?_
  (refine rO (@aC) ?_;try with_reducible exact tt)
 intro k hk
 by_cases hkl:k<l.length
 rotate_left
 ·have hke:aQ l q.pid=k:=by omega
  have d1:decide ((k:Int)<(l.length:Int))=false:=decide_eq_false (by omega)
  have hkk:(l.length:Int)=(k:Int):=by omega
  rw[hke]
  have dkk:decide ((k:Int)<(k:Int))=false:=by simp
  (refine gO (ai @aC (ai d1 (ai hkk (dkk)))) ?_)
  refine aX.ret ?_
  (refine rO (ai @aC (ai @aS.eq_1 (@aS.eq_2))) ?_;try with_reducible exact tt)
 have d1:decide ((k:Int)<(l.length:Int))=true:=decide_eq_true (by omega)
 have hge:l[k]? = some l[k]:=List.getElem?_eq_getElem hkl
 have hwk:IntKind.i64.wrap ((k:Int)+1)=((k+1:Nat):Int):=by rw[aT (by omega)];rfl
 have c1:=aLy l[k] q
 have hlt:k<aQ l q.pid→decide (q.pid≤l[k].pid)=false:=fun h=>by
  obtain⟨_,h2⟩:=aCn h
  exact decide_eq_false (by omega)
 have hgt:¬ k<aQ l q.pid→decide (q.pid≤l[k].pid)=true:=fun h=>by
  have hke:aQ l q.pid=k:=by omega
  have hg:=aCm (l:=l) (pid:=q.pid) (by rw[hke];exact hkl)
  simp only[hke] at hg
  exact decide_eq_true hg
 generalize l[k]=o at *
 obtain⟨B,hB⟩:∃ B,B=decide (q.pid≤o.pid):=⟨_,rfl⟩
 rw[← hB] at c1 hlt hgt
 simp only[OpenD.dv,List.map_cons,List.map_nil] at c1
 (refine gO (ai @aC (ai d1 (ai hge (@OpenD.dv.eq_1)))) ?_)
 (first|refine Wp.sregG ?_|refine Wp.regG ?_|(refine Wp.seq ?_;first|refine Wp.sregG ?_|refine Wp.regG ?_))
 (refine aG.at 2 (fun K hK=>?_);(refine rO (@aC) ?_);refine hK _ ?_;clear hK K)
 (refine aG.call (c1) [] 1001 rfl rfl ?_ ?_;(focus ((refine yL (ai @eP (ai @aC (ai @ProdD.dv.eq_1 (ai @List.map_cons.{0,0} (@List.map_nil.{0,0}))))) ?_;try with_reducible exact tt);done)))
 (refine aG.done (fun K hK=>?_);(refine yL (ai @aC (ai @cU.eq_1 (ai @cU.eq_2 (ai @eP (ai @ProdD.dv.eq_1 (ai @List.map_cons.{0,0} (@List.map_nil.{0,0}))))))) ?_);refine hK _ ?_;clear hK K)
 refine Wp.cond (by (refine aY ?_);rfl) (fun h=>?_) (fun h=>?_)
 ·have hke:aQ l q.pid=k:=by
   rcases Nat.lt_or_ge k (aQ l q.pid) with h2|h2
   ·rw[hlt h2] at h;cases h
   ·omega
  rw[hke]
  (refine gO (@aC) ?_)
  refine aX.ret ?_
  (refine rO (ai @aC (ai @aS.eq_1 (ai @aS.eq_2 (ai @ProdD.dv.eq_1 (ai @List.map_cons.{0,0} (@List.map_nil.{0,0})))))) ?_;try with_reducible exact tt)
 ·have hki:k<aQ l q.pid:=by
   rcases Nat.lt_or_ge k (aQ l q.pid) with h2|h2
   ·exact h2
   ·rw[hgt (by omega)] at h;cases h
  (refine gO (@aC) ?_)
  refine⟨k+1,hki,by omega,aD.keep rfl rfl ?_⟩
  (refine rO (ai @aC (ai hwk (ai @ProdD.dv.eq_1 (ai @List.map_cons.{0,0} (@List.map_nil.{0,0}))))) ?_;try with_reducible exact tt)
def aKe (l:List OpenD) (pid:Int):Bool:=match dR pid l with
 | some o=>decide (0<o.bats.length)
 | none=>false
def tS (l:List OpenD) (q:ProdD) (n:Int) (s:SeenD):Bool:=!aKe l q.pid || decide (s.seq<n)
def uB (l:List OpenD) (q:ProdD):Int:=match dR q.pid l with
 | some o=>(match o.bats with
  | b::_=>b.seq
  | []=>q.next)
 | none=>q.next
theorem aS4 (l:List OpenD) (q:ProdD):dF l q=⟨q.pid,q.epoch,uB l q,q.seen.filter (tS l q (uB l q))⟩:=by
 have hf:q.seen.filter (fun _=>true)=q.seen:=List.filter_eq_self.2 (fun _ _=>rfl)
 unfold dF uB tS aKe
 cases hg:dR q.pid l with
 | none=>simp only[Bool.not_false,Bool.true_or,hf]
 | some o =>
  cases hb:o.bats with
  | nil=>simp only[hb,List.length_nil,Nat.lt_irrefl,decide_false,Bool.not_false,Bool.true_or,hf]
  | cons b r=>simp[hb]
theorem aJc {α:Type} (pr:α→Bool) (l:List α) (k:Nat) (h:k<l.length):(l.take (k+1)).filter pr=(l.take k).filter pr++(if pr l[k] then [l[k]] else []):=by
 rw[List.take_succ_eq_append_getElem h,List.filter_append]
 cases hp:pr l[k]<;>simp[hp]
theorem aWz (l:List OpenD) (pid:Int):aKe l pid=match l[aQ l pid]? with
  | some o=>(o.pid == pid && decide (0<(o.bats.length:Int)))
  | none=>false:=by
 unfold aKe
 rw[aH4]
 unfold bX
 cases h:l[aQ l pid]? with
 | none=>rfl
 | some o =>
  cases h2:(o.pid == pid)<;>simp[h2]
theorem aLz (l:List OpenD) (q:ProdD):(aKe l q.pid=false∧uB l q=q.next)∨(aKe l q.pid=true∧∃ o b r,l[aQ l q.pid]? = some o∧o.bats=b::r∧uB l q=b.seq):=by
 unfold aKe uB
 rcases @nD l q.pid with ⟨_,o,h1,h2⟩|⟨_,h2⟩
 ·rw[h2]
  cases hb:o.bats with
  | nil=>left;simp[hb]
  | cons b r=>right;exact⟨by simp[hb],o,b,r,h1,hb,by simp[hb]⟩
 ·rw[h2];left;exact⟨rfl,rfl⟩
theorem aPp (q:ProdD) (l:List OpenD) (hl:l.length≤100000) (hq:q.seen.length≤100000):bF Tryz.prog 122 [.agg q.dv,.lst 3 (l.map OpenD.dv)] (.agg (dF l q).dv):=by
 have c1:=aN0 l q hl
 rw[aS4]
 obtain⟨B,hB⟩:∃ B,B=aKe l q.pid:=⟨_,rfl⟩
 obtain⟨n,hn⟩:∃ n,n=uB l q:=⟨_,rfl⟩
 have hcase:=aLz l q
 have hkeep:∀ s,tS l q n s=(!B || decide (s.seq<n)):=fun s=>by unfold tS;rw[hB]
 rw[← hB,← hn] at hcase
 rw[← hn]
 (refine bF.of_bodyW Tryz.func122 rfl rfl Tryz.ntmps122 Tryz.results122 (by simp) ?_)
 (repeat (first|apply Wp.skip|apply Wp.exit|apply Wp.ret|apply Wp.block|apply Wp.label|((first|refine Wp.sreg (fun K hK=>?_)|refine Wp.reg (fun K hK=>?_)|refine Wp.sdrw aI (fun K hK=>?_)|refine Wp.drw aI (fun K hK=>?_)|refine Wp.condG (fun K hK hF=>?_));(repeat (revert hK;intro hK;simp (maxSteps:=2000000) (disch:=omega) only[gE,TY,bV,eJ,fQ,SV.ofD,dS,eQ,fL,fM,bP,fN,eW,eT,fO,eN,fJ,fI,fK,CV.exact,CV.lstOf,CV.lenOf,CV.one,D.one,Value.oneCell',CV.toD0,fT,eB,fW,fG,rD0,gA,fF,fV,reduceCtorEq,reduceIte,Nat.reduceBEq,Nat.reduceEqDiff,Nat.reduceAdd,Nat.reduceMul,Nat.reduceSub,Nat.reduceLT,Nat.reduceLeDiff,Nat.reduceBNe,Int.reduceLE,Int.reduceLT,Int.reduceBEq,Int.reduceBNe,Int.reduceEq,Int.reduceNeg,Int.reduceAdd,Int.reduceSub,Int.reduceToNat,forall_const,ProdD.dv,aPc];(first|(refine hK _ ?_;clear hK K)|(refine⟨by kernel_rfl,hK _ ?_⟩;clear hK K)|(refine hK ?_;clear hK hF K)|(refine hF ?_;clear hK hF K)|refine eA (by assumption) ?_|refine bca (by assumption) ?_)));fail_if_success (revert hK;intro hK))|apply Wp.seq))
 (first|refine Wp.sregG ?_|refine Wp.regG ?_|(refine Wp.seq ?_;first|refine Wp.sregG ?_|refine Wp.regG ?_))
 (refine aG.at 2 (fun K hK=>?_);(refine rO (@aC) ?_);refine hK _ ?_;clear hK K)
 (refine aG.call (c1) [] 100 rfl rfl ?_ ?_;(focus ((refine yL (ai @eP (ai @aC (ai @Cap.ren.eq_1 (ai @Cap.ren.eq_2 (ai @ProdD.dv.eq_1 (ai @List.map_cons.{0,0} (@List.map_nil.{0,0}))))))) ?_;try with_reducible exact tt);done)))
 (refine aG.done (fun K hK=>?_);(refine yL (ai @aC (ai @cU.eq_1 (ai @cU.eq_2 (ai @eP (ai @ProdD.dv.eq_1 (ai @List.map_cons.{0,0} (@List.map_nil.{0,0}))))))) ?_);refine hK _ ?_;clear hK K)
 (refine cA ?_)
 (first|refine Wp.stoD 7 (vb B) aI ?_ ?_|refine Wp.rtoDS 7 (vb B) aI ?_ ?_|(refine Wp.seq ?_;first|refine Wp.stoD 7 (vb B) aI ?_ ?_|refine Wp.rtoDS 7 (vb B) aI ?_ ?_))
 ·rw[hB,aWz]
  have hle:=sF l q.pid
  rcases Nat.lt_or_ge (aQ l q.pid) l.length with h1|h1
  ·have d1:decide (((aQ l q.pid:Nat):Int)<(l.length:Int))=true:=decide_eq_true (by omega)
   have hge:l[aQ l q.pid]? = some l[aQ l q.pid]:=List.getElem?_eq_getElem h1
   rw[hge]
   generalize l[aQ l q.pid]=o at *
   cases q1:(o.pid == q.pid)<;>cases q2:decide (0<(o.bats.length:Int))<;>(((refine rO (ai d1 (ai hge (ai @OpenD.dv.eq_1 (ai @ProdD.dv.eq_1 (ai q1 (q2)))))) ?_);(repeat (refine eA (by assumption) ?_;(refine rO (ai d1 (ai hge (ai @OpenD.dv.eq_1 (ai @ProdD.dv.eq_1 (ai q1 (q2)))))) ?_))));all_goals (exact (show bI _ _=true by kernel_rfl)))
  ·have d1:decide (((aQ l q.pid:Nat):Int)<(l.length:Int))=false:=decide_eq_false (by omega)
   rw[List.getElem?_eq_none h1]
   ((refine rO (ai d1 (@ProdD.dv.eq_1)) ?_);(repeat (refine eA (by assumption) ?_;(refine rO (ai d1 (@ProdD.dv.eq_1)) ?_))))
   all_goals (exact (show bI _ _=true by kernel_rfl))
 refine Wp.meet ⟨iC [(2,.c (.own 0 0)),(4,.c (.own 1 0)),(7,vb B)],bK [(0,.cells [.d (int q.pid),.d (int q.epoch),.d (int n),.d (.lst 3 (q.seen.map SeenD.dv))]),(1,.cells [.d (int 0),.d (int 0),.d (int 0),.d qL])],2,72,0⟩ ?_ ?_
 ·rcases hcase with ⟨hb,hn2⟩|⟨hb,o,b,r,hg,hbt,hn2⟩
  ·rw[hb,hn2]
   (refine cA ?_)
   refine aD.keep rfl rfl ?_
   (refine rO (ai @ProdD.dv.eq_1 (ai @List.map_cons.{0,0} (@List.map_nil.{0,0}))) ?_;try with_reducible exact tt)
  ·have hle:=sF l q.pid
   have h1:aQ l q.pid<l.length:=by
    rcases Nat.lt_or_ge (aQ l q.pid) l.length with h|h
    ·exact h
    ·rw[List.getElem?_eq_none h] at hg;cases hg
   rw[hb,hn2]
   (refine gO (ai hg (ai @OpenD.dv.eq_1 (ai hbt (ai @BatD.dv.eq_1 (ai @ProdD.dv.eq_1 (ai @List.map_cons.{0,0} (@List.map_nil.{0,0}))))))) ?_)
   refine aD.keep rfl rfl ?_
   (refine rO (ai @ProdD.dv.eq_1 (ai @List.map_cons.{0,0} (@List.map_nil.{0,0}))) ?_;try with_reducible exact tt)
 (refine cA ?_)
 refine Wp.weak (aD.nilApp (t:=8) (τ:=2) 108 3 (by (refine aY ?_;try with_reducible exact tt)) (by (refine aY ?_;try with_reducible exact tt))) ?_
 refine Wp.loop (fun k:Nat=>⟨iC [(2,.c (.own 0 0)),(4,.c (.own 1 0)),(7,vb B),(8,.c (.app 2 3 (((q.seen.take k).filter (tS l q n)).map SeenD.dv))),(49,.c (.d (.lst 3 (q.seen.map SeenD.dv)))),(50,vi .i64 q.seen.length),(51,vi .i64 k)],bK [(0,.cells [.d (int q.pid),.d (int q.epoch),.d (int n),.d (.lst 3 (q.seen.map SeenD.dv))]),(1,.cells [.d (int 0),.d (int 0),.d (int 0),.d qL]),(2,.row 108 3 ((q.seen.take k).filter (tS l q n)).length)],3,72,0⟩) (fun k=>k≤q.seen.length) (fun k=>q.seen.length - k) 0 (Nat.zero_le _) ?_ ?_
 ·refine aD.keep rfl rfl ?_
  (refine rO (ai @List.take_zero.{0} (ai @List.filter_nil.{0} (ai @List.map_cons.{0,0} (ai @List.map_nil.{0,0} (@List.length_nil.{0}))))) ?_;try with_reducible exact tt)
 intro k hk
 by_cases hkl:k<q.seen.length
 ·have d1:decide ((k:Int)<(q.seen.length:Int))=true:=decide_eq_true (by omega)
  have hge:q.seen[k]? = some q.seen[k]:=List.getElem?_eq_getElem hkl
  have hs:=aJc (tS l q n) q.seen k hkl
  rw[hkeep] at hs
  have hle:((q.seen.take k).filter (tS l q n)).length≤100000:=by
   have h3:=List.length_filter_le (tS l q n) (q.seen.take k)
   rw[List.length_take] at h3;omega
  have hwk:IntKind.i64.wrap ((k:Int)+1)=((k+1:Nat):Int):=by rw[aT (by omega)];rfl
  generalize q.seen[k]=s at *
  generalize (q.seen.take k).filter (tS l q n)=L at *
  have hb:(L.length+1)*24≤140737488355328:=by omega
  obtain⟨c,hc⟩:∃ c,c=(!B || decide (s.seq<n)):=⟨_,rfl⟩
  rw[← hc] at hs
  (refine gO (ai d1 (ai hge (@SeenD.dv.eq_1))) ?_)
  (first|refine Wp.sto 63 (vb c) ?_ ?_|refine Wp.rtoS 63 (vb c) ?_ ?_|(refine Wp.seq ?_;first|refine Wp.sto 63 (vb c) ?_ ?_|refine Wp.rtoS 63 (vb c) ?_ ?_))
  ·rw[hc]
   cases B with
   | false =>
    ((refine rO (ai hge (@SeenD.dv.eq_1)) ?_;try with_reducible exact tt);(repeat (refine eA (by assumption) ?_;(refine rO (ai hge (@SeenD.dv.eq_1)) ?_))))
   | true =>
    cases q1:decide (s.seq<n)<;>((refine rO (ai hge (ai @SeenD.dv.eq_1 (q1))) ?_;try with_reducible exact tt);(repeat (refine eA (by assumption) ?_;(refine rO (ai hge (ai @SeenD.dv.eq_1 (q1))) ?_))))
  cases c with
  | true =>
   (refine gO (ai hge (ai @SeenD.dv.eq_1 (ai hb (@List.length_map.{0,0})))) ?_)
   refine⟨k+1,hkl,by omega,aD.keep rfl rfl ?_⟩
   rw[hs]
   (refine rO (ai hwk (ai @SeenD.dv.eq_1 (ai @List.map_append.{0,0} (ai @List.map_cons.{0,0} (ai @List.map_nil.{0,0} (ai @List.length_append.{0} (ai @List.length_cons.{0} (ai @List.length_nil.{0} (ai @Nat.zero_add (@if_true.{1})))))))))) ?_;try with_reducible exact tt)
  | false =>
   rw[if_neg Bool.false_ne_true,List.append_nil] at hs
   (refine cA ?_)
   refine⟨k+1,hkl,by omega,aD.keep rfl rfl ?_⟩
   rw[hs]
   (refine rO (ai hwk (ai @SeenD.dv.eq_1 (ai @List.map_cons.{0,0} (@List.map_nil.{0,0})))) ?_;try with_reducible exact tt)
 ·have hke:k=q.seen.length:=by omega
  subst hke
  rw[List.take_length]
  have d1:decide ((q.seen.length:Int)<(q.seen.length:Int))=false:=by simp
  (refine gO (ai d1 (@ProdD.dv.eq_1)) ?_)
  (refine rO (@ProdD.dv.eq_1) ?_)
  exact⟨_,rfl,fun _ _ h=>h⟩
def aBw (l:List OpenD):Nat→Int
 | 0=>0
 | k+1=>match l[k]? with
  | some o=>o.pid
  | none=>0
theorem aSi {l:List OpenD} (hr:l.Pairwise (fun a b=>a.pid<b.pid)) (hp:∀ o ∈ l,1≤o.pid) (k:Nat) (h:k<l.length):aBw l k<l[k].pid:=by
 cases k with
 | zero=>have:=hp l[0] (List.getElem_mem h);show (0:Int)<_;omega
 | succ k =>
  have h1:l[k]? = some l[k]:=List.getElem?_eq_getElem (by omega)
  simp only[aBw,h1]
  exact List.pairwise_iff_getElem.1 hr k (k+1) (by omega) h (by omega)
theorem aMp {e:EntD} (h:aK e=true):qK e=true:=by
 unfold aK at h
 rw[Bool.and_eq_true] at h
 exact h.2
theorem aPe (p:PartD) (hr:p.rows.length≤1000000) (ho:p.opens.length≤1000) (hp:p.prods.length≤1000000)
  (hrow:∀ r ∈ p.rows,(0≤r.off∧r.off≤1048576)∧lN { r with off:=0 }=true)
  (hrise:p.opens.Pairwise (fun a b=>a.pid<b.pid)) (hpid:∀ o ∈ p.opens,1≤o.pid)
  (hbl:∀ o ∈ p.opens,o.bats.length≤1000) (hbat:∀ o ∈ p.opens,∀ b ∈ o.bats,dK b=true∧b.recs.length≤100000)
  (hm:gH p.prods=true) (hs:∀ q ∈ p.prods,q.seen.length≤100000):bF Tryz.prog 120 [.agg p.dv] (.val .nilIface):=by
 (refine bF.of_body Tryz.func120 rfl rfl Tryz.ntmps120 Tryz.results120 (by simp) ?_)
 (refine gO (@PartD.dv.eq_1) ?_)
 refine Wp.loop (fun k:Nat=>⟨iC [(1,.c (.own 0 0)),(2,.c (.d (.val .nilIface))),(14,.c (.d (.lst 5 (p.rows.map RowD.dv)))),(15,vi .i64 p.rows.length),(16,vi .i64 k)],bK [(0,.cells (p.dv.map .d))],1,92,0⟩) (fun k=>k≤p.rows.length) (fun k=>p.rows.length - k) 0 (Nat.zero_le _) ?_ ?_
 ·refine aD.keep rfl rfl ?_
  (refine rO (ai @PartD.dv.eq_1 (ai @List.map_cons.{0,0} (@List.map_nil.{0,0}))) ?_;try with_reducible exact tt)
 intro k hk
 by_cases hkl:k<p.rows.length
 ·have d1:decide ((k:Int)<(p.rows.length:Int))=true:=decide_eq_true (by omega)
  have hge:p.rows[k]? = some p.rows[k]:=List.getElem?_eq_getElem hkl
  have hwk:IntKind.i64.wrap ((k:Int)+1)=((k+1:Nat):Int):=by rw[aT (by omega)];rfl
  have hx:=hrow p.rows[k] (List.getElem_mem hkl)
  generalize p.rows[k]=r at *
  have c1:=(uE (pI r) (by simp[pI]) (by simp[pI,kA]) (by simp[pI,dA])).args (.cons (qY.agg (lZ (pI r) _ _ (.nil 2) (.nil 3))) .nil)
  rw[aMp (aCf hx.2)] at c1
  simp only[pI,kA,dA] at c1
  have d2:decide (r.off < -1)=false:=decide_eq_false (by omega)
  have d3:decide (1048576<r.off)=false:=decide_eq_false (by omega)
  (refine gO (ai d1 (ai hge (ai @RowD.dv.eq_1 (ai d2 (ai d3 (ai @PartD.dv.eq_1 (ai @List.map_cons.{0,0} (@List.map_nil.{0,0})))))))) ?_)
  refine⟨k+1,hkl,by omega,aD.keep rfl rfl ?_⟩
  (refine rO (ai hwk (ai @PartD.dv.eq_1 (ai @List.map_cons.{0,0} (@List.map_nil.{0,0})))) ?_;try with_reducible exact tt)
 have hke:k=p.rows.length:=by omega
 subst hke
 have d1:decide ((p.rows.length:Int)<(p.rows.length:Int))=false:=by simp
 (refine gO (ai d1 (ai @PartD.dv.eq_1 (ai @List.map_cons.{0,0} (@List.map_nil.{0,0})))) ?_)
 refine Wp.loop (fun k:Nat=>⟨iC [(1,.c (.own 0 0)),(6,vi .i64 (aBw p.opens k)),(40,.c (.d (.lst 3 (p.opens.map OpenD.dv)))),(41,vi .i64 p.opens.length),(42,vi .i64 k)],bK [(0,.cells (p.dv.map .d))],1,92,0⟩) (fun k=>k≤p.opens.length) (fun k=>p.opens.length - k) 0 (Nat.zero_le _) ?_ ?_
 ·refine aD.keep rfl rfl ?_
  simp (maxSteps:=2000000) (disch:=omega) only[gE,TY,bV,eJ,fQ,SV.ofD,dS,eQ,fL,fM,bP,fN,eW,eT,fO,eN,fJ,fI,fK,CV.exact,CV.lstOf,CV.lenOf,CV.one,D.one,Value.oneCell',CV.toD0,fT,eB,fW,fG,rD0,gA,fF,fV,reduceCtorEq,reduceIte,Nat.reduceBEq,Nat.reduceEqDiff,Nat.reduceAdd,Nat.reduceMul,Nat.reduceSub,Nat.reduceLT,Nat.reduceLeDiff,Nat.reduceBNe,Int.reduceLE,Int.reduceLT,Int.reduceBEq,Int.reduceBNe,Int.reduceEq,Int.reduceNeg,Int.reduceAdd,Int.reduceSub,Int.reduceToNat,forall_const,PartD.dv,aBw,List.map_cons,List.map_nil]
 intro k hk
 by_cases hkl:k<p.opens.length
 ·have d2:decide ((k:Int)<(p.opens.length:Int))=true:=decide_eq_true (by omega)
  have hge:p.opens[k]? = some p.opens[k]:=List.getElem?_eq_getElem hkl
  have hwk:IntKind.i64.wrap ((k:Int)+1)=((k+1:Nat):Int):=by rw[aT (by omega)];rfl
  have hlt:=aSi hrise hpid k hkl
  have hln:aBw p.opens (k+1)=p.opens[k].pid:=by simp only[aBw,hge]
  have hol:=hbl _ (List.getElem_mem hkl)
  have hob:=hbat _ (List.getElem_mem hkl)
  generalize p.opens[k]=o at *
  have d3:decide (o.pid≤aBw p.opens k)=false:=decide_eq_false (by omega)
  (refine gO (ai d2 (ai hge (ai @OpenD.dv.eq_1 (ai d3 (ai @PartD.dv.eq_1 (ai @List.map_cons.{0,0} (@List.map_nil.{0,0}))))))) ?_)
  refine Wp.loop (fun j:Nat=>⟨iC [(1,.c (.own 0 0)),(6,vi .i64 o.pid),(40,.c (.d (.lst 3 (p.opens.map OpenD.dv)))),(41,vi .i64 p.opens.length),(42,vi .i64 k),(56,.c (.d (.lst 5 (o.bats.map BatD.dv)))),(57,vi .i64 o.bats.length),(58,vi .i64 j)],bK [(0,.cells (p.dv.map .d))],1,92,0⟩) (fun j=>j≤o.bats.length) (fun j=>o.bats.length - j) 0 (Nat.zero_le _) ?_ ?_
  ·refine aD.keep rfl rfl ?_
   (refine rO (ai @PartD.dv.eq_1 (ai @List.map_cons.{0,0} (@List.map_nil.{0,0}))) ?_;try with_reducible exact tt)
  intro j hj
  by_cases hjl:j<o.bats.length
  ·have d4:decide ((j:Int)<(o.bats.length:Int))=true:=decide_eq_true (by omega)
   have hgj:o.bats[j]? = some o.bats[j]:=List.getElem?_eq_getElem hjl
   have hwj:IntKind.i64.wrap ((j:Int)+1)=((j+1:Nat):Int):=by rw[aT (by omega)];rfl
   have hx:=hob _ (List.getElem_mem hjl)
   generalize o.bats[j]=b at *
   have c2:=qM b hx.2
   rw[hx.1] at c2
   simp only[BatD.dv] at c2
   (refine gO (ai d4 (ai hgj (ai @BatD.dv.eq_1 (ai @PartD.dv.eq_1 (ai @List.map_cons.{0,0} (@List.map_nil.{0,0})))))) ?_)
   refine⟨j+1,hjl,by omega,aD.keep rfl rfl ?_⟩
   (refine rO (ai hwj (ai @PartD.dv.eq_1 (ai @List.map_cons.{0,0} (@List.map_nil.{0,0})))) ?_;try with_reducible exact tt)
  ·have hje:j=o.bats.length:=by omega
   subst hje
   have d4:decide ((o.bats.length:Int)<(o.bats.length:Int))=false:=by simp
   (refine gO (ai d4 (ai @PartD.dv.eq_1 (ai @List.map_cons.{0,0} (@List.map_nil.{0,0})))) ?_)
   refine⟨k+1,hkl,by omega,aD.keep rfl rfl ?_⟩
   (refine rO (ai hwk (ai hln (ai @PartD.dv.eq_1 (ai @List.map_cons.{0,0} (@List.map_nil.{0,0}))))) ?_;try with_reducible exact tt)
 have hke:k=p.opens.length:=by omega
 subst hke
 have d2:decide ((p.opens.length:Int)<(p.opens.length:Int))=false:=by simp
 (refine gO (ai d2 (ai @PartD.dv.eq_1 (ai @List.map_cons.{0,0} (@List.map_nil.{0,0})))) ?_)
 refine Wp.loop (fun k:Nat=>⟨iC [(1,.c (.own 0 0)),(6,vi .i64 (lF p.prods k)),(71,.c (.d (.lst 4 (p.prods.map ProdD.dv)))),(72,vi .i64 p.prods.length),(73,vi .i64 k)],bK [(0,.cells (p.dv.map .d))],1,92,0⟩) (fun k=>k≤p.prods.length) (fun k=>p.prods.length - k) 0 (Nat.zero_le _) ?_ ?_
 ·refine aD.keep rfl rfl ?_
  (refine rO (ai @PartD.dv.eq_1 (ai @lF.eq_1 (ai @lF.eq_2 (ai @List.map_cons.{0,0} (@List.map_nil.{0,0}))))) ?_;try with_reducible exact tt)
 intro k hk
 by_cases hkl:k<p.prods.length
 ·have d3:decide ((k:Int)<(p.prods.length:Int))=true:=decide_eq_true (by omega)
  have hge:p.prods[k]? = some p.prods[k]:=List.getElem?_eq_getElem hkl
  have hwk:IntKind.i64.wrap ((k:Int)+1)=((k+1:Nat):Int):=by rw[aT (by omega)];rfl
  have hall:=(wE p.prods).1 hm k _ hge
  have hln:lF p.prods (k+1)=p.prods[k].pid:=by simp only[lF,hge]
  have hx:=hs _ (List.getElem_mem hkl)
  generalize p.prods[k]=q at *
  rw[Bool.or_eq_false_iff] at hall
  have d4:=hall.1
  have hkn:bB q=true:=by simpa using hall.2
  have c3:=yA q hx
  rw[hkn] at c3
  simp only[ProdD.dv] at c3
  (refine gO (ai d3 (ai hge (ai @ProdD.dv.eq_1 (ai d4 (ai @PartD.dv.eq_1 (ai @List.map_cons.{0,0} (@List.map_nil.{0,0}))))))) ?_)
  refine⟨k+1,hkl,by omega,aD.keep rfl rfl ?_⟩
  (refine rO (ai hwk (ai hln (ai @PartD.dv.eq_1 (ai @List.map_cons.{0,0} (@List.map_nil.{0,0}))))) ?_;try with_reducible exact tt)
 have hke:k=p.prods.length:=by omega
 subst hke
 have d3:decide ((p.prods.length:Int)<(p.prods.length:Int))=false:=by simp
 (refine gO (ai d3 (ai @PartD.dv.eq_1 (ai @List.map_cons.{0,0} (@List.map_nil.{0,0})))) ?_)
 (refine aY ?_;try with_reducible exact tt)
theorem AllLe2.app:∀ {a b c d:List (List D)},AllLe2 a b→AllLe2 c d→AllLe2 (a++c) (b++d)
 | _,_,_,_,.nil,h=>h
 | _,_,_,_,.cons h t,h2=>.cons h (AllLe2.app t h2)
def aKq (r:RowD):List D:=[i8 5,int 0,int 0,int 0,gD false,qL,gD false,int 0,int 0,int 0,int r.pid,int r.seq,str r.key,str r.value,int 0,int 0,int 0,qL]
def zW (q:ProdD):List D:=[i8 6,int 0,int 0,int 0,gD false,qL,gD false,int 0,int 0,int 0,int 0,int 0,str [],str [],int q.pid,int q.epoch,int q.next,.lst 3 (q.seen.map SeenD.dv)]
def aDt (b:BatD):List D:=[i8 0,int b.pid,int b.epoch,int b.seq,gD b.txn,.lst 2 (b.recs.map RecD.dv),gD false,int 0,int 0,int 0,int 0,int 0,str [],str [],int 0,int 0,int 0,qL]
def mW (l:List OpenD):List (List D):=l.flatMap fun o=>o.bats.map aDt
def aZm (p:PartD):List (List D):=p.rows.map aKq++p.prods.map (fun q=>zW (dF p.opens q))++mW p.opens
theorem aX5 (r:RowD):AllLe (aKq r) (pI r).dv:=lZ (pI r) _ _ (.nil 2) (.nil 3)
theorem aTj (q:ProdD):AllLe (zW q) (nZ q).dv:=lZ (nZ q) _ _ (.nil 2) (.refl _)
theorem aVd (b:BatD):AllLe (aDt b) (dZ b).dv:=lZ (dZ b) _ _ (.refl _) (.nil 3)
theorem aJh:∀ l:List OpenD,AllLe2 (mW l) ((l.flatMap fun o=>o.bats.map dZ).map EntD.dv)
 | []=>.nil
 | o::l=>by
  unfold mW
  rw[List.flatMap_cons,List.flatMap_cons,List.map_append,List.map_map]
  exact (AllLe2.map (fun b=>aVd b) o.bats).app (aJh l)
theorem aW6 (p:PartD):AllLe2 (aZm p) ((tN p).map EntD.dv):=by
 unfold aZm tN
 rw[List.map_append,List.map_append,List.map_map,List.map_map]
 exact ((AllLe2.map (fun r=>aX5 r) p.rows).app (AllLe2.map (fun q=>aTj (dF p.opens q)) p.prods)).app (aJh p.opens)
theorem aM6 (l:List OpenD) (k:Nat) (h:k<l.length):mW (l.take (k+1))=mW (l.take k)++l[k].bats.map aDt:=by
 unfold mW
 rw[List.take_succ_eq_append_getElem h,List.flatMap_append]
 simp
theorem aEy:∀ l:List OpenD,(∀ o ∈ l,o.bats.length≤1000)→(mW l).length≤1000*l.length
 | [],_=>by simp[mW]
 | o::l,h=>by
  have h1:=h o (List.mem_cons_self ..)
  have h2:=aEy l (fun x hx=>h x (List.mem_cons_of_mem _ hx))
  unfold mW at h2 ⊢
  rw[List.flatMap_cons,List.length_append,List.length_map,List.length_cons];omega
theorem aC6 {α β:Type} (f:α→β) (l:List α) (k:Nat) (h:k<l.length):(l.take (k+1)).map f=(l.take k).map f++[f l[k]]:=by
 rw[List.take_succ_eq_append_getElem h,List.map_append];rfl
theorem aW7 (p:PartD) (hr:p.rows.length≤1000000) (ho:p.opens.length≤1000) (hp:p.prods.length≤1000000)
  (hrow:∀ r ∈ p.rows,(0≤r.off∧r.off≤1048576)∧lN { r with off:=0 }=true)
  (hrise:p.opens.Pairwise (fun a b=>a.pid<b.pid)) (hpid:∀ o ∈ p.opens,1≤o.pid)
  (hbl:∀ o ∈ p.opens,o.bats.length≤1000) (hbat:∀ o ∈ p.opens,∀ b ∈ o.bats,dK b=true∧b.recs.length≤100000)
  (hm:gH p.prods=true) (hs:∀ q ∈ p.prods,q.seen.length≤100000):bF Tryz.prog 66 [.agg p.dv] (.tup [.lst 18 ((tN p).map EntD.dv),int 0]):=by
 have c1:=aPe p hr ho hp hrow hrise hpid hbl hbat hm hs
 simp only[PartD.dv] at c1
 obtain⟨L0,hL0⟩:∃ L0,L0=p.rows.map aKq:=⟨_,rfl⟩
 obtain⟨L1,hL1⟩:∃ L1,L1=L0++p.prods.map (fun q=>zW (dF p.opens q)):=⟨_,rfl⟩
 have l0:L0.length=p.rows.length:=by rw[hL0,List.length_map]
 have l1:L1.length=p.rows.length+p.prods.length:=by rw[hL1,List.length_append,l0,List.length_map]
 (refine bF.of_bodyW Tryz.func66 rfl rfl Tryz.ntmps66 Tryz.results66 (by simp) ?_)
 (refine gO (@PartD.dv.eq_1) ?_)
 refine Wp.weak (aD.nilApp (t:=5) (τ:=1) 71 18 (by (refine aY ?_;try with_reducible exact tt)) (by (refine aY ?_;try with_reducible exact tt))) ?_
 refine Wp.loop (fun k:Nat=>⟨iC [(1,.c (.own 0 0)),(5,.c (.app 1 18 ((p.rows.take k).map aKq))),(21,.c (.d (.lst 5 (p.rows.map RowD.dv)))),(22,vi .i64 p.rows.length),(23,vi .i64 k)],bK [(0,.cells (p.dv.map .d)),(1,.row 71 18 k)],2,73,0⟩) (fun k=>k≤p.rows.length) (fun k=>p.rows.length - k) 0 (Nat.zero_le _) ?_ ?_
 ·refine aD.keep rfl rfl ?_
  (refine rO (ai @PartD.dv.eq_1 (ai @List.take_zero.{0} (ai @List.map_cons.{0,0} (ai @List.map_nil.{0,0} (@List.length_nil.{0}))))) ?_;try with_reducible exact tt)
 intro k hk
 by_cases hkl:k<p.rows.length
 ·have d1:decide ((k:Int)<(p.rows.length:Int))=true:=decide_eq_true (by omega)
  have hge:p.rows[k]? = some p.rows[k]:=List.getElem?_eq_getElem hkl
  have hwk:IntKind.i64.wrap ((k:Int)+1)=((k+1:Nat):Int):=by rw[aT (by omega)];rfl
  have hsn:=aC6 aKq p.rows k hkl
  have hll:((p.rows.take k).map aKq).length=k:=by rw[List.length_map,List.length_take];omega
  have hsz:(k+1)*192≤140737488355328:=by omega
  generalize p.rows[k]=r at *
  generalize (p.rows.take k).map aKq=L at *
  (refine gO (ai d1 (ai hge (ai @RowD.dv.eq_1 (ai @PartD.dv.eq_1 (ai @List.map_cons.{0,0} (ai @List.map_nil.{0,0} (ai hll (hsz)))))))) ?_)
  refine⟨k+1,hkl,by omega,aD.keep rfl rfl ?_⟩
  rw[hsn]
  simp (maxSteps:=2000000) (disch:=omega) only[gE,TY,bV,eJ,fQ,SV.ofD,dS,eQ,fL,fM,bP,fN,eW,eT,fO,eN,fJ,fI,fK,CV.exact,CV.lstOf,CV.lenOf,CV.one,D.one,Value.oneCell',CV.toD0,fT,eB,fW,fG,rD0,gA,fF,fV,reduceCtorEq,reduceIte,Nat.reduceBEq,Nat.reduceEqDiff,Nat.reduceAdd,Nat.reduceMul,Nat.reduceSub,Nat.reduceLT,Nat.reduceLeDiff,Nat.reduceBNe,Int.reduceLE,Int.reduceLT,Int.reduceBEq,Int.reduceBNe,Int.reduceEq,Int.reduceNeg,Int.reduceAdd,Int.reduceSub,Int.reduceToNat,forall_const,hwk,aKq,PartD.dv,hll,List.map_cons,List.map_nil]
 have hke:k=p.rows.length:=by omega
 subst hke
 rw[List.take_length,← hL0]
 have d1:decide ((p.rows.length:Int)<(p.rows.length:Int))=false:=by simp
 (refine gO (ai d1 (ai @PartD.dv.eq_1 (ai @List.map_cons.{0,0} (@List.map_nil.{0,0})))) ?_)
 refine Wp.loop (fun k:Nat=>⟨iC [(1,.c (.own 0 0)),(5,.c (.app 1 18 (L0++(p.prods.take k).map (fun q=>zW (dF p.opens q))))),(35,.c (.d (.lst 4 (p.prods.map ProdD.dv)))),(36,vi .i64 p.prods.length),(37,vi .i64 k)],bK [(0,.cells (p.dv.map .d)),(1,.row 71 18 (p.rows.length+k))],2,73,0⟩) (fun k=>k≤p.prods.length) (fun k=>p.prods.length - k) 0 (Nat.zero_le _) ?_ ?_
 ·refine aD.keep rfl rfl ?_
  (refine rO (ai @PartD.dv.eq_1 (ai @List.take_zero.{0} (ai @List.append_nil.{0} (ai @List.map_cons.{0,0} (ai @List.map_nil.{0,0} (@Nat.add_zero)))))) ?_;try with_reducible exact tt)
 intro k hk
 by_cases hkl:k<p.prods.length
 ·have d2:decide ((k:Int)<(p.prods.length:Int))=true:=decide_eq_true (by omega)
  have hge:p.prods[k]? = some p.prods[k]:=List.getElem?_eq_getElem hkl
  have hwk:IntKind.i64.wrap ((k:Int)+1)=((k+1:Nat):Int):=by rw[aT (by omega)];rfl
  have hsn:=aC6 (fun q=>zW (dF p.opens q)) p.prods k hkl
  have hll:(L0++(p.prods.take k).map (fun q=>zW (dF p.opens q))).length=p.rows.length+k:=by rw[List.length_append,l0,List.length_map,List.length_take];omega
  have hsz:(p.rows.length+k+1)*192≤140737488355328:=by omega
  have hx:=hs _ (List.getElem_mem hkl)
  generalize p.prods[k]=q at *
  have c2:=aPp q p.opens (by omega) hx
  generalize (p.prods.take k).map (fun q=>zW (dF p.opens q))=L at *
  generalize dF p.opens q=z at *
  simp only[ProdD.dv] at c2
  (refine gO (ai d2 (ai hge (ai @ProdD.dv.eq_1 (ai @PartD.dv.eq_1 (ai @List.map_cons.{0,0} (ai @List.map_nil.{0,0} (ai hll (hsz)))))))) ?_)
  refine⟨k+1,hkl,by omega,aD.keep rfl rfl ?_⟩
  rw[hsn,← List.append_assoc]
  simp (maxSteps:=2000000) (disch:=omega) only[gE,TY,bV,eJ,fQ,SV.ofD,dS,eQ,fL,fM,bP,fN,eW,eT,fO,eN,fJ,fI,fK,CV.exact,CV.lstOf,CV.lenOf,CV.one,D.one,Value.oneCell',CV.toD0,fT,eB,fW,fG,rD0,gA,fF,fV,reduceCtorEq,reduceIte,Nat.reduceBEq,Nat.reduceEqDiff,Nat.reduceAdd,Nat.reduceMul,Nat.reduceSub,Nat.reduceLT,Nat.reduceLeDiff,Nat.reduceBNe,Int.reduceLE,Int.reduceLT,Int.reduceBEq,Int.reduceBNe,Int.reduceEq,Int.reduceNeg,Int.reduceAdd,Int.reduceSub,Int.reduceToNat,forall_const,hwk,zW,PartD.dv,hll,List.map_cons,List.map_nil,Nat.add_assoc]
 have hke:k=p.prods.length:=by omega
 subst hke
 rw[List.take_length,← hL1]
 have d2:decide ((p.prods.length:Int)<(p.prods.length:Int))=false:=by simp
 (refine gO (ai d2 (ai @PartD.dv.eq_1 (ai @List.map_cons.{0,0} (@List.map_nil.{0,0})))) ?_)
 refine Wp.loop (fun k:Nat=>⟨iC [(1,.c (.own 0 0)),(5,.c (.app 1 18 (L1++mW (p.opens.take k)))),(51,.c (.d (.lst 3 (p.opens.map OpenD.dv)))),(52,vi .i64 p.opens.length),(53,vi .i64 k)],bK [(0,.cells (p.dv.map .d)),(1,.row 71 18 (L1.length+(mW (p.opens.take k)).length))],2,73,0⟩) (fun k=>k≤p.opens.length) (fun k=>p.opens.length - k) 0 (Nat.zero_le _) ?_ ?_
 ·refine aD.keep rfl rfl ?_
  simp (maxSteps:=2000000) (disch:=omega) only[gE,TY,bV,eJ,fQ,SV.ofD,dS,eQ,fL,fM,bP,fN,eW,eT,fO,eN,fJ,fI,fK,CV.exact,CV.lstOf,CV.lenOf,CV.one,D.one,Value.oneCell',CV.toD0,fT,eB,fW,fG,rD0,gA,fF,fV,reduceCtorEq,reduceIte,Nat.reduceBEq,Nat.reduceEqDiff,Nat.reduceAdd,Nat.reduceMul,Nat.reduceSub,Nat.reduceLT,Nat.reduceLeDiff,Nat.reduceBNe,Int.reduceLE,Int.reduceLT,Int.reduceBEq,Int.reduceBNe,Int.reduceEq,Int.reduceNeg,Int.reduceAdd,Int.reduceSub,Int.reduceToNat,forall_const,PartD.dv,List.take_zero,mW,List.flatMap_nil,List.append_nil,List.map_cons,List.map_nil,List.length_nil,Nat.add_zero,l1]
 intro k hk
 by_cases hkl:k<p.opens.length
 ·have d3:decide ((k:Int)<(p.opens.length:Int))=true:=decide_eq_true (by omega)
  have hge:p.opens[k]? = some p.opens[k]:=List.getElem?_eq_getElem hkl
  have hwk:IntKind.i64.wrap ((k:Int)+1)=((k+1:Nat):Int):=by rw[aT (by omega)];rfl
  have hsn:=aM6 p.opens k hkl
  have hfl:=aEy (p.opens.take k) (fun o ho=>hbl o (List.mem_of_mem_take ho))
  rw[List.length_take] at hfl
  have hfl2:(mW (p.opens.take k)).length≤1000000:=by omega
  have hol:=hbl _ (List.getElem_mem hkl)
  have hob:=hbat _ (List.getElem_mem hkl)
  generalize p.opens[k]=o at *
  generalize mW (p.opens.take k)=F at *
  (refine gO (ai d3 (ai hge (ai @OpenD.dv.eq_1 (ai @PartD.dv.eq_1 (ai @List.map_cons.{0,0} (@List.map_nil.{0,0})))))) ?_)
  refine Wp.loop (fun j:Nat=>⟨iC [(1,.c (.own 0 0)),(5,.c (.app 1 18 (L1++(F++(o.bats.take j).map aDt)))),(51,.c (.d (.lst 3 (p.opens.map OpenD.dv)))),(52,vi .i64 p.opens.length),(53,vi .i64 k),(58,.c (.d (.lst 5 (o.bats.map BatD.dv)))),(59,vi .i64 o.bats.length),(60,vi .i64 j)],bK [(0,.cells (p.dv.map .d)),(1,.row 71 18 (L1.length+F.length+j))],2,73,0⟩) (fun j=>j≤o.bats.length) (fun j=>o.bats.length - j) 0 (Nat.zero_le _) ?_ ?_
  ·refine aD.keep rfl rfl ?_
   (refine rO (ai @PartD.dv.eq_1 (ai @List.take_zero.{0} (ai @List.append_nil.{0} (ai @List.map_cons.{0,0} (ai @List.map_nil.{0,0} (@Nat.add_zero)))))) ?_;try with_reducible exact tt)
  intro j hj
  by_cases hjl:j<o.bats.length
  ·have d4:decide ((j:Int)<(o.bats.length:Int))=true:=decide_eq_true (by omega)
   have hgj:o.bats[j]? = some o.bats[j]:=List.getElem?_eq_getElem hjl
   have hwj:IntKind.i64.wrap ((j:Int)+1)=((j+1:Nat):Int):=by rw[aT (by omega)];rfl
   have hsj:=aC6 aDt o.bats j hjl
   have hll:(L1++(F++(o.bats.take j).map aDt)).length=L1.length+F.length+j:=by rw[List.length_append,List.length_append,List.length_map,List.length_take];omega
   have hsz:(L1.length+F.length+j+1)*192≤140737488355328:=by omega
   have hx:=hob _ (List.getElem_mem hjl)
   generalize o.bats[j]=b at *
   generalize (o.bats.take j).map aDt=L at *
   have c3:=aHi b hx.2
   simp only[BatD.dv] at c3
   (refine gO (ai d4 (ai hgj (ai @BatD.dv.eq_1 (ai @PartD.dv.eq_1 (ai @List.map_cons.{0,0} (ai @List.map_nil.{0,0} (ai hll (hsz)))))))) ?_)
   refine⟨j+1,hjl,by omega,aD.keep rfl rfl ?_⟩
   rw[hsj,show L1++(F++(L++[aDt b]))=L1++(F++L)++[aDt b] by simp only[List.append_assoc]]
   simp (maxSteps:=2000000) (disch:=omega) only[gE,TY,bV,eJ,fQ,SV.ofD,dS,eQ,fL,fM,bP,fN,eW,eT,fO,eN,fJ,fI,fK,CV.exact,CV.lstOf,CV.lenOf,CV.one,D.one,Value.oneCell',CV.toD0,fT,eB,fW,fG,rD0,gA,fF,fV,reduceCtorEq,reduceIte,Nat.reduceBEq,Nat.reduceEqDiff,Nat.reduceAdd,Nat.reduceMul,Nat.reduceSub,Nat.reduceLT,Nat.reduceLeDiff,Nat.reduceBNe,Int.reduceLE,Int.reduceLT,Int.reduceBEq,Int.reduceBNe,Int.reduceEq,Int.reduceNeg,Int.reduceAdd,Int.reduceSub,Int.reduceToNat,forall_const,hwj,aDt,PartD.dv,hll,List.map_cons,List.map_nil,Nat.add_assoc]
  ·have hje:j=o.bats.length:=by omega
   subst hje
   rw[List.take_length,← hsn]
   have d4:decide ((o.bats.length:Int)<(o.bats.length:Int))=false:=by simp
   have hlen:(mW (p.opens.take (k+1))).length=F.length+o.bats.length:=by rw[hsn,List.length_append,List.length_map]
   (refine gO (ai d4 (ai @PartD.dv.eq_1 (ai @List.map_cons.{0,0} (@List.map_nil.{0,0})))) ?_)
   refine⟨k+1,hkl,by omega,aD.keep rfl rfl ?_⟩
   (refine rO (ai hwk (ai hlen (ai @Nat.add_assoc (ai @PartD.dv.eq_1 (ai @List.map_cons.{0,0} (@List.map_nil.{0,0})))))) ?_;try with_reducible exact tt)
 have hke:k=p.opens.length:=by omega
 subst hke
 rw[List.take_length]
 have d3:decide ((p.opens.length:Int)<(p.opens.length:Int))=false:=by simp
 (refine gO (ai d3 (ai @PartD.dv.eq_1 (ai @List.map_cons.{0,0} (@List.map_nil.{0,0})))) ?_)
 (refine aY ?_)
 refine⟨_,rfl,qY.tup (.cons (qY.lst ?_) (.cons (.refl _) .nil))⟩
 rw[hL1,hL0]
 exact aW6 p
theorem aM0 (l:List OpenD) (q:ProdD):(dF l q).seen.length≤q.seen.length:=by
 unfold dF
 split
 ·split
  ·exact List.length_filter_le ..
  ·exact Nat.le_refl _
 ·exact Nat.le_refl _
theorem aEx:∀ l:List OpenD,(∀ o ∈ l,o.bats.length≤8)→(l.flatMap fun o=>o.bats.map dZ).length≤8*l.length
 | [],_=>by simp
 | o::l,h=>by
  have h1:=h o (List.mem_cons_self ..)
  have h2:=aEx l (fun x hx=>h x (List.mem_cons_of_mem _ hx))
  rw[List.flatMap_cons,List.length_append,List.length_map,List.length_cons];omega
theorem aMa {k:Nat} {p:PartD} (hM:FOkM k p):(∀ e ∈ tN p,SmallEn e)∧(tN p).length≤41*k+64:=by
 constructor
 ·intro e he
  unfold tN at he
  rcases List.mem_append.1 he with he|he
  ·rcases List.mem_append.1 he with he|he
   ·obtain⟨r,_,rfl⟩:=List.mem_map.1 he
    exact⟨by simp[pI],by simp[pI,kA],by simp[pI,dA]⟩
   ·obtain⟨q,hq,rfl⟩:=List.mem_map.1 he
    have h1:=aM0 p.opens q
    have h2:=hM.seen q hq
    exact⟨by simp[nZ],by simp[nZ,kA],by show (dF p.opens q).seen.length≤_;omega⟩
  ·obtain⟨o,ho,he⟩:=List.mem_flatMap.1 he
   obtain⟨b,hb,rfl⟩:=List.mem_map.1 he
   have h1:=hM.recs o ho b hb
   exact⟨by simp[dZ],by show b.recs.length≤_;omega,by simp[dZ,dA]⟩
 ·have h1:=hM.rows
  have h2:=hM.prods
  have h3:=aEx p.opens hM.bats
  have h4:=hM.ok.len8
  unfold tN
  rw[List.length_append,List.length_append,List.length_map,List.length_map];omega
theorem aQe {k:Nat} {p:PartD} (hM:FOkM k p) (hB:BOk p) (hk:k≤20000):bF Tryz.prog 66 [.agg p.dv] (.tup [.lst 18 ((tN p).map EntD.dv),int 0]) :=
 aW7 p (by have:=hM.rows;omega) (by have:=hM.ok.len8;omega) (by have:=hM.prods;omega) hB.rows hM.ok.rise (fun o ho=>(hM.ok.pid o ho).1) (fun o ho=>by have:=hM.bats o ho;omega)
  (fun o ho b hb=>by obtain⟨q,_,hl⟩:=hB.link o ho;exact⟨(hl.bats b hb).1,by have:=hM.recs o ho b hb;omega⟩) hM.may (fun q hq=>by have:=hM.seen q hq;omega)
end Go.Proofs.YtpklhnpchhaccaaGreatDoor
