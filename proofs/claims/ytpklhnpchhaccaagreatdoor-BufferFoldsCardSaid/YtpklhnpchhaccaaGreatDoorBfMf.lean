/- The abstract machine (BfV, BfW, BfX, BfWk). -/
import Derived.Test.YtpklhnpchhaccaaGreatDoorBfT
import Derived.Test.YtpklhnpchhaccaaGreatDoorInMd
import Derived.Test.YtpklhnpchhaccaaGreatDoorCpMc
import Derived.Test.YtpklhnpchhaccaaGreatDoorBfMh
import Derived.Test.YtpklhnpchhaccaaGreatDoorRhMb
namespace Go.Proofs.YtpklhnpchhaccaaGreatDoor
open Go Go.RowKit
set_option maxHeartbeats 4000000
set_option maxRecDepth 100000
set_option linter.unusedVariables false
set_option linter.unusedSimpArgs false
def tG (pid:Int) (acc:List BatD) (e:EntD):List BatD:=if e.b.pid≠pid then acc else if e.kind=3 then (if e.yes=true then [] else acc++[e.b]) else if e.kind=4 then [] else acc
def lM (l:List EntD) (pid:Int):List BatD:=l.foldl (tG pid) []
set_option maxHeartbeats 8000000
theorem aCi {l:List EntD} {k:Nat} (pid:Int) (h:k<l.length):lM (l.take (k+1)) pid=tG pid (lM (l.take k) pid) l[k]:=by
 unfold lM
 rw[List.take_succ_eq_append_getElem h,List.foldl_append];rfl
theorem xR (pid:Int) (l:List EntD):(lM l pid).length≤l.length:=by
 unfold lM
 have key:∀ (l:List EntD) (acc:List BatD),(l.foldl (tG pid) acc).length≤acc.length+l.length:=by
  intro l
  induction l with
  | nil=>intro acc;exact Nat.le_refl _
  | cons e l ih =>
   intro acc
   rw[List.foldl_cons]
   have h1:=ih (tG pid acc e)
   have h2:(tG pid acc e).length≤acc.length+1:=by
    unfold tG
    split
    ·omega
    split
    ·split
     ·simp
     ·simp
    split
    ·simp
    ·omega
   rw[List.length_cons];omega
 have:=key l []
 simpa using this
theorem aA5 (l:List EntD) (pid:Int) (hl:l.length≤100000) (hr:∀ e ∈ l,e.b.recs.length≤100000):aW Tryz.prog 27 [.lst 18 (l.map EntD.dv),int pid] (.lst 5 ((lM l pid).map BatD.dv)):=by
 (refine aW.of_bodyW Tryz.func27 rfl rfl Tryz.ntmps27 Tryz.results27 (by simp) ?_)
 (refine bP ?_)
 refine Wp.weak (aD.nilApp (t:=5) (τ:=60) 62 5 (by (refine aT ?_;try with_reducible exact tt)) (by (refine aT ?_;try with_reducible exact tt))) ?_
 refine Wp.loop (fun k:Nat=>⟨iH [(1,vi .i64 pid),(5,.c (.app 60 5 ((lM (l.take k) pid).map BatD.dv))),(8,.c (.d (.lst 18 (l.map EntD.dv)))),(9,vi .i64 l.length),(10,vi .i64 k)],bI [(60,.row 62 5 (lM (l.take k) pid).length)],61,36,0⟩) (fun k=>k≤l.length) (fun k=>l.length - k) 0 (Nat.zero_le _) ?_ ?_
 ·refine aD.keep rfl rfl ?_
  simp (maxSteps:=2000000) (disch:=omega) only[gE,TY,bW,eH,fP,SV.ofD,eA,eO,fI,fJ,bR,fK,eX,eQ,fL,eL,fG,fF,fH,CV.exact,CV.lstOf,CV.lenOf,CV.one,D.one,Value.oneCell',CV.toD0,fX,eF,fZ,fC,rD0,gC,fD,fY,reduceCtorEq,reduceIte,Nat.reduceBEq,Nat.reduceEqDiff,Nat.reduceAdd,Nat.reduceMul,Nat.reduceSub,Nat.reduceLT,Nat.reduceLeDiff,Nat.reduceBNe,Int.reduceLE,Int.reduceLT,Int.reduceBEq,Int.reduceBNe,Int.reduceEq,Int.reduceNeg,Int.reduceAdd,Int.reduceSub,Int.reduceToNat,forall_const,List.take_zero,lM,List.foldl_nil,List.map_nil,List.length_nil]
 intro k hk
 by_cases hkl:k<l.length
 ·have d1:decide ((k:Int)<(l.length:Int))=true:=decide_eq_true (by omega)
  have hge:l[k]? = some l[k]:=List.getElem?_eq_getElem hkl
  have hwk:IntKind.i64.wrap ((k:Int)+1)=((k+1:Nat):Int):=by rw[bA (by omega)];rfl
  have hsn:=aCi pid hkl
  have hwl:=xR pid (l.take k)
  rw[List.length_take] at hwl
  have hrk:=hr _ (List.getElem_mem hkl)
  generalize l[k]=e at *
  generalize lM (l.take k) pid=w at *
  have c1:=tJ e.b (by omega)
  simp only[BatD.dv] at c1
  unfold tG at hsn
  by_cases h1:e.b.pid≠pid
  ·have e1:(e.b.pid != pid)=true:=by simpa using h1
   rw[if_pos h1] at hsn
   (refine gO (ai d1 (ai hge (ai e1 (@EntD.dv.eq_1)))) ?_)
   refine⟨k+1,hkl,by omega,aD.keep rfl rfl ?_⟩
   (refine rO (ai hwk (hsn)) ?_;try with_reducible exact tt)
  have e1:(e.b.pid != pid)=false:=by simpa using h1
  rw[if_neg h1] at hsn
  by_cases h3:e.kind=3
  ·have e3:(e.kind == 3)=true:=by simpa using h3
   rw[if_pos h3] at hsn
   cases hy:e.yes with
   | true =>
    rw[hy,if_pos rfl] at hsn
    (refine gO (ai d1 (ai hge (ai e1 (ai e3 (ai hy (@EntD.dv.eq_1)))))) ?_)
    refine⟨k+1,hkl,by omega,?_⟩
    refine aD.trans (aD.keep (L:=[(1,vi .i64 pid),(5,.c cL),(8,.c (.d (.lst 18 (l.map EntD.dv)))),(9,vi .i64 l.length),(10,vi .i64 (k+1:Nat))]) (M:=[]) (nx:=61) rfl rfl (by (refine rO (hwk) ?_;try with_reducible exact tt))) ?_
    refine aD.trans (aD.nilApp (t:=5) (τ:=60) 62 5 (by (refine aT ?_;try with_reducible exact tt)) (by (refine aT ?_;try with_reducible exact tt))) ?_
    refine aD.keep rfl rfl ?_
    (refine rO (ai hsn (ai @List.map_nil.{0,0} (@List.length_nil.{0}))) ?_;try with_reducible exact tt)
   | false =>
    rw[hy,if_neg Bool.false_ne_true] at hsn
    have hbb:(w.length+1)*56≤140737488355328:=by omega
    (refine gO (ai d1 (ai hge (ai e1 (ai e3 (ai hy (ai hbb (ai @EntD.dv.eq_1 (ai @BatD.dv.eq_1 (@List.length_map.{0,0}))))))))) ?_)
    refine⟨k+1,hkl,by omega,aD.keep rfl rfl ?_⟩
    (refine rO (ai hwk (ai hsn (ai @BatD.dv.eq_1 (ai @List.map_append.{0,0} (ai @List.map_cons.{0,0} (ai @List.map_nil.{0,0} (ai @List.length_append.{0} (ai @List.length_cons.{0} (@List.length_nil.{0}))))))))) ?_;try with_reducible exact tt)
  ·have e3:(e.kind == 3)=false:=by simpa using h3
   rw[if_neg h3] at hsn
   by_cases h4:e.kind=4
   ·have e4:(e.kind == 4)=true:=by simpa using h4
    rw[if_pos h4] at hsn
    (refine gO (ai d1 (ai hge (ai e1 (ai e3 (ai e4 (@EntD.dv.eq_1)))))) ?_)
    refine⟨k+1,hkl,by omega,?_⟩
    refine aD.trans (aD.keep (L:=[(1,vi .i64 pid),(5,.c cL),(8,.c (.d (.lst 18 (l.map EntD.dv)))),(9,vi .i64 l.length),(10,vi .i64 (k+1:Nat))]) (M:=[]) (nx:=61) rfl rfl (by (refine rO (hwk) ?_;try with_reducible exact tt))) ?_
    refine aD.trans (aD.nilApp (t:=5) (τ:=60) 62 5 (by (refine aT ?_;try with_reducible exact tt)) (by (refine aT ?_;try with_reducible exact tt))) ?_
    refine aD.keep rfl rfl ?_
    (refine rO (ai hsn (ai @List.map_nil.{0,0} (@List.length_nil.{0}))) ?_;try with_reducible exact tt)
   ·have e4:(e.kind == 4)=false:=by simpa using h4
    rw[if_neg h4] at hsn
    (refine gO (ai d1 (ai hge (ai e1 (ai e3 (ai e4 (@EntD.dv.eq_1)))))) ?_)
    refine⟨k+1,hkl,by omega,aD.keep rfl rfl ?_⟩
    (refine rO (ai hwk (hsn)) ?_;try with_reducible exact tt)
 ·have hke:k=l.length:=by omega
  subst hke
  have d1:decide ((l.length:Int)<(l.length:Int))=false:=by simp
  (refine gO (d1) ?_)
  (refine rO (@List.take_length.{0}) ?_)
  exact⟨_,rfl,fun _ _ h=>h⟩
theorem aBr (l:List EntD) (pid:Int) (hl:l.length≤100000):aW Tryz.prog 20 [.lst 18 (l.map EntD.dv),int pid] (.lst 5 ((lM l pid).map BatD.dv)):=by
 (refine aW.of_bodyW Tryz.func20 rfl rfl Tryz.ntmps20 Tryz.results20 (by simp) ?_)
 (refine bP ?_)
 refine Wp.weak (aD.nilApp (t:=5) (τ:=60) 62 5 (by (refine aT ?_;try with_reducible exact tt)) (by (refine aT ?_;try with_reducible exact tt))) ?_
 refine Wp.loop (fun k:Nat=>⟨iH [(0,.c (.d (.lst 18 (l.map EntD.dv)))),(1,vi .i64 pid),(5,.c (.app 60 5 ((lM (l.take k) pid).map BatD.dv))),(6,vi .i64 k)],bI [(60,.row 62 5 (lM (l.take k) pid).length)],61,37,0⟩) (fun k=>k≤l.length) (fun k=>l.length - k) 0 (Nat.zero_le _) ?_ ?_
 ·refine aD.keep rfl rfl ?_
  simp (maxSteps:=2000000) (disch:=omega) only[gE,TY,bW,eH,fP,SV.ofD,eA,eO,fI,fJ,bR,fK,eX,eQ,fL,eL,fG,fF,fH,CV.exact,CV.lstOf,CV.lenOf,CV.one,D.one,Value.oneCell',CV.toD0,fX,eF,fZ,fC,rD0,gC,fD,fY,reduceCtorEq,reduceIte,Nat.reduceBEq,Nat.reduceEqDiff,Nat.reduceAdd,Nat.reduceMul,Nat.reduceSub,Nat.reduceLT,Nat.reduceLeDiff,Nat.reduceBNe,Int.reduceLE,Int.reduceLT,Int.reduceBEq,Int.reduceBNe,Int.reduceEq,Int.reduceNeg,Int.reduceAdd,Int.reduceSub,Int.reduceToNat,forall_const,List.take_zero,lM,List.foldl_nil,List.map_nil,List.length_nil]
 intro k hk
 by_cases hkl:k<l.length
 ·have d1:decide ((k:Int)<(l.length:Int))=true:=decide_eq_true (by omega)
  have hge:l[k]? = some l[k]:=List.getElem?_eq_getElem hkl
  have hwk:IntKind.i64.wrap ((k:Int)+1)=((k+1:Nat):Int):=by rw[bA (by omega)];rfl
  have hsn:=aCi pid hkl
  have hwl:=xR pid (l.take k)
  rw[List.length_take] at hwl
  generalize l[k]=e at *
  generalize lM (l.take k) pid=w at *
  unfold tG at hsn
  by_cases h1:e.b.pid≠pid
  ·have e1:(e.b.pid != pid)=true:=by simpa using h1
   rw[if_pos h1] at hsn
   (refine gO (ai d1 (ai hge (ai e1 (ai hwk (@EntD.dv.eq_1))))) ?_)
   refine⟨k+1,hkl,by omega,aD.keep rfl rfl ?_⟩
   (refine rO (hsn) ?_;try with_reducible exact tt)
  have e1:(e.b.pid != pid)=false:=by simpa using h1
  rw[if_neg h1] at hsn
  by_cases h3:e.kind=3
  ·have e3:(e.kind == 3)=true:=by simpa using h3
   rw[if_pos h3] at hsn
   have hbb:(w.length+1)*56≤140737488355328:=by omega
   cases hy:e.yes with
   | true =>
    rw[hy,if_pos rfl] at hsn
    (refine gO (ai d1 (ai hge (ai e1 (ai e3 (ai hy (ai hbb (ai hwk (ai @EntD.dv.eq_1 (ai @BatD.dv.eq_1 (@List.length_map.{0,0})))))))))) ?_)
    refine⟨k+1,hkl,by omega,?_⟩
    refine aD.trans (aD.keep (L:=[(0,.c (.d (.lst 18 (l.map EntD.dv)))),(1,vi .i64 pid),(5,.c cL),(6,vi .i64 (k+1:Nat))]) (M:=[]) (nx:=61) rfl rfl (by (refine aT ?_;try with_reducible exact tt))) ?_
    refine aD.trans (aD.nilApp (t:=5) (τ:=60) 62 5 (by (refine aT ?_;try with_reducible exact tt)) (by (refine aT ?_;try with_reducible exact tt))) ?_
    refine aD.keep rfl rfl ?_
    (refine rO (ai hsn (ai @List.map_nil.{0,0} (@List.length_nil.{0}))) ?_;try with_reducible exact tt)
   | false =>
    rw[hy,if_neg Bool.false_ne_true] at hsn
    (refine gO (ai d1 (ai hge (ai e1 (ai e3 (ai hy (ai hbb (ai hwk (ai @EntD.dv.eq_1 (ai @BatD.dv.eq_1 (@List.length_map.{0,0})))))))))) ?_)
    refine⟨k+1,hkl,by omega,aD.keep rfl rfl ?_⟩
    (refine rO (ai hsn (ai @BatD.dv.eq_1 (ai @List.map_append.{0,0} (ai @List.map_cons.{0,0} (ai @List.map_nil.{0,0} (ai @List.length_append.{0} (ai @List.length_cons.{0} (@List.length_nil.{0})))))))) ?_;try with_reducible exact tt)
  ·have e3:(e.kind == 3)=false:=by simpa using h3
   rw[if_neg h3] at hsn
   by_cases h4:e.kind=4
   ·have e4:(e.kind == 4)=true:=by simpa using h4
    rw[if_pos h4] at hsn
    (refine gO (ai d1 (ai hge (ai e1 (ai e3 (ai e4 (ai hwk (@EntD.dv.eq_1))))))) ?_)
    refine⟨k+1,hkl,by omega,?_⟩
    refine aD.trans (aD.keep (L:=[(0,.c (.d (.lst 18 (l.map EntD.dv)))),(1,vi .i64 pid),(5,.c cL),(6,vi .i64 (k+1:Nat))]) (M:=[]) (nx:=61) rfl rfl (by (refine aT ?_;try with_reducible exact tt))) ?_
    refine aD.trans (aD.nilApp (t:=5) (τ:=60) 62 5 (by (refine aT ?_;try with_reducible exact tt)) (by (refine aT ?_;try with_reducible exact tt))) ?_
    refine aD.keep rfl rfl ?_
    (refine rO (ai hsn (ai @List.map_nil.{0,0} (@List.length_nil.{0}))) ?_;try with_reducible exact tt)
   ·have e4:(e.kind == 4)=false:=by simpa using h4
    rw[if_neg h4] at hsn
    (refine gO (ai d1 (ai hge (ai e1 (ai e3 (ai e4 (ai hwk (@EntD.dv.eq_1))))))) ?_)
    refine⟨k+1,hkl,by omega,aD.keep rfl rfl ?_⟩
    (refine rO (hsn) ?_;try with_reducible exact tt)
 ·have hke:k=l.length:=by omega
  subst hke
  have d1:decide ((l.length:Int)<(l.length:Int))=false:=by simp
  (refine gO (d1) ?_)
  (refine rO (@List.take_length.{0}) ?_)
  exact⟨_,rfl,fun _ _ h=>h⟩
theorem aIa (a b:List EntD) (hl:a.length≤1000000) (hcon:∀ x ∈ a,∀ y,aW Tryz.prog 65 [.agg x.dv,.agg y.dv] (dM (decide (x=y)))):aW Tryz.prog 64 [.lst 18 (a.map EntD.dv),.lst 18 (b.map EntD.dv),.fn (.func 65) []] (dM (decide (a=b))):=by
 (refine aW.of_body Tryz.func64 rfl rfl Tryz.ntmps64 Tryz.results64 (by simp) ?_)
 by_cases hlen:a.length=b.length
 ·have hne:((a.length:Int) != (b.length:Int))=false:=by simp[hlen]
  (refine gO (hne) ?_)
  refine Wp.loop (fun k:Nat=>⟨iH [(1,.c (.d (.lst 18 (b.map EntD.dv)))),(2,.c (.d (.fn (.func 65) []))),(15,.c (.d (.lst 18 (a.map EntD.dv)))),(16,vi .i64 a.length),(17,vi .i64 k)],bI [],0,32,0⟩) (fun k=>k≤a.length∧a.take k=b.take k) (fun k=>a.length - k) 0 ⟨Nat.zero_le _,rfl⟩ ?_ ?_
  ·refine aD.keep rfl rfl ?_
   (refine aT ?_;try with_reducible exact tt)
  rintro k ⟨hk,hall⟩
  (refine bP ?_)
  refine Wp.cond (by (refine aT ?_);rfl) (fun h=>?_) (fun h=>?_)
  ·have hlt:k<a.length:=by simpa using h
   have hlt2:k<b.length:=by omega
   have g1:a[k]? = some a[k]:=List.getElem?_eq_getElem hlt
   have g2:b[k]? = some b[k]:=List.getElem?_eq_getElem hlt2
   have t1:=aV a k hlt
   have t2:=aV b k hlt2
   have hne:a[k]≠b[k]→¬ a=b:=fun hx e=>by subst e;exact hx rfl
   have c1:=hcon _ (List.getElem_mem hlt) b[k]
   generalize a[k]=x at *
   generalize b[k]=y at *
   simp only[EntD.dv] at c1
   (refine gO (ai g1 (ai g2 (@EntD.dv.eq_1))) ?_)
   refine Wp.cond (by (refine aT ?_);rfl) (fun h=>?_) (fun h=>?_)
   ·have hf:decide (a=b)=false:=decide_eq_false (hne (by simpa using h))
    (refine bP ?_)
    (refine rO (hf) ?_;try with_reducible exact tt)
   ·simp only[Bool.not_eq_false',decide_eq_true_eq] at h
    (refine bP ?_)
    refine⟨k+1,⟨by omega,by rw[t1,t2,hall,h]⟩,by omega,aD.keep rfl rfl ?_⟩
    (refine aT ?_;try with_reducible exact tt)
  ·have hk:k=a.length:=by simp only[decide_eq_false_iff_not] at h;omega
   have hf:decide (a=b)=true:=by
    rw[List.take_of_length_le (by omega),List.take_of_length_le (by omega)] at hall;simp[hall]
   (refine bP ?_)
   (refine rO (hf) ?_;try with_reducible exact tt)
 ·have hne:((a.length:Int) != (b.length:Int))=true:=by simp;omega
  have hf:decide (a=b)=false:=decide_eq_false (fun e=>hlen (by rw[e]))
  (refine gO (hne) ?_)
  (refine rO (hf) ?_;try with_reducible exact tt)
theorem aG2 (a b:List SideD) (hl:a.length≤1000000) (hcon:∀ x ∈ a,∀ y,aW Tryz.prog 63 [.agg x.dv,.agg y.dv] (dM (decide (x=y)))):aW Tryz.prog 62 [.lst 2 (a.map SideD.dv),.lst 2 (b.map SideD.dv),.fn (.func 63) []] (dM (decide (a=b))):=by
 (refine aW.of_body Tryz.func62 rfl rfl Tryz.ntmps62 Tryz.results62 (by simp) ?_)
 by_cases hlen:a.length=b.length
 ·have hne:((a.length:Int) != (b.length:Int))=false:=by simp[hlen]
  (refine gO (hne) ?_)
  refine Wp.loop (fun k:Nat=>⟨iH [(1,.c (.d (.lst 2 (b.map SideD.dv)))),(2,.c (.d (.fn (.func 63) []))),(15,.c (.d (.lst 2 (a.map SideD.dv)))),(16,vi .i64 a.length),(17,vi .i64 k)],bI [],0,32,0⟩) (fun k=>k≤a.length∧a.take k=b.take k) (fun k=>a.length - k) 0 ⟨Nat.zero_le _,rfl⟩ ?_ ?_
  ·refine aD.keep rfl rfl ?_
   (refine aT ?_;try with_reducible exact tt)
  rintro k ⟨hk,hall⟩
  (refine bP ?_)
  refine Wp.cond (by (refine aT ?_);rfl) (fun h=>?_) (fun h=>?_)
  ·have hlt:k<a.length:=by simpa using h
   have hlt2:k<b.length:=by omega
   have g1:a[k]? = some a[k]:=List.getElem?_eq_getElem hlt
   have g2:b[k]? = some b[k]:=List.getElem?_eq_getElem hlt2
   have t1:=aV a k hlt
   have t2:=aV b k hlt2
   have hne:a[k]≠b[k]→¬ a=b:=fun hx e=>by subst e;exact hx rfl
   have c1:=hcon _ (List.getElem_mem hlt) b[k]
   generalize a[k]=x at *
   generalize b[k]=y at *
   simp only[SideD.dv] at c1
   (repeat (first|apply Wp.skip|apply Wp.exit|apply Wp.ret|apply Wp.block|apply Wp.label|((first|refine Wp.sreg (fun K hK=>?_)|refine Wp.reg (fun K hK=>?_)|refine Wp.sdrw aI (fun K hK=>?_)|refine Wp.drw aI (fun K hK=>?_)|refine Wp.condG (fun K hK hF=>?_));(repeat (revert hK;intro hK;simp (maxSteps:=2000000) (disch:=omega) only[gE,TY,bW,eH,fP,SV.ofD,eA,eO,fI,fJ,bR,fK,eX,eQ,fL,eL,fG,fF,fH,CV.exact,CV.lstOf,CV.lenOf,CV.one,D.one,Value.oneCell',CV.toD0,fX,eF,fZ,fC,rD0,gC,fD,fY,reduceCtorEq,reduceIte,Nat.reduceBEq,Nat.reduceEqDiff,Nat.reduceAdd,Nat.reduceMul,Nat.reduceSub,Nat.reduceLT,Nat.reduceLeDiff,Nat.reduceBNe,Int.reduceLE,Int.reduceLT,Int.reduceBEq,Int.reduceBNe,Int.reduceEq,Int.reduceNeg,Int.reduceAdd,Int.reduceSub,Int.reduceToNat,forall_const,g1,g2,SideD.dv];(first|(refine hK _ ?_;clear hK K)|(refine⟨by kernel_rfl,hK _ ?_⟩;clear hK K)|(refine hK ?_;clear hK hF K)|(refine hF ?_;clear hK hF K)|refine dB (by assumption) ?_|refine bca (by assumption) ?_)));fail_if_success (revert hK;intro hK))|apply Wp.seq))
   refine Wp.cond (by (refine aT ?_);rfl) (fun h=>?_) (fun h=>?_)
   ·have hf:decide (a=b)=false:=decide_eq_false (hne (by simpa using h))
    (refine bP ?_)
    (refine rO (hf) ?_;try with_reducible exact tt)
   ·simp only[Bool.not_eq_false',decide_eq_true_eq] at h
    (refine bP ?_)
    refine⟨k+1,⟨by omega,by rw[t1,t2,hall,h]⟩,by omega,aD.keep rfl rfl ?_⟩
    (refine aT ?_;try with_reducible exact tt)
  ·have hk:k=a.length:=by simp only[decide_eq_false_iff_not] at h;omega
   have hf:decide (a=b)=true:=by
    rw[List.take_of_length_le (by omega),List.take_of_length_le (by omega)] at hall;simp[hall]
   (refine bP ?_)
   (refine rO (hf) ?_;try with_reducible exact tt)
 ·have hne:((a.length:Int) != (b.length:Int))=true:=by simp;omega
  have hf:decide (a=b)=false:=decide_eq_false (fun e=>hlen (by rw[e]))
  (refine gO (hne) ?_)
  (refine rO (hf) ?_;try with_reducible exact tt)
def aMn (x:SideD):Prop:=x.l.length≤100000∧∀ e ∈ x.l,e.b.recs.length≤100000∧e.prod.seen.length≤100000
def uA (a b:SideD):Bool:=a.pid == b.pid && decide (a.l=b.l)
theorem aQb (a b:SideD):uA a b=decide (a=b):=by
 rw[Bool.eq_iff_iff]
 obtain⟨a1,a2⟩:=a
 obtain⟨b1,b2⟩:=b
 simp only[uA,Bool.and_eq_true,beq_iff_eq,decide_eq_true_eq,SideD.mk.injEq]
theorem aDd (a b:SideD) (h:aMn a):aW Tryz.prog 63 [.agg a.dv,.agg b.dv] (dM (decide (a=b))):=by
 have c1:=aIa a.l b.l (by have:=h.1;omega) (fun x hx y=>jY x y (h.2 x hx).1 (h.2 x hx).2)
 rw[← aQb]
 (refine aW.of_body Tryz.func63 rfl rfl Tryz.ntmps63 Tryz.results63 (by simp) ?_)
 (repeat (first|apply Wp.skip|apply Wp.exit|apply Wp.ret|apply Wp.block|apply Wp.label|((first|refine Wp.sreg (fun K hK=>?_)|refine Wp.reg (fun K hK=>?_)|refine Wp.sdrw aI (fun K hK=>?_)|refine Wp.drw aI (fun K hK=>?_)|refine Wp.condG (fun K hK hF=>?_));(repeat (revert hK;intro hK;simp (maxSteps:=2000000) (disch:=omega) only[gE,TY,bW,eH,fP,SV.ofD,eA,eO,fI,fJ,bR,fK,eX,eQ,fL,eL,fG,fF,fH,CV.exact,CV.lstOf,CV.lenOf,CV.one,D.one,Value.oneCell',CV.toD0,fX,eF,fZ,fC,rD0,gC,fD,fY,reduceCtorEq,reduceIte,Nat.reduceBEq,Nat.reduceEqDiff,Nat.reduceAdd,Nat.reduceMul,Nat.reduceSub,Nat.reduceLT,Nat.reduceLeDiff,Nat.reduceBNe,Int.reduceLE,Int.reduceLT,Int.reduceBEq,Int.reduceBNe,Int.reduceEq,Int.reduceNeg,Int.reduceAdd,Int.reduceSub,Int.reduceToNat,forall_const,SideD.dv];(first|(refine hK _ ?_;clear hK K)|(refine⟨by kernel_rfl,hK _ ?_⟩;clear hK K)|(refine hK ?_;clear hK hF K)|(refine hF ?_;clear hK hF K)|refine dB (by assumption) ?_|refine bca (by assumption) ?_)));fail_if_success (revert hK;intro hK))|apply Wp.seq))
 (first|refine Wp.sto 4 (vb (uA a b)) ?_ ?_|refine Wp.rtoS 4 (vb (uA a b)) ?_ ?_|(refine Wp.seq ?_;first|refine Wp.sto 4 (vb (uA a b)) ?_ ?_|refine Wp.rtoS 4 (vb (uA a b)) ?_ ?_))
 ·unfold uA;((rcases Bool.eq_false_or_eq_true (a.pid == b.pid) with hL1|hL1)<;>(rcases Bool.eq_false_or_eq_true (decide (a.l=b.l)) with hL2|hL2)<;>((simp (maxSteps:=2000000) (disch:=omega) only[gE,TY,bW,eH,fP,SV.ofD,eA,eO,fI,fJ,bR,fK,eX,eQ,fL,eL,fG,fF,fH,CV.exact,CV.lstOf,CV.lenOf,CV.one,D.one,Value.oneCell',CV.toD0,fX,eF,fZ,fC,rD0,gC,fD,fY,reduceCtorEq,reduceIte,Nat.reduceBEq,Nat.reduceEqDiff,Nat.reduceAdd,Nat.reduceMul,Nat.reduceSub,Nat.reduceLT,Nat.reduceLeDiff,Nat.reduceBNe,Int.reduceLE,Int.reduceLT,Int.reduceBEq,Int.reduceBNe,Int.reduceEq,Int.reduceNeg,Int.reduceAdd,Int.reduceSub,Int.reduceToNat,forall_const,hL1,hL2,SideD.dv];(repeat (refine dB (by assumption) ?_;simp (maxSteps:=2000000) (disch:=omega) only[gE,TY,bW,eH,fP,SV.ofD,eA,eO,fI,fJ,bR,fK,eX,eQ,fL,eL,fG,fF,fH,CV.exact,CV.lstOf,CV.lenOf,CV.one,D.one,Value.oneCell',CV.toD0,fX,eF,fZ,fC,rD0,gC,fD,fY,reduceCtorEq,reduceIte,Nat.reduceBEq,Nat.reduceEqDiff,Nat.reduceAdd,Nat.reduceMul,Nat.reduceSub,Nat.reduceLT,Nat.reduceLeDiff,Nat.reduceBNe,Int.reduceLE,Int.reduceLT,Int.reduceBEq,Int.reduceBNe,Int.reduceEq,Int.reduceNeg,Int.reduceAdd,Int.reduceSub,Int.reduceToNat,forall_const,hL1,hL2,SideD.dv])));all_goals (exact (show bE _ _=true by kernel_rfl))))
 (refine bP ?_)
 (refine aT ?_;try with_reducible exact tt)
theorem aHp (a b:List SideD) (hl:a.length≤1000000) (hs:∀ x ∈ a,aMn x):aW Tryz.prog 29 [.lst 2 (a.map SideD.dv),.lst 2 (b.map SideD.dv)] (dM (decide (a=b))):=by
 have c1:=aG2 a b hl (fun x hx y=>aDd x y (hs x hx))
 (refine aW.of_body Tryz.func29 rfl rfl Tryz.ntmps29 Tryz.results29 (by simp) ?_)
 (refine bP ?_)
 (refine aT ?_;try with_reducible exact tt)
theorem aN0 {e:EntD} (h:¬ wT e=true):e.b.recs.length≤40∧e.prod.seen.length≤40:=by
 simp only[wT,yH,Bool.not_eq_true,Bool.or_eq_false_iff,decide_eq_false_iff_not] at h
 exact⟨by omega,by omega⟩
def qK (x:SideD):Bool:=wS x.l || decide (30<(x.l.length:Int))
def pV (l:List SideD):Bool:=decide (20<(l.length:Int)) || l.any qK
theorem aP4 {l:List SideD} (h:pV l=false):l.length≤20∧∀ x ∈ l,x.l.length≤30∧∀ e ∈ x.l,e.b.recs.length≤40∧e.prod.seen.length≤40:=by
 unfold pV at h
 simp only[Bool.or_eq_false_iff,decide_eq_false_iff_not] at h
 refine⟨by omega,fun x hx=>?_⟩
 have h2:=List.any_eq_false.1 h.2 x hx
 unfold qK at h2
 simp only[Bool.or_eq_true,decide_eq_true_eq,not_or,Bool.not_eq_true] at h2
 have h3:=h2.1
 simp only[wS,Bool.or_eq_false_iff,decide_eq_false_iff_not] at h3
 refine⟨by omega,fun e he=>?_⟩
 exact aN0 (List.any_eq_false.1 h3.2 e he)
theorem aBq (l:List SideD):aW Tryz.prog 52 [.lst 2 (l.map SideD.dv)] (dM (pV l)):=by
 (refine aW.of_body Tryz.func52 rfl rfl Tryz.ntmps52 Tryz.results52 (by simp) ?_)
 (refine bP ?_)
 refine Wp.loop (fun k:Nat=>⟨iH [(0,.c (.d (.lst 2 (l.map SideD.dv)))),(3,vi .i64 k)],bI [],0,32,0⟩) (fun k=>k≤l.length∧k≤21∧(l.take k).any qK=false) (fun k=>l.length - k) 0 ⟨Nat.zero_le _,by omega,rfl⟩ ?_ ?_
 ·refine aD.keep rfl rfl ?_
  (refine aT ?_;try with_reducible exact tt)
 rintro k ⟨hk,hk21,hany⟩
 by_cases hc:k<l.length∧k≤20
 ·obtain⟨hkl,h20⟩:=hc
  have d1:decide ((k:Int)<(l.length:Int))=true:=decide_eq_true (by omega)
  have d2:decide ((k:Int)≤20)=true:=decide_eq_true (by omega)
  have hge:l[k]? = some l[k]:=List.getElem?_eq_getElem hkl
  have hwk:IntKind.i64.wrap ((k:Int)+1)=((k+1:Nat):Int):=by rw[bA (by omega)];rfl
  have hsn:(l.take (k+1)).any qK=qK l[k]:=by
   rw[List.take_succ_eq_append_getElem hkl,List.any_append,hany];simp
  have hgt:qK l[k]=true→pV l=true:=fun h=>by
   unfold pV
   rw[List.any_eq_true.2 ⟨_,List.getElem_mem hkl,h⟩,Bool.or_true]
  generalize l[k]=x at *
  have c1:=aIr x.l
  (first|refine Wp.sto 11 (vb true) ?_ ?_|refine Wp.rtoS 11 (vb true) ?_ ?_|(refine Wp.seq ?_;first|refine Wp.sto 11 (vb true) ?_ ?_|refine Wp.rtoS 11 (vb true) ?_ ?_))
  ·((refine rO (ai d1 (d2)) ?_;try with_reducible exact tt);(repeat (refine dB (by assumption) ?_;(refine rO (ai d1 (d2)) ?_))))
   all_goals (exact (show bE _ _=true by kernel_rfl))
  (repeat (first|apply Wp.skip|apply Wp.exit|apply Wp.ret|apply Wp.block|apply Wp.label|((first|refine Wp.sreg (fun K hK=>?_)|refine Wp.reg (fun K hK=>?_)|refine Wp.sdrw aI (fun K hK=>?_)|refine Wp.drw aI (fun K hK=>?_)|refine Wp.condG (fun K hK hF=>?_));(repeat (revert hK;intro hK;simp (maxSteps:=2000000) (disch:=omega) only[gE,TY,bW,eH,fP,SV.ofD,eA,eO,fI,fJ,bR,fK,eX,eQ,fL,eL,fG,fF,fH,CV.exact,CV.lstOf,CV.lenOf,CV.one,D.one,Value.oneCell',CV.toD0,fX,eF,fZ,fC,rD0,gC,fD,fY,reduceCtorEq,reduceIte,Nat.reduceBEq,Nat.reduceEqDiff,Nat.reduceAdd,Nat.reduceMul,Nat.reduceSub,Nat.reduceLT,Nat.reduceLeDiff,Nat.reduceBNe,Int.reduceLE,Int.reduceLT,Int.reduceBEq,Int.reduceBNe,Int.reduceEq,Int.reduceNeg,Int.reduceAdd,Int.reduceSub,Int.reduceToNat,forall_const,hge,SideD.dv];(first|(refine hK _ ?_;clear hK K)|(refine⟨by kernel_rfl,hK _ ?_⟩;clear hK K)|(refine hK ?_;clear hK hF K)|(refine hF ?_;clear hK hF K)|refine dB (by assumption) ?_|refine bca (by assumption) ?_)));fail_if_success (revert hK;intro hK))|apply Wp.seq))
  (first|refine Wp.sto 28 (vb (qK x)) ?_ ?_|refine Wp.rtoS 28 (vb (qK x)) ?_ ?_|(refine Wp.seq ?_;first|refine Wp.sto 28 (vb (qK x)) ?_ ?_|refine Wp.rtoS 28 (vb (qK x)) ?_ ?_))
  ·unfold qK;((rcases Bool.eq_false_or_eq_true (wS x.l) with hL1|hL1)<;>(rcases Bool.eq_false_or_eq_true (decide (30<(x.l.length:Int))) with hL2|hL2)<;>((simp (maxSteps:=2000000) (disch:=omega) only[gE,TY,bW,eH,fP,SV.ofD,eA,eO,fI,fJ,bR,fK,eX,eQ,fL,eL,fG,fF,fH,CV.exact,CV.lstOf,CV.lenOf,CV.one,D.one,Value.oneCell',CV.toD0,fX,eF,fZ,fC,rD0,gC,fD,fY,reduceCtorEq,reduceIte,Nat.reduceBEq,Nat.reduceEqDiff,Nat.reduceAdd,Nat.reduceMul,Nat.reduceSub,Nat.reduceLT,Nat.reduceLeDiff,Nat.reduceBNe,Int.reduceLE,Int.reduceLT,Int.reduceBEq,Int.reduceBNe,Int.reduceEq,Int.reduceNeg,Int.reduceAdd,Int.reduceSub,Int.reduceToNat,forall_const,hL1,hL2,hge,SideD.dv];(repeat (refine dB (by assumption) ?_;simp (maxSteps:=2000000) (disch:=omega) only[gE,TY,bW,eH,fP,SV.ofD,eA,eO,fI,fJ,bR,fK,eX,eQ,fL,eL,fG,fF,fH,CV.exact,CV.lstOf,CV.lenOf,CV.one,D.one,Value.oneCell',CV.toD0,fX,eF,fZ,fC,rD0,gC,fD,fY,reduceCtorEq,reduceIte,Nat.reduceBEq,Nat.reduceEqDiff,Nat.reduceAdd,Nat.reduceMul,Nat.reduceSub,Nat.reduceLT,Nat.reduceLeDiff,Nat.reduceBNe,Int.reduceLE,Int.reduceLT,Int.reduceBEq,Int.reduceBNe,Int.reduceEq,Int.reduceNeg,Int.reduceAdd,Int.reduceSub,Int.reduceToNat,forall_const,hL1,hL2,hge,SideD.dv])));all_goals (exact (show bE _ _=true by kernel_rfl))))
  cases hgx:qK x with
  | true =>
   have hr:=hgt hgx
   (refine bP ?_)
   (refine rO (hr) ?_;try with_reducible exact tt)
  | false =>
   rw[hgx] at hsn
   (refine gO (hwk) ?_)
   refine⟨k+1,⟨hkl,by omega,hsn⟩,by omega,aD.keep rfl rfl ?_⟩
   (refine aT ?_;try with_reducible exact tt)
 ·have hr:pV l=decide (20<(l.length:Int)):=by
   unfold pV
   by_cases h20:20<(l.length:Int)
   ·rw[decide_eq_true h20,Bool.true_or]
   ·have hke:k=l.length:=by omega
    rw[hke,List.take_length] at hany
    rw[hany,Bool.or_false]
  (first|refine Wp.sto 11 (vb false) ?_ ?_|refine Wp.rtoS 11 (vb false) ?_ ?_|(refine Wp.seq ?_;first|refine Wp.sto 11 (vb false) ?_ ?_|refine Wp.rtoS 11 (vb false) ?_ ?_))
  ·by_cases h1:k<l.length
   ·have d1:decide ((k:Int)<(l.length:Int))=true:=decide_eq_true (by omega)
    have d2:decide ((k:Int)≤20)=false:=decide_eq_false (by omega)
    ((refine rO (ai d1 (d2)) ?_;try with_reducible exact tt);(repeat (refine dB (by assumption) ?_;(refine rO (ai d1 (d2)) ?_))))
    all_goals (exact (show bE _ _=true by kernel_rfl))
   ·have d1:decide ((k:Int)<(l.length:Int))=false:=decide_eq_false (by omega)
    ((refine rO (d1) ?_;try with_reducible exact tt);(repeat (refine dB (by assumption) ?_;(refine rO (d1) ?_))))
    all_goals (exact (show bE _ _=true by kernel_rfl))
  (refine bP ?_)
  (refine rO (hr) ?_;try with_reducible exact tt)
def mB (l:List EntD) (s:List SideD):Bool:=decide (200<(l.length:Int)) || (wS l || pV s)
theorem aIs (l:List EntD) (s:List SideD):aW Tryz.prog 19 [.lst 18 (l.map EntD.dv),.lst 2 (s.map SideD.dv)] (dM (mB l s)):=by
 have c1:=aIr l
 have c2:=aBq s
 (refine aW.of_body Tryz.func19 rfl rfl Tryz.ntmps19 Tryz.results19 (by simp) ?_)
 (refine bP ?_)
 (first|refine Wp.sto 4 (vb (mB l s)) ?_ ?_|refine Wp.rtoS 4 (vb (mB l s)) ?_ ?_|(refine Wp.seq ?_;first|refine Wp.sto 4 (vb (mB l s)) ?_ ?_|refine Wp.rtoS 4 (vb (mB l s)) ?_ ?_))
 ·unfold mB;((rcases Bool.eq_false_or_eq_true (decide (200<(l.length:Int))) with hL1|hL1)<;>(rcases Bool.eq_false_or_eq_true (wS l) with hL2|hL2)<;>(rcases Bool.eq_false_or_eq_true (pV s) with hL3|hL3)<;>(((refine rO (ai hL1 (ai hL2 (hL3))) ?_;try with_reducible exact tt);(repeat (refine dB (by assumption) ?_;(refine rO (ai hL1 (ai hL2 (hL3))) ?_;try with_reducible exact tt))));all_goals (exact (show bE _ _=true by kernel_rfl))))
 (refine bP ?_)
 (refine aT ?_;try with_reducible exact tt)
theorem aL3 {l:List EntD} {s:List SideD} (h:mB l s=false):l.length≤200∧(∀ e ∈ l,e.b.recs.length≤40∧e.prod.seen.length≤40)∧s.length≤20∧∀ x ∈ s,x.l.length≤30∧∀ e ∈ x.l,e.b.recs.length≤40∧e.prod.seen.length≤40:=by
 unfold mB at h
 simp only[Bool.or_eq_false_iff,decide_eq_false_iff_not] at h
 obtain⟨h1,h2,h3⟩:=h
 obtain⟨g1,g2⟩:=aP4 h3
 refine⟨by omega,fun e he=>?_,g1,g2⟩
 simp only[wS,Bool.or_eq_false_iff,decide_eq_false_iff_not] at h2
 exact aN0 (List.any_eq_false.1 h2.2 e he)
set_option maxHeartbeats 16000000
def wkX:BatD:=⟨3,0,0,true,[⟨[97],[]⟩]⟩
def wkY:BatD:=⟨3,0,1,true,[⟨[97],[]⟩]⟩
def aNr:List EntD:=[⟨3,wkX,false,0,0,iR,dF⟩]
def aNt:List SideD:=[⟨3,[aQu wkX,aQu wkY]⟩]
def aNs:List EntD:=[⟨3,wkX,false,0,0,iR,dF⟩,⟨3,wkY,true,2,0,iR,dF⟩]
def aTw:PartD:=⟨0,0,[],[⟨3,0,[wkX,wkY]⟩],[⟨3,0,2,[⟨0,1,-1⟩,⟨1,1,-1⟩]⟩]⟩
def aTx:PartD:=⟨0,2,[⟨0,3,0,[97],[]⟩,⟨1,3,1,[97],[]⟩],[],[⟨3,0,2,[]⟩]⟩
theorem aXy:zV aNr aNt=some aTw:=by decide +kernel
theorem aXz:zV aNs []=some aTx:=by decide +kernel
theorem aK5:aW Tryz.prog 21 [] (dM true):=by
 have s1:∀ e ∈ aNr,SmallEn e:=by intro e he;simp[aNr] at he;subst he;exact⟨by decide,by decide,by decide⟩
 have s2:∀ x ∈ aNt,∀ y ∈ x.l,SmallEn y:=by
  intro x hx y hy
  simp[aNt] at hx
  subst hx
  simp at hy
  rcases hy with rfl|rfl<;>exact⟨by decide,by decide,by decide⟩
 have s3:∀ e ∈ aNs,SmallEn e:=by intro e he;simp[aNs] at he;rcases he with rfl|rfl<;>exact⟨by decide,by decide,by decide⟩
 have c1:=qX aNr aNt (by decide) s1 (by decide) s2
 have c2:=qX aNs [] (by decide) s3 (by decide) (fun x hx=>by cases hx)
 unfold a14 e14 at c1 c2
 rw[aXy] at c1
 rw[aXz] at c2
 have c1:=c1.args (.cons (lU.lst (.cons (hP ⟨3,wkX,false,0,0,iR,dF⟩ _ _ (.refl _) (.nil 3)) .nil)) (.cons (lU.lst (.cons (.cons (.refl _) (.cons (lU.lst (.cons (hP (aQu wkX) _ _ (.refl _) (.nil 3)) (.cons (hP (aQu wkY) _ _ (.refl _) (.nil 3)) .nil))) .nil)) .nil)) .nil))
 have c2:=c2.args (.cons (lU.lst (.cons (hP ⟨3,wkX,false,0,0,iR,dF⟩ _ _ (.refl _) (.nil 3)) (.cons (hP ⟨3,wkY,true,2,0,iR,dF⟩ _ _ (.refl _) (.nil 3)) .nil))) (.cons (.nil 2) .nil))
 simp only[PartD.dv,aTw,aTx,wkX,wkY,aQu,RowD.dv,OpenD.dv,BatD.dv,ProdD.dv,SeenD.dv,RecD.dv,List.map_cons,List.map_nil,iR,dF,Option.isSome_some,if_true,Option.getD_some] at c1 c2
 (refine aW.of_body Tryz.func21 rfl rfl Tryz.ntmps21 Tryz.results21 (by simp) ?_)
 (refine bP ?_)
 (refine aT ?_;try with_reducible exact tt)
end Go.Proofs.YtpklhnpchhaccaaGreatDoor
