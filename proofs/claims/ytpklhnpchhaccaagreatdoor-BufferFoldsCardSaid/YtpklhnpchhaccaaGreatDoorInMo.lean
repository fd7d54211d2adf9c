/- The abstract machine (InA, InB). -/
import Derived.Test.YtpklhnpchhaccaaGreatDoorApA
import Derived.Test.YtpklhnpchhaccaaGreatDoorErN
namespace Go.Proofs.YtpklhnpchhaccaaGreatDoor
open Go Go.RowKit
set_option maxHeartbeats 4000000
set_option maxRecDepth 100000
set_option linter.unusedVariables false
set_option linter.unusedSimpArgs false
theorem aHe {α:Type} (p:α→Bool) (l:List α) (k:Nat) (h:k<l.length):(l.take (k+1)).any p=((l.take k).any p || p l[k]):=by
 rw[List.take_succ_eq_append_getElem h,List.any_append];simp
theorem aPy (l:List OpenD) (f:Nat) (caps:List D) (pr:OpenD→Bool) (hl:l.length≤100000) (hf:∀ x ∈ l,aW Tryz.prog f (.agg x.dv::caps) (dM (pr x))) :
  aW Tryz.prog 175 [.lst 3 (l.map OpenD.dv),.fn (.func f) caps] (int (l.findIdx pr:Nat)):=by
 (refine aW.of_body Tryz.func175 rfl rfl Tryz.ntmps175 Tryz.results175 (by simp) ?_)
 (refine bP ?_)
 refine Wp.loop (fun k:Nat=>⟨iH [(0,.c (.d (.lst 3 (l.map OpenD.dv)))),(1,.c (.d (.fn (.func f) caps))),(7,.c (.d (.lst 3 (l.map OpenD.dv)))),(8,vi .i64 l.length),(9,vi .i64 k)],bI [],0,21,0⟩) (fun k=>k≤l.length∧(l.take k).any pr=false) (fun k=>l.length - k) 0 ⟨Nat.zero_le _,rfl⟩ ?_ ?_
 ·refine aD.keep rfl rfl ?_
  (refine aT ?_;try with_reducible exact tt)
 rintro k ⟨hk,hall⟩
 (refine bP ?_)
 refine Wp.cond (by (refine aT ?_);rfl) (fun h=>?_) (fun h=>?_)
 ·have hlt:k<l.length:=by simpa using h
  have c1:=hf l[k] (List.getElem_mem hlt)
  have hs:=aHe pr l k hlt
  have hix:pr l[k]=true→l.findIdx pr=k:=fun hp=>by
   rw[List.findIdx_eq hlt]
   refine⟨hp,fun j hj=>?_⟩
   have:=List.any_eq_false.1 hall (l[j]) (by rw[List.mem_take_iff_getElem];exact⟨j,by omega,rfl⟩)
   simpa using this
  have hge:l[k]? = some l[k]:=List.getElem?_eq_getElem hlt
  generalize l[k]=p at *
  simp only[OpenD.dv] at c1
  (refine gO (ai hge (@OpenD.dv.eq_1)) ?_)
  refine Wp.cond (by (refine aT ?_);rfl) (fun h=>?_) (fun h=>?_)
  ·have h1:=hix h
   (refine bP ?_)
   (refine rO (h1) ?_;try with_reducible exact tt)
  ·(refine bP ?_)
   refine⟨k+1,⟨by omega,by rw[hs,hall,h];rfl⟩,by omega,aD.keep rfl rfl ?_⟩
   (refine aT ?_;try with_reducible exact tt)
 ·have hall:l.any pr=false:=by
   rw[List.take_of_length_le (by simp only[decide_eq_false_iff_not] at h;omega)] at hall;exact hall
  have hix:l.findIdx pr=l.length:=List.findIdx_eq_length.2 (fun x hx=>by have:=List.any_eq_false.1 hall x hx;simpa using this)
  (refine bP ?_)
  (refine rO (hix) ?_;try with_reducible exact tt)
theorem aLw (o:OpenD) (pid:Int):aW Tryz.prog 311 [.agg o.dv,.ptr [int pid] 0] (dM (decide (pid≤o.pid))):=by
 (refine aW.of_body Tryz.func311 rfl rfl Tryz.ntmps311 Tryz.results311 (by simp) ?_)
 (refine gO (@OpenD.dv.eq_1) ?_)
 (refine aT ?_;try with_reducible exact tt)
def aZ (l:List OpenD) (pid:Int):Nat:=l.findIdx (fun x=>decide (pid≤x.pid))
def bL (l:List OpenD) (pid:Int):Bool:=match l[aZ l pid]? with
 | some o=>o.pid == pid
 | none=>false
theorem rQ (l:List OpenD) (pid:Int):aZ l pid≤l.length:=List.findIdx_le_length
abbrev aNb (p:PartD):D:=.ptr p.dv 0
theorem rR (p:PartD) (pid:Int) (hl:p.opens.length≤100000):aW Tryz.prog 302 [aNb p,int pid] (.tup [int (aZ p.opens pid:Nat),dM (bL p.opens pid)]):=by
 have c1:=aPy p.opens 311 [.ptr [int pid] 0] (fun x=>decide (pid≤x.pid)) hl (fun x _=>aLw x pid)
 have hle:=rQ p.opens pid
 unfold bL
 change aW _ _ _ (int (aZ p.opens pid:Nat)) at c1
 generalize aZ p.opens pid=i at *
 (refine aW.of_body Tryz.func302 rfl rfl Tryz.ntmps302 Tryz.results302 (by simp) ?_)
 (refine gO (@PartD.dv.eq_1) ?_)
 (refine Wp.weak (aD.freeze (id:=0) (by (refine aT ?_);rfl) (by (refine aT ?_);rfl)) ?_)
 cases hg:p.opens[i]? with
 | none =>
  have hi:i=p.opens.length:=by
   have:=List.getElem?_eq_none_iff.1 hg;omega
  have d1:decide ((i:Int)<(p.opens.length:Int))=false:=decide_eq_false (by omega)
  (refine gO (ai @PartD.dv.eq_1 (d1)) ?_)
  (refine aT ?_;try with_reducible exact tt)
 | some o =>
  have hlt:=(List.getElem?_eq_some_iff.1 hg).1
  have d1:decide ((i:Int)<(p.opens.length:Int))=true:=decide_eq_true (by omega)
  (refine gO (ai @PartD.dv.eq_1 (ai d1 (ai hg (@OpenD.dv.eq_1)))) ?_)
  (refine aT ?_;try with_reducible exact tt)
theorem rB (p:PartD) (n:Int):aW Tryz.prog 289 [aNb p,int n] (dM (decide (p.fin≤IntKind.i64.wrap (1048576 - n)))):=by
 (refine aW.of_body Tryz.func289 rfl rfl Tryz.ntmps289 Tryz.results289 (by simp) ?_)
 (refine gO (@PartD.dv.eq_1) ?_)
 (refine aT ?_;try with_reducible exact tt)
theorem oQ (s:List UInt8):aW Tryz.prog 290 [str s] (tO (str s) 70):=by
 (refine aW.of_body Tryz.func290 rfl rfl Tryz.ntmps290 Tryz.results290 (by simp) ?_)
 (refine bP ?_)
 (refine aT ?_;try with_reducible exact tt)
def qN (b:BatD) (base:Int) (i:Nat):RowD:=match b.recs[i]? with
 | some r=>⟨if base = -1 then -1 else IntKind.i64.wrap (base+i),b.pid,IntKind.i64.wrap (b.seq+i),r.key,r.value⟩
 | none=>⟨0,0,0,[],[]⟩
def nX (b:BatD) (base:Int) (k:Nat):List RowD:=(List.range k).map (qN b base)
def cS (b:BatD) (base:Int):List RowD:=nX b base b.recs.length
theorem pA (b:BatD) (base:Int) (k:Nat):(nX b base k).length=k:=by simp[nX]
theorem aBx (b:BatD) (base:Int) (k:Nat):nX b base (k+1)=nX b base k++[qN b base k]:=by simp[nX,List.range_succ]
theorem aBy (b:BatD) (base:Int):nX b base 0=[]:=rfl
theorem aJo (b:BatD) (base:Int) (hl:b.recs.length≤100000):aW Tryz.prog 208 [.agg b.dv,int base] (.lst 5 ((cS b base).map RowD.dv)):=by
 have hb0:56*b.recs.length≤140737488355328:=by omega
 (refine aW.of_body Tryz.func208 rfl rfl Tryz.ntmps208 Tryz.results208 (by simp) ?_)
 (refine gO (ai @BatD.dv.eq_1 (hb0)) ?_)
 refine Wp.loop (fun k:Nat=>⟨iH [(1,vi .i64 base),(2,.c (.own 0 0)),(5,.c (.app 1 5 ((nX b base k).map RowD.dv))),(15,vi .i64 b.recs.length),(16,vi .i64 k)],bI [(0,.cells (b.dv.map .d)),(1,.row 47 5 k)],2,49,0⟩) (fun k=>k≤b.recs.length) (fun k=>b.recs.length - k) 0 (Nat.zero_le _) ?_ ?_
 ·refine aD.keep rfl rfl ?_
  (refine rO (ai @BatD.dv.eq_1 (ai @aBy (@List.map_nil.{0,0}))) ?_;try with_reducible exact tt)
 intro k hk
 (refine bP ?_)
 refine Wp.cond (by (refine aT ?_);rfl) (fun h=>?_) (fun h=>?_)
 ·have hlt:k<b.recs.length:=by simpa using h
  have hge:b.recs[k]? = some b.recs[k]:=List.getElem?_eq_getElem hlt
  have hr:qN b base k=⟨if base = -1 then -1 else IntKind.i64.wrap (base+k),b.pid,IntKind.i64.wrap (b.seq+k),b.recs[k].key,b.recs[k].value⟩:=by simp only[qN,hge]
  have hs:=aBx b base k
  have hll:=pA b base k
  rw[hr] at hs
  have hbb:(k+1)*56≤140737488355328:=by omega
  generalize b.recs[k]=r at *
  by_cases h1:base = -1
  ·have e1:(base != -1)=false:=by simpa using h1
   rw[if_pos h1] at hs
   subst h1
   (refine gO (ai @BatD.dv.eq_1 (ai hge (ai @RecD.dv.eq_1 (ai e1 (ai hll (hbb)))))) ?_)
   refine⟨k+1,by omega,by omega,aD.keep rfl rfl ?_⟩
   (refine rO (ai @BatD.dv.eq_1 (ai hs (ai @RowD.dv.eq_1 (ai @List.map_append.{0,0} (ai @List.map_cons.{0,0} (@List.map_nil.{0,0})))))) ?_;try with_reducible exact tt)
  ·have e1:(base != -1)=true:=by simpa using h1
   rw[if_neg h1] at hs
   (refine gO (ai @BatD.dv.eq_1 (ai hge (ai @RecD.dv.eq_1 (ai e1 (ai hll (hbb)))))) ?_)
   refine⟨k+1,by omega,by omega,aD.keep rfl rfl ?_⟩
   (refine rO (ai @BatD.dv.eq_1 (ai hs (ai @RowD.dv.eq_1 (ai @List.map_append.{0,0} (ai @List.map_cons.{0,0} (@List.map_nil.{0,0})))))) ?_;try with_reducible exact tt)
 ·have hk2:k=b.recs.length:=by simp only[decide_eq_false_iff_not] at h;omega
  subst hk2
  (refine bP ?_)
  (refine rO (@cS.eq_1) ?_;try with_reducible exact tt)
theorem aJi (b:BatD) (base:Int) (hl:b.recs.length≤100000):aW Tryz.prog 56 [.agg b.dv,int base] (.lst 5 ((cS b base).map RowD.dv)):=by
 (refine aW.of_body Tryz.func56 rfl rfl Tryz.ntmps56 Tryz.results56 (by simp) ?_)
 (refine gO (@BatD.dv.eq_1) ?_)
 refine Wp.weak (aD.nilApp (t:=5) (τ:=1) 47 5 (by (refine aT ?_;try with_reducible exact tt)) (by (refine aT ?_;try with_reducible exact tt))) ?_
 refine Wp.loop (fun k:Nat=>⟨iH [(1,vi .i64 base),(2,.c (.own 0 0)),(5,.c (.app 1 5 ((nX b base k).map RowD.dv))),(6,vi .i64 k)],bI [(0,.cells (b.dv.map .d)),(1,.row 47 5 k)],2,45,0⟩) (fun k=>k≤b.recs.length) (fun k=>b.recs.length - k) 0 (Nat.zero_le _) ?_ ?_
 ·refine aD.keep rfl rfl ?_
  (refine rO (ai @BatD.dv.eq_1 (ai @aBy (@List.map_nil.{0,0}))) ?_;try with_reducible exact tt)
 intro k hk
 (refine gO (@BatD.dv.eq_1) ?_)
 refine Wp.cond (by (refine aT ?_);rfl) (fun h=>?_) (fun h=>?_)
 ·have hlt:k<b.recs.length:=by simpa using h
  have hge:b.recs[k]? = some b.recs[k]:=List.getElem?_eq_getElem hlt
  have hr:qN b base k=⟨if base = -1 then -1 else IntKind.i64.wrap (base+k),b.pid,IntKind.i64.wrap (b.seq+k),b.recs[k].key,b.recs[k].value⟩:=by simp only[qN,hge]
  have hs:=aBx b base k
  have hll:=pA b base k
  rw[hr] at hs
  have hbb:(k+1)*56≤140737488355328:=by omega
  generalize b.recs[k]=r at *
  by_cases h1:base = -1
  ·have e1:(base == -1)=true:=by simpa using h1
   rw[if_pos h1] at hs
   (refine gO (ai @BatD.dv.eq_1 (ai hge (ai @RecD.dv.eq_1 (ai e1 (ai hll (hbb)))))) ?_)
   refine⟨k+1,by omega,by omega,aD.keep rfl rfl ?_⟩
   (refine rO (ai @BatD.dv.eq_1 (ai hs (ai @RowD.dv.eq_1 (ai @List.map_append.{0,0} (ai @List.map_cons.{0,0} (@List.map_nil.{0,0})))))) ?_;try with_reducible exact tt)
  ·have e1:(base == -1)=false:=by simpa using h1
   rw[if_neg h1] at hs
   (refine gO (ai @BatD.dv.eq_1 (ai hge (ai @RecD.dv.eq_1 (ai e1 (ai hll (hbb)))))) ?_)
   refine⟨k+1,by omega,by omega,aD.keep rfl rfl ?_⟩
   (refine rO (ai @BatD.dv.eq_1 (ai hs (ai @RowD.dv.eq_1 (ai @List.map_append.{0,0} (ai @List.map_cons.{0,0} (@List.map_nil.{0,0})))))) ?_;try with_reducible exact tt)
 ·have hk2:k=b.recs.length:=by simp only[decide_eq_false_iff_not] at h;omega
  subst hk2
  (refine bP ?_)
  (refine rO (@cS.eq_1) ?_;try with_reducible exact tt)
end Go.Proofs.YtpklhnpchhaccaaGreatDoor
