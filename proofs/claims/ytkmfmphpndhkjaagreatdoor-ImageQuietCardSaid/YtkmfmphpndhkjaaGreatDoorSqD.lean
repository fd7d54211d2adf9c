/- The reference of layer 10: place,Set,Find,May,Same,Great;great batches. -/
import Derived.Test.YtkmfmphpndhkjaaGreatDoorSqM
namespace Go.Proofs.YtkmfmphpndhkjaaGreatDoor
open Go Go.RowKit
set_option maxHeartbeats 4000000
set_option maxRecDepth 100000
set_option linter.unusedVariables false
set_option linter.unusedSimpArgs false
theorem aCn (l:List ProdD) (pid:Int) (hs:SmallL l):aJ Tryz.prog 39 [.lst 4 (l.map ProdD.dv),int pid] (.tup [.agg (eI l pid).1.dv,dC (eI l pid).2]):=by
 have hl:=hs.len
 (refine aJ.of_bodyW Tryz.func39 rfl rfl Tryz.ntmps39 Tryz.results39 (by simp) ?_)
 (refine aI ?_;try with_reducible exact tt)
 refine Wp.loop (fun k:Nat=>⟨dI [(0,.c (.d (.lst 4 (l.map ProdD.dv)))),(1,vi .i64 pid),(4,.c (.own 0 0)),(6,vi .i64 k)],bJ [(0,.cells [.d (int 0),.d (int 0),.d (int 0),.d bU])],1,25,0⟩) (fun k=>k≤l.length∧(l.take k).find? (fun p=>p.pid == pid)=none) (fun k=>l.length - k) 0 ⟨Nat.zero_le _,rfl⟩ ?_ ?_
 ·refine aD.keep rfl rfl ?_
  (refine aK ?_;try with_reducible exact tt)
 rintro k ⟨hk,hall⟩
 (refine aI ?_;try with_reducible exact tt)
 refine Wp.cond (by (refine aK ?_;try with_reducible exact tt);rfl) (fun h=>?_) (fun h=>?_)
 ·have hlt:k<l.length:=by simpa using h
  have hge:l[k]? = some l[k]:=List.getElem?_eq_getElem hlt
  have hf1:(l[k].pid == pid)=true→eI l pid=(l[k],true):=fun hp=>by
   have:l.find? (fun p=>p.pid == pid)=some l[k]:=by
    conv=>lhs;rw[← List.take_append_drop k l,List.drop_eq_getElem_cons hlt]
    rw[List.find?_append,hall,List.find?_cons,hp];rfl
   simp only[eI,this]
  have hn1:(l[k].pid == pid)=false→(l.take (k+1)).find? (fun p=>p.pid == pid)=none:=fun hp=>by
   rw[aF l k hlt,List.find?_append,hall,List.find?_cons,hp];rfl
  generalize l[k]=x at *
  cases hq:(x.pid == pid) with
  | true =>
   rw[hf1 hq]
   (refine gO (ai hge (ai @ProdD.dv.eq_1 (hq))) ?_;try with_reducible exact tt)
   (refine rO (@ProdD.dv.eq_1) ?_;try with_reducible exact tt)
   exact⟨_,rfl,fun K v h=>h⟩
  | false =>
   have hn2:=hn1 hq
   (refine gO (ai hge (ai @ProdD.dv.eq_1 (hq))) ?_;try with_reducible exact tt)
   refine⟨k+1,⟨by omega,hn2⟩,by omega,aD.keep rfl rfl ?_⟩
   (refine aK ?_;try with_reducible exact tt)
 ·have hall2:l.find? (fun p=>p.pid == pid)=none:=by
   rw[List.take_of_length_le (by simp only[decide_eq_false_iff_not] at h;omega)] at hall;exact hall
  have e1:eI l pid=(pzD,false):=by simp only[eI,hall2]
  rw[e1]
  (refine aI ?_;try with_reducible exact tt)
  (refine aK ?_;try with_reducible exact tt)
  exact⟨_,rfl,jA.tup (.cons aU4 (.cons (.refl _) .nil))⟩
theorem aFn (l:List ProdD) (hs:SmallL l):aJ Tryz.prog 36 [.lst 4 (l.map ProdD.dv)] (dC (sO l)):=by
 have hsl:=hs.len
 (refine aJ.of_body Tryz.func36 rfl rfl Tryz.ntmps36 Tryz.results36 (by simp) ?_)
 (refine aI ?_;try with_reducible exact tt)
 refine Wp.loop (fun k:Nat=>⟨dI [(0,.c (.d (.lst 4 (l.map ProdD.dv)))),(3,vi .i64 (jH l k)),(4,vi .i64 k)],bJ [],0,31,0⟩) (fun k=>k≤l.length∧∀ j p,j<k→l[j]? = some p→(decide (p.pid≤jH l j) || !cM p)=false) (fun k=>l.length - k) 0 ⟨Nat.zero_le _,fun j p hj=>by omega⟩ ?_ ?_
 ·refine aD.keep rfl rfl ?_
  (refine rO (ai @jH.eq_1 (@jH.eq_2)) ?_;try with_reducible exact tt)
 rintro k ⟨hk,hall⟩
 (refine aI ?_;try with_reducible exact tt)
 refine Wp.cond (by (refine aK ?_;try with_reducible exact tt);rfl) (fun h=>?_) (fun h=>?_)
 ·have hlt:k<l.length:=by simpa using h
  have hge:l[k]? = some l[k]:=List.getElem?_eq_getElem hlt
  have c1:=aK8 l[k] (hs.seen _ (List.getElem_mem hlt))
  have hln:jH l (k+1)=l[k].pid:=by simp only[jH,hge]
  generalize l[k]=p at *
  simp only[ProdD.dv] at c1
  (refine gO (ai hge (@ProdD.dv.eq_1)) ?_;try with_reducible exact tt)
  (first|refine Wp.sto 25 (vb (!cM p || decide (p.pid≤jH l k))) ?_ ?_|refine Wp.rtoS 25 (vb (!cM p || decide (p.pid≤jH l k))) ?_ ?_|(refine Wp.seq ?_;first|refine Wp.sto 25 (vb (!cM p || decide (p.pid≤jH l k))) ?_ ?_|refine Wp.rtoS 25 (vb (!cM p || decide (p.pid≤jH l k))) ?_ ?_))
  ·((rcases Bool.eq_false_or_eq_true (!cM p) with hL1|hL1)<;>(rcases Bool.eq_false_or_eq_true (decide (p.pid≤jH l k)) with hL2|hL2)<;>(((refine rO (ai hL1 (ai hL2 (ai @ProdD.dv.eq_1 (hge)))) ?_;try with_reducible exact tt);(repeat (refine aQ (by assumption) ?_;(refine rO (ai hL1 (ai hL2 (ai @ProdD.dv.eq_1 (hge)))) ?_;try with_reducible exact tt))));all_goals (exact (show aH _ _=true by kernel_rfl))))
  refine Wp.cond (by (refine aK ?_;try with_reducible exact tt);rfl) (fun h=>?_) (fun h=>?_)
  ·have hf:sO l=false:=by
    cases hq:sO l with
    | false=>rfl
    | true=>have:=(vI l).1 hq k p hge;rw[Bool.or_comm] at this;rw[this] at h;cases h
   (refine aI ?_;try with_reducible exact tt)
   (refine rO (hf) ?_;try with_reducible exact tt)
  ·have h5:=h
   rw[Bool.or_comm] at h5
   (refine gO (ai @ProdD.dv.eq_1 (hge)) ?_;try with_reducible exact tt)
   refine⟨k+1,⟨by omega,fun j x hj hx=>?_⟩,by omega,aD.keep rfl rfl ?_⟩
   ·rcases Nat.lt_or_ge j k with h2|h2
    ·exact hall j x h2 hx
    ·obtain rfl:j=k:=by omega
     rw[hge] at hx;cases hx;exact h5
   (refine rO (hln) ?_;try with_reducible exact tt)
 ·have hf:sO l=true:=(vI l).2 (fun j p hp=>hall j p (by have:=(List.getElem?_eq_some_iff.1 hp).1;simp only[decide_eq_false_iff_not] at h;omega) hp)
  (refine aI ?_;try with_reducible exact tt)
  (refine rO (hf) ?_;try with_reducible exact tt)
theorem aL2 (a b:List ProdD) (hs:SmallL a):aJ Tryz.prog 59 [.lst 4 (a.map ProdD.dv),.lst 4 (b.map ProdD.dv)] (dC (decide (a=b))):=by
 have hl:=hs.len
 (refine aJ.of_body Tryz.func59 rfl rfl Tryz.ntmps59 Tryz.results59 (by simp) ?_)
 by_cases hlen:a.length=b.length
 ·have hne:((a.length:Int) != (b.length:Int))=false:=by simp[hlen]
  (refine gO (hne) ?_;try with_reducible exact tt)
  refine Wp.loop (fun k:Nat=>⟨dI [(0,.c (.d (.lst 4 (a.map ProdD.dv)))),(1,.c (.d (.lst 4 (b.map ProdD.dv)))),(5,vi .i64 k)],bJ [],0,27,0⟩) (fun k=>k≤a.length∧a.take k=b.take k) (fun k=>a.length - k) 0 ⟨Nat.zero_le _,rfl⟩ ?_ ?_
  ·refine aD.keep rfl rfl ?_
   (refine aK ?_;try with_reducible exact tt)
  rintro k ⟨hk,hall⟩
  (refine aI ?_;try with_reducible exact tt)
  refine Wp.cond (by (refine aK ?_;try with_reducible exact tt);rfl) (fun h=>?_) (fun h=>?_)
  ·have hlt:k<a.length:=by simpa using h
   have hlt2:k<b.length:=by omega
   have g1:a[k]? = some a[k]:=List.getElem?_eq_getElem hlt
   have g2:b[k]? = some b[k]:=List.getElem?_eq_getElem hlt2
   have t1:=aF a k hlt
   have t2:=aF b k hlt2
   have hne:a[k]≠b[k]→¬ a=b:=fun hx e=>by subst e;exact hx rfl
   have c1:=aFq a[k] b[k] (by have:=hs.seen _ (List.getElem_mem hlt);omega)
   generalize a[k]=x at *
   generalize b[k]=y at *
   simp only[ProdD.dv] at c1
   (refine gO (ai g1 (ai g2 (@ProdD.dv.eq_1))) ?_;try with_reducible exact tt)
   refine Wp.cond (by (refine aK ?_;try with_reducible exact tt);rfl) (fun h=>?_) (fun h=>?_)
   ·have hf:decide (a=b)=false:=decide_eq_false (hne (by simpa using h))
    (refine aI ?_;try with_reducible exact tt)
    (refine rO (hf) ?_;try with_reducible exact tt)
   ·simp only[Bool.not_eq_false',decide_eq_true_eq] at h
    (refine aI ?_;try with_reducible exact tt)
    refine⟨k+1,⟨by omega,by rw[t1,t2,hall,h]⟩,by omega,aD.keep rfl rfl ?_⟩
    (refine aK ?_;try with_reducible exact tt)
  ·have hk:k=a.length:=by simp only[decide_eq_false_iff_not] at h;omega
   have hf:decide (a=b)=true:=by
    rw[List.take_of_length_le (by omega),List.take_of_length_le (by omega)] at hall;simp[hall]
   (refine aI ?_;try with_reducible exact tt)
   (refine rO (hf) ?_;try with_reducible exact tt)
 ·have hne:((a.length:Int) != (b.length:Int))=true:=by simp;omega
  have hf:decide (a=b)=false:=decide_eq_false (fun e=>hlen (by rw[e]))
  (refine gO (hne) ?_;try with_reducible exact tt)
  (refine rO (hf) ?_;try with_reducible exact tt)
end Go.Proofs.YtkmfmphpndhkjaaGreatDoor
