/- The abstract machine (RgE, RgF, RgH, RgI, RgG, RgK). -/
import Derived.Test.YtpklhnpchhaccaaGreatDoorRgM
import Derived.Test.YtpklhnpchhaccaaGreatDoorCpMc
import Derived.Test.YtpklhnpchhaccaaGreatDoorMpK
namespace Go.Proofs.YtpklhnpchhaccaaGreatDoor
open Go Go.RowKit
set_option maxHeartbeats 8000000
set_option maxRecDepth 100000
set_option linter.unusedVariables false
set_option linter.unusedSimpArgs false
theorem lZ (e:EntD) (x y:D) (hx:qY x (.lst 2 (e.b.recs.map RecD.dv))) (hy:qY y (.lst 3 (e.prod.seen.map SeenD.dv))):AllLe [i8 e.kind,int e.b.pid,int e.b.epoch,int e.b.seq,gD e.b.txn,x,gD e.yes,int e.next,int e.off,int e.row.off,int e.row.pid,int e.row.seq,str e.row.key,str e.row.value,int e.prod.pid,int e.prod.epoch,int e.prod.next,y] e.dv :=
 .cons (.refl _) (.cons (.refl _) (.cons (.refl _) (.cons (.refl _) (.cons (.refl _) (.cons hx (.cons (.refl _) (.cons (.refl _) (.cons (.refl _) (.cons (.refl _) (.cons (.refl _) (.cons (.refl _) (.cons (.refl _) (.cons (.refl _) (.cons (.refl _) (.cons (.refl _) (.cons (.refl _) (.cons hy .nil)))))))))))))))))

structure PSmall (p:PartD):Prop where
 fin:0≤p.fin∧p.fin≤1048576
 opens:p.opens.length≤1000
 rows:p.rows.length≤100000
 prods:SmallL p.prods
 bats:∀ o ∈ p.opens,o.bats.length≤8
 recs:∀ o ∈ p.opens,∀ b ∈ o.bats,b.recs.length≤4
theorem FOk.ps {k:Nat} {p:PartD} (h:FOk k p) (hk:k≤1000):PSmall p:=⟨h.fin,by have:=h.opens;omega,by have:=h.rows;omega,h.small (by omega),h.bats,h.recs⟩
theorem rD (a b:List RowD) (hl:a.length≤1000000):bF Tryz.prog 55 [.lst 5 (a.map RowD.dv),.lst 5 (b.map RowD.dv)] (gD (decide (a=b))):=by
 (refine bF.of_body Tryz.func55 rfl rfl Tryz.ntmps55 Tryz.results55 (by simp) ?_)
 by_cases hlen:a.length=b.length
 ·have hne:((a.length:Int) != (b.length:Int))=false:=by simp[hlen]
  (refine gO (hne) ?_)
  refine Wp.loop (fun k:Nat=>⟨iC [(0,.c (.d (.lst 5 (a.map RowD.dv)))),(1,.c (.d (.lst 5 (b.map RowD.dv)))),(5,vi .i64 k)],bK [],0,26,0⟩) (fun k=>k≤a.length∧a.take k=b.take k) (fun k=>a.length - k) 0 ⟨Nat.zero_le _,rfl⟩ ?_ ?_
  ·refine aD.keep rfl rfl ?_
   (refine aY ?_;try with_reducible exact tt)
  rintro k ⟨hk,hall⟩
  (refine cA ?_)
  refine Wp.cond (by (refine aY ?_);rfl) (fun h=>?_) (fun h=>?_)
  ·have hlt:k<a.length:=by simpa using h
   have hlt2:k<b.length:=by omega
   have g1:a[k]? = some a[k]:=List.getElem?_eq_getElem hlt
   have g2:b[k]? = some b[k]:=List.getElem?_eq_getElem hlt2
   have t1:=aU a k hlt
   have t2:=aU b k hlt2
   have hne:a[k]≠b[k]→¬ a=b:=fun hx e=>by subst e;exact hx rfl
   generalize a[k]=x at *
   generalize b[k]=y at *
   (refine gO (ai g1 (ai g2 (ai @RowD.dv.eq_1 (vD)))) ?_)
   refine Wp.cond (by (refine aY ?_);rfl) (fun h=>?_) (fun h=>?_)
   ·have hf:decide (a=b)=false:=decide_eq_false (hne (by simpa using h))
    (refine cA ?_)
    (refine rO (hf) ?_;try with_reducible exact tt)
   ·simp only[Bool.not_eq_false',decide_eq_true_eq] at h
    (refine cA ?_)
    refine⟨k+1,⟨by omega,by rw[t1,t2,hall,h]⟩,by omega,aD.keep rfl rfl ?_⟩
    (refine aY ?_;try with_reducible exact tt)
  ·have hk:k=a.length:=by simp only[decide_eq_false_iff_not] at h;omega
   have hf:decide (a=b)=true:=by
    rw[List.take_of_length_le (by omega),List.take_of_length_le (by omega)] at hall;simp[hall]
   (refine cA ?_)
   (refine rO (hf) ?_;try with_reducible exact tt)
 ·have hne:((a.length:Int) != (b.length:Int))=true:=by simp;omega
  have hf:decide (a=b)=false:=decide_eq_false (fun e=>hlen (by rw[e]))
  (refine gO (hne) ?_)
  (refine rO (hf) ?_;try with_reducible exact tt)
def uO (x y:OpenD):Bool:=x.pid != y.pid || x.epoch != y.epoch || (x.bats.length:Int) != (y.bats.length:Int)
structure SmallOs (l:List OpenD):Prop where
 len:l.length≤100000
 bats:∀ o ∈ l,o.bats.length≤100000
 recs:∀ o ∈ l,∀ b ∈ o.bats,b.recs.length≤100000
theorem xE (a b:List OpenD) (hs:SmallOs a):bF Tryz.prog 32 [.lst 3 (a.map OpenD.dv),.lst 3 (b.map OpenD.dv)] (gD (decide (a=b))):=by
 have hl:=hs.len
 (refine bF.of_body Tryz.func32 rfl rfl Tryz.ntmps32 Tryz.results32 (by simp) ?_)
 by_cases hlen:a.length=b.length
 ·have hne:((a.length:Int) != (b.length:Int))=false:=by simp[hlen]
  (refine gO (hne) ?_)
  refine Wp.loop (fun k:Nat=>⟨iC [(0,.c (.d (.lst 3 (a.map OpenD.dv)))),(1,.c (.d (.lst 3 (b.map OpenD.dv)))),(5,vi .i64 k)],bK [],0,85,0⟩) (fun k=>k≤a.length∧a.take k=b.take k) (fun k=>a.length - k) 0 ⟨Nat.zero_le _,rfl⟩ ?_ ?_
  ·refine aD.keep rfl rfl ?_
   (refine aY ?_;try with_reducible exact tt)
  rintro k ⟨hk,hall⟩
  (refine cA ?_)
  refine Wp.cond (by (refine aY ?_);rfl) (fun h=>?_) (fun h=>?_)
  ·have hlt:k<a.length:=by simpa using h
   have hlt2:k<b.length:=by omega
   have g1:a[k]? = some a[k]:=List.getElem?_eq_getElem hlt
   have g2:b[k]? = some b[k]:=List.getElem?_eq_getElem hlt2
   have t1:=aU a k hlt
   have t2:=aU b k hlt2
   have hne:a[k]≠b[k]→¬ a=b:=fun hx e=>by subst e;exact hx rfl
   have hb1:=hs.bats _ (List.getElem_mem hlt)
   have hb2:=hs.recs _ (List.getElem_mem hlt)
   generalize a[k]=x at *
   generalize b[k]=y at *
   (refine cA ?_)
   (first|refine Wp.stoD 56 (vb (uO x y)) aI ?_ ?_|refine Wp.rtoDS 56 (vb (uO x y)) aI ?_ ?_|(refine Wp.seq ?_;first|refine Wp.stoD 56 (vb (uO x y)) aI ?_ ?_|refine Wp.rtoDS 56 (vb (uO x y)) aI ?_ ?_))
   ·unfold uO;((rcases Bool.eq_false_or_eq_true (x.pid != y.pid) with hL1|hL1)<;>(rcases Bool.eq_false_or_eq_true (x.epoch != y.epoch) with hL2|hL2)<;>(rcases Bool.eq_false_or_eq_true ((x.bats.length:Int) != (y.bats.length:Int)) with hL3|hL3)<;>(((refine rO (ai hL1 (ai hL2 (ai hL3 (ai @OpenD.dv.eq_1 (ai g1 (g2)))))) ?_);(repeat (refine eA (by assumption) ?_;(refine rO (ai hL1 (ai hL2 (ai hL3 (ai @OpenD.dv.eq_1 (ai g1 (g2)))))) ?_))));all_goals (exact (show bI _ _=true by kernel_rfl))))
   refine Wp.cond (by (refine aY ?_);rfl) (fun h=>?_) (fun h=>?_)
   ·have hf:decide (a=b)=false:=by
     refine decide_eq_false (hne (fun e=>?_))
     subst e
     simp[uO] at h
    (refine cA ?_)
    (refine rO (hf) ?_;try with_reducible exact tt)
   simp only[uO,Bool.or_eq_false_iff,bne_eq_false_iff_eq] at h
   obtain⟨⟨h1,h2⟩,h3⟩:=h
   have hbl:x.bats.length=y.bats.length:=by omega
   (refine cA ?_)
   refine Wp.loop (fun j:Nat=>⟨iC [(0,.c (.d (.lst 3 (a.map OpenD.dv)))),(1,.c (.d (.lst 3 (b.map OpenD.dv)))),(5,vi .i64 k),(6,vi .i64 j)],bK [],0,85,0⟩) (fun j=>j≤x.bats.length∧x.bats.take j=y.bats.take j) (fun j=>x.bats.length - j) 0 ⟨Nat.zero_le _,rfl⟩ ?_ ?_
   ·refine aD.keep rfl rfl ?_
    (refine aY ?_;try with_reducible exact tt)
   rintro j ⟨hj,hallj⟩
   (refine gO (ai g1 (@OpenD.dv.eq_1)) ?_)
   refine Wp.cond (by (refine aY ?_);rfl) (fun h=>?_) (fun h=>?_)
   ·have hjlt:j<x.bats.length:=by simpa using h
    have hjlt2:j<y.bats.length:=by omega
    have gj1:x.bats[j]? = some x.bats[j]:=List.getElem?_eq_getElem hjlt
    have gj2:y.bats[j]? = some y.bats[j]:=List.getElem?_eq_getElem hjlt2
    have s1:=aU x.bats j hjlt
    have s2:=aU y.bats j hjlt2
    have hnej:x.bats[j]≠y.bats[j]→¬ x=y:=fun hx e=>by subst e;exact hx rfl
    have c1:=zZ x.bats[j] y.bats[j] (by have:=hb2 _ (List.getElem_mem hjlt);omega)
    generalize x.bats[j]=u at *
    generalize y.bats[j]=v at *
    simp only[BatD.dv] at c1
    (refine gO (ai g1 (ai g2 (ai gj1 (ai gj2 (ai @OpenD.dv.eq_1 (@BatD.dv.eq_1)))))) ?_)
    refine Wp.cond (by (refine aY ?_);rfl) (fun h=>?_) (fun h=>?_)
    ·have hf:decide (a=b)=false:=decide_eq_false (hne (hnej (by simpa using h)))
     (refine cA ?_)
     (refine rO (hf) ?_;try with_reducible exact tt)
    ·simp only[Bool.not_eq_false',decide_eq_true_eq] at h
     (refine cA ?_)
     refine⟨j+1,⟨by omega,by rw[s1,s2,hallj,h]⟩,by omega,aD.keep rfl rfl ?_⟩
     (refine aY ?_;try with_reducible exact tt)
   ·have hj:j=x.bats.length:=by simp only[decide_eq_false_iff_not] at h;omega
    have hxy:x=y:=by
     rw[List.take_of_length_le (by omega),List.take_of_length_le (by omega)] at hallj
     obtain⟨x1,x2,x3⟩:=x
     obtain⟨y1,y2,y3⟩:=y
     simp only at h1 h2 hallj
     subst h1 h2 hallj
     rfl
    (refine cA ?_)
    refine⟨k+1,⟨by omega,by rw[t1,t2,hall,hxy]⟩,by omega,aD.keep rfl rfl ?_⟩
    (refine aY ?_;try with_reducible exact tt)
  ·have hk:k=a.length:=by simp only[decide_eq_false_iff_not] at h;omega
   have hf:decide (a=b)=true:=by
    rw[List.take_of_length_le (by omega),List.take_of_length_le (by omega)] at hall;simp[hall]
   (refine cA ?_)
   (refine rO (hf) ?_;try with_reducible exact tt)
 ·have hne:((a.length:Int) != (b.length:Int))=true:=by simp;omega
  have hf:decide (a=b)=false:=decide_eq_false (fun e=>hlen (by rw[e]))
  (refine gO (hne) ?_)
  (refine rO (hf) ?_;try with_reducible exact tt)
def uP (p q:PartD):Bool:=p.start != q.start || p.fin != q.fin || !decide (p.rows=q.rows) || !decide (p.opens=q.opens)
theorem aQq (p q:PartD):decide (p=q)=(!uP p q && decide (p.prods=q.prods)):=by
 obtain⟨a1,a2,a3,a4,a5⟩:=p
 obtain⟨b1,b2,b3,b4,b5⟩:=q
 rw[Bool.eq_iff_iff]
 simp[uP]
 constructor
 ·rintro⟨h1,h2,h3,h4,h5⟩;exact⟨⟨⟨⟨h1,h2⟩,h3⟩,h4⟩,h5⟩
 ·rintro⟨⟨⟨⟨h1,h2⟩,h3⟩,h4⟩,h5⟩;exact⟨h1,h2,h3,h4,h5⟩
theorem aHq (p q:PartD) (hr:p.rows.length≤1000000) (ho:SmallOs p.opens) (hs:SmallL p.prods):bF Tryz.prog 25 [.agg p.dv,.agg q.dv] (gD (decide (p=q))):=by
 have c1:=rD p.rows q.rows hr
 have c2:=xE p.opens q.opens ho
 have c3:=aD2 p.prods q.prods hs
 rw[aQq]
 (refine bF.of_body Tryz.func25 rfl rfl Tryz.ntmps25 Tryz.results25 (by simp) ?_)
 (refine gO (@PartD.dv.eq_1) ?_)
 (first|refine Wp.sto 32 (vb (uP p q)) ?_ ?_|refine Wp.rtoS 32 (vb (uP p q)) ?_ ?_|(refine Wp.seq ?_;first|refine Wp.sto 32 (vb (uP p q)) ?_ ?_|refine Wp.rtoS 32 (vb (uP p q)) ?_ ?_))
 ·unfold uP;((rcases Bool.eq_false_or_eq_true (p.start != q.start) with hL1|hL1)<;>(rcases Bool.eq_false_or_eq_true (p.fin != q.fin) with hL2|hL2)<;>(rcases Bool.eq_false_or_eq_true (!decide (p.rows=q.rows)) with hL3|hL3)<;>(rcases Bool.eq_false_or_eq_true (!decide (p.opens=q.opens)) with hL4|hL4)<;>(((refine rO (ai hL1 (ai hL2 (ai hL3 (ai hL4 (@PartD.dv.eq_1))))) ?_;try with_reducible exact tt);(repeat (refine eA (by assumption) ?_;(refine rO (ai hL1 (ai hL2 (ai hL3 (ai hL4 (@PartD.dv.eq_1))))) ?_;try with_reducible exact tt))));all_goals (exact (show bI _ _=true by kernel_rfl))))
 refine Wp.cond (by (refine aY ?_);rfl) (fun h=>?_) (fun h=>?_)
 ·(refine cA ?_)
  (refine rO (h) ?_;try with_reducible exact tt)
 ·(refine gO (@PartD.dv.eq_1) ?_)
  (refine rO (h) ?_;try with_reducible exact tt)

end Go.Proofs.YtpklhnpchhaccaaGreatDoor
