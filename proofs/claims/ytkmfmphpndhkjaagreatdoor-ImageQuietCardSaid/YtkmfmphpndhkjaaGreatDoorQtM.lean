/- The abstract machine (QtA, QtB). -/
import Derived.Test.YtkmfmphpndhkjaaGreatDoorPnM
import Derived.Test.YtkmfmphpndhkjaaGreatDoorRnd
import Derived.Lib.SlicesCompact
namespace Go.Proofs.YtkmfmphpndhkjaaGreatDoor
open Go Go.RowKit
set_option maxHeartbeats 4000000
set_option maxRecDepth 100000
set_option linter.unusedVariables false
set_option linter.unusedSimpArgs false
theorem zX (d:Array Int) (hs:∀ j,j+1<d.size→d[j]!≤d[j+1]!):∀ m,m≤d.size →
  (Lib.compactUpTo d m).Pairwise (· < ·)∧(∀ x ∈ Lib.compactUpTo d m,x≤d[m - 1]!)∧(0<m→Lib.compactUpTo d m≠[])∧∀ x ∈ Lib.compactUpTo d m,∃ j,j<d.size∧x=d[j]!
 | 0,_=>⟨by simp[Lib.compactUpTo],by simp[Lib.compactUpTo],fun h=>absurd h (by omega),by simp[Lib.compactUpTo]⟩
 | m+1,hm=>by
  obtain⟨h1,h2,h3,h4⟩:=zX d hs m (by omega)
  rw[Lib.compactUpTo_succ]
  cases hk:Lib.keeps d m with
  | false =>
   have h0:m≠0:=fun e=>by subst e;simp[Lib.keeps] at hk
   have hle:d[m - 1]!≤d[m]!:=by have:=hs (m - 1) (by omega);rwa [show m - 1+1=m by omega] at this
   simp only[Bool.false_eq_true,if_false,List.append_nil,Nat.add_sub_cancel]
   exact⟨h1,fun x hx=>Int.le_trans (h2 x hx) hle,fun _=>h3 (by omega),h4⟩
  | true =>
   simp only[if_true,Nat.add_sub_cancel]
   refine⟨List.pairwise_append.2 ⟨h1,List.pairwise_singleton _ _,fun x hx y hy=>?_⟩,fun x hx=>?_,fun _=>by simp,fun x hx=>?_⟩
   ·rw[List.mem_singleton] at hy
    subst hy
    have h0:m≠0:=fun e=>by subst e;simp[Lib.compactUpTo] at hx
    have hle:d[m - 1]!≤d[m]!:=by have:=hs (m - 1) (by omega);rwa [show m - 1+1=m by omega] at this
    have hne:d[m]!≠d[m - 1]!:=by
     have:=hk
     simp only[Lib.keeps,decide_eq_true_eq] at this
     exact this.resolve_left h0
    have:=h2 x hx
    show x<d[m]!
    omega
   ·rcases List.mem_append.1 hx with hx|hx
    ·have h0:m≠0:=fun e=>by subst e;simp[Lib.compactUpTo] at hx
     have hle:d[m - 1]!≤d[m]!:=by have:=hs (m - 1) (by omega);rwa [show m - 1+1=m by omega] at this
     exact Int.le_trans (h2 x hx) hle
    ·rw[List.mem_singleton] at hx;subst hx;exact Int.le_refl _
   ·rcases List.mem_append.1 hx with hx|hx
    ·exact h4 x hx
    ·rw[List.mem_singleton] at hx;exact⟨m,by omega,hx⟩
def gN (l:List Int):List Int:=l.mergeSort fun x y=>decide (x≤y)
def oV (l:List Int):List Int:=Lib.compact (gN l)
theorem aB5 (l:List Int):(oV l).Pairwise (· < ·)∧(l≠[]→oV l≠[])∧∀ x ∈ oV l,x ∈ l:=by
 have hp:(gN l).Pairwise (fun a b=>decide (a≤b)=true):=List.pairwise_mergeSort (fun a b c h1 h2=>by simp at *;omega) (fun a b=>by simp;omega) l
 have hl:(gN l).length=l.length:=List.length_mergeSort _
 have hs:∀ j,j+1<(gN l).toArray.size→(gN l).toArray[j]!≤(gN l).toArray[j+1]!:=fun j hj=>by
  have hj:j+1<(gN l).length:=by simpa using hj
  have:=List.pairwise_iff_getElem.1 hp j (j+1) (by omega) hj (by omega)
  rw[getElem!_pos _ j (by simp;omega),getElem!_pos _ (j+1) (by simp;omega)]
  simpa using this
 obtain⟨h1,_,h3,h4⟩:=zX (gN l).toArray hs (gN l).length (by simp)
 refine⟨h1,fun hne=>h3 (by rw[hl];exact List.length_pos_iff.2 hne),fun x hx=>?_⟩
 obtain⟨j,hj,rfl⟩:=h4 x hx
 rw[getElem!_pos _ j hj]
 have:(gN l)[j]'(by simpa using hj) ∈ gN l:=List.getElem_mem _
 have:=(List.mem_mergeSort).1 this
 simpa using this
def qX (o:OpenD):Nat:=(o.bats.map fun b=>b.recs.length).sum
def nZ (p:PartD):Nat:=(p.opens.map qX).sum
def pA (f:PartD→Nat) (i:ImgD):Nat→Nat
 | 0=>0
 | q+1=>pA f i q+f (i.p q)
theorem aFw (f:PartD→Nat) (c:Nat) (i:ImgD) (h:∀ q,f (i.p q)≤c):∀ q,pA f i q≤q*c
 | 0=>Nat.zero_le _
 | q+1=>by
  have:=aFw f c i h q
  have:=h q
  show pA f i q+f (i.p q)≤_
  rw[Nat.add_mul,Nat.one_mul];omega
def aGs (i:ImgD):Nat:=pA nZ i 3
def aQs (i:ImgD):Nat:=pA (fun p=>p.rows.length) i 3
def fY (i:ImgD):Nat→List Int
 | 0=>[]
 | q+1=>fY i q++(i.p q).opens.map (·.pid)
def iY (i:ImgD):List Int:=fY i 3
theorem aIj (i:ImgD):iY i=i.p0.opens.map (·.pid)++(i.p1.opens.map (·.pid)++i.p2.opens.map (·.pid)):=by
 show (([]++i.p0.opens.map (·.pid))++i.p1.opens.map (·.pid))++i.p2.opens.map (·.pid)=_
 rw[List.nil_append,List.append_assoc]
theorem aLc (i:ImgD):aGs i=nZ i.p0+(nZ i.p1+nZ i.p2):=by
 show ((0+nZ i.p0)+nZ i.p1)+nZ i.p2=_
 omega
theorem tV (c:Nat) (i:ImgD) (h:∀ q,(i.p q).opens.length≤c):∀ q,(fY i q).length≤q*c
 | 0=>Nat.zero_le _
 | q+1=>by
  have:=tV c i h q
  have:=h q
  show (fY i q++(i.p q).opens.map (·.pid)).length≤_
  rw[List.length_append,List.length_map,Nat.add_mul,Nat.one_mul];omega
theorem qD {i:ImgD} (hs:SmallI i) (q:Nat):SmallP (i.p q):=by
 match q with
 | 0=>exact hs.p0
 | 1=>exact hs.p1
 | _+2=>exact hs.p2
theorem aL4 {α:Type} (f:α→Nat) (c:Nat):∀ l:List α,(∀ x ∈ l,f x≤c)→(l.map f).sum≤l.length*c
 | [],_=>Nat.zero_le _
 | a::l,h=>by
  have h1:=aL4 f c l (fun x hx=>h x (List.mem_cons_of_mem _ hx))
  have h2:=h a List.mem_cons_self
  simp only[List.map_cons,List.sum_cons,List.length_cons,Nat.add_mul,Nat.one_mul]
  omega
theorem aBp {α:Type} (f:α→Nat) (l:List α) (k:Nat) (h:k<l.length):((l.take (k+1)).map f).sum=((l.take k).map f).sum+f l[k]:=by
 rw[aF l k h,List.map_append,List.sum_append];simp
theorem aFu {α:Type} (f:α→Nat):∀ (l:List α),(∀ x ∈ l,0<f x)→((l.map f).sum=0 ↔ l=[])
 | [],_=>by simp
 | a::l,h=>by
  have:=h a List.mem_cons_self
  simp only[List.map_cons,List.sum_cons,reduceCtorEq,iff_false]
  omega
theorem aS8 {o:OpenD} (h:SmallO o) (hb:o.bats.length≤100):qX o≤10000000:=by
 have:=aL4 (fun b:BatD=>b.recs.length) 100000 o.bats h.recs
 unfold qX
 omega
theorem zB {o:OpenD} (h:wG o=true):0<qX o∧o.bats.length≤8:=by
 simp only[wG,iI,Bool.and_eq_true,Bool.not_eq_true',Bool.or_eq_false_iff,decide_eq_false_iff_not] at h
 obtain⟨⟨h1,h2⟩,h3⟩:=h
 refine⟨?_,by omega⟩
 have h0:0<o.bats.length:=by omega
 have g0:o.bats[0]? = some o.bats[0]:=List.getElem?_eq_getElem h0
 have h4:=List.all_eq_true.1 h3 0 (List.mem_range.2 h0)
 simp only[xK,g0,Bool.not_eq_true',iX,Bool.or_eq_false_iff,Bool.not_eq_false'] at h4
 have hB:=h4.1.1.1.1
 have hr:0<o.bats[0].recs.length:=by
  simp only[mW,Bool.and_eq_true,Bool.not_eq_true',Bool.or_eq_false_iff,decide_eq_false_iff_not] at hB
  obtain⟨⟨⟨_,h6,_⟩,_⟩,_⟩:=hB
  omega
 have:=aBp (fun b:BatD=>b.recs.length) o.bats 0 h0
 have h5:((o.bats.map fun b=>b.recs.length).sum) ≥ ((o.bats.take 1).map fun b=>b.recs.length).sum:=by
  conv=>lhs;rw[← List.take_append_drop 1 o.bats,List.map_append,List.sum_append]
  omega
 unfold qX
 simp only[Nat.zero_add,List.take_zero,List.map_nil,List.sum_nil] at this
 omega
theorem rP {i:ImgD} (hc:aS i=true):∀ o,o ∈ i.p0.opens∨o ∈ i.p1.opens∨o ∈ i.p2.opens→wG o=true∧(nG i.m o.pid).2=true:=by
 simp only[aS,nS,bE,Bool.and_eq_true,List.all_eq_true] at hc
 obtain⟨⟨_,h0,h1,h2⟩,_,k0,k1,k2⟩:=hc
 have hx:∀ p o,(∀ x ∈ p.opens,cV p x=true)→(∀ x ∈ p.opens,cH i x=true)→o ∈ p.opens→wG o=true∧(nG i.m o.pid).2=true:=fun p o ha hb ho=>by
  have a:=ha o ho
  have b:=hb o ho
  simp only[cV,cH,Bool.and_eq_true] at a b
  exact⟨a.1,b.1⟩
 rintro o (ho|ho|ho)
 ·exact hx i.p0 o h0.2 k0 ho
 ·exact hx i.p1 o h1.2 k1 ho
 ·exact hx i.p2 o h2.2 k2 ho
theorem aP6 {i:ImgD} (hc:aS i=true):aGs i=0 ↔ oV (iY i)=[]:=by
 have ho:=rP hc
 have e0:=aFu qX i.p0.opens (fun o h=>(zB (ho o (.inl h)).1).1)
 have e1:=aFu qX i.p1.opens (fun o h=>(zB (ho o (.inr (.inl h))).1).1)
 have e2:=aFu qX i.p2.opens (fun o h=>(zB (ho o (.inr (.inr h))).1).1)
 obtain⟨_,hn,hm⟩:=aB5 (iY i)
 have e3:oV (iY i)=[] ↔ iY i=[]:=by
  constructor
  ·intro h;exact Classical.byContradiction fun hne=>hn hne h
  ·intro h
   refine List.eq_nil_iff_forall_not_mem.2 fun x hx=>?_
   have:=hm x hx
   rw[h] at this;cases this
 rw[e3]
 rw[aLc,aIj]
 unfold nZ
 rw[List.append_eq_nil_iff,List.append_eq_nil_iff,List.map_eq_nil_iff,List.map_eq_nil_iff,List.map_eq_nil_iff,← e0,← e1,← e2]
 omega
theorem aTg {i:ImgD} (hc:aS i=true):∀ x ∈ oV (iY i),(nG i.m x).2=true:=fun x hx=>by
 have hm:=(aB5 (iY i)).2.2 x hx
 simp only[aIj,List.mem_append,List.mem_map] at hm
 rcases hm with ⟨o,h,rfl⟩|⟨o,h,rfl⟩|⟨o,h,rfl⟩
 ·exact (rP hc o (.inl h)).2
 ·exact (rP hc o (.inr (.inl h))).2
 ·exact (rP hc o (.inr (.inr h))).2
def gW (i:ImgD):Bool:=!(decide (0<(i.p0.opens.length:Int)) || decide (0<(i.p1.opens.length:Int)) || decide (0<(i.p2.opens.length:Int)) || kI i.m.c0 || kI i.m.c1 || kI i.m.c2)
theorem aO3 {i:ImgD} (h:gW i=true):aGs i=0:=by
 simp only[gW,Bool.not_eq_true',Bool.or_eq_false_iff,decide_eq_false_iff_not] at h
 obtain⟨⟨⟨⟨⟨h0,h1⟩,h2⟩,_⟩,_⟩,_⟩:=h
 have e0:i.p0.opens=[]:=List.eq_nil_of_length_eq_zero (by omega)
 have e1:i.p1.opens=[]:=List.eq_nil_of_length_eq_zero (by omega)
 have e2:i.p2.opens=[]:=List.eq_nil_of_length_eq_zero (by omega)
 rw[aLc]
 simp[nZ,e0,e1,e2]
set_option maxHeartbeats 8000000
theorem aM5 (i:ImgD) (hs:SmallI i) (ho:∀ q,∀ o ∈ (i.p q).opens,o.bats.length≤8):aJ Tryz.prog 15 [.agg i.dv] (.tup [int (aQs i:Nat),int (aGs i:Nat)]):=by
 have bR:=aFw (fun p=>p.rows.length) 100000 i (fun q=>(qD hs q).rows)
 have bC:=aFw nZ 1000000000000 i (fun q=>by
  have h1:=aL4 qX 10000000 (i.p q).opens (fun o h=>aS8 ((qD hs q).open1 o h) (by have:=ho q o h;omega))
  have h2:=(qD hs q).opens
  unfold nZ;omega)
 (refine aJ.of_body Tryz.func15 rfl rfl Tryz.ntmps15 Tryz.results15 (by simp) ?_)
 (refine gO (ai @ImgD.dv.eq_1 (ai @PartD.dv.eq_1 (ai @StateD.dv.eq_1 (ai @CoordD.dv.eq_1 (@GrpD.dv.eq_1))))) ?_;try with_reducible exact tt)
 refine Wp.loop (fun q:Nat=>⟨dI [(2,vi .i64 (pA (fun p=>p.rows.length) i q:Nat)),(3,vi .i64 (pA nZ i q:Nat)),(11,.agg ((i.p0.dv++(i.p1.dv++i.p2.dv)).map .d)),(12,vi .i64 q)],bJ [],20,44,0⟩) (fun q=>q≤3) (fun q=>3 - q) 0 (by decide) ?_ ?_
 ·refine aD.keep rfl (by simp[aO,SV.ids,HE.ids,CV.ids,ImgD.dv,PartD.dv,StateD.dv,CoordD.dv,GrpD.dv];rfl) ?_
  simp (maxSteps:=2000000) (disch:=omega) only[bF,TY,aL,bQ,cD,SV.ofD,bW,cF,bX,fB,bK,fC,eQ,cQ,cL,dO,eZ,eY,fA,CV.exact,CV.lstOf,CV.lenOf,CV.one,D.one,Value.oneCell',CV.toD0,fS,cC,dU,eV,rD0,eS,eO,fT,reduceCtorEq,reduceIte,Nat.reduceBEq,Nat.reduceEqDiff,Nat.reduceAdd,Nat.reduceMul,Nat.reduceSub,Nat.reduceLT,Nat.reduceLeDiff,Nat.reduceBNe,Int.reduceLE,Int.reduceLT,Int.reduceBEq,Int.reduceBNe,Int.reduceEq,Int.reduceNeg,Int.reduceAdd,Int.reduceSub,Int.reduceToNat,forall_const,pA,ImgD.dv,PartD.dv,StateD.dv,CoordD.dv,GrpD.dv,List.map_append,List.map_cons,List.map_nil]
 intro q hq
 by_cases hlt:q<3
 ·have dq:decide ((q:Int)<3)=true:=decide_eq_true (by omega)
  have hwq:IntKind.i64.wrap ((q:Int)+1)=((q+1:Nat):Int):=by rw[aG (by omega)];rfl
  (refine gO (dq) ?_;try with_reducible exact tt)
  (first|refine Wp.meet (⟨dI [(2,vi .i64 (pA (fun p=>p.rows.length) i q:Nat)),(3,vi .i64 (pA nZ i q:Nat)),(5,.c (.own 20 0)),(11,.agg ((i.p0.dv++(i.p1.dv++i.p2.dv)).map .d)),(12,vi .i64 q)],bJ [(20,.cells ((i.p q).dv.map .d))],21,44,0⟩) ?_ ?_|refine Wp.meetT (⟨dI [(2,vi .i64 (pA (fun p=>p.rows.length) i q:Nat)),(3,vi .i64 (pA nZ i q:Nat)),(5,.c (.own 20 0)),(11,.agg ((i.p0.dv++(i.p1.dv++i.p2.dv)).map .d)),(12,vi .i64 q)],bJ [(20,.cells ((i.p q).dv.map .d))],21,44,0⟩) ?_ ?_|(refine Wp.seq ?_;refine Wp.meetT (⟨dI [(2,vi .i64 (pA (fun p=>p.rows.length) i q:Nat)),(3,vi .i64 (pA nZ i q:Nat)),(5,.c (.own 20 0)),(11,.agg ((i.p0.dv++(i.p1.dv++i.p2.dv)).map .d)),(12,vi .i64 q)],bJ [(20,.cells ((i.p q).dv.map .d))],21,44,0⟩) ?_ ?_))
  ·rcases (show q=0∨q=1∨q=2 by omega) with rfl|rfl|rfl<;>((refine gO (ai @ImgD.dv.eq_1 (ai @PartD.dv.eq_1 (ai @StateD.dv.eq_1 (ai @CoordD.dv.eq_1 (ai @GrpD.dv.eq_1 (ai @List.map_append.{0,0} (ai @List.map_cons.{0,0} (@List.map_nil.{0,0})))))))) ?_;try with_reducible exact tt);refine aD.keep rfl (by simp[aO,SV.ids,HE.ids,CV.ids,ImgD.p,ImgD.dv,PartD.dv,StateD.dv,CoordD.dv,GrpD.dv];rfl) ?_;simp (maxSteps:=2000000) (disch:=omega) only[bF,TY,aL,bQ,cD,SV.ofD,bW,cF,bX,fB,bK,fC,eQ,cQ,cL,dO,eZ,eY,fA,CV.exact,CV.lstOf,CV.lenOf,CV.one,D.one,Value.oneCell',CV.toD0,fS,cC,dU,eV,rD0,eS,eO,fT,reduceCtorEq,reduceIte,Nat.reduceBEq,Nat.reduceEqDiff,Nat.reduceAdd,Nat.reduceMul,Nat.reduceSub,Nat.reduceLT,Nat.reduceLeDiff,Nat.reduceBNe,Int.reduceLE,Int.reduceLT,Int.reduceBEq,Int.reduceBNe,Int.reduceEq,Int.reduceNeg,Int.reduceAdd,Int.reduceSub,Int.reduceToNat,forall_const,ImgD.p,ImgD.dv,PartD.dv,StateD.dv,CoordD.dv,GrpD.dv,List.map_append,List.map_cons,List.map_nil])
  have bR1:=bR (q+1)
  have bC1:=bC (q+1)
  have e1:pA (fun p=>p.rows.length) i (q+1)=pA (fun p=>p.rows.length) i q+(i.p q).rows.length:=rfl
  have e2:pA nZ i (q+1)=pA nZ i q+nZ (i.p q):=rfl
  have hsp:=qD hs q
  have hop:=ho q
  clear bR bC
  generalize pA (fun p=>p.rows.length) i q=R at *
  generalize pA nZ i q=C at *
  generalize i.p q=p at *
  have hlo:=hsp.opens
  have w1:IntKind.i64.wrap ((R:Int)+(p.rows.length:Int))=((R+p.rows.length:Nat):Int):=by rw[aG (by omega)];rfl
  (refine gO (ai @PartD.dv.eq_1 (w1)) ?_;try with_reducible exact tt)
  refine Wp.loop (fun k:Nat=>⟨dI [(2,vi .i64 (R+p.rows.length:Nat)),(3,vi .i64 (C+((p.opens.take k).map qX).sum:Nat)),(11,.agg ((i.p0.dv++(i.p1.dv++i.p2.dv)).map .d)),(12,vi .i64 q),(21,.c (.d (.lst 3 (p.opens.map OpenD.dv)))),(22,vi .i64 p.opens.length),(23,vi .i64 k)],bJ [],21,44,0⟩) (fun k=>k≤p.opens.length) (fun k=>p.opens.length - k) 0 (Nat.zero_le _) ?_ ?_
  ·refine aD.keep rfl (by simp[aO,SV.ids,HE.ids,CV.ids,ImgD.dv,PartD.dv,StateD.dv,CoordD.dv,GrpD.dv];rfl) ?_
   (refine rO (ai @PartD.dv.eq_1 (ai @List.take_zero.{0} (ai @List.sum_nil.{0} (ai @Nat.add_zero (ai @List.map_append.{0,0} (ai @List.map_cons.{0,0} (@List.map_nil.{0,0}))))))) ?_;try with_reducible exact tt)
  intro k hk
  by_cases hlk:k<p.opens.length
  ·have dk:decide ((k:Int)<(p.opens.length:Int))=true:=decide_eq_true (by omega)
   have g1:p.opens[k]? = some p.opens[k]:=List.getElem?_eq_getElem hlk
   have hwk:IntKind.i64.wrap ((k:Int)+1)=((k+1:Nat):Int):=by rw[aG (by omega)];rfl
   have hsum:=aBp qX p.opens k hlk
   have hle:((p.opens.take (k+1)).map qX).sum≤nZ p:=by
    unfold nZ
    conv=>rhs;rw[← List.take_append_drop (k+1) p.opens,List.map_append,List.sum_append]
    omega
   have hob:=hop _ (List.getElem_mem hlk)
   generalize p.opens[k]=o at *
   generalize ((p.opens.take k).map qX).sum=S at *
   (refine gO (ai dk (ai g1 (@OpenD.dv.eq_1))) ?_;try with_reducible exact tt)
   refine Wp.loop (fun j:Nat=>⟨dI [(2,vi .i64 (R+p.rows.length:Nat)),(3,vi .i64 (C+S+((o.bats.take j).map fun b=>b.recs.length).sum:Nat)),(11,.agg ((i.p0.dv++(i.p1.dv++i.p2.dv)).map .d)),(12,vi .i64 q),(21,.c (.d (.lst 3 (p.opens.map OpenD.dv)))),(22,vi .i64 p.opens.length),(23,vi .i64 k),(28,.c (.d (.lst 5 (o.bats.map BatD.dv)))),(29,vi .i64 o.bats.length),(30,vi .i64 j)],bJ [],22,44,0⟩) (fun j=>j≤o.bats.length) (fun j=>o.bats.length - j) 0 (Nat.zero_le _) ?_ ?_
   ·refine aD.keep rfl (by simp[aO,SV.ids,HE.ids,CV.ids,ImgD.dv,PartD.dv,StateD.dv,CoordD.dv,GrpD.dv];rfl) ?_
    (refine rO (ai @OpenD.dv.eq_1 (ai @List.take_zero.{0} (ai @List.sum_nil.{0} (ai @Nat.add_zero (ai @List.map_append.{0,0} (ai @List.map_cons.{0,0} (@List.map_nil.{0,0}))))))) ?_;try with_reducible exact tt)
   intro j hj
   by_cases hlj:j<o.bats.length
   ·have dj:decide ((j:Int)<(o.bats.length:Int))=true:=decide_eq_true (by omega)
    have g2:o.bats[j]? = some o.bats[j]:=List.getElem?_eq_getElem hlj
    have hwj:IntKind.i64.wrap ((j:Int)+1)=((j+1:Nat):Int):=by rw[aG (by omega)];rfl
    have hst:=aBp (fun b:BatD=>b.recs.length) o.bats j hlj
    have hlb:((o.bats.take (j+1)).map fun b=>b.recs.length).sum≤qX o:=by
     unfold qX
     conv=>rhs;rw[← List.take_append_drop (j+1) o.bats,List.map_append,List.sum_append]
     omega
    generalize o.bats[j]=b at *
    generalize ((o.bats.take j).map fun b=>b.recs.length).sum=T at *
    have w2:IntKind.i64.wrap (((C+S+T:Nat):Int)+(b.recs.length:Int))=((C+S+(T+b.recs.length):Nat):Int):=by rw[aG (by omega)];omega
    (refine gO (ai dj (ai g2 (ai @BatD.dv.eq_1 (w2)))) ?_;try with_reducible exact tt)
    refine⟨j+1,by omega,by omega,aD.keep rfl (by simp[aO,SV.ids,HE.ids,CV.ids,ImgD.dv,PartD.dv,StateD.dv,CoordD.dv,GrpD.dv];rfl) ?_⟩
    (refine rO (ai hwj (ai hst (ai w2 (ai @BatD.dv.eq_1 (ai @Int.add_assoc (ai @List.map_append.{0,0} (ai @List.map_cons.{0,0} (@List.map_nil.{0,0})))))))) ?_;try with_reducible exact tt)
   have hj2:j=o.bats.length:=by omega
   subst hj2
   have dj:decide ((o.bats.length:Int)<(o.bats.length:Int))=false:=decide_eq_false (by omega)
   have e3:C+S+((o.bats.take o.bats.length).map fun b=>b.recs.length).sum=C+(S+qX o):=by rw[List.take_length,Nat.add_assoc];rfl
   rw[e3]
   (refine gO (dj) ?_;try with_reducible exact tt)
   refine⟨k+1,by omega,by omega,aD.keep rfl (by simp[aO,SV.ids,HE.ids,CV.ids,ImgD.dv,PartD.dv,StateD.dv,CoordD.dv,GrpD.dv];rfl) ?_⟩
   (refine rO (ai hwk (ai hsum (ai @List.map_append.{0,0} (ai @List.map_cons.{0,0} (@List.map_nil.{0,0}))))) ?_;try with_reducible exact tt)
  have hk2:k=p.opens.length:=by omega
  subst hk2
  have dk:decide ((p.opens.length:Int)<(p.opens.length:Int))=false:=decide_eq_false (by omega)
  have e4:C+((p.opens.take p.opens.length).map qX).sum=C+nZ p:=by rw[List.take_length];rfl
  rw[e4]
  (refine gO (dk) ?_;try with_reducible exact tt)
  refine⟨q+1,by omega,by omega,aD.keep rfl (by simp[aO,SV.ids,HE.ids,CV.ids,ImgD.dv,PartD.dv,StateD.dv,CoordD.dv,GrpD.dv];rfl) ?_⟩
  (refine rO (ai hwq (ai e1 (ai e2 (ai @List.map_append.{0,0} (ai @List.map_cons.{0,0} (@List.map_nil.{0,0})))))) ?_;try with_reducible exact tt)
 have hq3:q=3:=by omega
 subst hq3
 (refine aI ?_;try with_reducible exact tt)
 simp (maxSteps:=2000000) (disch:=omega) only[bF,TY,aL,bQ,cD,SV.ofD,bW,cF,bX,fB,bK,fC,eQ,cQ,cL,dO,eZ,eY,fA,CV.exact,CV.lstOf,CV.lenOf,CV.one,D.one,Value.oneCell',CV.toD0,fS,cC,dU,eV,rD0,eS,eO,fT,reduceCtorEq,reduceIte,Nat.reduceBEq,Nat.reduceEqDiff,Nat.reduceAdd,Nat.reduceMul,Nat.reduceSub,Nat.reduceLT,Nat.reduceLeDiff,Nat.reduceBNe,Int.reduceLE,Int.reduceLT,Int.reduceBEq,Int.reduceBNe,Int.reduceEq,Int.reduceNeg,Int.reduceAdd,Int.reduceSub,Int.reduceToNat,forall_const,aQs,aGs]
theorem aEe {c:CoordD} (h:kI c=false):(c.st == 2)=false∧(c.st == 3)=false∧(c.st == 4)=false:=by
 simp only[kI,Bool.or_eq_false_iff] at h
 exact⟨h.1.1,h.1.2,h.2⟩
theorem aM8 (i:ImgD):aJ Tryz.prog 18 [.agg i.dv] (dC (gW i)):=by
 (refine aJ.of_body Tryz.func18 rfl rfl Tryz.ntmps18 Tryz.results18 (by simp) ?_)
 (refine gO (ai @ImgD.dv.eq_1 (ai @PartD.dv.eq_1 (ai @StateD.dv.eq_1 (ai @CoordD.dv.eq_1 (@GrpD.dv.eq_1))))) ?_;try with_reducible exact tt)
 refine Wp.rounds 4 (aN.go ?_)
 (refine gO (ai @ImgD.dv.eq_1 (ai @PartD.dv.eq_1 (ai @StateD.dv.eq_1 (ai @CoordD.dv.eq_1 (@GrpD.dv.eq_1))))) ?_;try with_reducible exact tt)
 refine Wp.cond (by (refine aK ?_;try with_reducible exact tt);rfl) (fun h=>?_) (fun h=>?_)
 ·have e:gW i=false:=by unfold gW;rw[h];simp
  (refine aI ?_;try with_reducible exact tt)
  (refine rO (e) ?_;try with_reducible exact tt)
 have k0:=h
 clear h
 (refine gO (ai @ImgD.dv.eq_1 (ai @PartD.dv.eq_1 (ai @StateD.dv.eq_1 (ai @CoordD.dv.eq_1 (@GrpD.dv.eq_1))))) ?_;try with_reducible exact tt)
 refine Wp.cond (by (refine aK ?_;try with_reducible exact tt);rfl) (fun h=>?_) (fun h=>?_)
 ·have e:gW i=false:=by unfold gW;rw[h];simp
  (refine aI ?_;try with_reducible exact tt)
  (refine rO (e) ?_;try with_reducible exact tt)
 have k1:=h
 clear h
 (refine gO (ai @ImgD.dv.eq_1 (ai @PartD.dv.eq_1 (ai @StateD.dv.eq_1 (ai @CoordD.dv.eq_1 (@GrpD.dv.eq_1))))) ?_;try with_reducible exact tt)
 refine Wp.cond (by (refine aK ?_;try with_reducible exact tt);rfl) (fun h=>?_) (fun h=>?_)
 ·have e:gW i=false:=by unfold gW;rw[h];simp
  (refine aI ?_;try with_reducible exact tt)
  (refine rO (e) ?_;try with_reducible exact tt)
 have k2:=h
 clear h
 (refine gO (ai @ImgD.dv.eq_1 (ai @PartD.dv.eq_1 (ai @StateD.dv.eq_1 (ai @CoordD.dv.eq_1 (@GrpD.dv.eq_1))))) ?_;try with_reducible exact tt)
 refine Wp.rounds 4 (aN.go ?_)
 (refine gO (ai @ImgD.dv.eq_1 (ai @PartD.dv.eq_1 (ai @StateD.dv.eq_1 (ai @CoordD.dv.eq_1 (@GrpD.dv.eq_1))))) ?_;try with_reducible exact tt)
 cases h0:kI i.m.c0 with
 | true =>
  have e:gW i=false:=by unfold gW;rw[h0];simp
  unfold kI at h0
  rcases Bool.eq_false_or_eq_true (i.m.c0.st == 2) with a2|a2<;>rcases Bool.eq_false_or_eq_true (i.m.c0.st == 3) with a3|a3<;>rcases Bool.eq_false_or_eq_true (i.m.c0.st == 4) with a4|a4<;>first|(exfalso;rw[a2,a3,a4] at h0;cases h0;done)|((refine gO (ai a2 (ai a3 (a4))) ?_;try with_reducible exact tt);(refine rO (e) ?_;try with_reducible exact tt))
 | false =>
 obtain⟨a2,a3,a4⟩:=aEe h0
 (refine gO (ai a2 (ai a3 (ai a4 (ai @ImgD.dv.eq_1 (ai @PartD.dv.eq_1 (ai @StateD.dv.eq_1 (ai @CoordD.dv.eq_1 (@GrpD.dv.eq_1)))))))) ?_;try with_reducible exact tt)
 (refine gO (ai @ImgD.dv.eq_1 (ai @PartD.dv.eq_1 (ai @StateD.dv.eq_1 (ai @CoordD.dv.eq_1 (@GrpD.dv.eq_1))))) ?_;try with_reducible exact tt)
 cases h1:kI i.m.c1 with
 | true =>
  have e:gW i=false:=by unfold gW;rw[h1];simp
  unfold kI at h1
  rcases Bool.eq_false_or_eq_true (i.m.c1.st == 2) with a2|a2<;>rcases Bool.eq_false_or_eq_true (i.m.c1.st == 3) with a3|a3<;>rcases Bool.eq_false_or_eq_true (i.m.c1.st == 4) with a4|a4<;>first|(exfalso;rw[a2,a3,a4] at h1;cases h1;done)|((refine gO (ai a2 (ai a3 (a4))) ?_;try with_reducible exact tt);(refine rO (e) ?_;try with_reducible exact tt))
 | false =>
 obtain⟨a2,a3,a4⟩:=aEe h1
 (refine gO (ai a2 (ai a3 (ai a4 (ai @ImgD.dv.eq_1 (ai @PartD.dv.eq_1 (ai @StateD.dv.eq_1 (ai @CoordD.dv.eq_1 (@GrpD.dv.eq_1)))))))) ?_;try with_reducible exact tt)
 (refine gO (ai @ImgD.dv.eq_1 (ai @PartD.dv.eq_1 (ai @StateD.dv.eq_1 (ai @CoordD.dv.eq_1 (@GrpD.dv.eq_1))))) ?_;try with_reducible exact tt)
 cases h2:kI i.m.c2 with
 | true =>
  have e:gW i=false:=by unfold gW;rw[h2];simp
  unfold kI at h2
  rcases Bool.eq_false_or_eq_true (i.m.c2.st == 2) with a2|a2<;>rcases Bool.eq_false_or_eq_true (i.m.c2.st == 3) with a3|a3<;>rcases Bool.eq_false_or_eq_true (i.m.c2.st == 4) with a4|a4<;>first|(exfalso;rw[a2,a3,a4] at h2;cases h2;done)|((refine gO (ai a2 (ai a3 (a4))) ?_;try with_reducible exact tt);(refine rO (e) ?_;try with_reducible exact tt))
 | false =>
 obtain⟨a2,a3,a4⟩:=aEe h2
 (refine gO (ai a2 (ai a3 (ai a4 (ai @ImgD.dv.eq_1 (ai @PartD.dv.eq_1 (ai @StateD.dv.eq_1 (ai @CoordD.dv.eq_1 (@GrpD.dv.eq_1)))))))) ?_;try with_reducible exact tt)
 have e:gW i=true:=by unfold gW;rw[k0,k1,k2,h0,h1,h2];rfl
 (refine rO (e) ?_;try with_reducible exact tt)
end Go.Proofs.YtkmfmphpndhkjaaGreatDoor
