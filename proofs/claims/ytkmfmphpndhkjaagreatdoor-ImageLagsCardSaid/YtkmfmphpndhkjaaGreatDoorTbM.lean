/- The abstract machine (TbB, TbC, TbD, TbE, TbF). -/
import Derived.Test.YtkmfmphpndhkjaaGreatDoorTbA
import Derived.Test.YtkmfmphpndhkjaaGreatDoorErN
import Derived.Test.YtkmfmphpndhkjaaGreatDoorMacB
import Derived.Test.YtkmfmphpndhkjaaGreatDoorApA
namespace Go.Proofs.YtkmfmphpndhkjaaGreatDoor
open Go Go.RowKit
set_option maxHeartbeats 4000000
set_option maxRecDepth 100000
set_option linter.unusedVariables false
set_option linter.unusedSimpArgs false
abbrev aLn:D:=str [97,32,112,97,114,116,32,116,104,97,116,32,99,97,110,110,111,116,32,98,101,32,114,101,97,100]
abbrev aOg:D:=str [112,97,114,116,115,32,119,105,116,104,32,111,116,104,101,114,32,114,111,119,115]
abbrev aI7:D:=str [116,104,101,32,98,111,117,110,100,115,32,111,102,32,97,32,116,97,98,108,101]
abbrev aPn:D:=str [97,32,110,101,119,32,111,102,102,115,101,116]
abbrev aPs:D:=str [97,110,32,111,108,100,32,111,102,102,115,101,116]
def tS (old fresh:PartD):D:=if cD old && cD fresh then aOg else aLn
theorem aJ2 (old fresh:PartD) (ho:Small old) (hf:Small fresh):aJ Tryz.prog 129 [.agg old.dv,.agg fresh.dv] (if mH old fresh then .val .nilIface else cZ (tS old fresh) 2):=by
 have c1:=sZ old ho
 have c2:=sZ fresh hf
 simp only[PartD.dv] at c1 c2
 (refine aJ.of_body Tryz.func129 rfl rfl Tryz.ntmps129 Tryz.results129 (by simp) ?_)
 cases h1:cD old with
 | false =>
  rw[h1] at c1
  (refine gO (@PartD.dv.eq_1) ?_;try with_reducible exact tt)
  (refine rO (ai @mH.eq_1 (ai @tS.eq_1 (ai h1 (@cZ.eq_1)))) ?_;try with_reducible exact tt)
 | true =>
 cases h2:cD fresh with
 | false =>
  rw[h1] at c1;rw[h2] at c2
  (refine gO (@PartD.dv.eq_1) ?_;try with_reducible exact tt)
  (refine rO (ai @mH.eq_1 (ai @tS.eq_1 (ai h1 (ai h2 (@cZ.eq_1))))) ?_;try with_reducible exact tt)
 | true =>
 rw[h1] at c1;rw[h2] at c2
 cases h3:(old.rows.length == fresh.rows.length) with
 | false =>
  have h4:((old.rows.length:Int) != (fresh.rows.length:Int))=true:=by simp at h3 ⊢;omega
  (refine gO (ai @PartD.dv.eq_1 (h4)) ?_;try with_reducible exact tt)
  (refine rO (ai @mH.eq_1 (ai @tS.eq_1 (ai h1 (ai h2 (ai h3 (@cZ.eq_1)))))) ?_;try with_reducible exact tt)
 | true =>
  have h4:((old.rows.length:Int) != (fresh.rows.length:Int))=false:=by simp at h3 ⊢;omega
  (refine gO (ai @PartD.dv.eq_1 (h4)) ?_;try with_reducible exact tt)
  (refine rO (ai @mH.eq_1 (ai @tS.eq_1 (ai h1 (ai h2 (ai h3 (@cZ.eq_1)))))) ?_;try with_reducible exact tt)
theorem qJ:∀ (m:Int) (l:List Int) (k:Nat) (h:k<l.length),upB m (l.take (k+1))=(upB m (l.take k) && !(decide (l[k]<(if k=0 then m else l.getD (k - 1) 0)) || decide (1048576<l[k])))
 | m,n::l,0,h=>by simp[upB]
 | m,n::l,k+1,h=>by
  have ih:=qJ n l k (by simpa using h)
  simp only[List.take_succ_cons,upB,ih,List.getElem_cons_succ,Bool.and_assoc]
  cases k with
  | zero=>simp
  | succ k=>simp
def tM (t:TabD):D:=if nA t || !uE t then aI7 else aPn
theorem aFr (t : TabD) (hl : t.news.length ≤ maxLen) (h1 : -9223372036854775808 ≤ t.start ∧ t.start ≤ 9223372036854775807) (h2 : -9223372036854775808 ≤ t.fin ∧ t.fin ≤ 9223372036854775807) : aJ Tryz.prog 123 [.agg t.dv] (if vI t then .val .nilIface else cZ (tM t) 2) := by
  (refine aJ.of_body Tryz.func123 rfl rfl Tryz.ntmps123 Tryz.results123 (by simp) ?_)
  (refine gO (@TabD.dv.eq_1) ?_; try with_reducible exact tt)
  (first | refine Wp.sto 6 (vb (nA t)) ?_ ?_ | refine Wp.rtoS 6 (vb (nA t)) ?_ ?_ | (refine Wp.seq ?_; first | refine Wp.sto 6 (vb (nA t)) ?_ ?_ | refine Wp.rtoS 6 (vb (nA t)) ?_ ?_))
  · unfold nA; ((rcases Bool.eq_false_or_eq_true (decide (t.start < 0)) with hL1 | hL1) <;> (rcases Bool.eq_false_or_eq_true (decide (t.fin < t.start)) with hL2 | hL2) <;> (rcases Bool.eq_false_or_eq_true (decide (1048576 < t.fin)) with hL3 | hL3) <;> (((refine rO (ai hL1 (ai hL2 (ai hL3 (@TabD.dv.eq_1)))) ?_; try with_reducible exact tt); (repeat (refine aV (by assumption) ?_; (refine rO (ai hL1 (ai hL2 (ai hL3 (@TabD.dv.eq_1)))) ?_; try with_reducible exact tt)))); all_goals (exact (show aG _ _ = true by kernel_rfl))))
  cases hb : nA t with
  | true =>
    (refine gO (@TabD.dv.eq_1) ?_; try with_reducible exact tt)
    (refine rO (ai @vI.eq_1 (ai @tM.eq_1 (ai hb (@cZ.eq_1)))) ?_; try with_reducible exact tt)
  | false =>
  have hb' := hb
  simp only [nA, Bool.or_eq_false_iff, decide_eq_false_iff_not] at hb'
  have e1 : ((t.news.length : Int) != t.fin - t.start + 1) = !uE t := rfl
  have e2 : IntKind.i64.wrap (t.fin - t.start) = t.fin - t.start := aF (by omega)
  have e3 : IntKind.i64.wrap (t.fin - t.start + 1) = t.fin - t.start + 1 := aF (by omega)
  cases hc : uE t with
  | false =>
    (refine gO (ai @TabD.dv.eq_1 (ai hb (ai e1 (ai e2 (ai e3 (hc)))))) ?_; try with_reducible exact tt)
    (refine rO (ai @vI.eq_1 (ai @tM.eq_1 (ai hb (ai hc (@cZ.eq_1))))) ?_; try with_reducible exact tt)
  | true =>
  (refine gO (ai @TabD.dv.eq_1 (ai hb (ai e1 (ai e2 (ai e3 (hc)))))) ?_; try with_reducible exact tt)
  refine Wp.loop (fun k : Nat => ⟨fP [(1, .c (.own 0 0)), (3, vi .i64 (if k = 0 then 0 else t.news.getD (k - 1) 0)), (37, .c (.d (nG t.news))), (38, vi .i64 t.news.length), (39, vi .i64 k)], cL [(0, .cells (t.dv.map .d))], 1, 55, 0⟩) (fun k => k ≤ t.news.length ∧ upB 0 (t.news.take k) = true) (fun k => t.news.length - k) 0 ⟨Nat.zero_le _, rfl⟩ ?_ ?_
  · refine aD.keep rfl rfl ?_
    (refine rO (@TabD.dv.eq_1) ?_; try with_reducible exact tt)
  rintro k ⟨hk, oM⟩
  (refine aH ?_; try with_reducible exact tt)
  refine Wp.cond (by (refine aM ?_; try with_reducible exact tt); rfl) (fun h => ?_) (fun h => ?_)
  · have hlt : k < t.news.length := by simpa using h
    have hge : t.news[k]? = some t.news[k] := List.getElem?_eq_getElem hlt
    have hs := qJ 0 t.news k hlt
    have hsucc : t.news.getD (k + 1 - 1) 0 = t.news[k] := by simp [hlt]
    have hN := hb'
    generalize (if k = 0 then (0 : Int) else t.news.getD (k - 1) 0) = least at *
    generalize t.news[k] = n at *
    have hlen : (t.news.length : Int) ≤ 1048577 := by have : (t.news.length : Int) = t.fin - t.start + 1 := by simpa [uE] using hc
                                                      omega
    (refine gO (hge) ?_; try with_reducible exact tt)
    (first | refine Wp.sto 49 (vb (decide (n < least) || decide (1048576 < n))) ?_ ?_ | refine Wp.rtoS 49 (vb (decide (n < least) || decide (1048576 < n))) ?_ ?_ | (refine Wp.seq ?_; first | refine Wp.sto 49 (vb (decide (n < least) || decide (1048576 < n))) ?_ ?_ | refine Wp.rtoS 49 (vb (decide (n < least) || decide (1048576 < n))) ?_ ?_))
    · ((rcases Bool.eq_false_or_eq_true (decide (n < least)) with hL1 | hL1) <;> (rcases Bool.eq_false_or_eq_true (decide (1048576 < n)) with hL2 | hL2) <;> (((refine rO (ai hL1 (ai hL2 (hge))) ?_; try with_reducible exact tt); (repeat (refine aV (by assumption) ?_; (refine rO (ai hL1 (ai hL2 (hge))) ?_; try with_reducible exact tt)))); all_goals (exact (show aG _ _ = true by kernel_rfl))))
    cases hd : (decide (n < least) || decide (1048576 < n)) with
    | true =>
      have hu : upB 0 t.news = false := by
        cases hq : upB 0 t.news with
        | false => rfl
        | true => have := aF3 0 t.news (k + 1) hq; rw [hs, hd] at this; simp at this
      (refine aH ?_; try with_reducible exact tt)
      (refine rO (ai @vI.eq_1 (ai @tM.eq_1 (ai hb (ai hc (ai hu (@cZ.eq_1)))))) ?_; try with_reducible exact tt)
    | false =>
      (refine aH ?_; try with_reducible exact tt)
      refine ⟨k + 1, ⟨by omega, by rw [hs, oM, hd]; rfl⟩, by omega, aD.keep rfl rfl ?_⟩
      (refine rO (ai @TabD.dv.eq_1 (hsucc)) ?_; try with_reducible exact tt)
  · have hu : upB 0 t.news = true := by
      rw [List.take_of_length_le (by simp only [decide_eq_false_iff_not] at h; omega)] at oM; exact oM
    (refine aH ?_; try with_reducible exact tt)
    (refine rO (ai @vI.eq_1 (ai hb (ai hc (hu)))) ?_; try with_reducible exact tt)
structure TabD.Fits (t:TabD):Prop where
 len:t.news.length≤maxLen
 start : -9223372036854775808≤t.start∧t.start≤9223372036854775807
 fin : -9223372036854775808≤t.fin∧t.fin≤9223372036854775807
theorem aIc (t:TabD) (hs:t.Fits):aJ Tryz.prog 123 [.agg t.dv] (if vI t then .val .nilIface else cZ (tM t) 2):=aFr t hs.len hs.start hs.fin
def toX (t:TabD) (off:Int):D:=if !vI t then cZ (tM t) 2 else if off == -1 then .val .nilIface else if decide (off < -1) || decide (t.fin<off) then cZ aPs 130 else .val .nilIface
theorem aQ9 (t:TabD) (off:Int) (hs:t.Fits) (ho : -9223372036854775808≤off∧off≤9223372036854775807):aJ Tryz.prog 86 [.agg t.dv,int off] (.tup [int (cM t off).1,toX t off]):=by
 have c1:=aIc t hs
 simp only[TabD.dv] at c1
 (refine aJ.of_body Tryz.func86 rfl rfl Tryz.ntmps86 Tryz.results86 (by simp) ?_)
 cases hp:vI t with
 | false =>
  simp only[hp,if_false,Bool.false_eq_true] at c1
  (refine gO (ai @TabD.dv.eq_1 (@cZ.eq_1)) ?_;try with_reducible exact tt)
  (refine rO (ai @cM.eq_1 (ai @toX.eq_1 (ai hp (@cZ.eq_1)))) ?_;try with_reducible exact tt)
 | true =>
 simp only[hp,if_true] at c1
 cases h1:(off == -1) with
 | true =>
  (refine gO (ai @TabD.dv.eq_1 (h1)) ?_;try with_reducible exact tt)
  (refine rO (ai @cM.eq_1 (ai @toX.eq_1 (ai hp (h1)))) ?_;try with_reducible exact tt)
 | false =>
 (refine gO (ai @TabD.dv.eq_1 (h1)) ?_;try with_reducible exact tt)
 (first|refine Wp.sto 15 (vb (decide (off < -1) || decide (t.fin<off))) ?_ ?_|refine Wp.rtoS 15 (vb (decide (off < -1) || decide (t.fin<off))) ?_ ?_|(refine Wp.seq ?_;first|refine Wp.sto 15 (vb (decide (off < -1) || decide (t.fin<off))) ?_ ?_|refine Wp.rtoS 15 (vb (decide (off < -1) || decide (t.fin<off))) ?_ ?_))
 ·((rcases Bool.eq_false_or_eq_true (decide (off < -1)) with hL1|hL1)<;>(rcases Bool.eq_false_or_eq_true (decide (t.fin<off)) with hL2|hL2)<;>(((refine rO (ai hL1 (ai hL2 (@TabD.dv.eq_1))) ?_;try with_reducible exact tt);(repeat (refine aV (by assumption) ?_;(refine rO (ai hL1 (ai hL2 (@TabD.dv.eq_1))) ?_;try with_reducible exact tt))));all_goals (exact (show aG _ _=true by kernel_rfl))))
 cases h2:(decide (off < -1) || decide (t.fin<off)) with
 | true =>
  (refine gO (@TabD.dv.eq_1) ?_;try with_reducible exact tt)
  (refine rO (ai @cM.eq_1 (ai @toX.eq_1 (ai hp (ai h1 (ai h2 (@cZ.eq_1)))))) ?_;try with_reducible exact tt)
 | false =>
 obtain⟨g1,g2,g3,g4,g5⟩:=aJv hp
 have h1' : off≠-1:=by simpa using h1
 simp only[Bool.or_eq_false_iff,decide_eq_false_iff_not] at h2
 have e2:IntKind.i64.wrap (off - t.start)=off - t.start:=aF (by omega)
 obtain⟨x,hx⟩:∃ x:Nat,x=(off - t.start).toNat:=⟨_,rfl⟩
 have e3:(if (0:Int) > off - t.start then (0:Int) else off - t.start)=(x:Int):=by split<;>omega
 have hlt:x<t.news.length:=by omega
 have hge:t.news[x]? = some t.news[x]:=List.getElem?_eq_getElem hlt
 have hgd:t.news.getD (off - t.start).toNat 0=t.news[x]:=by rw[← hx,List.getD_eq_getElem?_getD,hge];rfl
 have h2b:(decide (off < -1) || decide (t.fin<off))=false:=by simp;omega
 (refine gO (ai @TabD.dv.eq_1 (ai e2 (ai e3 (hge)))) ?_;try with_reducible exact tt)
 (refine rO (ai @cM.eq_1 (ai @toX.eq_1 (ai hp (ai h1 (ai h2b (hgd)))))) ?_;try with_reducible exact tt)
theorem tA (t:TabD) (off:Int) (hs:t.Fits) (ho : -9223372036854775808≤off∧off≤9223372036854775807):aJ Tryz.prog 50 [.agg t.dv,int off] (.tup [int (cM t off).1,int (cM t off).2]):=by
 have c1:=aQ9 t off hs ho
 have c2:(toX t off = .val .nilIface∧(cM t off).2=0)∨∃ y n,toX t off=cZ y n∧(cM t off).2=n:=by
  unfold toX cM
  cases vI t with
  | false=>exact .inr ⟨_,_,rfl,rfl⟩
  | true =>
   cases (off == -1) with
   | true=>exact .inl ⟨rfl,rfl⟩
   | false =>
    cases (decide (off < -1) || decide (t.fin<off)) with
    | true=>exact .inr ⟨_,_,rfl,rfl⟩
    | false=>exact .inl ⟨rfl,rfl⟩
 generalize toX t off=x at *
 generalize cM t off=y at *
 have c3:=wF
 simp only[TabD.dv] at c1
 (refine aJ.of_body Tryz.func50 rfl rfl Tryz.ntmps50 Tryz.results50 (by simp) ?_)
 rcases c2 with ⟨rfl,c2⟩|⟨z,n,rfl,c2⟩
 ·(refine gO (@TabD.dv.eq_1) ?_;try with_reducible exact tt)
  (refine rO (c2) ?_;try with_reducible exact tt)
 ·have c4:=pB z n
  (refine gO (@TabD.dv.eq_1) ?_;try with_reducible exact tt)
  (refine rO (c2) ?_;try with_reducible exact tt)
def yS (A:List Int) (m:Nat):List CV:=(A++List.replicate m 0).map fun x=>.d (int x)
theorem aC1 (A:List Int) (m:Nat):(yS A m).length=A.length+m:=by simp[yS]
theorem sK (A:List Int) (m:Nat):(yS A m).flatMap CV.ids=[]:=by
 simp only[yS,List.flatMap_map,CV.ids,List.flatMap_eq_nil_iff,implies_true]
theorem aL6 (n:Nat):(mP [Value.int .i64 0] n).map (fun v=>CV.d (.val v))=yS [] n:=by rw[aF8];simp[yS]
theorem aC2 {A:List Int} {m k:Nat} (x:Int) (h:A.length=k):List.take k (yS A (m+1))++[CV.d (int x)]++List.drop (k+1) (yS A (m+1))=yS (A++[x]) m:=by
 have e:yS A (m+1)=A.map (fun x=>CV.d (int x))++(CV.d (int 0)::(List.replicate m 0).map fun x=>CV.d (int x)):=by
  simp[yS,List.replicate_succ]
 have hl:(A.map (fun x=>CV.d (int x))).length=k:=by simpa using h
 rw[e,List.take_left' hl,show k+1=(A.map (fun x=>CV.d (int x))).length+1 by omega,List.drop_append]
 simp[yS]
theorem aNv (A:List Int):cQ CV.toD0 (yS A 0)=some (A.map fun x=>int x):=by
 have:yS A 0=A.map fun x=>CV.d (int x):=by simp[yS]
 rw[this]
 induction A with
 | nil=>rfl
 | cons a A ih =>
  simp only[List.map_cons,cQ,CV.toD0]
  rw[ih (by simp[yS])]
theorem aJ6 (A:List Int) (n:Nat) (h:A.length=n):gV 1 n (A.map fun x=>int x)=A.map fun x=>[int x]:=by
 rw[aA1 n _ (by simpa using h),List.map_map];rfl
theorem aD.fill {σ:St} {A B k n:Nat} {cs:List CV} {l:List Int} (hA:σ.H A=some (.cells cs)) (hAB:A≠B) (hk:cs[k]? = some (.view B 1 0 n)) (hB:σ.H B=some (.cells (yS l 0))) (hl:l.length=n) :
  aD σ { σ with H:=upd (upd σ.H B (some (.froz (l.map fun x=>int x)))) A (some (.cells (cs.set k (.d (.lst 1 (l.map fun x=>[int x])))))) }:=by
 refine aD.trans (aD.freeze (id:=B) hB (aNv l)) ?_
 have:=aD.viewCell (σ:={ σ with H:=upd σ.H B (some (.froz (l.map fun x=>int x))) }) (A:=A) (B:=B) (k:=k) (sz:=1) (n:=n) (cs:=cs) (ds:=l.map fun x=>int x) ((aB _ _ hAB).trans hA) hk (aC _ _ _) (by simpa using hl)
 rw[aJ6 l n hl] at this
 exact this
theorem kT (a b:List Int) (hl:a.length<2 ^ 62):aJ Tryz.prog 76 [nG a,nG b] (eK (decide (a=b))):=by
 (refine aJ.of_body Tryz.func76 rfl rfl Tryz.ntmps76 Tryz.results76 (by simp) ?_)
 by_cases hlen:a.length=b.length
 ·have hne:((a.length:Int) != (b.length:Int))=false:=by simp[hlen]
  (refine gO (hne) ?_;try with_reducible exact tt)
  refine Wp.loop (fun k:Nat=>⟨fP [(0,.c (.d (nG a))),(1,.c (.d (nG b))),(12,vi .i64 a.length),(13,vi .i64 k)],cL [],0,26,0⟩) (fun k=>k≤a.length∧a.take k=b.take k) (fun k=>a.length - k) 0 ⟨Nat.zero_le _,rfl⟩ ?_ ?_
  ·refine aD.keep rfl rfl ?_
   (refine aM ?_;try with_reducible exact tt)
  rintro k ⟨hk,hall⟩
  (refine aH ?_;try with_reducible exact tt)
  refine Wp.cond (by (refine aM ?_;try with_reducible exact tt);rfl) (fun h=>?_) (fun h=>?_)
  ·have hlt:k<a.length:=by simpa using h
   have hlt2:k<b.length:=by omega
   (refine gO (ai (List.getElem?_eq_getElem hlt) ((List.getElem?_eq_getElem hlt2))) ?_;try with_reducible exact tt)
   refine Wp.cond (by (refine aM ?_;try with_reducible exact tt);rfl) (fun h=>?_) (fun h=>?_)
   ·have:¬ a=b:=by
     simp only[bne_iff_ne,ne_eq] at h
     intro e;subst e;exact h rfl
    have:decide (a=b)=false:=by simp[this]
    (refine aH ?_;try with_reducible exact tt)
    (refine rO (this) ?_;try with_reducible exact tt)
   ·have h:a[k]=b[k]:=by simpa using h
    (refine aH ?_;try with_reducible exact tt)
    refine⟨k+1,⟨by omega,?_⟩,by omega,aD.keep rfl rfl ?_⟩
    ·rw[List.take_succ_eq_append_getElem hlt,List.take_succ_eq_append_getElem hlt2,hall,h]
    (refine aM ?_;try with_reducible exact tt)
  ·have hk2:k=a.length:=by simp only[decide_eq_false_iff_not] at h;omega
   have:a=b:=by
    rw[List.take_of_length_le (by omega),List.take_of_length_le (by omega)] at hall;exact hall
   have:decide (a=b)=true:=by simp[this]
   (refine aH ?_;try with_reducible exact tt)
   (refine rO (this) ?_;try with_reducible exact tt)
 ·have hne:((a.length:Int) != (b.length:Int))=true:=by simp;omega
  have:decide (a=b)=false:=by
   simp only[decide_eq_false_iff_not];intro e;subst e;exact hlen rfl
  (refine gO (hne) ?_;try with_reducible exact tt)
  (refine rO (this) ?_;try with_reducible exact tt)
instance :DecidableEq TabD:=fun a b=>decidable_of_iff (a.start=b.start∧a.fin=b.fin∧a.news=b.news) (by cases a;cases b;simp)
theorem aOn (n:Int):iI (.tup [.agg [int 0,int 0,cH],int n]) (.tup [.agg fR.dv,int n]) :=
 .tup (.cons (.agg (.cons (.refl _) (.cons (.refl _) (.cons (.nil 1) .nil)))) (.cons (.refl _) .nil))
abbrev mkS (old fresh:PartD) (n k:Nat) (row:Nat):St:=⟨fP [(2,.c (.own 0 0)),(3,.c (.own 1 0)),(4,.c (.own 2 0)),(7,.c (.own 4 0)),(8,vi .i64 row),(32,vi .i64 n),(33,vi .i64 k)],cL [(0,.cells (old.dv.map .d)),(1,.cells (fresh.dv.map .d)),(2,.cells [.d (int 0),.d (int 0),.d cH]),(3,.cells (yS (mW old fresh k) (n - k))),(4,.cells [.d (int old.start),.d (int old.fin),.view 3 1 0 n])],5,79,0⟩
abbrev aTl (old fresh:PartD) (n k:Nat) (row:Nat):St:=⟨fP [(2,.c (.own 0 0)),(3,.c (.own 1 0)),(4,.c (.own 2 0)),(7,.c (.own 4 0)),(8,vi .i64 row),(9,vi .i64 k),(32,vi .i64 n),(33,vi .i64 k)],cL [(0,.cells (old.dv.map .d)),(1,.cells (fresh.dv.map .d)),(2,.cells [.d (int 0),.d (int 0),.d cH]),(3,.cells (yS (mW old fresh k) (n - k))),(4,.cells [.d (int old.start),.d (int old.fin),.view 3 1 0 n])],5,79,0⟩
theorem aH8 {p:PartD} {n:Int} {r:Nat} (hr:r≤p.rows.length) (h1:∀ (j:Nat) (hj:j<p.rows.length),j<r→p.rows[j].off<n) (h2:r=p.rows.length∨∃ hl:r<p.rows.length,n≤p.rows[r].off):nF p n=r:=by
 have hle:=aNi p n
 have ha:r≤nF p n:=by
  rcases Nat.lt_or_ge (nF p n) r with h|h
  ·have hlt:nF p n<p.rows.length:=by omega
   have h3:decide (n≤(p.rows[nF p n]).off)=true:=List.findIdx_getElem (p:=fun r:RowD=>decide (n≤r.off)) (xs:=p.rows) (w:=hlt)
   simp only[decide_eq_true_eq] at h3
   have:=h1 (nF p n) hlt h
   omega
  ·exact h
 rcases h2 with h2|⟨hl,h2⟩
 ·omega
 ·rcases Nat.lt_or_ge r (nF p n) with h|h
  ·have h3:=List.not_of_lt_findIdx h
   simp at h3
   omega
  ·omega
theorem aK4 (old fresh:PartD) (ho:Small old) (hf:Small fresh):aJ Tryz.prog 89 [.agg old.dv,.agg fresh.dv] (.tup [.agg (uR old fresh).1.dv,int (uR old fresh).2]):=by
 have c1:=aJ2 old fresh ho hf
 have c2:=pB (tS old fresh) 2
 simp only[PartD.dv] at c1
 (refine aJ.of_bodyW Tryz.func89 rfl rfl Tryz.ntmps89 Tryz.results89 (by simp) ?_)
 cases hm:mH old fresh with
 | false =>
  simp only[hm,if_false,Bool.false_eq_true] at c1
  (refine gO (ai @PartD.dv.eq_1 (@cZ.eq_1)) ?_;try with_reducible exact tt)
  (refine rO (ai @uR.eq_1 (hm)) ?_;try with_reducible exact tt)
  exact⟨_,rfl,fun K v h=>aOn 2 K v h⟩
 | true =>
 simp only[hm,if_true] at c1
 obtain⟨hpo,hpf,hlen⟩:=aL1 hm
 obtain⟨g1,g2,g3⟩:=fM hpo
 have hro:=ho.rows
 obtain⟨n,hn⟩:∃ n:Nat,n=(old.fin - old.start+1).toNat:=⟨_,rfl⟩
 have e1:IntKind.i64.wrap (old.fin - old.start)=old.fin - old.start:=aF (by omega)
 have e2:IntKind.i64.wrap (old.fin - old.start+1)=(n:Int):=by rw[aF (by omega)];omega
 have e3:8*n≤140737488355328:=by omega
 have e4:n≠0:=by omega
 (refine gO (ai @PartD.dv.eq_1 (ai e1 (ai e2 (ai e3 (ai e4 (ai @aL6 (@aC1))))))) ?_;try with_reducible exact tt)
 refine Wp.loop (fun q:Nat × Nat=>mkS old fresh n q.1 q.2) (fun q=>q.1≤n∧q.2≤old.rows.length∧∀ (j:Nat) (hj:j<old.rows.length),j<q.2→old.rows[j].off<old.start+q.1) (fun q=>n - q.1) (0,0) ⟨Nat.zero_le _,Nat.zero_le _,fun j hj h=>by simp only at h;omega⟩ ?_ ?_
 ·refine aD.keep rfl (by simp[aN,SV.ids,HE.ids,CV.ids,sK,PartD.dv];rfl) ?_
  (refine rO (ai @PartD.dv.eq_1 (ai @mW.eq_1 (@List.range_zero))) ?_;try with_reducible exact tt)
 rintro⟨k,row⟩ ⟨hk,hrow,hbe⟩
 simp only at hk hrow hbe
 (refine aH ?_;try with_reducible exact tt)
 refine Wp.cond (by (refine aM ?_;try with_reducible exact tt);rfl) (fun h=>?_) (fun h=>?_)
 ·have hkn:k<n:=by simpa using h
  (refine aH ?_;try with_reducible exact tt)
  refine Wp.loop (fun r:Nat=>aTl old fresh n k r) (fun r=>r≤old.rows.length∧∀ (j:Nat) (hj:j<old.rows.length),j<r→old.rows[j].off<old.start+k) (fun r=>old.rows.length - r) row ⟨hrow,hbe⟩ ?_ ?_
  ·refine aD.keep rfl (by simp[aN,SV.ids,HE.ids,CV.ids,sK,PartD.dv];rfl) ?_
   (refine rO (@PartD.dv.eq_1) ?_;try with_reducible exact tt)
  rintro row ⟨hrow,hbe⟩
  have e5:IntKind.i64.wrap (old.start+(k:Int))=old.start+k:=aF (by omega)
  by_cases hlt:row<old.rows.length
  ·have hge:old.rows[row]? = some old.rows[row]:=List.getElem?_eq_getElem hlt
   have hfr:row<fresh.rows.length:=by omega
   have hgf:fresh.rows[row]? = some fresh.rows[row]:=List.getElem?_eq_getElem hfr
   have d1:decide ((row:Int)<(old.rows.length:Int))=true:=by simp;omega
   cases hc:decide (old.rows[row].off<old.start+k) with
   | true =>
    (refine gO (ai @PartD.dv.eq_1 (ai d1 (ai hge (ai @RowD.dv.eq_1 (ai e5 (hc)))))) ?_;try with_reducible exact tt)
    refine⟨row+1,⟨by omega,fun j hj hjr=>?_⟩,by omega,aD.keep rfl (by simp[aN,SV.ids,HE.ids,CV.ids,sK,PartD.dv];rfl) ?_⟩
    ·rcases Nat.lt_or_ge j row with h1|h1
     ·exact hbe j hj h1
     ·have e:j=row:=by omega
      subst e;simpa using hc
    (refine rO (@PartD.dv.eq_1) ?_;try with_reducible exact tt)
   | false =>
    have hfi:nF old (old.start+k)=row:=aH8 hrow hbe (.inr ⟨hlt,by simpa using hc⟩)
    have hna:aHg old fresh (old.start+k)=fresh.rows[row].off:=by
     show (match fresh.rows[nF old (old.start+k)]? with|some r=>r.off|none=>fresh.fin)=_
     rw[hfi,hgf]
    have hput:=aC2 (m:=n - (k+1)) fresh.rows[row].off (jT old fresh k)
    rw[show n - (k+1)+1=n - k by omega,← hna,← xK] at hput
    have hk1:k+1≤k+(n - k):=by omega
    (repeat (first|apply Wp.skip|apply Wp.exit|apply Wp.ret|apply Wp.block|apply Wp.label|((first|refine Wp.sreg (fun K hK=>?_)|refine Wp.reg (fun K hK=>?_)|refine Wp.sdrw aA (fun K hK=>?_)|refine Wp.drw aA (fun K hK=>?_)|refine Wp.condG (fun K hK hF=>?_));(repeat (revert hK;intro hK;simp (maxSteps:=2000000) (disch:=omega) only[bZ,TY,aK,bD,bS,SV.ofD,bA,bF,bO,bP,aI,bQ,bI,bH,bR,bE,bM,bL,bN,CV.exact,CV.lstOf,CV.lenOf,CV.one,D.one,Value.oneCell',CV.toD0,bU,bC,bW,bK,rD0,bY,bJ,bV,reduceCtorEq,reduceIte,Nat.reduceBEq,Nat.reduceEqDiff,Nat.reduceAdd,Nat.reduceMul,Nat.reduceSub,Nat.reduceLT,Nat.reduceLeDiff,Nat.reduceBNe,Int.reduceLE,Int.reduceLT,Int.reduceBEq,Int.reduceBNe,Int.reduceEq,Int.reduceNeg,Int.reduceAdd,Int.reduceSub,Int.reduceToNat,forall_const,PartD.dv,d1,hge,hgf,RowD.dv,e5,hc,hkn,aC1,jT,Nat.mul_one,hk1,← hna,hput];(first|(refine hK _ ?_;clear hK K)|(refine⟨by kernel_rfl,hK _ ?_⟩;clear hK K)|(refine hK ?_;clear hK hF K)|(refine hF ?_;clear hK hF K)|refine aV (by assumption) ?_|refine gM (by assumption) ?_)));fail_if_success (revert hK;intro hK))|apply Wp.seq))
    refine⟨(k+1,row),⟨by simp only;omega,hrow,fun j hj hjr=>?_⟩,by simp only;omega,aD.keep rfl (by simp[aN,SV.ids,HE.ids,CV.ids,sK,PartD.dv];rfl) ?_⟩
    ·have:=hbe j hj hjr;simp only;omega
    (refine rO (@PartD.dv.eq_1) ?_;try with_reducible exact tt)
  ·have hr:row=old.rows.length:=by omega
   have d1:decide ((row:Int)<(old.rows.length:Int))=false:=by simp;omega
   have hfi:nF old (old.start+k)=row:=aH8 hrow hbe (.inl hr)
   have hna:aHg old fresh (old.start+k)=fresh.fin:=by
    show (match fresh.rows[nF old (old.start+k)]? with|some r=>r.off|none=>fresh.fin)=_
    rw[hfi,List.getElem?_eq_none (by omega)]
   have hput:=aC2 (m:=n - (k+1)) fresh.fin (jT old fresh k)
   rw[show n - (k+1)+1=n - k by omega,← jT old fresh k] at hput
   have hput2:List.take k (yS (mW old fresh k) (n - k))++[CV.d (int fresh.fin)]++List.drop (k+1) (yS (mW old fresh k) (n - k))=yS (mW old fresh (k+1)) (n - (k+1)):=by
    have:=aC2 (m:=n - (k+1)) fresh.fin (jT old fresh k)
    rw[show n - (k+1)+1=n - k by omega] at this
    rw[this,xK,hna]
   have hk1:k+1≤k+(n - k):=by omega
   (refine gO (ai @PartD.dv.eq_1 (ai d1 (ai e5 (ai hkn (ai @aC1 (ai @jT (ai @Nat.mul_one (ai hk1 (hput2))))))))) ?_;try with_reducible exact tt)
   refine⟨(k+1,row),⟨by simp only;omega,hrow,fun j hj hjr=>?_⟩,by simp only;omega,aD.keep rfl (by simp[aN,SV.ids,HE.ids,CV.ids,sK,PartD.dv];rfl) ?_⟩
   ·have:=hbe j hj hjr;simp only;omega
   (refine rO (@PartD.dv.eq_1) ?_;try with_reducible exact tt)
 ·have hk2:k=n:=by simp only[decide_eq_false_iff_not] at h;omega
  subst hk2
  refine Wp.weak (aD.fill (A:=4) (B:=3) (k:=2) (n:=k) (l:=mW old fresh k) (cs:=[.d (int old.start),.d (int old.fin),.view 3 1 0 k]) (by (refine aM ?_;try with_reducible exact tt)) (by decide) rfl (by (refine rO (@Nat.sub_self) ?_;try with_reducible exact tt)) (jT old fresh k)) ?_
  (refine gO (ai @PartD.dv.eq_1 (ai @List.set_cons_succ.{0} (@List.set_cons_zero.{0}))) ?_;try with_reducible exact tt)
  simp (maxSteps:=2000000) (disch:=omega) only[bZ,TY,aK,bD,bS,SV.ofD,bA,bF,bO,bP,aI,bQ,bI,bH,bR,bE,bM,bL,bN,CV.exact,CV.lstOf,CV.lenOf,CV.one,D.one,Value.oneCell',CV.toD0,bU,bC,bW,bK,rD0,bY,bJ,bV,reduceCtorEq,reduceIte,Nat.reduceBEq,Nat.reduceEqDiff,Nat.reduceAdd,Nat.reduceMul,Nat.reduceSub,Nat.reduceLT,Nat.reduceLeDiff,Nat.reduceBNe,Int.reduceLE,Int.reduceLT,Int.reduceBEq,Int.reduceBNe,Int.reduceEq,Int.reduceNeg,Int.reduceAdd,Int.reduceSub,Int.reduceToNat,forall_const,uR,hm,aMl,TabD.dv,← hn]
  exact⟨_,rfl,fun K v h=>h⟩
theorem aGv:∀ (l:List Int),(∀ (i:Nat) (hi:i+1<l.length),l[i]<l[i+1])→eD l=true
 | [],_=>rfl
 | [a],_=>rfl
 | a::b::l,h=>by
  have h0:=h 0 (by simp)
  simp only[List.getElem_cons_zero,List.getElem_cons_succ] at h0
  simp only[eD,h0,decide_true,Bool.true_and]
  exact aGv (b::l) (fun i hi=>by have:=h (i+1) (by simpa using hi);simpa using this)
def iS (p:PartD) (r:RowD) (prev:Option RowD):Bool:=decide (r.off<p.start) || decide (p.fin≤r.off) || (match prev with
 | none=>false
 | some q=>decide (r.off≤q.off))
def fW (o:OpenD) (prev:Option OpenD):Bool:=o.bats == [] || (match prev with
 | none=>false
 | some q=>decide (o.pid≤q.pid))
def cY {α:Type} (l:List α) (k:Nat):Option α:=if k=0 then none else l[k - 1]?
theorem aOa {p:PartD} (h0:eC p=false) (h1:∀ (k:Nat) (hk:k<p.rows.length),iS p p.rows[k] (cY p.rows k)=false) (h2:∀ (k:Nat) (hk:k<p.opens.length),fW p.opens[k] (cY p.opens k)=false):cD p=true:=by
 have hrow:∀ r ∈ p.rows,p.start≤r.off∧r.off<p.fin:=fun r hr=>by
  obtain⟨k,hk,rfl⟩:=List.getElem_of_mem hr
  have:=h1 k hk
  simp only[iS,Bool.or_eq_false_iff,decide_eq_false_iff_not] at this
  omega
 have hr1:eD (p.rows.map (·.off))=true:=aGv _ (fun i hi=>by
  have hi' : i+1<p.rows.length:=by simpa using hi
  have:=h1 (i+1) hi'
  simp only[iS,cY,Nat.succ_ne_self,if_neg (Nat.succ_ne_zero i),Nat.add_sub_cancel,List.getElem?_eq_getElem (show i<p.rows.length by omega),Bool.or_eq_false_iff,decide_eq_false_iff_not] at this
  simp only[List.getElem_map];omega)
 have hr2:eD (p.opens.map (·.pid))=true:=aGv _ (fun i hi=>by
  have hi' : i+1<p.opens.length:=by simpa using hi
  have:=h2 (i+1) hi'
  simp only[fW,cY,if_neg (Nat.succ_ne_zero i),Nat.add_sub_cancel,List.getElem?_eq_getElem (show i<p.opens.length by omega),Bool.or_eq_false_iff,decide_eq_false_iff_not] at this
  simp only[List.getElem_map];omega)
 have he:fT p=false:=by
  unfold fT
  split
  ·rename_i a b ha hb
   have q1:=hrow a (List.mem_of_mem_head? ha)
   have q2:=hrow b (List.mem_of_mem_getLast? hb)
   simp only[Bool.or_eq_false_iff,decide_eq_false_iff_not];omega
  ·rfl
 have hb:p.opens.any (fun o=>o.bats == [])=false:=by
  rw[List.any_eq_false]
  intro o ho
  obtain⟨k,hk,rfl⟩:=List.getElem_of_mem ho
  have:=h2 k hk
  simp only[fW,Bool.or_eq_false_iff] at this
  simp[this.1]
 simp only[cD,h0,hr1,he,hr2,hb,Bool.not_false,Bool.and_self]
theorem aEn {p:PartD} (h:cD p=true) (k:Nat) (hk:k<p.rows.length):iS p p.rows[k] (cY p.rows k)=false:=by
 have h1:=uA h p.rows[k] (List.getElem_mem hk)
 have h2:decide (p.rows[k].off<p.start)=false:=by simp;omega
 have h3:decide (p.fin≤p.rows[k].off)=false:=by simp;omega
 simp only[iS,h2,h3,Bool.false_or,cY]
 cases k with
 | zero=>rfl
 | succ k =>
  rw[if_neg (Nat.succ_ne_zero k),Nat.add_sub_cancel,List.getElem?_eq_getElem (by omega)]
  have:=qB _ (aEm h) k (k+1) (by simpa using hk) (by omega)
  simp only[List.getElem_map] at this
  simp;omega
theorem aC8 {p:PartD} (h:cD p=true) (k:Nat) (hk:k<p.opens.length):fW p.opens[k] (cY p.opens k)=false:=by
 simp only[cD,Bool.and_eq_true,Bool.not_eq_true'] at h
 have h1:(p.opens[k].bats == [])=false:=by
  have:=List.any_eq_false.1 h.2 p.opens[k] (List.getElem_mem hk)
  simpa using this
 simp only[fW,h1,Bool.false_or,cY]
 cases k with
 | zero=>rfl
 | succ k =>
  rw[if_neg (Nat.succ_ne_zero k),Nat.add_sub_cancel,List.getElem?_eq_getElem (by omega)]
  have:=qB _ h.1.2 k (k+1) (by simpa using hk) (by omega)
  simp only[List.getElem_map] at this
  simp;omega
theorem yC (p:PartD) (hr:p.rows.length≤maxLen) (ho:p.opens.length≤maxLen):aJ Tryz.prog 35 [.agg p.dv] (int (if cD p then 0 else 2)):=by
 have hml:maxLen≤9223372036854775807:=by decide
 (refine aJ.of_body Tryz.func35 rfl rfl Tryz.ntmps35 Tryz.results35 (by simp) ?_)
 (refine gO (@PartD.dv.eq_1) ?_;try with_reducible exact tt)
 (first|refine Wp.sto 20 (vb (eC p)) ?_ ?_|refine Wp.rtoS 20 (vb (eC p)) ?_ ?_|(refine Wp.seq ?_;first|refine Wp.sto 20 (vb (eC p)) ?_ ?_|refine Wp.rtoS 20 (vb (eC p)) ?_ ?_))
 ·unfold eC;((rcases Bool.eq_false_or_eq_true (decide (p.start<0)) with hL1|hL1)<;>(rcases Bool.eq_false_or_eq_true (decide (p.fin<p.start)) with hL2|hL2)<;>(rcases Bool.eq_false_or_eq_true (decide (1048576<p.fin)) with hL3|hL3)<;>(((refine rO (ai hL1 (ai hL2 (ai hL3 (@PartD.dv.eq_1)))) ?_;try with_reducible exact tt);(repeat (refine aV (by assumption) ?_;(refine rO (ai hL1 (ai hL2 (ai hL3 (@PartD.dv.eq_1)))) ?_;try with_reducible exact tt))));all_goals (exact (show aG _ _=true by kernel_rfl))))
 cases hb:eC p with
 | true =>
  have hf:cD p=false:=by simp[cD,hb]
  (refine gO (@PartD.dv.eq_1) ?_;try with_reducible exact tt)
  (refine rO (hf) ?_;try with_reducible exact tt)
 | false =>
 (refine gO (@PartD.dv.eq_1) ?_;try with_reducible exact tt)
 refine Wp.loop (fun k:Nat=>⟨fP [(1,.c (.own 0 0)),(3,vi .i64 k)],cL [(0,.cells (p.dv.map .d))],1,94,0⟩) (fun k=>k≤p.rows.length∧∀ (j:Nat) (hj:j<p.rows.length),j<k→iS p p.rows[j] (cY p.rows j)=false) (fun k=>p.rows.length - k) 0 ⟨Nat.zero_le _,fun j hj h=>by omega⟩ ?_ ?_
 ·refine aD.keep rfl rfl ?_
  (refine rO (@PartD.dv.eq_1) ?_;try with_reducible exact tt)
 rintro k ⟨hk,hall⟩
 (refine gO (@PartD.dv.eq_1) ?_;try with_reducible exact tt)
 refine Wp.cond (by (refine aM ?_;try with_reducible exact tt);rfl) (fun h=>?_) (fun h=>?_)
 ·have hlt:k<p.rows.length:=by simpa using h
  have hge:p.rows[k]? = some p.rows[k]:=List.getElem?_eq_getElem hlt
  have hbad:iS p p.rows[k] (cY p.rows k)=true→cD p=false:=fun hx=>by
   cases hq:cD p with
   | false=>rfl
   | true=>rw[aEn hq k hlt] at hx;cases hx
  have hnext:iS p p.rows[k] (cY p.rows k)=false→∀ (j:Nat) (hj:j<p.rows.length),j<k+1→iS p p.rows[j] (cY p.rows j)=false:=fun hx j hj hjk=>by
   rcases Nat.lt_or_ge j k with h1|h1
   ·exact hall j hj h1
   ·have e:j=k:=by omega
    subst e;exact hx
  have ew:IntKind.i64.wrap ((k:Int)+1)=k+1:=aF (by omega)
  generalize p.rows[k]=r at *
  (refine gO (ai @PartD.dv.eq_1 (ai hge (@RowD.dv.eq_1))) ?_;try with_reducible exact tt)
  (first|refine Wp.sto 58 (vb (iS p r (cY p.rows k))) ?_ ?_|refine Wp.rtoS 58 (vb (iS p r (cY p.rows k))) ?_ ?_|(refine Wp.seq ?_;first|refine Wp.sto 58 (vb (iS p r (cY p.rows k))) ?_ ?_|refine Wp.rtoS 58 (vb (iS p r (cY p.rows k))) ?_ ?_))
  ·by_cases h0:k=0
   ·subst h0
    have:cY p.rows 0=none:=rfl
    rw[this]
    show _
    unfold iS
    ((rcases Bool.eq_false_or_eq_true (decide (r.off<p.start)) with hL1|hL1)<;>(rcases Bool.eq_false_or_eq_true (decide (p.fin≤r.off)) with hL2|hL2)<;>(((refine rO (ai hL1 (ai hL2 (ai @PartD.dv.eq_1 (ai hge (@RowD.dv.eq_1))))) ?_;try with_reducible exact tt);(repeat (refine aV (by assumption) ?_;(refine rO (ai hL1 (ai hL2 (ai @PartD.dv.eq_1 (ai hge (@RowD.dv.eq_1))))) ?_;try with_reducible exact tt))));all_goals (exact (show aG _ _=true by kernel_rfl))))
   ·have hgp:p.rows[k - 1]? = some (p.rows[k - 1]'(by omega)):=List.getElem?_eq_getElem (by omega)
    have:cY p.rows k=some (p.rows[k - 1]'(by omega)):=by unfold cY;rw[if_neg h0,hgp]
    rw[this]
    generalize p.rows[k - 1]'(by omega)=q at *
    have d0:decide ((0:Int)<(k:Int))=true:=by simp;omega
    have et:(((k:Int) - 1)).toNat=k - 1:=by omega
    have ep:((0:Int)≤(k:Int) - 1)=True:=by simp;omega
    show _
    unfold iS
    ((rcases Bool.eq_false_or_eq_true (decide (r.off<p.start)) with hL1|hL1)<;>(rcases Bool.eq_false_or_eq_true (decide (p.fin≤r.off)) with hL2|hL2)<;>(rcases Bool.eq_false_or_eq_true (decide (r.off≤q.off)) with hL3|hL3)<;>(((refine rO (ai hL1 (ai hL2 (ai hL3 (ai @PartD.dv.eq_1 (ai hge (ai hgp (ai @RowD.dv.eq_1 (ai d0 (ai et (ep)))))))))) ?_;try with_reducible exact tt);(repeat (refine aV (by assumption) ?_;(refine rO (ai hL1 (ai hL2 (ai hL3 (ai @PartD.dv.eq_1 (ai hge (ai hgp (ai @RowD.dv.eq_1 (ai d0 (ai et (ep)))))))))) ?_;try with_reducible exact tt))));all_goals (exact (show aG _ _=true by kernel_rfl))))
  cases hx:iS p r (cY p.rows k) with
  | true =>
   have hf:=hbad hx
   (refine gO (@PartD.dv.eq_1) ?_;try with_reducible exact tt)
   (refine rO (hf) ?_;try with_reducible exact tt)
  | false =>
   (refine gO (@PartD.dv.eq_1) ?_;try with_reducible exact tt)
   refine⟨k+1,⟨by omega,hnext hx⟩,by omega,aD.keep rfl rfl ?_⟩
   (refine rO (ai @PartD.dv.eq_1 (ew)) ?_;try with_reducible exact tt)
 have hrows:∀ (j:Nat) (hj:j<p.rows.length),iS p p.rows[j] (cY p.rows j)=false:=fun j hj=>hall j hj (by simp only[decide_eq_false_iff_not] at h;omega)
 (refine gO (@PartD.dv.eq_1) ?_;try with_reducible exact tt)
 refine Wp.loop (fun k:Nat=>⟨fP [(1,.c (.own 0 0)),(5,vi .i64 k)],cL [(0,.cells (p.dv.map .d))],1,94,0⟩) (fun k=>k≤p.opens.length∧∀ (j:Nat) (hj:j<p.opens.length),j<k→fW p.opens[j] (cY p.opens j)=false) (fun k=>p.opens.length - k) 0 ⟨Nat.zero_le _,fun j hj h=>by omega⟩ ?_ ?_
 ·refine aD.keep rfl rfl ?_
  (refine rO (@PartD.dv.eq_1) ?_;try with_reducible exact tt)
 clear hall hk h
 rintro k ⟨hk,hall⟩
 (refine gO (@PartD.dv.eq_1) ?_;try with_reducible exact tt)
 refine Wp.cond (by (refine aM ?_;try with_reducible exact tt);rfl) (fun h=>?_) (fun h=>?_)
 ·have hlt:k<p.opens.length:=by simpa using h
  have hge:p.opens[k]? = some p.opens[k]:=List.getElem?_eq_getElem hlt
  have hbad:fW p.opens[k] (cY p.opens k)=true→cD p=false:=fun hx=>by
   cases hq:cD p with
   | false=>rfl
   | true=>rw[aC8 hq k hlt] at hx;cases hx
  have hnext:fW p.opens[k] (cY p.opens k)=false→∀ (j:Nat) (hj:j<p.opens.length),j<k+1→fW p.opens[j] (cY p.opens j)=false:=fun hx j hj hjk=>by
   rcases Nat.lt_or_ge j k with h1|h1
   ·exact hall j hj h1
   ·have e:j=k:=by omega
    subst e;exact hx
  have ew:IntKind.i64.wrap ((k:Int)+1)=k+1:=aF (by omega)
  generalize p.opens[k]=o at *
  have hlen:(((o.bats.length:Nat):Int) == 0)=(o.bats == []):=by
   cases o.bats with
   | nil=>rfl
   | cons a l=>simp;omega
  (refine gO (ai @PartD.dv.eq_1 (ai hge (@OpenD.dv.eq_1))) ?_;try with_reducible exact tt)
  (first|refine Wp.stoD 93 (vb (fW o (cY p.opens k))) aA ?_ ?_|refine Wp.rtoDS 93 (vb (fW o (cY p.opens k))) aA ?_ ?_|(refine Wp.seq ?_;first|refine Wp.stoD 93 (vb (fW o (cY p.opens k))) aA ?_ ?_|refine Wp.rtoDS 93 (vb (fW o (cY p.opens k))) aA ?_ ?_))
  ·by_cases h0:k=0
   ·subst h0
    have:cY p.opens 0=none:=rfl
    rw[this]
    unfold fW
    ((rcases Bool.eq_false_or_eq_true ((o.bats == [])) with hL1|hL1)<;>(((refine rO (ai hL1 (ai @PartD.dv.eq_1 (ai hge (ai @OpenD.dv.eq_1 (hlen))))) ?_;try with_reducible exact tt);(repeat (refine aV (by assumption) ?_;(refine rO (ai hL1 (ai @PartD.dv.eq_1 (ai hge (ai @OpenD.dv.eq_1 (hlen))))) ?_;try with_reducible exact tt))));all_goals (exact (show aG _ _=true by kernel_rfl))))
   ·have hgp:p.opens[k - 1]? = some (p.opens[k - 1]'(by omega)):=List.getElem?_eq_getElem (by omega)
    have:cY p.opens k=some (p.opens[k - 1]'(by omega)):=by unfold cY;rw[if_neg h0,hgp]
    rw[this]
    generalize p.opens[k - 1]'(by omega)=q at *
    have d0:decide ((0:Int)<(k:Int))=true:=by simp;omega
    have et:(((k:Int) - 1)).toNat=k - 1:=by omega
    have ep:((0:Int)≤(k:Int) - 1)=True:=by simp;omega
    unfold fW
    ((rcases Bool.eq_false_or_eq_true ((o.bats == [])) with hL1|hL1)<;>(rcases Bool.eq_false_or_eq_true (decide (o.pid≤q.pid)) with hL2|hL2)<;>(((refine rO (ai hL1 (ai hL2 (ai @PartD.dv.eq_1 (ai hge (ai hgp (ai @OpenD.dv.eq_1 (ai d0 (ai et (ai ep (hlen)))))))))) ?_;try with_reducible exact tt);(repeat (refine aV (by assumption) ?_;(refine rO (ai hL1 (ai hL2 (ai @PartD.dv.eq_1 (ai hge (ai hgp (ai @OpenD.dv.eq_1 (ai d0 (ai et (ai ep (hlen)))))))))) ?_;try with_reducible exact tt))));all_goals (exact (show aG _ _=true by kernel_rfl))))
  cases hx:fW o (cY p.opens k) with
  | true =>
   have hf:=hbad hx
   (refine gO (@PartD.dv.eq_1) ?_;try with_reducible exact tt)
   (refine rO (hf) ?_;try with_reducible exact tt)
  | false =>
   (refine gO (@PartD.dv.eq_1) ?_;try with_reducible exact tt)
   refine⟨k+1,⟨by omega,hnext hx⟩,by omega,aD.keep rfl rfl ?_⟩
   (refine rO (ai @PartD.dv.eq_1 (ew)) ?_;try with_reducible exact tt)
 have hp:cD p=true:=aOa hb hrows (fun j hj=>hall j hj (by simp only[decide_eq_false_iff_not] at h;omega))
 (refine gO (@PartD.dv.eq_1) ?_;try with_reducible exact tt)
 (refine rO (hp) ?_;try with_reducible exact tt)
end Go.Proofs.YtkmfmphpndhkjaaGreatDoor
