/- The abstract machine (EqA, SqA, SqB, CpDp, SqC). -/
import Derived.Test.YtkmfmphpndhkjaaGreatDoorApA
import Derived.Test.YtkmfmphpndhkjaaGreatDoorErM
namespace Go.Proofs.YtkmfmphpndhkjaaGreatDoor
open Go Go.RowKit
set_option maxHeartbeats 4000000
set_option maxRecDepth 100000
set_option linter.unusedVariables false
set_option linter.unusedSimpArgs false
set_option maxHeartbeats 8000000
def jY (l:List SeenD):List (List D):=l.reverse.zipIdx.map fun (e,y)=>[int ((l.length:Int) - 1 - (y:Int)),.agg e.dv]
theorem rU (l:List SeenD):(jY l).length=l.length:=by simp[jY]
theorem rT (l:List SeenD) (y:Nat) (e:SeenD) (h:l.reverse[y]? = some e) (hy:y<(jY l).length):(jY l)[y]=[int ((l.length:Int) - 1 - y),.agg e.dv]:=by
 have:(jY l)[y]? = some [int ((l.length:Int) - 1 - y),.agg e.dv]:=by simp only[jY,List.getElem?_map,List.getElem?_zipIdx,h,Option.map_some,Nat.zero_add]
 exact (List.getElem?_eq_some_iff.1 this).2
theorem yW (l:List SeenD) (hl:l.length≤1000000):aK6 Tryz.prog 200 [.ptr [.lst 3 (l.map SeenD.dv)] 0] (jY l):=by
 (refine aK6.of_body Tryz.func200 rfl rfl Tryz.ntmps200 Tryz.results200 (by simp) (fun ks A cont q hL hY=>?_))
 have hlen:=rU l
 (refine aH ?_)
 refine Wp.loop (fun y:Nat=>⟨fP [(0,.c (.yld 999)),(1,.c (.d (.ptr [.lst 3 (l.map SeenD.dv)] 0))),(3,vi .i64 ((l.length:Int) - 1 - y))],vC (A y) [],1000,19,⟨ks,[],false,some q⟩⟩) (fun y=>y≤l.length∧∀ j,j<y→cont j=true) (fun y=>l.length - y) 0 ⟨Nat.zero_le _,fun j hj=>by omega⟩ ?_ ?_
 ·refine aD.keepB (A:=A) hL 0 rfl rfl (kX _) rfl ?_
  (refine aM ?_)
  simp
 rintro y ⟨hy,hc⟩
 (refine aH ?_)
 refine Wp.cond (by (refine aM ?_);rfl) (fun h=>?_) (fun h=>?_)
 ·have hlt:y<l.length:=by simp only[decide_eq_true_eq] at h;omega
  have hi:((l.length:Int) - 1 - y).toNat=l.length - 1 - y:=by omega
  have hp:((0:Int)≤(l.length:Int) - 1 - y)=True:=by simp;omega
  have hg:l[l.length - 1 - y]? = some (l[l.length - 1 - y]'(by omega)):=List.getElem?_eq_getElem (by omega)
  have hYy:=hY y (by omega) hc
  have hrev:l.reverse[y]? = some (l[l.length - 1 - y]'(by omega)):=by rw[List.getElem?_reverse hlt,hg]
  rw[rT l y _ hrev] at hYy
  generalize l[l.length - 1 - y]'(by omega)=e at *
  simp only[SeenD.dv] at hYy
  refine Wp.skip ?_
  refine Wp.seq ?_
  refine Wp.block ?_
  ((first|refine Wp.regY 6 rfl (fun K hK=>?_)|(refine Wp.seq ?_;refine Wp.regY 6 rfl (fun K hK=>?_)));(refine rO (ai hi (ai hp (ai hg (@SeenD.dv.eq_1)))) ?_);refine hK _ ?_;clear hK K;refine YAt.of hL rfl rfl rfl rfl hYy (by ((repeat refine (vZ (by omega)).2 ?_);first|exact kX _|exact aCx rfl)) (by (refine rO (ai hi (ai hp (ai hg (@SeenD.dv.eq_1)))) ?_;try with_reducible exact tt)) (by (refine rO (ai hi (ai hp (ai hg (@SeenD.dv.eq_1)))) ?_;try with_reducible exact tt)) (by (refine rO (ai hi (ai hp (ai hg (@SeenD.dv.eq_1)))) ?_;try with_reducible exact tt)) ?_;(refine rO (ai hi (ai hp (ai hg (ai @SeenD.dv.eq_1 (hL.rb))))) ?_))
  refine Wp.cond (by (refine aM ?_);rfl) (fun h=>?_) (fun h=>?_)
  ·have hcy:cont y=false:=by simpa using h
   (refine aH ?_)
   refine⟨rfl,y+1,⟨by omega,fun j hj=>hc j (by omega),.inr ⟨by omega,hcy⟩⟩,?_⟩
   (refine aM ?_)
   exact kX _
  ·have hcy:cont y=true:=by simpa using h
   (refine aH ?_)
   refine⟨y+1,⟨by omega,fun j hj=>?_⟩,by omega,?_⟩
   ·rcases Nat.lt_or_ge j y with h1|h1
    ·exact hc j h1
    ·obtain rfl:j=y:=by omega
     exact hcy
   refine aD.keepB (A:=A) (L:=[(0,.c (.yld 999)),(1,.c (.d (.ptr [.lst 3 (l.map SeenD.dv)] 0))),(3,vi .i64 ((l.length:Int) - 1 - (y+1:Nat)))]) (M:=[]) (fx:=⟨ks,[],false,some q⟩) hL (y+1) rfl rfl (kX _) rfl ?_
   have e:(l.length:Int) - 1 - (y:Int) - 1=(l.length:Int) - 1 - ((y:Int)+1):=by omega
   (refine rO (e) ?_;try with_reducible exact tt)
 ·have hyl:y=l.length:=by simp only[decide_eq_false_iff_not] at h;omega
  subst hyl
  (refine aH ?_)
  refine⟨rfl,l.length,⟨by omega,fun j hj=>hc j (by omega),.inl ⟨by omega,hc⟩⟩,?_⟩
  (refine aM ?_)
  exact kX _
theorem yT (l:List SeenD):aJ Tryz.prog 195 [.lst 3 (l.map SeenD.dv)] (.fn (.func 200) [.ptr [.lst 3 (l.map SeenD.dv)] 0]):=by
 (refine aJ.of_body Tryz.func195 rfl rfl Tryz.ntmps195 Tryz.results195 (by simp) ?_)
 (refine aH ?_)
 (refine Wp.weak (aD.freeze (id:=0) (by (refine aM ?_);rfl) (by (refine aM ?_);rfl)) ?_)
 (refine aH ?_)
 (refine aM ?_;try with_reducible exact tt)
def mL (pid epoch:Int):Bool:=decide (1≤pid) && decide (pid≤8) && decide (0≤epoch) && decide (epoch≤100)
theorem aC9 (pid epoch:Int):aJ Tryz.prog 193 [int pid,int epoch] (eK (mL pid epoch)):=by
 (refine aJ.of_body Tryz.func193 rfl rfl Tryz.ntmps193 Tryz.results193 (by simp) ?_)
 (refine aH ?_)
 (first|refine Wp.sto 4 (vb (mL pid epoch)) ?_ ?_|refine Wp.rtoS 4 (vb (mL pid epoch)) ?_ ?_|(refine Wp.seq ?_;first|refine Wp.sto 4 (vb (mL pid epoch)) ?_ ?_|refine Wp.rtoS 4 (vb (mL pid epoch)) ?_ ?_))
 ·unfold mL;((rcases Bool.eq_false_or_eq_true (decide (1≤pid)) with hL1|hL1)<;>(rcases Bool.eq_false_or_eq_true (decide (pid≤8)) with hL2|hL2)<;>(rcases Bool.eq_false_or_eq_true (decide (0≤epoch)) with hL3|hL3)<;>(rcases Bool.eq_false_or_eq_true (decide (epoch≤100)) with hL4|hL4)<;>(((refine rO (ai hL1 (ai hL2 (ai hL3 (hL4)))) ?_;try with_reducible exact tt);(repeat (refine aV (by assumption) ?_;(refine rO (ai hL1 (ai hL2 (ai hL3 (hL4)))) ?_))));all_goals (exact (show aG _ _=true by kernel_rfl))))
 (refine aH ?_)
 (refine aM ?_;try with_reducible exact tt)
theorem zM (pid epoch:Int):aJ Tryz.prog 113 [int pid,int epoch] (eK (mL pid epoch)):=by
 (refine aJ.of_body Tryz.func113 rfl rfl Tryz.ntmps113 Tryz.results113 (by simp) ?_)
 (refine aH ?_)
 (first|refine Wp.sto 4 (vb (mL pid epoch)) ?_ ?_|refine Wp.rtoS 4 (vb (mL pid epoch)) ?_ ?_|(refine Wp.seq ?_;first|refine Wp.sto 4 (vb (mL pid epoch)) ?_ ?_|refine Wp.rtoS 4 (vb (mL pid epoch)) ?_ ?_))
 ·unfold mL;((rcases Bool.eq_false_or_eq_true (decide (1≤pid)) with hL1|hL1)<;>(rcases Bool.eq_false_or_eq_true (decide (pid≤8)) with hL2|hL2)<;>(rcases Bool.eq_false_or_eq_true (decide (0≤epoch)) with hL3|hL3)<;>(rcases Bool.eq_false_or_eq_true (decide (epoch≤100)) with hL4|hL4)<;>(((refine rO (ai hL1 (ai hL2 (ai hL3 (hL4)))) ?_;try with_reducible exact tt);(repeat (refine aV (by assumption) ?_;(refine rO (ai hL1 (ai hL2 (ai hL3 (hL4)))) ?_))));all_goals (exact (show aG _ _=true by kernel_rfl))))
 (refine aH ?_)
 (refine aM ?_;try with_reducible exact tt)
def aT (n a b:Int):Bool:=decide (a≤n) && decide (n≤b)
theorem mN (n a b:Int):aJ Tryz.prog 71 [int n,int a,int b] (eK (aT n a b)):=by
 (refine aJ.of_body Tryz.func71 rfl rfl Tryz.ntmps71 Tryz.results71 (by simp) ?_)
 (refine aH ?_)
 (first|refine Wp.sto 6 (vb (aT n a b)) ?_ ?_|refine Wp.rtoS 6 (vb (aT n a b)) ?_ ?_|(refine Wp.seq ?_;first|refine Wp.sto 6 (vb (aT n a b)) ?_ ?_|refine Wp.rtoS 6 (vb (aT n a b)) ?_ ?_))
 ·unfold aT;((rcases Bool.eq_false_or_eq_true (decide (a≤n)) with hL1|hL1)<;>(rcases Bool.eq_false_or_eq_true (decide (n≤b)) with hL2|hL2)<;>(((refine rO (ai hL1 (hL2)) ?_;try with_reducible exact tt);(repeat (refine aV (by assumption) ?_;(refine rO (ai hL1 (hL2)) ?_))));all_goals (exact (show aG _ _=true by kernel_rfl))))
 (refine aH ?_)
 (refine aM ?_;try with_reducible exact tt)
theorem aCd (n:Int):aJ Tryz.prog 194 [int n] (eK (aT n 0 1048576)):=by
 (refine aJ.of_body Tryz.func194 rfl rfl Tryz.ntmps194 Tryz.results194 (by simp) ?_)
 (refine aH ?_)
 (first|refine Wp.sto 2 (vb (aT n 0 1048576)) ?_ ?_|refine Wp.rtoS 2 (vb (aT n 0 1048576)) ?_ ?_|(refine Wp.seq ?_;first|refine Wp.sto 2 (vb (aT n 0 1048576)) ?_ ?_|refine Wp.rtoS 2 (vb (aT n 0 1048576)) ?_ ?_))
 ·unfold aT;((rcases Bool.eq_false_or_eq_true (decide (0≤n)) with hL1|hL1)<;>(rcases Bool.eq_false_or_eq_true (decide (n≤1048576)) with hL2|hL2)<;>(((refine rO (ai hL1 (hL2)) ?_;try with_reducible exact tt);(repeat (refine aV (by assumption) ?_;(refine rO (ai hL1 (hL2)) ?_))));all_goals (exact (show aG _ _=true by kernel_rfl))))
 (refine aH ?_)
 (refine aM ?_;try with_reducible exact tt)
def gN (p:ProdD):Bool:=!mL p.pid p.epoch || !aT p.next 0 1048576 || decide (3<(p.seen.length:Int))
def yX (s:SeenD):Bool:=decide (s.count<1) || decide (4<s.count) || decide (s.base < -1) || decide (1048576<s.base)
def aCo (s:SeenD) (b:Int):Bool:=decide (s.seq<0) || decide (b - s.count<s.seq)
def kJ (s:SeenD) (b:Int):Bool:=yX s || aCo s b
def mZ:List SeenD→Int→Bool
 | [],_=>true
 | s::l,b=>!kJ s b && mZ l s.seq
def jU:List SeenD→Int→Nat→Int
 | _,b,0=>b
 | [],b,_+1=>b
 | s::l,b,i+1=>if kJ s b then b else jU l s.seq i
def nE (l:List SeenD) (b:Int) (i:Nat):Bool:=match l[i]? with
 | some s=>!kJ s (jU l b i)
 | none=>true
theorem nZ (s:SeenD) (l:List SeenD) (b:Int) (i:Nat) (h:kJ s b=false):nE (s::l) b (i+1)=nE l s.seq i:=by
 simp only[nE,List.getElem?_cons_succ,jU,h,Bool.false_eq_true,if_false]
theorem oA (s:SeenD) (l:List SeenD) (b:Int):nE (s::l) b 0 = !kJ s b:=by simp[nE,jU]
theorem zX:∀ (l:List SeenD) (b:Int) (i:Nat) (s:SeenD),(∀ j,j<i→nE l b j=true)→l[i]? = some s→jU l b (i+1)=if kJ s (jU l b i) then jU l b i else s.seq
 | [],b,i,s,_,h=>by simp at h
 | t::l,b,0,s,_,h=>by
  simp at h;subst h
  cases hb:kJ t b<;>simp[jU,hb]
 | t::l,b,i+1,s,hc,h=>by
  have h0:=hc 0 (by omega)
  rw[oA] at h0
  have h0:kJ t b=false:=by simpa using h0
  have ih:=zX l t.seq i s (fun j hj=>by have:=hc (j+1) (by omega);rwa [nZ _ _ _ _ h0] at this) (by simpa using h)
  have e1:jU (t::l) b (i+1+1)=jU l t.seq (i+1):=by rw[jU,h0];rfl
  have e2:jU (t::l) b (i+1)=jU l t.seq i:=by rw[jU,h0];rfl
  rw[e1,e2,ih]
theorem aD6:∀ (l:List SeenD) (b:Int),(∀ j,j<l.length→nE l b j=true)→mZ l b=true
 | [],_,_=>rfl
 | s::l,b,hc=>by
  have h0:=hc 0 (by simp)
  rw[oA] at h0
  have h1:kJ s b=false:=by simpa using h0
  rw[mZ,h0,Bool.true_and]
  exact aD6 l s.seq (fun j hj=>by have:=hc (j+1) (by simpa using hj);rwa [nZ _ _ _ _ h1] at this)
theorem aA0:∀ (l:List SeenD) (b:Int) (i:Nat),(∀ j,j<i→nE l b j=true)→nE l b i=false→mZ l b=false
 | [],b,i,_,h=>by simp[nE] at h
 | s::l,b,0,_,h=>by rw[oA] at h;rw[mZ,h];rfl
 | s::l,b,i+1,hc,h=>by
  have h0:=hc 0 (by omega)
  rw[oA] at h0
  have h1:kJ s b=false:=by simpa using h0
  rw[nZ _ _ _ _ h1] at h
  rw[mZ,aA0 l s.seq i (fun j hj=>by have:=hc (j+1) (by omega);rwa [nZ _ _ _ _ h1] at this) h,Bool.and_false]
theorem aCp {s:SeenD} {b:Int} (h:kJ s b=false):0≤s.seq∧s.seq≤b∧1≤s.count∧s.count≤4:=by
 simp only[kJ,yX,aCo,Bool.or_eq_false_iff,decide_eq_false_iff_not] at h
 omega
theorem aD0:∀ (l:List SeenD) (b:Int) (i:Nat),0≤b→b≤1048576→0≤jU l b i∧jU l b i≤1048576
 | l,b,0,h1,h2=>by cases l<;>exact⟨h1,h2⟩
 | [],b,i+1,h1,h2=>⟨h1,h2⟩
 | s::l,b,i+1,h1,h2=>by
  rw[jU]
  cases hb:kJ s b with
  | true=>exact⟨h1,h2⟩
  | false =>
   have:=aCp hb
   exact aD0 l s.seq i (by omega) (by omega)
def dO (p:ProdD):Bool:=!gN p && mZ p.seen.reverse p.next
abbrev knM (p:ProdD) (i:Nat):List (Nat × HE):=[(0,.cells (p.dv.map .d)),(1,.cells [.d (eK false)]),(2,.cells [.d (int (jU p.seen.reverse p.next i))])]
abbrev knS (p:ProdD):St:=⟨fP [(1,.c (.own 0 0)),(2,.c (.own 1 0)),(3,.c (.own 2 0)),(28,.c (.d (.fn (.func 200) [.ptr [.lst 3 (p.seen.map SeenD.dv)] 0])))],cL (knM p 0),3,63,0⟩
theorem aIq (p:ProdD) (hl:p.seen.length≤100000):aJ Tryz.prog 171 [.agg p.dv] (eK (dO p)):=by
 have c1:=aC9 p.pid p.epoch
 have c2:=aCd p.next
 have c3:=yT p.seen
 (refine aJ.of_body Tryz.func171 rfl rfl Tryz.ntmps171 Tryz.results171 (by simp) ?_)
 (refine gO (@ProdD.dv.eq_1) ?_)
 (first|refine Wp.sto 23 (vb (gN p)) ?_ ?_|refine Wp.rtoS 23 (vb (gN p)) ?_ ?_|(refine Wp.seq ?_;first|refine Wp.sto 23 (vb (gN p)) ?_ ?_|refine Wp.rtoS 23 (vb (gN p)) ?_ ?_))
 ·unfold gN;((rcases Bool.eq_false_or_eq_true (!mL p.pid p.epoch) with hL1|hL1)<;>(rcases Bool.eq_false_or_eq_true (!aT p.next 0 1048576) with hL2|hL2)<;>(rcases Bool.eq_false_or_eq_true (decide (3<(p.seen.length:Int))) with hL3|hL3)<;>(((refine rO (ai hL1 (ai hL2 (ai hL3 (@ProdD.dv.eq_1)))) ?_);(repeat (refine aV (by assumption) ?_;(refine rO (ai hL1 (ai hL2 (ai hL3 (@ProdD.dv.eq_1)))) ?_;try with_reducible exact tt))));all_goals (exact (show aG _ _=true by kernel_rfl))))
 refine Wp.cond (by (refine aM ?_);rfl) (fun h=>?_) (fun h=>?_)
 ·have hf:dO p=false:=by simp only[dO,h,Bool.not_true,Bool.false_and]
  (refine aH ?_)
  (refine rO (hf) ?_;try with_reducible exact tt)
 have h1:gN p=false:=h
 have hnx:0≤p.next∧p.next≤1048576:=by
  simp only[gN,aT,Bool.or_eq_false_iff,Bool.not_eq_false',Bool.and_eq_true,decide_eq_true_eq] at h1
  exact⟨h1.1.2.1,h1.1.2.2⟩
 have hkn:dO p=mZ p.seen.reverse p.next:=by simp only[dO,h1,Bool.not_false,Bool.true_and]
 (refine gO (@ProdD.dv.eq_1) ?_)
 refine Wp.weak (show aD _ (knS p) from aD.keep rfl rfl ?_) ?_
 ·(refine rO (ai @knM.eq_1 (ai @ProdD.dv.eq_1 (ai @jU.eq_1 (ai @jU.eq_2 (@jU.eq_3))))) ?_;try with_reducible exact tt)
 have hsq:=yW p.seen (by omega)
 have hbl:=rU p.seen
 refine Wp.rangeFunc (xs:=jY p.seen) rfl rfl hsq 500 (knM p) [0,1,2] (fun i=>nE p.seen.reverse p.next i) (fun _=>.ret) rfl (fun _=>rfl) rfl (fun _=>rfl) rfl (fun i id h=>by cases h) rfl (fun x hx=>by simp only[jY,List.mem_map] at hx;obtain⟨⟨r,_⟩,_,rfl⟩:=hx;rfl) ?_ ?_ ?_
 ·intro i hi hc o1
  have hi' : i<p.seen.length:=by omega
  have hg:p.seen.reverse[i]? = some (p.seen.reverse[i]'(by simpa using hi')):=List.getElem?_eq_getElem (by simpa using hi')
  rw[rT p.seen i _ hg]
  have hbn:=zX _ _ i _ hc hg
  have hbr:=aD0 p.seen.reverse p.next i hnx.1 hnx.2
  have hct:nE p.seen.reverse p.next i = !kJ (p.seen.reverse[i]'(by simpa using hi')) (jU p.seen.reverse p.next i):=by simp only[nE,hg]
  rw[hct]
  generalize p.seen.reverse[i]'(by simpa using hi')=s at *
  (refine gO (ai @knM.eq_1 (ai @SeenD.dv.eq_1 (ai @ProdD.dv.eq_1 (ai @List.cons_append.{0} (@List.nil_append.{0}))))) ?_)
  refine⟨rfl,by (refine aM ?_;try with_reducible exact tt),rfl,fun o2=>?_⟩
  (refine gO (@SeenD.dv.eq_1) ?_)
  (first|refine Wp.sto 48 (vb (yX s)) ?_ ?_|refine Wp.rtoS 48 (vb (yX s)) ?_ ?_|(refine Wp.seq ?_;first|refine Wp.sto 48 (vb (yX s)) ?_ ?_|refine Wp.rtoS 48 (vb (yX s)) ?_ ?_))
  ·unfold yX;((rcases Bool.eq_false_or_eq_true (decide (s.count<1)) with hL1|hL1)<;>(rcases Bool.eq_false_or_eq_true (decide (4<s.count)) with hL2|hL2)<;>(rcases Bool.eq_false_or_eq_true (decide (s.base < -1)) with hL3|hL3)<;>(rcases Bool.eq_false_or_eq_true (decide (1048576<s.base)) with hL4|hL4)<;>(((refine rO (ai hL1 (ai hL2 (ai hL3 (ai hL4 (@SeenD.dv.eq_1))))) ?_;try with_reducible exact tt);(repeat (refine aV (by assumption) ?_;(refine rO (ai hL1 (ai hL2 (ai hL3 (ai hL4 (@SeenD.dv.eq_1))))) ?_))));all_goals (exact (show aG _ _=true by kernel_rfl))))
  refine Wp.cond (by (refine aM ?_);rfl) (fun h=>?_) (fun h=>?_)
  ·have hb:kJ s (jU p.seen.reverse p.next i)=true:=by simp only[kJ,h,Bool.true_or]
   rw[hb,if_pos rfl] at hbn
   (refine aH ?_)
   refine⟨aD.keep rfl rfl ?_,.inr ⟨by rw[hb];rfl,rfl,rfl⟩⟩
   (refine rO (ai @knM.eq_1 (ai @List.cons_append.{0} (ai @List.nil_append.{0} (ai hbn (@ProdD.dv.eq_1))))) ?_;try with_reducible exact tt)
  have hb1:=h
  have hcr:1≤s.count∧s.count≤4:=by simp only[yX,Bool.or_eq_false_iff,decide_eq_false_iff_not] at h;omega
  (refine gO (@SeenD.dv.eq_1) ?_)
  (first|refine Wp.sto 60 (vb (aCo s (jU p.seen.reverse p.next i))) ?_ ?_|refine Wp.rtoS 60 (vb (aCo s (jU p.seen.reverse p.next i))) ?_ ?_|(refine Wp.seq ?_;first|refine Wp.sto 60 (vb (aCo s (jU p.seen.reverse p.next i))) ?_ ?_|refine Wp.rtoS 60 (vb (aCo s (jU p.seen.reverse p.next i))) ?_ ?_))
  ·unfold aCo;((rcases Bool.eq_false_or_eq_true (decide (s.seq<0)) with hL1|hL1)<;>(rcases Bool.eq_false_or_eq_true (decide (jU p.seen.reverse p.next i - s.count<s.seq)) with hL2|hL2)<;>(((refine rO (ai hL1 (ai hL2 (@SeenD.dv.eq_1))) ?_;try with_reducible exact tt);(repeat (refine aV (by assumption) ?_;(refine rO (ai hL1 (ai hL2 (@SeenD.dv.eq_1))) ?_))));all_goals (exact (show aG _ _=true by kernel_rfl))))
  refine Wp.cond (by (refine aM ?_);rfl) (fun h=>?_) (fun h=>?_)
  ·have hb:kJ s (jU p.seen.reverse p.next i)=true:=by simp only[kJ,h,Bool.or_true]
   rw[hb,if_pos rfl] at hbn
   (refine aH ?_)
   refine⟨aD.keep rfl rfl ?_,.inr ⟨by rw[hb];rfl,rfl,rfl⟩⟩
   (refine rO (ai @knM.eq_1 (ai @List.cons_append.{0} (ai @List.nil_append.{0} (ai hbn (@ProdD.dv.eq_1))))) ?_;try with_reducible exact tt)
  ·have hb:kJ s (jU p.seen.reverse p.next i)=false:=by simp only[kJ,hb1,h];rfl
   rw[hb,if_neg (by simp)] at hbn
   (refine gO (@SeenD.dv.eq_1) ?_)
   refine⟨aD.keep rfl rfl ?_,.inl ⟨rfl,by rw[hb];rfl⟩⟩
   (refine rO (ai @knM.eq_1 (ai @List.cons_append.{0} (ai @List.nil_append.{0} (ai hbn (@ProdD.dv.eq_1))))) ?_;try with_reducible exact tt)
 ·intro i hi hc hn
  refine⟨rfl,?_⟩
  have e1:=aA0 _ _ i hc hn
  (refine rO (ai @knM.eq_1 (ai @List.cons_append.{0} (ai @List.nil_append.{0} (ai hkn (ai e1 (@ProdD.dv.eq_1)))))) ?_;try with_reducible exact tt)
 ·intro hc
  have e1:=aD6 p.seen.reverse p.next (fun j hj=>hc j (by rw[hbl];simpa using hj))
  (refine gO (ai @knM.eq_1 (ai @List.cons_append.{0} (ai @List.nil_append.{0} (@ProdD.dv.eq_1)))) ?_)
  (refine rO (ai hkn (e1)) ?_;try with_reducible exact tt)
/-! forwards -/
def mS (l:List SeenD) (next:Int):Int:=match l with
 | []=>next
 | t::_=>t.seq
def nX (s:SeenD) (b:Int):Bool:=decide (s.seq<0) || !aT s.count 1 4 || !aT s.base (-1) 1048576 || decide (IntKind.i64.wrap (b - s.count)<s.seq)
def aB8:List SeenD→Int→Bool
 | [],_=>true
 | s::l,next=>!nX s (mS l next) && aB8 l next
theorem zZ:∀ (l:List SeenD) (b:Int) (s:SeenD),mZ (l++[s]) b=(mZ l b && !kJ s (match l.getLast? with|some t=>t.seq|none=>b))
 | [],b,s=>by simp[mZ]
 | [t],b,s=>by simp[mZ,Bool.and_assoc]
 | t::u::l,b,s=>by
  have ih:=zZ (u::l) t.seq s
  show (!kJ t b && mZ ((u::l)++[s]) t.seq)=((!kJ t b && mZ (u::l) t.seq) && _)
  rw[ih,Bool.and_assoc,List.getLast?_cons_cons]
  cases hq:(u::l).getLast? with
  | none=>simp at hq
  | some x=>rfl
theorem aD7 (s:SeenD) (l:List SeenD) (next:Int):mZ (s::l).reverse next=(mZ l.reverse next && !kJ s (mS l next)):=by
 rw[List.reverse_cons,zZ,List.getLast?_reverse]
 cases l<;>rfl
theorem aD8:∀ (l:List SeenD) (next:Int),0≤next→next≤1048576→mZ l.reverse next=true→0≤mS l next∧mS l next≤1048576
 | [],next,h1,h2,_=>⟨h1,h2⟩
 | s::l,next,h1,h2,h=>by
  rw[aD7,Bool.and_eq_true] at h
  have h3:=aD8 l next h1 h2 h.1
  have h4:=aCp (s:=s) (b:=mS l next) (by simpa using h.2)
  show 0≤s.seq∧s.seq≤1048576
  omega
theorem aMy {s:SeenD} {b:Int} (h1:0≤b) (h2:b≤1048576):nX s b=kJ s b:=by
 rw[Bool.eq_iff_iff]
 simp only[nX,kJ,yX,aCo,aT,Bool.or_eq_true,Bool.not_eq_true',Bool.and_eq_false_iff,decide_eq_true_eq,decide_eq_false_iff_not]
 by_cases hc:1≤s.count∧s.count≤4
 ·rw[aF (n:=b - s.count) ⟨by omega,by omega⟩];omega
 ·constructor<;>intro h
  ·left;omega
  ·left;left;right;omega
theorem aH3:∀ (l:List SeenD) (next:Int),0≤next→next≤1048576→aB8 l next=mZ l.reverse next
 | [],_,_,_=>rfl
 | s::l,next,h1,h2=>by
  rw[aD7,aB8,aH3 l next h1 h2]
  cases hq:mZ l.reverse next with
  | false=>simp
  | true =>
   have:=aD8 l next h1 h2 hq
   rw[aMy this.1 this.2,Bool.and_true,Bool.true_and]
def rR (p:ProdD) (i:Nat):Int:=match p.seen[i+1]? with
 | some t=>t.seq
 | none=>p.next
theorem wA:∀ (l:List SeenD) (next:Int),aB8 l next=true ↔ ∀ i s,l[i]? = some s→nX s (match l[i+1]? with|some t=>t.seq|none=>next)=false
 | [],next=>by simp[aB8]
 | s::l,next=>by
  rw[aB8,Bool.and_eq_true,wA l next]
  constructor
  ·rintro⟨h1,h2⟩ i x hx
   cases i with
   | zero =>
    simp at hx;subst hx
    have h1:nX s (mS l next)=false:=by simpa using h1
    cases l with
    | nil=>exact h1
    | cons t l=>exact h1
   | succ i=>exact h2 i x (by simpa using hx)
  ·intro h
   refine⟨?_,fun i x hx=>h (i+1) x (by simpa using hx)⟩
   have:=h 0 s rfl
   cases l with
   | nil=>simpa [mS] using this
   | cons t l=>simpa [mS] using this
abbrev k7S (p:ProdD) (k:Nat):St:=⟨fP [(1,.c (.own 0 0)),(3,vi .i64 k)],cL [(0,.cells (p.dv.map .d))],1,75,0⟩
theorem aG4 (p:ProdD) (hl:p.seen.length≤100000):aJ Tryz.prog 70 [.agg p.dv] (eK (dO p)):=by
 have c1:=zM p.pid p.epoch
 have c2:=mN p.next 0 1048576
 (refine aJ.of_body Tryz.func70 rfl rfl Tryz.ntmps70 Tryz.results70 (by simp) ?_)
 (refine gO (@ProdD.dv.eq_1) ?_)
 (first|refine Wp.sto 23 (vb (gN p)) ?_ ?_|refine Wp.rtoS 23 (vb (gN p)) ?_ ?_|(refine Wp.seq ?_;first|refine Wp.sto 23 (vb (gN p)) ?_ ?_|refine Wp.rtoS 23 (vb (gN p)) ?_ ?_))
 ·unfold gN;((rcases Bool.eq_false_or_eq_true (!mL p.pid p.epoch) with hL1|hL1)<;>(rcases Bool.eq_false_or_eq_true (!aT p.next 0 1048576) with hL2|hL2)<;>(rcases Bool.eq_false_or_eq_true (decide (3<(p.seen.length:Int))) with hL3|hL3)<;>(((refine rO (ai hL1 (ai hL2 (ai hL3 (@ProdD.dv.eq_1)))) ?_);(repeat (refine aV (by assumption) ?_;(refine rO (ai hL1 (ai hL2 (ai hL3 (@ProdD.dv.eq_1)))) ?_;try with_reducible exact tt))));all_goals (exact (show aG _ _=true by kernel_rfl))))
 refine Wp.cond (by (refine aM ?_);rfl) (fun h=>?_) (fun h=>?_)
 ·have hf:dO p=false:=by simp only[dO,h,Bool.not_true,Bool.false_and]
  (refine aH ?_)
  (refine rO (hf) ?_;try with_reducible exact tt)
 have h1:gN p=false:=h
 have hnx:0≤p.next∧p.next≤1048576:=by
  simp only[gN,aT,Bool.or_eq_false_iff,Bool.not_eq_false',Bool.and_eq_true,decide_eq_true_eq] at h1
  exact⟨h1.1.2.1,h1.1.2.2⟩
 have hkn:dO p=aB8 p.seen p.next:=by rw[aH3 _ _ hnx.1 hnx.2];simp only[dO,h1,Bool.not_false,Bool.true_and]
 (refine gO (@ProdD.dv.eq_1) ?_)
 refine Wp.loop (k7S p) (fun k=>k≤p.seen.length∧∀ j s,j<k→p.seen[j]? = some s→nX s (rR p j)=false) (fun k=>p.seen.length - k) 0 ⟨Nat.zero_le _,fun j s hj=>by omega⟩ ?_ ?_
 ·refine aD.keep rfl rfl ?_
  (refine rO (@ProdD.dv.eq_1) ?_;try with_reducible exact tt)
 rintro k ⟨hk,hall⟩
 (refine gO (@ProdD.dv.eq_1) ?_)
 refine Wp.cond (by (refine aM ?_);rfl) (fun h=>?_) (fun h=>?_)
 ·have hlt:k<p.seen.length:=by simpa using h
  have hge:p.seen[k]? = some p.seen[k]:=List.getElem?_eq_getElem hlt
  generalize p.seen[k]=s at *
  have c3:=mN s.count 1 4
  have c4:=mN s.base (-1) 1048576
  refine Wp.skip ?_
  refine Wp.seq ?_
  refine Wp.block ?_
  (refine gO (ai hge (ai @SeenD.dv.eq_1 (@ProdD.dv.eq_1))) ?_)
  have hbad:nX s (rR p k)=true→dO p=false:=fun hb=>by
   rw[hkn]
   cases hq:aB8 p.seen p.next with
   | false=>rfl
   | true =>
    have:=(wA _ _).1 hq k s hge
    unfold rR at hb
    rw[this] at hb;cases hb
  have hgood:nX s (rR p k)=false→∀ j x,j<k+1→p.seen[j]? = some x→nX x (rR p j)=false:=fun hb j x hj hx=>by
   rcases Nat.lt_or_ge j k with h2|h2
   ·exact hall j x h2 hx
   ·obtain rfl:j=k:=by omega
    rw[hge] at hx;cases hx;exact hb
  rcases Nat.lt_or_ge (k+1) p.seen.length with hk1|hk1
  ·have hd:decide ((k:Int)+1<(p.seen.length:Int))=true:=decide_eq_true (by omega)
   have hge2:p.seen[k+1]? = some p.seen[k+1]:=List.getElem?_eq_getElem hk1
   have hb7:rR p k=p.seen[k+1].seq:=by simp only[rR,hge2]
   rw[hb7] at hbad hgood
   generalize p.seen[k+1]=u at *
   have hnn:((0:Int)≤(k:Int)+1)=True:=by simp;omega
   have htn:((k:Int)+1).toNat=k+1:=by omega
   (refine gO (ai hd (ai hge2 (ai hnn (ai htn (ai @SeenD.dv.eq_1 (@ProdD.dv.eq_1)))))) ?_)
   (first|refine Wp.sto 74 (vb (nX s u.seq)) ?_ ?_|refine Wp.rtoS 74 (vb (nX s u.seq)) ?_ ?_|(refine Wp.seq ?_;first|refine Wp.sto 74 (vb (nX s u.seq)) ?_ ?_|refine Wp.rtoS 74 (vb (nX s u.seq)) ?_ ?_))
   ·unfold nX;((rcases Bool.eq_false_or_eq_true (decide (s.seq<0)) with hL1|hL1)<;>(rcases Bool.eq_false_or_eq_true (!aT s.count 1 4) with hL2|hL2)<;>(rcases Bool.eq_false_or_eq_true (!aT s.base (-1) 1048576) with hL3|hL3)<;>(rcases Bool.eq_false_or_eq_true (decide (IntKind.i64.wrap (u.seq - s.count)<s.seq)) with hL4|hL4)<;>(((refine rO (ai hL1 (ai hL2 (ai hL3 (ai hL4 (ai @SeenD.dv.eq_1 (@ProdD.dv.eq_1)))))) ?_;try with_reducible exact tt);(repeat (refine aV (by assumption) ?_;(refine rO (ai hL1 (ai hL2 (ai hL3 (ai hL4 (ai @SeenD.dv.eq_1 (@ProdD.dv.eq_1)))))) ?_;try with_reducible exact tt))));all_goals (exact (show aG _ _=true by kernel_rfl))))
   refine Wp.cond (by (refine aM ?_);rfl) (fun h=>?_) (fun h=>?_)
   ·have hf:=hbad h
    (refine aH ?_)
    (refine rO (hf) ?_;try with_reducible exact tt)
   ·have hf:=hgood h
    (refine aH ?_)
    refine⟨k+1,⟨by omega,hf⟩,by omega,aD.keep rfl rfl ?_⟩
    (refine rO (@ProdD.dv.eq_1) ?_;try with_reducible exact tt)
  ·have hd:decide ((k:Int)+1<(p.seen.length:Int))=false:=decide_eq_false (by omega)
   have hge2:p.seen[k+1]? = none:=List.getElem?_eq_none hk1
   have hb7:rR p k=p.next:=by simp only[rR,hge2]
   rw[hb7] at hbad hgood
   (refine gO (ai hd (ai @SeenD.dv.eq_1 (@ProdD.dv.eq_1))) ?_)
   (first|refine Wp.sto 74 (vb (nX s p.next)) ?_ ?_|refine Wp.rtoS 74 (vb (nX s p.next)) ?_ ?_|(refine Wp.seq ?_;first|refine Wp.sto 74 (vb (nX s p.next)) ?_ ?_|refine Wp.rtoS 74 (vb (nX s p.next)) ?_ ?_))
   ·unfold nX;((rcases Bool.eq_false_or_eq_true (decide (s.seq<0)) with hL1|hL1)<;>(rcases Bool.eq_false_or_eq_true (!aT s.count 1 4) with hL2|hL2)<;>(rcases Bool.eq_false_or_eq_true (!aT s.base (-1) 1048576) with hL3|hL3)<;>(rcases Bool.eq_false_or_eq_true (decide (IntKind.i64.wrap (p.next - s.count)<s.seq)) with hL4|hL4)<;>(((refine rO (ai hL1 (ai hL2 (ai hL3 (ai hL4 (ai @SeenD.dv.eq_1 (@ProdD.dv.eq_1)))))) ?_;try with_reducible exact tt);(repeat (refine aV (by assumption) ?_;(refine rO (ai hL1 (ai hL2 (ai hL3 (ai hL4 (ai @SeenD.dv.eq_1 (@ProdD.dv.eq_1)))))) ?_;try with_reducible exact tt))));all_goals (exact (show aG _ _=true by kernel_rfl))))
   refine Wp.cond (by (refine aM ?_);rfl) (fun h=>?_) (fun h=>?_)
   ·have hf:=hbad h
    (refine aH ?_)
    (refine rO (hf) ?_;try with_reducible exact tt)
   ·have hf:=hgood h
    (refine aH ?_)
    refine⟨k+1,⟨by omega,hf⟩,by omega,aD.keep rfl rfl ?_⟩
    (refine rO (@ProdD.dv.eq_1) ?_;try with_reducible exact tt)
 ·have hk2:k=p.seen.length:=by simp only[decide_eq_false_iff_not] at h;omega
  have hf:aB8 p.seen p.next=true:=(wA _ _).2 (fun i s hs=>hall i s (by have:=(List.getElem?_eq_some_iff.1 hs).1;omega) hs)
  (refine aH ?_)
  (refine rO (ai hkn (hf)) ?_;try with_reducible exact tt)
structure SmallL (l:List ProdD):Prop where
 len:l.length≤100000
 seen:∀ p ∈ l,p.seen.length≤100000
def aGg:List ProdD→Int→Bool
 | [],_=>true
 | p::l,last=>!(decide (p.pid≤last) || !dO p) && aGg l p.pid
def qE (l:List ProdD):Bool:=aGg l 0
def iR (l:List ProdD):Nat→Int
 | 0=>0
 | k+1=>match l[k]? with
  | some p=>p.pid
  | none=>0
theorem aE9:∀ (l:List ProdD) (b:Int),aGg l b=true ↔ ∀ k p,l[k]? = some p→(decide (p.pid≤match k with|0=>b|k+1=>match l[k]? with|some q=>q.pid|none=>0) || !dO p)=false
 | [],b=>by simp[aGg]
 | p::l,b=>by
  rw[aGg,Bool.and_eq_true,aE9 l p.pid]
  constructor
  ·rintro⟨h1,h2⟩ k q hq
   cases k with
   | zero=>simp at hq;subst hq;simpa using h1
   | succ k =>
    have:=h2 k q (by simpa using hq)
    cases k with
    | zero=>exact this
    | succ k=>exact this
  ·intro h
   refine⟨by have:=h 0 p rfl;simpa using this,fun k q hq=>?_⟩
   have:=h (k+1) q (by simpa using hq)
   cases k with
   | zero=>exact this
   | succ k=>exact this
theorem sH (l:List ProdD):qE l=true ↔ ∀ k p,l[k]? = some p→(decide (p.pid≤iR l k) || !dO p)=false:=by
 rw[qE,aE9]
 constructor<;>intro h k p hp<;>have:=h k p hp<;>cases k<;>exact this
theorem aNs (l:List ProdD) (hs:SmallL l):aJ Tryz.prog 147 [.lst 4 (l.map ProdD.dv)] (eK (qE l)):=by
 have hsl:=hs.len
 (refine aJ.of_body Tryz.func147 rfl rfl Tryz.ntmps147 Tryz.results147 (by simp) ?_)
 (refine aH ?_)
 refine Wp.loop (fun k:Nat=>⟨fP [(3,vi .i64 (iR l k)),(6,.c (.d (.lst 4 (l.map ProdD.dv)))),(7,vi .i64 l.length),(8,vi .i64 k)],cL [],0,24,0⟩) (fun k=>k≤l.length∧∀ j p,j<k→l[j]? = some p→(decide (p.pid≤iR l j) || !dO p)=false) (fun k=>l.length - k) 0 ⟨Nat.zero_le _,fun j p hj=>by omega⟩ ?_ ?_
 ·refine aD.keep rfl rfl ?_
  (refine rO (ai @iR.eq_1 (@iR.eq_2)) ?_;try with_reducible exact tt)
 rintro k ⟨hk,hall⟩
 (refine aH ?_)
 refine Wp.cond (by (refine aM ?_);rfl) (fun h=>?_) (fun h=>?_)
 ·have hlt:k<l.length:=by simpa using h
  have hge:l[k]? = some l[k]:=List.getElem?_eq_getElem hlt
  have c1:=aIq l[k] (hs.seen _ (List.getElem_mem hlt))
  have hln:iR l (k+1)=l[k].pid:=by simp only[iR,hge]
  generalize l[k]=p at *
  simp only[ProdD.dv] at c1
  (refine gO (ai hge (@ProdD.dv.eq_1)) ?_)
  (first|refine Wp.sto 20 (vb (decide (p.pid≤iR l k) || !dO p)) ?_ ?_|refine Wp.rtoS 20 (vb (decide (p.pid≤iR l k) || !dO p)) ?_ ?_|(refine Wp.seq ?_;first|refine Wp.sto 20 (vb (decide (p.pid≤iR l k) || !dO p)) ?_ ?_|refine Wp.rtoS 20 (vb (decide (p.pid≤iR l k) || !dO p)) ?_ ?_))
  ·((rcases Bool.eq_false_or_eq_true (decide (p.pid≤iR l k)) with hL1|hL1)<;>(rcases Bool.eq_false_or_eq_true (!dO p) with hL2|hL2)<;>(((refine rO (ai hL1 (ai hL2 (@ProdD.dv.eq_1))) ?_;try with_reducible exact tt);(repeat (refine aV (by assumption) ?_;(refine rO (ai hL1 (ai hL2 (@ProdD.dv.eq_1))) ?_;try with_reducible exact tt))));all_goals (exact (show aG _ _=true by kernel_rfl))))
  refine Wp.cond (by (refine aM ?_);rfl) (fun h=>?_) (fun h=>?_)
  ·have hf:qE l=false:=by
    cases hq:qE l with
    | false=>rfl
    | true=>have:=(sH l).1 hq k p hge;rw[this] at h;cases h
   (refine aH ?_)
   (refine rO (hf) ?_;try with_reducible exact tt)
  ·have h5:=h
   (refine gO (@ProdD.dv.eq_1) ?_)
   refine⟨k+1,⟨by omega,fun j x hj hx=>?_⟩,by omega,aD.keep rfl rfl ?_⟩
   ·rcases Nat.lt_or_ge j k with h2|h2
    ·exact hall j x h2 hx
    ·obtain rfl:j=k:=by omega
     rw[hge] at hx;cases hx;exact h5
   (refine rO (hln) ?_;try with_reducible exact tt)
 ·have hf:qE l=true:=(sH l).2 (fun j p hp=>hall j p (by have:=(List.getElem?_eq_some_iff.1 hp).1;simp only[decide_eq_false_iff_not] at h;omega) hp)
  (refine aH ?_)
  (refine rO (hf) ?_;try with_reducible exact tt)
theorem aIl (l:List ProdD) (f:Nat) (caps:List D) (pr:ProdD→Bool) (hl:l.length≤100000) (hf:∀ x ∈ l,aJ Tryz.prog f (.agg x.dv::caps) (eK (pr x))) :
  aJ Tryz.prog 178 [.lst 4 (l.map ProdD.dv),.fn (.func f) caps] (.tup [int (l.findIdx pr:Nat),eK (l.any pr)]):=by
 (refine aJ.of_body Tryz.func178 rfl rfl Tryz.ntmps178 Tryz.results178 (by simp) ?_)
 (refine aH ?_)
 refine Wp.loop (fun k:Nat=>⟨fP [(0,.c (.d (.lst 4 (l.map ProdD.dv)))),(1,.c (.d (.fn (.func f) caps))),(8,.c (.d (.lst 4 (l.map ProdD.dv)))),(9,vi .i64 l.length),(10,vi .i64 k)],cL [],0,22,0⟩) (fun k=>k≤l.length∧(l.take k).any pr=false) (fun k=>l.length - k) 0 ⟨Nat.zero_le _,rfl⟩ ?_ ?_
 ·refine aD.keep rfl rfl ?_
  (refine aM ?_;try with_reducible exact tt)
 rintro k ⟨hk,hall⟩
 (refine aH ?_)
 refine Wp.cond (by (refine aM ?_);rfl) (fun h=>?_) (fun h=>?_)
 ·have hlt:k<l.length:=by simpa using h
  have c1:=hf l[k] (List.getElem_mem hlt)
  have hs:=dG pr l k hlt
  have hix:pr l[k]=true→l.findIdx pr=k:=fun hp=>by
   rw[List.findIdx_eq hlt]
   refine⟨hp,fun j hj=>?_⟩
   have:=List.any_eq_false.1 hall (l[j]) (by rw[List.mem_take_iff_getElem];exact⟨j,by omega,rfl⟩)
   simpa using this
  have han:pr l[k]=true→l.any pr=true:=fun hp=>List.any_eq_true.2 ⟨l[k],List.getElem_mem hlt,hp⟩
  have hge:l[k]? = some l[k]:=List.getElem?_eq_getElem hlt
  generalize l[k]=p at *
  simp only[ProdD.dv] at c1
  (refine gO (ai hge (@ProdD.dv.eq_1)) ?_)
  refine Wp.cond (by (refine aM ?_);rfl) (fun h=>?_) (fun h=>?_)
  ·have h1:=hix h
   have h2:=han h
   (refine aH ?_)
   (refine rO (ai h1 (h2)) ?_;try with_reducible exact tt)
  ·(refine aH ?_)
   refine⟨k+1,⟨by omega,by rw[hs,hall,h];rfl⟩,by omega,aD.keep rfl rfl ?_⟩
   (refine aM ?_;try with_reducible exact tt)
 ·have hall:l.any pr=false:=by
   rw[List.take_of_length_le (by simp only[decide_eq_false_iff_not] at h;omega)] at hall;exact hall
  have hix:l.findIdx pr=l.length:=List.findIdx_eq_length.2 (fun x hx=>by have:=List.any_eq_false.1 hall x hx;simpa using this)
  (refine aH ?_)
  (refine rO (ai hall (hix)) ?_;try with_reducible exact tt)
theorem aFs (xs:List (List D)) (hl:xs.length≤1000000):nS Tryz.prog 197 [.lst 3 xs] 83 3 xs:=by
 cases xs with
 | nil =>
  refine nS.of_nil (fun a c=>?_)
  (refine nS.of_body Tryz.func197 rfl rfl Tryz.ntmps197 Tryz.results197 (by simp) ?_)
  cases a with
  | none =>
   (repeat (first|refine Wp.skip ?_|refine Wp.exit ?_|refine Wp.ret ?_|refine Wp.block ?_|refine Wp.label ?_|((first|(first|refine Wp.sreg (fun K hK=>?_)|refine Wp.reg (fun K hK=>?_)|refine Wp.sdrw aA (fun K hK=>?_)|refine Wp.drw aA (fun K hK=>?_))|refine Wp.condG (fun K hT hF=>?_));(refine rO (ai @Option.isNone_none.{0} (@Option.isNone_some.{0})) ?_);(first|(refine hK _ ?_;clear hK K)|(refine⟨by kernel_rfl,hK _ ?_⟩;clear hK K)|(refine hT ?_;clear hT hF K)|(refine hF ?_;clear hT hF K)))|refine Wp.seq ?_))
   (refine aM ?_;try with_reducible exact tt)
  | some ad =>
   (repeat (first|refine Wp.skip ?_|refine Wp.exit ?_|refine Wp.ret ?_|refine Wp.block ?_|refine Wp.label ?_|((first|(first|refine Wp.sreg (fun K hK=>?_)|refine Wp.reg (fun K hK=>?_)|refine Wp.sdrw aA (fun K hK=>?_)|refine Wp.drw aA (fun K hK=>?_))|refine Wp.condG (fun K hT hF=>?_));(refine rO (ai @Option.isNone_none.{0} (@Option.isNone_some.{0})) ?_);(first|(refine hK _ ?_;clear hK K)|(refine⟨by kernel_rfl,hK _ ?_⟩;clear hK K)|(refine hT ?_;clear hT hF K)|(refine hF ?_;clear hT hF K)))|refine Wp.seq ?_))
   (refine aM ?_)
   exact .inl ⟨0,rfl,rfl⟩
 | cons f fs =>
  have hb:(fs.length+1)*24≤140737488355328:=by simp at hl;omega
  (refine nS.of_body Tryz.func197 rfl rfl Tryz.ntmps197 Tryz.results197 (by simp) ?_)
  (repeat (first|refine Wp.skip ?_|refine Wp.exit ?_|refine Wp.ret ?_|refine Wp.block ?_|refine Wp.label ?_|((first|(first|refine Wp.sreg (fun K hK=>?_)|refine Wp.reg (fun K hK=>?_)|refine Wp.sdrw aA (fun K hK=>?_)|refine Wp.drw aA (fun K hK=>?_))|refine Wp.condG (fun K hT hF=>?_));(refine rO (hb) ?_);(first|(refine hK _ ?_;clear hK K)|(refine⟨by kernel_rfl,hK _ ?_⟩;clear hK K)|(refine hT ?_;clear hT hF K)|(refine hF ?_;clear hT hF K)))|refine Wp.seq ?_))
  (refine aM ?_)
  exact .inl ⟨0,rfl,rfl⟩
theorem aFv (p:ProdD) (hl:p.seen.length≤100000):aJ Tryz.prog 180 [.agg p.dv] (.agg p.dv):=by
 have c1:=(aFs (p.seen.map SeenD.dv) (by simp;omega)).fun
 (refine aJ.of_body Tryz.func180 rfl rfl Tryz.ntmps180 Tryz.results180 (by simp) ?_)
 (refine gO (@ProdD.dv.eq_1) ?_)
 (refine rO (@ProdD.dv.eq_1) ?_;try with_reducible exact tt)
abbrev pzD:ProdD:=⟨0,0,0,[]⟩
theorem aP0:iI (.agg [int 0,int 0,int 0,cH]) (.agg pzD.dv):=iI.agg (.cons (.refl _) (.cons (.refl _) (.cons (.refl _) (.cons (.nil 3) .nil))))
def jR (l:List ProdD) (pid:Int):ProdD × Bool:=match l.find? (fun p=>p.pid == pid) with
 | some p=>(p,true)
 | none=>(pzD,false)
theorem oC {α:Type} (pr:α→Bool):∀ (l:List α),l.any pr=true→l[l.findIdx pr]? = l.find? pr
 | [],h=>by simp at h
 | a::l,h=>by
  rw[List.findIdx_cons,List.find?_cons]
  cases hp:pr a with
  | true=>simp
  | false =>
   simp only[List.any_cons,hp,Bool.false_or] at h
   simpa using oC pr l h
theorem aDj (p:ProdD) (pid:Int):aJ Tryz.prog 179 [.agg p.dv,.ptr [int pid] 0] (eK (p.pid == pid)):=by
 (refine aJ.of_body Tryz.func179 rfl rfl Tryz.ntmps179 Tryz.results179 (by simp) ?_)
 (refine gO (@ProdD.dv.eq_1) ?_)
 (refine aM ?_;try with_reducible exact tt)
theorem aKq (l:List ProdD) (pid:Int) (hs:SmallL l):aJ Tryz.prog 149 [.lst 4 (l.map ProdD.dv),int pid] (.tup [.agg (jR l pid).1.dv,eK (jR l pid).2]):=by
 have c1:=aIl l 179 [.ptr [int pid] 0] (fun p=>p.pid == pid) hs.len (fun x _=>aDj x pid)
 (refine aJ.of_bodyW Tryz.func149 rfl rfl Tryz.ntmps149 Tryz.results149 (by simp) ?_)
 (refine aH ?_)
 (refine Wp.weak (aD.freeze (id:=0) (by (refine aM ?_);rfl) (by (refine aM ?_);rfl)) ?_)
 cases ha:l.any (fun p=>p.pid == pid) with
 | false =>
  have hn:l.find? (fun p=>p.pid == pid)=none:=List.find?_eq_none.2 (fun x hx=>by simpa using List.any_eq_false.1 ha x hx)
  have e1:jR l pid=(pzD,false):=by simp only[jR,hn]
  rw[ha] at c1
  rw[e1]
  (refine aH ?_)
  (refine aM ?_)
  exact⟨_,rfl,iI.tup (.cons aP0 (.cons (.refl _) .nil))⟩
 | true =>
  rw[ha] at c1
  have hfi:=oC _ l ha
  obtain⟨x,hx,hpx⟩:=List.any_eq_true.1 ha
  cases hq:l.find? (fun p=>p.pid == pid) with
  | none=>have:=List.find?_eq_none.1 hq x hx;exact absurd hpx this
  | some p =>
   have e1:jR l pid=(p,true):=by simp only[jR,hq]
   rw[hq] at hfi
   have c2:=aFv p (hs.seen p (List.mem_of_getElem? hfi))
   rw[e1]
   generalize l.findIdx (fun p=>p.pid == pid)=k at *
   simp only[ProdD.dv] at c2
   (refine gO (ai hfi (@ProdD.dv.eq_1)) ?_)
   (refine rO (@ProdD.dv.eq_1) ?_)
   exact⟨_,rfl,fun K v h=>h⟩


end Go.Proofs.YtkmfmphpndhkjaaGreatDoor
