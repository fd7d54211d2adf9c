/- The abstract machine (EqA, SqA, SqB, CpDp, SqC). -/
import Derived.Test.YtpklhnpchhaccaaGreatDoorApA
import Derived.Test.YtpklhnpchhaccaaGreatDoorErM
namespace Go.Proofs.YtpklhnpchhaccaaGreatDoor
open Go Go.RowKit
set_option maxHeartbeats 4000000
set_option maxRecDepth 100000
set_option linter.unusedVariables false
set_option linter.unusedSimpArgs false
theorem aV6 (f g:RowD):∃ fs,Tryz.prog.underlying 47=some (.struct fs)∧aAd Tryz.prog 9999 #[.int .i64 f.off,.int .i64 f.pid,.int .i64 f.seq,.string ⟨List.toArray f.key⟩,.string ⟨List.toArray f.value⟩] #[.int .i64 g.off,.int .i64 g.pid,.int .i64 g.seq,.string ⟨List.toArray g.key⟩,.string ⟨List.toArray g.value⟩] fs.toList=some (decide (f=g)):=by
 refine⟨_,Tryz.underlying47,?_⟩
 have ii:aV Tryz.prog (isAgg 3)=some false:=by kernel_rfl
 have si:=fun x y=>aJ5 (d:=9998) Tryz.underlying3 .i64 x y
 simp only[Nat.reduceAdd] at si
 have is:aV Tryz.prog (isAgg 9)=some false:=by kernel_rfl
 have ss:=fun x y=>aJ6 (d:=9998) Tryz.underlying9 x y
 simp only[Nat.reduceAdd] at ss
 obtain⟨a1,a2,a3,a4,a5⟩:=f
 obtain⟨b1,b2,b3,b4,b5⟩:=g
 have e:decide (RowD.mk a1 a2 a3 a4 a5=RowD.mk b1 b2 b3 b4 b5)=(a1 == b1 && (a2 == b2 && (a3 == b3 && (a4 == b4 && (a5 == b5))))):=by rw[Bool.eq_iff_iff];simp only[RowD.mk.injEq,Bool.and_eq_true,beq_iff_eq,decide_eq_true_eq]
 rw[e]
 cases h1:(a1 == b1)<;>cases h2:(a2 == b2)<;>cases h3:(a3 == b3)<;>cases h4:(a4 == b4)<;>cases h5:(a5 == b5)<;>simp[aAd,ii,si,is,ss,aLj,h1,h2,h3,h4,h5]
theorem vD (x y:Operand) (f g:RowD):fA Tryz.prog .eql 47 x y (.agg [.d (int f.off),.d (int f.pid),.d (int f.seq),.d (str f.key),.d (str f.value)]) (.agg [.d (int g.off),.d (int g.pid),.d (int g.seq),.d (str g.key),.d (str g.value)])=some (Res.pure (vb (decide (f=g))))∧fA Tryz.prog .neq 47 x y (.agg [.d (int f.off),.d (int f.pid),.d (int f.seq),.d (str f.key),.d (str f.value)]) (.agg [.d (int g.off),.d (int g.pid),.d (int g.seq),.d (str g.key),.d (str g.value)])=some (Res.pure (vb (!decide (f=g)))):=by
 obtain⟨fs,hu,he⟩:=aV6 f g
 exact aGe hu (by kernel_rfl) (by kernel_rfl) he
theorem bQ {x y:Operand} {a b:Bool}:fA Tryz.prog .eql 4 x y (vb a) (vb b)=some (Res.pure (vb (a == b))):=by cases a<;>cases b<;>kernel_rfl
set_option maxHeartbeats 8000000
def jV (l:List SeenD):List (List D):=l.reverse.zipIdx.map fun (e,y)=>[int ((l.length:Int) - 1 - (y:Int)),.agg e.dv]
theorem vL (l:List SeenD):(jV l).length=l.length:=by simp[jV]
theorem vK (l:List SeenD) (y:Nat) (e:SeenD) (h:l.reverse[y]? = some e) (hy:y<(jV l).length):(jV l)[y]=[int ((l.length:Int) - 1 - y),.agg e.dv]:=by
 have:(jV l)[y]? = some [int ((l.length:Int) - 1 - y),.agg e.dv]:=by simp only[jV,List.getElem?_map,List.getElem?_zipIdx,h,Option.map_some,Nat.zero_add]
 exact (List.getElem?_eq_some_iff.1 this).2
theorem aDr (l:List SeenD) (hl:l.length≤1000000):aLb Tryz.prog 256 [.ptr [.lst 3 (l.map SeenD.dv)] 0] (jV l):=by
 (refine aLb.of_body Tryz.func256 rfl rfl Tryz.ntmps256 Tryz.results256 (by simp) (fun ks A cont q hL hY=>?_))
 have hlen:=vL l
 (refine cA ?_)
 refine Wp.loop (fun y:Nat=>⟨iC [(0,.c (.yld 999)),(1,.c (.d (.ptr [.lst 3 (l.map SeenD.dv)] 0))),(3,vi .i64 ((l.length:Int) - 1 - y))],yJ (A y) [],1000,19,⟨ks,[],false,some q⟩⟩) (fun y=>y≤l.length∧∀ j,j<y→cont j=true) (fun y=>l.length - y) 0 ⟨Nat.zero_le _,fun j hj=>by omega⟩ ?_ ?_
 ·refine aD.keepB (A:=A) hL 0 rfl rfl (cL _) rfl ?_
  (refine aY ?_)
  simp
 rintro y ⟨hy,hc⟩
 (refine cA ?_)
 refine Wp.cond (by (refine aY ?_);rfl) (fun h=>?_) (fun h=>?_)
 ·have hlt:y<l.length:=by simp only[decide_eq_true_eq] at h;omega
  have hi:((l.length:Int) - 1 - y).toNat=l.length - 1 - y:=by omega
  have hp:((0:Int)≤(l.length:Int) - 1 - y)=True:=by simp;omega
  have hg:l[l.length - 1 - y]? = some (l[l.length - 1 - y]'(by omega)):=List.getElem?_eq_getElem (by omega)
  have hYy:=hY y (by omega) hc
  have hrev:l.reverse[y]? = some (l[l.length - 1 - y]'(by omega)):=by rw[List.getElem?_reverse hlt,hg]
  rw[vK l y _ hrev] at hYy
  generalize l[l.length - 1 - y]'(by omega)=e at *
  simp only[SeenD.dv] at hYy
  refine Wp.skip ?_
  refine Wp.seq ?_
  refine Wp.block ?_
  ((first|refine Wp.regY 6 rfl (fun K hK=>?_)|(refine Wp.seq ?_;refine Wp.regY 6 rfl (fun K hK=>?_)));(refine rO (ai hi (ai hp (ai hg (@SeenD.dv.eq_1)))) ?_);refine hK _ ?_;clear hK K;refine YAt.of hL rfl rfl rfl rfl hYy (by ((repeat refine (hJ (by omega)).2 ?_);first|exact cL _|exact hG rfl)) (by (refine rO (ai hi (ai hp (ai hg (@SeenD.dv.eq_1)))) ?_;try with_reducible exact tt)) (by (refine rO (ai hi (ai hp (ai hg (@SeenD.dv.eq_1)))) ?_;try with_reducible exact tt)) (by (refine rO (ai hi (ai hp (ai hg (@SeenD.dv.eq_1)))) ?_;try with_reducible exact tt)) ?_;(refine rO (ai hi (ai hp (ai hg (ai @SeenD.dv.eq_1 (hL.rb))))) ?_))
  refine Wp.cond (by (refine aY ?_);rfl) (fun h=>?_) (fun h=>?_)
  ·have hcy:cont y=false:=by simpa using h
   (refine cA ?_)
   refine⟨rfl,y+1,⟨by omega,fun j hj=>hc j (by omega),.inr ⟨by omega,hcy⟩⟩,?_⟩
   (refine aY ?_)
   exact cL _
  ·have hcy:cont y=true:=by simpa using h
   (refine cA ?_)
   refine⟨y+1,⟨by omega,fun j hj=>?_⟩,by omega,?_⟩
   ·rcases Nat.lt_or_ge j y with h1|h1
    ·exact hc j h1
    ·obtain rfl:j=y:=by omega
     exact hcy
   refine aD.keepB (A:=A) (L:=[(0,.c (.yld 999)),(1,.c (.d (.ptr [.lst 3 (l.map SeenD.dv)] 0))),(3,vi .i64 ((l.length:Int) - 1 - (y+1:Nat)))]) (M:=[]) (fx:=⟨ks,[],false,some q⟩) hL (y+1) rfl rfl (cL _) rfl ?_
   have e:(l.length:Int) - 1 - (y:Int) - 1=(l.length:Int) - 1 - ((y:Int)+1):=by omega
   (refine rO (e) ?_;try with_reducible exact tt)
 ·have hyl:y=l.length:=by simp only[decide_eq_false_iff_not] at h;omega
  subst hyl
  (refine cA ?_)
  refine⟨rfl,l.length,⟨by omega,fun j hj=>hc j (by omega),.inl ⟨by omega,hc⟩⟩,?_⟩
  (refine aY ?_)
  exact cL _
theorem aDo (l:List SeenD):bF Tryz.prog 218 [.lst 3 (l.map SeenD.dv)] (.fn (.func 256) [.ptr [.lst 3 (l.map SeenD.dv)] 0]):=by
 (refine bF.of_body Tryz.func218 rfl rfl Tryz.ntmps218 Tryz.results218 (by simp) ?_)
 (refine cA ?_)
 (refine Wp.weak (aD.freeze (id:=0) (by (refine aY ?_);rfl) (by (refine aY ?_);rfl)) ?_)
 (refine cA ?_)
 (refine aY ?_;try with_reducible exact tt)
def gY (pid epoch:Int):Bool:=decide (1≤pid) && decide (pid≤8) && decide (0≤epoch) && decide (epoch≤100)
theorem mD (pid epoch:Int):bF Tryz.prog 205 [int pid,int epoch] (gD (gY pid epoch)):=by
 (refine bF.of_body Tryz.func205 rfl rfl Tryz.ntmps205 Tryz.results205 (by simp) ?_)
 (refine cA ?_)
 (first|refine Wp.sto 4 (vb (gY pid epoch)) ?_ ?_|refine Wp.rtoS 4 (vb (gY pid epoch)) ?_ ?_|(refine Wp.seq ?_;first|refine Wp.sto 4 (vb (gY pid epoch)) ?_ ?_|refine Wp.rtoS 4 (vb (gY pid epoch)) ?_ ?_))
 ·unfold gY;((rcases Bool.eq_false_or_eq_true (decide (1≤pid)) with hL1|hL1)<;>(rcases Bool.eq_false_or_eq_true (decide (pid≤8)) with hL2|hL2)<;>(rcases Bool.eq_false_or_eq_true (decide (0≤epoch)) with hL3|hL3)<;>(rcases Bool.eq_false_or_eq_true (decide (epoch≤100)) with hL4|hL4)<;>(((refine rO (ai hL1 (ai hL2 (ai hL3 (hL4)))) ?_;try with_reducible exact tt);(repeat (refine eA (by assumption) ?_;(refine rO (ai hL1 (ai hL2 (ai hL3 (hL4)))) ?_))));all_goals (exact (show bI _ _=true by kernel_rfl))))
 (refine cA ?_)
 (refine aY ?_;try with_reducible exact tt)
def fS (n a b:Int):Bool:=decide (a≤n) && decide (n≤b)
theorem qN (n:Int):bF Tryz.prog 204 [int n] (gD (fS n 0 1048576)):=by
 (refine bF.of_body Tryz.func204 rfl rfl Tryz.ntmps204 Tryz.results204 (by simp) ?_)
 (refine cA ?_)
 (first|refine Wp.sto 2 (vb (fS n 0 1048576)) ?_ ?_|refine Wp.rtoS 2 (vb (fS n 0 1048576)) ?_ ?_|(refine Wp.seq ?_;first|refine Wp.sto 2 (vb (fS n 0 1048576)) ?_ ?_|refine Wp.rtoS 2 (vb (fS n 0 1048576)) ?_ ?_))
 ·unfold fS;((rcases Bool.eq_false_or_eq_true (decide (0≤n)) with hL1|hL1)<;>(rcases Bool.eq_false_or_eq_true (decide (n≤1048576)) with hL2|hL2)<;>(((refine rO (ai hL1 (hL2)) ?_;try with_reducible exact tt);(repeat (refine eA (by assumption) ?_;(refine rO (ai hL1 (hL2)) ?_))));all_goals (exact (show bI _ _=true by kernel_rfl))))
 (refine cA ?_)
 (refine aY ?_;try with_reducible exact tt)
def fB (p:ProdD):Bool:=!gY p.pid p.epoch || !fS p.next 0 1048576 || decide (3<(p.seen.length:Int))
def aDs (s:SeenD):Bool:=decide (s.count<1) || decide (4<s.count) || decide (s.base < -1) || decide (1048576<s.base)
def aGg (s:SeenD) (b:Int):Bool:=decide (s.seq<0) || decide (b - s.count<s.seq)
def lW (s:SeenD) (b:Int):Bool:=aDs s || aGg s b
def lX:List SeenD→Int→Bool
 | [],_=>true
 | s::l,b=>!lW s b && lX l s.seq
def jR:List SeenD→Int→Nat→Int
 | _,b,0=>b
 | [],b,_+1=>b
 | s::l,b,i+1=>if lW s b then b else jR l s.seq i
def oP (l:List SeenD) (b:Int) (i:Nat):Bool:=match l[i]? with
 | some s=>!lW s (jR l b i)
 | none=>true
theorem pW (s:SeenD) (l:List SeenD) (b:Int) (i:Nat) (h:lW s b=false):oP (s::l) b (i+1)=oP l s.seq i:=by
 simp only[oP,List.getElem?_cons_succ,jR,h,Bool.false_eq_true,if_false]
theorem pX (s:SeenD) (l:List SeenD) (b:Int):oP (s::l) b 0 = !lW s b:=by simp[oP,jR]
theorem aEj:∀ (l:List SeenD) (b:Int) (i:Nat) (s:SeenD),(∀ j,j<i→oP l b j=true)→l[i]? = some s→jR l b (i+1)=if lW s (jR l b i) then jR l b i else s.seq
 | [],b,i,s,_,h=>by simp at h
 | t::l,b,0,s,_,h=>by
  simp at h;subst h
  cases hb:lW t b<;>simp[jR,hb]
 | t::l,b,i+1,s,hc,h=>by
  have h0:=hc 0 (by omega)
  rw[pX] at h0
  have h0:lW t b=false:=by simpa using h0
  have ih:=aEj l t.seq i s (fun j hj=>by have:=hc (j+1) (by omega);rwa [pW _ _ _ _ h0] at this) (by simpa using h)
  have e1:jR (t::l) b (i+1+1)=jR l t.seq (i+1):=by rw[jR,h0];rfl
  have e2:jR (t::l) b (i+1)=jR l t.seq i:=by rw[jR,h0];rfl
  rw[e1,e2,ih]
theorem aIp:∀ (l:List SeenD) (b:Int),(∀ j,j<l.length→oP l b j=true)→lX l b=true
 | [],_,_=>rfl
 | s::l,b,hc=>by
  have h0:=hc 0 (by simp)
  rw[pX] at h0
  have h1:lW s b=false:=by simpa using h0
  rw[lX,h0,Bool.true_and]
  exact aIp l s.seq (fun j hj=>by have:=hc (j+1) (by simpa using hj);rwa [pW _ _ _ _ h1] at this)
theorem aEk:∀ (l:List SeenD) (b:Int) (i:Nat),(∀ j,j<i→oP l b j=true)→oP l b i=false→lX l b=false
 | [],b,i,_,h=>by simp[oP] at h
 | s::l,b,0,_,h=>by rw[pX] at h;rw[lX,h];rfl
 | s::l,b,i+1,hc,h=>by
  have h0:=hc 0 (by omega)
  rw[pX] at h0
  have h1:lW s b=false:=by simpa using h0
  rw[pW _ _ _ _ h1] at h
  rw[lX,aEk l s.seq i (fun j hj=>by have:=hc (j+1) (by omega);rwa [pW _ _ _ _ h1] at this) h,Bool.and_false]
theorem aRo {s:SeenD} {b:Int} (h:lW s b=false):0≤s.seq∧s.seq≤b∧1≤s.count∧s.count≤4:=by
 simp only[lW,aDs,aGg,Bool.or_eq_false_iff,decide_eq_false_iff_not] at h
 omega
theorem aIg:∀ (l:List SeenD) (b:Int) (i:Nat),0≤b→b≤1048576→0≤jR l b i∧jR l b i≤1048576
 | l,b,0,h1,h2=>by cases l<;>exact⟨h1,h2⟩
 | [],b,i+1,h1,h2=>⟨h1,h2⟩
 | s::l,b,i+1,h1,h2=>by
  rw[jR]
  cases hb:lW s b with
  | true=>exact⟨h1,h2⟩
  | false =>
   have:=aRo hb
   exact aIg l s.seq i (by omega) (by omega)
def bB (p:ProdD):Bool:=!fB p && lX p.seen.reverse p.next
abbrev knM (p:ProdD) (i:Nat):List (Nat × HE):=[(0,.cells (p.dv.map .d)),(1,.cells [.d (gD false)]),(2,.cells [.d (int (jR p.seen.reverse p.next i))])]
abbrev knS (p:ProdD):St:=⟨iC [(1,.c (.own 0 0)),(2,.c (.own 1 0)),(3,.c (.own 2 0)),(28,.c (.d (.fn (.func 256) [.ptr [.lst 3 (p.seen.map SeenD.dv)] 0])))],bK (knM p 0),3,63,0⟩
theorem yA (p:ProdD) (hl:p.seen.length≤100000):bF Tryz.prog 173 [.agg p.dv] (gD (bB p)):=by
 have c1:=mD p.pid p.epoch
 have c2:=qN p.next
 have c3:=aDo p.seen
 (refine bF.of_body Tryz.func173 rfl rfl Tryz.ntmps173 Tryz.results173 (by simp) ?_)
 (refine gO (@ProdD.dv.eq_1) ?_)
 (first|refine Wp.sto 23 (vb (fB p)) ?_ ?_|refine Wp.rtoS 23 (vb (fB p)) ?_ ?_|(refine Wp.seq ?_;first|refine Wp.sto 23 (vb (fB p)) ?_ ?_|refine Wp.rtoS 23 (vb (fB p)) ?_ ?_))
 ·unfold fB;((rcases Bool.eq_false_or_eq_true (!gY p.pid p.epoch) with hL1|hL1)<;>(rcases Bool.eq_false_or_eq_true (!fS p.next 0 1048576) with hL2|hL2)<;>(rcases Bool.eq_false_or_eq_true (decide (3<(p.seen.length:Int))) with hL3|hL3)<;>(((refine rO (ai hL1 (ai hL2 (ai hL3 (@ProdD.dv.eq_1)))) ?_);(repeat (refine eA (by assumption) ?_;(refine rO (ai hL1 (ai hL2 (ai hL3 (@ProdD.dv.eq_1)))) ?_;try with_reducible exact tt))));all_goals (exact (show bI _ _=true by kernel_rfl))))
 refine Wp.cond (by (refine aY ?_);rfl) (fun h=>?_) (fun h=>?_)
 ·have hf:bB p=false:=by simp only[bB,h,Bool.not_true,Bool.false_and]
  (refine cA ?_)
  (refine rO (hf) ?_;try with_reducible exact tt)
 have h1:fB p=false:=h
 have hnx:0≤p.next∧p.next≤1048576:=by
  simp only[fB,fS,Bool.or_eq_false_iff,Bool.not_eq_false',Bool.and_eq_true,decide_eq_true_eq] at h1
  exact⟨h1.1.2.1,h1.1.2.2⟩
 have hkn:bB p=lX p.seen.reverse p.next:=by simp only[bB,h1,Bool.not_false,Bool.true_and]
 (refine gO (@ProdD.dv.eq_1) ?_)
 refine Wp.weak (show aD _ (knS p) from aD.keep rfl rfl ?_) ?_
 ·(refine rO (ai @knM.eq_1 (ai @ProdD.dv.eq_1 (ai @jR.eq_1 (ai @jR.eq_2 (@jR.eq_3))))) ?_;try with_reducible exact tt)
 have hsq:=aDr p.seen (by omega)
 have hbl:=vL p.seen
 refine Wp.rangeFunc (xs:=jV p.seen) rfl rfl hsq 500 (knM p) [0,1,2] (fun i=>oP p.seen.reverse p.next i) (fun _=>.ret) rfl (fun _=>rfl) rfl (fun _=>rfl) rfl (fun i id h=>by cases h) rfl (fun x hx=>by simp only[jV,List.mem_map] at hx;obtain⟨⟨r,_⟩,_,rfl⟩:=hx;rfl) ?_ ?_ ?_
 ·intro i hi hc o1
  have hi' : i<p.seen.length:=by omega
  have hg:p.seen.reverse[i]? = some (p.seen.reverse[i]'(by simpa using hi')):=List.getElem?_eq_getElem (by simpa using hi')
  rw[vK p.seen i _ hg]
  have hbn:=aEj _ _ i _ hc hg
  have hbr:=aIg p.seen.reverse p.next i hnx.1 hnx.2
  have hct:oP p.seen.reverse p.next i = !lW (p.seen.reverse[i]'(by simpa using hi')) (jR p.seen.reverse p.next i):=by simp only[oP,hg]
  rw[hct]
  generalize p.seen.reverse[i]'(by simpa using hi')=s at *
  (refine gO (ai @knM.eq_1 (ai @SeenD.dv.eq_1 (ai @ProdD.dv.eq_1 (ai @List.cons_append.{0} (@List.nil_append.{0}))))) ?_)
  refine⟨rfl,by (refine aY ?_;try with_reducible exact tt),rfl,fun o2=>?_⟩
  (refine gO (@SeenD.dv.eq_1) ?_)
  (first|refine Wp.sto 48 (vb (aDs s)) ?_ ?_|refine Wp.rtoS 48 (vb (aDs s)) ?_ ?_|(refine Wp.seq ?_;first|refine Wp.sto 48 (vb (aDs s)) ?_ ?_|refine Wp.rtoS 48 (vb (aDs s)) ?_ ?_))
  ·unfold aDs;((rcases Bool.eq_false_or_eq_true (decide (s.count<1)) with hL1|hL1)<;>(rcases Bool.eq_false_or_eq_true (decide (4<s.count)) with hL2|hL2)<;>(rcases Bool.eq_false_or_eq_true (decide (s.base < -1)) with hL3|hL3)<;>(rcases Bool.eq_false_or_eq_true (decide (1048576<s.base)) with hL4|hL4)<;>(((refine rO (ai hL1 (ai hL2 (ai hL3 (ai hL4 (@SeenD.dv.eq_1))))) ?_;try with_reducible exact tt);(repeat (refine eA (by assumption) ?_;(refine rO (ai hL1 (ai hL2 (ai hL3 (ai hL4 (@SeenD.dv.eq_1))))) ?_))));all_goals (exact (show bI _ _=true by kernel_rfl))))
  refine Wp.cond (by (refine aY ?_);rfl) (fun h=>?_) (fun h=>?_)
  ·have hb:lW s (jR p.seen.reverse p.next i)=true:=by simp only[lW,h,Bool.true_or]
   rw[hb,if_pos rfl] at hbn
   (refine cA ?_)
   refine⟨aD.keep rfl rfl ?_,.inr ⟨by rw[hb];rfl,rfl,rfl⟩⟩
   (refine rO (ai @knM.eq_1 (ai @List.cons_append.{0} (ai @List.nil_append.{0} (ai hbn (@ProdD.dv.eq_1))))) ?_;try with_reducible exact tt)
  have hb1:=h
  have hcr:1≤s.count∧s.count≤4:=by simp only[aDs,Bool.or_eq_false_iff,decide_eq_false_iff_not] at h;omega
  (refine gO (@SeenD.dv.eq_1) ?_)
  (first|refine Wp.sto 60 (vb (aGg s (jR p.seen.reverse p.next i))) ?_ ?_|refine Wp.rtoS 60 (vb (aGg s (jR p.seen.reverse p.next i))) ?_ ?_|(refine Wp.seq ?_;first|refine Wp.sto 60 (vb (aGg s (jR p.seen.reverse p.next i))) ?_ ?_|refine Wp.rtoS 60 (vb (aGg s (jR p.seen.reverse p.next i))) ?_ ?_))
  ·unfold aGg;((rcases Bool.eq_false_or_eq_true (decide (s.seq<0)) with hL1|hL1)<;>(rcases Bool.eq_false_or_eq_true (decide (jR p.seen.reverse p.next i - s.count<s.seq)) with hL2|hL2)<;>(((refine rO (ai hL1 (ai hL2 (@SeenD.dv.eq_1))) ?_;try with_reducible exact tt);(repeat (refine eA (by assumption) ?_;(refine rO (ai hL1 (ai hL2 (@SeenD.dv.eq_1))) ?_))));all_goals (exact (show bI _ _=true by kernel_rfl))))
  refine Wp.cond (by (refine aY ?_);rfl) (fun h=>?_) (fun h=>?_)
  ·have hb:lW s (jR p.seen.reverse p.next i)=true:=by simp only[lW,h,Bool.or_true]
   rw[hb,if_pos rfl] at hbn
   (refine cA ?_)
   refine⟨aD.keep rfl rfl ?_,.inr ⟨by rw[hb];rfl,rfl,rfl⟩⟩
   (refine rO (ai @knM.eq_1 (ai @List.cons_append.{0} (ai @List.nil_append.{0} (ai hbn (@ProdD.dv.eq_1))))) ?_;try with_reducible exact tt)
  ·have hb:lW s (jR p.seen.reverse p.next i)=false:=by simp only[lW,hb1,h];rfl
   rw[hb,if_neg (by simp)] at hbn
   (refine gO (@SeenD.dv.eq_1) ?_)
   refine⟨aD.keep rfl rfl ?_,.inl ⟨rfl,by rw[hb];rfl⟩⟩
   (refine rO (ai @knM.eq_1 (ai @List.cons_append.{0} (ai @List.nil_append.{0} (ai hbn (@ProdD.dv.eq_1))))) ?_;try with_reducible exact tt)
 ·intro i hi hc hn
  refine⟨rfl,?_⟩
  have e1:=aEk _ _ i hc hn
  (refine rO (ai @knM.eq_1 (ai @List.cons_append.{0} (ai @List.nil_append.{0} (ai hkn (ai e1 (@ProdD.dv.eq_1)))))) ?_;try with_reducible exact tt)
 ·intro hc
  have e1:=aIp p.seen.reverse p.next (fun j hj=>hc j (by rw[hbl];simpa using hj))
  (refine gO (ai @knM.eq_1 (ai @List.cons_append.{0} (ai @List.nil_append.{0} (@ProdD.dv.eq_1)))) ?_)
  (refine rO (ai hkn (e1)) ?_;try with_reducible exact tt)
/-! forwards -/
structure SmallL (l:List ProdD):Prop where
 len:l.length≤100000
 seen:∀ p ∈ l,p.seen.length≤100000
def jB:List ProdD→Int→Bool
 | [],_=>true
 | p::l,last=>!(decide (p.pid≤last) || !bB p) && jB l p.pid
def gH (l:List ProdD):Bool:=jB l 0
def lF (l:List ProdD):Nat→Int
 | 0=>0
 | k+1=>match l[k]? with
  | some p=>p.pid
  | none=>0
theorem aK0:∀ (l:List ProdD) (b:Int),jB l b=true ↔ ∀ k p,l[k]? = some p→(decide (p.pid≤match k with|0=>b|k+1=>match l[k]? with|some q=>q.pid|none=>0) || !bB p)=false
 | [],b=>by simp[jB]
 | p::l,b=>by
  rw[jB,Bool.and_eq_true,aK0 l p.pid]
  constructor
  ·rintro⟨h1,h2⟩ k q hq
   cases k with
   | zero=>simp at hq;subst hq;simpa using h1
   | succ k =>
    have:=h2 k q (by simpa using hq)
    cases k with
    | zero=>exact this
    | succ k=>exact this
  ·intro h
   refine⟨by have:=h 0 p rfl;simpa using this,fun k q hq=>?_⟩
   have:=h (k+1) q (by simpa using hq)
   cases k with
   | zero=>exact this
   | succ k=>exact this
theorem wE (l:List ProdD):gH l=true ↔ ∀ k p,l[k]? = some p→(decide (p.pid≤lF l k) || !bB p)=false:=by
 rw[gH,aK0]
 constructor<;>intro h k p hp<;>have:=h k p hp<;>cases k<;>exact this
theorem aWf (l:List ProdD) (hs:SmallL l):bF Tryz.prog 232 [.lst 4 (l.map ProdD.dv)] (gD (gH l)):=by
 have hsl:=hs.len
 (refine bF.of_body Tryz.func232 rfl rfl Tryz.ntmps232 Tryz.results232 (by simp) ?_)
 (refine cA ?_)
 refine Wp.loop (fun k:Nat=>⟨iC [(3,vi .i64 (lF l k)),(6,.c (.d (.lst 4 (l.map ProdD.dv)))),(7,vi .i64 l.length),(8,vi .i64 k)],bK [],0,24,0⟩) (fun k=>k≤l.length∧∀ j p,j<k→l[j]? = some p→(decide (p.pid≤lF l j) || !bB p)=false) (fun k=>l.length - k) 0 ⟨Nat.zero_le _,fun j p hj=>by omega⟩ ?_ ?_
 ·refine aD.keep rfl rfl ?_
  (refine rO (ai @lF.eq_1 (@lF.eq_2)) ?_;try with_reducible exact tt)
 rintro k ⟨hk,hall⟩
 (refine cA ?_)
 refine Wp.cond (by (refine aY ?_);rfl) (fun h=>?_) (fun h=>?_)
 ·have hlt:k<l.length:=by simpa using h
  have hge:l[k]? = some l[k]:=List.getElem?_eq_getElem hlt
  have c1:=yA l[k] (hs.seen _ (List.getElem_mem hlt))
  have hln:lF l (k+1)=l[k].pid:=by simp only[lF,hge]
  generalize l[k]=p at *
  simp only[ProdD.dv] at c1
  (refine gO (ai hge (@ProdD.dv.eq_1)) ?_)
  (first|refine Wp.sto 20 (vb (decide (p.pid≤lF l k) || !bB p)) ?_ ?_|refine Wp.rtoS 20 (vb (decide (p.pid≤lF l k) || !bB p)) ?_ ?_|(refine Wp.seq ?_;first|refine Wp.sto 20 (vb (decide (p.pid≤lF l k) || !bB p)) ?_ ?_|refine Wp.rtoS 20 (vb (decide (p.pid≤lF l k) || !bB p)) ?_ ?_))
  ·((rcases Bool.eq_false_or_eq_true (decide (p.pid≤lF l k)) with hL1|hL1)<;>(rcases Bool.eq_false_or_eq_true (!bB p) with hL2|hL2)<;>(((refine rO (ai hL1 (ai hL2 (@ProdD.dv.eq_1))) ?_;try with_reducible exact tt);(repeat (refine eA (by assumption) ?_;(refine rO (ai hL1 (ai hL2 (@ProdD.dv.eq_1))) ?_;try with_reducible exact tt))));all_goals (exact (show bI _ _=true by kernel_rfl))))
  refine Wp.cond (by (refine aY ?_);rfl) (fun h=>?_) (fun h=>?_)
  ·have hf:gH l=false:=by
    cases hq:gH l with
    | false=>rfl
    | true=>have:=(wE l).1 hq k p hge;rw[this] at h;cases h
   (refine cA ?_)
   (refine rO (hf) ?_;try with_reducible exact tt)
  ·have h5:=h
   (refine gO (@ProdD.dv.eq_1) ?_)
   refine⟨k+1,⟨by omega,fun j x hj hx=>?_⟩,by omega,aD.keep rfl rfl ?_⟩
   ·rcases Nat.lt_or_ge j k with h2|h2
    ·exact hall j x h2 hx
    ·obtain rfl:j=k:=by omega
     rw[hge] at hx;cases hx;exact h5
   (refine rO (hln) ?_;try with_reducible exact tt)
 ·have hf:gH l=true:=(wE l).2 (fun j p hp=>hall j p (by have:=(List.getElem?_eq_some_iff.1 hp).1;simp only[decide_eq_false_iff_not] at h;omega) hp)
  (refine cA ?_)
  (refine rO (hf) ?_;try with_reducible exact tt)
theorem xV (l:List ProdD) (f:Nat) (caps:List D) (pr:ProdD→Bool) (hl:l.length≤100000) (hf:∀ x ∈ l,bF Tryz.prog f (.agg x.dv::caps) (gD (pr x))) :
  bF Tryz.prog 245 [.lst 4 (l.map ProdD.dv),.fn (.func f) caps] (.tup [int (l.findIdx pr:Nat),gD (l.any pr)]):=by
 (refine bF.of_body Tryz.func245 rfl rfl Tryz.ntmps245 Tryz.results245 (by simp) ?_)
 (refine cA ?_)
 refine Wp.loop (fun k:Nat=>⟨iC [(0,.c (.d (.lst 4 (l.map ProdD.dv)))),(1,.c (.d (.fn (.func f) caps))),(8,.c (.d (.lst 4 (l.map ProdD.dv)))),(9,vi .i64 l.length),(10,vi .i64 k)],bK [],0,22,0⟩) (fun k=>k≤l.length∧(l.take k).any pr=false) (fun k=>l.length - k) 0 ⟨Nat.zero_le _,rfl⟩ ?_ ?_
 ·refine aD.keep rfl rfl ?_
  (refine aY ?_;try with_reducible exact tt)
 rintro k ⟨hk,hall⟩
 (refine cA ?_)
 refine Wp.cond (by (refine aY ?_);rfl) (fun h=>?_) (fun h=>?_)
 ·have hlt:k<l.length:=by simpa using h
  have c1:=hf l[k] (List.getElem_mem hlt)
  have hs:=iX pr l k hlt
  have hix:pr l[k]=true→l.findIdx pr=k:=fun hp=>by
   rw[List.findIdx_eq hlt]
   refine⟨hp,fun j hj=>?_⟩
   have:=List.any_eq_false.1 hall (l[j]) (by rw[List.mem_take_iff_getElem];exact⟨j,by omega,rfl⟩)
   simpa using this
  have han:pr l[k]=true→l.any pr=true:=fun hp=>List.any_eq_true.2 ⟨l[k],List.getElem_mem hlt,hp⟩
  have hge:l[k]? = some l[k]:=List.getElem?_eq_getElem hlt
  generalize l[k]=p at *
  simp only[ProdD.dv] at c1
  (refine gO (ai hge (@ProdD.dv.eq_1)) ?_)
  refine Wp.cond (by (refine aY ?_);rfl) (fun h=>?_) (fun h=>?_)
  ·have h1:=hix h
   have h2:=han h
   (refine cA ?_)
   (refine rO (ai h1 (h2)) ?_;try with_reducible exact tt)
  ·(refine cA ?_)
   refine⟨k+1,⟨by omega,by rw[hs,hall,h];rfl⟩,by omega,aD.keep rfl rfl ?_⟩
   (refine aY ?_;try with_reducible exact tt)
 ·have hall:l.any pr=false:=by
   rw[List.take_of_length_le (by simp only[decide_eq_false_iff_not] at h;omega)] at hall;exact hall
  have hix:l.findIdx pr=l.length:=List.findIdx_eq_length.2 (fun x hx=>by have:=List.any_eq_false.1 hall x hx;simpa using this)
  (refine cA ?_)
  (refine rO (ai hall (hix)) ?_;try with_reducible exact tt)
theorem aB6 (xs:List (List D)) (hl:xs.length≤1000000):mO Tryz.prog 276 [.lst 3 xs] 108 3 xs:=by
 cases xs with
 | nil =>
  refine mO.of_nil (fun a c=>?_)
  (refine mO.of_body Tryz.func276 rfl rfl Tryz.ntmps276 Tryz.results276 (by simp) ?_)
  cases a with
  | none =>
   (repeat (first|refine Wp.skip ?_|refine Wp.exit ?_|refine Wp.ret ?_|refine Wp.block ?_|refine Wp.label ?_|((first|(first|refine Wp.sreg (fun K hK=>?_)|refine Wp.reg (fun K hK=>?_)|refine Wp.sdrw aI (fun K hK=>?_)|refine Wp.drw aI (fun K hK=>?_))|refine Wp.condG (fun K hT hF=>?_));(refine rO (ai @Option.isNone_none.{0} (@Option.isNone_some.{0})) ?_);(first|(refine hK _ ?_;clear hK K)|(refine⟨by kernel_rfl,hK _ ?_⟩;clear hK K)|(refine hT ?_;clear hT hF K)|(refine hF ?_;clear hT hF K)))|refine Wp.seq ?_))
   (refine aY ?_;try with_reducible exact tt)
  | some ad =>
   (repeat (first|refine Wp.skip ?_|refine Wp.exit ?_|refine Wp.ret ?_|refine Wp.block ?_|refine Wp.label ?_|((first|(first|refine Wp.sreg (fun K hK=>?_)|refine Wp.reg (fun K hK=>?_)|refine Wp.sdrw aI (fun K hK=>?_)|refine Wp.drw aI (fun K hK=>?_))|refine Wp.condG (fun K hT hF=>?_));(refine rO (ai @Option.isNone_none.{0} (@Option.isNone_some.{0})) ?_);(first|(refine hK _ ?_;clear hK K)|(refine⟨by kernel_rfl,hK _ ?_⟩;clear hK K)|(refine hT ?_;clear hT hF K)|(refine hF ?_;clear hT hF K)))|refine Wp.seq ?_))
   (refine aY ?_)
   exact .inl ⟨0,rfl,rfl⟩
 | cons f fs =>
  have hb:(fs.length+1)*24≤140737488355328:=by simp at hl;omega
  (refine mO.of_body Tryz.func276 rfl rfl Tryz.ntmps276 Tryz.results276 (by simp) ?_)
  (repeat (first|refine Wp.skip ?_|refine Wp.exit ?_|refine Wp.ret ?_|refine Wp.block ?_|refine Wp.label ?_|((first|(first|refine Wp.sreg (fun K hK=>?_)|refine Wp.reg (fun K hK=>?_)|refine Wp.sdrw aI (fun K hK=>?_)|refine Wp.drw aI (fun K hK=>?_))|refine Wp.condG (fun K hT hF=>?_));(refine rO (hb) ?_);(first|(refine hK _ ?_;clear hK K)|(refine⟨by kernel_rfl,hK _ ?_⟩;clear hK K)|(refine hT ?_;clear hT hF K)|(refine hF ?_;clear hT hF K)))|refine Wp.seq ?_))
  (refine aY ?_)
  exact .inl ⟨0,rfl,rfl⟩
theorem qA (p:ProdD) (hl:p.seen.length≤100000):bF Tryz.prog 249 [.agg p.dv] (.agg p.dv):=by
 have c1:=(aB6 (p.seen.map SeenD.dv) (by simp;omega)).fun
 (refine bF.of_body Tryz.func249 rfl rfl Tryz.ntmps249 Tryz.results249 (by simp) ?_)
 (refine gO (@ProdD.dv.eq_1) ?_)
 (refine rO (@ProdD.dv.eq_1) ?_;try with_reducible exact tt)
abbrev pzD:ProdD:=⟨0,0,0,[]⟩
theorem aZs:qY (.agg [int 0,int 0,int 0,qL]) (.agg pzD.dv):=qY.agg (.cons (.refl _) (.cons (.refl _) (.cons (.refl _) (.cons (.nil 3) .nil))))
def bE (l:List ProdD) (pid:Int):ProdD × Bool:=match l.find? (fun p=>p.pid == pid) with
 | some p=>(p,true)
 | none=>(pzD,false)
theorem qF {α:Type} (pr:α→Bool):∀ (l:List α),l.any pr=true→l[l.findIdx pr]? = l.find? pr
 | [],h=>by simp at h
 | a::l,h=>by
  rw[List.findIdx_cons,List.find?_cons]
  cases hp:pr a with
  | true=>simp
  | false =>
   simp only[List.any_cons,hp,Bool.false_or] at h
   simpa using qF pr l h
theorem aJe (p:ProdD) (pid:Int):bF Tryz.prog 248 [.agg p.dv,.ptr [int pid] 0] (gD (p.pid == pid)):=by
 (refine bF.of_body Tryz.func248 rfl rfl Tryz.ntmps248 Tryz.results248 (by simp) ?_)
 (refine gO (@ProdD.dv.eq_1) ?_)
 (refine aY ?_;try with_reducible exact tt)
theorem aBi (l:List ProdD) (pid:Int) (hs:SmallL l):bF Tryz.prog 210 [.lst 4 (l.map ProdD.dv),int pid] (.tup [.agg (bE l pid).1.dv,gD (bE l pid).2]):=by
 have c1:=xV l 248 [.ptr [int pid] 0] (fun p=>p.pid == pid) hs.len (fun x _=>aJe x pid)
 (refine bF.of_bodyW Tryz.func210 rfl rfl Tryz.ntmps210 Tryz.results210 (by simp) ?_)
 (refine cA ?_)
 (refine Wp.weak (aD.freeze (id:=0) (by (refine aY ?_);rfl) (by (refine aY ?_);rfl)) ?_)
 cases ha:l.any (fun p=>p.pid == pid) with
 | false =>
  have hn:l.find? (fun p=>p.pid == pid)=none:=List.find?_eq_none.2 (fun x hx=>by simpa using List.any_eq_false.1 ha x hx)
  have e1:bE l pid=(pzD,false):=by simp only[bE,hn]
  rw[ha] at c1
  rw[e1]
  (refine cA ?_)
  (refine aY ?_)
  exact⟨_,rfl,qY.tup (.cons aZs (.cons (.refl _) .nil))⟩
 | true =>
  rw[ha] at c1
  have hfi:=qF _ l ha
  obtain⟨x,hx,hpx⟩:=List.any_eq_true.1 ha
  cases hq:l.find? (fun p=>p.pid == pid) with
  | none=>have:=List.find?_eq_none.1 hq x hx;exact absurd hpx this
  | some p =>
   have e1:bE l pid=(p,true):=by simp only[bE,hq]
   rw[hq] at hfi
   have c2:=qA p (hs.seen p (List.mem_of_getElem? hfi))
   rw[e1]
   generalize l.findIdx (fun p=>p.pid == pid)=k at *
   simp only[ProdD.dv] at c2
   (refine gO (ai hfi (@ProdD.dv.eq_1)) ?_)
   (refine rO (@ProdD.dv.eq_1) ?_)
   exact⟨_,rfl,fun K v h=>h⟩
theorem aRh (f g:SeenD):∃ fs,Tryz.prog.underlying 108=some (.struct fs)∧aAd Tryz.prog 9999 #[.int .i64 f.seq,.int .i64 f.count,.int .i64 f.base] #[.int .i64 g.seq,.int .i64 g.count,.int .i64 g.base] fs.toList=some (decide (f=g)):=by
 refine⟨_,Tryz.underlying108,?_⟩
 have ii:aV Tryz.prog (isAgg 3)=some false:=by kernel_rfl
 have si:=fun x y=>aJ5 (d:=9998) Tryz.underlying3 .i64 x y
 simp only[Nat.reduceAdd] at si
 obtain⟨a1,a2,a3⟩:=f
 obtain⟨b1,b2,b3⟩:=g
 have e:decide (SeenD.mk a1 a2 a3=SeenD.mk b1 b2 b3)=(a1 == b1 && (a2 == b2 && (a3 == b3))):=by rw[Bool.eq_iff_iff];simp only[SeenD.mk.injEq,Bool.and_eq_true,beq_iff_eq,decide_eq_true_eq]
 rw[e]
 cases h1:(a1 == b1)<;>cases h2:(a2 == b2)<;>cases h3:(a3 == b3)<;>simp[aAd,ii,si,aLj,h1,h2,h3]
theorem aEa (x y:Operand) (f g:SeenD):fA Tryz.prog .eql 108 x y (.agg [.d (int f.seq),.d (int f.count),.d (int f.base)]) (.agg [.d (int g.seq),.d (int g.count),.d (int g.base)])=some (Res.pure (vb (decide (f=g))))∧fA Tryz.prog .neq 108 x y (.agg [.d (int f.seq),.d (int f.count),.d (int f.base)]) (.agg [.d (int g.seq),.d (int g.count),.d (int g.base)])=some (Res.pure (vb (!decide (f=g)))):=by
 obtain⟨fs,hu,he⟩:=aRh f g
 exact aGe hu (by kernel_rfl) (by kernel_rfl) he
def uR (a b:ProdD):Bool:=a.pid != b.pid || a.epoch != b.epoch || a.next != b.next || (a.seen.length:Int) != (b.seen.length:Int)
theorem xF (a b:ProdD) (hl:a.seen.length<2 ^ 40):bF Tryz.prog 68 [.agg a.dv,.agg b.dv] (gD (decide (a=b))):=by
 (refine bF.of_body Tryz.func68 rfl rfl Tryz.ntmps68 Tryz.results68 (by simp) ?_)
 (refine gO (@ProdD.dv.eq_1) ?_)
 (first|refine Wp.sto 33 (vb (uR a b)) ?_ ?_|refine Wp.rtoS 33 (vb (uR a b)) ?_ ?_|(refine Wp.seq ?_;first|refine Wp.sto 33 (vb (uR a b)) ?_ ?_|refine Wp.rtoS 33 (vb (uR a b)) ?_ ?_))
 ·unfold uR;((rcases Bool.eq_false_or_eq_true (a.pid != b.pid) with hL1|hL1)<;>(rcases Bool.eq_false_or_eq_true (a.epoch != b.epoch) with hL2|hL2)<;>(rcases Bool.eq_false_or_eq_true (a.next != b.next) with hL3|hL3)<;>(rcases Bool.eq_false_or_eq_true ((a.seen.length:Int) != (b.seen.length:Int)) with hL4|hL4)<;>(((refine rO (ai hL1 (ai hL2 (ai hL3 (ai hL4 (@ProdD.dv.eq_1))))) ?_;try with_reducible exact tt);(repeat (refine eA (by assumption) ?_;(refine rO (ai hL1 (ai hL2 (ai hL3 (ai hL4 (@ProdD.dv.eq_1))))) ?_))));all_goals (exact (show bI _ _=true by kernel_rfl))))
 refine Wp.cond (by (refine aY ?_);rfl) (fun h=>?_) (fun h=>?_)
 ·have hf:decide (a=b)=false:=by
   refine decide_eq_false (fun e=>?_)
   subst e
   simp[uR] at h
  (refine cA ?_)
  (refine rO (hf) ?_;try with_reducible exact tt)
 simp only[uR,Bool.or_eq_false_iff,bne_eq_false_iff_eq] at h
 obtain⟨⟨⟨h1,h2⟩,h3⟩,h5⟩:=h
 have hlen:a.seen.length=b.seen.length:=by omega
 (refine gO (@ProdD.dv.eq_1) ?_)
 refine Wp.loop (fun k:Nat=>⟨iC [(2,.c (.own 0 0)),(3,.c (.own 1 0)),(5,vi .i64 k)],bK [(0,.cells (a.dv.map .d)),(1,.cells (b.dv.map .d))],2,52,0⟩) (fun k=>k≤a.seen.length∧a.seen.take k=b.seen.take k) (fun k=>a.seen.length - k) 0 ⟨Nat.zero_le _,rfl⟩ ?_ ?_
 ·refine aD.keep rfl rfl ?_
  (refine rO (@ProdD.dv.eq_1) ?_;try with_reducible exact tt)
 rintro k ⟨hk,hall⟩
 (refine gO (@ProdD.dv.eq_1) ?_)
 refine Wp.cond (by (refine aY ?_);rfl) (fun h=>?_) (fun h=>?_)
 ·have hlt:k<a.seen.length:=by simpa using h
  have hlt2:k<b.seen.length:=by omega
  have g1:a.seen[k]? = some a.seen[k]:=List.getElem?_eq_getElem hlt
  have g2:b.seen[k]? = some b.seen[k]:=List.getElem?_eq_getElem hlt2
  have t1:=aU a.seen k hlt
  have t2:=aU b.seen k hlt2
  have hne:a.seen[k]≠b.seen[k]→¬ a=b:=fun hx e=>by subst e;exact hx rfl
  generalize a.seen[k]=x at *
  generalize b.seen[k]=y at *
  (refine gO (ai g1 (ai g2 (ai @SeenD.dv.eq_1 (@aEa)))) ?_)
  refine Wp.cond (by (refine aY ?_);rfl) (fun h=>?_) (fun h=>?_)
  ·have hf:decide (a=b)=false:=decide_eq_false (hne (by simpa using h))
   (refine cA ?_)
   (refine rO (hf) ?_;try with_reducible exact tt)
  ·simp only[Bool.not_eq_false',decide_eq_true_eq] at h
   (refine cA ?_)
   refine⟨k+1,⟨by omega,by rw[t1,t2,hall,h]⟩,by omega,aD.keep rfl rfl ?_⟩
   (refine rO (@ProdD.dv.eq_1) ?_;try with_reducible exact tt)
 ·have hk:k=a.seen.length:=by simp only[decide_eq_false_iff_not] at h;omega
  have hf:decide (a=b)=true:=by
   rw[List.take_of_length_le (by omega),List.take_of_length_le (by omega)] at hall
   obtain⟨a1,a2,a3,a4⟩:=a
   obtain⟨b1,b2,b3,b4⟩:=b
   simp only at h1 h2 h3 hall
   subst h1 h2 h3 hall
   simp
  (refine cA ?_)
  (refine rO (hf) ?_;try with_reducible exact tt)
abbrev ptS (l:List ProdD) (a b:Nat) (p:ProdD) (k:Nat):St:=⟨iC [(0,.c (.d (.lst 4 (l.map ProdD.dv)))),(2,vi .i64 b),(7,.c (.own 0 0)),(9,.c (.app 1 4 (((l.take a).take k).map ProdD.dv))),(20,.c (.d (.lst 4 ((l.map ProdD.dv).take a)))),(21,vi .i64 a),(22,vi .i64 k)],bK [(0,.cells (p.dv.map .d)),(1,.row 69 4 k)],2,52,0⟩
abbrev bCb (l:List ProdD) (a b:Nat) (p:ProdD) (k:Nat):St:=⟨iC [(9,.c (.app 1 4 ((l.take a++[p]++(l.drop b).take k).map ProdD.dv))),(39,.c (.d (.lst 4 ((l.map ProdD.dv).drop b)))),(40,vi .i64 (l.length - b:Nat)),(41,vi .i64 k)],bK [(1,.row 69 4 (a+1+k))],2,52,0⟩
theorem aHk (l:List ProdD) (a b:Nat) (p:ProdD) (hs:SmallL l) (hp:p.seen.length≤100000) (ha:a≤l.length) (hb:b≤l.length) :
  bF Tryz.prog 247 [.lst 4 (l.map ProdD.dv),int a,int b,.agg p.dv] (.lst 4 ((l.take a++[p]++l.drop b).map ProdD.dv)):=by
 have hl:=hs.len
 have c0:=qA p hp
 simp only[ProdD.dv] at c0
 have hb0:48*(l.length+1)≤140737488355328:=by omega
 have htn:((l.length:Int)+1).toNat=l.length+1:=by omega
 have hnn:((0:Int)≤(l.length:Int)+1)=True:=by simp;omega
 have hta:((l.map ProdD.dv).take a).length=a:=by rw[List.length_take,List.length_map];omega
 (refine bF.of_body Tryz.func247 rfl rfl Tryz.ntmps247 Tryz.results247 (by simp) ?_)
 (refine gO (ai @ProdD.dv.eq_1 (ai hb0 (ai htn (ai hnn (ai ha (hta)))))) ?_)
 refine Wp.loop (ptS l a b p) (fun k=>k≤a) (fun k=>a - k) 0 (Nat.zero_le _) ?_ ?_
 ·refine aD.keep rfl rfl ?_
  (refine rO (ai @ProdD.dv.eq_1 (ai @List.take_zero.{0} (@List.map_nil.{0,0}))) ?_;try with_reducible exact tt)
 ·intro k hk
  (refine cA ?_)
  refine Wp.cond (by (refine aY ?_);rfl) (fun h=>?_) (fun h=>?_)
  ·have hlt:k<(l.take a).length:=by rw[List.length_take];simp only[decide_eq_true_eq] at h;omega
   have hge:(l.take a)[k]? = some (l.take a)[k]:=List.getElem?_eq_getElem hlt
   have hm:(l.take a)[k] ∈ l:=List.mem_of_mem_take (List.getElem_mem hlt)
   have htk:=aU (l.take a) k hlt
   have htl:((l.take a).take k).length=k:=by rw[List.length_take];omega
   have hbb:(k+1)*48≤140737488355328:=by rw[List.length_take] at hlt;omega
   have hka:k+1≤a:=by simp only[decide_eq_true_eq] at h;omega
   have c1:=qA (l.take a)[k] (hs.seen _ hm)
   have hge2:((l.map ProdD.dv).take a)[k]? = some (l.take a)[k].dv:=by rw[← List.map_take,List.getElem?_map,hge];rfl
   generalize (l.take a)[k]=q at *
   simp only[ProdD.dv] at c1 hge2
   (refine gO (ai hge2 (ai @ProdD.dv.eq_1 (ai htl (hbb)))) ?_)
   refine⟨k+1,hka,by omega,aD.keep rfl rfl ?_⟩
   (refine rO (ai @ProdD.dv.eq_1 (ai htk (@List.map_append.{0,0}))) ?_;try with_reducible exact tt)
  ·have hk2:k=a:=by simp only[decide_eq_false_iff_not] at h;omega
   subst hk2
   have htl:(l.take k).length=k:=by rw[List.length_take];omega
   have htt:(l.take k).take k=l.take k:=by rw[List.take_take,Nat.min_self]
   have hbb:(k+1)*48≤140737488355328:=by omega
   have hdl:((l.map ProdD.dv).drop b).take (l.length - b)=(l.map ProdD.dv).drop b:=List.take_of_length_le (by simp)
   have hdl2:((l.map ProdD.dv).drop b).length=l.length - b:=by rw[List.length_drop,List.length_map]
   (refine gO (ai @ProdD.dv.eq_1 (ai htt (ai htl (ai hbb (ai hb (ai hdl (hdl2))))))) ?_)
   refine Wp.loop (bCb l k b p) (fun j=>j≤l.length - b) (fun j=>l.length - b - j) 0 (Nat.zero_le _) ?_ ?_
   ·refine aD.keep rfl rfl ?_
    (refine rO (ai @ProdD.dv.eq_1 (ai @List.map_append.{0,0} (ai @List.map_cons.{0,0} (ai @List.map_nil.{0,0} (ai @List.take_zero.{0} (ai @List.append_nil.{0} (@Nat.add_zero))))))) ?_;try with_reducible exact tt)
   intro j hj
   have hdb:(l.drop b).length=l.length - b:=List.length_drop
   (refine cA ?_)
   refine Wp.cond (by (refine aY ?_);rfl) (fun h=>?_) (fun h=>?_)
   ·have hlt:j<(l.drop b).length:=by rw[hdb];simp only[decide_eq_true_eq] at h;omega
    have hge:(l.drop b)[j]? = some (l.drop b)[j]:=List.getElem?_eq_getElem hlt
    have hm:(l.drop b)[j] ∈ l:=List.mem_of_mem_drop (List.getElem_mem hlt)
    have htk:=aU (l.drop b) j hlt
    have htl2:(l.take k++[p]++(l.drop b).take j).length=k+1+j:=by simp only[List.length_append,List.length_take,List.length_singleton];omega
    have hjb:j+1≤l.length - b:=by rw[hdb] at hlt;exact hlt
    have hbb2:(k+1+j+1)*48≤140737488355328:=by
     have h5:k+1+j+1≤300000:=by clear hbb hb0 hnn htn hta htl htt hdl hdl2 htl2;omega
     exact Nat.le_trans (Nat.mul_le_mul_right 48 h5) (by decide)
    have c1:=qA (l.drop b)[j] (hs.seen _ hm)
    have hge2:((l.map ProdD.dv).drop b)[j]? = some (l.drop b)[j].dv:=by rw[← List.map_drop,List.getElem?_map,hge];rfl
    generalize (l.drop b)[j]=q at *
    simp only[ProdD.dv] at c1 hge2
    (refine gO (ai hge2 (ai @ProdD.dv.eq_1 (ai htl2 (hbb2)))) ?_)
    refine⟨j+1,hjb,by omega,aD.keep rfl rfl ?_⟩
    (refine rO (ai @ProdD.dv.eq_1 (ai htk (ai @List.map_append.{0,0} (ai @List.map_cons.{0,0} (ai @List.map_nil.{0,0} (ai @List.append_assoc.{0} (@Nat.add_assoc))))))) ?_;try with_reducible exact tt)
   ·have hj2:j=l.length - b:=by simp only[decide_eq_false_iff_not] at h;omega
    have htt2:(l.drop b).take j=l.drop b:=List.take_of_length_le (by omega)
    (refine gO (htt2) ?_)
    (refine rO (htt2) ?_;try with_reducible exact tt)
def eD (l:List ProdD) (pid:Int):Nat:=l.findIdx (fun x=>decide (pid≤x.pid))
def oG (l:List ProdD) (pid:Int):Bool:=match l[eD l pid]? with
 | some x=>x.pid == pid
 | none=>false
def cM (l:List ProdD) (p:ProdD):List ProdD:=l.take (eD l p.pid)++[p]++l.drop (if oG l p.pid then eD l p.pid+1 else eD l p.pid)
theorem aFn (l:List ProdD) (pid:Int):eD l pid≤l.length:=List.findIdx_le_length
theorem aR1 (x p:ProdD):bF Tryz.prog 250 [.agg x.dv,.ptr p.dv 0] (gD (decide (p.pid≤x.pid))):=by
 (refine bF.of_body Tryz.func250 rfl rfl Tryz.ntmps250 Tryz.results250 (by simp) ?_)
 (refine gO (@ProdD.dv.eq_1) ?_)
 (refine aY ?_;try with_reducible exact tt)
theorem aHr (l:List ProdD) (p:ProdD) (hs:SmallL l) (hp:p.seen.length≤100000):bF Tryz.prog 211 [.lst 4 (l.map ProdD.dv),.agg p.dv] (.lst 4 ((cM l p).map ProdD.dv)):=by
 have c1:=xV l 250 [.ptr p.dv 0] (fun x=>decide (p.pid≤x.pid)) hs.len (fun x _=>aR1 x p)
 have hle:=aFn l p.pid
 have hl:=hs.len
 have hany:l.any (fun x=>decide (p.pid≤x.pid))=decide (eD l p.pid<l.length):=by
  rw[Bool.eq_iff_iff,decide_eq_true_eq,eD,List.findIdx_lt_length,List.any_eq_true]
 have c2:=aHk l (eD l p.pid) (eD l p.pid) p hs hp hle hle
 have c3:eD l p.pid<l.length→_:=fun h=>aHk l (eD l p.pid) (eD l p.pid+1) p hs hp hle h
 have hTh:oG l p.pid=match l[eD l p.pid]? with|some x=>x.pid == p.pid|none=>false:=rfl
 have hS:cM l p=l.take (eD l p.pid)++[p]++l.drop (if oG l p.pid then eD l p.pid+1 else eD l p.pid):=rfl
 have hpi:l.findIdx (fun x=>decide (p.pid≤x.pid))=eD l p.pid:=rfl
 rw[hany,hpi] at c1
 generalize eD l p.pid=k at *
 simp only[ProdD.dv,Int.natCast_add,Int.natCast_one] at c1 c2 c3
 (refine bF.of_body Tryz.func211 rfl rfl Tryz.ntmps211 Tryz.results211 (by simp) ?_)
 (refine gO (@ProdD.dv.eq_1) ?_)
 (refine Wp.weak (aD.freeze (id:=0) (by (refine aY ?_);rfl) (by (refine aY ?_);rfl)) ?_)
 rcases Nat.lt_or_ge k l.length with hk|hk
 ·have hd:decide (k<l.length)=true:=decide_eq_true hk
  have hge:l[k]? = some l[k]:=List.getElem?_eq_getElem hk
  have c4:=c3 hk
  rw[hge] at hTh
  generalize l[k]=x at *
  simp only at hTh
  rw[hd] at c1
  cases hq:(x.pid == p.pid) with
  | true =>
   rw[hS,hTh,hq,if_pos rfl]
   (refine gO (ai @ProdD.dv.eq_1 (ai hge (hq))) ?_)
   (refine aY ?_;try with_reducible exact tt)
  | false =>
   rw[hS,hTh,hq,if_neg (by simp)]
   (refine gO (ai @ProdD.dv.eq_1 (ai hge (hq))) ?_)
   (refine aY ?_;try with_reducible exact tt)
 ·have hd:decide (k<l.length)=false:=decide_eq_false (by omega)
  have hge:l[k]? = none:=List.getElem?_eq_none hk
  rw[hge] at hTh
  simp only at hTh
  rw[hd] at c1
  rw[hS,hTh,if_neg (by simp)]
  (refine gO (@ProdD.dv.eq_1) ?_)
  (refine aY ?_;try with_reducible exact tt)
end Go.Proofs.YtpklhnpchhaccaaGreatDoor
