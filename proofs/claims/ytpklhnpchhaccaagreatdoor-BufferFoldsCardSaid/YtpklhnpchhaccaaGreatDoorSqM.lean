/- The abstract machine (EqA, SqA, SqB, CpDp, SqC). -/
import Derived.Test.YtpklhnpchhaccaaGreatDoorApA
import Derived.Test.YtpklhnpchhaccaaGreatDoorErM
namespace Go.Proofs.YtpklhnpchhaccaaGreatDoor
open Go Go.RowKit
set_option maxHeartbeats 4000000
set_option maxRecDepth 100000
set_option linter.unusedVariables false
set_option linter.unusedSimpArgs false
theorem aU7 (f g:RowD):∃ fs,Tryz.prog.underlying 47=some (.struct fs)∧zD Tryz.prog 9999 #[.int .i64 f.off,.int .i64 f.pid,.int .i64 f.seq,.string ⟨List.toArray f.key⟩,.string ⟨List.toArray f.value⟩] #[.int .i64 g.off,.int .i64 g.pid,.int .i64 g.seq,.string ⟨List.toArray g.key⟩,.string ⟨List.toArray g.value⟩] fs.toList=some (decide (f=g)):=by
 refine⟨_,Tryz.underlying47,?_⟩
 have ii:aX Tryz.prog (isAgg 3)=some false:=by kernel_rfl
 have si:=fun x y=>aIb (d:=9998) Tryz.underlying3 .i64 x y
 simp only[Nat.reduceAdd] at si
 have is:aX Tryz.prog (isAgg 9)=some false:=by kernel_rfl
 have ss:=fun x y=>aIc (d:=9998) Tryz.underlying9 x y
 simp only[Nat.reduceAdd] at ss
 obtain⟨a1,a2,a3,a4,a5⟩:=f
 obtain⟨b1,b2,b3,b4,b5⟩:=g
 have e:decide (RowD.mk a1 a2 a3 a4 a5=RowD.mk b1 b2 b3 b4 b5)=(a1 == b1 && (a2 == b2 && (a3 == b3 && (a4 == b4 && (a5 == b5))))):=by rw[Bool.eq_iff_iff];simp only[RowD.mk.injEq,Bool.and_eq_true,beq_iff_eq,decide_eq_true_eq]
 rw[e]
 cases h1:(a1 == b1)<;>cases h2:(a2 == b2)<;>cases h3:(a3 == b3)<;>cases h4:(a4 == b4)<;>cases h5:(a5 == b5)<;>simp[zD,ii,si,is,ss,aKk,h1,h2,h3,h4,h5]
theorem zR (x y:Operand) (f g:RowD):eW Tryz.prog .eql 47 x y (.agg [.d (int f.off),.d (int f.pid),.d (int f.seq),.d (str f.key),.d (str f.value)]) (.agg [.d (int g.off),.d (int g.pid),.d (int g.seq),.d (str g.key),.d (str g.value)])=some (Res.pure (vb (decide (f=g))))∧eW Tryz.prog .neq 47 x y (.agg [.d (int f.off),.d (int f.pid),.d (int f.seq),.d (str f.key),.d (str f.value)]) (.agg [.d (int g.off),.d (int g.pid),.d (int g.seq),.d (str g.key),.d (str g.value)])=some (Res.pure (vb (!decide (f=g)))):=by
 obtain⟨fs,hu,he⟩:=aU7 f g
 exact aFc hu (by kernel_rfl) (by kernel_rfl) he
theorem bS {x y:Operand} {a b:Bool}:eW Tryz.prog .eql 4 x y (vb a) (vb b)=some (Res.pure (vb (a == b))):=by cases a<;>cases b<;>kernel_rfl
set_option maxHeartbeats 8000000
def kH (l:List SeenD):List (List D):=l.reverse.zipIdx.map fun (e,y)=>[int ((l.length:Int) - 1 - (y:Int)),.agg e.dv]
theorem uR (l:List SeenD):(kH l).length=l.length:=by simp[kH]
theorem uQ (l:List SeenD) (y:Nat) (e:SeenD) (h:l.reverse[y]? = some e) (hy:y<(kH l).length):(kH l)[y]=[int ((l.length:Int) - 1 - y),.agg e.dv]:=by
 have:(kH l)[y]? = some [int ((l.length:Int) - 1 - y),.agg e.dv]:=by simp only[kH,List.getElem?_map,List.getElem?_zipIdx,h,Option.map_some,Nat.zero_add]
 exact (List.getElem?_eq_some_iff.1 this).2
theorem aCs (l:List SeenD) (hl:l.length≤1000000):aKc Tryz.prog 256 [.ptr [.lst 3 (l.map SeenD.dv)] 0] (kH l):=by
 (refine aKc.of_body Tryz.func256 rfl rfl Tryz.ntmps256 Tryz.results256 (by simp) (fun ks A cont q hL hY=>?_))
 have hlen:=uR l
 (refine bP ?_)
 refine Wp.loop (fun y:Nat=>⟨iH [(0,.c (.yld 999)),(1,.c (.d (.ptr [.lst 3 (l.map SeenD.dv)] 0))),(3,vi .i64 ((l.length:Int) - 1 - y))],xG (A y) [],1000,19,⟨ks,[],false,some q⟩⟩) (fun y=>y≤l.length∧∀ j,j<y→cont j=true) (fun y=>l.length - y) 0 ⟨Nat.zero_le _,fun j hj=>by omega⟩ ?_ ?_
 ·refine aD.keepB (A:=A) hL 0 rfl rfl (cP _) rfl ?_
  (refine aT ?_)
  simp
 rintro y ⟨hy,hc⟩
 (refine bP ?_)
 refine Wp.cond (by (refine aT ?_);rfl) (fun h=>?_) (fun h=>?_)
 ·have hlt:y<l.length:=by simp only[decide_eq_true_eq] at h;omega
  have hi:((l.length:Int) - 1 - y).toNat=l.length - 1 - y:=by omega
  have hp:((0:Int)≤(l.length:Int) - 1 - y)=True:=by simp;omega
  have hg:l[l.length - 1 - y]? = some (l[l.length - 1 - y]'(by omega)):=List.getElem?_eq_getElem (by omega)
  have hYy:=hY y (by omega) hc
  have hrev:l.reverse[y]? = some (l[l.length - 1 - y]'(by omega)):=by rw[List.getElem?_reverse hlt,hg]
  rw[uQ l y _ hrev] at hYy
  generalize l[l.length - 1 - y]'(by omega)=e at *
  simp only[SeenD.dv] at hYy
  refine Wp.skip ?_
  refine Wp.seq ?_
  refine Wp.block ?_
  ((first|refine Wp.regY 6 rfl (fun K hK=>?_)|(refine Wp.seq ?_;refine Wp.regY 6 rfl (fun K hK=>?_)));(refine rO (ai hi (ai hp (ai hg (@SeenD.dv.eq_1)))) ?_);refine hK _ ?_;clear hK K;refine YAt.of hL rfl rfl rfl rfl hYy (by ((repeat refine (iA (by omega)).2 ?_);first|exact cP _|exact hZ rfl)) (by (refine rO (ai hi (ai hp (ai hg (@SeenD.dv.eq_1)))) ?_;try with_reducible exact tt)) (by (refine rO (ai hi (ai hp (ai hg (@SeenD.dv.eq_1)))) ?_;try with_reducible exact tt)) (by (refine rO (ai hi (ai hp (ai hg (@SeenD.dv.eq_1)))) ?_;try with_reducible exact tt)) ?_;(refine rO (ai hi (ai hp (ai hg (ai @SeenD.dv.eq_1 (hL.rb))))) ?_))
  refine Wp.cond (by (refine aT ?_);rfl) (fun h=>?_) (fun h=>?_)
  ·have hcy:cont y=false:=by simpa using h
   (refine bP ?_)
   refine⟨rfl,y+1,⟨by omega,fun j hj=>hc j (by omega),.inr ⟨by omega,hcy⟩⟩,?_⟩
   (refine aT ?_)
   exact cP _
  ·have hcy:cont y=true:=by simpa using h
   (refine bP ?_)
   refine⟨y+1,⟨by omega,fun j hj=>?_⟩,by omega,?_⟩
   ·rcases Nat.lt_or_ge j y with h1|h1
    ·exact hc j h1
    ·obtain rfl:j=y:=by omega
     exact hcy
   refine aD.keepB (A:=A) (L:=[(0,.c (.yld 999)),(1,.c (.d (.ptr [.lst 3 (l.map SeenD.dv)] 0))),(3,vi .i64 ((l.length:Int) - 1 - (y+1:Nat)))]) (M:=[]) (fx:=⟨ks,[],false,some q⟩) hL (y+1) rfl rfl (cP _) rfl ?_
   have e:(l.length:Int) - 1 - (y:Int) - 1=(l.length:Int) - 1 - ((y:Int)+1):=by omega
   (refine rO (e) ?_;try with_reducible exact tt)
 ·have hyl:y=l.length:=by simp only[decide_eq_false_iff_not] at h;omega
  subst hyl
  (refine bP ?_)
  refine⟨rfl,l.length,⟨by omega,fun j hj=>hc j (by omega),.inl ⟨by omega,hc⟩⟩,?_⟩
  (refine aT ?_)
  exact cP _
theorem aCp (l:List SeenD):aW Tryz.prog 218 [.lst 3 (l.map SeenD.dv)] (.fn (.func 256) [.ptr [.lst 3 (l.map SeenD.dv)] 0]):=by
 (refine aW.of_body Tryz.func218 rfl rfl Tryz.ntmps218 Tryz.results218 (by simp) ?_)
 (refine bP ?_)
 (refine Wp.weak (aD.freeze (id:=0) (by (refine aT ?_);rfl) (by (refine aT ?_);rfl)) ?_)
 (refine bP ?_)
 (refine aT ?_;try with_reducible exact tt)
def dN (pid epoch:Int):Bool:=decide (1≤pid) && decide (pid≤8) && decide (0≤epoch) && decide (epoch≤100)
theorem mD (pid epoch:Int):aW Tryz.prog 205 [int pid,int epoch] (dM (dN pid epoch)):=by
 (refine aW.of_body Tryz.func205 rfl rfl Tryz.ntmps205 Tryz.results205 (by simp) ?_)
 (refine bP ?_)
 (first|refine Wp.sto 4 (vb (dN pid epoch)) ?_ ?_|refine Wp.rtoS 4 (vb (dN pid epoch)) ?_ ?_|(refine Wp.seq ?_;first|refine Wp.sto 4 (vb (dN pid epoch)) ?_ ?_|refine Wp.rtoS 4 (vb (dN pid epoch)) ?_ ?_))
 ·unfold dN;((rcases Bool.eq_false_or_eq_true (decide (1≤pid)) with hL1|hL1)<;>(rcases Bool.eq_false_or_eq_true (decide (pid≤8)) with hL2|hL2)<;>(rcases Bool.eq_false_or_eq_true (decide (0≤epoch)) with hL3|hL3)<;>(rcases Bool.eq_false_or_eq_true (decide (epoch≤100)) with hL4|hL4)<;>(((refine rO (ai hL1 (ai hL2 (ai hL3 (hL4)))) ?_;try with_reducible exact tt);(repeat (refine dB (by assumption) ?_;(refine rO (ai hL1 (ai hL2 (ai hL3 (hL4)))) ?_))));all_goals (exact (show bE _ _=true by kernel_rfl))))
 (refine bP ?_)
 (refine aT ?_;try with_reducible exact tt)
theorem oD (pid epoch:Int):aW Tryz.prog 109 [int pid,int epoch] (dM (dN pid epoch)):=by
 (refine aW.of_body Tryz.func109 rfl rfl Tryz.ntmps109 Tryz.results109 (by simp) ?_)
 (refine bP ?_)
 (first|refine Wp.sto 4 (vb (dN pid epoch)) ?_ ?_|refine Wp.rtoS 4 (vb (dN pid epoch)) ?_ ?_|(refine Wp.seq ?_;first|refine Wp.sto 4 (vb (dN pid epoch)) ?_ ?_|refine Wp.rtoS 4 (vb (dN pid epoch)) ?_ ?_))
 ·unfold dN;((rcases Bool.eq_false_or_eq_true (decide (1≤pid)) with hL1|hL1)<;>(rcases Bool.eq_false_or_eq_true (decide (pid≤8)) with hL2|hL2)<;>(rcases Bool.eq_false_or_eq_true (decide (0≤epoch)) with hL3|hL3)<;>(rcases Bool.eq_false_or_eq_true (decide (epoch≤100)) with hL4|hL4)<;>(((refine rO (ai hL1 (ai hL2 (ai hL3 (hL4)))) ?_;try with_reducible exact tt);(repeat (refine dB (by assumption) ?_;(refine rO (ai hL1 (ai hL2 (ai hL3 (hL4)))) ?_))));all_goals (exact (show bE _ _=true by kernel_rfl))))
 (refine bP ?_)
 (refine aT ?_;try with_reducible exact tt)
def cC (n a b:Int):Bool:=decide (a≤n) && decide (n≤b)
theorem iM (n a b:Int):aW Tryz.prog 110 [int n,int a,int b] (dM (cC n a b)):=by
 (refine aW.of_body Tryz.func110 rfl rfl Tryz.ntmps110 Tryz.results110 (by simp) ?_)
 (refine bP ?_)
 (first|refine Wp.sto 6 (vb (cC n a b)) ?_ ?_|refine Wp.rtoS 6 (vb (cC n a b)) ?_ ?_|(refine Wp.seq ?_;first|refine Wp.sto 6 (vb (cC n a b)) ?_ ?_|refine Wp.rtoS 6 (vb (cC n a b)) ?_ ?_))
 ·unfold cC;((rcases Bool.eq_false_or_eq_true (decide (a≤n)) with hL1|hL1)<;>(rcases Bool.eq_false_or_eq_true (decide (n≤b)) with hL2|hL2)<;>(((refine rO (ai hL1 (hL2)) ?_;try with_reducible exact tt);(repeat (refine dB (by assumption) ?_;(refine rO (ai hL1 (hL2)) ?_))));all_goals (exact (show bE _ _=true by kernel_rfl))))
 (refine bP ?_)
 (refine aT ?_;try with_reducible exact tt)
theorem qB (n:Int):aW Tryz.prog 204 [int n] (dM (cC n 0 1048576)):=by
 (refine aW.of_body Tryz.func204 rfl rfl Tryz.ntmps204 Tryz.results204 (by simp) ?_)
 (refine bP ?_)
 (first|refine Wp.sto 2 (vb (cC n 0 1048576)) ?_ ?_|refine Wp.rtoS 2 (vb (cC n 0 1048576)) ?_ ?_|(refine Wp.seq ?_;first|refine Wp.sto 2 (vb (cC n 0 1048576)) ?_ ?_|refine Wp.rtoS 2 (vb (cC n 0 1048576)) ?_ ?_))
 ·unfold cC;((rcases Bool.eq_false_or_eq_true (decide (0≤n)) with hL1|hL1)<;>(rcases Bool.eq_false_or_eq_true (decide (n≤1048576)) with hL2|hL2)<;>(((refine rO (ai hL1 (hL2)) ?_;try with_reducible exact tt);(repeat (refine dB (by assumption) ?_;(refine rO (ai hL1 (hL2)) ?_))));all_goals (exact (show bE _ _=true by kernel_rfl))))
 (refine bP ?_)
 (refine aT ?_;try with_reducible exact tt)
def cW (p:ProdD):Bool:=!dN p.pid p.epoch || !cC p.next 0 1048576 || decide (3<(p.seen.length:Int))
def zY (s:SeenD):Bool:=decide (s.count<1) || decide (4<s.count) || decide (s.base < -1) || decide (1048576<s.base)
def aCt (s:SeenD) (b:Int):Bool:=decide (s.seq<0) || decide (b - s.count<s.seq)
def kB (s:SeenD) (b:Int):Bool:=zY s || aCt s b
def jR:List SeenD→Int→Bool
 | [],_=>true
 | s::l,b=>!kB s b && jR l s.seq
def kC:List SeenD→Int→Nat→Int
 | _,b,0=>b
 | [],b,_+1=>b
 | s::l,b,i+1=>if kB s b then b else kC l s.seq i
def oM (l:List SeenD) (b:Int) (i:Nat):Bool:=match l[i]? with
 | some s=>!kB s (kC l b i)
 | none=>true
theorem pN (s:SeenD) (l:List SeenD) (b:Int) (i:Nat) (h:kB s b=false):oM (s::l) b (i+1)=oM l s.seq i:=by
 simp only[oM,List.getElem?_cons_succ,kC,h,Bool.false_eq_true,if_false]
theorem pO (s:SeenD) (l:List SeenD) (b:Int):oM (s::l) b 0 = !kB s b:=by simp[oM,kC]
theorem aDn:∀ (l:List SeenD) (b:Int) (i:Nat) (s:SeenD),(∀ j,j<i→oM l b j=true)→l[i]? = some s→kC l b (i+1)=if kB s (kC l b i) then kC l b i else s.seq
 | [],b,i,s,_,h=>by simp at h
 | t::l,b,0,s,_,h=>by
  simp at h;subst h
  cases hb:kB t b<;>simp[kC,hb]
 | t::l,b,i+1,s,hc,h=>by
  have h0:=hc 0 (by omega)
  rw[pO] at h0
  have h0:kB t b=false:=by simpa using h0
  have ih:=aDn l t.seq i s (fun j hj=>by have:=hc (j+1) (by omega);rwa [pN _ _ _ _ h0] at this) (by simpa using h)
  have e1:kC (t::l) b (i+1+1)=kC l t.seq (i+1):=by rw[kC,h0];rfl
  have e2:kC (t::l) b (i+1)=kC l t.seq i:=by rw[kC,h0];rfl
  rw[e1,e2,ih]
theorem aHv:∀ (l:List SeenD) (b:Int),(∀ j,j<l.length→oM l b j=true)→jR l b=true
 | [],_,_=>rfl
 | s::l,b,hc=>by
  have h0:=hc 0 (by simp)
  rw[pO] at h0
  have h1:kB s b=false:=by simpa using h0
  rw[jR,h0,Bool.true_and]
  exact aHv l s.seq (fun j hj=>by have:=hc (j+1) (by simpa using hj);rwa [pN _ _ _ _ h1] at this)
theorem aDq:∀ (l:List SeenD) (b:Int) (i:Nat),(∀ j,j<i→oM l b j=true)→oM l b i=false→jR l b=false
 | [],b,i,_,h=>by simp[oM] at h
 | s::l,b,0,_,h=>by rw[pO] at h;rw[jR,h];rfl
 | s::l,b,i+1,hc,h=>by
  have h0:=hc 0 (by omega)
  rw[pO] at h0
  have h1:kB s b=false:=by simpa using h0
  rw[pN _ _ _ _ h1] at h
  rw[jR,aDq l s.seq i (fun j hj=>by have:=hc (j+1) (by omega);rwa [pN _ _ _ _ h1] at this) h,Bool.and_false]
theorem aHi {s:SeenD} {b:Int} (h:kB s b=false):0≤s.seq∧s.seq≤b∧1≤s.count∧s.count≤4:=by
 simp only[kB,zY,aCt,Bool.or_eq_false_iff,decide_eq_false_iff_not] at h
 omega
theorem aHk:∀ (l:List SeenD) (b:Int) (i:Nat),0≤b→b≤1048576→0≤kC l b i∧kC l b i≤1048576
 | l,b,0,h1,h2=>by cases l<;>exact⟨h1,h2⟩
 | [],b,i+1,h1,h2=>⟨h1,h2⟩
 | s::l,b,i+1,h1,h2=>by
  rw[kC]
  cases hb:kB s b with
  | true=>exact⟨h1,h2⟩
  | false =>
   have:=aHi hb
   exact aHk l s.seq i (by omega) (by omega)
def bC (p:ProdD):Bool:=!cW p && jR p.seen.reverse p.next
abbrev knM (p:ProdD) (i:Nat):List (Nat × HE):=[(0,.cells (p.dv.map .d)),(1,.cells [.d (dM false)]),(2,.cells [.d (int (kC p.seen.reverse p.next i))])]
abbrev knS (p:ProdD):St:=⟨iH [(1,.c (.own 0 0)),(2,.c (.own 1 0)),(3,.c (.own 2 0)),(28,.c (.d (.fn (.func 256) [.ptr [.lst 3 (p.seen.map SeenD.dv)] 0])))],bI (knM p 0),3,63,0⟩
theorem aE7 (p:ProdD) (hl:p.seen.length≤100000):aW Tryz.prog 173 [.agg p.dv] (dM (bC p)):=by
 have c1:=mD p.pid p.epoch
 have c2:=qB p.next
 have c3:=aCp p.seen
 (refine aW.of_body Tryz.func173 rfl rfl Tryz.ntmps173 Tryz.results173 (by simp) ?_)
 (refine gO (@ProdD.dv.eq_1) ?_)
 (first|refine Wp.sto 23 (vb (cW p)) ?_ ?_|refine Wp.rtoS 23 (vb (cW p)) ?_ ?_|(refine Wp.seq ?_;first|refine Wp.sto 23 (vb (cW p)) ?_ ?_|refine Wp.rtoS 23 (vb (cW p)) ?_ ?_))
 ·unfold cW;((rcases Bool.eq_false_or_eq_true (!dN p.pid p.epoch) with hL1|hL1)<;>(rcases Bool.eq_false_or_eq_true (!cC p.next 0 1048576) with hL2|hL2)<;>(rcases Bool.eq_false_or_eq_true (decide (3<(p.seen.length:Int))) with hL3|hL3)<;>(((refine rO (ai hL1 (ai hL2 (ai hL3 (@ProdD.dv.eq_1)))) ?_);(repeat (refine dB (by assumption) ?_;(refine rO (ai hL1 (ai hL2 (ai hL3 (@ProdD.dv.eq_1)))) ?_;try with_reducible exact tt))));all_goals (exact (show bE _ _=true by kernel_rfl))))
 refine Wp.cond (by (refine aT ?_);rfl) (fun h=>?_) (fun h=>?_)
 ·have hf:bC p=false:=by simp only[bC,h,Bool.not_true,Bool.false_and]
  (refine bP ?_)
  (refine rO (hf) ?_;try with_reducible exact tt)
 have h1:cW p=false:=h
 have hnx:0≤p.next∧p.next≤1048576:=by
  simp only[cW,cC,Bool.or_eq_false_iff,Bool.not_eq_false',Bool.and_eq_true,decide_eq_true_eq] at h1
  exact⟨h1.1.2.1,h1.1.2.2⟩
 have hkn:bC p=jR p.seen.reverse p.next:=by simp only[bC,h1,Bool.not_false,Bool.true_and]
 (refine gO (@ProdD.dv.eq_1) ?_)
 refine Wp.weak (show aD _ (knS p) from aD.keep rfl rfl ?_) ?_
 ·(refine rO (ai @knM.eq_1 (ai @ProdD.dv.eq_1 (ai @kC.eq_1 (ai @kC.eq_2 (@kC.eq_3))))) ?_;try with_reducible exact tt)
 have hsq:=aCs p.seen (by omega)
 have hbl:=uR p.seen
 refine Wp.rangeFunc (xs:=kH p.seen) rfl rfl hsq 500 (knM p) [0,1,2] (fun i=>oM p.seen.reverse p.next i) (fun _=>.ret) rfl (fun _=>rfl) rfl (fun _=>rfl) rfl (fun i id h=>by cases h) rfl (fun x hx=>by simp only[kH,List.mem_map] at hx;obtain⟨⟨r,_⟩,_,rfl⟩:=hx;rfl) ?_ ?_ ?_
 ·intro i hi hc o1
  have hi' : i<p.seen.length:=by omega
  have hg:p.seen.reverse[i]? = some (p.seen.reverse[i]'(by simpa using hi')):=List.getElem?_eq_getElem (by simpa using hi')
  rw[uQ p.seen i _ hg]
  have hbn:=aDn _ _ i _ hc hg
  have hbr:=aHk p.seen.reverse p.next i hnx.1 hnx.2
  have hct:oM p.seen.reverse p.next i = !kB (p.seen.reverse[i]'(by simpa using hi')) (kC p.seen.reverse p.next i):=by simp only[oM,hg]
  rw[hct]
  generalize p.seen.reverse[i]'(by simpa using hi')=s at *
  (refine gO (ai @knM.eq_1 (ai @SeenD.dv.eq_1 (ai @ProdD.dv.eq_1 (ai @List.cons_append.{0} (@List.nil_append.{0}))))) ?_)
  refine⟨rfl,by (refine aT ?_;try with_reducible exact tt),rfl,fun o2=>?_⟩
  (refine gO (@SeenD.dv.eq_1) ?_)
  (first|refine Wp.sto 48 (vb (zY s)) ?_ ?_|refine Wp.rtoS 48 (vb (zY s)) ?_ ?_|(refine Wp.seq ?_;first|refine Wp.sto 48 (vb (zY s)) ?_ ?_|refine Wp.rtoS 48 (vb (zY s)) ?_ ?_))
  ·unfold zY;((rcases Bool.eq_false_or_eq_true (decide (s.count<1)) with hL1|hL1)<;>(rcases Bool.eq_false_or_eq_true (decide (4<s.count)) with hL2|hL2)<;>(rcases Bool.eq_false_or_eq_true (decide (s.base < -1)) with hL3|hL3)<;>(rcases Bool.eq_false_or_eq_true (decide (1048576<s.base)) with hL4|hL4)<;>(((refine rO (ai hL1 (ai hL2 (ai hL3 (ai hL4 (@SeenD.dv.eq_1))))) ?_;try with_reducible exact tt);(repeat (refine dB (by assumption) ?_;(refine rO (ai hL1 (ai hL2 (ai hL3 (ai hL4 (@SeenD.dv.eq_1))))) ?_))));all_goals (exact (show bE _ _=true by kernel_rfl))))
  refine Wp.cond (by (refine aT ?_);rfl) (fun h=>?_) (fun h=>?_)
  ·have hb:kB s (kC p.seen.reverse p.next i)=true:=by simp only[kB,h,Bool.true_or]
   rw[hb,if_pos rfl] at hbn
   (refine bP ?_)
   refine⟨aD.keep rfl rfl ?_,.inr ⟨by rw[hb];rfl,rfl,rfl⟩⟩
   (refine rO (ai @knM.eq_1 (ai @List.cons_append.{0} (ai @List.nil_append.{0} (ai hbn (@ProdD.dv.eq_1))))) ?_;try with_reducible exact tt)
  have hb1:=h
  have hcr:1≤s.count∧s.count≤4:=by simp only[zY,Bool.or_eq_false_iff,decide_eq_false_iff_not] at h;omega
  (refine gO (@SeenD.dv.eq_1) ?_)
  (first|refine Wp.sto 60 (vb (aCt s (kC p.seen.reverse p.next i))) ?_ ?_|refine Wp.rtoS 60 (vb (aCt s (kC p.seen.reverse p.next i))) ?_ ?_|(refine Wp.seq ?_;first|refine Wp.sto 60 (vb (aCt s (kC p.seen.reverse p.next i))) ?_ ?_|refine Wp.rtoS 60 (vb (aCt s (kC p.seen.reverse p.next i))) ?_ ?_))
  ·unfold aCt;((rcases Bool.eq_false_or_eq_true (decide (s.seq<0)) with hL1|hL1)<;>(rcases Bool.eq_false_or_eq_true (decide (kC p.seen.reverse p.next i - s.count<s.seq)) with hL2|hL2)<;>(((refine rO (ai hL1 (ai hL2 (@SeenD.dv.eq_1))) ?_;try with_reducible exact tt);(repeat (refine dB (by assumption) ?_;(refine rO (ai hL1 (ai hL2 (@SeenD.dv.eq_1))) ?_))));all_goals (exact (show bE _ _=true by kernel_rfl))))
  refine Wp.cond (by (refine aT ?_);rfl) (fun h=>?_) (fun h=>?_)
  ·have hb:kB s (kC p.seen.reverse p.next i)=true:=by simp only[kB,h,Bool.or_true]
   rw[hb,if_pos rfl] at hbn
   (refine bP ?_)
   refine⟨aD.keep rfl rfl ?_,.inr ⟨by rw[hb];rfl,rfl,rfl⟩⟩
   (refine rO (ai @knM.eq_1 (ai @List.cons_append.{0} (ai @List.nil_append.{0} (ai hbn (@ProdD.dv.eq_1))))) ?_;try with_reducible exact tt)
  ·have hb:kB s (kC p.seen.reverse p.next i)=false:=by simp only[kB,hb1,h];rfl
   rw[hb,if_neg (by simp)] at hbn
   (refine gO (@SeenD.dv.eq_1) ?_)
   refine⟨aD.keep rfl rfl ?_,.inl ⟨rfl,by rw[hb];rfl⟩⟩
   (refine rO (ai @knM.eq_1 (ai @List.cons_append.{0} (ai @List.nil_append.{0} (ai hbn (@ProdD.dv.eq_1))))) ?_;try with_reducible exact tt)
 ·intro i hi hc hn
  refine⟨rfl,?_⟩
  have e1:=aDq _ _ i hc hn
  (refine rO (ai @knM.eq_1 (ai @List.cons_append.{0} (ai @List.nil_append.{0} (ai hkn (ai e1 (@ProdD.dv.eq_1)))))) ?_;try with_reducible exact tt)
 ·intro hc
  have e1:=aHv p.seen.reverse p.next (fun j hj=>hc j (by rw[hbl];simpa using hj))
  (refine gO (ai @knM.eq_1 (ai @List.cons_append.{0} (ai @List.nil_append.{0} (@ProdD.dv.eq_1)))) ?_)
  (refine rO (ai hkn (e1)) ?_;try with_reducible exact tt)
/-! forwards -/
def nR (l:List SeenD) (next:Int):Int:=match l with
 | []=>next
 | t::_=>t.seq
def pK (s:SeenD) (b:Int):Bool:=decide (s.seq<0) || !cC s.count 1 4 || !cC s.base (-1) 1048576 || decide (IntKind.i64.wrap (b - s.count)<s.seq)
def aFq:List SeenD→Int→Bool
 | [],_=>true
 | s::l,next=>!pK s (nR l next) && aFq l next
theorem aDp:∀ (l:List SeenD) (b:Int) (s:SeenD),jR (l++[s]) b=(jR l b && !kB s (match l.getLast? with|some t=>t.seq|none=>b))
 | [],b,s=>by simp[jR]
 | [t],b,s=>by simp[jR,Bool.and_assoc]
 | t::u::l,b,s=>by
  have ih:=aDp (u::l) t.seq s
  show (!kB t b && jR ((u::l)++[s]) t.seq)=((!kB t b && jR (u::l) t.seq) && _)
  rw[ih,Bool.and_assoc,List.getLast?_cons_cons]
  cases hq:(u::l).getLast? with
  | none=>simp at hq
  | some x=>rfl
theorem aHw (s:SeenD) (l:List SeenD) (next:Int):jR (s::l).reverse next=(jR l.reverse next && !kB s (nR l next)):=by
 rw[List.reverse_cons,aDp,List.getLast?_reverse]
 cases l<;>rfl
theorem aHx:∀ (l:List SeenD) (next:Int),0≤next→next≤1048576→jR l.reverse next=true→0≤nR l next∧nR l next≤1048576
 | [],next,h1,h2,_=>⟨h1,h2⟩
 | s::l,next,h1,h2,h=>by
  rw[aHw,Bool.and_eq_true] at h
  have h3:=aHx l next h1 h2 h.1
  have h4:=aHi (s:=s) (b:=nR l next) (by simpa using h.2)
  show 0≤s.seq∧s.seq≤1048576
  omega
theorem aUe {s:SeenD} {b:Int} (h1:0≤b) (h2:b≤1048576):pK s b=kB s b:=by
 rw[Bool.eq_iff_iff]
 simp only[pK,kB,zY,aCt,cC,Bool.or_eq_true,Bool.not_eq_true',Bool.and_eq_false_iff,decide_eq_true_eq,decide_eq_false_iff_not]
 by_cases hc:1≤s.count∧s.count≤4
 ·rw[bA (n:=b - s.count) ⟨by omega,by omega⟩];omega
 ·constructor<;>intro h
  ·left;omega
  ·left;left;right;omega
theorem aMs:∀ (l:List SeenD) (next:Int),0≤next→next≤1048576→aFq l next=jR l.reverse next
 | [],_,_,_=>rfl
 | s::l,next,h1,h2=>by
  rw[aHw,aFq,aMs l next h1 h2]
  cases hq:jR l.reverse next with
  | false=>simp
  | true =>
   have:=aHx l next h1 h2 hq
   rw[aUe this.1 this.2,Bool.and_true,Bool.true_and]
def uN (p:ProdD) (i:Nat):Int:=match p.seen[i+1]? with
 | some t=>t.seq
 | none=>p.next
theorem aA7:∀ (l:List SeenD) (next:Int),aFq l next=true ↔ ∀ i s,l[i]? = some s→pK s (match l[i+1]? with|some t=>t.seq|none=>next)=false
 | [],next=>by simp[aFq]
 | s::l,next=>by
  rw[aFq,Bool.and_eq_true,aA7 l next]
  constructor
  ·rintro⟨h1,h2⟩ i x hx
   cases i with
   | zero =>
    simp at hx;subst hx
    have h1:pK s (nR l next)=false:=by simpa using h1
    cases l with
    | nil=>exact h1
    | cons t l=>exact h1
   | succ i=>exact h2 i x (by simpa using hx)
  ·intro h
   refine⟨?_,fun i x hx=>h (i+1) x (by simpa using hx)⟩
   have:=h 0 s rfl
   cases l with
   | nil=>simpa [nR] using this
   | cons t l=>simpa [nR] using this
abbrev k7S (p:ProdD) (k:Nat):St:=⟨iH [(1,.c (.own 0 0)),(3,vi .i64 k)],bI [(0,.cells (p.dv.map .d))],1,75,0⟩
theorem aAr (p:ProdD) (hl:p.seen.length≤100000):aW Tryz.prog 111 [.agg p.dv] (dM (bC p)):=by
 have c1:=oD p.pid p.epoch
 have c2:=iM p.next 0 1048576
 (refine aW.of_body Tryz.func111 rfl rfl Tryz.ntmps111 Tryz.results111 (by simp) ?_)
 (refine gO (@ProdD.dv.eq_1) ?_)
 (first|refine Wp.sto 23 (vb (cW p)) ?_ ?_|refine Wp.rtoS 23 (vb (cW p)) ?_ ?_|(refine Wp.seq ?_;first|refine Wp.sto 23 (vb (cW p)) ?_ ?_|refine Wp.rtoS 23 (vb (cW p)) ?_ ?_))
 ·unfold cW;((rcases Bool.eq_false_or_eq_true (!dN p.pid p.epoch) with hL1|hL1)<;>(rcases Bool.eq_false_or_eq_true (!cC p.next 0 1048576) with hL2|hL2)<;>(rcases Bool.eq_false_or_eq_true (decide (3<(p.seen.length:Int))) with hL3|hL3)<;>(((refine rO (ai hL1 (ai hL2 (ai hL3 (@ProdD.dv.eq_1)))) ?_);(repeat (refine dB (by assumption) ?_;(refine rO (ai hL1 (ai hL2 (ai hL3 (@ProdD.dv.eq_1)))) ?_;try with_reducible exact tt))));all_goals (exact (show bE _ _=true by kernel_rfl))))
 refine Wp.cond (by (refine aT ?_);rfl) (fun h=>?_) (fun h=>?_)
 ·have hf:bC p=false:=by simp only[bC,h,Bool.not_true,Bool.false_and]
  (refine bP ?_)
  (refine rO (hf) ?_;try with_reducible exact tt)
 have h1:cW p=false:=h
 have hnx:0≤p.next∧p.next≤1048576:=by
  simp only[cW,cC,Bool.or_eq_false_iff,Bool.not_eq_false',Bool.and_eq_true,decide_eq_true_eq] at h1
  exact⟨h1.1.2.1,h1.1.2.2⟩
 have hkn:bC p=aFq p.seen p.next:=by rw[aMs _ _ hnx.1 hnx.2];simp only[bC,h1,Bool.not_false,Bool.true_and]
 (refine gO (@ProdD.dv.eq_1) ?_)
 refine Wp.loop (k7S p) (fun k=>k≤p.seen.length∧∀ j s,j<k→p.seen[j]? = some s→pK s (uN p j)=false) (fun k=>p.seen.length - k) 0 ⟨Nat.zero_le _,fun j s hj=>by omega⟩ ?_ ?_
 ·refine aD.keep rfl rfl ?_
  (refine rO (@ProdD.dv.eq_1) ?_;try with_reducible exact tt)
 rintro k ⟨hk,hall⟩
 (refine gO (@ProdD.dv.eq_1) ?_)
 refine Wp.cond (by (refine aT ?_);rfl) (fun h=>?_) (fun h=>?_)
 ·have hlt:k<p.seen.length:=by simpa using h
  have hge:p.seen[k]? = some p.seen[k]:=List.getElem?_eq_getElem hlt
  generalize p.seen[k]=s at *
  have c3:=iM s.count 1 4
  have c4:=iM s.base (-1) 1048576
  refine Wp.skip ?_
  refine Wp.seq ?_
  refine Wp.block ?_
  (refine gO (ai hge (ai @SeenD.dv.eq_1 (@ProdD.dv.eq_1))) ?_)
  have hbad:pK s (uN p k)=true→bC p=false:=fun hb=>by
   rw[hkn]
   cases hq:aFq p.seen p.next with
   | false=>rfl
   | true =>
    have:=(aA7 _ _).1 hq k s hge
    unfold uN at hb
    rw[this] at hb;cases hb
  have hgood:pK s (uN p k)=false→∀ j x,j<k+1→p.seen[j]? = some x→pK x (uN p j)=false:=fun hb j x hj hx=>by
   rcases Nat.lt_or_ge j k with h2|h2
   ·exact hall j x h2 hx
   ·obtain rfl:j=k:=by omega
    rw[hge] at hx;cases hx;exact hb
  rcases Nat.lt_or_ge (k+1) p.seen.length with hk1|hk1
  ·have hd:decide ((k:Int)+1<(p.seen.length:Int))=true:=decide_eq_true (by omega)
   have hge2:p.seen[k+1]? = some p.seen[k+1]:=List.getElem?_eq_getElem hk1
   have hb7:uN p k=p.seen[k+1].seq:=by simp only[uN,hge2]
   rw[hb7] at hbad hgood
   generalize p.seen[k+1]=u at *
   have hnn:((0:Int)≤(k:Int)+1)=True:=by simp;omega
   have htn:((k:Int)+1).toNat=k+1:=by omega
   (refine gO (ai hd (ai hge2 (ai hnn (ai htn (ai @SeenD.dv.eq_1 (@ProdD.dv.eq_1)))))) ?_)
   (first|refine Wp.sto 74 (vb (pK s u.seq)) ?_ ?_|refine Wp.rtoS 74 (vb (pK s u.seq)) ?_ ?_|(refine Wp.seq ?_;first|refine Wp.sto 74 (vb (pK s u.seq)) ?_ ?_|refine Wp.rtoS 74 (vb (pK s u.seq)) ?_ ?_))
   ·unfold pK;((rcases Bool.eq_false_or_eq_true (decide (s.seq<0)) with hL1|hL1)<;>(rcases Bool.eq_false_or_eq_true (!cC s.count 1 4) with hL2|hL2)<;>(rcases Bool.eq_false_or_eq_true (!cC s.base (-1) 1048576) with hL3|hL3)<;>(rcases Bool.eq_false_or_eq_true (decide (IntKind.i64.wrap (u.seq - s.count)<s.seq)) with hL4|hL4)<;>(((refine rO (ai hL1 (ai hL2 (ai hL3 (ai hL4 (ai @SeenD.dv.eq_1 (@ProdD.dv.eq_1)))))) ?_;try with_reducible exact tt);(repeat (refine dB (by assumption) ?_;(refine rO (ai hL1 (ai hL2 (ai hL3 (ai hL4 (ai @SeenD.dv.eq_1 (@ProdD.dv.eq_1)))))) ?_;try with_reducible exact tt))));all_goals (exact (show bE _ _=true by kernel_rfl))))
   refine Wp.cond (by (refine aT ?_);rfl) (fun h=>?_) (fun h=>?_)
   ·have hf:=hbad h
    (refine bP ?_)
    (refine rO (hf) ?_;try with_reducible exact tt)
   ·have hf:=hgood h
    (refine bP ?_)
    refine⟨k+1,⟨by omega,hf⟩,by omega,aD.keep rfl rfl ?_⟩
    (refine rO (@ProdD.dv.eq_1) ?_;try with_reducible exact tt)
  ·have hd:decide ((k:Int)+1<(p.seen.length:Int))=false:=decide_eq_false (by omega)
   have hge2:p.seen[k+1]? = none:=List.getElem?_eq_none hk1
   have hb7:uN p k=p.next:=by simp only[uN,hge2]
   rw[hb7] at hbad hgood
   (refine gO (ai hd (ai @SeenD.dv.eq_1 (@ProdD.dv.eq_1))) ?_)
   (first|refine Wp.sto 74 (vb (pK s p.next)) ?_ ?_|refine Wp.rtoS 74 (vb (pK s p.next)) ?_ ?_|(refine Wp.seq ?_;first|refine Wp.sto 74 (vb (pK s p.next)) ?_ ?_|refine Wp.rtoS 74 (vb (pK s p.next)) ?_ ?_))
   ·unfold pK;((rcases Bool.eq_false_or_eq_true (decide (s.seq<0)) with hL1|hL1)<;>(rcases Bool.eq_false_or_eq_true (!cC s.count 1 4) with hL2|hL2)<;>(rcases Bool.eq_false_or_eq_true (!cC s.base (-1) 1048576) with hL3|hL3)<;>(rcases Bool.eq_false_or_eq_true (decide (IntKind.i64.wrap (p.next - s.count)<s.seq)) with hL4|hL4)<;>(((refine rO (ai hL1 (ai hL2 (ai hL3 (ai hL4 (ai @SeenD.dv.eq_1 (@ProdD.dv.eq_1)))))) ?_;try with_reducible exact tt);(repeat (refine dB (by assumption) ?_;(refine rO (ai hL1 (ai hL2 (ai hL3 (ai hL4 (ai @SeenD.dv.eq_1 (@ProdD.dv.eq_1)))))) ?_;try with_reducible exact tt))));all_goals (exact (show bE _ _=true by kernel_rfl))))
   refine Wp.cond (by (refine aT ?_);rfl) (fun h=>?_) (fun h=>?_)
   ·have hf:=hbad h
    (refine bP ?_)
    (refine rO (hf) ?_;try with_reducible exact tt)
   ·have hf:=hgood h
    (refine bP ?_)
    refine⟨k+1,⟨by omega,hf⟩,by omega,aD.keep rfl rfl ?_⟩
    (refine rO (@ProdD.dv.eq_1) ?_;try with_reducible exact tt)
 ·have hk2:k=p.seen.length:=by simp only[decide_eq_false_iff_not] at h;omega
  have hf:aFq p.seen p.next=true:=(aA7 _ _).2 (fun i s hs=>hall i s (by have:=(List.getElem?_eq_some_iff.1 hs).1;omega) hs)
  (refine bP ?_)
  (refine rO (ai hkn (hf)) ?_;try with_reducible exact tt)
structure SmallL (l:List ProdD):Prop where
 len:l.length≤100000
 seen:∀ p ∈ l,p.seen.length≤100000
def lI:List ProdD→Int→Bool
 | [],_=>true
 | p::l,last=>!(decide (p.pid≤last) || !bC p) && lI l p.pid
def iQ (l:List ProdD):Bool:=lI l 0
def iE (l:List ProdD):Nat→Int
 | 0=>0
 | k+1=>match l[k]? with
  | some p=>p.pid
  | none=>0
theorem aJ0:∀ (l:List ProdD) (b:Int),lI l b=true ↔ ∀ k p,l[k]? = some p→(decide (p.pid≤match k with|0=>b|k+1=>match l[k]? with|some q=>q.pid|none=>0) || !bC p)=false
 | [],b=>by simp[lI]
 | p::l,b=>by
  rw[lI,Bool.and_eq_true,aJ0 l p.pid]
  constructor
  ·rintro⟨h1,h2⟩ k q hq
   cases k with
   | zero=>simp at hq;subst hq;simpa using h1
   | succ k =>
    have:=h2 k q (by simpa using hq)
    cases k with
    | zero=>exact this
    | succ k=>exact this
  ·intro h
   refine⟨by have:=h 0 p rfl;simpa using this,fun k q hq=>?_⟩
   have:=h (k+1) q (by simpa using hq)
   cases k with
   | zero=>exact this
   | succ k=>exact this
theorem rK (l:List ProdD):iQ l=true ↔ ∀ k p,l[k]? = some p→(decide (p.pid≤iE l k) || !bC p)=false:=by
 rw[iQ,aJ0]
 constructor<;>intro h k p hp<;>have:=h k p hp<;>cases k<;>exact this
theorem aVf (l:List ProdD) (hs:SmallL l):aW Tryz.prog 232 [.lst 4 (l.map ProdD.dv)] (dM (iQ l)):=by
 have hsl:=hs.len
 (refine aW.of_body Tryz.func232 rfl rfl Tryz.ntmps232 Tryz.results232 (by simp) ?_)
 (refine bP ?_)
 refine Wp.loop (fun k:Nat=>⟨iH [(3,vi .i64 (iE l k)),(6,.c (.d (.lst 4 (l.map ProdD.dv)))),(7,vi .i64 l.length),(8,vi .i64 k)],bI [],0,24,0⟩) (fun k=>k≤l.length∧∀ j p,j<k→l[j]? = some p→(decide (p.pid≤iE l j) || !bC p)=false) (fun k=>l.length - k) 0 ⟨Nat.zero_le _,fun j p hj=>by omega⟩ ?_ ?_
 ·refine aD.keep rfl rfl ?_
  (refine rO (ai @iE.eq_1 (@iE.eq_2)) ?_;try with_reducible exact tt)
 rintro k ⟨hk,hall⟩
 (refine bP ?_)
 refine Wp.cond (by (refine aT ?_);rfl) (fun h=>?_) (fun h=>?_)
 ·have hlt:k<l.length:=by simpa using h
  have hge:l[k]? = some l[k]:=List.getElem?_eq_getElem hlt
  have c1:=aE7 l[k] (hs.seen _ (List.getElem_mem hlt))
  have hln:iE l (k+1)=l[k].pid:=by simp only[iE,hge]
  generalize l[k]=p at *
  simp only[ProdD.dv] at c1
  (refine gO (ai hge (@ProdD.dv.eq_1)) ?_)
  (first|refine Wp.sto 20 (vb (decide (p.pid≤iE l k) || !bC p)) ?_ ?_|refine Wp.rtoS 20 (vb (decide (p.pid≤iE l k) || !bC p)) ?_ ?_|(refine Wp.seq ?_;first|refine Wp.sto 20 (vb (decide (p.pid≤iE l k) || !bC p)) ?_ ?_|refine Wp.rtoS 20 (vb (decide (p.pid≤iE l k) || !bC p)) ?_ ?_))
  ·((rcases Bool.eq_false_or_eq_true (decide (p.pid≤iE l k)) with hL1|hL1)<;>(rcases Bool.eq_false_or_eq_true (!bC p) with hL2|hL2)<;>(((refine rO (ai hL1 (ai hL2 (@ProdD.dv.eq_1))) ?_;try with_reducible exact tt);(repeat (refine dB (by assumption) ?_;(refine rO (ai hL1 (ai hL2 (@ProdD.dv.eq_1))) ?_;try with_reducible exact tt))));all_goals (exact (show bE _ _=true by kernel_rfl))))
  refine Wp.cond (by (refine aT ?_);rfl) (fun h=>?_) (fun h=>?_)
  ·have hf:iQ l=false:=by
    cases hq:iQ l with
    | false=>rfl
    | true=>have:=(rK l).1 hq k p hge;rw[this] at h;cases h
   (refine bP ?_)
   (refine rO (hf) ?_;try with_reducible exact tt)
  ·have h5:=h
   (refine gO (@ProdD.dv.eq_1) ?_)
   refine⟨k+1,⟨by omega,fun j x hj hx=>?_⟩,by omega,aD.keep rfl rfl ?_⟩
   ·rcases Nat.lt_or_ge j k with h2|h2
    ·exact hall j x h2 hx
    ·obtain rfl:j=k:=by omega
     rw[hge] at hx;cases hx;exact h5
   (refine rO (hln) ?_;try with_reducible exact tt)
 ·have hf:iQ l=true:=(rK l).2 (fun j p hp=>hall j p (by have:=(List.getElem?_eq_some_iff.1 hp).1;simp only[decide_eq_false_iff_not] at h;omega) hp)
  (refine bP ?_)
  (refine rO (hf) ?_;try with_reducible exact tt)
theorem wR (l:List ProdD) (f:Nat) (caps:List D) (pr:ProdD→Bool) (hl:l.length≤100000) (hf:∀ x ∈ l,aW Tryz.prog f (.agg x.dv::caps) (dM (pr x))) :
  aW Tryz.prog 245 [.lst 4 (l.map ProdD.dv),.fn (.func f) caps] (.tup [int (l.findIdx pr:Nat),dM (l.any pr)]):=by
 (refine aW.of_body Tryz.func245 rfl rfl Tryz.ntmps245 Tryz.results245 (by simp) ?_)
 (refine bP ?_)
 refine Wp.loop (fun k:Nat=>⟨iH [(0,.c (.d (.lst 4 (l.map ProdD.dv)))),(1,.c (.d (.fn (.func f) caps))),(8,.c (.d (.lst 4 (l.map ProdD.dv)))),(9,vi .i64 l.length),(10,vi .i64 k)],bI [],0,22,0⟩) (fun k=>k≤l.length∧(l.take k).any pr=false) (fun k=>l.length - k) 0 ⟨Nat.zero_le _,rfl⟩ ?_ ?_
 ·refine aD.keep rfl rfl ?_
  (refine aT ?_;try with_reducible exact tt)
 rintro k ⟨hk,hall⟩
 (refine bP ?_)
 refine Wp.cond (by (refine aT ?_);rfl) (fun h=>?_) (fun h=>?_)
 ·have hlt:k<l.length:=by simpa using h
  have c1:=hf l[k] (List.getElem_mem hlt)
  have hs:=gV pr l k hlt
  have hix:pr l[k]=true→l.findIdx pr=k:=fun hp=>by
   rw[List.findIdx_eq hlt]
   refine⟨hp,fun j hj=>?_⟩
   have:=List.any_eq_false.1 hall (l[j]) (by rw[List.mem_take_iff_getElem];exact⟨j,by omega,rfl⟩)
   simpa using this
  have han:pr l[k]=true→l.any pr=true:=fun hp=>List.any_eq_true.2 ⟨l[k],List.getElem_mem hlt,hp⟩
  have hge:l[k]? = some l[k]:=List.getElem?_eq_getElem hlt
  generalize l[k]=p at *
  simp only[ProdD.dv] at c1
  (refine gO (ai hge (@ProdD.dv.eq_1)) ?_)
  refine Wp.cond (by (refine aT ?_);rfl) (fun h=>?_) (fun h=>?_)
  ·have h1:=hix h
   have h2:=han h
   (refine bP ?_)
   (refine rO (ai h1 (h2)) ?_;try with_reducible exact tt)
  ·(refine bP ?_)
   refine⟨k+1,⟨by omega,by rw[hs,hall,h];rfl⟩,by omega,aD.keep rfl rfl ?_⟩
   (refine aT ?_;try with_reducible exact tt)
 ·have hall:l.any pr=false:=by
   rw[List.take_of_length_le (by simp only[decide_eq_false_iff_not] at h;omega)] at hall;exact hall
  have hix:l.findIdx pr=l.length:=List.findIdx_eq_length.2 (fun x hx=>by have:=List.any_eq_false.1 hall x hx;simpa using this)
  (refine bP ?_)
  (refine rO (ai hall (hix)) ?_;try with_reducible exact tt)
theorem aA9 (xs:List (List D)) (hl:xs.length≤1000000):pH Tryz.prog 276 [.lst 3 xs] 108 3 xs:=by
 cases xs with
 | nil =>
  refine pH.of_nil (fun a c=>?_)
  (refine pH.of_body Tryz.func276 rfl rfl Tryz.ntmps276 Tryz.results276 (by simp) ?_)
  cases a with
  | none =>
   (repeat (first|refine Wp.skip ?_|refine Wp.exit ?_|refine Wp.ret ?_|refine Wp.block ?_|refine Wp.label ?_|((first|(first|refine Wp.sreg (fun K hK=>?_)|refine Wp.reg (fun K hK=>?_)|refine Wp.sdrw aI (fun K hK=>?_)|refine Wp.drw aI (fun K hK=>?_))|refine Wp.condG (fun K hT hF=>?_));(refine rO (ai @Option.isNone_none.{0} (@Option.isNone_some.{0})) ?_);(first|(refine hK _ ?_;clear hK K)|(refine⟨by kernel_rfl,hK _ ?_⟩;clear hK K)|(refine hT ?_;clear hT hF K)|(refine hF ?_;clear hT hF K)))|refine Wp.seq ?_))
   (refine aT ?_;try with_reducible exact tt)
  | some ad =>
   (repeat (first|refine Wp.skip ?_|refine Wp.exit ?_|refine Wp.ret ?_|refine Wp.block ?_|refine Wp.label ?_|((first|(first|refine Wp.sreg (fun K hK=>?_)|refine Wp.reg (fun K hK=>?_)|refine Wp.sdrw aI (fun K hK=>?_)|refine Wp.drw aI (fun K hK=>?_))|refine Wp.condG (fun K hT hF=>?_));(refine rO (ai @Option.isNone_none.{0} (@Option.isNone_some.{0})) ?_);(first|(refine hK _ ?_;clear hK K)|(refine⟨by kernel_rfl,hK _ ?_⟩;clear hK K)|(refine hT ?_;clear hT hF K)|(refine hF ?_;clear hT hF K)))|refine Wp.seq ?_))
   (refine aT ?_)
   exact .inl ⟨0,rfl,rfl⟩
 | cons f fs =>
  have hb:(fs.length+1)*24≤140737488355328:=by simp at hl;omega
  (refine pH.of_body Tryz.func276 rfl rfl Tryz.ntmps276 Tryz.results276 (by simp) ?_)
  (repeat (first|refine Wp.skip ?_|refine Wp.exit ?_|refine Wp.ret ?_|refine Wp.block ?_|refine Wp.label ?_|((first|(first|refine Wp.sreg (fun K hK=>?_)|refine Wp.reg (fun K hK=>?_)|refine Wp.sdrw aI (fun K hK=>?_)|refine Wp.drw aI (fun K hK=>?_))|refine Wp.condG (fun K hT hF=>?_));(refine rO (hb) ?_);(first|(refine hK _ ?_;clear hK K)|(refine⟨by kernel_rfl,hK _ ?_⟩;clear hK K)|(refine hT ?_;clear hT hF K)|(refine hF ?_;clear hT hF K)))|refine Wp.seq ?_))
  (refine aT ?_)
  exact .inl ⟨0,rfl,rfl⟩
theorem pQ (p:ProdD) (hl:p.seen.length≤100000):aW Tryz.prog 249 [.agg p.dv] (.agg p.dv):=by
 have c1:=(aA9 (p.seen.map SeenD.dv) (by simp;omega)).fun
 (refine aW.of_body Tryz.func249 rfl rfl Tryz.ntmps249 Tryz.results249 (by simp) ?_)
 (refine gO (@ProdD.dv.eq_1) ?_)
 (refine rO (@ProdD.dv.eq_1) ?_;try with_reducible exact tt)
abbrev pzD:ProdD:=⟨0,0,0,[]⟩
theorem aWl:lU (.agg [int 0,int 0,int 0,oC]) (.agg pzD.dv):=lU.agg (.cons (.refl _) (.cons (.refl _) (.cons (.refl _) (.cons (.nil 3) .nil))))
def bB (l:List ProdD) (pid:Int):ProdD × Bool:=match l.find? (fun p=>p.pid == pid) with
 | some p=>(p,true)
 | none=>(pzD,false)
theorem pT {α:Type} (pr:α→Bool):∀ (l:List α),l.any pr=true→l[l.findIdx pr]? = l.find? pr
 | [],h=>by simp at h
 | a::l,h=>by
  rw[List.findIdx_cons,List.find?_cons]
  cases hp:pr a with
  | true=>simp
  | false =>
   simp only[List.any_cons,hp,Bool.false_or] at h
   simpa using pT pr l h
theorem aIj (p:ProdD) (pid:Int):aW Tryz.prog 248 [.agg p.dv,.ptr [int pid] 0] (dM (p.pid == pid)):=by
 (refine aW.of_body Tryz.func248 rfl rfl Tryz.ntmps248 Tryz.results248 (by simp) ?_)
 (refine gO (@ProdD.dv.eq_1) ?_)
 (refine aT ?_;try with_reducible exact tt)
theorem aAj (l:List ProdD) (pid:Int) (hs:SmallL l):aW Tryz.prog 210 [.lst 4 (l.map ProdD.dv),int pid] (.tup [.agg (bB l pid).1.dv,dM (bB l pid).2]):=by
 have c1:=wR l 248 [.ptr [int pid] 0] (fun p=>p.pid == pid) hs.len (fun x _=>aIj x pid)
 (refine aW.of_bodyW Tryz.func210 rfl rfl Tryz.ntmps210 Tryz.results210 (by simp) ?_)
 (refine bP ?_)
 (refine Wp.weak (aD.freeze (id:=0) (by (refine aT ?_);rfl) (by (refine aT ?_);rfl)) ?_)
 cases ha:l.any (fun p=>p.pid == pid) with
 | false =>
  have hn:l.find? (fun p=>p.pid == pid)=none:=List.find?_eq_none.2 (fun x hx=>by simpa using List.any_eq_false.1 ha x hx)
  have e1:bB l pid=(pzD,false):=by simp only[bB,hn]
  rw[ha] at c1
  rw[e1]
  (refine bP ?_)
  (refine aT ?_)
  exact⟨_,rfl,lU.tup (.cons aWl (.cons (.refl _) .nil))⟩
 | true =>
  rw[ha] at c1
  have hfi:=pT _ l ha
  obtain⟨x,hx,hpx⟩:=List.any_eq_true.1 ha
  cases hq:l.find? (fun p=>p.pid == pid) with
  | none=>have:=List.find?_eq_none.1 hq x hx;exact absurd hpx this
  | some p =>
   have e1:bB l pid=(p,true):=by simp only[bB,hq]
   rw[hq] at hfi
   have c2:=pQ p (hs.seen p (List.mem_of_getElem? hfi))
   rw[e1]
   generalize l.findIdx (fun p=>p.pid == pid)=k at *
   simp only[ProdD.dv] at c2
   (refine gO (ai hfi (@ProdD.dv.eq_1)) ?_)
   (refine rO (@ProdD.dv.eq_1) ?_)
   exact⟨_,rfl,fun K v h=>h⟩
theorem aQn (f g:SeenD):∃ fs,Tryz.prog.underlying 108=some (.struct fs)∧zD Tryz.prog 9999 #[.int .i64 f.seq,.int .i64 f.count,.int .i64 f.base] #[.int .i64 g.seq,.int .i64 g.count,.int .i64 g.base] fs.toList=some (decide (f=g)):=by
 refine⟨_,Tryz.underlying108,?_⟩
 have ii:aX Tryz.prog (isAgg 3)=some false:=by kernel_rfl
 have si:=fun x y=>aIb (d:=9998) Tryz.underlying3 .i64 x y
 simp only[Nat.reduceAdd] at si
 obtain⟨a1,a2,a3⟩:=f
 obtain⟨b1,b2,b3⟩:=g
 have e:decide (SeenD.mk a1 a2 a3=SeenD.mk b1 b2 b3)=(a1 == b1 && (a2 == b2 && (a3 == b3))):=by rw[Bool.eq_iff_iff];simp only[SeenD.mk.injEq,Bool.and_eq_true,beq_iff_eq,decide_eq_true_eq]
 rw[e]
 cases h1:(a1 == b1)<;>cases h2:(a2 == b2)<;>cases h3:(a3 == b3)<;>simp[zD,ii,si,aKk,h1,h2,h3]
theorem aDg (x y:Operand) (f g:SeenD):eW Tryz.prog .eql 108 x y (.agg [.d (int f.seq),.d (int f.count),.d (int f.base)]) (.agg [.d (int g.seq),.d (int g.count),.d (int g.base)])=some (Res.pure (vb (decide (f=g))))∧eW Tryz.prog .neq 108 x y (.agg [.d (int f.seq),.d (int f.count),.d (int f.base)]) (.agg [.d (int g.seq),.d (int g.count),.d (int g.base)])=some (Res.pure (vb (!decide (f=g)))):=by
 obtain⟨fs,hu,he⟩:=aQn f g
 exact aFc hu (by kernel_rfl) (by kernel_rfl) he
def tW (a b:ProdD):Bool:=a.pid != b.pid || a.epoch != b.epoch || a.next != b.next || (a.seen.length:Int) != (b.seen.length:Int)
theorem vZ (a b:ProdD) (hl:a.seen.length<2 ^ 40):aW Tryz.prog 68 [.agg a.dv,.agg b.dv] (dM (decide (a=b))):=by
 (refine aW.of_body Tryz.func68 rfl rfl Tryz.ntmps68 Tryz.results68 (by simp) ?_)
 (refine gO (@ProdD.dv.eq_1) ?_)
 (first|refine Wp.sto 33 (vb (tW a b)) ?_ ?_|refine Wp.rtoS 33 (vb (tW a b)) ?_ ?_|(refine Wp.seq ?_;first|refine Wp.sto 33 (vb (tW a b)) ?_ ?_|refine Wp.rtoS 33 (vb (tW a b)) ?_ ?_))
 ·unfold tW;((rcases Bool.eq_false_or_eq_true (a.pid != b.pid) with hL1|hL1)<;>(rcases Bool.eq_false_or_eq_true (a.epoch != b.epoch) with hL2|hL2)<;>(rcases Bool.eq_false_or_eq_true (a.next != b.next) with hL3|hL3)<;>(rcases Bool.eq_false_or_eq_true ((a.seen.length:Int) != (b.seen.length:Int)) with hL4|hL4)<;>(((refine rO (ai hL1 (ai hL2 (ai hL3 (ai hL4 (@ProdD.dv.eq_1))))) ?_;try with_reducible exact tt);(repeat (refine dB (by assumption) ?_;(refine rO (ai hL1 (ai hL2 (ai hL3 (ai hL4 (@ProdD.dv.eq_1))))) ?_))));all_goals (exact (show bE _ _=true by kernel_rfl))))
 refine Wp.cond (by (refine aT ?_);rfl) (fun h=>?_) (fun h=>?_)
 ·have hf:decide (a=b)=false:=by
   refine decide_eq_false (fun e=>?_)
   subst e
   simp[tW] at h
  (refine bP ?_)
  (refine rO (hf) ?_;try with_reducible exact tt)
 simp only[tW,Bool.or_eq_false_iff,bne_eq_false_iff_eq] at h
 obtain⟨⟨⟨h1,h2⟩,h3⟩,h5⟩:=h
 have hlen:a.seen.length=b.seen.length:=by omega
 (refine gO (@ProdD.dv.eq_1) ?_)
 refine Wp.loop (fun k:Nat=>⟨iH [(2,.c (.own 0 0)),(3,.c (.own 1 0)),(5,vi .i64 k)],bI [(0,.cells (a.dv.map .d)),(1,.cells (b.dv.map .d))],2,52,0⟩) (fun k=>k≤a.seen.length∧a.seen.take k=b.seen.take k) (fun k=>a.seen.length - k) 0 ⟨Nat.zero_le _,rfl⟩ ?_ ?_
 ·refine aD.keep rfl rfl ?_
  (refine rO (@ProdD.dv.eq_1) ?_;try with_reducible exact tt)
 rintro k ⟨hk,hall⟩
 (refine gO (@ProdD.dv.eq_1) ?_)
 refine Wp.cond (by (refine aT ?_);rfl) (fun h=>?_) (fun h=>?_)
 ·have hlt:k<a.seen.length:=by simpa using h
  have hlt2:k<b.seen.length:=by omega
  have g1:a.seen[k]? = some a.seen[k]:=List.getElem?_eq_getElem hlt
  have g2:b.seen[k]? = some b.seen[k]:=List.getElem?_eq_getElem hlt2
  have t1:=aV a.seen k hlt
  have t2:=aV b.seen k hlt2
  have hne:a.seen[k]≠b.seen[k]→¬ a=b:=fun hx e=>by subst e;exact hx rfl
  generalize a.seen[k]=x at *
  generalize b.seen[k]=y at *
  (refine gO (ai g1 (ai g2 (ai @SeenD.dv.eq_1 (@aDg)))) ?_)
  refine Wp.cond (by (refine aT ?_);rfl) (fun h=>?_) (fun h=>?_)
  ·have hf:decide (a=b)=false:=decide_eq_false (hne (by simpa using h))
   (refine bP ?_)
   (refine rO (hf) ?_;try with_reducible exact tt)
  ·simp only[Bool.not_eq_false',decide_eq_true_eq] at h
   (refine bP ?_)
   refine⟨k+1,⟨by omega,by rw[t1,t2,hall,h]⟩,by omega,aD.keep rfl rfl ?_⟩
   (refine rO (@ProdD.dv.eq_1) ?_;try with_reducible exact tt)
 ·have hk:k=a.seen.length:=by simp only[decide_eq_false_iff_not] at h;omega
  have hf:decide (a=b)=true:=by
   rw[List.take_of_length_le (by omega),List.take_of_length_le (by omega)] at hall
   obtain⟨a1,a2,a3,a4⟩:=a
   obtain⟨b1,b2,b3,b4⟩:=b
   simp only at h1 h2 h3 hall
   subst h1 h2 h3 hall
   simp
  (refine bP ?_)
  (refine rO (hf) ?_;try with_reducible exact tt)
abbrev ptS (l:List ProdD) (a b:Nat) (p:ProdD) (k:Nat):St:=⟨iH [(0,.c (.d (.lst 4 (l.map ProdD.dv)))),(2,vi .i64 b),(7,.c (.own 0 0)),(9,.c (.app 1 4 (((l.take a).take k).map ProdD.dv))),(20,.c (.d (.lst 4 ((l.map ProdD.dv).take a)))),(21,vi .i64 a),(22,vi .i64 k)],bI [(0,.cells (p.dv.map .d)),(1,.row 69 4 k)],2,52,0⟩
abbrev bB5 (l:List ProdD) (a b:Nat) (p:ProdD) (k:Nat):St:=⟨iH [(9,.c (.app 1 4 ((l.take a++[p]++(l.drop b).take k).map ProdD.dv))),(39,.c (.d (.lst 4 ((l.map ProdD.dv).drop b)))),(40,vi .i64 (l.length - b:Nat)),(41,vi .i64 k)],bI [(1,.row 69 4 (a+1+k))],2,52,0⟩
theorem aGi (l:List ProdD) (a b:Nat) (p:ProdD) (hs:SmallL l) (hp:p.seen.length≤100000) (ha:a≤l.length) (hb:b≤l.length) :
  aW Tryz.prog 247 [.lst 4 (l.map ProdD.dv),int a,int b,.agg p.dv] (.lst 4 ((l.take a++[p]++l.drop b).map ProdD.dv)):=by
 have hl:=hs.len
 have c0:=pQ p hp
 simp only[ProdD.dv] at c0
 have hb0:48*(l.length+1)≤140737488355328:=by omega
 have htn:((l.length:Int)+1).toNat=l.length+1:=by omega
 have hnn:((0:Int)≤(l.length:Int)+1)=True:=by simp;omega
 have hta:((l.map ProdD.dv).take a).length=a:=by rw[List.length_take,List.length_map];omega
 (refine aW.of_body Tryz.func247 rfl rfl Tryz.ntmps247 Tryz.results247 (by simp) ?_)
 (refine gO (ai @ProdD.dv.eq_1 (ai hb0 (ai htn (ai hnn (ai ha (hta)))))) ?_)
 refine Wp.loop (ptS l a b p) (fun k=>k≤a) (fun k=>a - k) 0 (Nat.zero_le _) ?_ ?_
 ·refine aD.keep rfl rfl ?_
  (refine rO (ai @ProdD.dv.eq_1 (ai @List.take_zero.{0} (@List.map_nil.{0,0}))) ?_;try with_reducible exact tt)
 ·intro k hk
  (refine bP ?_)
  refine Wp.cond (by (refine aT ?_);rfl) (fun h=>?_) (fun h=>?_)
  ·have hlt:k<(l.take a).length:=by rw[List.length_take];simp only[decide_eq_true_eq] at h;omega
   have hge:(l.take a)[k]? = some (l.take a)[k]:=List.getElem?_eq_getElem hlt
   have hm:(l.take a)[k] ∈ l:=List.mem_of_mem_take (List.getElem_mem hlt)
   have htk:=aV (l.take a) k hlt
   have htl:((l.take a).take k).length=k:=by rw[List.length_take];omega
   have hbb:(k+1)*48≤140737488355328:=by rw[List.length_take] at hlt;omega
   have hka:k+1≤a:=by simp only[decide_eq_true_eq] at h;omega
   have c1:=pQ (l.take a)[k] (hs.seen _ hm)
   have hge2:((l.map ProdD.dv).take a)[k]? = some (l.take a)[k].dv:=by rw[← List.map_take,List.getElem?_map,hge];rfl
   generalize (l.take a)[k]=q at *
   simp only[ProdD.dv] at c1 hge2
   (refine gO (ai hge2 (ai @ProdD.dv.eq_1 (ai htl (hbb)))) ?_)
   refine⟨k+1,hka,by omega,aD.keep rfl rfl ?_⟩
   (refine rO (ai @ProdD.dv.eq_1 (ai htk (@List.map_append.{0,0}))) ?_;try with_reducible exact tt)
  ·have hk2:k=a:=by simp only[decide_eq_false_iff_not] at h;omega
   subst hk2
   have htl:(l.take k).length=k:=by rw[List.length_take];omega
   have htt:(l.take k).take k=l.take k:=by rw[List.take_take,Nat.min_self]
   have hbb:(k+1)*48≤140737488355328:=by omega
   have hdl:((l.map ProdD.dv).drop b).take (l.length - b)=(l.map ProdD.dv).drop b:=List.take_of_length_le (by simp)
   have hdl2:((l.map ProdD.dv).drop b).length=l.length - b:=by rw[List.length_drop,List.length_map]
   (refine gO (ai @ProdD.dv.eq_1 (ai htt (ai htl (ai hbb (ai hb (ai hdl (hdl2))))))) ?_)
   refine Wp.loop (bB5 l k b p) (fun j=>j≤l.length - b) (fun j=>l.length - b - j) 0 (Nat.zero_le _) ?_ ?_
   ·refine aD.keep rfl rfl ?_
    (refine rO (ai @ProdD.dv.eq_1 (ai @List.map_append.{0,0} (ai @List.map_cons.{0,0} (ai @List.map_nil.{0,0} (ai @List.take_zero.{0} (ai @List.append_nil.{0} (@Nat.add_zero))))))) ?_;try with_reducible exact tt)
   intro j hj
   have hdb:(l.drop b).length=l.length - b:=List.length_drop
   (refine bP ?_)
   refine Wp.cond (by (refine aT ?_);rfl) (fun h=>?_) (fun h=>?_)
   ·have hlt:j<(l.drop b).length:=by rw[hdb];simp only[decide_eq_true_eq] at h;omega
    have hge:(l.drop b)[j]? = some (l.drop b)[j]:=List.getElem?_eq_getElem hlt
    have hm:(l.drop b)[j] ∈ l:=List.mem_of_mem_drop (List.getElem_mem hlt)
    have htk:=aV (l.drop b) j hlt
    have htl2:(l.take k++[p]++(l.drop b).take j).length=k+1+j:=by simp only[List.length_append,List.length_take,List.length_singleton];omega
    have hjb:j+1≤l.length - b:=by rw[hdb] at hlt;exact hlt
    have hbb2:(k+1+j+1)*48≤140737488355328:=by
     have h5:k+1+j+1≤300000:=by clear hbb hb0 hnn htn hta htl htt hdl hdl2 htl2;omega
     exact Nat.le_trans (Nat.mul_le_mul_right 48 h5) (by decide)
    have c1:=pQ (l.drop b)[j] (hs.seen _ hm)
    have hge2:((l.map ProdD.dv).drop b)[j]? = some (l.drop b)[j].dv:=by rw[← List.map_drop,List.getElem?_map,hge];rfl
    generalize (l.drop b)[j]=q at *
    simp only[ProdD.dv] at c1 hge2
    (refine gO (ai hge2 (ai @ProdD.dv.eq_1 (ai htl2 (hbb2)))) ?_)
    refine⟨j+1,hjb,by omega,aD.keep rfl rfl ?_⟩
    (refine rO (ai @ProdD.dv.eq_1 (ai htk (ai @List.map_append.{0,0} (ai @List.map_cons.{0,0} (ai @List.map_nil.{0,0} (ai @List.append_assoc.{0} (@Nat.add_assoc))))))) ?_;try with_reducible exact tt)
   ·have hj2:j=l.length - b:=by simp only[decide_eq_false_iff_not] at h;omega
    have htt2:(l.drop b).take j=l.drop b:=List.take_of_length_le (by omega)
    (refine gO (htt2) ?_)
    (refine rO (htt2) ?_;try with_reducible exact tt)
def cF (l:List ProdD) (pid:Int):Nat:=l.findIdx (fun x=>decide (pid≤x.pid))
def gB (l:List ProdD) (pid:Int):Bool:=match l[cF l pid]? with
 | some x=>x.pid == pid
 | none=>false
def dV (l:List ProdD) (p:ProdD):List ProdD:=l.take (cF l p.pid)++[p]++l.drop (if gB l p.pid then cF l p.pid+1 else cF l p.pid)
theorem xI (l:List ProdD) (pid:Int):cF l pid≤l.length:=List.findIdx_le_length
theorem aQi {l:List ProdD} {pid:Int} (h:gB l pid=true):cF l pid<l.length:=by
 unfold gB at h
 cases hq:l[cF l pid]? with
 | none=>rw[hq] at h;cases h
 | some x=>exact (List.getElem?_eq_some_iff.1 hq).1
theorem aQ6 (x p:ProdD):aW Tryz.prog 250 [.agg x.dv,.ptr p.dv 0] (dM (decide (p.pid≤x.pid))):=by
 (refine aW.of_body Tryz.func250 rfl rfl Tryz.ntmps250 Tryz.results250 (by simp) ?_)
 (refine gO (@ProdD.dv.eq_1) ?_)
 (refine aT ?_;try with_reducible exact tt)
theorem aGs (l:List ProdD) (p:ProdD) (hs:SmallL l) (hp:p.seen.length≤100000):aW Tryz.prog 211 [.lst 4 (l.map ProdD.dv),.agg p.dv] (.lst 4 ((dV l p).map ProdD.dv)):=by
 have c1:=wR l 250 [.ptr p.dv 0] (fun x=>decide (p.pid≤x.pid)) hs.len (fun x _=>aQ6 x p)
 have hle:=xI l p.pid
 have hl:=hs.len
 have hany:l.any (fun x=>decide (p.pid≤x.pid))=decide (cF l p.pid<l.length):=by
  rw[Bool.eq_iff_iff,decide_eq_true_eq,cF,List.findIdx_lt_length,List.any_eq_true]
 have c2:=aGi l (cF l p.pid) (cF l p.pid) p hs hp hle hle
 have c3:cF l p.pid<l.length→_:=fun h=>aGi l (cF l p.pid) (cF l p.pid+1) p hs hp hle h
 have hTh:gB l p.pid=match l[cF l p.pid]? with|some x=>x.pid == p.pid|none=>false:=rfl
 have hS:dV l p=l.take (cF l p.pid)++[p]++l.drop (if gB l p.pid then cF l p.pid+1 else cF l p.pid):=rfl
 have hpi:l.findIdx (fun x=>decide (p.pid≤x.pid))=cF l p.pid:=rfl
 rw[hany,hpi] at c1
 generalize cF l p.pid=k at *
 simp only[ProdD.dv,Int.natCast_add,Int.natCast_one] at c1 c2 c3
 (refine aW.of_body Tryz.func211 rfl rfl Tryz.ntmps211 Tryz.results211 (by simp) ?_)
 (refine gO (@ProdD.dv.eq_1) ?_)
 (refine Wp.weak (aD.freeze (id:=0) (by (refine aT ?_);rfl) (by (refine aT ?_);rfl)) ?_)
 rcases Nat.lt_or_ge k l.length with hk|hk
 ·have hd:decide (k<l.length)=true:=decide_eq_true hk
  have hge:l[k]? = some l[k]:=List.getElem?_eq_getElem hk
  have c4:=c3 hk
  rw[hge] at hTh
  generalize l[k]=x at *
  simp only at hTh
  rw[hd] at c1
  cases hq:(x.pid == p.pid) with
  | true =>
   rw[hS,hTh,hq,if_pos rfl]
   (refine gO (ai @ProdD.dv.eq_1 (ai hge (hq))) ?_)
   (refine aT ?_;try with_reducible exact tt)
  | false =>
   rw[hS,hTh,hq,if_neg (by simp)]
   (refine gO (ai @ProdD.dv.eq_1 (ai hge (hq))) ?_)
   (refine aT ?_;try with_reducible exact tt)
 ·have hd:decide (k<l.length)=false:=decide_eq_false (by omega)
  have hge:l[k]? = none:=List.getElem?_eq_none hk
  rw[hge] at hTh
  simp only at hTh
  rw[hd] at c1
  rw[hS,hTh,if_neg (by simp)]
  (refine gO (@ProdD.dv.eq_1) ?_)
  (refine aT ?_;try with_reducible exact tt)
end Go.Proofs.YtpklhnpchhaccaaGreatDoor
