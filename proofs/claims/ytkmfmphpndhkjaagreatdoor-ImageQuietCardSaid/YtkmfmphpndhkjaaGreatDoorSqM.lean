/- The abstract machine (EqA, SqA, SqB, CpDp, SqC). -/
import Derived.Test.YtkmfmphpndhkjaaGreatDoorApA
import Derived.Test.YtkmfmphpndhkjaaGreatDoorErM
namespace Go.Proofs.YtkmfmphpndhkjaaGreatDoor
open Go Go.RowKit
set_option maxHeartbeats 4000000
set_option maxRecDepth 100000
set_option linter.unusedVariables false
set_option linter.unusedSimpArgs false
theorem aRn (f g:RowD):∃ fs,Tryz.prog.underlying 47=some (.struct fs)∧uV Tryz.prog 9999 #[.int .i64 f.off,.int .i64 f.pid,.int .i64 f.seq,.string ⟨List.toArray f.key⟩,.string ⟨List.toArray f.value⟩] #[.int .i64 g.off,.int .i64 g.pid,.int .i64 g.seq,.string ⟨List.toArray g.key⟩,.string ⟨List.toArray g.value⟩] fs.toList=some (decide (f=g)):=by
 refine⟨_,Tryz.underlying47,?_⟩
 have ii:aT Tryz.prog (isAgg 3)=some false:=by kernel_rfl
 have si:=fun x y=>uW (d:=9998) Tryz.underlying3 .i64 x y
 simp only[Nat.reduceAdd] at si
 have is:aT Tryz.prog (isAgg 9)=some false:=by kernel_rfl
 have ss:=fun x y=>aH3 (d:=9998) Tryz.underlying9 x y
 simp only[Nat.reduceAdd] at ss
 obtain⟨a1,a2,a3,a4,a5⟩:=f
 obtain⟨b1,b2,b3,b4,b5⟩:=g
 have e:decide (RowD.mk a1 a2 a3 a4 a5=RowD.mk b1 b2 b3 b4 b5)=(a1 == b1 && (a2 == b2 && (a3 == b3 && (a4 == b4 && (a5 == b5))))):=by rw[Bool.eq_iff_iff];simp only[RowD.mk.injEq,Bool.and_eq_true,beq_iff_eq,decide_eq_true_eq]
 rw[e]
 cases h1:(a1 == b1)<;>cases h2:(a2 == b2)<;>cases h3:(a3 == b3)<;>cases h4:(a4 == b4)<;>cases h5:(a5 == b5)<;>simp[uV,ii,si,is,ss,aEd,h1,h2,h3,h4,h5]
theorem qR (x y:Operand) (f g:RowD):gG Tryz.prog .eql 47 x y (.agg [.d (int f.off),.d (int f.pid),.d (int f.seq),.d (str f.key),.d (str f.value)]) (.agg [.d (int g.off),.d (int g.pid),.d (int g.seq),.d (str g.key),.d (str g.value)])=some (Res.pure (vb (decide (f=g))))∧gG Tryz.prog .neq 47 x y (.agg [.d (int f.off),.d (int f.pid),.d (int f.seq),.d (str f.key),.d (str f.value)]) (.agg [.d (int g.off),.d (int g.pid),.d (int g.seq),.d (str g.key),.d (str g.value)])=some (Res.pure (vb (!decide (f=g)))):=by
 obtain⟨fs,hu,he⟩:=aRn f g
 exact yX hu (by kernel_rfl) (by kernel_rfl) he
theorem iM {x y:Operand} {a b:Bool}:gG Tryz.prog .eql 4 x y (vb a) (vb b)=some (Res.pure (vb (a == b))):=by cases a<;>cases b<;>kernel_rfl
set_option maxHeartbeats 8000000
def kT (l:List SeenD):List (List D):=l.reverse.zipIdx.map fun (e,y)=>[int ((l.length:Int) - 1 - (y:Int)),.agg e.dv]
theorem uP (l:List SeenD):(kT l).length=l.length:=by simp[kT]
theorem uO (l:List SeenD) (y:Nat) (e:SeenD) (h:l.reverse[y]? = some e) (hy:y<(kT l).length):(kT l)[y]=[int ((l.length:Int) - 1 - y),.agg e.dv]:=by
 have:(kT l)[y]? = some [int ((l.length:Int) - 1 - y),.agg e.dv]:=by simp only[kT,List.getElem?_map,List.getElem?_zipIdx,h,Option.map_some,Nat.zero_add]
 exact (List.getElem?_eq_some_iff.1 this).2
theorem aC3 (l:List SeenD) (hl:l.length≤1000000):aOp Tryz.prog 200 [.ptr [.lst 3 (l.map SeenD.dv)] 0] (kT l):=by
 (refine aOp.of_body Tryz.func200 rfl rfl Tryz.ntmps200 Tryz.results200 (by simp) (fun ks A cont q hL hY=>?_))
 have hlen:=uP l
 (refine aI ?_)
 refine Wp.loop (fun y:Nat=>⟨dI [(0,.c (.yld 999)),(1,.c (.d (.ptr [.lst 3 (l.map SeenD.dv)] 0))),(3,vi .i64 ((l.length:Int) - 1 - y))],yR (A y) [],1000,19,⟨ks,[],false,some q⟩⟩) (fun y=>y≤l.length∧∀ j,j<y→cont j=true) (fun y=>l.length - y) 0 ⟨Nat.zero_le _,fun j hj=>by omega⟩ ?_ ?_
 ·refine aD.keepB (A:=A) hL 0 rfl rfl (lZ _) rfl ?_
  (refine aK ?_)
  simp
 rintro y ⟨hy,hc⟩
 (refine aI ?_)
 refine Wp.cond (by (refine aK ?_);rfl) (fun h=>?_) (fun h=>?_)
 ·have hlt:y<l.length:=by simp only[decide_eq_true_eq] at h;omega
  have hi:((l.length:Int) - 1 - y).toNat=l.length - 1 - y:=by omega
  have hp:((0:Int)≤(l.length:Int) - 1 - y)=True:=by simp;omega
  have hg:l[l.length - 1 - y]? = some (l[l.length - 1 - y]'(by omega)):=List.getElem?_eq_getElem (by omega)
  have hYy:=hY y (by omega) hc
  have hrev:l.reverse[y]? = some (l[l.length - 1 - y]'(by omega)):=by rw[List.getElem?_reverse hlt,hg]
  rw[uO l y _ hrev] at hYy
  generalize l[l.length - 1 - y]'(by omega)=e at *
  simp only[SeenD.dv] at hYy
  refine Wp.skip ?_
  refine Wp.seq ?_
  refine Wp.block ?_
  ((first|refine Wp.regY 6 rfl (fun K hK=>?_)|(refine Wp.seq ?_;refine Wp.regY 6 rfl (fun K hK=>?_)));(refine rO (ai hi (ai hp (ai hg (@SeenD.dv.eq_1)))) ?_);refine hK _ ?_;clear hK K;refine YAt.of hL rfl rfl rfl rfl hYy (by ((repeat refine (zO (by omega)).2 ?_);first|exact lZ _|exact aGf rfl)) (by (refine rO (ai hi (ai hp (ai hg (@SeenD.dv.eq_1)))) ?_;try with_reducible exact tt)) (by (refine rO (ai hi (ai hp (ai hg (@SeenD.dv.eq_1)))) ?_;try with_reducible exact tt)) (by (refine rO (ai hi (ai hp (ai hg (@SeenD.dv.eq_1)))) ?_;try with_reducible exact tt)) ?_;(refine rO (ai hi (ai hp (ai hg (ai @SeenD.dv.eq_1 (hL.rb))))) ?_))
  refine Wp.cond (by (refine aK ?_);rfl) (fun h=>?_) (fun h=>?_)
  ·have hcy:cont y=false:=by simpa using h
   (refine aI ?_)
   refine⟨rfl,y+1,⟨by omega,fun j hj=>hc j (by omega),.inr ⟨by omega,hcy⟩⟩,?_⟩
   (refine aK ?_)
   exact lZ _
  ·have hcy:cont y=true:=by simpa using h
   (refine aI ?_)
   refine⟨y+1,⟨by omega,fun j hj=>?_⟩,by omega,?_⟩
   ·rcases Nat.lt_or_ge j y with h1|h1
    ·exact hc j h1
    ·obtain rfl:j=y:=by omega
     exact hcy
   refine aD.keepB (A:=A) (L:=[(0,.c (.yld 999)),(1,.c (.d (.ptr [.lst 3 (l.map SeenD.dv)] 0))),(3,vi .i64 ((l.length:Int) - 1 - (y+1:Nat)))]) (M:=[]) (fx:=⟨ks,[],false,some q⟩) hL (y+1) rfl rfl (lZ _) rfl ?_
   have e:(l.length:Int) - 1 - (y:Int) - 1=(l.length:Int) - 1 - ((y:Int)+1):=by omega
   (refine rO (e) ?_;try with_reducible exact tt)
 ·have hyl:y=l.length:=by simp only[decide_eq_false_iff_not] at h;omega
  subst hyl
  (refine aI ?_)
  refine⟨rfl,l.length,⟨by omega,fun j hj=>hc j (by omega),.inl ⟨by omega,hc⟩⟩,?_⟩
  (refine aK ?_)
  exact lZ _
theorem aC0 (l:List SeenD):aJ Tryz.prog 195 [.lst 3 (l.map SeenD.dv)] (.fn (.func 200) [.ptr [.lst 3 (l.map SeenD.dv)] 0]):=by
 (refine aJ.of_body Tryz.func195 rfl rfl Tryz.ntmps195 Tryz.results195 (by simp) ?_)
 (refine aI ?_)
 (refine Wp.weak (aD.freeze (id:=0) (by (refine aK ?_);rfl) (by (refine aK ?_);rfl)) ?_)
 (refine aI ?_)
 (refine aK ?_;try with_reducible exact tt)
def nU (pid epoch:Int):Bool:=decide (1≤pid) && decide (pid≤8) && decide (0≤epoch) && decide (epoch≤100)
theorem aFl (pid epoch:Int):aJ Tryz.prog 193 [int pid,int epoch] (dC (nU pid epoch)):=by
 (refine aJ.of_body Tryz.func193 rfl rfl Tryz.ntmps193 Tryz.results193 (by simp) ?_)
 (refine aI ?_)
 (first|refine Wp.sto 4 (vb (nU pid epoch)) ?_ ?_|refine Wp.rtoS 4 (vb (nU pid epoch)) ?_ ?_|(refine Wp.seq ?_;first|refine Wp.sto 4 (vb (nU pid epoch)) ?_ ?_|refine Wp.rtoS 4 (vb (nU pid epoch)) ?_ ?_))
 ·unfold nU;((rcases Bool.eq_false_or_eq_true (decide (1≤pid)) with hL1|hL1)<;>(rcases Bool.eq_false_or_eq_true (decide (pid≤8)) with hL2|hL2)<;>(rcases Bool.eq_false_or_eq_true (decide (0≤epoch)) with hL3|hL3)<;>(rcases Bool.eq_false_or_eq_true (decide (epoch≤100)) with hL4|hL4)<;>(((refine rO (ai hL1 (ai hL2 (ai hL3 (hL4)))) ?_;try with_reducible exact tt);(repeat (refine aQ (by assumption) ?_;(refine rO (ai hL1 (ai hL2 (ai hL3 (hL4)))) ?_))));all_goals (exact (show aH _ _=true by kernel_rfl))))
 (refine aI ?_)
 (refine aK ?_;try with_reducible exact tt)
theorem aCj (pid epoch:Int):aJ Tryz.prog 113 [int pid,int epoch] (dC (nU pid epoch)):=by
 (refine aJ.of_body Tryz.func113 rfl rfl Tryz.ntmps113 Tryz.results113 (by simp) ?_)
 (refine aI ?_)
 (first|refine Wp.sto 4 (vb (nU pid epoch)) ?_ ?_|refine Wp.rtoS 4 (vb (nU pid epoch)) ?_ ?_|(refine Wp.seq ?_;first|refine Wp.sto 4 (vb (nU pid epoch)) ?_ ?_|refine Wp.rtoS 4 (vb (nU pid epoch)) ?_ ?_))
 ·unfold nU;((rcases Bool.eq_false_or_eq_true (decide (1≤pid)) with hL1|hL1)<;>(rcases Bool.eq_false_or_eq_true (decide (pid≤8)) with hL2|hL2)<;>(rcases Bool.eq_false_or_eq_true (decide (0≤epoch)) with hL3|hL3)<;>(rcases Bool.eq_false_or_eq_true (decide (epoch≤100)) with hL4|hL4)<;>(((refine rO (ai hL1 (ai hL2 (ai hL3 (hL4)))) ?_;try with_reducible exact tt);(repeat (refine aQ (by assumption) ?_;(refine rO (ai hL1 (ai hL2 (ai hL3 (hL4)))) ?_))));all_goals (exact (show aH _ _=true by kernel_rfl))))
 (refine aI ?_)
 (refine aK ?_;try with_reducible exact tt)
def aU (n a b:Int):Bool:=decide (a≤n) && decide (n≤b)
theorem nY (n a b:Int):aJ Tryz.prog 71 [int n,int a,int b] (dC (aU n a b)):=by
 (refine aJ.of_body Tryz.func71 rfl rfl Tryz.ntmps71 Tryz.results71 (by simp) ?_)
 (refine aI ?_)
 (first|refine Wp.sto 6 (vb (aU n a b)) ?_ ?_|refine Wp.rtoS 6 (vb (aU n a b)) ?_ ?_|(refine Wp.seq ?_;first|refine Wp.sto 6 (vb (aU n a b)) ?_ ?_|refine Wp.rtoS 6 (vb (aU n a b)) ?_ ?_))
 ·unfold aU;((rcases Bool.eq_false_or_eq_true (decide (a≤n)) with hL1|hL1)<;>(rcases Bool.eq_false_or_eq_true (decide (n≤b)) with hL2|hL2)<;>(((refine rO (ai hL1 (hL2)) ?_;try with_reducible exact tt);(repeat (refine aQ (by assumption) ?_;(refine rO (ai hL1 (hL2)) ?_))));all_goals (exact (show aH _ _=true by kernel_rfl))))
 (refine aI ?_)
 (refine aK ?_;try with_reducible exact tt)
theorem aFs (n:Int):aJ Tryz.prog 194 [int n] (dC (aU n 0 1048576)):=by
 (refine aJ.of_body Tryz.func194 rfl rfl Tryz.ntmps194 Tryz.results194 (by simp) ?_)
 (refine aI ?_)
 (first|refine Wp.sto 2 (vb (aU n 0 1048576)) ?_ ?_|refine Wp.rtoS 2 (vb (aU n 0 1048576)) ?_ ?_|(refine Wp.seq ?_;first|refine Wp.sto 2 (vb (aU n 0 1048576)) ?_ ?_|refine Wp.rtoS 2 (vb (aU n 0 1048576)) ?_ ?_))
 ·unfold aU;((rcases Bool.eq_false_or_eq_true (decide (0≤n)) with hL1|hL1)<;>(rcases Bool.eq_false_or_eq_true (decide (n≤1048576)) with hL2|hL2)<;>(((refine rO (ai hL1 (hL2)) ?_;try with_reducible exact tt);(repeat (refine aQ (by assumption) ?_;(refine rO (ai hL1 (hL2)) ?_))));all_goals (exact (show aH _ _=true by kernel_rfl))))
 (refine aI ?_)
 (refine aK ?_;try with_reducible exact tt)
def gR (p:ProdD):Bool:=!nU p.pid p.epoch || !aU p.next 0 1048576 || decide (3<(p.seen.length:Int))
def zL (s:SeenD):Bool:=decide (s.count<1) || decide (4<s.count) || decide (s.base < -1) || decide (1048576<s.base)
def aE8 (s:SeenD) (b:Int):Bool:=decide (s.seq<0) || decide (b - s.count<s.seq)
def lE (s:SeenD) (b:Int):Bool:=zL s || aE8 s b
def mX:List SeenD→Int→Bool
 | [],_=>true
 | s::l,b=>!lE s b && mX l s.seq
def kN:List SeenD→Int→Nat→Int
 | _,b,0=>b
 | [],b,_+1=>b
 | s::l,b,i+1=>if lE s b then b else kN l s.seq i
def oP (l:List SeenD) (b:Int) (i:Nat):Bool:=match l[i]? with
 | some s=>!lE s (kN l b i)
 | none=>true
theorem pK (s:SeenD) (l:List SeenD) (b:Int) (i:Nat) (h:lE s b=false):oP (s::l) b (i+1)=oP l s.seq i:=by
 simp only[oP,List.getElem?_cons_succ,kN,h,Bool.false_eq_true,if_false]
theorem pL (s:SeenD) (l:List SeenD) (b:Int):oP (s::l) b 0 = !lE s b:=by simp[oP,kN]
theorem aCx:∀ (l:List SeenD) (b:Int) (i:Nat) (s:SeenD),(∀ j,j<i→oP l b j=true)→l[i]? = some s→kN l b (i+1)=if lE s (kN l b i) then kN l b i else s.seq
 | [],b,i,s,_,h=>by simp at h
 | t::l,b,0,s,_,h=>by
  simp at h;subst h
  cases hb:lE t b<;>simp[kN,hb]
 | t::l,b,i+1,s,hc,h=>by
  have h0:=hc 0 (by omega)
  rw[pL] at h0
  have h0:lE t b=false:=by simpa using h0
  have ih:=aCx l t.seq i s (fun j hj=>by have:=hc (j+1) (by omega);rwa [pK _ _ _ _ h0] at this) (by simpa using h)
  have e1:kN (t::l) b (i+1+1)=kN l t.seq (i+1):=by rw[kN,h0];rfl
  have e2:kN (t::l) b (i+1)=kN l t.seq i:=by rw[kN,h0];rfl
  rw[e1,e2,ih]
theorem aGn:∀ (l:List SeenD) (b:Int),(∀ j,j<l.length→oP l b j=true)→mX l b=true
 | [],_,_=>rfl
 | s::l,b,hc=>by
  have h0:=hc 0 (by simp)
  rw[pL] at h0
  have h1:lE s b=false:=by simpa using h0
  rw[mX,h0,Bool.true_and]
  exact aGn l s.seq (fun j hj=>by have:=hc (j+1) (by simpa using hj);rwa [pK _ _ _ _ h1] at this)
theorem aD1:∀ (l:List SeenD) (b:Int) (i:Nat),(∀ j,j<i→oP l b j=true)→oP l b i=false→mX l b=false
 | [],b,i,_,h=>by simp[oP] at h
 | s::l,b,0,_,h=>by rw[pL] at h;rw[mX,h];rfl
 | s::l,b,i+1,hc,h=>by
  have h0:=hc 0 (by omega)
  rw[pL] at h0
  have h1:lE s b=false:=by simpa using h0
  rw[pK _ _ _ _ h1] at h
  rw[mX,aD1 l s.seq i (fun j hj=>by have:=hc (j+1) (by omega);rwa [pK _ _ _ _ h1] at this) h,Bool.and_false]
theorem aGa {s:SeenD} {b:Int} (h:lE s b=false):0≤s.seq∧s.seq≤b∧1≤s.count∧s.count≤4:=by
 simp only[lE,zL,aE8,Bool.or_eq_false_iff,decide_eq_false_iff_not] at h
 omega
theorem aGh:∀ (l:List SeenD) (b:Int) (i:Nat),0≤b→b≤1048576→0≤kN l b i∧kN l b i≤1048576
 | l,b,0,h1,h2=>by cases l<;>exact⟨h1,h2⟩
 | [],b,i+1,h1,h2=>⟨h1,h2⟩
 | s::l,b,i+1,h1,h2=>by
  rw[kN]
  cases hb:lE s b with
  | true=>exact⟨h1,h2⟩
  | false =>
   have:=aGa hb
   exact aGh l s.seq i (by omega) (by omega)
def cM (p:ProdD):Bool:=!gR p && mX p.seen.reverse p.next
abbrev knM (p:ProdD) (i:Nat):List (Nat × HE):=[(0,.cells (p.dv.map .d)),(1,.cells [.d (dC false)]),(2,.cells [.d (int (kN p.seen.reverse p.next i))])]
abbrev knS (p:ProdD):St:=⟨dI [(1,.c (.own 0 0)),(2,.c (.own 1 0)),(3,.c (.own 2 0)),(28,.c (.d (.fn (.func 200) [.ptr [.lst 3 (p.seen.map SeenD.dv)] 0])))],bJ (knM p 0),3,63,0⟩
theorem aN4 (p:ProdD) (hl:p.seen.length≤100000):aJ Tryz.prog 171 [.agg p.dv] (dC (cM p)):=by
 have c1:=aFl p.pid p.epoch
 have c2:=aFs p.next
 have c3:=aC0 p.seen
 (refine aJ.of_body Tryz.func171 rfl rfl Tryz.ntmps171 Tryz.results171 (by simp) ?_)
 (refine gO (@ProdD.dv.eq_1) ?_)
 (first|refine Wp.sto 23 (vb (gR p)) ?_ ?_|refine Wp.rtoS 23 (vb (gR p)) ?_ ?_|(refine Wp.seq ?_;first|refine Wp.sto 23 (vb (gR p)) ?_ ?_|refine Wp.rtoS 23 (vb (gR p)) ?_ ?_))
 ·unfold gR;((rcases Bool.eq_false_or_eq_true (!nU p.pid p.epoch) with hL1|hL1)<;>(rcases Bool.eq_false_or_eq_true (!aU p.next 0 1048576) with hL2|hL2)<;>(rcases Bool.eq_false_or_eq_true (decide (3<(p.seen.length:Int))) with hL3|hL3)<;>(((refine rO (ai hL1 (ai hL2 (ai hL3 (@ProdD.dv.eq_1)))) ?_);(repeat (refine aQ (by assumption) ?_;(refine rO (ai hL1 (ai hL2 (ai hL3 (@ProdD.dv.eq_1)))) ?_;try with_reducible exact tt))));all_goals (exact (show aH _ _=true by kernel_rfl))))
 refine Wp.cond (by (refine aK ?_);rfl) (fun h=>?_) (fun h=>?_)
 ·have hf:cM p=false:=by simp only[cM,h,Bool.not_true,Bool.false_and]
  (refine aI ?_)
  (refine rO (hf) ?_;try with_reducible exact tt)
 have h1:gR p=false:=h
 have hnx:0≤p.next∧p.next≤1048576:=by
  simp only[gR,aU,Bool.or_eq_false_iff,Bool.not_eq_false',Bool.and_eq_true,decide_eq_true_eq] at h1
  exact⟨h1.1.2.1,h1.1.2.2⟩
 have hkn:cM p=mX p.seen.reverse p.next:=by simp only[cM,h1,Bool.not_false,Bool.true_and]
 (refine gO (@ProdD.dv.eq_1) ?_)
 refine Wp.weak (show aD _ (knS p) from aD.keep rfl rfl ?_) ?_
 ·(refine rO (ai @knM.eq_1 (ai @ProdD.dv.eq_1 (ai @kN.eq_1 (ai @kN.eq_2 (@kN.eq_3))))) ?_;try with_reducible exact tt)
 have hsq:=aC3 p.seen (by omega)
 have hbl:=uP p.seen
 refine Wp.rangeFunc (xs:=kT p.seen) rfl rfl hsq 500 (knM p) [0,1,2] (fun i=>oP p.seen.reverse p.next i) (fun _=>.ret) rfl (fun _=>rfl) rfl (fun _=>rfl) rfl (fun i id h=>by cases h) rfl (fun x hx=>by simp only[kT,List.mem_map] at hx;obtain⟨⟨r,_⟩,_,rfl⟩:=hx;rfl) ?_ ?_ ?_
 ·intro i hi hc o1
  have hi' : i<p.seen.length:=by omega
  have hg:p.seen.reverse[i]? = some (p.seen.reverse[i]'(by simpa using hi')):=List.getElem?_eq_getElem (by simpa using hi')
  rw[uO p.seen i _ hg]
  have hbn:=aCx _ _ i _ hc hg
  have hbr:=aGh p.seen.reverse p.next i hnx.1 hnx.2
  have hct:oP p.seen.reverse p.next i = !lE (p.seen.reverse[i]'(by simpa using hi')) (kN p.seen.reverse p.next i):=by simp only[oP,hg]
  rw[hct]
  generalize p.seen.reverse[i]'(by simpa using hi')=s at *
  (refine gO (ai @knM.eq_1 (ai @SeenD.dv.eq_1 (ai @ProdD.dv.eq_1 (ai @List.cons_append.{0} (@List.nil_append.{0}))))) ?_)
  refine⟨rfl,by (refine aK ?_;try with_reducible exact tt),rfl,fun o2=>?_⟩
  (refine gO (@SeenD.dv.eq_1) ?_)
  (first|refine Wp.sto 48 (vb (zL s)) ?_ ?_|refine Wp.rtoS 48 (vb (zL s)) ?_ ?_|(refine Wp.seq ?_;first|refine Wp.sto 48 (vb (zL s)) ?_ ?_|refine Wp.rtoS 48 (vb (zL s)) ?_ ?_))
  ·unfold zL;((rcases Bool.eq_false_or_eq_true (decide (s.count<1)) with hL1|hL1)<;>(rcases Bool.eq_false_or_eq_true (decide (4<s.count)) with hL2|hL2)<;>(rcases Bool.eq_false_or_eq_true (decide (s.base < -1)) with hL3|hL3)<;>(rcases Bool.eq_false_or_eq_true (decide (1048576<s.base)) with hL4|hL4)<;>(((refine rO (ai hL1 (ai hL2 (ai hL3 (ai hL4 (@SeenD.dv.eq_1))))) ?_;try with_reducible exact tt);(repeat (refine aQ (by assumption) ?_;(refine rO (ai hL1 (ai hL2 (ai hL3 (ai hL4 (@SeenD.dv.eq_1))))) ?_))));all_goals (exact (show aH _ _=true by kernel_rfl))))
  refine Wp.cond (by (refine aK ?_);rfl) (fun h=>?_) (fun h=>?_)
  ·have hb:lE s (kN p.seen.reverse p.next i)=true:=by simp only[lE,h,Bool.true_or]
   rw[hb,if_pos rfl] at hbn
   (refine aI ?_)
   refine⟨aD.keep rfl rfl ?_,.inr ⟨by rw[hb];rfl,rfl,rfl⟩⟩
   (refine rO (ai @knM.eq_1 (ai @List.cons_append.{0} (ai @List.nil_append.{0} (ai hbn (@ProdD.dv.eq_1))))) ?_;try with_reducible exact tt)
  have hb1:=h
  have hcr:1≤s.count∧s.count≤4:=by simp only[zL,Bool.or_eq_false_iff,decide_eq_false_iff_not] at h;omega
  (refine gO (@SeenD.dv.eq_1) ?_)
  (first|refine Wp.sto 60 (vb (aE8 s (kN p.seen.reverse p.next i))) ?_ ?_|refine Wp.rtoS 60 (vb (aE8 s (kN p.seen.reverse p.next i))) ?_ ?_|(refine Wp.seq ?_;first|refine Wp.sto 60 (vb (aE8 s (kN p.seen.reverse p.next i))) ?_ ?_|refine Wp.rtoS 60 (vb (aE8 s (kN p.seen.reverse p.next i))) ?_ ?_))
  ·unfold aE8;((rcases Bool.eq_false_or_eq_true (decide (s.seq<0)) with hL1|hL1)<;>(rcases Bool.eq_false_or_eq_true (decide (kN p.seen.reverse p.next i - s.count<s.seq)) with hL2|hL2)<;>(((refine rO (ai hL1 (ai hL2 (@SeenD.dv.eq_1))) ?_;try with_reducible exact tt);(repeat (refine aQ (by assumption) ?_;(refine rO (ai hL1 (ai hL2 (@SeenD.dv.eq_1))) ?_))));all_goals (exact (show aH _ _=true by kernel_rfl))))
  refine Wp.cond (by (refine aK ?_);rfl) (fun h=>?_) (fun h=>?_)
  ·have hb:lE s (kN p.seen.reverse p.next i)=true:=by simp only[lE,h,Bool.or_true]
   rw[hb,if_pos rfl] at hbn
   (refine aI ?_)
   refine⟨aD.keep rfl rfl ?_,.inr ⟨by rw[hb];rfl,rfl,rfl⟩⟩
   (refine rO (ai @knM.eq_1 (ai @List.cons_append.{0} (ai @List.nil_append.{0} (ai hbn (@ProdD.dv.eq_1))))) ?_;try with_reducible exact tt)
  ·have hb:lE s (kN p.seen.reverse p.next i)=false:=by simp only[lE,hb1,h];rfl
   rw[hb,if_neg (by simp)] at hbn
   (refine gO (@SeenD.dv.eq_1) ?_)
   refine⟨aD.keep rfl rfl ?_,.inl ⟨rfl,by rw[hb];rfl⟩⟩
   (refine rO (ai @knM.eq_1 (ai @List.cons_append.{0} (ai @List.nil_append.{0} (ai hbn (@ProdD.dv.eq_1))))) ?_;try with_reducible exact tt)
 ·intro i hi hc hn
  refine⟨rfl,?_⟩
  have e1:=aD1 _ _ i hc hn
  (refine rO (ai @knM.eq_1 (ai @List.cons_append.{0} (ai @List.nil_append.{0} (ai hkn (ai e1 (@ProdD.dv.eq_1)))))) ?_;try with_reducible exact tt)
 ·intro hc
  have e1:=aGn p.seen.reverse p.next (fun j hj=>hc j (by rw[hbl];simpa using hj))
  (refine gO (ai @knM.eq_1 (ai @List.cons_append.{0} (ai @List.nil_append.{0} (@ProdD.dv.eq_1)))) ?_)
  (refine rO (ai hkn (e1)) ?_;try with_reducible exact tt)
/-! forwards -/
def oE (l:List SeenD) (next:Int):Int:=match l with
 | []=>next
 | t::_=>t.seq
def pI (s:SeenD) (b:Int):Bool:=decide (s.seq<0) || !aU s.count 1 4 || !aU s.base (-1) 1048576 || decide (IntKind.i64.wrap (b - s.count)<s.seq)
def aEh:List SeenD→Int→Bool
 | [],_=>true
 | s::l,next=>!pI s (oE l next) && aEh l next
theorem aD0:∀ (l:List SeenD) (b:Int) (s:SeenD),mX (l++[s]) b=(mX l b && !lE s (match l.getLast? with|some t=>t.seq|none=>b))
 | [],b,s=>by simp[mX]
 | [t],b,s=>by simp[mX,Bool.and_assoc]
 | t::u::l,b,s=>by
  have ih:=aD0 (u::l) t.seq s
  show (!lE t b && mX ((u::l)++[s]) t.seq)=((!lE t b && mX (u::l) t.seq) && _)
  rw[ih,Bool.and_assoc,List.getLast?_cons_cons]
  cases hq:(u::l).getLast? with
  | none=>simp at hq
  | some x=>rfl
theorem aGp (s:SeenD) (l:List SeenD) (next:Int):mX (s::l).reverse next=(mX l.reverse next && !lE s (oE l next)):=by
 rw[List.reverse_cons,aD0,List.getLast?_reverse]
 cases l<;>rfl
theorem aGq:∀ (l:List SeenD) (next:Int),0≤next→next≤1048576→mX l.reverse next=true→0≤oE l next∧oE l next≤1048576
 | [],next,h1,h2,_=>⟨h1,h2⟩
 | s::l,next,h1,h2,h=>by
  rw[aGp,Bool.and_eq_true] at h
  have h3:=aGq l next h1 h2 h.1
  have h4:=aGa (s:=s) (b:=oE l next) (by simpa using h.2)
  show 0≤s.seq∧s.seq≤1048576
  omega
theorem aRs {s:SeenD} {b:Int} (h1:0≤b) (h2:b≤1048576):pI s b=lE s b:=by
 rw[Bool.eq_iff_iff]
 simp only[pI,lE,zL,aE8,aU,Bool.or_eq_true,Bool.not_eq_true',Bool.and_eq_false_iff,decide_eq_true_eq,decide_eq_false_iff_not]
 by_cases hc:1≤s.count∧s.count≤4
 ·rw[aG (n:=b - s.count) ⟨by omega,by omega⟩];omega
 ·constructor<;>intro h
  ·left;omega
  ·left;left;right;omega
theorem aLb:∀ (l:List SeenD) (next:Int),0≤next→next≤1048576→aEh l next=mX l.reverse next
 | [],_,_,_=>rfl
 | s::l,next,h1,h2=>by
  rw[aGp,aEh,aLb l next h1 h2]
  cases hq:mX l.reverse next with
  | false=>simp
  | true =>
   have:=aGq l next h1 h2 hq
   rw[aRs this.1 this.2,Bool.and_true,Bool.true_and]
def uN (p:ProdD) (i:Nat):Int:=match p.seen[i+1]? with
 | some t=>t.seq
 | none=>p.next
theorem zT:∀ (l:List SeenD) (next:Int),aEh l next=true ↔ ∀ i s,l[i]? = some s→pI s (match l[i+1]? with|some t=>t.seq|none=>next)=false
 | [],next=>by simp[aEh]
 | s::l,next=>by
  rw[aEh,Bool.and_eq_true,zT l next]
  constructor
  ·rintro⟨h1,h2⟩ i x hx
   cases i with
   | zero =>
    simp at hx;subst hx
    have h1:pI s (oE l next)=false:=by simpa using h1
    cases l with
    | nil=>exact h1
    | cons t l=>exact h1
   | succ i=>exact h2 i x (by simpa using hx)
  ·intro h
   refine⟨?_,fun i x hx=>h (i+1) x (by simpa using hx)⟩
   have:=h 0 s rfl
   cases l with
   | nil=>simpa [oE] using this
   | cons t l=>simpa [oE] using this
abbrev k7S (p:ProdD) (k:Nat):St:=⟨dI [(1,.c (.own 0 0)),(3,vi .i64 k)],bJ [(0,.cells (p.dv.map .d))],1,75,0⟩
theorem aK8 (p:ProdD) (hl:p.seen.length≤100000):aJ Tryz.prog 70 [.agg p.dv] (dC (cM p)):=by
 have c1:=aCj p.pid p.epoch
 have c2:=nY p.next 0 1048576
 (refine aJ.of_body Tryz.func70 rfl rfl Tryz.ntmps70 Tryz.results70 (by simp) ?_)
 (refine gO (@ProdD.dv.eq_1) ?_)
 (first|refine Wp.sto 23 (vb (gR p)) ?_ ?_|refine Wp.rtoS 23 (vb (gR p)) ?_ ?_|(refine Wp.seq ?_;first|refine Wp.sto 23 (vb (gR p)) ?_ ?_|refine Wp.rtoS 23 (vb (gR p)) ?_ ?_))
 ·unfold gR;((rcases Bool.eq_false_or_eq_true (!nU p.pid p.epoch) with hL1|hL1)<;>(rcases Bool.eq_false_or_eq_true (!aU p.next 0 1048576) with hL2|hL2)<;>(rcases Bool.eq_false_or_eq_true (decide (3<(p.seen.length:Int))) with hL3|hL3)<;>(((refine rO (ai hL1 (ai hL2 (ai hL3 (@ProdD.dv.eq_1)))) ?_);(repeat (refine aQ (by assumption) ?_;(refine rO (ai hL1 (ai hL2 (ai hL3 (@ProdD.dv.eq_1)))) ?_;try with_reducible exact tt))));all_goals (exact (show aH _ _=true by kernel_rfl))))
 refine Wp.cond (by (refine aK ?_);rfl) (fun h=>?_) (fun h=>?_)
 ·have hf:cM p=false:=by simp only[cM,h,Bool.not_true,Bool.false_and]
  (refine aI ?_)
  (refine rO (hf) ?_;try with_reducible exact tt)
 have h1:gR p=false:=h
 have hnx:0≤p.next∧p.next≤1048576:=by
  simp only[gR,aU,Bool.or_eq_false_iff,Bool.not_eq_false',Bool.and_eq_true,decide_eq_true_eq] at h1
  exact⟨h1.1.2.1,h1.1.2.2⟩
 have hkn:cM p=aEh p.seen p.next:=by rw[aLb _ _ hnx.1 hnx.2];simp only[cM,h1,Bool.not_false,Bool.true_and]
 (refine gO (@ProdD.dv.eq_1) ?_)
 refine Wp.loop (k7S p) (fun k=>k≤p.seen.length∧∀ j s,j<k→p.seen[j]? = some s→pI s (uN p j)=false) (fun k=>p.seen.length - k) 0 ⟨Nat.zero_le _,fun j s hj=>by omega⟩ ?_ ?_
 ·refine aD.keep rfl rfl ?_
  (refine rO (@ProdD.dv.eq_1) ?_;try with_reducible exact tt)
 rintro k ⟨hk,hall⟩
 (refine gO (@ProdD.dv.eq_1) ?_)
 refine Wp.cond (by (refine aK ?_);rfl) (fun h=>?_) (fun h=>?_)
 ·have hlt:k<p.seen.length:=by simpa using h
  have hge:p.seen[k]? = some p.seen[k]:=List.getElem?_eq_getElem hlt
  generalize p.seen[k]=s at *
  have c3:=nY s.count 1 4
  have c4:=nY s.base (-1) 1048576
  refine Wp.skip ?_
  refine Wp.seq ?_
  refine Wp.block ?_
  (refine gO (ai hge (ai @SeenD.dv.eq_1 (@ProdD.dv.eq_1))) ?_)
  have hbad:pI s (uN p k)=true→cM p=false:=fun hb=>by
   rw[hkn]
   cases hq:aEh p.seen p.next with
   | false=>rfl
   | true =>
    have:=(zT _ _).1 hq k s hge
    unfold uN at hb
    rw[this] at hb;cases hb
  have hgood:pI s (uN p k)=false→∀ j x,j<k+1→p.seen[j]? = some x→pI x (uN p j)=false:=fun hb j x hj hx=>by
   rcases Nat.lt_or_ge j k with h2|h2
   ·exact hall j x h2 hx
   ·obtain rfl:j=k:=by omega
    rw[hge] at hx;cases hx;exact hb
  rcases Nat.lt_or_ge (k+1) p.seen.length with hk1|hk1
  ·have hd:decide ((k:Int)+1<(p.seen.length:Int))=true:=decide_eq_true (by omega)
   have hge2:p.seen[k+1]? = some p.seen[k+1]:=List.getElem?_eq_getElem hk1
   have hb7:uN p k=p.seen[k+1].seq:=by simp only[uN,hge2]
   rw[hb7] at hbad hgood
   generalize p.seen[k+1]=u at *
   have hnn:((0:Int)≤(k:Int)+1)=True:=by simp;omega
   have htn:((k:Int)+1).toNat=k+1:=by omega
   (refine gO (ai hd (ai hge2 (ai hnn (ai htn (ai @SeenD.dv.eq_1 (@ProdD.dv.eq_1)))))) ?_)
   (first|refine Wp.sto 74 (vb (pI s u.seq)) ?_ ?_|refine Wp.rtoS 74 (vb (pI s u.seq)) ?_ ?_|(refine Wp.seq ?_;first|refine Wp.sto 74 (vb (pI s u.seq)) ?_ ?_|refine Wp.rtoS 74 (vb (pI s u.seq)) ?_ ?_))
   ·unfold pI;((rcases Bool.eq_false_or_eq_true (decide (s.seq<0)) with hL1|hL1)<;>(rcases Bool.eq_false_or_eq_true (!aU s.count 1 4) with hL2|hL2)<;>(rcases Bool.eq_false_or_eq_true (!aU s.base (-1) 1048576) with hL3|hL3)<;>(rcases Bool.eq_false_or_eq_true (decide (IntKind.i64.wrap (u.seq - s.count)<s.seq)) with hL4|hL4)<;>(((refine rO (ai hL1 (ai hL2 (ai hL3 (ai hL4 (ai @SeenD.dv.eq_1 (@ProdD.dv.eq_1)))))) ?_;try with_reducible exact tt);(repeat (refine aQ (by assumption) ?_;(refine rO (ai hL1 (ai hL2 (ai hL3 (ai hL4 (ai @SeenD.dv.eq_1 (@ProdD.dv.eq_1)))))) ?_;try with_reducible exact tt))));all_goals (exact (show aH _ _=true by kernel_rfl))))
   refine Wp.cond (by (refine aK ?_);rfl) (fun h=>?_) (fun h=>?_)
   ·have hf:=hbad h
    (refine aI ?_)
    (refine rO (hf) ?_;try with_reducible exact tt)
   ·have hf:=hgood h
    (refine aI ?_)
    refine⟨k+1,⟨by omega,hf⟩,by omega,aD.keep rfl rfl ?_⟩
    (refine rO (@ProdD.dv.eq_1) ?_;try with_reducible exact tt)
  ·have hd:decide ((k:Int)+1<(p.seen.length:Int))=false:=decide_eq_false (by omega)
   have hge2:p.seen[k+1]? = none:=List.getElem?_eq_none hk1
   have hb7:uN p k=p.next:=by simp only[uN,hge2]
   rw[hb7] at hbad hgood
   (refine gO (ai hd (ai @SeenD.dv.eq_1 (@ProdD.dv.eq_1))) ?_)
   (first|refine Wp.sto 74 (vb (pI s p.next)) ?_ ?_|refine Wp.rtoS 74 (vb (pI s p.next)) ?_ ?_|(refine Wp.seq ?_;first|refine Wp.sto 74 (vb (pI s p.next)) ?_ ?_|refine Wp.rtoS 74 (vb (pI s p.next)) ?_ ?_))
   ·unfold pI;((rcases Bool.eq_false_or_eq_true (decide (s.seq<0)) with hL1|hL1)<;>(rcases Bool.eq_false_or_eq_true (!aU s.count 1 4) with hL2|hL2)<;>(rcases Bool.eq_false_or_eq_true (!aU s.base (-1) 1048576) with hL3|hL3)<;>(rcases Bool.eq_false_or_eq_true (decide (IntKind.i64.wrap (p.next - s.count)<s.seq)) with hL4|hL4)<;>(((refine rO (ai hL1 (ai hL2 (ai hL3 (ai hL4 (ai @SeenD.dv.eq_1 (@ProdD.dv.eq_1)))))) ?_;try with_reducible exact tt);(repeat (refine aQ (by assumption) ?_;(refine rO (ai hL1 (ai hL2 (ai hL3 (ai hL4 (ai @SeenD.dv.eq_1 (@ProdD.dv.eq_1)))))) ?_;try with_reducible exact tt))));all_goals (exact (show aH _ _=true by kernel_rfl))))
   refine Wp.cond (by (refine aK ?_);rfl) (fun h=>?_) (fun h=>?_)
   ·have hf:=hbad h
    (refine aI ?_)
    (refine rO (hf) ?_;try with_reducible exact tt)
   ·have hf:=hgood h
    (refine aI ?_)
    refine⟨k+1,⟨by omega,hf⟩,by omega,aD.keep rfl rfl ?_⟩
    (refine rO (@ProdD.dv.eq_1) ?_;try with_reducible exact tt)
 ·have hk2:k=p.seen.length:=by simp only[decide_eq_false_iff_not] at h;omega
  have hf:aEh p.seen p.next=true:=(zT _ _).2 (fun i s hs=>hall i s (by have:=(List.getElem?_eq_some_iff.1 hs).1;omega) hs)
  (refine aI ?_)
  (refine rO (ai hkn (hf)) ?_;try with_reducible exact tt)
structure SmallL (l:List ProdD):Prop where
 len:l.length≤100000
 seen:∀ p ∈ l,p.seen.length≤100000
def aCg:List ProdD→Int→Bool
 | [],_=>true
 | p::l,last=>!(decide (p.pid≤last) || !cM p) && aCg l p.pid
def sO (l:List ProdD):Bool:=aCg l 0
def jH (l:List ProdD):Nat→Int
 | 0=>0
 | k+1=>match l[k]? with
  | some p=>p.pid
  | none=>0
theorem aI0:∀ (l:List ProdD) (b:Int),aCg l b=true ↔ ∀ k p,l[k]? = some p→(decide (p.pid≤match k with|0=>b|k+1=>match l[k]? with|some q=>q.pid|none=>0) || !cM p)=false
 | [],b=>by simp[aCg]
 | p::l,b=>by
  rw[aCg,Bool.and_eq_true,aI0 l p.pid]
  constructor
  ·rintro⟨h1,h2⟩ k q hq
   cases k with
   | zero=>simp at hq;subst hq;simpa using h1
   | succ k =>
    have:=h2 k q (by simpa using hq)
    cases k with
    | zero=>exact this
    | succ k=>exact this
  ·intro h
   refine⟨by have:=h 0 p rfl;simpa using this,fun k q hq=>?_⟩
   have:=h (k+1) q (by simpa using hq)
   cases k with
   | zero=>exact this
   | succ k=>exact this
theorem vI (l:List ProdD):sO l=true ↔ ∀ k p,l[k]? = some p→(decide (p.pid≤jH l k) || !cM p)=false:=by
 rw[sO,aI0]
 constructor<;>intro h k p hp<;>have:=h k p hp<;>cases k<;>exact this
theorem aSu (l:List ProdD) (hs:SmallL l):aJ Tryz.prog 147 [.lst 4 (l.map ProdD.dv)] (dC (sO l)):=by
 have hsl:=hs.len
 (refine aJ.of_body Tryz.func147 rfl rfl Tryz.ntmps147 Tryz.results147 (by simp) ?_)
 (refine aI ?_)
 refine Wp.loop (fun k:Nat=>⟨dI [(3,vi .i64 (jH l k)),(6,.c (.d (.lst 4 (l.map ProdD.dv)))),(7,vi .i64 l.length),(8,vi .i64 k)],bJ [],0,24,0⟩) (fun k=>k≤l.length∧∀ j p,j<k→l[j]? = some p→(decide (p.pid≤jH l j) || !cM p)=false) (fun k=>l.length - k) 0 ⟨Nat.zero_le _,fun j p hj=>by omega⟩ ?_ ?_
 ·refine aD.keep rfl rfl ?_
  (refine rO (ai @jH.eq_1 (@jH.eq_2)) ?_;try with_reducible exact tt)
 rintro k ⟨hk,hall⟩
 (refine aI ?_)
 refine Wp.cond (by (refine aK ?_);rfl) (fun h=>?_) (fun h=>?_)
 ·have hlt:k<l.length:=by simpa using h
  have hge:l[k]? = some l[k]:=List.getElem?_eq_getElem hlt
  have c1:=aN4 l[k] (hs.seen _ (List.getElem_mem hlt))
  have hln:jH l (k+1)=l[k].pid:=by simp only[jH,hge]
  generalize l[k]=p at *
  simp only[ProdD.dv] at c1
  (refine gO (ai hge (@ProdD.dv.eq_1)) ?_)
  (first|refine Wp.sto 20 (vb (decide (p.pid≤jH l k) || !cM p)) ?_ ?_|refine Wp.rtoS 20 (vb (decide (p.pid≤jH l k) || !cM p)) ?_ ?_|(refine Wp.seq ?_;first|refine Wp.sto 20 (vb (decide (p.pid≤jH l k) || !cM p)) ?_ ?_|refine Wp.rtoS 20 (vb (decide (p.pid≤jH l k) || !cM p)) ?_ ?_))
  ·((rcases Bool.eq_false_or_eq_true (decide (p.pid≤jH l k)) with hL1|hL1)<;>(rcases Bool.eq_false_or_eq_true (!cM p) with hL2|hL2)<;>(((refine rO (ai hL1 (ai hL2 (@ProdD.dv.eq_1))) ?_;try with_reducible exact tt);(repeat (refine aQ (by assumption) ?_;(refine rO (ai hL1 (ai hL2 (@ProdD.dv.eq_1))) ?_;try with_reducible exact tt))));all_goals (exact (show aH _ _=true by kernel_rfl))))
  refine Wp.cond (by (refine aK ?_);rfl) (fun h=>?_) (fun h=>?_)
  ·have hf:sO l=false:=by
    cases hq:sO l with
    | false=>rfl
    | true=>have:=(vI l).1 hq k p hge;rw[this] at h;cases h
   (refine aI ?_)
   (refine rO (hf) ?_;try with_reducible exact tt)
  ·have h5:=h
   (refine gO (@ProdD.dv.eq_1) ?_)
   refine⟨k+1,⟨by omega,fun j x hj hx=>?_⟩,by omega,aD.keep rfl rfl ?_⟩
   ·rcases Nat.lt_or_ge j k with h2|h2
    ·exact hall j x h2 hx
    ·obtain rfl:j=k:=by omega
     rw[hge] at hx;cases hx;exact h5
   (refine rO (hln) ?_;try with_reducible exact tt)
 ·have hf:sO l=true:=(vI l).2 (fun j p hp=>hall j p (by have:=(List.getElem?_eq_some_iff.1 hp).1;simp only[decide_eq_false_iff_not] at h;omega) hp)
  (refine aI ?_)
  (refine rO (hf) ?_;try with_reducible exact tt)
theorem aMy (l:List ProdD) (f:Nat) (caps:List D) (pr:ProdD→Bool) (hl:l.length≤100000) (hf:∀ x ∈ l,aJ Tryz.prog f (.agg x.dv::caps) (dC (pr x))) :
  aJ Tryz.prog 178 [.lst 4 (l.map ProdD.dv),.fn (.func f) caps] (.tup [int (l.findIdx pr:Nat),dC (l.any pr)]):=by
 (refine aJ.of_body Tryz.func178 rfl rfl Tryz.ntmps178 Tryz.results178 (by simp) ?_)
 (refine aI ?_)
 refine Wp.loop (fun k:Nat=>⟨dI [(0,.c (.d (.lst 4 (l.map ProdD.dv)))),(1,.c (.d (.fn (.func f) caps))),(8,.c (.d (.lst 4 (l.map ProdD.dv)))),(9,vi .i64 l.length),(10,vi .i64 k)],bJ [],0,22,0⟩) (fun k=>k≤l.length∧(l.take k).any pr=false) (fun k=>l.length - k) 0 ⟨Nat.zero_le _,rfl⟩ ?_ ?_
 ·refine aD.keep rfl rfl ?_
  (refine aK ?_;try with_reducible exact tt)
 rintro k ⟨hk,hall⟩
 (refine aI ?_)
 refine Wp.cond (by (refine aK ?_);rfl) (fun h=>?_) (fun h=>?_)
 ·have hlt:k<l.length:=by simpa using h
  have c1:=hf l[k] (List.getElem_mem hlt)
  have hs:=dH pr l k hlt
  have hix:pr l[k]=true→l.findIdx pr=k:=fun hp=>by
   rw[List.findIdx_eq hlt]
   refine⟨hp,fun j hj=>?_⟩
   have:=List.any_eq_false.1 hall (l[j]) (by rw[List.mem_take_iff_getElem];exact⟨j,by omega,rfl⟩)
   simpa using this
  have han:pr l[k]=true→l.any pr=true:=fun hp=>List.any_eq_true.2 ⟨l[k],List.getElem_mem hlt,hp⟩
  have hge:l[k]? = some l[k]:=List.getElem?_eq_getElem hlt
  generalize l[k]=p at *
  simp only[ProdD.dv] at c1
  (refine gO (ai hge (@ProdD.dv.eq_1)) ?_)
  refine Wp.cond (by (refine aK ?_);rfl) (fun h=>?_) (fun h=>?_)
  ·have h1:=hix h
   have h2:=han h
   (refine aI ?_)
   (refine rO (ai h1 (h2)) ?_;try with_reducible exact tt)
  ·(refine aI ?_)
   refine⟨k+1,⟨by omega,by rw[hs,hall,h];rfl⟩,by omega,aD.keep rfl rfl ?_⟩
   (refine aK ?_;try with_reducible exact tt)
 ·have hall:l.any pr=false:=by
   rw[List.take_of_length_le (by simp only[decide_eq_false_iff_not] at h;omega)] at hall;exact hall
  have hix:l.findIdx pr=l.length:=List.findIdx_eq_length.2 (fun x hx=>by have:=List.any_eq_false.1 hall x hx;simpa using this)
  (refine aI ?_)
  (refine rO (ai hall (hix)) ?_;try with_reducible exact tt)
theorem aJq (xs:List (List D)) (hl:xs.length≤1000000):pD Tryz.prog 197 [.lst 3 xs] 83 3 xs:=by
 cases xs with
 | nil =>
  refine pD.of_nil (fun a c=>?_)
  (refine pD.of_body Tryz.func197 rfl rfl Tryz.ntmps197 Tryz.results197 (by simp) ?_)
  cases a with
  | none =>
   (repeat (first|refine Wp.skip ?_|refine Wp.exit ?_|refine Wp.ret ?_|refine Wp.block ?_|refine Wp.label ?_|((first|(first|refine Wp.sreg (fun K hK=>?_)|refine Wp.reg (fun K hK=>?_)|refine Wp.sdrw aA (fun K hK=>?_)|refine Wp.drw aA (fun K hK=>?_))|refine Wp.condG (fun K hT hF=>?_));(refine rO (ai @Option.isNone_none.{0} (@Option.isNone_some.{0})) ?_);(first|(refine hK _ ?_;clear hK K)|(refine⟨by kernel_rfl,hK _ ?_⟩;clear hK K)|(refine hT ?_;clear hT hF K)|(refine hF ?_;clear hT hF K)))|refine Wp.seq ?_))
   (refine aK ?_;try with_reducible exact tt)
  | some ad =>
   (repeat (first|refine Wp.skip ?_|refine Wp.exit ?_|refine Wp.ret ?_|refine Wp.block ?_|refine Wp.label ?_|((first|(first|refine Wp.sreg (fun K hK=>?_)|refine Wp.reg (fun K hK=>?_)|refine Wp.sdrw aA (fun K hK=>?_)|refine Wp.drw aA (fun K hK=>?_))|refine Wp.condG (fun K hT hF=>?_));(refine rO (ai @Option.isNone_none.{0} (@Option.isNone_some.{0})) ?_);(first|(refine hK _ ?_;clear hK K)|(refine⟨by kernel_rfl,hK _ ?_⟩;clear hK K)|(refine hT ?_;clear hT hF K)|(refine hF ?_;clear hT hF K)))|refine Wp.seq ?_))
   (refine aK ?_)
   exact .inl ⟨0,rfl,rfl⟩
 | cons f fs =>
  have hb:(fs.length+1)*24≤140737488355328:=by simp at hl;omega
  (refine pD.of_body Tryz.func197 rfl rfl Tryz.ntmps197 Tryz.results197 (by simp) ?_)
  (repeat (first|refine Wp.skip ?_|refine Wp.exit ?_|refine Wp.ret ?_|refine Wp.block ?_|refine Wp.label ?_|((first|(first|refine Wp.sreg (fun K hK=>?_)|refine Wp.reg (fun K hK=>?_)|refine Wp.sdrw aA (fun K hK=>?_)|refine Wp.drw aA (fun K hK=>?_))|refine Wp.condG (fun K hT hF=>?_));(refine rO (hb) ?_);(first|(refine hK _ ?_;clear hK K)|(refine⟨by kernel_rfl,hK _ ?_⟩;clear hK K)|(refine hT ?_;clear hT hF K)|(refine hF ?_;clear hT hF K)))|refine Wp.seq ?_))
  (refine aK ?_)
  exact .inl ⟨0,rfl,rfl⟩
theorem aJt (p:ProdD) (hl:p.seen.length≤100000):aJ Tryz.prog 180 [.agg p.dv] (.agg p.dv):=by
 have c1:=(aJq (p.seen.map SeenD.dv) (by simp;omega)).fun
 (refine aJ.of_body Tryz.func180 rfl rfl Tryz.ntmps180 Tryz.results180 (by simp) ?_)
 (refine gO (@ProdD.dv.eq_1) ?_)
 (refine rO (@ProdD.dv.eq_1) ?_;try with_reducible exact tt)
abbrev pzD:ProdD:=⟨0,0,0,[]⟩
theorem aU4:jA (.agg [int 0,int 0,int 0,bU]) (.agg pzD.dv):=jA.agg (.cons (.refl _) (.cons (.refl _) (.cons (.refl _) (.cons (.nil 3) .nil))))
def eI (l:List ProdD) (pid:Int):ProdD × Bool:=match l.find? (fun p=>p.pid == pid) with
 | some p=>(p,true)
 | none=>(pzD,false)
theorem pN {α:Type} (pr:α→Bool):∀ (l:List α),l.any pr=true→l[l.findIdx pr]? = l.find? pr
 | [],h=>by simp at h
 | a::l,h=>by
  rw[List.findIdx_cons,List.find?_cons]
  cases hp:pr a with
  | true=>simp
  | false =>
   simp only[List.any_cons,hp,Bool.false_or] at h
   simpa using pN pr l h
theorem aH7 (p:ProdD) (pid:Int):aJ Tryz.prog 179 [.agg p.dv,.ptr [int pid] 0] (dC (p.pid == pid)):=by
 (refine aJ.of_body Tryz.func179 rfl rfl Tryz.ntmps179 Tryz.results179 (by simp) ?_)
 (refine gO (@ProdD.dv.eq_1) ?_)
 (refine aK ?_;try with_reducible exact tt)
theorem aPc (l:List ProdD) (pid:Int) (hs:SmallL l):aJ Tryz.prog 149 [.lst 4 (l.map ProdD.dv),int pid] (.tup [.agg (eI l pid).1.dv,dC (eI l pid).2]):=by
 have c1:=aMy l 179 [.ptr [int pid] 0] (fun p=>p.pid == pid) hs.len (fun x _=>aH7 x pid)
 (refine aJ.of_bodyW Tryz.func149 rfl rfl Tryz.ntmps149 Tryz.results149 (by simp) ?_)
 (refine aI ?_)
 (refine Wp.weak (aD.freeze (id:=0) (by (refine aK ?_);rfl) (by (refine aK ?_);rfl)) ?_)
 cases ha:l.any (fun p=>p.pid == pid) with
 | false =>
  have hn:l.find? (fun p=>p.pid == pid)=none:=List.find?_eq_none.2 (fun x hx=>by simpa using List.any_eq_false.1 ha x hx)
  have e1:eI l pid=(pzD,false):=by simp only[eI,hn]
  rw[ha] at c1
  rw[e1]
  (refine aI ?_)
  (refine aK ?_)
  exact⟨_,rfl,jA.tup (.cons aU4 (.cons (.refl _) .nil))⟩
 | true =>
  rw[ha] at c1
  have hfi:=pN _ l ha
  obtain⟨x,hx,hpx⟩:=List.any_eq_true.1 ha
  cases hq:l.find? (fun p=>p.pid == pid) with
  | none=>have:=List.find?_eq_none.1 hq x hx;exact absurd hpx this
  | some p =>
   have e1:eI l pid=(p,true):=by simp only[eI,hq]
   rw[hq] at hfi
   have c2:=aJt p (hs.seen p (List.mem_of_getElem? hfi))
   rw[e1]
   generalize l.findIdx (fun p=>p.pid == pid)=k at *
   simp only[ProdD.dv] at c2
   (refine gO (ai hfi (@ProdD.dv.eq_1)) ?_)
   (refine rO (@ProdD.dv.eq_1) ?_)
   exact⟨_,rfl,fun K v h=>h⟩
theorem aOo (f g:SeenD):∃ fs,Tryz.prog.underlying 83=some (.struct fs)∧uV Tryz.prog 9999 #[.int .i64 f.seq,.int .i64 f.count,.int .i64 f.base] #[.int .i64 g.seq,.int .i64 g.count,.int .i64 g.base] fs.toList=some (decide (f=g)):=by
 refine⟨_,Tryz.underlying83,?_⟩
 have ii:aT Tryz.prog (isAgg 3)=some false:=by kernel_rfl
 have si:=fun x y=>uW (d:=9998) Tryz.underlying3 .i64 x y
 simp only[Nat.reduceAdd] at si
 obtain⟨a1,a2,a3⟩:=f
 obtain⟨b1,b2,b3⟩:=g
 have e:decide (SeenD.mk a1 a2 a3=SeenD.mk b1 b2 b3)=(a1 == b1 && (a2 == b2 && (a3 == b3))):=by rw[Bool.eq_iff_iff];simp only[SeenD.mk.injEq,Bool.and_eq_true,beq_iff_eq,decide_eq_true_eq]
 rw[e]
 cases h1:(a1 == b1)<;>cases h2:(a2 == b2)<;>cases h3:(a3 == b3)<;>simp[uV,ii,si,aEd,h1,h2,h3]
theorem aCt (x y:Operand) (f g:SeenD):gG Tryz.prog .eql 83 x y (.agg [.d (int f.seq),.d (int f.count),.d (int f.base)]) (.agg [.d (int g.seq),.d (int g.count),.d (int g.base)])=some (Res.pure (vb (decide (f=g))))∧gG Tryz.prog .neq 83 x y (.agg [.d (int f.seq),.d (int f.count),.d (int f.base)]) (.agg [.d (int g.seq),.d (int g.count),.d (int g.base)])=some (Res.pure (vb (!decide (f=g)))):=by
 obtain⟨fs,hu,he⟩:=aOo f g
 exact yX hu (by kernel_rfl) (by kernel_rfl) he
def tX (a b:ProdD):Bool:=a.pid != b.pid || a.epoch != b.epoch || a.next != b.next || (a.seen.length:Int) != (b.seen.length:Int)
theorem aFq (a b:ProdD) (hl:a.seen.length<2 ^ 40):aJ Tryz.prog 93 [.agg a.dv,.agg b.dv] (dC (decide (a=b))):=by
 (refine aJ.of_body Tryz.func93 rfl rfl Tryz.ntmps93 Tryz.results93 (by simp) ?_)
 (refine gO (@ProdD.dv.eq_1) ?_)
 (first|refine Wp.sto 33 (vb (tX a b)) ?_ ?_|refine Wp.rtoS 33 (vb (tX a b)) ?_ ?_|(refine Wp.seq ?_;first|refine Wp.sto 33 (vb (tX a b)) ?_ ?_|refine Wp.rtoS 33 (vb (tX a b)) ?_ ?_))
 ·unfold tX;((rcases Bool.eq_false_or_eq_true (a.pid != b.pid) with hL1|hL1)<;>(rcases Bool.eq_false_or_eq_true (a.epoch != b.epoch) with hL2|hL2)<;>(rcases Bool.eq_false_or_eq_true (a.next != b.next) with hL3|hL3)<;>(rcases Bool.eq_false_or_eq_true ((a.seen.length:Int) != (b.seen.length:Int)) with hL4|hL4)<;>(((refine rO (ai hL1 (ai hL2 (ai hL3 (ai hL4 (@ProdD.dv.eq_1))))) ?_;try with_reducible exact tt);(repeat (refine aQ (by assumption) ?_;(refine rO (ai hL1 (ai hL2 (ai hL3 (ai hL4 (@ProdD.dv.eq_1))))) ?_))));all_goals (exact (show aH _ _=true by kernel_rfl))))
 refine Wp.cond (by (refine aK ?_);rfl) (fun h=>?_) (fun h=>?_)
 ·have hf:decide (a=b)=false:=by
   refine decide_eq_false (fun e=>?_)
   subst e
   simp[tX] at h
  (refine aI ?_)
  (refine rO (hf) ?_;try with_reducible exact tt)
 simp only[tX,Bool.or_eq_false_iff,bne_eq_false_iff_eq] at h
 obtain⟨⟨⟨h1,h2⟩,h3⟩,h5⟩:=h
 have hlen:a.seen.length=b.seen.length:=by omega
 (refine gO (@ProdD.dv.eq_1) ?_)
 refine Wp.loop (fun k:Nat=>⟨dI [(2,.c (.own 0 0)),(3,.c (.own 1 0)),(5,vi .i64 k)],bJ [(0,.cells (a.dv.map .d)),(1,.cells (b.dv.map .d))],2,52,0⟩) (fun k=>k≤a.seen.length∧a.seen.take k=b.seen.take k) (fun k=>a.seen.length - k) 0 ⟨Nat.zero_le _,rfl⟩ ?_ ?_
 ·refine aD.keep rfl rfl ?_
  (refine rO (@ProdD.dv.eq_1) ?_;try with_reducible exact tt)
 rintro k ⟨hk,hall⟩
 (refine gO (@ProdD.dv.eq_1) ?_)
 refine Wp.cond (by (refine aK ?_);rfl) (fun h=>?_) (fun h=>?_)
 ·have hlt:k<a.seen.length:=by simpa using h
  have hlt2:k<b.seen.length:=by omega
  have g1:a.seen[k]? = some a.seen[k]:=List.getElem?_eq_getElem hlt
  have g2:b.seen[k]? = some b.seen[k]:=List.getElem?_eq_getElem hlt2
  have t1:=aF a.seen k hlt
  have t2:=aF b.seen k hlt2
  have hne:a.seen[k]≠b.seen[k]→¬ a=b:=fun hx e=>by subst e;exact hx rfl
  generalize a.seen[k]=x at *
  generalize b.seen[k]=y at *
  (refine gO (ai g1 (ai g2 (ai @SeenD.dv.eq_1 (@aCt)))) ?_)
  refine Wp.cond (by (refine aK ?_);rfl) (fun h=>?_) (fun h=>?_)
  ·have hf:decide (a=b)=false:=decide_eq_false (hne (by simpa using h))
   (refine aI ?_)
   (refine rO (hf) ?_;try with_reducible exact tt)
  ·simp only[Bool.not_eq_false',decide_eq_true_eq] at h
   (refine aI ?_)
   refine⟨k+1,⟨by omega,by rw[t1,t2,hall,h]⟩,by omega,aD.keep rfl rfl ?_⟩
   (refine rO (@ProdD.dv.eq_1) ?_;try with_reducible exact tt)
 ·have hk:k=a.seen.length:=by simp only[decide_eq_false_iff_not] at h;omega
  have hf:decide (a=b)=true:=by
   rw[List.take_of_length_le (by omega),List.take_of_length_le (by omega)] at hall
   obtain⟨a1,a2,a3,a4⟩:=a
   obtain⟨b1,b2,b3,b4⟩:=b
   simp only at h1 h2 h3 hall
   subst h1 h2 h3 hall
   simp
  (refine aI ?_)
  (refine rO (hf) ?_;try with_reducible exact tt)

end Go.Proofs.YtkmfmphpndhkjaaGreatDoor
