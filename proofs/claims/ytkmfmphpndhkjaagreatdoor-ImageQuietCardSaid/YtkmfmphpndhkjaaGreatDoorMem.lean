/- Slices in memory: what a slice value reads as,and that it reads so as long as what lay below a bound stays. -/
import Derived.Below
import Derived.Lib.Hide
import Derived.WalkKit
import Derived.Deep.Draws
namespace Go.Proofs.YtkmfmphpndhkjaaGreatDoor
open Go Go.RowKit
abbrev S (l:List UInt8):Value:=.string ⟨l.toArray⟩
theorem bAj (s:ByteArray):Value.string s=S s.data.toList:=rfl
def gF {α:Type} (B:Nat) (w:World) (sz:Nat) (R:List Value→α→Prop) (v:Value) (xs:List α):Prop :=
 ∃ (a:Option Addr) (c:Nat),v = .slice a xs.length c∧xs.length≤c∧(xs≠[]→∃ b off,a=some ⟨b,off,none⟩∧b<B ∧
  ∀ i (h:i<xs.length),∃ cs,cs.length=sz∧R cs xs[i]∧∀ j,j<sz→w.cell? ⟨b,off+i*sz+j,none⟩=cs[j]?)
theorem gF.mono {α:Type} {B B' : Nat} {w w' : World} {sz:Nat} {R R' : List Value→α→Prop} {v:Value} {xs:List α} (h:gF B w sz R v xs) (hb:Below B w w') (hB:B≤B') (hR:∀ cs x,x ∈ xs→R cs x→R' cs x):gF B' w' sz R' v xs:=by
 obtain⟨a,c,hv,hc,hx⟩:=h
 refine⟨a,c,hv,hc,fun hne=>?_⟩
 obtain⟨b,off,ha,hlt,hel⟩:=hx hne
 refine⟨b,off,ha,by omega,fun i hi=>?_⟩
 obtain⟨cs,h1,h2,h3⟩:=hel i hi
 exact⟨cs,h1,hR _ _ (List.getElem_mem hi) h2,fun j hj=>by rw[← h3 j hj];exact hb.cell (p:=⟨b,off+i*sz+j,none⟩) hlt⟩
theorem gF.below {α:Type} {B:Nat} {w w' : World} {sz:Nat} {R:List Value→α→Prop} {v:Value} {xs:List α} (h:gF B w sz R v xs) (hb:Below B w w'):gF B w' sz R v xs :=
 h.mono hb (Nat.le_refl _) (fun _ _ _ h=>h)
theorem gF.nil {α:Type} (B:Nat) (w:World) (sz:Nat) (R:List Value→α→Prop) (a:Option Addr) (c:Nat):gF B w sz R (.slice a 0 c) [] :=
 ⟨a,c,rfl,Nat.zero_le _,fun h=>absurd rfl h⟩
theorem bAd {w:World} {b o sz:Nat} {cs:List Value} (h:∀ j,j<sz→w.cell? ⟨b,o+j,none⟩=cs[j]?) (hs:0<sz) {v:Value} (hv:cs[0]? = some v):w.cell? ⟨b,o,none⟩=some v:=(h 0 hs).trans hv
theorem bAe {w:World} {b o sz:Nat} {cs:List Value} (h:∀ j,j<sz→w.cell? ⟨b,o+j,none⟩=cs[j]?) (j:Nat) (hs:j<sz) {v:Value} (hv:cs[j]? = some v):w.cell? ⟨b,o+j,none⟩=some v:=(h j hs).trans hv
def dF (W:World) (B:Nat) (cs:Array Value) (t:TypeId):Prop:=W.heap[B]? = some (.cells cs t (0,0))
theorem dF.kept {W W' : World} {B:Nat} {cs:Array Value} {t:TypeId} {row:Option Nat} (h:dF W B cs t) (hg:W.grownBy W' row) (hne:row≠some B):dF W' B cs t :=
 (hg.block B (Array.getElem?_eq_some_iff.1 h).1 (fun e=>hne e.symm)).trans h
theorem dF.cell {W:World} {B:Nat} {cs:Array Value} {t:TypeId} (h:dF W B cs t) (j:Nat):W.cell? ⟨B,j,none⟩=cs[j]?:=by simp[World.cell?,show W.heap[B]? = _ from h]
theorem dF.frozen {W:World} {B:Nat} {cs:Array Value} {t:TypeId} (h:dF W B cs t) (j:Nat):W.frozen? ⟨B,j,none⟩=false:=by simp[World.frozen?,show W.heap[B]? = _ from h]
theorem dF.lt {W:World} {B:Nat} {cs:Array Value} {t:TypeId} (h:dF W B cs t):B<W.heap.size:=(Array.getElem?_eq_some_iff.1 h).1
theorem dF.alloc {W:World} {B:Nat} {cs:Array Value} {t:TypeId} (h:dF W B cs t) (o:Obj):dF (W.alloc o) B cs t:=(Below.heap_alloc W o B h.lt).trans h
theorem dF.new (W:World) (cs:Array Value) (t:TypeId):dF (W.alloc (.cells cs t)) W.heap.size cs t:=heap_alloc_new W _
theorem dF.set {W:World} {B:Nat} {cs:Array Value} {t:TypeId} (h:dF W B cs t) (j:Nat) (v:Value):dF (W.setCell ⟨B,j,none⟩ v) B (cs.setIfInBounds j v) t:=by
 have hlt:=h.lt
 unfold dF at *
 simp only[World.setCell,Array.getElem?_modify]
 rw[h];simp
theorem dF.other {W:World} {B B' : Nat} {cs:Array Value} {t:TypeId} (h:dF W B cs t) (hne:B≠B') (j:Nat) (v:Value):dF (W.setCell ⟨B',j,none⟩ v) B cs t:=(Below.heap_setCell W ⟨B',j,none⟩ v B hne).trans h
theorem dF.below {W W' : World} {B n:Nat} {cs:Array Value} {t:TypeId} (h:dF W B cs t) (hb:Below n W W') (hB:B<n):dF W' B cs t:=(hb.block B hB).trans h
theorem _root_.Go.RowKit.Below.drewN {B:Nat} {a w:World} (h:Below B a w) (n:Nat):Below B a (w.drewN n):=⟨h.os,h.tape,h.output,h.size,h.block⟩
theorem _root_.Go.RowKit.Below.then {B:Nat} {a b c:World} (h:Below B a b) (k:Below b.heap.size b c) (hB:B≤b.heap.size):Below B a c:=h.trans (k.mono hB)
theorem aHc {α:Type} {cells:α→List Value} {sz:Nat}:∀ {xs:List α},(∀ x ∈ xs,(cells x).length=sz)→∀ (i:Nat) (hi:i<xs.length) (j:Nat),j<sz→(xs.flatMap cells)[i*sz+j]? = (cells xs[i])[j]?
 | [],_,i,hi,_,_=>absurd hi (by simp)
 | x::xs,hs,0,hi,j,hj=>by
  have h:=hs x (by simp)
  rw[List.flatMap_cons,List.getElem?_append_left (by omega)];simp
 | x::xs,hs,i+1,hi,j,hj=>by
  have h:=hs x (by simp)
  rw[List.flatMap_cons,List.getElem?_append_right (by rw[h,Nat.succ_mul];omega)]
  have:=aHc (xs:=xs) (fun y hy=>hs y (List.mem_cons_of_mem _ hy)) i (by simpa using hi) j hj
  rw[h,show (i+1)*sz+j - sz=i*sz+j from by rw[Nat.succ_mul];omega]
  simpa using this
theorem aHd {α:Type} {cells:α→List Value} {sz:Nat}:∀ {xs:List α},(∀ x ∈ xs,(cells x).length=sz)→(xs.flatMap cells).length=xs.length*sz
 | [],_=>by simp
 | x::xs,hs=>by
  have h:=hs x (by simp)
  rw[List.flatMap_cons,List.length_append,aHd (fun y hy=>hs y (by simp[hy])),h,List.length_cons,Nat.succ_mul];omega
theorem gF.of_owns {α:Type} {w:World} {base e sz n:Nat} {v:Value} {cells:α→List Value} {xs:List α} (h:w.ownsRow base e sz v n (xs.flatMap cells)) (hs:∀ x ∈ xs,(cells x).length=sz) (hn:n=xs.length) :
  gF w.heap.size w sz (fun cs x=>cs=cells x) v xs:=by
 subst hn
 obtain⟨hl,⟨rfl,h0⟩|⟨g,cap,cur,rfl,hg,hh,hc,hm,hz,ht⟩⟩:=h
 ·obtain rfl:xs=[]:=List.length_eq_zero_iff.1 h0
  exact gF.nil _ _ _ _ _ _
 ·refine⟨_,cap,rfl,hc,fun _=>⟨g,0,rfl,(Array.getElem?_eq_some_iff.1 hh).1,fun i hi=>⟨cells xs[i],hs _ (List.getElem_mem hi),rfl,fun j hj=>?_⟩⟩⟩
  have hlt:i*sz+j<xs.length*sz:=by
   have:(i+1)*sz≤xs.length*sz:=Nat.mul_le_mul_right sz hi
   rw[Nat.succ_mul] at this;omega
  rw[← aHc hs i hi j hj,← ht]
  simp only[World.cell?,hh,Nat.zero_add]
  rw[List.getElem?_take_of_lt hlt];simp
theorem aUz {w w' : World} {base n e sz k:Nat} {v:Value} {xs:List Value} (h:w.ownsRow base e sz v k xs) (hb:Below n w w') (hn:w.heap.size≤n):w'.ownsRow base e sz v k xs:=by
 obtain⟨h1,h2⟩:=h
 refine⟨h1,?_⟩
 rcases h2 with h2|⟨g,cap,cur,hv,hg,hh,r⟩
 ·exact Or.inl h2
 ·exact Or.inr ⟨g,cap,cur,hv,hg,(hb.block g (Nat.lt_of_lt_of_le (Array.getElem?_eq_some_iff.1 hh).1 hn)).trans hh,r⟩
theorem aV0 {w:World} {base e sz k:Nat} {v:Value} {xs:List Value} (h:w.ownsRow base e sz v k xs):∀ r,v.ownBlock=some r→base≤r:=by
 obtain⟨_,h2⟩:=h
 rcases h2 with ⟨rfl,_⟩|⟨g,cap,cur,rfl,hg,_⟩
 ·intro r hr;cases hr
 ·intro r hr;cases hr;exact hg
end Go.Proofs.YtkmfmphpndhkjaaGreatDoor
