/- The abstract machine (AbsA, AbsB, AbsC, AbsD, AbsE, AbsF, AbsQ, AbsO, AbsMr). -/
import Derived.Below
import Derived.Orders
import Derived.Laws.Append
import Derived.Laws.AppendOwn
import Derived.Laws.CopyRow
import Derived.Laws.Tables
import Derived.Laws.Cells
import Derived.Laws.Entries
import Derived.RangeFuncRecord
import Derived.RangeFuncLeaves
import Derived.RangeFuncIn
import Derived.OrdersIn
import Derived.TacticsIn
import Derived.Laws.MakeOwn
import Derived.Laws.BytesString
import Derived.Laws.BytesArg
import Derived.Laws.IdiomStrings
import Derived.Laws.Strings
namespace Go.Proofs.YtpklhnpchhaccaaGreatDoor
theorem ai {a b : Prop} (x : a) (y : b) : a ∧ b := ⟨x, y⟩
theorem tt : True := True.intro
open Go Go.RowKit
set_option linter.unusedVariables false
set_option linter.unusedSimpArgs false
inductive D where
 | val (v:Value)
 | lst (sz:Nat) (xs:List (List D))
 | ptr (cs:List D) (off:Nat)
 | iface (t:TypeId) (x:D)
 | fn (f:Fn) (caps:List D)
 | agg (cs:List D)
 | tup (rs:List D)
instance :Inhabited D:=⟨.val (.bool false)⟩
abbrev aM:=Nat→Nat→Option Value
def gL (K K' : aM):Prop:=∀ b o v,K b o=some v→K' b o=some v
def Ext (K K' : aM) (n:Nat):Prop:=gL K K'∧∀ b o,b<n→K' b o=K b o
def KW (K:aM) (w:World):Prop:=∀ b o v,K b o=some v→w.cell? ⟨b,o,none⟩=some v
def rK:aM:=fun b o=>if b=0∧o=0 then some (.iface 260 (.agg #[.pointer (some ⟨4,103,none⟩)])) else if b=1∧o=2 then some (.int .u64 100) else none
inductive Rep (K:aM):D→Value→Prop
 | val (v:Value):Rep K (.val v) v
 | lst {sz:Nat} {xs:List (List D)} {vs:List Value} {a:Option Addr} {c:Nat} (hs:∀ x ∈ xs,x.length=sz) (hc:xs.length≤c)
   (hl:xs.flatten.length=vs.length) (hv:∀ (j:Nat) (x:D) (v:Value),xs.flatten[j]? = some x→vs[j]? = some v→Rep K x v) (h1:∀ v ∈ vs,v.oneCell' = true)
   (hk:xs≠[]→∃ b off,a=some ⟨b,off,none⟩∧∀ (j:Nat) v,vs[j]? = some v→K b (off+j)=some v):Rep K (.lst sz xs) (.slice a xs.length c)
 | ptr {cs:List D} {vs:List Value} {b o off:Nat} (hl:cs.length=vs.length) (hv:∀ (j:Nat) (x:D) (v:Value),cs[j]? = some x→vs[j]? = some v→Rep K x v) (h1:∀ v ∈ vs,v.oneCell' = true)
   (hk:∀ (j:Nat) v,vs[j]? = some v→K b (o+j)=some v):Rep K (.ptr cs off) (.pointer (some ⟨b,o+off,none⟩))
 | iface {t:TypeId} {x:D} {v:Value} (h:Rep K x v):Rep K (.iface t x) (.iface t v)
 | fn {f:Fn} {caps:List D} {vs:List Value} (hl:caps.length=vs.length) (hv:∀ (j:Nat) (x:D) (v:Value),caps[j]? = some x→vs[j]? = some v→Rep K x v):Rep K (.fn f caps) (.func f #[] vs.toArray)
 | agg {cs:List D} {vs:List Value} (hl:cs.length=vs.length) (hv:∀ (j:Nat) (x:D) (v:Value),cs[j]? = some x→vs[j]? = some v→Rep K x v) (h1:∀ v ∈ vs,v.oneCell' = true):Rep K (.agg cs) (.agg vs.toArray)
 | tup {cs:List D} {vs:List Value} (hl:cs.length=vs.length) (hv:∀ (j:Nat) (x:D) (v:Value),cs[j]? = some x→vs[j]? = some v→Rep K x v):Rep K (.tup cs) (.tuple vs.toArray)
def fH (K:aM) (ds:List D) (vs:List Value):Prop:=ds.length=vs.length∧∀ (j:Nat) (x:D) (v:Value),ds[j]? = some x→vs[j]? = some v→Rep K x v
theorem Rep.mono {K K' : aM} (h:gL K K') {x:D} {v:Value} (r:Rep K x v):Rep K' x v:=by
 induction r with
 | val v=>exact .val v
 | lst hs hc hl hv h1 hk ih=>exact .lst hs hc hl ih h1 (fun hne=>let ⟨b,off,ha,hj⟩:=hk hne;⟨b,off,ha,fun j v hv=>h _ _ _ (hj j v hv)⟩)
 | ptr hl hv h1 hk ih=>exact .ptr hl ih h1 (fun j v hj=>h _ _ _ (hk j v hj))
 | iface _ ih=>exact .iface ih
 | fn hl hv ih=>exact .fn hl ih
 | agg hl hv h1 ih=>exact .agg hl ih h1
 | tup hl hv ih=>exact .tup hl ih
theorem fH.mono {K K' : aM} (h:gL K K') {ds:List D} {vs:List Value} (r:fH K ds vs):fH K' ds vs:=⟨r.1,fun j x v hx hv=>(r.2 j x v hx hv).mono h⟩
theorem gL.refl (K:aM):gL K K:=fun _ _ _ h=>h
theorem gL.trans {K K' K'' : aM} (h:gL K K') (h' : gL K' K''):gL K K'':=fun _ _ _ x=>h' _ _ _ (h _ _ _ x)
theorem Ext.refl (K:aM) (n:Nat):Ext K K n:=⟨gL.refl K,fun _ _ _=>rfl⟩
theorem Ext.trans {K K' K'' : aM} {n m:Nat} (h:Ext K K' n) (h' : Ext K' K'' m) (hnm:n≤m):Ext K K'' n :=
 ⟨h.1.trans h'.1,fun b o hb=>(h'.2 b o (by omega)).trans (h.2 b o hb)⟩
inductive Cap where
 | d (x:D)
 | own (id off:Nat)
inductive CV where
 | any
 | d (x:D)
 | own (id off:Nat)
 | app (τ sz:Nat) (xs:List (List D))
 | full (sz:Nat) (xs:List (List D))
 | view (id sz off len:Nat)
 | clo (f:Fn) (caps:List Cap)
 | bnd (f:Fn) (caps:List Cap)
 | yld (id:Nat)
 | mt (τ ver:Nat)
 | mpt (τ ver off:Nat)
 | mp (id:Nat)
 | apt (τ sz:Nat) (xs:List (List D)) (ver:Nat)
inductive SV where
 | c (x:CV)
 | agg (cs:List CV)
inductive HE where
 | cells (cs:List CV)
 | froz (ds:List D)
 | row (e sz n:Nat)
 | obj (o:Obj)
 | mrow (e sz ver:Nat) (cs:List CV)
 | ob (cs:List CV) (p:List Value→Obj→Prop)
 | rot (e sz ver:Nat)
abbrev Hp:=Nat→Option HE
def gQ:Option HE→Bool
 | some (.row _ _ _)=>true
 | some (.mrow _ _ _ _)=>true
 | some (.rot _ _ _)=>true
 | _=>false
def nN (n c:Nat):Nat:=n*18446744073709551616+c
def uT (k:Nat):Nat:=k / 18446744073709551616
def tO (k:Nat):Nat:=k % 18446744073709551616
structure G where
 K:aM
 β:Nat→Option Nat
 cap:Nat→Nat
def Cap.ids:Cap→List Nat
 | .d _=>[]
 | .own id _=>[id]
def CV.ids:CV→List Nat
 | .own id _=>[id]
 | .app τ _ _=>[τ]
 | .view id _ _ _=>[id]
 | .clo _ caps=>caps.flatMap Cap.ids
 | .bnd _ caps=>caps.flatMap Cap.ids
 | .yld id=>[id]
 | .mt τ _=>[τ]
 | .mpt τ _ _=>[τ]
 | .mp id=>[id]
 | .apt τ _ _ _=>[τ]
 | _=>[]
def aLa (g:G) (H:Hp):Cap→Value→Prop
 | .d x,v=>Rep g.K x v
 | .own id off,v=>∃ b,g.β id=some b∧v = .pointer (some ⟨b,off,none⟩)∧gQ (H id)=false
def bA (g:G) (H:Hp):CV→Value→Prop
 | .any,_=>True
 | .d x,v=>Rep g.K x v
 | .own id off,v=>∃ b,g.β id=some b∧v = .pointer (some ⟨b,off,none⟩)∧gQ (H id)=false
 | .app τ sz xs,v=>Rep g.K (.lst sz xs) v∧∃ e n,H τ=some (.row e sz n)∧xs.length≤n ∧
   (xs.length=n→((∃ a,v = .slice a xs.length xs.length)∨∃ b,g.β τ=some b∧v = .slice (some ⟨b,0,none⟩) xs.length (g.cap τ)))
 | .full sz xs,v=>Rep g.K (.lst sz xs) v∧∃ a,v = .slice a xs.length xs.length
 | .view id sz off len,v=>∃ b c,g.β id=some b∧v = .slice (some ⟨b,off,none⟩) len c∧len≤c∧gQ (H id)=false
 | .clo f caps,v=>∃ vs:List Value,v = .func f #[] vs.toArray∧caps.length=vs.length∧∀ (j:Nat) (c:Cap) (u:Value),caps[j]? = some c→vs[j]? = some u→aLa g H c u
 | .bnd f caps,v=>∃ vs:List Value,v = .func f vs.toArray #[]∧caps.length=vs.length∧∀ (j:Nat) (c:Cap) (u:Value),caps[j]? = some c→vs[j]? = some u→aLa g H c u
 | .yld id,v=>∃ b,g.β id=some b∧v = .func (.yield b) #[] #[]∧gQ (H id)=false
 | .mp id,v=>∃ b,g.β id=some b∧v = .map (some b)∧gQ (H id)=false
 | .mt τ k,v=>(∃ a m c,v = .slice a m c)∧∃ e sz n cs,H τ=some (.mrow e sz n cs)∧k≤n∧(k=n→(∃ b,g.β τ=some b∧v = .slice (some ⟨b,0,none⟩) (cs.length / sz) (g.cap τ))∨(g.β τ=none∧cs=[]∧∃ a,v = .slice a 0 0))
 | .apt τ sz xs k,v=>Rep g.K (.lst sz xs) v∧∃ e n,H τ=some (.rot e sz n)∧k≤n∧(k=n→(∃ a,v = .slice a xs.length xs.length)∨∃ b off,g.β τ=some b∧v = .slice (some ⟨b,off*sz,none⟩) xs.length (tO (g.cap τ) - off)∧off+xs.length=uT (g.cap τ))
 | .mpt τ k off,v=>(∃ a,v = .pointer a)∧∃ e sz n cs,H τ=some (.mrow e sz n cs)∧k≤n∧(k=n→∃ b,g.β τ=some b∧v = .pointer (some ⟨b,off,none⟩))
def bJ (g:G) (H:Hp) (cs:List CV) (vs:List Value):Prop:=cs.length=vs.length∧∀ (j:Nat) (x:CV) (v:Value),cs[j]? = some x→vs[j]? = some v→bA g H x v
def bD (g:G) (H:Hp):SV→Value→Prop
 | .c x,v=>bA g H x v
 | .agg cs,v=>∃ vs:List Value,v = .agg vs.toArray∧bJ g H cs vs∧∀ u ∈ vs,u.oneCell' = true
def fX (g:G) (H:Hp) (w:World) (id:Nat):HE→Prop
 | .cells cs=>∃ b vs t,g.β id=some b∧w.heap[b]? = some (.cells (List.toArray vs) t (0,0))∧bJ g H cs vs∧(∀ u ∈ vs,u.oneCell' = true)∧∀ o,g.K b o=none
 | .froz ds=>∃ b vs,g.β id=some b∧fH g.K ds vs∧(∀ u ∈ vs,u.oneCell' = true)∧∀ (j:Nat) v,vs[j]? = some v→g.K b j=some v
 | .obj o=>∃ b,g.β id=some b∧w.heap[b]? = some o∧∀ o',g.K b o' = none
 | .mrow e sz n cs=>0<sz∧cs.length % sz=0∧((g.β id=none∧cs=[])∨∃ b cur vs rest,g.β id=some b∧w.heap[b]? = some (.cells cur e (0,0))∧cur.toList=vs++rest∧cur.size=g.cap id*sz∧bJ g H cs vs∧(∀ u ∈ vs,u.oneCell' = true)∧∀ o,g.K b o=none)
 | .ob cs p=>∃ b vs o,g.β id=some b∧w.heap[b]? = some o∧bJ g H cs vs∧p vs o∧∀ o',g.K b o' = none
 | .rot e sz n=>∀ b,g.β id=some b→∃ cur,w.heap[b]? = some (.cells cur e (0,0))∧cur.size=tO (g.cap id)*sz∧uT (g.cap id)≤tO (g.cap id)∧∀ o,uT (g.cap id)*sz≤o→g.K b o=none
 | .row e sz n=>∀ b,g.β id=some b→∃ cur,w.heap[b]? = some (.cells cur e (0,0))∧cur.size=g.cap id*sz∧n≤g.cap id∧∀ o,n*sz≤o→g.K b o=none
structure Fr where
 W:World
 S:Nat→Prop
 ln:List Nat
 g:G
 H:Hp
 ro:Option Nat
def Fr.mine (F:Fr) (b:Nat):Prop:=F.W.heap.size≤b∨F.S b
structure BelowF (F:Fr) (w:World):Prop where
 os:w.os=F.W.os
 tape:w.tape=F.W.tape
 output:w.output=F.W.output
 size:F.W.heap.size≤w.heap.size
 block:∀ k,¬ F.mine k→w.heap[k]? = F.W.heap[k]?
def aI5 (F:Fr) (K K' : aM):Prop:=gL K K'∧∀ b o,¬ F.mine b→K' b o=K b o
theorem Fr.lt {F:Fr} {k:Nat} (h:¬ F.mine k):k<F.W.heap.size:=by unfold Fr.mine at h;omega
theorem Fr.new {F:Fr} {k:Nat} (h:F.W.heap.size≤k):F.mine k:=.inl h
theorem Fr.ne {F:Fr} {k b:Nat} (h:¬ F.mine k) (hb:F.mine b):k≠b:=fun e=>h (e ▸ hb)
theorem BelowF.trans {F:Fr} {w w' : World} (h:BelowF F w) (hb:Below w.heap.size w w'):BelowF F w' :=
 ⟨hb.os.trans h.os,hb.tape.trans h.tape,hb.output.trans h.output,Nat.le_trans h.size hb.size,fun k hk=>(hb.block k (Nat.lt_of_lt_of_le (Fr.lt hk) h.size)).trans (h.block k hk)⟩
theorem aI5.trans {F:Fr} {K K' K'' : aM} {n:Nat} (h:aI5 F K K') (h' : Ext K' K'' n) (hn:F.W.heap.size≤n):aI5 F K K'' :=
 ⟨h.1.trans h'.1,fun b o hb=>(h'.2 b o (Nat.lt_of_lt_of_le (Fr.lt hb) hn)).trans (h.2 b o hb)⟩
def Fr.of (w:World) (K:aM):Fr:=⟨w,fun _=>False,[],⟨K,fun _=>none,fun _=>0⟩,fun _=>none,none⟩
theorem Fr.of_mine {w:World} {K:aM} {b:Nat} (h:(Fr.of w K).mine b):w.heap.size≤b:=h.elim id False.elim
theorem Fr.of_below (w:World) (K:aM):BelowF (Fr.of w K) w:=⟨rfl,rfl,rfl,Nat.le_refl _,fun _ _=>rfl⟩
theorem Fr.of_ext (w:World) (K:aM):aI5 (Fr.of w K) K K:=⟨gL.refl _,fun _ _ _=>rfl⟩
theorem BelowF.of {w w' : World} {K:aM} (h:BelowF (Fr.of w K) w'):Below w.heap.size w w':=⟨h.os,h.tape,h.output,h.size,fun k hk=>h.block k (fun h=>by have:=Fr.of_mine h;omega)⟩
theorem aI5.of {w:World} {K K' K'' : aM} (h:aI5 (Fr.of w K) K' K''):Ext K' K'' w.heap.size:=⟨h.1,fun b o hb=>h.2 b o (fun h=>by have:=Fr.of_mine h;omega)⟩
def aOv (F:Fr) (g:G) (H:Hp):Prop:=∀ x v,(∀ i ∈ CV.ids x,i ∈ F.ln)→bA F.g F.H x v→bA g H x v
structure RelH (W0:Fr) (K0:aM) (g:G) (H:Hp) (w:World):Prop where
 below:BelowF W0 w
 ext:aI5 W0 K0 g.K
 kw:KW g.K w
 holds:∀ id he,H id=some he→fX g H w id he
 base:∀ id b,g.β id=some b→W0.mine b
 dom:∀ id,H id=none→g.β id=none
 sep:∀ i j b,g.β i=some b→g.β j=some b→i=j
 frozlt:∀ id b,g.β id=some b→b<w.heap.size
 glob:gL rK K0
 lent:aOv W0 g H
def dJ (g:G) (H:Hp) (g' : G) (H' : Hp):Prop:=∀ x v,bA g H x v→bA g' H' x v
theorem dJ.refl (g:G) (H:Hp):dJ g H g H:=fun _ _ h=>h
theorem dJ.trans {g g' g'' : G} {H H' H'' : Hp} (h:dJ g H g' H') (h' : dJ g' H' g'' H''):dJ g H g'' H'':=fun _ _ x=>h' _ _ (h _ _ x)
theorem Fr.of_lent (w:World) (K:aM):aOv (Fr.of w K) ⟨K,fun _=>none,fun _=>0⟩ (fun _=>none):=fun _ _ _ h=>h
theorem dO {g g' : G} {H H' : Hp} {f:Fn} {caps:List Cap} {v:Value} (r:bA g H (.clo f caps) v) (hK:gL g.K g'.K) (ho:∀ id off v,bA g H (.own id off) v→bA g' H' (.own id off) v):bA g' H' (.clo f caps) v:=by
 obtain⟨vs,hv,hl,hc⟩:=r
 refine⟨vs,hv,hl,fun j c u hj hu=>?_⟩
 have:=hc j c u hj hu
 cases c with
 | d x=>exact Rep.mono hK this
 | own id off=>exact ho id off u this
theorem dN {g g' : G} {H H' : Hp} {f:Fn} {caps:List Cap} {v:Value} (r:bA g H (.bnd f caps) v) (hK:gL g.K g'.K) (ho:∀ id off v,bA g H (.own id off) v→bA g' H' (.own id off) v):bA g' H' (.bnd f caps) v:=by
 obtain⟨vs,hv,hl,hc⟩:=r
 refine⟨vs,hv,hl,fun j c u hj hu=>?_⟩
 have:=hc j c u hj hu
 cases c with
 | d x=>exact Rep.mono hK this
 | own id off=>exact ho id off u this
theorem dP {g g' : G} {H H' : Hp} {id:Nat} {v:Value} (r:bA g H (.yld id) v) (ho:∀ id off v,bA g H (.own id off) v→bA g' H' (.own id off) v):bA g' H' (.yld id) v:=by
 obtain⟨b,hb,hv,hr⟩:=r
 obtain⟨b',hb',he,hr'⟩:=ho id 0 (.pointer (some ⟨b,0,none⟩)) ⟨b,hb,rfl,hr⟩
 simp only[Value.pointer.injEq,Option.some.injEq,Addr.mk.injEq,and_true] at he
 exact⟨b',hb',by rw[hv,he],hr'⟩
def yX (g:G) (H:Hp) (g' : G) (H' : Hp):Prop:=∀ τ e sz n cs,H τ=some (.mrow e sz n cs)→H' τ=some (.mrow e sz n cs)∧g'.β τ=g.β τ∧g'.cap τ=g.cap τ
theorem yX.refl (g:G) (H:Hp):yX g H g H:=fun _ _ _ _ _ h=>⟨h,rfl,rfl⟩
theorem iB {g g' : G} {H H' : Hp} {τ k:Nat} {v:Value} (hM:yX g H g' H') (r:bA g H (.mt τ k) v):bA g' H' (.mt τ k) v:=by
 obtain⟨h1,e,sz,n,cs,hτ,hk,h2⟩:=r
 obtain⟨m1,m2,m3⟩:=hM τ e sz n cs hτ
 refine⟨h1,e,sz,n,cs,m1,hk,fun hn=>?_⟩
 rw[m2,m3];exact h2 hn
theorem iA {g g' : G} {H H' : Hp} {τ k o:Nat} {v:Value} (hM:yX g H g' H') (r:bA g H (.mpt τ k o) v):bA g' H' (.mpt τ k o) v:=by
 obtain⟨h1,e,sz,n,cs,hτ,hk,h2⟩:=r
 obtain⟨m1,m2,m3⟩:=hM τ e sz n cs hτ
 refine⟨h1,e,sz,n,cs,m1,hk,fun hn=>?_⟩
 rw[m2];exact h2 hn
def TLe (g:G) (H:Hp) (g' : G) (H' : Hp):Prop:=∀ τ e sz n,H τ=some (.rot e sz n)→H' τ=some (.rot e sz n)∧g'.β τ=g.β τ∧g'.cap τ=g.cap τ
theorem rN {g g' : G} {H H' : Hp} {τ τ' sz k:Nat} {xs:List (List D)} {v:Value} (hK:gL g.K g'.K) (r:bA g H (.apt τ sz xs k) v) (hH:∀ e n,H τ=some (.rot e sz n)→H' τ' = some (.rot e sz n)) (hβ:g'.β τ' = g.β τ) (hcap:g'.cap τ' = g.cap τ):bA g' H' (.apt τ' sz xs k) v:=by
 obtain⟨h1,e,n,hτ,hk,h2⟩:=r
 refine⟨h1.mono hK,e,n,hH e n hτ,hk,fun hn=>?_⟩
 rw[hβ,hcap];exact h2 hn
theorem fZ {g g' : G} {H H' : Hp} {τ sz k:Nat} {xs:List (List D)} {v:Value} (hK:gL g.K g'.K) (hT:TLe g H g' H') (r:bA g H (.apt τ sz xs k) v):bA g' H' (.apt τ sz xs k) v:=by
 have r0:=r
 obtain⟨h1,e,n,hτ,hk,h2⟩:=r
 obtain⟨m1,m2,m3⟩:=hT τ e sz n hτ
 exact rN hK r0 (fun e' n' h=>by rw[hτ] at h;cases h;exact m1) m2 m3
theorem bM {g g' : G} {H H' : Hp} {w w' : World} {id id' e sz n:Nat} (h:fX g H w id (.rot e sz n)) (hβ:g'.β id' = g.β id) (hcap:g'.cap id' = g.cap id) (hheap:∀ b o,g.β id=some b→w.heap[b]? = some o→w'.heap[b]? = some o)
  (hK:∀ b o,g.β id=some b→g.K b o=none→b<w.heap.size→g'.K b o=none):fX g' H' w' id' (.rot e sz n):=by
 intro b hb
 rw[hβ] at hb
 obtain⟨cur,h1,h2,h3,h4⟩:=h b hb
 exact⟨cur,hheap b _ hb h1,by rw[hcap];exact h2,by rw[hcap];exact h3,fun o ho=>hK b o hb (h4 o (by rw[hcap] at ho;exact ho)) (Array.getElem?_eq_some_iff.1 h1).1⟩
theorem fC {g g' : G} {H H' : Hp} {id:Nat} {v:Value} (r:bA g H (.mp id) v) (ho:∀ id off v,bA g H (.own id off) v→bA g' H' (.own id off) v):bA g' H' (.mp id) v:=by
 obtain⟨b,hb,hv,hr⟩:=r
 obtain⟨b',hb',he,hr'⟩:=ho id 0 (.pointer (some ⟨b,0,none⟩)) ⟨b,hb,rfl,hr⟩
 simp only[Value.pointer.injEq,Option.some.injEq,Addr.mk.injEq,and_true] at he
 exact⟨b',hb',by rw[hv,he],hr'⟩
theorem aOv.trans {F:Fr} {g g' : G} {H H' : Hp} (h:aOv F g H) (h' : dJ g H g' H'):aOv F g' H':=fun x v hi r=>h' _ _ (h x v hi r)
theorem wH {g g' : G} {H H' : Hp} {w w' : World} {id id' e sz n:Nat} {cs:List CV} (h:fX g H w id (.mrow e sz n cs)) (hβ:g'.β id' = g.β id) (hcap:g'.cap id' = g.cap id) (hheap:∀ b o,g.β id=some b→w.heap[b]? = some o→w'.heap[b]? = some o) (hle:∀ x ∈ cs,∀ v,bA g H x v→bA g' H' x v)
  (hK:∀ b o,g.β id=some b→g.K b o=none→b<w.heap.size→g'.K b o=none):fX g' H' w' id' (.mrow e sz n cs):=by
 obtain⟨h1,h2,h3⟩:=h
 refine⟨h1,h2,?_⟩
 rcases h3 with ⟨h4,h5⟩|⟨b,cur,vs,rest,h4,h5,h6,h7,h8,h9,h10⟩
 ·exact .inl ⟨hβ.trans h4,h5⟩
 ·refine .inr ⟨b,cur,vs,rest,hβ.trans h4,hheap b _ h4 h5,h6,by rw[hcap];exact h7,⟨h8.1,fun j x v hx hv=>hle _ (List.mem_of_getElem? hx) _ (h8.2 j x v hx hv)⟩,h9,fun o=>hK b o h4 (h10 o) ?_⟩
  exact (Array.getElem?_eq_some_iff.1 h5).1
theorem aCc {g g' : G} {H H' : Hp} {w w' : World} {id id' : Nat} {cs:List CV} {p:List Value→Obj→Prop} (h:fX g H w id (.ob cs p)) (hβ:g'.β id' = g.β id) (hcap:g'.cap id' = g.cap id) (hheap:∀ b o,g.β id=some b→w.heap[b]? = some o→w'.heap[b]? = some o) (hle:∀ x ∈ cs,∀ v,bA g H x v→bA g' H' x v)
  (hK:∀ b o,g.β id=some b→g.K b o=none→b<w.heap.size→g'.K b o=none):fX g' H' w' id' (.ob cs p):=by
 obtain⟨b,vs,o,h4,h5,h8,h9,h10⟩:=h
 exact⟨b,vs,o,hβ.trans h4,hheap b _ h4 h5,⟨h8.1,fun j x v hx hv=>hle _ (List.mem_of_getElem? hx) _ (h8.2 j x v hx hv)⟩,h9,fun o=>hK b o h4 (h10 o) (Array.getElem?_eq_some_iff.1 h5).1⟩
theorem yI {g g' : G} {H H' : Hp} {τ τ' k:Nat} {v:Value} (r:bA g H (.mt τ k) v) (hH:∀ e sz n cs,H τ=some (.mrow e sz n cs)→∃ cs',H' τ' = some (.mrow e sz n cs')∧cs'.length=cs.length) (hβ:g'.β τ' = g.β τ) (hcap:g'.cap τ' = g.cap τ):bA g' H' (.mt τ' k) v:=by
 obtain⟨h1,e,sz,n,cs,hτ,hk,h2⟩:=r
 obtain⟨cs',q1,q2⟩:=hH e sz n cs hτ
 refine⟨h1,e,sz,n,cs',q1,hk,fun hn=>?_⟩
 rw[hβ,hcap,q2]
 rcases h2 hn with h|⟨a,b,c⟩
 ·exact .inl h
 ·exact .inr ⟨a,List.eq_nil_of_length_eq_zero (by rw[q2,b];rfl),c⟩
theorem yG {g g' : G} {H H' : Hp} {τ τ' k o:Nat} {v:Value} (r:bA g H (.mpt τ k o) v) (hH:∀ e sz n cs,H τ=some (.mrow e sz n cs)→∃ cs',H' τ' = some (.mrow e sz n cs')∧cs'.length=cs.length) (hβ:g'.β τ' = g.β τ):bA g' H' (.mpt τ' k o) v:=by
 obtain⟨h1,e,sz,n,cs,hτ,hk,h2⟩:=r
 obtain⟨cs',q1,q2⟩:=hH e sz n cs hτ
 refine⟨h1,e,sz,n,cs',q1,hk,fun hn=>?_⟩
 rw[hβ];exact h2 hn
theorem bY {g g' : G} {H H' : Hp} {w w' : World} {id e sz n:Nat} {cs:List CV} (h:fX g H w id (.mrow e sz n cs)) (hβ:g'.β id=g.β id) (hcap:g'.cap id=g.cap id) (hheap:∀ b o,g.β id=some b→w.heap[b]? = some o→w'.heap[b]? = some o) (hle:dJ g H g' H')
  (hK:∀ b o,g.β id=some b→g.K b o=none→b<w.heap.size→g'.K b o=none):fX g' H' w' id (.mrow e sz n cs):=by
 obtain⟨h1,h2,h3⟩:=h
 refine⟨h1,h2,?_⟩
 rcases h3 with ⟨h4,h5⟩|⟨b,cur,vs,rest,h4,h5,h6,h7,h8,h9,h10⟩
 ·exact .inl ⟨hβ.trans h4,h5⟩
 ·refine .inr ⟨b,cur,vs,rest,hβ.trans h4,hheap b _ h4 h5,h6,by rw[hcap];exact h7,⟨h8.1,fun j x v hx hv=>hle _ _ (h8.2 j x v hx hv)⟩,h9,fun o=>hK b o h4 (h10 o) ?_⟩
  exact (Array.getElem?_eq_some_iff.1 h5).1
theorem cT {g g' : G} {H H' : Hp} {w w' : World} {id:Nat} {cs:List CV} {p:List Value→Obj→Prop} (h:fX g H w id (.ob cs p)) (hβ:g'.β id=g.β id) (hcap:g'.cap id=g.cap id) (hheap:∀ b o,g.β id=some b→w.heap[b]? = some o→w'.heap[b]? = some o) (hle:dJ g H g' H')
  (hK:∀ b o,g.β id=some b→g.K b o=none→b<w.heap.size→g'.K b o=none):fX g' H' w' id (.ob cs p):=aCc h hβ hcap hheap (fun x _ v q=>hle x v q) hK
theorem bJ.mono {g g' : G} {H H' : Hp} (h:dJ g H g' H') {cs:List CV} {vs:List Value} (r:bJ g H cs vs):bJ g' H' cs vs:=⟨r.1,fun j x v hx hv=>h _ _ (r.2 j x v hx hv)⟩
theorem bD.mono {g g' : G} {H H' : Hp} (h:dJ g H g' H') {x:SV} {v:Value} (r:bD g H x v):bD g' H' x v:=by
 cases x with
 | c x=>exact h _ _ r
 | agg cs=>obtain⟨vs,hv,hr,h1⟩:=r;exact⟨vs,hv,hr.mono h,h1⟩
structure Fx where
 lent:List Nat
 dfs:List Nat
 rd:Bool
 lt:Option (G × Hp)
instance (n:Nat):OfNat Fx n:=⟨⟨[],[],false,none⟩⟩
abbrev dfO:HE:=.obj (.deferred (some []))
def cJ (g:G) (H:Hp):List Nat→List Deferred→Prop
 | [],[]=>True
 | id::ids,d::ds=>(∃ b,g.β id=some b∧d = { target:=.collected b,args:=#[] })∧H id=some dfO∧cJ g H ids ds
 | _,_=>False
structure St where
 env:Nat→SV
 H:Hp
 nx:Nat
 sz:Nat
 fx:Fx
structure Rel (W0:Fr) (K0:aM) (g:G) (σ:St) (a:Act) (w:World):Prop where
 mem:RelH W0 K0 g σ.H w
 env:∀ t,bD g σ.H (σ.env t) (a.tmps.getD t undef)
 size:a.tmps.size=σ.sz
 defers:cJ g σ.H σ.fx.dfs a.defers
 ln:W0.ln=σ.fx.lent
 rd:W0.ro.isSome=σ.fx.rd
 nodup:σ.fx.dfs.Nodup
 lt:∀ q,σ.fx.lt=some q→W0.g=q.1∧W0.H=q.2
def upd {α:Type} (f:Nat→α) (t:Nat) (v:α):Nat→α:=fun i=>if i=t then v else f i
theorem aB {α:Type} (f:Nat→α) (t:Nat) (v:α):upd f t v t=v:=by simp[upd]
theorem aA {α:Type} (f:Nat→α) {t i:Nat} (v:α) (h:i≠t):upd f t v i=f i:=by simp[upd,h]
theorem yX.upd {g g' : G} {H:Hp} {id:Nat} {x:Option HE} (hid:∀ e sz n cs,H id≠some (.mrow e sz n cs)) (hβ:∀ i,i≠id→g'.β i=g.β i) (hcap:∀ i,i≠id→g'.cap i=g.cap i):yX g H g' (Go.Proofs.YtpklhnpchhaccaaGreatDoor.upd H id x):=by
 intro τ e sz n cs h
 have hne:τ≠id:=fun q=>by subst q;exact hid e sz n cs h
 exact⟨(aA _ _ hne).trans h,hβ τ hne,hcap τ hne⟩
def fQ:Value→SV
 | .agg cs=>if cs.all (·.oneCell') then .agg (cs.toList.map fun v=>.d (.val v)) else .c .any
 | .tuple _=>.c .any
 | v=>.c (.d (.val v))
def SV.ofD:D→SV
 | .agg cs=>.agg (cs.map .d)
 | x=>.c (.d x)
def aH (env:Nat→SV):Operand→SV
 | .tmp t=>env t
 | .const v=>fQ v
 | .global g=>.c (.d (.val (.pointer (some ⟨g,0,none⟩))))
 | .func f=>.c (.d (.fn (.func f) []))
theorem aO8 (g:G) (H:Hp) (v:Value):bD g H (fQ v) v:=by
 unfold fQ
 split
 ·rename_i cs
  split
  ·rename_i h
   refine⟨cs.toList,by simp,⟨by simp,fun j x v hx hv=>?_⟩,fun u hu=>?_⟩
   ·simp only[List.getElem?_map,hv,Option.map_some,Option.some.injEq] at hx
    subst hx;exact Rep.val v
   ·simp only[Array.all_eq_true'] at h
    exact h u (by simpa using hu)
  ·trivial
 ·trivial
 ·exact Rep.val _
theorem kY {K:aM} {x:D} {v:Value} (h:Rep K x v) (g:G) (H:Hp) (hk:g.K=K):bD g H (SV.ofD x) v:=by
 subst hk
 cases h with
 | agg hl hv h1 =>
  refine⟨_,rfl,⟨by simpa using hl,fun j x v hx hv'=>?_⟩,h1⟩
  simp only[List.getElem?_map,Option.map_eq_some_iff] at hx
  obtain⟨y,hy,rfl⟩:=hx
  exact hv j y v hy hv'
 | val v=>exact Rep.val v
 | lst hs hc hl hv h1 hk=>exact Rep.lst hs hc hl hv h1 hk
 | ptr hl hv h1 hk=>exact Rep.ptr hl hv h1 hk
 | iface h=>exact Rep.iface h
 | fn hl hv=>exact Rep.fn hl hv
 | tup hl hv=>exact Rep.tup hl hv
theorem bH {W0:Fr} {K0:aM} {g:G} {σ:St} {a:Act} {w:World} (h:Rel W0 K0 g σ a w) (x:Operand):bD g σ.H (aH σ.env x) (a.eval x):=by
 cases x with
 | tmp t=>exact h.env t
 | const v=>exact aO8 _ _ _
 | global g=>exact Rep.val _
 | func f=>exact Rep.fn (vs:=[]) rfl (fun j x v hx _=>by simp at hx)
theorem TLe.upd {g g' : G} {H:Hp} {id:Nat} {x:Option HE} (hid:∀ e sz n,H id≠some (.rot e sz n)) (hβ:∀ i,i≠id→g'.β i=g.β i) (hcap:∀ i,i≠id→g'.cap i=g.cap i):TLe g H g' (Go.Proofs.YtpklhnpchhaccaaGreatDoor.upd H id x):=by
 intro τ e sz n h
 have hne:τ≠id:=fun q=>by subst q;exact hid e sz n h
 exact⟨(aA _ _ hne).trans h,hβ τ hne,hcap τ hne⟩
def D.one:D→Bool
 | .val v=>v.oneCell'
 | .agg _=>false
 | .tup _=>false
 | _=>true
def CV.one:CV→Bool
 | .any=>false
 | .d x=>x.one
 | _=>true
theorem Rep.oneCell {K:aM} {x:D} {v:Value} (h:Rep K x v) (h1:x.one=true):v.oneCell' = true:=by
 cases h<;>first|exact h1|rfl|simp[D.one] at h1
theorem bA.oneCell {g:G} {H:Hp} {x:CV} {v:Value} (h:bA g H x v) (h1:x.one=true):v.oneCell' = true:=by
 cases x with
 | any=>simp[CV.one] at h1
 | d x=>exact Rep.oneCell h h1
 | own id off=>obtain⟨b,_,rfl,_⟩:=h;rfl
 | app τ sz xs=>obtain⟨h,_⟩:=h;cases h;rfl
 | full sz xs=>obtain⟨h,_⟩:=h;cases h;rfl
 | view id sz off len=>obtain⟨b,c,_,rfl,_⟩:=h;rfl
 | clo f caps=>obtain⟨vs,rfl,_⟩:=h;rfl
 | bnd f caps=>obtain⟨vs,rfl,_⟩:=h;rfl
 | yld id=>obtain⟨b,_,rfl,_⟩:=h;rfl
 | mt τ k=>obtain⟨⟨a,m,c,rfl⟩,_⟩:=h;rfl
 | mpt τ k o=>obtain⟨⟨a,rfl⟩,_⟩:=h;rfl
 | mp id=>obtain⟨b,_,rfl,_⟩:=h;rfl
 | apt τ sz xs k=>obtain⟨h,_⟩:=h;cases h;rfl
theorem aPd {v:Value} (h:v.oneCell' = true):v.cells = #[v]:=by cases v<;>simp_all [Value.cells,Value.oneCell']
def SV.cells:SV→Option (List CV)
 | .c x=>if x.one then some [x] else none
 | .agg cs=>some cs
theorem SV.cells_rep {g:G} {H:Hp} {x:SV} {v:Value} {cs:List CV} (h:bD g H x v) (hc:x.cells=some cs) :
  ∃ vs:List Value,v.cells=vs.toArray∧bJ g H cs vs∧∀ u ∈ vs,u.oneCell' = true:=by
 cases x with
 | c x =>
  simp only[SV.cells] at hc
  split at hc
  ·rename_i h1
   cases hc
   refine⟨[v],aPd (bA.oneCell h h1),⟨rfl,fun j x' v' hx hv=>?_⟩,fun u hu=>?_⟩
   ·cases j with
    | zero=>simp at hx hv;subst hx hv;exact h
    | succ j=>simp at hx
   ·simp at hu;subst hu;exact bA.oneCell h h1
  ·cases hc
 | agg cs' =>
  simp only[SV.cells,Option.some.injEq] at hc
  subst hc
  obtain⟨vs,rfl,hr,h1⟩:=h
  exact⟨vs,rfl,hr,h1⟩
def CV.toD (H:Hp):CV→Option D
 | .any=>none
 | .d x=>some x
 | .app _ s xs=>some (.lst s xs)
 | .full s xs=>some (.lst s xs)
 | .apt _ s xs _=>some (.lst s xs)
 | .own id off=>match H id with
  | some (.froz ds)=>some (.ptr ds off)
  | _=>none
 | .view _ _ _ _=>none
 | .clo _ _=>none
 | .bnd _ _=>none
 | .yld _=>none
 | .mt _ _=>none
 | .mpt _ _ _=>none
 | .mp _=>none
def CV.toD0:CV→Option D
 | .d x=>some x
 | .app _ s xs=>some (.lst s xs)
 | .full s xs=>some (.lst s xs)
 | .apt _ s xs _=>some (.lst s xs)
 | _=>none
theorem CV.toD0_rep {g:G} {H:Hp} {x:CV} {v:Value} {y:D} (h:bA g H x v) (hy:x.toD0=some y):Rep g.K y v:=by
 cases x<;>simp[CV.toD0] at hy
 ·subst hy;exact h
 ·subst hy;exact h.1
 ·subst hy;exact h.1
 ·subst hy;exact h.1
theorem CV.toD_rep {W0:Fr} {K0:aM} {g:G} {H:Hp} {w:World} (hh:RelH W0 K0 g H w) {x:CV} {v:Value} {y:D} (h:bA g H x v) (hy:x.toD H=some y):Rep g.K y v:=by
 cases x with
 | any=>simp[CV.toD] at hy
 | d x=>simp[CV.toD] at hy;subst hy;exact h
 | app τ s xs=>simp[CV.toD] at hy;subst hy;exact h.1
 | full s xs=>simp[CV.toD] at hy;subst hy;exact h.1
 | apt τ s xs k=>simp[CV.toD] at hy;subst hy;exact h.1
 | view id sz off len=>simp[CV.toD] at hy
 | clo f caps=>simp[CV.toD] at hy
 | bnd f caps=>simp[CV.toD] at hy
 | yld id=>simp[CV.toD] at hy
 | mt τ k=>simp[CV.toD] at hy
 | mpt τ k o=>simp[CV.toD] at hy
 | mp id=>simp[CV.toD] at hy
 | own id off =>
  simp only[CV.toD] at hy
  split at hy
  ·rename_i ds hds
   cases hy
   obtain⟨b,hb,rfl,_⟩:=h
   obtain⟨b',vs,hb',hr,h1,hk⟩:=hh.holds id _ hds
   rw[hb] at hb';cases hb'
   have:=Rep.ptr (K:=g.K) (b:=b) (o:=0) (off:=off) hr.1 hr.2 h1 (fun j v hj=>by rw[Nat.zero_add];exact hk j v hj)
   simpa using this
  ·cases hy
def bR {α β:Type} (f:α→Option β):List α→Option (List β)
 | []=>some []
 | x::xs=>match f x with
  | none=>none
  | some y=>match bR f xs with
   | none=>none
   | some ys=>some (y::ys)
theorem cS {α β:Type} {f:α→Option β}:∀ {xs:List α} {ys:List β},bR f xs=some ys→ys.length=xs.length∧∀ (j:Nat) y,ys[j]? = some y→∃ x,xs[j]? = some x∧f x=some y
 | [],ys,h=>by simp[bR] at h;subst h;exact⟨rfl,fun j y hy=>by simp at hy⟩
 | x::xs,ys,h=>by
  simp only[bR] at h
  cases hf:f x with
  | none=>rw[hf] at h;cases h
  | some y =>
   cases hm:bR f xs with
   | none=>rw[hf,hm] at h;cases h
   | some ys' =>
    rw[hf,hm] at h;cases h
    obtain⟨h1,h2⟩:=cS hm
    refine⟨by simp[h1],fun j z hz=>?_⟩
    cases j with
    | zero=>simp at hz;subst hz;exact⟨x,rfl,hf⟩
    | succ j=>exact h2 j z (by simpa using hz)
def SV.toD (H:Hp):SV→Option D
 | .c x=>x.toD H
 | .agg cs=>match bR CV.toD0 cs with
  | some ds=>some (.agg ds)
  | none=>none
theorem bJ.toD0 {g:G} {H:Hp} {cs:List CV} {vs:List Value} {ds:List D} (h:bJ g H cs vs) (hm:bR CV.toD0 cs=some ds):fH g.K ds vs:=by
 obtain⟨h1,h2⟩:=cS hm
 refine⟨h1.trans h.1,fun j x v hx hv=>?_⟩
 obtain⟨c,hc,hcx⟩:=h2 j x hx
 exact CV.toD0_rep (h.2 j c v hc hv) hcx
theorem SV.toD_rep {W0:Fr} {K0:aM} {g:G} {H:Hp} {w:World} (hh:RelH W0 K0 g H w) {x:SV} {v:Value} {y:D} (h:bD g H x v) (hy:x.toD H=some y):Rep g.K y v:=by
 cases x with
 | c x=>exact CV.toD_rep hh h hy
 | agg cs =>
  simp only[SV.toD] at hy
  split at hy
  ·rename_i ds hds
   cases hy
   obtain⟨vs,rfl,hr,h1⟩:=h
   have:=hr.toD0 hds
   exact .agg this.1 this.2 h1
  ·cases hy
end Go.Proofs.YtpklhnpchhaccaaGreatDoor
namespace Go.Proofs.YtpklhnpchhaccaaGreatDoor
open Go Go.RowKit
set_option linter.unusedVariables false
set_option linter.unusedSimpArgs false
structure TInfo where
 agg:Bool
 size:Nat
 bytes:Nat
 zero:List Value
 fs:List (Nat × Nat × Bool)
 elem:Option Nat
 iface:Bool
def aRm:TypeDesc→Bool
 | .struct _=>true
 | .array _ _=>true
 | _=>false
def aAe (P:Program) (t:TypeId):Nat :=
 match P.info? t,P.underlying t with
 | some i,some _=>i.size
 | _,_=>0
theorem sW {P:Program} {t:TypeId} (h:¬ aAe P t=0):∃ i u,P.info? t=some i∧P.underlying t=some u∧aAe P t=i.size:=by
 unfold aAe at *
 split at h
 ·rename_i i u hi hu;exact⟨i,u,hi,hu,by rfl⟩
 ·exact absurd rfl h
def fsD (P:Program):TypeDesc→List (Nat × Nat × Bool)
 | .struct fs=>fs.toList.map fun f=>(f.offset,aAe P f.type,((P.underlying f.type).map aRm).getD false)
 | _=>[]
def aNy:TypeDesc→Option Nat
 | .slice e=>some e
 | _=>none
def aBq:TypeDesc→Bool
 | .interface _=>true
 | _=>false
def TI (P:Program) (t:TypeId):Option TInfo :=
 match P.underlying t,P.info? t with
 | some u,some i=>match i.zero with
  | some z=>some { agg:=aRm u,size:=i.size,bytes:=i.bytes,zero:=z.cells.toList,fs:=fsD P u,elem:=aNy u,iface:=aBq u }
  | none=>none
 | _,_=>none
theorem kW {P:Program} {t:TypeId} {i:TInfo} (h:TI P t=some i):∃ u j z,P.underlying t=some u∧P.info? t=some j∧j.zero=some z ∧
  i = { agg:=aRm u,size:=j.size,bytes:=j.bytes,zero:=z.cells.toList,fs:=fsD P u,elem:=aNy u,iface:=aBq u }:=by
 unfold TI at h
 split at h
 ·rename_i u j hu hj
  split at h
  ·rename_i z hz
   cases h
   exact⟨u,j,z,hu,hj,hz,rfl⟩
  ·cases h
 ·cases h
structure Res where
 v:SV
 up:Option (Nat × HE)
 fp:List Nat
 al:Bool
def sX (H:Hp):Option (Nat × HE)→Hp
 | none=>H
 | some (id,he)=>upd H id (some he)
def Res.pure (v:SV):Res:=⟨v,none,[],false⟩
def bC (P:Program) (W0:Fr) (K0:aM) (s:Sem Next) (g:G) (H:Hp) (w:World) (r:Res):Prop :=
 ∃ n v w' g',s.run P w = .ok n w'∧(n = .value v∨(n = .skip∧v=undef))∧bD g' (sX H r.up) r.v v∧RelH W0 K0 g' (sX H r.up) w'∧dJ g H g' (sX H r.up)
theorem bC.same {P:Program} {W0:Fr} {K0:aM} {s:Sem Next} {g:G} {H:Hp} {w:World} {x:SV} {fp:List Nat} {al:Bool} {v:Value} (hh:RelH W0 K0 g H w)
  (hr:s.run P w = .ok (.value v) w) (hv:bD g H x v):bC P W0 K0 s g H w ⟨x,none,fp,al⟩ :=
 ⟨_,v,w,g,hr,.inl rfl,hv,hh,dJ.refl _ _⟩
def aV (P:Program) {α:Type}:Sem α→Option α
 | .pure a=>some a
 | .program k=>aV P (k P)
 | .mark _ k=>aV P k
 | _=>none
theorem jD (P:Program) {α:Type} (w:World):∀ (s:Sem α) {a:α},aV P s=some a→s.run P w = .ok a w:=by
 intro s
 induction s with
 | pure a=>intro b h;simp[aV] at h;subst h;rfl
 | program k ih=>intro b h;simp only[aV] at h;simp only[Sem.run];exact ih P h
 | mark m k ih=>intro b h;simp only[aV] at h;simp only[Sem.run];exact ih h
 | _=>intro b h;simp[aV] at h
def CV.exact:CV→Option Value
 | .d (.val v)=>some v
 | _=>none
def SV.exact:SV→Option Value
 | .c x=>x.exact
 | .agg cs=>match bR CV.exact cs with
  | some vs=>some (.agg vs.toArray)
  | none=>none
theorem CV.exact_rep {g:G} {H:Hp} {x:CV} {v u:Value} (h:bA g H x v) (hx:x.exact=some u):v=u:=by
 cases x with
 | d x =>
  cases x with
  | val z=>simp[CV.exact] at hx;subst hx;cases h;rfl
  | _=>simp[CV.exact] at hx
 | _=>simp[CV.exact] at hx
theorem SV.exact_rep {g:G} {H:Hp} {x:SV} {v u:Value} (h:bD g H x v) (hx:x.exact=some u):v=u:=by
 cases x with
 | c x=>exact CV.exact_rep h hx
 | agg cs =>
  simp only[SV.exact] at hx
  split at hx
  ·rename_i us hus
   cases hx
   obtain⟨vs,rfl,hr,_⟩:=h
   obtain⟨h1,h2⟩:=cS hus
   congr 1
   have hlen:us.length=vs.length:=h1.trans hr.1
   have:vs=us:=by
    apply List.ext_getElem hlen.symm
    intro j hj hj'
    obtain⟨c,hc,hce⟩:=h2 j us[j] (List.getElem?_eq_getElem hj')
    exact CV.exact_rep (hr.2 j c vs[j] hc (List.getElem?_eq_getElem hj)) hce
   rw[this]
  ·cases hx
/-! Scalars -/
def sc (P:Program) (s:Sem Value):Option Res :=
 match aV P s with
 | some v=>some (Res.pure (fQ v))
 | none=>none
def vN (s:Sem Value):Sem Next:=do pure (.value (← s))
theorem bS (P:Program) (s:Sem Value) (w:World):(vN s).run P w=(s.run P w).andThen fun v w'=>.ok (.value v) w':=by
 unfold vN;simp
theorem aCj {P:Program} {W0:Fr} {K0:aM} {s:Sem Value} {g:G} {H:Hp} {w:World} {r:Res} (hh:RelH W0 K0 g H w) (h:sc P s=some r):bC P W0 K0 (vN s) g H w r:=by
 unfold sc at h
 split at h
 ·rename_i v hv
  cases h
  exact bC.same hh (by rw[bS,jD P w s hv];rfl) (aO8 _ _ _)
 ·cases h
/-! Loads -/
def ldv (P:Program) (t:TypeId) (cs:List CV) (off:Nat):Option SV :=
 match TI P t with
 | some i=>if i.agg then (if off+i.size≤cs.length then some (.agg ((cs.drop off).take i.size)) else none)
  else match cs[off]? with
   | some c=>some (.c c)
   | none=>none
 | none=>none
theorem tI {P:Program} {t:TypeId} {u:TypeDesc} (h:P.underlying t=some u) (w:World):(isAgg t).run P w = .ok (aRm u) w:=by
 unfold isAgg
 simp only[Sem.run_bind,run_underlying h,Result.andThen_ok]
 cases u<;>rfl
theorem cC {P:Program} {t:TypeId} {j:TypeInfo} (h:P.info? t=some j) (w:World):(sizeOf t).run P w = .ok j.size w:=by
 simp[sizeOf,typeInfo,h]
theorem iM {P:Program} {t:TypeId} {w:World} {b o:Nat} {vs:List Value} {cs:List CV} {off:Nat} {g:G} {H:Hp} {x:SV}
  (hc:∀ (j:Nat) v,vs[j]? = some v→w.cell? ⟨b,o+j,none⟩=some v) (hr:bJ g H cs vs) (h1:∀ u ∈ vs,u.oneCell' = true) (h:ldv P t cs off=some x) :
  ∃ v,(Instr.loadAt t (.pointer (some ⟨b,o+off,none⟩))).run P w = .ok v w∧bD g H x v:=by
 unfold ldv at h
 split at h
 ·rename_i i hi
  obtain⟨u,j,z,hu,hj,hz,rfl⟩:=kW hi
  simp only at h
  split at h
  ·rename_i hagg
   split at h
   ·rename_i hlen
    cases h
    have hl:(vs.drop off).length ≥ j.size:=by simp;have:=hr.1;omega
    have hload:=run_loadCells_list (P:=P) w (⟨b,o+off,none⟩:Addr) ((vs.drop off).take j.size) (fun k v hk=>by
     rw[Addr.add_lit]
     rw[List.getElem?_take] at hk
     split at hk
     ·rw[List.getElem?_drop] at hk
      have:=hc _ _ hk
      rw[show o+off+k=o+(off+k) from by omega];exact this
     ·cases hk)
    rw[show ((vs.drop off).take j.size).length=j.size from by simp;have:=hr.1;omega] at hload
    refine⟨.agg ((vs.drop off).take j.size).toArray,?_,_,rfl,⟨by simp[hr.1],fun k c v hk hv=>?_⟩,fun u hu=>h1 u (List.mem_of_mem_drop (List.mem_of_mem_take hu))⟩
    ·unfold Instr.loadAt Instr.sureAddr loadVar
     simp only[Sem.run_bind,Sem.run_pure,Result.andThen_ok,tI hu,hagg,if_true,cC hj,hload]
    ·rw[List.getElem?_take] at hk hv
     split at hk
     ·rename_i hkl
      rw[if_pos hkl] at hv
      rw[List.getElem?_drop] at hk hv
      exact hr.2 _ _ _ hk hv
     ·cases hk
   ·cases h
  ·rename_i hagg
   split at h
   ·rename_i c hcc
    cases h
    have hlt:off<vs.length:=by have:=(List.getElem?_eq_some_iff.1 hcc).1;have:=hr.1;omega
    have hcell:=hc off vs[off] (List.getElem?_eq_getElem hlt)
    refine⟨vs[off],?_,hr.2 off c _ hcc (List.getElem?_eq_getElem hlt)⟩
    unfold Instr.loadAt Instr.sureAddr loadVar
    rw[Bool.not_eq_true] at hagg
    simp only[Sem.run_bind,Sem.run_pure,Result.andThen_ok,tI hu,hagg]
    simp[hcell]
   ·cases h
 ·cases h
def dS (P:Program) (t:TypeId) (H:Hp):SV→Option Res
 | .c (.own id off)=>match H id with
  | some (.cells cs)=>match ldv P t cs off with
   | some x=>some ⟨x,none,[id],false⟩
   | none=>none
  | some (.froz ds)=>match ldv P t (ds.map .d) off with
   | some x=>some ⟨x,none,[id],false⟩
   | none=>none
  | _=>none
 | .c (.d (.ptr ds off))=>match ldv P t (ds.map .d) off with
  | some x=>some (Res.pure x)
  | none=>none
 | _=>none
theorem fH.cs {g:G} {ds:List D} {vs:List Value} (h:fH g.K ds vs) (H:Hp):bJ g H (ds.map .d) vs :=
 ⟨by simpa using h.1,fun j x v hx hv=>by
  simp only[List.getElem?_map,Option.map_eq_some_iff] at hx
  obtain⟨y,hy,rfl⟩:=hx
  exact h.2 j y v hy hv⟩
theorem iZ {w:World} {b:Nat} {vs:List Value} {t:TypeId} {fr:Nat × Nat} (h:w.heap[b]? = some (.cells vs.toArray t fr)) (j:Nat):w.cell? ⟨b,j,none⟩=vs[j]?:=by
 simp[World.cell?,h]
theorem aBx {P:Program} {W0:Fr} {K0:aM} {g:G} {H:Hp} {w:World} {r:Res} {t:TypeId} {x:SV} {v:Value} (hh:RelH W0 K0 g H w) (hx:bD g H x v) (h:dS P t H x=some r) :
  ∃ u,(Instr.loadAt t v).run P w = .ok u w∧bD g H r.v u∧r.up=none:=by
 unfold dS at h
 split at h
 ·rename_i id off
  obtain⟨b,hb,rfl,hnr⟩:=hx
  split at h
  ·rename_i cs hcs
   obtain⟨b',vs,t',hb',hheap,hr,h1,hk⟩:=hh.holds id _ hcs
   rw[hb] at hb';cases hb'
   split at h
   ·rename_i y hy
    cases h
    obtain⟨u,hu,hru⟩:=iM (P:=P) (w:=w) (b:=b) (o:=0) (fun j v hj=>by rw[Nat.zero_add,iZ hheap];exact hj) hr h1 hy
    rw[Nat.zero_add] at hu
    exact⟨u,hu,hru,rfl⟩
   ·cases h
  ·rename_i ds hds
   obtain⟨b',vs,hb',hr,h1,hk⟩:=hh.holds id _ hds
   rw[hb] at hb';cases hb'
   split at h
   ·rename_i y hy
    cases h
    obtain⟨u,hu,hru⟩:=iM (P:=P) (w:=w) (b:=b) (o:=0) (fun j v hj=>by rw[Nat.zero_add];exact hh.kw _ _ _ (hk j v hj)) (hr.cs H) h1 hy
    rw[Nat.zero_add] at hu
    exact⟨u,hu,hru,rfl⟩
   ·cases h
  ·cases h
 ·rename_i ds off
  split at h
  ·rename_i y hy
   cases h
   generalize hpd:D.ptr ds off=pd at hx
   cases hx with
   | ptr hl hv h1 hk =>
    cases hpd
    obtain⟨u,hu,hru⟩:=iM (P:=P) (w:=w) (fun j v hj=>hh.kw _ _ _ (hk j v hj)) (fH.cs (g:=g) ⟨hl,hv⟩ H) h1 hy
    exact⟨u,hu,hru,rfl⟩
   | _=>cases hpd
  ·cases h
 ·cases h
theorem aWt {P:Program} {W0:Fr} {K0:aM} {g:G} {H:Hp} {w:World} {r:Res} {t:TypeId} {x:SV} {v:Value} (hh:RelH W0 K0 g H w) (hx:bD g H x v) (h:dS P t H x=some r) :
  bC P W0 K0 (vN (Instr.loadAt t v)) g H w r:=by
 obtain⟨u,h1,h2,h3⟩:=aBx (P:=P) hh hx h
 obtain⟨rv,ru,rf,ra⟩:=r
 simp only at h3
 subst h3
 exact bC.same hh (by rw[bS,h1];rfl) h2
/-! Addresses of fields and elements;parts of values -/
def fL (P:Program) (s:TypeId) (f:Nat):SV→Option Res
 | .c (.own id off)=>match TI P s with
  | some i=>match i.fs[f]? with
   | some (o,z,_)=>if z=0 then none else some (Res.pure (.c (.own id (off+o))))
   | none=>none
  | none=>none
 | .c (.d (.ptr ds off))=>match TI P s with
  | some i=>match i.fs[f]? with
   | some (o,z,_)=>if z=0 then none else some (Res.pure (.c (.d (.ptr ds (off+o)))))
   | none=>none
  | none=>none
 | _=>none
theorem aBm {P:Program} {u:TypeDesc} {f:Nat} {x:Nat × Nat × Bool} (h:(fsD P u)[f]? = some x):∃ fs fd,u = .struct fs∧fs[f]? = some fd∧x=(fd.offset,aAe P fd.type,((P.underlying fd.type).map aRm).getD false):=by
 cases u with
 | struct fs =>
  simp only[fsD,List.getElem?_map,Option.map_eq_some_iff] at h
  obtain⟨fd,h1,h2⟩:=h
  exact⟨fs,fd,rfl,by simpa using h1,h2.symm⟩
 | _=>simp[fsD] at h
theorem lP {P:Program} {s:TypeId} {i:TInfo} {f o z:Nat} {ag:Bool} (hi:TI P s=some i) (hf:i.fs[f]? = some (o,z,ag)) (hz:¬ z=0) (b off:Nat) (w:World) :
  (Instr.fieldAt s (.pointer (some ⟨b,off,none⟩)) f).run P w = .ok (.pointer (some ⟨b,off+o,none⟩)) w:=by
 obtain⟨u,j,zz,hu,hj,hzz,rfl⟩:=kW hi
 obtain⟨fs,fd,rfl,hfd,hx⟩:=aBm hf
 simp only[Prod.mk.injEq] at hx
 obtain⟨rfl,rfl,_⟩:=hx
 obtain⟨k,ud,hinf,hun,hk⟩:=sW hz
 unfold Instr.fieldAt
 simp only[Sem.run_bind,run_underlying hu,Result.andThen_ok,hfd]
 simp[Instr.sureAddr,fieldPlace,cC hinf,Addr.add_lit,show ¬ k.size=0 from by omega]
theorem aE5 {P:Program} {W0:Fr} {K0:aM} {g:G} {H:Hp} {w:World} {r:Res} {s:TypeId} {f:Nat} {x:SV} {v:Value} (hh:RelH W0 K0 g H w) (hx:bD g H x v) (h:fL P s f x=some r) :
  bC P W0 K0 (vN (Instr.fieldAt s v f)) g H w r:=by
 unfold fL at h
 split at h
 ·rename_i id off
  obtain⟨b,hb,rfl,hnr⟩:=hx
  split at h
  ·rename_i i hi
   split at h
   ·rename_i o z ag hf
    split at h
    ·cases h
    ·rename_i hz
     cases h
     exact bC.same hh (by rw[bS,lP hi hf hz];rfl) ⟨b,hb,rfl,hnr⟩
   ·cases h
  ·cases h
 ·rename_i ds off
  split at h
  ·rename_i i hi
   split at h
   ·rename_i o z ag hf
    split at h
    ·cases h
    ·rename_i hz
     cases h
     generalize hpd:D.ptr ds off=pd at hx
     cases hx with
     | ptr hl hv h1 hk =>
      cases hpd
      refine bC.same hh (by rw[bS,lP hi hf hz];rfl) ?_
      have:=Rep.ptr (K:=g.K) (off:=off+o) hl hv h1 hk
      rw[← Nat.add_assoc] at this
      exact this
     | _=>cases hpd
   ·cases h
  ·cases h
 ·cases h
def fM (P:Program) (t:TypeId) (f:Nat):SV→Option Res
 | .agg cs=>match TI P t with
  | some i=>match i.fs[f]? with
   | some (o,z,true)=>if z=0 then none else if o+z≤cs.length then some (Res.pure (.agg ((cs.drop o).take z))) else none
   | some (o,z,false)=>if z=0 then none else match cs[o]? with
    | some c=>some (Res.pure (.c c))
    | none=>none
   | none=>none
  | none=>none
 | _=>none
theorem aWy {P:Program} {W0:Fr} {K0:aM} {g:G} {H:Hp} {w:World} {r:Res} {t:TypeId} {f:Nat} {x:SV} {v:Value} (hh:RelH W0 K0 g H w) (hx:bD g H x v) (h:fM P t f x=some r) :
  bC P W0 K0 (vN (Instr.field t v f)) g H w r:=by
 unfold fM at h
 split at h
 ·rename_i cs
  obtain⟨vs,rfl,hr,h1⟩:=hx
  split at h
  ·rename_i i hi
   obtain⟨u,j,zz,hu,hj,hzz,rfl⟩:=kW hi
   split at h
   ·rename_i o z hf
    split at h
    ·cases h
    ·rename_i hz
     split at h
     ·rename_i hlen
      cases h
      obtain⟨fs,fd,rfl,hfd,hx⟩:=aBm hf
      simp only[Prod.mk.injEq] at hx
      obtain⟨rfl,rfl,hag⟩:=hx
      obtain⟨k,ud,hinf,hun,hk⟩:=sW hz
      rw[hun] at hag
      simp at hag
      have hlen':=hr.1
      refine bC.same hh (v:=.agg ((vs.drop fd.offset).take (aAe P fd.type)).toArray) ?_ ⟨_,rfl,⟨by simp[hr.1],fun k c v hk hv=>?_⟩,fun u hu=>h1 u (List.mem_of_mem_drop (List.mem_of_mem_take hu))⟩
      ·rw[bS]
       unfold Instr.field
       simp only[Sem.run_bind,run_underlying hu,Result.andThen_ok,hfd]
       simp only[asAgg,part,Sem.run_bind,Sem.run_pure,Result.andThen_ok,tI hun,← hag,if_true,cC hinf]
       congr 3
       apply Array.ext'
       simp[hk,List.extract_eq_take_drop]
      ·rw[List.getElem?_take] at hk hv
       split at hk
       ·rename_i hkl
        rw[if_pos hkl] at hv
        rw[List.getElem?_drop] at hk hv
        exact hr.2 _ _ _ hk hv
       ·cases hk
     ·cases h
   ·rename_i o z hf
    split at h
    ·cases h
    ·rename_i hz
     split at h
     ·rename_i c hcc
      cases h
      obtain⟨fs,fd,rfl,hfd,hx⟩:=aBm hf
      simp only[Prod.mk.injEq] at hx
      obtain⟨rfl,rfl,hag⟩:=hx
      obtain⟨k,ud,hinf,hun,hk⟩:=sW hz
      rw[hun] at hag
      simp at hag
      have hlt:fd.offset<vs.length:=by have:=(List.getElem?_eq_some_iff.1 hcc).1;have:=hr.1;omega
      refine bC.same hh (v:=vs[fd.offset]) ?_ (hr.2 _ c _ hcc (List.getElem?_eq_getElem hlt))
      rw[bS]
      unfold Instr.field
      simp only[Sem.run_bind,run_underlying hu,Result.andThen_ok,hfd]
      simp only[asAgg,part,Sem.run_bind,Sem.run_pure,Result.andThen_ok,tI hun,hag]
      simp[List.getElem?_eq_getElem hlt]
     ·cases h
   ·cases h
  ·cases h
 ·cases h
theorem KW.lt {K:aM} {w:World} (h:KW K w) {b o:Nat} (hb:w.heap.size≤b):K b o=none:=by
 cases hk:K b o with
 | none=>rfl
 | some v =>
  have:=h b o v hk
  simp[World.cell?,Array.getElem?_eq_none hb] at this
theorem aP {w:World} {b:Nat} {o:Obj} (h:w.heap[b]? = some o):b<w.heap.size:=(Array.getElem?_eq_some_iff.1 h).1
theorem dJ.ofK {g:G} {H:Hp} {K' : aM} (h:gL g.K K'):dJ g H { g with K:=K' } H:=by
 intro x v r
 cases x with
 | any=>trivial
 | d x=>exact Rep.mono h r
 | own id off=>exact r
 | app τ sz xs=>exact⟨r.1.mono h,r.2⟩
 | full sz xs=>exact⟨r.1.mono h,r.2⟩
 | view id sz off len=>exact r
 | clo f caps=>exact dO r h (fun _ _ _ r=>r)
 | bnd f caps=>exact dN r h (fun _ _ _ r=>r)
 | yld i=>exact dP r (fun _ _ _ r=>r)
 | mt τ k=>exact iB (fun _ _ _ _ _ h=>⟨h,rfl,rfl⟩) r
 | apt τ s xs k=>exact fZ h (fun _ _ _ _ h=>⟨h,rfl,rfl⟩) r
 | mpt τ k o=>exact iA (fun _ _ _ _ _ h=>⟨h,rfl,rfl⟩) r
 | mp i=>exact fC r (fun _ _ _ r=>r)
theorem RelH.grow {W0:Fr} {K0:aM} {g:G} {H:Hp} {w w' : World} {K' : aM} (hh:RelH W0 K0 g H w) (hb:Below w.heap.size w w') (he:Ext g.K K' w.heap.size) (hk:KW K' w') :
  RelH W0 K0 { g with K:=K' } H w':=by
 have hle:=dJ.ofK (g:=g) (H:=H) he.1
 refine⟨hh.below.trans hb,hh.ext.trans he hh.below.size,hk,fun id e hid=>?_,hh.base,hh.dom,hh.sep,fun id b h=>Nat.lt_of_lt_of_le (hh.frozlt id b h) hb.size,hh.glob,hh.lent.trans hle⟩
 have:=hh.holds id e hid
 cases e with
 | cells cs =>
  obtain⟨b,vs,t,hβ,hheap,hr,h1,hn⟩:=this
  exact⟨b,vs,t,hβ,(hb.block b (aP hheap)).trans hheap,hr.mono hle,h1,fun o=>by
   show K' b o=none
   rw[he.2 b o (aP hheap)];exact hn o⟩
 | obj o =>
  obtain⟨b,hβ,hheap,hn⟩:=this
  exact⟨b,hβ,(hb.block b (aP hheap)).trans hheap,fun o=>by
   show K' b o=none
   rw[he.2 b o (aP hheap)];exact hn o⟩
 | froz ds =>
  obtain⟨b,vs,hβ,hr,h1,hn⟩:=this
  exact⟨b,vs,hβ,hr.mono he.1,h1,fun j v hj=>he.1 _ _ _ (hn j v hj)⟩
 | mrow e sz n cs=>exact bY this rfl rfl (fun b o h1 h2=>(hb.block b (aP h2)).trans h2) hle (fun b o _ h1 h2=>by show K' b o=none;rw[he.2 b o h2];exact h1)
 | rot e sz n=>exact bM this rfl rfl (fun b o h1 h2=>(hb.block b (aP h2)).trans h2) (fun b o _ h1 h2=>by show K' b o=none;rw[he.2 b o h2];exact h1)
 | ob cs p=>exact cT this rfl rfl (fun b o h1 h2=>(hb.block b (aP h2)).trans h2) hle (fun b o _ h1 h2=>by show K' b o=none;rw[he.2 b o h2];exact h1)
 | row e sz n =>
  intro b hβ
  obtain⟨cur,hheap,hsz,hcap,hn⟩:=this b hβ
  exact⟨cur,(hb.block b (aP hheap)).trans hheap,hsz,hcap,fun o ho=>by
   show K' b o=none
   rw[he.2 b o (aP hheap)];exact hn o ho⟩
def cK (K:aM) (b:Nat) (vs:List Value):aM:=fun b' o=>if b' = b then vs[o]? else K b' o
theorem oJ {K:aM} {w:World} (h:KW K w) (vs:List Value):Ext K (cK K w.heap.size vs) w.heap.size:=by
 refine⟨fun b o v hv=>?_,fun b o hb=>?_⟩
 ·unfold cK
  split
  ·rename_i e;subst e
   rw[h.lt (Nat.le_refl _)] at hv;cases hv
  ·exact hv
 ·unfold cK;rw[if_neg (by omega)]
theorem lE (w:World) (o:Obj):(w.alloc o).heap[w.heap.size]? = some o:=by show (w.heap.push o)[w.heap.size]? = _;simp
theorem gI (w:World) (o:Obj):Below w.heap.size w (w.alloc o):=(Below.refl _ _).alloc (Nat.le_refl _) _
theorem aAh {K:aM} {w:World} (h:KW K w) (vs:List Value) (cur:Array Value) (t:TypeId) (fr:Nat × Nat) (hc:∀ (j:Nat) v,vs[j]? = some v→cur[j]? = some v):KW (cK K w.heap.size vs) (w.alloc (.cells cur t fr)):=by
 intro b o v hv
 unfold cK at hv
 split at hv
 ·rename_i e;subst e
  simp only[World.cell?,lE]
  simpa using hc o v hv
 ·rename_i hne
  have h0:=h b o v hv
  have hlt:b<w.heap.size:=by
   rcases Nat.lt_or_ge b w.heap.size with h' | h'
   ·exact h'
   ·rw[h.lt h'] at hv;cases hv
  rw[← h0]
  exact (gI w _).cell (p:=⟨b,o,none⟩) hlt
theorem RelH.box {W0:Fr} {K0:aM} {g:G} {H:Hp} {w:World} {cs:List CV} {vs:List Value} {id:Nat} (t:TypeId) (hh:RelH W0 K0 g H w) (hid:H id=none) (hr:bJ g H cs vs) (h1:∀ u ∈ vs,u.oneCell' = true) :
  RelH W0 K0 { g with β:=upd g.β id (some w.heap.size) } (upd H id (some (.cells cs))) (w.alloc (.cells vs.toArray t))∧dJ g H { g with β:=upd g.β id (some w.heap.size) } (upd H id (some (.cells cs))):=by
 have hβ:g.β id=none:=hh.dom id hid
 have hle:dJ g H { g with β:=upd g.β id (some w.heap.size) } (upd H id (some (.cells cs))):=by
  have ho:∀ i off v,bA g H (.own i off) v→bA { g with β:=upd g.β id (some w.heap.size) } (upd H id (some (.cells cs))) (.own i off) v:=by
   rintro i off v ⟨b,hb,rfl,hnr⟩
   have hne:i≠id:=fun e=>by subst e;rw[hβ] at hb;cases hb
   exact⟨b,by show upd _ _ _ _=_;rw[aA _ _ hne];exact hb,rfl,by rw[aA _ _ hne];exact hnr⟩
  intro x v r
  cases x with
  | any=>trivial
  | d x=>exact r
  | clo f caps=>exact dO r (gL.refl _) ho
  | bnd f caps=>exact dN r (gL.refl _) ho
  | yld i=>exact dP r ho
  | mt τ k=>exact iB (yX.upd (fun _ _ _ _ h=>by rw[hid] at h;cases h) (fun i h=>aA _ _ h) (fun _ _=>rfl)) r
  | apt τ s xs k=>exact fZ (by exact gL.refl _) (TLe.upd (fun _ _ _ h=>by rw[hid] at h;cases h) (fun i h=>aA _ _ h) (fun _ _=>rfl)) r
  | mpt τ k o=>exact iA (yX.upd (fun _ _ _ _ h=>by rw[hid] at h;cases h) (fun i h=>aA _ _ h) (fun _ _=>rfl)) r
  | mp i=>exact fC r ho
  | own i off=>exact ho i off v r
  | app τ sz xs =>
   obtain⟨r1,e,n,hrow,hle,hf⟩:=r
   have hne:τ≠id:=fun e=>by subst e;rw[hid] at hrow;cases hrow
   refine⟨r1,e,n,by rw[aA _ _ hne];exact hrow,hle,fun hn=>?_⟩
   rcases hf hn with h4|⟨b,hb,hv⟩
   ·exact .inl h4
   ·exact .inr ⟨b,by show upd _ _ _ _=_;rw[aA _ _ hne];exact hb,hv⟩
  | full sz xs=>exact r
  | view i sz off len =>
   obtain⟨b,c,hb,rfl,hc,hnr⟩:=r
   have hne:i≠id:=fun e=>by subst e;rw[hβ] at hb;cases hb
   exact⟨b,c,by show upd _ _ _ _=_;rw[aA _ _ hne];exact hb,rfl,hc,by rw[aA _ _ hne];exact hnr⟩
 have hb:=gI w (.cells vs.toArray t)
 have hused:=hh.frozlt
 refine⟨⟨hh.below.trans hb,hh.ext,?_,?_,?_,?_,?_,?_,hh.glob,hh.lent.trans hle⟩,hle⟩
 ·intro b o v hv
  have h0:=hh.kw b o v hv
  have:b<w.heap.size:=by
   rcases Nat.lt_or_ge b w.heap.size with h' | h'
   ·exact h'
   ·rw[hh.kw.lt h'] at hv;cases hv
  rw[← h0];exact hb.cell (p:=⟨b,o,none⟩) this
 ·intro i e hi
  by_cases hne:i=id
  ·subst hne
   rw[aB] at hi
   cases hi
   exact⟨w.heap.size,vs,t,aB _ _ _,lE w _,hr.mono hle,h1,fun o=>hh.kw.lt (Nat.le_refl _)⟩
  ·rw[aA _ _ hne] at hi
   have:=hh.holds i e hi
   cases e with
   | cells cs =>
    obtain⟨b,vs',t',hβi,hheap,hr',h1',hn⟩:=this
    exact⟨b,vs',t',(aA _ _ hne).trans hβi,(hb.block b (aP hheap)).trans hheap,hr'.mono hle,h1',hn⟩
   | obj o =>
    obtain⟨b,hβi,hheap,hn⟩:=this
    exact⟨b,(aA _ _ hne).trans hβi,(hb.block b (aP hheap)).trans hheap,hn⟩
   | froz ds =>
    obtain⟨b,vs',hβi,hr',h1',hn⟩:=this
    exact⟨b,vs',(aA _ _ hne).trans hβi,hr',h1',hn⟩
   | mrow e sz n cs=>exact bY this (aA _ _ hne) rfl (fun b o h1 h2=>(hb.block b (aP h2)).trans h2) hle (fun b o _ h1 _=>h1)
   | rot e sz n=>exact bM this (aA _ _ hne) rfl (fun b o h1 h2=>(hb.block b (aP h2)).trans h2) (fun b o _ h1 _=>h1)
   | ob cs p=>exact cT this (aA _ _ hne) rfl (fun b o h1 h2=>(hb.block b (aP h2)).trans h2) hle (fun b o _ h1 _=>h1)
   | row e sz n =>
    intro b hβi
    have hβi' : g.β i=some b:=(aA g.β (some w.heap.size) hne).symm.trans hβi
    obtain⟨cur,hheap,r⟩:=this b hβi'
    exact⟨cur,(hb.block b (aP hheap)).trans hheap,r⟩
 ·intro i b hβi
  by_cases hne:i=id
  ·subst hne
   have:some w.heap.size=some b:=(aB g.β i (some w.heap.size)).symm.trans hβi
   cases this;exact Fr.new hh.below.size
  ·exact hh.base i b ((aA g.β (some w.heap.size) hne).symm.trans hβi)
 ·intro i hi
  by_cases hne:i=id
  ·subst hne;rw[aB] at hi;cases hi
  ·rw[aA _ _ hne] at hi
   exact (aA _ _ hne).trans (hh.dom i hi)
 ·intro i j b hi hj
  have key:∀ i,upd g.β id (some w.heap.size) i=some b→(i=id∧b=w.heap.size)∨(i≠id∧g.β i=some b):=by
   intro i hi
   by_cases hne:i=id
   ·subst hne;rw[aB] at hi;cases hi;exact .inl ⟨rfl,rfl⟩
   ·rw[aA _ _ hne] at hi;exact .inr ⟨hne,hi⟩
  rcases key i hi with ⟨rfl,rfl⟩|⟨h1,h2⟩
  ·rcases key j hj with ⟨rfl,_⟩|⟨h3,h4⟩
   ·rfl
   ·have:=hused j _ h4;omega
  ·rcases key j hj with ⟨rfl,rfl⟩|⟨h3,h4⟩
   ·have:=hused i _ h2;omega
   ·exact hh.sep i j b h2 h4
 ·intro i b hβi
  by_cases hne:i=id
  ·subst hne
   have:some w.heap.size=some b:=(aB g.β i (some w.heap.size)).symm.trans hβi
   cases this;exact aP (lE w _)
  ·have:=hused i b ((aA g.β (some w.heap.size) hne).symm.trans hβi)
   have:=hb.size;omega
theorem dJ.box {g:G} {H:Hp} {id:Nat} {he:HE} (hid:gQ (H id)=false) (hr:gQ (some he)=false):dJ g H g (upd H id (some he)):=by
 intro x v r
 have key:∀ i,gQ (H i)=false→gQ (upd H id (some he) i)=false:=fun i hi=>by
  by_cases h:i=id
  ·subst h;rw[aB];exact hr
  ·rw[aA _ _ h];exact hi
 cases x with
 | app τ sz xs =>
  obtain⟨r1,e,n,hrow,hle,hf⟩:=r
  have hne:τ≠id:=fun e=>by subst e;rw[hrow] at hid;simp[gQ] at hid
  exact⟨r1,e,n,by rw[aA _ _ hne];exact hrow,hle,hf⟩
 | own i off=>obtain⟨b,hb,rfl,hnr⟩:=r;exact⟨b,hb,rfl,key i hnr⟩
 | clo f caps=>exact dO r (gL.refl _) (fun i off v ⟨b,hb,hv,hnr⟩=>⟨b,hb,hv,key i hnr⟩)
 | bnd f caps=>exact dN r (gL.refl _) (fun i off v ⟨b,hb,hv,hnr⟩=>⟨b,hb,hv,key i hnr⟩)
 | yld i=>exact dP r (fun i off v ⟨b,hb,hv,hnr⟩=>⟨b,hb,hv,key i hnr⟩)
 | mt τ k=>exact iB (yX.upd (fun _ _ _ _ h=>by rw[h] at hid;simp[gQ] at hid) (fun _ _=>rfl) (fun _ _=>rfl)) r
 | apt τ s xs k=>exact fZ (by exact gL.refl _) (TLe.upd (fun _ _ _ h=>by rw[h] at hid;simp[gQ] at hid) (fun _ _=>rfl) (fun _ _=>rfl)) r
 | mpt τ k o=>exact iA (yX.upd (fun _ _ _ _ h=>by rw[h] at hid;simp[gQ] at hid) (fun _ _=>rfl) (fun _ _=>rfl)) r
 | mp i=>exact fC r (fun i off v ⟨b,hb,hv,hnr⟩=>⟨b,hb,hv,key i hnr⟩)
 | view i sz off len=>obtain⟨b,c,hb,rfl,hc,hnr⟩:=r;exact⟨b,c,hb,rfl,hc,key i hnr⟩
 | _=>exact r
theorem RelH.write {W0:Fr} {K0:aM} {g:G} {H:Hp} {w:World} {cs:List CV} {vs vs' : List Value} {cs' : List CV} {id b:Nat} {t:TypeId} (hh:RelH W0 K0 g H w) (hid:H id=some (.cells cs)) (hβ:g.β id=some b)
  (hheap:w.heap[b]? = some (.cells vs.toArray t (0,0))) (hn:∀ o,g.K b o=none) (hr:bJ g H cs' vs') (h1:∀ u ∈ vs',u.oneCell' = true) :
  RelH W0 K0 g (upd H id (some (.cells cs'))) (w.setRow b vs'.toArray)∧dJ g H g (upd H id (some (.cells cs'))):=by
 have hle:dJ g H g (upd H id (some (.cells cs'))):=by
  intro x v r
  exact dJ.box (by rw[hid];rfl) (by rfl) x v r
 have hset:=setRow_heap w b vs.toArray vs'.toArray t (0,0) hheap
 have hoth:∀ k,k≠b→(w.setRow b vs'.toArray).heap[k]? = w.heap[k]?:=fun k hk=>setRow_other w b k vs'.toArray hk
 have hsz:(w.setRow b vs'.toArray).heap.size=w.heap.size:=by simp[World.setRow]
 refine⟨⟨⟨hh.below.os,hh.below.tape,hh.below.output,by rw[hsz];exact hh.below.size,fun k hk=>by rw[hoth k (Fr.ne hk (hh.base id b hβ))];exact hh.below.block k hk⟩,hh.ext,?_,?_,hh.base,?_,hh.sep,?_,hh.glob,hh.lent.trans hle⟩,hle⟩
 ·intro b' o v hv
  have hne:b'≠b:=fun e=>by subst e;rw[hn o] at hv;cases hv
  have h0:=hh.kw b' o v hv
  rw[← h0];exact World.cell?_of_block (hoth b' hne)
 ·intro i e hi
  by_cases hne:i=id
  ·subst hne
   rw[aB] at hi
   cases hi
   exact⟨b,vs',t,hβ,hset,hr.mono hle,h1,hn⟩
  ·rw[aA _ _ hne] at hi
   have:=hh.holds i e hi
   cases e with
   | cells cs =>
    obtain⟨b',vs2,t',hβi,hheap',hr',h1',hn'⟩:=this
    exact⟨b',vs2,t',hβi,(hoth b' (fun e=>hne (hh.sep i id b (e ▸ hβi) hβ))).trans hheap',hr'.mono hle,h1',hn'⟩
   | obj o =>
    obtain⟨b',hβi,hheap',hn'⟩:=this
    exact⟨b',hβi,(hoth b' (fun e=>hne (hh.sep i id b (e ▸ hβi) hβ))).trans hheap',hn'⟩
   | froz ds=>exact this
   | mrow e sz n cs=>exact bY this rfl rfl (fun b' o h1 h2=>(hoth b' (fun e=>hne (hh.sep i id b (e ▸ h1) hβ))).trans h2) hle (fun b o _ h1 _=>h1)
   | rot e sz n=>exact bM this rfl rfl (fun b' o h1 h2=>(hoth b' (fun e=>hne (hh.sep i id b (e ▸ h1) hβ))).trans h2) (fun b o _ h1 _=>h1)
   | ob cs p=>exact cT this rfl rfl (fun b' o h1 h2=>(hoth b' (fun e=>hne (hh.sep i id b (e ▸ h1) hβ))).trans h2) hle (fun b o _ h1 _=>h1)
   | row e sz n =>
    intro b' hβi
    obtain⟨cur,hheap',r⟩:=this b' hβi
    exact⟨cur,(hoth b' (fun e=>hne (hh.sep i id b (e ▸ hβi) hβ))).trans hheap',r⟩
 ·intro i hi
  by_cases hne:i=id
  ·subst hne;rw[aB] at hi;cases hi
  ·rw[aA _ _ hne] at hi
   exact hh.dom i hi
 ·intro i b' hb';rw[hsz];exact hh.frozlt i b' hb'
theorem RelH.setObj {W0:Fr} {K0:aM} {g:G} {H:Hp} {w:World} {id b:Nat} {ob:Obj} (ob' : Obj) (hh:RelH W0 K0 g H w) (hid:H id=some (.obj ob)) (hβ:g.β id=some b) :
  RelH W0 K0 g (upd H id (some (.obj ob'))) (w.putObj b ob')∧dJ g H g (upd H id (some (.obj ob'))):=by
 have hle:dJ g H g (upd H id (some (.obj ob'))):=dJ.box (by rw[hid];rfl) rfl
 obtain⟨b0,hβ0,hheap,hn⟩:=hh.holds id _ hid
 rw[hβ] at hβ0;cases hβ0
 have hoth:∀ k,k≠b→(w.putObj b ob').heap[k]? = w.heap[k]?:=fun k hk=>World.putObj_heap_other hk
 have hsz:(w.putObj b ob').heap.size=w.heap.size:=World.putObj_size
 refine⟨⟨⟨hh.below.os,hh.below.tape,hh.below.output,by rw[hsz];exact hh.below.size,fun k hk=>by rw[hoth k (Fr.ne hk (hh.base id b hβ))];exact hh.below.block k hk⟩,hh.ext,?_,?_,hh.base,?_,hh.sep,?_,hh.glob,hh.lent.trans hle⟩,hle⟩
 ·intro b' o v hv
  have hne:b'≠b:=fun e=>by subst e;rw[hn o] at hv;cases hv
  have h0:=hh.kw b' o v hv
  rw[← h0];exact World.cell?_of_block (hoth b' hne)
 ·intro i e hi
  by_cases hne:i=id
  ·subst hne
   rw[aB] at hi
   cases hi
   exact⟨b,hβ,World.putObj_heap_same (aP hheap),hn⟩
  ·rw[aA _ _ hne] at hi
   have:=hh.holds i e hi
   cases e with
   | cells cs =>
    obtain⟨b',vs2,t',hβi,hheap',hr',h1',hn'⟩:=this
    exact⟨b',vs2,t',hβi,(hoth b' (fun e=>hne (hh.sep i id b (e ▸ hβi) hβ))).trans hheap',hr'.mono hle,h1',hn'⟩
   | froz ds=>exact this
   | obj o =>
    obtain⟨b',hβi,hheap',hn'⟩:=this
    exact⟨b',hβi,(hoth b' (fun e=>hne (hh.sep i id b (e ▸ hβi) hβ))).trans hheap',hn'⟩
   | mrow e sz n cs=>exact bY this rfl rfl (fun b' o h1 h2=>(hoth b' (fun e=>hne (hh.sep i id b (e ▸ h1) hβ))).trans h2) hle (fun b o _ h1 _=>h1)
   | rot e sz n=>exact bM this rfl rfl (fun b' o h1 h2=>(hoth b' (fun e=>hne (hh.sep i id b (e ▸ h1) hβ))).trans h2) (fun b o _ h1 _=>h1)
   | ob cs p=>exact cT this rfl rfl (fun b' o h1 h2=>(hoth b' (fun e=>hne (hh.sep i id b (e ▸ h1) hβ))).trans h2) hle (fun b o _ h1 _=>h1)
   | row e sz n =>
    intro b' hβi
    obtain⟨cur,hheap',r⟩:=this b' hβi
    exact⟨cur,(hoth b' (fun e=>hne (hh.sep i id b (e ▸ hβi) hβ))).trans hheap',r⟩
 ·intro i hi
  by_cases hne:i=id
  ·subst hne;rw[aB] at hi;cases hi
  ·rw[aA _ _ hne] at hi
   exact hh.dom i hi
 ·intro i b' hb';rw[hsz];exact hh.frozlt i b' hb'
theorem RelH.newObj {W0:Fr} {K0:aM} {g:G} {H:Hp} {w:World} {id:Nat} (ob:Obj) (hh:RelH W0 K0 g H w) (hid:H id=none) :
  RelH W0 K0 { g with β:=upd g.β id (some w.heap.size) } (upd H id (some (.obj ob))) (w.alloc ob)∧dJ g H { g with β:=upd g.β id (some w.heap.size) } (upd H id (some (.obj ob))):=by
 have hβ:g.β id=none:=hh.dom id hid
 have hle:dJ g H { g with β:=upd g.β id (some w.heap.size) } (upd H id (some (.obj ob))):=by
  have ho:∀ i off v,bA g H (.own i off) v→bA { g with β:=upd g.β id (some w.heap.size) } (upd H id (some (.obj ob))) (.own i off) v:=by
   rintro i off v ⟨b,hb,rfl,hnr⟩
   have hne:i≠id:=fun e=>by subst e;rw[hβ] at hb;cases hb
   exact⟨b,by show upd _ _ _ _=_;rw[aA _ _ hne];exact hb,rfl,by rw[aA _ _ hne];exact hnr⟩
  intro x v r
  cases x with
  | any=>trivial
  | d x=>exact r
  | clo f caps=>exact dO r (gL.refl _) ho
  | bnd f caps=>exact dN r (gL.refl _) ho
  | yld i=>exact dP r ho
  | mt τ k=>exact iB (yX.upd (fun _ _ _ _ h=>by rw[hid] at h;cases h) (fun i h=>aA _ _ h) (fun _ _=>rfl)) r
  | apt τ s xs k=>exact fZ (by exact gL.refl _) (TLe.upd (fun _ _ _ h=>by rw[hid] at h;cases h) (fun i h=>aA _ _ h) (fun _ _=>rfl)) r
  | mpt τ k o=>exact iA (yX.upd (fun _ _ _ _ h=>by rw[hid] at h;cases h) (fun i h=>aA _ _ h) (fun _ _=>rfl)) r
  | mp i=>exact fC r ho
  | own i off=>exact ho i off v r
  | app τ sz xs =>
   obtain⟨r1,e,n,hrow,hle,hf⟩:=r
   have hne:τ≠id:=fun e=>by subst e;rw[hid] at hrow;cases hrow
   refine⟨r1,e,n,by rw[aA _ _ hne];exact hrow,hle,fun hn=>?_⟩
   rcases hf hn with h4|⟨b,hb,hv⟩
   ·exact .inl h4
   ·exact .inr ⟨b,by show upd _ _ _ _=_;rw[aA _ _ hne];exact hb,hv⟩
  | full sz xs=>exact r
  | view i sz off len =>
   obtain⟨b,c,hb,rfl,hc,hnr⟩:=r
   have hne:i≠id:=fun e=>by subst e;rw[hβ] at hb;cases hb
   exact⟨b,c,by show upd _ _ _ _=_;rw[aA _ _ hne];exact hb,rfl,hc,by rw[aA _ _ hne];exact hnr⟩
 have hb:=gI w ob
 have hused:=hh.frozlt
 refine⟨⟨hh.below.trans hb,hh.ext,?_,?_,?_,?_,?_,?_,hh.glob,hh.lent.trans hle⟩,hle⟩
 ·intro b o v hv
  have h0:=hh.kw b o v hv
  have:b<w.heap.size:=by
   rcases Nat.lt_or_ge b w.heap.size with h' | h'
   ·exact h'
   ·rw[hh.kw.lt h'] at hv;cases hv
  rw[← h0];exact hb.cell (p:=⟨b,o,none⟩) this
 ·intro i e hi
  by_cases hne:i=id
  ·subst hne
   rw[aB] at hi
   cases hi
   exact⟨w.heap.size,aB _ _ _,lE w _,fun o=>hh.kw.lt (Nat.le_refl _)⟩
  ·rw[aA _ _ hne] at hi
   have:=hh.holds i e hi
   cases e with
   | cells cs =>
    obtain⟨b,vs',t',hβi,hheap,hr',h1',hn⟩:=this
    exact⟨b,vs',t',(aA _ _ hne).trans hβi,(hb.block b (aP hheap)).trans hheap,hr'.mono hle,h1',hn⟩
   | froz ds =>
    obtain⟨b,vs',hβi,hr',h1',hn⟩:=this
    exact⟨b,vs',(aA _ _ hne).trans hβi,hr',h1',hn⟩
   | obj o =>
    obtain⟨b,hβi,hheap,hn⟩:=this
    exact⟨b,(aA _ _ hne).trans hβi,(hb.block b (aP hheap)).trans hheap,hn⟩
   | mrow e sz n cs=>exact bY this (aA _ _ hne) rfl (fun b o h1 h2=>(hb.block b (aP h2)).trans h2) hle (fun b o _ h1 _=>h1)
   | rot e sz n=>exact bM this (aA _ _ hne) rfl (fun b o h1 h2=>(hb.block b (aP h2)).trans h2) (fun b o _ h1 _=>h1)
   | ob cs p=>exact cT this (aA _ _ hne) rfl (fun b o h1 h2=>(hb.block b (aP h2)).trans h2) hle (fun b o _ h1 _=>h1)
   | row e sz n =>
    intro b hβi
    have hβi' : g.β i=some b:=(aA g.β (some w.heap.size) hne).symm.trans hβi
    obtain⟨cur,hheap,r⟩:=this b hβi'
    exact⟨cur,(hb.block b (aP hheap)).trans hheap,r⟩
 ·intro i b hβi
  by_cases hne:i=id
  ·subst hne
   have:some w.heap.size=some b:=(aB g.β i (some w.heap.size)).symm.trans hβi
   cases this;exact Fr.new hh.below.size
  ·exact hh.base i b ((aA g.β (some w.heap.size) hne).symm.trans hβi)
 ·intro i hi
  by_cases hne:i=id
  ·subst hne;rw[aB] at hi;cases hi
  ·rw[aA _ _ hne] at hi
   exact (aA _ _ hne).trans (hh.dom i hi)
 ·intro i j b hi hj
  have key:∀ i,upd g.β id (some w.heap.size) i=some b→(i=id∧b=w.heap.size)∨(i≠id∧g.β i=some b):=by
   intro i hi
   by_cases hne:i=id
   ·subst hne;rw[aB] at hi;cases hi;exact .inl ⟨rfl,rfl⟩
   ·rw[aA _ _ hne] at hi;exact .inr ⟨hne,hi⟩
  rcases key i hi with ⟨rfl,rfl⟩|⟨h1,h2⟩
  ·rcases key j hj with ⟨rfl,_⟩|⟨h3,h4⟩
   ·rfl
   ·have:=hused j _ h4;omega
  ·rcases key j hj with ⟨rfl,rfl⟩|⟨h3,h4⟩
   ·have:=hused i _ h2;omega
   ·exact hh.sep i j b h2 h4
 ·intro i b hβi
  by_cases hne:i=id
  ·subst hne
   have:some w.heap.size=some b:=(aB g.β i (some w.heap.size)).symm.trans hβi
   cases this;exact aP (lE w _)
  ·have:=hused i b ((aA g.β (some w.heap.size) hne).symm.trans hβi)
   have:=hb.size;omega
theorem RelH.freeze {W0:Fr} {K0:aM} {g:G} {H:Hp} {w:World} {cs:List CV} {ds:List D} {id:Nat} (hh:RelH W0 K0 g H w) (hid:H id=some (.cells cs)) (hd:bR CV.toD0 cs=some ds) :
  ∃ g',RelH W0 K0 g' (upd H id (some (.froz ds))) w∧dJ g H g' (upd H id (some (.froz ds))):=by
 obtain⟨b,vs,t,hβ,hheap,hr,h1,hn⟩:=hh.holds id _ hid
 have hkle:gL g.K (cK g.K b vs):=fun b' o v hv=>by
  unfold cK
  split
  ·rename_i e;subst e;rw[hn o] at hv;cases hv
  ·exact hv
 have hle:dJ g H { g with K:=cK g.K b vs } (upd H id (some (.froz ds))):=by
  intro x v r
  have r':=dJ.ofK (g:=g) (H:=H) hkle x v r
  exact dJ.box (by rw[hid];rfl) (by rfl) x v r'
 refine⟨{ g with K:=cK g.K b vs },⟨hh.below,?_,?_,?_,hh.base,?_,hh.sep,hh.frozlt,hh.glob,hh.lent.trans hle⟩,hle⟩
 ·exact⟨hh.ext.1.trans hkle,fun b' o hb'=>by
   show cK _ _ _ _ _=_
   unfold cK
   rw[if_neg (Fr.ne hb' (hh.base id b hβ))];exact hh.ext.2 b' o hb'⟩
 ·intro b' o v hv
  have hv' : cK g.K b vs b' o=some v:=hv
  unfold cK at hv'
  split at hv'
  ·rename_i e;subst e;rw[iZ hheap];exact hv'
  ·exact hh.kw b' o v hv'
 ·intro i e hi
  by_cases hne:i=id
  ·subst hne
   rw[aB] at hi
   cases hi
   have hL:=(hr.toD0 hd).mono hkle
   exact⟨b,vs,hβ,hL,h1,fun j v hj=>by show cK _ _ _ _ _=_;unfold cK;rw[if_pos rfl];exact hj⟩
  ·rw[aA _ _ hne] at hi
   have:=hh.holds i e hi
   cases e with
   | cells cs =>
    obtain⟨b',vs2,t',hβi,hheap',hr',h1',hn'⟩:=this
    exact⟨b',vs2,t',hβi,hheap',hr'.mono hle,h1',fun o=>by
     show cK _ _ _ _ _=_
     unfold cK;rw[if_neg (fun (e:b' = b)=>hne (hh.sep i id b (e ▸ hβi) hβ))];exact hn' o⟩
   | obj o =>
    obtain⟨b',hβi,hheap',hn'⟩:=this
    exact⟨b',hβi,hheap',fun o=>by
     show cK _ _ _ _ _=_
     unfold cK;rw[if_neg (fun (e:b' = b)=>hne (hh.sep i id b (e ▸ hβi) hβ))];exact hn' o⟩
   | froz ds =>
    obtain⟨b',vs',hβi,hr',h1',hn'⟩:=this
    exact⟨b',vs',hβi,hr'.mono hkle,h1',fun j v hj=>hkle _ _ _ (hn' j v hj)⟩
   | rot e sz n=>exact bM this rfl rfl (fun b' o h1 h2=>h2) (fun b' o h1 h2 _=>by
     show cK _ _ _ _ _=_
     unfold cK;rw[if_neg (fun (e:b' = b)=>hne (hh.sep i id b (e ▸ h1) hβ))];exact h2)
   | mrow e sz n cs=>exact bY this rfl rfl (fun b' o h1 h2=>h2) hle (fun b' o h1 h2 _=>by
     show cK _ _ _ _ _=_
     unfold cK;rw[if_neg (fun (e:b' = b)=>hne (hh.sep i id b (e ▸ h1) hβ))];exact h2)
   | ob cs p=>exact cT this rfl rfl (fun b' o h1 h2=>h2) hle (fun b' o h1 h2 _=>by
     show cK _ _ _ _ _=_
     unfold cK;rw[if_neg (fun (e:b' = b)=>hne (hh.sep i id b (e ▸ h1) hβ))];exact h2)
   | row e sz n =>
    intro b' hβi
    obtain⟨cur,hheap',hs,hc,hn'⟩:=this b' hβi
    exact⟨cur,hheap',hs,hc,fun o ho=>by
     show cK _ _ _ _ _=_
     unfold cK;rw[if_neg (fun (e:b' = b)=>hne (hh.sep i id b (e ▸ hβi) hβ))];exact hn' o ho⟩
 ·intro i hi
  by_cases hne:i=id
  ·subst hne;rw[aB] at hi;cases hi
  ·rw[aA _ _ hne] at hi
   exact hh.dom i hi
/-! box,alloc,store -/
def aGa (H:Hp) (nx:Nat) (x:SV):Option Res :=
 match H nx with
 | none=>match x.cells with
  | some cs=>some ⟨.c (.own nx 0),some (nx,.cells cs),[nx],true⟩
  | none=>none
 | some _=>none
theorem aYk {P:Program} {W0:Fr} {K0:aM} {g:G} {H:Hp} {w:World} {r:Res} {t:TypeId} {nx:Nat} {x:SV} {v:Value} (hh:RelH W0 K0 g H w) (hx:bD g H x v) (h:aGa H nx x=some r) :
  bC P W0 K0 (vN (Instr.box t v)) g H w r:=by
 unfold aGa at h
 split at h
 ·rename_i hnx
  split at h
  ·rename_i cs hcs
   cases h
   obtain⟨vs,hv,hr,h1⟩:=SV.cells_rep hx hcs
   obtain⟨h2,h3⟩:=RelH.box t hh hnx hr h1
   refine⟨_,.pointer (some ⟨w.heap.size,0,none⟩),_,_,?_,.inl rfl,⟨w.heap.size,aB _ _ _,rfl,by simp[sX,aB,gQ]⟩,h2,h3⟩
   rw[bS]
   simp[Instr.box,newVar,newRow,hv]
  ·cases h
 ·cases h
def pR (P:Program) (H:Hp) (nx:Nat) (t:TypeId):Option Res :=
 match H nx with
 | none=>match TI P t with
  | some i=>if i.zero.all (·.oneCell') then some ⟨.c (.own nx 0),some (nx,.cells (i.zero.map fun v=>.d (.val v))),[nx],true⟩ else none
  | none=>none
 | some _=>none
theorem pP (g:G) (H:Hp) (vs:List Value):bJ g H (vs.map fun v=>.d (.val v)) vs :=
 ⟨by simp,fun j x v hx hv=>by simp only[List.getElem?_map,hv,Option.map_some,Option.some.injEq] at hx;subst hx;exact Rep.val v⟩
theorem aT5 {P:Program} {W0:Fr} {K0:aM} {g:G} {H:Hp} {w:World} {r:Res} {t:TypeId} {nx:Nat} (hh:RelH W0 K0 g H w) (h:pR P H nx t=some r) :
  bC P W0 K0 (vN (Instr.alloc t true (.tuple #[]))) g H w r:=by
 unfold pR at h
 split at h
 ·rename_i hnx
  split at h
  ·rename_i i hi
   obtain⟨u,j,z,hu,hj,hz,rfl⟩:=kW hi
   split at h
   ·rename_i h1
    cases h
    obtain⟨h2,h3⟩:=RelH.box (vs:=z.cells.toList) t hh hnx (pP g H z.cells.toList) (fun u hu=>List.all_eq_true.1 h1 u hu)
    refine⟨_,.pointer (some ⟨w.heap.size,0,none⟩),_,_,?_,.inl rfl,⟨w.heap.size,aB _ _ _,rfl,by simp[sX,aB,gQ]⟩,h2,h3⟩
    rw[bS]
    simp[Instr.alloc,zeroValue,typeInfo,hj,hz,newVar,newRow]
   ·cases h
  ·cases h
 ·cases h
def eG {α:Type} (cs:List α) (off:Nat) (ys:List α):List α:=cs.take off++ys++cs.drop (off+ys.length)
def eQ (P:Program) (t:TypeId) (H:Hp) (a x:SV):Option Res :=
 match a with
 | .c (.own id off)=>match H id with
  | some (.cells cs)=>match TI P t,x.cells with
   | some i,some ys=>if ys.length=i.size∧off+ys.length≤cs.length then some ⟨.c .any,some (id,.cells (eG cs off ys)),[id],false⟩ else none
   | _,_=>none
  | _=>none
 | _=>none
theorem uY {g:G} {H:Hp} {cs ys:List CV} {vs us:List Value} {off:Nat} (h:bJ g H cs vs) (hy:bJ g H ys us) (hl:off+ys.length≤cs.length):bJ g H (eG cs off ys) (eG vs off us):=by
 have e1:=h.1
 have e2:=hy.1
 refine⟨by simp[eG];omega,fun j x v hx hv=>?_⟩
 unfold eG at hx hv
 have t1:(cs.take off).length=off:=by simp;omega
 have t2:(vs.take off).length=off:=by simp;omega
 rw[List.append_assoc] at hx hv
 rcases Nat.lt_or_ge j off with hj|hj
 ·rw[List.getElem?_append_left (by omega),List.getElem?_take,if_pos hj] at hx hv
  exact h.2 j x v hx hv
 ·rw[List.getElem?_append_right (by omega),t1] at hx
  rw[List.getElem?_append_right (by omega),t2] at hv
  rcases Nat.lt_or_ge (j - off) ys.length with hj2|hj2
  ·rw[List.getElem?_append_left (by omega)] at hx hv
   exact hy.2 _ x v hx hv
  ·rw[List.getElem?_append_right (by omega),List.getElem?_drop] at hx hv
   rw[← e2] at hv
   exact h.2 _ x v hx hv
theorem uX {vs us:List Value} {off:Nat} (h:∀ u ∈ vs,u.oneCell' = true) (hy:∀ u ∈ us,u.oneCell' = true):∀ u ∈ eG vs off us,u.oneCell' = true:=by
 intro u hu
 simp only[eG,List.mem_append] at hu
 rcases hu with (hu|hu)|hu
 ·exact h u (List.mem_of_mem_take hu)
 ·exact hy u hu
 ·exact h u (List.mem_of_mem_drop hu)
theorem aTc {P:Program} {W0:Fr} {K0:aM} {g:G} {H:Hp} {w:World} {r:Res} {t:TypeId} {a x:SV} {va v:Value} (hh:RelH W0 K0 g H w) (ha:bD g H a va) (hx:bD g H x v) (h:eQ P t H a x=some r) :
  bC P W0 K0 (do Instr.storeAt t va v;pure .skip) g H w r:=by
 unfold eQ at h
 split at h
 ·rename_i id off
  split at h
  ·rename_i cs hcs
   split at h
   ·rename_i i ys hi hys
    obtain⟨u,j,z,hu,hj,hz,rfl⟩:=kW hi
    split at h
    ·rename_i hcond
     obtain⟨hl1,hl2⟩:=hcond
     have hl1:ys.length=j.size:=hl1
     cases h
     obtain⟨b,hb,rfl,_⟩:=ha
     obtain⟨b',vs,t',hb',hheap,hr,h1,hn⟩:=hh.holds id _ hcs
     rw[hb] at hb';cases hb'
     obtain⟨us,hvu,hru,h1u⟩:=SV.cells_rep hx hys
     obtain⟨h2,h3⟩:=RelH.write (vs':=eG vs off us) hh hcs hb hheap hn (uY hr hru hl2) (uX h1 h1u)
     refine⟨_,undef,_,_,?_,.inr ⟨rfl,rfl⟩,trivial,h2,h3⟩
     have hul:=hru.1
     have hvl:=hr.1
     have hst:=run_storeCells_at P b off t' us 0 vs.toArray w hheap (by simp;omega) h1u
     unfold Instr.storeAt Instr.sureAddr storeVar
     simp only[Sem.run_bind,Sem.run_pure,Result.andThen_ok,cC hj,hvu]
     rw[if_neg (by simp;omega)]
     simp only[Nat.add_zero] at hst
     simp[hst,eG]
    ·cases h
   ·cases h
  ·cases h
 ·cases h
theorem cR {α:Type} {sz:Nat}:∀ {xs:List (List α)},(∀ x ∈ xs,x.length=sz)→xs.flatten.length=xs.length*sz
 | [],_=>by simp
 | x::xs,h=>by
  rw[List.flatten_cons,List.length_append,cR (fun y hy=>h y (by simp[hy])),h x (by simp),List.length_cons,Nat.succ_mul];omega
theorem vX {α:Type} {sz:Nat}:∀ {xs:List (List α)},(∀ x ∈ xs,x.length=sz)→∀ (i:Nat) cs,xs[i]? = some cs→∀ j,j<sz→xs.flatten[i*sz+j]? = cs[j]?
 | [],_,i,cs,h,_,_=>by simp at h
 | x::xs,hs,0,cs,h,j,hj=>by
  simp at h;subst h
  have h:=hs x (by simp)
  rw[List.flatten_cons,List.getElem?_append_left (by omega)];simp
 | x::xs,hs,i+1,cs,h,j,hj=>by
  have hx:=hs x (by simp)
  rw[List.flatten_cons,List.getElem?_append_right (by rw[hx,Nat.succ_mul];omega),hx,show (i+1)*sz+j - sz=i*sz+j from by rw[Nat.succ_mul];omega]
  exact vX (fun y hy=>hs y (by simp[hy])) i cs (by simpa using h) j hj
theorem aEz {α:Type} {sz:Nat}:∀ {xs:List (List α)},(∀ x ∈ xs,x.length=sz)→∀ l,(xs.drop l).flatten=xs.flatten.drop (l*sz)
 | [],_,l=>by simp
 | x::xs,hs,0=>by simp
 | x::xs,hs,l+1=>by
  have hx:=hs x (by simp)
  rw[List.drop_succ_cons,aEz (fun y hy=>hs y (by simp[hy])) l,List.flatten_cons,Nat.succ_mul,show l*sz+sz=x.length+l*sz from by omega,List.drop_append]
  simp
theorem aF0 {α:Type} {sz:Nat}:∀ {xs:List (List α)},(∀ x ∈ xs,x.length=sz)→∀ l,(xs.take l).flatten=xs.flatten.take (l*sz)
 | [],_,l=>by simp
 | x::xs,hs,0=>by simp
 | x::xs,hs,l+1=>by
  have hx:=hs x (by simp)
  rw[List.take_succ_cons,List.flatten_cons,aF0 (fun y hy=>hs y (by simp[hy])) l,List.flatten_cons,Nat.succ_mul,show l*sz+sz=x.length+l*sz from by omega,List.take_append]
  simp[List.take_of_length_le]
theorem Rep.inv {K:aM} {sz:Nat} {xs:List (List D)} {v:Value} (h:Rep K (.lst sz xs) v):∃ a c vs,v = .slice a xs.length c∧(∀ x ∈ xs,x.length=sz)∧xs.length≤c∧fH K xs.flatten vs∧(∀ u ∈ vs,u.oneCell' = true) ∧
  (xs≠[]→∃ b off,a=some ⟨b,off,none⟩∧∀ (j:Nat) v,vs[j]? = some v→K b (off+j)=some v):=by
 cases h with
 | lst hs hc hl hv h1 hk=>exact⟨_,_,_,rfl,hs,hc,⟨hl,hv⟩,h1,hk⟩
def CV.lstOf (sz:Nat):CV→Option (List (List D))
 | .d (.lst s xs)=>if s=sz then some xs else none
 | .app _ s xs=>if s=sz then some xs else none
 | .full s xs=>if s=sz then some xs else none
 | .apt _ s xs _=>if s=sz then some xs else none
 | .d (.val (.slice _ 0 _))=>some []
 | _=>none
theorem xA (K:aM) (sz:Nat):Rep K (.lst sz []) (.slice none 0 0):=Rep.lst (vs:=[]) (by simp) (by simp) rfl (by simp) (by simp) (by simp)
theorem CV.lstOf_rep {g:G} {H:Hp} {x:CV} {v:Value} {sz:Nat} {xs:List (List D)} (h:bA g H x v) (hx:x.lstOf sz=some xs):Rep g.K (.lst sz xs) v:=by
 unfold CV.lstOf at hx
 split at hx
 ·split at hx
  ·rename_i e;subst e;cases hx;exact h
  ·cases hx
 ·split at hx
  ·rename_i e;subst e;cases hx;exact h.1
  ·cases hx
 ·split at hx
  ·rename_i e;subst e;cases hx;exact h.1
  ·cases hx
 ·split at hx
  ·rename_i e;subst e;cases hx;exact h.1
  ·cases hx
 ·cases hx
  have h:Rep g.K (.val (.slice _ 0 _)) v:=h
  cases h
  exact Rep.lst (vs:=[]) (by simp) (by simp) rfl (by simp) (by simp) (by simp)
 ·cases hx
theorem aM1 {u:TypeDesc} {e:Nat} (h:aNy u=some e):u = .slice e:=by cases u<;>simp[aNy] at h;subst h;rfl
def SV.nat (x:SV):Option Nat :=
 match x.exact with
 | some (.int _ n)=>if 0≤n then some n.toNat else none
 | _=>none
theorem SV.nat_rep {g:G} {H:Hp} {x:SV} {v:Value} {n:Nat} (h:bD g H x v) (hx:x.nat=some n):∃ k,v = .int k n:=by
 unfold SV.nat at hx
 split at hx
 ·rename_i k m hm
  split at hx
  ·rename_i h0
   cases hx
   exact⟨k,by rw[SV.exact_rep h hm,Int.toNat_of_nonneg h0]⟩
  ·cases hx
 ·cases hx
/-! an element's address -/
def cZ (P:Program) (t:TypeId):Option (Nat × Nat × Nat × List Value) :=
 match TI P t with
 | some ti=>match ti.elem with
  | some e=>match TI P e with
   | some ei=>some (e,ei.size,ei.bytes,ei.zero)
   | none=>none
  | none=>none
 | none=>none
theorem cQ {P:Program} {t e s bb:Nat} {zs:List Value} (h:cZ P t=some (e,s,bb,zs)):P.underlying t=some (.slice e)∧∃ j z u,P.info? e=some j∧j.zero=some z∧j.size=s∧j.bytes=bb∧zs=z.cells.toList∧P.underlying e=some u:=by
 unfold cZ at h
 split at h
 ·rename_i ti hti
  split at h
  ·rename_i e' he
   split at h
   ·rename_i ei hei
    cases h
    obtain⟨u,j,z,hu,hj,hz,rfl⟩:=kW hti
    obtain⟨u',j',z',hu',hj',hz',rfl⟩:=kW hei
    exact⟨by rw[hu,aM1 he],j',z',u',hj',hz',rfl,rfl,rfl,hu'⟩
   ·cases h
  ·cases h
 ·cases h
def kG (P:Program) (t:TypeId) (x i:SV):Option Res :=
 match cZ P t with
 | some (_,s,_,_)=>match i.nat with
  | some n=>match x with
   | .c (.view id s' off len)=>if s' = s∧n<len then some (Res.pure (.c (.own id (off+n*s)))) else none
   | .c cv=>match cv.lstOf s with
    | some xs=>match xs[n]? with
     | some cs=>some (Res.pure (.c (.d (.ptr cs 0))))
     | none=>none
    | none=>none
   | _=>none
  | none=>none
 | none=>none
theorem kT {P:Program} {t e s:Nat} {j:TypeInfo} (hu:P.underlying t=some (.slice e)) (hj:P.info? e=some j) (hs:j.size=s) (b off len c n:Nat) (k:IntKind) (hn:n<len) (w:World) :
  (Instr.indexAt t (.slice (some ⟨b,off,none⟩) len c) (.int k n)).run P w = .ok (.pointer (some ⟨b,off+n*s,none⟩)) w:=by
 unfold Instr.indexAt
 simp only[asIntOf,Sem.run_bind,Sem.run_pure,Result.andThen_ok,run_underlying hu]
 have:(0:Int)≤(n:Int)∧(n:Int)<(len:Int):=by omega
 simp[this,cC hj,hs,Addr.add_lit]
theorem aHg {P:Program} {W0:Fr} {K0:aM} {g:G} {H:Hp} {w:World} {r:Res} {t:TypeId} {x i:SV} {v vi:Value} (hh:RelH W0 K0 g H w) (hx:bD g H x v) (hi:bD g H i vi) (h:kG P t x i=some r) :
  bC P W0 K0 (vN (Instr.indexAt t v vi)) g H w r:=by
 unfold kG at h
 split at h
 ·rename_i e s bb zs hes
  obtain⟨hu,j,z,u,hj,hz,hs,hby,_,_⟩:=cQ hes
  split at h
  ·rename_i n hn
   obtain⟨k,rfl⟩:=SV.nat_rep hi hn
   split at h
   ·rename_i id s' off len
    split at h
    ·rename_i hc
     obtain⟨rfl,hlt⟩:=hc
     cases h
     obtain⟨b,c,hb,rfl,hlc,hnr⟩:=hx
     exact bC.same hh (by rw[bS,kT hu hj hs b off len c n k hlt];rfl) ⟨b,hb,rfl,hnr⟩
    ·cases h
   ·rename_i cv _
    split at h
    ·rename_i xs hxs
     split at h
     ·rename_i cs hcs
      cases h
      obtain⟨a,c,vs,rfl,hlen,hcap,hr,h1,hk⟩:=(CV.lstOf_rep hx hxs).inv
      have hlt:n<xs.length:=(List.getElem?_eq_some_iff.1 hcs).1
      obtain⟨b,off,rfl,hkk⟩:=hk (by intro e;subst e;simp at hlt)
      refine bC.same hh (by rw[bS,kT hu hj hs b off xs.length c n k hlt];rfl) ?_
      have hcl:cs.length=s:=hlen cs (List.mem_of_getElem? hcs)
      have htot:xs.flatten.length=xs.length*s:=cR hlen
      have hle:n*s+s≤vs.length:=by rw[← hr.1,htot,← Nat.succ_mul];exact Nat.mul_le_mul_right _ hlt
      have hget:∀ j,j<s→((vs.drop (n*s)).take s)[j]? = vs[n*s+j]?:=fun j hj=>by rw[List.getElem?_take,if_pos hj,List.getElem?_drop]
      have:=Rep.ptr (K:=g.K) (cs:=cs) (vs:=(vs.drop (n*s)).take s) (b:=b) (o:=off+n*s) (off:=0) (by simp;omega)
       (fun j x v hx hv=>by
        have hj:j<s:=by have:=(List.getElem?_eq_some_iff.1 hx).1;omega
        rw[hget j hj] at hv
        exact hr.2 (n*s+j) x v ((vX hlen n cs hcs j hj).trans hx) hv)
       (fun u hu=>h1 u (List.mem_of_mem_drop (List.mem_of_mem_take hu)))
       (fun j v hv=>by
        have hj:j<s:=by have:=(List.getElem?_eq_some_iff.1 hv).1;simp at this;omega
        rw[hget j hj] at hv
        have:=hkk (n*s+j) v hv
        rw[show off+n*s+j=off+(n*s+j) from by omega];exact this)
      show Rep g.K _ _
      simpa using this
     ·cases h
    ·cases h
   ·cases h
  ·cases h
 ·cases h
/-! lengths -/
def CV.lenOf:CV→Option Nat
 | .d (.lst _ xs)=>some xs.length
 | .app _ _ xs=>some xs.length
 | .full _ xs=>some xs.length
 | .apt _ _ xs _=>some xs.length
 | .view _ _ _ len=>some len
 | .d (.val (.slice _ n _))=>some n
 | _=>none
theorem CV.lenOf_rep {g:G} {H:Hp} {x:CV} {v:Value} {n:Nat} (h:bA g H x v) (hx:x.lenOf=some n):∃ a c,v = .slice a n c:=by
 unfold CV.lenOf at hx
 split at hx
 ·cases hx;obtain⟨a,c,vs,rfl,_⟩:=Rep.inv h;exact⟨a,c,rfl⟩
 ·cases hx;obtain⟨a,c,vs,rfl,_⟩:=Rep.inv h.1;exact⟨a,c,rfl⟩
 ·cases hx;obtain⟨a,c,vs,rfl,_⟩:=Rep.inv h.1;exact⟨a,c,rfl⟩
 ·cases hx;obtain⟨a,c,vs,rfl,_⟩:=Rep.inv h.1;exact⟨a,c,rfl⟩
 ·cases hx;obtain⟨b,c,_,rfl,_⟩:=h;exact⟨_,c,rfl⟩
 ·cases hx
  have h:Rep g.K _ v:=h
  cases h;exact⟨_,_,rfl⟩
 ·cases hx
def bP (P:Program) (t:TypeId) (x:SV):Option Res :=
 match x with
 | .c (.d (.val (.string s)))=>match P.underlying t with
  | some .string=>some (Res.pure (.c (.d (.val (.int .i64 s.size)))))
  | _=>none
 | .c cv=>match cZ P t with
  | some _=>match cv.lenOf with
   | some n=>some (Res.pure (.c (.d (.val (.int .i64 n)))))
   | none=>none
  | none=>none
 | _=>none
theorem aYl {P:Program} {W0:Fr} {K0:aM} {g:G} {H:Hp} {w:World} {r:Res} {t ty:TypeId} {x:SV} {v:Value} (hh:RelH W0 K0 g H w) (hx:bD g H x v) (h:bP P t x=some r) :
  bC P W0 K0 (vN (Builtin.len_ #[t] ty #[v])) g H w r:=by
 unfold bP at h
 split at h
 ·rename_i s
  split at h
  ·rename_i hu
   cases h
   have hx:Rep g.K (.val (.string s)) v:=hx
   cases hx
   exact bC.same hh (v:=.int .i64 s.size) (by rw[bS];simp[Builtin.len_,run_underlying hu,goInt]) (Rep.val _)
  ·cases h
 ·rename_i cv _
  split at h
  ·rename_i q hes
   obtain⟨e,s,bb,zs⟩:=q
   obtain⟨hu,_⟩:=cQ hes
   split at h
   ·rename_i n hn
    cases h
    obtain⟨a,c,rfl⟩:=CV.lenOf_rep hx hn
    exact bC.same hh (v:=.int .i64 n) (by rw[bS];simp[Builtin.len_,run_underlying hu,goInt]) (Rep.val _)
   ·cases h
  ·cases h
 ·cases h
/-! slices of lists and of strings -/
def aCl:Option SV→Nat→Option Nat
 | none,d=>some d
 | some x,_=>x.nat
def fT:CV→Bool
 | .full _ _=>true
 | _=>false
def fN (P:Program) (t:TypeId) (x:SV) (lo hi mx:Option SV):Option Res :=
 match x with
 | .c (.d (.val (.string s)))=>match P.underlying t,mx,aCl lo 0,aCl hi s.size with
  | some .string,none,some l,some h=>if l≤h∧h≤s.size then some (Res.pure (.c (.d (.val (.string (s.extract l h)))))) else none
  | _,_,_,_=>none
 | .c cv=>match cZ P t with
  | some (_,sz,_,_)=>match cv.lstOf sz with
   | some xs=>match aCl lo 0,aCl hi xs.length with
    | some l,some h=>match mx with
     | none=>if l≤h∧h≤xs.length then some (Res.pure (.c (if fT cv∧h=xs.length then .full sz ((xs.drop l).take (h - l)) else .d (.lst sz ((xs.drop l).take (h - l)))))) else none
     | some m=>match m.nat with
      | some m=>if l≤h∧h=m∧m≤xs.length∧hi.isSome then some (Res.pure (.c (.full sz ((xs.drop l).take (h - l))))) else none
      | none=>none
    | _,_=>none
   | none=>none
  | none=>none
 | _=>none
theorem wN {g:G} {H:Hp} {x:Option SV} {v:Option Value} {d n:Nat} (h:match x,v with|none,none=>True|some x,some v=>bD g H x v|_,_=>False) (hx:aCl x d=some n) :
  (v=none∧x=none∧n=d)∨∃ k,v=some (.int k n)∧x≠none:=by
 cases x with
 | none=>cases v with
  | none=>simp[aCl] at hx;exact .inl ⟨rfl,rfl,hx.symm⟩
  | some v=>exact h.elim
 | some x=>cases v with
  | none=>exact h.elim
  | some v=>obtain⟨k,rfl⟩:=SV.nat_rep h hx;exact .inr ⟨k,rfl,by simp⟩
theorem cV {P:Program} {k:IntKind} {n y:Nat} {code:BoundsCode} (h:n≤y) (w:World):(Instr.sliceBound (.int k n) y code).run P w = .ok n w:=by
 unfold Instr.sliceBound
 simp[asIntOf,h]
theorem iW {P:Program} {g:G} {H:Hp} {isS:Bool} {lo hi:Option SV} {vlo vhi:Option Value} {len cap l h:Nat} (w:World)
  (hlo:match lo,vlo with|none,none=>True|some x,some v=>bD g H x v|_,_=>False) (hhi:match hi,vhi with|none,none=>True|some x,some v=>bD g H x v|_,_=>False)
  (h1:aCl lo 0=some l) (h2:aCl hi len=some h) (hlh:l≤h) (hhl:h≤len) (hcap:len≤cap):(Instr.sliceBounds isS len cap vlo vhi none).run P w = .ok (l,h,cap) w:=by
 unfold Instr.sliceBounds
 rcases wN hhi h2 with ⟨rfl,_,rfl⟩|⟨k,rfl,_⟩<;>rcases wN hlo h1 with ⟨rfl,_,rfl⟩|⟨k',rfl,_⟩
 ·simp
 ·simp[cV (P:=P) hlh]
 ·simp[cV (P:=P) (show h≤cap by omega)]
 ·simp[cV (P:=P) (show h≤cap by omega),cV (P:=P) hlh]
theorem yQ {K:aM} {sz:Nat} {xs:List (List D)} {a:Option Addr} {c l h m:Nat} (hr:Rep K (.lst sz xs) (.slice a xs.length c)) (hlh:l≤h) (hhx:h≤xs.length) (hhm:h≤m) (hmc:m≤c) :
  Rep K (.lst sz ((xs.drop l).take (h - l))) (.slice (if m=l then a else a.map (·.add (l*sz))) (h - l) (m - l)):=by
 obtain⟨a',c',vs,e,hs,hc,hrl,h1,hk⟩:=hr.inv
 cases e
 have hlen:((xs.drop l).take (h - l)).length=h - l:=by simp;omega
 have hs' : ∀ x ∈ (xs.drop l).take (h - l),x.length=sz:=fun x hx=>hs x (List.mem_of_mem_drop (List.mem_of_mem_take hx))
 have hs2:∀ x ∈ xs.drop l,x.length=sz:=fun x hx=>hs x (List.mem_of_mem_drop hx)
 have hfl:((xs.drop l).take (h - l)).flatten=(xs.flatten.drop (l*sz)).take ((h - l)*sz):=by rw[aF0 hs2,aEz hs]
 have htot:=cR hs
 have key:=Rep.lst (K:=K) (sz:=sz) (xs:=(xs.drop l).take (h - l)) (vs:=(vs.drop (l*sz)).take ((h - l)*sz)) (a:=if m=l then a else a.map (·.add (l*sz))) (c:=m - l) hs' (by omega)
  (by rw[hfl];simp[hrl.1])
  (fun j x v hx hv=>by
   rw[hfl,List.getElem?_take] at hx
   rw[List.getElem?_take] at hv
   split at hx
   ·rename_i hj
    rw[if_pos hj,List.getElem?_drop] at hv
    rw[List.getElem?_drop] at hx
    exact hrl.2 _ x v hx hv
   ·cases hx)
  (fun u hu=>h1 u (List.mem_of_mem_drop (List.mem_of_mem_take hu)))
  (fun hne=>by
   have hlt:l<h:=by
    rcases Nat.lt_or_ge l h with h' | h'
    ·exact h'
    ·exfalso;apply hne;rw[show h - l=0 from by omega];simp
   obtain⟨b,off,rfl,hkk⟩:=hk (by intro e;rw[e] at hhx;simp at hhx;omega)
   rw[if_neg (by omega)]
   refine⟨b,off+l*sz,by simp[Addr.add_lit],fun j v hv=>?_⟩
   rw[List.getElem?_take] at hv
   split at hv
   ·rw[List.getElem?_drop] at hv
    rw[show off+l*sz+j=off+(l*sz+j) from by omega]
    exact hkk _ v hv
   ·cases hv)
 rw[hlen] at key
 exact key
theorem aTb {P:Program} {W0:Fr} {K0:aM} {g:G} {H:Hp} {w:World} {r:Res} {t:TypeId} {x:SV} {v:Value} {lo hi mx:Option SV} {vlo vhi vmx:Option Value} (hh:RelH W0 K0 g H w) (hx:bD g H x v)
  (hlo:match lo,vlo with|none,none=>True|some x,some v=>bD g H x v|_,_=>False) (hhi:match hi,vhi with|none,none=>True|some x,some v=>bD g H x v|_,_=>False)
  (hmx:match mx,vmx with|none,none=>True|some x,some v=>bD g H x v|_,_=>False) (h:fN P t x lo hi mx=some r) :
  bC P W0 K0 (vN (Instr.sliceAt t v vlo vhi vmx)) g H w r:=by
 unfold fN at h
 split at h
 ·rename_i s
  split at h
  ·rename_i l hh2 hu h1 h2
   split at h
   ·rename_i hc
    cases h
    have hx:Rep g.K (.val (.string s)) v:=hx
    cases hx
    cases vmx with
    | some v=>exact hmx.elim
    | none =>
     refine bC.same hh (v:=.string (s.extract l hh2)) ?_ (Rep.val _)
     rw[bS]
     unfold Instr.sliceAt Instr.slice
     simp only[Sem.run_bind,run_underlying hu,Result.andThen_ok]
     simp[iW (P:=P) (isS:=false) w hlo hhi h1 h2 hc.1 hc.2 (Nat.le_refl _)]
   ·cases h
  ·cases h
 ·rename_i cv _
  split at h
  ·rename_i e sz bb zs hes
   obtain⟨hu,j,z,u,hj,hz,hs,hby,_,_⟩:=cQ hes
   split at h
   ·rename_i xs hxs
    have hrep:=CV.lstOf_rep hx hxs
    obtain⟨a,c,vs,rfl,_,hcap,_⟩:=hrep.inv
    split at h
    ·rename_i l hh2 h1 h2
     split at h
     ·split at h
      ·rename_i hc
       cases h
       cases vmx with
       | some v=>exact hmx.elim
       | none =>
        have hb:=iW (P:=P) (isS:=true) w hlo hhi h1 h2 hc.1 hc.2 hcap
        refine bC.same hh (v:=.slice (if c=l then a else a.map (·.add (l*sz))) (hh2 - l) (c - l)) ?_ ?_
        ·rw[bS]
         unfold Instr.sliceAt Instr.slice
         simp only[Sem.run_bind,run_underlying hu,Result.andThen_ok,hb,cC hj,hs,Sem.run_pure]
        ·have hrr:=yQ hrep hc.1 hc.2 (show hh2≤c by omega) (Nat.le_refl c)
         show bA g H _ _
         split
         ·rename_i hf
          refine⟨hrr,(if c=l then a else a.map (·.add (l*sz))),?_⟩
          have:((xs.drop l).take (hh2 - l)).length=hh2 - l:=by simp;omega
          rw[this]
          cases cv with
          | full s' xs' =>
           obtain⟨_,a',hv⟩:=hx
           simp only[CV.lstOf] at hxs
           split at hxs
           ·cases hxs
            cases hv
            rw[hf.2]
           ·cases hxs
          | _=>simp[fT] at hf
         ·exact hrr
      ·cases h
     ·rename_i m
      split at h
      ·rename_i mm hm
       split at h
       ·rename_i hc
        obtain⟨hc1,rfl,hc2,hc3⟩:=hc
        cases h
        cases vmx with
        | none=>exact hmx.elim
        | some vm =>
         obtain⟨km,rfl⟩:=SV.nat_rep hmx hm
         have hb:(Instr.sliceBounds true xs.length c vlo vhi (some (.int km hh2))).run P w = .ok (l,hh2,hh2) w:=by
          unfold Instr.sliceBounds
          rcases wN hhi h2 with ⟨rfl,e,_⟩|⟨k,rfl,_⟩
          ·subst e;simp at hc3
          ·rcases wN hlo h1 with ⟨rfl,_,rfl⟩|⟨k',rfl,_⟩
           ·simp[cV (P:=P) (show hh2≤c by omega),cV (P:=P) (Nat.le_refl hh2)]
           ·simp[cV (P:=P) (show hh2≤c by omega),cV (P:=P) (Nat.le_refl hh2),cV (P:=P) hc1]
         refine bC.same hh (v:=.slice (if hh2=l then a else a.map (·.add (l*sz))) (hh2 - l) (hh2 - l)) ?_ ?_
         ·rw[bS]
          unfold Instr.sliceAt Instr.slice
          simp only[Sem.run_bind,run_underlying hu,Result.andThen_ok,hb,cC hj,hs,Sem.run_pure]
         ·have hrr:=yQ hrep hc1 hc2 (Nat.le_refl _) (show hh2≤c by omega)
          have:((xs.drop l).take (hh2 - l)).length=hh2 - l:=by simp;omega
          exact⟨hrr,_,by rw[this]⟩
       ·cases h
      ·cases h
    ·cases h
   ·cases h
  ·cases h
 ·cases h
/-! struct and slice literals -/
def qZ (place:Nat→Option (Nat × Nat)):List CV→List (Nat × SV)→Option (List CV)
 | cs,[]=>some cs
 | cs,(i,x)::rest=>match place i,x.cells with
  | some (off,size),some ys=>if ys.length=size∧off+ys.length≤cs.length then qZ place (eG cs off ys) rest else none
  | _,_=>none
theorem qS {α:Type} (vs us:List α) (off:Nat) (h:off+us.length≤vs.length) (i:Nat):(eG vs off us)[i]? = if i<off then vs[i]? else if i<off+us.length then us[i - off]? else vs[i]?:=by
 have h0:(vs.take off).length=off:=by simp;omega
 simp only[eG,List.append_assoc]
 split
 ·rw[List.getElem?_append_left (by omega),List.getElem?_take,if_pos (by omega)]
 ·rw[List.getElem?_append_right (by omega),h0]
  split
  ·rw[List.getElem?_append_left (by omega)]
  ·rw[List.getElem?_append_right (by omega),List.getElem?_drop]
   congr 1;omega
theorem aKw (off:Nat):∀ (us:List Value) (k:Nat) (vs:List Value),off+k+us.length≤vs.length →
  (us.zipIdx k).foldl (fun cs (p:Value × Nat)=>Array.setIfInBounds cs (off+p.2) p.1) vs.toArray=(eG vs (off+k) us).toArray
 | [],k,vs,h=>by simp[eG]
 | u::us,k,vs,h=>by
  simp only[List.length_cons] at h
  simp only[List.zipIdx_cons,List.foldl_cons,List.setIfInBounds_toArray]
  rw[aKw off us (k+1) _ (by simp;omega)]
  congr 1
  apply List.ext_getElem?
  intro i
  rw[qS _ _ _ (by simp;omega),qS _ _ _ (by simp;omega)]
  simp only[List.length_cons,List.getElem?_set]
  by_cases h1:i<off+k
  ·rw[if_pos (by omega),if_neg (by omega),if_pos h1]
  ·by_cases h2:i=off+k
   ·subst h2
    rw[if_pos (by omega),if_pos rfl,if_pos (by omega),if_neg (by omega),if_pos (by omega)]
    simp
   ·rw[if_neg (by omega),if_neg (show ¬ i<off+k by omega)]
    by_cases h3:i<off+(k+1)+us.length
    ·rw[if_pos h3,if_pos (by omega),show i - (off+k)=(i - (off+(k+1)))+1 from by omega,List.getElem?_cons_succ]
    ·rw[if_neg h3,if_neg (by omega),if_neg (by omega)]
def rL (g:G) (H:Hp):List (Nat × SV)→List (Nat × Value)→Prop
 | [],[]=>True
 | (i,x)::xs,(j,v)::vs=>i=j∧bD g H x v∧rL g H xs vs
 | _,_=>False
theorem oL {g:G} {H:Hp} {place:Nat→Option (Nat × Nat)}:∀ {ps:List (Nat × SV)} {cs cs' : List CV} {vs:List Value} {qs:List (Nat × Value)},bJ g H cs vs→(∀ u ∈ vs,u.oneCell' = true)→rL g H ps qs→qZ place cs ps=some cs' →
  ∃ vs' : List Value,Instr.fill place vs.toArray qs=some vs'.toArray∧bJ g H cs' vs'∧∀ u ∈ vs',u.oneCell' = true
 | [],cs,cs',vs,qs,hr,h1,hp,h=>by
  cases qs with
  | cons q qs=>exact hp.elim
  | nil=>simp[qZ] at h;subst h;exact⟨vs,rfl,hr,h1⟩
 | (i,x)::ps,cs,cs',vs,qs,hr,h1,hp,h=>by
  cases qs with
  | nil=>exact hp.elim
  | cons q qs =>
   obtain⟨j,v⟩:=q
   obtain⟨rfl,hx,hp⟩:=hp
   simp only[qZ] at h
   split at h
   ·rename_i off size ys hpl hys
    split at h
    ·rename_i hc
     obtain⟨us,hus,hru,h1u⟩:=SV.cells_rep hx hys
     obtain⟨vs',hf,hr',h1'⟩:=oL (uY hr hru hc.2) (uX h1 h1u) hp h
     refine⟨vs',?_,hr',h1'⟩
     have e1:=hr.1
     have e2:=hru.1
     have hne:¬ (v.cells.size≠size || decide (off+v.cells.size > vs.toArray.size))=true:=by rw[hus];simp;omega
     simp only[Instr.fill,hpl]
     rw[if_neg (by simpa using hne)]
     rw[← hf]
     congr 1
     rw[hus]
     have:=aKw off us 0 vs (by omega)
     simp only[Nat.add_zero] at this
     rw[← this]
     rw[← Array.foldl_toList]
     simp
    ·cases h
   ·cases h
def aMx (i:TInfo) (f:Nat):Option (Nat × Nat) :=
 match i.fs[f]? with
 | some (o,z,_)=>some (o,z)
 | none=>none
def xP (P:Program) (t:TypeId) (ps:List (Nat × SV)):Option Res :=
 match TI P t with
 | some i=>if i.zero.all (·.oneCell')∧i.fs≠[]∧i.fs.all (fun f=>f.2.1≠0) then match qZ (aMx i) (i.zero.map fun v=>.d (.val v)) ps with
   | some cs=>some (Res.pure (.agg cs))
   | none=>none
  else none
 | none=>none
theorem aC4 {P:Program} {w:World}:∀ (l:List Field),(∀ f ∈ l,aAe P f.type≠0)→(l.mapM (fun f=>do pure (f.offset,← sizeOf f.type):Field→Sem (Nat × Nat))).run P w = .ok (l.map fun f=>(f.offset,aAe P f.type)) w
 | [],_=>by simp
 | f::l,h=>by
  obtain⟨i,u,hi,hu,hk⟩:=sW (h f (by simp))
  simp only[List.mapM_cons,Sem.run_bind,cC hi,Result.andThen_ok,Sem.run_pure,aC4 l (fun g hg=>h g (by simp[hg])),List.map_cons,hk]
theorem aT6 {P:Program} {W0:Fr} {K0:aM} {g:G} {H:Hp} {w:World} {r:Res} {t:TypeId} {ps:List (Nat × SV)} {qs:Array (Nat × Value)} (hh:RelH W0 K0 g H w) (hp:rL g H ps qs.toList) (h:xP P t ps=some r) :
  bC P W0 K0 (vN (Instr.build t qs)) g H w r:=by
 unfold xP at h
 split at h
 ·rename_i i hi
  obtain⟨u,j,z,hu,hj,hz,rfl⟩:=kW hi
  split at h
  ·rename_i hc
   obtain⟨h1,hne,hall⟩:=hc
   split at h
   ·rename_i cs hcs
    cases h
    cases u with
    | struct fs =>
     have hsz:∀ f ∈ fs.toList,aAe P f.type≠0:=fun f hf=>by
      have:=List.all_eq_true.1 hall (f.offset,aAe P f.type,_) (List.mem_map.2 ⟨f,hf,rfl⟩)
      simpa using this
     obtain⟨vs',hf,hr,h1'⟩:=oL (place:=fun i=>(fs.toList.map fun f=>(f.offset,aAe P f.type))[i]?) (pP g H z.cells.toList) (fun u hu=>List.all_eq_true.1 h1 u hu) hp (by
      rw[← hcs]
      congr 1
      funext k
      simp only[aMx,fsD,List.getElem?_map]
      cases fs.toList[k]?<;>rfl)
     refine bC.same hh (v:=.agg vs'.toArray) ?_ ⟨vs',rfl,hr,h1'⟩
     rw[bS]
     unfold Instr.build
     have hm:=aC4 (P:=P) (w:=w) fs.toList hsz
     simp only[Sem.run_bind,zeroValue,typeInfo,run_program,Result.andThen_ok,hj,Sem.run_pure,hz,run_underlying hu,Array.mapM_eq_mapM_toList,Sem.run_map,hm]
     have hf2:Instr.fill (fun x=>((fs.toList.map fun f=>(f.offset,aAe P f.type)).toArray)[x]?) z.cells qs.toList=some vs'.toArray:=by
      rw[← hf];congr 1;funext x;simp
     simp only[hf2,Sem.run_pure,Result.andThen_ok]
    | _=>simp[fsD] at hne
   ·cases h
  ·cases h
 ·cases h
def eK {α:Type} (sz:Nat):Nat→List α→List (List α)
 | 0,_=>[]
 | n+1,l=>l.take sz::eK sz n (l.drop sz)
theorem mS {α:Type} (sz:Nat):∀ (n:Nat) (l:List α),l.length=n*sz→(eK sz n l).flatten=l∧(eK sz n l).length=n∧∀ x ∈ eK sz n l,x.length=sz
 | 0,l,h=>by simp at h;subst h;simp[eK]
 | n+1,l,h=>by
  rw[Nat.succ_mul] at h
  obtain⟨h1,h2,h3⟩:=mS sz n (l.drop sz) (by simp;omega)
  refine⟨by simp[eK,h1],by simp[eK,h2],fun x hx=>?_⟩
  simp only[eK,List.mem_cons] at hx
  rcases hx with rfl|hx
  ·simp;omega
  ·exact h3 x hx
theorem aCb {P:Program} {W0:Fr} {K0:aM} {g:G} {H:Hp} {w:World} {ds:List D} {vs:List Value} {sz n:Nat} (t:TypeId) (rest:List Value) (hh:RelH W0 K0 g H w) (hr:fH g.K ds vs) (h1:∀ u ∈ vs,u.oneCell' = true) (hl:ds.length=n*sz) (c:Nat) (hc:n≤c) :
  RelH W0 K0 { g with K:=cK g.K w.heap.size vs } H (w.alloc (.cells (vs++rest).toArray t))∧dJ g H { g with K:=cK g.K w.heap.size vs } H ∧
  Rep (cK g.K w.heap.size vs) (.lst sz (eK sz n ds)) (.slice (some ⟨w.heap.size,0,none⟩) n c):=by
 have he:=oJ hh.kw vs
 refine⟨hh.grow (gI w _) he (aAh hh.kw vs _ t _ (fun j v hj=>?_)),dJ.ofK he.1,?_⟩
 ·have hlt:=(List.getElem?_eq_some_iff.1 hj).1
  simp[List.getElem?_append_left hlt,hj]
 ·obtain⟨h2,h3,h4⟩:=mS sz n ds hl
  have hr':=hr.mono he.1
  have:=Rep.lst (K:=cK g.K w.heap.size vs) (sz:=sz) (xs:=eK sz n ds) (vs:=vs) (a:=some ⟨w.heap.size,0,none⟩) (c:=c) h4 (by omega) (by rw[h2];exact hr.1) (by rw[h2];exact hr'.2) h1
   (fun _=>⟨w.heap.size,0,rfl,fun j v hj=>by unfold cK;rw[if_pos rfl,Nat.zero_add];exact hj⟩)
  rw[h3] at this
  exact this
def gP (zs:List Value) (n:Nat):List Value:=(List.range n).map fun i=>zs.toArray[i % zs.length]!
def qX (zs:List Value):Nat→List Value
 | 0=>[]
 | n+1=>zs++qX zs n
theorem xO (zs:List Value):∀ n,(qX zs n).length=n*zs.length
 | 0=>by simp[qX]
 | n+1=>by simp[qX,xO zs n,Nat.succ_mul];omega
theorem aDm (zs:List Value) (h:zs.length≠0):∀ n i,i<n*zs.length→(qX zs n)[i]? = zs[i % zs.length]?
 | 0,i,hi=>by simp at hi
 | n+1,i,hi=>by
  rw[Nat.succ_mul] at hi
  simp only[qX]
  by_cases h1:i<zs.length
  ·rw[List.getElem?_append_left h1,Nat.mod_eq_of_lt h1]
  ·rw[List.getElem?_append_right (by omega),aDm zs h n _ (by omega),Nat.mod_eq_sub_mod (a:=i) (by omega)]
theorem aI3 (zs:List Value) (h:zs.length≠0) (n:Nat):qX zs n=gP zs (n*zs.length):=by
 apply List.ext_getElem?
 intro i
 by_cases hi:i<n*zs.length
 ·rw[aDm zs h n i hi]
  have hlt:i % zs.length<zs.length:=Nat.mod_lt _ (by omega)
  simp[gP,hi,hlt]
 ·rw[List.getElem?_eq_none (by rw[xO];omega),List.getElem?_eq_none (by simp[gP];omega)]
def jO (P:Program) (t:TypeId) (len:Nat) (ps:List (Nat × SV)):Option Res :=
 match cZ P t with
 | some (_,sz,_,zs)=>if len=0 then match ps with
   | []=>some (Res.pure (.c (.full sz [])))
   | _=>none
  else if len*sz≤16777216∧0<len*sz∧zs.length=sz∧zs.all (·.oneCell') then
   match qZ (fun i=>some (i*sz,sz)) ((qX zs len).map fun v=>.d (.val v)) ps with
   | some cs=>match bR CV.toD0 cs with
    | some ds=>if ds.length=len*sz then some (Res.pure (.c (.full sz (eK sz len ds)))) else none
    | none=>none
   | none=>none
  else none
 | none=>none
theorem aE4 {P:Program} {W0:Fr} {K0:aM} {g:G} {H:Hp} {w:World} {r:Res} {t:TypeId} {len:Nat} {ps:List (Nat × SV)} {qs:Array (Nat × Value)} (hh:RelH W0 K0 g H w) (hp:rL g H ps qs.toList) (h:jO P t len ps=some r) :
  bC P W0 K0 (vN (Instr.buildSlice t len qs)) g H w r:=by
 unfold jO at h
 split at h
 ·rename_i e sz bb zs hes
  obtain⟨hu,j,z,u,hj,hz,hs,hby,hzs,_⟩:=cQ hes
  split at h
  ·rename_i h0
   split at h
   ·cases h
    subst h0
    have hq:qs.toList=[]:=by
     cases hq:qs.toList with
     | nil=>rfl
     | cons a l=>rw[hq] at hp;exact hp.elim
    have hnl:=aCb (P:=P) (sz:=sz) (n:=0) (ds:=[]) (vs:=[]) e [] hh ⟨rfl,fun j x v hx=>by simp at hx⟩ (by simp) (by simp) 0 (Nat.le_refl _)
    refine⟨_,.slice (some ⟨w.heap.size,0,none⟩) 0 0,w.alloc (.cells #[] e),_,?_,.inl rfl,⟨hnl.2.2,some ⟨w.heap.size,0,none⟩,rfl⟩,hnl.1,hnl.2.1⟩
    rw[bS]
    unfold Instr.buildSlice
    simp[run_underlying hu,cC hj,hs,hq,Instr.fill,newRow]
    rw[show Array.map (fun (_:Nat)=>(default:Value)) (Array.range 0) = #[] from by apply Array.ext';simp]
   ·cases h
  ·split at h
   rotate_left
   ·cases h
   rename_i hc
   obtain⟨hc1,hc2,hc3',hc4⟩:=hc
   have hc3:zs.length≠0:=by intro e;rw[← hc3',e] at hc2;simp at hc2
   rw[aI3 zs hc3 len,hc3'] at h
   split at h
   ·rename_i cs hcs
    split at h
    ·rename_i ds hds
     split at h
     ·rename_i hdl
      cases h
      have hz1:∀ u ∈ gP zs (len*sz),u.oneCell' = true:=fun u hu=>by
       simp only[gP,List.mem_map,List.mem_range] at hu
       obtain⟨i,hi,rfl⟩:=hu
       have hlt:i % zs.length<zs.length:=Nat.mod_lt _ (by omega)
       have:zs.toArray[i % zs.length]! = zs[i % zs.length]:=by simp[hlt]
       rw[this]
       exact List.all_eq_true.1 hc4 _ (List.getElem_mem hlt)
      obtain⟨vs,hf,hr,h1⟩:=oL (pP g H (gP zs (len*sz))) hz1 hp hcs
      have hL:=hr.toD0 hds
      obtain⟨h2,h3,h4⟩:=aCb (P:=P) (sz:=sz) (n:=len) e [] hh hL h1 hdl len (Nat.le_refl _)
      have hlen:(eK sz len ds).length=len:=(mS sz len ds hdl).2.1
      refine⟨_,.slice (some ⟨w.heap.size,0,none⟩) len len,_,_,?_,.inl rfl,⟨h4,some ⟨w.heap.size,0,none⟩,by rw[hlen]⟩,h2,h3⟩
      have hrow:(Array.range (len*sz)).map (fun x=>z.cells[x % z.cells.size]!)=(gP zs (len*sz)).toArray:=by
       subst hzs
       apply Array.ext'
       simp[gP]
      rw[bS]
      unfold Instr.buildSlice
      simp only[Sem.run_bind,run_underlying hu,Result.andThen_ok,cC hj,hs]
      rw[if_neg (by omega)]
      rw[if_neg (by omega)]
      simp only[Sem.run_bind,zeroValue,typeInfo,run_program,Result.andThen_ok,hj,Sem.run_pure,hz,hrow,hf]
      simp[newRow]
     ·cases h
    ·cases h
   ·cases h
 ·cases h
/-! interfaces,closures,tuples -/
def eW (P:Program) (t:TypeId) (H:Hp) (x:SV):Option Res :=
 match TI P t with
 | some i=>if i.iface then none else match x with
  | .c (.own id off)=>match H id with
   | some (.froz ds)=>some ⟨.c (.d (.iface t (.ptr ds off))),none,[id],false⟩
   | some (.cells cs)=>match bR CV.toD0 cs with
    | some ds=>some ⟨.c (.d (.iface t (.ptr ds off))),some (id,.froz ds),[id],false⟩
    | none=>none
   | _=>none
  | .c cv=>match cv.toD0 with
   | some y=>some (Res.pure (.c (.d (.iface t y))))
   | none=>none
  | .agg cs=>match bR CV.toD0 cs with
   | some ds=>some (Res.pure (.c (.d (.iface t (.agg ds)))))
   | none=>none
 | none=>none
theorem aE7 {P:Program} {t:TypeId} {u:TypeDesc} (hu:P.underlying t=some u) (hi:aBq u=false) (v:Value) (w:World):(Instr.makeInterface t v).run P w = .ok (.iface t v) w:=by
 unfold Instr.makeInterface
 simp only[Sem.run_bind,run_underlying hu,Result.andThen_ok]
 cases u<;>first|rfl|simp[aBq] at hi
theorem aT9 {P:Program} {W0:Fr} {K0:aM} {g:G} {H:Hp} {w:World} {r:Res} {t:TypeId} {x:SV} {v:Value} (hh:RelH W0 K0 g H w) (hx:bD g H x v) (h:eW P t H x=some r) :
  bC P W0 K0 (vN (Instr.makeInterface t v)) g H w r:=by
 unfold eW at h
 split at h
 ·rename_i i hi
  obtain⟨u,j,z,hu,hj,hz,rfl⟩:=kW hi
  split at h
  ·cases h
  ·rename_i hif
   have hif:aBq u=false:=by simpa using hif
   have hrun:(vN (Instr.makeInterface t v)).run P w = .ok (.value (.iface t v)) w:=by rw[bS,aE7 hu hif];rfl
   split at h
   ·rename_i id off
    split at h
    ·rename_i ds hds
     cases h
     have hd:=CV.toD_rep hh (x:=.own id off) (y:=.ptr ds off) hx (by simp[CV.toD,hds])
     exact⟨_,_,w,g,hrun,.inl rfl,Rep.iface hd,hh,dJ.refl _ _⟩
    ·rename_i cs hcs
     split at h
     ·rename_i ds hds
      cases h
      obtain⟨g',h2,h3⟩:=hh.freeze hcs hds
      have hx':=h3 (.own id off) v hx
      have hd:=CV.toD_rep h2 (x:=.own id off) (y:=.ptr ds off) hx' (by simp[CV.toD,aB])
      exact⟨_,_,w,g',hrun,.inl rfl,Rep.iface hd,h2,h3⟩
     ·cases h
    ·cases h
   ·rename_i cv _
    split at h
    ·rename_i y hy
     cases h
     exact bC.same hh hrun (Rep.iface (CV.toD0_rep hx hy))
    ·cases h
   ·rename_i cs
    split at h
    ·rename_i ds hds
     cases h
     obtain⟨vs,rfl,hr,h1⟩:=hx
     have:=hr.toD0 hds
     exact bC.same hh hrun (Rep.iface (.agg this.1 this.2 h1))
    ·cases h
 ·cases h
def aGp (H:Hp):SV→Option D
 | .c x=>x.toD H
 | .agg _=>none
def eB:SV→List Nat
 | .c (.own id _)=>[id]
 | _=>[]
def aPc:SV→Option Cap
 | .c (.own id off)=>some (.own id off)
 | .c x=>match x.toD0 with
  | some y=>some (.d y)
  | none=>none
 | .agg _=>none
def eT (H:Hp) (fn:Fn) (first caps:List SV):Option Res :=
 match first,bR (aGp H) caps with
 | [],some ds=>some ⟨.c (.d (.fn fn ds)),none,caps.flatMap eB,false⟩
 | fs,_=>match bR aPc fs,bR aPc caps with
  | some [],some cs=>some ⟨.c (.clo fn cs),none,caps.flatMap eB,false⟩
  | some (c::bs),some []=>some ⟨.c (.bnd fn (c::bs)),none,caps.flatMap eB,false⟩
  | _,_=>none
theorem aIm {g:G} {H:Hp} {x:SV} {v:Value} {c:Cap} (hx:bD g H x v) (h:aPc x=some c):aLa g H c v:=by
 unfold aPc at h
 split at h
 ·cases h;exact hx
 ·split at h
  ·rename_i y hy
   cases h
   exact CV.toD0_rep hx hy
  ·cases h
 ·cases h
def iO (g:G) (H:Hp) (xs:List SV) (vs:List Value):Prop:=xs.length=vs.length∧∀ (j:Nat) (x:SV) (v:Value),xs[j]? = some x→vs[j]? = some v→bD g H x v
theorem aKd {P:Program} {W0:Fr} {K0:aM} {g:G} {H:Hp} {w:World} {r:Res} {fn:Fn} {first caps:List SV} {vf vc:List Value} (hh:RelH W0 K0 g H w) (hf:iO g H first vf) (hc:iO g H caps vc) (h:eT H fn first caps=some r) :
  bC P W0 K0 (vN (Instr.makeFunc fn vf.toArray vc.toArray)) g H w r:=by
 unfold eT at h
 split at h
 ·rename_i ds hds
  cases h
  have:vf=[]:=List.eq_nil_of_length_eq_zero (by have:=hf.1;simp at this;omega)
  subst this
  refine bC.same hh (v:=.func fn #[] vc.toArray) (by rw[bS];simp[Instr.makeFunc]) ?_
  obtain⟨h1,h2⟩:=cS hds
  refine Rep.fn (h1.trans hc.1) (fun j x v hx hv=>?_)
  obtain⟨s,hs,hsx⟩:=h2 j x hx
  cases s with
  | c y=>exact CV.toD_rep hh (hc.2 j _ v hs hv) hsx
  | agg cs=>simp[aGp] at hsx
 ·split at h
  ·rename_i cs h1 h2
   cases h
   have e1:=(cS h1).1
   have:vf=[]:=List.eq_nil_of_length_eq_zero (by have:=hf.1;simp at e1;omega)
   subst this
   refine bC.same hh (v:=.func fn #[] vc.toArray) (by rw[bS];simp[Instr.makeFunc]) ?_
   obtain⟨e2,e3⟩:=cS h2
   refine⟨vc,rfl,e2.trans hc.1,fun j x v hx hv=>?_⟩
   obtain⟨s,hs,hsx⟩:=e3 j x hx
   exact aIm (hc.2 j _ v hs hv) hsx
  ·rename_i c bs h1 h2
   cases h
   have e1:=(cS h2).1
   have:vc=[]:=List.eq_nil_of_length_eq_zero (by have:=hc.1;simp at e1;omega)
   subst this
   refine bC.same hh (v:=.func fn vf.toArray #[]) (by rw[bS];simp[Instr.makeFunc]) ?_
   obtain⟨e2,e3⟩:=cS h1
   refine⟨vf,rfl,e2.trans hf.1,fun j x v hx hv=>?_⟩
   obtain⟨s,hs,hsx⟩:=e3 j x hx
   exact aIm (hf.2 j _ v hs hv) hsx
  ·cases h
def fO (x:SV) (i:Nat):Option Res :=
 match x with
 | .c (.d (.tup rs))=>match rs[i]? with
  | some y=>some (Res.pure (SV.ofD y))
  | none=>none
 | _=>none
theorem aMs {P:Program} {W0:Fr} {K0:aM} {g:G} {H:Hp} {w:World} {r:Res} {x:SV} {i:Nat} {v:Value} (hh:RelH W0 K0 g H w) (hx:bD g H x v) (h:fO x i=some r) :
  bC P W0 K0 (vN (Instr.extract v i)) g H w r:=by
 unfold fO at h
 split at h
 ·rename_i rs
  split at h
  ·rename_i y hy
   cases h
   have hx:Rep g.K (.tup rs) v:=hx
   cases hx with
   | tup hl hv =>
    rename_i vs
    have hlt:i<vs.length:=by have:=(List.getElem?_eq_some_iff.1 hy).1;omega
    refine bC.same hh (v:=vs[i]) (by rw[bS];simp[Instr.extract,hlt]) (kY (hv i y vs[i] hy (List.getElem?_eq_getElem hlt)) g H rfl)
  ·cases h
 ·cases h
theorem RelH.drew {W0:Fr} {K0:aM} {g:G} {H:Hp} {w:World} (hh:RelH W0 K0 g H w):RelH W0 K0 g H w.drew :=
 ⟨hh.below.trans (Below.refl _ _).drew,hh.ext,hh.kw,hh.holds,hh.base,hh.dom,hh.sep,hh.frozlt,hh.glob,hh.lent⟩
theorem RelH.newrow {W0:Fr} {K0:aM} {g:G} {H:Hp} {w:World} {τ e sz n' cp:Nat} {vs:List Value} {cur:Array Value} (hh:RelH W0 K0 g H w) (hτ:H τ=none∨∃ e n,H τ=some (.row e sz n)∧n<n')
  (hv:∀ (j:Nat) v,vs[j]? = some v→cur[j]? = some v) (hsz:cur.size=cp*sz) (hn:n'≤cp) (hl:vs.length=n' * sz) :
  RelH W0 K0 ⟨cK g.K w.heap.size vs,upd g.β τ (some w.heap.size),upd g.cap τ cp⟩ (upd H τ (some (.row e sz n'))) (w.alloc (.cells cur e)) ∧
  dJ g H ⟨cK g.K w.heap.size vs,upd g.β τ (some w.heap.size),upd g.cap τ cp⟩ (upd H τ (some (.row e sz n'))):=by
 have he:=oJ hh.kw vs
 have hb:=gI w (.cells cur e)
 have hnb:∀ i,gQ (H i)=false→∀ b,g.β i=some b→i≠τ:=fun i hi b hbi e=>by
  subst e
  rcases hτ with h|⟨e,n,h,_⟩
  ·rw[hh.dom i h] at hbi;cases hbi
  ·rw[h] at hi;simp[gQ] at hi
 have hle:dJ g H ⟨cK g.K w.heap.size vs,upd g.β τ (some w.heap.size),upd g.cap τ cp⟩ (upd H τ (some (.row e sz n'))):=by
  intro x v r
  cases x with
  | any=>trivial
  | d x=>exact Rep.mono he.1 r
  | own i off =>
   obtain⟨b,hbi,rfl,hnr⟩:=r
   have hne:=hnb i hnr b hbi
   exact⟨b,(aA _ _ hne).trans hbi,rfl,by rw[aA _ _ hne];exact hnr⟩
  | full s xs=>exact⟨r.1.mono he.1,r.2⟩
  | clo f caps=>exact dO r he.1 (fun i off v ⟨b,hbi,hv,hnr⟩=>⟨b,(aA _ _ (hnb i hnr b hbi)).trans hbi,hv,by rw[aA _ _ (hnb i hnr b hbi)];exact hnr⟩)
  | bnd f caps=>exact dN r he.1 (fun i off v ⟨b,hbi,hv,hnr⟩=>⟨b,(aA _ _ (hnb i hnr b hbi)).trans hbi,hv,by rw[aA _ _ (hnb i hnr b hbi)];exact hnr⟩)
  | yld i=>exact dP r (fun i off v ⟨b,hbi,hv,hnr⟩=>⟨b,(aA _ _ (hnb i hnr b hbi)).trans hbi,hv,by rw[aA _ _ (hnb i hnr b hbi)];exact hnr⟩)
  | mt i k=>exact iB (yX.upd (fun _ _ _ _ h=>by rcases hτ with q|⟨_,_,q,_⟩<;>(rw[q] at h;cases h)) (fun i h=>aA _ _ h) (fun i h=>aA _ _ h)) r
  | apt i s xs k=>exact fZ he.1 (TLe.upd (fun _ _ _ h=>by rcases hτ with q|⟨_,_,q,_⟩<;>(rw[q] at h;cases h)) (fun i h=>aA _ _ h) (fun i h=>aA _ _ h)) r
  | mpt i k o=>exact iA (yX.upd (fun _ _ _ _ h=>by rcases hτ with q|⟨_,_,q,_⟩<;>(rw[q] at h;cases h)) (fun i h=>aA _ _ h) (fun i h=>aA _ _ h)) r
  | mp i=>exact fC r (fun i off v ⟨b,hbi,hv,hnr⟩=>⟨b,(aA _ _ (hnb i hnr b hbi)).trans hbi,hv,by rw[aA _ _ (hnb i hnr b hbi)];exact hnr⟩)
  | view i s off len =>
   obtain⟨b,c,hbi,rfl,hc,hnr⟩:=r
   have hne:=hnb i hnr b hbi
   exact⟨b,c,(aA _ _ hne).trans hbi,rfl,hc,by rw[aA _ _ hne];exact hnr⟩
  | app σ s xs =>
   obtain⟨r1,e',n,hrow,hle',hf⟩:=r
   by_cases hst:σ=τ
   ·subst hst
    rcases hτ with h|⟨e2,n2,h,hlt⟩
    ·rw[h] at hrow;cases hrow
    ·rw[h] at hrow;cases hrow
     exact⟨r1.mono he.1,e,n',aB _ _ _,by omega,fun h=>by omega⟩
   ·refine⟨r1.mono he.1,e',n,by rw[aA _ _ hst];exact hrow,hle',fun h=>?_⟩
    rcases hf h with h4|⟨b,hb4,hv4⟩
    ·exact .inl h4
    ·exact .inr ⟨b,(aA _ _ hst).trans hb4,by show v = .slice _ _ (upd g.cap τ cp σ);rw[aA _ _ hst];exact hv4⟩
 refine⟨⟨hh.below.trans hb,hh.ext.trans he hh.below.size,aAh hh.kw vs cur e (0,0) hv,?_,?_,?_,?_,?_,hh.glob,hh.lent.trans hle⟩,hle⟩
 ·intro i he' hi
  by_cases hne:i=τ
  ·subst hne
   rw[aB] at hi
   cases hi
   intro b hbi
   have:some w.heap.size=some b:=(aB g.β i (some w.heap.size)).symm.trans hbi
   cases this
   exact⟨cur,lE w _,by show _=upd g.cap i cp i*sz;rw[aB];exact hsz,by show n'≤upd g.cap i cp i;rw[aB];exact hn,fun o ho=>by
    show cK _ _ _ _ _=none
    unfold cK;rw[if_pos rfl];exact List.getElem?_eq_none (by omega)⟩
  ·rw[aA _ _ hne] at hi
   have:=hh.holds i he' hi
   have hk:∀ b o,b<w.heap.size→cK g.K w.heap.size vs b o=g.K b o:=fun b o h=>he.2 b o h
   cases he' with
   | cells cs =>
    obtain⟨b,vs',t',hβi,hheap,hr',h1',hn'⟩:=this
    exact⟨b,vs',t',(aA _ _ hne).trans hβi,(hb.block b (aP hheap)).trans hheap,hr'.mono hle,h1',fun o=>(hk b o (aP hheap)).trans (hn' o)⟩
   | obj o =>
    obtain⟨b,hβi,hheap,hn'⟩:=this
    exact⟨b,(aA _ _ hne).trans hβi,(hb.block b (aP hheap)).trans hheap,fun o=>(hk b o (aP hheap)).trans (hn' o)⟩
   | froz ds =>
    obtain⟨b,vs',hβi,hr',h1',hn'⟩:=this
    exact⟨b,vs',(aA _ _ hne).trans hβi,hr'.mono he.1,h1',fun j v hj=>he.1 _ _ _ (hn' j v hj)⟩
   | mrow e2 sz2 n2 cs2=>exact bY this (aA _ _ hne) (aA _ _ hne) (fun b o h1 h2=>(hb.block b (aP h2)).trans h2) hle (fun b o _ h1 h2=>(hk b o h2).trans h1)
   | rot e2 sz2 n2=>exact bM this (aA _ _ hne) (aA _ _ hne) (fun b o h1 h2=>(hb.block b (aP h2)).trans h2) (fun b o _ h1 h2=>(hk b o h2).trans h1)
   | ob cs2 p=>exact cT this (aA _ _ hne) (aA _ _ hne) (fun b o h1 h2=>(hb.block b (aP h2)).trans h2) hle (fun b o _ h1 h2=>(hk b o h2).trans h1)
   | row e2 sz2 n2 =>
    intro b hβi
    have hβi' : g.β i=some b:=(aA g.β (some w.heap.size) hne).symm.trans hβi
    obtain⟨cur2,hheap,h2,h3,h4⟩:=this b hβi'
    exact⟨cur2,(hb.block b (aP hheap)).trans hheap,by show _=upd g.cap τ cp i*sz2;rw[aA _ _ hne];exact h2,by show n2≤upd g.cap τ cp i;rw[aA _ _ hne];exact h3,fun o ho=>(hk b o (aP hheap)).trans (h4 o ho)⟩
 ·intro i b hβi
  by_cases hne:i=τ
  ·subst hne
   have:some w.heap.size=some b:=(aB g.β i (some w.heap.size)).symm.trans hβi
   cases this;exact Fr.new hh.below.size
  ·exact hh.base i b ((aA g.β (some w.heap.size) hne).symm.trans hβi)
 ·intro i hi
  by_cases hne:i=τ
  ·subst hne;rw[aB] at hi;cases hi
  ·rw[aA _ _ hne] at hi
   exact (aA _ _ hne).trans (hh.dom i hi)
 ·intro i j b hi hj
  have key:∀ i,upd g.β τ (some w.heap.size) i=some b→(i=τ∧b=w.heap.size)∨(i≠τ∧g.β i=some b):=by
   intro i hi
   by_cases hne:i=τ
   ·subst hne;rw[aB] at hi;cases hi;exact .inl ⟨rfl,rfl⟩
   ·rw[aA _ _ hne] at hi;exact .inr ⟨hne,hi⟩
  rcases key i hi with ⟨rfl,rfl⟩|⟨h1,h2⟩
  ·rcases key j hj with ⟨rfl,_⟩|⟨h3,h4⟩
   ·rfl
   ·have:=hh.frozlt j _ h4;omega
  ·rcases key j hj with ⟨rfl,rfl⟩|⟨h3,h4⟩
   ·have:=hh.frozlt i _ h2;omega
   ·exact hh.sep i j b h2 h4
 ·intro i b hβi
  by_cases hne:i=τ
  ·subst hne
   have:some w.heap.size=some b:=(aB g.β i (some w.heap.size)).symm.trans hβi
   cases this;exact aP (lE w _)
  ·have:=hh.frozlt i b ((aA g.β (some w.heap.size) hne).symm.trans hβi)
   have:=hb.size;omega
def jJ (K:aM) (b off:Nat) (vs:List Value):aM:=fun b' o=>if b' = b∧off≤o∧o<off+vs.length then vs[o - off]? else K b' o
theorem RelH.inrow {W0:Fr} {K0:aM} {g:G} {H:Hp} {w:World} {τ e sz n m b:Nat} {us:List Value} {cur:Array Value} (hh:RelH W0 K0 g H w) (hτ:H τ=some (.row e sz n)) (hm:0<m) (hβ:g.β τ=some b)
  (hheap:w.heap[b]? = some (.cells cur e (0,0))) (hsz:cur.size=g.cap τ*sz) (hn:n+m≤g.cap τ) (hl:us.length=m*sz) (hk:∀ o,n*sz≤o→g.K b o=none) :
  RelH W0 K0 ⟨jJ g.K b (n*sz) us,g.β,g.cap⟩ (upd H τ (some (.row e sz (n+m)))) (w.setRow b (cur.toList.take (n*sz)++us++cur.toList.drop (n*sz+us.length)).toArray) ∧
  dJ g H ⟨jJ g.K b (n*sz) us,g.β,g.cap⟩ (upd H τ (some (.row e sz (n+m)))):=by
 have htot:n*sz+us.length≤cur.size:=by rw[hl,hsz,← Nat.add_mul];exact Nat.mul_le_mul_right _ hn
 have hkle:gL g.K (jJ g.K b (n*sz) us):=fun b' o v hv=>by
  unfold jJ
  split
  ·rename_i h;rw[h.1,hk o h.2.1] at hv;cases hv
  ·exact hv
 have hoth:∀ b' o,b'≠b→jJ g.K b (n*sz) us b' o=g.K b' o:=fun b' o h=>by unfold jJ;rw[if_neg (fun h'=>h h'.1)]
 have hnb:∀ i,gQ (H i)=false→i≠τ:=fun i hi e=>by subst e;rw[hτ] at hi;simp[gQ] at hi
 have hle:dJ g H ⟨jJ g.K b (n*sz) us,g.β,g.cap⟩ (upd H τ (some (.row e sz (n+m)))):=by
  intro x v r
  cases x with
  | any=>trivial
  | d x=>exact Rep.mono hkle r
  | own i off =>
   obtain⟨b,hbi,rfl,hnr⟩:=r
   exact⟨b,hbi,rfl,by rw[aA _ _ (hnb i hnr)];exact hnr⟩
  | full s xs=>exact⟨r.1.mono hkle,r.2⟩
  | clo f caps=>exact dO r hkle (fun i off v ⟨b,hbi,hv,hnr⟩=>⟨b,hbi,hv,by rw[aA _ _ (hnb i hnr)];exact hnr⟩)
  | bnd f caps=>exact dN r hkle (fun i off v ⟨b,hbi,hv,hnr⟩=>⟨b,hbi,hv,by rw[aA _ _ (hnb i hnr)];exact hnr⟩)
  | yld i=>exact dP r (fun i off v ⟨b,hbi,hv,hnr⟩=>⟨b,hbi,hv,by rw[aA _ _ (hnb i hnr)];exact hnr⟩)
  | mt i k=>exact iB (yX.upd (fun _ _ _ _ h=>by rw[hτ] at h;cases h) (fun _ _=>rfl) (fun _ _=>rfl)) r
  | apt i s xs k=>exact fZ hkle (TLe.upd (fun _ _ _ h=>by rw[hτ] at h;cases h) (fun _ _=>rfl) (fun _ _=>rfl)) r
  | mpt i k o=>exact iA (yX.upd (fun _ _ _ _ h=>by rw[hτ] at h;cases h) (fun _ _=>rfl) (fun _ _=>rfl)) r
  | mp i=>exact fC r (fun i off v ⟨b,hbi,hv,hnr⟩=>⟨b,hbi,hv,by rw[aA _ _ (hnb i hnr)];exact hnr⟩)
  | view i s off len =>
   obtain⟨b,c,hbi,rfl,hc,hnr⟩:=r
   exact⟨b,c,hbi,rfl,hc,by rw[aA _ _ (hnb i hnr)];exact hnr⟩
  | app σ s xs =>
   obtain⟨r1,e',n2,hrow,hle',hf⟩:=r
   by_cases hst:σ=τ
   ·subst hst
    rw[hτ] at hrow;cases hrow
    exact⟨r1.mono hkle,e,n+m,aB _ _ _,by omega,fun h=>by omega⟩
   ·exact⟨r1.mono hkle,e',n2,by rw[aA _ _ hst];exact hrow,hle',hf⟩
 have hset:=setRow_heap w b cur (cur.toList.take (n*sz)++us++cur.toList.drop (n*sz+us.length)).toArray e (0,0) hheap
 have hne0:∀ k,k≠b→(w.setRow b (cur.toList.take (n*sz)++us++cur.toList.drop (n*sz+us.length)).toArray).heap[k]? = w.heap[k]?:=fun k hk=>setRow_other w b k _ hk
 have hsize:(w.setRow b (cur.toList.take (n*sz)++us++cur.toList.drop (n*sz+us.length)).toArray).heap.size=w.heap.size:=by simp[World.setRow]
 generalize hW:w.setRow b (cur.toList.take (n*sz)++us++cur.toList.drop (n*sz+us.length)).toArray=W at hset hne0 hsize
 have hWf:W.os=w.os∧W.tape=w.tape∧W.output=w.output:=by subst hW;exact⟨rfl,rfl,rfl⟩
 have hcell:∀ o,W.cell? ⟨b,o,none⟩=(eG cur.toList (n*sz) us)[o]?:=fun o=>by
  rw[iZ hset];rfl
 have hsg:=qS cur.toList us (n*sz) (by simpa using htot)
 refine⟨⟨⟨hWf.1.trans hh.below.os,hWf.2.1.trans hh.below.tape,hWf.2.2.trans hh.below.output,by rw[hsize];exact hh.below.size,fun k hk'=>(hne0 k (Fr.ne hk' (hh.base τ b hβ))).trans (hh.below.block k hk')⟩,?_,?_,?_,hh.base,?_,hh.sep,?_,hh.glob,hh.lent.trans hle⟩,hle⟩
 ·exact⟨hh.ext.1.trans hkle,fun b' o hb'=>(hoth b' o (Fr.ne hb' (hh.base τ b hβ))).trans (hh.ext.2 b' o hb')⟩
 ·intro b' o v hv
  by_cases hbb:b' = b
  ·subst hbb
   have hv' : jJ g.K b' (n*sz) us b' o=some v:=hv
   rw[hcell,hsg]
   unfold jJ at hv'
   by_cases h1:o<n*sz
   ·rw[if_pos h1]
    rw[if_neg (by omega)] at hv'
    have:=hh.kw b' o v hv'
    simp only[World.cell?,hheap] at this
    simpa using this
   ·rw[if_neg h1]
    by_cases h2:o<n*sz+us.length
    ·rw[if_pos h2]
     rw[if_pos ⟨rfl,by omega,h2⟩] at hv'
     exact hv'
    ·rw[if_neg (fun h=>h2 h.2.2),hk o (by omega)] at hv';cases hv'
  ·have hv' : jJ g.K b (n*sz) us b' o=some v:=hv
   rw[hoth b' o hbb] at hv'
   rw[← hh.kw b' o v hv']
   exact World.cell?_of_block (hne0 b' hbb)
 ·intro i he' hi
  by_cases hne:i=τ
  ·subst hne
   rw[aB] at hi
   cases hi
   intro b' hbi
   have hbi:g.β i=some b':=hbi
   rw[hβ] at hbi;cases hbi
   refine⟨_,hset,?_,hn,fun o ho=>?_⟩
   ·show _=g.cap i*sz
    rw[← hsz];simp;omega
   ·show jJ _ _ _ _ _ _=none
    unfold jJ
    rw[Nat.add_mul] at ho
    rw[if_neg (by omega)];exact hk o (by omega)
  ·rw[aA _ _ hne] at hi
   have:=hh.holds i he' hi
   have hbn:∀ b',g.β i=some b'→b'≠b:=fun b' h e=>hne (hh.sep i τ b (e ▸ h) hβ)
   cases he' with
   | cells cs =>
    obtain⟨b',vs',t',hβi,hheap',hr',h1',hn'⟩:=this
    exact⟨b',vs',t',hβi,(hne0 b' (hbn b' hβi)).trans hheap',hr'.mono hle,h1',fun o=>(hoth b' o (hbn b' hβi)).trans (hn' o)⟩
   | obj o =>
    obtain⟨b',hβi,hheap',hn'⟩:=this
    exact⟨b',hβi,(hne0 b' (hbn b' hβi)).trans hheap',fun o=>(hoth b' o (hbn b' hβi)).trans (hn' o)⟩
   | froz ds =>
    obtain⟨b',vs',hβi,hr',h1',hn'⟩:=this
    exact⟨b',vs',hβi,hr'.mono hkle,h1',fun j v hj=>hkle _ _ _ (hn' j v hj)⟩
   | mrow e2 sz2 n2 cs2=>exact bY this rfl rfl (fun b' o h1 h2=>(hne0 b' (hbn b' h1)).trans h2) hle (fun b' o h1 h2 _=>(hoth b' o (hbn b' h1)).trans h2)
   | rot e2 sz2 n2=>exact bM this rfl rfl (fun b' o h1 h2=>(hne0 b' (hbn b' h1)).trans h2) (fun b' o h1 h2 _=>(hoth b' o (hbn b' h1)).trans h2)
   | ob cs2 p=>exact cT this rfl rfl (fun b' o h1 h2=>(hne0 b' (hbn b' h1)).trans h2) hle (fun b' o h1 h2 _=>(hoth b' o (hbn b' h1)).trans h2)
   | row e2 sz2 n2 =>
    intro b' hβi
    obtain⟨cur2,hheap',h2,h3,h4⟩:=this b' hβi
    exact⟨cur2,(hne0 b' (hbn b' hβi)).trans hheap',h2,h3,fun o ho=>(hoth b' o (hbn b' hβi)).trans (h4 o ho)⟩
 ·intro i hi
  by_cases hne:i=τ
  ·subst hne;rw[aB] at hi;cases hi
  ·rw[aA _ _ hne] at hi
   exact hh.dom i hi
 ·intro i b' hb';rw[hsize];exact hh.frozlt i b' hb'
theorem lO {P:Program} {t e ty:TypeId} {j:TypeInfo} (hu:P.underlying t=some (.slice e)) (hj:P.info? e=some j) (a a2:Option Addr) (n c c2:Nat) (h:n≤c) (w:World) :
  (Builtin.append_ #[t,t] ty #[.slice a n c,.slice a2 0 c2]).run P w = .ok (.slice a n c) w:=by
 unfold Builtin.append_
 cases a2<;>cases a<;>simp[run_underlying hu,cC hj,Builtin.lenOf,h,Builtin.firstCells,loadCells,loadCellsFrom,storeCells]
theorem fH.append {K:aM} {a b:List D} {u v:List Value} (h:fH K a u) (h' : fH K b v):fH K (a++b) (u++v):=by
 refine⟨by simp[h.1,h'.1],fun j x y hx hy=>?_⟩
 have e:=h.1
 rcases Nat.lt_or_ge j a.length with hj|hj
 ·rw[List.getElem?_append_left hj] at hx
  rw[List.getElem?_append_left (by omega)] at hy
  exact h.2 j x y hx hy
 ·rw[List.getElem?_append_right hj] at hx
  rw[List.getElem?_append_right (by omega),← e] at hy
  exact h'.2 _ x y hx hy
def nP (P:Program) (t:TypeId) (H:Hp) (nx:Nat) (x y:SV):Option (Res × Nat) :=
 match cZ P t with
 | some (e,sz,bb,zs)=>if 0<sz∧zs.length=sz then match x,y with
   | .c cx,.c cy=>match cx.lstOf sz,cy.lstOf sz with
    | some xs,some ys=>match cx with
     | .app τ _ _=>match H τ with
      | some (.row e' s' n)=>if e' = e∧s' = sz∧n=xs.length then some (⟨.c (.app τ sz (xs++ys)),some (τ,.row e sz (xs.length+ys.length)),[τ],false⟩,(xs.length+ys.length)*bb) else none
      | _=>none
     | .full _ _=>match H nx with
      | none=>some (⟨.c (.app nx sz (xs++ys)),some (nx,.row e sz (xs.length+ys.length)),[nx],true⟩,(xs.length+ys.length)*bb)
      | some _=>none
     | .d (.val (.slice none 0 0))=>match H nx with
      | none=>some (⟨.c (.app nx sz (xs++ys)),some (nx,.row e sz (xs.length+ys.length)),[nx],true⟩,(xs.length+ys.length)*bb)
      | some _=>none
     | _=>none
    | _,_=>none
   | _,_=>none
  else none
 | none=>none
theorem pS {P:Program} {W0:Fr} {K0:aM} {g:G} {H:Hp} {w:World} {t e ty τ sz bb:Nat} {zs:List Value} {xs ys:List (List D)} {a:Option Addr} {c:Nat} {v2:Value} (hh:RelH W0 K0 g H w)
  (hes:cZ P t=some (e,sz,bb,zs)) (hsz:0<sz) (hzs:zs.length=sz) (hτ:H τ=none∨∃ e,H τ=some (.row e sz xs.length)) (hx:Rep g.K (.lst sz xs) (.slice a xs.length c)) (hy:Rep g.K (.lst sz ys) v2)
  (hc:c<xs.length+ys.length) (hm:0<ys.length) (hac:a=none→c=0) (hb:(xs.length+ys.length)*bb≤140737488355328) (h63:xs.length+ys.length≤maxLen) :
  ∃ v' w' g',(Builtin.append_ #[t,t] ty #[.slice a xs.length c,v2]).run P w = .ok v' w'∧bA g' (upd H τ (some (.row e sz (xs.length+ys.length)))) (.app τ sz (xs++ys)) v' ∧
   RelH W0 K0 g' (upd H τ (some (.row e sz (xs.length+ys.length)))) w'∧dJ g H g' (upd H τ (some (.row e sz (xs.length+ys.length)))):=by
 obtain⟨hu,j,z,u,hj,hz,hs,hby,hzz,_⟩:=cQ hes
 subst hs
 obtain⟨a2,c2,us,rfl,hs2,hc2,hr2,h12,hk2⟩:=hy.inv
 obtain⟨b2,o2,rfl,hkk2⟩:=hk2 (by intro e;rw[e] at hm;simp at hm)
 obtain⟨a',c',vs,e1,hs1,hc1,hr1,h11,hk1⟩:=hx.inv
 cases e1
 have hl1:vs.length=xs.length*j.size:=by rw[← hr1.1,cR hs1]
 have hl2:us.length=ys.length*j.size:=by rw[← hr2.1,cR hs2]
 have hsmall:((xs.length+ys.length:Nat):Int)≤9223372036854775807:=by unfold maxLen at h63;omega
 have hnews:∀ (i:Nat) v,us[i]? = some v→w.cell? ((⟨b2,o2,none⟩:Addr).add i)=some v:=fun i v hi=>by rw[Addr.add_lit];exact hh.kw _ _ _ (hkk2 i v hi)
 have hge:=grownCap_ge w (xs.length+ys.length) c e
 have hrun:(Builtin.append_ #[t,t] ty #[.slice a xs.length c,.slice (some ⟨b2,o2,none⟩) ys.length c2]).run P w = .ok (.slice (some ⟨w.heap.size,0,none⟩) (xs.length+ys.length) (grownCap w (xs.length+ys.length) c e))
   (w.drew.alloc (.cells (vs.toArray++us.toArray++Builtin.zeroCells z.cells (grownCap w (xs.length+ys.length) c e - (xs.length+ys.length))) e)):=by
  cases a with
  | some ad =>
   refine run_append_grow (P:=P) w t ty e j z hu hj hz ad xs.length c vs hl1 ?_ ⟨b2,o2,none⟩ ys.length c2 us hl2 hnews hc hsmall (growslice_fits hc (by rw[hby];exact hb))
   intro i v hi
   have hne:xs≠[]:=by intro e;rw[e] at hl1;simp at hl1;rw[hl1] at hi;simp at hi
   obtain⟨b,o,e,hkk⟩:=hk1 hne
   cases e
   rw[Addr.add_lit];exact hh.kw _ _ _ (hkk i v hi)
  | none =>
   have hx0:xs=[]:=by
    by_cases h:xs=[]
    ·exact h
    ·obtain⟨b,o,e,_⟩:=hk1 h;cases e
   subst hx0
   obtain rfl:=hac rfl
   have:vs=[]:=List.eq_nil_of_length_eq_zero (by simpa using hl1)
   subst this
   have:=run_append_nil (P:=P) w t ty e j z hu hj hz ⟨b2,o2,none⟩ ys.length c2 us hl2 hnews hm (by simpa using hsmall) (by rw[hby];simp at hb;omega)
   simpa using this
 have hcur:(vs.toArray++us.toArray++Builtin.zeroCells z.cells (grownCap w (xs.length+ys.length) c e - (xs.length+ys.length))).size=grownCap w (xs.length+ys.length) c e*j.size:=by
  have hz2:z.cells.size=j.size:=by rw[← hzs,hzz];simp
  simp only[Array.size_append,List.size_toArray,size_zeroCells,hz2,hl1,hl2,← Nat.add_mul]
  congr 1;omega
 obtain⟨h1,h2⟩:=RelH.newrow (τ:=τ) (e:=e) (sz:=j.size) (n':=xs.length+ys.length) (vs:=vs++us) hh.drew
  (hτ.imp id (fun ⟨e,h⟩=>⟨e,_,h,by omega⟩)) (fun i v hi=>by
   have hlt:=(List.getElem?_eq_some_iff.1 hi).1
   rw[Array.getElem?_append_left (by simpa using hlt)]
   simpa using hi) hcur hge (by simp[hl1,hl2,Nat.add_mul])
 refine⟨_,_,_,hrun,⟨?_,e,_,aB _ _ _,by simp,fun _=>.inr ⟨_,aB _ _ _,?_⟩⟩,h1,h2⟩
 ·have hL:=(hr1.append hr2).mono (oJ hh.kw (vs++us)).1
  have hfl:(xs++ys).flatten=xs.flatten++ys.flatten:=by simp
  have:=Rep.lst (K:=cK g.K w.heap.size (vs++us)) (sz:=j.size) (xs:=xs++ys) (vs:=vs++us) (a:=some ⟨w.heap.size,0,none⟩) (c:=grownCap w (xs.length+ys.length) c e)
   (fun x hx=>(List.mem_append.1 hx).elim (hs1 x) (hs2 x)) (by simpa using hge) (by rw[hfl];exact hL.1) (by rw[hfl];exact hL.2) (fun u hu=>(List.mem_append.1 hu).elim (h11 u) (h12 u))
   (fun _=>⟨w.heap.size,0,rfl,fun i v hi=>by unfold cK;rw[if_pos rfl,Nat.zero_add];exact hi⟩)
  rw[List.length_append] at this
  exact this
 ·rw[List.length_append]
  show _=Value.slice _ _ (upd _ _ _ _)
  rw[aB];rfl
theorem aQo {P:Program} {W0:Fr} {K0:aM} {g:G} {H:Hp} {w:World} {r:Res} {t ty:TypeId} {nx tot:Nat} {x y:SV} {v1 v2:Value} (hh:RelH W0 K0 g H w) (hx:bD g H x v1) (hy:bD g H y v2) (h:nP P t H nx x y=some (r,tot))
  (htot:tot≤140737488355328) (hbb:∀ e sz bb zs,cZ P t=some (e,sz,bb,zs)→0<bb) :
  bC P W0 K0 (vN (Builtin.append_ #[t,t] ty #[v1,v2])) g H w r:=by
 unfold nP at h
 split at h
 ·rename_i e sz bb zs hes
  split at h
  ·rename_i hc0
   obtain⟨hsz,hzs⟩:=hc0
   split at h
   ·rename_i cx cy
    split at h
    ·rename_i xs ys hxs hys
     have hbp:=hbb e sz bb zs hes
     have hrx:=CV.lstOf_rep hx hxs
     have hry:=CV.lstOf_rep hy hys
     obtain⟨hu,j,z,u,hj,hz,hs,hby,hzz,_⟩:=cQ hes
     -- nothing is appended
     have hnone:∀ τ,ys=[]→(cx = .app τ sz xs∧H τ=some (.row e sz xs.length))∨(H τ=none∧∃ a,v1 = .slice a xs.length xs.length) →
       bC P W0 K0 (vN (Builtin.append_ #[t,t] ty #[v1,v2])) g H w ⟨.c (.app τ sz (xs++ys)),some (τ,.row e sz (xs.length+ys.length)),[τ],(H τ).isNone⟩:=by
      intro τ hy0 hcase
      subst hy0
      obtain⟨a,c,vs,rfl,_,hcap,_⟩:=hrx.inv
      obtain⟨a2,c2,vs2,rfl,_⟩:=hry.inv
      have hrun:(vN (Builtin.append_ #[t,t] ty #[.slice a xs.length c,.slice a2 ([]:List (List D)).length c2])).run P w = .ok (.value (.slice a xs.length c)) w:=by
       rw[bS,show ([]:List (List D)).length=0 from rfl,lO hu hj a a2 xs.length c c2 hcap];rfl
      rcases hcase with ⟨rfl,hrow⟩|⟨hnone,a',hfull⟩
      ·have hH:sX H (some (τ,.row e sz (xs.length+([]:List (List D)).length)))=H:=by
        funext i
        simp only[sX,List.length_nil,Nat.add_zero]
        by_cases hi:i=τ
        ·subst hi;rw[aB];exact hrow.symm
        ·rw[aA _ _ hi]
       refine⟨_,_,w,g,hrun,.inl rfl,?_,by rw[hH];exact hh,by rw[hH];exact dJ.refl _ _⟩
       rw[hH];simp only[List.append_nil];exact hx
      ·have hβ:g.β τ=none:=hh.dom τ hnone
       have hle:dJ g H g (upd H τ (some (.row e sz xs.length))):=by
        intro x v r
        cases x with
        | own i off =>
         obtain⟨b,hb,rfl,hnr⟩:=r
         have hne:i≠τ:=fun e=>by subst e;rw[hβ] at hb;cases hb
         exact⟨b,hb,rfl,by rw[aA _ _ hne];exact hnr⟩
        | clo f caps=>exact dO r (gL.refl _) (fun i off v ⟨b,hb,hv,hnr⟩=>⟨b,hb,hv,by rw[aA _ _ (fun e=>by subst e;rw[hβ] at hb;cases hb)];exact hnr⟩)
        | bnd f caps=>exact dN r (gL.refl _) (fun i off v ⟨b,hb,hv,hnr⟩=>⟨b,hb,hv,by rw[aA _ _ (fun e=>by subst e;rw[hβ] at hb;cases hb)];exact hnr⟩)
        | yld i=>exact dP r (fun i off v ⟨b,hb,hv,hnr⟩=>⟨b,hb,hv,by rw[aA _ _ (fun e=>by subst e;rw[hβ] at hb;cases hb)];exact hnr⟩)
        | mt i k=>exact iB (yX.upd (fun _ _ _ _ h=>by rw[hnone] at h;cases h) (fun _ _=>rfl) (fun _ _=>rfl)) r
        | apt i s xs k=>exact fZ (by exact gL.refl _) (TLe.upd (fun _ _ _ h=>by rw[hnone] at h;cases h) (fun _ _=>rfl) (fun _ _=>rfl)) r
        | mpt i k o=>exact iA (yX.upd (fun _ _ _ _ h=>by rw[hnone] at h;cases h) (fun _ _=>rfl) (fun _ _=>rfl)) r
        | mp i=>exact fC r (fun i off v ⟨b,hb,hv,hnr⟩=>⟨b,hb,hv,by rw[aA _ _ (fun e=>by subst e;rw[hβ] at hb;cases hb)];exact hnr⟩)
        | view i s off len =>
         obtain⟨b,c,hb,rfl,hc,hnr⟩:=r
         have hne:i≠τ:=fun e=>by subst e;rw[hβ] at hb;cases hb
         exact⟨b,c,hb,rfl,hc,by rw[aA _ _ hne];exact hnr⟩
        | app i s xs' =>
         obtain⟨r1,e',n,hrow,hl,hf⟩:=r
         have hne:i≠τ:=fun e=>by subst e;rw[hnone] at hrow;cases hrow
         exact⟨r1,e',n,by rw[aA _ _ hne];exact hrow,hl,hf⟩
        | _=>exact r
       refine⟨_,_,w,g,hrun,.inl rfl,?_,?_,?_⟩
       ·simp only[sX,List.length_nil,Nat.add_zero,List.append_nil]
        exact⟨hrx,e,_,aB _ _ _,Nat.le_refl _,fun _=>.inl ⟨a',hfull⟩⟩
       ·simp only[sX,List.length_nil,Nat.add_zero]
        refine⟨hh.below,hh.ext,hh.kw,fun i he hi=>?_,hh.base,fun i hi=>?_,hh.sep,hh.frozlt,hh.glob,hh.lent.trans hle⟩
        ·by_cases hne:i=τ
         ·subst hne;rw[aB] at hi;cases hi
          intro b hb;rw[hβ] at hb;cases hb
         ·rw[aA _ _ hne] at hi
          have:=hh.holds i he hi
          cases he with
          | cells cs =>
           obtain⟨b,vs,t,h1,h2,h3,h4⟩:=this
           exact⟨b,vs,t,h1,h2,h3.mono hle,h4⟩
          | obj o=>exact this
          | froz ds=>exact this
          | mrow e2 s2 n2 cs2=>exact bY this rfl rfl (fun _ _ _ q=>q) hle (fun _ _ _ q _=>q)
          | rot e2 s2 n2=>exact bM this rfl rfl (fun _ _ _ q=>q) (fun _ _ _ q _=>q)
          | ob cs2 p=>exact cT this rfl rfl (fun _ _ _ q=>q) hle (fun _ _ _ q _=>q)
          | row e s n=>exact this
        ·by_cases hne:i=τ
         ·subst hne;rw[aB] at hi;cases hi
         ·rw[aA _ _ hne] at hi;exact hh.dom i hi
       ·simp only[sX,List.length_nil,Nat.add_zero];exact hle
     have hml:(xs.length+ys.length)*bb≤140737488355328→xs.length+ys.length≤maxLen:=fun h=>by
      have:xs.length+ys.length≤(xs.length+ys.length)*bb:=Nat.le_mul_of_pos_right _ hbp
      unfold maxLen;omega
     have hfin:H nx=none→(∃ a,v1 = .slice a xs.length xs.length)→(xs.length+ys.length)*bb≤140737488355328→bC P W0 K0 (vN (Builtin.append_ #[t,t] ty #[v1,v2])) g H w ⟨.c (.app nx sz (xs++ys)),some (nx,.row e sz (xs.length+ys.length)),[nx],true⟩:=by
      intro hnx hfull htot
      by_cases hy0:ys=[]
      ·have:=hnone nx hy0 (.inr ⟨hnx,hfull⟩)
       rw[hnx] at this
       exact this
      ·have hm:0<ys.length:=by
        rcases Nat.eq_zero_or_pos ys.length with h0|h0
        ·exact absurd (List.eq_nil_of_length_eq_zero h0) hy0
        ·exact h0
       obtain⟨a,rfl⟩:=hfull
       have:a=none→xs.length=0:=fun h=>by
        obtain⟨a',c',vs,e1,_,_,_,_,hk⟩:=hrx.inv
        cases e1
        by_cases hx0:xs=[]
        ·rw[hx0];rfl
        ·obtain⟨b,o,e,_⟩:=hk hx0;rw[h] at e;cases e
       obtain⟨v',w',g',h1,h2,h3,h4⟩:=pS (ty:=ty) hh hes hsz hzs (.inl hnx) hrx hry (by omega) hm this htot (hml htot)
       exact⟨_,_,_,_,by rw[bS,h1];rfl,.inl rfl,h2,h3,h4⟩
     split at h
     ·rename_i τ s' xs'
      simp only[CV.lstOf] at hxs
      split at hxs
      ·rename_i es
       subst es
       cases hxs
       split at h
       ·rename_i e' s'' n hrow
        split at h
        ·rename_i hcc
         obtain⟨rfl,rfl,rfl⟩:=hcc
         cases h
         by_cases hy0:ys=[]
         ·have:=hnone τ hy0 (.inl ⟨rfl,hrow⟩)
          rw[hrow] at this
          exact this
         ·have hm:0<ys.length:=by
           rcases Nat.eq_zero_or_pos ys.length with h0|h0
           ·exact absurd (List.eq_nil_of_length_eq_zero h0) hy0
           ·exact h0
          obtain⟨_,e2,n2,hrow2,hl,hf⟩:=hx
          rw[hrow] at hrow2
          cases hrow2
          have fin:∀ {v' w' g'},(Builtin.append_ #[t,t] ty #[v1,v2]).run P w = .ok v' w'→bA g' (upd H τ (some (.row e' s'' (xs.length+ys.length)))) (.app τ s'' (xs++ys)) v' →
            RelH W0 K0 g' (upd H τ (some (.row e' s'' (xs.length+ys.length)))) w'→dJ g H g' (upd H τ (some (.row e' s'' (xs.length+ys.length)))) →
            bC P W0 K0 (vN (Builtin.append_ #[t,t] ty #[v1,v2])) g H w ⟨.c (.app τ s'' (xs++ys)),some (τ,.row e' s'' (xs.length+ys.length)),[τ],false⟩:=fun hr h1 h2 h3 =>
           ⟨_,_,_,_,by rw[bS,hr];rfl,.inl rfl,h1,h2,h3⟩
          rcases hf rfl with ⟨a,rfl⟩|⟨b,hb,rfl⟩
          ·have:a=none→xs.length=0:=fun h=>by
            obtain⟨a',c',vs,e1,_,_,_,_,hk⟩:=hrx.inv
            cases e1
            by_cases hx0:xs=[]
            ·rw[hx0];rfl
            ·obtain⟨b,o,e,_⟩:=hk hx0;rw[h] at e;cases e
           obtain⟨v',w',g',h1,h2,h3,h4⟩:=pS (ty:=ty) hh hes hsz hzs (.inr ⟨e',hrow⟩) hrx hry (by omega) hm this htot (hml htot)
           exact fin h1 h2 h3 h4
          ·obtain⟨cur,hheap,hcs,hcn,hkn⟩:=hh.holds τ _ hrow b hb
           by_cases hroom:xs.length+ys.length≤g.cap τ
           ·subst hs
            obtain⟨a2,c2,us,rfl,hs2,hc2,hr2,h12,hk2⟩:=hry.inv
            obtain⟨b2,o2,rfl,hkk2⟩:=hk2 hy0
            have hl2:us.length=ys.length*j.size:=by rw[← hr2.1,cR hs2]
            have hnews:∀ (i:Nat) v,us[i]? = some v→w.cell? ((⟨b2,o2,none⟩:Addr).add i)=some v:=fun i v hi=>by rw[Addr.add_lit];exact hh.kw _ _ _ (hkk2 i v hi)
            have hfit:xs.length*j.size+us.length≤cur.size:=by rw[hl2,hcs,← Nat.add_mul];exact Nat.mul_le_mul_right _ hroom
            have hr:=run_append_room (P:=P) w t ty e' j hu hj b xs.length (g.cap τ) cur hheap ⟨b2,o2,none⟩ ys.length c2 us hl2 hnews h12 hroom hfit
            obtain⟨h1,h2⟩:=RelH.inrow hh hrow hm hb hheap hcs hroom hl2 hkn
            refine fin hr ?_ h1 h2
            obtain⟨a',c',vs,e1,hs1,hc1,hr1,h11,hk1⟩:=hrx.inv
            cases e1
            have hl1:vs.length=xs.length*j.size:=by rw[← hr1.1,cR hs1]
            have hkle:gL g.K (jJ g.K b (xs.length*j.size) us):=fun b' o v hv=>by
             unfold jJ
             split
             ·rename_i h;rw[h.1,hkn o h.2.1] at hv;cases hv
             ·exact hv
            have hL:=(hr1.append hr2).mono hkle
            have hfl:(xs++ys).flatten=xs.flatten++ys.flatten:=by simp
            have hrep:=Rep.lst (K:=jJ g.K b (xs.length*j.size) us) (sz:=j.size) (xs:=xs++ys) (vs:=vs++us) (a:=some ⟨b,0,none⟩) (c:=g.cap τ)
             (fun x hx=>(List.mem_append.1 hx).elim (hs1 x) (hs2 x)) (by simpa using hroom) (by rw[hfl];exact hL.1) (by rw[hfl];exact hL.2) (fun u hu=>(List.mem_append.1 hu).elim (h11 u) (h12 u))
             (fun _=>⟨b,0,rfl,fun i v hi=>by
              rw[Nat.zero_add]
              rcases Nat.lt_or_ge i vs.length with hi2|hi2
              ·rw[List.getElem?_append_left hi2] at hi
               have hne:xs≠[]:=by intro e;rw[e] at hl1;simp at hl1;rw[hl1] at hi2;simp at hi2
               obtain⟨b',o',e,hkk⟩:=hk1 hne
               cases e
               have:=hkk i v hi
               rw[Nat.zero_add] at this
               exact hkle _ _ _ this
              ·rw[List.getElem?_append_right hi2] at hi
               have hlt:=(List.getElem?_eq_some_iff.1 hi).1
               unfold jJ
               rw[if_pos ⟨rfl,by omega,by omega⟩,← hl1];exact hi⟩)
            rw[List.length_append] at hrep
            exact⟨hrep,e',_,aB _ _ _,by simp,fun _=>.inr ⟨b,hb,by rw[List.length_append]⟩⟩
           ·obtain⟨v',w',g',h1,h2,h3,h4⟩:=pS (ty:=ty) hh hes hsz hzs (.inr ⟨e',hrow⟩) hrx hry (by omega) hm (fun h=>by cases h) htot (hml htot)
            exact fin h1 h2 h3 h4
        ·cases h
       ·cases h
      ·cases hxs
     ·split at h
      ·rename_i hnx
       cases h
       exact hfin hnx (by
        simp only[CV.lstOf] at hxs
        split at hxs
        ·cases hxs;exact hx.2
        ·cases hxs) htot
      ·cases h
     ·split at h
      ·rename_i hnx
       cases h
       exact hfin hnx (by
        simp only[CV.lstOf] at hxs
        cases hxs
        have hx:Rep g.K (.val (.slice none 0 0)) v1:=hx
        cases hx;exact⟨none,rfl⟩) htot
      ·cases h
     ·cases h
    ·cases h
   ·cases h
  ·cases h
 ·cases h
def aAg (K:aM) (B:Nat) (w:World) (e sz n:Nat) (v:Value):Prop:=(∃ a,v = .slice a n n)∨∃ b cap cur,v = .slice (some ⟨b,0,none⟩) n cap∧B≤b∧w.heap[b]? = some (.cells cur e (0,0))∧cur.size=cap*sz∧n≤cap∧∀ o,n*sz≤o→K b o=none
theorem RelH.gotrow {W0:Fr} {K0:aM} {g:G} {H:Hp} {w' : World} {nx e sz n0:Nat} {xs:List (List D)} {v:Value} (hh:RelH W0 K0 g H w') (hnx:H nx=none) (hr:Rep g.K (.lst sz xs) v) (hap:aAg g.K n0 w' e sz xs.length v)
  (hdummy:∀ b,n0≤b→True) (hlt:∀ i b,g.β i=some b→b<n0) (hn0:W0.W.heap.size≤n0) :
  ∃ g',RelH W0 K0 g' (upd H nx (some (.row e sz xs.length))) w'∧dJ g H g' (upd H nx (some (.row e sz xs.length)))∧bA g' (upd H nx (some (.row e sz xs.length))) (.app nx sz xs) v:=by
 have hβ:g.β nx=none:=hh.dom nx hnx
 have hne:∀ i b,g.β i=some b→i≠nx:=fun i b h e=>by subst e;rw[hβ] at h;cases h
 have key:∀ (β' : Nat→Option Nat) (c' : Nat→Nat),(∀ i,i≠nx→β' i=g.β i)→(∀ i,i≠nx→c' i=g.cap i)→dJ g H { g with β:=β',cap:=c' } (upd H nx (some (.row e sz xs.length))):=by
  intro β' c' h1 h2 x v r
  cases x with
  | any=>trivial
  | d x=>exact r
  | full s ys=>exact r
  | own i off =>
   obtain⟨b,hb,rfl,hnr⟩:=r
   have:=hne i b hb
   exact⟨b,(h1 i this).trans hb,rfl,by rw[aA _ _ this];exact hnr⟩
  | clo f caps=>exact dO r (gL.refl _) (fun i off v ⟨b,hb,hv,hnr⟩=>⟨b,(h1 i (hne i b hb)).trans hb,hv,by rw[aA _ _ (hne i b hb)];exact hnr⟩)
  | bnd f caps=>exact dN r (gL.refl _) (fun i off v ⟨b,hb,hv,hnr⟩=>⟨b,(h1 i (hne i b hb)).trans hb,hv,by rw[aA _ _ (hne i b hb)];exact hnr⟩)
  | yld i=>exact dP r (fun i off v ⟨b,hb,hv,hnr⟩=>⟨b,(h1 i (hne i b hb)).trans hb,hv,by rw[aA _ _ (hne i b hb)];exact hnr⟩)
  | mt i k=>exact iB (yX.upd (fun _ _ _ _ h=>by rw[hnx] at h;cases h) h1 h2) r
  | apt i s xs k=>exact fZ (by exact gL.refl _) (TLe.upd (fun _ _ _ h=>by rw[hnx] at h;cases h) h1 h2) r
  | mpt i k o=>exact iA (yX.upd (fun _ _ _ _ h=>by rw[hnx] at h;cases h) h1 h2) r
  | mp i=>exact fC r (fun i off v ⟨b,hb,hv,hnr⟩=>⟨b,(h1 i (hne i b hb)).trans hb,hv,by rw[aA _ _ (hne i b hb)];exact hnr⟩)
  | view i s off len =>
   obtain⟨b,c,hb,rfl,hc,hnr⟩:=r
   have:=hne i b hb
   exact⟨b,c,(h1 i this).trans hb,rfl,hc,by rw[aA _ _ this];exact hnr⟩
  | app i s ys =>
   obtain⟨r1,e',n,hrow,hl,hf⟩:=r
   have hi:i≠nx:=fun e=>by subst e;rw[hnx] at hrow;cases hrow
   refine⟨r1,e',n,by rw[aA _ _ hi];exact hrow,hl,fun hn=>?_⟩
   rcases hf hn with h|⟨b,hb,hv⟩
   ·exact .inl h
   ·exact .inr ⟨b,(h1 i hi).trans hb,by show v = .slice _ _ (c' i);rw[h2 i hi];exact hv⟩
 have hold:∀ (β' : Nat→Option Nat) (c' : Nat→Nat),(∀ i,i≠nx→β' i=g.β i)→(∀ i,i≠nx→c' i=g.cap i)→∀ i he,i≠nx→H i=some he→fX { g with β:=β',cap:=c' } (upd H nx (some (.row e sz xs.length))) w' i he:=by
  intro β' c' h1 h2 i he hi hH
  have:=hh.holds i he hH
  have hle:=key β' c' h1 h2
  cases he with
  | cells cs =>
   obtain⟨b,vs,t,hb,hheap,hrr,ho,hn⟩:=this
   exact⟨b,vs,t,(h1 i hi).trans hb,hheap,hrr.mono hle,ho,hn⟩
  | obj o =>
   obtain⟨b,hb,hheap,hn⟩:=this
   exact⟨b,(h1 i hi).trans hb,hheap,hn⟩
  | froz ds =>
   obtain⟨b,vs,hb,hrr⟩:=this
   exact⟨b,vs,(h1 i hi).trans hb,hrr⟩
  | mrow e2 s2 n2 cs2=>exact bY this (h1 i hi) (h2 i hi) (fun _ _ _ q=>q) hle (fun _ _ _ q _=>q)
  | rot e2 s2 n2=>exact bM this (h1 i hi) (h2 i hi) (fun _ _ _ q=>q) (fun _ _ _ q _=>q)
  | ob cs2 p=>exact cT this (h1 i hi) (h2 i hi) (fun _ _ _ q=>q) hle (fun _ _ _ q _=>q)
  | row e2 s2 n2 =>
   intro b hb
   obtain⟨cur,q1,q2,q3,q4⟩:=this b ((h1 i hi).symm.trans hb)
   exact⟨cur,q1,by show _=c' i*s2;rw[h2 i hi];exact q2,by show n2≤c' i;rw[h2 i hi];exact q3,q4⟩
 rcases hap with ⟨a,rfl⟩|⟨b,cp,cur,rfl,hB,hheap,hcs,hcn,hkn⟩
 ·refine⟨{ g with β:=g.β,cap:=g.cap },⟨hh.below,hh.ext,hh.kw,fun i he hi=>?_,hh.base,fun i hi=>?_,hh.sep,hh.frozlt,hh.glob,hh.lent.trans (key g.β g.cap (fun _ _=>rfl) (fun _ _=>rfl))⟩,key g.β g.cap (fun _ _=>rfl) (fun _ _=>rfl),hr,e,_,aB _ _ _,Nat.le_refl _,fun _=>.inl ⟨a,rfl⟩⟩
  ·by_cases h:i=nx
   ·subst h;rw[aB] at hi;cases hi
    intro b hb;rw[hβ] at hb;cases hb
   ·rw[aA _ _ h] at hi;exact hold g.β g.cap (fun _ _=>rfl) (fun _ _=>rfl) i he h hi
  ·by_cases h:i=nx
   ·subst h;rw[aB] at hi;cases hi
   ·rw[aA _ _ h] at hi;exact hh.dom i hi
 ·have hu:∀ i,i≠nx→upd g.β nx (some b) i=g.β i:=fun i hi=>aA _ _ hi
  have hu2:∀ i,i≠nx→upd g.cap nx cp i=g.cap i:=fun i hi=>aA _ _ hi
  refine⟨{ g with β:=upd g.β nx (some b),cap:=upd g.cap nx cp },⟨hh.below,hh.ext,hh.kw,fun i he hi=>?_,fun i b' hi=>?_,fun i hi=>?_,fun i j b' hi hj=>?_,fun i b' hi=>?_,hh.glob,hh.lent.trans (key _ _ hu hu2)⟩,key _ _ hu hu2,hr,e,_,aB _ _ _,Nat.le_refl _,fun _=>.inr ⟨b,aB _ _ _,by show _=Value.slice _ _ (upd g.cap nx cp nx);rw[aB]⟩⟩
  ·by_cases h:i=nx
   ·subst h;rw[aB] at hi;cases hi
    intro b' hb'
    have hb' : upd g.β i (some b) i=some b':=hb'
    rw[aB] at hb';cases hb'
    exact⟨cur,hheap,by show _=upd g.cap i cp i*sz;rw[aB];exact hcs,by show _≤upd g.cap i cp i;rw[aB];exact hcn,hkn⟩
   ·rw[aA _ _ h] at hi;exact hold _ _ hu hu2 i he h hi
  ·have hi:upd g.β nx (some b) i=some b':=hi
   by_cases h:i=nx
   ·subst h;rw[aB] at hi;cases hi;exact Fr.new (by omega)
   ·rw[aA _ _ h] at hi;exact hh.base i b' hi
  ·by_cases h:i=nx
   ·subst h;rw[aB] at hi;cases hi
   ·rw[aA _ _ h] at hi;exact (hu i h).trans (hh.dom i hi)
  ·have hi:upd g.β nx (some b) i=some b':=hi
   have hj:upd g.β nx (some b) j=some b':=hj
   by_cases h:i=nx
   ·by_cases h' : j=nx
    ·rw[h,h']
    ·subst h;rw[aB] at hi;cases hi
     rw[aA _ _ h'] at hj
     have:=hlt j _ hj;omega
   ·by_cases h' : j=nx
    ·subst h';rw[aB] at hj;cases hj
     rw[aA _ _ h] at hi
     have:=hlt i _ hi;omega
    ·rw[aA _ _ h] at hi;rw[aA _ _ h'] at hj
     exact hh.sep i j b' hi hj
  ·have hi:upd g.β nx (some b) i=some b':=hi
   by_cases h:i=nx
   ·subst h;rw[aB] at hi;cases hi;exact aP hheap
   ·rw[aA _ _ h] at hi;exact hh.frozlt i b' hi
def gM (P:Program) (H:Hp) (nx:Nat) (t:TypeId) (x y:SV):Option Res :=
 match cZ P t with
 | some (e,sz,bb,zs)=>match H nx with
  | some _=>none
  | none=>match x.nat,y.nat with
   | some l,some c=>if 0<bb∧bb*c≤140737488355328∧zs.length=sz∧0<sz∧zs.all (·.oneCell')=true then
     (if l=0 then some ⟨.c (.app nx sz []),some (nx,.row e sz 0),[nx],true⟩
     else if l=c then some ⟨.c (.view nx sz 0 c),some (nx,.cells ((qX zs c).map fun v=>.d (.val v))),[nx],true⟩ else none) else none
   | _,_=>none
 | none=>none
theorem aHh {P:Program} {W0:Fr} {K0:aM} {g:G} {H:Hp} {w:World} {r:Res} {t:TypeId} {nx:Nat} {x y:SV} {v u:Value} (hh:RelH W0 K0 g H w) (hx:bD g H x v) (hy:bD g H y u) (h:gM P H nx t x y=some r) :
  bC P W0 K0 (vN (Instr.makeSlice t v u)) g H w r:=by
 unfold gM at h
 split at h
 rotate_left
 ·cases h
 rename_i e sz bb zs hes
 obtain⟨hu,j,z,uu,hj,hz,hs,hby,hzs,_⟩:=cQ hes
 split at h
 ·cases h
 rename_i hnx
 split at h
 rotate_left
 ·cases h
 rename_i l c hl hc
 obtain⟨kl,rfl⟩:=SV.nat_rep hx hl
 obtain⟨kc,rfl⟩:=SV.nat_rep hy hc
 split at h
 rotate_left
 ·cases h
 rename_i hcond
 obtain⟨hb0,hbb,hzl,hsz,hz1⟩:=hcond
 have hcc:c≤bb*c:=Nat.le_mul_of_pos_left c hb0
 have hbytes:(j.bytes:Int)*(c:Int)≤281474976710656:=by
  have h:((bb*c:Nat):Int)≤281474976710656:=by omega
  rw[hby];rwa [Int.natCast_mul] at h
 have hrun:∀ l' : Nat,l'≤c→(Instr.makeSlice t (.int kl l') (.int kc c)).run P w = .ok (.slice (some ⟨w.heap.size,0,none⟩) l' c) (w.alloc (.cells (madeCells z.cells (c*j.size)) e)):=fun l' hle=>by
  have:=run_make (P:=P) w t e j z hu hj hz kl kc l' c (by omega) (by omega) hbytes (by omega)
  simpa using this
 have hrow:madeCells z.cells (c*j.size)=(qX zs c).toArray:=by
  rw[aI3 zs (by omega) c,hzl,hs]
  unfold madeCells
  subst hzs
  apply Array.ext'
  simp[gP]
 rw[hrow] at hrun
 have hlen:(qX zs c).length=c*sz:=by rw[xO,hzl]
 split at h
 ·rename_i h0
  cases h
  subst h0
  obtain⟨h1,h2,h3⟩:=aCb (P:=P) (sz:=sz) (n:=0) (ds:=[]) (vs:=[]) e (qX zs c) hh ⟨rfl,fun j x v hx=>by simp at hx⟩ (by simp) (by simp) c (Nat.zero_le _)
  rw[List.nil_append] at h1
  obtain⟨g',h4,h5,h6⟩:=RelH.gotrow (nx:=nx) (e:=e) (sz:=sz) (n0:=w.heap.size) (xs:=[]) h1 hnx h3 (.inr ⟨w.heap.size,c,(qX zs c).toArray,rfl,Nat.le_refl _,World.alloc_heap_new w _,by simpa using hlen,Nat.zero_le _,fun o _=>by show cK _ _ _ _ _=none;unfold cK;simp⟩) (fun _ _=>trivial) (fun i b hb=>hh.frozlt i b hb) hh.below.size
  exact⟨_,_,_,g',by rw[bS,hrun 0 (Nat.zero_le _)];rfl,.inl rfl,h6,h4,h2.trans h5⟩
 ·split at h
  ·rename_i hlc
   cases h
   subst hlc
   have hone:∀ u ∈ qX zs l,u.oneCell' = true:=fun u hu=>by
    obtain⟨i,hi,rfl⟩:=List.getElem_of_mem hu
    have hg:=aDm zs (by omega) l i (by rw[← xO];exact hi)
    have:=List.getElem?_eq_getElem hi
    rw[hg] at this
    exact List.all_eq_true.1 hz1 _ (List.mem_of_getElem? this)
   obtain⟨h2,h3⟩:=RelH.box e hh hnx (pP g H (qX zs l)) hone
   exact⟨_,_,_,_,by rw[bS,hrun l (Nat.le_refl _)];rfl,.inl rfl,⟨w.heap.size,l,aB _ _ _,rfl,Nat.le_refl _,by simp[sX,aB,gQ]⟩,h2,h3⟩
  ·cases h
def vM (c:UInt8):List D:=[.val (.int .u8 c.toNat)]
def pT:List D→Option UInt8
 | [.val (.int .u8 n)]=>if 0≤n∧n<256 then some (UInt8.ofNat n.toNat) else none
 | _=>none
theorem aIk {x:List D} {c:UInt8} (h:pT x=some c):x=vM c:=by
 unfold pT at h
 split at h
 ·rename_i n
  split at h
  ·rename_i hn
   cases h
   unfold vM
   have:((UInt8.ofNat n.toNat).toNat:Int)=n:=by
    rw[UInt8.toNat_ofNat'];omega
   rw[this]
  ·cases h
 ·cases h
theorem aGo (c:UInt8):pT (vM c)=some c:=by
 have h1:=c.toNat_lt
 have h2:(0:Int)≤(c.toNat:Int)∧(c.toNat:Int)<256:=by omega
 show (if (0:Int)≤(c.toNat:Int)∧(c.toNat:Int)<256 then some (UInt8.ofNat (c.toNat:Int).toNat) else none)=_
 rw[if_pos h2,Int.toNat_natCast,UInt8.ofNat_toNat]
theorem zB:∀ l:List UInt8,bR pT (l.map vM)=some l
 | []=>rfl
 | c::l=>by
  simp only[List.map_cons,bR,aGo,zB l]
theorem aIl:bR pT []=some []:=rfl
theorem vO:∀ {xs:List (List D)} {l:List UInt8},bR pT xs=some l→xs=l.map vM
 | [],l,h=>by simp[bR] at h;subst h;rfl
 | x::xs,l,h=>by
  simp only[bR] at h
  cases h1:pT x with
  | none=>rw[h1] at h;cases h
  | some c =>
   cases h2:bR pT xs with
   | none=>rw[h1,h2] at h;cases h
   | some m =>
    rw[h1,h2] at h
    cases h
    rw[List.map_cons,← aIk h1,← vO h2]
def fJ (P:Program) (s d:TypeId) (v:Value):Option Res:=match v with
 | .string b=>match P.underlying s,P.underlying d with
  | some .string,some (.slice e)=>match P.underlying e with
   | some (.int .u8)=>some (Res.pure (.c (.d (.lst 1 (b.toList.map vM)))))
   | _=>none
  | _,_=>sc P (convert s d (.string b))
 | v=>sc P (convert s d v)
def fI (P:Program) (s d:TypeId) (x:SV):Option Res:=match x with
 | .c cx=>match cx.lstOf 1 with
  | some xs=>match P.underlying s,P.underlying d with
   | some (.slice e),some .string=>match P.underlying e with
    | some (.int .u8)=>match bR pT xs with
     | some l=>some (Res.pure (.c (.d (.val (.string ⟨l.toArray⟩)))))
     | none=>none
    | _=>none
   | _,_=>none
  | none=>none
 | _=>none
theorem qG:∀ l:List UInt8,(l.map vM).flatten=l.map fun c=>D.val (.int .u8 c.toNat)
 | []=>rfl
 | c::l=>by rw[List.map_cons,List.flatten_cons,qG l];rfl
theorem aT8 {P:Program} {W0:Fr} {K0:aM} {s d:TypeId} {v:Value} {g:G} {H:Hp} {w:World} {r:Res} (hh:RelH W0 K0 g H w) (h:fJ P s d v=some r):bC P W0 K0 (vN (convert s d v)) g H w r:=by
 unfold fJ at h
 split at h
 ·rename_i b
  split at h
  ·rename_i e hs hd
   split at h
   ·rename_i he
    cases h
    have hrun:=run_bytes_of_string w s d e b hs hd he
    have hdata:b.data.toList=b.toList:=(ByteArray.toList_mk b.data.toList).symm
    have hbt:∀ (j:Nat) v,(b.toList.map fun c=>Value.int .u8 c.toNat)[j]? = some v→(bytesRow b (grownCap w b.size 0 e))[j]? = some v:=fun j v hj=>by
     have hl:=(List.getElem?_eq_some_iff.1 hj).1
     have e1:(bytesRow b (grownCap w b.size 0 e)).toList=(b.toList.map fun c=>Value.int .u8 c.toNat)++List.replicate (grownCap w b.size 0 e - b.size) (.int .u8 0):=by
      unfold bytesRow
      simp[hdata]
     rw[← Array.getElem?_toList,e1,List.getElem?_append_left hl];exact hj
    have hcap:b.size≤grownCap w b.size 0 e:=grownCap_ge w b.size 0 e
    have hlen:b.toList.length=b.size:=by rw[← hdata];rfl
    have hx:=oJ hh.kw (b.toList.map fun c=>Value.int .u8 c.toNat)
    have hkw:=aAh (w:=w.drew) hh.drew.kw (b.toList.map fun c=>Value.int .u8 c.toNat) (bytesRow b (grownCap w b.size 0 e)) e ((bytesRow b (grownCap w b.size 0 e)).size,(bytesRow b (grownCap w b.size 0 e)).size+1) hbt
    have hg:=hh.drew.grow (gI w.drew (.cells (bytesRow b (grownCap w b.size 0 e)) e ((bytesRow b (grownCap w b.size 0 e)).size,(bytesRow b (grownCap w b.size 0 e)).size+1))) hx hkw
    refine⟨_,_,_,_,by rw[bS,hrun];rfl,.inl rfl,?_,hg,dJ.ofK hx.1⟩
    have hrep:Rep (cK g.K w.heap.size (b.toList.map fun c=>Value.int .u8 c.toNat)) (.lst 1 (b.toList.map vM)) (.slice (some ⟨w.heap.size,0,none⟩) (b.toList.map vM).length (grownCap w b.size 0 e)):=by
     refine Rep.lst (vs:=b.toList.map fun c=>Value.int .u8 c.toNat) (fun x hx=>?_) (by simpa [hlen] using hcap) (by rw[qG];simp) (fun j x v hx hv=>?_) (fun u hu=>?_) (fun _=>⟨w.heap.size,0,rfl,fun j v hj=>?_⟩)
     ·obtain⟨c,_,rfl⟩:=List.mem_map.1 hx;rfl
     ·rw[qG] at hx
      simp only[List.getElem?_map,Option.map_eq_some_iff] at hx hv
      obtain⟨c,hc,rfl⟩:=hx
      obtain⟨c',hc',rfl⟩:=hv
      rw[hc] at hc';cases hc'
      exact .val _
     ·obtain⟨c,_,rfl⟩:=List.mem_map.1 hu;rfl
     ·unfold cK;rw[if_pos rfl,Nat.zero_add];exact hj
    rw[List.length_map,hlen] at hrep
    exact hrep
   ·cases h
  ·exact aCj hh h
 ·exact aCj hh h
theorem aT7 {P : Program} {W0 : Fr} {K0 : aM} {s d : TypeId} {x : SV} {v : Value} {g : G} {H : Hp} {w : World} {r : Res} (hh : RelH W0 K0 g H w) (hx : bD g H x v) (h : fI P s d x = some r) : bC P W0 K0 (vN (convert s d v)) g H w r := by
  unfold fI at h
  split at h
  · rename_i cx
    split at h
    · rename_i xs hxs
      split at h
      · rename_i e hs hd
        split at h
        · rename_i he
          split at h
          · rename_i l hl
            cases h
            have hr := CV.lstOf_rep hx hxs
            obtain rfl := vO hl
            obtain ⟨a, c, vs, rfl, h1, h2, h3, h4, h5⟩ := hr.inv
            have hvs : vs = l.map fun c => Value.int .u8 c.toNat := by
              have hf := h3
              rw [qG] at hf
              apply List.ext_getElem
              · have := hf.1; simpa using this.symm
              · intro j hj hj'
                have := hf.2 j (D.val (.int .u8 (l[j]'(by simpa using hj')).toNat)) vs[j] (by simp [List.getElem?_map, List.getElem?_eq_getElem (show j < l.length by simpa using hj')]) (List.getElem?_eq_getElem hj)
                generalize vs[j] = u at this
                cases this
                simp
            refine bC.same hh (v := .string ⟨l.toArray⟩) ?_ (Rep.val _)
            rw [bS, List.length_map]
            have key : (convert s d (.slice a l.length c)).run P w = .ok (.string ⟨l.toArray⟩) w := by
              cases a with
              | none =>
                have : l = [] := by
                  cases l with
                  | nil => rfl
                  | cons q l => obtain ⟨b, off, hb, _⟩ := h5 (by simp); cases hb
                subst this
                exact run_convert_bytes_nil w s e hs he 0 c d hd
              | some ad =>
                refine run_convert_bytes_back w s d e ad c l hs he hd (fun j hj => ?_)
                obtain ⟨b, off, hb, hk⟩ := h5 (by intro hn; have : l = [] := by simpa using hn
                                                  subst this; simp at hj)
                cases hb
                rw [Addr.add_lit]
                exact hh.kw _ _ _ (hk j _ (by rw [hvs]; simp [List.getElem?_map, List.getElem?_eq_getElem hj]))
            rw [key]; rfl
          · cases h
        · cases h
      · cases h
    · cases h
  · cases h
theorem aOy {P:Program} {s d:TypeId} {v:Value} {r:Res} (h:fJ P s d v=some r):r.up=none:=by
 have hs:∀ {q:Sem Value},sc P q=some r→r.up=none:=fun h=>by
  unfold sc at h;split at h<;>cases h;rfl
 unfold fJ at h
 split at h
 ·split at h
  ·split at h
   ·cases h;rfl
   ·cases h
  ·exact hs h
 ·exact hs h
theorem aOx {P:Program} {s d:TypeId} {x:SV} {r:Res} (h:fI P s d x=some r):r.up=none:=by
 unfold fI at h
 (repeat' split at h)<;>first|(cases h;rfl)|(cases h;done)
def fK (P:Program) (t:TypeId) (x y:SV):Option Res:=match cZ P t,x,y with
 | some _,.c cx,.c cy=>match cx.lenOf,cy.lenOf with
  | some n,some m=>if n=0∨m=0 then some (Res.pure (.c (.d (.val (.int .i64 0))))) else none
  | _,_=>none
 | _,_,_=>none
theorem aWs {P:Program} {W0:Fr} {K0:aM} {t t' ty:TypeId} {x y:SV} {v u:Value} {g:G} {H:Hp} {w:World} {r:Res} (hh:RelH W0 K0 g H w) (hx:bD g H x v) (hy:bD g H y u) (h:fK P t x y=some r):bC P W0 K0 (vN (Builtin.copy_ #[t,t'] ty #[v,u])) g H w r:=by
 unfold fK at h
 split at h
 ·rename_i q cx cy hes
  obtain⟨e,sz,bb,zs⟩:=q
  obtain⟨hu,j,z,uu,hj,hz,hs,hby,hzs,_⟩:=cQ hes
  split at h
  ·rename_i n m hn hm
   split at h
   ·rename_i h0
    cases h
    obtain⟨a,c,rfl⟩:=CV.lenOf_rep hx hn
    obtain⟨a2,c2,rfl⟩:=CV.lenOf_rep hy hm
    have hmin:Nat.min m n=0:=by rcases h0 with h0|h0<;>subst h0<;>simp[Nat.min_def]
    refine bC.same hh (v:=.int .i64 0) ?_ (Rep.val _)
    rw[bS]
    unfold Builtin.copy_
    cases a2<;>cases a<;>simp[run_underlying hu,cC hj,Builtin.lenOf,hmin,Builtin.firstCells,loadCells,loadCellsFrom,storeCells,goInt]<;>rfl
   ·cases h
  ·cases h
 ·cases h
theorem aRj {P:Program} {t:TypeId} {x y:SV} {r:Res} (h:fK P t x y=some r):r.up=none:=by
 unfold fK at h
 (repeat' split at h)<;>first|(cases h;rfl)|(cases h;done)
theorem dJ.mchg {g:G} {H:Hp} {τ e sz n:Nat} {cs:List CV} (hτ:H τ=some (.mrow e sz n cs)) (e' sz' n' : Nat) (cs' : List CV) (hn:n<n') (b' : Option Nat) (cp:Nat) :
  dJ g H ⟨g.K,upd g.β τ b',upd g.cap τ cp⟩ (upd H τ (some (.mrow e' sz' n' cs'))):=by
 have ho:∀ i off v,bA g H (.own i off) v→bA ⟨g.K,upd g.β τ b',upd g.cap τ cp⟩ (upd H τ (some (.mrow e' sz' n' cs'))) (.own i off) v:=by
  rintro i off v ⟨b,hb,rfl,hnr⟩
  have hne:i≠τ:=fun q=>by subst q;rw[hτ] at hnr;cases hnr
  exact⟨b,by show upd _ _ _ _=_;rw[aA _ _ hne];exact hb,rfl,by rw[aA _ _ hne];exact hnr⟩
 intro x v r
 cases x with
 | any=>trivial
 | d x=>exact r
 | own i off=>exact ho i off v r
 | clo f caps=>exact dO r (gL.refl _) ho
 | bnd f caps=>exact dN r (gL.refl _) ho
 | yld i=>exact dP r ho
 | mp i=>exact fC r ho
 | full s xs=>exact r
 | view i s off len =>
  obtain⟨b,c,hb,rfl,hc,hnr⟩:=r
  have hne:i≠τ:=fun q=>by subst q;rw[hτ] at hnr;cases hnr
  exact⟨b,c,by show upd _ _ _ _=_;rw[aA _ _ hne];exact hb,rfl,hc,by rw[aA _ _ hne];exact hnr⟩
 | app i s xs =>
  obtain⟨h1,e2,n2,h2,h3,h4⟩:=r
  have hne:i≠τ:=fun q=>by subst q;rw[hτ] at h2;cases h2
  refine⟨h1,e2,n2,by rw[aA _ _ hne];exact h2,h3,fun hx=>?_⟩
  rcases h4 hx with h|⟨b,hb,hv⟩
  ·exact .inl h
  ·exact .inr ⟨b,by show upd _ _ _ _=_;rw[aA _ _ hne];exact hb,by show _=Value.slice _ _ (upd _ _ _ _);rw[aA _ _ hne];exact hv⟩
 | apt i s xs k=>exact fZ (by exact gL.refl _) (TLe.upd (fun _ _ _ h=>by rw[hτ] at h;cases h) (fun i h=>aA _ _ h) (fun i h=>aA _ _ h)) r
 | mt i k =>
  obtain⟨h1,e2,s2,n2,cs2,h2,h3,h4⟩:=r
  by_cases hne:i=τ
  ·subst hne
   rw[hτ] at h2;cases h2
   exact⟨h1,e',sz',n',cs',aB _ _ _,by omega,fun q=>by omega⟩
  ·refine⟨h1,e2,s2,n2,cs2,by rw[aA _ _ hne];exact h2,h3,fun q=>?_⟩
   show (∃ b,upd _ _ _ _=_∧_=Value.slice _ _ (upd _ _ _ _))∨(upd _ _ _ _=_∧_)
   rw[aA _ _ hne,aA _ _ hne];exact h4 q
 | mpt i k off =>
  obtain⟨h1,e2,s2,n2,cs2,h2,h3,h4⟩:=r
  by_cases hne:i=τ
  ·subst hne
   rw[hτ] at h2;cases h2
   exact⟨h1,e',sz',n',cs',aB _ _ _,by omega,fun q=>by omega⟩
  ·refine⟨h1,e2,s2,n2,cs2,by rw[aA _ _ hne];exact h2,h3,fun q=>?_⟩
   show ∃ b,upd _ _ _ _=_∧_
   rw[aA _ _ hne];exact h4 q
theorem RelH.mchg {W0:Fr} {K0:aM} {g:G} {H:Hp} {w w' : World} {τ e sz n:Nat} {cs:List CV} (hh:RelH W0 K0 g H w) (hτ:H τ=some (.mrow e sz n cs)) (e' sz' n' : Nat) (cs' : List CV) (hn:n<n') (b' : Option Nat) (cp:Nat)
  (hbel:BelowF W0 w') (hkw:KW g.K w') (hoth:∀ i b,i≠τ→g.β i=some b→w'.heap[b]? = w.heap[b]?) (hbase:∀ b,b' = some b→W0.mine b) (hsep:∀ i b,i≠τ→g.β i=some b→b'≠some b) (hlt:∀ b,b' = some b→b<w'.heap.size) (hsz:w.heap.size≤w'.heap.size)
  (hhol:dJ g H ⟨g.K,upd g.β τ b',upd g.cap τ cp⟩ (upd H τ (some (.mrow e' sz' n' cs')))→fX ⟨g.K,upd g.β τ b',upd g.cap τ cp⟩ (upd H τ (some (.mrow e' sz' n' cs'))) w' τ (.mrow e' sz' n' cs')) :
  RelH W0 K0 ⟨g.K,upd g.β τ b',upd g.cap τ cp⟩ (upd H τ (some (.mrow e' sz' n' cs'))) w'∧dJ g H ⟨g.K,upd g.β τ b',upd g.cap τ cp⟩ (upd H τ (some (.mrow e' sz' n' cs'))):=by
 have hle:=dJ.mchg (g:=g) hτ e' sz' n' cs' hn b' cp
 have hβ:∀ i,i≠τ→(upd g.β τ b') i=g.β i:=fun i h=>aA _ _ h
 have hcap:∀ i,i≠τ→(upd g.cap τ cp) i=g.cap i:=fun i h=>aA _ _ h
 refine⟨⟨hbel,hh.ext,hkw,fun i he hi=>?_,fun i b hb=>?_,fun i hi=>?_,fun i j b hi hj=>?_,fun i b hb=>?_,hh.glob,hh.lent.trans hle⟩,hle⟩
 ·by_cases hne:i=τ
  ·subst hne;rw[aB] at hi;cases hi;exact hhol hle
  ·rw[aA _ _ hne] at hi
   have:=hh.holds i he hi
   cases he with
   | cells cs2 =>
    obtain⟨b,vs,t,h1,h2,h3,h4⟩:=this
    exact⟨b,vs,t,(hβ i hne).trans h1,(hoth i b hne h1).trans h2,h3.mono hle,h4⟩
   | obj o =>
    obtain⟨b,h1,h2,h3⟩:=this
    exact⟨b,(hβ i hne).trans h1,(hoth i b hne h1).trans h2,h3⟩
   | froz ds =>
    obtain⟨b,vs,h1,h2⟩:=this
    exact⟨b,vs,(hβ i hne).trans h1,h2⟩
   | mrow e2 s2 n2 cs2=>exact bY this (hβ i hne) (hcap i hne) (fun b o h1 h2=>(hoth i b hne h1).trans h2) hle (fun _ _ _ q _=>q)
   | rot e2 s2 n2=>exact bM this (hβ i hne) (hcap i hne) (fun b o h1 h2=>(hoth i b hne h1).trans h2) (fun _ _ _ q _=>q)
   | ob cs2 p=>exact cT this (hβ i hne) (hcap i hne) (fun b o h1 h2=>(hoth i b hne h1).trans h2) hle (fun _ _ _ q _=>q)
   | row e2 s2 n2 =>
    intro b hb
    have hb:upd g.β τ b' i=some b:=hb
    rw[hβ i hne] at hb
    obtain⟨cur,h1,h2,h3⟩:=this b hb
    exact⟨cur,(hoth i b hne hb).trans h1,by show _=(upd _ _ _ _)*_;rw[hcap i hne];exact h2,by show _≤(upd _ _ _ _)∧_;rw[hcap i hne];exact h3⟩
 ·have hb:upd g.β τ b' i=some b:=hb
  by_cases hne:i=τ
  ·subst hne;rw[aB] at hb;exact hbase b hb
  ·rw[hβ i hne] at hb;exact hh.base i b hb
 ·by_cases hne:i=τ
  ·subst hne;rw[aB] at hi;cases hi
  ·rw[aA _ _ hne] at hi;exact (hβ i hne).trans (hh.dom i hi)
 ·have hi:upd g.β τ b' i=some b:=hi
  have hj:upd g.β τ b' j=some b:=hj
  by_cases h1:i=τ<;>by_cases h2:j=τ
  ·rw[h1,h2]
  ·subst h1;rw[aB] at hi;rw[hβ j h2] at hj;exact absurd hi (hsep j b h2 hj)
  ·subst h2;rw[aB] at hj;rw[hβ i h1] at hi;exact absurd hj (hsep i b h1 hi)
  ·rw[hβ i h1] at hi;rw[hβ j h2] at hj;exact hh.sep i j b hi hj
 ·have hb:upd g.β τ b' i=some b:=hb
  by_cases hne:i=τ
  ·subst hne;rw[aB] at hb;exact hlt b hb
  ·rw[hβ i hne] at hb;have:=hh.frozlt i b hb;omega
theorem aJt {K:aM} {w w' : World} (hk:KW K w) (hb:Below w.heap.size w w'):KW K w':=fun b o v h=>by
 have h0:=hk b o v h
 exact (hb.cell (p:=⟨b,o,none⟩) (World.block_lt_of_cell? w _ h0)).trans h0
theorem RelH.mnew {W0:Fr} {K0:aM} {g:G} {H:Hp} {w:World} {τ e sz n n' cp:Nat} {cs cs' : List CV} {cur:Array Value} {vs rest:List Value} (hh:RelH W0 K0 g H w) (hτ:H τ=some (.mrow e sz n cs)) (hn:n<n') (hsz0:0<sz) (hmod:cs'.length % sz=0)
  (hcur:cur.toList=vs++rest) (hsz:cur.size=cp*sz) (hr:bJ g H cs' vs) (h1:∀ u ∈ vs,u.oneCell' = true) :
  RelH W0 K0 ⟨g.K,upd g.β τ (some w.heap.size),upd g.cap τ cp⟩ (upd H τ (some (.mrow e sz n' cs'))) (w.alloc (.cells cur e))∧dJ g H ⟨g.K,upd g.β τ (some w.heap.size),upd g.cap τ cp⟩ (upd H τ (some (.mrow e sz n' cs'))):=by
 have hb:=gI w (.cells cur e)
 refine hh.mchg hτ e sz n' cs' hn (some w.heap.size) cp (hh.below.trans hb) (aJt hh.kw hb) (fun i b hne hib=>heap_alloc_old w _ b (hh.frozlt i b hib)) (fun b hb=>?_) (fun i b hne hib q=>?_) (fun b hb=>?_) (by simp) (fun hle=>⟨hsz0,hmod,.inr ⟨w.heap.size,cur,vs,rest,aB _ _ _,heap_alloc_new w _,hcur,by show _=(upd _ _ _ _)*_;rw[aB];exact hsz,hr.mono hle,h1,fun o=>hh.kw.lt (Nat.le_refl _)⟩⟩)
 ·cases hb;exact .inl hh.below.size
 ·cases q;have:=hh.frozlt i _ hib;omega
 ·cases hb;simp
theorem RelH.mset {W0:Fr} {K0:aM} {g:G} {H:Hp} {w:World} {τ e sz n n' b:Nat} {cs cs' : List CV} {cur cur' : Array Value} {vs rest:List Value} (hh:RelH W0 K0 g H w) (hτ:H τ=some (.mrow e sz n cs)) (hβ:g.β τ=some b) (hheap:w.heap[b]? = some (.cells cur e (0,0))) (hn:n<n') (hmod:cs'.length % sz=0)
  (hcur:cur'.toList=vs++rest) (hsz:cur'.size=cur.size) (hr:bJ g H cs' vs) (h1:∀ u ∈ vs,u.oneCell' = true) :
  RelH W0 K0 ⟨g.K,upd g.β τ (some b),upd g.cap τ (g.cap τ)⟩ (upd H τ (some (.mrow e sz n' cs'))) (w.setRow b cur')∧dJ g H ⟨g.K,upd g.β τ (some b),upd g.cap τ (g.cap τ)⟩ (upd H τ (some (.mrow e sz n' cs'))):=by
 obtain⟨hs0,hm0,hcase⟩:=hh.holds τ _ hτ
 obtain⟨cur0,vs0,rest0,hheap0,hsz1,hn1⟩:∃ cur0 vs0 rest0,w.heap[b]? = some (.cells cur0 e (0,0))∧cur0.size=g.cap τ*sz∧∀ o,g.K b o=none:=by
  rcases hcase with ⟨h4,_⟩|⟨b0,cur0,vs0,rest0,h4,h5,h6,h7,h8,h9,h10⟩
  ·rw[hβ] at h4;cases h4
  ·rw[hβ] at h4;cases h4;exact⟨cur0,vs0,rest0,h5,h7,h10⟩
 rw[hheap] at hheap0;cases hheap0
 have hset:=setRow_heap w b cur cur' e (0,0) hheap
 have hoth:∀ k,k≠b→(w.setRow b cur').heap[k]? = w.heap[k]?:=fun k hk=>setRow_other w b k cur' hk
 have hszw:(w.setRow b cur').heap.size=w.heap.size:=by simp[World.setRow]
 refine hh.mchg hτ e sz n' cs' hn (some b) (g.cap τ) ⟨hh.below.os,hh.below.tape,hh.below.output,by rw[hszw];exact hh.below.size,fun k hk=>by rw[hoth k (Fr.ne hk (hh.base τ b hβ))];exact hh.below.block k hk⟩ ?_ (fun i b2 hne hib=>hoth b2 (fun q=>hne (hh.sep i τ b (q ▸ hib) hβ))) (fun b2 hb=>?_) (fun i b2 hne hib q=>?_) (fun b2 hb=>?_) (by rw[hszw];exact Nat.le_refl _) (fun hle=>⟨hs0,hmod,.inr ⟨b,cur',vs,rest,aB _ _ _,hset,hcur,by show _=(upd _ _ _ _)*_;rw[aB,hsz];exact hsz1,hr.mono hle,h1,hn1⟩⟩)
 ·intro b2 o v hv
  have hne:b2≠b:=fun q=>by subst q;rw[hn1 o] at hv;cases hv
  have h0:=hh.kw b2 o v hv
  rw[← h0];exact World.cell?_of_block (hoth b2 hne)
 ·cases hb;exact hh.base τ _ hβ
 ·cases q;exact hne (hh.sep i τ b hib hβ)
 ·cases hb;rw[hszw];exact hh.frozlt τ b hβ
theorem RelH.mtok {W0:Fr} {K0:aM} {g:G} {H:Hp} {w:World} {τ:Nat} (e sz:Nat) (hh:RelH W0 K0 g H w) (hτ:H τ=none) (hsz:0<sz) :
  RelH W0 K0 g (upd H τ (some (.mrow e sz 0 []))) w∧dJ g H g (upd H τ (some (.mrow e sz 0 []))):=by
 have hβ:g.β τ=none:=hh.dom τ hτ
 have hne1:∀ i b,g.β i=some b→i≠τ:=fun i b hb q=>by subst q;rw[hβ] at hb;cases hb
 have ho:∀ i off v,bA g H (.own i off) v→bA g (upd H τ (some (.mrow e sz 0 []))) (.own i off) v:=by
  rintro i off v ⟨b,hb,rfl,hnr⟩
  exact⟨b,hb,rfl,by rw[aA _ _ (hne1 i b hb)];exact hnr⟩
 have hle:dJ g H g (upd H τ (some (.mrow e sz 0 []))):=by
  intro x v r
  cases x with
  | any=>trivial
  | d x=>exact r
  | own i off=>exact ho i off v r
  | clo f caps=>exact dO r (gL.refl _) ho
  | bnd f caps=>exact dN r (gL.refl _) ho
  | yld i=>exact dP r ho
  | mp i=>exact fC r ho
  | full s xs=>exact r
  | view i s off len=>obtain⟨b,c,hb,rfl,hc,hnr⟩:=r;exact⟨b,c,hb,rfl,hc,by rw[aA _ _ (hne1 i b hb)];exact hnr⟩
  | app i s xs =>
   obtain⟨h1,e2,n2,h2,h3⟩:=r
   exact⟨h1,e2,n2,by rw[aA _ _ (fun q=>by subst q;rw[hτ] at h2;cases h2)];exact h2,h3⟩
  | apt i s xs k=>exact fZ (by exact gL.refl _) (TLe.upd (fun _ _ _ h=>by rw[hτ] at h;cases h) (fun _ _=>rfl) (fun _ _=>rfl)) r
  | mt i k =>
   obtain⟨h1,e2,s2,n2,cs2,h2,h3⟩:=r
   exact⟨h1,e2,s2,n2,cs2,by rw[aA _ _ (fun q=>by subst q;rw[hτ] at h2;cases h2)];exact h2,h3⟩
  | mpt i k off =>
   obtain⟨h1,e2,s2,n2,cs2,h2,h3⟩:=r
   exact⟨h1,e2,s2,n2,cs2,by rw[aA _ _ (fun q=>by subst q;rw[hτ] at h2;cases h2)];exact h2,h3⟩
 refine⟨⟨hh.below,hh.ext,hh.kw,fun i he hi=>?_,hh.base,fun i hi=>?_,hh.sep,hh.frozlt,hh.glob,hh.lent.trans hle⟩,hle⟩
 ·by_cases hne:i=τ
  ·subst hne;rw[aB] at hi;cases hi;exact⟨hsz,Nat.zero_mod _,.inl ⟨hβ,rfl⟩⟩
  ·rw[aA _ _ hne] at hi
   have:=hh.holds i he hi
   cases he with
   | cells cs =>
    obtain⟨b,vs,t,h1,h2,h3,h4⟩:=this
    exact⟨b,vs,t,h1,h2,h3.mono hle,h4⟩
   | obj o=>exact this
   | froz ds=>exact this
   | mrow e2 s2 n2 cs2=>exact bY this rfl rfl (fun _ _ _ q=>q) hle (fun _ _ _ q _=>q)
   | rot e2 s2 n2=>exact bM this rfl rfl (fun _ _ _ q=>q) (fun _ _ _ q _=>q)
   | ob cs2 p=>exact cT this rfl rfl (fun _ _ _ q=>q) hle (fun _ _ _ q _=>q)
   | row e s n=>exact this
 ·by_cases hne:i=τ
  ·subst hne;rw[aB] at hi;cases hi
  ·rw[aA _ _ hne] at hi;exact hh.dom i hi
theorem bJ.app {g:G} {H:Hp} {cs ds:List CV} {vs us:List Value} (h:bJ g H cs vs) (h' : bJ g H ds us):bJ g H (cs++ds) (vs++us):=by
 refine⟨by simp[h.1,h'.1],fun j x v hx hv=>?_⟩
 rcases Nat.lt_or_ge j cs.length with hj|hj
 ·rw[List.getElem?_append_left hj] at hx
  rw[List.getElem?_append_left (by rw[← h.1];exact hj)] at hv
  exact h.2 j x v hx hv
 ·rw[List.getElem?_append_right hj] at hx
  rw[List.getElem?_append_right (by rw[← h.1];exact hj),← h.1] at hv
  exact h'.2 _ x v hx hv

theorem dJ.mwr {g:G} {H:Hp} {τ e sz n:Nat} {cs:List CV} (hτ:H τ=some (.mrow e sz n cs)) (cs' : List CV) (hl:cs'.length=cs.length):dJ g H g (upd H τ (some (.mrow e sz n cs'))):=by
 have hm:∀ i e2 s2 n2 c2,H i=some (.mrow e2 s2 n2 c2)→∃ c3,upd H τ (some (.mrow e sz n cs')) i=some (.mrow e2 s2 n2 c3)∧c3.length=c2.length:=fun i e2 s2 n2 c2 h2=>by
  by_cases hne:i=τ
  ·subst hne;rw[hτ] at h2;cases h2;exact⟨cs',aB _ _ _,hl⟩
  ·exact⟨c2,by rw[aA _ _ hne];exact h2,rfl⟩
 have ho:∀ i off v,bA g H (.own i off) v→bA g (upd H τ (some (.mrow e sz n cs'))) (.own i off) v:=by
  rintro i off v ⟨b,hb,rfl,hnr⟩
  have hne:i≠τ:=fun q=>by subst q;rw[hτ] at hnr;cases hnr
  exact⟨b,hb,rfl,by rw[aA _ _ hne];exact hnr⟩
 intro x v r
 cases x with
 | any=>trivial
 | d x=>exact r
 | own i off=>exact ho i off v r
 | clo f caps=>exact dO r (gL.refl _) ho
 | bnd f caps=>exact dN r (gL.refl _) ho
 | yld i=>exact dP r ho
 | mp i=>exact fC r ho
 | full s xs=>exact r
 | view i s off len =>
  obtain⟨b,c,hb,rfl,hc,hnr⟩:=r
  have hne:i≠τ:=fun q=>by subst q;rw[hτ] at hnr;cases hnr
  exact⟨b,c,hb,rfl,hc,by rw[aA _ _ hne];exact hnr⟩
 | app i s xs =>
  obtain⟨h1,e2,n2,h2,h3⟩:=r
  have hne:i≠τ:=fun q=>by subst q;rw[hτ] at h2;cases h2
  exact⟨h1,e2,n2,by rw[aA _ _ hne];exact h2,h3⟩
 | apt i s xs k=>exact fZ (by exact gL.refl _) (TLe.upd (fun _ _ _ h=>by rw[hτ] at h;cases h) (fun _ _=>rfl) (fun _ _=>rfl)) r
 | mt i k=>exact yI r (hm i) rfl rfl
 | mpt i k off=>exact yG r (hm i) rfl
theorem RelH.mwr {W0:Fr} {K0:aM} {g:G} {H:Hp} {w:World} {τ e sz n b:Nat} {cs cs' : List CV} {cur cur' : Array Value} {vs rest:List Value} (hh:RelH W0 K0 g H w) (hτ:H τ=some (.mrow e sz n cs)) (hβ:g.β τ=some b) (hheap:w.heap[b]? = some (.cells cur e (0,0))) (hl:cs'.length=cs.length)
  (hcur:cur'.toList=vs++rest) (hsz:cur'.size=cur.size) (hr:bJ g H cs' vs) (h1:∀ u ∈ vs,u.oneCell' = true) :
  RelH W0 K0 g (upd H τ (some (.mrow e sz n cs'))) (w.setRow b cur')∧dJ g H g (upd H τ (some (.mrow e sz n cs'))):=by
 have hle:=dJ.mwr (g:=g) hτ cs' hl
 obtain⟨hs0,hm0,hcase⟩:=hh.holds τ _ hτ
 obtain⟨hsz1,hn1⟩:cur.size=g.cap τ*sz∧∀ o,g.K b o=none:=by
  rcases hcase with ⟨h4,_⟩|⟨b0,cur0,vs0,rest0,h4,h5,h6,h7,h8,h9,h10⟩
  ·rw[hβ] at h4;cases h4
  ·rw[hβ] at h4;cases h4;rw[hheap] at h5;cases h5;exact⟨h7,h10⟩
 have hset:=setRow_heap w b cur cur' e (0,0) hheap
 have hoth:∀ k,k≠b→(w.setRow b cur').heap[k]? = w.heap[k]?:=fun k hk=>setRow_other w b k cur' hk
 have hszw:(w.setRow b cur').heap.size=w.heap.size:=by simp[World.setRow]
 have hothi:∀ i b2,i≠τ→g.β i=some b2→(w.setRow b cur').heap[b2]? = w.heap[b2]?:=fun i b2 hne hib=>hoth b2 (fun q=>hne (hh.sep i τ b (q ▸ hib) hβ))
 refine⟨⟨⟨hh.below.os,hh.below.tape,hh.below.output,by rw[hszw];exact hh.below.size,fun k hk=>by rw[hoth k (Fr.ne hk (hh.base τ b hβ))];exact hh.below.block k hk⟩,hh.ext,?_,fun i he hi=>?_,hh.base,fun i hi=>?_,hh.sep,fun i b2 hb=>by rw[hszw];exact hh.frozlt i b2 hb,hh.glob,hh.lent.trans hle⟩,hle⟩
 ·intro b2 o v hv
  have hne:b2≠b:=fun q=>by subst q;rw[hn1 o] at hv;cases hv
  have h0:=hh.kw b2 o v hv
  rw[← h0];exact World.cell?_of_block (hoth b2 hne)
 ·by_cases hne:i=τ
  ·subst hne;rw[aB] at hi;cases hi
   exact⟨hs0,by rw[hl];exact hm0,.inr ⟨b,cur',vs,rest,hβ,hset,hcur,by rw[hsz];exact hsz1,hr.mono hle,h1,hn1⟩⟩
  ·rw[aA _ _ hne] at hi
   have:=hh.holds i he hi
   cases he with
   | cells cs2 =>
    obtain⟨b2,vs2,t,h1,h2,h3,h4⟩:=this
    exact⟨b2,vs2,t,h1,(hothi i b2 hne h1).trans h2,h3.mono hle,h4⟩
   | obj o =>
    obtain⟨b2,h1,h2,h3⟩:=this
    exact⟨b2,h1,(hothi i b2 hne h1).trans h2,h3⟩
   | froz ds=>exact this
   | mrow e2 s2 n2 cs2=>exact bY this rfl rfl (fun b2 o h1 h2=>(hothi i b2 hne h1).trans h2) hle (fun _ _ _ q _=>q)
   | rot e2 s2 n2=>exact bM this rfl rfl (fun b2 o h1 h2=>(hothi i b2 hne h1).trans h2) (fun _ _ _ q _=>q)
   | ob cs2 p=>exact cT this rfl rfl (fun b2 o h1 h2=>(hothi i b2 hne h1).trans h2) hle (fun _ _ _ q _=>q)
   | row e2 s2 n2 =>
    intro b2 hb2
    obtain⟨cur2,h1,h2⟩:=this b2 hb2
    exact⟨cur2,(hothi i b2 hne hb2).trans h1,h2⟩
 ·by_cases hne:i=τ
  ·subst hne;rw[aB] at hi;cases hi
  ·rw[aA _ _ hne] at hi;exact hh.dom i hi
theorem xM {α:Type} (f:Nat→α) (t:Nat):upd f t (f t)=f:=by
 funext i
 by_cases h:i=t
 ·subst h;exact aB _ _ _
 ·exact aA _ _ h
theorem RelH.mbump {W0:Fr} {K0:aM} {g:G} {H:Hp} {w:World} {τ e sz n:Nat} {cs:List CV} (hh:RelH W0 K0 g H w) (hτ:H τ=some (.mrow e sz n cs)) (n' : Nat) (hn:n<n') :
  RelH W0 K0 g (upd H τ (some (.mrow e sz n' cs))) w∧dJ g H g (upd H τ (some (.mrow e sz n' cs))):=by
 have h0:=hh.holds τ _ hτ
 have:=hh.mchg (w':=w) hτ e sz n' cs hn (g.β τ) (g.cap τ) hh.below hh.kw (fun _ _ _ _=>rfl) (fun b hb=>hh.base τ b hb) (fun i b hne hi q=>hne (hh.sep i τ b hi q)) (fun b hb=>hh.frozlt τ b hb) (Nat.le_refl _) (fun hle=>by
  rw[xM,xM] at hle ⊢
  obtain⟨h1,h2,h3⟩:=h0
  refine⟨h1,h2,?_⟩
  rcases h3 with h|⟨b,cur,vs,rest,h4,h5,h6,h7,h8,h9,h10⟩
  ·exact .inl h
  ·exact .inr ⟨b,cur,vs,rest,h4,h5,h6,h7,h8.mono hle,h9,h10⟩)
 rw[xM,xM] at this
 exact this
theorem aWh {g:G} {H:Hp} {τ e sz n:Nat} {cs:List CV} {v:Value} (hτ:H τ=some (.mrow e sz n cs)) (n' : Nat) (r:bA g H (.mt τ n) v):bA g (upd H τ (some (.mrow e sz n' cs))) (.mt τ n') v:=by
 obtain⟨h1,e2,s2,n2,c2,h2,h3,h4⟩:=r
 rw[hτ] at h2;cases h2
 exact⟨h1,e,sz,n',cs,aB _ _ _,Nat.le_refl _,fun _=>h4 rfl⟩
theorem yH {W0:Fr} {K0:aM} {g:G} {H:Hp} {w:World} {τ e sz n off:Nat} {cs:List CV} {v:Value} (hh:RelH W0 K0 g H w) (hτ:H τ=some (.mrow e sz n cs)) (hx:bA g H (.mpt τ n off) v) :
  ∃ b cur vs rest,v = .pointer (some ⟨b,off,none⟩)∧g.β τ=some b∧w.heap[b]? = some (.cells cur e (0,0))∧cur.toList=vs++rest∧bJ g H cs vs∧(∀ u ∈ vs,u.oneCell' = true):=by
 obtain⟨_,e2,s2,n2,c2,h2,_,h4⟩:=hx
 rw[hτ] at h2;cases h2
 obtain⟨b,hb,rfl⟩:=h4 rfl
 obtain⟨_,_,hcase⟩:=hh.holds τ _ hτ
 rcases hcase with ⟨h5,_⟩|⟨b2,cur,vs,rest,h5,h6,h7,h8,h9,h10,_⟩
 ·rw[hb] at h5;cases h5
 ·rw[hb] at h5;cases h5
  exact⟨b,cur,vs,rest,rfl,hb,h6,h7,h9,h10⟩
def aC2 (P:Program) (t:TypeId) (H:Hp) (τ n:Nat) (i:SV):Option Res :=
 match cZ P t with
 | some (e,sz,_,_)=>match i.nat with
  | some k=>match H τ with
   | some (.mrow e' s' n' cs)=>if e' = e∧s' = sz∧n' = n∧k*sz+sz≤cs.length then some ⟨.c (.mpt τ n (k*sz)),none,[τ],false⟩ else none
   | _=>none
  | none=>none
 | none=>none
theorem aWw {P:Program} {W0:Fr} {K0:aM} {g:G} {H:Hp} {w:World} {r:Res} {t:TypeId} {τ n:Nat} {i:SV} {v vi:Value} (hh:RelH W0 K0 g H w) (hx:bA g H (.mt τ n) v) (hi:bD g H i vi) (h:aC2 P t H τ n i=some r) :
  bC P W0 K0 (vN (Instr.indexAt t v vi)) g H w r:=by
 unfold aC2 at h
 split at h
 ·rename_i e s bb zs hes
  obtain⟨hu,j,z,u,hj,hz,hs,hby,_,_⟩:=cQ hes
  split at h
  ·rename_i k hk
   obtain⟨kk,rfl⟩:=SV.nat_rep hi hk
   split at h
   ·rename_i e' s' n' cs hτ
    split at h
    ·rename_i hc
     obtain⟨rfl,rfl,rfl,hlt⟩:=hc
     cases h
     obtain⟨hs0,_,_⟩:=hh.holds τ _ hτ
     obtain⟨_,e2,s2,n2,c2,h2,_,h4⟩:=hx
     rw[hτ] at h2;cases h2
     rcases h4 rfl with ⟨b,hb,rfl⟩|⟨_,hcs,_⟩
     ·have hkl:k<cs.length / s':=by
       rw[Nat.lt_iff_add_one_le,Nat.le_div_iff_mul_le hs0,Nat.add_mul,Nat.one_mul];exact hlt
      refine bC.same hh (v:=.pointer (some ⟨b,0+k*s',none⟩)) (by rw[bS,kT hu hj hs b 0 _ _ k kk hkl];rfl) ?_
      exact⟨⟨_,rfl⟩,_,_,_,cs,hτ,Nat.le_refl _,fun _=>⟨b,hb,by rw[Nat.zero_add]⟩⟩
     ·rw[hcs] at hlt;simp at hlt;omega
    ·cases h
   ·cases h
  ·cases h
 ·cases h
def aC1 (P:Program) (s:TypeId) (f:Nat) (H:Hp) (τ n off:Nat):Option Res :=
 match TI P s with
 | some i=>match i.fs[f]? with
  | some (o,z,_)=>if z=0 then none else match H τ with
   | some (.mrow _ _ n' _)=>if n' = n then some ⟨.c (.mpt τ n (off+o)),none,[τ],false⟩ else none
   | _=>none
  | none=>none
 | none=>none
theorem aWv {P:Program} {W0:Fr} {K0:aM} {g:G} {H:Hp} {w:World} {r:Res} {s:TypeId} {f τ n off:Nat} {v:Value} (hh:RelH W0 K0 g H w) (hx:bA g H (.mpt τ n off) v) (h:aC1 P s f H τ n off=some r) :
  bC P W0 K0 (vN (Instr.fieldAt s v f)) g H w r:=by
 unfold aC1 at h
 split at h
 ·rename_i i hi
  split at h
  ·rename_i o z ag hf
   split at h
   ·cases h
   ·rename_i hz
    split at h
    ·rename_i e s' n' cs hτ
     split at h
     ·rename_i hn
      subst hn
      cases h
      obtain⟨b,cur,vs,rest,rfl,hb,_⟩:=yH hh hτ hx
      exact bC.same hh (v:=.pointer (some ⟨b,off+o,none⟩)) (by rw[bS,lP hi hf hz];rfl) ⟨⟨_,rfl⟩,_,_,_,cs,hτ,Nat.le_refl _,fun _=>⟨b,hb,rfl⟩⟩
     ·cases h
    ·cases h
  ·cases h
 ·cases h
def sB (P:Program) (t:TypeId) (H:Hp) (τ n off:Nat):Option Res :=
 match H τ with
 | some (.mrow _ _ n' cs)=>if n' = n then match ldv P t cs off with
   | some x=>some ⟨x,none,[τ],false⟩
   | none=>none
  else none
 | _=>none
theorem aTa {P:Program} {W0:Fr} {K0:aM} {g:G} {H:Hp} {w:World} {r:Res} {t:TypeId} {τ n off:Nat} {v:Value} (hh:RelH W0 K0 g H w) (hx:bA g H (.mpt τ n off) v) (h:sB P t H τ n off=some r) :
  bC P W0 K0 (vN (Instr.loadAt t v)) g H w r:=by
 unfold sB at h
 split at h
 ·rename_i e s' n' cs hτ
  split at h
  ·rename_i hn
   subst hn
   split at h
   ·rename_i x hl
    cases h
    obtain⟨b,cur,vs,rest,rfl,hb,hheap,hcur,hr,h1⟩:=yH hh hτ hx
    have hc:∀ (j:Nat) u,vs[j]? = some u→w.cell? ⟨b,0+j,none⟩=some u:=fun j u hj=>by
     have hlt:=(List.getElem?_eq_some_iff.1 hj).1
     have:cur[j]? = some u:=by rw[← Array.getElem?_toList,hcur,List.getElem?_append_left hlt];exact hj
     rw[Nat.zero_add]
     simp[World.cell?,hheap,this]
    obtain⟨u,hrun,hu⟩:=iM hc hr h1 hl
    rw[Nat.zero_add] at hrun
    exact bC.same hh (v:=u) (by rw[bS,hrun];rfl) hu
   ·cases h
  ·cases h
 ·cases h
def nA (P:Program) (t:TypeId) (H:Hp) (τ n off:Nat) (x:SV):Option Res :=
 match H τ with
 | some (.mrow e s n' cs)=>match TI P t with
  | some i=>match x.cells with
   | some ys=>if n' = n∧ys.length=i.size∧off+ys.length≤cs.length then some ⟨.c .any,some (τ,.mrow e s n (eG cs off ys)),[τ],false⟩ else none
   | none=>none
  | none=>none
 | _=>none
theorem aD7 {α:Type} (cs ys:List α) (off:Nat) (h:off+ys.length≤cs.length):(eG cs off ys).length=cs.length:=by
 simp[eG];omega
theorem aQp {P:Program} {W0:Fr} {K0:aM} {g:G} {H:Hp} {w:World} {r:Res} {t:TypeId} {τ n off:Nat} {x:SV} {va v:Value} (hh:RelH W0 K0 g H w) (ha:bA g H (.mpt τ n off) va) (hx:bD g H x v) (h:nA P t H τ n off x=some r) :
  bC P W0 K0 (do Instr.storeAt t va v;pure .skip) g H w r:=by
 unfold nA at h
 split at h
 ·rename_i e s' n' cs hτ
  split at h
  ·rename_i i hi
   split at h
   ·rename_i ys hys
    obtain⟨u,j,z,hu,hj,hz,rfl⟩:=kW hi
    split at h
    ·rename_i hcond
     obtain⟨rfl,hl1,hl2⟩:=hcond
     have hl1:ys.length=j.size:=hl1
     cases h
     obtain⟨b,cur,vs,rest,rfl,hb,hheap,hcur,hr,h1⟩:=yH hh hτ ha
     obtain⟨us,hvu,hru,h1u⟩:=SV.cells_rep hx hys
     have hul:=hru.1
     have hvl:=hr.1
     have hcl:cur.size=vs.length+rest.length:=by rw[← Array.length_toList,hcur,List.length_append]
     have hst:=run_storeCells_at P b off e us 0 cur w hheap (by omega) h1u
     simp only[Nat.add_zero] at hst
     have hnew:(cur.toList.take off++us++cur.toList.drop (off+us.length)).toArray.toList=eG vs off us++rest:=by
      simp only[List.toList_toArray,eG,hcur]
      rw[List.take_append_of_le_length (by omega),List.drop_append_of_le_length (by omega)]
      simp
     obtain⟨h2,h3⟩:=hh.mwr (cs':=eG cs off ys) hτ hb hheap (aD7 cs ys off hl2) hnew (by rw[← Array.length_toList,hnew,List.length_append,aD7 vs us off (by omega),hcl]) (uY hr hru hl2) (uX h1 h1u)
     refine⟨_,undef,_,_,?_,.inr ⟨rfl,rfl⟩,trivial,h2,h3⟩
     unfold Instr.storeAt Instr.sureAddr storeVar
     simp only[Sem.run_bind,Sem.run_pure,Result.andThen_ok,cC hj,hvu]
     rw[if_neg (by simp;omega)]
     simp[hst]
    ·cases h
   ·cases h
  ·cases h
 ·cases h
def aC3 (P:Program) (t:TypeId) (H:Hp) (τ n:Nat):Option Res :=
 match cZ P t with
 | some (_,sz,_,_)=>match H τ with
  | some (.mrow _ s' n' cs)=>if s' = sz∧n' = n then some ⟨.c (.d (.val (.int .i64 (cs.length / sz:Nat)))),none,[τ],false⟩ else none
  | _=>none
 | none=>none
theorem aWx {P:Program} {W0:Fr} {K0:aM} {g:G} {H:Hp} {w:World} {r:Res} {t ty:TypeId} {τ n:Nat} {v:Value} (hh:RelH W0 K0 g H w) (hx:bA g H (.mt τ n) v) (h:aC3 P t H τ n=some r) :
  bC P W0 K0 (vN (Builtin.len_ #[t] ty #[v])) g H w r:=by
 unfold aC3 at h
 split at h
 ·rename_i e s bb zs hes
  obtain⟨hu,_⟩:=cQ hes
  split at h
  ·rename_i e' s' n' cs hτ
   split at h
   ·rename_i hc
    obtain⟨rfl,rfl⟩:=hc
    cases h
    obtain⟨hs0,_,_⟩:=hh.holds τ _ hτ
    obtain⟨_,e2,s2,n2,c2,h2,_,h4⟩:=hx
    rw[hτ] at h2;cases h2
    rcases h4 rfl with ⟨b,hb,rfl⟩|⟨_,rfl,_,rfl⟩
    ·exact bC.same hh (v:=.int .i64 (cs.length / s' : Nat)) (by rw[bS];simp[Builtin.len_,run_underlying hu,goInt]) (Rep.val _)
    ·exact bC.same hh (v:=.int .i64 (([]:List CV).length / s' : Nat)) (by rw[bS];simp[Builtin.len_,run_underlying hu,goInt]) (Rep.val _)
   ·cases h
  ·cases h
 ·cases h
def aC0 (P:Program) (t:TypeId) (H:Hp) (τ n:Nat) (y:SV):Option (Res × Nat) :=
 match cZ P t with
 | some (e,sz,bb,zs)=>match H τ with
  | some (.mrow e' s' n' cs)=>if e' = e∧s' = sz∧n' = n∧zs.length=sz∧0<bb then match y with
    | .c cy=>match cy.lstOf sz with
     | some ys=>some (⟨.c (.mt τ (n+1)),some (τ,.mrow e sz (n+1) (cs++ys.flatten.map .d)),[τ],false⟩,(cs.length+ys.length)*bb)
     | none=>none
    | _=>none
   else none
  | _=>none
 | none=>none
theorem aWu {P:Program} {W0:Fr} {K0:aM} {g:G} {H:Hp} {w:World} {r:Res} {t ty:TypeId} {τ n tot:Nat} {y:SV} {v1 v2:Value} (hh:RelH W0 K0 g H w) (hx:bA g H (.mt τ n) v1) (hy:bD g H y v2) (h:aC0 P t H τ n y=some (r,tot)) (htot:tot≤140737488355328) :
  bC P W0 K0 (vN (Builtin.append_ #[t,t] ty #[v1,v2])) g H w r:=by
 unfold aC0 at h
 split at h
 ·rename_i e sz bb zs hes
  split at h
  ·rename_i e' s' n' cs hτ
   split at h
   ·rename_i hc0
    obtain⟨rfl,rfl,rfl,hzs,hbp⟩:=hc0
    split at h
    ·rename_i cy
     split at h
     ·rename_i ys hys
      simp only[Option.some.injEq,Prod.mk.injEq] at h
      obtain⟨rfl,rfl⟩:=h
      have hry:=CV.lstOf_rep hy hys
      obtain⟨hu,j,z,u,hj,hz,hs,hby,hzz,_⟩:=cQ hes
      subst hs
      obtain⟨a2,c2,us,rfl,hs2,hc2,hr2,h12,hk2⟩:=hry.inv
      have hl2:us.length=ys.length*j.size:=by rw[← hr2.1,cR hs2]
      have hr2c:bJ g H (ys.flatten.map CV.d) us:=hr2.cs H
      have hmod0:∀ c:List CV,c.length % j.size=0→(c++ys.flatten.map CV.d).length % j.size=0:=fun c hc=>by
       rw[List.length_append,List.length_map,cR hs2,Nat.add_mul_mod_self_right];exact hc
      obtain⟨hs0,hmod,hcase⟩:=hh.holds τ _ hτ
      have hxx:=hx
      obtain⟨_,e2,s2,n2,cs2,hrow2,_,hx2⟩:=hx
      rw[hτ] at hrow2
      cases hrow2
      by_cases hy0:ys=[]
      ·subst hy0
       obtain⟨h5,h6⟩:=hh.mbump hτ (n' + 1) (Nat.lt_succ_self n')
       have hrun:∃ a m c,v1 = .slice a m c∧m≤c:=by
        rcases hx2 rfl with ⟨b,hb,rfl⟩|⟨_,_,_,rfl⟩
        ·refine⟨_,_,_,rfl,?_⟩
         rcases hcase with ⟨hb2,_⟩|⟨b2,cur,vs,rest,hb2,hheap,hcur,hcsz,hr,h1,hkn⟩
         ·rw[hb] at hb2;cases hb2
         ·have h7:cs.length≤g.cap τ*j.size:=by rw[← hcsz,← Array.length_toList,hcur,List.length_append,hr.1];omega
          exact Nat.le_trans (Nat.div_le_div_right h7) (by rw[Nat.mul_div_cancel _ hs0];exact Nat.le_refl _)
        ·exact⟨_,_,_,rfl,Nat.le_refl _⟩
       obtain⟨a,m,c,rfl,hmc⟩:=hrun
       refine⟨_,.slice a m c,w,g,by rw[bS,show ([]:List (List D)).length=0 from rfl,lO hu hj a a2 m c c2 hmc];rfl,.inl rfl,?_,?_,?_⟩
       ·simp only[sX,List.flatten_nil,List.map_nil,List.append_nil];exact aWh hτ (n' + 1) hxx
       ·simp only[sX,List.flatten_nil,List.map_nil,List.append_nil];exact h5
       ·simp only[sX,List.flatten_nil,List.map_nil,List.append_nil];exact h6
      have hm:0<ys.length:=by
       rcases Nat.eq_zero_or_pos ys.length with h0|h0
       ·exact absurd (List.eq_nil_of_length_eq_zero h0) hy0
       ·exact h0
      obtain⟨b2,o2,rfl,hkk2⟩:=hk2 hy0
      have hnews:∀ (i:Nat) v,us[i]? = some v→w.cell? ((⟨b2,o2,none⟩:Addr).add i)=some v:=fun i v hi=>by rw[Addr.add_lit];exact hh.kw _ _ _ (hkk2 i v hi)
      have hz2:z.cells.size=j.size:=by rw[← hzs,hzz];simp
      have hsub:cs.length+ys.length≤(cs.length+ys.length)*bb:=Nat.le_mul_of_pos_right _ hbp
      rcases hcase with ⟨hb,hcs⟩|⟨b,cur,vs,rest,hb,hheap,hcur,hcsz,hr,h1,hkn⟩
      ·subst hcs
       rcases hx2 rfl with ⟨b,hb2,_⟩|⟨_,_,a1,hv⟩
       ·rw[hb] at hb2;cases hb2
       subst hv
       have hrun:(Builtin.append_ #[t,t] ty #[.slice a1 0 0,.slice (some ⟨b2,o2,none⟩) ys.length c2]).run P w = .ok (.slice (some ⟨w.heap.size,0,none⟩) ys.length (grownCap w ys.length 0 e')) ((w.drew).alloc (.cells (us.toArray++Builtin.zeroCells z.cells (grownCap w ys.length 0 e' - ys.length)) e')):=by
        cases a1 with
        | none=>exact run_append_nil (P:=P) w t ty e' j z hu hj hz ⟨b2,o2,none⟩ ys.length c2 us hl2 hnews hm (by simp at hsub htot;omega) (by rw[hby];simp at htot;omega)
        | some b =>
         have:=run_append_grow (P:=P) w t ty e' j z hu hj hz b 0 0 [] (by simp) (by intro i v hi;simp at hi) ⟨b2,o2,none⟩ ys.length c2 us hl2 hnews (by omega) (by omega) (growslice_fits (by simp at hsub htot;omega) (by rw[hby];simpa using htot))
         simp only[Nat.zero_add] at this
         simpa using this
       have hge:=grownCap_ge w ys.length 0 e'
       obtain⟨h5,h6⟩:=RelH.mnew (cs':=ys.flatten.map CV.d) (cp:=grownCap w ys.length 0 e') (vs:=us) (cur:=us.toArray++Builtin.zeroCells z.cells (grownCap w ys.length 0 e' - ys.length)) (rest:=(Builtin.zeroCells z.cells (grownCap w ys.length 0 e' - ys.length)).toList) hh.drew hτ (Nat.lt_succ_self n') hs0 (by simpa using hmod0 [] (Nat.zero_mod _)) (by simp) (by
        simp only[Array.size_append,List.size_toArray,size_zeroCells,hz2,hl2,← Nat.add_mul]
        congr 1;omega) hr2c h12
       refine⟨_,_,_,_,by rw[bS,hrun];rfl,.inl rfl,?_,by simp only[sX,List.nil_append];exact h5,by simp only[sX,List.nil_append];exact h6⟩
       simp only[sX,List.nil_append]
       refine⟨⟨_,_,_,rfl⟩,e',_,n' + 1,_,aB _ _ _,Nat.le_refl _,fun _=>.inl ⟨_,aB _ _ _,?_⟩⟩
       show _=Value.slice _ _ (upd _ _ _ _)
       rw[aB,List.length_map,cR hs2,Nat.mul_div_cancel _ hs0];rfl
      ·have hl1:vs.length=cs.length:=hr.1.symm
       obtain⟨q,hq⟩:∃ q,cs.length=q*j.size:=⟨cs.length / j.size,(Nat.div_mul_cancel (Nat.dvd_of_mod_eq_zero hmod)).symm⟩
       have hqd:cs.length / j.size=q:=by rw[hq,Nat.mul_div_cancel _ hs0]
       have hqle:q≤cs.length:=by rw[hq];exact Nat.le_mul_of_pos_right _ hs0
       obtain⟨b3,hb2,hv⟩:∃ b2,g.β τ=some b2∧v1 = .slice (some ⟨b2,0,none⟩) (cs.length / j.size) (g.cap τ):=by
        rcases hx2 rfl with h|⟨hb2,_⟩
        ·exact h
        ·rw[hb] at hb2;cases hb2
       rw[hb] at hb2;cases hb2
       rw[hqd] at hv
       subst hv
       have hcurl:cur.size=vs.length+rest.length:=by rw[← Array.length_toList,hcur,List.length_append]
       have hlen:(cs++ys.flatten.map CV.d).length=(q+ys.length)*j.size:=by rw[List.length_append,List.length_map,cR hs2,hq,Nat.add_mul]
       by_cases hroom:q+ys.length≤g.cap τ
       ·have hfit:q*j.size+us.length≤cur.size:=by rw[hl2,hcsz,← Nat.add_mul];exact Nat.mul_le_mul_right _ hroom
        have hrun:=run_append_room (P:=P) w t ty e' j hu hj b q (g.cap τ) cur hheap ⟨b2,o2,none⟩ ys.length c2 us hl2 hnews h12 hroom hfit
        have htk:cur.toList.take (q*j.size)=vs:=by rw[hcur,← hq,← hl1];exact List.take_left' rfl
        obtain⟨h5,h6⟩:=RelH.mset (cs':=cs++ys.flatten.map CV.d) (vs:=vs++us) (cur':=(cur.toList.take (q*j.size)++us++cur.toList.drop (q*j.size+us.length)).toArray) (rest:=cur.toList.drop (q*j.size+us.length)) hh hτ hb hheap (Nat.lt_succ_self n') (hmod0 cs hmod) (by rw[htk]) (by simp only[List.size_toArray,List.length_append,List.length_take,List.length_drop,Array.length_toList];omega) (hr.app hr2c) (fun x hx=>(List.mem_append.1 hx).elim (h1 x) (h12 x))
        refine⟨_,_,_,_,by rw[bS,hrun];rfl,.inl rfl,?_,h5,h6⟩
        refine⟨⟨_,_,_,rfl⟩,e',_,n' + 1,_,aB _ _ _,Nat.le_refl _,fun _=>.inl ⟨_,aB _ _ _,?_⟩⟩
        show _=Value.slice _ _ (upd _ _ _ _)
        rw[aB,hlen,Nat.mul_div_cancel _ hs0]
       ·have hge:=grownCap_ge w (q+ys.length) (g.cap τ) e'
        have hrun:=run_append_grow (P:=P) w t ty e' j z hu hj hz ⟨b,0,none⟩ q (g.cap τ) vs (by rw[hl1];exact hq) (by
         intro i v hi
         have hlt:=(List.getElem?_eq_some_iff.1 hi).1
         rw[Addr.add_lit,Nat.zero_add]
         have:cur[i]? = some v:=by rw[← Array.getElem?_toList,hcur,List.getElem?_append_left hlt];exact hi
         simp[World.cell?,hheap,this]) ⟨b2,o2,none⟩ ys.length c2 us hl2 hnews (by omega) (by omega) (growslice_fits (by omega) (by rw[hby];exact Nat.le_trans (Nat.mul_le_mul_right _ (by omega)) htot))
        obtain⟨h5,h6⟩:=RelH.mnew (cs':=cs++ys.flatten.map CV.d) (cp:=grownCap w (q+ys.length) (g.cap τ) e') (vs:=vs++us) (cur:=vs.toArray++us.toArray++Builtin.zeroCells z.cells (grownCap w (q+ys.length) (g.cap τ) e' - (q+ys.length))) (rest:=(Builtin.zeroCells z.cells (grownCap w (q+ys.length) (g.cap τ) e' - (q+ys.length))).toList) hh.drew hτ (Nat.lt_succ_self n') hs0 (hmod0 cs hmod) (by simp) (by
         simp only[Array.size_append,List.size_toArray,size_zeroCells,hz2,hl1,hl2,hq,← Nat.add_mul]
         congr 1;omega) (hr.app hr2c) (fun x hx=>(List.mem_append.1 hx).elim (h1 x) (h12 x))
        refine⟨_,_,_,_,by rw[bS,hrun];rfl,.inl rfl,?_,h5,h6⟩
        refine⟨⟨_,_,_,rfl⟩,e',_,n' + 1,_,aB _ _ _,Nat.le_refl _,fun _=>.inl ⟨_,aB _ _ _,?_⟩⟩
        show _=Value.slice _ _ (upd _ _ _ _)
        rw[aB,hlen,Nat.mul_div_cancel _ hs0];rfl
     ·cases h
    ·cases h
   ·cases h
  ·cases h
 ·cases h
/-! what a call that only looks is handed: boxes and rows of one's own,as they are now -/
def Kw (w:World):aM:=fun b o=>w.cell? ⟨b,o,none⟩
def CV.snap (H:Hp):Nat→CV→Option D
 | 0,x=>x.toD0
 | k+1,.own id off=>match H id with
  | some (.cells cs)=>match bR (CV.snap H k) cs with
   | some ds=>some (.ptr ds off)
   | none=>none
  | some (.froz ds)=>some (.ptr ds off)
  | _=>none
 | k+1,.mt τ n=>match H τ with
  | some (.mrow _ sz n' cs)=>if n' = n then match bR (CV.snap H k) cs with
    | some ds=>some (.lst sz (eK sz (cs.length / sz) ds))
    | none=>none
   else none
  | _=>none
 | _+1,x=>x.toD0
def SV.snap (H:Hp):SV→Option D
 | .c x=>x.snap H 3
 | .agg cs=>match bR (CV.snap H 2) cs with
  | some ds=>some (.agg ds)
  | none=>none
def CV.snapFp (H:Hp):Nat→CV→List Nat
 | 0,_=>[]
 | k+1,.own id _=>id::(match H id with
  | some (.cells cs)=>cs.flatMap (CV.snapFp H k)
  | _=>[])
 | k+1,.mt τ _=>τ::(match H τ with
  | some (.mrow _ _ _ cs)=>cs.flatMap (CV.snapFp H k)
  | _=>[])
 | _+1,_=>[]
def SV.snapFp (H:Hp):SV→List Nat
 | .c x=>x.snapFp H 3
 | .agg cs=>cs.flatMap (CV.snapFp H 2)
theorem CV.snap_rep {W0:Fr} {K0:aM} {g:G} {H:Hp} {w:World} (hh:RelH W0 K0 g H w):∀ (k:Nat) {x:CV} {v:Value} {z:D},bA g H x v→x.snap H k=some z→Rep (Kw w) z v
 | 0,x,v,z,h,hd=>(CV.toD0_rep h hd).mono hh.kw
 | k+1,x,v,z,h,hd=>by
  have ih:∀ {cs:List CV} {vs:List Value} {ds:List D},bJ g H cs vs→bR (CV.snap H k) cs=some ds→fH (Kw w) ds vs:=fun {cs vs ds} hr hm=>by
   obtain⟨h1,h2⟩:=cS hm
   refine⟨h1.trans hr.1,fun j y u hy hu=>?_⟩
   obtain⟨c,hc,hcy⟩:=h2 j y hy
   exact CV.snap_rep hh k (hr.2 j c u hc hu) hcy
  cases x with
  | own id off =>
   simp only[CV.snap] at hd
   split at hd
   ·rename_i cs hcs
    split at hd
    ·rename_i ds hds
     cases hd
     obtain⟨b,hb,rfl,_⟩:=h
     obtain⟨b',vs,t,hb',hheap,hr,h1,hn⟩:=hh.holds id _ hcs
     rw[hb] at hb';cases hb'
     have hL:=ih hr hds
     have:=Rep.ptr (K:=Kw w) (b:=b) (o:=0) (off:=off) hL.1 hL.2 h1 (fun j u hj=>by rw[Nat.zero_add];exact (iZ hheap j).trans hj)
     simpa using this
    ·cases hd
   ·rename_i ds hds
    cases hd
    obtain⟨b,hb,rfl,_⟩:=h
    obtain⟨b',vs,hb',hr,h1,hk⟩:=hh.holds id _ hds
    rw[hb] at hb';cases hb'
    have:=Rep.ptr (K:=g.K) (b:=b) (o:=0) (off:=off) hr.1 hr.2 h1 (fun j v hj=>by rw[Nat.zero_add];exact hk j v hj)
    have:=this.mono (K':=Kw w) hh.kw
    simpa using this
   ·cases hd
  | mt τ n =>
   simp only[CV.snap] at hd
   split at hd
   ·rename_i e sz n' cs hτ
    split at hd
    ·rename_i hn
     subst hn
     split at hd
     ·rename_i ds hds
      cases hd
      obtain⟨hs0,hmod,hcase⟩:=hh.holds τ _ hτ
      obtain⟨_,e2,s2,n2,c2,h2,_,h4⟩:=h
      rw[hτ] at h2;cases h2
      have hdl:ds.length=cs.length:=(cS hds).1
      obtain⟨f1,f2,f3⟩:=mS sz (cs.length / sz) ds (by rw[hdl,Nat.div_mul_cancel (Nat.dvd_of_mod_eq_zero hmod)])
      rcases hcase with ⟨hb,hcs⟩|⟨b,cur,vs,rest,hb,hheap,hcur,hcsz,hr,h1,hkn⟩
      ·subst hcs
       rcases h4 rfl with ⟨b,hb2,_⟩|⟨_,_,_,rfl⟩
       ·rw[hb] at hb2;cases hb2
       ·have hz:eK sz (([]:List CV).length / sz) ds=[]:=List.eq_nil_of_length_eq_zero (by rw[f2];simp)
        rw[hz];exact Rep.lst (vs:=[]) (xs:=[]) (c:=0) (by simp) (by simp) rfl (by simp) (by simp) (by simp)
      ·rcases h4 rfl with ⟨b2,hb2,rfl⟩|⟨hb2,_⟩
       ·rw[hb] at hb2;cases hb2
        have hL:=ih hr hds
        have hcap:cs.length / sz≤g.cap τ:=by
         have h7:cs.length≤g.cap τ*sz:=by rw[← hcsz,← Array.length_toList,hcur,List.length_append,hr.1];omega
         exact Nat.le_trans (Nat.div_le_div_right h7) (by rw[Nat.mul_div_cancel _ hs0];exact Nat.le_refl _)
        have:=Rep.lst (K:=Kw w) (sz:=sz) (xs:=eK sz (cs.length / sz) ds) (vs:=vs) (a:=some ⟨b,0,none⟩) (c:=g.cap τ) f3 (by rw[f2];exact hcap) (by rw[f1];exact hL.1) (by rw[f1];exact hL.2) h1
         (fun _=>⟨b,0,rfl,fun j u hj=>by
          rw[Nat.zero_add]
          have hlt:=(List.getElem?_eq_some_iff.1 hj).1
          have h8:cur[j]? = some u:=by rw[← Array.getElem?_toList,hcur,List.getElem?_append_left hlt];exact hj
          show w.cell? ⟨b,j,none⟩=some u
          simp[World.cell?,hheap,h8]⟩)
        rw[f2] at this
        exact this
       ·rw[hb] at hb2;cases hb2
     ·cases hd
    ·cases hd
   ·cases hd
  | _=>exact (CV.toD0_rep h hd).mono hh.kw
theorem SV.snap_rep {W0:Fr} {K0:aM} {g:G} {H:Hp} {w:World} (hh:RelH W0 K0 g H w) {x:SV} {v:Value} {d:D} (h:bD g H x v) (hd:x.snap H=some d):Rep (Kw w) d v:=by
 cases x with
 | c x=>exact CV.snap_rep hh 3 h hd
 | agg cs =>
  simp only[SV.snap] at hd
  split at hd
  ·rename_i ds hds
   cases hd
   obtain⟨vs,rfl,hr,h1⟩:=h
   obtain⟨g1,g2⟩:=cS hds
   refine .agg (g1.trans hr.1) (fun j y u hy hu=>?_) h1
   obtain⟨c,hc,hcy⟩:=g2 j y hy
   exact CV.snap_rep hh 2 (hr.2 j c u hc hu) hcy
  ·cases hd
theorem sC {α β:Type} {f f' : α→Option β}:∀ {xs:List α},(∀ x ∈ xs,f x=f' x)→bR f xs=bR f' xs
 | [],_=>rfl
 | x::xs,h=>by simp only[bR];rw[h x (by simp),sC (fun y hy=>h y (by simp[hy]))]
theorem CV.snap_local {H H' : Hp}:∀ (k:Nat) {x:CV},(∀ id ∈ x.snapFp H k,H' id=H id)→x.snap H' k=x.snap H k∧x.snapFp H' k=x.snapFp H k
 | 0,x,_=>⟨rfl,rfl⟩
 | k+1,x,h=>by
  have ih:∀ {cs:List CV},(∀ id ∈ cs.flatMap (CV.snapFp H k),H' id=H id)→bR (CV.snap H' k) cs=bR (CV.snap H k) cs∧cs.flatMap (CV.snapFp H' k)=cs.flatMap (CV.snapFp H k):=fun {cs} hc =>
   ⟨sC fun x hx=>(CV.snap_local k (fun id hid=>hc id (List.mem_flatMap.2 ⟨x,hx,hid⟩))).1,by
    rw[List.flatMap_def,List.flatMap_def,List.map_congr_left (fun x hx=>(CV.snap_local k (fun id hid=>hc id (List.mem_flatMap.2 ⟨x,hx,hid⟩))).2)]⟩
  cases x with
  | own id off =>
   simp only[CV.snapFp] at h
   have h0:=h id (by simp)
   simp only[CV.snap,CV.snapFp,h0]
   cases hi:H id with
   | none=>exact⟨rfl,rfl⟩
   | some he =>
    rw[hi] at h
    cases he with
    | cells cs =>
     have:=ih (cs:=cs) (fun i hi=>h i (List.mem_cons_of_mem _ hi))
     simp only[this.1,this.2];exact⟨trivial,trivial⟩
    | _=>exact⟨rfl,rfl⟩
  | mt τ n =>
   simp only[CV.snapFp] at h
   have h0:=h τ (by simp)
   simp only[CV.snap,CV.snapFp,h0]
   cases hi:H τ with
   | none=>exact⟨rfl,rfl⟩
   | some he =>
    rw[hi] at h
    cases he with
    | mrow e sz n' cs =>
     have:=ih (cs:=cs) (fun i hi=>h i (List.mem_cons_of_mem _ hi))
     simp only[this.1,this.2];exact⟨trivial,trivial⟩
    | _=>exact⟨rfl,rfl⟩
  | _=>exact⟨rfl,rfl⟩
theorem SV.snap_local {H H' : Hp} {x:SV} (h:∀ id ∈ x.snapFp H,H' id=H id):x.snap H' = x.snap H∧x.snapFp H' = x.snapFp H:=by
 cases x with
 | c x=>exact CV.snap_local 3 h
 | agg cs =>
  have h1:bR (CV.snap H' 2) cs=bR (CV.snap H 2) cs:=sC fun x hx=>(CV.snap_local 2 (fun id hid=>h id (List.mem_flatMap.2 ⟨x,hx,hid⟩))).1
  have h2:cs.flatMap (CV.snapFp H' 2)=cs.flatMap (CV.snapFp H 2):=by
   rw[List.flatMap_def,List.flatMap_def,List.map_congr_left (fun x hx=>(CV.snap_local 2 (fun id hid=>h id (List.mem_flatMap.2 ⟨x,hx,hid⟩))).2)]
  exact⟨by simp only[SV.snap,h1],h2⟩
def D.isV:D→Bool
 | .val _=>true
 | _=>false
def D.free:D→Bool
 | .val _=>true
 | .tup rs=>rs.all D.isV
 | _=>false
theorem Rep.isV {K K2:aM} {x:D} {v:Value} (h:Rep K x v) (hf:x.isV=true):Rep K2 x v:=by
 cases h<;>first|exact Rep.val _|simp[D.isV] at hf
theorem Rep.free {K K2:aM} {x:D} {v:Value} (h:Rep K x v) (hf:x.free=true):Rep K2 x v:=by
 cases h with
 | val v=>exact Rep.val _
 | tup hl hv =>
  refine .tup hl (fun j y u hy hu=>(hv j y u hy hu).isV ?_)
  simp only[D.free,List.all_eq_true] at hf
  exact hf y (List.mem_of_getElem? hy)
 | _=>simp[D.free] at hf
end Go.Proofs.YtpklhnpchhaccaaGreatDoor
