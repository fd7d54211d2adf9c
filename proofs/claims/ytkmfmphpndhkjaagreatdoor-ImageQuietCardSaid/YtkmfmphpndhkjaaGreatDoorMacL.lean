/- The abstract machine (AbsG, AbsH, AbsI, AbsJ, AbsK, AbsL). -/
import Derived.Test.YtkmfmphpndhkjaaGreatDoorMacA
import Derived.Tactics
import Derived.Scope
namespace Go.Proofs.YtkmfmphpndhkjaaGreatDoor
open Go Go.RowKit
set_option linter.unusedVariables false
set_option linter.unusedSimpArgs false
def iT (P:Program) (f:FuncId):Bool :=
 match P.funcs[f]? with
 | some fn => !(fn.name == "runtime.NumGoroutine") && fn.body.isSome
 | none=>false
def aJ (P:Program) (f:FuncId) (args:List D) (r:D):Prop:=iT P f=true∧∀ (K:aW) (w:World) (vs:List Value),jO uJ K→KW K w→gK K args vs →
 Calls P f vs.toArray w fun e w'=>∃ v K',e = .returned v∧Ext K K' w.heap.size∧KW K' w'∧Rep K' r v∧Below w.heap.size w w'
def pD (P:Program) (f:FuncId) (args:List D) (e sz:Nat) (xs:List (List D)):Prop:=iT P f=true∧∀ (K:aW) (w:World) (vs:List Value),jO uJ K→KW K w→gK K args vs →
 Calls P f vs.toArray w fun en w'=>∃ v K',en = .returned v∧Ext K K' w.heap.size∧KW K' w'∧Rep K' (.lst sz xs) v∧yW K' w.heap.size w' e sz xs.length v∧Below w.heap.size w w'
theorem pD.fun {P:Program} {f:FuncId} {args:List D} {e sz:Nat} {xs:List (List D)} (h:pD P f args e sz xs):aJ P f args (.lst sz xs) :=
 ⟨h.1,fun K w vs hB hk hL=>(h.2 K w vs hB hk hL).mono (fun en w' ⟨v,K',h1,h2,h3,h4,_,h5⟩=>⟨v,K',h1,h2,h3,h4,h5⟩)⟩
/-! comparisons with nil -/
def eV:TypeDesc→SV→SV→Bool
 | .interface _,.c (.d (.iface _ _)),.c (.d (.val .nilIface))=>true
 | .interface _,.c (.d (.val .nilIface)),.c (.d (.iface _ _))=>true
 | .pointer _,.c (.own _ _),.c (.d (.val (.pointer none)))=>true
 | .pointer _,.c (.d (.ptr _ _)),.c (.d (.val (.pointer none)))=>true
 | .func _ _ _,.c (.d (.fn _ _)),.c (.d (.val .nilFunc))=>true
 | .slice _,.c (.d (.lst _ (_::_))),.c (.d (.val (.slice none 0 0)))=>true
 | _,_,_=>false
def gG (P:Program) (op:BinOp) (t:TypeId) (x y:Operand) (sx sy:SV):Option Res :=
 match sx.exact,sy.exact with
 | some vx,some vy=>sc P (do eqGuard op t x y vx vy;binOp op t vx vy)
 | _,_=>match P.underlying t with
  | some u=>if eV u sx sy then match op with
    | .eql=>some (Res.pure (.c (.d (.val (.bool false)))))
    | .neq=>some (Res.pure (.c (.d (.val (.bool true)))))
    | _=>none
   else none
  | none=>none
theorem aUu {P:Program} {W0:Fr} {K0:aW} {g:G} {H:Hp} {w:World} {r:Res} {op:BinOp} {t:TypeId} {x y:Operand} {sx sy:SV} {vx vy:Value} (hh:RelH W0 K0 g H w) (hx:bH g H sx vx) (hy:bH g H sy vy) (h:gG P op t x y sx sy=some r) :
  bD P W0 K0 (vN (do eqGuard op t x y vx vy;binOp op t vx vy)) g H w r:=by
 unfold gG at h
 split at h
 ·rename_i ux uy hux huy
  rw[SV.exact_rep hx hux,SV.exact_rep hy huy]
  exact aB3 hh h
 ·split at h
  ·rename_i u hu
   split at h
   ·rename_i hn
    have key:(Op.equal t vx vy).run P w = .ok false w∧(∀ a,(eqGuard .eql t x y vx vy).run P w = .ok a w∨True)∧((∃ t v,vx = .iface t v∧vy = .nilIface)∨(∃ t v,vx = .nilIface∧vy = .iface t v)∨(∃ a,vx = .pointer (some a)∧vy = .pointer none)∨(∃ f a b,vx = .func f a b∧vy = .nilFunc)∨(∃ a n c,vx = .slice (some a) n c∧vy = .slice none 0 0)):=by
     unfold eV at hn
     split at hn
     ·have hx:Rep g.K (.iface _ _) vx:=hx
      have hy:Rep g.K (.val .nilIface) vy:=hy
      cases hx;cases hy
      refine⟨?_,fun _=>.inr trivial,.inl ⟨_,_,rfl,rfl⟩⟩
      unfold Op.equal;rw[show Op.maxDepth=9999+1 from rfl];unfold Op.equalIn
      simp[run_underlying hu]
     ·have hx:Rep g.K (.val .nilIface) vx:=hx
      have hy:Rep g.K (.iface _ _) vy:=hy
      cases hx;cases hy
      refine⟨?_,fun _=>.inr trivial,.inr (.inl ⟨_,_,rfl,rfl⟩)⟩
      unfold Op.equal;rw[show Op.maxDepth=9999+1 from rfl];unfold Op.equalIn
      simp[run_underlying hu]
     ·obtain⟨b,hb,rfl,_⟩:=hx
      have hy:Rep g.K (.val (.pointer none)) vy:=hy
      cases hy
      refine⟨?_,fun _=>.inr trivial,.inr (.inr (.inl ⟨_,rfl,rfl⟩))⟩
      unfold Op.equal;rw[show Op.maxDepth=9999+1 from rfl];unfold Op.equalIn
      simp[run_underlying hu]
     ·have hx:Rep g.K (.ptr _ _) vx:=hx
      have hy:Rep g.K (.val (.pointer none)) vy:=hy
      cases hx;cases hy
      refine⟨?_,fun _=>.inr trivial,.inr (.inr (.inl ⟨_,rfl,rfl⟩))⟩
      unfold Op.equal;rw[show Op.maxDepth=9999+1 from rfl];unfold Op.equalIn
      simp[run_underlying hu]
     ·have hx:Rep g.K (.fn _ _) vx:=hx
      have hy:Rep g.K (.val .nilFunc) vy:=hy
      cases hx;cases hy
      refine⟨?_,fun _=>.inr trivial,.inr (.inr (.inr (.inl ⟨_,_,_,rfl,rfl⟩)))⟩
      unfold Op.equal;rw[show Op.maxDepth=9999+1 from rfl];unfold Op.equalIn
      simp[run_underlying hu]
     ·have hx:Rep g.K (.lst _ (_::_)) vx:=hx
      have hy:Rep g.K (.val (.slice none 0 0)) vy:=hy
      obtain⟨a,c,us,rfl,_,_,_,_,hk⟩:=hx.inv
      obtain⟨b,off,rfl,_⟩:=hk (by simp)
      cases hy
      refine⟨?_,fun _=>.inr trivial,.inr (.inr (.inr (.inr ⟨_,_,_,rfl,rfl⟩)))⟩
      unfold Op.equal;rw[show Op.maxDepth=9999+1 from rfl];unfold Op.equalIn
      simp[run_underlying hu]
     ·cases hn
    obtain⟨heq,_,hsh⟩:=key
    have hb1:binOp .eql t vx vy=(do pure (.bool (← Op.equal t vx vy))):=by
     rcases hsh with ⟨_,_,rfl,rfl⟩|⟨_,_,rfl,rfl⟩|⟨_,rfl,rfl⟩|⟨_,_,_,rfl,rfl⟩|⟨_,_,_,rfl,rfl⟩<;>rfl
    have hb2:binOp .neq t vx vy=(do pure (.bool (!(← Op.equal t vx vy)))):=by
     rcases hsh with ⟨_,_,rfl,rfl⟩|⟨_,_,rfl,rfl⟩|⟨_,rfl,rfl⟩|⟨_,_,_,rfl,rfl⟩|⟨_,_,_,rfl,rfl⟩<;>rfl
    have hg:∀ op,(eqGuard op t x y vx vy).run P w = .ok () w:=by
     intro op
     unfold eqGuard
     rcases hsh with ⟨_,_,rfl,rfl⟩|⟨_,_,rfl,rfl⟩|⟨_,rfl,rfl⟩|⟨_,_,_,rfl,rfl⟩|⟨_,_,_,rfl,rfl⟩<;>(split<;>rfl)
    split at h
    ·cases h
     exact bD.same hh (v:=.bool false) (by rw[bS,hb1];simp[hg,heq]) (Rep.val _)
    ·cases h
     exact bD.same hh (v:=.bool true) (by rw[bS,hb2];simp[hg,heq]) (Rep.val _)
    ·cases h
   ·cases h
  ·cases h
def dU:SV→Bool
 | .c (.own _ _)=>true
 | .c (.d (.ptr _ _))=>true
 | .c (.d (.iface _ _))=>true
 | .c (.d (.fn (.func _) _))=>true
 | _=>false
def bQ (P:Program) (op:Op) (ρ:Operand→SV) (H:Hp) (nx:Nat):Option Res :=
 match op with
 | .move x=>some (Res.pure (ρ x))
 | .assign x=>some (Res.pure (ρ x))
 | .pick c a b=>match (ρ c).exact with
  | some (.bool t)=>some (Res.pure (if t then ρ a else ρ b))
  | _=>none
 | .alloc t=>pE P H nx t
 | .box _ x=>aE2 H nx (ρ x)
 | .build t ps=>wK P t (ps.toList.map fun p=>(p.1,ρ p.2))
 | .buildSlice t len ps=>kH P t len (ps.toList.map fun p=>(p.1,ρ p.2))
 | .load t a=>match ρ a with
  | .c (.mpt τ n off)=>rJ P t H τ n off
  | s=>bW P t H s
 | .store t a x=>match ρ a with
  | .c (.mpt τ n off)=>nP P t H τ n off (ρ x)
  | s=>cF P t H s (ρ x)
 | .nilCheck x=>if dU (ρ x) then some (Res.pure (ρ x)) else none
 | .binOp op t x y _=>gG P op t x y (ρ x) (ρ y)
 | .unOp op _ x=>match (ρ x).exact with
  | some v=>sc P (Op.unary op v)
  | none=>none
 | .convert s d x=>match (ρ x).exact with
  | some v=>eZ P s d v
  | none=>eY P s d (ρ x)
 | .makeInterface t x=>eQ P t H (ρ x)
 | .makeFunc fn first caps=>cQ H fn (first.toList.map ρ) (caps.toList.map ρ)
 | .slice t x lo hi mx=>match asz P t with
  | some (n,s,_)=>pF n s (ρ x) (lo.map ρ) (hi.map ρ) (mx.map ρ)
  | none=>fC P t (ρ x) (lo.map ρ) (hi.map ρ) (mx.map ρ)
 | .fieldAddr s x f=>match ρ x with
  | .c (.mpt τ n off)=>aAm P s f H τ n off
  | y=>bX P s f y
 | .field t x f=>fB P t f (ρ x)
 | .indexAddr t x i=>match ρ x with
  | .c (.mt τ n)=>aAn P t H τ n (ρ i)
  | y=>lJ P t y (ρ i)
 | .index t x i=>match asz P t with
  | some _=>zH P t (ρ x) (ρ i)
  | none=>match (ρ x).exact,(ρ i).exact with
   | some v,some u=>sc P (Instr.index t v u)
   | _,_=>none
 | .extract x i=>cL (ρ x) i
 | .makeSlice t l c=>iB P H nx t (ρ l) (ρ c)
 | _=>none
theorem xL {g:G} {H:Hp} {ρ:Operand→SV} {a:Act}:∀ (ps:List (Nat × Operand)),(∀ p ∈ ps,bH g H (ρ p.2) (a.eval p.2))→qQ g H (ps.map fun p=>(p.1,ρ p.2)) (ps.map fun p=>(p.1,a.eval p.2))
 | [],_=>trivial
 | p::ps,h=>⟨rfl,h p (by simp),xL ps (fun q hq=>h q (by simp[hq]))⟩
theorem oR {g:G} {H:Hp} {ρ:Operand→SV} {a:Act} (ps:List Operand) (h:∀ p ∈ ps,bH g H (ρ p) (a.eval p)):jC g H (ps.map ρ) (ps.map a.eval) :=
 ⟨by simp,fun j x v hx hv=>by
  simp only[List.getElem?_map,Option.map_eq_some_iff] at hx hv
  obtain⟨p,hp,rfl⟩:=hx
  obtain⟨q,hq,rfl⟩:=hv
  rw[hp] at hq;cases hq
  exact h p (List.mem_of_getElem? hp)⟩
theorem oU {g:G} {H:Hp} {ρ:Operand→SV} {a:Act} (o:Option Operand) (h:∀ x,o=some x→bH g H (ρ x) (a.eval x)) :
  match o.map ρ,o.map a.eval with|none,none=>True|some x,some v=>bH g H x v|_,_=>False:=by
 cases o with
 | none=>trivial
 | some x=>exact h x rfl
theorem aMh {P:Program} {W0:Fr} {K0:aW} {o:Oper} {ρ:Operand→SV} {H:Hp} {nx:Nat} {r:Res} {g:G} {a:Act} {w:World} (hh:RelH W0 K0 g H w) (hρ:∀ x ∈ o.op.operands,bH g H (ρ x) (a.eval x)) (h:bQ P o.op ρ H nx=some r) :
  bD P W0 K0 (execOp a.eval o) g H w r:=by
 obtain⟨dst,op,type,pos,after,guard⟩:=o
 cases op<;>simp only[Op.operands] at hρ<;>simp only[bQ] at h<;>(try (cases h;done))<;>simp only[execOp]
 case move x=>cases h;exact bD.same hh rfl (hρ x (by simp))
 case assign x=>cases h;exact bD.same hh rfl (hρ x (by simp))
 case pick c x y =>
  split at h
  ·rename_i t ht
   cases h
   have hc:=SV.exact_rep (hρ c (by simp)) ht
   refine bD.same hh (v:=if t then a.eval x else a.eval y) (by simp[hc,asBool]) ?_
   cases t
   ·exact hρ y (by simp)
   ·exact hρ x (by simp)
  ·cases h
 case alloc t=>exact aPz hh h
 case box t x=>exact aUv hh (hρ x (by simp)) h
 case build t ps =>
  refine aQ0 hh ?_ h
  have:=xL (g:=g) (H:=H) (ρ:=ρ) (a:=a) ps.toList (fun p hp=>hρ p.2 (by simp;exact⟨p.1,by simpa using hp⟩))
  simpa using this
 case buildSlice t len ps =>
  refine aCh hh ?_ h
  have:=xL (g:=g) (H:=H) (ρ:=ρ) (a:=a) ps.toList (fun p hp=>hρ p.2 (by simp;exact⟨p.1,by simpa using hp⟩))
  simpa using this
 case load t x =>
  have hx:=hρ x (by simp)
  split at h
  ·rename_i τ n off hs;rw[hs] at hx;exact aQ4 hh hx h
  ·exact aT4 hh hx h
 case store t x y =>
  have hx:=hρ x (by simp)
  split at h
  ·rename_i τ n off hs;rw[hs] at hx;exact aNo hh hx (hρ y (by simp)) h
  ·exact aQ6 hh hx (hρ y (by simp)) h
 case nilCheck x =>
  split at h
  ·rename_i hp
   cases h
   have hx:=hρ x (by simp)
   refine bD.same hh (v:=a.eval x) ?_ hx
   generalize ρ x=s at hp hx
   generalize a.eval x=v at hx
   unfold dU at hp
   split at hp
   ·obtain⟨b,_,rfl,_⟩:=hx;rfl
   ·have hx:Rep g.K (.ptr _ _) v:=hx
    cases hx;rfl
   ·have hx:Rep g.K (.iface _ _) v:=hx
    cases hx;rfl
   ·have hx:Rep g.K (.fn _ _) v:=hx
    cases hx;rfl
   ·cases hp
  ·cases h
 case binOp op t x y yt=>exact aUu hh (hρ x (by simp)) (hρ y (by simp)) h
 case unOp op t x =>
  split at h
  ·rename_i v hv
   rw[SV.exact_rep (hρ x (by simp)) hv];exact aB3 hh h
  ·cases h
 case convert s d x =>
  split at h
  ·rename_i v hv
   rw[SV.exact_rep (hρ x (by simp)) hv];exact aQ2 hh h
  ·exact aQ1 hh (hρ x (by simp)) h
 case makeInterface t x=>exact aQ3 hh (hρ x (by simp)) h
 case makeFunc fn first caps =>
  have:=aIc (P:=P) hh (oR (a:=a) first.toList (fun p hp=>hρ p (by simp at hp;simp[hp]))) (oR (a:=a) caps.toList (fun p hp=>hρ p (by simp at hp;simp[hp]))) h
  rw[show (first.toList.map a.eval).toArray=first.map a.eval from by apply Array.ext';simp,show (caps.toList.map a.eval).toArray=caps.map a.eval from by apply Array.ext';simp] at this
  exact this
 case slice t x lo hi mx =>
  split at h
  ·rename_i ha
   exact aNp hh (hρ x (by simp)) (oU lo (fun y hy=>hρ y (by simp[hy]))) (oU hi (fun y hy=>hρ y (by simp[hy]))) (oU mx (fun y hy=>hρ y (by simp[hy]))) ha h
  exact aQ5 hh (hρ x (by simp)) (oU lo (fun y hy=>hρ y (by simp[hy]))) (oU hi (fun y hy=>hρ y (by simp[hy]))) (oU mx (fun y hy=>hρ y (by simp[hy]))) h
 case fieldAddr s x f =>
  have hx:=hρ x (by simp)
  split at h
  ·rename_i τ n off hs;rw[hs] at hx;exact aT6 hh hx h
  ·exact aCi hh hx h
 case field t x f=>exact aT9 hh (hρ x (by simp)) h
 case indexAddr t x i =>
  have hx:=hρ x (by simp)
  split at h
  ·rename_i τ n hs;rw[hs] at hx;exact aT7 hh hx (hρ i (by simp)) h
  ·exact aFf hh hx (hρ i (by simp)) h
 case index t x i =>
  split at h
  ·exact aT3 hh (hρ x (by simp)) (hρ i (by simp)) h
  split at h
  ·rename_i v u hv hu
   rw[SV.exact_rep (hρ x (by simp)) hv,SV.exact_rep (hρ i (by simp)) hu];exact aB3 hh h
  ·cases h
 case extract x i=>exact aKo hh (hρ x (by simp)) h
 case makeSlice t l c=>exact aFg hh (hρ l (by simp)) (hρ c (by simp)) h
/-! builtins and calls -/
def dO (P:Program) (b:Builtin) (ts:List TypeId) (ty:TypeId) (xs:List SV) (H:Hp) (nx:Nat):Option (Res × Nat) :=
 match b with
 | .len=>match ts,xs with
  | [t],[x]=>match (match x with
    | .c (.mt τ n)=>aAo P t H τ n
    | y=>bK P t y) with
   | some r=>some (r,0)
   | none=>none
  | _,_=>none
 | .append=>match ts,xs with
  | [t,t'],[x,y]=>if t=t' then match x with
    | .c (.mt τ n)=>aAl P t H τ n y
    | z=>match gH P t with
     | some (_,_,bb,_)=>if 0<bb then oC P t H nx z y else none
     | none=>none
   else none
  | _,_=>none
 | .min=>match bZ SV.exact xs with
  | some vs=>match sc P (Builtin.min_ ts.toArray ty vs.toArray) with
   | some r=>some (r,0)
   | none=>none
  | none=>none
 | .max=>match bZ SV.exact xs with
  | some vs=>match sc P (Builtin.max_ ts.toArray ty vs.toArray) with
   | some r=>some (r,0)
   | none=>none
  | none=>none
 | .copy=>match ts,xs with
  | [t,_],[x,y]=>match fA P t x y with
   | some r=>some (r,0)
   | none=>none
  | _,_=>none
 | _=>none
theorem aA6 {g:G} {H:Hp} {xs:List SV} {vs us:List Value} (h:jC g H xs vs) (hu:bZ SV.exact xs=some us):vs=us:=by
 obtain⟨h1,h2⟩:=dW hu
 have hl:vs.length=us.length:=by have:=h.1;omega
 apply List.ext_getElem hl
 intro j hj hj'
 obtain⟨x,hx,hxe⟩:=h2 j us[j] (List.getElem?_eq_getElem hj')
 exact SV.exact_rep (h.2 j x vs[j] hx (List.getElem?_eq_getElem hj)) hxe
theorem aKn {P:Program} {W0:Fr} {K0:aW} {g:G} {H:Hp} {w:World} {r:Res} {b:Builtin} {ts:List TypeId} {ty:TypeId} {cs:Array Bool} {nx tot:Nat} {xs:List SV} {vs:List Value} (hh:RelH W0 K0 g H w) (hx:jC g H xs vs)
  (h:dO P b ts ty xs H nx=some (r,tot)) (ht:tot≤140737488355328):bD P W0 K0 (builtin b ts.toArray ty cs vs.toArray) g H w r:=by
 unfold dO at h
 split at h
 ·split at h
  ·rename_i t x
   split at h
   ·rename_i r' hr
    cases h
    obtain⟨v,rfl⟩:∃ v,vs=[v]:=by
     have:=hx.1
     match vs,this with
     | [v],_=>exact⟨v,rfl⟩
    have hx0:=hx.2 0 x v rfl rfl
    split at hr
    ·exact aT8 hh hx0 hr
    ·exact aUw hh hx0 hr
   ·cases h
  ·cases h
 ·split at h
  ·rename_i t t' x y
   split at h
   ·rename_i e
    subst e
    obtain⟨v,u,rfl⟩:∃ v u,vs=[v,u]:=by
     have:=hx.1
     match vs,this with
     | [v,u],_=>exact⟨v,u,rfl⟩
    have hx0:=hx.2 0 x v rfl rfl
    split at h
    ·exact aT5 hh hx0 (hx.2 1 y u rfl rfl) h ht
    ·split at h
     ·rename_i e0 s0 bb zs hes
      split at h
      ·rename_i hbb
       exact aNm hh hx0 (hx.2 1 y u rfl rfl) h ht (fun e' s' b' z' h'=>by rw[hes] at h';cases h';exact hbb)
      ·cases h
     ·cases h
   ·cases h
  ·cases h
 ·split at h
  ·rename_i us hus
   split at h
   ·rename_i r' hr
    cases h
    rw[aA6 hx hus]
    exact aB3 hh hr
   ·cases h
  ·cases h
 ·split at h
  ·rename_i us hus
   split at h
   ·rename_i r' hr
    cases h
    rw[aA6 hx hus]
    exact aB3 hh hr
   ·cases h
  ·cases h
 ·split at h
  ·rename_i t t' x y
   split at h
   ·rename_i r' hr
    cases h
    obtain⟨v,u,rfl⟩:∃ v u,vs=[v,u]:=by
     have:=hx.1
     match vs,this with
     | [v,u],_=>exact⟨v,u,rfl⟩
    exact aT2 hh (hx.2 0 x v rfl rfl) (hx.2 1 y u rfl rfl) hr
   ·cases h
  ·cases h
 ·cases h
def astep (P:Program) (o:Oper) (ρ:Operand→SV) (H:Hp) (nx:Nat) (k:Res→Prop):Prop :=
 match o.op with
 | .call c=>match c.callee with
  | .builtin b=>match dO P b c.argTypes.toList o.type (c.args.toList.map ρ) H nx with
   | some (r,tot)=>tot≤140737488355328∧k r
   | none=>False
  | .value f=>match ρ f with
   | .c (.d (.fn (.func f) caps))=>match bZ (SV.toD H) (c.args.toList.map ρ) with
    | some ds=>(∃ y,aJ P f (ds++caps) y∧k ⟨SV.ofD y,none,(c.args.toList.map ρ).flatMap cC,false⟩) ∨
      (∃ e sz xs,pD P f (ds++caps) e sz xs∧H nx=none∧k ⟨.c (.app nx sz xs),some (nx,.row e sz xs.length),nx::(c.args.toList.map ρ).flatMap cC,true⟩)
    | none=>∃ ds y,bZ (SV.snap H) (c.args.toList.map ρ)=some ds∧aJ P f (ds++caps) y∧y.free=true∧k ⟨SV.ofD y,none,(c.args.toList.map ρ).flatMap (SV.snapFp H)++(c.args.toList.map ρ).flatMap cC,false⟩
   | _=>False
  | _=>False
 | op=>match bQ P op ρ H nx with
  | some r=>k r
  | none=>False
def fW (P:Program) (o:Oper) (ρ:Operand→SV) (H:Hp) (nx:Nat) (r:Res):Prop:=astep P o ρ H nx (fun r'=>r' = r)
theorem oN {P:Program} {o:Oper} {ρ:Operand→SV} {H:Hp} {nx:Nat} {k:Res→Prop} (h:astep P o ρ H nx k):∃ r,fW P o ρ H nx r∧k r:=by
 unfold fW
 unfold astep at *
 split at h
 ·split at h
  ·split at h
   ·rename_i r tot hr
    exact⟨r,⟨h.1,rfl⟩,h.2⟩
   ·exact h.elim
  ·split at h
   ·split at h
    ·rcases h with ⟨y,h1,h2⟩|⟨e,sz,xs,h1,h2,h3⟩
     ·exact⟨_,.inl ⟨y,h1,rfl⟩,h2⟩
     ·exact⟨_,.inr ⟨e,sz,xs,h1,h2,rfl⟩,h3⟩
    ·obtain⟨ds,y,h0,h1,h2,h3⟩:=h
     exact⟨_,⟨ds,y,h0,h1,h2,rfl⟩,h3⟩
   ·exact h.elim
  ·exact h.elim
 ·split at h
  ·rename_i r hr
   exact⟨r,rfl,h⟩
  ·exact h.elim
theorem aCv {P:Program} {o:Oper} {ρ:Operand→SV} {H:Hp} {nx:Nat} {k:Res→Prop} {r:Res} (h:fW P o ρ H nx r) (hk:k r):astep P o ρ H nx k:=by
 unfold fW at h
 unfold astep at *
 split at h
 ·split at h
  ·split at h
   ·obtain⟨h1,rfl⟩:=h;exact⟨h1,hk⟩
   ·exact h.elim
  ·split at h
   ·split at h
    ·rcases h with ⟨y,h1,rfl⟩|⟨e,sz,xs,h1,h2,rfl⟩
     ·exact .inl ⟨y,h1,hk⟩
     ·exact .inr ⟨e,sz,xs,h1,h2,hk⟩
    ·obtain⟨ds,y,h0,h1,h2,rfl⟩:=h
     exact⟨ds,y,h0,h1,h2,hk⟩
   ·exact h.elim
  ·exact h.elim
 ·split at h
  ·subst h;exact hk
  ·exact h.elim
def aG3 (W0:Fr) (K0:aW) (o:Oper) (a:Act) (g:G) (H:Hp) (r:Res) (a' : Act) (w' : World):Prop :=
 ∃ v g',a' = a.put o.dst v∧bH g' (pB H r.up) r.v v∧RelH W0 K0 g' (pB H r.up) w'∧gB g H g' (pB H r.up)
abbrev fen (ro:Option Nat):Fence:={ Fence.wide with round:=ro }
theorem mB {ro:Option Nat} {n:Nat} {P:Program} {f:FuncId} {args:Array Value} {w:World} {R:Ending→World→Prop} (h:Calls P f args w R):CallsIn (fen ro) n P f args w R:=by
 have h0:CallsIn Fence.wide n P f args w R:=callsIn_wide.2 h
 exact h0
theorem lL {ro:Option Nat} {n:Nat}:(fen ro).depth.isSome=true→1≤n:=fun h=>by simp[fen,Fence.wide] at h
theorem bD.wp {P:Program} {W0:Fr} {K0:aW} {o:Oper} {a:Act} {g:G} {H:Hp} {w:World} {r:Res} {ro:Option Nat} (hnd:∀ c,o.op≠.defer c) (h:bD P W0 K0 (execOp a.eval o) g H w r) (Q:Exit→Act→World→Prop):o.wpIn (fen ro) 0 P a w (aG3 W0 K0 o a g H r) Q:=by
 obtain⟨n,v,w',g',hr,hn,h1,h2,h3⟩:=h
 refine⟨fun _ _=>trivial,?_⟩
 rw[Oper.semAt_eq _ _ _ hnd,hr]
 rcases hn with rfl|⟨rfl,rfl⟩
 ·exact⟨v,g',rfl,h1,h2,h3⟩
 ·exact⟨undef,g',rfl,h1,h2,h3⟩
theorem aL3 {P:Program} {W0:Fr} {K0:aW} {o:Oper} {ρ:Operand→SV} {H:Hp} {nx:Nat} {r:Res} {g:G} {a:Act} {w:World} (hh:RelH W0 K0 g H w) (hρ:∀ x ∈ o.op.operands,bH g H (ρ x) (a.eval x)) (h:fW P o ρ H nx r) (ro:Option Nat) (Q:Exit→Act→World→Prop) :
  o.wpIn (fen ro) 0 P a w (aG3 W0 K0 o a g H r) Q:=by
 have hnd:∀ c,o.op≠.defer c:=by
  intro c hc
  unfold fW astep at h
  rw[hc] at h
  simp[bQ] at h
 unfold fW astep at h
 split at h
 ·rename_i c hop
  rw[hop] at hρ
  simp only[Op.operands,Call.operands] at hρ
  have hargs:jC g H (c.args.toList.map ρ) (c.args.toList.map a.eval):=oR c.args.toList (fun p hp=>hρ p (by simp at hp;simp[hp]))
  have hmap:c.args.map a.eval=(c.args.toList.map a.eval).toArray:=by apply Array.ext';simp
  split at h
  ·rename_i b hb
   split at h
   ·rename_i r' tot hr
    obtain⟨ht,rfl⟩:=h
    apply bD.wp hnd
    have:=fun cs=>aKn (P:=P) (cs:=cs) hh hargs hr ht
    simp only[Array.toArray_toList] at this
    unfold execOp
    rw[hop]
    simp only[resolve,hb,hmap]
    exact this _
   ·exact h.elim
  ·rename_i f hf
   split at h
   ·rename_i fid caps hρf
    have hfv:=hρ f (by simp[hf])
    rw[hρf] at hfv
    have hfv:Rep g.K (.fn (.func fid) caps) (a.eval f):=hfv
    generalize hav:a.eval f=fv at hfv
    cases hfv with
    | fn hl hv =>
    rename_i cvs
    have hrun:iT P fid=true→(execOp a.eval o).run P w = .ok (.enter fid (c.args.toList.map a.eval++cvs).toArray) w:=fun hbody=>by
     unfold execOp
     rw[hop]
     unfold iT at hbody
     split at hbody
     ·rename_i fn hfn
      simp only[Bool.and_eq_true,Bool.not_eq_true'] at hbody
      simp only[resolve,hf,hmap,hav,Deferred.ofValue]
      have hb1:¬ fn.body=none:=by intro e;rw[e] at hbody;simp at hbody
      have hb2 : ¬ fn.name = "runtime.NumGoroutine" := by simpa using hbody.1
      simp[invoke,callFunc,hfn,hb1,hb2]
     ·cases hbody
    have hBg:jO uJ g.K:=hh.glob.trans hh.ext.1
    split at h
    ·rename_i ds hds
     obtain⟨h1,h2⟩:=dW hds
     have hL:gK g.K (ds++caps) (c.args.toList.map a.eval++cvs):=by
      refine gK.append ⟨by rw[h1,hargs.1],fun j x v hx hv'=>?_⟩ ⟨hl,hv⟩
      obtain⟨s,hs,hsx⟩:=h2 j x hx
      exact SV.toD_rep hh (hargs.2 j s v hs hv') hsx
     rcases h with ⟨y,hfun,rfl⟩|⟨e,sz,xs,hfun,hnx,rfl⟩
     ·obtain⟨hbody,hcalls⟩:=hfun
      have hc:=hcalls g.K w _ hBg hh.kw hL
      refine⟨fun _ _=>trivial,?_⟩
      rw[Oper.semAt_eq _ _ _ hnd,hrun hbody]
      simp only[Oper.uponIn]
      refine⟨lL,mB (hc.mono ?_)⟩
      rintro e w' ⟨v,K',rfl,he,hk,hr,hb⟩
      exact⟨v,{ g with K:=K' },rfl,lW hr _ _ rfl,hh.grow hb he hk,gB.ofK he.1⟩
     ·obtain⟨hbody,hcalls⟩:=hfun
      have hc:=hcalls g.K w _ hBg hh.kw hL
      refine⟨fun _ _=>trivial,?_⟩
      rw[Oper.semAt_eq _ _ _ hnd,hrun hbody]
      simp only[Oper.uponIn]
      refine⟨lL,mB (hc.mono ?_)⟩
      rintro en w' ⟨v,K',rfl,he,hk,hr,hap,hb⟩
      obtain⟨g',hrel,hle,hrc⟩:=RelH.gotrow (hh.grow hb he hk) hnx hr hap (fun _ _=>trivial) (fun i b hi=>hh.frozlt i b hi) hh.below.size
      exact⟨v,g',rfl,hrc,hrel,(gB.ofK he.1).trans hle⟩
    ·obtain⟨ds,y,hds,hfun,hfree,rfl⟩:=h
     obtain⟨h1,h2⟩:=dW hds
     have hL:gK (Kw w) (ds++caps) (c.args.toList.map a.eval++cvs):=by
      refine gK.append ⟨by rw[h1,hargs.1],fun j x v hx hv'=>?_⟩ (gK.mono (K':=Kw w) hh.kw ⟨hl,hv⟩)
      obtain⟨s,hs,hsx⟩:=h2 j x hx
      exact SV.snap_rep hh (hargs.2 j s v hs hv') hsx
     obtain⟨hbody,hcalls⟩:=hfun
     have hc:=hcalls (Kw w) w _ (jO.trans hBg (fun b o v hv=>hh.kw b o v hv)) (fun _ _ _ hv=>hv) hL
     refine⟨fun _ _=>trivial,?_⟩
     rw[Oper.semAt_eq _ _ _ hnd,hrun hbody]
     simp only[Oper.uponIn]
     refine⟨lL,mB (hc.mono ?_)⟩
     rintro e w' ⟨v,K',rfl,he,hk,hr,hb⟩
     have hr' : Rep g.K y v:=hr.free hfree
     exact⟨v,{ g with K:=g.K },rfl,lW hr' _ _ rfl,hh.grow hb (Ext.refl _ _) (aAg hh.kw hb),gB.ofK (jO.refl _)⟩
   ·exact h.elim
  ·exact h.elim
 ·split at h
  ·rename_i r' hr
   subst h
   exact (aMh hh hρ hr).wp hnd Q
  ·exact h.elim
theorem aMf {P:Program} {op:Op} {ρ ρ' : Operand→SV} {H:Hp} {nx:Nat} (h:∀ x ∈ op.operands,ρ x=ρ' x):bQ P op ρ H nx=bQ P op ρ' H nx:=by
 have pairs:∀ ps:List (Nat × Operand),(∀ p ∈ ps,ρ p.2=ρ' p.2)→(ps.map fun p=>(p.1,ρ p.2))=(ps.map fun p=>(p.1,ρ' p.2)):=fun ps hp =>
  List.map_congr_left fun p hm=>by rw[hp p hm]
 cases op<;>simp only[Op.operands] at h<;>simp only[bQ]
 case build t ps=>rw[pairs ps.toList fun p hp=>h p.2 (by simp;exact⟨p.1,by simpa using hp⟩)]
 case buildSlice t n ps=>rw[pairs ps.toList fun p hp=>h p.2 (by simp;exact⟨p.1,by simpa using hp⟩)]
 case makeFunc fn first caps =>
  rw[List.map_congr_left (l:=first.toList) fun x hx=>h x (by simp at hx;simp[hx]),List.map_congr_left (l:=caps.toList) fun x hx=>h x (by simp at hx;simp[hx])]
 case slice t x lo hi mx=>cases lo<;>cases hi<;>cases mx<;>simp_all
 all_goals (first|rfl|(simp_all;done))
theorem aJn {H H' : Hp} {x:SV} (h:∀ id ∈ cC x,H' id=H id):aEg H' x=aEg H x:=by
 cases x with
 | agg cs=>rfl
 | c x=>cases x with
  | own id off=>simp only[aEg,CV.toD,h id (by simp[cC])]
  | _=>rfl
theorem xP {H H' : Hp} {x:SV} (h:∀ id ∈ cC x,H' id=H id):SV.toD H' x=SV.toD H x:=by
 cases x with
 | agg cs=>rfl
 | c x=>cases x with
  | own id off=>simp only[SV.toD,CV.toD,h id (by simp[cC])]
  | _=>rfl
theorem lO {α β:Type} {f f' : α→Option β}:∀ {xs:List α},(∀ x ∈ xs,f x=f' x)→bZ f xs=bZ f' xs
 | [],_=>rfl
 | x::xs,h=>by simp only[bZ];rw[h x (by simp),lO (fun y hy=>h y (by simp[hy]))]
theorem aE1 {P:Program} {H H' : Hp} {nx:Nat} {t:TypeId} {r:Res} (h:pE P H nx t=some r) (hf:∀ id ∈ r.fp,H' id=H id):pE P H' nx t=some r:=by
 have hfp:r.fp=[nx]:=by
  unfold pE at h
  split at h
  ·split at h
   ·split at h
    ·cases h;rfl
    ·cases h
   ·cases h
  ·cases h
 unfold pE at *
 rw[hf nx (by simp[hfp])];exact h
theorem wL {P:Program} {H H' : Hp} {nx:Nat} {t:TypeId} {x y:SV} {r:Res} (h:iB P H nx t x y=some r) (hf:∀ id ∈ r.fp,H' id=H id):iB P H' nx t x y=some r:=by
 have hfp:r.fp=[nx]:=by
  unfold iB at h
  split at h
  ·split at h
   ·cases h
   ·split at h
    ·split at h
     ·split at h
      ·cases h;rfl
      ·split at h
       ·cases h;rfl
       ·cases h
     ·cases h
    ·cases h
  ·cases h
 unfold iB at *
 rw[hf nx (by simp[hfp])];exact h
theorem aJd {H H' : Hp} {nx:Nat} {x:SV} {r:Res} (h:aE2 H nx x=some r) (hf:∀ id ∈ r.fp,H' id=H id):aE2 H' nx x=some r:=by
 have hfp:r.fp=[nx]:=by
  unfold aE2 at h
  split at h
  ·split at h
   ·cases h;rfl
   ·cases h
  ·cases h
 unfold aE2 at *
 rw[hf nx (by simp[hfp])];exact h
theorem aG5 {P:Program} {H H' : Hp} {t:TypeId} {x:SV} {r:Res} (h:bW P t H x=some r) (hf:∀ id ∈ r.fp,H' id=H id):bW P t H' x=some r:=by
 cases x with
 | agg cs=>simp[bW] at h
 | c x=>cases x with
  | own id off =>
   have hfp:r.fp=[id]:=by
    simp only[bW] at h
    split at h
    ·split at h
     ·cases h;rfl
     ·cases h
    ·split at h
     ·cases h;rfl
     ·cases h
    ·cases h
   simp only[bW] at *
   rw[hf id (by simp[hfp])];exact h
  | d x=>cases x<;>first|exact h|(simp[bW] at h)
  | _=>simp[bW] at h
theorem aE5 {P:Program} {H H' : Hp} {t:TypeId} {x y:SV} {r:Res} (h:cF P t H x y=some r) (hf:∀ id ∈ r.fp,H' id=H id):cF P t H' x y=some r:=by
 cases x with
 | agg cs=>simp[cF] at h
 | c x=>cases x with
  | own id off =>
   have hfp:r.fp=[id]:=by
    simp only[cF] at h
    split at h
    ·split at h
     ·split at h
      ·cases h;rfl
      ·cases h
     ·cases h
    ·cases h
   simp only[cF] at *
   rw[hf id (by simp[hfp])];exact h
  | _=>simp[cF] at h
theorem aE3 {P:Program} {H H' : Hp} {t:TypeId} {x:SV} {r:Res} (h:eQ P t H x=some r) (hf:∀ id ∈ r.fp,H' id=H id):eQ P t H' x=some r:=by
 cases x with
 | agg cs=>exact h
 | c x=>cases x with
  | own id off =>
   have hfp:r.fp=[id]:=by
    simp only[eQ] at h
    split at h
    ·split at h
     ·cases h
     ·split at h
      ·cases h;rfl
      ·split at h
       ·cases h;rfl
       ·cases h
      ·cases h
    ·cases h
   simp only[eQ] at *
   rw[hf id (by simp[hfp])];exact h
  | _=>exact h
theorem yJ {H H' : Hp} {fn:Fn} {first caps:List SV} {r:Res} (h:cQ H fn first caps=some r) (hf:∀ id ∈ r.fp,H' id=H id):cQ H' fn first caps=some r:=by
 have hfp:r.fp=caps.flatMap cC:=by
  unfold cQ at h
  split at h
  ·cases h;rfl
  ·split at h
   ·cases h;rfl
   ·cases h;rfl
   ·cases h
 have:bZ (aEg H') caps=bZ (aEg H) caps:=lO (fun x hx=>aJn (fun id hid=>hf id (by rw[hfp];exact List.mem_flatMap.2 ⟨x,hx,hid⟩)))
 unfold cQ at *
 rw[this];exact h
theorem aHv {P:Program} {H H' : Hp} {t:TypeId} {τ n off:Nat} {r:Res} (h:rJ P t H τ n off=some r) (hf:∀ id ∈ r.fp,H' id=H id):rJ P t H' τ n off=some r:=by
 have hfp:r.fp=[τ]:=by
  unfold rJ at h
  repeat' split at h
  all_goals first|(cases h;rfl)|cases h
 unfold rJ at *
 rw[hf τ (by simp[hfp])];exact h
theorem aFa {P:Program} {H H' : Hp} {t:TypeId} {τ n off:Nat} {x:SV} {r:Res} (h:nP P t H τ n off x=some r) (hf:∀ id ∈ r.fp,H' id=H id):nP P t H' τ n off x=some r:=by
 have hfp:r.fp=[τ]:=by
  unfold nP at h
  repeat' split at h
  all_goals first|(cases h;rfl)|cases h
 unfold nP at *
 rw[hf τ (by simp[hfp])];exact h
theorem aKc {P:Program} {H H' : Hp} {s:TypeId} {f τ n off:Nat} {r:Res} (h:aAm P s f H τ n off=some r) (hf:∀ id ∈ r.fp,H' id=H id):aAm P s f H' τ n off=some r:=by
 have hfp:r.fp=[τ]:=by
  unfold aAm at h
  repeat' split at h
  all_goals first|(cases h;rfl)|cases h
 unfold aAm at *
 rw[hf τ (by simp[hfp])];exact h
theorem aKd {P:Program} {H H' : Hp} {t:TypeId} {τ n:Nat} {i:SV} {r:Res} (h:aAn P t H τ n i=some r) (hf:∀ id ∈ r.fp,H' id=H id):aAn P t H' τ n i=some r:=by
 have hfp:r.fp=[τ]:=by
  unfold aAn at h
  repeat' split at h
  all_goals first|(cases h;rfl)|cases h
 unfold aAn at *
 rw[hf τ (by simp[hfp])];exact h
theorem aKe {P:Program} {H H' : Hp} {t:TypeId} {τ n:Nat} {r:Res} (h:aAo P t H τ n=some r) (hf:∀ id ∈ r.fp,H' id=H id):aAo P t H' τ n=some r:=by
 have hfp:r.fp=[τ]:=by
  unfold aAo at h
  repeat' split at h
  all_goals first|(cases h;rfl)|cases h
 unfold aAo at *
 rw[hf τ (by simp[hfp])];exact h
theorem aKb {P:Program} {H H' : Hp} {t:TypeId} {τ n tot:Nat} {y:SV} {r:Res} (h:aAl P t H τ n y=some (r,tot)) (hf:∀ id ∈ r.fp,H' id=H id):aAl P t H' τ n y=some (r,tot):=by
 have hfp:r.fp=[τ]:=by
  unfold aAl at h
  repeat' split at h
  all_goals first|(cases h;rfl)|cases h
 unfold aAl at *
 rw[hf τ (by simp[hfp])];exact h
theorem aMg {P:Program} {op:Op} {ρ:Operand→SV} {H H' : Hp} {nx:Nat} {r:Res} (h:bQ P op ρ H nx=some r) (hf:∀ id ∈ r.fp,H' id=H id):bQ P op ρ H' nx=some r:=by
 cases op<;>simp only[bQ] at h ⊢<;>(try exact h)
 case alloc t=>exact aE1 h hf
 case box t x=>exact aJd h hf
 case makeSlice t x y=>exact wL h hf
 case load t x =>
  split at h
  ·exact aHv h hf
  ·exact aG5 h hf
 case store t x y =>
  split at h
  ·exact aFa h hf
  ·exact aE5 h hf
 case fieldAddr s x f =>
  split at h
  ·exact aKc h hf
  ·exact h
 case indexAddr t x i =>
  split at h
  ·exact aKd h hf
  ·exact h
 case makeInterface t x=>exact aE3 h hf
 case makeFunc fn first caps=>exact yJ h hf
theorem aC1 {P:Program} {t:TypeId} {H H' : Hp} {nx tot:Nat} {x y:SV} {r:Res} (h:oC P t H nx x y=some (r,tot)) (hf:∀ id ∈ r.fp,H' id=H id):oC P t H' nx x y=some (r,tot):=by
 unfold oC at h ⊢
 cases hes:gH P t with
 | none=>rw[hes] at h;cases h
 | some q =>
  obtain⟨e,sz,bb,zs⟩:=q
  rw[hes] at h
  simp only at h ⊢
  split at h
  ·rename_i hc
   rw[if_pos hc]
   cases x with
   | agg cs=>cases h
   | c cx=>cases y with
    | agg cs=>cases h
    | c cy =>
     simp only at h ⊢
     cases hxs:cx.lstOf sz with
     | none=>rw[hxs] at h;cases h
     | some xs=>cases hys:cy.lstOf sz with
      | none=>rw[hxs,hys] at h;cases h
      | some ys =>
       rw[hxs,hys] at h
       simp only at h ⊢
       cases cx with
       | app τ s' xs' =>
        have hfp:r.fp=[τ]:=by
         simp only at h
         split at h
         ·split at h
          ·cases h;rfl
          ·cases h
         ·cases h
        simp only at h ⊢
        rw[hf τ (by simp[hfp])];exact h
       | d x=>cases x with
        | lst s xs=>cases h
        | val v =>
         split at h
         ·rename_i heq;cases heq
         ·rename_i heq;cases heq
         ·rename_i heq
          cases heq
          have hfp:r.fp=[nx]:=by
           split at h
           ·cases h;rfl
           ·cases h
          rw[hf nx (by simp[hfp])];exact h
         ·cases h
        | _=>simp[CV.lstOf] at hxs
       | full s' xs' =>
        have hfp:r.fp=[nx]:=by
         simp only at h
         split at h
         ·cases h;rfl
         ·cases h
        simp only at h ⊢
        rw[hf nx (by simp[hfp])];exact h
       | apt τ s' xs' k=>cases h
       | _=>simp[CV.lstOf] at hxs
  ·cases h
theorem zI {P:Program} {b:Builtin} {ts:List TypeId} {ty:TypeId} {xs:List SV} {H H' : Hp} {nx tot:Nat} {r:Res} (h:dO P b ts ty xs H nx=some (r,tot)) (hf:∀ id ∈ r.fp,H' id=H id):dO P b ts ty xs H' nx=some (r,tot):=by
 cases b<;>(try exact h)
 case len =>
  simp only[dO] at h ⊢
  match ts,xs,h with
  | [t],[x],h =>
   simp only at h ⊢
   split at h
   ·rename_i r' hr
    cases h
    split at hr
    ·simp only[aKe hr hf]
    ·simp only[hr]
   ·cases h
 simp only[dO] at h ⊢
 match ts,xs,h with
 | [t,t'],[x,y],h =>
  simp only at h ⊢
  split at h
  ·rename_i e
   rw[if_pos e]
   split at h
   ·exact aKb h hf
   ·cases hes:gH P t with
    | none=>rw[hes] at h;cases h
    | some q =>
     obtain⟨e,sz,bb,zs⟩:=q
     rw[hes] at h
     simp only at h ⊢
     split at h
     ·rename_i hbb;rw[if_pos hbb];exact aC1 h hf
     ·cases h
  ·cases h
theorem fW.local {P:Program} {o:Oper} {ρ ρ' : Operand→SV} {H H' : Hp} {nx:Nat} {r:Res} (h:fW P o ρ H nx r) (hρ:∀ x ∈ o.op.operands,ρ x=ρ' x) (hf:∀ id ∈ r.fp,H' id=H id):fW P o ρ' H' nx r:=by
 obtain⟨dst,op,type,pos,after,guard⟩:=o
 unfold fW astep at h ⊢
 cases op with
 | call c =>
  simp only[Op.operands,Call.operands] at hρ
  have hargs:c.args.toList.map ρ=c.args.toList.map ρ':=List.map_congr_left fun x hx=>hρ x (by simp at hx;simp[hx])
  simp only at h ⊢
  obtain⟨cal,args,tys⟩:=c
  cases cal with
  | builtin b =>
   simp only at h ⊢ hargs
   rw[← hargs]
   cases hr:dO P b tys.toList type (args.toList.map ρ) H nx with
   | none=>rw[hr] at h;exact h.elim
   | some q =>
    obtain⟨r',tot⟩:=q
    rw[hr] at h
    obtain⟨ht,rfl⟩:=h
    rw[zI hr hf]
    exact⟨ht,rfl⟩
  | value f =>
   simp only at h ⊢ hargs
   rw[← hargs,← hρ f (by simp)]
   split at h
   ·rename_i fid caps hρf
    split at h
    ·rename_i ds hds
     rcases h with ⟨y,hfun,rfl⟩|⟨e,sz,xs,hfun,hnx,rfl⟩
     ·have:bZ (SV.toD H') (args.toList.map ρ)=some ds:=by
       rw[← hds]
       exact lO (fun x hx=>xP (fun id hid=>hf id (List.mem_flatMap.2 ⟨x,hx,hid⟩)))
      rw[this]
      exact .inl ⟨y,hfun,rfl⟩
     ·have:bZ (SV.toD H') (args.toList.map ρ)=some ds:=by
       rw[← hds]
       exact lO (fun x hx=>xP (fun id hid=>hf id (List.mem_cons_of_mem _ (List.mem_flatMap.2 ⟨x,hx,hid⟩))))
      rw[this]
      exact .inr ⟨e,sz,xs,hfun,(hf nx (by simp)).trans hnx,rfl⟩
    ·rename_i hno
     obtain⟨ds,y,hds,hfun,hfree,rfl⟩:=h
     have h1:bZ (SV.toD H') (args.toList.map ρ)=none:=by
      rw[← hno]
      exact lO (fun x hx=>xP (fun id hid=>hf id (List.mem_append_right _ (List.mem_flatMap.2 ⟨x,hx,hid⟩))))
     have h2:∀ x ∈ args.toList.map ρ,SV.snap H' x=SV.snap H x∧SV.snapFp H' x=SV.snapFp H x:=fun x hx=>SV.snap_local (fun id hid=>hf id (List.mem_append_left _ (List.mem_flatMap.2 ⟨x,hx,hid⟩)))
     rw[h1]
     refine⟨ds,y,(lO (fun x hx=>(h2 x hx).1)).trans hds,hfun,hfree,?_⟩
     rw[List.flatMap_def (f:=SV.snapFp H'),List.flatMap_def (f:=SV.snapFp H),List.map_congr_left (fun x hx=>(h2 x hx).2)]
   ·exact h.elim
  | invoke _ _=>exact h.elim
 | _ =>
  simp only at h ⊢
  split at h
  ·rename_i r' hr
   subst h
   have:=aMg ((aMf (P:=P) (nx:=nx) (H:=H) hρ).symm.trans hr) hf
   rw[this]
  ·exact h.elim
theorem dB.mono {g g' : G} {H H' : Hp} (hle:gB g H g' H') (ho:∀ id o,H id=some (.obj o)→H' id=some (.obj o)):∀ {l:List Nat} {ds:List Deferred},dB g H l ds→dB g' H' l ds
 | [],[],h=>h
 | id::ids,d::ds,⟨⟨b,hb,hd⟩,hH,h⟩=>by
  obtain⟨b',hb',he,_⟩:=hle (.own id 0) (.pointer (some ⟨b,0,none⟩)) ⟨b,hb,rfl,by rw[hH];rfl⟩
  simp only[Value.pointer.injEq,Option.some.injEq,Addr.mk.injEq,and_true] at he
  exact⟨⟨b',hb',by rw[hd,he]⟩,ho _ _ hH,dB.mono hle ho h⟩
theorem aIt {P:Program} {s:Sem Value} {r:Res} (h:sc P s=some r):r.up=none:=by
 unfold sc at h
 (repeat' split at h)<;>first|(cases h;rfl)|cases h
theorem aOt {P:Program} {t:TypeId} {H:Hp} {x:SV} {r:Res} (h:bW P t H x=some r):r.up=none:=by
 unfold bW at h
 (repeat' split at h)<;>first|(cases h;rfl)|cases h
theorem aMc {P:Program} {s:TypeId} {f:Nat} {x:SV} {r:Res} (h:bX P s f x=some r):r.up=none:=by
 unfold bX at h
 (repeat' split at h)<;>first|(cases h;rfl)|cases h
theorem aOu {P:Program} {s:TypeId} {f:Nat} {x:SV} {r:Res} (h:fB P s f x=some r):r.up=none:=by
 unfold fB at h
 (repeat' split at h)<;>first|(cases h;rfl)|cases h
theorem aOs {P:Program} {t:TypeId} {x i:SV} {r:Res} (h:zH P t x i=some r):r.up=none:=by
 unfold zH at h
 (repeat' split at h)<;>first|(cases h;rfl)|cases h
theorem aC2 {P:Program} {t:TypeId} {x i:SV} {r:Res} (h:lJ P t x i=some r):r.up=none:=by
 unfold lJ sB at h
 (repeat' split at h)<;>first|(cases h;rfl)|cases h
theorem aRp {P:Program} {t:TypeId} {x:SV} {r:Res} (h:bK P t x=some r):r.up=none:=by
 unfold bK at h
 (repeat' split at h)<;>first|(cases h;rfl)|cases h
theorem aJe {n s:Nat} {x:SV} {lo hi mx:Option SV} {r:Res} (h:pF n s x lo hi mx=some r):r.up=none:=by
 unfold pF at h
 (repeat' split at h)<;>first|(cases h;rfl)|cases h
theorem aMd {P:Program} {t:TypeId} {x:SV} {lo hi mx:Option SV} {r:Res} (h:fC P t x lo hi mx=some r):r.up=none:=by
 unfold fC at h
 (repeat' split at h)<;>first|(cases h;rfl)|cases h
theorem aM9 {P:Program} {t:TypeId} {ps:List (Nat × SV)} {r:Res} (h:wK P t ps=some r):r.up=none:=by
 unfold wK at h
 (repeat' split at h)<;>first|(cases h;rfl)|cases h
theorem zG {P:Program} {t:TypeId} {n:Nat} {ps:List (Nat × SV)} {r:Res} (h:kH P t n ps=some r):r.up=none:=by
 unfold kH at h
 (repeat' split at h)<;>first|(cases h;rfl)|cases h
theorem aE4 {H:Hp} {fn:Fn} {first caps:List SV} {r:Res} (h:cQ H fn first caps=some r):r.up=none:=by
 unfold cQ at h
 (repeat' split at h)<;>first|(cases h;rfl)|cases h
theorem aG4 {x:SV} {i:Nat} {r:Res} (h:cL x i=some r):r.up=none:=by
 unfold cL at h
 (repeat' split at h)<;>first|(cases h;rfl)|cases h
theorem aRo {P:Program} {op:BinOp} {t:TypeId} {x y:Operand} {sx sy:SV} {r:Res} (h:gG P op t x y sx sy=some r):r.up=none:=by
 unfold gG at h
 split at h
 ·exact aIt h
 ·(repeat' split at h)<;>first|(cases h;rfl)|cases h
theorem aPo {P:Program} {t:TypeId} {H:Hp} {τ n off:Nat} {r:Res} (h:rJ P t H τ n off=some r):r.up=none:=by
 unfold rJ at h
 (repeat' split at h)<;>first|(cases h;rfl)|cases h
theorem aSp {P:Program} {s:TypeId} {f:Nat} {H:Hp} {τ n off:Nat} {r:Res} (h:aAm P s f H τ n off=some r):r.up=none:=by
 unfold aAm at h
 (repeat' split at h)<;>first|(cases h;rfl)|cases h
theorem aSq {P:Program} {t:TypeId} {H:Hp} {τ n:Nat} {i:SV} {r:Res} (h:aAn P t H τ n i=some r):r.up=none:=by
 unfold aAn at h
 (repeat' split at h)<;>first|(cases h;rfl)|cases h
theorem aSr {P:Program} {t:TypeId} {H:Hp} {τ n:Nat} {r:Res} (h:aAo P t H τ n=some r):r.up=none:=by
 unfold aAo at h
 (repeat' split at h)<;>first|(cases h;rfl)|cases h
theorem aNe {P:Program} {t:TypeId} {H:Hp} {τ n off:Nat} {x:SV} {r:Res} (h:nP P t H τ n off x=some r) {k:Nat} {he:HE} (hu:r.up=some (k,he)) {o:Obj} (ho:H k=some (.obj o)):False:=by
 unfold nP at h
 (repeat' split at h)<;>first|(cases h;done)|(cases h;cases hu;simp_all)
theorem aSo {P:Program} {t:TypeId} {H:Hp} {τ n tot:Nat} {y:SV} {r:Res} (h:aAl P t H τ n y=some (r,tot)) {k:Nat} {he:HE} (hu:r.up=some (k,he)) {o:Obj} (ho:H k=some (.obj o)):False:=by
 unfold aAl at h
 (repeat' split at h)<;>first|(cases h;done)|(cases h;cases hu;simp_all)
theorem aG6 {P:Program} {b:Builtin} {ts:List TypeId} {ty:TypeId} {xs:List SV} {H:Hp} {nx tot:Nat} {r:Res} (h:dO P b ts ty xs H nx=some (r,tot)) {k:Nat} {he:HE} (hu:r.up=some (k,he)) {o:Obj} (ho:H k=some (.obj o)):False:=by
 unfold dO at h
 split at h
 ·split at h
  ·split at h
   ·rename_i r' hr
    cases h
    split at hr
    ·rw[aSr hr] at hu;cases hu
    ·rw[aRp hr] at hu;cases hu
   ·cases h
  ·cases h
 ·split at h
  ·split at h
   ·split at h
    ·exact aSo h hu ho
    ·split at h
     ·split at h
      ·unfold oC at h
       (repeat' split at h)<;>first|(cases h;done)|(cases h;cases hu;simp_all)
      ·cases h
     ·cases h
   ·cases h
  ·cases h
 ·split at h
  ·split at h
   ·rename_i r' hr
    cases h
    rw[aIt hr] at hu;cases hu
   ·cases h
  ·cases h
 ·split at h
  ·split at h
   ·rename_i r' hr
    cases h
    rw[aIt hr] at hu;cases hu
   ·cases h
  ·cases h
 ·split at h
  ·split at h
   ·rename_i r' hr
    cases h
    rw[aOr hr] at hu;cases hu
   ·cases h
  ·cases h
 ·cases h
theorem aUd {P:Program} {op:Op} {ρ:Operand→SV} {H:Hp} {nx:Nat} {r:Res} (h:bQ P op ρ H nx=some r) {k:Nat} {he:HE} (hu:r.up=some (k,he)) {o:Obj} (ho:H k=some (.obj o)):False:=by
 cases op<;>simp only[bQ] at h
 case alloc t =>
  unfold pE at h
  split at h
  ·rename_i hn
   split at h
   ·split at h
    ·cases h;cases hu;rw[hn] at ho;cases ho
    ·cases h
   ·cases h
  ·cases h
 case makeSlice t x y =>
  unfold iB at h
  split at h
  ·split at h
   ·cases h
   ·rename_i hn
    split at h
    ·split at h
     ·split at h
      ·cases h;cases hu;rw[hn] at ho;cases ho
      ·split at h
       ·cases h;cases hu;rw[hn] at ho;cases ho
       ·cases h
     ·cases h
    ·cases h
  ·cases h
 case box t x =>
  unfold aE2 at h
  split at h
  ·rename_i hn
   split at h
   ·cases h;cases hu;rw[hn] at ho;cases ho
   ·cases h
  ·cases h
 case store t a x =>
  split at h
  ·exact aNe h hu ho
  unfold cF at h
  split at h
  ·split at h
   ·rename_i hc
    split at h
    ·split at h
     ·cases h;cases hu;rw[hc] at ho;cases ho
     ·cases h
    ·cases h
   ·cases h
  ·cases h
 case makeInterface t x =>
  unfold eQ at h
  split at h
  ·split at h
   ·cases h
   ·split at h
    ·split at h
     ·cases h;cases hu
     ·rename_i hc
      split at h
      ·cases h;cases hu;rw[hc] at ho;cases ho
      ·cases h
     ·cases h
    ·split at h
     ·cases h;cases hu
     ·cases h
    ·split at h
     ·cases h;cases hu
     ·cases h
  ·cases h
 case convert s d x =>
  split at h
  ·rw[aMb h] at hu;cases hu
  ·rw[aMa h] at hu;cases hu
 case build t ps=>rw[aM9 h] at hu;cases hu
 case buildSlice t n ps=>rw[zG h] at hu;cases hu
 case load t a =>
  split at h
  ·rw[aPo h] at hu;cases hu
  ·rw[aOt h] at hu;cases hu
 case binOp op t x y z=>rw[aRo h] at hu;cases hu
 case makeFunc fn first caps=>rw[aE4 h] at hu;cases hu
 case slice t x lo hi mx =>
  split at h
  ·rw[aJe h] at hu;cases hu
  ·rw[aMd h] at hu;cases hu
 case fieldAddr s x f =>
  split at h
  ·rw[aSp h] at hu;cases hu
  ·rw[aMc h] at hu;cases hu
 case field s x f=>rw[aOu h] at hu;cases hu
 case indexAddr t x i =>
  split at h
  ·rw[aSq h] at hu;cases hu
  ·rw[aC2 h] at hu;cases hu
 case extract x i=>rw[aG4 h] at hu;cases hu
 case index t x i =>
  split at h
  ·rw[aOs h] at hu;cases hu
  ·split at h
   ·rw[aIt h] at hu;cases hu
   ·cases h
 all_goals first
  | (cases h;done)
  | (cases h;cases hu;done)
  | (split at h<;>first|(cases h;done)|(cases h;cases hu;done)|(rw[aIt h] at hu;cases hu))
theorem aVe {P:Program} {o:Oper} {ρ:Operand→SV} {H:Hp} {nx:Nat} {r:Res} (h:fW P o ρ H nx r) (id:Nat) (ob:Obj) (ho:H id=some (.obj ob)):pB H r.up id=some (.obj ob):=by
 have key:∀ k he,r.up=some (k,he)→k≠id:=by
  rintro k he hu rfl
  unfold fW astep at h
  split at h
  ·split at h
   ·split at h
    ·rename_i b hb r' tot hr
     obtain⟨_,rfl⟩:=h
     exact aG6 hr hu ho
    ·exact h.elim
   ·split at h
    ·split at h
     ·rcases h with ⟨y,_,rfl⟩|⟨e,sz,xs,_,hn,rfl⟩
      ·cases hu
      ·cases hu;rw[hn] at ho;cases ho
     ·obtain⟨ds,y,_,_,_,rfl⟩:=h
      cases hu
    ·exact h.elim
   ·exact h.elim
  ·split at h
   ·rename_i r' hr
    subst h
    exact aUd hr hu ho
   ·exact h.elim
 cases hu:r.up with
 | none=>exact ho
 | some q =>
  obtain⟨k,he⟩:=q
  show upd H k (some he) id=_
  rw[aB _ _ (Ne.symm (key k he hu))];exact ho
def mQ (σ:St) (o:Oper):Prop:=match o.dst with
 | some d=>d<σ.sz
 | none=>True
def mO (env:Nat→SV) (d:Option Nat) (x:SV):Nat→SV:=match d with
 | some d=>upd env d x
 | none=>env
def St.put (σ:St) (dst:Option Nat) (v:SV):St:={ σ with env:=mO σ.env dst v }
def St.step (σ:St) (o:Oper) (r:Res):St:={ env:=(σ.put o.dst r.v).env,H:=pB σ.H r.up,nx:=if r.al then σ.nx+1 else σ.nx,sz:=σ.sz,fx:=σ.fx }
def St.skip (σ:St) (o:Oper):St:=σ.put o.dst (.c (.d (.val undef)))
structure Foot where
 fp:List Nat
 wr:Option Nat
def gV (all:List Oper) (env:Nat→SV) (o:Oper):Option Bool :=
 match o.guard with
 | none=>some true
 | some (j,want)=>match all[j]? with
  | some oj=>match oj.dst with
   | some d=>match (env d).exact with
    | some (.bool b)=>some (b == want)
    | some _=>some false
    | none=>none
   | none=>none
  | none=>none
def lY (P:Program) (all:List Oper):List Oper→St→List Foot→(St→List Foot→Prop)→Prop
 | [],σ,tr,k=>k σ tr.reverse
 | o::os,σ,tr,k=>match gV all σ.env o with
  | none=>False
  | some t=>(t=true→astep P o (bV σ.env) σ.H σ.nx (fun r=>mQ σ o∧lY P all os (σ.step o r) (⟨r.fp,r.up.map (·.1)⟩::tr) k)) ∧
    (t=false→mQ σ o∧lY P all os (σ.skip o) (⟨[],none⟩::tr) k)
theorem aQe (a:Act) (d:Option Nat) (v:Value) (t:Nat):(a.put d v).tmps.getD t undef=if d=some t∧t<a.tmps.size then v else a.tmps.getD t undef:=by
 cases d with
 | none=>simp[Act.put]
 | some d =>
  simp only[Act.put,Array.getD_eq_getD_getElem?,Array.getElem?_setIfInBounds,Option.some.injEq]
  by_cases h:d=t
  ·subst h
   by_cases h2:d<a.tmps.size
   ·simp[h2]
   ·simp[h2]
  ·simp[h]
theorem oX (a:Act) (d:Option Nat) (v:Value):(a.put d v).tmps.size=a.tmps.size:=by cases d<;>simp[Act.put]
theorem sK (a:Act) (d:Option Nat) (v:Value):(a.put d v).defers=a.defers:=by cases d<;>rfl
theorem sD {g:G} {H:Hp} {env:Nat→SV} {a:Act} {d:Option Nat} {x:SV} {v:Value} {n:Nat} (h:∀ t,bH g H (env t) (a.tmps.getD t undef)) (hx:bH g H x v) (hs:a.tmps.size=n) (hd:∀ t,d=some t→t<n) (t:Nat) :
  bH g H (mO env d x t) ((a.put d v).tmps.getD t undef):=by
 rw[aQe]
 cases d with
 | none=>rw[if_neg (by simp)];exact h t
 | some d =>
  by_cases ht:d=t
  ·subst ht
   rw[if_pos ⟨rfl,by rw[hs];exact hd d rfl⟩,show mO env (some d) x d=x from aC _ _ _];exact hx
  ·rw[if_neg (fun h=>ht (by simpa using h.1)),show mO env (some d) x t=env t from aB _ _ (Ne.symm ht)];exact h t
theorem vV {P:Program} {W0:Fr} {K0:aW} {g:G} {σ:St} {a:Act} {w:World} {o:Oper} {r:Res} (h:Rel W0 K0 g σ a w) (hs:fW P o (bV σ.env) σ.H σ.nx r) (hd:mQ σ o) (ro:Option Nat) (Q:Exit→Act→World→Prop) :
  o.wpIn (fen ro) 0 P a w (fun a' w'=>∃ g',Rel W0 K0 g' (σ.step o r) a' w') Q:=by
 refine Oper.wpIn_mono ?_ (aL3 h.mem (fun x _=>iQ h x) hs ro Q)
 rintro a' w' ⟨v,g',rfl,hv,hm,hle⟩
 refine⟨g',hm,fun t=>?_,by rw[oX];exact h.size,by rw[sK];exact h.defers.mono hle (aVe hs),h.ln,h.rd,h.nodup,h.lt⟩
 exact sD (d:=o.dst) (x:=r.v) (v:=v) (fun t=>(h.env t).mono hle) hv h.size (fun t ht=>by have:=hd;unfold mQ at this;rw[ht] at this;exact this) t
theorem rU {W0:Fr} {K0:aW} {g:G} {σ:St} {a:Act} {w:World} {o:Oper} (h:Rel W0 K0 g σ a w) (hd:mQ σ o):Rel W0 K0 g (σ.skip o) (a.put o.dst undef) w:=by
 refine⟨h.mem,fun t=>?_,by rw[oX];exact h.size,by rw[sK];exact h.defers,h.ln,h.rd,h.nodup,h.lt⟩
 exact sD (x:=.c (.d (.val undef))) (v:=undef) (fun t=>h.env t) (Rep.val undef) h.size (fun t ht=>by have:=hd;unfold mQ at this;rw[ht] at this;exact this) t
theorem eD {g:G} {H:Hp} {env:Nat→SV} {a:Act} {all:List Oper} {o:Oper} {t:Bool} (h:∀ j want oj d,o.guard=some (j,want)→all[j]? = some oj→oj.dst=some d→bH g H (env d) (a.tmps.getD d undef)) (hg:gV all env o=some t):Region.wanted o (yielded all.toArray a.tmps)=t:=by
 unfold gV at hg
 unfold Region.wanted
 cases hgd:o.guard with
 | none=>rw[hgd] at hg;cases hg;rfl
 | some q =>
  obtain⟨j,want⟩:=q
  rw[hgd] at hg
  simp only at hg ⊢
  cases hj:all[j]? with
  | none=>rw[hj] at hg;cases hg
  | some oj =>
   rw[hj] at hg
   simp only at hg
   cases hd:oj.dst with
   | none=>rw[hd] at hg;cases hg
   | some d =>
    rw[hd] at hg
    simp only at hg
    have hr:=h j want oj d hgd hj hd
    have hy:yielded all.toArray a.tmps j=match a.tmps[d]? with|some (.bool b)=>some b|_=>none:=by
     unfold yielded
     simp[hj,hd]
     cases a.tmps[d]?<;>rfl
    rw[hy]
    rw[Array.getD_eq_getD_getElem?] at hr
    cases hx:(env d).exact with
    | none=>rw[hx] at hg;cases hg
    | some v =>
     rw[hx] at hg
     have hv:=SV.exact_rep hr hx
     cases ht:a.tmps[d]? with
     | none =>
      rw[ht] at hv
      simp only[Option.getD_none] at hv
      subst hv
      simp only[undef] at hg
      cases hg
      simp
     | some u =>
      rw[ht] at hv
      simp only[Option.getD_some] at hv
      subst hv
      cases u<;>simp only at hg<;>cases hg<;>first|rfl|simp
theorem wO {P:Program} {W0:Fr} {K0:aW} {all:List Oper} {Q:Exit→Act→World→Prop} {k:St→List Foot→Prop} {ro:Option Nat} (hk:∀ g σ tr a w,k σ tr→Rel W0 K0 g σ a w→Q .normal a w) :
  ∀ (l:List Oper) (g:G) (σ:St) (tr:List Foot) (a:Act) (w:World),lY P all l σ tr k→Rel W0 K0 g σ a w→wpListIn (fen ro) 0 P all.toArray Q l a w
 | [],g,σ,tr,a,w,h,hr=>hk g σ _ a w h hr
 | o::os,g,σ,tr,a,w,h,hr=>by
  simp only[lY] at h
  split at h
  ·exact h.elim
  ·rename_i t ht
   have hw:=eD (a:=a) (fun _ _ _ d _ _ _=>hr.env d) ht
   unfold wpListIn
   rw[hw]
   cases t with
   | true =>
    obtain⟨r,hr1,hd,hrest⟩:=oN (h.1 rfl)
    simp only[if_true]
    refine Oper.wpIn_mono ?_ (vV hr hr1 hd ro Q)
    rintro a' w' ⟨g',hr'⟩
    exact wO hk os g' _ _ a' w' hrest hr'
   | false =>
    obtain⟨hd,hrest⟩:=h.2 rfl
    simp only[Bool.false_eq_true,if_false]
    exact⟨fun _ _=>trivial,wO hk os g _ _ _ w hrest (rU hr hd)⟩
def mH {α:Type} (N:Nat) (f:Nat→Bool) (key:Nat→Option Nat) (val:Nat→α) (base:Nat→α) (x:Nat):α :=
 match (List.range N).reverse.find? (fun j=>f j && key j == some x) with
 | some j=>val j
 | none=>base x
theorem tM {α:Type} {p q:α→Bool}:∀ {l:List α},(∀ x ∈ l,p x=q x)→l.find? p=l.find? q
 | [],_=>rfl
 | x::l,h=>by
  simp only[List.find?_cons]
  rw[h x (by simp),tM (fun y hy=>h y (by simp[hy]))]
theorem iA {α:Type} {N:Nat} {f f' : Nat→Bool} {key:Nat→Option Nat} {val base:Nat→α} {x:Nat} (h:∀ j,j<N→key j=some x→f j=f' j):mH N f key val base x=mH N f' key val base x:=by
 unfold mH
 rw[tM (q:=fun j=>f' j && key j == some x)]
 intro j hj
 have hj:j<N:=by simpa using hj
 by_cases hk:key j=some x
 ·simp only[h j hj hk]
 ·have:(key j == some x)=false:=by simpa using hk
  simp only[this,Bool.and_false]
def wA {α:Type} (f:Nat→α) (k:Option Nat) (v:α):Nat→α:=match k with
 | some x=>upd f x v
 | none=>f
theorem aDa {N i:Nat} {p:Nat→Bool} (hi:i<N) (hp:p i=true) (hl:∀ j,i<j→j<N→p j=false):(List.range N).reverse.find? p=some i:=by
 have hr:List.range N=List.range i++(i::List.range' (i+1) (N - i - 1)):=by
  rw[List.range_eq_range',List.range_eq_range']
  have:(i::List.range' (i+1) (N - i - 1))=List.range' i (N - i):=by
   rw[show N - i=(N - i - 1)+1 from by omega,List.range'_succ];simp
  rw[this]
  have h:=List.range'_append (s:=0) (m:=i) (n:=N - i) (step:=1)
  rw[show i+(N - i)=N from by omega] at h
  simpa using h.symm
 rw[hr,List.reverse_append,List.reverse_cons,List.append_assoc,List.find?_append]
 have:(List.range' (i+1) (N - i - 1)).reverse.find? p=none:=by
  rw[List.find?_eq_none]
  intro j hj
  simp only[List.mem_reverse,List.mem_range'_1] at hj
  rw[hl j (by omega) (by omega)];simp
 rw[this]
 simp[hp]
def gZ (f:Nat→Bool) (i:Nat):Nat→Bool:=fun j=>if j=i then true else f j
theorem nF {α:Type} {N i:Nat} {f:Nat→Bool} {key:Nat→Option Nat} {val base:Nat→α} (hi:i<N) (hl:∀ j x,i<j→j<N→key i=some x→key j=some x→f j=false) :
  mH N (gZ f i) key val base=wA (mH N f key val base) (key i) (val i):=by
 funext y
 cases hk:key i with
 | none =>
  exact iA (fun j hj hkj=>by unfold gZ;rw[if_neg (fun e=>by subst e;rw[hk] at hkj;cases hkj)])
 | some x =>
  by_cases hxy:y=x
  ·subst hxy
   rw[show wA (mH N f key val base) (some y) (val i) y=val i from aC _ _ _]
   unfold mH
   rw[aDa hi (by simp[gZ,hk]) (fun j h1 h2=>by
    by_cases hkj:key j=some y
    ·have:=hl j y h1 h2 hk hkj
     simp[gZ,show ¬ j=i from by omega,this]
    ·simp[hkj])]
  ·rw[show wA (mH N f key val base) (some x) (val i) y=mH N f key val base y from aB _ _ hxy]
   exact iA (fun j hj hkj=>by unfold gZ;rw[if_neg (fun e=>by subst e;rw[hk] at hkj;cases hkj;exact hxy rfl)])
/-! what an operation waits for -/
def fR (o:Oper):List Nat:=(o.after.toList.filter (Region.binds .any ·)).map (·.on)
def ins (x:Nat) (l:List Nat):List Nat:=if l.contains x then l else x::l
def aMk:List Oper→List (List Nat)→List (List Nat)
 | [],acc=>acc
 | o::os,acc=>aMk os (acc++[(fR o).foldl (fun l i=>(acc.getD i []).foldl (fun l x=>ins x l) (ins i l)) []])
theorem aLr {x y:Nat} {l:List Nat} (h:y ∈ ins x l):y=x∨y ∈ l:=by
 unfold ins at h
 split at h
 ·exact .inr h
 ·simpa using h
theorem aAt {y:Nat}:∀ {m l:List Nat},y ∈ m.foldl (fun l x=>ins x l) l→y ∈ m∨y ∈ l
 | [],l,h=>.inr h
 | x::m,l,h=>by
  rcases aAt (m:=m) (l:=ins x l) h with h|h
  ·exact .inl (by simp[h])
  ·rcases aLr h with rfl|h
   ·exact .inl (by simp)
   ·exact .inr h
theorem aI2 {acc:List (List Nat)} {y:Nat}:∀ {es l:List Nat},y ∈ es.foldl (fun l i=>(acc.getD i []).foldl (fun l x=>ins x l) (ins i l)) l→y ∈ l∨∃ i ∈ es,y=i∨y ∈ acc.getD i []
 | [],l,h=>.inl h
 | i::es,l,h=>by
  rcases aI2 (es:=es) h with h|⟨k,hk,h⟩
  ·rcases aAt h with h|h
   ·exact .inr ⟨i,by simp,.inr h⟩
   ·rcases aLr h with rfl|h
    ·exact .inr ⟨y,by simp,.inl rfl⟩
    ·exact .inl h
  ·exact .inr ⟨k,by simp[hk],h⟩
theorem qU {L:Nat→Prop} {all:List Oper} (hL:∀ j o,all[j]? = some o→L j→∀ i ∈ fR o,L i):∀ (os pre:List Oper) (acc:List (List Nat)),all=pre++os→acc.length=pre.length→(∀ j l,acc[j]? = some l→L j→∀ i ∈ l,L i) →
  ∀ j l,(aMk os acc)[j]? = some l→L j→∀ i ∈ l,L i
 | [],pre,acc,hall,hlen,hacc,j,l,hj,hLj,i,hi=>hacc j l hj hLj i hi
 | o::os,pre,acc,hall,hlen,hacc,j,l,hj,hLj,i,hi=>by
  refine qU hL os (pre++[o]) _ (by simp[hall]) (by simp[hlen]) ?_ j l hj hLj i hi
  intro j l hj hLj i hi
  rcases Nat.lt_or_ge j acc.length with h|h
  ·rw[List.getElem?_append_left h] at hj
   exact hacc j l hj hLj i hi
  ·rw[List.getElem?_append_right h] at hj
   have hj0:j - acc.length=0:=by
    rcases Nat.eq_zero_or_pos (j - acc.length) with h' | h'
    ·exact h'
    ·rw[show j - acc.length=(j - acc.length - 1)+1 from by omega] at hj;simp at hj
   rw[hj0] at hj
   simp only[List.getElem?_cons_zero,Option.some.injEq] at hj
   subst hj
   have hjo:all[j]? = some o:=by
    rw[hall,List.getElem?_append_right (by omega),show j - pre.length=0 from by omega];rfl
   rcases aI2 hi with hi|⟨k,hk,hi⟩
   ·simp at hi
   ·have hLk:=hL j o hjo hLj k hk
    rcases hi with rfl|hi
    ·exact hLk
    ·cases hka:acc[k]? with
     | none=>rw[List.getD_eq_getElem?_getD,hka] at hi;simp at hi
     | some m =>
      rw[List.getD_eq_getElem?_getD,hka] at hi
      exact hacc k m hka hLk i (by simpa using hi)
def eE (all:List Oper) (o:Oper):List Nat :=
 (o.op.operands.toList.filterMap fun | .tmp t=>some t|_=>none)++(match o.guard with
  | some (j,_)=>match all[j]? with
   | some oj=>oj.dst.toList
   | none=>[]
  | none=>[])
def iR (x:Option Nat) (l:List Nat):Bool:=match x with
 | some d=>!l.contains d
 | none=>true
def qI (all:List Oper) (oi oj:Oper) (fi fj:Foot):Bool :=
 !(iR oi.dst (eE all oj++oj.dst.toList) && iR oj.dst (eE all oi) && iR fi.wr fj.fp && iR fj.wr fi.fp)
def aT0 (all:List Oper) (bs:List (List Nat)) (fs:List Foot):Bool :=
 (List.range all.length).all fun j=>(List.range j).all fun i =>
  match all[i]?,all[j]?,fs[i]?,fs[j]?,bs[j]? with
  | some oi,some oj,some fi,some fj,some b=>!qI all oi oj fi fj || b.contains i
  | _,_,_,_,_=>false
def aH (all:List Oper) (fs:List Foot):Bool :=
 fs.length == all.length && aT0 all (aMk all []) fs && ((List.range all.length).all fun j=>match all[j]? with
  | some o=>(fR o).all (· < j)
  | none=>false) && fs.all fun f=>match f.wr with
   | some x=>f.fp.contains x
   | none=>true
theorem aNl {all:List Oper} {fs:List Foot} (h:aH all fs=true) {j:Nat} {o:Oper} (hj:all[j]? = some o) {i:Nat} (hi:i ∈ fR o):i<j:=by
 simp only[aH,Bool.and_eq_true] at h
 have:=List.all_eq_true.1 h.1.2 j (by simpa using (List.getElem?_eq_some_iff.1 hj).1)
 rw[hj] at this
 have:=List.all_eq_true.1 this i hi
 simpa using this
theorem aT1 {all:List Oper} {fs:List Foot} (h:aH all fs=true) {j x:Nat} {f:Foot} (hj:fs[j]? = some f) (hx:f.wr=some x):x ∈ f.fp:=by
 simp only[aH,Bool.and_eq_true] at h
 have:=List.all_eq_true.1 h.2 f (List.mem_of_getElem? hj)
 rw[hx] at this
 simpa using this
theorem aDo {all:List Oper} {fs:List Foot} (h:aH all fs=true) {i j:Nat} {oi oj:Oper} {fi fj:Foot} (hij:i<j) (hi:all[i]? = some oi) (hj:all[j]? = some oj) (hfi:fs[i]? = some fi) (hfj:fs[j]? = some fj)
  (hn:qI all oi oj fi fj=true) {L:Nat→Prop} (hL:∀ j o,all[j]? = some o→L j→∀ i ∈ fR o,L i) (hLj:L j):L i:=by
 have hcl:=qU hL all [] [] rfl rfl (fun j l hj=>by simp at hj) j
 simp only[aH,Bool.and_eq_true] at h
 have h2:=List.all_eq_true.1 h.1.1.2 j (by simpa using (List.getElem?_eq_some_iff.1 hj).1)
 have h3:=List.all_eq_true.1 h2 i (by simpa using hij)
 rw[hi,hj,hfi,hfj] at h3
 cases hb:(aMk all [])[j]? with
 | none=>rw[hb] at h3;cases h3
 | some b =>
  rw[hb] at h3
  simp only[hn,Bool.not_true,Bool.false_or,List.contains_iff_mem] at h3
  exact hcl b hb hLj i h3
theorem aDm {all:List Oper} {oi oj:Oper} {fi fj:Foot} {d:Nat} (h:oi.dst=some d) (hr:d ∈ eE all oj∨oj.dst=some d):qI all oi oj fi fj=true:=by
 have:iR oi.dst (eE all oj++oj.dst.toList)=false:=by
  rw[h];simp only[iR,Bool.not_eq_false',List.contains_iff_mem]
  rcases hr with hr|hr
  ·simp[hr]
  ·simp[hr]
 simp[qI,this]
theorem aKj {all:List Oper} {oi oj:Oper} {fi fj:Foot} {d:Nat} (h:oj.dst=some d) (hr:d ∈ eE all oi):qI all oi oj fi fj=true:=by
 have:iR oj.dst (eE all oi)=false:=by
  rw[h];simp only[iR,Bool.not_eq_false',List.contains_iff_mem];exact hr
 simp[qI,this]
theorem aI7 {all:List Oper} {oi oj:Oper} {fi fj:Foot} {d:Nat} (h:fi.wr=some d) (hr:d ∈ fj.fp):qI all oi oj fi fj=true:=by
 have:iR fi.wr fj.fp=false:=by
  rw[h];simp only[iR,Bool.not_eq_false',List.contains_iff_mem];exact hr
 simp[qI,this]
theorem aNh {all:List Oper} {oi oj:Oper} {fi fj:Foot} {d:Nat} (h:fj.wr=some d) (hr:d ∈ fi.fp):qI all oi oj fi fj=true:=by
 have:iR fj.wr fi.fp=false:=by
  rw[h];simp only[iR,Bool.not_eq_false',List.contains_iff_mem];exact hr
 simp[qI,this]
end Go.Proofs.YtkmfmphpndhkjaaGreatDoor
namespace Go.Proofs.YtkmfmphpndhkjaaGreatDoor
open Go Go.RowKit
set_option linter.unusedVariables false
set_option linter.unusedSimpArgs false
section
variable {P:Program} {ops:Array Oper} {Q:Exit→Act→World→Prop} {md:Region.Mode} {ro:Option Nat}
def zA (l:Array Bool):Nat:=l.toList.countP (! ·)
theorem yB {l:Array Bool} {i:Nat} (h:l.getD i true=false):zA (l.setIfInBounds i true)+1=zA l:=by
 obtain⟨l⟩:=l
 unfold zA
 simp only[Array.getD_eq_getD_getElem?,List.getElem?_toArray] at h
 simp only[List.setIfInBounds_toArray]
 induction l generalizing i with
 | nil=>simp at h
 | cons b l ih =>
  cases i with
  | zero=>simp at h;subst h;simp
  | succ i =>
   simp only[List.getElem?_cons_succ] at h
   have:=ih h
   simp only[List.set_cons_succ,List.countP_cons]
   omega
theorem aF6 {listed:Array Bool} {i:Nat} (h:i ∈ Region.ready md ops listed) :
  listed.getD i true=false∧∃ o,ops[i]? = some o∧∀ e ∈ o.after,Region.binds md e=true→listed.getD e.on false=true:=by
 unfold Region.ready at h
 rw[List.mem_filter] at h
 obtain⟨h1,h2⟩:=h
 simp only[Bool.and_eq_true,Bool.not_eq_true'] at h2
 refine⟨h2.1,?_⟩
 cases ho:ops[i]? with
 | none=>rw[ho] at h2;simp at h2
 | some o =>
  rw[ho] at h2
  refine⟨o,rfl,fun e he hb=>?_⟩
  have h3:=h2.2
  simp only[Option.map_some,Option.getD_some,Array.all_eq_true'] at h3
  have:=h3 e he
  simpa [hb] using this
theorem aHo {Inv:Array Bool→Act→World→Prop}
  (hstep:∀ (listed:Array Bool) (a:Act) (w:World) (i:Nat),listed.size=ops.size→Inv listed a w→i ∈ Region.ready md ops listed→wpOpIn (fen ro) 0 P ops Q i (fun a' w'=>Inv (listed.setIfInBounds i true) a' w') a w)
  (hdone:∀ (listed:Array Bool) (a:Act) (w:World),listed.size=ops.size→Inv listed a w→Region.ready md ops listed=[]→Q .normal a w) :
  ∀ (fuel:Nat) (listed:Array Bool) (a:Act) (w:World),listed.size=ops.size→zA listed≤fuel→Inv listed a w→wpAnyIn (fen ro) 0 P md ops Q fuel listed a w:=by
 intro fuel
 induction fuel with
 | zero =>
  intro listed a w hs hf hi
  have hr:Region.ready md ops listed=[]:=by
   cases h:Region.ready md ops listed with
   | nil=>rfl
   | cons i r =>
    have hm:i ∈ Region.ready md ops listed:=by rw[h];simp
    have h1:=(aF6 hm).1
    have:=yB h1
    omega
  exact⟨hr,hdone listed a w hs hi hr⟩
 | succ fuel ih =>
  intro listed a w hs hf hi
  refine⟨hdone listed a w hs hi,fun i him=>?_⟩
  have h1:=yB (aF6 him).1
  exact wpOpIn_mono (fun a' w' h=>ih _ a' w' (by simpa using hs) (by omega) h) (hstep listed a w i hs hi him)
end
def aM1 (P:Program) (all:List Oper) (i:Nat) (σ:St) (q:Option Res) (σ' : St):Prop :=
 ∃ o,all[i]? = some o∧mQ σ o∧match q with
  | some r=>gV all σ.env o=some true∧fW P o (bV σ.env) σ.H σ.nx r∧σ' = σ.step o r
  | none=>gV all σ.env o=some false∧σ' = σ.skip o
def iU:Option Res→Foot
 | some r=>⟨r.fp,r.up.map (·.1)⟩
 | none=>⟨[],none⟩
theorem zJ {P:Program} {all:List Oper} {k:St→List Foot→Prop}:∀ (l pre:List Oper) (σ:St) (tr:List Foot),all=pre++l→lY P all l σ tr k →
  ∃ (q:Nat→Option Res) (st:Nat→St),st pre.length=σ∧(∀ i,pre.length≤i→i<all.length→aM1 P all i (st i) (q i) (st (i+1))) ∧
   k (st all.length) (tr.reverse++(List.range' pre.length l.length).map (fun i=>iU (q i)))
 | [],pre,σ,tr,hall,h=>by
  refine⟨fun _=>none,fun _=>σ,rfl,fun i h1 h2=>?_,by simpa [lY] using h⟩
  rw[hall] at h2;simp at h2;omega
 | o::os,pre,σ,tr,hall,h=>by
  have hlen:all.length=pre.length+(os.length+1):=by rw[hall];simp
  have hget:all[pre.length]? = some o:=by rw[hall];simp
  simp only[lY] at h
  split at h
  ·exact h.elim
  ·rename_i t ht
   have key:∃ (q0:Option Res) (σ1:St),aM1 P all pre.length σ q0 σ1∧lY P all os σ1 (iU q0::tr) k:=by
    cases t with
    | true =>
     obtain⟨r,hr1,hd,hrest⟩:=oN (h.1 rfl)
     exact⟨some r,_,⟨o,hget,hd,ht,hr1,rfl⟩,hrest⟩
    | false =>
     obtain⟨hd,hrest⟩:=h.2 rfl
     exact⟨none,_,⟨o,hget,hd,ht,rfl⟩,hrest⟩
   obtain⟨q0,σ1,hs,hrest⟩:=key
   obtain⟨q,st,h0,hsteps,hk⟩:=zJ os (pre++[o]) σ1 (iU q0::tr) (by simp[hall]) hrest
   simp only[List.length_append,List.length_cons,List.length_nil,Nat.zero_add] at h0 hsteps hk
   refine⟨upd q pre.length q0,upd st pre.length σ,aC _ _ _,fun i h1 h2=>?_,?_⟩
   ·by_cases hi:i=pre.length
    ·subst hi
     rw[aC,aC,aB _ _ (by omega),h0];exact hs
    ·rw[aB _ _ hi,aB _ _ hi,aB _ _ (by omega)]
     exact hsteps i (by omega) h2
   ·rw[aB _ _ (by omega)]
    have e:(tr.reverse++(List.range' pre.length (o::os).length).map (fun i=>iU (upd q pre.length q0 i)))=(iU q0::tr).reverse++(List.range' (pre.length+1) os.length).map (fun i=>iU (q i)):=by
     simp only[List.length_cons,List.range'_succ,List.map_cons,aC,List.reverse_cons,List.append_assoc,List.cons_append,List.nil_append]
     congr 2
     apply List.map_congr_left
     intro i hi
     rw[List.mem_range'_1] at hi
     rw[aB _ _ (by omega)]
    rw[e];exact hk
theorem jP {all:List Oper} {E E' : Nat→SV} {o:Oper} (h:∀ t ∈ eE all o,E t=E' t):gV all E o=gV all E' o:=by
 unfold gV
 cases hg:o.guard with
 | none=>rfl
 | some q =>
  obtain⟨j,want⟩:=q
  simp only
  cases hj:all[j]? with
  | none=>rfl
  | some oj =>
   simp only
   cases hd:oj.dst with
   | none=>rfl
   | some d =>
    simp only
    rw[h d (by simp[eE,hg,hj,hd])]
theorem rD {all:List Oper} {E E' : Nat→SV} {o:Oper} (h:∀ t ∈ eE all o,E t=E' t):∀ x ∈ o.op.operands,bV E x=bV E' x:=by
 intro x hx
 cases x with
 | tmp t=>exact h t (by
   simp only[eE,List.mem_append,List.mem_filterMap]
   exact .inl ⟨.tmp t,by simpa using hx,rfl⟩)
 | _=>rfl
theorem aPe (H:Hp) (u:Option (Nat × HE)):pB H u=wA H (u.map (·.1)) (u.map (·.2)):=by
 cases u with
 | none=>rfl
 | some q=>rfl
def pS (i:Nat):Nat→Bool:=fun j=>decide (j<i)
theorem vH (i:Nat):pS (i+1)=gZ (pS i) i:=by
 funext j
 unfold pS gZ
 by_cases h:j=i
 ·subst h;simp
 ·rw[if_neg h]
  exact decide_eq_decide.2 (by omega)
theorem lN {α:Type} {N:Nat} {f:Nat→Bool} {key:Nat→Option Nat} {val base:Nat→α} (h:∀ j,f j=false):mH N f key val base=base:=by
 funext x
 unfold mH
 have:(List.range N).reverse.find? (fun j=>f j && key j == some x)=none:=by
  rw[List.find?_eq_none];intro j _;simp[h j]
 rw[this]
theorem yV {P:Program} {W0:Fr} {K0:aW} {id:Nat} {all:List Oper} {Q:Exit→Act→World→Prop} {k:St→List Foot→Prop} {g:G} {σ:St} {a:Act} {w:World} {ro:Option Nat} (hm:P.follows .mixedOrders=true) (hk:∀ g σ tr a w,k σ tr→Rel W0 K0 g σ a w→Q .normal a w)
  (h:lY P all all σ [] (fun σ' tr=>aH all tr=true∧k σ' tr)) (hr:Rel W0 K0 g σ a w):(Code.region id all.toArray true).wpIn (fen ro) 0 P Q a w:=by
 obtain⟨q,st,h0,hsteps,hok,hkk⟩:=zJ all [] σ [] rfl h
 simp only[List.length_nil,List.reverse_nil,List.nil_append,Nat.zero_le,forall_const] at h0 hsteps hok hkk
 have hfs:∀ i,i<all.length→((List.range' 0 all.length).map (fun i=>iU (q i)))[i]? = some (iU (q i)):=fun i hi=>by
  rw[List.getElem?_map,List.getElem?_range' (by simpa using hi)];simp
 generalize hF:(List.range' 0 all.length).map (fun i=>iU (q i))=fs at hok hkk hfs
 clear hF
 let vals:Nat→SV:=fun i=>match q i with|some r=>r.v|none=>.c (.d (.val undef))
 let upv:Nat→Option (Nat × HE):=fun i=>match q i with|some r=>r.up|none=>none
 let key1:Nat→Option Nat:=fun i=>(all[i]?).bind (·.dst)
 let key2:Nat→Option Nat:=fun i=>(upv i).map (·.1)
 let val2:Nat→Option HE:=fun i=>(upv i).map (·.2)
 let E:(Nat→Bool)→Nat→SV:=fun f=>mH all.length f key1 vals σ.env
 let Hf:(Nat→Bool)→Hp:=fun f=>mH all.length f key2 val2 σ.H
 have hwr:∀ i,(iU (q i)).wr=key2 i:=fun i=>by
  show _=(upv i).map (·.1)
  simp only[upv]
  cases q i<;>rfl
 have hst:∀ i,i≤all.length→(st i).env=E (pS i)∧(st i).H=Hf (pS i)∧(st i).sz=σ.sz∧(st i).fx=σ.fx:=by
  intro i
  induction i with
  | zero =>
   intro _
   rw[h0]
   exact⟨(lN (fun j=>by simp[pS])).symm,(lN (fun j=>by simp[pS])).symm,rfl,rfl⟩
  | succ i ih =>
   intro hi
   obtain⟨he,hH,hz⟩:=ih (by omega)
   obtain⟨o,ho,hd,hs⟩:=hsteps i (by omega)
   have e1:E (pS (i+1))=wA (E (pS i)) (key1 i) (vals i):=by
    show mH _ _ _ _ _=_
    rw[vH];exact nF (by omega) (fun j x h1 _ _ _=>by simp[pS];omega)
   have e2:Hf (pS (i+1))=wA (Hf (pS i)) (key2 i) (val2 i):=by
    show mH _ _ _ _ _=_
    rw[vH];exact nF (by omega) (fun j x h1 _ _ _=>by simp[pS];omega)
   have hk1:key1 i=o.dst:=by show (all[i]?).bind _=_;rw[ho];rfl
   cases hq:q i with
   | some r =>
    rw[hq] at hs
    obtain⟨_,_,hs⟩:=hs
    have hv:vals i=r.v:=by show (match q i with|some r=>r.v|none=>_)=_;rw[hq]
    have hu:upv i=r.up:=by show (match q i with|some r=>r.up|none=>_)=_;rw[hq]
    rw[hs]
    refine⟨?_,?_,hz⟩
    ·rw[e1,hk1,hv,← he]
     show mO (st i).env o.dst r.v=_
     cases o.dst<;>rfl
    ·rw[e2,← hH]
     show pB (st i).H r.up=wA _ ((upv i).map _) ((upv i).map _)
     rw[aPe,hu]
   | none =>
    rw[hq] at hs
    obtain⟨_,hs⟩:=hs
    have hv:vals i = .c (.d (.val undef)):=by show (match q i with|some r=>r.v|none=>_)=_;rw[hq]
    have hu:upv i=none:=by show (match q i with|some r=>r.up|none=>_)=_;rw[hq]
    rw[hs]
    refine⟨?_,?_,hz⟩
    ·rw[e1,hk1,hv,← he]
     show mO (st i).env o.dst _=_
     cases o.dst<;>rfl
    ·rw[e2,← hH]
     show (st i).H=wA _ ((upv i).map _) ((upv i).map _)
     rw[hu];rfl
 let fOf:Array Bool→Nat→Bool:=fun listed j=>listed.getD j false
 refine wpIn_region_any hm (aHo (Inv:=fun listed a w=>(∀ j o,all[j]? = some o→fOf listed j=true→∀ i ∈ fR o,fOf listed i=true)∧∃ g,Rel W0 K0 g ⟨E (fOf listed),Hf (fOf listed),0,σ.sz,σ.fx⟩ a w) ?_ ?_ _ _ _ _ (by simp) ?_ ?_)
 ·intro listed a w i hls hinv hri
  obtain⟨hcl,g,hrel⟩:=hinv
  obtain⟨hun,o,ho,hedge⟩:=aF6 hri
  have hlt:i<all.length:=by have:=(Array.getElem?_eq_some_iff.1 ho).1;simpa using this
  have hoi:all[i]? = some o:=by simpa using ho
  have hlsz:i<listed.size:=by rw[hls];simpa using hlt
  have hfi:fOf listed i=false:=by
   show listed.getD i false=false
   rw[Array.getD_eq_getD_getElem?,Array.getElem?_eq_getElem hlsz] at hun ⊢
   simpa using hun
  have hset:fOf (listed.setIfInBounds i true)=gZ (fOf listed) i:=by
   funext j
   show (listed.setIfInBounds i true).getD j false=_
   unfold gZ
   rw[Array.getD_eq_getD_getElem?,Array.getElem?_setIfInBounds]
   by_cases hj:j=i
   ·subst hj;simp[hlsz]
   ·rw[if_neg (Ne.symm hj),if_neg hj]
    show _=listed.getD j false
    rw[Array.getD_eq_getD_getElem?]
  have hcl' : ∀ j o',all[j]? = some o'→gZ (fOf listed) i j=true→∀ x ∈ fR o',gZ (fOf listed) i x=true:=by
   intro j o' hj hf x hx
   by_cases hji:j=i
   ·subst hji
    rw[hoi] at hj;cases hj
    simp only[fR,List.mem_map,List.mem_filter] at hx
    obtain⟨e,⟨he,hb⟩,rfl⟩:=hx
    have:=hedge e (by simpa using he) hb
    unfold gZ;split
    ·rfl
    ·exact this
   ·unfold gZ at hf
    rw[if_neg hji] at hf
    have:=hcl j o' hj hf x hx
    unfold gZ;split
    ·rfl
    ·exact this
  obtain⟨o',ho',hd,hs⟩:=hsteps i hlt
  rw[hoi] at ho';cases ho'
  obtain⟨hse,hsH,hssz⟩:=hst i (by omega)
  have hgetj:∀ j,j<all.length→∃ oj,all[j]? = some oj:=fun j hj=>⟨_,List.getElem?_eq_getElem hj⟩
  -- behind: what comes later in the text and hangs on i is not yet done
  have hlater:∀ j oj,i<j→all[j]? = some oj→qI all o oj (iU (q i)) (iU (q j))=true→fOf listed j=false:=by
   intro j oj hij hj hn
   cases hfj:fOf listed j with
   | false=>rfl
   | true =>
    have:=aDo hok hij hoi hj (hfs i hlt) (hfs j (List.getElem?_eq_some_iff.1 hj).1) hn (L:=fun x=>fOf listed x=true) hcl hfj
    rw[hfi] at this;cases this
  have hearlier:∀ j oj,j<i→all[j]? = some oj→qI all oj o (iU (q j)) (iU (q i))=true→fOf listed j=true:=by
   intro j oj hij hj hn
   have:=aDo hok hij hj hoi (hfs j (by omega)) (hfs i hlt) hn (L:=fun x=>gZ (fOf listed) i x=true) hcl' (by simp[gZ])
   unfold gZ at this
   rw[if_neg (by omega)] at this
   exact this
  have hA:∀ t ∈ eE all o,E (fOf listed) t=(st i).env t:=by
   intro t ht
   rw[hse]
   refine iA (fun j hj hkj=>?_)
   obtain⟨oj,hoj⟩:=hgetj j hj
   have hdj:oj.dst=some t:=by have:(all[j]?).bind (·.dst)=some t:=hkj;rw[hoj] at this;exact this
   rcases Nat.lt_trichotomy j i with h|h|h
   ·rw[hearlier j oj h hoj (aDm hdj (.inl ht))];simp[pS,h]
   ·subst h;rw[hfi];simp[pS]
   ·rw[hlater j oj h hoj (aKj hdj ht)];simp[pS];omega
  have hB:∀ x ∈ (iU (q i)).fp,Hf (fOf listed) x=(st i).H x:=by
   intro x hx
   rw[hsH]
   refine iA (fun j hj hkj=>?_)
   obtain⟨oj,hoj⟩:=hgetj j hj
   have hwj:(iU (q j)).wr=some x:=(hwr j).trans hkj
   rcases Nat.lt_trichotomy j i with h|h|h
   ·rw[hearlier j oj h hoj (aI7 hwj hx)];simp[pS,h]
   ·subst h;rw[hfi];simp[pS]
   ·rw[hlater j oj h hoj (aNh hwj hx)];simp[pS];omega
  have hE1:E (gZ (fOf listed) i)=wA (E (fOf listed)) (key1 i) (vals i):=by
   refine nF hlt (fun j x h1 h2 hki hkj=>?_)
   obtain⟨oj,hoj⟩:=hgetj j h2
   have hdi:o.dst=some x:=by have:(all[i]?).bind (·.dst)=some x:=hki;rw[hoi] at this;exact this
   have hdj:oj.dst=some x:=by have:(all[j]?).bind (·.dst)=some x:=hkj;rw[hoj] at this;exact this
   exact hlater j oj h1 hoj (aDm hdi (.inr hdj))
  have hH1:Hf (gZ (fOf listed) i)=wA (Hf (fOf listed)) (key2 i) (val2 i):=by
   refine nF hlt (fun j x h1 h2 hki hkj=>?_)
   obtain⟨oj,hoj⟩:=hgetj j h2
   have hwi:(iU (q i)).wr=some x:=(hwr i).trans hki
   have hwj:(iU (q j)).wr=some x:=(hwr j).trans hkj
   exact hlater j oj h1 hoj (aI7 hwi (aT1 hok (hfs j h2) hwj))
  have hk1:key1 i=o.dst:=by show (all[i]?).bind _=_;rw[hoi];rfl
  have hd' : mQ ⟨E (fOf listed),Hf (fOf listed),(st i).nx,σ.sz,σ.fx⟩ o:=by
   unfold mQ at hd ⊢
   rw[hssz.1] at hd;exact hd
  have hrel' : Rel W0 K0 g ⟨E (fOf listed),Hf (fOf listed),(st i).nx,σ.sz,σ.fx⟩ a w:=⟨hrel.mem,hrel.env,hrel.size,hrel.defers,hrel.ln,hrel.rd,hrel.nodup,hrel.lt⟩
  have hgb:gV all (E (fOf listed)) o=gV all (st i).env o:=jP hA
  unfold wpOpIn
  rw[ho]
  simp only
  cases hq:q i with
  | some r =>
   rw[hq] at hs
   obtain⟨hgd,hast,_⟩:=hs
   have hw:=eD (a:=a) (env:=E (fOf listed)) (fun _ _ _ d _ _ _=>hrel.env d) (hgb.trans hgd)
   rw[hw,if_pos rfl]
   have hv:vals i=r.v:=by show (match q i with|some r=>r.v|none=>_)=_;rw[hq]
   have hu:upv i=r.up:=by show (match q i with|some r=>r.up|none=>_)=_;rw[hq]
   have hloc:fW P o (bV (E (fOf listed))) (Hf (fOf listed)) (st i).nx r :=
    hast.local (fun x hx=>(rD hA x hx).symm) (fun x hx=>hB x (by rw[hq];exact hx))
   refine Oper.wpIn_mono ?_ (vV hrel' hloc hd' ro Q)
   rintro a' w' ⟨g',hr'⟩
   rw[hset]
   refine⟨hcl',g',?_⟩
   have e1:E (gZ (fOf listed) i)=mO (E (fOf listed)) o.dst r.v:=by
    rw[hE1,hk1,hv];cases o.dst<;>rfl
   have e2:Hf (gZ (fOf listed) i)=pB (Hf (fOf listed)) r.up:=by
    rw[hH1,aPe]
    show wA _ ((upv i).map _) ((upv i).map _)=_
    rw[hu]
   rw[e1,e2]
   exact⟨hr'.mem,hr'.env,hr'.size,hr'.defers,hr'.ln,hr'.rd,hr'.nodup,hr'.lt⟩
  | none =>
   rw[hq] at hs
   obtain⟨hgd,_⟩:=hs
   have hw:=eD (a:=a) (env:=E (fOf listed)) (fun _ _ _ d _ _ _=>hrel.env d) (hgb.trans hgd)
   rw[hw,if_neg (by simp)]
   have hv:vals i = .c (.d (.val undef)):=by show (match q i with|some r=>r.v|none=>_)=_;rw[hq]
   have hu:upv i=none:=by show (match q i with|some r=>r.up|none=>_)=_;rw[hq]
   refine⟨fun _ _=>trivial,?_⟩
   rw[hset]
   refine⟨hcl',g,?_⟩
   have e1:E (gZ (fOf listed) i)=mO (E (fOf listed)) o.dst (.c (.d (.val undef))):=by
    rw[hE1,hk1,hv];cases o.dst<;>rfl
   have e2:Hf (gZ (fOf listed) i)=Hf (fOf listed):=by
    rw[hH1]
    show wA _ ((upv i).map _) ((upv i).map _)=_
    rw[hu];rfl
   have:=rU hrel' hd'
   rw[e1,e2]
   exact⟨this.mem,this.env,this.size,this.defers,this.ln,this.rd,this.nodup,this.lt⟩
 ·intro listed a w hls hinv hready
  obtain⟨hcl,g,hrel⟩:=hinv
  have hall:∀ n j,j<n→j<all.length→fOf listed j=true:=by
   intro n
   induction n with
   | zero=>intro j h;omega
   | succ n ih =>
    intro j hj hjl
    cases hfj:fOf listed j with
    | true=>rfl
    | false =>
     exfalso
     obtain⟨oj,hoj⟩:∃ oj,all[j]? = some oj:=⟨_,List.getElem?_eq_getElem hjl⟩
     have hjs:j<listed.size:=by rw[hls];simpa using hjl
     have:j ∈ Region.ready .any all.toArray listed:=by
      unfold Region.ready
      rw[List.mem_filter]
      refine⟨by simpa using hjl,?_⟩
      have h1:listed.getD j true=false:=by
       have:listed.getD j false=false:=hfj
       rw[Array.getD_eq_getD_getElem?,Array.getElem?_eq_getElem hjs] at this ⊢
       simpa using this
      simp only[h1,Bool.not_false,Bool.true_and,List.getElem?_toArray,hoj,Option.map_some,Option.getD_some,Array.all_eq_true']
      intro e he
      cases hb:Region.binds .any e with
      | false=>simp
      | true =>
       have hm:e.on ∈ fR oj:=by
        simp only[fR,List.mem_map,List.mem_filter]
        exact⟨e,⟨by simpa using he,hb⟩,rfl⟩
       have hlt:=aNl hok hoj hm
       have:=ih e.on (by omega) (by omega)
       have this:listed.getD e.on false=true:=this
       simp[this]
     rw[hready] at this
     simp at this
  obtain⟨hse,hsH,hssz⟩:=hst all.length (Nat.le_refl _)
  have e1:E (fOf listed)=(st all.length).env:=by
   rw[hse];funext t
   exact iA (fun j hj _=>by rw[hall _ j (Nat.lt_succ_self j) hj];simp[pS,hj])
  have e2:Hf (fOf listed)=(st all.length).H:=by
   rw[hsH];funext t
   exact iA (fun j hj _=>by rw[hall _ j (Nat.lt_succ_self j) hj];simp[pS,hj])
  rw[e1,e2] at hrel
  exact hk g (st all.length) fs a w hkk ⟨hrel.mem,hrel.env,by rw[hssz.1];exact hrel.size,by rw[hssz.2];exact hrel.defers,by rw[hssz.2];exact hrel.ln,by rw[hssz.2];exact hrel.rd,by rw[hssz.2];exact hrel.nodup,by rw[hssz.2];exact hrel.lt⟩
 ·exact Nat.le_trans List.countP_le_length (by simp)
 ·have hf:∀ j,fOf (Array.replicate all.toArray.size false) j=false:=fun j=>by
   show (Array.replicate _ false).getD j false=false
   rw[Array.getD_eq_getD_getElem?]
   simp only[Array.getElem?_replicate]
   split<;>rfl
  refine⟨(fun j o hj h=>absurd h (by rw[hf j];simp)),g,?_⟩
  have e1:E (fOf (Array.replicate all.toArray.size false))=σ.env:=lN hf
  have e2:Hf (fOf (Array.replicate all.toArray.size false))=σ.H:=lN hf
  rw[e1,e2]
  exact⟨hr.mem.drew,hr.env,hr.size,hr.defers,hr.ln,hr.rd,hr.nodup,hr.lt⟩
end Go.Proofs.YtkmfmphpndhkjaaGreatDoor
namespace Go.Proofs.YtkmfmphpndhkjaaGreatDoor
open Go Go.RowKit
set_option linter.unusedVariables false
set_option linter.unusedSimpArgs false
def aD (σ σ' : St):Prop:=∀ W0 K0 g a w,Rel W0 K0 g σ a w→∃ g',Rel W0 K0 g' σ' a w
theorem aD.refl (σ:St):aD σ σ:=fun _ _ g _ _ h=>⟨g,h⟩
theorem aD.trans {σ σ' σ'' : St} (h:aD σ σ') (h' : aD σ' σ''):aD σ σ'':=fun W0 K0 g a w r=>let ⟨g',r'⟩:=h W0 K0 g a w r;h' W0 K0 g' a w r'
def Wp (P:Program) (c:Code) (σ:St) (Q:Exit→St→Prop):Prop:=∀ W0 K0 g a w,Rel W0 K0 g σ a w→c.wpIn (fen W0.ro) 0 P (fun e a' w'=>∃ g' σ',Rel W0 K0 g' σ' a' w'∧Q e σ') a w
def eO (K:St→Prop) (Q:Exit→St→Prop):Exit→St→Prop
 | .normal,σ=>K σ
 | e,σ=>Q e σ
def fT (id:Nat) (Q:Exit→St→Prop):Exit→St→Prop
 | .exit i,σ=>if i=id then Q .normal σ else Q (.exit i) σ
 | e,σ=>Q e σ
section
variable {P:Program} {σ:St} {Q:Exit→St→Prop}
theorem Wp.weak {c:Code} {σ' : St} (hw:aD σ σ') (h:Wp P c σ' Q):Wp P c σ Q:=fun W0 K0 g a w r=>let ⟨g',r'⟩:=hw W0 K0 g a w r;h W0 K0 g' a w r'
theorem Wp.mono {c:Code} {Q' : Exit→St→Prop} (h:Wp P c σ Q) (hq:∀ e σ,Q e σ→Q' e σ):Wp P c σ Q':=fun W0 K0 g a w r =>
 wpIn_mono (h W0 K0 g a w r) (fun e a' w' ⟨g',σ',hr,hQ⟩=>⟨g',σ',hr,hq e σ' hQ⟩)
theorem Wp.skip (h:Q .normal σ):Wp P .skip σ Q:=fun _ _ g _ _ r=>wpIn_skip ⟨g,σ,r,h⟩
theorem Wp.ret (h:Q .ret σ):Wp P .ret σ Q:=fun _ _ g _ _ r=>wpIn_ret ⟨g,σ,r,h⟩
theorem Wp.exit {id:Nat} (h:Q (.exit id) σ):Wp P (.exit id) σ Q:=fun _ _ g _ _ r=>wpIn_exit ⟨g,σ,r,h⟩
theorem Wp.label {l:Nat} (h:Q .normal σ):Wp P (.label l) σ Q:=fun _ _ g _ _ r=>wpIn_label ⟨g,σ,r,h⟩
theorem Wp.seq {x y:Code} (h:Wp P x σ (eO (fun σ'=>Wp P y σ' Q) Q)):Wp P (.seq x y) σ Q:=fun W0 K0 g a w r =>
 wpIn_seq (wpIn_mono (h W0 K0 g a w r) (fun e a' w' ⟨g',σ',hr,hQ⟩=>by
  cases e with
  | normal=>exact hQ W0 K0 g' a' w' hr
  | _=>exact⟨g',σ',hr,hQ⟩))
theorem Wp.block {id:Nat} {c:Code} (h:Wp P c σ (fT id Q)):Wp P (.block id c) σ Q:=fun W0 K0 g a w r =>
 wpIn_block (wpIn_mono (h W0 K0 g a w r) (fun e a' w' ⟨g',σ',hr,hQ⟩=>by
  cases e with
  | exit i =>
   simp only[fT] at hQ
   simp only[Exit.inBlock]
   split
   ·rename_i e;rw[if_pos e] at hQ;exact⟨g',σ',hr,hQ⟩
   ·rename_i e;rw[if_neg e] at hQ;exact⟨g',σ',hr,hQ⟩
  | _=>exact⟨g',σ',hr,hQ⟩))
theorem Wp.cond {c:Operand} {x y:Code} {t:Bool} (hc:bV σ.env c = .c (.d (.val (.bool t)))) (h1:t=true→Wp P x σ Q) (h2:t=false→Wp P y σ Q):Wp P (.cond c x y) σ Q:=fun W0 K0 g a w r=>by
 have hv:=iQ r c
 rw[hc] at hv
 have hv:Rep g.K (.val (.bool t)) (a.eval c):=hv
 have hv' : a.eval c = .bool t:=by
  generalize a.eval c=v at hv
  cases hv;rfl
 exact wpIn_cond_split hv' (fun e=>h1 e W0 K0 g a w r) (fun e=>h2 e W0 K0 g a w r)
theorem Wp.region {id:Nat} {all:List Oper} (h:∀ K:St→Prop,(∀ σ',Q .normal σ'→K σ')→lY P all all σ [] (fun σ' _=>K σ')):Wp P (.region id all.toArray false) σ Q:=fun W0 K0 g a w r =>
 wpIn_region_lit (wO (fun g' σ' tr a' w' hk hr=>⟨g',σ',hr,hk⟩) all g σ [] a w (h (fun σ'=>Q .normal σ') (fun _ h=>h)) r)
theorem Wp.drawn {id:Nat} {all:List Oper} (hm:P.follows .mixedOrders=true) (h:∀ K:St→Prop,(∀ σ',Q .normal σ'→K σ')→lY P all all σ [] (fun σ' tr=>aH all tr=true∧K σ')):Wp P (.region id all.toArray true) σ Q:=fun W0 K0 g a w r =>
 yV hm (k:=fun σ' _=>Q .normal σ') (fun g' σ' tr a' w' hk hr=>⟨g',σ',hr,hk⟩) (h (fun σ'=>Q .normal σ') (fun _ h=>h)) r
theorem Wp.seqRegion {id:Nat} {all:List Oper} {y:Code} (h:∀ K:St→Prop,(∀ σ',Wp P y σ' Q→K σ')→lY P all all σ [] (fun σ' _=>K σ')):Wp P (.seq (.region id all.toArray false) y) σ Q :=
 Wp.seq (Wp.region (fun K hK=>h K hK))
theorem Wp.seqDrawn {id:Nat} {all:List Oper} {y:Code} (hm:P.follows .mixedOrders=true) (h:∀ K:St→Prop,(∀ σ',Wp P y σ' Q→K σ')→lY P all all σ [] (fun σ' tr=>aH all tr=true∧K σ')):Wp P (.seq (.region id all.toArray true) y) σ Q :=
 Wp.seq (Wp.drawn hm (fun K hK=>h K hK))
theorem aFy {F:Fence} {ι:Type} {c:Code} {Q:Exit→Act→World→Prop} {a:Act} {w:World} (I:ι→Act→World→Prop) (μ:ι→Nat) (i0:ι) (h₀:I i0 a w)
  (round:∀ i a w,I i a w→c.wpIn F 0 P (Exit.then (fun a' w'=>∃ j,I j a' w'∧μ j<μ i) Q) a w):(Code.loop c).wpIn F 0 P Q a w:=by
 intro b k cs hro hb hr
 have key:∀ n i a w,μ i=n→I i a w →
   ∃ e a' w',Q e a' w'∧ArrivesIn (Machine.fenced P F) P (lone (b.atR a (.code c :: .inLoop c::k)) cs w) b k cs e a' w':=by
  intro n
  induction n using Nat.strongRecOn with
  | _ n ih =>
   intro i a w hn hI
   obtain⟨e,a₁,w₁,hq,harr⟩:=round i a w hI b (.inLoop c::k) cs hro hb hr
   cases e with
   | normal =>
    obtain⟨j,hI₁,hlt⟩:=hq
    obtain⟨e₂,a₂,w₂,hq₂,harr₂⟩:=ih (μ j) (hn ▸ hlt) j a₁ w₁ rfl hI₁
    exact⟨e₂,a₂,w₂,hq₂,.of_steps (StepsIn.trans harr (.one (fenced_calm hb hr rfl) stepR_inLoop)) harr₂⟩
   | exit id=>exact⟨_,a₁,w₁,hq,.pass (x:=.inLoop c) rfl (fun _ _=>.inl (by simp)) harr⟩
   | goto l=>exact⟨_,a₁,w₁,hq,.pass (x:=.inLoop c) rfl (fun _ _=>.inl (by simp)) harr⟩
   | ret=>exact⟨_,a₁,w₁,hq,.pass (x:=.inLoop c) rfl (fun _ _=>.inl (by simp)) harr⟩
   | panic ch=>exact⟨_,a₁,w₁,hq,.pass (x:=.inLoop c) rfl (fun _ _=>.inl (by simp)) harr⟩
   | outgrown=>exact⟨_,a₁,w₁,hq,.pass (x:=.inLoop c) rfl (fun _ _=>.inl (by simp)) harr⟩
 obtain⟨e,a',w',hq,harr⟩:=key _ i0 a w rfl h₀
 exact⟨e,a',w',hq,.of_steps (.one (fenced_calm hb hr rfl) stepR_loop) harr⟩
theorem Wp.loop {c:Code} {ι:Type} (S:ι→St) (Pre:ι→Prop) (μ:ι→Nat) (i0:ι) (h0:Pre i0) (hw:aD σ (S i0))
  (round:∀ i,Pre i→Wp P c (S i) (eO (fun σ'=>∃ j,Pre j∧μ j<μ i∧aD σ' (S j)) Q)):Wp P (.loop c) σ Q:=by
 intro W0 K0 g a w r
 obtain⟨g0,r0⟩:=hw W0 K0 g a w r
 refine aFy (fun i a w=>∃ g,Pre i∧Rel W0 K0 g (S i) a w) μ i0 ⟨g0,h0,r0⟩ ?_
 rintro i a w ⟨g,hi,hr⟩
 refine wpIn_mono (round i hi W0 K0 g a w hr) (fun e a' w' ⟨g2,σ2,hr2,hQ⟩=>?_)
 cases e with
 | normal =>
  obtain⟨j,hj,hlt,hwk⟩:=hQ
  obtain⟨g3,hr3⟩:=hwk W0 K0 g2 a' w' hr2
  exact⟨j,⟨g3,hj,hr3⟩,hlt⟩
 | _=>exact⟨g2,σ2,hr2,hQ⟩
end
/-! functions -/
def retV (P:Program) (σ:St):ResultVar→Option D
 | .tmp t=>(σ.env t).toD σ.H
 | .cell a t=>match bW P t σ.H (σ.env a) with
  | some r=>r.v.toD σ.H
  | none=>none
def rD0 (P:Program) (σ:St) (rs:List ResultVar):Option D :=
 match rs with
 | [r]=>retV P σ r
 | rs=>match bZ (retV P σ) rs with
  | some ds=>some (.tup ds)
  | none=>none
def eS (P:Program) (rs:List ResultVar) (r:D):Exit→St→Prop
 | .normal,σ=>rD0 P σ rs=some r
 | .ret,σ=>rD0 P σ rs=some r
 | _,_=>False
def aQp (tmps:Array Value):ResultVar→Sem Value
 | .tmp t=>pure (tmps.getD t undef)
 | .cell b t=>do loadVar t (← asAddr (tmps.getD b undef))
theorem aBh (fn:Func) (tmps:Array Value):results fn tmps=(do
  let vs ← fn.results.mapM (aQp tmps)
  pure (if h:vs.size=1 then vs[0] else .tuple vs)):=by
 unfold results
 have key:∀ m m' : ResultVar→Sem Value,m=m'→(do
   let vs ← fn.results.mapM m
   pure (if h:vs.size=1 then vs[0] else .tuple vs):Sem Value)=(do
   let vs ← fn.results.mapM m'
   pure (if h:vs.size=1 then vs[0] else .tuple vs)):=by rintro _ _ rfl;rfl
 exact key _ _ (funext fun x=>by cases x<;>rfl)
theorem aBi {P:Program} {W0:Fr} {K0:aW} {g:G} {σ:St} {a:Act} {w:World} (hr:Rel W0 K0 g σ a w) {x:ResultVar} {d:D} (h:retV P σ x=some d) :
  ∃ v,(aQp a.tmps x).run P w = .ok v w∧Rep g.K d v:=by
 cases x with
 | tmp t=>exact⟨_,rfl,SV.toD_rep hr.mem (hr.env t) h⟩
 | cell b t =>
  simp only[retV] at h
  split at h
  ·rename_i r hl
   obtain⟨u,hrun,hv,_⟩:=aAj (P:=P) hr.mem (hr.env b) hl
   refine⟨u,?_,SV.toD_rep hr.mem hv h⟩
   show Sem.run P (do loadVar t (← asAddr (a.tmps.getD b undef))) w=_
   generalize a.tmps.getD b undef=va at hrun
   unfold Instr.loadAt at hrun
   rw[Sem.run_bind] at hrun ⊢
   cases va with
   | pointer p=>cases p with
    | some ad=>exact hrun
    | none=>cases hrun
   | _=>cases hrun
  ·cases h
theorem lX {P:Program} {W0:Fr} {K0:aW} {g:G} {σ:St} {a:Act} {w:World} {fn:Func} (hr:Rel W0 K0 g σ a w) {d:D} (h:rD0 P σ fn.results.toList=some d) :
  ∃ v,(results fn a.tmps).run P w = .ok v w∧Rep g.K d v:=by
 have hlist:∀ (rs:List ResultVar) (ds:List D),bZ (retV P σ) rs=some ds→∃ vs,(rs.mapM (aQp a.tmps)).run P w = .ok vs w∧gK g.K ds vs:=by
  intro rs
  induction rs with
  | nil=>intro ds hd;simp[bZ] at hd;subst hd;exact⟨[],rfl,rfl,fun j x v hx=>by simp at hx⟩
  | cons x rs ih =>
   intro ds hd
   simp only[bZ] at hd
   cases hx:retV P σ x with
   | none=>rw[hx] at hd;cases hd
   | some y =>
    cases hm:bZ (retV P σ) rs with
    | none=>rw[hx,hm] at hd;cases hd
    | some ys =>
     rw[hx,hm] at hd;cases hd
     obtain⟨v,hv,hry⟩:=aBi hr hx
     obtain⟨vs,hvs,hrs⟩:=ih ys hm
     refine⟨v::vs,?_,by simp[hrs.1],fun j x v' hx hv'=>?_⟩
     ·rw[List.mapM_cons,Sem.run_bind,hv]
      simp only[Result.andThen_ok,Sem.run_bind,hvs,Sem.run_pure]
     ·cases j with
      | zero=>simp at hx hv';subst hx hv';exact hry
      | succ j=>exact hrs.2 j x v' (by simpa using hx) (by simpa using hv')
 have hrun:∀ vs,(fn.results.toList.mapM (aQp a.tmps)).run P w = .ok vs w →
   (results fn a.tmps).run P w = .ok (if h:vs.toArray.size=1 then vs.toArray[0] else .tuple vs.toArray) w:=by
  intro vs h
  rw[aBh,Sem.run_bind,Array.mapM_eq_mapM_toList,Sem.run_map,h]
  rfl
 unfold rD0 at h
 split at h
 ·rename_i r hrs
  obtain⟨v,hv,hd⟩:=aBi hr h
  obtain⟨vs,hvs,hL⟩:=hlist fn.results.toList [d] (by rw[hrs];simp[bZ,h])
  refine⟨_,hrun vs hvs,?_⟩
  have hl:vs.length=1:=by have:=hL.1;simp at this;omega
  match vs,hl with
  | [u],_=>exact hL.2 0 d u rfl rfl
 ·rename_i hns
  split at h
  ·rename_i ds hds
   cases h
   obtain⟨vs,hvs,hL⟩:=hlist fn.results.toList ds hds
   refine⟨_,hrun vs hvs,?_⟩
   have hl:¬ vs.toArray.size=1:=by
    have h1:=(dW hds).1
    have h2:=hL.1
    intro e
    simp only[List.size_toArray] at e
    have h3:fn.results.toList.length=1:=by omega
    match hm:fn.results.toList,h3 with
    | [x],_=>exact hns x hm
   rw[dif_neg hl]
   exact .tup hL.1 hL.2
  ·cases h
def AgO (H H' : Hp):Prop:=∀ id,H' id=H id∨∃ o o',H id=some (.obj o)∧H' id=some (.obj o')
theorem AgO.refl (H:Hp):AgO H H:=fun _=>.inl rfl
theorem AgO.toD {H H' : Hp} (h:AgO H H') (x:SV):x.toD H' = x.toD H:=by
 cases x with
 | c x =>
  cases x with
  | own id off =>
   simp only[SV.toD,CV.toD]
   rcases h id with e|⟨o,o',e1,e2⟩
   ·rw[e]
   ·rw[e1,e2]
  | _=>rfl
 | agg cs=>rfl
theorem AgO.load {H H' : Hp} (h:AgO H H') {P:Program} {t:TypeId} (x:SV):bW P t H' x=bW P t H x:=by
 cases x with
 | c x =>
  cases x with
  | own id off =>
   simp only[bW]
   rcases h id with e|⟨o,o',e1,e2⟩
   ·rw[e]
   ·rw[e1,e2]
  | d x=>cases x<;>rfl
  | _=>rfl
 | agg cs=>rfl
theorem AgO.retV {P:Program} {σ:St} {H' : Hp} {fx:Fx} (h:AgO σ.H H') (x:ResultVar):retV P { σ with H:=H',fx:=fx } x=retV P σ x:=by
 cases x with
 | tmp t=>exact h.toD _
 | cell a t =>
  show (match bW P t H' (σ.env a) with|some r=>r.v.toD H' | none=>none)=_
  simp only[Go.Proofs.YtkmfmphpndhkjaaGreatDoor.retV]
  rw[h.load]
  cases bW P t σ.H (σ.env a) with
  | none=>rfl
  | some r=>exact h.toD _
theorem AgO.retD {P:Program} {σ:St} {H' : Hp} {fx:Fx} (h:AgO σ.H H') (rs:List ResultVar):rD0 P { σ with H:=H',fx:=fx } rs=rD0 P σ rs:=by
 have e:Go.Proofs.YtkmfmphpndhkjaaGreatDoor.retV P { σ with H:=H',fx:=fx }=Go.Proofs.YtkmfmphpndhkjaaGreatDoor.retV P σ:=funext fun x=>h.retV x
 unfold Go.Proofs.YtkmfmphpndhkjaaGreatDoor.rD0
 rw[e]
theorem aAi {P:Program} {F:Fr} {K0:aW} {fn:Func} {R:Ending→World→Prop}:∀ (dfs:List Nat) (ds:List Deferred) (g:G) (σ:St) (a:Act) (w:World),Rel F K0 g σ a w→σ.fx.dfs=dfs→a.defers=ds →
  (∀ g' H' a' w',Rel F K0 g' { σ with H:=H',fx:={ σ.fx with dfs:=[] } } a' w'→AgO σ.H H'→a'.tmps=a.tmps→∃ v,(results fn a.tmps).run P w' = .ok v w'∧R (.returned v) w')→LeavesInM Fence.wide 0 P fn a.tmps R ds .returning w
 | [],ds,g,σ,a,w,hr,hdf,hds,hfin=>by
  have hd:=hr.defers
  rw[hdf] at hd
  cases hq:a.defers with
  | cons d l=>rw[hq] at hd;exact hd.elim
  | nil =>
   subst hds
   rw[hq]
   obtain⟨v,h1,h2⟩:=hfin g σ.H a w ⟨hr.mem,hr.env,hr.size,by rw[hq];trivial,hr.ln,hr.rd,List.nodup_nil,hr.lt⟩ (AgO.refl _) rfl
   exact⟨v,h1,h2⟩
 | id::dfs,ds,g,σ,a,w,hr,hdf,hds,hfin=>by
  have hd:=hr.defers
  rw[hdf] at hd
  have hnd:=hr.nodup
  rw[hdf] at hnd
  cases hq:a.defers with
  | nil=>rw[hq] at hd;exact hd.elim
  | cons d l =>
   subst hds
   rw[hq] at hd ⊢
   obtain⟨⟨b,hb,rfl⟩,hH,hrest⟩:=hd
   obtain⟨b',hb',hheap,_⟩:=hr.mem.holds id _ hH
   rw[hb] at hb';cases hb'
   obtain⟨hm,hle⟩:=hr.mem.setObj (.deferred none) hH hb
   have hne:∀ i ∈ dfs,i≠id:=fun i hi e=>(List.nodup_cons.1 hnd).1 (e ▸ hi)
   have hrest' : dB g (upd σ.H id (some (.obj (.deferred none)))) dfs l:=by
    clear hdf hnd hq
    induction dfs generalizing l with
    | nil=>cases l with
     | nil=>trivial
     | cons _ _=>exact hrest.elim
    | cons i dfs ih=>cases l with
     | nil=>exact hrest.elim
     | cons e l =>
      obtain⟨h1,h2,h3⟩:=hrest
      exact⟨h1,by rw[aB _ _ (hne i (by simp))];exact h2,ih l h3 (fun j hj=>hne j (by simp[hj]))⟩
   refine⟨by simp,.inl ⟨b,_,rfl,run_takeDeferred hheap,?_⟩⟩
   refine aAi dfs l g { σ with H:=upd σ.H id (some (.obj (.deferred none))),fx:={ σ.fx with dfs:=dfs } } { a with defers:=l } _ ⟨hm,fun t=>(hr.env t).mono hle,hr.size,hrest',hr.ln,hr.rd,(List.nodup_cons.1 hnd).2,hr.lt⟩ rfl rfl ?_
   intro g' H' a' w' hr' hag ht
   refine hfin g' H' a' w' hr' (fun i=>?_) ht
   by_cases hi:i=id
   ·subst hi
    rcases hag i with e|⟨o,o',e1,e2⟩
    ·exact .inr ⟨_,_,hH,e.trans (aC _ _ _)⟩
    ·exact .inr ⟨_,_,hH,e2⟩
   ·rcases hag i with e|⟨o,o',e1,e2⟩
    ·exact .inl (e.trans (aB _ _ hi))
    ·exact .inr ⟨o,o',(aB _ _ hi).symm.trans e1,e2⟩
def xZ (args:List D) (n:Nat):St:=⟨fun t=>match args[t]? with|some x=>SV.ofD x|none=>.c .any,fun _=>none,0,n,0⟩
theorem aJ.of_body {P : Program} {f : FuncId} {fn : Func} {c : Code} {args : List D} {r : D} {n : Nat} {rs : Array ResultVar} (hf : P.funcs[f]? = some fn) (hb : fn.body = some c) (hn : (fn.name == "runtime.NumGoroutine") = false) (hnt : fn.ntmps = n) (hrs : fn.results = rs) (hle : args.length ≤ n)
  (h:Wp P c (xZ args n) (eS P rs.toList r)):aJ P f args r:=by
 subst hnt hrs
 refine⟨by unfold iT;rw[hf];simp only[hn,hb];rfl,fun K w vs hB hk hL=>?_⟩
 have hl:=hL.1
 refine callsIn_wide.1 (callsIn_of_wp_marks (F:=Fence.wide) (n:=0) hf hb trivial (wpIn_mono (h (Fr.of w K) K ⟨K,fun _=>none,fun _=>0⟩ _ w ⟨⟨Fr.of_below _ _,Fr.of_ext _ _,hk,?_,?_,?_,?_,?_,hB,Fr.of_lent _ _⟩,?_,?_,trivial,rfl,rfl,List.nodup_nil,fun _ h=>by cases h⟩) ?_))
 ·intro id he hid;cases hid
 ·intro id b hb;cases hb
 ·intro id _;rfl
 ·intro i j b hb;cases hb
 ·intro i b hb;cases hb
 ·intro t
  show bH _ _ (match args[t]? with|some x=>SV.ofD x|none=>.c .any) _
  cases ht:args[t]? with
  | none=>trivial
  | some x =>
   have hlt:t<vs.length:=by have:=(List.getElem?_eq_some_iff.1 ht).1;omega
   have hv:(vs.toArray++Array.replicate (fn.ntmps - vs.toArray.size) undef).getD t undef=vs[t]:=by
    rw[Array.getD_eq_getD_getElem?,Array.getElem?_append_left (by simpa using hlt)]
    simp[hlt]
   rw[hv]
   exact lW (hL.2 t x _ ht (List.getElem?_eq_getElem hlt)) _ _ rfl
 ·show _=fn.ntmps
  simp;omega
 ·rintro e a' w' ⟨g',σ',hr,hQ⟩
  have fin:rD0 P σ' fn.results.toList=some r→LeavesInM Fence.wide 0 P fn a'.tmps (fun e w'=>∃ v K',e = .returned v∧Ext K K' w.heap.size∧KW K' w'∧Rep K' r v∧Below w.heap.size w w') a'.defers .returning w':=by
   intro hret
   refine aAi _ _ g' σ' a' w' hr rfl rfl (fun g2 H2 a2 w2 hr2 hag ht=>?_)
   obtain⟨v,hv,hd⟩:=lX hr2 (fn:=fn) (by rw[hag.retD];exact hret)
   rw[ht] at hv
   exact⟨v,hv,v,g2.K,rfl,hr2.mem.ext.of,hr2.mem.kw,hd,hr2.mem.below.of⟩
  cases e with
  | normal=>exact fin hQ
  | ret=>exact fin hQ
  | _=>exact hQ.elim
def retA (σ:St) (rs:List ResultVar) (e sz:Nat) (xs:List (List D)):Prop:=match rs with
 | [.tmp t]=>(∃ τ,σ.env t = .c (.app τ sz xs)∧σ.H τ=some (.row e sz xs.length))∨σ.env t = .c (.full sz xs)∨(σ.env t = .c (.d (.val (.slice none 0 0)))∧xs=[])
 | _=>False
theorem AgO.retA {σ:St} {H' : Hp} {fx:Fx} (h:AgO σ.H H') {rs:List ResultVar} {e sz:Nat} {xs:List (List D)} (hr:Go.Proofs.YtkmfmphpndhkjaaGreatDoor.retA σ rs e sz xs):Go.Proofs.YtkmfmphpndhkjaaGreatDoor.retA { σ with H:=H',fx:=fx } rs e sz xs:=by
 unfold Go.Proofs.YtkmfmphpndhkjaaGreatDoor.retA at *
 split at hr
 ·rcases hr with ⟨τ,h1,h2⟩|h1|h1
  ·refine .inl ⟨τ,h1,?_⟩
   rcases h τ with e|⟨o,o',e1,e2⟩
   ·exact e.trans h2
   ·rw[h2] at e1;cases e1
  ·exact .inr (.inl h1)
  ·exact .inr (.inr h1)
 ·exact hr.elim
def zS (rs:List ResultVar) (e sz:Nat) (xs:List (List D)):Exit→St→Prop
 | .normal,σ=>retA σ rs e sz xs
 | .ret,σ=>retA σ rs e sz xs
 | _,_=>False
theorem pD.of_body {P : Program} {f : FuncId} {fn : Func} {c : Code} {args : List D} {e sz : Nat} {xs : List (List D)} {n : Nat} {rs : Array ResultVar} (hf : P.funcs[f]? = some fn) (hb : fn.body = some c) (hn : (fn.name == "runtime.NumGoroutine") = false) (hnt : fn.ntmps = n) (hrs : fn.results = rs) (hle : args.length ≤ n)
  (h:Wp P c (xZ args n) (zS rs.toList e sz xs)):pD P f args e sz xs:=by
 subst hnt hrs
 refine⟨by unfold iT;rw[hf];simp only[hn,hb];rfl,fun K w vs hB hk hL=>?_⟩
 have hl:=hL.1
 refine callsIn_wide.1 (callsIn_of_wp_marks (F:=Fence.wide) (n:=0) hf hb trivial (wpIn_mono (h (Fr.of w K) K ⟨K,fun _=>none,fun _=>0⟩ _ w ⟨⟨Fr.of_below _ _,Fr.of_ext _ _,hk,?_,?_,?_,?_,?_,hB,Fr.of_lent _ _⟩,?_,?_,trivial,rfl,rfl,List.nodup_nil,fun _ h=>by cases h⟩) ?_))
 ·intro id he hid;cases hid
 ·intro id b hb;cases hb
 ·intro id _;rfl
 ·intro i j b hb;cases hb
 ·intro i b hb;cases hb
 ·intro t
  show bH _ _ (match args[t]? with|some x=>SV.ofD x|none=>.c .any) _
  cases ht:args[t]? with
  | none=>trivial
  | some x =>
   have hlt:t<vs.length:=by have:=(List.getElem?_eq_some_iff.1 ht).1;omega
   have hv:(vs.toArray++Array.replicate (fn.ntmps - vs.toArray.size) undef).getD t undef=vs[t]:=by
    rw[Array.getD_eq_getD_getElem?,Array.getElem?_append_left (by simpa using hlt)]
    simp[hlt]
   rw[hv]
   exact lW (hL.2 t x _ ht (List.getElem?_eq_getElem hlt)) _ _ rfl
 ·show _=fn.ntmps
  simp;omega
 ·rintro ex a' w' ⟨g',σ',hr,hQ⟩
  have fin:retA σ' fn.results.toList e sz xs→LeavesInM Fence.wide 0 P fn a'.tmps (fun en w'=>∃ v K',en = .returned v∧Ext K K' w.heap.size∧KW K' w'∧Rep K' (.lst sz xs) v∧yW K' w.heap.size w' e sz xs.length v∧Below w.heap.size w w') a'.defers .returning w':=by
   intro hret0
   refine aAi _ _ g' σ' a' w' hr rfl rfl (fun g2 H2 a2 w2 hr2 hag ht=>?_)
   have hret:=hag.retA (fx:={ σ'.fx with dfs:=[] }) hret0
   generalize hσ2:({ σ' with H:=H2,fx:={ σ'.fx with dfs:=[] } }:St)=σ2 at hr2 hret
   have hfin2:∃ v,(results fn a2.tmps).run P w2 = .ok v w2∧∃ v_1 K',Ending.returned v = .returned v_1∧Ext K K' w.heap.size∧KW K' w2∧Rep K' (.lst sz xs) v_1∧yW K' w.heap.size w2 e sz xs.length v_1∧Below w.heap.size w w2:=by
    unfold retA at hret
    split at hret
    ·rename_i t hrs
     have hres:∀ d,(σ2.env t).toD σ2.H=some d→∃ v,(results fn a2.tmps).run P w2 = .ok v w2∧Rep g2.K d v:=fun d hd=>lX hr2 (by rw[hrs];exact hd)
     have hval:∀ v,(results fn a2.tmps).run P w2 = .ok v w2→v=a2.tmps.getD t undef:=fun v hv=>by
      have hrs' : fn.results = #[.tmp t]:=by apply Array.ext';simpa using hrs
      unfold results at hv
      rw[hrs'] at hv
      simp at hv
      rw[← hv];simp
     have henv:=hr2.env t
     rcases hret with ⟨τ,h1,h2⟩|h1|⟨h1,rfl⟩
     ·obtain⟨v,hv,hd⟩:=hres (.lst sz xs) (by rw[h1];rfl)
      rw[h1,← hval v hv] at henv
      obtain⟨_,e',n',hrow,_,hfl⟩:=henv
      rw[h2] at hrow;cases hrow
      refine⟨v,hv,v,g2.K,rfl,hr2.mem.ext.of,hr2.mem.kw,hd,?_,hr2.mem.below.of⟩
      rcases hfl rfl with h|⟨b,hb,hvb⟩
      ·exact .inl h
      ·obtain⟨cur,q1,q2,q3,q4⟩:=hr2.mem.holds τ _ h2 b hb
       exact .inr ⟨b,_,cur,hvb,Fr.of_mine (hr2.mem.base τ b hb),q1,q2,q3,q4⟩
     ·obtain⟨v,hv,hd⟩:=hres (.lst sz xs) (by rw[h1];rfl)
      rw[h1,← hval v hv] at henv
      exact⟨v,hv,v,g2.K,rfl,hr2.mem.ext.of,hr2.mem.kw,hd,.inl henv.2,hr2.mem.below.of⟩
     ·obtain⟨v,hv,hd⟩:=hres (.val (.slice none 0 0)) (by rw[h1];rfl)
      cases hd
      exact⟨_,hv,_,g2.K,rfl,hr2.mem.ext.of,hr2.mem.kw,aFo _ _,.inl ⟨none,rfl⟩,hr2.mem.below.of⟩
    ·exact hret.elim
   rw[ht] at hfin2
   exact hfin2
  cases ex with
  | normal=>exact fin hQ
  | ret=>exact fin hQ
  | _=>exact hQ.elim
end Go.Proofs.YtkmfmphpndhkjaaGreatDoor
