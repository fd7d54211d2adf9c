/- The abstract machine (AbsT, AbsU, AbsV, AbsW, AbsX, AbsY, AbsZ, RunD). -/
import Derived.Test.YtkmfmphpndhkjaaGreatDoorMacB
import Derived.RangeFuncSeq
namespace Go.Proofs.YtkmfmphpndhkjaaGreatDoor
open Go Go.RowKit
set_option linter.unusedVariables false
set_option linter.unusedSimpArgs false
section
variable {P:Program} {d:Nat} {t:TypeId}
theorem aH3 (hu:P.underlying t=some .string) (a b:ByteArray):aT P (Op.equalIn (d+1) t (.string a) (.string b))=some (a == b):=by
 unfold Op.equalIn;rw[aM,eW hu];rfl
theorem uW {k:IntKind} (hu:P.underlying t=some (.int k)) (k' : IntKind) (a b:Int):aT P (Op.equalIn (d+1) t (.int k' a) (.int k' b))=some (a == b):=by
 unfold Op.equalIn;rw[aM,eW hu];simp only[if_true];rfl
theorem lC {cs:Array Value} {off:Nat} {v:Value} (ha:aT P (isAgg t)=some false) (hv:cs[off]? = some v):aT P (part t cs off)=some v:=by
 unfold part;rw[aM,ha];simp only[Bool.false_eq_true,if_false,hv];rfl
theorem pY:aT P program=some P:=rfl
def uV (P:Program) (d:Nat) (xs ys:Array Value):List Field→Option Bool
 | []=>some true
 | f::fs=>match xs[f.offset]?,ys[f.offset]? with
  | some x,some y=>match aT P (isAgg f.type),aT P (Op.equalIn d f.type x y) with
   | some false, some true => if f.name ≠ "_" then uV P d xs ys fs else none
   | some false, some false => if f.name ≠ "_" then some false else none
   | _,_=>none
  | _,_=>none
theorem aH2 {xs ys:Array Value}:∀ {l:List Field} {q:Bool},uV P d xs ys l=some q →
  aT P (forIn l ((none,()):Option Bool × Unit) fun f _ =>
   if f.name ≠ "_" then do
    let x ← part f.type xs f.offset
    let y ← part f.type ys f.offset
    let e ← Op.equalIn d f.type x y
    if (!e)=true then pure (ForInStep.done (some false,())) else pure (ForInStep.yield (none,()))
   else pure (ForInStep.yield (none,())))=some (if q then (none,()) else (some false,()))
 | [],q,h=>by
  simp only[uV,Option.some.injEq] at h;subst h
  rw[List.forIn_nil];rfl
 | f::l,q,h=>by
  unfold uV at h
  rw[List.forIn_cons,aM]
  split at h
  ·rename_i x y hx hy
   split at h
   ·rename_i ha he
    split at h
    ·rename_i hn
     rw[if_pos hn,aM,lC ha hx];simp only
     rw[aM,lC ha hy];simp only
     rw[aM,he];simp only[Bool.not_true,Bool.false_eq_true,if_false]
     exact aH2 h
    ·cases h
   ·rename_i ha he
    split at h
    ·rename_i hn
     simp only[Option.some.injEq] at h;subst h
     rw[if_pos hn,aM,lC ha hx];simp only
     rw[aM,lC ha hy];simp only
     rw[aM,he];simp only[Bool.not_false,if_true];rfl
    ·cases h
   ·cases h
  ·cases h
theorem aH4 {fs:Array Field} {xs ys:Array Value} {q:Bool} (hu:P.underlying t=some (.struct fs)) (hst:P.stoodInHeld t=false) (h:uV P d xs ys fs.toList=some q):aT P (Op.equalIn (d+1) t (.agg xs) (.agg ys))=some q:=by
 unfold Op.equalIn;rw[aM,eW hu]
 simp only
 rw[aM,pY]
 simp only[hst]
 rw[if_neg (by decide),aM,← Array.forIn_toList,aH2 h]
 cases q<;>rfl
theorem yX {x y:Operand} {fs:Array Field} {xs ys:Array Value} {q:Bool} (hu:P.underlying t=some (.struct fs)) (hst:P.stoodInHeld t=false) (hg:P.eqGuardType P.depth t=false) (h:uV P 9999 xs ys fs.toList=some q) :
  sc P (do eqGuard .eql t x y (.agg xs) (.agg ys);binOp .eql t (.agg xs) (.agg ys))=some (Res.pure (vb q))∧sc P (do eqGuard .neq t x y (.agg xs) (.agg ys);binOp .neq t (.agg xs) (.agg ys))=some (Res.pure (vb (!q))):=by
 have e0:aT P (Op.equal t (.agg xs) (.agg ys))=some q:=aH4 (d:=9999) hu hst h
 have eg:∀ op,op = .eql∨op = .neq→aT P (eqGuard op t x y (.agg xs) (.agg ys))=some ():=by
  intro op ho
  unfold eqGuard
  rcases ho with rfl|rfl<;>simp[aM,pY,hg]<;>rfl
 exact⟨pU (op:=.eql) (eg _ (.inl rfl)) e0 (.inl ⟨rfl,rfl⟩),pU (op:=.neq) (eg _ (.inr rfl)) e0 (.inr ⟨rfl,rfl⟩)⟩
end
end Go.Proofs.YtkmfmphpndhkjaaGreatDoor
namespace Go.Proofs.YtkmfmphpndhkjaaGreatDoor
open Go Go.RowKit
set_option linter.unusedVariables false
set_option linter.unusedSimpArgs false
def scX (P:Program) (s d:TypeId) (k:IntKind) (n:Int):Option Res:=sc P (convert s d (.int k n))
theorem gU (P:Program) (s d:TypeId) (k:IntKind) (n:Int):sc P (convert s d (.int k n))=match P.underlying s,P.underlying d with
  | some _,some (.int k')=>some (Res.pure (vi k' (k'.wrap n)))
  | _,_=>scX P s d k n:=by
 split
 ·rename_i u k' hs hd
  have:aT P (convert s d (.int k n))=some (.int k' (k'.wrap n)):=by
   unfold convert
   rw[aM,eW hs]
   simp only
   rw[aM,eW hd]
   rfl
  unfold sc
  rw[this];rfl
 ·rfl
def aCz (P:Program) (rs:List ResultVar) (r:D):Exit→St→Prop
 | .normal,σ=>∃ r1,rD0 P σ rs=some r1∧∀ K v,Rep K r1 v→Rep K r v
 | .ret,σ=>∃ r1,rD0 P σ rs=some r1∧∀ K v,Rep K r1 v→Rep K r v
 | _,_=>False
theorem aJ.of_bodyW {P : Program} {f : FuncId} {fn : Func} {c : Code} {args : List D} {r : D} {n : Nat} {rs : Array ResultVar} (hf : P.funcs[f]? = some fn) (hb : fn.body = some c) (hn : (fn.name == "runtime.NumGoroutine") = false) (hnt : fn.ntmps = n) (hrs : fn.results = rs) (hle : args.length ≤ n)
  (h:Wp P c (xZ args n) (aCz P rs.toList r)):aJ P f args r:=by
 subst hnt hrs
 refine⟨by unfold iT;rw[hf];simp only[hn,hb];rfl,fun K w vs hB hk hL=>?_⟩
 have hl:=hL.1
 refine callsIn_wide.1 (callsIn_of_wp_marks (F:=Fence.wide) (n:=0) hf hb trivial (wpIn_mono (h (Fr.of w K) K ⟨K,fun _=>none,fun _=>0⟩ _ w ⟨⟨Fr.of_below _ _,Fr.of_ext _ _,hk,?_,?_,?_,?_,?_,hB,Fr.of_lent _ _⟩,?_,?_,trivial,rfl,rfl,List.nodup_nil,fun _ h=>by cases h⟩) ?_))
 ·intro id he hid;cases hid
 ·intro id b hb;cases hb
 ·intro id _;rfl
 ·intro i j b hb;cases hb
 ·intro i b hb;cases hb
 ·intro t
  show bH _ _ (match args[t]? with|some x=>SV.ofD x|none=>.c .any) _
  cases ht:args[t]? with
  | none=>trivial
  | some x =>
   have hlt:t<vs.length:=by have:=(List.getElem?_eq_some_iff.1 ht).1;omega
   have hv:(vs.toArray++Array.replicate (fn.ntmps - vs.toArray.size) undef).getD t undef=vs[t]:=by
    rw[Array.getD_eq_getD_getElem?,Array.getElem?_append_left (by simpa using hlt)]
    simp[hlt]
   rw[hv]
   exact lW (hL.2 t x _ ht (List.getElem?_eq_getElem hlt)) _ _ rfl
 ·show _=fn.ntmps
  simp;omega
 ·rintro e a' w' ⟨g',σ',hr,hQ⟩
  have fin:(∃ r1,rD0 P σ' fn.results.toList=some r1∧∀ K v,Rep K r1 v→Rep K r v)→LeavesInM Fence.wide 0 P fn a'.tmps (fun e w'=>∃ v K',e = .returned v∧Ext K K' w.heap.size∧KW K' w'∧Rep K' r v∧Below w.heap.size w w') a'.defers .returning w':=by
   rintro⟨r1,hret,hw⟩
   refine aAi _ _ g' σ' a' w' hr rfl rfl (fun g2 H2 a2 w2 hr2 hag ht=>?_)
   obtain⟨v,hv,hd⟩:=lX hr2 (fn:=fn) (by rw[hag.retD];exact hret)
   rw[ht] at hv
   exact⟨v,hv,v,g2.K,rfl,hr2.mem.ext.of,hr2.mem.kw,hw _ _ hd,hr2.mem.below.of⟩
  cases e with
  | normal=>exact fin hQ
  | ret=>exact fin hQ
  | _=>exact hQ.elim
/-! a memory in part -/
def Hp.on (ks:List Nat) (H:Hp):Hp:=fun i=>if ks.contains i then H i else none
def G.on (ks:List Nat) (g:G):G:={ g with β:=fun i=>if ks.contains i then g.β i else none }
def over (ks:List Nat) (H H' : Hp):Hp:=fun i=>if ks.contains i then H' i else H i
theorem Hp.on_in {ks:List Nat} {H:Hp} {i:Nat} (h:ks.contains i=true):H.on ks i=H i:=by simp only[Hp.on,h,if_true]
theorem Hp.on_out {ks:List Nat} {H:Hp} {i:Nat} (h:ks.contains i=false):H.on ks i=none:=by simp only[Hp.on,h];rfl
theorem G.on_in {ks:List Nat} {g:G} {i:Nat} (h:ks.contains i=true):(g.on ks).β i=g.β i:=by simp only[G.on,h,if_true]
theorem G.on_out {ks:List Nat} {g:G} {i:Nat} (h:ks.contains i=false):(g.on ks).β i=none:=by simp only[G.on,h];rfl
theorem gI {ks:List Nat} {H H' : Hp} {i:Nat} (h:ks.contains i=true):over ks H H' i=H' i:=by simp only[over,h,if_true]
theorem dE {ks:List Nat} {H H' : Hp} {i:Nat} (h:ks.contains i=false):over ks H H' i=H i:=by simp only[over,h];rfl
theorem G.on_some {ks:List Nat} {g:G} {i b:Nat} (h:(g.on ks).β i=some b):ks.contains i=true∧g.β i=some b:=by
 cases hc:ks.contains i with
 | true=>rw[G.on_in hc] at h;exact⟨rfl,h⟩
 | false=>rw[G.on_out hc] at h;cases h
theorem jV {ks:List Nat} {g:G} {H:Hp} {x:CV} {v:Value} (hi:∀ i ∈ x.ids,ks.contains i=true) (h:bG g H x v):bG (g.on ks) (H.on ks) x v:=by
 cases x with
 | any=>trivial
 | d x=>exact h
 | full sz xs=>exact h
 | own id off =>
  obtain⟨b,hb,hv,hr⟩:=h
  have:=hi id (by simp[CV.ids])
  exact⟨b,(G.on_in this).trans hb,hv,by rw[Hp.on_in this];exact hr⟩
 | yld id =>
  obtain⟨b,hb,hv,hr⟩:=h
  have:=hi id (by simp[CV.ids])
  exact⟨b,(G.on_in this).trans hb,hv,by rw[Hp.on_in this];exact hr⟩
 | mp id =>
  obtain⟨b,hb,hv,hr⟩:=h
  have:=hi id (by simp[CV.ids])
  exact⟨b,(G.on_in this).trans hb,hv,by rw[Hp.on_in this];exact hr⟩
 | apt τ sz xs k=>exact sZ (by exact jO.refl _) h (fun e n q=>(Hp.on_in (hi τ (by simp[CV.ids]))).trans q) (G.on_in (hi τ (by simp[CV.ids]))) rfl
 | mt τ k=>exact xG h (fun e sz n cs q=>⟨cs,(Hp.on_in (hi τ (by simp[CV.ids]))).trans q,rfl⟩) (G.on_in (hi τ (by simp[CV.ids]))) rfl
 | mpt τ k o=>exact xE h (fun e sz n cs q=>⟨cs,(Hp.on_in (hi τ (by simp[CV.ids]))).trans q,rfl⟩) (G.on_in (hi τ (by simp[CV.ids])))
 | view id sz off len =>
  obtain⟨b,c,hb,hv,hc,hr⟩:=h
  have:=hi id (by simp[CV.ids])
  exact⟨b,c,(G.on_in this).trans hb,hv,hc,by rw[Hp.on_in this];exact hr⟩
 | app τ sz xs =>
  obtain⟨h1,e,n,hrow,hl,hf⟩:=h
  have:=hi τ (by simp[CV.ids])
  refine⟨h1,e,n,(Hp.on_in this).trans hrow,hl,fun hn=>?_⟩
  rcases hf hn with h2|⟨b,hb,hv⟩
  ·exact .inl h2
  ·exact .inr ⟨b,(G.on_in this).trans hb,hv⟩
 | clo f caps =>
  obtain⟨vs,hv,hl,hc⟩:=h
  refine⟨vs,hv,hl,fun j c u hj hu=>?_⟩
  have hcu:=hc j c u hj hu
  cases c with
  | d x=>exact hcu
  | own id off =>
   obtain⟨b,hb,hv,hr⟩:=hcu
   have:=hi id (List.mem_flatMap.2 ⟨_,List.mem_of_getElem? hj,by simp[Cap.ids]⟩)
   exact⟨b,(G.on_in this).trans hb,hv,by rw[Hp.on_in this];exact hr⟩
 | bnd f caps =>
  obtain⟨vs,hv,hl,hc⟩:=h
  refine⟨vs,hv,hl,fun j c u hj hu=>?_⟩
  have hcu:=hc j c u hj hu
  cases c with
  | d x=>exact hcu
  | own id off =>
   obtain⟨b,hb,hv,hr⟩:=hcu
   have:=hi id (List.mem_flatMap.2 ⟨_,List.mem_of_getElem? hj,by simp[Cap.ids]⟩)
   exact⟨b,(G.on_in this).trans hb,hv,by rw[Hp.on_in this];exact hr⟩
def mR (w:World) (g:G) (ks:List Nat) (g0:G) (H0:Hp):Fr:=⟨w,fun b=>∃ i,ks.contains i=true∧g.β i=some b,ks,g0,H0,none⟩
def kD (ks:List Nat) (H:Hp):Prop:=∀ k he,ks.contains k=true→H k=some he→∀ i ∈ he.ids,ks.contains i=true
theorem RelH.lend {F:Fr} {K0:aW} {g:G} {H:Hp} {w:World} (hh:RelH F K0 g H w) (ks:List Nat) (hcl:kD ks H) {g0:G} {H0:Hp} (hl:∀ x v,(∀ i ∈ CV.ids x,i ∈ ks)→bG g0 H0 x v→bG g H x v):RelH (mR w g ks g0 H0) g.K (g.on ks) (H.on ks) w:=by
 refine⟨⟨rfl,rfl,rfl,Nat.le_refl _,fun _ _=>rfl⟩,⟨jO.refl _,fun _ _ _=>rfl⟩,hh.kw,?_,?_,?_,?_,?_,hh.glob.trans hh.ext.1,fun x v hi h=>jV (fun i hix=>by have:=hi i hix;have:i ∈ ks:=this;simpa using this) (hl x v hi h)⟩
 ·intro id he hid
  cases hc:ks.contains id with
  | false=>rw[Hp.on_out hc] at hid;cases hid
  | true =>
   rw[Hp.on_in hc] at hid
   have:=hh.holds id he hid
   cases he with
   | cells cs =>
    obtain⟨b,vs,t,hb,hheap,hr,h1,hn⟩:=this
    exact⟨b,vs,t,(G.on_in hc).trans hb,hheap,⟨hr.1,fun j x v hx hv=>jV (fun i hi=>hcl id (.cells cs) hc hid i (List.mem_flatMap.2 ⟨x,List.mem_of_getElem? hx,hi⟩)) (hr.2 j x v hx hv)⟩,h1,hn⟩
   | froz ds =>
    obtain⟨b,vs,hb,hr⟩:=this
    exact⟨b,vs,(G.on_in hc).trans hb,hr⟩
   | obj o =>
    obtain⟨b,hb,hr⟩:=this
    exact⟨b,(G.on_in hc).trans hb,hr⟩
   | rot e sz n=>exact cA this (G.on_in hc) rfl (fun _ _ _ q=>q) (fun _ _ _ q _=>q)
   | mrow e sz n cs=>exact vK this (G.on_in hc) rfl (fun _ _ _ q=>q) (fun x hx v q=>jV (fun i hi=>hcl id (.mrow e sz n cs) hc hid i (List.mem_flatMap.2 ⟨x,hx,hi⟩)) q) (fun _ _ _ q _=>q)
   | ob cs p=>exact aAy this (G.on_in hc) rfl (fun _ _ _ q=>q) (fun x hx v q=>jV (fun i hi=>hcl id (.ob cs p) hc hid i (List.mem_flatMap.2 ⟨x,hx,hi⟩)) q) (fun _ _ _ q _=>q)
   | row e sz n =>
    intro b hb
    exact this b ((G.on_in hc).symm.trans hb)
 ·intro id b hb
  obtain⟨h1,h2⟩:=G.on_some hb
  exact .inr ⟨id,h1,h2⟩
 ·intro id hid
  cases hc:ks.contains id with
  | false=>exact G.on_out hc
  | true=>rw[Hp.on_in hc] at hid;exact (G.on_in hc).trans (hh.dom id hid)
 ·intro i j b hi hj
  exact hh.sep i j b (G.on_some hi).2 (G.on_some hj).2
 ·intro i b hi
  exact hh.frozlt i b (G.on_some hi).2
def lG (ks:List Nat) (g g' : G):G:=⟨g'.K,fun i=>if ks.contains i then g'.β i else g.β i,fun i=>if ks.contains i then g'.cap i else g.cap i⟩
theorem bY {ks:List Nat} {g g' : G} {i:Nat} (h:ks.contains i=true):(lG ks g g').β i=g'.β i∧(lG ks g g').cap i=g'.cap i:=by simp only[lG,h,if_true,and_self]
theorem bP {ks:List Nat} {g g' : G} {i:Nat} (h:ks.contains i=false):(lG ks g g').β i=g.β i∧(lG ks g g').cap i=g.cap i:=by constructor<;>(simp only[lG,h];rfl)
theorem RelH.back {F:Fr} {K0:aW} {g g' : G} {H H' : Hp} {w w' : World} {ks:List Nat} {g0:G} {H0:Hp} (hh:RelH F K0 g H w) (hh' : RelH (mR w g ks g0 H0) g.K g' H' w') (hsup:∀ i,ks.contains i=false→H' i=none) (hlent:gB (g.on ks) (H.on ks) g' H') :
  RelH F K0 (lG ks g g') (over ks H H') w'∧gB g H (lG ks g g') (over ks H H')∧∀ x v,bG g' H' x v→bG (lG ks g g') (over ks H H') x v:=by
 have hin:∀ i b,g'.β i=some b→ks.contains i=true:=fun i b hb=>by
  cases hc:ks.contains i with
  | true=>rfl
  | false=>rw[hh'.dom i (hsup i hc)] at hb;cases hb
 have hnm:∀ i b,ks.contains i=false→g.β i=some b→¬ (mR w g ks g0 H0).mine b:=by
  rintro i b hc hb (h|⟨j,hj,hjb⟩)
  ·have:=hh.frozlt i b hb
   have h:w.heap.size≤b:=h
   omega
  ·have:=hh.sep i j b hb hjb
   subst this
   rw[hc] at hj;cases hj
 -- out of the part's memory
 have hto:∀ x v,bG g' H' x v→bG (lG ks g g') (over ks H H') x v:=by
  intro x v r
  have ho:∀ id off v,bG g' H' (.own id off) v→bG (lG ks g g') (over ks H H') (.own id off) v:=by
   rintro id off v ⟨b,hb,hv,hr⟩
   have:=hin id b hb
   exact⟨b,(bY this).1.trans hb,hv,by rw[gI this];exact hr⟩
  cases x with
  | any=>trivial
  | d x=>exact r
  | full sz xs=>exact r
  | own id off=>exact ho id off v r
  | yld id=>exact fP r ho
  | mp id=>exact iJ r ho
  | apt τ sz xs k =>
   have hc:ks.contains τ=true:=by
    cases hc:ks.contains τ with
    | true=>rfl
    | false=>obtain⟨_,e,n,q,_⟩:=r;rw[hsup τ hc] at q;cases q
   exact sZ (by exact jO.refl _) r (fun e n q=>(gI hc).trans q) (bY hc).1 (bY hc).2
  | mt τ k =>
   have hc:ks.contains τ=true:=by
    cases hc:ks.contains τ with
    | true=>rfl
    | false=>obtain⟨_,e,sz,n,cs,q,_⟩:=r;rw[hsup τ hc] at q;cases q
   exact xG r (fun e sz n cs q=>⟨cs,(gI hc).trans q,rfl⟩) (bY hc).1 (bY hc).2
  | mpt τ k o =>
   have hc:ks.contains τ=true:=by
    cases hc:ks.contains τ with
    | true=>rfl
    | false=>obtain⟨_,e,sz,n,cs,q,_⟩:=r;rw[hsup τ hc] at q;cases q
   exact xE r (fun e sz n cs q=>⟨cs,(gI hc).trans q,rfl⟩) (bY hc).1
  | clo f caps=>exact fL r (jO.refl _) ho
  | bnd f caps=>exact fJ r (jO.refl _) ho
  | view id sz off len =>
   obtain⟨b,c,hb,hv,hc,hr⟩:=r
   have:=hin id b hb
   exact⟨b,c,(bY this).1.trans hb,hv,hc,by rw[gI this];exact hr⟩
  | app τ sz xs =>
   obtain⟨h1,e,n,hrow,hl,hf⟩:=r
   have:ks.contains τ=true:=by
    cases hc:ks.contains τ with
    | true=>rfl
    | false=>rw[hsup τ hc] at hrow;cases hrow
   refine⟨h1,e,n,(gI this).trans hrow,hl,fun hn=>?_⟩
   rcases hf hn with h2|⟨b,hb,hv⟩
   ·exact .inl h2
   ·exact .inr ⟨b,(bY this).1.trans hb,by rw[(bY this).2];exact hv⟩
 have hK:jO g.K g'.K:=hh'.ext.1
 have hle:gB g H (lG ks g g') (over ks H H'):=by
  intro x v r
  have ho:∀ id off v,bG g H (.own id off) v→bG (lG ks g g') (over ks H H') (.own id off) v:=by
   rintro id off v ⟨b,hb,hv,hr⟩
   cases hc:ks.contains id with
   | true=>exact hto _ _ (hlent (.own id off) v (jV (fun i hi=>by simp[CV.ids] at hi;subst hi;exact hc) ⟨b,hb,hv,hr⟩))
   | false=>exact⟨b,(bP hc).1.trans hb,hv,by rw[dE hc];exact hr⟩
  cases x with
  | any=>trivial
  | d x=>exact Rep.mono hK r
  | full sz xs=>exact⟨r.1.mono hK,r.2⟩
  | own id off=>exact ho id off v r
  | yld id=>exact fP r ho
  | mp id=>exact iJ r ho
  | apt τ sz xs k =>
   cases hc:ks.contains τ with
   | true=>exact hto _ _ (hlent (.apt τ sz xs k) v (jV (fun i hi=>by simp[CV.ids] at hi;subst hi;exact hc) r))
   | false=>exact sZ hK r (fun e n q=>(dE hc).trans q) (bP hc).1 (bP hc).2
  | mt τ k =>
   cases hc:ks.contains τ with
   | true=>exact hto _ _ (hlent (.mt τ k) v (jV (fun i hi=>by simp[CV.ids] at hi;subst hi;exact hc) r))
   | false=>exact xG r (fun e sz n cs q=>⟨cs,(dE hc).trans q,rfl⟩) (bP hc).1 (bP hc).2
  | mpt τ k o =>
   cases hc:ks.contains τ with
   | true=>exact hto _ _ (hlent (.mpt τ k o) v (jV (fun i hi=>by simp[CV.ids] at hi;subst hi;exact hc) r))
   | false=>exact xE r (fun e sz n cs q=>⟨cs,(dE hc).trans q,rfl⟩) (bP hc).1
  | clo f caps=>exact fL r hK ho
  | bnd f caps=>exact fJ r hK ho
  | view id sz off len =>
   cases hc:ks.contains id with
   | true=>exact hto _ _ (hlent (.view id sz off len) v (jV (fun i hi=>by simp[CV.ids] at hi;subst hi;exact hc) r))
   | false =>
    obtain⟨b,c,hb,hv,hcc,hr⟩:=r
    exact⟨b,c,(bP hc).1.trans hb,hv,hcc,by rw[dE hc];exact hr⟩
  | app τ sz xs =>
   cases hc:ks.contains τ with
   | true=>exact hto _ _ (hlent (.app τ sz xs) v (jV (fun i hi=>by simp[CV.ids] at hi;subst hi;exact hc) r))
   | false =>
    obtain⟨h1,e,n,hrow,hl,hf⟩:=r
    refine⟨h1.mono hK,e,n,(dE hc).trans hrow,hl,fun hn=>?_⟩
    rcases hf hn with h2|⟨b,hb,hv⟩
    ·exact .inl h2
    ·exact .inr ⟨b,(bP hc).1.trans hb,by rw[(bP hc).2];exact hv⟩
 have hFm:∀ k,¬ F.mine k→¬ (mR w g ks g0 H0).mine k:=by
  rintro k hk (h|⟨j,hj,hjb⟩)
  ·have:=Fr.lt hk
   have:=hh.below.size
   have h:w.heap.size≤k:=h
   omega
  ·exact hk (hh.base j k hjb)
 refine⟨⟨⟨hh'.below.os.trans hh.below.os,hh'.below.tape.trans hh.below.tape,hh'.below.output.trans hh.below.output,Nat.le_trans hh.below.size hh'.below.size,fun k hk=>(hh'.below.block k (hFm k hk)).trans (hh.below.block k hk)⟩,
  ⟨hh.ext.1.trans hK,fun b o hb=>(hh'.ext.2 b o (hFm b hb)).trans (hh.ext.2 b o hb)⟩,hh'.kw,?_,?_,?_,?_,?_,hh.glob,hh.lent.trans hle⟩,hle,hto⟩
 ·intro id he hid
  cases hc:ks.contains id with
  | true =>
   rw[gI hc] at hid
   have:=hh'.holds id he hid
   cases he with
   | cells cs =>
    obtain⟨b,vs,t,hb,hheap,hr,h1,hn⟩:=this
    exact⟨b,vs,t,(bY hc).1.trans hb,hheap,⟨hr.1,fun j x v hx hv=>hto x v (hr.2 j x v hx hv)⟩,h1,hn⟩
   | froz ds =>
    obtain⟨b,vs,hb,hr⟩:=this
    exact⟨b,vs,(bY hc).1.trans hb,hr⟩
   | obj o =>
    obtain⟨b,hb,hr⟩:=this
    exact⟨b,(bY hc).1.trans hb,hr⟩
   | rot e sz n=>exact cA this (bY hc).1 (bY hc).2 (fun _ _ _ q=>q) (fun _ _ _ q _=>q)
   | mrow e sz n cs=>exact vK this (bY hc).1 (bY hc).2 (fun _ _ _ q=>q) (fun x _ v q=>hto x v q) (fun _ _ _ q _=>q)
   | ob cs p=>exact aAy this (bY hc).1 (bY hc).2 (fun _ _ _ q=>q) (fun x _ v q=>hto x v q) (fun _ _ _ q _=>q)
   | row e sz n =>
    intro b hb
    have:=this b ((bY hc).1.symm.trans hb)
    rw[(bY hc).2];exact this
  | false =>
   rw[dE hc] at hid
   have:=hh.holds id he hid
   cases he with
   | cells cs =>
    obtain⟨b,vs,t,hb,hheap,hr,h1,hn⟩:=this
    have hm:=hnm id b hc hb
    exact⟨b,vs,t,(bP hc).1.trans hb,(hh'.below.block b hm).trans hheap,hr.mono hle,h1,fun o=>(hh'.ext.2 b o hm).trans (hn o)⟩
   | froz ds =>
    obtain⟨b,vs,hb,hr,h1,hn⟩:=this
    exact⟨b,vs,(bP hc).1.trans hb,hr.mono hK,h1,fun j v hj=>hK _ _ _ (hn j v hj)⟩
   | obj o =>
    obtain⟨b,hb,hheap,hn⟩:=this
    have hm:=hnm id b hc hb
    exact⟨b,(bP hc).1.trans hb,(hh'.below.block b hm).trans hheap,fun o=>(hh'.ext.2 b o hm).trans (hn o)⟩
   | rot e sz n=>exact cA this (bP hc).1 (bP hc).2 (fun b o q1 q2=>(hh'.below.block b (hnm id b hc q1)).trans q2) (fun b o q1 q2 _=>(hh'.ext.2 b o (hnm id b hc q1)).trans q2)
   | mrow e sz n cs=>exact vK this (bP hc).1 (bP hc).2 (fun b o q1 q2=>(hh'.below.block b (hnm id b hc q1)).trans q2) (fun x _ v q=>hle x v q) (fun b o q1 q2 _=>(hh'.ext.2 b o (hnm id b hc q1)).trans q2)
   | ob cs p=>exact aAy this (bP hc).1 (bP hc).2 (fun b o q1 q2=>(hh'.below.block b (hnm id b hc q1)).trans q2) (fun x _ v q=>hle x v q) (fun b o q1 q2 _=>(hh'.ext.2 b o (hnm id b hc q1)).trans q2)
   | row e sz n =>
    intro b hb
    have hb':=(bP hc).1.symm.trans hb
    have hm:=hnm id b hc hb'
    obtain⟨cur,h1,h2,h3,h4⟩:=this b hb'
    exact⟨cur,(hh'.below.block b hm).trans h1,by rw[(bP hc).2];exact h2,by rw[(bP hc).2];exact h3,fun o ho=>(hh'.ext.2 b o hm).trans (h4 o ho)⟩
 ·intro id b hb
  cases hc:ks.contains id with
  | true =>
   rw[(bY hc).1] at hb
   rcases hh'.base id b hb with h|⟨j,hj,hjb⟩
   ·exact Fr.new (Nat.le_trans hh.below.size h)
   ·exact hh.base j b hjb
  | false=>rw[(bP hc).1] at hb;exact hh.base id b hb
 ·intro id hid
  cases hc:ks.contains id with
  | true=>rw[gI hc] at hid;exact (bY hc).1.trans (hh'.dom id hid)
  | false=>rw[dE hc] at hid;exact (bP hc).1.trans (hh.dom id hid)
 ·intro i j b hi hj
  cases hci:ks.contains i with
  | true =>
   rw[(bY hci).1] at hi
   cases hcj:ks.contains j with
   | true=>rw[(bY hcj).1] at hj;exact hh'.sep i j b hi hj
   | false=>rw[(bP hcj).1] at hj;exact absurd (hh'.base i b hi) (hnm j b hcj hj)
  | false =>
   rw[(bP hci).1] at hi
   cases hcj:ks.contains j with
   | true=>rw[(bY hcj).1] at hj;exact absurd (hh'.base j b hj) (hnm i b hci hi)
   | false=>rw[(bP hcj).1] at hj;exact hh.sep i j b hi hj
 ·intro i b hi
  cases hci:ks.contains i with
  | true=>rw[(bY hci).1] at hi;exact hh'.frozlt i b hi
  | false =>
   rw[(bP hci).1] at hi
   have:=hh.frozlt i b hi
   have:=hh'.below.size
   have h2:(mR w g ks g0 H0).W.heap.size=w.heap.size:=rfl
   omega
def aJc (P:Program) (g0:G) (H0:Hp) (ks:List Nat) (args:List D) (B:Hp) (b:Bool) (B' : Hp):Prop :=
 ∀ (F:Fr) (K0:aW) (g:G) (w:World) (vs:List Value) (l:Nat),F.ln=ks→F.g=g0→F.H=H0→RelH F K0 g B w→gK g.K args vs→g.β 999=some l →
  YieldAt Fence.wide 0 P l vs.toArray w fun e w'=>∃ g',e = .returned (.bool b)∧RelH F K0 g' B' w'∧gB g B g' B'
def Cap.sv:Cap→SV
 | .d x=>SV.ofD x
 | .own id off=>.c (.own id off)
def aGm:SV→Option (FuncId × List SV)
 | .c (.d (.fn (.func f) caps))=>some (f,caps.map SV.ofD)
 | .c (.clo (.func f) caps)=>some (f,caps.map Cap.sv)
 | _=>none
theorem tF {g:G} {H:Hp} {x:SV} {v:Value} {f:FuncId} {cs:List SV} (hx:bH g H x v) (h:aGm x=some (f,cs)):∃ vs:List Value,v = .func (.func f) #[] vs.toArray∧jC g H cs vs:=by
 unfold aGm at h
 split at h
 ·rename_i f' caps
  cases h
  have hx:Rep g.K (.fn (.func f) caps) v:=hx
  cases hx with
  | fn hl hv =>
   rename_i vs
   refine⟨vs,rfl,by simpa using hl,fun j x u hx hu=>?_⟩
   simp only[List.getElem?_map,Option.map_eq_some_iff] at hx
   obtain⟨d,hd,rfl⟩:=hx
   exact lW (hv j d u hd hu) g H rfl
 ·rename_i f' caps
  cases h
  obtain⟨vs,hv,hl,hc⟩:=hx
  refine⟨vs,hv,by simpa using hl,fun j x u hx hu=>?_⟩
  simp only[List.getElem?_map,Option.map_eq_some_iff] at hx
  obtain⟨d,hd,rfl⟩:=hx
  have:=hc j d u hd hu
  cases d with
  | d y=>exact lW this g H rfl
  | own id off=>exact this
 ·cases h
structure Lent (ks:List Nat) (A:Nat→Hp):Prop where
 lt:∀ k,ks.contains k=true→k<1000
 l:ks.contains 999=true
 sup:∀ i k,ks.contains k=false→A i k=none
 nr:∀ i,jG (A i 999)=false
 cl:∀ i,kD ks (A i)
def vW (cont:Nat→Bool) (len n:Nat):Prop:=n≤len∧(∀ j,j+1<n→cont j=true)∧((n=len∧∀ j,j<n→cont j=true)∨(0<n∧cont (n - 1)=false))
def aOq (P:Program) (f:FuncId) (caps:List SV) (M:List (Nat × HE)) (xs:List (List D)):Prop:=iT P f=true ∧
 ∀ (ks:List Nat) (A:Nat→Hp) (cont:Nat→Bool),Lent ks A→(∀ i,∀ p ∈ M,A i p.1=some p.2)→∀ (F:Fr) (K0:aW) (g:G) (w:World) (vs:List Value) (l:Nat),RelH F K0 g (A 0) w→jC g (A 0) caps vs→g.β 999=some l →
  (∀ i (hi:i<xs.length),(∀ j,j<i→cont j=true)→aJc P g (A 0) ks xs[i] (A i) (cont i) (A (i+1))) →
  Calls P f (Value.func (.yield l) #[] #[]::vs).toArray w fun e w'=>∃ v g' n,e = .returned v∧vW cont xs.length n∧RelH F K0 g' (A n) w'∧gB g (A 0) g' (A n)
def aOp (P:Program) (f:FuncId) (caps:List D) (xs:List (List D)):Prop:=aOq P f (caps.map SV.ofD) [] xs
def kC (H B:Hp):Prop:=∀ i,i<1000→H i=B i
def rb (B' H:Hp):Hp:=fun i=>if i<1000 then B' i else H i
def yR (B:Hp) (M:List (Nat × HE)):Hp:=fun i=>match M.lookup i with
 | some x=>some x
 | none=>B i
theorem aAz (B:Hp):yR B []=B:=rfl
theorem aV2 {B' H:Hp} {k:Nat} {x:Option HE} (h:1000≤k):rb B' (upd H k x)=upd (rb B' H) k x:=by
 funext i
 unfold rb upd
 by_cases h1:i=k
 ·subst h1;rw[if_neg (by omega),if_pos rfl];simp
 ·simp only[h1,if_false]
theorem zO {H B:Hp} {k:Nat} {x:Option HE} (h:1000≤k):kC (upd H k x) B ↔ kC H B:=by
 unfold kC
 constructor<;>intro hh i hi<;>have:=hh i hi<;>rw[aB _ _ (by omega)] at *<;>exact this
theorem lZ (B:Hp):kC B B:=fun _ _=>rfl
theorem aHu {M:List (Nat × HE)} (h:(M.all fun p=>decide (1000≤p.1))=true) {i:Nat} (hi:i<1000):M.lookup i=none:=by
 cases hm:M.lookup i with
 | none=>rfl
 | some x =>
  have:=List.all_eq_true.1 h _ (eL hm)
  simp only[decide_eq_true_eq] at this
  omega
theorem aGf {B:Hp} {M:List (Nat × HE)} (h:(M.all fun p=>decide (1000≤p.1))=true):kC (yR B M) B:=fun i hi=>by
 unfold yR;rw[aHu h hi]
/-! a list of operations with a call of yield in it -/
theorem oM {P:Program} {W0:Fr} {K0:aW} {all rest:List Oper} {Q:Exit→Act→World→Prop} {k:St→List Foot→Prop} {ro:Option Nat} (hk:∀ g σ tr a w,k σ tr→Rel W0 K0 g σ a w→wpListIn (fen ro) 0 P all.toArray Q rest a w) :
  ∀ (l:List Oper) (g:G) (σ:St) (tr:List Foot) (a:Act) (w:World),lY P all l σ tr k→Rel W0 K0 g σ a w→wpListIn (fen ro) 0 P all.toArray Q (l++rest) a w
 | [],g,σ,tr,a,w,h,hr=>hk g σ _ a w h hr
 | o::os,g,σ,tr,a,w,h,hr=>by
  simp only[lY] at h
  split at h
  ·exact h.elim
  ·rename_i t ht
   have hw:=eD (a:=a) (fun _ _ _ d _ _ _=>hr.env d) ht
   rw[List.cons_append]
   unfold wpListIn
   rw[hw]
   cases t with
   | true =>
    obtain⟨r,hr1,hd,hrest⟩:=oN (h.1 rfl)
    simp only[if_true]
    refine Oper.wpIn_mono ?_ (vV hr hr1 hd ro Q)
    rintro a' w' ⟨g',hr'⟩
    exact oM hk os g' _ _ a' w' hrest hr'
   | false =>
    obtain⟨hd,hrest⟩:=h.2 rfl
    simp only[Bool.false_eq_true,if_false]
    exact⟨fun _ _=>trivial,oM hk os g _ _ _ w hrest (rU hr hd)⟩
def YAt (P:Program) (all:List Oper) (n:Nat) (o:Oper) (σ:St) (k:St→Prop):Prop :=
 ∃ (f:Operand) (args:Array Operand) (tys:Array TypeId) (ds:List D) (B:Hp) (b:Bool) (B' : Hp) (d:Nat) (q:G × Hp),o.op = .call { callee:=.value f,args:=args,argTypes:=tys }∧o.guard=none∧o.dst=some d∧d<σ.sz∧σ.fx.dfs=[]∧σ.fx.lt=some q ∧
  bV σ.env f = .c (.yld 999)∧bZ (SV.toD σ.H) (args.toList.map (bV σ.env))=some ds∧aJc P q.1 q.2 σ.fx.lent ds B b B'∧kC σ.H B ∧
  (∀ k,σ.fx.lent.contains k=true→k<1000)∧σ.fx.lent.contains 999=true∧(∀ k,σ.fx.lent.contains k=false→B k=none)∧(∀ k,σ.fx.lent.contains k=false→B' k=none)∧kD σ.fx.lent B ∧
  kE P all (all.drop (n+1)) ⟨upd σ.env d (vb b),rb B' σ.H,σ.nx,σ.sz,σ.fx⟩ [] (fun σ' _=>k σ')
theorem aEa {ks:List Nat} {H B:Hp} (hb:kC H B) (hlt:∀ k,ks.contains k=true→k<1000) (hs:∀ k,ks.contains k=false→B k=none):H.on ks=B:=by
 funext i
 cases hc:ks.contains i with
 | true=>rw[Hp.on_in hc];exact hb i (hlt i hc)
 | false=>rw[Hp.on_out hc,hs i hc]
theorem aLv {ks:List Nat} {H B B' : Hp} (hb:kC H B) (hlt:∀ k,ks.contains k=true→k<1000) (hs:∀ k,ks.contains k=false→B k=none) (hs' : ∀ k,ks.contains k=false→B' k=none):over ks H B' = rb B' H:=by
 funext i
 unfold rb
 cases hc:ks.contains i with
 | true=>rw[gI hc,if_pos (hlt i hc)]
 | false =>
  rw[dE hc]
  split
  ·rename_i hi;rw[hb i hi,hs i hc,hs' i hc]
  ·rfl
theorem aRg {P:Program} {F:Fr} {K0:aW} {g:G} {σ:St} {a:Act} {w:World} {all:List Oper} {n:Nat} {o:Oper} {k:St→Prop} {Q:Exit→Act→World→Prop} (hr:Rel F K0 g σ a w) (hy:YAt P all n o σ k)
  (hk:∀ g' σ' a' w',k σ'→Rel F K0 g' σ' a' w'→Q .normal a' w'):wpListIn (fen F.ro) 0 P all.toArray Q (o::all.drop (n+1)) a w:=by
 obtain⟨f,args,tys,ds,B,b,B',d,q,hop,hg,hdst,hd,hdf,hlt,hf,hds,hY,hB,hks,h999,hs,hs',hcl,hrest⟩:=hy
 unfold wpListIn
 have hw:Region.wanted o (yielded all.toArray a.tmps)=true:=by simp[Region.wanted,hg]
 rw[hw]
 simp only[if_true]
 have hnd:∀ c,o.op≠.defer c:=by intro c hc;rw[hop] at hc;cases hc
 have hfv:=iQ hr f
 rw[hf] at hfv
 obtain⟨l,hl,hav,hnr⟩:=hfv
 have hargs:jC g σ.H (args.toList.map (bV σ.env)) (args.toList.map a.eval):=oR args.toList (fun p _=>iQ hr p)
 obtain⟨h1,h2⟩:=dW hds
 have hL:gK g.K ds (args.toList.map a.eval):=⟨by rw[h1,hargs.1],fun j x v hx hv'=>by
  obtain⟨s,hs,hsx⟩:=h2 j x hx
  exact SV.toD_rep hr.mem (hargs.2 j s v hs hv') hsx⟩
 obtain⟨e1,e2⟩:=hr.lt q hlt
 have hon:=aEa hB hks hs
 have hcl' : kD σ.fx.lent σ.H:=fun k cs hc hk=>hcl k cs hc (by rw[← hB k (hks k hc)];exact hk)
 have hlend:=hr.mem.lend σ.fx.lent hcl' (g0:=q.1) (H0:=q.2) (fun x v hi h=>hr.mem.lent x v (by rw[hr.ln];exact hi) (by rw[e1,e2];exact h))
 rw[hon] at hlend
 have hl' : (g.on σ.fx.lent).β 999=some l:=(G.on_in h999).trans hl
 obtain⟨fn,tmps,asg,body,hrun,hround⟩:=hY _ _ _ w (args.toList.map a.eval) l rfl rfl rfl hlend hL hl'
 refine⟨fun _ _=>trivial,?_⟩
 rw[Oper.semAt_eq _ _ _ hnd]
 have hmap:args.map a.eval=(args.toList.map a.eval).toArray:=by apply Array.ext';simp
 have hex:(execOp a.eval o).run P w = .ok (.round l fn tmps asg body) w:=by
  unfold execOp
  rw[hop]
  simp only[resolve,hmap,hav,Deferred.ofValue]
  simp[invoke,hrun]
 rw[hex]
 simp only[Oper.uponIn]
 refine⟨lL,?_⟩
 have hround' : RoundIn (fen F.ro) (0 - 1) P l fn tmps asg body w _:=hround
 refine hround'.mono ?_
 rintro e w' ⟨g',rfl,hrel,hle⟩
 have hle' : gB (g.on σ.fx.lent) (σ.H.on σ.fx.lent) g' B':=by rw[hon];exact hle
 obtain⟨hm,hgle,_⟩:=hr.mem.back hrel hs' hle'
 rw[aLv hB hks hs hs'] at hm hgle
 have hdef:=hr.defers
 rw[hdf] at hdef
 have hrel2:Rel F K0 (lG σ.fx.lent g g') ⟨upd σ.env d (vb b),rb B' σ.H,σ.nx,σ.sz,σ.fx⟩ (a.put o.dst (.bool b)) w':=by
  refine⟨hm,fun t=>?_,by rw[oX];exact hr.size,?_,hr.ln,hr.rd,hr.nodup,hr.lt⟩
  ·have:=sD (d:=o.dst) (x:=vb b) (v:=.bool b) (fun t=>(hr.env t).mono hgle) (Rep.val _) hr.size (fun t ht=>by rw[hdst] at ht;cases ht;exact hd) t
   rw[hdst] at this ⊢
   exact this
  ·show dB _ _ σ.fx.dfs _
   rw[sK,hdf]
   cases hq:a.defers with
   | nil=>trivial
   | cons x y=>rw[hq] at hdef;exact hdef.elim
 have:=oM (rest:=[]) (Q:=Q) (ro:=F.ro) (fun g2 σ2 tr2 a2 w2 hk2 hr2=>show wpListIn _ _ _ _ _ [] a2 w2 from hk g2 σ2 a2 w2 hk2 hr2) (all.drop (n+1)) _ _ [] _ w' (dM hrest) hrel2
 rw[List.append_nil] at this
 exact this
theorem Wp.regY {P:Program} {σ:St} {Q:Exit→St→Prop} {id:Nat} {all:List Oper} (n:Nat) {o:Oper} (ho:all[n]? = some o)
  (h:∀ K:St→Prop,(∀ σ1,YAt P all n o σ1 (fun σ2=>Q .normal σ2)→K σ1)→kE P all (all.take n) σ [] (fun σ1 _=>K σ1)):Wp P (.region id all.toArray false) σ Q:=by
 intro F K0 g a w hr
 refine wpIn_region_lit ?_
 have hsplit:all=all.take n++o::all.drop (n+1):=by
  obtain⟨hlt,he⟩:=List.getElem?_eq_some_iff.1 ho
  rw[← he,← List.drop_eq_getElem_cons hlt,List.take_append_drop]
 have:=oM (all:=all) (rest:=o::all.drop (n+1)) (Q:=fun e a' w'=>∃ g' σ',Rel F K0 g' σ' a' w'∧Q e σ') (ro:=F.ro) (k:=fun σ1 _=>YAt P all n o σ1 (fun σ2=>Q .normal σ2))
  (fun g1 σ1 tr1 a1 w1 hk1 hr1=>aRg hr1 hk1 (fun g' σ' a' w' hq hr'=>⟨g',σ',hr',hq⟩)) (all.take n) g σ [] a w (dM (h _ (fun _ h=>h))) hr
 rw[← hsplit] at this
 exact this
theorem vS {F:Fr} {K0:aW} {g:G} {H:Hp} {w:World} (hh:RelH F K0 g H w) {x:CV} {v:Value} (r:bG g H x v):∀ i ∈ x.ids,H i≠none:=by
 have key:∀ i b,g.β i=some b→H i≠none:=fun i b hb hn=>by rw[hh.dom i hn] at hb;cases hb
 cases x with
 | own id off=>obtain⟨b,hb,_⟩:=r;intro i hi;simp[CV.ids] at hi;subst hi;exact key _ b hb
 | yld id=>obtain⟨b,hb,_⟩:=r;intro i hi;simp[CV.ids] at hi;subst hi;exact key _ b hb
 | mp id=>obtain⟨b,hb,_⟩:=r;intro i hi;simp[CV.ids] at hi;subst hi;exact key _ b hb
 | mt τ k=>obtain⟨_,e,sz,n,cs,hm,_⟩:=r;intro i hi;simp[CV.ids] at hi;subst hi;rw[hm];simp
 | apt τ sz xs k=>obtain⟨_,e,n,hm,_⟩:=r;intro i hi;simp[CV.ids] at hi;subst hi;rw[hm];simp
 | mpt τ k o=>obtain⟨_,e,sz,n,cs,hm,_⟩:=r;intro i hi;simp[CV.ids] at hi;subst hi;rw[hm];simp
 | view id sz off len=>obtain⟨b,c,hb,_⟩:=r;intro i hi;simp[CV.ids] at hi;subst hi;exact key _ b hb
 | app τ sz xs=>obtain⟨_,e,n,hrow,_⟩:=r;intro i hi;simp[CV.ids] at hi;subst hi;rw[hrow];simp
 | clo f caps =>
  obtain⟨vs,_,hl,hc⟩:=r
  intro i hi
  obtain⟨c,hc1,hc2⟩:=List.mem_flatMap.1 hi
  obtain⟨j,hj,rfl⟩:=List.getElem_of_mem hc1
  have:=hc j caps[j] (vs[j]'(by omega)) (List.getElem?_eq_getElem hj) (List.getElem?_eq_getElem (by omega))
  generalize caps[j]=c at this hc2
  cases c with
  | d x=>simp[Cap.ids] at hc2
  | own id off =>
   simp[Cap.ids] at hc2
   subst hc2
   obtain⟨b,hb,_⟩:=this
   exact key _ b hb
 | bnd f caps =>
  obtain⟨vs,_,hl,hc⟩:=r
  intro i hi
  obtain⟨c,hc1,hc2⟩:=List.mem_flatMap.1 hi
  obtain⟨j,hj,rfl⟩:=List.getElem_of_mem hc1
  have:=hc j caps[j] (vs[j]'(by omega)) (List.getElem?_eq_getElem hj) (List.getElem?_eq_getElem (by omega))
  generalize caps[j]=c at this hc2
  cases c with
  | d x=>simp[Cap.ids] at hc2
  | own id off =>
   simp[Cap.ids] at hc2
   subst hc2
   obtain⟨b,hb,_⟩:=this
   exact key _ b hb
 | _=>intro i hi;simp[CV.ids] at hi
theorem RelH.drop {F:Fr} {K0:aW} {g:G} {H:Hp} {w:World} (hh:RelH F K0 g H w) (ks:List Nat) (hln:∀ i ∈ F.ln,ks.contains i=true) (hcl:kD ks H):RelH F K0 (g.on ks) (H.on ks) w:=by
 refine⟨hh.below,hh.ext,hh.kw,?_,?_,?_,?_,?_,hh.glob,fun x v hi h=>jV (fun i hix=>hln i (hi i hix)) (hh.lent x v hi h)⟩
 ·intro id he hid
  cases hc:ks.contains id with
  | false=>rw[Hp.on_out hc] at hid;cases hid
  | true =>
   rw[Hp.on_in hc] at hid
   have:=hh.holds id he hid
   cases he with
   | cells cs =>
    obtain⟨b,vs,t,hb,hheap,hr,h1,hn⟩:=this
    exact⟨b,vs,t,(G.on_in hc).trans hb,hheap,⟨hr.1,fun j x v hx hv=>jV (fun i hi=>hcl id (.cells cs) hc hid i (List.mem_flatMap.2 ⟨x,List.mem_of_getElem? hx,hi⟩)) (hr.2 j x v hx hv)⟩,h1,hn⟩
   | froz ds =>
    obtain⟨b,vs,hb,hr⟩:=this
    exact⟨b,vs,(G.on_in hc).trans hb,hr⟩
   | obj o =>
    obtain⟨b,hb,hr⟩:=this
    exact⟨b,(G.on_in hc).trans hb,hr⟩
   | rot e sz n=>exact cA this (G.on_in hc) rfl (fun _ _ _ q=>q) (fun _ _ _ q _=>q)
   | mrow e sz n cs=>exact vK this (G.on_in hc) rfl (fun _ _ _ q=>q) (fun x hx v q=>jV (fun i hi=>hcl id (.mrow e sz n cs) hc hid i (List.mem_flatMap.2 ⟨x,hx,hi⟩)) q) (fun _ _ _ q _=>q)
   | ob cs p=>exact aAy this (G.on_in hc) rfl (fun _ _ _ q=>q) (fun x hx v q=>jV (fun i hi=>hcl id (.ob cs p) hc hid i (List.mem_flatMap.2 ⟨x,hx,hi⟩)) q) (fun _ _ _ q _=>q)
   | row e sz n =>
    intro b hb
    exact this b ((G.on_in hc).symm.trans hb)
 ·intro id b hb
  exact hh.base id b (G.on_some hb).2
 ·intro id hid
  cases hc:ks.contains id with
  | false=>exact G.on_out hc
  | true=>rw[Hp.on_in hc] at hid;exact (G.on_in hc).trans (hh.dom id hid)
 ·intro i j b hi hj
  exact hh.sep i j b (G.on_some hi).2 (G.on_some hj).2
 ·intro i b hi
  exact hh.frozlt i b (G.on_some hi).2
theorem bH.on {ks:List Nat} {g:G} {H:Hp} {x:SV} {v:Value} (hi:∀ i ∈ x.ids,ks.contains i=true) (h:bH g H x v):bH (g.on ks) (H.on ks) x v:=by
 cases x with
 | c x=>exact jV hi h
 | agg cs =>
  obtain⟨vs,hv,hr,h1⟩:=h
  exact⟨vs,hv,⟨hr.1,fun j x v hx hv=>jV (fun i hix=>hi i (List.mem_flatMap.2 ⟨x,List.mem_of_getElem? hx,hix⟩)) (hr.2 j x v hx hv)⟩,h1⟩
/-! frames of a function that is ranged over -/
def aPx (L:List (Nat × SV)) (M:List (Nat × HE)):Bool :=
 (L.all fun p=>p.2.ids.all fun i=>(M.map (·.1)).contains i || i == 999) && (M.all fun p=>p.2.ids.all fun i=>(M.map (·.1)).contains i || i == 999) && (M.all fun p=>decide (1000≤p.1))
theorem aD.keepB {σ:St} {L:List (Nat × SV)} {M:List (Nat × HE)} {A:Nat→Hp} {nx n:Nat} {fx:Fx} (hL:Lent fx.lent A) (i:Nat) (hn:(n,fx)=(σ.sz,σ.fx)) (hdf:fx.dfs=[]) (hB:kC σ.H (A i)) (hid:aPx L M=true) (h:eqL σ.env L∧eqH σ.H M) :
  aD σ ⟨dI L,yR (A i) M,nx,n,fx⟩:=by
 simp only[Prod.mk.injEq] at hn
 obtain⟨rfl,rfl⟩:=hn
 intro F K0 g a w r
 simp only[aPx,Bool.and_eq_true] at hid
 obtain⟨⟨hid1,hid2⟩,hid3⟩:=hid
 have hsub:∀ i,((M.map (·.1)).contains i || i == 999)=true→(σ.fx.lent++M.map (·.1)).contains i=true:=by
  intro i hi
  simp only[Bool.or_eq_true,beq_iff_eq] at hi
  rcases hi with h1|rfl
  ·simp only[List.contains_eq_mem,decide_eq_true_eq,List.mem_append] at h1 ⊢;exact .inr h1
  ·have:=hL.l
   simp only[List.contains_eq_mem,decide_eq_true_eq,List.mem_append] at this ⊢;exact .inl this
 have hinl:∀ i,σ.fx.lent.contains i=true→(σ.fx.lent++M.map (·.1)).contains i=true:=fun i hi=>by
  simp only[List.contains_eq_mem,decide_eq_true_eq,List.mem_append] at hi ⊢;exact .inl hi
 have hcl:kD (σ.fx.lent++M.map (·.1)) σ.H:=by
  intro k cs hk hH j hj
  have hk' : k ∈ σ.fx.lent∨k ∈ M.map (·.1):=by simpa using hk
  rcases hk' with h1|h1
  ·have h1' : σ.fx.lent.contains k=true:=by simpa using h1
   exact hinl j (hL.cl i k cs h1' (by rw[← hB k (hL.lt k h1')];exact hH) j hj)
  ·obtain⟨he,hlk⟩:=nQ (L:=M) h1
   have hmem:=eL hlk
   have:=yY h.2 _ hmem
   simp only at this
   rw[hH] at this
   have hee:cs=he:=by simpa using this
   subst hee
   exact hsub j (List.all_eq_true.1 (List.all_eq_true.1 hid2 _ hmem) j hj)
 have hm:=r.mem.drop (σ.fx.lent++M.map (·.1)) (fun i hi=>hinl i (by rw[r.ln] at hi;simpa using hi)) hcl
 have hon:σ.H.on (σ.fx.lent++M.map (·.1))=yR (A i) M:=by
  funext k
  unfold yR
  cases hlk:M.lookup k with
  | some x =>
   have hmem:=eL hlk
   rw[Hp.on_in (by simp only[List.contains_eq_mem,decide_eq_true_eq,List.mem_append];exact .inr (List.mem_map.2 ⟨_,hmem,rfl⟩))]
   exact yY h.2 _ hmem
  | none =>
   have hnk:k ∉ M.map (·.1):=fun hk=>by
    obtain⟨x,hx⟩:=nQ (L:=M) hk
    rw[hx] at hlk;cases hlk
   cases hc:σ.fx.lent.contains k with
   | true=>rw[Hp.on_in (hinl k hc)];exact hB k (hL.lt k hc)
   | false =>
    rw[Hp.on_out (by
     simp only[List.contains_eq_mem,decide_eq_false_iff_not,List.mem_append,not_or] at hc ⊢
     exact⟨hc,hnk⟩),hL.sup i k hc]
 rw[hon] at hm
 refine⟨_,hm,fun t=>?_,r.size,?_,r.ln,r.rd,r.nodup,r.lt⟩
 ·show bH _ _ (dI L t) _
  unfold dI
  cases hlk:L.lookup t with
  | none=>trivial
  | some x =>
   have hmem:=eL hlk
   have he:=r.env t
   rw[aEq h.1 _ hmem] at he
   have:=bH.on (ks:=σ.fx.lent++M.map (·.1)) (fun i hi=>hsub i (List.all_eq_true.1 (List.all_eq_true.1 hid1 _ hmem) i hi)) he
   rw[hon] at this
   exact this
 ·have:=r.defers
  show dB _ _ σ.fx.dfs a.defers
  rw[hdf] at this ⊢
  cases hq:a.defers with
  | nil=>trivial
  | cons x y=>rw[hq] at this;exact this.elim
def tL (caps:List SV) (B:Hp) (ks:List Nat) (q:G × Hp) (n:Nat):St:=⟨fun t=>match (SV.c (.yld 999)::caps)[t]? with|some x=>x|none=>.c .any,yR B [],1000,n,⟨ks,[],false,some q⟩⟩
theorem aA2 (caps:List SV) (B:Hp) (ks:List Nat) (q:G × Hp) (n t:Nat):(tL caps B ks q n).env t=match (SV.c (.yld 999)::caps)[t]? with|some x=>x|none=>.c .any:=rfl
theorem aA1 (caps:List SV) (B:Hp) (ks:List Nat) (q:G × Hp) (n:Nat):(tL caps B ks q n).H=yR B []:=rfl
theorem aMt (caps:List SV) (B:Hp) (ks:List Nat) (q:G × Hp) (n:Nat):(tL caps B ks q n).nx=1000:=rfl
theorem aD7 (caps:List SV) (B:Hp) (ks:List Nat) (q:G × Hp) (n:Nat):(tL caps B ks q n).sz=n:=rfl
theorem aMs (caps:List SV) (B:Hp) (ks:List Nat) (q:G × Hp) (n:Nat):(tL caps B ks q n).fx=⟨ks,[],false,some q⟩:=rfl
def aP1 (A:Nat→Hp) (cont:Nat→Bool) (len:Nat):Exit→St→Prop
 | .normal,σ=>σ.fx.dfs=[]∧∃ n,vW cont len n∧kC σ.H (A n)
 | .ret,σ=>σ.fx.dfs=[]∧∃ n,vW cont len n∧kC σ.H (A n)
 | _,_=>False
theorem RelH.reb {F F' : Fr} {K0:aW} {g:G} {H:Hp} {w:World} (hh:RelH F K0 g H w) (hW:F'.W=F.W) (hS:F'.S=F.S) (hl:aM7 F' g H):RelH F' K0 g H w:=by
 have hm:F'.mine=F.mine:=by funext b;unfold Fr.mine;rw[hW,hS]
 refine⟨⟨by rw[hW];exact hh.below.os,by rw[hW];exact hh.below.tape,by rw[hW];exact hh.below.output,by rw[hW];exact hh.below.size,fun k hk=>by rw[hm] at hk;rw[hW];exact hh.below.block k hk⟩,⟨hh.ext.1,fun b o hb=>by rw[hm] at hb;exact hh.ext.2 b o hb⟩,hh.kw,hh.holds,fun id b hb=>by rw[hm];exact hh.base id b hb,hh.dom,hh.sep,hh.frozlt,hh.glob,hl⟩
theorem aOq.of_body {P : Program} {f : FuncId} {fn : Func} {c : Code} {caps : List SV} {M : List (Nat × HE)} {xs : List (List D)} {n : Nat} (hf : P.funcs[f]? = some fn) (hb : fn.body = some c) (hn : (fn.name == "runtime.NumGoroutine") = false) (hnt : fn.ntmps = n) (hrs : fn.results = #[]) (hle : caps.length + 1 ≤ n)
  (h:∀ (ks:List Nat) (A:Nat→Hp) (cont:Nat→Bool) (q:G × Hp),Lent ks A→(∀ i,∀ p ∈ M,A i p.1=some p.2)→(∀ i (hi:i<xs.length),(∀ j,j<i→cont j=true)→aJc P q.1 q.2 ks xs[i] (A i) (cont i) (A (i+1)))→Wp P c (tL caps (A 0) ks q n) (aP1 A cont xs.length)):aOq P f caps M xs:=by
 subst hnt
 refine⟨by unfold iT;rw[hf];simp only[hn,hb];rfl,fun ks A cont hL hM F K0 g w vs l hh hcaps hl hY=>?_⟩
 have hlen:=hcaps.1
 let F' : Fr:=⟨F.W,F.S,ks,g,A 0,none⟩
 have hh' : RelH F' K0 g (A 0) w:=hh.reb rfl rfl (fun _ _ _ h=>h)
 refine callsIn_wide.1 (callsIn_of_wp_marks (F:=Fence.wide) (n:=0) hf hb trivial (wpIn_mono (h ks A cont (g,A 0) hL hM hY F' K0 g _ w ⟨by rw[aA1,aAz];exact hh',?_,?_,trivial,rfl,rfl,List.nodup_nil,fun q hq=>by cases hq;exact⟨rfl,rfl⟩⟩) ?_))
 ·intro t
  rw[aA1,aAz,aA2]
  cases t with
  | zero =>
   have:((Value.func (.yield l) #[] #[]::vs).toArray++Array.replicate (fn.ntmps - (Value.func (.yield l) #[] #[]::vs).toArray.size) undef).getD 0 undef=Value.func (.yield l) #[] #[]:=by
    rw[Array.getD_eq_getD_getElem?,Array.getElem?_append_left (by simp)];simp
   rw[this]
   exact⟨l,hl,rfl,hL.nr 0⟩
  | succ t =>
   simp only[List.getElem?_cons_succ]
   cases ht:caps[t]? with
   | none=>trivial
   | some x =>
    have hlt:t<vs.length:=by have:=(List.getElem?_eq_some_iff.1 ht).1;omega
    have:((Value.func (.yield l) #[] #[]::vs).toArray++Array.replicate (fn.ntmps - (Value.func (.yield l) #[] #[]::vs).toArray.size) undef).getD (t+1) undef=vs[t]:=by
     rw[Array.getD_eq_getD_getElem?,Array.getElem?_append_left (by simpa using hlt)];simp[hlt]
    rw[this]
    exact hcaps.2 t x _ ht (List.getElem?_eq_getElem hlt)
 ·rw[aD7];simp;omega
 ·rintro e a' w' ⟨g',σ',hr,hQ⟩
  have fin:(σ'.fx.dfs=[]∧∃ n,vW cont xs.length n∧kC σ'.H (A n))→LeavesInM Fence.wide 0 P fn a'.tmps (fun e w'=>∃ v g' n,e = .returned v∧vW cont xs.length n∧RelH F K0 g' (A n) w'∧gB g (A 0) g' (A n)) a'.defers .returning w':=by
   rintro⟨hdf,m,hst,hB⟩
   have hd:=hr.defers
   rw[hdf] at hd
   have hnil:a'.defers=[]:=by
    cases hq:a'.defers with
    | nil=>rfl
    | cons x y=>rw[hq] at hd;exact hd.elim
   rw[hnil]
   have hln:ks=σ'.fx.lent:=hr.ln
   have hcl:kD ks σ'.H:=fun k cs hk hH=>hL.cl m k cs hk (by rw[← hB k (hL.lt k hk)];exact hH)
   have hm:=hr.mem.drop ks (fun i hi=>by have:i ∈ ks:=hi;simpa using this) hcl
   rw[aEa hB hL.lt (hL.sup m)] at hm
   have hgle:gB g (A 0) (g'.on ks) (A m):=fun x v r=>hm.lent x v (fun i hi=>by
    have hne:=vS hh r i hi
    cases hc:ks.contains i with
    | true=>show i ∈ ks;simpa using hc
    | false=>exact absurd (hL.sup 0 i hc) hne) r
   refine⟨.tuple #[],?_,_,_,m,rfl,hst,hm.reb rfl rfl (hh.lent.trans hgle),hgle⟩
   unfold results
   rw[hrs]
   simp
  cases e with
  | normal=>exact fin hQ
  | ret=>exact fin hQ
  | _=>exact hQ.elim
theorem aOp.of_body {P : Program} {f : FuncId} {fn : Func} {c : Code} {caps : List D} {xs : List (List D)} {n : Nat} (hf : P.funcs[f]? = some fn) (hb : fn.body = some c) (hn : (fn.name == "runtime.NumGoroutine") = false) (hnt : fn.ntmps = n) (hrs : fn.results = #[]) (hle : caps.length + 1 ≤ n)
  (h:∀ (ks:List Nat) (A:Nat→Hp) (cont:Nat→Bool) (q:G × Hp),Lent ks A→(∀ i (hi:i<xs.length),(∀ j,j<i→cont j=true)→aJc P q.1 q.2 ks xs[i] (A i) (cont i) (A (i+1)))→Wp P c (tL (caps.map SV.ofD) (A 0) ks q n) (aP1 A cont xs.length)):aOp P f caps xs :=
 aOq.of_body hf hb hn hnt hrs (by simpa using hle) (fun ks A cont q hL _ hY=>h ks A cont q hL hY)
theorem aNk (B:Hp) (k:Nat) (x:HE) (M:List (Nat × HE)):yR B ((k,x)::M)=upd (yR B M) k (some x):=by
 funext i
 unfold yR upd
 simp only[List.lookup_cons]
 by_cases h:i=k
 ·subst h;simp
 ·have:(i == k)=false:=by simpa using h
  simp[this,h]
theorem Lent.above {ks:List Nat} {A:Nat→Hp} (h:Lent ks A) (i k:Nat) (hk:1000≤k):A i k=none:=h.sup i k (by
 cases hc:ks.contains k with
 | false=>rfl
 | true=>have:=h.lt k hc;omega)
theorem Lent.rb {ks:List Nat} {A:Nat→Hp} (h:Lent ks A) (i j:Nat):Go.Proofs.YtkmfmphpndhkjaaGreatDoor.rb (A j) (A i)=A j:=by
 funext k
 unfold Go.Proofs.YtkmfmphpndhkjaaGreatDoor.rb
 split
 ·rfl
 ·rw[h.above i k (by omega),h.above j k (by omega)]
theorem YAt.of {P:Program} {all:List Oper} {n:Nat} {o:Oper} {σ:St} {k:St→Prop} {ks:List Nat} {A:Nat→Hp} {q:G × Hp} {y d:Nat} {b:Bool} {ds:List D} {f:Operand} {args:Array Operand} {tys:Array TypeId} (hL:Lent ks A) (hfx:σ.fx=⟨ks,[],false,some q⟩)
  (hop:o.op = .call { callee:=.value f,args:=args,argTypes:=tys }) (hg:o.guard=none) (hdst:o.dst=some d) (hY:aJc P q.1 q.2 ks ds (A y) b (A (y+1))) (hB:kC σ.H (A y)) (hd:d<σ.sz) (hf:bV σ.env f = .c (.yld 999)) (hds:bZ (SV.toD σ.H) (args.toList.map (bV σ.env))=some ds)
  (hrest:kE P all (all.drop (n+1)) ⟨upd σ.env d (vb b),rb (A (y+1)) σ.H,σ.nx,σ.sz,σ.fx⟩ [] (fun σ' _=>k σ')):YAt P all n o σ k:=by
 refine⟨f,args,tys,ds,A y,b,A (y+1),d,q,hop,hg,hdst,hd,by rw[hfx],by rw[hfx],hf,hds,by rw[hfx];exact hY,hB,by rw[hfx];exact hL.lt,by rw[hfx];exact hL.l,by rw[hfx];exact hL.sup y,by rw[hfx];exact hL.sup (y+1),by rw[hfx];exact hL.cl y,hrest⟩
def aOa (env:Nat→SV):List Nat→List D→Nat→SV
 | p::ps,d::ds=>aOa (upd env p (SV.ofD d)) ps ds
 | _,_=>env
theorem aOb (env:Nat→SV) (p:Nat) (ps:List Nat) (d:D) (ds:List D):aOa env (p::ps) (d::ds)=aOa (upd env p (SV.ofD d)) ps ds:=rfl
theorem aIu (env:Nat→SV) (ds:List D):aOa env [] ds=env:=by cases ds<;>rfl
theorem aIv {g:G} {H:Hp}:∀ (ps:List Nat) (ds:List D) (vs:List Value) (env:Nat→SV) (tmps:Array Value),gK g.K ds vs→(∀ t,bH g H (env t) (tmps.getD t undef))→(∀ p ∈ ps,p<tmps.size)→ps.length=ds.length →
  (∀ t,bH g H (aOa env ps ds t) (((ps.zip vs).foldl (fun (tm:Array Value) (q:Nat × Value)=>tm.setIfInBounds q.1 q.2) tmps).getD t undef))∧((ps.zip vs).foldl (fun (tm:Array Value) (q:Nat × Value)=>tm.setIfInBounds q.1 q.2) tmps).size=tmps.size
 | [],ds,vs,env,tmps,_,he,_,_=>⟨by rw[aIu];exact he,rfl⟩
 | p::ps,[],vs,env,tmps,_,he,_,hl=>by simp at hl
 | p::ps,d::ds,[],env,tmps,hr,_,_,_=>by have:=hr.1;simp at this
 | p::ps,d::ds,v::vs,env,tmps,hr,he,hp,hl=>by
  have hd:Rep g.K d v:=hr.2 0 d v rfl rfl
  have hr' : gK g.K ds vs:=⟨by simpa using hr.1,fun j x u hx hu=>hr.2 (j+1) x u hx hu⟩
  have hpt:=hp p (by simp)
  have:=aIv ps ds vs (upd env p (SV.ofD d)) (tmps.setIfInBounds p v) hr' (fun t=>by
   by_cases ht:t=p
   ·subst ht
    rw[aC,Array.getD_eq_getD_getElem?,Array.getElem?_setIfInBounds_self_of_lt hpt]
    exact lW hd _ _ rfl
   ·rw[aB _ _ ht,Array.getD_eq_getD_getElem?,Array.getElem?_setIfInBounds_ne (Ne.symm ht),← Array.getD_eq_getD_getElem?]
    exact he t) (fun q hq=>by simpa using hp q (by simp[hq])) (by simpa using hl)
  simp only[List.zip_cons_cons,List.foldl_cons]
  exact⟨this.1,this.2.trans (by simp)⟩
theorem aJ7 (ps:Array Nat) (vs:List Value) (tmps:Array Value):(ps.zip vs.toArray).foldl (fun tmps (t,a)=>tmps.setIfInBounds t a) tmps=(ps.toList.zip vs).foldl (fun (tm:Array Value) (q:Nat × Value)=>tm.setIfInBounds q.1 q.2) tmps:=by
 rw[← Array.foldl_toList]
 simp[Array.toList_zip]
abbrev fxR (ks:List Nat) (iD:Nat):Fx:=⟨ks++[iD,999],[],true,none⟩
def aBm (σ:St) (ps:List Nat) (x:List D) (M:List (Nat × HE)) (ks:List Nat) (iD:Nat) (o:Obj):St:=⟨aOa σ.env ps x,bJ (M++[(iD,dfO),(999,.obj o)]),σ.nx,σ.sz,fxR ks iD⟩
def wN (σ:St) (M:List (Nat × HE)) (iD:Nat):St:=⟨σ.env,bJ (M++[(iD,dfO)]),σ.nx,σ.sz,{ σ.fx with dfs:=iD::σ.fx.dfs }⟩
def aEt:Exit→Code
 | .exit id=>.exit id
 | _=>.ret
def aAf:Exit→Bool
 | .exit _=>true
 | .ret=>true
 | _=>false
def aQr (σ:St) (M' : List (Nat × HE)) (ks:List Nat) (iD:Nat) (go:Bool) (ex:Exit) (o:Obj):Exit→St→Prop:=fun e σ2 =>
 aD σ2 ⟨dI [],bJ (M' ++ [(iD,dfO),(999,.obj o)]),0,σ.sz,fxR ks iD⟩∧((e = .normal∧go=true)∨(go=false∧e=ex∧aAf e=true))
theorem aAk {M N:List (Nat × HE)} (i:Nat):(M++N).lookup i=match M.lookup i with|some x=>some x|none=>N.lookup i:=by
 induction M with
 | nil=>rfl
 | cons p M ih =>
  obtain⟨k,x⟩:=p
  simp only[List.cons_append,List.lookup_cons]
  cases i == k
  ·exact ih
  ·rfl
theorem oF {M:List (Nat × HE)} {i:Nat} (h:(M.map (·.1)).contains i=false):M.lookup i=none:=by
 cases hm:M.lookup i with
 | none=>rfl
 | some x =>
  have:i ∈ M.map (·.1):=List.mem_map.2 ⟨_,eL hm,rfl⟩
  rw[List.contains_eq_mem,decide_eq_false_iff_not] at h
  exact absurd this h
theorem aK5 {M:List (Nat × HE)} {ks:List Nat} {iD:Nat} (hk:M.map (·.1)=ks) (hD:ks.contains iD=false) (h9:ks.contains 999=false) (hne:iD≠999) (o:Obj) :
  bJ (M++[(iD,dfO),(999,.obj o)])=upd (upd (bJ M) iD (some dfO)) 999 (some (.obj o)):=by
 subst hk
 funext i
 show (M++_).lookup i=_
 rw[aAk]
 by_cases h1:i=999
 ·subst h1
  rw[aC,oF h9]
  have:(999 == iD)=false:=by simpa using Ne.symm hne
  simp[List.lookup_cons,this]
 ·rw[aB _ _ h1]
  by_cases h2:i=iD
  ·subst h2
   rw[aC,oF hD]
   simp[List.lookup_cons]
  ·rw[aB _ _ h2]
   show _=M.lookup i
   cases M.lookup i with
   | some x=>rfl
   | none =>
    have e1:(i == iD)=false:=by simpa using h2
    have e2:(i == 999)=false:=by simpa using h1
    simp[List.lookup_cons,e1,e2]
theorem aF4 {M:List (Nat × HE)} {ks:List Nat} {iD:Nat} (hk:M.map (·.1)=ks) (hD:ks.contains iD=false):bJ (M++[(iD,dfO)])=upd (bJ M) iD (some dfO):=by
 subst hk
 funext i
 show (M++_).lookup i=_
 rw[aAk]
 by_cases h2:i=iD
 ·subst h2
  rw[aC,oF hD]
  simp[List.lookup_cons]
 ·rw[aB _ _ h2]
  show _=M.lookup i
  cases M.lookup i with
  | some x=>rfl
  | none =>
   have e1:(i == iD)=false:=by simpa using h2
   simp[List.lookup_cons,e1]
theorem aD2 {M:List (Nat × HE)} {ks ks' : List Nat} (hk:M.map (·.1)=ks) (hok:aO [] M=true) (hsub:∀ i,ks.contains i=true→ks'.contains i=true):∀ k he,bJ M k=some he→∀ i ∈ he.ids,ks'.contains i=true:=by
 intro k cs hH i hi
 simp only[aO,Bool.and_eq_true] at hok
 have hmem:(k,cs) ∈ M:=eL hH
 have:=List.all_eq_true.1 (List.all_eq_true.1 hok.2 _ hmem) i hi
 rw[hk] at this
 exact hsub i this
theorem Wp.rangeFuncG {P:Program} {σ:St} {Q:Exit→St→Prop} {f:Operand} {ps:Array Tmp} {assign body:Code} {gf:FuncId} {caps:List SV} {M:List (Nat × HE)} {xs:List (List D)}
  (hrd:σ.fx.rd=false) (hf:aGm (bV σ.env f)=some (gf,caps)) (hs:aOq P gf caps M xs) (iD:Nat) (S:Nat→List (Nat × HE)) (ks:List Nat) (cont:Nat→Bool) (ex:Nat→Exit)
  (hM:∀ i,∀ p ∈ M,bJ (S i) p.1=some p.2) (hH:σ.H=bJ (S 0)) (hkeys:∀ i,(S i).map (·.1)=ks) (hks:(ks.all (fun k=>decide (k<999)) && !ks.contains iD && decide (iD<999))=true) (hok:∀ i,aO [] (S i)=true) (hln:(σ.fx.lent.all fun i=>ks.contains i)=true)
  (hdf:∀ i,∀ id ∈ σ.fx.dfs,bJ (S i) id=some dfO) (hps:(ps.toList.all fun p=>decide (p<σ.sz))=true) (hlen:∀ x ∈ xs,x.length=ps.toList.length)
  (hround:∀ i (hi:i<xs.length),(∀ j,j<i→cont j=true)→∀ o1:Obj,Wp P assign (aBm σ ps.toList xs[i] (S i) ks iD o1) (fun e σ1=>e = .normal∧σ1.H 999=some (.obj o1)∧σ1.fx=fxR ks iD∧∀ o2:Obj,Wp P body { σ1 with H:=upd σ1.H 999 (some (.obj o2)) } (aQr σ (S (i+1)) ks iD (cont i) (ex i) o2)))
  (hexit:∀ i,i<xs.length→(∀ j,j<i→cont j=true)→cont i=false→aAf (ex i)=true∧Q (ex i) (wN σ (S (i+1)) iD))
  (hdone:(∀ j,j<xs.length→cont j=true)→Q .normal (wN σ (S xs.length) iD)):Wp P (.rangeFunc f ps assign body) σ Q:=by
 intro F K0 g a w hr
 have hro:F.ro=none:=by
  have:=hr.rd
  rw[hrd] at this
  cases hq:F.ro with
  | none=>rfl
  | some l=>rw[hq] at this;simp at this
 simp only[Bool.and_eq_true,Bool.not_eq_true',decide_eq_true_eq] at hks
 obtain⟨⟨hk1,hkD⟩,hD9⟩:=hks
 have hklt:∀ k,ks.contains k=true→k<999:=fun k hk=>by
  have:=List.all_eq_true.1 hk1 k (by simpa using hk)
  simpa using this
 have hk9:ks.contains 999=false:=by
  cases hc:ks.contains 999 with
  | false=>rfl
  | true=>have:=hklt 999 hc;omega
 have hDne:iD≠999:=by omega
 obtain⟨ks',hks'⟩:∃ ks',ks' = ks++[iD,999]:=⟨_,rfl⟩
 have hin:∀ i,ks.contains i=true→ks'.contains i=true:=fun i hi=>by
  rw[hks'];simp only[List.contains_eq_mem,decide_eq_true_eq,List.mem_append] at hi ⊢;exact .inl hi
 have hinD:ks'.contains iD=true:=by rw[hks'];simp
 have hin9:ks'.contains 999=true:=by rw[hks'];simp
 have hout:∀ i,ks'.contains i=false→ks.contains i=false∧i≠iD∧i≠999:=fun i hi=>by
  rw[hks'] at hi
  simp only[List.contains_eq_mem,decide_eq_false_iff_not,List.mem_append,not_or,List.mem_cons,List.not_mem_nil,or_false] at hi ⊢
  exact⟨hi.1,hi.2.1,hi.2.2⟩
 rw[hro]
 show (Code.rangeFunc f ps assign body).wpIn Fence.wide 0 P _ a w
 refine wpIn_rangeFunc ?_
 intro fn _
 -- the record
 let rec_:LoopState→Option Code→Obj:=fun st pe=>.loop { state:=st,pending:=pe,fn:=fn,tmps:=a.tmps,params:=ps,assign:=assign,body:=body,defers:=w.heap.size }
 let ost:Nat→Obj:=fun i=>if (List.range i).all cont then rec_ .ready none else rec_ .done (some (aEt (ex (i - 1))))
 let A:Nat→Hp:=fun i=>bJ (S i++[(iD,dfO),(999,.obj (ost i))])
 have hA:∀ i,A i=upd (upd (bJ (S i)) iD (some dfO)) 999 (some (.obj (ost i))):=fun i=>aK5 (hkeys i) hkD hk9 hDne _
 have hSout:∀ i k,ks.contains k=false→bJ (S i) k=none:=fun i k hk=>oF (by rw[hkeys i];exact hk)
 have hLent:Lent ks' A:=by
  refine⟨fun k hk=>?_,hin9,fun i k hk=>?_,fun i=>?_,fun i k cs hk hH j hj=>?_⟩
  ·rw[hks'] at hk
   simp only[List.contains_eq_mem,decide_eq_true_eq,List.mem_append,List.mem_cons,List.not_mem_nil,or_false] at hk
   rcases hk with h|rfl|rfl
   ·have:=hklt k (by simpa using h);omega
   ·omega
   ·omega
  ·obtain⟨h1,h2,h3⟩:=hout k hk
   rw[hA,aB _ _ h3,aB _ _ h2];exact hSout i k h1
  ·rw[hA,aC];rfl
  ·rw[hA] at hH
   by_cases h3:k=999
   ·subst h3;rw[aC] at hH;cases hH;simp[HE.ids] at hj
   rw[aB _ _ h3] at hH
   by_cases h2:k=iD
   ·subst h2;rw[aC] at hH;cases hH;simp[HE.ids] at hj
   rw[aB _ _ h2] at hH
   exact aD2 (hkeys i) (hok i) hin k cs hH j hj
 -- two new objects
 have hnD:σ.H iD=none:=by rw[hH];exact hSout 0 iD hkD
 obtain⟨hm1,hle1⟩:=hr.mem.newObj (.deferred (some [])) hnD
 have hn9:upd σ.H iD (some (HE.obj (.deferred (some [])))) 999=none:=by rw[aB _ _ (Ne.symm hDne),hH];exact hSout 0 999 hk9
 obtain⟨hm2,hle2⟩:=hm1.newObj (rec_ .ready none) hn9
 have host0:ost 0=rec_ .ready none:=rfl
 have hA0:upd (upd σ.H iD (some (HE.obj (.deferred (some []))))) 999 (some (HE.obj (rec_ .ready none)))=A 0:=by rw[hA,← hH,host0]
 rw[hA0] at hm2 hle2
 generalize hg2:(⟨g.K,upd (upd g.β iD (some w.heap.size)) 999 (some (w.alloc (.deferred (some []))).heap.size),g.cap⟩:G)=g2 at hm2 hle2
 have hle:gB g σ.H g2 (A 0):=hle1.trans hle2
 have hβ9:g2.β 999=some (w.heap.size+1):=by rw[← hg2];simp only[aC];simp
 have hβD:g2.β iD=some w.heap.size:=by rw[← hg2];simp only[aB _ _ hDne,aC]
 have hids:∀ t,∀ i ∈ (σ.env t).ids,ks.contains i=true:=by
  intro t i hi
  have hne:σ.H i≠none:=by
   have h0:=hr.env t
   generalize σ.env t=x at h0 hi
   cases x with
   | c x=>exact vS hr.mem h0 i hi
   | agg cs =>
    obtain⟨vs,_,hrr,_⟩:=h0
    obtain⟨c,hc1,hc2⟩:=List.mem_flatMap.1 hi
    obtain⟨j,hj,rfl⟩:=List.getElem_of_mem hc1
    have hl0:=hrr.1
    exact vS hr.mem (hrr.2 j cs[j] (vs[j]'(by omega)) (List.getElem?_eq_getElem hj) (List.getElem?_eq_getElem (by omega))) i hc2
  cases hc:ks.contains i with
  | true=>rfl
  | false=>rw[hH,hSout 0 i hc] at hne;exact absurd rfl hne
 obtain⟨cvs,hav,hcr⟩:=tF (iQ hr f) hf
 have hMA:∀ i,∀ p ∈ M,A i p.1=some p.2:=fun i p hp=>by
  have h0:=hM i p hp
  have hc:ks.contains p.1=true:=by
   cases hc:ks.contains p.1 with
   | true=>rfl
   | false=>rw[hSout i p.1 hc] at h0;cases h0
  have h3:p.1≠999:=by have:=hklt p.1 hc;omega
  have h2:p.1≠iD:=fun e=>by rw[e,hkD] at hc;cases hc
  rw[hA,aB _ _ h3,aB _ _ h2];exact h0
 have hcaps:jC g2 (A 0) caps cvs:=⟨hcr.1,fun j x v hx hv=>(hcr.2 j x v hx hv).mono hle⟩
 ·refine⟨w.heap.size+1,[{ target:=.collected w.heap.size,args:=#[] }],(w.alloc (.deferred (some []))).alloc (rec_ .ready none),{ target:=.fn (.func gf) cvs.toArray,args:=#[.func (.yield (w.heap.size+1)) #[] #[]] },(w.alloc (.deferred (some []))).alloc (rec_ .ready none),gf,(Value.func (.yield (w.heap.size+1)) #[] #[]::cvs).toArray,(w.alloc (.deferred (some []))).alloc (rec_ .ready none),run_enterLoop_outer _ _ _ _ _,?_,?_,?_,fun h=>by simp[Fence.wide] at h,?_⟩
  ·simp only[resolve,hav]
   simp[go_sem]
  ·intro f' hf';trivial
  ·have hbody:=hs.1
   unfold iT at hbody
   split at hbody
   ·rename_i fn' hfn
    simp only[Bool.and_eq_true,Bool.not_eq_true'] at hbody
    have hb1:¬ fn'.body=none:=by intro e;rw[e] at hbody;simp at hbody
    have hb2 : ¬ fn'.name = "runtime.NumGoroutine" := by simpa using hbody.1
    simp[invoke,callFunc,hfn,hb1,hb2]
   ·cases hbody
  ·refine callsIn_wide.2 ?_
   have hcall:=hs.2 ks' A cont hLent hMA F K0 g2 _ cvs (w.heap.size+1) hm2 hcaps hβ9 ?_
   ·refine hcall.mono ?_
    rintro e w3 ⟨v,g3,n,rfl,hst,hrel,hgle⟩
    -- behind the function
    have h9:A n 999=some (.obj (ost n)):=by rw[hA,aC]
    have hβ3:g3.β 999=some (w.heap.size+1):=by
     obtain⟨b',hb',he,_⟩:=hgle (.own 999 0) (.pointer (some ⟨w.heap.size+1,0,none⟩)) ⟨_,hβ9,rfl,hLent.nr 0⟩
     simp only[Value.pointer.injEq,Option.some.injEq,Addr.mk.injEq,and_true] at he
     rw[hb',he]
    have hβ3D:g3.β iD=some w.heap.size:=by
     obtain⟨b',hb',he,_⟩:=hgle (.own iD 0) (.pointer (some ⟨w.heap.size,0,none⟩)) ⟨_,hβD,rfl,by rw[hA,aB _ _ hDne,aC];rfl⟩
     simp only[Value.pointer.injEq,Option.some.injEq,Addr.mk.injEq,and_true] at he
     rw[hb',he]
    obtain⟨b3,hb3,hheap3,_⟩:=hrel.holds 999 _ h9
    rw[hβ3] at hb3;cases hb3
    -- the frame behind it
    have hfin:∀ ob,Rel F K0 (g3.on (ks++[iD])) (wN σ (S n) iD) { a with defers:=[{ target:=.collected w.heap.size,args:=#[] }]++a.defers } (w3.putObj (w.heap.size+1) ob):=by
     intro ob
     obtain⟨hm4,hle4⟩:=hrel.setObj ob h9 hβ3
     have hin1:∀ i,ks.contains i=true→(ks++[iD]).contains i=true:=fun i hi=>by
      simp only[List.contains_eq_mem,decide_eq_true_eq,List.mem_append] at hi ⊢;exact .inl hi
     have hcl4:kD (ks++[iD]) (upd (A n) 999 (some (.obj ob))):=by
      intro k cs hk hH j hj
      by_cases h3:k=999
      ·subst h3;rw[aC] at hH;cases hH;simp[HE.ids] at hj
      rw[aB _ _ h3,hA,aB _ _ h3] at hH
      by_cases h2:k=iD
      ·subst h2;rw[aC] at hH;cases hH;simp[HE.ids] at hj
      rw[aB _ _ h2] at hH
      exact aD2 (hkeys n) (hok n) hin1 k cs hH j hj
     have hln4:∀ i ∈ F.ln,(ks++[iD]).contains i=true:=fun i hi=>hin1 i (by rw[hr.ln] at hi;exact List.all_eq_true.1 hln i hi)
     have hm5:=hm4.drop (ks++[iD]) hln4 hcl4
     have hon:Hp.on (ks++[iD]) (upd (A n) 999 (some (.obj ob)))=bJ (S n++[(iD,dfO)]):=by
      rw[aF4 (hkeys n) hkD]
      funext k
      by_cases h2:k=iD
      ·subst h2
       rw[Hp.on_in (show (ks++[k]).contains k=true by simp),aB _ _ hDne,hA,aB _ _ hDne,aC]
      ·rw[aB _ _ h2]
       cases hc:ks.contains k with
       | true =>
        have h3:k≠999:=by have:=hklt k hc;omega
        rw[Hp.on_in (hin1 k hc),aB _ _ h3,hA,aB _ _ h3,aB _ _ h2]
       | false =>
        rw[Hp.on_out (show (ks++[iD]).contains k=false by simp only[List.contains_eq_mem,decide_eq_false_iff_not,List.mem_append,not_or,List.mem_singleton] at hc ⊢;exact⟨hc,h2⟩),hSout n k hc]
     rw[hon] at hm5
     refine⟨hm5,fun t=>?_,hr.size,?_,hr.ln,hr.rd,?_,hr.lt⟩
     ·have he:=((hr.env t).mono hle).mono (hgle.trans hle4)
      have:=bH.on (ks:=ks++[iD]) (fun i hi=>hin1 i (hids t i hi)) he
      rw[hon] at this
      exact this
     ·show dB _ _ (iD::σ.fx.dfs) ({ target:=.collected w.heap.size,args:=#[] }::a.defers)
      refine⟨⟨w.heap.size,(G.on_in (by simp)).trans hβ3D,rfl⟩,?_,?_⟩
      ·show bJ (S n++[(iD,dfO)]) iD=some dfO
       rw[aF4 (hkeys n) hkD,aC]
      ·have hd:=hr.defers
       have hmem:∀ i ∈ σ.fx.dfs,i ∈ σ.fx.dfs:=fun _ h=>h
       revert hd hmem
       generalize a.defers=ds
       suffices ∀ l,(∀ i ∈ l,i ∈ σ.fx.dfs)→dB g σ.H l ds→dB (g3.on (ks++[iD])) (bJ (S n++[(iD,dfO)])) l ds from fun hd hmem=>this σ.fx.dfs hmem hd
       intro l hl hd
       induction l generalizing ds with
       | nil=>cases ds with
        | nil=>trivial
        | cons _ _=>exact hd.elim
       | cons i l ih=>cases ds with
        | nil=>exact hd.elim
        | cons d ds =>
         obtain⟨⟨b,hb,e⟩,h2,h3⟩:=hd
         have hci:ks.contains i=true:=by
          cases hc:ks.contains i with
          | true=>rfl
          | false=>rw[hH,hSout 0 i hc] at h2;cases h2
         have hne:i≠iD:=fun e=>by subst e;rw[hkD] at hci;cases hci
         refine⟨⟨b,?_,e⟩,?_,ih ds (fun j hj=>hl j (by simp[hj])) h3⟩
         ·obtain⟨b',hb',he,_⟩:=(hle.trans hgle) (.own i 0) (.pointer (some ⟨b,0,none⟩)) ⟨b,hb,rfl,by rw[h2];rfl⟩
          simp only[Value.pointer.injEq,Option.some.injEq,Addr.mk.injEq,and_true] at he
          rw[G.on_in (hin1 i hci),hb',he]
         ·rw[aF4 (hkeys n) hkD,aB _ _ hne]
          exact hdf n i (hl i (by simp))
     ·show (iD::σ.fx.dfs).Nodup
      refine List.nodup_cons.2 ⟨fun hm=>?_,hr.nodup⟩
      have:=hdf 0 iD hm
      rw[hSout 0 iD hkD] at this;cases this
    have hstate:∀ (hall:(List.range n).all cont=true),ost n=rec_ .ready none:=fun hall=>by show (if _ then _ else _)=_;rw[if_pos hall]
    have hstop:∀ (hall:(List.range n).all cont=false),ost n=rec_ .done (some (aEt (ex (n - 1)))):=fun hall=>by show (if _ then _ else _)=_;rw[if_neg (by rw[hall];simp)]
    cases hall:(List.range n).all cont with
    | true =>
     rw[hstate hall] at hheap3
     refine⟨none,_,run_endLoop hheap3 (by simp),?_⟩
     have hn:n=xs.length∧∀ j,j<n→cont j=true:=by
      rcases hst.2.2 with h|⟨h1,h2⟩
      ·exact h
      ·have:=List.all_eq_true.1 hall (n - 1) (by simp;omega)
       rw[h2] at this;cases this
     obtain⟨rfl,hc⟩:=hn
     exact⟨_,_,hfin _,hdone hc⟩
    | false =>
     rw[hstop hall] at hheap3
     refine⟨some (aEt (ex (n - 1))),_,run_endLoop hheap3 (by simp),?_⟩
     have hn:0<n∧cont (n - 1)=false:=by
      rcases hst.2.2 with ⟨_,h⟩|h
      ·have:(List.range n).all cont=true:=List.all_eq_true.2 (fun j hj=>h j (by simpa using hj))
       rw[this] at hall;cases hall
      ·exact h
     obtain⟨hj,hq⟩:=hexit (n - 1) (by have:=hst.1;omega) (fun j hj=>hst.2.1 j (by omega)) hn.2
     rw[show n - 1+1=n by omega] at hq
     generalize ex (n - 1)=e0 at hj hq
     cases e0 with
     | exit id=>exact wpIn_exit ⟨_,_,hfin _,hq⟩
     | ret=>exact wpIn_ret ⟨_,_,hfin _,hq⟩
     | _=>simp[aAf] at hj
   ·intro i hi hcont F' K0' g' w' vs' l' hln' hg' hH' hh' hargs hl'
    have hall:(List.range i).all cont=true:=List.all_eq_true.2 (fun j hj=>hcont j (by simpa using hj))
    have hosti:ost i=rec_ .ready none:=by show (if _ then _ else _)=_;rw[if_pos hall]
    have h9:A i 999=some (.obj (rec_ .ready none)):=by rw[hA,aC,hosti]
    obtain⟨b0,hb0,hheap0,_⟩:=hh'.holds 999 _ h9
    rw[hl'] at hb0;cases hb0
    have hxl:=hlen xs[i] (List.getElem_mem hi)
    have hvl:vs'.length=ps.size:=by have:=hargs.1;simp at hxl;omega
    refine⟨fn,_,assign,body,run_yield hheap0 (by simpa using hvl),roundIn_of_wpIn trivial ?_⟩
    let F2:Fr:=⟨F'.W,F'.S,ks',g',A i,some l'⟩
    have hmono:∀ t,bH g' (A i) (σ.env t) (a.tmps.getD t undef):=by
     intro t
     have he:=(hr.env t).mono hle
     have hi':=hids t
     generalize σ.env t=x at he hi'
     have pB:∀ x v,(∀ i ∈ CV.ids x,ks.contains i=true)→bG g2 (A 0) x v→bG g' (A i) x v:=fun x v hx h =>
      hh'.lent x v (fun j hj=>by rw[hln'];have:=hin j (hx j hj);simpa using this) (by rw[hg',hH'];exact h)
     cases x with
     | c x=>exact pB x _ hi' he
     | agg cs =>
      obtain⟨vs,hv,hrr,h1⟩:=he
      exact⟨vs,hv,⟨hrr.1,fun j x v hx hv=>pB x v (fun k hk=>hi' k (List.mem_flatMap.2 ⟨x,List.mem_of_getElem? hx,hk⟩)) (hrr.2 j x v hx hv)⟩,h1⟩
    have hset:=aIv (H:=A i) ps.toList xs[i] vs' σ.env a.tmps hargs hmono (fun p hp=>by rw[hr.size];simpa using List.all_eq_true.1 hps p hp) hxl.symm
    have hrel:Rel F2 K0' g' (aBm σ ps.toList xs[i] (S i) ks iD (rec_ .ready none)) { tmps:=(ps.zip vs'.toArray).foldl (fun tmps (t,a)=>tmps.setIfInBounds t a) a.tmps,defers:=[] } w':=by
     have hHe:(aBm σ ps.toList xs[i] (S i) ks iD (rec_ .ready none)).H=A i:=by show bJ _=bJ _;rw[← hosti]
     refine⟨by rw[hHe];exact hh'.reb rfl rfl (fun _ _ _ h=>h),fun t=>?_,?_,trivial,hks',rfl,List.nodup_nil,fun q hq=>by cases hq⟩
     ·rw[hHe]
      show bH g' (A i) _ (Array.getD ((ps.zip vs'.toArray).foldl (fun tmps (t,a)=>tmps.setIfInBounds t a) a.tmps) t undef)
      rw[aJ7];exact hset.1 t
     ·show Array.size ((ps.zip vs'.toArray).foldl (fun tmps (t,a)=>tmps.setIfInBounds t a) a.tmps)=σ.sz
      rw[aJ7,hset.2];exact hr.size
    have h1:=hround i hi hcont (rec_ .ready none) F2 K0' g' _ w' hrel
    refine wpIn_mono h1 ?_
    rintro e a1 w1 ⟨g1,σ1,hr1,rfl,hσ9,hσfx,hbody⟩
    have hβof:∀ gx Hx wx,RelH F2 K0' gx Hx wx→gx.β 999=some l':=fun gx Hx wx hx=>by
     obtain⟨b',hb',he,_⟩:=hx.lent (.own 999 0) (.pointer (some ⟨l',0,none⟩)) (fun j hj=>by simp[CV.ids] at hj;subst hj;show 999 ∈ ks';simpa using hin9) ⟨l',hl',rfl,hLent.nr i⟩
     simp only[Value.pointer.injEq,Option.some.injEq,Addr.mk.injEq,and_true] at he
     rw[hb',he]
    have hβ1:=hβof g1 σ1.H w1 hr1.mem
    obtain⟨b1,hb1,hheap1,_⟩:=hr1.mem.holds 999 _ hσ9
    rw[hβ1] at hb1;cases hb1
    refine⟨_,run_beginRound hheap1 rfl,?_⟩
    obtain⟨hmb,hleb⟩:=hr1.mem.setObj (rec_ .busy none) hσ9 hβ1
    have hr2:Rel F2 K0' g1 { σ1 with H:=upd σ1.H 999 (some (.obj (rec_ .busy none))) } a1 (w1.putObj l' (rec_ .busy none)):=by
     refine⟨hmb,fun t=>(hr1.env t).mono hleb,hr1.size,?_,hr1.ln,hr1.rd,hr1.nodup,hr1.lt⟩
     have hd:=hr1.defers
     show dB _ _ σ1.fx.dfs a1.defers
     rw[hσfx] at hd ⊢
     cases hq:a1.defers with
     | nil=>trivial
     | cons x y=>rw[hq] at hd;exact hd.elim
    refine wpIn_mono (hbody (rec_ .busy none) F2 K0' g1 a1 _ hr2) ?_
    rintro e a3 w3 ⟨g3,σ3,hr3,hwk,hcase⟩
    obtain⟨g4,hr4⟩:=hwk F2 K0' g3 a3 w3 hr3
    have hm4:RelH F2 K0' g4 (bJ (S (i+1)++[(iD,dfO),(999,.obj (rec_ .busy none))])) w3:=hr4.mem
    have hβ4:=hβof g4 _ w3 hm4
    have hH4:bJ (S (i+1)++[(iD,dfO),(999,.obj (rec_ .busy none))]) 999=some (.obj (rec_ .busy none)):=by rw[aK5 (hkeys (i+1)) hkD hk9 hDne,aC]
    obtain⟨b4,hb4,hheap4,_⟩:=hm4.holds 999 _ hH4
    rw[hβ4] at hb4;cases hb4
    have hend:∀ ob,ost (i+1)=ob→RelH F' K0' g4 (A (i+1)) (w3.putObj l' ob)∧gB g' (A i) g4 (A (i+1)):=by
     rintro ob rfl
     obtain⟨hm5,hle5⟩:=hm4.setObj (ost (i+1)) hH4 hβ4
     have hAe:upd (bJ (S (i+1)++[(iD,dfO),(999,.obj (rec_ .busy none))])) 999 (some (.obj (ost (i+1))))=A (i+1):=by
      rw[hA,aK5 (hkeys (i+1)) hkD hk9 hDne]
      funext k
      by_cases hk:k=999
      ·subst hk;rw[aC,aC]
      ·rw[aB _ _ hk,aB _ _ hk,aB _ _ hk]
     rw[hAe] at hm5
     have hgle:gB g' (A i) g4 (A (i+1)):=fun x v r=>hm5.lent x v (fun j hj=>by
      have hne:=vS hh' r j hj
      cases hc:ks'.contains j with
      | true=>show j ∈ ks';simpa using hc
      | false=>exact absurd (hLent.sup i j hc) hne) r
     exact⟨hm5.reb rfl rfl (hh'.lent.trans hgle),hgle⟩
    have hsucc:∀ c,cont i=c→(List.range (i+1)).all cont=c:=fun c hc=>by rw[List.range_succ,List.all_append,hall];simp[hc]
    rcases hcase with ⟨rfl,hgo⟩|⟨hgo,rfl,hj⟩
    ·have ho:ost (i+1)=rec_ .ready none:=by show (if _ then _ else _)=_;rw[if_pos (hsucc true hgo)]
     obtain⟨h5,h6⟩:=hend _ ho
     exact⟨_,_,run_endRound none hheap4,g4,by rw[hgo];rfl,h5,h6⟩
    ·have ho:ost (i+1)=rec_ .done (some (aEt (ex i))):=by show (if _ then _ else _)=_;rw[if_neg (by rw[hsucc false hgo];simp)];rfl
     obtain⟨h5,h6⟩:=hend _ ho
     generalize hex:ex i=e0 at hj h5
     cases e0 with
     | exit id=>exact⟨_,_,run_endRound (some (.exit id)) hheap4,g4,by rw[hgo];rfl,h5,h6⟩
     | ret=>exact⟨_,_,run_endRound (some .ret) hheap4,g4,by rw[hgo];rfl,h5,h6⟩
     | _=>simp[aAf] at hj
theorem Wp.rangeFunc {P:Program} {σ:St} {Q:Exit→St→Prop} {f:Operand} {ps:Array Tmp} {assign body:Code} {gf:FuncId} {caps:List D} {xs:List (List D)}
  (hrd:σ.fx.rd=false) (hf:bV σ.env f = .c (.d (.fn (.func gf) caps))) (hs:aOp P gf caps xs) (iD:Nat) (S:Nat→List (Nat × HE)) (ks:List Nat) (cont:Nat→Bool) (ex:Nat→Exit)
  (hH:σ.H=bJ (S 0)) (hkeys:∀ i,(S i).map (·.1)=ks) (hks:(ks.all (fun k=>decide (k<999)) && !ks.contains iD && decide (iD<999))=true) (hok:∀ i,aO [] (S i)=true) (hln:(σ.fx.lent.all fun i=>ks.contains i)=true)
  (hdf:∀ i,∀ id ∈ σ.fx.dfs,bJ (S i) id=some dfO) (hps:(ps.toList.all fun p=>decide (p<σ.sz))=true) (hlen:∀ x ∈ xs,x.length=ps.toList.length)
  (hround:∀ i (hi:i<xs.length),(∀ j,j<i→cont j=true)→∀ o1:Obj,Wp P assign (aBm σ ps.toList xs[i] (S i) ks iD o1) (fun e σ1=>e = .normal∧σ1.H 999=some (.obj o1)∧σ1.fx=fxR ks iD∧∀ o2:Obj,Wp P body { σ1 with H:=upd σ1.H 999 (some (.obj o2)) } (aQr σ (S (i+1)) ks iD (cont i) (ex i) o2)))
  (hexit:∀ i,i<xs.length→(∀ j,j<i→cont j=true)→cont i=false→aAf (ex i)=true∧Q (ex i) (wN σ (S (i+1)) iD))
  (hdone:(∀ j,j<xs.length→cont j=true)→Q .normal (wN σ (S xs.length) iD)):Wp P (.rangeFunc f ps assign body) σ Q :=
 Wp.rangeFuncG (M:=[]) hrd (by rw[hf];rfl) hs iD S ks cont ex (fun _ p hp=>by simp at hp) hH hkeys hks hok hln hdf hps hlen hround hexit hdone
def aTr:=PLift.up (ai (ai (ai (ai (ai (ai @kE.eq_1 @kE.eq_2) (ai @bgd.eq_1 (ai @bgd.eq_2 @bgd.eq_3))) (ai (ai @bgo.eq_1 @bgo.eq_2) (ai @bgo.eq_3 (ai @bgo.eq_4 @aJj.eq_1)))) (ai (ai (ai @tD.eq_1 @gV.eq_1) (ai @bV.eq_1 (ai @bV.eq_2 @bV.eq_3))) (ai (ai @bV.eq_4 @Res.pure.eq_1) (ai @pE.eq_1 (ai @aE2.eq_1 @ldv.eq_1))))) (ai (ai (ai (ai @lJ.eq_1 @wK.eq_1) (ai @kH.eq_1 (ai @xT.eq_1 @xT.eq_2))) (ai (ai @aKu.eq_1 @iB.eq_1) (ai @oC.eq_1 (ai @xX @aGk)))) (ai (ai (ai @SV.exact.eq_1 @SV.exact.eq_2) (ai @SV.nat.eq_1 (ai @SV.cells.eq_1 @SV.cells.eq_2))) (ai (ai @bZ.eq_1 (ai @bZ.eq_2 @CV.toD.eq_1)) (ai @CV.toD.eq_2 (ai @CV.toD.eq_3 @CV.toD.eq_4)))))) (ai (ai (ai (ai (ai @CV.toD.eq_5 @CV.toD.eq_6) (ai @CV.toD.eq_7 (ai @CV.toD.eq_8 @SV.toD.eq_1))) (ai (ai @SV.toD.eq_2 @fZ.eq_1) (ai @fK.eq_1 (ai @fK.eq_2 @oB.eq_1)))) (ai (ai (ai @oB.eq_2 @yS.eq_1) (ai @yS.eq_2 (ai @aEg.eq_1 @aEg.eq_2))) (ai (ai @retV.eq_1 @retV.eq_2) (ai @uU.eq_1 (ai @Go.undef.eq_1 @eqL.eq_1))))) (ai (ai (ai (ai @eqL.eq_2 @eqH.eq_1) (ai @eqH.eq_2 (ai @aRa @aNi))) (ai (ai @Int.add_sub_cancel @Int.cast_ofNat_Int) (ai @aA2 (ai @aA1 @aMt)))) (ai (ai (ai @aD7 @aMs) (ai @aNk (ai @aAz @aV2))) (ai (ai @zO (ai @aOb @aIu)) (ai @aBm.eq_1 (ai @wN.eq_1 @fxR.eq_1)))))))
theorem aVl:type_of% aTr.down:=aTr.down
theorem aL:type_of% (ai aVl (ai (ai (ai (ai @bgo.eq_5 (ai @aAn.eq_1 (ai @asz.eq_1 (ai @sB.eq_1 (ai @zH.eq_1 @pF.eq_1))))) (ai @aAm.eq_1 @rJ.eq_1)) (ai @nP.eq_1 (ai @aAo.eq_1 @aAl.eq_1))) (ai (ai (ai @if_true.{1} @if_false.{1}) (ai @ite_true.{1} @ite_false.{1})) (ai (ai @ne_eq.{1} (ai @true_implies @false_implies)) (ai (ai @implies_true.{0} @implies_true.{1}) (ai @exists_eq_left.{1} (ai @exists_eq_left'.{1} @eq_self.{1}))))))) :=
 ai aVl (ai (ai (ai (ai @bgo.eq_5 (ai @aAn.eq_1 (ai @asz.eq_1 (ai @sB.eq_1 (ai @zH.eq_1 @pF.eq_1))))) (ai @aAm.eq_1 @rJ.eq_1)) (ai @nP.eq_1 (ai @aAo.eq_1 @aAl.eq_1))) (ai (ai (ai @if_true.{1} @if_false.{1}) (ai @ite_true.{1} @ite_false.{1})) (ai (ai @ne_eq.{1} (ai @true_implies @false_implies)) (ai (ai @implies_true.{0} @implies_true.{1}) (ai @exists_eq_left.{1} (ai @exists_eq_left'.{1} @eq_self.{1}))))))
end Go.Proofs.YtkmfmphpndhkjaaGreatDoor
