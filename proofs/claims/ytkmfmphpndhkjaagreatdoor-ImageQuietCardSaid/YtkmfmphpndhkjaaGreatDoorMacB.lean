/- The abstract machine (AbsM, AbsN, AbsS, Run, AbsP, AbsR). -/
import Derived.Test.YtkmfmphpndhkjaaGreatDoorMacL
import Derived.IntWalk
import Derived.Laws.Strings
namespace Go.Proofs.YtkmfmphpndhkjaaGreatDoor
open Go Go.RowKit
set_option linter.unusedVariables false
set_option linter.unusedSimpArgs false
def dI (L:List (Nat × SV)):Nat→SV:=fun t=>match L.lookup t with
 | some x=>x
 | none=>.c .any
def bJ (M:List (Nat × HE)):Hp:=fun i=>M.lookup i
def SV.ids:SV→List Nat
 | .c x=>x.ids
 | .agg cs=>cs.flatMap CV.ids
def HE.ids:HE→List Nat
 | .cells cs=>cs.flatMap CV.ids
 | .mrow _ _ _ cs=>cs.flatMap CV.ids
 | .ob cs _=>cs.flatMap CV.ids
 | _=>[]
def aO (L:List (Nat × SV)) (M:List (Nat × HE)):Bool :=
 (L.all fun p=>p.2.ids.all fun i=>(M.map (·.1)).contains i) && (M.all fun p=>p.2.ids.all fun i=>(M.map (·.1)).contains i)
theorem eL {α:Type}:∀ {L:List (Nat × α)} {t:Nat} {x:α},L.lookup t=some x→(t,x) ∈ L
 | (u,y)::L,t,x,h=>by
  simp only[List.lookup_cons] at h
  cases e:(t == u) with
  | true=>rw[e] at h;simp at h e;subst h e;simp
  | false=>rw[e] at h;exact List.mem_cons_of_mem _ (eL h)
theorem nQ {α:Type}:∀ {L:List (Nat × α)} {t:Nat},t ∈ L.map (·.1)→∃ x,L.lookup t=some x
 | (u,y)::L,t,h=>by
  simp only[List.lookup_cons]
  cases e:(t == u) with
  | true=>exact⟨y,rfl⟩
  | false =>
   simp only[List.map_cons,List.mem_cons] at h
   have hne:¬ t=u:=by simpa using e
   exact nQ (h.resolve_left hne)
def jQ (f:Fx) (M:List (Nat × HE)):Bool:=(f.lent++f.dfs).all fun i=>(M.map (·.1)).contains i
theorem sT {f:Fx} {i:Nat} {M:List (Nat × HE)} (h:jQ f M=true) (hi:i ∈ f.lent++f.dfs):i ∈ M.map (·.1):=by
 have:=List.all_eq_true.1 h i hi
 simpa using this
theorem aD.head {σ:St} {L:List (Nat × SV)} {M:List (Nat × HE)} {nx:Nat} (hL:∀ p ∈ L,σ.env p.1=p.2) (hM:∀ p ∈ M,σ.H p.1=some p.2) (hid:aO L M=true) (hln:jQ σ.fx M=true):aD σ ⟨dI L,bJ M,nx,σ.sz,σ.fx⟩:=by
 intro W0 K0 g a w r
 simp only[aO,Bool.and_eq_true] at hid
 have hH:∀ i,i ∈ M.map (·.1)→bJ M i=σ.H i:=fun i hi=>by
  obtain⟨x,hx⟩:=nQ hi
  show M.lookup i=_
  rw[hx,hM _ (eL hx)]
 let β' : Nat→Option Nat:=fun i=>if (M.map (·.1)).contains i then g.β i else none
 have hβ:∀ i,i ∈ M.map (·.1)→β' i=g.β i:=fun i hi=>by show (if _ then _ else _)=_;rw[if_pos (by simpa using hi)]
 have hβ' : ∀ i b,β' i=some b→i ∈ M.map (·.1)∧g.β i=some b:=fun i b h=>by
  have h:(if (M.map (·.1)).contains i then g.β i else none)=some b:=h
  split at h
  ·rename_i hc;exact⟨by simpa using hc,h⟩
  ·cases h
 have hrep:∀ x v,(∀ i ∈ CV.ids x,i ∈ M.map (·.1))→bG g σ.H x v→bG { g with β:=β' } (bJ M) x v:=by
  intro x v hi h
  cases x with
  | any=>trivial
  | d x=>exact h
  | full sz xs=>exact h
  | own id off =>
   obtain⟨b,hb,rfl,hr⟩:=h
   have:=hi id (by simp[CV.ids])
   exact⟨b,(hβ id this).trans hb,rfl,by rw[hH id this];exact hr⟩
  | yld id =>
   obtain⟨b,hb,hv,hr⟩:=h
   have:=hi id (by simp[CV.ids])
   exact⟨b,(hβ id this).trans hb,hv,by rw[hH id this];exact hr⟩
  | mt τ k =>
   obtain⟨q1,e,sz,n,cs,hm,hk,q2⟩:=h
   have:=hi τ (by simp[CV.ids])
   exact⟨q1,e,sz,n,cs,by rw[hH τ this];exact hm,hk,fun hn=>by
    rcases q2 hn with ⟨b,hb,hv⟩|⟨hb,hc,hv⟩
    ·exact .inl ⟨b,(hβ τ this).trans hb,hv⟩
    ·exact .inr ⟨(hβ τ this).trans hb,hc,hv⟩⟩
  | mpt τ k o =>
   obtain⟨q1,e,sz,n,cs,hm,hk,q2⟩:=h
   have:=hi τ (by simp[CV.ids])
   exact⟨q1,e,sz,n,cs,by rw[hH τ this];exact hm,hk,fun hn=>by
    obtain⟨b,hb,hv⟩:=q2 hn
    exact⟨b,(hβ τ this).trans hb,hv⟩⟩
  | apt τ sz xs k =>
   have:=hi τ (by simp[CV.ids])
   exact sZ (by exact jO.refl _) h (fun e n q=>(hH τ this).trans q) (hβ τ this) rfl
  | mp id =>
   obtain⟨b,hb,hv,hr⟩:=h
   have:=hi id (by simp[CV.ids])
   exact⟨b,(hβ id this).trans hb,hv,by rw[hH id this];exact hr⟩
  | view id sz off len =>
   obtain⟨b,c,hb,rfl,hc,hr⟩:=h
   have:=hi id (by simp[CV.ids])
   exact⟨b,c,(hβ id this).trans hb,rfl,hc,by rw[hH id this];exact hr⟩
  | app τ sz xs =>
   obtain⟨h1,e,n,hrow,hl,hf⟩:=h
   have:=hi τ (by simp[CV.ids])
   refine⟨h1,e,n,(hH τ this).trans hrow,hl,fun hn=>?_⟩
   rcases hf hn with h2|⟨b,hb,hv⟩
   ·exact .inl h2
   ·exact .inr ⟨b,(hβ τ this).trans hb,hv⟩
  | clo f caps =>
   obtain⟨vs,hv,hl,hc⟩:=h
   refine⟨vs,hv,hl,fun j c u hj hu=>?_⟩
   have hcu:=hc j c u hj hu
   cases c with
   | d x=>exact hcu
   | own id off =>
    obtain⟨b,hb,hv,hr⟩:=hcu
    have:=hi id (List.mem_flatMap.2 ⟨_,List.mem_of_getElem? hj,by simp[Cap.ids]⟩)
    exact⟨b,(hβ id this).trans hb,hv,by rw[hH id this];exact hr⟩
  | bnd f caps =>
   obtain⟨vs,hv,hl,hc⟩:=h
   refine⟨vs,hv,hl,fun j c u hj hu=>?_⟩
   have hcu:=hc j c u hj hu
   cases c with
   | d x=>exact hcu
   | own id off =>
    obtain⟨b,hb,hv,hr⟩:=hcu
    have:=hi id (List.mem_flatMap.2 ⟨_,List.mem_of_getElem? hj,by simp[Cap.ids]⟩)
    exact⟨b,(hβ id this).trans hb,hv,by rw[hH id this];exact hr⟩
 have hreps:∀ cs vs,(∀ i ∈ cs.flatMap CV.ids,i ∈ M.map (·.1))→dJ g σ.H cs vs→dJ { g with β:=β' } (bJ M) cs vs:=fun cs vs hi h =>
  ⟨h.1,fun j x v hx hv=>hrep x v (fun i hix=>hi i (List.mem_flatMap.2 ⟨x,List.mem_of_getElem? hx,hix⟩)) (h.2 j x v hx hv)⟩
 refine⟨{ g with β:=β' },⟨r.mem.below,r.mem.ext,r.mem.kw,?_,?_,?_,?_,?_,r.mem.glob,?_⟩,?_,r.size,?_,r.ln,r.rd,r.nodup,r.lt⟩
 ·intro id he hlk
  have hmem:(id,he) ∈ M:=eL hlk
  have hid2:id ∈ M.map (·.1):=List.mem_map.2 ⟨_,hmem,rfl⟩
  have hold:=r.mem.holds id he (hM _ hmem)
  have hids:∀ i ∈ he.ids,i ∈ M.map (·.1):=fun i hi=>by
   have:=List.all_eq_true.1 (List.all_eq_true.1 hid.2 _ hmem) i hi
   simpa using this
  cases he with
  | cells cs =>
   obtain⟨b,vs,t,hb,hheap,hr,h1,hn⟩:=hold
   exact⟨b,vs,t,(hβ id hid2).trans hb,hheap,hreps cs vs hids hr,h1,hn⟩
  | obj o =>
   obtain⟨b,hb,hheap,hn⟩:=hold
   exact⟨b,(hβ id hid2).trans hb,hheap,hn⟩
  | froz ds =>
   obtain⟨b,vs,hb,hr⟩:=hold
   exact⟨b,vs,(hβ id hid2).trans hb,hr⟩
  | rot e sz n=>exact cA hold (hβ id hid2) rfl (fun _ _ _ q=>q) (fun _ _ _ q _=>q)
  | mrow e sz n cs =>
   obtain⟨p1,p2,p3⟩:=hold
   refine⟨p1,p2,?_⟩
   rcases p3 with ⟨p4,p5⟩|⟨b,cur,vs,rest,p4,p5,p6,p7,p8,p9,p10⟩
   ·exact .inl ⟨(hβ id hid2).trans p4,p5⟩
   ·exact .inr ⟨b,cur,vs,rest,(hβ id hid2).trans p4,p5,p6,p7,hreps cs vs hids p8,p9,p10⟩
  | ob cs p =>
   obtain⟨b,vs,o,p4,p5,p6,p7,p8⟩:=hold
   exact⟨b,vs,o,(hβ id hid2).trans p4,p5,hreps cs vs hids p6,p7,p8⟩
  | row e sz n =>
   intro b hb
   exact hold b ((hβ id hid2).symm.trans hb)
 ·intro id b hb;exact r.mem.base id b (hβ' id b hb).2
 ·intro id hn
  show (if (M.map (·.1)).contains id then g.β id else none)=none
  split
  ·rename_i hc
   obtain⟨x,hx⟩:=nQ (L:=M) (t:=id) (by simpa using hc)
   have hn:M.lookup id=none:=hn
   rw[hx] at hn;cases hn
  ·rfl
 ·intro i j b hi hj;exact r.mem.sep i j b (hβ' i b hi).2 (hβ' j b hj).2
 ·intro i b hi;exact r.mem.frozlt i b (hβ' i b hi).2
 ·intro x v hi hx
  exact hrep x v (fun i hix=>sT hln (List.mem_append_left _ (by have:=hi i hix;rw[r.ln] at this;exact this))) (r.mem.lent x v hi hx)
 ·intro t
  show bH _ _ (dI L t) _
  unfold dI
  cases hlk:L.lookup t with
  | none=>trivial
  | some x =>
   have hmem:(t,x) ∈ L:=eL hlk
   have hids:∀ i ∈ x.ids,i ∈ M.map (·.1):=fun i hi=>by
    have:=List.all_eq_true.1 (List.all_eq_true.1 hid.1 _ hmem) i hi
    simpa using this
   have he:=r.env t
   rw[hL _ hmem] at he
   cases x with
   | c x=>exact hrep x _ hids he
   | agg cs =>
    obtain⟨vs,hv,hr,h1⟩:=he
    exact⟨vs,hv,hreps cs vs hids hr,h1⟩
 ·show dB { g with β:=β' } (bJ M) σ.fx.dfs a.defers
  have hmem:∀ i ∈ σ.fx.dfs,i ∈ M.map (·.1):=fun i hi=>sT hln (List.mem_append_right _ hi)
  have hd:=r.defers
  generalize σ.fx.dfs=l at hd hmem
  generalize a.defers=ds at hd
  induction l generalizing ds with
  | nil=>cases ds with
   | nil=>trivial
   | cons _ _=>exact hd.elim
  | cons i l ih=>cases ds with
   | nil=>exact hd.elim
   | cons d ds =>
    obtain⟨⟨b,hb,e⟩,h2,h3⟩:=hd
    exact⟨⟨b,(hβ i (hmem i (by simp))).trans hb,e⟩,(hH i (hmem i (by simp))).trans h2,ih (fun j hj=>hmem j (by simp[hj])) ds h3⟩
def eqL (env:Nat→SV):List (Nat × SV)→Prop
 | []=>True
 | (t,x)::L=>env t=x∧eqL env L
def eqH (H:Hp):List (Nat × HE)→Prop
 | []=>True
 | (i,x)::L=>H i=some x∧eqH H L
theorem aEq {env:Nat→SV}:∀ {L:List (Nat × SV)},eqL env L→∀ p ∈ L,env p.1=p.2
 | (t,x)::L,h,p,hp=>by
  rcases List.mem_cons.1 hp with rfl|hp
  ·exact h.1
  ·exact aEq h.2 p hp
theorem yY {H:Hp}:∀ {L:List (Nat × HE)},eqH H L→∀ p ∈ L,H p.1=some p.2
 | (t,x)::L,h,p,hp=>by
  rcases List.mem_cons.1 hp with rfl|hp
  ·exact h.1
  ·exact yY h.2 p hp
theorem aD.keep {σ:St} {L:List (Nat × SV)} {M:List (Nat × HE)} {nx n:Nat} {ln:Fx} (hn:(n,ln)=(σ.sz,σ.fx)) (hid:(aO L M && jQ ln M)=true) (h:eqL σ.env L∧eqH σ.H M):aD σ ⟨dI L,bJ M,nx,n,ln⟩:=by
 simp only[Prod.mk.injEq] at hn
 obtain⟨rfl,rfl⟩:=hn
 simp only[Bool.and_eq_true] at hid
 exact aD.head (aEq h.1) (yY h.2) hid.1 hid.2
theorem aD.freeze {σ:St} {id:Nat} {cs:List CV} {ds:List D} (hid:σ.H id=some (.cells cs)) (hd:bZ CV.toD0 cs=some ds):aD σ { σ with H:=upd σ.H id (some (.froz ds)) }:=by
 intro W0 K0 g a w r
 obtain⟨g',h1,h2⟩:=r.mem.freeze hid hd
 exact⟨g',h1,fun t=>(r.env t).mono h2,r.size,r.defers.mono h2 (fun i o hi=>by rw[aB _ _ (fun e=>by subst e;rw[hid] at hi;cases hi)];exact hi),r.ln,r.rd,r.nodup,r.lt⟩
theorem aD.tok {σ:St} {τ:Nat} (e sz n:Nat) (hτ:σ.H τ=none):aD σ { σ with H:=upd σ.H τ (some (.row e sz n)) }:=by
 intro W0 K0 g a w r
 have hβ:g.β τ=none:=r.mem.dom τ hτ
 have hle:gB g σ.H g (upd σ.H τ (some (.row e sz n))):=by
  intro x v h
  cases x with
  | own i off =>
   obtain⟨b,hb,rfl,hnr⟩:=h
   have hne:i≠τ:=fun e=>by subst e;rw[hβ] at hb;cases hb
   exact⟨b,hb,rfl,by rw[aB _ _ hne];exact hnr⟩
  | view i s off len =>
   obtain⟨b,c,hb,rfl,hc,hnr⟩:=h
   have hne:i≠τ:=fun e=>by subst e;rw[hβ] at hb;cases hb
   exact⟨b,c,hb,rfl,hc,by rw[aB _ _ hne];exact hnr⟩
  | clo f caps=>exact fL h (jO.refl _) (fun i off v ⟨b,hb,hv,hnr⟩=>⟨b,hb,hv,by rw[aB _ _ (fun e=>by subst e;rw[hβ] at hb;cases hb)];exact hnr⟩)
  | bnd f caps=>exact fJ h (jO.refl _) (fun i off v ⟨b,hb,hv,hnr⟩=>⟨b,hb,hv,by rw[aB _ _ (fun e=>by subst e;rw[hβ] at hb;cases hb)];exact hnr⟩)
  | yld i=>exact fP h (fun i off v ⟨b,hb,hv,hnr⟩=>⟨b,hb,hv,by rw[aB _ _ (fun e=>by subst e;rw[hβ] at hb;cases hb)];exact hnr⟩)
  | mp i=>exact iJ h (fun i off v ⟨b,hb,hv,hnr⟩=>⟨b,hb,hv,by rw[aB _ _ (fun e=>by subst e;rw[hβ] at hb;cases hb)];exact hnr⟩)
  | mt i k=>exact kZ (MLe.upd (fun _ _ _ _ h=>by rw[hτ] at h;cases h) (fun _ _=>rfl) (fun _ _=>rfl)) h
  | apt i s xs k=>exact iK (by exact jO.refl _) (TLe.upd (fun _ _ _ h=>by rw[hτ] at h;cases h) (fun _ _=>rfl) (fun _ _=>rfl)) h
  | mpt i k o=>exact kY (MLe.upd (fun _ _ _ _ h=>by rw[hτ] at h;cases h) (fun _ _=>rfl) (fun _ _=>rfl)) h
  | app i s xs' =>
   obtain⟨r1,e',n,hrow,hl,hf⟩:=h
   have hne:i≠τ:=fun e=>by subst e;rw[hτ] at hrow;cases hrow
   exact⟨r1,e',n,by rw[aB _ _ hne];exact hrow,hl,hf⟩
  | _=>exact h
 refine⟨g,⟨r.mem.below,r.mem.ext,r.mem.kw,fun i he hi=>?_,r.mem.base,fun i hi=>?_,r.mem.sep,r.mem.frozlt,r.mem.glob,r.mem.lent.trans hle⟩,fun t=>(r.env t).mono hle,r.size,r.defers.mono hle (fun i o hi=>by rw[show (upd σ.H τ (some (HE.row e sz n))) i=σ.H i from aB _ _ (fun e=>by subst e;rw[hτ] at hi;cases hi)];exact hi),r.ln,r.rd,r.nodup,r.lt⟩
 ·by_cases hne:i=τ
  ·subst hne
   have hi:upd σ.H i (some (HE.row e sz n)) i=some he:=hi
   rw[aC] at hi;cases hi
   intro b hb;rw[hβ] at hb;cases hb
  ·have hi:upd σ.H τ (some (HE.row e sz n)) i=some he:=hi
   rw[aB _ _ hne] at hi
   have:=r.mem.holds i he hi
   cases he with
   | cells cs =>
    obtain⟨b,vs,t,h1,h2,h3,h4⟩:=this
    exact⟨b,vs,t,h1,h2,h3.mono hle,h4⟩
   | obj o=>exact this
   | froz ds=>exact this
   | mrow e2 s2 n2 cs2=>exact cK this rfl rfl (fun _ _ _ q=>q) hle (fun _ _ _ q _=>q)
   | rot e2 s2 n2=>exact cA this rfl rfl (fun _ _ _ q=>q) (fun _ _ _ q _=>q)
   | ob cs2 p=>exact eF this rfl rfl (fun _ _ _ q=>q) hle (fun _ _ _ q _=>q)
   | row e s n=>exact this
 ·by_cases hne:i=τ
  ·subst hne
   have hi:upd σ.H i (some (HE.row e sz n)) i=none:=hi
   rw[aC] at hi;cases hi
  ·have hi:upd σ.H τ (some (HE.row e sz n)) i=none:=hi
   rw[aB _ _ hne] at hi;exact r.mem.dom i hi
theorem aJ0 {g:G} {H:Hp} {τ e sz n:Nat} {x:CV} {xs:List (List D)} (hτ:H τ=some (.row e sz n)) (hx:(x = .d (.val (.slice none 0 0))∧xs=[])∨x = .full sz xs) (hn:n=xs.length) (v:Value) (h:bG g H x v):bG g H (.app τ sz xs) v:=by
 subst hn
 rcases hx with ⟨rfl,rfl⟩|rfl
 ·have h:Rep g.K (.val (.slice none 0 0)) v:=h
  cases h
  exact⟨aFo _ _,e,_,hτ,Nat.le_refl _,fun _=>.inl ⟨none,rfl⟩⟩
 ·exact⟨h.1,e,_,hτ,Nat.le_refl _,fun _=>.inl h.2⟩
theorem aD.slot {σ:St} {t:Nat} {x y:SV} (ht:σ.env t=x) (hxy:∀ g v,bH g σ.H x v→bH g σ.H y v):aD σ { σ with env:=upd σ.env t y }:=by
 intro W0 K0 g a w r
 refine⟨g,r.mem,fun u=>?_,r.size,r.defers,r.ln,r.rd,r.nodup,r.lt⟩
 show bH g σ.H (upd σ.env t y u) _
 by_cases h:u=t
 ·subst h;rw[aC];exact hxy g _ (ht ▸ r.env u)
 ·rw[aB _ _ h];exact r.env u
theorem aD.cellAt {σ:St} {id k:Nat} {cs:List CV} {x y:CV} (hid:σ.H id=some (.cells cs)) (hk:cs[k]? = some x) (hxy:∀ g v,bG g σ.H x v→bG g σ.H y v):aD σ { σ with H:=upd σ.H id (some (.cells (cs.set k y))) }:=by
 intro W0 K0 g a w r
 obtain⟨b,vs,t,hb,hheap,hr,h1,hn⟩:=r.mem.holds id _ hid
 have hr' : dJ g σ.H (cs.set k y) vs:=by
  refine⟨by simp[hr.1],fun j z v hz hv=>?_⟩
  rw[List.getElem?_set] at hz
  split at hz
  ·rename_i e
   subst e
   split at hz
   ·cases hz;exact hxy g v (hr.2 k x v hk hv)
   ·cases hz
  ·exact hr.2 j z v hz hv
 have hle:gB g σ.H g (upd σ.H id (some (.cells (cs.set k y)))):=gB.box (by rw[hid];rfl) rfl
 refine⟨g,⟨r.mem.below,r.mem.ext,r.mem.kw,fun i he hi=>?_,r.mem.base,fun i hi=>?_,r.mem.sep,r.mem.frozlt,r.mem.glob,r.mem.lent.trans hle⟩,fun t=>(r.env t).mono hle,r.size,r.defers.mono hle (fun i o hi=>by rw[show (upd σ.H id (some (HE.cells (cs.set k y)))) i=σ.H i from aB _ _ (fun e=>by subst e;rw[hid] at hi;cases hi)];exact hi),r.ln,r.rd,r.nodup,r.lt⟩
 ·have hi:upd σ.H id (some (HE.cells (cs.set k y))) i=some he:=hi
  by_cases hne:i=id
  ·subst hne
   rw[aC] at hi;cases hi
   exact⟨b,vs,t,hb,hheap,hr'.mono hle,h1,hn⟩
  ·rw[aB _ _ hne] at hi
   have:=r.mem.holds i he hi
   cases he with
   | cells cs =>
    obtain⟨b,vs,t,h1,h2,h3,h4⟩:=this
    exact⟨b,vs,t,h1,h2,h3.mono hle,h4⟩
   | obj o=>exact this
   | froz ds=>exact this
   | mrow e2 s2 n2 cs2=>exact cK this rfl rfl (fun _ _ _ q=>q) hle (fun _ _ _ q _=>q)
   | rot e2 s2 n2=>exact cA this rfl rfl (fun _ _ _ q=>q) (fun _ _ _ q _=>q)
   | ob cs2 p=>exact eF this rfl rfl (fun _ _ _ q=>q) hle (fun _ _ _ q _=>q)
   | row e s n=>exact this
 ·have hi:upd σ.H id (some (HE.cells (cs.set k y))) i=none:=hi
  by_cases hne:i=id
  ·subst hne;rw[aC] at hi;cases hi
  ·rw[aB _ _ hne] at hi;exact r.mem.dom i hi
/-! regions that come to one value -/
def uU (l:List Oper):List Nat:=l.filterMap (·.dst)
theorem nB {P:Program} {all:List Oper}:∀ {l:List Oper} {σ:St} {tr:List Foot} {k k' : St→List Foot→Prop},lY P all l σ tr k→(∀ σ' tr',k σ' tr'→(∀ t,t ∉ uU l→σ'.env t=σ.env t)→(σ'.sz=σ.sz∧σ'.fx=σ.fx)→k' σ' tr')→lY P all l σ tr k'
 | [],σ,tr,k,k',h,hk=>hk _ _ h (fun _ _=>rfl) ⟨rfl,rfl⟩
 | o::os,σ,tr,k,k',h,hk=>by
  have hput:∀ (x:SV) t,t ∉ uU (o::os)→mO σ.env o.dst x t=σ.env t∧t ∉ uU os:=fun x t ht=>by
   cases hd:o.dst with
   | none=>exact⟨rfl,fun h=>ht (by simp only[uU,List.filterMap_cons,hd];exact h)⟩
   | some d =>
    simp only[uU,List.filterMap_cons,hd,List.mem_cons,not_or] at ht
    exact⟨aB _ _ ht.1,ht.2⟩
  simp only[lY] at h ⊢
  split at h
  ·exact h.elim
  ·rename_i t ht
   refine⟨fun e=>?_,fun e=>?_⟩
   ·obtain⟨r,hr1,hd,hrest⟩:=oN (h.1 e)
    have:=nB (k':=k') hrest (fun σ' tr' hk' he hs=>hk σ' tr' hk' (fun t ht=>(he t (hput r.v t ht).2).trans (hput r.v t ht).1) hs)
    exact aCv hr1 ⟨hd,this⟩
   ·obtain⟨hd,hrest⟩:=h.2 e
    exact⟨hd,nB hrest (fun σ' tr' hk' he hs=>hk σ' tr' hk' (fun t ht=>(he t (hput (.c .any) t ht).2).trans (hput (.c (.d (.val undef))) t ht).1) hs)⟩
def lM (l:List Nat) (env:Nat→SV):Nat→SV:=fun t=>if l.contains t then .c .any else env t
theorem aD.to {σ σ' : St} {l:List Nat} {d:Nat} {v:SV} (he:∀ t,t ∉ l→σ'.env t=σ.env t) (hs:σ'.sz=σ.sz∧σ'.fx=σ.fx) (hd:σ'.env d=v) (hH:σ'.H=σ.H):aD σ' ⟨upd (lM l σ.env) d v,σ.H,σ.nx,σ.sz,σ.fx⟩:=by
 intro W0 K0 g a w r
 refine⟨g,hH ▸ r.mem,fun t=>?_,by rw[r.size];exact hs.1,by show dB g σ.H σ.fx.dfs a.defers;rw[← hH,← hs.2];exact r.defers,by rw[r.ln,hs.2],by rw[r.rd,hs.2],by show σ.fx.dfs.Nodup;rw[← hs.2];exact r.nodup,by show ∀ q,σ.fx.lt=some q→_;rw[← hs.2];exact r.lt⟩
 show bH g σ.H (upd (lM l σ.env) d v t) _
 rw[← hH]
 by_cases h:t=d
 ·subst h;rw[aC,← hd];exact r.env t
 ·rw[aB _ _ h]
  unfold lM
  split
  ·trivial
  ·rename_i hn
   rw[← he t (by simpa using hn)];exact r.env t
section
variable {P:Program} {σ:St} {Q:Exit→St→Prop}
theorem Wp.seqTo {id:Nat} {all:List Oper} {y:Code} (d:Nat) (v:SV) (h:lY P all all σ [] (fun σ' _=>σ'.env d=v∧σ'.H=σ.H)) (hy:Wp P y ⟨upd (lM (uU all) σ.env) d v,σ.H,σ.nx,σ.sz,σ.fx⟩ Q):Wp P (.seq (.region id all.toArray false) y) σ Q :=
 Wp.seqRegion (fun K hK=>nB h (fun σ' _ hk he hs=>hK σ' (Wp.weak (aD.to he hs hk.1 hk.2) hy)))
theorem Wp.seqToD {id:Nat} {all:List Oper} {y:Code} (d:Nat) (v:SV) (hm:P.follows .mixedOrders=true) (h:lY P all all σ [] (fun σ' tr=>aH all tr=true∧σ'.env d=v∧σ'.H=σ.H)) (hy:Wp P y ⟨upd (lM (uU all) σ.env) d v,σ.H,σ.nx,σ.sz,σ.fx⟩ Q):Wp P (.seq (.region id all.toArray true) y) σ Q :=
 Wp.seqDrawn hm (fun K hK=>nB h (fun σ' _ hk he hs=>⟨hk.1,hK σ' (Wp.weak (aD.to he hs hk.2.1 hk.2.2) hy)⟩))
theorem Wp.meet {x y:Code} (σc:St) (h:Wp P x σ (eO (fun σ'=>aD σ' σc) Q)) (hy:Wp P y σc Q):Wp P (.seq x y) σ Q :=
 Wp.seq (h.mono (fun e σ' hq=>by
  cases e with
  | normal=>exact Wp.weak hq hy
  | _=>exact hq))
end
end Go.Proofs.YtkmfmphpndhkjaaGreatDoor
namespace Go.Proofs.YtkmfmphpndhkjaaGreatDoor
open Go Go.RowKit
set_option linter.unusedVariables false
set_option linter.unusedSimpArgs false
theorem aD.nilApp {σ:St} {t τ:Nat} (e sz:Nat) (hτ:σ.H τ=none) (ht:σ.env t = .c (.d (.val (.slice none 0 0)))):aD σ { σ with env:=upd σ.env t (.c (.app τ sz [])),H:=upd σ.H τ (some (.row e sz 0)) } :=
 (aD.tok (τ:=τ) e sz 0 hτ).trans (aD.slot (σ:={ σ with H:=upd σ.H τ (some (.row e sz 0)) }) (t:=t) ht (fun g v h=>aJ0 (e:=e) (n:=0) (xs:=[]) (aC _ _ _) (.inl ⟨rfl,rfl⟩) rfl v h))
theorem aD.nilAppCell {σ:St} {id k τ:Nat} {cs:List CV} (e sz:Nat) (hne:id≠τ) (hτ:σ.H τ=none) (hid:σ.H id=some (.cells cs)) (hk:cs[k]? = some (.d (.val (.slice none 0 0)))):aD σ { σ with H:=upd (upd σ.H τ (some (.row e sz 0))) id (some (.cells (cs.set k (.app τ sz [])))) } :=
 (aD.tok (τ:=τ) e sz 0 hτ).trans (aD.cellAt (σ:={ σ with H:=upd σ.H τ (some (.row e sz 0)) }) (id:=id) ((aB _ _ hne).trans hid) hk (fun g v h=>aJ0 (e:=e) (n:=0) (xs:=[]) (aC _ _ _) (.inl ⟨rfl,rfl⟩) rfl v h))
inductive BRes where
 | no
 | ok (r:Res)
 | okIf (tot:Nat) (r:Res)
 | call (f:FuncId) (ds:List D) (fp:List Nat)
 | scall (f:FuncId) (xs:List SV) (caps:List D)
def aJj (P:Program) (o:Oper) (ρ:Operand→SV) (H:Hp) (nx:Nat):BRes :=
 match o.op with
 | .call c=>match c.callee with
  | .builtin b=>match dO P b c.argTypes.toList o.type (c.args.toList.map ρ) H nx with
   | some (r,tot)=>.okIf tot r
   | none=>.no
  | .value f=>match ρ f with
   | .c (.d (.fn (.func f) caps))=>match bZ (SV.toD H) (c.args.toList.map ρ) with
    | some ds=>.call f (ds++caps) ((c.args.toList.map ρ).flatMap cC)
    | none=>.scall f (c.args.toList.map ρ) caps
   | _=>.no
  | _=>.no
 | op=>match bQ P op ρ H nx with
  | some r=>.ok r
  | none=>.no
def tD (σ:St) (o:Oper):Bool:=match o.dst with
 | some d=>decide (d<σ.sz)
 | none=>true
mutual
def kE (P:Program) (all:List Oper):List Oper→St→List Foot→(St→List Foot→Prop)→Prop
 | [],σ,tr,k=>k σ tr.reverse
 | o::os,σ,tr,k=>bgd P all o os σ tr k (gV all σ.env o)
termination_by l=>(l.length,0)
def bgd (P:Program) (all:List Oper) (o:Oper) (os:List Oper) (σ:St) (tr:List Foot) (k:St→List Foot→Prop):Option Bool→Prop
 | none=>False
 | some true=>bgo P all o os σ tr k (aJj P o (bV σ.env) σ.H σ.nx)
 | some false=>tD σ o=true∧kE P all os (σ.skip o) (⟨[],none⟩::tr) k
termination_by (os.length,3)
def bgo (P:Program) (all:List Oper) (o:Oper) (os:List Oper) (σ:St) (tr:List Foot) (k:St→List Foot→Prop):BRes→Prop
 | .no=>False
 | .ok r=>tD σ o=true∧kE P all os (σ.step o r) (⟨r.fp,r.up.map (·.1)⟩::tr) k
 | .okIf tot r=>tot≤140737488355328∧tD σ o=true∧kE P all os (σ.step o r) (⟨r.fp,r.up.map (·.1)⟩::tr) k
 | .call f ds fp=>aCw P all o os σ tr k f ds fp
 | .scall f xs caps=>aP2 P all o os σ tr k f xs caps
termination_by (os.length,2)
def aCw (P:Program) (all:List Oper) (o:Oper) (os:List Oper) (σ:St) (tr:List Foot) (k:St→List Foot→Prop) (f:FuncId) (ds:List D) (fp:List Nat):Prop :=
 (∃ y,aJ P f ds y∧tD σ o=true∧kE P all os (σ.step o ⟨SV.ofD y,none,fp,false⟩) (⟨fp,none⟩::tr) k) ∨
   (∃ e sz xs,pD P f ds e sz xs∧σ.H σ.nx=none∧tD σ o=true∧kE P all os (σ.step o ⟨.c (.app σ.nx sz xs),some (σ.nx,.row e sz xs.length),σ.nx::fp,true⟩) (⟨σ.nx::fp,some σ.nx⟩::tr) k)
termination_by (os.length,1)
def aP2 (P:Program) (all:List Oper) (o:Oper) (os:List Oper) (σ:St) (tr:List Foot) (k:St→List Foot→Prop) (f:FuncId) (xs:List SV) (caps:List D):Prop :=
 ∃ ds y,bZ (SV.snap σ.H) xs=some ds∧aJ P f (ds++caps) y∧y.free=true∧tD σ o=true∧kE P all os (σ.step o ⟨SV.ofD y,none,xs.flatMap (SV.snapFp σ.H)++xs.flatMap cC,false⟩) (⟨xs.flatMap (SV.snapFp σ.H)++xs.flatMap cC,none⟩::tr) k
termination_by (os.length,1)
end
theorem uM {σ:St} {o:Oper} (h:tD σ o=true):mQ σ o:=by
 unfold tD at h;unfold mQ
 cases hd:o.dst with
 | none=>trivial
 | some d=>rw[hd] at h;simpa using h
def aVj (P:Program) (o:Oper) (ρ:Operand→SV) (H:Hp) (nx:Nat):BRes→Prop
 | .no=>True
 | .ok r=>fW P o ρ H nx r
 | .okIf tot r=>tot≤140737488355328→fW P o ρ H nx r
 | .call f ds fp=>(∀ y,aJ P f ds y→fW P o ρ H nx ⟨SV.ofD y,none,fp,false⟩)∧∀ e sz xs,pD P f ds e sz xs→H nx=none→fW P o ρ H nx ⟨.c (.app nx sz xs),some (nx,.row e sz xs.length),nx::fp,true⟩
 | .scall f xs caps=>∀ ds y,bZ (SV.snap H) xs=some ds→aJ P f (ds++caps) y→y.free=true→fW P o ρ H nx ⟨SV.ofD y,none,xs.flatMap (SV.snapFp H)++xs.flatMap cC,false⟩
theorem aMm (P:Program) (o:Oper) (ρ:Operand→SV) (H:Hp) (nx:Nat):aVj P o ρ H nx (aJj P o ρ H nx):=by
 obtain⟨dst,op,type,pos,after,guard⟩:=o
 cases op with
 | call c =>
  obtain⟨cal,args,tys⟩:=c
  cases cal with
  | builtin b =>
   simp only[aJj]
   split
   ·rename_i r tot hr
    intro ht
    simp only[fW,astep,hr]
    exact⟨ht,trivial⟩
   ·trivial
  | value f =>
   simp only[aJj]
   split
   ·rename_i fid caps hf
    split
    ·rename_i ds hds
     refine⟨fun y hy=>?_,fun e sz xs hy hn=>?_⟩
     ·simp only[fW,astep,hf,hds]
      exact .inl ⟨y,hy,rfl⟩
     ·simp only[fW,astep,hf,hds]
      exact .inr ⟨e,sz,xs,hy,hn,rfl⟩
    ·rename_i hds
     intro ds y h1 h2 h3
     simp only[fW,astep,hf,hds]
     exact⟨ds,y,h1,h2,h3,rfl⟩
   ·trivial
  | invoke r m=>trivial
 | _ =>
  simp only[aJj]
  split
  ·rename_i r hr
   show fW _ _ _ _ _ _
   simp only[fW,astep,hr]
  ·trivial
theorem dM {P:Program} {all:List Oper}:∀ {l:List Oper} {σ:St} {tr:List Foot} {k:St→List Foot→Prop},kE P all l σ tr k→lY P all l σ tr k
 | [],σ,tr,k,h=>by simpa [kE,lY] using h
 | o::os,σ,tr,k,h=>by
  rw[kE] at h
  rw[lY]
  cases hg:gV all σ.env o with
  | none=>rw[hg,bgd] at h;exact h.elim
  | some gb =>
  cases gb with
  | true =>
   rw[hg,bgd] at h
   simp only[hg]
   refine⟨fun _=>?_,(fun e=>by cases e)⟩
   have key:∀ r,fW P o (bV σ.env) σ.H σ.nx r→(tD σ o=true∧kE P all os (σ.step o r) (⟨r.fp,r.up.map (·.1)⟩::tr) k)→astep P o (bV σ.env) σ.H σ.nx (fun r=>mQ σ o∧lY P all os (σ.step o r) (⟨r.fp,r.up.map (·.1)⟩::tr) k) :=
    fun r hr hb=>aCv hr ⟨uM hb.1,dM hb.2⟩
   have hsp:=aMm P o (bV σ.env) σ.H σ.nx
   cases hb:aJj P o (bV σ.env) σ.H σ.nx with
   | no=>rw[hb,bgo] at h;exact h.elim
   | ok r =>
    rw[hb] at hsp
    rw[hb,bgo] at h
    exact key r hsp h
   | okIf tot r =>
    rw[hb] at hsp
    rw[hb,bgo] at h
    exact key r (hsp h.1) h.2
   | call f ds fp =>
    rw[hb] at hsp
    rw[hb,bgo,aCw] at h
    rcases h with ⟨y,hf,hrest⟩|⟨e,sz,xs,hf,hn,hrest⟩
    ·exact key ⟨SV.ofD y,none,fp,false⟩ (hsp.1 y hf) hrest
    ·exact key _ (hsp.2 e sz xs hf hn) hrest
   | scall f xs caps =>
    rw[hb] at hsp
    rw[hb,bgo,aP2] at h
    obtain⟨ds,y,h1,h2,h3,hrest⟩:=h
    exact key _ (hsp ds y h1 h2 h3) hrest
  | false =>
   rw[hg,bgd] at h
   simp only[hg]
   exact⟨(fun e=>by cases e),fun _=>⟨uM h.1,dM h.2⟩⟩
theorem aQ {P:Program} {all:List Oper} {o:Oper} {os:List Oper} {σ:St} {tr:List Foot} {k:St→List Foot→Prop} {f:FuncId} {ds:List D} {fp:List Nat} {y:D} (hf:aJ P f ds y)
  (h:tD σ o=true∧kE P all os (σ.step o ⟨SV.ofD y,none,fp,false⟩) (⟨fp,none⟩::tr) k):aCw P all o os σ tr k f ds fp:=by rw[aCw];exact .inl ⟨y,hf,h⟩
theorem gJ {P:Program} {all:List Oper} {o:Oper} {os:List Oper} {σ:St} {tr:List Foot} {k:St→List Foot→Prop} {f:FuncId} {ds:List D} {fp:List Nat} {e sz:Nat} {xs:List (List D)} (hf:pD P f ds e sz xs)
  (h:σ.H σ.nx=none∧tD σ o=true∧kE P all os (σ.step o ⟨.c (.app σ.nx sz xs),some (σ.nx,.row e sz xs.length),σ.nx::fp,true⟩) (⟨σ.nx::fp,some σ.nx⟩::tr) k):aCw P all o os σ tr k f ds fp:=by rw[aCw];exact .inr ⟨e,sz,xs,hf,h⟩
section
variable {P:Program} {σ:St} {Q:Exit→St→Prop}
theorem Wp.condT {c:Operand} {x y:Code} (hc:bV σ.env c = .c (.d (.val (.bool true)))) (h:Wp P x σ Q):Wp P (.cond c x y) σ Q:=Wp.cond hc (fun _=>h) (fun e=>by cases e)
theorem Wp.condF {c:Operand} {x y:Code} (hc:bV σ.env c = .c (.d (.val (.bool false)))) (h:Wp P y σ Q):Wp P (.cond c x y) σ Q:=Wp.cond hc (fun e=>by cases e) (fun _=>h)
theorem Wp.reg {id:Nat} {all:List Oper} (h:∀ K:St→Prop,(∀ σ',Q .normal σ'→K σ')→kE P all all σ [] (fun σ' _=>K σ')):Wp P (.region id all.toArray false) σ Q:=Wp.region (fun K hK=>dM (h K hK))
theorem Wp.drw {id:Nat} {all:List Oper} (hm:P.follows .mixedOrders=true) (h:∀ K:St→Prop,(∀ σ',Q .normal σ'→K σ')→kE P all all σ [] (fun σ' tr=>aH all tr=true∧K σ')):Wp P (.region id all.toArray true) σ Q:=Wp.drawn hm (fun K hK=>dM (h K hK))
theorem Wp.sreg {id:Nat} {all:List Oper} {y:Code} (h:∀ K:St→Prop,(∀ σ',Wp P y σ' Q→K σ')→kE P all all σ [] (fun σ' _=>K σ')):Wp P (.seq (.region id all.toArray false) y) σ Q:=Wp.seqRegion (fun K hK=>dM (h K hK))
theorem Wp.sdrw {id:Nat} {all:List Oper} {y:Code} (hm:P.follows .mixedOrders=true) (h:∀ K:St→Prop,(∀ σ',Wp P y σ' Q→K σ')→kE P all all σ [] (fun σ' tr=>aH all tr=true∧K σ')):Wp P (.seq (.region id all.toArray true) y) σ Q:=Wp.seqDrawn hm (fun K hK=>dM (h K hK))
theorem Wp.sto {id:Nat} {all:List Oper} {y:Code} (d:Nat) (v:SV) (h:kE P all all σ [] (fun σ' _=>σ'.env d=v∧σ'.H=σ.H)) (hy:Wp P y ⟨upd (lM (uU all) σ.env) d v,σ.H,σ.nx,σ.sz,σ.fx⟩ Q):Wp P (.seq (.region id all.toArray false) y) σ Q:=Wp.seqTo d v (dM h) hy
theorem Wp.stoD {id:Nat} {all:List Oper} {y:Code} (d:Nat) (v:SV) (hm:P.follows .mixedOrders=true) (h:kE P all all σ [] (fun σ' tr=>aH all tr=true∧σ'.env d=v∧σ'.H=σ.H)) (hy:Wp P y ⟨upd (lM (uU all) σ.env) d v,σ.H,σ.nx,σ.sz,σ.fx⟩ Q):Wp P (.seq (.region id all.toArray true) y) σ Q:=Wp.seqToD d v hm (dM h) hy
theorem Wp.meetT {x y:Code} {Q' : Exit→St→Prop} (σc:St) (h:Wp P x σ (eO (fun σ'=>aD σ' σc) Q')) (hy:Wp P y σc Q):Wp P x σ (eO (fun σ'=>Wp P y σ' Q) Q') :=
 h.mono (fun e σ' hq=>by
  cases e with
  | normal=>exact Wp.weak hq hy
  | _=>exact hq)
theorem Wp.rto {id:Nat} {all:List Oper} (d:Nat) (v:SV) (h:kE P all all σ [] (fun σ' _=>σ'.env d=v∧σ'.H=σ.H)) (hy:∀ σ',aD σ' ⟨upd (lM (uU all) σ.env) d v,σ.H,σ.nx,σ.sz,σ.fx⟩→Q .normal σ'):Wp P (.region id all.toArray false) σ Q :=
 Wp.region (fun K hK=>nB (dM h) (fun σ' _ hk he hs=>hK σ' (hy σ' (aD.to he hs hk.1 hk.2))))
theorem Wp.rtoD {id:Nat} {all:List Oper} (d:Nat) (v:SV) (hm:P.follows .mixedOrders=true) (h:kE P all all σ [] (fun σ' tr=>aH all tr=true∧σ'.env d=v∧σ'.H=σ.H)) (hy:∀ σ',aD σ' ⟨upd (lM (uU all) σ.env) d v,σ.H,σ.nx,σ.sz,σ.fx⟩→Q .normal σ'):Wp P (.region id all.toArray true) σ Q :=
 Wp.drawn hm (fun K hK=>nB (dM h) (fun σ' _ hk he hs=>⟨hk.1,hK σ' (hy σ' (aD.to he hs hk.2.1 hk.2.2))⟩))
theorem Wp.rtoS {id:Nat} {all:List Oper} {y:Code} {Q' : Exit→St→Prop} (d:Nat) (v:SV) (h:kE P all all σ [] (fun σ' _=>σ'.env d=v∧σ'.H=σ.H)) (hy:Wp P y ⟨upd (lM (uU all) σ.env) d v,σ.H,σ.nx,σ.sz,σ.fx⟩ Q'):Wp P (.region id all.toArray false) σ (eO (fun σ'=>Wp P y σ' Q') Q) :=
 Wp.rto d v h (fun σ' hw=>Wp.weak hw hy)
theorem Wp.rtoDS {id:Nat} {all:List Oper} {y:Code} {Q' : Exit→St→Prop} (d:Nat) (v:SV) (hm:P.follows .mixedOrders=true) (h:kE P all all σ [] (fun σ' tr=>aH all tr=true∧σ'.env d=v∧σ'.H=σ.H)) (hy:Wp P y ⟨upd (lM (uU all) σ.env) d v,σ.H,σ.nx,σ.sz,σ.fx⟩ Q'):Wp P (.region id all.toArray true) σ (eO (fun σ'=>Wp P y σ' Q') Q) :=
 Wp.rtoD d v hm h (fun σ' hw=>Wp.weak hw hy)
end
end Go.Proofs.YtkmfmphpndhkjaaGreatDoor
namespace Go.Proofs.YtkmfmphpndhkjaaGreatDoor
open Go Go.RowKit
set_option linter.unusedVariables false
set_option linter.unusedSimpArgs false
abbrev str (l:List UInt8):D:=.val (.string ⟨l.toArray⟩)
abbrev int (n:Int):D:=.val (.int .i64 n)
abbrev dC (b:Bool):D:=.val (.bool b)
theorem aTp {α:Type} (f:Nat→α) (t:Nat) (v:α) (i:Nat):upd f t v i=match i == t with|true=>v|false=>f i:=by
 unfold upd
 by_cases h:i=t
 ·subst h;simp
 ·rw[if_neg h,show (i == t)=false from by simpa using h]
theorem aK3 (l:List Nat) (env:Nat→SV) (t:Nat):lM l env t=match l.contains t with|true=>.c .any|false=>env t:=by
 unfold lM;cases l.contains t<;>rfl
theorem aMu (args:List D) (n t:Nat):(xZ args n).env t=match args[t]? with|some x=>SV.ofD x|none=>.c .any:=rfl
theorem aSc (args:List D) (n i:Nat):(xZ args n).H i=none:=rfl
theorem aP9 (args:List D) (n:Nat):(xZ args n).nx=0:=rfl
theorem aPa (args:List D) (n:Nat):(xZ args n).sz=n:=rfl
theorem aR7 (σ:St) (o:Oper) (r:Res):σ.step o r=⟨mO σ.env o.dst r.v,pB σ.H r.up,if r.al then σ.nx+1 else σ.nx,σ.sz,σ.fx⟩:=rfl
theorem aR4 (σ:St) (o:Oper):σ.skip o=⟨mO σ.env o.dst (.c (.d (.val undef))),σ.H,σ.nx,σ.sz,σ.fx⟩:=rfl
theorem aNz (env:Nat→SV) (d:Nat) (x:SV):mO env (some d) x=upd env d x:=rfl
theorem aNy (env:Nat→SV) (x:SV):mO env none x=env:=rfl
theorem aPf (H:Hp):pB H none=H:=rfl
theorem aPg (H:Hp) (id:Nat) (he:HE):pB H (some (id,he))=upd H id (some he):=rfl
theorem aSz (L:List (Nat × SV)) (t:Nat):dI L t=match L.lookup t with|some x=>x|none=>.c .any:=rfl
theorem aSy (M:List (Nat × HE)) (t:Nat):bJ M t=M.lookup t:=rfl
theorem gC (l:List UInt8):(ByteArray.mk l.toArray).toList=l:=ByteArray.toList_mk l
theorem aM (P:Program) {α β:Type}:∀ (s:Sem α) (f:α→Sem β),aT P (s >>= f)=match aT P s with|some a=>aT P (f a)|none=>none:=by
 intro s f
 show aT P (s.bind f)=_
 induction s with
 | pure a=>rfl
 | program k ih=>exact ih P
 | mark m k ih=>exact ih
 | _=>rfl
theorem eW {P:Program} {t:TypeId} {u:TypeDesc} (h:P.underlying t=some u):aT P (underlying t)=some u:=by
 unfold underlying
 rw[aM]
 show aT P (match P.underlying t with | some d => pure d | none => stuck "no such type") = _
 rw[h];rfl
theorem aS7 (l:List UInt8):(ByteArray.mk l.toArray).size=l.length:=by simp[ByteArray.size]
theorem aJk (a:List UInt8) (l h:Nat):(ByteArray.mk a.toArray).extract l h=⟨((a.drop l).take (h - l)).toArray⟩:=by
 apply ByteArray.ext;simp[List.extract_eq_take_drop]
section
variable {P:Program} {t:TypeId} {x y:Operand} {k:IntKind} {a b:Int}
abbrev vi (k:IntKind) (n:Int):SV:=.c (.d (.val (.int k n)))
abbrev vb (b:Bool):SV:=.c (.d (.val (.bool b)))
abbrev vs (l:List UInt8):SV:=.c (.d (.val (.string ⟨l.toArray⟩)))
theorem aRy:gG P .add t x y (vi k a) (vi k b)=some (Res.pure (vi k (k.wrap (a+b)))):=by cases k<;>rfl
theorem aS6:gG P .sub t x y (vi k a) (vi k b)=some (Res.pure (vi k (k.wrap (a - b)))):=by cases k<;>rfl
theorem aS4:gG P .mul t x y (vi k a) (vi k b)=some (Res.pure (vi k (k.wrap (a*b)))):=by cases k<;>rfl
theorem aRz:gG P .eql t x y (vi k a) (vi k b)=some (Res.pure (vb (a == b))):=by cases k<;>rfl
theorem aS5:gG P .neq t x y (vi k a) (vi k b)=some (Res.pure (vb (a != b))):=by cases k<;>rfl
theorem aS3:gG P .lss t x y (vi k a) (vi k b)=some (Res.pure (vb (decide (a<b)))):=by cases k<;>rfl
theorem aS2:gG P .leq t x y (vi k a) (vi k b)=some (Res.pure (vb (decide (a≤b)))):=by cases k<;>rfl
theorem aS1:gG P .gtr t x y (vi k a) (vi k b)=some (Res.pure (vb (decide (b<a)))):=by cases k<;>rfl
theorem aS0:gG P .geq t x y (vi k a) (vi k b)=some (Res.pure (vb (decide (b≤a)))):=by cases k<;>rfl
variable {l m:List UInt8}
theorem aQu:gG P .eql t x y (vs l) (vs m)=some (Res.pure (vb (l == m))):=by
 show some (Res.pure (vb ((ByteArray.mk l.toArray).toList == (ByteArray.mk m.toArray).toList)))=_
 rw[gC,gC]
theorem aQz:gG P .neq t x y (vs l) (vs m)=some (Res.pure (vb (!(l == m)))):=by
 show some (Res.pure (vb (!((ByteArray.mk l.toArray).toList == (ByteArray.mk m.toArray).toList))))=_
 rw[gC,gC]
theorem aQy:gG P .lss t x y (vs l) (vs m)=some (Res.pure (vb (Op.bytesLess l m))):=by
 show some (Res.pure (vb (Op.bytesLess (ByteArray.mk l.toArray).toList (ByteArray.mk m.toArray).toList)))=_
 rw[gC,gC]
theorem aQx:gG P .leq t x y (vs l) (vs m)=some (Res.pure (vb (Op.bytesLess l m || l == m))):=by
 show some (Res.pure (vb (Op.bytesLess (ByteArray.mk l.toArray).toList (ByteArray.mk m.toArray).toList || (ByteArray.mk l.toArray).toList == (ByteArray.mk m.toArray).toList)))=_
 rw[gC,gC]
theorem aQw:gG P .gtr t x y (vs l) (vs m)=some (Res.pure (vb (!(Op.bytesLess l m || l == m)))):=by
 show some (Res.pure (vb (!(Op.bytesLess (ByteArray.mk l.toArray).toList (ByteArray.mk m.toArray).toList || (ByteArray.mk l.toArray).toList == (ByteArray.mk m.toArray).toList))))=_
 rw[gC,gC]
theorem aQv:gG P .geq t x y (vs l) (vs m)=some (Res.pure (vb (!Op.bytesLess l m))):=by
 show some (Res.pure (vb (!Op.bytesLess (ByteArray.mk l.toArray).toList (ByteArray.mk m.toArray).toList)))=_
 rw[gC,gC]
theorem aOz {p q:Bool} (hu:P.underlying t=some .bool):gG P .eql t x y (vb p) (vb q)=some (Res.pure (vb (p == q))):=by
 have:sc P (do eqGuard .eql t x y (.bool p) (.bool q);binOp .eql t (.bool p) (.bool q))=some (Res.pure (vb (p == q))):=by
  unfold sc
  have e:aT P (do eqGuard .eql t x y (.bool p) (.bool q);binOp .eql t (.bool p) (.bool q))=some (.bool (p == q)):=by
   have e0:aT P (Op.equal t (.bool p) (.bool q))=some (p == q):=by
    unfold Op.equal
    rw[show Op.maxDepth=9999+1 from rfl]
    unfold Op.equalIn
    rw[aM,eW hu];rfl
   have e1:aT P (eqGuard .eql t x y (.bool p) (.bool q))=some ():=rfl
   rw[aM,e1]
   simp only[binOp]
   rw[aM,e0];rfl
  rw[e];rfl
 exact this
theorem aP0 {p q:Bool} (hu:P.underlying t=some .bool):gG P .neq t x y (vb p) (vb q)=some (Res.pure (vb (!(p == q)))):=by
 have:sc P (do eqGuard .neq t x y (.bool p) (.bool q);binOp .neq t (.bool p) (.bool q))=some (Res.pure (vb (!(p == q)))):=by
  unfold sc
  have e:aT P (do eqGuard .neq t x y (.bool p) (.bool q);binOp .neq t (.bool p) (.bool q))=some (.bool (!(p == q))):=by
   have e0:aT P (Op.equal t (.bool p) (.bool q))=some (p == q):=by
    unfold Op.equal
    rw[show Op.maxDepth=9999+1 from rfl]
    unfold Op.equalIn
    rw[aM,eW hu];rfl
   have e1:aT P (eqGuard .neq t x y (.bool p) (.bool q))=some ():=rfl
   rw[aM,e1]
   simp only[binOp]
   rw[aM,e0];rfl
  rw[e];rfl
 exact this
theorem pU {op:BinOp} {vx vy:Value} {q:Bool} (e1:aT P (eqGuard op t x y vx vy)=some ()) (e0:aT P (Op.equal t vx vy)=some q) (h:(op = .eql∧binOp op t vx vy=(do pure (.bool (← Op.equal t vx vy))))∨(op = .neq∧binOp op t vx vy=(do pure (.bool (!(← Op.equal t vx vy)))))) :
  sc P (do eqGuard op t x y vx vy;binOp op t vx vy)=some (Res.pure (vb (if op = .eql then q else !q))):=by
 unfold sc
 rcases h with ⟨rfl,h⟩|⟨rfl,h⟩
 ·have e:aT P (do eqGuard .eql t x y vx vy;binOp .eql t vx vy)=some (.bool q):=by
   rw[aM,e1,h];simp only;rw[aM,e0];rfl
  rw[e];rfl
 ·have e:aT P (do eqGuard .neq t x y vx vy;binOp .neq t vx vy)=some (.bool (!q)):=by
   rw[aM,e1,h];simp only;rw[aM,e0];rfl
  rw[e];rfl
theorem aLk {ms:Array (String × TypeId)} (hu:P.underlying t=some (.interface ms)):aT P (Op.equal t .nilIface .nilIface)=some true:=by
 unfold Op.equal;rw[show Op.maxDepth=9999+1 from rfl];unfold Op.equalIn
 rw[aM,eW hu];rfl
theorem iF {ms:Array (String × TypeId)} (hu:P.underlying t=some (.interface ms)) (v:Value):gG P .eql t x (.const v) (.c (.d (.val .nilIface))) (.c (.d (.val .nilIface)))=some (Res.pure (vb true)) :=
 pU (op:=.eql) (vx:=.nilIface) (vy:=.nilIface) (by cases x<;>rfl) (aLk hu) (.inl ⟨rfl,rfl⟩)
theorem iH {ms:Array (String × TypeId)} (hu:P.underlying t=some (.interface ms)) (v:Value):gG P .neq t x (.const v) (.c (.d (.val .nilIface))) (.c (.d (.val .nilIface)))=some (Res.pure (vb false)) :=
 pU (op:=.neq) (vx:=.nilIface) (vy:=.nilIface) (by cases x<;>rfl) (aLk hu) (.inr ⟨rfl,rfl⟩)
theorem iE {ms:Array (String × TypeId)} (hu:P.underlying t=some (.interface ms)) (a:TypeId) (b:D):gG P .eql t x y (.c (.d (.iface a b))) (.c (.d (.val .nilIface)))=some (Res.pure (vb false)):=by
 unfold gG;simp only[SV.exact,CV.exact,hu,eV,if_true]
theorem iG {ms:Array (String × TypeId)} (hu:P.underlying t=some (.interface ms)) (a:TypeId) (b:D):gG P .neq t x y (.c (.d (.iface a b))) (.c (.d (.val .nilIface)))=some (Res.pure (vb true)):=by
 unfold gG;simp only[SV.exact,CV.exact,hu,eV,if_true]
theorem dR {e:TypeId} (hu:P.underlying t=some (.slice e)) (s:Nat) (z:List D) (zs:List (List D)):gG P .eql t x y (.c (.d (.lst s (z::zs)))) (.c (.d (.val (.slice none 0 0))))=some (Res.pure (vb false)):=by
 unfold gG;simp only[SV.exact,CV.exact,hu,eV,if_true]
theorem dS {e:TypeId} (hu:P.underlying t=some (.slice e)) (s:Nat) (z:List D) (zs:List (List D)):gG P .neq t x y (.c (.d (.lst s (z::zs)))) (.c (.d (.val (.slice none 0 0))))=some (Res.pure (vb true)):=by
 unfold gG;simp only[SV.exact,CV.exact,hu,eV,if_true]
theorem aR5 {e:TypeId} (hu:P.underlying t=some (.slice e)) (a:Option Addr) (n c:Nat):aT P (Op.equal t (.slice a n c) (.slice none 0 0))=some a.isNone:=by
 unfold Op.equal;rw[show Op.maxDepth=9999+1 from rfl];unfold Op.equalIn
 rw[aM,eW hu];cases a<;>rfl
theorem eM {e:TypeId} (hu:P.underlying t=some (.slice e)) (a:Option Addr) (n c:Nat):gG P .eql t x y (.c (.d (.val (.slice a n c)))) (.c (.d (.val (.slice none 0 0))))=some (Res.pure (vb a.isNone)) :=
 pU (op:=.eql) (vx:=.slice a n c) (vy:=.slice none 0 0) rfl (aR5 hu a n c) (.inl ⟨rfl,rfl⟩)
theorem eN {e:TypeId} (hu:P.underlying t=some (.slice e)) (a:Option Addr) (n c:Nat):gG P .neq t x y (.c (.d (.val (.slice a n c)))) (.c (.d (.val (.slice none 0 0))))=some (Res.pure (vb (!a.isNone))) :=
 pU (op:=.neq) (vx:=.slice a n c) (vy:=.slice none 0 0) rfl (aR5 hu a n c) (.inr ⟨rfl,rfl⟩)
theorem aVd {p:Bool}:sc P (Op.unary .not (.bool p))=some (Res.pure (vb (!p))):=rfl
theorem aVc:sc P (Op.unary .neg (.int k a))=some (Res.pure (vi k (k.wrap (0 - a)))):=rfl
theorem aSs {ts:Array TypeId} {ty:TypeId}:sc P (Builtin.max_ ts ty #[.int k a,.int k b])=some (Res.pure (vi k (if b > a then b else a))):=rfl
theorem aSv {ts:Array TypeId} {ty:TypeId}:sc P (Builtin.min_ ts ty #[.int k a,.int k b])=some (Res.pure (vi k (if b<a then b else a))):=rfl
end
theorem aYa (b:Bool):(b == true)=b:=by cases b<;>rfl
theorem aY9 (b:Bool):(b == false) = !b:=by cases b<;>rfl
theorem aG {n:Int} (h : -9223372036854775808≤n∧n≤9223372036854775807):IntKind.i64.wrap n=n:=IntWalk.i64_in n h
theorem aRa (k:Nat):((k:Int)+1).toNat=k+1:=by omega
theorem aNi (k:Nat):((0:Int)≤(k:Int)+1)=True:=by simp;omega
end Go.Proofs.YtkmfmphpndhkjaaGreatDoor
namespace Go.Proofs.YtkmfmphpndhkjaaGreatDoor
open Go Go.RowKit
theorem Wp.condG {P:Program} {σ:St} {Q:Exit→St→Prop} {c:Operand} {x y:Code} (h:∀ K:SV→Prop,(Wp P x σ Q→K (vb true))→(Wp P y σ Q→K (vb false))→K (bV σ.env c)):Wp P (.cond c x y) σ Q :=
 h (fun v=>bV σ.env c=v→Wp P (.cond c x y) σ Q) (fun h1 e=>Wp.condT e h1) (fun h1 e=>Wp.condF e h1) rfl
def aVk:=PLift.up (ai (ai (ai (ai (ai (ai @aR7 (ai @aR4 @aNz)) (ai (ai @aNy @aPf) (ai @aPg @aTp))) (ai (ai (ai @aK3 @aMu) (ai @aSc @aP9)) (ai (ai @aPa @aSz) (ai @aSy @aRy)))) (ai (ai (ai @aS6 (ai @aS4 @aRz)) (ai (ai @aS5 @aS3) (ai @aS2 @aS1))) (ai (ai (ai @aS0 @aQu) (ai @aQz @aQy)) (ai (ai @aQx @aQw) (ai @aQv @aVd))))) (ai (ai (ai (ai @aVc (ai @aSs @aSv)) (ai (ai @aS7 @aJk) (ai @List.map_cons.{0,0} @List.map_nil.{0,0}))) (ai (ai (ai @List.append_nil.{0} @List.nil_append.{0}) (ai @List.cons_append.{0} @List.getElem?_cons_zero.{0})) (ai (ai @List.getElem?_cons_succ.{0} @List.getElem?_nil.{0}) (ai @List.lookup_cons.{0,0} @List.lookup_nil.{0,0})))) (ai (ai (ai (ai @List.take_succ_cons.{0} @List.drop_succ_cons.{0}) (ai @List.drop_zero.{0} @List.take_nil.{0})) (ai (ai @List.drop_nil.{0} @List.length_cons.{0}) (ai @List.length_nil.{0} @List.length_map.{0,0}))) (ai (ai (ai @List.all_cons.{0} @List.all_nil.{0}) (ai @List.flatMap_cons.{0,0} @List.flatMap_nil.{0,0})) (ai (ai @List.toList_toArray.{0} @List.reverse_cons.{0}) (ai @List.reverse_nil.{0} @List.contains_cons.{0})))))) (ai (ai (ai (ai (ai @List.contains_nil.{0} (ai @List.filterMap_cons.{0,0} @List.filterMap_nil.{0,0})) (ai (ai @Option.map_some.{0,0} @Option.map_none.{0,0}) (ai @Option.isSome_some.{0} @Option.isSome_none.{0}))) (ai (ai (ai @Option.getD_some.{0} @Option.getD_none.{0}) (ai @Bool.not_true @Bool.not_false)) (ai (ai @Bool.and_true @Bool.true_and) (ai @Bool.false_and @Bool.and_false)))) (ai (ai (ai (ai @Bool.or_true @Bool.true_or) (ai @Bool.or_false @Bool.false_or)) (ai (ai @Bool.and_eq_true @Bool.not_eq_true) (ai @Bool.true_eq_false @Bool.false_eq_true))) (ai (ai (ai @bne_iff_ne.{0} @beq_self_eq_true.{0}) (ai @beq_iff_eq.{0} @decide_true)) (ai (ai @decide_false @decide_eq_true_eq) (ai @decide_eq_false_iff_not @Nat.lt_irrefl))))) (ai (ai (ai (ai @Nat.le_refl (ai @Int.toNat_natCast @Int.natCast_nonneg)) (ai (ai @Nat.zero_add @Nat.add_zero) (ai @Nat.succ_ne_self @not_true_eq_false))) (ai (ai (ai @not_false_eq_true @true_and) (ai @and_true @false_and)) (ai (ai @and_false @and_self) (ai @or_true @true_or)))) (ai (ai (ai (ai @or_false @false_or) (ai @Nat.zero_lt_succ @Nat.lt_add_one)) (ai (ai @List.length_singleton.{0} @Nat.zero_le) (ai @Nat.sub_zero @Nat.sub_self))) (ai (ai (ai @aYa @aY9) (ai @aG @List.getElem?_map.{0,0})) (ai (ai @Int.natCast_zero @Int.natCast_add) (ai @Int.natCast_one @List.take_zero.{0})))))))
theorem bF:type_of% aVk.down:=aVk.down
set_option linter.unusedVariables false
set_option linter.unusedSimpArgs false
def Cap.ren (ρ:Nat→Nat):Cap→Cap
 | .d x=>.d x
 | .own id off=>.own (ρ id) off
def CV.ren (ρ:Nat→Nat):CV→CV
 | .any=>.any
 | .d x=>.d x
 | .own id off=>.own (ρ id) off
 | .app τ sz xs=>.app (ρ τ) sz xs
 | .full sz xs=>.full sz xs
 | .view id sz off len=>.view (ρ id) sz off len
 | .clo f caps=>.clo f (caps.map (Cap.ren ρ))
 | .bnd f caps=>.bnd f (caps.map (Cap.ren ρ))
 | .yld id=>.yld (ρ id)
 | .mt τ k=>.mt (ρ τ) k
 | .mpt τ k o=>.mpt (ρ τ) k o
 | .mp id=>.mp (ρ id)
 | .apt τ sz xs k=>.apt (ρ τ) sz xs k
def SV.ren (ρ:Nat→Nat):SV→SV
 | .c x=>.c (x.ren ρ)
 | .agg cs=>.agg (cs.map (CV.ren ρ))
def HE.ren (ρ:Nat→Nat):HE→HE
 | .cells cs=>.cells (cs.map (CV.ren ρ))
 | .froz ds=>.froz ds
 | .row e sz n=>.row e sz n
 | .obj o=>.obj o
 | .mrow e sz n cs=>.mrow e sz n (cs.map (CV.ren ρ))
 | .ob cs p=>.ob (cs.map (CV.ren ρ)) p
 | .rot e sz n=>.rot e sz n
def Hp.ren (ρ:Nat→Nat) (H:Hp):Hp:=fun i=>(H (ρ i)).map (HE.ren ρ)
def G.ren (ρ:Nat→Nat) (g:G):G:=⟨g.K,fun i=>g.β (ρ i),fun i=>g.cap (ρ i)⟩
theorem sG (ρ:Nat→Nat) (H:Hp) (i:Nat):jG (H.ren ρ i)=jG (H (ρ i)):=by
 unfold Hp.ren
 cases H (ρ i) with
 | none=>rfl
 | some he=>cases he<;>rfl
theorem aFh {ρ:Nat→Nat} (hρ:∀ i,ρ (ρ i)=i) {g:G} {H:Hp} {id off:Nat} {v:Value} (r:bG g H (.own id off) v):bG (g.ren ρ) (H.ren ρ) (.own (ρ id) off) v:=by
 obtain⟨b,hb,rfl,hr⟩:=r
 exact⟨b,by show g.β (ρ (ρ id))=_;rw[hρ];exact hb,rfl,by rw[sG,hρ];exact hr⟩
theorem oG {ρ:Nat→Nat} (hρ:∀ i,ρ (ρ i)=i) {g:G} {H:Hp} {x:CV} {v:Value} (r:bG g H x v):bG (g.ren ρ) (H.ren ρ) (x.ren ρ) v:=by
 cases x with
 | any=>trivial
 | d x=>exact r
 | full sz xs=>exact r
 | own id off=>exact aFh hρ r
 | app τ sz xs =>
  obtain⟨h1,e,n,hrow,hl,hf⟩:=r
  refine⟨h1,e,n,by show Hp.ren ρ H (ρ τ)=_;unfold Hp.ren;rw[hρ,hrow];rfl,hl,fun hn=>?_⟩
  rcases hf hn with h|⟨b,hb,hv⟩
  ·exact .inl h
  ·exact .inr ⟨b,by show g.β (ρ (ρ τ))=_;rw[hρ];exact hb,by show _=Value.slice _ _ (g.cap (ρ (ρ τ)));rw[hρ];exact hv⟩
 | view id sz off len =>
  obtain⟨b,c,hb,rfl,hc,hr⟩:=r
  exact⟨b,c,by show g.β (ρ (ρ id))=_;rw[hρ];exact hb,rfl,hc,by rw[sG,hρ];exact hr⟩
 | clo f caps =>
  obtain⟨vs,hv,hl,hc⟩:=r
  refine⟨vs,hv,by simpa using hl,fun j c u hj hu=>?_⟩
  simp only[List.getElem?_map,Option.map_eq_some_iff] at hj
  obtain⟨c0,hj0,rfl⟩:=hj
  have:=hc j c0 u hj0 hu
  cases c0 with
  | d x=>exact this
  | own id off=>exact aFh hρ this
 | bnd f caps =>
  obtain⟨vs,hv,hl,hc⟩:=r
  refine⟨vs,hv,by simpa using hl,fun j c u hj hu=>?_⟩
  simp only[List.getElem?_map,Option.map_eq_some_iff] at hj
  obtain⟨c0,hj0,rfl⟩:=hj
  have:=hc j c0 u hj0 hu
  cases c0 with
  | d x=>exact this
  | own id off=>exact aFh hρ this
 | mp id =>
  obtain⟨b,hb,hv,hr⟩:=r
  exact⟨b,by show g.β (ρ (ρ id))=_;rw[hρ];exact hb,hv,by rw[sG,hρ];exact hr⟩
 | apt τ sz xs k=>exact sZ (by exact jO.refl _) r (fun e n q=>by show Hp.ren ρ H (ρ τ)=_;unfold Hp.ren;rw[hρ,q];rfl) (by show g.β (ρ (ρ τ))=_;rw[hρ]) (by show g.cap (ρ (ρ τ))=_;rw[hρ])
 | mt τ k=>exact xG r (fun e sz n cs q=>⟨cs.map (CV.ren ρ),by show Hp.ren ρ H (ρ τ)=_;unfold Hp.ren;rw[hρ,q];rfl,by simp⟩) (by show g.β (ρ (ρ τ))=_;rw[hρ]) (by show g.cap (ρ (ρ τ))=_;rw[hρ])
 | mpt τ k o=>exact xE r (fun e sz n cs q=>⟨cs.map (CV.ren ρ),by show Hp.ren ρ H (ρ τ)=_;unfold Hp.ren;rw[hρ,q];rfl,by simp⟩) (by show g.β (ρ (ρ τ))=_;rw[hρ])
 | yld id =>
  obtain⟨b,hb,hv,hr⟩:=r
  exact⟨b,by show g.β (ρ (ρ id))=_;rw[hρ];exact hb,hv,by rw[sG,hρ];exact hr⟩
theorem oZ {ρ:Nat→Nat} (hρ:∀ i,ρ (ρ i)=i) {g:G} {H:Hp} {cs:List CV} {vs:List Value} (r:dJ g H cs vs):dJ (g.ren ρ) (H.ren ρ) (cs.map (CV.ren ρ)) vs :=
 ⟨by simpa using r.1,fun j x v hx hv=>by
  simp only[List.getElem?_map,Option.map_eq_some_iff] at hx
  obtain⟨x0,hx0,rfl⟩:=hx
  exact oG hρ (r.2 j x0 v hx0 hv)⟩
theorem aV4 {ρ:Nat→Nat} {x:CV} (h:∀ i ∈ x.ids,False):x.ren ρ=x:=by
 cases x with
 | own id off=>exact (h id (by simp[CV.ids])).elim
 | app τ sz xs=>exact (h τ (by simp[CV.ids])).elim
 | view id sz off len=>exact (h id (by simp[CV.ids])).elim
 | yld id=>exact (h id (by simp[CV.ids])).elim
 | mt τ k=>exact (h τ (by simp[CV.ids])).elim
 | apt τ sz xs k=>exact (h τ (by simp[CV.ids])).elim
 | mpt τ k o=>exact (h τ (by simp[CV.ids])).elim
 | mp id=>exact (h id (by simp[CV.ids])).elim
 | clo f caps =>
  show CV.clo f (caps.map (Cap.ren ρ))=_
  congr 1
  conv=>rhs;rw[← List.map_id caps]
  apply List.map_congr_left
  intro c hc
  cases c with
  | d x=>rfl
  | own id off=>exact (h id (by simp only[CV.ids,List.mem_flatMap];exact⟨_,hc,by simp[Cap.ids]⟩)).elim
 | bnd f caps =>
  show CV.bnd f (caps.map (Cap.ren ρ))=_
  congr 1
  conv=>rhs;rw[← List.map_id caps]
  apply List.map_congr_left
  intro c hc
  cases c with
  | d x=>rfl
  | own id off=>exact (h id (by simp only[CV.ids,List.mem_flatMap];exact⟨_,hc,by simp[Cap.ids]⟩)).elim
 | _=>rfl
theorem aI4 {ρ:Nat→Nat} (hρ:∀ i,ρ (ρ i)=i) {g:G} {H:Hp} {w:World} {i e sz n:Nat} {cs:List CV} (h:jB g H w (ρ i) (.mrow e sz n cs)):jB (g.ren ρ) (H.ren ρ) w i (.mrow e sz n (cs.map (CV.ren ρ))):=by
 obtain⟨h1,h2,h3⟩:=h
 refine⟨h1,by rw[List.length_map];exact h2,?_⟩
 rcases h3 with ⟨h4,h5⟩|⟨b,cur,vs,rest,h4,h5,h6,h7,h8,h9,h10⟩
 ·exact .inl ⟨h4,by rw[h5];rfl⟩
 ·exact .inr ⟨b,cur,vs,rest,h4,h5,h6,h7,oZ hρ h8,h9,h10⟩
theorem aPw {ρ:Nat→Nat} (hρ:∀ i,ρ (ρ i)=i) {g:G} {H:Hp} {w:World} {i:Nat} {cs:List CV} {p:List Value→Obj→Prop} (h:jB g H w (ρ i) (.ob cs p)):jB (g.ren ρ) (H.ren ρ) w i (.ob (cs.map (CV.ren ρ)) p):=by
 obtain⟨b,vs,o,h4,h5,h8,h9,h10⟩:=h
 exact⟨b,vs,o,h4,h5,oZ hρ h8,h9,h10⟩
theorem aD.ren {σ:St} (ρ:Nat→Nat) (hρ:∀ i,ρ (ρ i)=i) (hfx:σ.fx.lent=[]∧σ.fx.dfs=[]):aD σ ⟨fun t=>(σ.env t).ren ρ,σ.H.ren ρ,σ.nx,σ.sz,σ.fx⟩:=by
 intro W0 K0 g a w r
 have hln:W0.ln=[]:=r.ln.trans hfx.1
 refine⟨g.ren ρ,⟨r.mem.below,r.mem.ext,r.mem.kw,fun i he hi=>?_,fun i b hi=>r.mem.base _ b hi,fun i hi=>?_,fun i j b hi hj=>?_,fun i b hi=>r.mem.frozlt _ b hi,r.mem.glob,fun x v hx h=>?_⟩,fun t=>?_,r.size,?_,r.ln,r.rd,r.nodup,r.lt⟩
 ·have hi:(σ.H (ρ i)).map (HE.ren ρ)=some he:=hi
  cases hq:σ.H (ρ i) with
  | none=>rw[hq] at hi;cases hi
  | some he0 =>
   rw[hq] at hi
   have hi:he0.ren ρ=he:=by simpa using hi
   subst hi
   have:=r.mem.holds (ρ i) he0 hq
   cases he0 with
   | cells cs =>
    obtain⟨b,vs,t,h1,h2,h3,h4,h5⟩:=this
    exact⟨b,vs,t,h1,h2,oZ hρ h3,h4,h5⟩
   | froz ds=>exact this
   | row e sz n=>exact this
   | mrow e sz n cs=>exact aI4 hρ this
   | rot e sz n=>exact this
   | ob cs p=>exact aPw hρ this
   | obj o=>exact this
 ·have hi:(σ.H (ρ i)).map (HE.ren ρ)=none:=hi
  cases hq:σ.H (ρ i) with
  | none=>exact r.mem.dom _ hq
  | some he0=>rw[hq] at hi;cases hi
 ·have:=r.mem.sep (ρ i) (ρ j) b hi hj
  rw[← hρ i,← hρ j,this]
 ·have h0:∀ i ∈ x.ids,False:=fun i hi=>by have:=hx i hi;rw[hln] at this;cases this
  have:=oG hρ (r.mem.lent x v hx h)
  rwa [aV4 h0] at this
 ·have:=r.env t
  show bH _ _ ((σ.env t).ren ρ) _
  cases hs:σ.env t with
  | c x=>rw[hs] at this;exact oG hρ this
  | agg cs =>
   rw[hs] at this
   obtain⟨vs,hv,hr,h1⟩:=this
   exact⟨vs,hv,oZ hρ hr,h1⟩
 ·have:=r.defers
  show dB _ _ σ.fx.dfs a.defers
  rw[hfx.2] at this ⊢
  cases hq:a.defers with
  | nil=>trivial
  | cons x y=>rw[hq] at this;exact this.elim
theorem aD.cellAtH {σ:St} {id k:Nat} {cs:List CV} {x y:CV} (hid:σ.H id=some (.cells cs)) (hk:cs[k]? = some x) (hxy:∀ F K0 g w v,RelH F K0 g σ.H w→bG g σ.H x v→bG g σ.H y v):aD σ { σ with H:=upd σ.H id (some (.cells (cs.set k y))) }:=by
 intro W0 K0 g a w r
 obtain⟨b,vs,t,hb,hheap,hr,h1,hn⟩:=r.mem.holds id _ hid
 have hr' : dJ g σ.H (cs.set k y) vs:=by
  refine⟨by simp[hr.1],fun j z v hz hv=>?_⟩
  rw[List.getElem?_set] at hz
  split at hz
  ·rename_i e
   subst e
   split at hz
   ·cases hz;exact hxy _ _ g w v r.mem (hr.2 k x v hk hv)
   ·cases hz
  ·exact hr.2 j z v hz hv
 have hle:gB g σ.H g (upd σ.H id (some (.cells (cs.set k y)))):=gB.box (by rw[hid];rfl) rfl
 refine⟨g,⟨r.mem.below,r.mem.ext,r.mem.kw,fun i he hi=>?_,r.mem.base,fun i hi=>?_,r.mem.sep,r.mem.frozlt,r.mem.glob,r.mem.lent.trans hle⟩,fun t=>(r.env t).mono hle,r.size,r.defers.mono hle (fun i o hi=>by rw[show (upd σ.H id (some (.cells (cs.set k y)))) i=σ.H i from aB _ _ (fun e=>by subst e;rw[hid] at hi;cases hi)];exact hi),r.ln,r.rd,r.nodup,r.lt⟩
 ·have hi:upd σ.H id (some (HE.cells (cs.set k y))) i=some he:=hi
  by_cases hne:i=id
  ·subst hne
   rw[aC] at hi;cases hi
   exact⟨b,vs,t,hb,hheap,hr'.mono hle,h1,hn⟩
  ·rw[aB _ _ hne] at hi
   have:=r.mem.holds i he hi
   cases he with
   | cells cs =>
    obtain⟨b,vs,t,h1,h2,h3,h4⟩:=this
    exact⟨b,vs,t,h1,h2,h3.mono hle,h4⟩
   | obj o=>exact this
   | froz ds=>exact this
   | mrow e2 s2 n2 cs2=>exact cK this rfl rfl (fun _ _ _ q=>q) hle (fun _ _ _ q _=>q)
   | rot e2 s2 n2=>exact cA this rfl rfl (fun _ _ _ q=>q) (fun _ _ _ q _=>q)
   | ob cs2 p=>exact eF this rfl rfl (fun _ _ _ q=>q) hle (fun _ _ _ q _=>q)
   | row e s n=>exact this
 ·have hi:upd σ.H id (some (HE.cells (cs.set k y))) i=none:=hi
  by_cases hne:i=id
  ·subst hne;rw[aC] at hi;cases hi
  ·rw[aB _ _ hne] at hi;exact r.mem.dom i hi
theorem aJ5 {F:Fr} {K0:aW} {g:G} {H:Hp} {w:World} {B sz n:Nat} {ds:List D} {v:Value} (hm:RelH F K0 g H w) (hB:H B=some (.froz ds)) (hl:ds.length=n*sz) (r:bG g H (.view B sz 0 n) v):bG g H (.d (.lst sz (fK sz n ds))) v:=by
 obtain⟨b,c,hb,rfl,hc,_⟩:=r
 obtain⟨b',vs,hb',hr,h1,hk⟩:=hm.holds B _ hB
 rw[hb] at hb';cases hb'
 obtain⟨h2,h3,h4⟩:=lK sz n ds hl
 have:=Rep.lst (K:=g.K) (sz:=sz) (xs:=fK sz n ds) (vs:=vs) (a:=some ⟨b,0,none⟩) (c:=c) h4 (by omega) (by rw[h2];exact hr.1) (by rw[h2];exact hr.2) h1
  (fun _=>⟨b,0,rfl,fun j v hj=>by rw[Nat.zero_add];exact hk j v hj⟩)
 rw[h3] at this
 exact this
theorem aD.viewCell {σ:St} {A B k sz n:Nat} {cs:List CV} {ds:List D} (hA:σ.H A=some (.cells cs)) (hk:cs[k]? = some (.view B sz 0 n)) (hB:σ.H B=some (.froz ds)) (hl:ds.length=n*sz) :
  aD σ { σ with H:=upd σ.H A (some (.cells (cs.set k (.d (.lst sz (fK sz n ds)))))) } :=
 aD.cellAtH hA hk (fun _ _ _ _ _ hm r=>aJ5 hm hB hl r)
theorem wV:∀ (n:Nat) (ds:List D),ds.length=n→fK 1 n ds=ds.map fun d=>[d]
 | 0,ds,h=>by have:ds=[]:=List.eq_nil_of_length_eq_zero h;subst this;rfl
 | n+1,d::ds,h=>by
  have:=wV n ds (by simpa using h)
  simp only[fK,List.take_succ_cons,List.take_zero,List.drop_succ_cons,List.drop_zero,List.map_cons,this]
end Go.Proofs.YtkmfmphpndhkjaaGreatDoor
