/- The abstract machine (AbsM, AbsN, AbsS, Run, AbsP, AbsR). -/
import Derived.Test.YtkmfmphpndhkjaaGreatDoorMacL
import Derived.IntWalk
import Derived.Laws.Strings
namespace Go.Proofs.YtkmfmphpndhkjaaGreatDoor
open Go Go.RowKit
set_option linter.unusedVariables false
set_option linter.unusedSimpArgs false
def fP (L:List (Nat × SV)):Nat→SV:=fun t=>match L.lookup t with
 | some x=>x
 | none=>.c .any
def cL (M:List (Nat × HE)):Hp:=fun i=>M.lookup i
def SV.ids:SV→List Nat
 | .c x=>x.ids
 | .agg cs=>cs.flatMap CV.ids
def HE.ids:HE→List Nat
 | .cells cs=>cs.flatMap CV.ids
 | .mrow _ _ _ cs=>cs.flatMap CV.ids
 | .ob cs _=>cs.flatMap CV.ids
 | _=>[]
def aN (L:List (Nat × SV)) (M:List (Nat × HE)):Bool :=
 (L.all fun p=>p.2.ids.all fun i=>(M.map (·.1)).contains i) && (M.all fun p=>p.2.ids.all fun i=>(M.map (·.1)).contains i)
theorem eF {α:Type}:∀ {L:List (Nat × α)} {t:Nat} {x:α},L.lookup t=some x→(t,x) ∈ L
 | (u,y)::L,t,x,h=>by
  simp only[List.lookup_cons] at h
  cases e:(t == u) with
  | true=>rw[e] at h;simp at h e;subst h e;simp
  | false=>rw[e] at h;exact List.mem_cons_of_mem _ (eF h)
theorem mJ {α:Type}:∀ {L:List (Nat × α)} {t:Nat},t ∈ L.map (·.1)→∃ x,L.lookup t=some x
 | (u,y)::L,t,h=>by
  simp only[List.lookup_cons]
  cases e:(t == u) with
  | true=>exact⟨y,rfl⟩
  | false =>
   simp only[List.map_cons,List.mem_cons] at h
   have hne:¬ t=u:=by simpa using e
   exact mJ (h.resolve_left hne)
def iW (f:Fx) (M:List (Nat × HE)):Bool:=(f.lent++f.dfs).all fun i=>(M.map (·.1)).contains i
theorem qG {f:Fx} {i:Nat} {M:List (Nat × HE)} (h:iW f M=true) (hi:i ∈ f.lent++f.dfs):i ∈ M.map (·.1):=by
 have:=List.all_eq_true.1 h i hi
 simpa using this
theorem aD.head {σ:St} {L:List (Nat × SV)} {M:List (Nat × HE)} {nx:Nat} (hL:∀ p ∈ L,σ.env p.1=p.2) (hM:∀ p ∈ M,σ.H p.1=some p.2) (hid:aN L M=true) (hln:iW σ.fx M=true):aD σ ⟨fP L,cL M,nx,σ.sz,σ.fx⟩:=by
 intro W0 K0 g a w r
 simp only[aN,Bool.and_eq_true] at hid
 have hH:∀ i,i ∈ M.map (·.1)→cL M i=σ.H i:=fun i hi=>by
  obtain⟨x,hx⟩:=mJ hi
  show M.lookup i=_
  rw[hx,hM _ (eF hx)]
 let β' : Nat→Option Nat:=fun i=>if (M.map (·.1)).contains i then g.β i else none
 have hβ:∀ i,i ∈ M.map (·.1)→β' i=g.β i:=fun i hi=>by show (if _ then _ else _)=_;rw[if_pos (by simpa using hi)]
 have hβ' : ∀ i b,β' i=some b→i ∈ M.map (·.1)∧g.β i=some b:=fun i b h=>by
  have h:(if (M.map (·.1)).contains i then g.β i else none)=some b:=h
  split at h
  ·rename_i hc;exact⟨by simpa using hc,h⟩
  ·cases h
 have hrep:∀ x v,(∀ i ∈ CV.ids x,i ∈ M.map (·.1))→bG g σ.H x v→bG { g with β:=β' } (cL M) x v:=by
  intro x v hi h
  cases x with
  | any=>trivial
  | d x=>exact h
  | full sz xs=>exact h
  | own id off =>
   obtain⟨b,hb,rfl,hr⟩:=h
   have:=hi id (by simp[CV.ids])
   exact⟨b,(hβ id this).trans hb,rfl,by rw[hH id this];exact hr⟩
  | yld id =>
   obtain⟨b,hb,hv,hr⟩:=h
   have:=hi id (by simp[CV.ids])
   exact⟨b,(hβ id this).trans hb,hv,by rw[hH id this];exact hr⟩
  | mt τ k =>
   obtain⟨q1,e,sz,n,cs,hm,hk,q2⟩:=h
   have:=hi τ (by simp[CV.ids])
   exact⟨q1,e,sz,n,cs,by rw[hH τ this];exact hm,hk,fun hn=>by
    rcases q2 hn with ⟨b,hb,hv⟩|⟨hb,hc,hv⟩
    ·exact .inl ⟨b,(hβ τ this).trans hb,hv⟩
    ·exact .inr ⟨(hβ τ this).trans hb,hc,hv⟩⟩
  | mpt τ k o =>
   obtain⟨q1,e,sz,n,cs,hm,hk,q2⟩:=h
   have:=hi τ (by simp[CV.ids])
   exact⟨q1,e,sz,n,cs,by rw[hH τ this];exact hm,hk,fun hn=>by
    obtain⟨b,hb,hv⟩:=q2 hn
    exact⟨b,(hβ τ this).trans hb,hv⟩⟩
  | apt τ sz xs k =>
   have:=hi τ (by simp[CV.ids])
   exact qL (by exact jH.refl _) h (fun e n q=>(hH τ this).trans q) (hβ τ this) rfl
  | mp id =>
   obtain⟨b,hb,hv,hr⟩:=h
   have:=hi id (by simp[CV.ids])
   exact⟨b,(hβ id this).trans hb,hv,by rw[hH id this];exact hr⟩
  | view id sz off len =>
   obtain⟨b,c,hb,rfl,hc,hr⟩:=h
   have:=hi id (by simp[CV.ids])
   exact⟨b,c,(hβ id this).trans hb,rfl,hc,by rw[hH id this];exact hr⟩
  | app τ sz xs =>
   obtain⟨h1,e,n,hrow,hl,hf⟩:=h
   have:=hi τ (by simp[CV.ids])
   refine⟨h1,e,n,(hH τ this).trans hrow,hl,fun hn=>?_⟩
   rcases hf hn with h2|⟨b,hb,hv⟩
   ·exact .inl h2
   ·exact .inr ⟨b,(hβ τ this).trans hb,hv⟩
  | clo f caps =>
   obtain⟨vs,hv,hl,hc⟩:=h
   refine⟨vs,hv,hl,fun j c u hj hu=>?_⟩
   have hcu:=hc j c u hj hu
   cases c with
   | d x=>exact hcu
   | own id off =>
    obtain⟨b,hb,hv,hr⟩:=hcu
    have:=hi id (List.mem_flatMap.2 ⟨_,List.mem_of_getElem? hj,by simp[Cap.ids]⟩)
    exact⟨b,(hβ id this).trans hb,hv,by rw[hH id this];exact hr⟩
  | bnd f caps =>
   obtain⟨vs,hv,hl,hc⟩:=h
   refine⟨vs,hv,hl,fun j c u hj hu=>?_⟩
   have hcu:=hc j c u hj hu
   cases c with
   | d x=>exact hcu
   | own id off =>
    obtain⟨b,hb,hv,hr⟩:=hcu
    have:=hi id (List.mem_flatMap.2 ⟨_,List.mem_of_getElem? hj,by simp[Cap.ids]⟩)
    exact⟨b,(hβ id this).trans hb,hv,by rw[hH id this];exact hr⟩
 have hreps:∀ cs vs,(∀ i ∈ cs.flatMap CV.ids,i ∈ M.map (·.1))→dX g σ.H cs vs→dX { g with β:=β' } (cL M) cs vs:=fun cs vs hi h =>
  ⟨h.1,fun j x v hx hv=>hrep x v (fun i hix=>hi i (List.mem_flatMap.2 ⟨x,List.mem_of_getElem? hx,hix⟩)) (h.2 j x v hx hv)⟩
 refine⟨{ g with β:=β' },⟨r.mem.below,r.mem.ext,r.mem.kw,?_,?_,?_,?_,?_,r.mem.glob,?_⟩,?_,r.size,?_,r.ln,r.rd,r.nodup,r.lt⟩
 ·intro id he hlk
  have hmem:(id,he) ∈ M:=eF hlk
  have hid2:id ∈ M.map (·.1):=List.mem_map.2 ⟨_,hmem,rfl⟩
  have hold:=r.mem.holds id he (hM _ hmem)
  have hids:∀ i ∈ he.ids,i ∈ M.map (·.1):=fun i hi=>by
   have:=List.all_eq_true.1 (List.all_eq_true.1 hid.2 _ hmem) i hi
   simpa using this
  cases he with
  | cells cs =>
   obtain⟨b,vs,t,hb,hheap,hr,h1,hn⟩:=hold
   exact⟨b,vs,t,(hβ id hid2).trans hb,hheap,hreps cs vs hids hr,h1,hn⟩
  | obj o =>
   obtain⟨b,hb,hheap,hn⟩:=hold
   exact⟨b,(hβ id hid2).trans hb,hheap,hn⟩
  | froz ds =>
   obtain⟨b,vs,hb,hr⟩:=hold
   exact⟨b,vs,(hβ id hid2).trans hb,hr⟩
  | rot e sz n=>exact cR hold (hβ id hid2) rfl (fun _ _ _ q=>q) (fun _ _ _ q _=>q)
  | mrow e sz n cs =>
   obtain⟨p1,p2,p3⟩:=hold
   refine⟨p1,p2,?_⟩
   rcases p3 with ⟨p4,p5⟩|⟨b,cur,vs,rest,p4,p5,p6,p7,p8,p9,p10⟩
   ·exact .inl ⟨(hβ id hid2).trans p4,p5⟩
   ·exact .inr ⟨b,cur,vs,rest,(hβ id hid2).trans p4,p5,p6,p7,hreps cs vs hids p8,p9,p10⟩
  | ob cs p =>
   obtain⟨b,vs,o,p4,p5,p6,p7,p8⟩:=hold
   exact⟨b,vs,o,(hβ id hid2).trans p4,p5,hreps cs vs hids p6,p7,p8⟩
  | row e sz n =>
   intro b hb
   exact hold b ((hβ id hid2).symm.trans hb)
 ·intro id b hb;exact r.mem.base id b (hβ' id b hb).2
 ·intro id hn
  show (if (M.map (·.1)).contains id then g.β id else none)=none
  split
  ·rename_i hc
   obtain⟨x,hx⟩:=mJ (L:=M) (t:=id) (by simpa using hc)
   have hn:M.lookup id=none:=hn
   rw[hx] at hn;cases hn
  ·rfl
 ·intro i j b hi hj;exact r.mem.sep i j b (hβ' i b hi).2 (hβ' j b hj).2
 ·intro i b hi;exact r.mem.frozlt i b (hβ' i b hi).2
 ·intro x v hi hx
  exact hrep x v (fun i hix=>qG hln (List.mem_append_left _ (by have:=hi i hix;rw[r.ln] at this;exact this))) (r.mem.lent x v hi hx)
 ·intro t
  show bB _ _ (fP L t) _
  unfold fP
  cases hlk:L.lookup t with
  | none=>trivial
  | some x =>
   have hmem:(t,x) ∈ L:=eF hlk
   have hids:∀ i ∈ x.ids,i ∈ M.map (·.1):=fun i hi=>by
    have:=List.all_eq_true.1 (List.all_eq_true.1 hid.1 _ hmem) i hi
    simpa using this
   have he:=r.env t
   rw[hL _ hmem] at he
   cases x with
   | c x=>exact hrep x _ hids he
   | agg cs =>
    obtain⟨vs,hv,hr,h1⟩:=he
    exact⟨vs,hv,hreps cs vs hids hr,h1⟩
 ·show dB { g with β:=β' } (cL M) σ.fx.dfs a.defers
  have hmem:∀ i ∈ σ.fx.dfs,i ∈ M.map (·.1):=fun i hi=>qG hln (List.mem_append_right _ hi)
  have hd:=r.defers
  generalize σ.fx.dfs=l at hd hmem
  generalize a.defers=ds at hd
  induction l generalizing ds with
  | nil=>cases ds with
   | nil=>trivial
   | cons _ _=>exact hd.elim
  | cons i l ih=>cases ds with
   | nil=>exact hd.elim
   | cons d ds =>
    obtain⟨⟨b,hb,e⟩,h2,h3⟩:=hd
    exact⟨⟨b,(hβ i (hmem i (by simp))).trans hb,e⟩,(hH i (hmem i (by simp))).trans h2,ih (fun j hj=>hmem j (by simp[hj])) ds h3⟩
def eqL (env:Nat→SV):List (Nat × SV)→Prop
 | []=>True
 | (t,x)::L=>env t=x∧eqL env L
def eqH (H:Hp):List (Nat × HE)→Prop
 | []=>True
 | (i,x)::L=>H i=some x∧eqH H L
theorem aBh {env:Nat→SV}:∀ {L:List (Nat × SV)},eqL env L→∀ p ∈ L,env p.1=p.2
 | (t,x)::L,h,p,hp=>by
  rcases List.mem_cons.1 hp with rfl|hp
  ·exact h.1
  ·exact aBh h.2 p hp
theorem vL {H:Hp}:∀ {L:List (Nat × HE)},eqH H L→∀ p ∈ L,H p.1=some p.2
 | (t,x)::L,h,p,hp=>by
  rcases List.mem_cons.1 hp with rfl|hp
  ·exact h.1
  ·exact vL h.2 p hp
theorem aD.keep {σ:St} {L:List (Nat × SV)} {M:List (Nat × HE)} {nx n:Nat} {ln:Fx} (hn:(n,ln)=(σ.sz,σ.fx)) (hid:(aN L M && iW ln M)=true) (h:eqL σ.env L∧eqH σ.H M):aD σ ⟨fP L,cL M,nx,n,ln⟩:=by
 simp only[Prod.mk.injEq] at hn
 obtain⟨rfl,rfl⟩:=hn
 simp only[Bool.and_eq_true] at hid
 exact aD.head (aBh h.1) (vL h.2) hid.1 hid.2
theorem aD.freeze {σ:St} {id:Nat} {cs:List CV} {ds:List D} (hid:σ.H id=some (.cells cs)) (hd:cQ CV.toD0 cs=some ds):aD σ { σ with H:=upd σ.H id (some (.froz ds)) }:=by
 intro W0 K0 g a w r
 obtain⟨g',h1,h2⟩:=r.mem.freeze hid hd
 exact⟨g',h1,fun t=>(r.env t).mono h2,r.size,r.defers.mono h2 (fun i o hi=>by rw[aB _ _ (fun e=>by subst e;rw[hid] at hi;cases hi)];exact hi),r.ln,r.rd,r.nodup,r.lt⟩
theorem aD.tok {σ:St} {τ:Nat} (e sz n:Nat) (hτ:σ.H τ=none):aD σ { σ with H:=upd σ.H τ (some (.row e sz n)) }:=by
 intro W0 K0 g a w r
 have hβ:g.β τ=none:=r.mem.dom τ hτ
 have hle:fS g σ.H g (upd σ.H τ (some (.row e sz n))):=by
  intro x v h
  cases x with
  | own i off =>
   obtain⟨b,hb,rfl,hnr⟩:=h
   have hne:i≠τ:=fun e=>by subst e;rw[hβ] at hb;cases hb
   exact⟨b,hb,rfl,by rw[aB _ _ hne];exact hnr⟩
  | view i s off len =>
   obtain⟨b,c,hb,rfl,hc,hnr⟩:=h
   have hne:i≠τ:=fun e=>by subst e;rw[hβ] at hb;cases hb
   exact⟨b,c,hb,rfl,hc,by rw[aB _ _ hne];exact hnr⟩
  | clo f caps=>exact fF h (jH.refl _) (fun i off v ⟨b,hb,hv,hnr⟩=>⟨b,hb,hv,by rw[aB _ _ (fun e=>by subst e;rw[hβ] at hb;cases hb)];exact hnr⟩)
  | bnd f caps=>exact fD h (jH.refl _) (fun i off v ⟨b,hb,hv,hnr⟩=>⟨b,hb,hv,by rw[aB _ _ (fun e=>by subst e;rw[hβ] at hb;cases hb)];exact hnr⟩)
  | yld i=>exact fI h (fun i off v ⟨b,hb,hv,hnr⟩=>⟨b,hb,hv,by rw[aB _ _ (fun e=>by subst e;rw[hβ] at hb;cases hb)];exact hnr⟩)
  | mp i=>exact iE h (fun i off v ⟨b,hb,hv,hnr⟩=>⟨b,hb,hv,by rw[aB _ _ (fun e=>by subst e;rw[hβ] at hb;cases hb)];exact hnr⟩)
  | mt i k=>exact kD (yR.upd (fun _ _ _ _ h=>by rw[hτ] at h;cases h) (fun _ _=>rfl) (fun _ _=>rfl)) h
  | apt i s xs k=>exact iK (by exact jH.refl _) (TLe.upd (fun _ _ _ h=>by rw[hτ] at h;cases h) (fun _ _=>rfl) (fun _ _=>rfl)) h
  | mpt i k o=>exact kC (yR.upd (fun _ _ _ _ h=>by rw[hτ] at h;cases h) (fun _ _=>rfl) (fun _ _=>rfl)) h
  | app i s xs' =>
   obtain⟨r1,e',n,hrow,hl,hf⟩:=h
   have hne:i≠τ:=fun e=>by subst e;rw[hτ] at hrow;cases hrow
   exact⟨r1,e',n,by rw[aB _ _ hne];exact hrow,hl,hf⟩
  | _=>exact h
 refine⟨g,⟨r.mem.below,r.mem.ext,r.mem.kw,fun i he hi=>?_,r.mem.base,fun i hi=>?_,r.mem.sep,r.mem.frozlt,r.mem.glob,r.mem.lent.trans hle⟩,fun t=>(r.env t).mono hle,r.size,r.defers.mono hle (fun i o hi=>by rw[show (upd σ.H τ (some (HE.row e sz n))) i=σ.H i from aB _ _ (fun e=>by subst e;rw[hτ] at hi;cases hi)];exact hi),r.ln,r.rd,r.nodup,r.lt⟩
 ·by_cases hne:i=τ
  ·subst hne
   have hi:upd σ.H i (some (HE.row e sz n)) i=some he:=hi
   rw[aC] at hi;cases hi
   intro b hb;rw[hβ] at hb;cases hb
  ·have hi:upd σ.H τ (some (HE.row e sz n)) i=some he:=hi
   rw[aB _ _ hne] at hi
   have:=r.mem.holds i he hi
   cases he with
   | cells cs =>
    obtain⟨b,vs,t,h1,h2,h3,h4⟩:=this
    exact⟨b,vs,t,h1,h2,h3.mono hle,h4⟩
   | obj o=>exact this
   | froz ds=>exact this
   | mrow e2 s2 n2 cs2=>exact dC this rfl rfl (fun _ _ _ q=>q) hle (fun _ _ _ q _=>q)
   | rot e2 s2 n2=>exact cR this rfl rfl (fun _ _ _ q=>q) (fun _ _ _ q _=>q)
   | ob cs2 p=>exact eP this rfl rfl (fun _ _ _ q=>q) hle (fun _ _ _ q _=>q)
   | row e s n=>exact this
 ·by_cases hne:i=τ
  ·subst hne
   have hi:upd σ.H i (some (HE.row e sz n)) i=none:=hi
   rw[aC] at hi;cases hi
  ·have hi:upd σ.H τ (some (HE.row e sz n)) i=none:=hi
   rw[aB _ _ hne] at hi;exact r.mem.dom i hi
theorem aF1 {g:G} {H:Hp} {τ e sz n:Nat} {x:CV} {xs:List (List D)} (hτ:H τ=some (.row e sz n)) (hx:(x = .d (.val (.slice none 0 0))∧xs=[])∨x = .full sz xs) (hn:n=xs.length) (v:Value) (h:bG g H x v):bG g H (.app τ sz xs) v:=by
 subst hn
 rcases hx with ⟨rfl,rfl⟩|rfl
 ·have h:Rep g.K (.val (.slice none 0 0)) v:=h
  cases h
  exact⟨aCc _ _,e,_,hτ,Nat.le_refl _,fun _=>.inl ⟨none,rfl⟩⟩
 ·exact⟨h.1,e,_,hτ,Nat.le_refl _,fun _=>.inl h.2⟩
theorem aD.slot {σ:St} {t:Nat} {x y:SV} (ht:σ.env t=x) (hxy:∀ g v,bB g σ.H x v→bB g σ.H y v):aD σ { σ with env:=upd σ.env t y }:=by
 intro W0 K0 g a w r
 refine⟨g,r.mem,fun u=>?_,r.size,r.defers,r.ln,r.rd,r.nodup,r.lt⟩
 show bB g σ.H (upd σ.env t y u) _
 by_cases h:u=t
 ·subst h;rw[aC];exact hxy g _ (ht ▸ r.env u)
 ·rw[aB _ _ h];exact r.env u
theorem aD.cellAt {σ:St} {id k:Nat} {cs:List CV} {x y:CV} (hid:σ.H id=some (.cells cs)) (hk:cs[k]? = some x) (hxy:∀ g v,bG g σ.H x v→bG g σ.H y v):aD σ { σ with H:=upd σ.H id (some (.cells (cs.set k y))) }:=by
 intro W0 K0 g a w r
 obtain⟨b,vs,t,hb,hheap,hr,h1,hn⟩:=r.mem.holds id _ hid
 have hr' : dX g σ.H (cs.set k y) vs:=by
  refine⟨by simp[hr.1],fun j z v hz hv=>?_⟩
  rw[List.getElem?_set] at hz
  split at hz
  ·rename_i e
   subst e
   split at hz
   ·cases hz;exact hxy g v (hr.2 k x v hk hv)
   ·cases hz
  ·exact hr.2 j z v hz hv
 have hle:fS g σ.H g (upd σ.H id (some (.cells (cs.set k y)))):=fS.box (by rw[hid];rfl) rfl
 refine⟨g,⟨r.mem.below,r.mem.ext,r.mem.kw,fun i he hi=>?_,r.mem.base,fun i hi=>?_,r.mem.sep,r.mem.frozlt,r.mem.glob,r.mem.lent.trans hle⟩,fun t=>(r.env t).mono hle,r.size,r.defers.mono hle (fun i o hi=>by rw[show (upd σ.H id (some (HE.cells (cs.set k y)))) i=σ.H i from aB _ _ (fun e=>by subst e;rw[hid] at hi;cases hi)];exact hi),r.ln,r.rd,r.nodup,r.lt⟩
 ·have hi:upd σ.H id (some (HE.cells (cs.set k y))) i=some he:=hi
  by_cases hne:i=id
  ·subst hne
   rw[aC] at hi;cases hi
   exact⟨b,vs,t,hb,hheap,hr'.mono hle,h1,hn⟩
  ·rw[aB _ _ hne] at hi
   have:=r.mem.holds i he hi
   cases he with
   | cells cs =>
    obtain⟨b,vs,t,h1,h2,h3,h4⟩:=this
    exact⟨b,vs,t,h1,h2,h3.mono hle,h4⟩
   | obj o=>exact this
   | froz ds=>exact this
   | mrow e2 s2 n2 cs2=>exact dC this rfl rfl (fun _ _ _ q=>q) hle (fun _ _ _ q _=>q)
   | rot e2 s2 n2=>exact cR this rfl rfl (fun _ _ _ q=>q) (fun _ _ _ q _=>q)
   | ob cs2 p=>exact eP this rfl rfl (fun _ _ _ q=>q) hle (fun _ _ _ q _=>q)
   | row e s n=>exact this
 ·have hi:upd σ.H id (some (HE.cells (cs.set k y))) i=none:=hi
  by_cases hne:i=id
  ·subst hne;rw[aC] at hi;cases hi
  ·rw[aB _ _ hne] at hi;exact r.mem.dom i hi
/-! regions that come to one value -/
def rZ (l:List Oper):List Nat:=l.filterMap (·.dst)
theorem lP {P:Program} {all:List Oper}:∀ {l:List Oper} {σ:St} {tr:List Foot} {k k' : St→List Foot→Prop},kW P all l σ tr k→(∀ σ' tr',k σ' tr'→(∀ t,t ∉ rZ l→σ'.env t=σ.env t)→(σ'.sz=σ.sz∧σ'.fx=σ.fx)→k' σ' tr')→kW P all l σ tr k'
 | [],σ,tr,k,k',h,hk=>hk _ _ h (fun _ _=>rfl) ⟨rfl,rfl⟩
 | o::os,σ,tr,k,k',h,hk=>by
  have hput:∀ (x:SV) t,t ∉ rZ (o::os)→lH σ.env o.dst x t=σ.env t∧t ∉ rZ os:=fun x t ht=>by
   cases hd:o.dst with
   | none=>exact⟨rfl,fun h=>ht (by simp only[rZ,List.filterMap_cons,hd];exact h)⟩
   | some d =>
    simp only[rZ,List.filterMap_cons,hd,List.mem_cons,not_or] at ht
    exact⟨aB _ _ ht.1,ht.2⟩
  simp only[kW] at h ⊢
  split at h
  ·exact h.elim
  ·rename_i t ht
   refine⟨fun e=>?_,fun e=>?_⟩
   ·obtain⟨r,hr1,hd,hrest⟩:=nC (h.1 e)
    have:=lP (k':=k') hrest (fun σ' tr' hk' he hs=>hk σ' tr' hk' (fun t ht=>(he t (hput r.v t ht).2).trans (hput r.v t ht).1) hs)
    exact zV hr1 ⟨hd,this⟩
   ·obtain⟨hd,hrest⟩:=h.2 e
    exact⟨hd,lP hrest (fun σ' tr' hk' he hs=>hk σ' tr' hk' (fun t ht=>(he t (hput (.c .any) t ht).2).trans (hput (.c (.d (.val undef))) t ht).1) hs)⟩
def kL (l:List Nat) (env:Nat→SV):Nat→SV:=fun t=>if l.contains t then .c .any else env t
theorem aD.to {σ σ' : St} {l:List Nat} {d:Nat} {v:SV} (he:∀ t,t ∉ l→σ'.env t=σ.env t) (hs:σ'.sz=σ.sz∧σ'.fx=σ.fx) (hd:σ'.env d=v) (hH:σ'.H=σ.H):aD σ' ⟨upd (kL l σ.env) d v,σ.H,σ.nx,σ.sz,σ.fx⟩:=by
 intro W0 K0 g a w r
 refine⟨g,hH ▸ r.mem,fun t=>?_,by rw[r.size];exact hs.1,by show dB g σ.H σ.fx.dfs a.defers;rw[← hH,← hs.2];exact r.defers,by rw[r.ln,hs.2],by rw[r.rd,hs.2],by show σ.fx.dfs.Nodup;rw[← hs.2];exact r.nodup,by show ∀ q,σ.fx.lt=some q→_;rw[← hs.2];exact r.lt⟩
 show bB g σ.H (upd (kL l σ.env) d v t) _
 rw[← hH]
 by_cases h:t=d
 ·subst h;rw[aC,← hd];exact r.env t
 ·rw[aB _ _ h]
  unfold kL
  split
  ·trivial
  ·rename_i hn
   rw[← he t (by simpa using hn)];exact r.env t
section
variable {P:Program} {σ:St} {Q:Exit→St→Prop}
theorem Wp.seqTo {id:Nat} {all:List Oper} {y:Code} (d:Nat) (v:SV) (h:kW P all all σ [] (fun σ' _=>σ'.env d=v∧σ'.H=σ.H)) (hy:Wp P y ⟨upd (kL (rZ all) σ.env) d v,σ.H,σ.nx,σ.sz,σ.fx⟩ Q):Wp P (.seq (.region id all.toArray false) y) σ Q :=
 Wp.seqRegion (fun K hK=>lP h (fun σ' _ hk he hs=>hK σ' (Wp.weak (aD.to he hs hk.1 hk.2) hy)))
theorem Wp.seqToD {id:Nat} {all:List Oper} {y:Code} (d:Nat) (v:SV) (hm:P.follows .mixedOrders=true) (h:kW P all all σ [] (fun σ' tr=>aG all tr=true∧σ'.env d=v∧σ'.H=σ.H)) (hy:Wp P y ⟨upd (kL (rZ all) σ.env) d v,σ.H,σ.nx,σ.sz,σ.fx⟩ Q):Wp P (.seq (.region id all.toArray true) y) σ Q :=
 Wp.seqDrawn hm (fun K hK=>lP h (fun σ' _ hk he hs=>⟨hk.1,hK σ' (Wp.weak (aD.to he hs hk.2.1 hk.2.2) hy)⟩))
end
end Go.Proofs.YtkmfmphpndhkjaaGreatDoor
namespace Go.Proofs.YtkmfmphpndhkjaaGreatDoor
open Go Go.RowKit
set_option linter.unusedVariables false
set_option linter.unusedSimpArgs false
theorem aD.nilApp {σ:St} {t τ:Nat} (e sz:Nat) (hτ:σ.H τ=none) (ht:σ.env t = .c (.d (.val (.slice none 0 0)))):aD σ { σ with env:=upd σ.env t (.c (.app τ sz [])),H:=upd σ.H τ (some (.row e sz 0)) } :=
 (aD.tok (τ:=τ) e sz 0 hτ).trans (aD.slot (σ:={ σ with H:=upd σ.H τ (some (.row e sz 0)) }) (t:=t) ht (fun g v h=>aF1 (e:=e) (n:=0) (xs:=[]) (aC _ _ _) (.inl ⟨rfl,rfl⟩) rfl v h))
theorem aD.nilAppCell {σ:St} {id k τ:Nat} {cs:List CV} (e sz:Nat) (hne:id≠τ) (hτ:σ.H τ=none) (hid:σ.H id=some (.cells cs)) (hk:cs[k]? = some (.d (.val (.slice none 0 0)))):aD σ { σ with H:=upd (upd σ.H τ (some (.row e sz 0))) id (some (.cells (cs.set k (.app τ sz [])))) } :=
 (aD.tok (τ:=τ) e sz 0 hτ).trans (aD.cellAt (σ:={ σ with H:=upd σ.H τ (some (.row e sz 0)) }) (id:=id) ((aB _ _ hne).trans hid) hk (fun g v h=>aF1 (e:=e) (n:=0) (xs:=[]) (aC _ _ _) (.inl ⟨rfl,rfl⟩) rfl v h))
inductive BRes where
 | no
 | ok (r:Res)
 | okIf (tot:Nat) (r:Res)
 | call (f:FuncId) (ds:List D) (fp:List Nat)
 | scall (f:FuncId) (xs:List SV) (caps:List D)
def aFl (P:Program) (o:Oper) (ρ:Operand→SV) (H:Hp) (nx:Nat):BRes :=
 match o.op with
 | .call c=>match c.callee with
  | .builtin b=>match bE P b c.argTypes.toList o.type (c.args.toList.map ρ) H nx with
   | some (r,tot)=>.okIf tot r
   | none=>.no
  | .value f=>match ρ f with
   | .c (.d (.fn (.func f) caps))=>match cQ (SV.toD H) (c.args.toList.map ρ) with
    | some ds=>.call f (ds++caps) ((c.args.toList.map ρ).flatMap bC)
    | none=>.scall f (c.args.toList.map ρ) caps
   | _=>.no
  | _=>.no
 | op=>match bD P op ρ H nx with
  | some r=>.ok r
  | none=>.no
def qM (σ:St) (o:Oper):Bool:=match o.dst with
 | some d=>decide (d<σ.sz)
 | none=>true
mutual
def jL (P:Program) (all:List Oper):List Oper→St→List Foot→(St→List Foot→Prop)→Prop
 | [],σ,tr,k=>k σ tr.reverse
 | o::os,σ,tr,k=>bgd P all o os σ tr k (fY all σ.env o)
termination_by l=>(l.length,0)
def bgd (P:Program) (all:List Oper) (o:Oper) (os:List Oper) (σ:St) (tr:List Foot) (k:St→List Foot→Prop):Option Bool→Prop
 | none=>False
 | some true=>bgo P all o os σ tr k (aFl P o (cI σ.env) σ.H σ.nx)
 | some false=>qM σ o=true∧jL P all os (σ.skip o) (⟨[],none⟩::tr) k
termination_by (os.length,3)
def bgo (P:Program) (all:List Oper) (o:Oper) (os:List Oper) (σ:St) (tr:List Foot) (k:St→List Foot→Prop):BRes→Prop
 | .no=>False
 | .ok r=>qM σ o=true∧jL P all os (σ.step o r) (⟨r.fp,r.up.map (·.1)⟩::tr) k
 | .okIf tot r=>tot≤140737488355328∧qM σ o=true∧jL P all os (σ.step o r) (⟨r.fp,r.up.map (·.1)⟩::tr) k
 | .call f ds fp=>zW P all o os σ tr k f ds fp
 | .scall f xs caps=>aKh P all o os σ tr k f xs caps
termination_by (os.length,2)
def zW (P:Program) (all:List Oper) (o:Oper) (os:List Oper) (σ:St) (tr:List Foot) (k:St→List Foot→Prop) (f:FuncId) (ds:List D) (fp:List Nat):Prop :=
 (∃ y,aJ P f ds y∧qM σ o=true∧jL P all os (σ.step o ⟨SV.ofD y,none,fp,false⟩) (⟨fp,none⟩::tr) k) ∨
   (∃ e sz xs,nS P f ds e sz xs∧σ.H σ.nx=none∧qM σ o=true∧jL P all os (σ.step o ⟨.c (.app σ.nx sz xs),some (σ.nx,.row e sz xs.length),σ.nx::fp,true⟩) (⟨σ.nx::fp,some σ.nx⟩::tr) k)
termination_by (os.length,1)
def aKh (P:Program) (all:List Oper) (o:Oper) (os:List Oper) (σ:St) (tr:List Foot) (k:St→List Foot→Prop) (f:FuncId) (xs:List SV) (caps:List D):Prop :=
 ∃ ds y,cQ (SV.snap σ.H) xs=some ds∧aJ P f (ds++caps) y∧y.free=true∧qM σ o=true∧jL P all os (σ.step o ⟨SV.ofD y,none,xs.flatMap (SV.snapFp σ.H)++xs.flatMap bC,false⟩) (⟨xs.flatMap (SV.snapFp σ.H)++xs.flatMap bC,none⟩::tr) k
termination_by (os.length,1)
end
theorem rQ {σ:St} {o:Oper} (h:qM σ o=true):lK σ o:=by
 unfold qM at h;unfold lK
 cases hd:o.dst with
 | none=>trivial
 | some d=>rw[hd] at h;simpa using h
def aQh (P:Program) (o:Oper) (ρ:Operand→SV) (H:Hp) (nx:Nat):BRes→Prop
 | .no=>True
 | .ok r=>eV P o ρ H nx r
 | .okIf tot r=>tot≤140737488355328→eV P o ρ H nx r
 | .call f ds fp=>(∀ y,aJ P f ds y→eV P o ρ H nx ⟨SV.ofD y,none,fp,false⟩)∧∀ e sz xs,nS P f ds e sz xs→H nx=none→eV P o ρ H nx ⟨.c (.app nx sz xs),some (nx,.row e sz xs.length),nx::fp,true⟩
 | .scall f xs caps=>∀ ds y,cQ (SV.snap H) xs=some ds→aJ P f (ds++caps) y→y.free=true→eV P o ρ H nx ⟨SV.ofD y,none,xs.flatMap (SV.snapFp H)++xs.flatMap bC,false⟩
theorem aI8 (P:Program) (o:Oper) (ρ:Operand→SV) (H:Hp) (nx:Nat):aQh P o ρ H nx (aFl P o ρ H nx):=by
 obtain⟨dst,op,type,pos,after,guard⟩:=o
 cases op with
 | call c =>
  obtain⟨cal,args,tys⟩:=c
  cases cal with
  | builtin b =>
   simp only[aFl]
   split
   ·rename_i r tot hr
    intro ht
    simp only[eV,astep,hr]
    exact⟨ht,trivial⟩
   ·trivial
  | value f =>
   simp only[aFl]
   split
   ·rename_i fid caps hf
    split
    ·rename_i ds hds
     refine⟨fun y hy=>?_,fun e sz xs hy hn=>?_⟩
     ·simp only[eV,astep,hf,hds]
      exact .inl ⟨y,hy,rfl⟩
     ·simp only[eV,astep,hf,hds]
      exact .inr ⟨e,sz,xs,hy,hn,rfl⟩
    ·rename_i hds
     intro ds y h1 h2 h3
     simp only[eV,astep,hf,hds]
     exact⟨ds,y,h1,h2,h3,rfl⟩
   ·trivial
  | invoke r m=>trivial
 | _ =>
  simp only[aFl]
  split
  ·rename_i r hr
   show eV _ _ _ _ _ _
   simp only[eV,astep,hr]
  ·trivial
theorem dK {P:Program} {all:List Oper}:∀ {l:List Oper} {σ:St} {tr:List Foot} {k:St→List Foot→Prop},jL P all l σ tr k→kW P all l σ tr k
 | [],σ,tr,k,h=>by simpa [jL,kW] using h
 | o::os,σ,tr,k,h=>by
  rw[jL] at h
  rw[kW]
  cases hg:fY all σ.env o with
  | none=>rw[hg,bgd] at h;exact h.elim
  | some gb =>
  cases gb with
  | true =>
   rw[hg,bgd] at h
   simp only[hg]
   refine⟨fun _=>?_,(fun e=>by cases e)⟩
   have key:∀ r,eV P o (cI σ.env) σ.H σ.nx r→(qM σ o=true∧jL P all os (σ.step o r) (⟨r.fp,r.up.map (·.1)⟩::tr) k)→astep P o (cI σ.env) σ.H σ.nx (fun r=>lK σ o∧kW P all os (σ.step o r) (⟨r.fp,r.up.map (·.1)⟩::tr) k) :=
    fun r hr hb=>zV hr ⟨rQ hb.1,dK hb.2⟩
   have hsp:=aI8 P o (cI σ.env) σ.H σ.nx
   cases hb:aFl P o (cI σ.env) σ.H σ.nx with
   | no=>rw[hb,bgo] at h;exact h.elim
   | ok r =>
    rw[hb] at hsp
    rw[hb,bgo] at h
    exact key r hsp h
   | okIf tot r =>
    rw[hb] at hsp
    rw[hb,bgo] at h
    exact key r (hsp h.1) h.2
   | call f ds fp =>
    rw[hb] at hsp
    rw[hb,bgo,zW] at h
    rcases h with ⟨y,hf,hrest⟩|⟨e,sz,xs,hf,hn,hrest⟩
    ·exact key ⟨SV.ofD y,none,fp,false⟩ (hsp.1 y hf) hrest
    ·exact key _ (hsp.2 e sz xs hf hn) hrest
   | scall f xs caps =>
    rw[hb] at hsp
    rw[hb,bgo,aKh] at h
    obtain⟨ds,y,h1,h2,h3,hrest⟩:=h
    exact key _ (hsp ds y h1 h2 h3) hrest
  | false =>
   rw[hg,bgd] at h
   simp only[hg]
   exact⟨(fun e=>by cases e),fun _=>⟨rQ h.1,dK h.2⟩⟩
theorem aV {P:Program} {all:List Oper} {o:Oper} {os:List Oper} {σ:St} {tr:List Foot} {k:St→List Foot→Prop} {f:FuncId} {ds:List D} {fp:List Nat} {y:D} (hf:aJ P f ds y)
  (h:qM σ o=true∧jL P all os (σ.step o ⟨SV.ofD y,none,fp,false⟩) (⟨fp,none⟩::tr) k):zW P all o os σ tr k f ds fp:=by rw[zW];exact .inl ⟨y,hf,h⟩
theorem gM {P:Program} {all:List Oper} {o:Oper} {os:List Oper} {σ:St} {tr:List Foot} {k:St→List Foot→Prop} {f:FuncId} {ds:List D} {fp:List Nat} {e sz:Nat} {xs:List (List D)} (hf:nS P f ds e sz xs)
  (h:σ.H σ.nx=none∧qM σ o=true∧jL P all os (σ.step o ⟨.c (.app σ.nx sz xs),some (σ.nx,.row e sz xs.length),σ.nx::fp,true⟩) (⟨σ.nx::fp,some σ.nx⟩::tr) k):zW P all o os σ tr k f ds fp:=by rw[zW];exact .inr ⟨e,sz,xs,hf,h⟩
section
variable {P:Program} {σ:St} {Q:Exit→St→Prop}
theorem Wp.condT {c:Operand} {x y:Code} (hc:cI σ.env c = .c (.d (.val (.bool true)))) (h:Wp P x σ Q):Wp P (.cond c x y) σ Q:=Wp.cond hc (fun _=>h) (fun e=>by cases e)
theorem Wp.condF {c:Operand} {x y:Code} (hc:cI σ.env c = .c (.d (.val (.bool false)))) (h:Wp P y σ Q):Wp P (.cond c x y) σ Q:=Wp.cond hc (fun e=>by cases e) (fun _=>h)
theorem Wp.reg {id:Nat} {all:List Oper} (h:∀ K:St→Prop,(∀ σ',Q .normal σ'→K σ')→jL P all all σ [] (fun σ' _=>K σ')):Wp P (.region id all.toArray false) σ Q:=Wp.region (fun K hK=>dK (h K hK))
theorem Wp.drw {id:Nat} {all:List Oper} (hm:P.follows .mixedOrders=true) (h:∀ K:St→Prop,(∀ σ',Q .normal σ'→K σ')→jL P all all σ [] (fun σ' tr=>aG all tr=true∧K σ')):Wp P (.region id all.toArray true) σ Q:=Wp.drawn hm (fun K hK=>dK (h K hK))
theorem Wp.sreg {id:Nat} {all:List Oper} {y:Code} (h:∀ K:St→Prop,(∀ σ',Wp P y σ' Q→K σ')→jL P all all σ [] (fun σ' _=>K σ')):Wp P (.seq (.region id all.toArray false) y) σ Q:=Wp.seqRegion (fun K hK=>dK (h K hK))
theorem Wp.sdrw {id:Nat} {all:List Oper} {y:Code} (hm:P.follows .mixedOrders=true) (h:∀ K:St→Prop,(∀ σ',Wp P y σ' Q→K σ')→jL P all all σ [] (fun σ' tr=>aG all tr=true∧K σ')):Wp P (.seq (.region id all.toArray true) y) σ Q:=Wp.seqDrawn hm (fun K hK=>dK (h K hK))
theorem Wp.sto {id:Nat} {all:List Oper} {y:Code} (d:Nat) (v:SV) (h:jL P all all σ [] (fun σ' _=>σ'.env d=v∧σ'.H=σ.H)) (hy:Wp P y ⟨upd (kL (rZ all) σ.env) d v,σ.H,σ.nx,σ.sz,σ.fx⟩ Q):Wp P (.seq (.region id all.toArray false) y) σ Q:=Wp.seqTo d v (dK h) hy
theorem Wp.stoD {id:Nat} {all:List Oper} {y:Code} (d:Nat) (v:SV) (hm:P.follows .mixedOrders=true) (h:jL P all all σ [] (fun σ' tr=>aG all tr=true∧σ'.env d=v∧σ'.H=σ.H)) (hy:Wp P y ⟨upd (kL (rZ all) σ.env) d v,σ.H,σ.nx,σ.sz,σ.fx⟩ Q):Wp P (.seq (.region id all.toArray true) y) σ Q:=Wp.seqToD d v hm (dK h) hy
theorem Wp.rto {id:Nat} {all:List Oper} (d:Nat) (v:SV) (h:jL P all all σ [] (fun σ' _=>σ'.env d=v∧σ'.H=σ.H)) (hy:∀ σ',aD σ' ⟨upd (kL (rZ all) σ.env) d v,σ.H,σ.nx,σ.sz,σ.fx⟩→Q .normal σ'):Wp P (.region id all.toArray false) σ Q :=
 Wp.region (fun K hK=>lP (dK h) (fun σ' _ hk he hs=>hK σ' (hy σ' (aD.to he hs hk.1 hk.2))))
theorem Wp.rtoD {id:Nat} {all:List Oper} (d:Nat) (v:SV) (hm:P.follows .mixedOrders=true) (h:jL P all all σ [] (fun σ' tr=>aG all tr=true∧σ'.env d=v∧σ'.H=σ.H)) (hy:∀ σ',aD σ' ⟨upd (kL (rZ all) σ.env) d v,σ.H,σ.nx,σ.sz,σ.fx⟩→Q .normal σ'):Wp P (.region id all.toArray true) σ Q :=
 Wp.drawn hm (fun K hK=>lP (dK h) (fun σ' _ hk he hs=>⟨hk.1,hK σ' (hy σ' (aD.to he hs hk.2.1 hk.2.2))⟩))
theorem Wp.rtoS {id:Nat} {all:List Oper} {y:Code} {Q' : Exit→St→Prop} (d:Nat) (v:SV) (h:jL P all all σ [] (fun σ' _=>σ'.env d=v∧σ'.H=σ.H)) (hy:Wp P y ⟨upd (kL (rZ all) σ.env) d v,σ.H,σ.nx,σ.sz,σ.fx⟩ Q'):Wp P (.region id all.toArray false) σ (bJ (fun σ'=>Wp P y σ' Q') Q) :=
 Wp.rto d v h (fun σ' hw=>Wp.weak hw hy)
theorem Wp.rtoDS {id:Nat} {all:List Oper} {y:Code} {Q' : Exit→St→Prop} (d:Nat) (v:SV) (hm:P.follows .mixedOrders=true) (h:jL P all all σ [] (fun σ' tr=>aG all tr=true∧σ'.env d=v∧σ'.H=σ.H)) (hy:Wp P y ⟨upd (kL (rZ all) σ.env) d v,σ.H,σ.nx,σ.sz,σ.fx⟩ Q'):Wp P (.region id all.toArray true) σ (bJ (fun σ'=>Wp P y σ' Q') Q) :=
 Wp.rtoD d v hm h (fun σ' hw=>Wp.weak hw hy)
end
end Go.Proofs.YtkmfmphpndhkjaaGreatDoor
namespace Go.Proofs.YtkmfmphpndhkjaaGreatDoor
open Go Go.RowKit
set_option linter.unusedVariables false
set_option linter.unusedSimpArgs false
abbrev str (l:List UInt8):D:=.val (.string ⟨l.toArray⟩)
abbrev int (n:Int):D:=.val (.int .i64 n)
abbrev eK (b:Bool):D:=.val (.bool b)
theorem aOm {α:Type} (f:Nat→α) (t:Nat) (v:α) (i:Nat):upd f t v i=match i == t with|true=>v|false=>f i:=by
 unfold upd
 by_cases h:i=t
 ·subst h;simp
 ·rw[if_neg h,show (i == t)=false from by simpa using h]
theorem aG0 (l:List Nat) (env:Nat→SV) (t:Nat):kL l env t=match l.contains t with|true=>.c .any|false=>env t:=by
 unfold kL;cases l.contains t<;>rfl
theorem aIi (args:List D) (n t:Nat):(uN args n).env t=match args[t]? with|some x=>SV.ofD x|none=>.c .any:=rfl
theorem aNf (args:List D) (n i:Nat):(uN args n).H i=none:=rfl
theorem aKm (args:List D) (n:Nat):(uN args n).nx=0:=rfl
theorem aKn (args:List D) (n:Nat):(uN args n).sz=n:=rfl
theorem aMj (σ:St) (o:Oper) (r:Res):σ.step o r=⟨lH σ.env o.dst r.v,oM σ.H r.up,if r.al then σ.nx+1 else σ.nx,σ.sz,σ.fx⟩:=rfl
theorem aMh (σ:St) (o:Oper):σ.skip o=⟨lH σ.env o.dst (.c (.d (.val undef))),σ.H,σ.nx,σ.sz,σ.fx⟩:=rfl
theorem aJn (env:Nat→SV) (d:Nat) (x:SV):lH env (some d) x=upd env d x:=rfl
theorem aJm (env:Nat→SV) (x:SV):lH env none x=env:=rfl
theorem aKt (H:Hp):oM H none=H:=rfl
theorem aKu (H:Hp) (id:Nat) (he:HE):oM H (some (id,he))=upd H id (some he):=rfl
theorem aNx (L:List (Nat × SV)) (t:Nat):fP L t=match L.lookup t with|some x=>x|none=>.c .any:=rfl
theorem aNw (M:List (Nat × HE)) (t:Nat):cL M t=M.lookup t:=rfl
theorem eY (l:List UInt8):(ByteArray.mk l.toArray).toList=l:=ByteArray.toList_mk l
theorem aQ (P:Program) {α β:Type}:∀ (s:Sem α) (f:α→Sem β),cC P (s >>= f)=match cC P s with|some a=>cC P (f a)|none=>none:=by
 intro s f
 show cC P (s.bind f)=_
 induction s with
 | pure a=>rfl
 | program k ih=>exact ih P
 | mark m k ih=>exact ih
 | _=>rfl
theorem gI {P:Program} {t:TypeId} {u:TypeDesc} (h:P.underlying t=some u):cC P (underlying t)=some u:=by
 unfold underlying
 rw[aQ]
 show cC P (match P.underlying t with | some d => pure d | none => stuck "no such type") = _
 rw[h];rfl
theorem aNb (l:List UInt8):(ByteArray.mk l.toArray).size=l.length:=by simp[ByteArray.size]
theorem aFm (a:List UInt8) (l h:Nat):(ByteArray.mk a.toArray).extract l h=⟨((a.drop l).take (h - l)).toArray⟩:=by
 apply ByteArray.ext;simp[List.extract_eq_take_drop]
section
variable {P:Program} {t:TypeId} {x y:Operand} {k:IntKind} {a b:Int}
abbrev vi (k:IntKind) (n:Int):SV:=.c (.d (.val (.int k n)))
abbrev vb (b:Bool):SV:=.c (.d (.val (.bool b)))
abbrev vs (l:List UInt8):SV:=.c (.d (.val (.string ⟨l.toArray⟩)))
theorem aN2:iF P .add t x y (vi k a) (vi k b)=some (Res.pure (vi k (k.wrap (a+b)))):=by cases k<;>rfl
theorem aNa:iF P .sub t x y (vi k a) (vi k b)=some (Res.pure (vi k (k.wrap (a - b)))):=by cases k<;>rfl
theorem aN8:iF P .mul t x y (vi k a) (vi k b)=some (Res.pure (vi k (k.wrap (a*b)))):=by cases k<;>rfl
theorem aN3:iF P .eql t x y (vi k a) (vi k b)=some (Res.pure (vb (a == b))):=by cases k<;>rfl
theorem aN9:iF P .neq t x y (vi k a) (vi k b)=some (Res.pure (vb (a != b))):=by cases k<;>rfl
theorem aN7:iF P .lss t x y (vi k a) (vi k b)=some (Res.pure (vb (decide (a<b)))):=by cases k<;>rfl
theorem aN6:iF P .leq t x y (vi k a) (vi k b)=some (Res.pure (vb (decide (a≤b)))):=by cases k<;>rfl
theorem aN5:iF P .gtr t x y (vi k a) (vi k b)=some (Res.pure (vb (decide (b<a)))):=by cases k<;>rfl
theorem aN4:iF P .geq t x y (vi k a) (vi k b)=some (Res.pure (vb (decide (b≤a)))):=by cases k<;>rfl
variable {l m:List UInt8}
theorem aM6:iF P .eql t x y (vs l) (vs m)=some (Res.pure (vb (l == m))):=by
 show some (Res.pure (vb ((ByteArray.mk l.toArray).toList == (ByteArray.mk m.toArray).toList)))=_
 rw[eY,eY]
theorem aMb:iF P .neq t x y (vs l) (vs m)=some (Res.pure (vb (!(l == m)))):=by
 show some (Res.pure (vb (!((ByteArray.mk l.toArray).toList == (ByteArray.mk m.toArray).toList))))=_
 rw[eY,eY]
theorem aMa:iF P .lss t x y (vs l) (vs m)=some (Res.pure (vb (Op.bytesLess l m))):=by
 show some (Res.pure (vb (Op.bytesLess (ByteArray.mk l.toArray).toList (ByteArray.mk m.toArray).toList)))=_
 rw[eY,eY]
theorem aM9:iF P .leq t x y (vs l) (vs m)=some (Res.pure (vb (Op.bytesLess l m || l == m))):=by
 show some (Res.pure (vb (Op.bytesLess (ByteArray.mk l.toArray).toList (ByteArray.mk m.toArray).toList || (ByteArray.mk l.toArray).toList == (ByteArray.mk m.toArray).toList)))=_
 rw[eY,eY]
theorem aM8:iF P .gtr t x y (vs l) (vs m)=some (Res.pure (vb (!(Op.bytesLess l m || l == m)))):=by
 show some (Res.pure (vb (!(Op.bytesLess (ByteArray.mk l.toArray).toList (ByteArray.mk m.toArray).toList || (ByteArray.mk l.toArray).toList == (ByteArray.mk m.toArray).toList))))=_
 rw[eY,eY]
theorem aM7:iF P .geq t x y (vs l) (vs m)=some (Res.pure (vb (!Op.bytesLess l m))):=by
 show some (Res.pure (vb (!Op.bytesLess (ByteArray.mk l.toArray).toList (ByteArray.mk m.toArray).toList)))=_
 rw[eY,eY]
theorem aKd {p q:Bool} (hu:P.underlying t=some .bool):iF P .eql t x y (vb p) (vb q)=some (Res.pure (vb (p == q))):=by
 have:sc P (do eqGuard .eql t x y (.bool p) (.bool q);binOp .eql t (.bool p) (.bool q))=some (Res.pure (vb (p == q))):=by
  unfold sc
  have e:cC P (do eqGuard .eql t x y (.bool p) (.bool q);binOp .eql t (.bool p) (.bool q))=some (.bool (p == q)):=by
   have e0:cC P (Op.equal t (.bool p) (.bool q))=some (p == q):=by
    unfold Op.equal
    rw[show Op.maxDepth=9999+1 from rfl]
    unfold Op.equalIn
    rw[aQ,gI hu];rfl
   have e1:cC P (eqGuard .eql t x y (.bool p) (.bool q))=some ():=rfl
   rw[aQ,e1]
   simp only[binOp]
   rw[aQ,e0];rfl
  rw[e];rfl
 exact this
theorem aKe {p q:Bool} (hu:P.underlying t=some .bool):iF P .neq t x y (vb p) (vb q)=some (Res.pure (vb (!(p == q)))):=by
 have:sc P (do eqGuard .neq t x y (.bool p) (.bool q);binOp .neq t (.bool p) (.bool q))=some (Res.pure (vb (!(p == q)))):=by
  unfold sc
  have e:cC P (do eqGuard .neq t x y (.bool p) (.bool q);binOp .neq t (.bool p) (.bool q))=some (.bool (!(p == q))):=by
   have e0:cC P (Op.equal t (.bool p) (.bool q))=some (p == q):=by
    unfold Op.equal
    rw[show Op.maxDepth=9999+1 from rfl]
    unfold Op.equalIn
    rw[aQ,gI hu];rfl
   have e1:cC P (eqGuard .neq t x y (.bool p) (.bool q))=some ():=rfl
   rw[aQ,e1]
   simp only[binOp]
   rw[aQ,e0];rfl
  rw[e];rfl
 exact this
theorem pY {op:BinOp} {vx vy:Value} {q:Bool} (e1:cC P (eqGuard op t x y vx vy)=some ()) (e0:cC P (Op.equal t vx vy)=some q) (h:(op = .eql∧binOp op t vx vy=(do pure (.bool (← Op.equal t vx vy))))∨(op = .neq∧binOp op t vx vy=(do pure (.bool (!(← Op.equal t vx vy)))))) :
  sc P (do eqGuard op t x y vx vy;binOp op t vx vy)=some (Res.pure (vb (if op = .eql then q else !q))):=by
 unfold sc
 rcases h with ⟨rfl,h⟩|⟨rfl,h⟩
 ·have e:cC P (do eqGuard .eql t x y vx vy;binOp .eql t vx vy)=some (.bool q):=by
   rw[aQ,e1,h];simp only;rw[aQ,e0];rfl
  rw[e];rfl
 ·have e:cC P (do eqGuard .neq t x y vx vy;binOp .neq t vx vy)=some (.bool (!q)):=by
   rw[aQ,e1,h];simp only;rw[aQ,e0];rfl
  rw[e];rfl
theorem aH9 {ms:Array (String × TypeId)} (hu:P.underlying t=some (.interface ms)):cC P (Op.equal t .nilIface .nilIface)=some true:=by
 unfold Op.equal;rw[show Op.maxDepth=9999+1 from rfl];unfold Op.equalIn
 rw[aQ,gI hu];rfl
theorem gR {ms:Array (String × TypeId)} (hu:P.underlying t=some (.interface ms)) (v:Value):iF P .eql t x (.const v) (.c (.d (.val .nilIface))) (.c (.d (.val .nilIface)))=some (Res.pure (vb true)) :=
 pY (op:=.eql) (vx:=.nilIface) (vy:=.nilIface) (by cases x<;>rfl) (aH9 hu) (.inl ⟨rfl,rfl⟩)
theorem gT {ms:Array (String × TypeId)} (hu:P.underlying t=some (.interface ms)) (v:Value):iF P .neq t x (.const v) (.c (.d (.val .nilIface))) (.c (.d (.val .nilIface)))=some (Res.pure (vb false)) :=
 pY (op:=.neq) (vx:=.nilIface) (vy:=.nilIface) (by cases x<;>rfl) (aH9 hu) (.inr ⟨rfl,rfl⟩)
theorem gQ {ms:Array (String × TypeId)} (hu:P.underlying t=some (.interface ms)) (a:TypeId) (b:D):iF P .eql t x y (.c (.d (.iface a b))) (.c (.d (.val .nilIface)))=some (Res.pure (vb false)):=by
 unfold iF;simp only[SV.exact,CV.exact,hu,bK,if_true]
theorem gS {ms:Array (String × TypeId)} (hu:P.underlying t=some (.interface ms)) (a:TypeId) (b:D):iF P .neq t x y (.c (.d (.iface a b))) (.c (.d (.val .nilIface)))=some (Res.pure (vb true)):=by
 unfold iF;simp only[SV.exact,CV.exact,hu,bK,if_true]
theorem dM {e:TypeId} (hu:P.underlying t=some (.slice e)) (s:Nat) (z:List D) (zs:List (List D)):iF P .eql t x y (.c (.d (.lst s (z::zs)))) (.c (.d (.val (.slice none 0 0))))=some (Res.pure (vb false)):=by
 unfold iF;simp only[SV.exact,CV.exact,hu,bK,if_true]
theorem dN {e:TypeId} (hu:P.underlying t=some (.slice e)) (s:Nat) (z:List D) (zs:List (List D)):iF P .neq t x y (.c (.d (.lst s (z::zs)))) (.c (.d (.val (.slice none 0 0))))=some (Res.pure (vb true)):=by
 unfold iF;simp only[SV.exact,CV.exact,hu,bK,if_true]
theorem aMi {e:TypeId} (hu:P.underlying t=some (.slice e)) (a:Option Addr) (n c:Nat):cC P (Op.equal t (.slice a n c) (.slice none 0 0))=some a.isNone:=by
 unfold Op.equal;rw[show Op.maxDepth=9999+1 from rfl];unfold Op.equalIn
 rw[aQ,gI hu];cases a<;>rfl
theorem eG {e:TypeId} (hu:P.underlying t=some (.slice e)) (a:Option Addr) (n c:Nat):iF P .eql t x y (.c (.d (.val (.slice a n c)))) (.c (.d (.val (.slice none 0 0))))=some (Res.pure (vb a.isNone)) :=
 pY (op:=.eql) (vx:=.slice a n c) (vy:=.slice none 0 0) rfl (aMi hu a n c) (.inl ⟨rfl,rfl⟩)
theorem eH {e:TypeId} (hu:P.underlying t=some (.slice e)) (a:Option Addr) (n c:Nat):iF P .neq t x y (.c (.d (.val (.slice a n c)))) (.c (.d (.val (.slice none 0 0))))=some (Res.pure (vb (!a.isNone))) :=
 pY (op:=.neq) (vx:=.slice a n c) (vy:=.slice none 0 0) rfl (aMi hu a n c) (.inr ⟨rfl,rfl⟩)
theorem aQb {p:Bool}:sc P (Op.unary .not (.bool p))=some (Res.pure (vb (!p))):=rfl
theorem aQa:sc P (Op.unary .neg (.int k a))=some (Res.pure (vi k (k.wrap (0 - a)))):=rfl
theorem aNr {ts:Array TypeId} {ty:TypeId}:sc P (Builtin.max_ ts ty #[.int k a,.int k b])=some (Res.pure (vi k (if b > a then b else a))):=rfl
theorem aNt {ts:Array TypeId} {ty:TypeId}:sc P (Builtin.min_ ts ty #[.int k a,.int k b])=some (Res.pure (vi k (if b<a then b else a))):=rfl
end
theorem aT9 (b:Bool):(b == true)=b:=by cases b<;>rfl
theorem aT8 (b:Bool):(b == false) = !b:=by cases b<;>rfl
theorem aF {n:Int} (h : -9223372036854775808≤n∧n≤9223372036854775807):IntKind.i64.wrap n=n:=IntWalk.i64_in n h
theorem aMm (k:Nat):((k:Int)+1).toNat=k+1:=by omega
theorem aJ5 (k:Nat):((0:Int)≤(k:Int)+1)=True:=by simp;omega
end Go.Proofs.YtkmfmphpndhkjaaGreatDoor
namespace Go.Proofs.YtkmfmphpndhkjaaGreatDoor
open Go Go.RowKit
theorem Wp.condG {P:Program} {σ:St} {Q:Exit→St→Prop} {c:Operand} {x y:Code} (h:∀ K:SV→Prop,(Wp P x σ Q→K (vb true))→(Wp P y σ Q→K (vb false))→K (cI σ.env c)):Wp P (.cond c x y) σ Q :=
 h (fun v=>cI σ.env c=v→Wp P (.cond c x y) σ Q) (fun h1 e=>Wp.condT e h1) (fun h1 e=>Wp.condF e h1) rfl
def aQi:=PLift.up (ai (ai (ai (ai (ai (ai @aMj (ai @aMh @aJn)) (ai (ai @aJm @aKt) (ai @aKu @aOm))) (ai (ai (ai @aG0 @aIi) (ai @aNf @aKm)) (ai (ai @aKn @aNx) (ai @aNw @aN2)))) (ai (ai (ai @aNa (ai @aN8 @aN3)) (ai (ai @aN9 @aN7) (ai @aN6 @aN5))) (ai (ai (ai @aN4 @aM6) (ai @aMb @aMa)) (ai (ai @aM9 @aM8) (ai @aM7 @aQb))))) (ai (ai (ai (ai @aQa (ai @aNr @aNt)) (ai (ai @aNb @aFm) (ai @List.map_cons.{0,0} @List.map_nil.{0,0}))) (ai (ai (ai @List.append_nil.{0} @List.nil_append.{0}) (ai @List.cons_append.{0} @List.getElem?_cons_zero.{0})) (ai (ai @List.getElem?_cons_succ.{0} @List.getElem?_nil.{0}) (ai @List.lookup_cons.{0,0} @List.lookup_nil.{0,0})))) (ai (ai (ai (ai @List.take_succ_cons.{0} @List.drop_succ_cons.{0}) (ai @List.drop_zero.{0} @List.take_nil.{0})) (ai (ai @List.drop_nil.{0} @List.length_cons.{0}) (ai @List.length_nil.{0} @List.length_map.{0,0}))) (ai (ai (ai @List.all_cons.{0} @List.all_nil.{0}) (ai @List.flatMap_cons.{0,0} @List.flatMap_nil.{0,0})) (ai (ai @List.toList_toArray.{0} @List.reverse_cons.{0}) (ai @List.reverse_nil.{0} @List.contains_cons.{0})))))) (ai (ai (ai (ai (ai @List.contains_nil.{0} (ai @List.filterMap_cons.{0,0} @List.filterMap_nil.{0,0})) (ai (ai @Option.map_some.{0,0} @Option.map_none.{0,0}) (ai @Option.isSome_some.{0} @Option.isSome_none.{0}))) (ai (ai (ai @Option.getD_some.{0} @Option.getD_none.{0}) (ai @Bool.not_true @Bool.not_false)) (ai (ai @Bool.and_true @Bool.true_and) (ai @Bool.false_and @Bool.and_false)))) (ai (ai (ai (ai @Bool.or_true @Bool.true_or) (ai @Bool.or_false @Bool.false_or)) (ai (ai @Bool.and_eq_true @Bool.not_eq_true) (ai @Bool.true_eq_false @Bool.false_eq_true))) (ai (ai (ai @bne_iff_ne.{0} @beq_self_eq_true.{0}) (ai @beq_iff_eq.{0} @decide_true)) (ai (ai @decide_false @decide_eq_true_eq) (ai @decide_eq_false_iff_not @Nat.lt_irrefl))))) (ai (ai (ai (ai @Nat.le_refl (ai @Int.toNat_natCast @Int.natCast_nonneg)) (ai (ai @Nat.zero_add @Nat.add_zero) (ai @Nat.succ_ne_self @not_true_eq_false))) (ai (ai (ai @not_false_eq_true @true_and) (ai @and_true @false_and)) (ai (ai @and_false @and_self) (ai @or_true @true_or)))) (ai (ai (ai (ai @or_false @false_or) (ai @Nat.zero_lt_succ @Nat.lt_add_one)) (ai (ai @List.length_singleton.{0} @Nat.zero_le) (ai @Nat.sub_zero @Nat.sub_self))) (ai (ai (ai @aT9 @aT8) (ai @aF @List.getElem?_map.{0,0})) (ai (ai @Int.natCast_zero @Int.natCast_add) (ai @Int.natCast_one @List.take_zero.{0})))))))
theorem bZ:type_of% aQi.down:=aQi.down
set_option linter.unusedVariables false
set_option linter.unusedSimpArgs false
def Cap.ren (ρ:Nat→Nat):Cap→Cap
 | .d x=>.d x
 | .own id off=>.own (ρ id) off
def CV.ren (ρ:Nat→Nat):CV→CV
 | .any=>.any
 | .d x=>.d x
 | .own id off=>.own (ρ id) off
 | .app τ sz xs=>.app (ρ τ) sz xs
 | .full sz xs=>.full sz xs
 | .view id sz off len=>.view (ρ id) sz off len
 | .clo f caps=>.clo f (caps.map (Cap.ren ρ))
 | .bnd f caps=>.bnd f (caps.map (Cap.ren ρ))
 | .yld id=>.yld (ρ id)
 | .mt τ k=>.mt (ρ τ) k
 | .mpt τ k o=>.mpt (ρ τ) k o
 | .mp id=>.mp (ρ id)
 | .apt τ sz xs k=>.apt (ρ τ) sz xs k
def SV.ren (ρ:Nat→Nat):SV→SV
 | .c x=>.c (x.ren ρ)
 | .agg cs=>.agg (cs.map (CV.ren ρ))
def HE.ren (ρ:Nat→Nat):HE→HE
 | .cells cs=>.cells (cs.map (CV.ren ρ))
 | .froz ds=>.froz ds
 | .row e sz n=>.row e sz n
 | .obj o=>.obj o
 | .mrow e sz n cs=>.mrow e sz n (cs.map (CV.ren ρ))
 | .ob cs p=>.ob (cs.map (CV.ren ρ)) p
 | .rot e sz n=>.rot e sz n
def Hp.ren (ρ:Nat→Nat) (H:Hp):Hp:=fun i=>(H (ρ i)).map (HE.ren ρ)
def G.ren (ρ:Nat→Nat) (g:G):G:=⟨g.K,fun i=>g.β (ρ i),fun i=>g.cap (ρ i)⟩
theorem pV (ρ:Nat→Nat) (H:Hp) (i:Nat):iQ (H.ren ρ i)=iQ (H (ρ i)):=by
 unfold Hp.ren
 cases H (ρ i) with
 | none=>rfl
 | some he=>cases he<;>rfl
theorem aC5 {ρ:Nat→Nat} (hρ:∀ i,ρ (ρ i)=i) {g:G} {H:Hp} {id off:Nat} {v:Value} (r:bG g H (.own id off) v):bG (g.ren ρ) (H.ren ρ) (.own (ρ id) off) v:=by
 obtain⟨b,hb,rfl,hr⟩:=r
 exact⟨b,by show g.β (ρ (ρ id))=_;rw[hρ];exact hb,rfl,by rw[pV,hρ];exact hr⟩
theorem mX {ρ:Nat→Nat} (hρ:∀ i,ρ (ρ i)=i) {g:G} {H:Hp} {x:CV} {v:Value} (r:bG g H x v):bG (g.ren ρ) (H.ren ρ) (x.ren ρ) v:=by
 cases x with
 | any=>trivial
 | d x=>exact r
 | full sz xs=>exact r
 | own id off=>exact aC5 hρ r
 | app τ sz xs =>
  obtain⟨h1,e,n,hrow,hl,hf⟩:=r
  refine⟨h1,e,n,by show Hp.ren ρ H (ρ τ)=_;unfold Hp.ren;rw[hρ,hrow];rfl,hl,fun hn=>?_⟩
  rcases hf hn with h|⟨b,hb,hv⟩
  ·exact .inl h
  ·exact .inr ⟨b,by show g.β (ρ (ρ τ))=_;rw[hρ];exact hb,by show _=Value.slice _ _ (g.cap (ρ (ρ τ)));rw[hρ];exact hv⟩
 | view id sz off len =>
  obtain⟨b,c,hb,rfl,hc,hr⟩:=r
  exact⟨b,c,by show g.β (ρ (ρ id))=_;rw[hρ];exact hb,rfl,hc,by rw[pV,hρ];exact hr⟩
 | clo f caps =>
  obtain⟨vs,hv,hl,hc⟩:=r
  refine⟨vs,hv,by simpa using hl,fun j c u hj hu=>?_⟩
  simp only[List.getElem?_map,Option.map_eq_some_iff] at hj
  obtain⟨c0,hj0,rfl⟩:=hj
  have:=hc j c0 u hj0 hu
  cases c0 with
  | d x=>exact this
  | own id off=>exact aC5 hρ this
 | bnd f caps =>
  obtain⟨vs,hv,hl,hc⟩:=r
  refine⟨vs,hv,by simpa using hl,fun j c u hj hu=>?_⟩
  simp only[List.getElem?_map,Option.map_eq_some_iff] at hj
  obtain⟨c0,hj0,rfl⟩:=hj
  have:=hc j c0 u hj0 hu
  cases c0 with
  | d x=>exact this
  | own id off=>exact aC5 hρ this
 | mp id =>
  obtain⟨b,hb,hv,hr⟩:=r
  exact⟨b,by show g.β (ρ (ρ id))=_;rw[hρ];exact hb,hv,by rw[pV,hρ];exact hr⟩
 | apt τ sz xs k=>exact qL (by exact jH.refl _) r (fun e n q=>by show Hp.ren ρ H (ρ τ)=_;unfold Hp.ren;rw[hρ,q];rfl) (by show g.β (ρ (ρ τ))=_;rw[hρ]) (by show g.cap (ρ (ρ τ))=_;rw[hρ])
 | mt τ k=>exact tY r (fun e sz n cs q=>⟨cs.map (CV.ren ρ),by show Hp.ren ρ H (ρ τ)=_;unfold Hp.ren;rw[hρ,q];rfl,by simp⟩) (by show g.β (ρ (ρ τ))=_;rw[hρ]) (by show g.cap (ρ (ρ τ))=_;rw[hρ])
 | mpt τ k o=>exact tW r (fun e sz n cs q=>⟨cs.map (CV.ren ρ),by show Hp.ren ρ H (ρ τ)=_;unfold Hp.ren;rw[hρ,q];rfl,by simp⟩) (by show g.β (ρ (ρ τ))=_;rw[hρ])
 | yld id =>
  obtain⟨b,hb,hv,hr⟩:=r
  exact⟨b,by show g.β (ρ (ρ id))=_;rw[hρ];exact hb,hv,by rw[pV,hρ];exact hr⟩
theorem nP {ρ:Nat→Nat} (hρ:∀ i,ρ (ρ i)=i) {g:G} {H:Hp} {cs:List CV} {vs:List Value} (r:dX g H cs vs):dX (g.ren ρ) (H.ren ρ) (cs.map (CV.ren ρ)) vs :=
 ⟨by simpa using r.1,fun j x v hx hv=>by
  simp only[List.getElem?_map,Option.map_eq_some_iff] at hx
  obtain⟨x0,hx0,rfl⟩:=hx
  exact mX hρ (r.2 j x0 v hx0 hv)⟩
theorem aQ2 {ρ:Nat→Nat} {x:CV} (h:∀ i ∈ x.ids,False):x.ren ρ=x:=by
 cases x with
 | own id off=>exact (h id (by simp[CV.ids])).elim
 | app τ sz xs=>exact (h τ (by simp[CV.ids])).elim
 | view id sz off len=>exact (h id (by simp[CV.ids])).elim
 | yld id=>exact (h id (by simp[CV.ids])).elim
 | mt τ k=>exact (h τ (by simp[CV.ids])).elim
 | apt τ sz xs k=>exact (h τ (by simp[CV.ids])).elim
 | mpt τ k o=>exact (h τ (by simp[CV.ids])).elim
 | mp id=>exact (h id (by simp[CV.ids])).elim
 | clo f caps =>
  show CV.clo f (caps.map (Cap.ren ρ))=_
  congr 1
  conv=>rhs;rw[← List.map_id caps]
  apply List.map_congr_left
  intro c hc
  cases c with
  | d x=>rfl
  | own id off=>exact (h id (by simp only[CV.ids,List.mem_flatMap];exact⟨_,hc,by simp[Cap.ids]⟩)).elim
 | bnd f caps =>
  show CV.bnd f (caps.map (Cap.ren ρ))=_
  congr 1
  conv=>rhs;rw[← List.map_id caps]
  apply List.map_congr_left
  intro c hc
  cases c with
  | d x=>rfl
  | own id off=>exact (h id (by simp only[CV.ids,List.mem_flatMap];exact⟨_,hc,by simp[Cap.ids]⟩)).elim
 | _=>rfl
theorem aEd {ρ:Nat→Nat} (hρ:∀ i,ρ (ρ i)=i) {g:G} {H:Hp} {w:World} {i e sz n:Nat} {cs:List CV} (h:iJ g H w (ρ i) (.mrow e sz n cs)):iJ (g.ren ρ) (H.ren ρ) w i (.mrow e sz n (cs.map (CV.ren ρ))):=by
 obtain⟨h1,h2,h3⟩:=h
 refine⟨h1,by rw[List.length_map];exact h2,?_⟩
 rcases h3 with ⟨h4,h5⟩|⟨b,cur,vs,rest,h4,h5,h6,h7,h8,h9,h10⟩
 ·exact .inl ⟨h4,by rw[h5];rfl⟩
 ·exact .inr ⟨b,cur,vs,rest,h4,h5,h6,h7,nP hρ h8,h9,h10⟩
theorem aL7 {ρ:Nat→Nat} (hρ:∀ i,ρ (ρ i)=i) {g:G} {H:Hp} {w:World} {i:Nat} {cs:List CV} {p:List Value→Obj→Prop} (h:iJ g H w (ρ i) (.ob cs p)):iJ (g.ren ρ) (H.ren ρ) w i (.ob (cs.map (CV.ren ρ)) p):=by
 obtain⟨b,vs,o,h4,h5,h8,h9,h10⟩:=h
 exact⟨b,vs,o,h4,h5,nP hρ h8,h9,h10⟩
theorem aD.ren {σ:St} (ρ:Nat→Nat) (hρ:∀ i,ρ (ρ i)=i) (hfx:σ.fx.lent=[]∧σ.fx.dfs=[]):aD σ ⟨fun t=>(σ.env t).ren ρ,σ.H.ren ρ,σ.nx,σ.sz,σ.fx⟩:=by
 intro W0 K0 g a w r
 have hln:W0.ln=[]:=r.ln.trans hfx.1
 refine⟨g.ren ρ,⟨r.mem.below,r.mem.ext,r.mem.kw,fun i he hi=>?_,fun i b hi=>r.mem.base _ b hi,fun i hi=>?_,fun i j b hi hj=>?_,fun i b hi=>r.mem.frozlt _ b hi,r.mem.glob,fun x v hx h=>?_⟩,fun t=>?_,r.size,?_,r.ln,r.rd,r.nodup,r.lt⟩
 ·have hi:(σ.H (ρ i)).map (HE.ren ρ)=some he:=hi
  cases hq:σ.H (ρ i) with
  | none=>rw[hq] at hi;cases hi
  | some he0 =>
   rw[hq] at hi
   have hi:he0.ren ρ=he:=by simpa using hi
   subst hi
   have:=r.mem.holds (ρ i) he0 hq
   cases he0 with
   | cells cs =>
    obtain⟨b,vs,t,h1,h2,h3,h4,h5⟩:=this
    exact⟨b,vs,t,h1,h2,nP hρ h3,h4,h5⟩
   | froz ds=>exact this
   | row e sz n=>exact this
   | mrow e sz n cs=>exact aEd hρ this
   | rot e sz n=>exact this
   | ob cs p=>exact aL7 hρ this
   | obj o=>exact this
 ·have hi:(σ.H (ρ i)).map (HE.ren ρ)=none:=hi
  cases hq:σ.H (ρ i) with
  | none=>exact r.mem.dom _ hq
  | some he0=>rw[hq] at hi;cases hi
 ·have:=r.mem.sep (ρ i) (ρ j) b hi hj
  rw[← hρ i,← hρ j,this]
 ·have h0:∀ i ∈ x.ids,False:=fun i hi=>by have:=hx i hi;rw[hln] at this;cases this
  have:=mX hρ (r.mem.lent x v hx h)
  rwa [aQ2 h0] at this
 ·have:=r.env t
  show bB _ _ ((σ.env t).ren ρ) _
  cases hs:σ.env t with
  | c x=>rw[hs] at this;exact mX hρ this
  | agg cs =>
   rw[hs] at this
   obtain⟨vs,hv,hr,h1⟩:=this
   exact⟨vs,hv,nP hρ hr,h1⟩
 ·have:=r.defers
  show dB _ _ σ.fx.dfs a.defers
  rw[hfx.2] at this ⊢
  cases hq:a.defers with
  | nil=>trivial
  | cons x y=>rw[hq] at this;exact this.elim
theorem aD.cellAtH {σ:St} {id k:Nat} {cs:List CV} {x y:CV} (hid:σ.H id=some (.cells cs)) (hk:cs[k]? = some x) (hxy:∀ F K0 g w v,RelH F K0 g σ.H w→bG g σ.H x v→bG g σ.H y v):aD σ { σ with H:=upd σ.H id (some (.cells (cs.set k y))) }:=by
 intro W0 K0 g a w r
 obtain⟨b,vs,t,hb,hheap,hr,h1,hn⟩:=r.mem.holds id _ hid
 have hr' : dX g σ.H (cs.set k y) vs:=by
  refine⟨by simp[hr.1],fun j z v hz hv=>?_⟩
  rw[List.getElem?_set] at hz
  split at hz
  ·rename_i e
   subst e
   split at hz
   ·cases hz;exact hxy _ _ g w v r.mem (hr.2 k x v hk hv)
   ·cases hz
  ·exact hr.2 j z v hz hv
 have hle:fS g σ.H g (upd σ.H id (some (.cells (cs.set k y)))):=fS.box (by rw[hid];rfl) rfl
 refine⟨g,⟨r.mem.below,r.mem.ext,r.mem.kw,fun i he hi=>?_,r.mem.base,fun i hi=>?_,r.mem.sep,r.mem.frozlt,r.mem.glob,r.mem.lent.trans hle⟩,fun t=>(r.env t).mono hle,r.size,r.defers.mono hle (fun i o hi=>by rw[show (upd σ.H id (some (.cells (cs.set k y)))) i=σ.H i from aB _ _ (fun e=>by subst e;rw[hid] at hi;cases hi)];exact hi),r.ln,r.rd,r.nodup,r.lt⟩
 ·have hi:upd σ.H id (some (HE.cells (cs.set k y))) i=some he:=hi
  by_cases hne:i=id
  ·subst hne
   rw[aC] at hi;cases hi
   exact⟨b,vs,t,hb,hheap,hr'.mono hle,h1,hn⟩
  ·rw[aB _ _ hne] at hi
   have:=r.mem.holds i he hi
   cases he with
   | cells cs =>
    obtain⟨b,vs,t,h1,h2,h3,h4⟩:=this
    exact⟨b,vs,t,h1,h2,h3.mono hle,h4⟩
   | obj o=>exact this
   | froz ds=>exact this
   | mrow e2 s2 n2 cs2=>exact dC this rfl rfl (fun _ _ _ q=>q) hle (fun _ _ _ q _=>q)
   | rot e2 s2 n2=>exact cR this rfl rfl (fun _ _ _ q=>q) (fun _ _ _ q _=>q)
   | ob cs2 p=>exact eP this rfl rfl (fun _ _ _ q=>q) hle (fun _ _ _ q _=>q)
   | row e s n=>exact this
 ·have hi:upd σ.H id (some (HE.cells (cs.set k y))) i=none:=hi
  by_cases hne:i=id
  ·subst hne;rw[aC] at hi;cases hi
  ·rw[aB _ _ hne] at hi;exact r.mem.dom i hi
theorem aF5 {F:Fr} {K0:aU} {g:G} {H:Hp} {w:World} {B sz n:Nat} {ds:List D} {v:Value} (hm:RelH F K0 g H w) (hB:H B=some (.froz ds)) (hl:ds.length=n*sz) (r:bG g H (.view B sz 0 n) v):bG g H (.d (.lst sz (gV sz n ds))) v:=by
 obtain⟨b,c,hb,rfl,hc,_⟩:=r
 obtain⟨b',vs,hb',hr,h1,hk⟩:=hm.holds B _ hB
 rw[hb] at hb';cases hb'
 obtain⟨h2,h3,h4⟩:=lW sz n ds hl
 have:=Rep.lst (K:=g.K) (sz:=sz) (xs:=gV sz n ds) (vs:=vs) (a:=some ⟨b,0,none⟩) (c:=c) h4 (by omega) (by rw[h2];exact hr.1) (by rw[h2];exact hr.2) h1
  (fun _=>⟨b,0,rfl,fun j v hj=>by rw[Nat.zero_add];exact hk j v hj⟩)
 rw[h3] at this
 exact this
theorem aD.viewCell {σ:St} {A B k sz n:Nat} {cs:List CV} {ds:List D} (hA:σ.H A=some (.cells cs)) (hk:cs[k]? = some (.view B sz 0 n)) (hB:σ.H B=some (.froz ds)) (hl:ds.length=n*sz) :
  aD σ { σ with H:=upd σ.H A (some (.cells (cs.set k (.d (.lst sz (gV sz n ds)))))) } :=
 aD.cellAtH hA hk (fun _ _ _ _ _ hm r=>aF5 hm hB hl r)
theorem aA1:∀ (n:Nat) (ds:List D),ds.length=n→gV 1 n ds=ds.map fun d=>[d]
 | 0,ds,h=>by have:ds=[]:=List.eq_nil_of_length_eq_zero h;subst this;rfl
 | n+1,d::ds,h=>by
  have:=aA1 n ds (by simpa using h)
  simp only[gV,List.take_succ_cons,List.take_zero,List.drop_succ_cons,List.drop_zero,List.map_cons,this]
end Go.Proofs.YtkmfmphpndhkjaaGreatDoor
