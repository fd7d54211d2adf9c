/- The abstract machine (BfU, BfLf0). -/
import Derived.Test.YtpklhnpchhaccaaGreatDoorBfT
import Derived.Test.YtpklhnpchhaccaaGreatDoorBfMf
namespace Go.Proofs.YtpklhnpchhaccaaGreatDoor
open Go Go.RowKit
set_option maxHeartbeats 4000000
set_option maxRecDepth 100000
set_option linter.unusedVariables false
set_option linter.unusedSimpArgs false
theorem aC7 (l:List ProdD) (h:gH l=true):l.length≤8:=by
 have key:∀ (l:List ProdD) (b:Int),0≤b→jB l b=true→b≤8→(l.length:Int)≤8 - b:=by
  intro l
  induction l with
  | nil=>intro b _ _ h;simp;omega
  | cons x l ih =>
   intro b h0 hr hb
   rw[jB,Bool.and_eq_true] at hr
   have h1:=hr.1
   simp only[Bool.not_eq_true',Bool.or_eq_false_iff,decide_eq_false_iff_not,Bool.not_eq_false'] at h1
   obtain⟨h2,h3⟩:=h1
   unfold bB at h3
   rw[Bool.and_eq_true] at h3
   have h4:=h3.1
   unfold fB at h4
   simp only[Bool.not_eq_true',Bool.or_eq_false_iff,Bool.not_eq_false'] at h4
   have h5:=h4.1.1
   unfold gY at h5
   simp only[Bool.and_eq_true,decide_eq_true_eq] at h5
   have:=ih x.pid (by omega) hr.2 (by omega)
   rw[List.length_cons]
   omega
 have:=key l 0 (by omega) h (by omega)
 omega
theorem tL {p q:PartD} {b:BatD} (h:aE8 p b=some q):q.fin=p.fin∧q.start=p.start∧q.rows=p.rows:=by
 unfold aE8 at h
 split at h
 ·cases h
 split at h
 rotate_left
 ·cases h
 rename_i u hu
 cases h
 unfold aKh at hu
 split at hu
 ·split at hu
  ·cases hu
  ·cases hu;exact⟨rfl,rfl,rfl⟩
 ·cases hu;exact⟨rfl,rfl,rfl⟩
theorem aFx {p q:PartD} {x:SideD} {y:EntD} (hf:0≤p.fin∧p.fin≤1048576):nH x p y=some q ↔ oC x y=false∧bO p y=some q:=by
 have hd:=aNw p y.b hf
 unfold nH
 cases hb:oC x y with
 | true=>rw[if_pos rfl];exact⟨fun h=>by (cases h),fun h=>by (cases h.1)⟩
 | false =>
  rw[if_neg Bool.false_ne_true]
  have hb2:=hb
  unfold oC at hb2
  simp only[Bool.or_eq_false_iff,Bool.not_eq_false',bne_eq_false_iff_eq] at hb2
  obtain⟨ho,hk,ht,_⟩:=hb2
  rw[ht,if_pos rfl] at hd
  rw[tK ho hk,← hd]
  constructor
  ·intro h
   refine⟨rfl,?_⟩
   rw[h]
   dsimp only
   have:=(tL h).1
   rw[if_neg (by omega)]
  ·rintro⟨_,h⟩
   cases ht2:aE8 p y.b with
   | none=>rw[ht2] at h;cases h
   | some u =>
    rw[ht2] at h
    dsimp only at h
    split at h
    ·cases h
    ·exact h
theorem qQ (x:SideD):∀ (l:List EntD) (p q:PartD),0≤p.fin∧p.fin≤1048576→(dY x p l=(true,q) ↔ (∀ y ∈ l,oC x y=false)∧eS p l=some q)
 | [],p,q,_=>by
  constructor
  ·intro h;cases h;exact⟨fun y hy=>by (cases hy),rfl⟩
  ·rintro⟨_,h⟩;cases h;rfl
 | y::l,p,q,hf=>by
  have e1:dY x p (y::l)=match nH x p y with|none=>(false,p)|some u=>dY x u l:=rfl
  have e2:eS p (y::l)=match bO p y with|some u=>eS u l|none=>none:=rfl
  rw[e1,e2]
  constructor
  ·intro h
   cases ht:nH x p y with
   | none=>rw[ht] at h;cases h
   | some u =>
    rw[ht] at h
    obtain⟨h1,h2⟩:=(aFx hf).1 ht
    have hfu:u.fin=p.fin:=by
     unfold nH at ht
     rw[h1,if_neg Bool.false_ne_true] at ht
     exact (tL ht).1
    obtain⟨h3,h4⟩:=(qQ x l u q (by omega)).1 h
    rw[h2]
    refine⟨fun z hz=>?_,h4⟩
    rcases List.mem_cons.1 hz with rfl|hz
    ·exact h1
    ·exact h3 z hz
  ·rintro⟨h1,h2⟩
   cases hs:bO p y with
   | none=>rw[hs] at h2;cases h2
   | some u =>
    rw[hs] at h2
    have ht:=(aFx (x:=x) hf).2 ⟨h1 y (List.mem_cons_self ..),hs⟩
    have hfu:u.fin=p.fin:=by
     have ht2:=ht
     unfold nH at ht2
     rw[h1 y (List.mem_cons_self ..),if_neg Bool.false_ne_true] at ht2
     exact (tL ht2).1
    rw[ht]
    exact (qQ x l u q (by omega)).2 ⟨fun z hz=>h1 z (List.mem_cons_of_mem _ hz),h2⟩
theorem uV (x:SideD):∀ (l:List EntD) (p:PartD),(dY x p l).2.fin=p.fin∧(dY x p l).2.start=p.start∧(dY x p l).2.rows=p.rows
 | [],p=>⟨rfl,rfl,rfl⟩
 | y::l,p=>by
  have e1:dY x p (y::l)=match nH x p y with|none=>(false,p)|some u=>dY x u l:=rfl
  rw[e1]
  cases ht:nH x p y with
  | none=>exact⟨rfl,rfl,rfl⟩
  | some u =>
   unfold nH at ht
   split at ht
   ·cases ht
   obtain⟨h1,h2,h3⟩:=tL ht
   obtain⟨g1,g2,g3⟩:=uV x l u
   exact⟨g1.trans h1,g2.trans h2,g3.trans h3⟩
theorem aD5 (all:List SideD):∀ (l:List SideD) (u t:RefS) (k:Nat),0≤u.p.fin∧u.p.fin≤1048576→lR all u k l=some t →
  eS u.p (l.flatMap (·.l))=some t.p∧t.w=u.w∧t.p.fin=u.p.fin∧t.p.start=u.p.start∧t.p.rows=u.p.rows∧(l.flatMap (·.l)).length≤8*l.length
 | [],u,t,k,_,h=>by cases h;exact⟨rfl,rfl,rfl,rfl,rfl,Nat.le_refl _⟩
 | x::l,u,t,k,hf,h=>by
  have h:(if aL all k=false then none else if (lK u x).1=false then none else lR all (lK u x).2 (k+1) l)=some t:=h
  split at h
  ·cases h
  split at h
  ·cases h
  rename_i h2
  have hx:¬ (x.l.length=0∨8<x.l.length):=fun hx=>h2 (by unfold lK;rw[if_pos hx])
  have e2:lK u x=((dY x u.p x.l).1,⟨(dY x u.p x.l).2,u.w,u.v⟩):=by unfold lK;rw[if_neg hx]
  rw[e2] at h h2
  dsimp only at h h2
  have h2:(dY x u.p x.l).1=true:=by simpa using h2
  obtain⟨f1,f2,f3⟩:=uV x x.l u.p
  obtain⟨r1,r2⟩:=(qQ x x.l u.p (dY x u.p x.l).2 hf).1 (Prod.ext h2 rfl)
  obtain⟨g1,g2,g3,g4,g5,g6⟩:=aD5 all l _ t (k+1) (by dsimp only;omega) h
  refine⟨?_,g2,g3.trans f1,g4.trans f2,g5.trans f3,?_⟩
  ·rw[List.flatMap_cons,kL,r2];exact g1
  ·rw[List.flatMap_cons,List.length_append,List.length_cons];omega
theorem aF1 {main:List EntD} {sides:List SideD} {t:RefS} (h:iT main sides=some t) (hm:main.length≤200) (hs:sides.length≤20):∃ s,eL ref0 main=some s∧LogI main.length s∧lR sides s 0 sides=some t∧t.w.all (nK t.p)=true ∧
  FOkM 200 t.p∧BOk t.p∧t.p.rows.length≤800∧GapI t.p:=by
 unfold iT at h
 cases hl:eL ref0 main with
 | none=>rw[hl] at h;cases h
 | some s =>
  rw[hl] at h
  dsimp only at h
  cases hr:lR sides s 0 sides with
  | none=>rw[hr] at h;cases h
  | some u =>
   rw[hr] at h
   dsimp only at h
   split at h
   rotate_left
   ·cases h
   rename_i hw
   cases h
   have hI:=wB main 0 ref0 s aBy hl
   rw[Nat.zero_add] at hI
   have hfin:=aH8 main ref0 s hl
   have hfin:s.p.fin+(oH s.w:Nat)≤4*(main.length:Int):=by
    have e:(ref0.p.fin:Int)+(oH ref0.w:Nat)=0:=rfl
    omega
   have hsf:=hI.ri.sf
   have hgl:=hI.gap.len
   obtain⟨g1,g2,g3,g4,g5,g6⟩:=aD5 sides sides s t 0 hI.f.fin hr
   have hM0:FOkM 200 s.p:=⟨⟨⟨fun o ho=>(by rw[hI.f.opens] at ho;cases ho),by rw[hI.f.opens];exact List.Pairwise.nil⟩,hI.f.fin,by omega,by have:=aC7 _ hI.may;omega,hI.f.seen,by rw[hI.f.opens];exact Nat.zero_le _,fun o ho=>(by rw[hI.f.opens] at ho;cases ho),fun o ho=>(by rw[hI.f.opens] at ho;cases ho)⟩,hI.may⟩
   have hB0:BOk s.p:=⟨hI.rok,fun o ho=>(by rw[hI.f.opens] at ho;cases ho)⟩
   have hM:=vY _ _ _ _ hM0 g1
   have hB:=aBk _ _ _ _ hM0 hB0 g1
   have hrl:t.p.rows.length≤800:=by rw[g5];omega
   refine⟨s,rfl,hI,hr,hw,⟨⟨hM.ok,hM.fin,by omega,by have:=aC7 _ hM.may;omega,hM.seen,by have:=hM.ok.len8;omega,hM.bats,hM.recs⟩,hM.may⟩,hB,hrl,?_⟩
   exact⟨fun i r hr=>by rw[g5] at hr;rw[g4];exact hI.gap.at_ i r hr,by rw[g5,g3,g4];exact hI.gap.len⟩
/-! the log of a part,and its side files -/
def eH (p:PartD):List EntD:=p.rows.map pI++p.prods.map (fun q=>nZ (dF p.opens q))
def bZ (o:OpenD):SideD:=⟨o.pid,o.bats.map dZ⟩
theorem qI (p:PartD):tN p=eH p++(p.opens.map bZ).flatMap (·.l):=by
 unfold tN eH
 rw[List.flatMap_map];rfl
theorem aJz:∀ (l:List EntD) (s:RefS) (u:PartD),FOkM 0 s.p∨(0≤s.p.fin∧s.p.fin≤1048576∧gH s.p.prods=true)→(∀ e ∈ l,e.kind=5∨e.kind=6)→eS s.p l=some u→eL s l=some ⟨u,s.w,s.v⟩
 | [],s,u,_,_,h=>by cases h;rfl
 | e::l,s,u,hf,hk,h=>by
  have hf:0≤s.p.fin∧s.p.fin≤1048576∧gH s.p.prods=true:=by
   rcases hf with hf|hf
   ·exact⟨hf.fin.1,hf.fin.2,hf.may⟩
   ·exact hf
  have h:(match bO s.p e with|some q=>eS q l|none=>none)=some u:=h
  cases hs:bO s.p e with
  | none=>rw[hs] at h;cases h
  | some q =>
   rw[hs] at h
   have ho:=yR hs
   have hke:=hk e (List.mem_cons_self ..)
   have hmq:=aKz ⟨hf.1,hf.2.1⟩ hf.2.2 hs
   rw[← aX9 s.p e ⟨hf.1,hf.2.1⟩ hf.2.2] at hs
   unfold aUf at hs
   rw[ho,if_neg (by simp)] at hs
   have hn:aO7 s.p e=iP s.p e:=by
    unfold aO7;rw[if_neg (by omega),if_neg (by omega)]
   rw[hn] at hs
   cases hb:iP s.p e with
   | none=>rw[hb] at hs;cases hs
   | some v =>
    rw[hb] at hs
    dsimp only at hs
    split at hs
    ·cases hs
    rename_i hv
    cases hs
    have hst:aZ s e=some ⟨q,s.w,s.v⟩:=by
     have hnh:jP s e=(true,⟨q,s.w,s.v⟩):=by
      unfold jP;rw[if_neg (by omega),if_neg (by omega),if_neg (by omega),hb]
     unfold aZ
     rw[ho,if_neg (by simp),hnh,if_neg (by simp),if_neg hv]
    have hq0:0≤q.fin:=by
     unfold iP at hb
     rw[if_neg (by omega)] at hb
     split at hb
     ·cases hb;show 0≤s.p.fin+1;omega
     ·split at hb
      ·split at hb
       ·cases hb
       ·cases hb;exact hf.1
      ·cases hb
    show (match aZ s e with|none=>none|some t=>eL t l)=_
    rw[hst]
    exact aJz l ⟨q,s.w,s.v⟩ u (.inr ⟨hq0,by dsimp only;omega,hmq⟩) (fun x hx=>hk x (List.mem_cons_of_mem _ hx)) h
theorem aR4 {q:ProdD} {o:OpenD} (hl:Link q o) (y:EntD) (hy:y ∈ (bZ o).l):oC (bZ o) y=false:=by
 obtain⟨b,hb,rfl⟩:=List.mem_map.1 hy
 obtain⟨h1,h2,h3,h4⟩:=hl.bats b hb
 unfold oC
 rw[uN h1]
 cases hbs:o.bats with
 | nil=>rw[hbs] at hb;cases hb
 | cons c rest =>
  have hc:=(hl.bats c (by rw[hbs];exact List.mem_cons_self ..)).2.2.2
  simp only[bZ,hbs,List.map_cons]
  simp[dZ,h2,h3,h4,hc]
theorem aAv (all:List SideD):∀ (l:List OpenD) (u:RefS) (q:PartD) (k:Nat),all.drop k=l.map bZ→(∀ j,j<all.length→aL all j=true)→(∀ o ∈ l,∃ q,Link q o)→(∀ o ∈ l,o.bats.length≤8) →
  0≤u.p.fin∧u.p.fin≤1048576→eS u.p ((l.map bZ).flatMap (·.l))=some q→lR all u k (l.map bZ)=some ⟨q,u.w,u.v⟩
 | [],u,q,k,_,_,_,_,_,h=>by cases h;rfl
 | o::l,u,q,k,hd,hr,hl,h8,hf,h=>by
  rw[List.map_cons,List.flatMap_cons,kL] at h
  cases hs:eS u.p (bZ o).l with
  | none=>rw[hs] at h;cases h
  | some v =>
   rw[hs] at h
   obtain⟨p0,hlk⟩:=hl o (List.mem_cons_self ..)
   have hkl:k<all.length:=by
    have:=congrArg List.length hd
    rw[List.length_drop,List.map_cons,List.length_cons] at this
    omega
   have hd2:all.drop (k+1)=l.map bZ:=by rw[← List.drop_drop,hd];rfl
   have hlen:¬ ((bZ o).l.length=0∨8<(bZ o).l.length):=by
    have h1:=h8 o (List.mem_cons_self ..)
    have h2:0<o.bats.length:=List.length_pos_iff.2 hlk.some
    have e:(bZ o).l.length=o.bats.length:=by unfold bZ;rw[List.length_map]
    omega
   have hsr:=(qQ (bZ o) (bZ o).l u.p v hf).2 ⟨fun y hy=>aR4 hlk y hy,hs⟩
   have hfv:=(uV (bZ o) (bZ o).l u.p).1
   rw[hsr] at hfv
   have hss:lK u (bZ o)=(true,⟨v,u.w,u.v⟩):=by unfold lK;rw[if_neg hlen,hsr]
   show (if aL all k=false then none else if (lK u (bZ o)).1=false then none else lR all (lK u (bZ o)).2 (k+1) (l.map bZ))=_
   rw[hr k hkl,if_neg (by simp),hss,if_neg (by simp)]
   exact aAv all l ⟨v,u.w,u.v⟩ q (k+1) hd2 hr (fun x hx=>hl x (List.mem_cons_of_mem _ hx)) (fun x hx=>h8 x (List.mem_cons_of_mem _ hx)) (by dsimp only at hfv ⊢;omega) h
theorem aR6 {l:List OpenD} (h:l.Pairwise (fun a b=>a.pid<b.pid)) (j:Nat) (hj:j<(l.map bZ).length):aL (l.map bZ) j=true:=by
 rw[List.length_map] at hj
 cases j with
 | zero=>rfl
 | succ j =>
  unfold aL
  rw[Nat.add_sub_cancel,List.getElem?_map,List.getElem?_map,List.getElem?_eq_getElem hj,List.getElem?_eq_getElem (show j<l.length by omega)]
  exact decide_eq_true (List.pairwise_iff_getElem.1 h j (j+1) (by omega) hj (by omega))
theorem aXy {p:PartD} (hM:FOkM 200 p) (hB:BOk p):∃ t,iT (eH p) (p.opens.map bZ)=some t∧t.p=lB p:=by
 have hlog:=aJu hM hB (Nat.le_refl _)
 rw[qI,kL] at hlog
 cases hm:eS pZ (eH p) with
 | none=>rw[hm] at hlog;cases hlog
 | some u =>
  rw[hm] at hlog
  dsimp only at hlog
  have h1:=aJz (eH p) ref0 u (.inr ⟨by decide,by decide,rfl⟩) (fun e he=>by
   unfold eH at he
   rcases List.mem_append.1 he with he|he
   ·obtain⟨r,_,rfl⟩:=List.mem_map.1 he;exact .inl rfl
   ·obtain⟨r,_,rfl⟩:=List.mem_map.1 he;exact .inr rfl) hm
  have hMu:=vY (eH p) 0 pZ u aSb hm
  have h2:=aAv (p.opens.map bZ) p.opens ⟨u,[],0⟩ (lB p) 0 rfl (fun j hj=>aR6 hM.ok.rise j hj) (fun o ho=>by obtain⟨q,_,hl⟩:=hB.link o ho;exact⟨q,hl⟩) hM.bats hMu.fin hlog
  refine⟨⟨lB p,[],0⟩,?_,rfl⟩
  unfold iT
  rw[h1]
  show (match lR (p.opens.map bZ) ⟨u,[],0⟩ 0 (p.opens.map bZ) with
   | none=>none
   | some t=>if t.w.all (nK t.p) then some t else none)=_
  rw[h2]
  rfl
theorem aQg (p:PartD):eH (lB p)=eH p:=by
 unfold eH lB
 simp only[aFu]
set_option maxHeartbeats 16000000
theorem wV (l:List EntD) (s:List SideD):r14 (iT l s)=(a14 l s,e14 l s):=by
 have h:=aVb l s (fun u hu=>by
  have hI:=wB l 0 ref0 u aBy hu
  exact⟨hI.ow.nd,hI.f.opens⟩)
 unfold a14 e14
 rw[h]
 cases iT l s<;>rfl
end Go.Proofs.YtpklhnpchhaccaaGreatDoor
