/- The abstract machine (BfU, BfLf0). -/
import Derived.Test.YtpklhnpchhaccaaGreatDoorBfT
import Derived.Test.YtpklhnpchhaccaaGreatDoorBfMf
namespace Go.Proofs.YtpklhnpchhaccaaGreatDoor
open Go Go.RowKit
set_option maxHeartbeats 4000000
set_option maxRecDepth 100000
set_option linter.unusedVariables false
set_option linter.unusedSimpArgs false
theorem aJ3 (l:List ProdD) (h:iQ l=true):l.length≤8:=by
 have key:∀ (l:List ProdD) (b:Int),0≤b→lI l b=true→b≤8→(l.length:Int)≤8 - b:=by
  intro l
  induction l with
  | nil=>intro b _ _ h;simp;omega
  | cons x l ih =>
   intro b h0 hr hb
   rw[lI,Bool.and_eq_true] at hr
   have h1:=hr.1
   simp only[Bool.not_eq_true',Bool.or_eq_false_iff,decide_eq_false_iff_not,Bool.not_eq_false'] at h1
   obtain⟨h2,h3⟩:=h1
   unfold bC at h3
   rw[Bool.and_eq_true] at h3
   have h4:=h3.1
   unfold cW at h4
   simp only[Bool.not_eq_true',Bool.or_eq_false_iff,Bool.not_eq_false'] at h4
   have h5:=h4.1.1
   unfold dN at h5
   simp only[Bool.and_eq_true,decide_eq_true_eq] at h5
   have:=ih x.pid (by omega) hr.2 (by omega)
   rw[List.length_cons]
   omega
 have:=key l 0 (by omega) h (by omega)
 omega
theorem sV {p q:PartD} {b:BatD} (h:uJ p b=some q):q.fin=p.fin∧q.start=p.start∧q.rows=p.rows:=by
 unfold uJ at h
 split at h
 ·cases h
 split at h
 rotate_left
 ·cases h
 rename_i u hu
 cases h
 unfold xJ at hu
 split at hu
 ·split at hu
  ·cases hu
  ·cases hu;exact⟨rfl,rfl,rfl⟩
 ·cases hu;exact⟨rfl,rfl,rfl⟩
theorem aEr {p q:PartD} {x:SideD} {y:EntD} (hf:0≤p.fin∧p.fin≤1048576):gU x p y=some q ↔ jO x y=false∧cG p y=some q:=by
 have hd:=aUs p y.b hf
 unfold gU
 cases hb:jO x y with
 | true=>rw[if_pos rfl];exact⟨fun h=>by (cases h),fun h=>by (cases h.1)⟩
 | false =>
  rw[if_neg Bool.false_ne_true]
  have hb2:=hb
  unfold jO at hb2
  simp only[Bool.or_eq_false_iff,Bool.not_eq_false',bne_eq_false_iff_eq] at hb2
  obtain⟨ho,hk,ht,_⟩:=hb2
  rw[ht,if_pos rfl] at hd
  rw[aEt ho hk,← hd]
  constructor
  ·intro h
   refine⟨rfl,?_⟩
   rw[h]
   dsimp only
   have:=(sV h).1
   rw[if_neg (by omega)]
  ·rintro⟨_,h⟩
   cases ht2:uJ p y.b with
   | none=>rw[ht2] at h;cases h
   | some u =>
    rw[ht2] at h
    dsimp only at h
    split at h
    ·cases h
    ·exact h
theorem uB (x:SideD):∀ (l:List EntD) (p q:PartD),0≤p.fin∧p.fin≤1048576→(cD x p l=(true,q) ↔ (∀ y ∈ l,jO x y=false)∧mX p l=some q)
 | [],p,q,_=>by
  constructor
  ·intro h;cases h;exact⟨fun y hy=>by (cases hy),rfl⟩
  ·rintro⟨_,h⟩;cases h;rfl
 | y::l,p,q,hf=>by
  have e1:cD x p (y::l)=match gU x p y with|none=>(false,p)|some u=>cD x u l:=rfl
  have e2:mX p (y::l)=match cG p y with|some u=>mX u l|none=>none:=rfl
  rw[e1,e2]
  constructor
  ·intro h
   cases ht:gU x p y with
   | none=>rw[ht] at h;cases h
   | some u =>
    rw[ht] at h
    obtain⟨h1,h2⟩:=(aEr hf).1 ht
    have hfu:u.fin=p.fin:=by
     unfold gU at ht
     rw[h1,if_neg Bool.false_ne_true] at ht
     exact (sV ht).1
    obtain⟨h3,h4⟩:=(uB x l u q (by omega)).1 h
    rw[h2]
    refine⟨fun z hz=>?_,h4⟩
    rcases List.mem_cons.1 hz with rfl|hz
    ·exact h1
    ·exact h3 z hz
  ·rintro⟨h1,h2⟩
   cases hs:cG p y with
   | none=>rw[hs] at h2;cases h2
   | some u =>
    rw[hs] at h2
    have ht:=(aEr (x:=x) hf).2 ⟨h1 y (List.mem_cons_self ..),hs⟩
    have hfu:u.fin=p.fin:=by
     have ht2:=ht
     unfold gU at ht2
     rw[h1 y (List.mem_cons_self ..),if_neg Bool.false_ne_true] at ht2
     exact (sV ht2).1
    rw[ht]
    exact (uB x l u q (by omega)).2 ⟨fun z hz=>h1 z (List.mem_cons_of_mem _ hz),h2⟩
theorem aC1 (x:SideD):∀ (l:List EntD) (p:PartD),(cD x p l).2.fin=p.fin∧(cD x p l).2.start=p.start∧(cD x p l).2.rows=p.rows
 | [],p=>⟨rfl,rfl,rfl⟩
 | y::l,p=>by
  have e1:cD x p (y::l)=match gU x p y with|none=>(false,p)|some u=>cD x u l:=rfl
  rw[e1]
  cases ht:gU x p y with
  | none=>exact⟨rfl,rfl,rfl⟩
  | some u =>
   unfold gU at ht
   split at ht
   ·cases ht
   obtain⟨h1,h2,h3⟩:=sV ht
   obtain⟨g1,g2,g3⟩:=aC1 x l u
   exact⟨g1.trans h1,g2.trans h2,g3.trans h3⟩
theorem aC5 (all:List SideD):∀ (l:List SideD) (u t:RefS) (k:Nat),0≤u.p.fin∧u.p.fin≤1048576→eC all u k l=some t →
  mX u.p (l.flatMap (·.l))=some t.p∧t.w=u.w∧t.p.fin=u.p.fin∧t.p.start=u.p.start∧t.p.rows=u.p.rows∧(l.flatMap (·.l)).length≤8*l.length
 | [],u,t,k,_,h=>by cases h;exact⟨rfl,rfl,rfl,rfl,rfl,Nat.le_refl _⟩
 | x::l,u,t,k,hf,h=>by
  have h:(if aN all k=false then none else if (fA u x).1=false then none else eC all (fA u x).2 (k+1) l)=some t:=h
  split at h
  ·cases h
  split at h
  ·cases h
  rename_i h2
  have hx:¬ (x.l.length=0∨8<x.l.length):=fun hx=>h2 (by unfold fA;rw[if_pos hx])
  have e2:fA u x=((cD x u.p x.l).1,⟨(cD x u.p x.l).2,u.w,u.v⟩):=by unfold fA;rw[if_neg hx]
  rw[e2] at h h2
  dsimp only at h h2
  have h2:(cD x u.p x.l).1=true:=by simpa using h2
  obtain⟨f1,f2,f3⟩:=aC1 x x.l u.p
  obtain⟨r1,r2⟩:=(uB x x.l u.p (cD x u.p x.l).2 hf).1 (Prod.ext h2 rfl)
  obtain⟨g1,g2,g3,g4,g5,g6⟩:=aC5 all l _ t (k+1) (by dsimp only;omega) h
  refine⟨?_,g2,g3.trans f1,g4.trans f2,g5.trans f3,?_⟩
  ·rw[List.flatMap_cons,aE2,r2];exact g1
  ·rw[List.flatMap_cons,List.length_append,List.length_cons];omega
theorem aP3 {main:List EntD} {sides:List SideD} {t:RefS} (h:iB main sides=some t) (hm:main.length≤200) (hs:sides.length≤20):∃ s,eG ref0 main=some s∧LogI main.length s∧eC sides s 0 sides=some t∧t.w.all (kK t.p)=true ∧
  FOkM 200 t.p∧BOk t.p∧t.p.rows.length≤800∧GapI t.p:=by
 unfold iB at h
 cases hl:eG ref0 main with
 | none=>rw[hl] at h;cases h
 | some s =>
  rw[hl] at h
  dsimp only at h
  cases hr:eC sides s 0 sides with
  | none=>rw[hr] at h;cases h
  | some u =>
   rw[hr] at h
   dsimp only at h
   split at h
   rotate_left
   ·cases h
   rename_i hw
   cases h
   have hI:=aAu main 0 ref0 s aL8 hl
   rw[Nat.zero_add] at hI
   have hfin:=aN5 main ref0 s hl
   have hfin:s.p.fin+(qI s.w:Nat)≤4*(main.length:Int):=by
    have e:(ref0.p.fin:Int)+(qI ref0.w:Nat)=0:=rfl
    omega
   have hsf:=hI.ri.sf
   have hgl:=hI.gap.len
   obtain⟨g1,g2,g3,g4,g5,g6⟩:=aC5 sides sides s t 0 hI.f.fin hr
   have hM0:FOkM 200 s.p:=⟨⟨⟨fun o ho=>(by rw[hI.f.opens] at ho;cases ho),by rw[hI.f.opens];exact List.Pairwise.nil⟩,hI.f.fin,by omega,by have:=aJ3 _ hI.may;omega,hI.f.seen,by rw[hI.f.opens];exact Nat.zero_le _,fun o ho=>(by rw[hI.f.opens] at ho;cases ho),fun o ho=>(by rw[hI.f.opens] at ho;cases ho)⟩,hI.may⟩
   have hB0:BOk s.p:=⟨hI.rok,fun o ho=>(by rw[hI.f.opens] at ho;cases ho)⟩
   have hM:=aIp _ _ _ _ hM0 g1
   have hB:=aIo _ _ _ _ hM0 hB0 g1
   have hrl:t.p.rows.length≤800:=by rw[g5];omega
   refine⟨s,rfl,hI,hr,hw,⟨⟨hM.ok,hM.fin,by omega,by have:=aJ3 _ hM.may;omega,hM.seen,by have:=hM.ok.len8;omega,hM.bats,hM.recs⟩,hM.may⟩,hB,hrl,?_⟩
   exact⟨fun i r hr=>by rw[g5] at hr;rw[g4];exact hI.gap.at_ i r hr,by rw[g5,g3,g4];exact hI.gap.len⟩
/-! the log of a part,and its side files -/
set_option maxHeartbeats 16000000
theorem aNd (l:List EntD) (s:List SideD):r14 (iB l s)=(a14 l s,e14 l s):=by
 have h:=aUc l s (fun u hu=>by
  have hI:=aAu l 0 ref0 u aL8 hu
  exact⟨hI.ow.nd,hI.f.opens⟩)
 unfold a14 e14
 rw[h]
 cases iB l s<;>rfl
theorem aNw {l:List EntD} {s:List SideD} (hl:l.length≤200) (hs:s.length≤20):(a14 l s).rows.length≤1000000∧SmallOs (a14 l s).opens∧SmallL (a14 l s).prods:=by
 have h:=aNd l s
 have h1:a14 l s=(r14 (iB l s)).1:=by rw[h]
 rw[h1]
 cases hf:iB l s with
 | none=>exact⟨by simp[r14,pZ],⟨by simp[r14,pZ],by simp[r14,pZ],by simp[r14,pZ]⟩,⟨by simp[r14,pZ],by simp[r14,pZ]⟩⟩
 | some t =>
  obtain⟨u,_,_,_,_,hM,_,hr,_⟩:=aP3 hf hl hs
  exact⟨by show t.p.rows.length≤_;omega,⟨by have:=hM.opens;show t.p.opens.length≤_;omega,fun o ho=>by have:=hM.bats o ho;omega,fun o ho b hb=>by have:=hM.recs o ho b hb;omega⟩,hM.small (by omega)⟩
end Go.Proofs.YtpklhnpchhaccaaGreatDoor
