/- The abstract machine (BfY, GfD, BfZ, BfZa, BfFo). -/
import Derived.Test.YtpklhnpchhaccaaGreatDoorBfJ
import Derived.Test.YtpklhnpchhaccaaGreatDoorBfMd
import Derived.Test.YtpklhnpchhaccaaGreatDoorBfT
import Derived.Test.YtpklhnpchhaccaaGreatDoorMacD
namespace Go.Proofs.YtpklhnpchhaccaaGreatDoor
open Go Go.RowKit
set_option maxHeartbeats 16000000
set_option maxRecDepth 100000
set_option linter.unusedVariables false
set_option linter.unusedSimpArgs false
open Classical in
noncomputable def nextB1 (s:BufS) (e:EntD):SV × BufS:=if h:BokB s∧SmallEn e then ⟨(vI s e h.1 h.2).choose,(vI s e h.1 h.2).choose_spec.choose⟩ else (lH,s)
theorem sE {s:BufS} {e:EntD} (h:BokB s) (he:SmallEn e):FunG Tryz.prog 102 [.c (.own 0 0),kI e] gF (bK (iH s)) (nextB1 s e).1 gF (bK (iH (nextB1 s e).2))∧iG (nextB1 s e).2.w ∧
  ((zS s.p s.w e=some ((nextB1 s e).2.p,(nextB1 s e).2.w)∧(nextB1 s e).1=lH∧(nextB1 s e).2.vc=(nextB1 s e).2.vt)∨(zS s.p s.w e=none∧∃ m,(nextB1 s e).1=jA m)):=by
 have e1:nextB1 s e=⟨(vI s e h he).choose,(vI s e h he).choose_spec.choose⟩:=dif_pos ⟨h,he⟩
 rw[e1]
 exact (vI s e h he).choose_spec.choose_spec
open Classical in
noncomputable def sideB1 (s:BufS) (x:SideD):SV × BufS:=if h:BokB s∧∀ y ∈ x.l,SmallEn y then ⟨(vJ s x h.1 h.2).choose,(vJ s x h.1 h.2).choose_spec.choose⟩ else (lH,s)
theorem sI {s:BufS} {x:SideD} (h:BokB s) (he:∀ y ∈ x.l,SmallEn y):FunG Tryz.prog 105 [.c (.own 0 0),aOj x] gF (bK (iH s)) (sideB1 s x).1 gF (bK (iH (sideB1 s x).2))∧iG (sideB1 s x).2.w ∧
  ((gR s.p s.w x=some ((sideB1 s x).2.p,(sideB1 s x).2.w)∧(sideB1 s x).1=lH∧(sideB1 s x).2.vc=(sideB1 s x).2.vt)∨(gR s.p s.w x=none∧∃ m,(sideB1 s x).1=jA m)):=by
 have e1:sideB1 s x=⟨(vJ s x h he).choose,(vJ s x h he).choose_spec.choose⟩:=dif_pos ⟨h,he⟩
 rw[e1]
 exact (vJ s x h he).choose_spec.choose_spec
noncomputable def stB (s:BufS) (l:List EntD):Nat→BufS
 | 0=>s
 | k+1=>match l[k]? with
  | some e=>(nextB1 (stB s l k) e).2
  | none=>stB s l k
noncomputable def stS (s:BufS) (l:List SideD):Nat→BufS
 | 0=>s
 | k+1=>match l[k]? with
  | some x=>(sideB1 (stS s l k) x).2
  | none=>stS s l k
theorem aUd {s:BufS} {l:List EntD} {k:Nat} {e:EntD} (h:l[k]? = some e):stB s l (k+1)=(nextB1 (stB s l k) e).2:=by simp only[stB,h]
theorem aUe {s:BufS} {l:List SideD} {k:Nat} {e:SideD} (h:l[k]? = some e):stS s l (k+1)=(sideB1 (stS s l k) e).2:=by simp only[stS,h]
structure StOk (k:Nat) (t:BufS) (u:RefS):Prop where
 p:t.p=u.p
 w:t.w=u.w
 v:t.vc=t.vt
 inv:LogI k u
theorem StOk.bok {k:Nat} {t:BufS} {u:RefS} (h:StOk k t u) (hk:k≤1000):BokB t:=⟨by rw[h.w];exact h.inv.ow,h.v,by rw[h.p,h.w];exact h.inv.f.sm hk⟩
def iR (vr:Nat) (vt:Nat→Nat):BufS:=⟨pZ,[],vr,vt,vt⟩
theorem yD {l:List EntD} {s u:RefS} {k:Nat} (hk:k<l.length) (h:eL s (l.take k)=some u):eL s (l.take (k+1))=aZ u l[k]:=by
 rw[List.take_succ_eq_append_getElem hk,sA,h]
 show (match aZ u l[k] with|none=>none|some t=>some t)=_
 cases aZ u l[k]<;>rfl
theorem aHu {vr:Nat} {vt:Nat→Nat} {l:List EntD} (hl:l.length≤900) (he:∀ e ∈ l,SmallEn e):∀ k,k≤l.length→∀ u,eL ref0 (l.take k)=some u→StOk k (stB (iR vr vt) l k) u
 | 0,_,u,h=>by rw[List.take_zero] at h;cases h;exact⟨rfl,rfl,rfl,aBy⟩
 | k+1,hk,u,h=>by
  have hkl:k<l.length:=by omega
  cases hq:eL ref0 (l.take k) with
  | none =>
   rw[List.take_succ_eq_append_getElem hkl,sA,hq] at h;cases h
  | some v =>
   have ih:=aHu (vr:=vr) (vt:=vt) hl he k (by omega) v hq
   rw[yD hkl hq] at h
   rw[aUd (List.getElem?_eq_getElem hkl)]
   have hb:=ih.bok (by omega)
   obtain⟨_,_,hc⟩:=sE hb (he _ (List.getElem_mem hkl))
   have hn:=wL v l[k] ih.inv.ri ih.inv.f.opens
   rw[h] at hn
   rw[ih.p,ih.w,hn] at hc
   rcases hc with ⟨c1,c2,c3⟩|⟨c1,_⟩
   ·have c1:=Option.some.inj c1
    exact⟨(congrArg Prod.fst c1).symm,(congrArg Prod.snd c1).symm,c3,oW ih.inv h⟩
   ·cases c1
structure SdOk (s:BufS) (k:Nat) (t:BufS):Prop where
 w:OkW t.w
 v:t.vc=t.vt
 fin:0≤t.p.fin∧t.p.fin≤1048576
 opens:t.p.opens.length≤k
 rows:t.p.rows.length≤50000
 prods:t.p.prods.length≤9000+8*k
 seen:∀ x ∈ t.p.prods,x.seen.length≤100
 wts:t.w.length≤1000
theorem SdOk.bok {s t:BufS} {k:Nat} (h:SdOk s k t) (hk:k≤100):BokB t:=by
 have:=h.opens
 have:=h.rows
 have:=h.prods
 exact⟨h.w,h.v,⟨h.fin,by omega,by omega,by omega,h.seen,h.wts,h.w.bats,h.w.recs⟩⟩
theorem aR0 {s t:BufS} {k:Nat} {x:SideD} {p:PartD} {w:eV} {t2:BufS} (h:SdOk s k t) (hs:gR t.p t.w x=some (p,w)) (hp:t2.p=p) (hw:t2.w=w) (hv:t2.vc=t2.vt):SdOk s (k+1) t2:=by
 rw[aOi] at hs
 split at hs
 ·cases hs
 rename_i hlen
 cases hq:bN x t.p.prods x.l with
 | none=>rw[hq] at hs;cases hs
 | some qs =>
  rw[hq] at hs
  dsimp only at hs
  split at hs
  rotate_left
  ·cases hs
  have hs:=Option.some.inj hs
  have h1:=congrArg Prod.fst hs
  have h2:=congrArg Prod.snd hs
  dsimp only at h1 h2
  obtain⟨g1,g2⟩:=sJ x.l t.p.prods qs (9000+8*k) h.prods h.seen hq
  have ho:=h.opens
  refine⟨by rw[hw,← h2];exact aCi h.w _,hv,by rw[hp,← h1];exact h.fin,by rw[hp,← h1];simp;omega,by rw[hp,← h1];exact h.rows,by rw[hp,← h1];show qs.length≤_;omega,by rw[hp,← h1];exact g2,?_⟩
  rw[hw,← h2]
  have:=h.wts
  unfold cI
  split
  ·have:=List.length_eraseIdx_le t.w (wI t.w x.pid);omega
  ·exact this
theorem aD8 {s:BufS} {l:List SideD} (h0:SdOk s 0 s) (hl:l.length≤100) (he:∀ x ∈ l,∀ y ∈ x.l,SmallEn y):∀ k,k≤l.length→∀ u,dV l (s.p,s.w) 0 (l.take k)=some u→u=((stS s l k).p,(stS s l k).w)∧SdOk s k (stS s l k)
 | 0,_,u,h=>by rw[List.take_zero] at h;cases h;exact⟨rfl,h0⟩
 | k+1,hk,u,h=>by
  have hkl:k<l.length:=by omega
  rw[List.take_succ_eq_append_getElem hkl,qR] at h
  cases hq:dV l (s.p,s.w) 0 (l.take k) with
  | none=>rw[hq] at h;cases h
  | some v =>
   rw[hq] at h
   obtain⟨e1,ih⟩:=aD8 h0 hl he k (by omega) v hq
   subst e1
   have hb:=ih.bok (by omega)
   obtain⟨_,_,hc⟩:=sI hb (he _ (List.getElem_mem hkl))
   rw[aUe (List.getElem?_eq_getElem hkl)]
   have h:(if aL l (0+(l.take k).length)=false then none else match gR (stS s l k).p (stS s l k).w l[k] with
    | none=>none
    | some t=>some t)=some u:=h
   split at h
   ·cases h
   rcases hc with ⟨c1,c2,c3⟩|⟨c1,_⟩
   ·rw[c1] at h
    have h:=(Option.some.inj h).symm
    exact⟨h,aR0 ih c1 rfl rfl c3⟩
   ·rw[c1] at h;cases h
def aMb:RefS→List EntD→Nat
 | _,[]=>0
 | s,e::l=>match aZ s e with
  | none=>0
  | some t=>aMb t l+1
theorem yC:∀ (l:List EntD) (s u:RefS) (k:Nat) (hk:k<l.length),eL s (l.take k)=some u→aZ u l[k]=none→aMb s l=k∧eL s l=none
 | [],_,_,k,hk,_,_=>by simp at hk
 | e::l,s,u,0,_,h,h2=>by
  cases h
  have h2:aZ s e=none:=h2
  exact⟨by simp only[aMb,h2],by simp only[eL,h2]⟩
 | e::l,s,u,k+1,hk,h,h2=>by
  cases hs:aZ s e with
  | none =>
   have h:(match aZ s e with|none=>none|some t=>eL t (l.take k))=some u:=h
   rw[hs] at h;cases h
  | some t =>
   have h:(match aZ s e with|none=>none|some t=>eL t (l.take k))=some u:=h
   rw[hs] at h
   obtain⟨q1,q2⟩:=yC l t u k (by simpa using hk) h (by simpa using h2)
   exact⟨by simp only[aMb,hs,q1],by simp only[eL,hs,q2]⟩
def cF (all:List SideD):PartD × eV→Nat→List SideD→Nat
 | _,_,[]=>0
 | s,k,x::l=>if aL all k=false then 0 else match gR s.1 s.2 x with
  | none=>0
  | some t=>cF all t (k+1) l+1
theorem aA2 (all:List SideD):∀ (l:List SideD) (s u:PartD × eV) (j k:Nat) (hk:k<l.length),dV all s j (l.take k)=some u→(aL all (j+k)=false∨gR u.1 u.2 l[k]=none)→cF all s j l=k∧dV all s j l=none
 | [],_,_,_,k,hk,_,_=>by simp at hk
 | x::l,s,u,j,0,_,h,h2=>by
  cases h
  rw[Nat.add_zero] at h2
  have h2:aL all j=false∨gR s.1 s.2 x=none:=h2
  rcases h2 with h2|h2
  ·exact⟨by simp only[cF,h2,if_true],by simp only[dV,h2,if_true]⟩
  ·exact⟨by simp only[cF,h2];split<;>rfl,by simp only[dV,h2];split<;>rfl⟩
 | x::l,s,u,j,k+1,hk,h,h2=>by
  have h:(if aL all j=false then none else match gR s.1 s.2 x with
   | none=>none
   | some t=>dV all t (j+1) (l.take k))=some u:=h
  split at h
  ·cases h
  rename_i h3
  cases hs:gR s.1 s.2 x with
  | none=>rw[hs] at h;cases h
  | some t =>
   rw[hs] at h
   obtain⟨q1,q2⟩:=aA2 all l t u (j+1) k (by simpa using hk) h (by rw[show j+1+k=j+(k+1) by omega];simpa using h2)
   exact⟨by simp only[cF,hs,q1,h3];rw[if_neg (by simp)],by simp only[dV,hs,q2,h3];rw[if_neg (by simp)]⟩
theorem sL (all:List SideD):∀ (l:List SideD) (s u:PartD × eV) (j:Nat),dV all s j l=some u→∀ k,k≤l.length→∃ v,dV all s j (l.take k)=some v:=by
 intro l s u j h k hk
 rw[← List.take_append_drop k l,qR] at h
 cases hq:dV all s j (l.take k) with
 | none=>rw[hq] at h;cases h
 | some v=>exact⟨v,rfl⟩
theorem sK (all:List SideD):∀ (l:List SideD) (s:PartD × eV) (j:Nat),cF all s j l≤l.length∧(∃ u,dV all s j (l.take (cF all s j l))=some u∧∀ (h:cF all s j l<l.length),aL all (j+cF all s j l)=false∨gR u.1 u.2 l[cF all s j l]=none)
 | [],s,j=>⟨Nat.le_refl _,s,rfl,fun h=>by simp at h⟩
 | x::l,s,j=>by
  by_cases h1:aL all j=false
  ·have e:cF all s j (x::l)=0:=by simp only[cF,h1,if_true]
   simp only[e]
   exact⟨Nat.zero_le _,s,rfl,fun _=>.inl h1⟩
  cases hs:gR s.1 s.2 x with
  | none =>
   have e:cF all s j (x::l)=0:=by simp only[cF,hs];split<;>rfl
   simp only[e]
   exact⟨Nat.zero_le _,s,rfl,fun _=>.inr hs⟩
  | some t =>
   have e:cF all s j (x::l)=cF all t (j+1) l+1:=by simp only[cF,hs];rw[if_neg h1]
   simp only[e]
   obtain⟨g1,u,g2,g3⟩:=sK all l t (j+1)
   refine⟨by rw[List.length_cons];omega,u,?_,fun h=>?_⟩
   ·rw[List.take_succ_cons]
    show (if aL all j=false then none else match gR s.1 s.2 x with
     | none=>none
     | some t=>dV all t (j+1) (l.take _))=_
    rw[if_neg h1,hs];exact g2
   ·have:=g3 (by simpa using h)
    rw[show j+(cF all t (j+1) l+1)=j+1+cF all t (j+1) l by omega]
    simpa using this
end Go.Proofs.YtpklhnpchhaccaaGreatDoor
namespace Go.Proofs.YtpklhnpchhaccaaGreatDoor
open Go Go.RowKit
set_option linter.unusedVariables false
set_option linter.unusedSimpArgs false
theorem AgO.retG {P:Program} {σ:St} {H' : Hp} {fx:Fx} (h:AgO σ.H H') (rs:List ResultVar):retG P { σ with H:=H',fx:=fx } rs=retG P σ rs:=by
 have e:Go.Proofs.YtpklhnpchhaccaaGreatDoor.retV P { σ with H:=H',fx:=fx }=Go.Proofs.YtpklhnpchhaccaaGreatDoor.retV P σ:=funext fun x=>h.retV x
 unfold Go.Proofs.YtpklhnpchhaccaaGreatDoor.retG
 split
 ·rfl
 ·rename_i a t
  show (match dS P t H' (σ.env a) with|some r=>some r.v|none=>none)=_
  rw[h.load]<;>rfl
 ·rw[e]<;>rfl
def aF7:Option HE→Bool
 | some (.obj _)=>true
 | _=>false
def aRg (P:Program) (rs:List ResultVar) (r:SV) (ks' : List Nat) (B' : Hp) (σ:St):Prop:=∃ σ',aD σ σ'∧(∀ k,ks'.contains k=true→aF7 (B' k)=false)∧retG P σ' rs=some r∧(∀ k,ks'.contains k=true→σ'.H k=B' k)
def oD (P:Program) (rs:List ResultVar) (r:SV) (ks' : List Nat) (B' : Hp):Exit→St→Prop
 | .normal,σ=>aRg P rs r ks' B' σ
 | .ret,σ=>aRg P rs r ks' B' σ
 | _,_=>False
theorem FunG.of_bodyD {P : Program} {f : FuncId} {fn : Func} {c : Code} {args : List SV} {ks ks' : List Nat} {B B' : Hp} {r : SV} {n : Nat} {rs : Array ResultVar} (hf : P.funcs[f]? = some fn) (hb : fn.body = some c) (hn : (fn.name == "runtime.NumGoroutine") = false) (hnt : fn.ntmps = n) (hrs : fn.results = rs) (hle : args.length ≤ n)
  (sup:∀ i,ks.contains i=false→B i=none) (sup' : ∀ i,ks'.contains i=false→B' i=none) (sub:∀ i,ks.contains i=true→ks'.contains i=true) (cl:gT ks B) (cl' : gT ks' B') (ids:∀ a ∈ args,∀ i ∈ a.ids,ks.contains i=true) (rids:∀ i ∈ r.ids,ks'.contains i=true)
  (h:Wp P c (qD args ks B n) (oD P rs.toList r ks' B')):FunG P f args ks B r ks' B':=by
 subst hnt hrs
 refine⟨by unfold iQ;rw[hf];simp only[hn,hb];rfl,sup,sup',sub,cl,ids,fun g w vs hh hL=>?_⟩
 have hl:=hL.1
 refine callsIn_wide.1 (callsIn_of_wp_marks (F:=Fence.wide) (n:=0) hf hb trivial (wpIn_mono (h (mZ w g ks g B) g.K g _ w ⟨hh,?_,?_,trivial,rfl,rfl,List.nodup_nil,fun q hq=>by cases hq⟩) ?_))
 ·intro t
  rw[vV,qE]
  cases ht:args[t]? with
  | none=>trivial
  | some x =>
   have hlt:t<vs.length:=by have:=(List.getElem?_eq_some_iff.1 ht).1;omega
   have:(vs.toArray++Array.replicate (fn.ntmps - vs.toArray.size) undef).getD t undef=vs[t]:=by
    rw[Array.getD_eq_getD_getElem?,Array.getElem?_append_left (by simpa using hlt)];simp[hlt]
   rw[this]
   exact hL.2 t x _ ht (List.getElem?_eq_getElem hlt)
 ·rw[sT];simp;omega
 ·rintro e a' w' ⟨g',σ',hr,hQ⟩
  have fin:aRg P fn.results.toList r ks' B' σ'→LeavesInM Fence.wide 0 P fn a'.tmps (fun e w'=>∃ v g',e = .returned v∧bD g' B' r v∧RelH (mZ w g ks g B) g.K g' B' w') a'.defers .returning w':=by
   rintro⟨σ2,hw,hno,hret,hB⟩
   obtain⟨g2,hr2⟩:=hw _ _ _ _ _ hr
   refine yB _ _ g2 σ2 a' w' hr2 rfl rfl (fun g3 H3 a3 w3 hr3 hag ht=>?_)
   obtain⟨v,hv,hrep⟩:=aCv hr3 (fn:=fn) ((hag.retG _).trans hret)
   have hB3:∀ k,ks'.contains k=true→H3 k=B' k:=fun k hk=>by
    rcases hag k with e|⟨o,o',e1,e2⟩
    ·exact e.trans (hB k hk)
    ·have:=hno k hk
     rw[← hB k hk,e1] at this
     cases this
   have hcl:gT ks' H3:=fun k cs hk hH=>cl' k cs hk (by rw[← hB3 k hk];exact hH)
   have hm:=hr3.mem.drop ks' (fun i hi=>by have:i ∈ ks:=hi;exact sub i (by simpa using this)) hcl
   have hon:H3.on ks' = B':=by
    funext i
    cases hc:ks'.contains i with
    | true=>rw[Hp.on_in hc];exact hB3 i hc
    | false=>rw[Hp.on_out hc,sup' i hc]
   have hrep':=bD.on (ks:=ks') rids hrep
   dsimp only at hm hrep'
   rw[hon] at hm hrep'
   rw[ht] at hv
   exact⟨v,hv,v,_,rfl,hrep',hm⟩
  cases e with
  | normal=>exact fin hQ
  | ret=>exact fin hQ
  | _=>exact hQ.elim
theorem FunG.of_bodyHD {P : Program} {f : FuncId} {fn : Func} {c : Code} {args : List SV} {ks ks' : List Nat} {M M' : List (Nat × HE)} {r : SV} {n : Nat} {rs : Array ResultVar} (hks : M.map (·.1) = ks) (hks' : M'.map (·.1) = ks') (hf : P.funcs[f]? = some fn) (hb : fn.body = some c) (hn : (fn.name == "runtime.NumGoroutine") = false) (hnt : fn.ntmps = n) (hrs : fn.results = rs) (hle : args.length ≤ n)
  (hok:okG args r M M' = true) (h:Wp P c (qD args ks (bK M) n) (oD P rs.toList r ks' (bK M'))):FunG P f args ks (bK M) r ks' (bK M'):=by
 subst hks hks'
 simp only[okG,Bool.and_eq_true] at hok
 obtain⟨h1,h2,h3,h4,h5⟩:=hok
 exact FunG.of_bodyD hf hb hn hnt hrs hle (vZ M) (vZ M') (fun i hi=>pN h3 i (by simpa using hi)) (pV h1) (pV h2) (fun a ha=>pN (List.all_eq_true.1 h4 a ha)) (pN h5) h
theorem aF8 {M:List (Nat × HE)} (h:(M.all fun p=>!aF7 (some p.2))=true) (k:Nat):aF7 (bK M k)=false:=by
 show aF7 (M.lookup k)=false
 cases hm:M.lookup k with
 | none=>rfl
 | some x =>
  have:=List.all_eq_true.1 h _ (dG hm)
  simpa using this
theorem oD.ret {P:Program} {rs:List ResultVar} {r:SV} {ks' : List Nat} {M' : List (Nat × HE)} {σ:St} (hno:(M'.all fun p=>!aF7 (some p.2))=true) (h:retG P σ rs=some r∧aS σ.H (bK M') ks'):oD P rs r ks' (bK M') .ret σ:=⟨σ,aD.refl _,fun k _=>aF8 hno k,h.1,oR h.2⟩
theorem oD.normal {P:Program} {rs:List ResultVar} {r:SV} {ks' : List Nat} {M' : List (Nat × HE)} {σ:St} (hno:(M'.all fun p=>!aF7 (some p.2))=true) (h:retG P σ rs=some r∧aS σ.H (bK M') ks'):oD P rs r ks' (bK M') .normal σ:=⟨σ,aD.refl _,fun k _=>aF8 hno k,h.1,oR h.2⟩
set_option maxHeartbeats 16000000
set_option maxRecDepth 100000
abbrev aV9:List UInt8:=[116,104,101,32,111,114,100,101,114,32,111,102,32,115,105,100,101,32,102,105,108,101,115]
abbrev aVa:List UInt8:=[99,111,112,105,101,115,32,116,104,97,116,32,119,97,105,116,32,102,111,114,32,110,111,116,104,105,110,103]
theorem yK {L:List (Nat × SV)} {s:BufS} {X:List (Nat × HE)} {fx:Fx} (h:iG s.w) (hL:(L.all fun p=>p.2.ids.all fun i=>(gF++X.map (·.1)).contains i)=true) (hX:(X.all fun p=>p.2.ids.all fun i=>(gF++X.map (·.1)).contains i)=true)
  (hf:((fx.lent++fx.dfs).all fun i=>(gF++X.map (·.1)).contains i)=true):(kF L (iH s++X) && gS fx (iH s++X))=true:=by
 have e1:(iH s++X).map (·.1)=gF++X.map (·.1):=by rw[List.map_append];rfl
 have h1:=aMo s h
 have h2:((iH s).all fun p=>p.2.ids.all fun i=>(gF++X.map (·.1)).contains i)=true:=by
  rw[List.all_eq_true]
  intro p hp
  have h3:=List.all_eq_true.1 h1 p hp
  rw[List.all_eq_true] at h3 ⊢
  intro i hi
  have:=h3 i hi
  simp only[List.contains_iff_mem,List.mem_append] at this ⊢
  exact .inl this
 unfold kF gS
 rw[e1,hL,hf,List.all_append,h2,hX];rfl
abbrev alX (c:CV):List (Nat × HE):=[(600,.cells [.own 0 0]),(601,.cells [c])]
abbrev alC:CV:=.d (.val .nilIface)
def aPy:SV→CV
 | .c c=>c
 | .agg _=>.any
noncomputable def allRT (s0:BufS) (main:List EntD) (sides:List SideD):SV × BufS :=
 match eL ref0 main with
 | none=>(match main[aMb ref0 main]? with
  | some e=>nextB1 (stB s0 main (aMb ref0 main)) e
  | none=>(lH,s0))
 | some _ =>
  (match sides[cF sides ((stB s0 main main.length).p,(stB s0 main main.length).w) 0 sides]? with
  | some x=>if aL sides (cF sides ((stB s0 main main.length).p,(stB s0 main main.length).w) 0 sides)=false then (jA aV9,stS (stB s0 main main.length) sides (cF sides ((stB s0 main main.length).p,(stB s0 main main.length).w) 0 sides)) else sideB1 (stS (stB s0 main main.length) sides (cF sides ((stB s0 main main.length).p,(stB s0 main main.length).w) 0 sides)) x
  | none=>if (stS (stB s0 main main.length) sides sides.length).w.isEmpty then (lH,stS (stB s0 main main.length) sides sides.length) else (jA aVa,stS (stB s0 main main.length) sides sides.length))
theorem aXm {k:Nat} {s:BufS} {u:RefS} (h:StOk k s u) (hk:k≤900):SdOk s 0 s:=by
 have h1:=h.inv.f.rows
 have h2:=h.inv.f.prods
 have h3:=h.inv.f.wts
 refine⟨by rw[h.w];exact h.inv.ow,h.v,by rw[h.p];exact h.inv.f.fin,by rw[h.p,h.inv.f.opens];exact Nat.le_refl _,by rw[h.p];omega,by rw[h.p];omega,by rw[h.p];exact h.inv.f.seen,by rw[h.w];omega⟩
structure AllOk (s0:BufS) (main:List EntD) (sides:List SideD):Prop where
 pid:iG (allRT s0 main sides).2.w
 out:(aAt main sides=some (allRT s0 main sides).2.p∧(allRT s0 main sides).1=lH)∨(aAt main sides=none∧∃ m,(allRT s0 main sides).1=jA m)
theorem aSj (main:List EntD) (h:eL ref0 main=none):∃ k,∃ hk:k<main.length,∃ u,eL ref0 (main.take k)=some u∧aZ u main[k]=none∧aMb ref0 main=k:=by
 have key:∀ n,n≤main.length→eL ref0 (main.take n)=none→∃ k,∃ hk:k<main.length,∃ u,eL ref0 (main.take k)=some u∧aZ u main[k]=none:=by
  intro n
  induction n with
  | zero=>intro _ h;rw[List.take_zero] at h;cases h
  | succ n ih =>
   intro hn h
   cases hq:eL ref0 (main.take n) with
   | none=>exact ih (by omega) hq
   | some u =>
    rw[yD (by omega) hq] at h
    exact⟨n,by omega,u,hq,h⟩
 obtain⟨k,hk,u,h1,h2⟩:=key main.length (Nat.le_refl _) (by rw[List.take_length];exact h)
 exact⟨k,hk,u,h1,h2,(yC main ref0 u k hk h1 h2).1⟩
theorem aWj {t:BufS} {k:Nat} {u:RefS} {e:EntD} (h:StOk k t u) (hk:k≤1000) (he:SmallEn e) (hs:aZ u e=none):iG (nextB1 t e).2.w∧∃ m,(nextB1 t e).1=jA m:=by
 obtain⟨_,h2,hc⟩:=sE (h.bok hk) he
 have hn:=wL u e h.inv.ri h.inv.f.opens
 rw[hs] at hn
 rw[h.p,h.w,hn] at hc
 rcases hc with ⟨c1,_⟩|⟨_,c2⟩
 ·cases c1
 ·exact⟨h2,c2⟩
theorem aXg {vr:Nat} {vt:Nat→Nat} {main:List EntD} {sides:List SideD} (hm:main.length≤900) (hme:∀ e ∈ main,SmallEn e) (hsl:sides.length≤100) (hse:∀ x ∈ sides,∀ y ∈ x.l,SmallEn y):AllOk (iR vr vt) main sides:=by
 obtain⟨s0,hs0⟩:∃ s0,s0=iR vr vt:=⟨_,rfl⟩
 cases hl:eL ref0 main with
 | none =>
  obtain⟨k,hk,u,h1,h2,h3⟩:=aSj main hl
  have hst:=aHu (vr:=vr) (vt:=vt) hm hme k (by omega) u h1
  obtain⟨q1,q2⟩:=aWj hst (by omega) (hme _ (List.getElem_mem hk)) h2
  have e1:allRT (iR vr vt) main sides=nextB1 (stB (iR vr vt) main k) main[k]:=by
   unfold allRT;rw[hl];dsimp only;rw[h3,List.getElem?_eq_getElem hk]
  exact⟨by rw[e1];exact q1,.inr ⟨by unfold aAt;rw[hl],by rw[e1];exact q2⟩⟩
 | some u =>
  have hst:=aHu (vr:=vr) (vt:=vt) hm hme main.length (Nat.le_refl _) u (by rw[List.take_length];exact hl)
  have h0:=aXm hst hm
  have e0:allRT (iR vr vt) main sides=(match sides[cF sides ((stB (iR vr vt) main main.length).p,(stB (iR vr vt) main main.length).w) 0 sides]? with
   | some x=>if aL sides (cF sides ((stB (iR vr vt) main main.length).p,(stB (iR vr vt) main main.length).w) 0 sides)=false then (jA aV9,stS (stB (iR vr vt) main main.length) sides (cF sides ((stB (iR vr vt) main main.length).p,(stB (iR vr vt) main main.length).w) 0 sides)) else sideB1 (stS (stB (iR vr vt) main main.length) sides (cF sides ((stB (iR vr vt) main main.length).p,(stB (iR vr vt) main main.length).w) 0 sides)) x
   | none=>if (stS (stB (iR vr vt) main main.length) sides sides.length).w.isEmpty then (lH,stS (stB (iR vr vt) main main.length) sides sides.length) else (jA aVa,stS (stB (iR vr vt) main main.length) sides sides.length)):=by
   unfold allRT;rw[hl]
  have ea:aAt main sides=match dV sides ((stB (iR vr vt) main main.length).p,(stB (iR vr vt) main main.length).w) 0 sides with
   | none=>none
   | some t=>if t.2.isEmpty then some t.1 else none:=by
   unfold aAt;rw[hl,hst.p,hst.w]<;>rfl
  generalize stB (iR vr vt) main main.length=s1 at *
  obtain⟨K,hK⟩:∃ K,K=cF sides (s1.p,s1.w) 0 sides:=⟨_,rfl⟩
  obtain⟨g1,v,g2,g3⟩:=sK sides sides (s1.p,s1.w) 0
  simp only[Nat.zero_add] at g3
  rw[← hK] at e0
  simp only[← hK] at g1 g2 g3
  obtain⟨hv,hok⟩:=aD8 h0 hsl hse K g1 v g2
  subst hv
  rcases Nat.lt_or_ge K sides.length with hlt|hge
  ·rw[List.getElem?_eq_getElem hlt] at e0
   dsimp only at e0 g3
   have hnone:dV sides (s1.p,s1.w) 0 sides=none:=(aA2 sides sides _ _ 0 K hlt g2 (by rw[Nat.zero_add];exact g3 hlt)).2
   rw[hnone] at ea
   by_cases ho:aL sides K=false
   ·rw[if_pos ho] at e0
    exact⟨by rw[e0];exact hok.w.pid,.inr ⟨ea,_,by rw[e0]⟩⟩
   ·rw[if_neg ho] at e0
    have hsn:=(g3 hlt).resolve_left ho
    obtain⟨_,q2,hc⟩:=sI (hok.bok (by omega)) (hse _ (List.getElem_mem hlt))
    rw[hsn] at hc
    rcases hc with ⟨c1,_⟩|⟨_,c2⟩
    ·cases c1
    ·exact⟨by rw[e0];exact q2,.inr ⟨ea,by rw[e0];exact c2⟩⟩
  ·have hKe:K=sides.length:=by omega
   rw[List.getElem?_eq_none (by omega)] at e0
   dsimp only at e0
   rw[hKe,List.take_length] at g2
   rw[hKe] at hok
   rw[g2] at ea
   dsimp only at ea
   cases hw:(stS s1 sides sides.length).w.isEmpty with
   | true =>
    rw[hw,if_pos rfl] at e0 ea
    exact⟨by rw[e0];exact hok.w.pid,.inl ⟨by rw[e0];exact ea,by rw[e0]⟩⟩
   | false =>
    rw[hw,if_neg Bool.false_ne_true] at e0 ea
    exact⟨by rw[e0];exact hok.w.pid,.inr ⟨ea,_,by rw[e0]⟩⟩
theorem aY3 (vr:Nat) (vt:Nat→Nat) (main:List EntD) (sides:List SideD) (hm:main.length≤900) (hme:∀ e ∈ main,SmallEn e) (hsl:sides.length≤100) (hse:∀ x ∈ sides,∀ y ∈ x.l,SmallEn y) :
  FunG Tryz.prog 53 [.c (.own 0 0),.c (.d (.lst 18 (main.map EntD.dv))),.c (.d (gX sides))] gF (bK (iH (iR vr vt))) (allRT (iR vr vt) main sides).1 gF (bK (iH (allRT (iR vr vt) main sides).2)):=by
 have hA:=aXg (vr:=vr) (vt:=vt) hm hme hsl hse
 have hst:=fun k hk u h=>aHu (vr:=vr) (vt:=vt) hm hme k hk u h
 have hw0:iG (iR vr vt).w:=fun x hx=>by cases hx
 have hRd:allRT (iR vr vt) main sides=allRT (iR vr vt) main sides:=rfl
 generalize hR:allRT (iR vr vt) main sides=R at *
 generalize hs0:iR vr vt=s0 at *
 have hrid:pM R.1.ids gF=true:=by
  rcases hA.out with ⟨_,h⟩|⟨_,m,h⟩
  ·rw[← hR];rw[h];rfl
  ·rw[← hR];rw[h];rfl
 have hpidR:iG R.2.w:=by rw[← hR];exact hA.pid
 refine FunG.of_bodyHD rfl rfl Tryz.func53 rfl rfl Tryz.ntmps53 Tryz.results53 (Nat.le_of_ble_eq_true rfl) (kS rfl hrid hw0 hpidR) ?_
 refine Wp.weak (show aD _ (⟨iC [(0,.c (.own 0 0)),(1,.c (.d (.lst 18 (main.map EntD.dv)))),(2,.c (.d (gX sides)))],bK (iH s0),600,46,⟨gF,[],false,none⟩⟩:St) from aD.keep rfl (aCd hw0 rfl) ?_) ?_
 ·(refine rO (@aC) ?_;try with_reducible exact tt)
 have hz:stB s0 main 0=s0:=rfl
 (refine cA ?_)
 refine Wp.loop (fun k:Nat=>⟨iC [(2,.c (.d (gX sides))),(3,.c (.own 600 0)),(6,.c (.own 601 0)),(13,.c (.d (.lst 18 (main.map EntD.dv)))),(14,vi .i64 main.length),(15,vi .i64 k)],bK (iH (stB s0 main k)++alX alC),620,46,⟨gF,[],false,none⟩⟩) (fun k=>k≤main.length∧(eL ref0 (main.take k)).isSome=true) (fun k=>main.length - k) 0 ⟨Nat.zero_le _,rfl⟩ ?_ ?_
 ·refine aD.keep rfl (yK hw0 rfl rfl rfl) ?_
  (refine rO (hz) ?_;try with_reducible exact tt)
 rintro k ⟨hk,hks⟩
 obtain⟨u,hu⟩:=Option.isSome_iff_exists.1 hks
 have hso:=hst k hk u hu
 have hbk:=hso.bok (by omega)
 by_cases hkl:k<main.length
 ·have d1:decide ((k:Int)<(main.length:Int))=true:=decide_eq_true (by omega)
  have hge:main[k]? = some main[k]:=List.getElem?_eq_getElem hkl
  have hwk:IntKind.i64.wrap ((k:Int)+1)=((k+1:Nat):Int):=by rw[aT (by omega)];rfl
  have hsn:=yD hkl hu
  obtain⟨c1,hp1,hcase⟩:=sE hbk (hme _ (List.getElem_mem hkl))
  have hn:=wL u main[k] hso.inv.ri hso.inv.f.opens
  rw[hso.p,hso.w,hn] at hcase
  have hat:=aUd (s:=s0) hge
  have hfail:aZ u main[k]=none→R=nextB1 (stB s0 main k) main[k]:=fun h=>by
   obtain⟨f1,f2⟩:=yC main ref0 u k hkl hu h
   rw[← hR]
   unfold allRT
   rw[f2]
   dsimp only
   rw[f1,hge]
  generalize main[k]=e at *
  generalize nextB1 (stB s0 main k) e=nx at *
  obtain⟨r1,t1⟩:=nx
  dsimp only at c1 hp1 hcase hat hfail
  have hbV:kI e = .agg (e.dv.map CV.d):=rfl
  (refine gO (ai d1 (ai hge (ai @EntD.dv.eq_1 (ai @List.cons_append.{0} (@List.nil_append.{0}))))) ?_)
  (first|refine Wp.sregG ?_|refine Wp.regG ?_|(refine Wp.seq ?_;first|refine Wp.sregG ?_|refine Wp.regG ?_))
  (refine aG.at 2 (fun K hK=>?_);(refine rO (ai @aC (ai @EntD.dv.eq_1 (ai @List.map_cons.{0,0} (ai @List.map_nil.{0,0} (ai @List.cons_append.{0} (@List.nil_append.{0})))))) ?_);refine hK _ ?_;clear hK K)
  (refine aG.call (c1) [] 640 rfl rfl ?_ ?_;(focus ((refine yL (ai @eP (ai @aC (ai @aW (ai hbV (ai @EntD.dv.eq_1 (ai @List.map_cons.{0,0} (ai @List.map_nil.{0,0} (@List.cons_append.{0})))))))) ?_;try with_reducible exact tt);done)))
  (refine aG.done (fun K hK=>?_);(refine rOt (ai @aC (ai @cU.eq_1 (ai @cU.eq_2 (ai @aW (ai @cH (ai @List.map_cons.{0,0} (@List.map_nil.{0,0}))))))) ?_);refine hK _ ?_;clear hK K)
  rcases hcase with ⟨h1,rfl,h3⟩|⟨h1,m,rfl⟩
  ·cases hls:aZ u e with
   | none=>rw[hls] at h1;cases h1
   | some t =>
    (refine cA ?_)
    refine⟨k+1,⟨hkl,by rw[hsn,hls];rfl⟩,by omega,?_⟩
    rw[hat]
    refine aD.keep rfl (yK hp1 rfl rfl rfl) ?_
    (refine rO (ai hwk (ai @List.cons_append.{0} (@List.nil_append.{0}))) ?_;try with_reducible exact tt)
  ·cases hls:aZ u e with
   | some t=>rw[hls] at h1;cases h1
   | none =>
    have hRe:=hfail hls
    subst hRe
    (refine cA ?_)
    refine oD.ret rfl ?_
    (refine rO (ai @aS.eq_1 (@aS.eq_2)) ?_;try with_reducible exact tt)
 have hke:k=main.length:=by omega
 subst hke
 rw[List.take_length] at hu
 have h0:=aXm hso hm
 have hRe:R=(match sides[cF sides ((stB s0 main main.length).p,(stB s0 main main.length).w) 0 sides]? with
   | some x=>if aL sides (cF sides ((stB s0 main main.length).p,(stB s0 main main.length).w) 0 sides)=false then (jA aV9,stS (stB s0 main main.length) sides (cF sides ((stB s0 main main.length).p,(stB s0 main main.length).w) 0 sides)) else sideB1 (stS (stB s0 main main.length) sides (cF sides ((stB s0 main main.length).p,(stB s0 main main.length).w) 0 sides)) x
   | none=>if (stS (stB s0 main main.length) sides sides.length).w.isEmpty then (lH,stS (stB s0 main main.length) sides sides.length) else (jA aVa,stS (stB s0 main main.length) sides sides.length)):=by
  rw[← hR];unfold allRT;rw[hu]<;>rfl
 generalize stB s0 main main.length=s1 at *
 have d1:decide ((main.length:Int)<(main.length:Int))=false:=by simp
 obtain⟨kn,hkn⟩:∃ kn,kn=cF sides (s1.p,s1.w) 0 sides:=⟨_,rfl⟩
 obtain⟨g1,v,g2,g3⟩:=sK sides sides (s1.p,s1.w) 0
 simp only[Nat.zero_add] at g3
 rw[← hkn] at hRe
 simp only[← hkn] at g1 g2 g3
 obtain⟨hv,hokK⟩:=aD8 h0 hsl hse kn g1 v g2
 subst hv
 have hok:∀ i,i≤kn→SdOk s1 i (stS s1 sides i):=fun i hi=>by
  obtain⟨w,hw⟩:=sL sides (sides.take kn) (s1.p,s1.w) _ 0 g2 i (by rw[List.length_take];omega)
  rw[List.take_take,Nat.min_eq_left hi] at hw
  exact (aD8 h0 hsl hse i (by omega) w hw).2
 have hgood:∀ i (hi:i<kn) (hil:i<sides.length),aL sides i=true∧∃ w,gR (stS s1 sides i).p (stS s1 sides i).w sides[i]=some w:=fun i hi hil=>by
  obtain⟨w,hw⟩:=sL sides (sides.take kn) (s1.p,s1.w) _ 0 g2 (i+1) (by rw[List.length_take];omega)
  rw[List.take_take,Nat.min_eq_left (by omega),List.take_succ_eq_append_getElem hil,qR] at hw
  obtain⟨w2,hw2⟩:=sL sides (sides.take kn) (s1.p,s1.w) _ 0 g2 i (by rw[List.length_take];omega)
  rw[List.take_take,Nat.min_eq_left (by omega)] at hw2
  have hw3:=(aD8 h0 hsl hse i (by omega) w2 hw2).1
  rw[hw2] at hw
  subst hw3
  have hw:(if aL sides (0+(sides.take i).length)=false then none else match gR (stS s1 sides i).p (stS s1 sides i).w sides[i] with
   | none=>none
   | some t=>some t)=some w:=hw
  rw[Nat.zero_add,List.length_take,Nat.min_eq_left (by omega)] at hw
  split at hw
  ·cases hw
  rename_i hne
  refine⟨by simpa using hne,?_⟩
  cases hq:gR (stS s1 sides i).p (stS s1 sides i).w sides[i] with
  | none=>rw[hq] at hw;cases hw
  | some t=>exact⟨t,rfl⟩
 have c2:=aN2 sides
 have hsq:=aN3 sides (by omega)
 have hyl:=mM sides
 (refine gO (d1) ?_)
 obtain⟨stX,hstX⟩:∃ f:Nat→BufS,∀ i,f i=if i≤kn then stS s1 sides i else R.2:=⟨_,fun _=>rfl⟩
 obtain⟨erX,herX⟩:∃ f:Nat→CV,∀ i,f i=if i≤kn then alC else aPy R.1:=⟨_,fun _=>rfl⟩
 have hX0:stX 0=s1:=by rw[hstX,if_pos (Nat.zero_le _)];rfl
 have hE0:erX 0=alC:=by rw[herX,if_pos (Nat.zero_le _)]
 have hpX:∀ i,iG (stX i).w:=fun i=>by
  rw[hstX]
  split
  ·rename_i h;exact (hok i h).w.pid
  ·exact hpidR
 have hdX:∀ i,∃ d,erX i = .d d:=fun i=>by
  rw[herX]
  split
  ·exact⟨_,rfl⟩
  ·rcases hA.out with ⟨_,h⟩|⟨_,m,h⟩
   ·rw[hR] at h;rw[h];exact⟨_,rfl⟩
   ·rw[hR] at h;rw[h];exact⟨_,rfl⟩
 have hX9:∀ (i:Nat) (L:List (Nat × SV)) (fx:Fx) (Y:List (Nat × HE)),(L.all fun p=>p.2.ids.all fun i=>(gF++(alX alC++Y).map (·.1)).contains i)=true→(Y.all fun p=>p.2.ids.all fun i=>(gF++(alX alC++Y).map (·.1)).contains i)=true→((fx.lent++fx.dfs).all fun i=>(gF++(alX alC++Y).map (·.1)).contains i)=true→(kF L (iH (stX i)++alX (erX i)++Y) && gS fx (iH (stX i)++alX (erX i)++Y))=true:=fun i L fx Y h1 h2 h3=>by
  obtain⟨d,hd⟩:=hdX i
  rw[List.append_assoc,hd]
  have e:(alX alC++Y).map (·.1)=(alX (.d d)++Y).map (·.1):=rfl
  rw[e] at h1 h2 h3
  refine yK (hpX i) h1 ?_ h3
  rw[List.all_append,h2]
  rfl
 refine Wp.weak (show aD _ (⟨iC [(3,.c (.own 600 0)),(6,.c (.own 601 0)),(27,.c (.d (.fn (.func 162) [.ptr [gX sides] 0])))],bK (iH (stX 0)++alX (erX 0)),620,46,⟨gF,[],false,none⟩⟩:St) from aD.keep rfl ?_ ?_) ?_
 ·have:=hX9 0 [(3,.c (.own 600 0)),(6,.c (.own 601 0)),(27,.c (.d (.fn (.func 162) [.ptr [gX sides] 0])))] ⟨gF,[],false,none⟩ [] rfl rfl rfl
  rw[List.append_nil] at this
  exact this
 ·rw[hX0,hE0]
  (refine rO (ai @List.cons_append.{0} (@List.nil_append.{0})) ?_;try with_reducible exact tt)
 refine Wp.rangeFunc (xs:=xB sides) rfl rfl hsq 500 (fun i=>iH (stX i)++alX (erX i)) (gF++[600,601]) (fun i=>decide (i<kn)) (fun _=>.ret) rfl (fun _=>rfl) rfl (fun i=>?_) rfl (fun i id h=>by cases h) rfl (fun x hx=>by obtain⟨r,_,rfl⟩:=List.mem_map.1 hx;rfl) ?_ ?_ ?_
 ·have:=hX9 i [] ⟨[],[],false,none⟩ [] rfl rfl rfl
  rw[List.append_nil,Bool.and_eq_true] at this
  exact this.1
 ·intro i hi hc o1
  have hi' : i<sides.length:=by rw[hyl] at hi;exact hi
  have hik:i≤kn:=by
   rcases Nat.eq_zero_or_pos i with h|h
   ·omega
   ·have:=of_decide_eq_true (hc (i - 1) (by omega));omega
  have hg:sides[i]? = some sides[i]:=List.getElem?_eq_getElem hi'
  rw[aKo hg hi]
  have hX1:stX i=stS s1 sides i:=by rw[hstX,if_pos hik]
  have hE1:erX i=alC:=by rw[herX,if_pos hik]
  obtain⟨c3,hp3,hcase3⟩:=sI ((hok i hik).bok (by omega)) (hse _ (List.getElem_mem hi'))
  have hat2:=aUe (s:=s1) hg
  have hk9:=hX9 (i+1) [] (fxR (gF++[600,601]) 500)
  by_cases hlt:i<kn
  ·obtain⟨hord,w,hsw⟩:=hgood i hlt hi'
   have hX2:stX (i+1)=stS s1 sides (i+1):=by rw[hstX,if_pos (by omega)]
   have hE2:erX (i+1)=alC:=by rw[herX,if_pos (by omega)]
   have dl:decide (i<kn)=true:=decide_eq_true hlt
   rw[hat2] at hX2
   rw[hsw] at hcase3
   have hcase3:=hcase3.resolve_right (fun h=>by cases h.1)
   obtain⟨_,h3,_⟩:=hcase3
   rw[hord]
   generalize stS s1 sides i=t at *
   generalize sides[i]=x at *
   rw[h3] at c3
   generalize (sideB1 t x).2=t2 at *
   simp only[hX1,hE1]
   (repeat (first|apply Wp.skip|apply Wp.exit|apply Wp.ret|apply Wp.block|apply Wp.label|((first|refine Wp.sreg (fun K hK=>?_)|refine Wp.reg (fun K hK=>?_)|refine Wp.sdrw aI (fun K hK=>?_)|refine Wp.drw aI (fun K hK=>?_)|refine Wp.condG (fun K hK hF=>?_));(repeat (revert hK;intro hK;simp (maxSteps:=2000000) (disch:=omega) only[gE,TY,bV,eJ,fQ,SV.ofD,dS,eQ,fL,fM,bP,fN,eW,eT,fO,eN,fJ,fI,fK,CV.exact,CV.lstOf,CV.lenOf,CV.one,D.one,Value.oneCell',CV.toD0,fT,eB,fW,fG,rD0,gA,fF,fV,reduceCtorEq,reduceIte,Nat.reduceBEq,Nat.reduceEqDiff,Nat.reduceAdd,Nat.reduceMul,Nat.reduceSub,Nat.reduceLT,Nat.reduceLeDiff,Nat.reduceBNe,Int.reduceLE,Int.reduceLT,Int.reduceBEq,Int.reduceBNe,Int.reduceEq,Int.reduceNeg,Int.reduceAdd,Int.reduceSub,Int.reduceToNat,forall_const,SideD.dv,List.cons_append,List.nil_append];(first|(refine hK _ ?_;clear hK K)|(refine⟨by kernel_rfl,hK _ ?_⟩;clear hK K)|(refine hK ?_;clear hK hF K)|(refine hF ?_;clear hK hF K)|refine eA (by assumption) ?_|refine bca (by assumption) ?_)));fail_if_success (revert hK;intro hK))|apply Wp.seq))
   refine⟨rfl,by (refine aY ?_;try with_reducible exact tt),rfl,fun o2=>?_⟩
   (refine gO (ai @List.cons_append.{0} (@List.nil_append.{0})) ?_)
   (first|refine Wp.sregG ?_|refine Wp.regG ?_|(refine Wp.seq ?_;first|refine Wp.sregG ?_|refine Wp.regG ?_))
   (refine aG.at 2 (fun K hK=>?_);simp (maxSteps:=2000000) (disch:=omega) only[gE,TY,bV,eJ,fQ,SV.ofD,dS,eQ,fL,fM,bP,fN,eW,eT,fO,eN,fJ,fI,fK,CV.exact,CV.lstOf,CV.lenOf,CV.one,D.one,Value.oneCell',CV.toD0,fT,eB,fW,fG,rD0,gA,fF,fV,reduceCtorEq,reduceIte,Nat.reduceBEq,Nat.reduceEqDiff,Nat.reduceAdd,Nat.reduceMul,Nat.reduceSub,Nat.reduceLT,Nat.reduceLeDiff,Nat.reduceBNe,Int.reduceLE,Int.reduceLT,Int.reduceBEq,Int.reduceBNe,Int.reduceEq,Int.reduceNeg,Int.reduceAdd,Int.reduceSub,Int.reduceToNat,forall_const,aC,SideD.dv,List.map_cons,List.map_nil,List.cons_append,List.nil_append];refine hK _ ?_;clear hK K)
   (refine aG.call (c3) [] 1040 rfl rfl ?_ ?_;(focus ((refine yL (ai @eP (ai @aC (ai @aW (ai @List.map_cons.{0,0} (ai @List.map_nil.{0,0} (@List.cons_append.{0})))))) ?_;try with_reducible exact tt);done)))
   (refine aG.done (fun K hK=>?_);(refine rOt (ai @aC (ai @cU.eq_1 (ai @cU.eq_2 (ai @aW (ai @cH (ai @List.map_cons.{0,0} (ai @List.map_nil.{0,0} (ai @List.cons_append.{0} (@List.nil_append.{0}))))))))) ?_);refine hK _ ?_;clear hK K)
   (refine cA ?_)
   refine⟨aD.keep rfl (hk9 _ rfl rfl rfl) ?_,.inl ⟨rfl,dl⟩⟩
   (refine rO (ai hX2 (ai hE2 (ai @List.cons_append.{0} (@List.nil_append.{0})))) ?_;try with_reducible exact tt)
  ·obtain rfl:i=kn:=by omega
   have hX2:stX (i+1)=R.2:=by rw[hstX,if_neg (by omega)]
   have hE2:erX (i+1)=aPy R.1:=by rw[herX,if_neg (by omega)]
   have dl:decide (i<i)=false:=by simp
   rw[hg] at hRe
   dsimp only at hRe
   by_cases hord:aL sides i=false
   ·rw[if_pos hord] at hRe
    rw[hRe] at hX2 hE2
    dsimp only at hX2 hE2
    have c6:=cP aV9
    rw[hord]
    generalize stS s1 sides i=t at *
    generalize sides[i]=x at *
    simp only[hX1,hE1]
    (repeat (first|apply Wp.skip|apply Wp.exit|apply Wp.ret|apply Wp.block|apply Wp.label|((first|refine Wp.sreg (fun K hK=>?_)|refine Wp.reg (fun K hK=>?_)|refine Wp.sdrw aI (fun K hK=>?_)|refine Wp.drw aI (fun K hK=>?_)|refine Wp.condG (fun K hK hF=>?_));(repeat (revert hK;intro hK;simp (maxSteps:=2000000) (disch:=omega) only[gE,TY,bV,eJ,fQ,SV.ofD,dS,eQ,fL,fM,bP,fN,eW,eT,fO,eN,fJ,fI,fK,CV.exact,CV.lstOf,CV.lenOf,CV.one,D.one,Value.oneCell',CV.toD0,fT,eB,fW,fG,rD0,gA,fF,fV,reduceCtorEq,reduceIte,Nat.reduceBEq,Nat.reduceEqDiff,Nat.reduceAdd,Nat.reduceMul,Nat.reduceSub,Nat.reduceLT,Nat.reduceLeDiff,Nat.reduceBNe,Int.reduceLE,Int.reduceLT,Int.reduceBEq,Int.reduceBNe,Int.reduceEq,Int.reduceNeg,Int.reduceAdd,Int.reduceSub,Int.reduceToNat,forall_const,SideD.dv,List.cons_append,List.nil_append];(first|(refine hK _ ?_;clear hK K)|(refine⟨by kernel_rfl,hK _ ?_⟩;clear hK K)|(refine hK ?_;clear hK hF K)|(refine hF ?_;clear hK hF K)|refine eA (by assumption) ?_|refine bca (by assumption) ?_)));fail_if_success (revert hK;intro hK))|apply Wp.seq))
    refine⟨rfl,by (refine aY ?_;try with_reducible exact tt),rfl,fun o2=>?_⟩
    (refine gO (ai @List.cons_append.{0} (@List.nil_append.{0})) ?_)
    refine⟨aD.keep rfl (hk9 _ rfl rfl rfl) ?_,.inr ⟨dl,rfl,rfl⟩⟩
    simp (maxSteps:=2000000) (disch:=omega) only[gE,TY,bV,eJ,fQ,SV.ofD,dS,eQ,fL,fM,bP,fN,eW,eT,fO,eN,fJ,fI,fK,CV.exact,CV.lstOf,CV.lenOf,CV.one,D.one,Value.oneCell',CV.toD0,fT,eB,fW,fG,rD0,gA,fF,fV,reduceCtorEq,reduceIte,Nat.reduceBEq,Nat.reduceEqDiff,Nat.reduceAdd,Nat.reduceMul,Nat.reduceSub,Nat.reduceLT,Nat.reduceLeDiff,Nat.reduceBNe,Int.reduceLE,Int.reduceLT,Int.reduceBEq,Int.reduceBNe,Int.reduceEq,Int.reduceNeg,Int.reduceAdd,Int.reduceSub,Int.reduceToNat,forall_const,hX2,hE2,aPy,List.cons_append,List.nil_append]
   ·rw[if_neg hord] at hRe
    have hord:aL sides i=true:=by simpa using hord
    have hsn:=(g3 hi').resolve_left (by rw[hord];simp)
    rw[hsn] at hcase3
    obtain⟨_,m,h3⟩:=hcase3.resolve_left (fun h=>by cases h.1)
    rw[hRe,h3] at hE2
    rw[hRe] at hX2
    rw[hord]
    generalize stS s1 sides i=t at *
    generalize sides[i]=x at *
    rw[h3] at c3
    generalize (sideB1 t x).2=t2 at *
    simp only[hX1,hE1]
    (repeat (first|apply Wp.skip|apply Wp.exit|apply Wp.ret|apply Wp.block|apply Wp.label|((first|refine Wp.sreg (fun K hK=>?_)|refine Wp.reg (fun K hK=>?_)|refine Wp.sdrw aI (fun K hK=>?_)|refine Wp.drw aI (fun K hK=>?_)|refine Wp.condG (fun K hK hF=>?_));(repeat (revert hK;intro hK;simp (maxSteps:=2000000) (disch:=omega) only[gE,TY,bV,eJ,fQ,SV.ofD,dS,eQ,fL,fM,bP,fN,eW,eT,fO,eN,fJ,fI,fK,CV.exact,CV.lstOf,CV.lenOf,CV.one,D.one,Value.oneCell',CV.toD0,fT,eB,fW,fG,rD0,gA,fF,fV,reduceCtorEq,reduceIte,Nat.reduceBEq,Nat.reduceEqDiff,Nat.reduceAdd,Nat.reduceMul,Nat.reduceSub,Nat.reduceLT,Nat.reduceLeDiff,Nat.reduceBNe,Int.reduceLE,Int.reduceLT,Int.reduceBEq,Int.reduceBNe,Int.reduceEq,Int.reduceNeg,Int.reduceAdd,Int.reduceSub,Int.reduceToNat,forall_const,SideD.dv,List.cons_append,List.nil_append];(first|(refine hK _ ?_;clear hK K)|(refine⟨by kernel_rfl,hK _ ?_⟩;clear hK K)|(refine hK ?_;clear hK hF K)|(refine hF ?_;clear hK hF K)|refine eA (by assumption) ?_|refine bca (by assumption) ?_)));fail_if_success (revert hK;intro hK))|apply Wp.seq))
    refine⟨rfl,by (refine aY ?_;try with_reducible exact tt),rfl,fun o2=>?_⟩
    (refine gO (ai @List.cons_append.{0} (@List.nil_append.{0})) ?_)
    (first|refine Wp.sregG ?_|refine Wp.regG ?_|(refine Wp.seq ?_;first|refine Wp.sregG ?_|refine Wp.regG ?_))
    (refine aG.at 2 (fun K hK=>?_);simp (maxSteps:=2000000) (disch:=omega) only[gE,TY,bV,eJ,fQ,SV.ofD,dS,eQ,fL,fM,bP,fN,eW,eT,fO,eN,fJ,fI,fK,CV.exact,CV.lstOf,CV.lenOf,CV.one,D.one,Value.oneCell',CV.toD0,fT,eB,fW,fG,rD0,gA,fF,fV,reduceCtorEq,reduceIte,Nat.reduceBEq,Nat.reduceEqDiff,Nat.reduceAdd,Nat.reduceMul,Nat.reduceSub,Nat.reduceLT,Nat.reduceLeDiff,Nat.reduceBNe,Int.reduceLE,Int.reduceLT,Int.reduceBEq,Int.reduceBNe,Int.reduceEq,Int.reduceNeg,Int.reduceAdd,Int.reduceSub,Int.reduceToNat,forall_const,aC,SideD.dv,List.map_cons,List.map_nil,List.cons_append,List.nil_append];refine hK _ ?_;clear hK K)
    (refine aG.call (c3) [] 1040 rfl rfl ?_ ?_;(focus ((refine yL (ai @eP (ai @aC (ai @aW (ai @List.map_cons.{0,0} (ai @List.map_nil.{0,0} (@List.cons_append.{0})))))) ?_;try with_reducible exact tt);done)))
    (refine aG.done (fun K hK=>?_);(refine rOt (ai @aC (ai @cU.eq_1 (ai @cU.eq_2 (ai @aW (ai @cH (ai @List.map_cons.{0,0} (ai @List.map_nil.{0,0} (ai @List.cons_append.{0} (@List.nil_append.{0}))))))))) ?_);refine hK _ ?_;clear hK K)
    (refine cA ?_)
    refine⟨aD.keep rfl (hk9 _ rfl rfl rfl) ?_,.inr ⟨dl,rfl,rfl⟩⟩
    simp (maxSteps:=2000000) (disch:=omega) only[gE,TY,bV,eJ,fQ,SV.ofD,dS,eQ,fL,fM,bP,fN,eW,eT,fO,eN,fJ,fI,fK,CV.exact,CV.lstOf,CV.lenOf,CV.one,D.one,Value.oneCell',CV.toD0,fT,eB,fW,fG,rD0,gA,fF,fV,reduceCtorEq,reduceIte,Nat.reduceBEq,Nat.reduceEqDiff,Nat.reduceAdd,Nat.reduceMul,Nat.reduceSub,Nat.reduceLT,Nat.reduceLeDiff,Nat.reduceBNe,Int.reduceLE,Int.reduceLT,Int.reduceBEq,Int.reduceBNe,Int.reduceEq,Int.reduceNeg,Int.reduceAdd,Int.reduceSub,Int.reduceToNat,forall_const,hX2,hE2,aPy,List.cons_append,List.nil_append]
 ·intro i hi hc hn
  refine⟨rfl,?_⟩
  have hik:i≤kn:=by
   rcases Nat.eq_zero_or_pos i with h|h
   ·omega
   ·have:=of_decide_eq_true (hc (i - 1) (by omega));omega
  have hge:=of_decide_eq_false hn
  have hX2:stX (i+1)=R.2:=by rw[hstX,if_neg (by omega)]
  have hE2:erX (i+1)=aPy R.1:=by rw[herX,if_neg (by omega)]
  have herr:R.1 = .c (aPy R.1):=by
   rcases hA.out with ⟨_,h⟩|⟨_,m,h⟩
   ·rw[hR] at h;rw[h];rfl
   ·rw[hR] at h;rw[h];rfl
  have herr2:=herr.symm
  refine oD.ret (M':=iH R.2) rfl ?_
  (refine rO (ai @aS.eq_1 (ai @aS.eq_2 (ai hX2 (ai hE2 (ai herr2 (ai @List.cons_append.{0} (@List.nil_append.{0}))))))) ?_;try with_reducible exact tt)
 ·intro hc
  have hkn2:kn=sides.length:=by
   rcases Nat.lt_or_ge kn sides.length with h|h
   ·have:=of_decide_eq_true (hc kn (by omega));omega
   ·omega
  have hXn:stX (xB sides).length=stS s1 sides sides.length:=by rw[hstX,hyl,if_pos (by omega)]
  have hEn:erX (xB sides).length=alC:=by rw[herX,hyl,if_pos (by omega)]
  rw[hkn2,List.getElem?_eq_none (Nat.le_refl _)] at hRe
  dsimp only at hRe
  have hon:=hok sides.length (by omega)
  simp only[hXn,hEn]
  generalize stS s1 sides sides.length=t at *
  have hwl:(pQ t.w).length=t.w.length:=by unfold pQ;rw[List.length_map]
  (refine gO (ai @List.cons_append.{0} (@List.nil_append.{0})) ?_)
  (first|refine Wp.sregG ?_|refine Wp.regG ?_|(refine Wp.seq ?_;first|refine Wp.sregG ?_|refine Wp.regG ?_))
  (refine aG.at 4 (fun K hK=>?_);(refine rO (ai @aC (ai @List.cons_append.{0} (@List.nil_append.{0}))) ?_);refine hK _ ?_;clear hK K)
  refine aG.imapLen rfl 8 (pQ t.w) (rJ t.vc t.w) jG ⟨by kernel_rfl,by kernel_rfl,eY ?_ ?_⟩ ?_
  ·(refine aY ?_;try with_reducible exact tt)
  ·(refine rO (ai @List.cons_append.{0} (@List.nil_append.{0})) ?_;try with_reducible exact tt)
  cases hw:t.w with
  | nil =>
   rw[hw] at hRe
   simp only[List.isEmpty_nil,if_true] at hRe
   subst hRe
   have d0:(pQ []).length=0:=rfl
   (refine aG.done (fun K hK=>?_);(refine rO (ai @aC (ai hw (ai d0 (ai @pQ.eq_1 (ai (@goInt.eq_1) (ai @List.map_nil.{0,0} (@List.length_nil.{0}))))))) ?_);refine hK _ ?_;clear hK K)
   (refine cA ?_)
   refine oD.ret (M':=iH t) rfl ?_
   (refine rO (ai @aS.eq_1 (ai @aS.eq_2 (ai hw (ai @pQ.eq_1 (ai @List.map_nil.{0,0} (ai @List.cons_append.{0} (@List.nil_append.{0}))))))) ?_;try with_reducible exact tt)
  | cons y w =>
   rw[hw] at hRe
   simp only[List.isEmpty_cons,Bool.false_eq_true,if_false] at hRe
   subst hRe
   have d1:decide ((0:Int)<((pQ t.w).length:Int))=true:=decide_eq_true (by rw[hwl,hw,List.length_cons];omega)
   have c6:=cP aVa
   rw[← hw]
   (refine aG.done (fun K hK=>?_);(refine rO (ai @aC (ai d1 ((@goInt.eq_1)))) ?_);refine hK _ ?_;clear hK K)
   (refine cA ?_)
   refine oD.ret (M':=iH t) rfl ?_
   (refine rO (ai @aS.eq_1 (ai @aS.eq_2 (ai @List.cons_append.{0} (@List.nil_append.{0})))) ?_;try with_reducible exact tt)
theorem bBl (σ:St) (h:∀ q,1≤q→q≤8→σ.H (30+q)=none):∀ n,n≤8→∃ H',aD σ { σ with H:=H' }∧(∀ q,1≤q→q≤n→H' (30+q)=some (.rot 62 5 0))∧(∀ i,(∀ q,1≤q→q≤n→i≠30+q)→H' i=σ.H i)
 | 0,_=>⟨σ.H,aD.refl _,fun q h1 h2=>by omega,fun i _=>rfl⟩
 | n+1,hn=>by
  obtain⟨H',w,h1,h2⟩:=bBl σ h n (by omega)
  have hf:H' (30+(n+1))=none:=by rw[h2 _ (fun q q1 q2 e=>by omega)];exact h (n+1) (by omega) hn
  refine⟨upd H' (30+(n+1)) (some (.rot 62 5 0)),w.trans (aD.rtok (σ:={ σ with H:=H' }) 62 5 0 hf),fun q q1 q2=>?_,fun i hi=>?_⟩
  ·by_cases e:q=n+1
   ·subst e;exact aB _ _ _
   ·rw[aA _ _ (by omega)];exact h1 q q1 (by omega)
  ·rw[aA _ _ (hi (n+1) (by omega) (by omega))];exact h2 i (fun q q1 q2=>hi q q1 (by omega))
theorem aRt (σ:St) (h0:σ.H 0=some (.cells [.d (int 0),.d (int 0),iJ,iJ,iJ,.mp 8])) (h9:σ.H 9=none) (h10:σ.H 10=none) (h:∀ q,1≤q→q≤8→σ.H (30+q)=none) (hdf:σ.fx.dfs.contains 0=false) :
  ∃ H',aD σ { σ with H:=H' }∧H' 0=some (.cells [.d (int 0),.d (int 0),.apt 9 5 [] 0,.app 10 3 [],.d (.lst 4 []),.mp 8])∧H' 9=some (.rot 47 5 0)∧H' 10=some (.row 95 3 0)∧(∀ q,1≤q→q≤8→H' (30+q)=some (.rot 62 5 0))∧H' 8=σ.H 8∧H' 2=σ.H 2:=by
 obtain⟨H1,w1,t1,t2⟩:=bBl σ h 8 (Nat.le_refl _)
 have e0:H1 0=some (.cells [.d (int 0),.d (int 0),iJ,iJ,iJ,.mp 8]):=by rw[t2 0 (fun q _ _=>by omega)];exact h0
 have e9:H1 9=none:=by rw[t2 9 (fun q _ _=>by omega)];exact h9
 have e10:H1 10=none:=by rw[t2 10 (fun q _ _=>by omega)];exact h10
 have e8:H1 8=σ.H 8:=t2 8 (fun q _ _=>by omega)
 have e2:H1 2=σ.H 2:=t2 2 (fun q _ _=>by omega)
 have w2:=aD.rotNil (σ:={ σ with H:=H1 }) (id:=0) (k:=2) (τ:=9) 47 5 (by decide) e9 e0 rfl
 obtain⟨H2,hH2⟩:∃ H2,H2=upd (upd H1 9 (some (.rot 47 5 0))) 0 (some (.cells (List.set [.d (int 0),.d (int 0),iJ,iJ,iJ,.mp 8] 2 (.apt 9 5 [] 0)))):=⟨_,rfl⟩
 dsimp only at w2
 rw[← hH2] at w2
 have a0:H2 0=some (.cells [.d (int 0),.d (int 0),.apt 9 5 [] 0,iJ,iJ,.mp 8]):=by rw[hH2];exact aB _ _ _
 have a9:H2 9=some (.rot 47 5 0):=by rw[hH2,aA _ _ (by decide)];exact aB _ _ _
 have ao:∀ i,i≠0→i≠9→H2 i=H1 i:=fun i h1 h2=>by rw[hH2,aA _ _ h1,aA _ _ h2]
 have w3:=aD.nilAppCell (σ:={ σ with H:=H2 }) (id:=0) (k:=3) (τ:=10) 95 3 (by decide) (by show H2 10=none;rw[ao 10 (by decide) (by decide)];exact e10) a0 rfl
 obtain⟨H3,hH3⟩:∃ H3,H3=upd (upd H2 10 (some (.row 95 3 0))) 0 (some (.cells (List.set [.d (int 0),.d (int 0),.apt 9 5 [] 0,iJ,iJ,.mp 8] 3 (.app 10 3 [])))):=⟨_,rfl⟩
 dsimp only at w3
 rw[← hH3] at w3
 have b0:H3 0=some (.cells [.d (int 0),.d (int 0),.apt 9 5 [] 0,.app 10 3 [],iJ,.mp 8]):=by rw[hH3];exact aB _ _ _
 have b10:H3 10=some (.row 95 3 0):=by rw[hH3,aA _ _ (by decide)];exact aB _ _ _
 have bo:∀ i,i≠0→i≠10→H3 i=H2 i:=fun i h1 h2=>by rw[hH3,aA _ _ h1,aA _ _ h2]
 have w4:=aD.cellLe (σ:={ σ with H:=H3 }) (id:=0) (k:=4) (x:=.val (.slice none 0 0)) (y:=.lst 4 []) b0 rfl (qY.nil 4) hdf
 dsimp only at w4
 have co:∀ i,i≠0→upd H3 0 (some (.cells (List.set [.d (int 0),.d (int 0),.apt 9 5 [] 0,.app 10 3 [],iJ,.mp 8] 4 (.d (.lst 4 []))))) i=H3 i:=fun i h1=>aA _ _ h1
 refine⟨_,w1.trans (w2.trans (w3.trans w4)),aB _ _ _,?_,?_,?_,?_,?_⟩
 ·rw[co 9 (by decide),bo 9 (by decide) (by decide)];exact a9
 ·rw[co 10 (by decide)];exact b10
 ·intro q q1 q2
  rw[co _ (by omega),bo _ (by omega) (by omega),ao _ (by omega) (by omega)]
  exact t1 q q1 q2
 ·rw[co 8 (by decide),bo 8 (by decide) (by decide),ao 8 (by decide) (by decide)];exact e8
 ·rw[co 2 (by decide),bo 2 (by decide) (by decide),ao 2 (by decide) (by decide)];exact e2
theorem aQ6 (ρ:Nat→Nat):HE.ren ρ (.imap [] []) = .imap [] []:=rfl
def a14 (main:List EntD) (sides:List SideD):PartD:=(aAt main sides).getD pZ
def e14 (main:List EntD) (sides:List SideD):Int:=if (aAt main sides).isSome then 0 else 70
theorem hP (main:List EntD) (sides:List SideD) (hm:main.length≤900) (hme:∀ e ∈ main,SmallEn e) (hsl:sides.length≤100) (hse:∀ x ∈ sides,∀ y ∈ x.l,SmallEn y) :
  bF Tryz.prog 23 [.lst 18 (main.map EntD.dv),gX sides] (.tup [.agg (a14 main sides).dv,int (e14 main sides)]):=by
 have hA:=aXg (vr:=0) (vt:=fun _=>0) hm hme hsl hse
 have c1:=aY3 0 (fun _=>0) main sides hm hme hsl hse
 obtain⟨hpid,hout⟩:=hA
 generalize allRT (iR 0 (fun _=>0)) main sides=R at *
 obtain⟨r,t⟩:=R
 dsimp only at hpid hout c1
 (refine bF.of_bodyW Tryz.func23 rfl rfl Tryz.ntmps23 Tryz.results23 (by simp) ?_)
 (refine cA ?_)
 (first|refine Wp.sregG ?_|refine Wp.regG ?_|(refine Wp.seq ?_;first|refine Wp.sregG ?_|refine Wp.regG ?_))
 refine aG.imapNew rfl (by kernel_rfl) (by kernel_rfl) (by (refine aY ?_;try with_reducible exact tt)) rfl ?_
 (refine aG.done (fun K hK=>?_);(refine rO (@aC) ?_);refine hK _ ?_;clear hK K)
 refine Wp.weak (aD.ren (oI [(0,2),(8,1)]) (aHw (by decide)) ⟨rfl,rfl⟩) ?_
 refine Wp.weak (show aD _ (⟨iC [(0,.c (.d (.lst 18 (main.map EntD.dv)))),(1,.c (.d (gX sides))),(4,.c (.own 2 0)),(5,vi .i64 0),(6,.c (.own 0 0))],bK [(0,.cells [.d (int 0),.d (int 0),iJ,iJ,iJ,.mp 8]),(2,.cells [.d (int 0),.d (int 0),iJ,iJ,iJ]),(8,.imap [] [])],100,24,0⟩:St) from aD.keep rfl rfl ?_) ?_
 ·(refine yL (ai @eP (ai @Hp.ren.eq_1 (ai (aQ6) (ai @List.map_nil.{0,0} (@List.map_cons.{0,0}))))) ?_;try with_reducible exact tt)
 refine Wp.weakE (aRt _ (by (refine aY ?_;try with_reducible exact tt)) (by (refine aY ?_;try with_reducible exact tt)) (by (refine aY ?_;try with_reducible exact tt)) (fun q q1 q2=>by
  have hq:q=1∨q=2∨q=3∨q=4∨q=5∨q=6∨q=7∨q=8:=by omega
  rcases hq with rfl|rfl|rfl|rfl|rfl|rfl|rfl|rfl<;>rfl) rfl) ?_
 rintro H' ⟨f0,f9,f10,f3,f8,f2⟩
 have f8' : H' 8=some (.imap [] []):=by rw[f8];(refine aY ?_;try with_reducible exact tt)
 have f2' : H' 2=some (.cells [.d (int 0),.d (int 0),iJ,iJ,iJ]):=by rw[f2];(refine aY ?_;try with_reducible exact tt)
 have f31:=f3 1 (by decide) (by decide)
 have f32:=f3 2 (by decide) (by decide)
 have f33:=f3 3 (by decide) (by decide)
 have f34:=f3 4 (by decide) (by decide)
 have f35:=f3 5 (by decide) (by decide)
 have f36:=f3 6 (by decide) (by decide)
 have f37:=f3 7 (by decide) (by decide)
 have f38:=f3 8 (by decide) (by decide)
 simp only[Nat.reduceAdd] at f31 f32 f33 f34 f35 f36 f37 f38
 refine Wp.weak (show aD _ (⟨iC [(0,.c (.d (.lst 18 (main.map EntD.dv)))),(1,.c (.d (gX sides))),(4,.c (.own 2 0)),(5,vi .i64 0),(6,.c (.own 0 0))],bK (iH (iR 0 (fun _=>0))++[(2,.cells [.d (int 0),.d (int 0),iJ,iJ,iJ])]),100,24,0⟩:St) from aD.keep rfl rfl ?_) ?_
 ·simp (maxSteps:=2000000) (disch:=omega) only[gE,TY,bV,eJ,fQ,SV.ofD,dS,eQ,fL,fM,bP,fN,eW,eT,fO,eN,fJ,fI,fK,CV.exact,CV.lstOf,CV.lenOf,CV.one,D.one,Value.oneCell',CV.toD0,fT,eB,fW,fG,rD0,gA,fF,fV,reduceCtorEq,reduceIte,Nat.reduceBEq,Nat.reduceEqDiff,Nat.reduceAdd,Nat.reduceMul,Nat.reduceSub,Nat.reduceLT,Nat.reduceLeDiff,Nat.reduceBNe,Int.reduceLE,Int.reduceLT,Int.reduceBEq,Int.reduceBNe,Int.reduceEq,Int.reduceNeg,Int.reduceAdd,Int.reduceSub,Int.reduceToNat,forall_const,f0,f9,f10,f8',f2',f31,f32,f33,f34,f35,f36,f37,f38,iR,pZ,pQ,rJ,List.map_nil,List.length_nil,List.cons_append,List.nil_append]
 (first|refine Wp.sregG ?_|refine Wp.regG ?_|(refine Wp.seq ?_;first|refine Wp.sregG ?_|refine Wp.regG ?_))
 (refine aG.at 3 (fun K hK=>?_);(refine rO (ai @aC (ai @List.cons_append.{0} (@List.nil_append.{0}))) ?_);refine hK _ ?_;clear hK K)
 (refine aG.call (c1) [] 200 rfl rfl ?_ ?_;(focus ((refine yL (ai @eP (ai @aC (ai @aW (ai @List.map_nil.{0,0} (ai @List.map_cons.{0,0} (@List.cons_append.{0})))))) ?_;try with_reducible exact tt);done)))
 (refine aG.done (fun K hK=>?_);(refine rOt (ai @aC (ai @cU.eq_1 (ai @cU.eq_2 (ai @aW (ai @cH (ai @List.map_cons.{0,0} (ai @List.map_nil.{0,0} (ai @List.cons_append.{0} (@List.nil_append.{0}))))))))) ?_);refine hK _ ?_;clear hK K)
 rcases hout with ⟨h1,rfl⟩|⟨h1,m,rfl⟩
 ·have ea:a14 main sides=t.p:=by unfold a14;rw[h1];rfl
  have ee:e14 main sides=0:=by unfold e14;rw[h1];rfl
  rw[ea,ee]
  (refine cA ?_)
  (refine rO (@PartD.dv.eq_1) ?_)
  exact⟨_,rfl,fun _ _ h=>h⟩
 ·have ea:a14 main sides=pZ:=by unfold a14;rw[h1];rfl
  have ee:e14 main sides=70:=by unfold e14;rw[h1];rfl
  have c2:=aA9 (str m)
  rw[ea,ee]
  (refine cA ?_)
  (refine aY ?_)
  exact⟨_,rfl,qY.tup (.cons (.agg (.cons (.refl _) (.cons (.refl _) (.cons (.nil 5) (.cons (.nil 3) (.cons (.nil 4) .nil)))))) (.cons (.refl _) .nil))⟩
end Go.Proofs.YtpklhnpchhaccaaGreatDoor
