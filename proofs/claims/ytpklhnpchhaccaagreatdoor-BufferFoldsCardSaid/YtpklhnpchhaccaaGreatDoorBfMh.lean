/- The abstract machine (BfY, GfD, BfZ, BfZa, BfFo). -/
import Derived.Test.YtpklhnpchhaccaaGreatDoorBfJ
import Derived.Test.YtpklhnpchhaccaaGreatDoorBfMd
import Derived.Test.YtpklhnpchhaccaaGreatDoorBfT
import Derived.Test.YtpklhnpchhaccaaGreatDoorMacD
namespace Go.Proofs.YtpklhnpchhaccaaGreatDoor
open Go Go.RowKit
set_option maxHeartbeats 16000000
set_option maxRecDepth 100000
set_option linter.unusedVariables false
set_option linter.unusedSimpArgs false
open Classical in
noncomputable def nextB1 (s:BufS) (e:EntD):SV × BufS:=if h:BokB s∧SmallEn e then ⟨(uO s e h.1 h.2).choose,(uO s e h.1 h.2).choose_spec.choose⟩ else (lJ,s)
theorem rN {s:BufS} {e:EntD} (h:BokB s) (he:SmallEn e):FunG Tryz.prog 102 [.c (.own 0 0),jG e] gD (bI (iO s)) (nextB1 s e).1 gD (bI (iO (nextB1 s e).2))∧iN (nextB1 s e).2.w ∧
  ((yL s.p s.w e=some ((nextB1 s e).2.p,(nextB1 s e).2.w)∧(nextB1 s e).1=lJ∧(nextB1 s e).2.vc=(nextB1 s e).2.vt)∨(yL s.p s.w e=none∧∃ m,(nextB1 s e).1=jH m)):=by
 have e1:nextB1 s e=⟨(uO s e h he).choose,(uO s e h he).choose_spec.choose⟩:=dif_pos ⟨h,he⟩
 rw[e1]
 exact (uO s e h he).choose_spec.choose_spec
open Classical in
noncomputable def sideB1 (s:BufS) (x:SideD):SV × BufS:=if h:BokB s∧∀ y ∈ x.l,SmallEn y then ⟨(uP s x h.1 h.2).choose,(uP s x h.1 h.2).choose_spec.choose⟩ else (lJ,s)
theorem rS {s:BufS} {x:SideD} (h:BokB s) (he:∀ y ∈ x.l,SmallEn y):FunG Tryz.prog 105 [.c (.own 0 0),aNj x] gD (bI (iO s)) (sideB1 s x).1 gD (bI (iO (sideB1 s x).2))∧iN (sideB1 s x).2.w ∧
  ((gT s.p s.w x=some ((sideB1 s x).2.p,(sideB1 s x).2.w)∧(sideB1 s x).1=lJ∧(sideB1 s x).2.vc=(sideB1 s x).2.vt)∨(gT s.p s.w x=none∧∃ m,(sideB1 s x).1=jH m)):=by
 have e1:sideB1 s x=⟨(uP s x h he).choose,(uP s x h he).choose_spec.choose⟩:=dif_pos ⟨h,he⟩
 rw[e1]
 exact (uP s x h he).choose_spec.choose_spec
noncomputable def stB (s:BufS) (l:List EntD):Nat→BufS
 | 0=>s
 | k+1=>match l[k]? with
  | some e=>(nextB1 (stB s l k) e).2
  | none=>stB s l k
noncomputable def stS (s:BufS) (l:List SideD):Nat→BufS
 | 0=>s
 | k+1=>match l[k]? with
  | some x=>(sideB1 (stS s l k) x).2
  | none=>stS s l k
theorem aTc {s:BufS} {l:List EntD} {k:Nat} {e:EntD} (h:l[k]? = some e):stB s l (k+1)=(nextB1 (stB s l k) e).2:=by simp only[stB,h]
theorem aTd {s:BufS} {l:List SideD} {k:Nat} {e:SideD} (h:l[k]? = some e):stS s l (k+1)=(sideB1 (stS s l k) e).2:=by simp only[stS,h]
structure StOk (k:Nat) (t:BufS) (u:RefS):Prop where
 p:t.p=u.p
 w:t.w=u.w
 v:t.vc=t.vt
 inv:LogI k u
theorem StOk.bok {k:Nat} {t:BufS} {u:RefS} (h:StOk k t u) (hk:k≤1000):BokB t:=⟨by rw[h.w];exact h.inv.ow,h.v,by rw[h.p,h.w];exact h.inv.f.sm hk⟩
def iZ (vr:Nat) (vt:Nat→Nat):BufS:=⟨pZ,[],vr,vt,vt⟩
theorem wZ {l:List EntD} {s u:RefS} {k:Nat} (hk:k<l.length) (h:eG s (l.take k)=some u):eG s (l.take (k+1))=bF u l[k]:=by
 rw[List.take_succ_eq_append_getElem hk,rH,h]
 show (match bF u l[k] with|none=>none|some t=>some t)=_
 cases bF u l[k]<;>rfl
theorem aGw {vr:Nat} {vt:Nat→Nat} {l:List EntD} (hl:l.length≤900) (he:∀ e ∈ l,SmallEn e):∀ k,k≤l.length→∀ u,eG ref0 (l.take k)=some u→StOk k (stB (iZ vr vt) l k) u
 | 0,_,u,h=>by rw[List.take_zero] at h;cases h;exact⟨rfl,rfl,rfl,aL8⟩
 | k+1,hk,u,h=>by
  have hkl:k<l.length:=by omega
  cases hq:eG ref0 (l.take k) with
  | none =>
   rw[List.take_succ_eq_append_getElem hkl,rH,hq] at h;cases h
  | some v =>
   have ih:=aGw (vr:=vr) (vt:=vt) hl he k (by omega) v hq
   rw[wZ hkl hq] at h
   rw[aTc (List.getElem?_eq_getElem hkl)]
   have hb:=ih.bok (by omega)
   obtain⟨_,_,hc⟩:=rN hb (he _ (List.getElem_mem hkl))
   have hn:=vJ v l[k] ih.inv.ri ih.inv.f.opens
   rw[h] at hn
   rw[ih.p,ih.w,hn] at hc
   rcases hc with ⟨c1,c2,c3⟩|⟨c1,_⟩
   ·have c1:=Option.some.inj c1
    exact⟨(congrArg Prod.fst c1).symm,(congrArg Prod.snd c1).symm,c3,aEa ih.inv h⟩
   ·cases c1
structure SdOk (s:BufS) (k:Nat) (t:BufS):Prop where
 w:OkW t.w
 v:t.vc=t.vt
 fin:0≤t.p.fin∧t.p.fin≤1048576
 opens:t.p.opens.length≤k
 rows:t.p.rows.length≤50000
 prods:t.p.prods.length≤9000+8*k
 seen:∀ x ∈ t.p.prods,x.seen.length≤100
 wts:t.w.length≤1000
theorem SdOk.bok {s t:BufS} {k:Nat} (h:SdOk s k t) (hk:k≤100):BokB t:=by
 have:=h.opens
 have:=h.rows
 have:=h.prods
 exact⟨h.w,h.v,⟨h.fin,by omega,by omega,by omega,h.seen,h.wts,h.w.bats,h.w.recs⟩⟩
theorem aQ4 {s t:BufS} {k:Nat} {x:SideD} {p:PartD} {w:eE} {t2:BufS} (h:SdOk s k t) (hs:gT t.p t.w x=some (p,w)) (hp:t2.p=p) (hw:t2.w=w) (hv:t2.vc=t2.vt):SdOk s (k+1) t2:=by
 rw[aNi] at hs
 split at hs
 ·cases hs
 rename_i hlen
 cases hq:bV x t.p.prods x.l with
 | none=>rw[hq] at hs;cases hs
 | some qs =>
  rw[hq] at hs
  dsimp only at hs
  split at hs
  rotate_left
  ·cases hs
  have hs:=Option.some.inj hs
  have h1:=congrArg Prod.fst hs
  have h2:=congrArg Prod.snd hs
  dsimp only at h1 h2
  obtain⟨g1,g2⟩:=rT x.l t.p.prods qs (9000+8*k) h.prods h.seen hq
  have ho:=h.opens
  refine⟨by rw[hw,← h2];exact aBc h.w _,hv,by rw[hp,← h1];exact h.fin,by rw[hp,← h1];simp;omega,by rw[hp,← h1];exact h.rows,by rw[hp,← h1];show qs.length≤_;omega,by rw[hp,← h1];exact g2,?_⟩
  rw[hw,← h2]
  have:=h.wts
  unfold cU
  split
  ·have:=List.length_eraseIdx_le t.w (wI t.w x.pid);omega
  ·exact this
theorem aC7 {s:BufS} {l:List SideD} (h0:SdOk s 0 s) (hl:l.length≤100) (he:∀ x ∈ l,∀ y ∈ x.l,SmallEn y):∀ k,k≤l.length→∀ u,dX l (s.p,s.w) 0 (l.take k)=some u→u=((stS s l k).p,(stS s l k).w)∧SdOk s k (stS s l k)
 | 0,_,u,h=>by rw[List.take_zero] at h;cases h;exact⟨rfl,h0⟩
 | k+1,hk,u,h=>by
  have hkl:k<l.length:=by omega
  rw[List.take_succ_eq_append_getElem hkl,qE] at h
  cases hq:dX l (s.p,s.w) 0 (l.take k) with
  | none=>rw[hq] at h;cases h
  | some v =>
   rw[hq] at h
   obtain⟨e1,ih⟩:=aC7 h0 hl he k (by omega) v hq
   subst e1
   have hb:=ih.bok (by omega)
   obtain⟨_,_,hc⟩:=rS hb (he _ (List.getElem_mem hkl))
   rw[aTd (List.getElem?_eq_getElem hkl)]
   have h:(if aN l (0+(l.take k).length)=false then none else match gT (stS s l k).p (stS s l k).w l[k] with
    | none=>none
    | some t=>some t)=some u:=h
   split at h
   ·cases h
   rcases hc with ⟨c1,c2,c3⟩|⟨c1,_⟩
   ·rw[c1] at h
    have h:=(Option.some.inj h).symm
    exact⟨h,aQ4 ih c1 rfl rfl c3⟩
   ·rw[c1] at h;cases h
def aL9:RefS→List EntD→Nat
 | _,[]=>0
 | s,e::l=>match bF s e with
  | none=>0
  | some t=>aL9 t l+1
theorem wY:∀ (l:List EntD) (s u:RefS) (k:Nat) (hk:k<l.length),eG s (l.take k)=some u→bF u l[k]=none→aL9 s l=k∧eG s l=none
 | [],_,_,k,hk,_,_=>by simp at hk
 | e::l,s,u,0,_,h,h2=>by
  cases h
  have h2:bF s e=none:=h2
  exact⟨by simp only[aL9,h2],by simp only[eG,h2]⟩
 | e::l,s,u,k+1,hk,h,h2=>by
  cases hs:bF s e with
  | none =>
   have h:(match bF s e with|none=>none|some t=>eG t (l.take k))=some u:=h
   rw[hs] at h;cases h
  | some t =>
   have h:(match bF s e with|none=>none|some t=>eG t (l.take k))=some u:=h
   rw[hs] at h
   obtain⟨q1,q2⟩:=wY l t u k (by simpa using hk) h (by simpa using h2)
   exact⟨by simp only[aL9,hs,q1],by simp only[eG,hs,q2]⟩
def cK (all:List SideD):PartD × eE→Nat→List SideD→Nat
 | _,_,[]=>0
 | s,k,x::l=>if aN all k=false then 0 else match gT s.1 s.2 x with
  | none=>0
  | some t=>cK all t (k+1) l+1
theorem yQ (all:List SideD):∀ (l:List SideD) (s u:PartD × eE) (j k:Nat) (hk:k<l.length),dX all s j (l.take k)=some u→(aN all (j+k)=false∨gT u.1 u.2 l[k]=none)→cK all s j l=k∧dX all s j l=none
 | [],_,_,_,k,hk,_,_=>by simp at hk
 | x::l,s,u,j,0,_,h,h2=>by
  cases h
  rw[Nat.add_zero] at h2
  have h2:aN all j=false∨gT s.1 s.2 x=none:=h2
  rcases h2 with h2|h2
  ·exact⟨by simp only[cK,h2,if_true],by simp only[dX,h2,if_true]⟩
  ·exact⟨by simp only[cK,h2];split<;>rfl,by simp only[dX,h2];split<;>rfl⟩
 | x::l,s,u,j,k+1,hk,h,h2=>by
  have h:(if aN all j=false then none else match gT s.1 s.2 x with
   | none=>none
   | some t=>dX all t (j+1) (l.take k))=some u:=h
  split at h
  ·cases h
  rename_i h3
  cases hs:gT s.1 s.2 x with
  | none=>rw[hs] at h;cases h
  | some t =>
   rw[hs] at h
   obtain⟨q1,q2⟩:=yQ all l t u (j+1) k (by simpa using hk) h (by rw[show j+1+k=j+(k+1) by omega];simpa using h2)
   exact⟨by simp only[cK,hs,q1,h3];rw[if_neg (by simp)],by simp only[dX,hs,q2,h3];rw[if_neg (by simp)]⟩
theorem rV (all:List SideD):∀ (l:List SideD) (s u:PartD × eE) (j:Nat),dX all s j l=some u→∀ k,k≤l.length→∃ v,dX all s j (l.take k)=some v:=by
 intro l s u j h k hk
 rw[← List.take_append_drop k l,qE] at h
 cases hq:dX all s j (l.take k) with
 | none=>rw[hq] at h;cases h
 | some v=>exact⟨v,rfl⟩
theorem rU (all:List SideD):∀ (l:List SideD) (s:PartD × eE) (j:Nat),cK all s j l≤l.length∧(∃ u,dX all s j (l.take (cK all s j l))=some u∧∀ (h:cK all s j l<l.length),aN all (j+cK all s j l)=false∨gT u.1 u.2 l[cK all s j l]=none)
 | [],s,j=>⟨Nat.le_refl _,s,rfl,fun h=>by simp at h⟩
 | x::l,s,j=>by
  by_cases h1:aN all j=false
  ·have e:cK all s j (x::l)=0:=by simp only[cK,h1,if_true]
   simp only[e]
   exact⟨Nat.zero_le _,s,rfl,fun _=>.inl h1⟩
  cases hs:gT s.1 s.2 x with
  | none =>
   have e:cK all s j (x::l)=0:=by simp only[cK,hs];split<;>rfl
   simp only[e]
   exact⟨Nat.zero_le _,s,rfl,fun _=>.inr hs⟩
  | some t =>
   have e:cK all s j (x::l)=cK all t (j+1) l+1:=by simp only[cK,hs];rw[if_neg h1]
   simp only[e]
   obtain⟨g1,u,g2,g3⟩:=rU all l t (j+1)
   refine⟨by rw[List.length_cons];omega,u,?_,fun h=>?_⟩
   ·rw[List.take_succ_cons]
    show (if aN all j=false then none else match gT s.1 s.2 x with
     | none=>none
     | some t=>dX all t (j+1) (l.take _))=_
    rw[if_neg h1,hs];exact g2
   ·have:=g3 (by simpa using h)
    rw[show j+(cK all t (j+1) l+1)=j+1+cK all t (j+1) l by omega]
    simpa using this
end Go.Proofs.YtpklhnpchhaccaaGreatDoor
namespace Go.Proofs.YtpklhnpchhaccaaGreatDoor
open Go Go.RowKit
set_option linter.unusedVariables false
set_option linter.unusedSimpArgs false
theorem AgO.retG {P:Program} {σ:St} {H' : Hp} {fx:Fx} (h:AgO σ.H H') (rs:List ResultVar):retG P { σ with H:=H',fx:=fx } rs=retG P σ rs:=by
 have e:Go.Proofs.YtpklhnpchhaccaaGreatDoor.retV P { σ with H:=H',fx:=fx }=Go.Proofs.YtpklhnpchhaccaaGreatDoor.retV P σ:=funext fun x=>h.retV x
 unfold Go.Proofs.YtpklhnpchhaccaaGreatDoor.retG
 split
 ·rfl
 ·rename_i a t
  show (match eA P t H' (σ.env a) with|some r=>some r.v|none=>none)=_
  rw[h.load]<;>rfl
 ·rw[e]<;>rfl
def aE5:Option HE→Bool
 | some (.obj _)=>true
 | _=>false
def aQm (P:Program) (rs:List ResultVar) (r:SV) (ks' : List Nat) (B' : Hp) (σ:St):Prop:=∃ σ',aD σ σ'∧(∀ k,ks'.contains k=true→aE5 (B' k)=false)∧retG P σ' rs=some r∧(∀ k,ks'.contains k=true→σ'.H k=B' k)
def nZ (P:Program) (rs:List ResultVar) (r:SV) (ks' : List Nat) (B' : Hp):Exit→St→Prop
 | .normal,σ=>aQm P rs r ks' B' σ
 | .ret,σ=>aQm P rs r ks' B' σ
 | _,_=>False
theorem FunG.of_bodyD {P : Program} {f : FuncId} {fn : Func} {c : Code} {args : List SV} {ks ks' : List Nat} {B B' : Hp} {r : SV} {n : Nat} {rs : Array ResultVar} (hf : P.funcs[f]? = some fn) (hb : fn.body = some c) (hn : (fn.name == "runtime.NumGoroutine") = false) (hnt : fn.ntmps = n) (hrs : fn.results = rs) (hle : args.length ≤ n)
  (sup:∀ i,ks.contains i=false→B i=none) (sup' : ∀ i,ks'.contains i=false→B' i=none) (sub:∀ i,ks.contains i=true→ks'.contains i=true) (cl:gX ks B) (cl' : gX ks' B') (ids:∀ a ∈ args,∀ i ∈ a.ids,ks.contains i=true) (rids:∀ i ∈ r.ids,ks'.contains i=true)
  (h:Wp P c (pR args ks B n) (nZ P rs.toList r ks' B')):FunG P f args ks B r ks' B':=by
 subst hnt hrs
 refine⟨by unfold iY;rw[hf];simp only[hn,hb];rfl,sup,sup',sub,cl,ids,fun g w vs hh hL=>?_⟩
 have hl:=hL.1
 refine callsIn_wide.1 (callsIn_of_wp_marks (F:=Fence.wide) (n:=0) hf hb trivial (wpIn_mono (h (mZ w g ks g B) g.K g _ w ⟨hh,?_,?_,trivial,rfl,rfl,List.nodup_nil,fun q hq=>by cases hq⟩) ?_))
 ·intro t
  rw[uZ,pS]
  cases ht:args[t]? with
  | none=>trivial
  | some x =>
   have hlt:t<vs.length:=by have:=(List.getElem?_eq_some_iff.1 ht).1;omega
   have:(vs.toArray++Array.replicate (fn.ntmps - vs.toArray.size) undef).getD t undef=vs[t]:=by
    rw[Array.getD_eq_getD_getElem?,Array.getElem?_append_left (by simpa using hlt)];simp[hlt]
   rw[this]
   exact hL.2 t x _ ht (List.getElem?_eq_getElem hlt)
 ·rw[sF];simp;omega
 ·rintro e a' w' ⟨g',σ',hr,hQ⟩
  have fin:aQm P fn.results.toList r ks' B' σ'→LeavesInM Fence.wide 0 P fn a'.tmps (fun e w'=>∃ v g',e = .returned v∧bH g' B' r v∧RelH (mZ w g ks g B) g.K g' B' w') a'.defers .returning w':=by
   rintro⟨σ2,hw,hno,hret,hB⟩
   obtain⟨g2,hr2⟩:=hw _ _ _ _ _ hr
   refine wX _ _ g2 σ2 a' w' hr2 rfl rfl (fun g3 H3 a3 w3 hr3 hag ht=>?_)
   obtain⟨v,hv,hrep⟩:=aBt hr3 (fn:=fn) ((hag.retG _).trans hret)
   have hB3:∀ k,ks'.contains k=true→H3 k=B' k:=fun k hk=>by
    rcases hag k with e|⟨o,o',e1,e2⟩
    ·exact e.trans (hB k hk)
    ·have:=hno k hk
     rw[← hB k hk,e1] at this
     cases this
   have hcl:gX ks' H3:=fun k cs hk hH=>cl' k cs hk (by rw[← hB3 k hk];exact hH)
   have hm:=hr3.mem.drop ks' (fun i hi=>by have:i ∈ ks:=hi;exact sub i (by simpa using this)) hcl
   have hon:H3.on ks' = B':=by
    funext i
    cases hc:ks'.contains i with
    | true=>rw[Hp.on_in hc];exact hB3 i hc
    | false=>rw[Hp.on_out hc,sup' i hc]
   have hrep':=bH.on (ks:=ks') rids hrep
   dsimp only at hm hrep'
   rw[hon] at hm hrep'
   rw[ht] at hv
   exact⟨v,hv,v,_,rfl,hrep',hm⟩
  cases e with
  | normal=>exact fin hQ
  | ret=>exact fin hQ
  | _=>exact hQ.elim
theorem FunG.of_bodyHD {P : Program} {f : FuncId} {fn : Func} {c : Code} {args : List SV} {ks ks' : List Nat} {M M' : List (Nat × HE)} {r : SV} {n : Nat} {rs : Array ResultVar} (hks : M.map (·.1) = ks) (hks' : M'.map (·.1) = ks') (hf : P.funcs[f]? = some fn) (hb : fn.body = some c) (hn : (fn.name == "runtime.NumGoroutine") = false) (hnt : fn.ntmps = n) (hrs : fn.results = rs) (hle : args.length ≤ n)
  (hok:okG args r M M' = true) (h:Wp P c (pR args ks (bI M) n) (nZ P rs.toList r ks' (bI M'))):FunG P f args ks (bI M) r ks' (bI M'):=by
 subst hks hks'
 simp only[okG,Bool.and_eq_true] at hok
 obtain⟨h1,h2,h3,h4,h5⟩:=hok
 exact FunG.of_bodyD hf hb hn hnt hrs hle (vB M) (vB M') (fun i hi=>pE h3 i (by simpa using hi)) (pM h1) (pM h2) (fun a ha=>pE (List.all_eq_true.1 h4 a ha)) (pE h5) h
theorem aE6 {M:List (Nat × HE)} (h:(M.all fun p=>!aE5 (some p.2))=true) (k:Nat):aE5 (bI M k)=false:=by
 show aE5 (M.lookup k)=false
 cases hm:M.lookup k with
 | none=>rfl
 | some x =>
  have:=List.all_eq_true.1 h _ (dJ hm)
  simpa using this
theorem nZ.ret {P:Program} {rs:List ResultVar} {r:SV} {ks' : List Nat} {M' : List (Nat × HE)} {σ:St} (hno:(M'.all fun p=>!aE5 (some p.2))=true) (h:retG P σ rs=some r∧aJ σ.H (bI M') ks'):nZ P rs r ks' (bI M') .ret σ:=⟨σ,aD.refl _,fun k _=>aE6 hno k,h.1,oN h.2⟩
theorem nZ.normal {P:Program} {rs:List ResultVar} {r:SV} {ks' : List Nat} {M' : List (Nat × HE)} {σ:St} (hno:(M'.all fun p=>!aE5 (some p.2))=true) (h:retG P σ rs=some r∧aJ σ.H (bI M') ks'):nZ P rs r ks' (bI M') .normal σ:=⟨σ,aD.refl _,fun k _=>aE6 hno k,h.1,oN h.2⟩
set_option maxHeartbeats 16000000
set_option maxRecDepth 100000
abbrev aUa:List UInt8:=[116,104,101,32,111,114,100,101,114,32,111,102,32,115,105,100,101,32,102,105,108,101,115]
abbrev aUb:List UInt8:=[99,111,112,105,101,115,32,116,104,97,116,32,119,97,105,116,32,102,111,114,32,110,111,116,104,105,110,103]
theorem xH {L:List (Nat × SV)} {s:BufS} {X:List (Nat × HE)} {fx:Fx} (h:iN s.w) (hL:(L.all fun p=>p.2.ids.all fun i=>(gD++X.map (·.1)).contains i)=true) (hX:(X.all fun p=>p.2.ids.all fun i=>(gD++X.map (·.1)).contains i)=true)
  (hf:((fx.lent++fx.dfs).all fun i=>(gD++X.map (·.1)).contains i)=true):(gK L (iO s++X) && dW fx (iO s++X))=true:=by
 have e1:(iO s++X).map (·.1)=gD++X.map (·.1):=by rw[List.map_append];rfl
 have h1:=aLp s h
 have h2:((iO s).all fun p=>p.2.ids.all fun i=>(gD++X.map (·.1)).contains i)=true:=by
  rw[List.all_eq_true]
  intro p hp
  have h3:=List.all_eq_true.1 h1 p hp
  rw[List.all_eq_true] at h3 ⊢
  intro i hi
  have:=h3 i hi
  simp only[List.contains_iff_mem,List.mem_append] at this ⊢
  exact .inl this
 unfold gK dW
 rw[e1,hL,hf,List.all_append,h2,hX];rfl
abbrev alX (c:CV):List (Nat × HE):=[(600,.cells [.own 0 0]),(601,.cells [c])]
abbrev alC:CV:=.d (.val .nilIface)
def aOy:SV→CV
 | .c c=>c
 | .agg _=>.any
noncomputable def allRT (s0:BufS) (main:List EntD) (sides:List SideD):SV × BufS :=
 match eG ref0 main with
 | none=>(match main[aL9 ref0 main]? with
  | some e=>nextB1 (stB s0 main (aL9 ref0 main)) e
  | none=>(lJ,s0))
 | some _ =>
  (match sides[cK sides ((stB s0 main main.length).p,(stB s0 main main.length).w) 0 sides]? with
  | some x=>if aN sides (cK sides ((stB s0 main main.length).p,(stB s0 main main.length).w) 0 sides)=false then (jH aUa,stS (stB s0 main main.length) sides (cK sides ((stB s0 main main.length).p,(stB s0 main main.length).w) 0 sides)) else sideB1 (stS (stB s0 main main.length) sides (cK sides ((stB s0 main main.length).p,(stB s0 main main.length).w) 0 sides)) x
  | none=>if (stS (stB s0 main main.length) sides sides.length).w.isEmpty then (lJ,stS (stB s0 main main.length) sides sides.length) else (jH aUb,stS (stB s0 main main.length) sides sides.length))
theorem aWm {k:Nat} {s:BufS} {u:RefS} (h:StOk k s u) (hk:k≤900):SdOk s 0 s:=by
 have h1:=h.inv.f.rows
 have h2:=h.inv.f.prods
 have h3:=h.inv.f.wts
 refine⟨by rw[h.w];exact h.inv.ow,h.v,by rw[h.p];exact h.inv.f.fin,by rw[h.p,h.inv.f.opens];exact Nat.le_refl _,by rw[h.p];omega,by rw[h.p];omega,by rw[h.p];exact h.inv.f.seen,by rw[h.w];omega⟩
structure AllOk (s0:BufS) (main:List EntD) (sides:List SideD):Prop where
 pid:iN (allRT s0 main sides).2.w
 out:(zV main sides=some (allRT s0 main sides).2.p∧(allRT s0 main sides).1=lJ)∨(zV main sides=none∧∃ m,(allRT s0 main sides).1=jH m)
theorem aRm (main:List EntD) (h:eG ref0 main=none):∃ k,∃ hk:k<main.length,∃ u,eG ref0 (main.take k)=some u∧bF u main[k]=none∧aL9 ref0 main=k:=by
 have key:∀ n,n≤main.length→eG ref0 (main.take n)=none→∃ k,∃ hk:k<main.length,∃ u,eG ref0 (main.take k)=some u∧bF u main[k]=none:=by
  intro n
  induction n with
  | zero=>intro _ h;rw[List.take_zero] at h;cases h
  | succ n ih =>
   intro hn h
   cases hq:eG ref0 (main.take n) with
   | none=>exact ih (by omega) hq
   | some u =>
    rw[wZ (by omega) hq] at h
    exact⟨n,by omega,u,hq,h⟩
 obtain⟨k,hk,u,h1,h2⟩:=key main.length (Nat.le_refl _) (by rw[List.take_length];exact h)
 exact⟨k,hk,u,h1,h2,(wY main ref0 u k hk h1 h2).1⟩
theorem aVj {t:BufS} {k:Nat} {u:RefS} {e:EntD} (h:StOk k t u) (hk:k≤1000) (he:SmallEn e) (hs:bF u e=none):iN (nextB1 t e).2.w∧∃ m,(nextB1 t e).1=jH m:=by
 obtain⟨_,h2,hc⟩:=rN (h.bok hk) he
 have hn:=vJ u e h.inv.ri h.inv.f.opens
 rw[hs] at hn
 rw[h.p,h.w,hn] at hc
 rcases hc with ⟨c1,_⟩|⟨_,c2⟩
 ·cases c1
 ·exact⟨h2,c2⟩
theorem aWe {vr:Nat} {vt:Nat→Nat} {main:List EntD} {sides:List SideD} (hm:main.length≤900) (hme:∀ e ∈ main,SmallEn e) (hsl:sides.length≤100) (hse:∀ x ∈ sides,∀ y ∈ x.l,SmallEn y):AllOk (iZ vr vt) main sides:=by
 obtain⟨s0,hs0⟩:∃ s0,s0=iZ vr vt:=⟨_,rfl⟩
 cases hl:eG ref0 main with
 | none =>
  obtain⟨k,hk,u,h1,h2,h3⟩:=aRm main hl
  have hst:=aGw (vr:=vr) (vt:=vt) hm hme k (by omega) u h1
  obtain⟨q1,q2⟩:=aVj hst (by omega) (hme _ (List.getElem_mem hk)) h2
  have e1:allRT (iZ vr vt) main sides=nextB1 (stB (iZ vr vt) main k) main[k]:=by
   unfold allRT;rw[hl];dsimp only;rw[h3,List.getElem?_eq_getElem hk]
  exact⟨by rw[e1];exact q1,.inr ⟨by unfold zV;rw[hl],by rw[e1];exact q2⟩⟩
 | some u =>
  have hst:=aGw (vr:=vr) (vt:=vt) hm hme main.length (Nat.le_refl _) u (by rw[List.take_length];exact hl)
  have h0:=aWm hst hm
  have e0:allRT (iZ vr vt) main sides=(match sides[cK sides ((stB (iZ vr vt) main main.length).p,(stB (iZ vr vt) main main.length).w) 0 sides]? with
   | some x=>if aN sides (cK sides ((stB (iZ vr vt) main main.length).p,(stB (iZ vr vt) main main.length).w) 0 sides)=false then (jH aUa,stS (stB (iZ vr vt) main main.length) sides (cK sides ((stB (iZ vr vt) main main.length).p,(stB (iZ vr vt) main main.length).w) 0 sides)) else sideB1 (stS (stB (iZ vr vt) main main.length) sides (cK sides ((stB (iZ vr vt) main main.length).p,(stB (iZ vr vt) main main.length).w) 0 sides)) x
   | none=>if (stS (stB (iZ vr vt) main main.length) sides sides.length).w.isEmpty then (lJ,stS (stB (iZ vr vt) main main.length) sides sides.length) else (jH aUb,stS (stB (iZ vr vt) main main.length) sides sides.length)):=by
   unfold allRT;rw[hl]
  have ea:zV main sides=match dX sides ((stB (iZ vr vt) main main.length).p,(stB (iZ vr vt) main main.length).w) 0 sides with
   | none=>none
   | some t=>if t.2.isEmpty then some t.1 else none:=by
   unfold zV;rw[hl,hst.p,hst.w]<;>rfl
  generalize stB (iZ vr vt) main main.length=s1 at *
  obtain⟨K,hK⟩:∃ K,K=cK sides (s1.p,s1.w) 0 sides:=⟨_,rfl⟩
  obtain⟨g1,v,g2,g3⟩:=rU sides sides (s1.p,s1.w) 0
  simp only[Nat.zero_add] at g3
  rw[← hK] at e0
  simp only[← hK] at g1 g2 g3
  obtain⟨hv,hok⟩:=aC7 h0 hsl hse K g1 v g2
  subst hv
  rcases Nat.lt_or_ge K sides.length with hlt|hge
  ·rw[List.getElem?_eq_getElem hlt] at e0
   dsimp only at e0 g3
   have hnone:dX sides (s1.p,s1.w) 0 sides=none:=(yQ sides sides _ _ 0 K hlt g2 (by rw[Nat.zero_add];exact g3 hlt)).2
   rw[hnone] at ea
   by_cases ho:aN sides K=false
   ·rw[if_pos ho] at e0
    exact⟨by rw[e0];exact hok.w.pid,.inr ⟨ea,_,by rw[e0]⟩⟩
   ·rw[if_neg ho] at e0
    have hsn:=(g3 hlt).resolve_left ho
    obtain⟨_,q2,hc⟩:=rS (hok.bok (by omega)) (hse _ (List.getElem_mem hlt))
    rw[hsn] at hc
    rcases hc with ⟨c1,_⟩|⟨_,c2⟩
    ·cases c1
    ·exact⟨by rw[e0];exact q2,.inr ⟨ea,by rw[e0];exact c2⟩⟩
  ·have hKe:K=sides.length:=by omega
   rw[List.getElem?_eq_none (by omega)] at e0
   dsimp only at e0
   rw[hKe,List.take_length] at g2
   rw[hKe] at hok
   rw[g2] at ea
   dsimp only at ea
   cases hw:(stS s1 sides sides.length).w.isEmpty with
   | true =>
    rw[hw,if_pos rfl] at e0 ea
    exact⟨by rw[e0];exact hok.w.pid,.inl ⟨by rw[e0];exact ea,by rw[e0]⟩⟩
   | false =>
    rw[hw,if_neg Bool.false_ne_true] at e0 ea
    exact⟨by rw[e0];exact hok.w.pid,.inr ⟨ea,_,by rw[e0]⟩⟩
theorem aWz (vr:Nat) (vt:Nat→Nat) (main:List EntD) (sides:List SideD) (hm:main.length≤900) (hme:∀ e ∈ main,SmallEn e) (hsl:sides.length≤100) (hse:∀ x ∈ sides,∀ y ∈ x.l,SmallEn y) :
  FunG Tryz.prog 53 [.c (.own 0 0),.c (.d (.lst 18 (main.map EntD.dv))),.c (.d (iJ sides))] gD (bI (iO (iZ vr vt))) (allRT (iZ vr vt) main sides).1 gD (bI (iO (allRT (iZ vr vt) main sides).2)):=by
 have hA:=aWe (vr:=vr) (vt:=vt) hm hme hsl hse
 have hst:=fun k hk u h=>aGw (vr:=vr) (vt:=vt) hm hme k hk u h
 have hw0:iN (iZ vr vt).w:=fun x hx=>by cases hx
 have hRd:allRT (iZ vr vt) main sides=allRT (iZ vr vt) main sides:=rfl
 generalize hR:allRT (iZ vr vt) main sides=R at *
 generalize hs0:iZ vr vt=s0 at *
 have hrid:nM R.1.ids gD=true:=by
  rcases hA.out with ⟨_,h⟩|⟨_,m,h⟩
  ·rw[← hR];rw[h];rfl
  ·rw[← hR];rw[h];rfl
 have hpidR:iN R.2.w:=by rw[← hR];exact hA.pid
 refine FunG.of_bodyHD rfl rfl Tryz.func53 rfl rfl Tryz.ntmps53 Tryz.results53 (Nat.le_of_ble_eq_true rfl) (kU rfl hrid hw0 hpidR) ?_
 refine Wp.weak (show aD _ (⟨iH [(0,.c (.own 0 0)),(1,.c (.d (.lst 18 (main.map EntD.dv)))),(2,.c (.d (iJ sides)))],bI (iO s0),600,46,⟨gD,[],false,none⟩⟩:St) from aD.keep rfl (aB8 hw0 rfl) ?_) ?_
 ·(refine rO (@aC) ?_;try with_reducible exact tt)
 have hz:stB s0 main 0=s0:=rfl
 (refine bP ?_)
 refine Wp.loop (fun k:Nat=>⟨iH [(2,.c (.d (iJ sides))),(3,.c (.own 600 0)),(6,.c (.own 601 0)),(13,.c (.d (.lst 18 (main.map EntD.dv)))),(14,vi .i64 main.length),(15,vi .i64 k)],bI (iO (stB s0 main k)++alX alC),620,46,⟨gD,[],false,none⟩⟩) (fun k=>k≤main.length∧(eG ref0 (main.take k)).isSome=true) (fun k=>main.length - k) 0 ⟨Nat.zero_le _,rfl⟩ ?_ ?_
 ·refine aD.keep rfl (xH hw0 rfl rfl rfl) ?_
  (refine rO (hz) ?_;try with_reducible exact tt)
 rintro k ⟨hk,hks⟩
 obtain⟨u,hu⟩:=Option.isSome_iff_exists.1 hks
 have hso:=hst k hk u hu
 have hbk:=hso.bok (by omega)
 by_cases hkl:k<main.length
 ·have d1:decide ((k:Int)<(main.length:Int))=true:=decide_eq_true (by omega)
  have hge:main[k]? = some main[k]:=List.getElem?_eq_getElem hkl
  have hwk:IntKind.i64.wrap ((k:Int)+1)=((k+1:Nat):Int):=by rw[bA (by omega)];rfl
  have hsn:=wZ hkl hu
  obtain⟨c1,hp1,hcase⟩:=rN hbk (hme _ (List.getElem_mem hkl))
  have hn:=vJ u main[k] hso.inv.ri hso.inv.f.opens
  rw[hso.p,hso.w,hn] at hcase
  have hat:=aTc (s:=s0) hge
  have hfail:bF u main[k]=none→R=nextB1 (stB s0 main k) main[k]:=fun h=>by
   obtain⟨f1,f2⟩:=wY main ref0 u k hkl hu h
   rw[← hR]
   unfold allRT
   rw[f2]
   dsimp only
   rw[f1,hge]
  generalize main[k]=e at *
  generalize nextB1 (stB s0 main k) e=nx at *
  obtain⟨r1,t1⟩:=nx
  dsimp only at c1 hp1 hcase hat hfail
  have hbV:jG e = .agg (e.dv.map CV.d):=rfl
  (refine gO (ai d1 (ai hge (ai @EntD.dv.eq_1 (ai @List.cons_append.{0} (@List.nil_append.{0}))))) ?_)
  (first|refine Wp.sregG ?_|refine Wp.regG ?_|(refine Wp.seq ?_;first|refine Wp.sregG ?_|refine Wp.regG ?_))
  (refine aH.at 2 (fun K hK=>?_);(refine rO (ai @aC (ai @EntD.dv.eq_1 (ai @List.map_cons.{0,0} (ai @List.map_nil.{0,0} (ai @List.cons_append.{0} (@List.nil_append.{0})))))) ?_);refine hK _ ?_;clear hK K)
  (refine aH.call (c1) [] 640 rfl rfl ?_ ?_;(focus ((refine wG (ai @cT (ai @aC (ai @aM (ai hbV (ai @EntD.dv.eq_1 (ai @List.map_cons.{0,0} (ai @List.map_nil.{0,0} (@List.cons_append.{0})))))))) ?_;try with_reducible exact tt);done)))
  (refine aH.done (fun K hK=>?_);(refine rOt (ai @aC (ai @cH.eq_1 (ai @cH.eq_2 (ai @aM (ai @bU (ai @List.map_cons.{0,0} (@List.map_nil.{0,0}))))))) ?_);refine hK _ ?_;clear hK K)
  rcases hcase with ⟨h1,rfl,h3⟩|⟨h1,m,rfl⟩
  ·cases hls:bF u e with
   | none=>rw[hls] at h1;cases h1
   | some t =>
    (refine bP ?_)
    refine⟨k+1,⟨hkl,by rw[hsn,hls];rfl⟩,by omega,?_⟩
    rw[hat]
    refine aD.keep rfl (xH hp1 rfl rfl rfl) ?_
    (refine rO (ai hwk (ai @List.cons_append.{0} (@List.nil_append.{0}))) ?_;try with_reducible exact tt)
  ·cases hls:bF u e with
   | some t=>rw[hls] at h1;cases h1
   | none =>
    have hRe:=hfail hls
    subst hRe
    (refine bP ?_)
    refine nZ.ret rfl ?_
    (refine rO (ai @aJ.eq_1 (@aJ.eq_2)) ?_;try with_reducible exact tt)
 have hke:k=main.length:=by omega
 subst hke
 rw[List.take_length] at hu
 have h0:=aWm hso hm
 have hRe:R=(match sides[cK sides ((stB s0 main main.length).p,(stB s0 main main.length).w) 0 sides]? with
   | some x=>if aN sides (cK sides ((stB s0 main main.length).p,(stB s0 main main.length).w) 0 sides)=false then (jH aUa,stS (stB s0 main main.length) sides (cK sides ((stB s0 main main.length).p,(stB s0 main main.length).w) 0 sides)) else sideB1 (stS (stB s0 main main.length) sides (cK sides ((stB s0 main main.length).p,(stB s0 main main.length).w) 0 sides)) x
   | none=>if (stS (stB s0 main main.length) sides sides.length).w.isEmpty then (lJ,stS (stB s0 main main.length) sides sides.length) else (jH aUb,stS (stB s0 main main.length) sides sides.length)):=by
  rw[← hR];unfold allRT;rw[hu]<;>rfl
 generalize stB s0 main main.length=s1 at *
 have d1:decide ((main.length:Int)<(main.length:Int))=false:=by simp
 obtain⟨kn,hkn⟩:∃ kn,kn=cK sides (s1.p,s1.w) 0 sides:=⟨_,rfl⟩
 obtain⟨g1,v,g2,g3⟩:=rU sides sides (s1.p,s1.w) 0
 simp only[Nat.zero_add] at g3
 rw[← hkn] at hRe
 simp only[← hkn] at g1 g2 g3
 obtain⟨hv,hokK⟩:=aC7 h0 hsl hse kn g1 v g2
 subst hv
 have hok:∀ i,i≤kn→SdOk s1 i (stS s1 sides i):=fun i hi=>by
  obtain⟨w,hw⟩:=rV sides (sides.take kn) (s1.p,s1.w) _ 0 g2 i (by rw[List.length_take];omega)
  rw[List.take_take,Nat.min_eq_left hi] at hw
  exact (aC7 h0 hsl hse i (by omega) w hw).2
 have hgood:∀ i (hi:i<kn) (hil:i<sides.length),aN sides i=true∧∃ w,gT (stS s1 sides i).p (stS s1 sides i).w sides[i]=some w:=fun i hi hil=>by
  obtain⟨w,hw⟩:=rV sides (sides.take kn) (s1.p,s1.w) _ 0 g2 (i+1) (by rw[List.length_take];omega)
  rw[List.take_take,Nat.min_eq_left (by omega),List.take_succ_eq_append_getElem hil,qE] at hw
  obtain⟨w2,hw2⟩:=rV sides (sides.take kn) (s1.p,s1.w) _ 0 g2 i (by rw[List.length_take];omega)
  rw[List.take_take,Nat.min_eq_left (by omega)] at hw2
  have hw3:=(aC7 h0 hsl hse i (by omega) w2 hw2).1
  rw[hw2] at hw
  subst hw3
  have hw:(if aN sides (0+(sides.take i).length)=false then none else match gT (stS s1 sides i).p (stS s1 sides i).w sides[i] with
   | none=>none
   | some t=>some t)=some w:=hw
  rw[Nat.zero_add,List.length_take,Nat.min_eq_left (by omega)] at hw
  split at hw
  ·cases hw
  rename_i hne
  refine⟨by simpa using hne,?_⟩
  cases hq:gT (stS s1 sides i).p (stS s1 sides i).w sides[i] with
  | none=>rw[hq] at hw;cases hw
  | some t=>exact⟨t,rfl⟩
 have c2:=aM1 sides
 have hsq:=aM2 sides (by omega)
 have hyl:=mO sides
 (refine gO (d1) ?_)
 obtain⟨stX,hstX⟩:∃ f:Nat→BufS,∀ i,f i=if i≤kn then stS s1 sides i else R.2:=⟨_,fun _=>rfl⟩
 obtain⟨erX,herX⟩:∃ f:Nat→CV,∀ i,f i=if i≤kn then alC else aOy R.1:=⟨_,fun _=>rfl⟩
 have hX0:stX 0=s1:=by rw[hstX,if_pos (Nat.zero_le _)];rfl
 have hE0:erX 0=alC:=by rw[herX,if_pos (Nat.zero_le _)]
 have hpX:∀ i,iN (stX i).w:=fun i=>by
  rw[hstX]
  split
  ·rename_i h;exact (hok i h).w.pid
  ·exact hpidR
 have hdX:∀ i,∃ d,erX i = .d d:=fun i=>by
  rw[herX]
  split
  ·exact⟨_,rfl⟩
  ·rcases hA.out with ⟨_,h⟩|⟨_,m,h⟩
   ·rw[hR] at h;rw[h];exact⟨_,rfl⟩
   ·rw[hR] at h;rw[h];exact⟨_,rfl⟩
 have hX9:∀ (i:Nat) (L:List (Nat × SV)) (fx:Fx) (Y:List (Nat × HE)),(L.all fun p=>p.2.ids.all fun i=>(gD++(alX alC++Y).map (·.1)).contains i)=true→(Y.all fun p=>p.2.ids.all fun i=>(gD++(alX alC++Y).map (·.1)).contains i)=true→((fx.lent++fx.dfs).all fun i=>(gD++(alX alC++Y).map (·.1)).contains i)=true→(gK L (iO (stX i)++alX (erX i)++Y) && dW fx (iO (stX i)++alX (erX i)++Y))=true:=fun i L fx Y h1 h2 h3=>by
  obtain⟨d,hd⟩:=hdX i
  rw[List.append_assoc,hd]
  have e:(alX alC++Y).map (·.1)=(alX (.d d)++Y).map (·.1):=rfl
  rw[e] at h1 h2 h3
  refine xH (hpX i) h1 ?_ h3
  rw[List.all_append,h2]
  rfl
 refine Wp.weak (show aD _ (⟨iH [(3,.c (.own 600 0)),(6,.c (.own 601 0)),(27,.c (.d (.fn (.func 162) [.ptr [iJ sides] 0])))],bI (iO (stX 0)++alX (erX 0)),620,46,⟨gD,[],false,none⟩⟩:St) from aD.keep rfl ?_ ?_) ?_
 ·have:=hX9 0 [(3,.c (.own 600 0)),(6,.c (.own 601 0)),(27,.c (.d (.fn (.func 162) [.ptr [iJ sides] 0])))] ⟨gD,[],false,none⟩ [] rfl rfl rfl
  rw[List.append_nil] at this
  exact this
 ·rw[hX0,hE0]
  (refine rO (ai @List.cons_append.{0} (@List.nil_append.{0})) ?_;try with_reducible exact tt)
 refine Wp.rangeFunc (xs:=vX sides) rfl rfl hsq 500 (fun i=>iO (stX i)++alX (erX i)) (gD++[600,601]) (fun i=>decide (i<kn)) (fun _=>.ret) rfl (fun _=>rfl) rfl (fun i=>?_) rfl (fun i id h=>by cases h) rfl (fun x hx=>by obtain⟨r,_,rfl⟩:=List.mem_map.1 hx;rfl) ?_ ?_ ?_
 ·have:=hX9 i [] ⟨[],[],false,none⟩ [] rfl rfl rfl
  rw[List.append_nil,Bool.and_eq_true] at this
  exact this.1
 ·intro i hi hc o1
  have hi' : i<sides.length:=by rw[hyl] at hi;exact hi
  have hik:i≤kn:=by
   rcases Nat.eq_zero_or_pos i with h|h
   ·omega
   ·have:=of_decide_eq_true (hc (i - 1) (by omega));omega
  have hg:sides[i]? = some sides[i]:=List.getElem?_eq_getElem hi'
  rw[aJl hg hi]
  have hX1:stX i=stS s1 sides i:=by rw[hstX,if_pos hik]
  have hE1:erX i=alC:=by rw[herX,if_pos hik]
  obtain⟨c3,hp3,hcase3⟩:=rS ((hok i hik).bok (by omega)) (hse _ (List.getElem_mem hi'))
  have hat2:=aTd (s:=s1) hg
  have hk9:=hX9 (i+1) [] (fxR (gD++[600,601]) 500)
  by_cases hlt:i<kn
  ·obtain⟨hord,w,hsw⟩:=hgood i hlt hi'
   have hX2:stX (i+1)=stS s1 sides (i+1):=by rw[hstX,if_pos (by omega)]
   have hE2:erX (i+1)=alC:=by rw[herX,if_pos (by omega)]
   have dl:decide (i<kn)=true:=decide_eq_true hlt
   rw[hat2] at hX2
   rw[hsw] at hcase3
   have hcase3:=hcase3.resolve_right (fun h=>by cases h.1)
   obtain⟨_,h3,_⟩:=hcase3
   rw[hord]
   generalize stS s1 sides i=t at *
   generalize sides[i]=x at *
   rw[h3] at c3
   generalize (sideB1 t x).2=t2 at *
   simp only[hX1,hE1]
   (repeat (first|apply Wp.skip|apply Wp.exit|apply Wp.ret|apply Wp.block|apply Wp.label|((first|refine Wp.sreg (fun K hK=>?_)|refine Wp.reg (fun K hK=>?_)|refine Wp.sdrw aI (fun K hK=>?_)|refine Wp.drw aI (fun K hK=>?_)|refine Wp.condG (fun K hK hF=>?_));(repeat (revert hK;intro hK;simp (maxSteps:=2000000) (disch:=omega) only[gE,TY,bW,eH,fP,SV.ofD,eA,eO,fI,fJ,bR,fK,eX,eQ,fL,eL,fG,fF,fH,CV.exact,CV.lstOf,CV.lenOf,CV.one,D.one,Value.oneCell',CV.toD0,fX,eF,fZ,fC,rD0,gC,fD,fY,reduceCtorEq,reduceIte,Nat.reduceBEq,Nat.reduceEqDiff,Nat.reduceAdd,Nat.reduceMul,Nat.reduceSub,Nat.reduceLT,Nat.reduceLeDiff,Nat.reduceBNe,Int.reduceLE,Int.reduceLT,Int.reduceBEq,Int.reduceBNe,Int.reduceEq,Int.reduceNeg,Int.reduceAdd,Int.reduceSub,Int.reduceToNat,forall_const,SideD.dv,List.cons_append,List.nil_append];(first|(refine hK _ ?_;clear hK K)|(refine⟨by kernel_rfl,hK _ ?_⟩;clear hK K)|(refine hK ?_;clear hK hF K)|(refine hF ?_;clear hK hF K)|refine dB (by assumption) ?_|refine bca (by assumption) ?_)));fail_if_success (revert hK;intro hK))|apply Wp.seq))
   refine⟨rfl,by (refine aT ?_;try with_reducible exact tt),rfl,fun o2=>?_⟩
   (refine gO (ai @List.cons_append.{0} (@List.nil_append.{0})) ?_)
   (first|refine Wp.sregG ?_|refine Wp.regG ?_|(refine Wp.seq ?_;first|refine Wp.sregG ?_|refine Wp.regG ?_))
   (refine aH.at 2 (fun K hK=>?_);simp (maxSteps:=2000000) (disch:=omega) only[gE,TY,bW,eH,fP,SV.ofD,eA,eO,fI,fJ,bR,fK,eX,eQ,fL,eL,fG,fF,fH,CV.exact,CV.lstOf,CV.lenOf,CV.one,D.one,Value.oneCell',CV.toD0,fX,eF,fZ,fC,rD0,gC,fD,fY,reduceCtorEq,reduceIte,Nat.reduceBEq,Nat.reduceEqDiff,Nat.reduceAdd,Nat.reduceMul,Nat.reduceSub,Nat.reduceLT,Nat.reduceLeDiff,Nat.reduceBNe,Int.reduceLE,Int.reduceLT,Int.reduceBEq,Int.reduceBNe,Int.reduceEq,Int.reduceNeg,Int.reduceAdd,Int.reduceSub,Int.reduceToNat,forall_const,aC,SideD.dv,List.map_cons,List.map_nil,List.cons_append,List.nil_append];refine hK _ ?_;clear hK K)
   (refine aH.call (c3) [] 1040 rfl rfl ?_ ?_;(focus ((refine wG (ai @cT (ai @aC (ai @aM (ai @List.map_cons.{0,0} (ai @List.map_nil.{0,0} (@List.cons_append.{0})))))) ?_;try with_reducible exact tt);done)))
   (refine aH.done (fun K hK=>?_);(refine rOt (ai @aC (ai @cH.eq_1 (ai @cH.eq_2 (ai @aM (ai @bU (ai @List.map_cons.{0,0} (ai @List.map_nil.{0,0} (ai @List.cons_append.{0} (@List.nil_append.{0}))))))))) ?_);refine hK _ ?_;clear hK K)
   (refine bP ?_)
   refine⟨aD.keep rfl (hk9 _ rfl rfl rfl) ?_,.inl ⟨rfl,dl⟩⟩
   (refine rO (ai hX2 (ai hE2 (ai @List.cons_append.{0} (@List.nil_append.{0})))) ?_;try with_reducible exact tt)
  ·obtain rfl:i=kn:=by omega
   have hX2:stX (i+1)=R.2:=by rw[hstX,if_neg (by omega)]
   have hE2:erX (i+1)=aOy R.1:=by rw[herX,if_neg (by omega)]
   have dl:decide (i<i)=false:=by simp
   rw[hg] at hRe
   dsimp only at hRe
   by_cases hord:aN sides i=false
   ·rw[if_pos hord] at hRe
    rw[hRe] at hX2 hE2
    dsimp only at hX2 hE2
    have c6:=cV aUa
    rw[hord]
    generalize stS s1 sides i=t at *
    generalize sides[i]=x at *
    simp only[hX1,hE1]
    (repeat (first|apply Wp.skip|apply Wp.exit|apply Wp.ret|apply Wp.block|apply Wp.label|((first|refine Wp.sreg (fun K hK=>?_)|refine Wp.reg (fun K hK=>?_)|refine Wp.sdrw aI (fun K hK=>?_)|refine Wp.drw aI (fun K hK=>?_)|refine Wp.condG (fun K hK hF=>?_));(repeat (revert hK;intro hK;simp (maxSteps:=2000000) (disch:=omega) only[gE,TY,bW,eH,fP,SV.ofD,eA,eO,fI,fJ,bR,fK,eX,eQ,fL,eL,fG,fF,fH,CV.exact,CV.lstOf,CV.lenOf,CV.one,D.one,Value.oneCell',CV.toD0,fX,eF,fZ,fC,rD0,gC,fD,fY,reduceCtorEq,reduceIte,Nat.reduceBEq,Nat.reduceEqDiff,Nat.reduceAdd,Nat.reduceMul,Nat.reduceSub,Nat.reduceLT,Nat.reduceLeDiff,Nat.reduceBNe,Int.reduceLE,Int.reduceLT,Int.reduceBEq,Int.reduceBNe,Int.reduceEq,Int.reduceNeg,Int.reduceAdd,Int.reduceSub,Int.reduceToNat,forall_const,SideD.dv,List.cons_append,List.nil_append];(first|(refine hK _ ?_;clear hK K)|(refine⟨by kernel_rfl,hK _ ?_⟩;clear hK K)|(refine hK ?_;clear hK hF K)|(refine hF ?_;clear hK hF K)|refine dB (by assumption) ?_|refine bca (by assumption) ?_)));fail_if_success (revert hK;intro hK))|apply Wp.seq))
    refine⟨rfl,by (refine aT ?_;try with_reducible exact tt),rfl,fun o2=>?_⟩
    (refine gO (ai @List.cons_append.{0} (@List.nil_append.{0})) ?_)
    refine⟨aD.keep rfl (hk9 _ rfl rfl rfl) ?_,.inr ⟨dl,rfl,rfl⟩⟩
    simp (maxSteps:=2000000) (disch:=omega) only[gE,TY,bW,eH,fP,SV.ofD,eA,eO,fI,fJ,bR,fK,eX,eQ,fL,eL,fG,fF,fH,CV.exact,CV.lstOf,CV.lenOf,CV.one,D.one,Value.oneCell',CV.toD0,fX,eF,fZ,fC,rD0,gC,fD,fY,reduceCtorEq,reduceIte,Nat.reduceBEq,Nat.reduceEqDiff,Nat.reduceAdd,Nat.reduceMul,Nat.reduceSub,Nat.reduceLT,Nat.reduceLeDiff,Nat.reduceBNe,Int.reduceLE,Int.reduceLT,Int.reduceBEq,Int.reduceBNe,Int.reduceEq,Int.reduceNeg,Int.reduceAdd,Int.reduceSub,Int.reduceToNat,forall_const,hX2,hE2,aOy,List.cons_append,List.nil_append]
   ·rw[if_neg hord] at hRe
    have hord:aN sides i=true:=by simpa using hord
    have hsn:=(g3 hi').resolve_left (by rw[hord];simp)
    rw[hsn] at hcase3
    obtain⟨_,m,h3⟩:=hcase3.resolve_left (fun h=>by cases h.1)
    rw[hRe,h3] at hE2
    rw[hRe] at hX2
    rw[hord]
    generalize stS s1 sides i=t at *
    generalize sides[i]=x at *
    rw[h3] at c3
    generalize (sideB1 t x).2=t2 at *
    simp only[hX1,hE1]
    (repeat (first|apply Wp.skip|apply Wp.exit|apply Wp.ret|apply Wp.block|apply Wp.label|((first|refine Wp.sreg (fun K hK=>?_)|refine Wp.reg (fun K hK=>?_)|refine Wp.sdrw aI (fun K hK=>?_)|refine Wp.drw aI (fun K hK=>?_)|refine Wp.condG (fun K hK hF=>?_));(repeat (revert hK;intro hK;simp (maxSteps:=2000000) (disch:=omega) only[gE,TY,bW,eH,fP,SV.ofD,eA,eO,fI,fJ,bR,fK,eX,eQ,fL,eL,fG,fF,fH,CV.exact,CV.lstOf,CV.lenOf,CV.one,D.one,Value.oneCell',CV.toD0,fX,eF,fZ,fC,rD0,gC,fD,fY,reduceCtorEq,reduceIte,Nat.reduceBEq,Nat.reduceEqDiff,Nat.reduceAdd,Nat.reduceMul,Nat.reduceSub,Nat.reduceLT,Nat.reduceLeDiff,Nat.reduceBNe,Int.reduceLE,Int.reduceLT,Int.reduceBEq,Int.reduceBNe,Int.reduceEq,Int.reduceNeg,Int.reduceAdd,Int.reduceSub,Int.reduceToNat,forall_const,SideD.dv,List.cons_append,List.nil_append];(first|(refine hK _ ?_;clear hK K)|(refine⟨by kernel_rfl,hK _ ?_⟩;clear hK K)|(refine hK ?_;clear hK hF K)|(refine hF ?_;clear hK hF K)|refine dB (by assumption) ?_|refine bca (by assumption) ?_)));fail_if_success (revert hK;intro hK))|apply Wp.seq))
    refine⟨rfl,by (refine aT ?_;try with_reducible exact tt),rfl,fun o2=>?_⟩
    (refine gO (ai @List.cons_append.{0} (@List.nil_append.{0})) ?_)
    (first|refine Wp.sregG ?_|refine Wp.regG ?_|(refine Wp.seq ?_;first|refine Wp.sregG ?_|refine Wp.regG ?_))
    (refine aH.at 2 (fun K hK=>?_);simp (maxSteps:=2000000) (disch:=omega) only[gE,TY,bW,eH,fP,SV.ofD,eA,eO,fI,fJ,bR,fK,eX,eQ,fL,eL,fG,fF,fH,CV.exact,CV.lstOf,CV.lenOf,CV.one,D.one,Value.oneCell',CV.toD0,fX,eF,fZ,fC,rD0,gC,fD,fY,reduceCtorEq,reduceIte,Nat.reduceBEq,Nat.reduceEqDiff,Nat.reduceAdd,Nat.reduceMul,Nat.reduceSub,Nat.reduceLT,Nat.reduceLeDiff,Nat.reduceBNe,Int.reduceLE,Int.reduceLT,Int.reduceBEq,Int.reduceBNe,Int.reduceEq,Int.reduceNeg,Int.reduceAdd,Int.reduceSub,Int.reduceToNat,forall_const,aC,SideD.dv,List.map_cons,List.map_nil,List.cons_append,List.nil_append];refine hK _ ?_;clear hK K)
    (refine aH.call (c3) [] 1040 rfl rfl ?_ ?_;(focus ((refine wG (ai @cT (ai @aC (ai @aM (ai @List.map_cons.{0,0} (ai @List.map_nil.{0,0} (@List.cons_append.{0})))))) ?_;try with_reducible exact tt);done)))
    (refine aH.done (fun K hK=>?_);(refine rOt (ai @aC (ai @cH.eq_1 (ai @cH.eq_2 (ai @aM (ai @bU (ai @List.map_cons.{0,0} (ai @List.map_nil.{0,0} (ai @List.cons_append.{0} (@List.nil_append.{0}))))))))) ?_);refine hK _ ?_;clear hK K)
    (refine bP ?_)
    refine⟨aD.keep rfl (hk9 _ rfl rfl rfl) ?_,.inr ⟨dl,rfl,rfl⟩⟩
    simp (maxSteps:=2000000) (disch:=omega) only[gE,TY,bW,eH,fP,SV.ofD,eA,eO,fI,fJ,bR,fK,eX,eQ,fL,eL,fG,fF,fH,CV.exact,CV.lstOf,CV.lenOf,CV.one,D.one,Value.oneCell',CV.toD0,fX,eF,fZ,fC,rD0,gC,fD,fY,reduceCtorEq,reduceIte,Nat.reduceBEq,Nat.reduceEqDiff,Nat.reduceAdd,Nat.reduceMul,Nat.reduceSub,Nat.reduceLT,Nat.reduceLeDiff,Nat.reduceBNe,Int.reduceLE,Int.reduceLT,Int.reduceBEq,Int.reduceBNe,Int.reduceEq,Int.reduceNeg,Int.reduceAdd,Int.reduceSub,Int.reduceToNat,forall_const,hX2,hE2,aOy,List.cons_append,List.nil_append]
 ·intro i hi hc hn
  refine⟨rfl,?_⟩
  have hik:i≤kn:=by
   rcases Nat.eq_zero_or_pos i with h|h
   ·omega
   ·have:=of_decide_eq_true (hc (i - 1) (by omega));omega
  have hge:=of_decide_eq_false hn
  have hX2:stX (i+1)=R.2:=by rw[hstX,if_neg (by omega)]
  have hE2:erX (i+1)=aOy R.1:=by rw[herX,if_neg (by omega)]
  have herr:R.1 = .c (aOy R.1):=by
   rcases hA.out with ⟨_,h⟩|⟨_,m,h⟩
   ·rw[hR] at h;rw[h];rfl
   ·rw[hR] at h;rw[h];rfl
  have herr2:=herr.symm
  refine nZ.ret (M':=iO R.2) rfl ?_
  (refine rO (ai @aJ.eq_1 (ai @aJ.eq_2 (ai hX2 (ai hE2 (ai herr2 (ai @List.cons_append.{0} (@List.nil_append.{0}))))))) ?_;try with_reducible exact tt)
 ·intro hc
  have hkn2:kn=sides.length:=by
   rcases Nat.lt_or_ge kn sides.length with h|h
   ·have:=of_decide_eq_true (hc kn (by omega));omega
   ·omega
  have hXn:stX (vX sides).length=stS s1 sides sides.length:=by rw[hstX,hyl,if_pos (by omega)]
  have hEn:erX (vX sides).length=alC:=by rw[herX,hyl,if_pos (by omega)]
  rw[hkn2,List.getElem?_eq_none (Nat.le_refl _)] at hRe
  dsimp only at hRe
  have hon:=hok sides.length (by omega)
  simp only[hXn,hEn]
  generalize stS s1 sides sides.length=t at *
  have hwl:(pG t.w).length=t.w.length:=by unfold pG;rw[List.length_map]
  (refine gO (ai @List.cons_append.{0} (@List.nil_append.{0})) ?_)
  (first|refine Wp.sregG ?_|refine Wp.regG ?_|(refine Wp.seq ?_;first|refine Wp.sregG ?_|refine Wp.regG ?_))
  (refine aH.at 4 (fun K hK=>?_);(refine rO (ai @aC (ai @List.cons_append.{0} (@List.nil_append.{0}))) ?_);refine hK _ ?_;clear hK K)
  refine aH.imapLen rfl 8 (pG t.w) (qR t.vc t.w) jM ⟨by kernel_rfl,by kernel_rfl,eT ?_ ?_⟩ ?_
  ·(refine aT ?_;try with_reducible exact tt)
  ·(refine rO (ai @List.cons_append.{0} (@List.nil_append.{0})) ?_;try with_reducible exact tt)
  cases hw:t.w with
  | nil =>
   rw[hw] at hRe
   simp only[List.isEmpty_nil,if_true] at hRe
   subst hRe
   have d0:(pG []).length=0:=rfl
   (refine aH.done (fun K hK=>?_);(refine rO (ai @aC (ai hw (ai d0 (ai @pG.eq_1 (ai (@goInt.eq_1) (ai @List.map_nil.{0,0} (@List.length_nil.{0}))))))) ?_);refine hK _ ?_;clear hK K)
   (refine bP ?_)
   refine nZ.ret (M':=iO t) rfl ?_
   (refine rO (ai @aJ.eq_1 (ai @aJ.eq_2 (ai hw (ai @pG.eq_1 (ai @List.map_nil.{0,0} (ai @List.cons_append.{0} (@List.nil_append.{0}))))))) ?_;try with_reducible exact tt)
  | cons y w =>
   rw[hw] at hRe
   simp only[List.isEmpty_cons,Bool.false_eq_true,if_false] at hRe
   subst hRe
   have d1:decide ((0:Int)<((pG t.w).length:Int))=true:=decide_eq_true (by rw[hwl,hw,List.length_cons];omega)
   have c6:=cV aUb
   rw[← hw]
   (refine aH.done (fun K hK=>?_);(refine rO (ai @aC (ai d1 ((@goInt.eq_1)))) ?_);refine hK _ ?_;clear hK K)
   (refine bP ?_)
   refine nZ.ret (M':=iO t) rfl ?_
   (refine rO (ai @aJ.eq_1 (ai @aJ.eq_2 (ai @List.cons_append.{0} (@List.nil_append.{0})))) ?_;try with_reducible exact tt)
theorem bAg (σ:St) (h:∀ q,1≤q→q≤8→σ.H (30+q)=none):∀ n,n≤8→∃ H',aD σ { σ with H:=H' }∧(∀ q,1≤q→q≤n→H' (30+q)=some (.rot 62 5 0))∧(∀ i,(∀ q,1≤q→q≤n→i≠30+q)→H' i=σ.H i)
 | 0,_=>⟨σ.H,aD.refl _,fun q h1 h2=>by omega,fun i _=>rfl⟩
 | n+1,hn=>by
  obtain⟨H',w,h1,h2⟩:=bAg σ h n (by omega)
  have hf:H' (30+(n+1))=none:=by rw[h2 _ (fun q q1 q2 e=>by omega)];exact h (n+1) (by omega) hn
  refine⟨upd H' (30+(n+1)) (some (.rot 62 5 0)),w.trans (aD.rtok (σ:={ σ with H:=H' }) 62 5 0 hf),fun q q1 q2=>?_,fun i hi=>?_⟩
  ·by_cases e:q=n+1
   ·subst e;exact aB _ _ _
   ·rw[aA _ _ (by omega)];exact h1 q q1 (by omega)
  ·rw[aA _ _ (hi (n+1) (by omega) (by omega))];exact h2 i (fun q q1 q2=>hi q q1 (by omega))
theorem aQy (σ:St) (h0:σ.H 0=some (.cells [.d (int 0),.d (int 0),cL,cL,cL,.mp 8])) (h9:σ.H 9=none) (h10:σ.H 10=none) (h:∀ q,1≤q→q≤8→σ.H (30+q)=none) (hdf:σ.fx.dfs.contains 0=false) :
  ∃ H',aD σ { σ with H:=H' }∧H' 0=some (.cells [.d (int 0),.d (int 0),.apt 9 5 [] 0,.app 10 3 [],.d (.lst 4 []),.mp 8])∧H' 9=some (.rot 47 5 0)∧H' 10=some (.row 95 3 0)∧(∀ q,1≤q→q≤8→H' (30+q)=some (.rot 62 5 0))∧H' 8=σ.H 8∧H' 2=σ.H 2:=by
 obtain⟨H1,w1,t1,t2⟩:=bAg σ h 8 (Nat.le_refl _)
 have e0:H1 0=some (.cells [.d (int 0),.d (int 0),cL,cL,cL,.mp 8]):=by rw[t2 0 (fun q _ _=>by omega)];exact h0
 have e9:H1 9=none:=by rw[t2 9 (fun q _ _=>by omega)];exact h9
 have e10:H1 10=none:=by rw[t2 10 (fun q _ _=>by omega)];exact h10
 have e8:H1 8=σ.H 8:=t2 8 (fun q _ _=>by omega)
 have e2:H1 2=σ.H 2:=t2 2 (fun q _ _=>by omega)
 have w2:=aD.rotNil (σ:={ σ with H:=H1 }) (id:=0) (k:=2) (τ:=9) 47 5 (by decide) e9 e0 rfl
 obtain⟨H2,hH2⟩:∃ H2,H2=upd (upd H1 9 (some (.rot 47 5 0))) 0 (some (.cells (List.set [.d (int 0),.d (int 0),cL,cL,cL,.mp 8] 2 (.apt 9 5 [] 0)))):=⟨_,rfl⟩
 dsimp only at w2
 rw[← hH2] at w2
 have a0:H2 0=some (.cells [.d (int 0),.d (int 0),.apt 9 5 [] 0,cL,cL,.mp 8]):=by rw[hH2];exact aB _ _ _
 have a9:H2 9=some (.rot 47 5 0):=by rw[hH2,aA _ _ (by decide)];exact aB _ _ _
 have ao:∀ i,i≠0→i≠9→H2 i=H1 i:=fun i h1 h2=>by rw[hH2,aA _ _ h1,aA _ _ h2]
 have w3:=aD.nilAppCell (σ:={ σ with H:=H2 }) (id:=0) (k:=3) (τ:=10) 95 3 (by decide) (by show H2 10=none;rw[ao 10 (by decide) (by decide)];exact e10) a0 rfl
 obtain⟨H3,hH3⟩:∃ H3,H3=upd (upd H2 10 (some (.row 95 3 0))) 0 (some (.cells (List.set [.d (int 0),.d (int 0),.apt 9 5 [] 0,cL,cL,.mp 8] 3 (.app 10 3 [])))):=⟨_,rfl⟩
 dsimp only at w3
 rw[← hH3] at w3
 have b0:H3 0=some (.cells [.d (int 0),.d (int 0),.apt 9 5 [] 0,.app 10 3 [],cL,.mp 8]):=by rw[hH3];exact aB _ _ _
 have b10:H3 10=some (.row 95 3 0):=by rw[hH3,aA _ _ (by decide)];exact aB _ _ _
 have bo:∀ i,i≠0→i≠10→H3 i=H2 i:=fun i h1 h2=>by rw[hH3,aA _ _ h1,aA _ _ h2]
 have w4:=aD.cellLe (σ:={ σ with H:=H3 }) (id:=0) (k:=4) (x:=.val (.slice none 0 0)) (y:=.lst 4 []) b0 rfl (lU.nil 4) hdf
 dsimp only at w4
 have co:∀ i,i≠0→upd H3 0 (some (.cells (List.set [.d (int 0),.d (int 0),.apt 9 5 [] 0,.app 10 3 [],cL,.mp 8] 4 (.d (.lst 4 []))))) i=H3 i:=fun i h1=>aA _ _ h1
 refine⟨_,w1.trans (w2.trans (w3.trans w4)),aB _ _ _,?_,?_,?_,?_,?_⟩
 ·rw[co 9 (by decide),bo 9 (by decide) (by decide)];exact a9
 ·rw[co 10 (by decide)];exact b10
 ·intro q q1 q2
  rw[co _ (by omega),bo _ (by omega) (by omega),ao _ (by omega) (by omega)]
  exact t1 q q1 q2
 ·rw[co 8 (by decide),bo 8 (by decide) (by decide),ao 8 (by decide) (by decide)];exact e8
 ·rw[co 2 (by decide),bo 2 (by decide) (by decide),ao 2 (by decide) (by decide)];exact e2
theorem aP7 (ρ:Nat→Nat):HE.ren ρ (.imap [] []) = .imap [] []:=rfl
def a14 (main:List EntD) (sides:List SideD):PartD:=(zV main sides).getD pZ
def e14 (main:List EntD) (sides:List SideD):Int:=if (zV main sides).isSome then 0 else 70
theorem qX (main:List EntD) (sides:List SideD) (hm:main.length≤900) (hme:∀ e ∈ main,SmallEn e) (hsl:sides.length≤100) (hse:∀ x ∈ sides,∀ y ∈ x.l,SmallEn y) :
  aW Tryz.prog 23 [.lst 18 (main.map EntD.dv),iJ sides] (.tup [.agg (a14 main sides).dv,int (e14 main sides)]):=by
 have hA:=aWe (vr:=0) (vt:=fun _=>0) hm hme hsl hse
 have c1:=aWz 0 (fun _=>0) main sides hm hme hsl hse
 obtain⟨hpid,hout⟩:=hA
 generalize allRT (iZ 0 (fun _=>0)) main sides=R at *
 obtain⟨r,t⟩:=R
 dsimp only at hpid hout c1
 (refine aW.of_bodyW Tryz.func23 rfl rfl Tryz.ntmps23 Tryz.results23 (by simp) ?_)
 (refine bP ?_)
 (first|refine Wp.sregG ?_|refine Wp.regG ?_|(refine Wp.seq ?_;first|refine Wp.sregG ?_|refine Wp.regG ?_))
 refine aH.imapNew rfl (by kernel_rfl) (by kernel_rfl) (by (refine aT ?_;try with_reducible exact tt)) rfl ?_
 (refine aH.done (fun K hK=>?_);(refine rO (@aC) ?_);refine hK _ ?_;clear hK K)
 refine Wp.weak (aD.ren (lX [(0,2),(8,1)]) (aGy (by decide)) ⟨rfl,rfl⟩) ?_
 refine Wp.weak (show aD _ (⟨iH [(0,.c (.d (.lst 18 (main.map EntD.dv)))),(1,.c (.d (iJ sides))),(4,.c (.own 2 0)),(5,vi .i64 0),(6,.c (.own 0 0))],bI [(0,.cells [.d (int 0),.d (int 0),cL,cL,cL,.mp 8]),(2,.cells [.d (int 0),.d (int 0),cL,cL,cL]),(8,.imap [] [])],100,24,0⟩:St) from aD.keep rfl rfl ?_) ?_
 ·(refine wG (ai @cT (ai @Hp.ren.eq_1 (ai (aP7) (ai @List.map_nil.{0,0} (@List.map_cons.{0,0}))))) ?_;try with_reducible exact tt)
 refine Wp.weakE (aQy _ (by (refine aT ?_;try with_reducible exact tt)) (by (refine aT ?_;try with_reducible exact tt)) (by (refine aT ?_;try with_reducible exact tt)) (fun q q1 q2=>by
  have hq:q=1∨q=2∨q=3∨q=4∨q=5∨q=6∨q=7∨q=8:=by omega
  rcases hq with rfl|rfl|rfl|rfl|rfl|rfl|rfl|rfl<;>rfl) rfl) ?_
 rintro H' ⟨f0,f9,f10,f3,f8,f2⟩
 have f8' : H' 8=some (.imap [] []):=by rw[f8];(refine aT ?_;try with_reducible exact tt)
 have f2' : H' 2=some (.cells [.d (int 0),.d (int 0),cL,cL,cL]):=by rw[f2];(refine aT ?_;try with_reducible exact tt)
 have f31:=f3 1 (by decide) (by decide)
 have f32:=f3 2 (by decide) (by decide)
 have f33:=f3 3 (by decide) (by decide)
 have f34:=f3 4 (by decide) (by decide)
 have f35:=f3 5 (by decide) (by decide)
 have f36:=f3 6 (by decide) (by decide)
 have f37:=f3 7 (by decide) (by decide)
 have f38:=f3 8 (by decide) (by decide)
 simp only[Nat.reduceAdd] at f31 f32 f33 f34 f35 f36 f37 f38
 refine Wp.weak (show aD _ (⟨iH [(0,.c (.d (.lst 18 (main.map EntD.dv)))),(1,.c (.d (iJ sides))),(4,.c (.own 2 0)),(5,vi .i64 0),(6,.c (.own 0 0))],bI (iO (iZ 0 (fun _=>0))++[(2,.cells [.d (int 0),.d (int 0),cL,cL,cL])]),100,24,0⟩:St) from aD.keep rfl rfl ?_) ?_
 ·simp (maxSteps:=2000000) (disch:=omega) only[gE,TY,bW,eH,fP,SV.ofD,eA,eO,fI,fJ,bR,fK,eX,eQ,fL,eL,fG,fF,fH,CV.exact,CV.lstOf,CV.lenOf,CV.one,D.one,Value.oneCell',CV.toD0,fX,eF,fZ,fC,rD0,gC,fD,fY,reduceCtorEq,reduceIte,Nat.reduceBEq,Nat.reduceEqDiff,Nat.reduceAdd,Nat.reduceMul,Nat.reduceSub,Nat.reduceLT,Nat.reduceLeDiff,Nat.reduceBNe,Int.reduceLE,Int.reduceLT,Int.reduceBEq,Int.reduceBNe,Int.reduceEq,Int.reduceNeg,Int.reduceAdd,Int.reduceSub,Int.reduceToNat,forall_const,f0,f9,f10,f8',f2',f31,f32,f33,f34,f35,f36,f37,f38,iZ,pZ,pG,qR,List.map_nil,List.length_nil,List.cons_append,List.nil_append]
 (first|refine Wp.sregG ?_|refine Wp.regG ?_|(refine Wp.seq ?_;first|refine Wp.sregG ?_|refine Wp.regG ?_))
 (refine aH.at 3 (fun K hK=>?_);(refine rO (ai @aC (ai @List.cons_append.{0} (@List.nil_append.{0}))) ?_);refine hK _ ?_;clear hK K)
 (refine aH.call (c1) [] 200 rfl rfl ?_ ?_;(focus ((refine wG (ai @cT (ai @aC (ai @aM (ai @List.map_nil.{0,0} (ai @List.map_cons.{0,0} (@List.cons_append.{0})))))) ?_;try with_reducible exact tt);done)))
 (refine aH.done (fun K hK=>?_);(refine rOt (ai @aC (ai @cH.eq_1 (ai @cH.eq_2 (ai @aM (ai @bU (ai @List.map_cons.{0,0} (ai @List.map_nil.{0,0} (ai @List.cons_append.{0} (@List.nil_append.{0}))))))))) ?_);refine hK _ ?_;clear hK K)
 rcases hout with ⟨h1,rfl⟩|⟨h1,m,rfl⟩
 ·have ea:a14 main sides=t.p:=by unfold a14;rw[h1];rfl
  have ee:e14 main sides=0:=by unfold e14;rw[h1];rfl
  rw[ea,ee]
  (refine bP ?_)
  (refine rO (@PartD.dv.eq_1) ?_)
  exact⟨_,rfl,fun _ _ h=>h⟩
 ·have ea:a14 main sides=pZ:=by unfold a14;rw[h1];rfl
  have ee:e14 main sides=70:=by unfold e14;rw[h1];rfl
  have c2:=zA (str m)
  rw[ea,ee]
  (refine bP ?_)
  (refine aT ?_)
  exact⟨_,rfl,lU.tup (.cons (.agg (.cons (.refl _) (.cons (.refl _) (.cons (.nil 5) (.cons (.nil 3) (.cons (.nil 4) .nil)))))) (.cons (.refl _) .nil))⟩
end Go.Proofs.YtpklhnpchhaccaaGreatDoor
