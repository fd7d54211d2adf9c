/- The abstract machine (GfA, GfB, MpA, MpB, MpC, MpD, MpF, MpG). -/
import Derived.Test.YtkmfmphpndhkjaaGreatDoorMacC
import Derived.Test.YtkmfmphpndhkjaaGreatDoorMacB
import Derived.Test.YtkmfmphpndhkjaaGreatDoorMacA
import Derived.Maps.Keyed
import Derived.Lib.AppendStr
namespace Go.Proofs.YtkmfmphpndhkjaaGreatDoor
open Go Go.RowKit
set_option linter.unusedVariables false
set_option linter.unusedSimpArgs false
/-! numbers turned twice -/
theorem Cap.ren_ren {ρ:Nat→Nat} (hρ:∀ i,ρ (ρ i)=i) (c:Cap):(c.ren ρ).ren ρ=c:=by cases c<;>simp[Cap.ren,hρ]
theorem lP {α:Type} {f:α→α} (h:∀ x,f x=x) (l:List α):l.map f=l:=by
 conv=>rhs;rw[← List.map_id l]
 exact List.map_congr_left (fun x _=>h x)
theorem CV.ren_ren {ρ:Nat→Nat} (hρ:∀ i,ρ (ρ i)=i) (c:CV):(c.ren ρ).ren ρ=c:=by
 cases c with
 | clo f caps=>simp only[CV.ren,List.map_map];rw[lP (f:=Cap.ren ρ ∘ Cap.ren ρ) (fun x=>Cap.ren_ren hρ x)]
 | bnd f caps=>simp only[CV.ren,List.map_map];rw[lP (f:=Cap.ren ρ ∘ Cap.ren ρ) (fun x=>Cap.ren_ren hρ x)]
 | _=>simp[CV.ren,hρ]
theorem SV.ren_ren {ρ:Nat→Nat} (hρ:∀ i,ρ (ρ i)=i) (c:SV):(c.ren ρ).ren ρ=c:=by
 cases c with
 | c x=>simp only[SV.ren,CV.ren_ren hρ]
 | agg cs=>simp only[SV.ren,List.map_map];rw[lP (f:=CV.ren ρ ∘ CV.ren ρ) (fun x=>CV.ren_ren hρ x)]
theorem HE.ren_ren {ρ:Nat→Nat} (hρ:∀ i,ρ (ρ i)=i) (c:HE):(c.ren ρ).ren ρ=c:=by
 cases c with
 | cells cs=>simp only[HE.ren,List.map_map];rw[lP (f:=CV.ren ρ ∘ CV.ren ρ) (fun x=>CV.ren_ren hρ x)]
 | mrow e sz n cs=>simp only[HE.ren,List.map_map];rw[lP (f:=CV.ren ρ ∘ CV.ren ρ) (fun x=>CV.ren_ren hρ x)]
 | ob cs p=>simp only[HE.ren,List.map_map];rw[lP (f:=CV.ren ρ ∘ CV.ren ρ) (fun x=>CV.ren_ren hρ x)]
 | _=>rfl
theorem Hp.ren_ren {ρ:Nat→Nat} (hρ:∀ i,ρ (ρ i)=i) (H:Hp):(H.ren ρ).ren ρ=H:=by
 funext i
 simp only[Hp.ren,hρ,Option.map_map]
 cases H i with
 | none=>rfl
 | some x=>simp[HE.ren_ren hρ]
theorem G.ren_ren {ρ:Nat→Nat} (hρ:∀ i,ρ (ρ i)=i) (g:G):(g.ren ρ).ren ρ=g:=by
 obtain⟨K,β,cap⟩:=g
 simp only[G.ren,hρ]
theorem aSk (ρ:Nat→Nat) (x:CV):(x.ren ρ).ids=x.ids.map ρ:=by
 cases x with
 | clo f caps =>
  simp only[CV.ren,CV.ids,List.flatMap_map,List.map_flatMap]
  congr 1
  funext c
  cases c<;>rfl
 | bnd f caps =>
  simp only[CV.ren,CV.ids,List.flatMap_map,List.map_flatMap]
  congr 1
  funext c
  cases c<;>rfl
 | _=>rfl
def Fr.ren (ρ:Nat→Nat) (F:Fr):Fr:=⟨F.W,F.S,F.ln.map ρ,F.g.ren ρ,F.H.ren ρ,F.ro⟩
theorem Fr.ren_ren {ρ:Nat→Nat} (hρ:∀ i,ρ (ρ i)=i) (F:Fr):(F.ren ρ).ren ρ=F:=by
 obtain⟨W,S,ln,g,H,ro⟩:=F
 simp only[Fr.ren,G.ren_ren hρ,Hp.ren_ren hρ,List.map_map]
 rw[lP (f:=ρ ∘ ρ) (fun x=>hρ x)]
theorem RelH.ren {ρ:Nat→Nat} (hρ:∀ i,ρ (ρ i)=i) {F:Fr} {K0:aW} {g:G} {H:Hp} {w:World} (r:RelH F K0 g H w):RelH (F.ren ρ) K0 (g.ren ρ) (H.ren ρ) w:=by
 refine⟨⟨r.below.os,r.below.tape,r.below.output,r.below.size,r.below.block⟩,r.ext,r.kw,fun i he hi=>?_,fun i b hi=>r.base _ b hi,fun i hi=>?_,fun i j b hi hj=>?_,fun i b hi=>r.frozlt _ b hi,r.glob,fun x v hx h=>?_⟩
 ·have hi:(H (ρ i)).map (HE.ren ρ)=some he:=hi
  cases hq:H (ρ i) with
  | none=>rw[hq] at hi;cases hi
  | some he0 =>
   rw[hq] at hi
   have hi:he0.ren ρ=he:=by simpa using hi
   subst hi
   have:=r.holds (ρ i) he0 hq
   cases he0 with
   | cells cs =>
    obtain⟨b,vs,t,h1,h2,h3,h4,h5⟩:=this
    exact⟨b,vs,t,h1,h2,oZ hρ h3,h4,h5⟩
   | froz ds=>exact this
   | row e sz n=>exact this
   | mrow e sz n cs=>exact aI4 hρ this
   | rot e sz n=>exact this
   | ob cs p=>exact aPw hρ this
   | obj o=>exact this
 ·have hi:(H (ρ i)).map (HE.ren ρ)=none:=hi
  cases hq:H (ρ i) with
  | none=>exact r.dom _ hq
  | some he0=>rw[hq] at hi;cases hi
 ·have:=r.sep (ρ i) (ρ j) b hi hj
  rw[← hρ i,← hρ j,this]
 ·have h1:=oG hρ h
  have e1:(F.ren ρ).g.ren ρ=F.g:=G.ren_ren hρ F.g
  have e2:(F.ren ρ).H.ren ρ=F.H:=Hp.ren_ren hρ F.H
  rw[e1,e2] at h1
  have h2:=r.lent (x.ren ρ) v (fun i hi=>by
   rw[aSk] at hi
   obtain⟨j,hj,rfl⟩:=List.mem_map.1 hi
   have:=hx j hj
   have:j ∈ F.ln.map ρ:=this
   obtain⟨m,hm,rfl⟩:=List.mem_map.1 this
   rw[hρ];exact hm) h1
  have h3:=oG hρ h2
  rw[CV.ren_ren hρ] at h3
  exact h3
theorem bH.ren {ρ:Nat→Nat} (hρ:∀ i,ρ (ρ i)=i) {g:G} {H:Hp} {x:SV} {v:Value} (h:bH g H x v):bH (g.ren ρ) (H.ren ρ) (x.ren ρ) v:=by
 cases x with
 | c x=>exact oG hρ h
 | agg cs =>
  obtain⟨vs,hv,hr,h1⟩:=h
  exact⟨vs,hv,oZ hρ hr,h1⟩
theorem aTi {ks:List Nat} {g:G} {H:Hp} {x:CV} {v:Value} (h:bG (g.on ks) (H.on ks) x v):bG g H x v:=by
 have ho:∀ id off v,bG (g.on ks) (H.on ks) (.own id off) v→bG g H (.own id off) v:=by
  rintro id off v ⟨b,hb,hv,hr⟩
  obtain⟨h1,h2⟩:=G.on_some hb
  rw[Hp.on_in h1] at hr
  exact⟨b,h2,hv,hr⟩
 cases x with
 | any=>trivial
 | d x=>exact h
 | full sz xs=>exact h
 | own id off=>exact ho id off v h
 | yld id=>exact fP h ho
 | mp id=>exact iJ h ho
 | apt τ sz xs k =>
  have hc:ks.contains τ=true:=by
   cases hc:ks.contains τ with
   | true=>rfl
   | false=>obtain⟨_,e,n,q,_⟩:=h;rw[Hp.on_out hc] at q;cases q
  exact sZ (by exact jO.refl _) h (fun e n q=>by rw[Hp.on_in hc] at q;exact q) (G.on_in hc).symm rfl
 | mt τ k =>
  have hc:ks.contains τ=true:=by
   cases hc:ks.contains τ with
   | true=>rfl
   | false=>obtain⟨_,e,sz,n,cs,q,_⟩:=h;rw[Hp.on_out hc] at q;cases q
  exact xG h (fun e sz n cs q=>⟨cs,by rw[Hp.on_in hc] at q;exact q,rfl⟩) (G.on_in hc).symm rfl
 | mpt τ k o =>
  have hc:ks.contains τ=true:=by
   cases hc:ks.contains τ with
   | true=>rfl
   | false=>obtain⟨_,e,sz,n,cs,q,_⟩:=h;rw[Hp.on_out hc] at q;cases q
  exact xE h (fun e sz n cs q=>⟨cs,by rw[Hp.on_in hc] at q;exact q,rfl⟩) (G.on_in hc).symm
 | clo f caps=>exact fL h (jO.refl _) ho
 | bnd f caps=>exact fJ h (jO.refl _) ho
 | view id sz off len =>
  obtain⟨b,c,hb,hv,hc,hr⟩:=h
  obtain⟨h1,h2⟩:=G.on_some hb
  rw[Hp.on_in h1] at hr
  exact⟨b,c,h2,hv,hc,hr⟩
 | app τ sz xs =>
  obtain⟨h1,e,n,hrow,hl,hf⟩:=h
  cases hc:ks.contains τ with
  | false=>rw[Hp.on_out hc] at hrow;cases hrow
  | true =>
   rw[Hp.on_in hc] at hrow
   refine⟨h1,e,n,hrow,hl,fun hn=>?_⟩
   rcases hf hn with h2|⟨b,hb,hv⟩
   ·exact .inl h2
   ·exact .inr ⟨b,(G.on_some hb).2,hv⟩
structure FunG (P:Program) (f:FuncId) (args:List SV) (ks:List Nat) (B:Hp) (r:SV) (ks' : List Nat) (B' : Hp):Prop where
 body:iT P f=true
 sup:∀ i,ks.contains i=false→B i=none
 sup' : ∀ i,ks'.contains i=false→B' i=none
 sub:∀ i,ks.contains i=true→ks'.contains i=true
 cl:kD ks B
 ids:∀ a ∈ args,∀ i ∈ a.ids,ks.contains i=true
 calls:∀ (g:G) (w:World) (vs:List Value),RelH (mR w g ks g B) g.K g B w→jC g B args vs →
  Calls P f vs.toArray w fun e w'=>∃ v g',e = .returned v∧bH g' B' r v∧RelH (mR w g ks g B) g.K g' B' w'
def jJ (P:Program) (σ:St) (rs:List ResultVar):Option SV:=match rs with
 | [.tmp t]=>some (σ.env t)
 | [.cell a t]=>match bW P t σ.H (σ.env a) with
  | some r=>some r.v
  | none=>none
 | rs=>match bZ (retV P σ) rs with
  | some ds=>some (.c (.d (.tup ds)))
  | none=>none
theorem aKx {P:Program} {W0:Fr} {K0:aW} {g:G} {σ:St} {a:Act} {w:World} {fn:Func} (hr:Rel W0 K0 g σ a w) {x:SV} (h:jJ P σ fn.results.toList=some x) :
  ∃ v,(results fn a.tmps).run P w = .ok v w∧bH g σ.H x v:=by
 have one:∀ (y:ResultVar) (v:Value),fn.results.toList=[y]→(aQp a.tmps y).run P w = .ok v w→(results fn a.tmps).run P w = .ok v w:=by
  intro y v hy hv
  rw[aBh,Sem.run_bind,Array.mapM_eq_mapM_toList,Sem.run_map,hy,List.mapM_cons,Sem.run_bind,hv]
  simp
 unfold jJ at h
 split at h
 ·rename_i t ht
  cases h
  exact⟨_,one _ _ ht rfl,hr.env t⟩
 ·rename_i b t ht
  split at h
  ·rename_i r hl
   cases h
   obtain⟨u,hrun,hv,_⟩:=aAj (P:=P) hr.mem (hr.env b) hl
   refine⟨u,one _ _ ht ?_,hv⟩
   show Sem.run P (do loadVar t (← asAddr (a.tmps.getD b undef))) w=_
   generalize a.tmps.getD b undef=va at hrun
   unfold Instr.loadAt at hrun
   rw[Sem.run_bind] at hrun ⊢
   cases va with
   | pointer p=>cases p with
    | some ad=>exact hrun
    | none=>cases hrun
   | _=>cases hrun
  ·cases h
 ·rename_i h1 h2
  split at h
  ·rename_i ds hds
   cases h
   have:rD0 P σ fn.results.toList=some (.tup ds):=by
    unfold rD0
    split
    ·rename_i y hy
     cases y with
     | tmp t=>exact (h1 t hy).elim
     | cell b t=>exact (h2 b t hy).elim
    ·rw[hds]
   obtain⟨v,hv,hd⟩:=lX hr this
   exact⟨v,hv,hd⟩
  ·cases h
def tJ (args:List SV) (ks:List Nat) (B:Hp) (n:Nat):St:=⟨fun t=>match args[t]? with|some x=>x|none=>.c .any,B,1000,n,⟨ks,[],false,none⟩⟩
theorem tK (args:List SV) (ks:List Nat) (B:Hp) (n t:Nat):(tJ args ks B n).env t=match args[t]? with|some x=>x|none=>.c .any:=rfl
theorem aA0 (args:List SV) (ks:List Nat) (B:Hp) (n:Nat):(tJ args ks B n).H=B:=rfl
theorem aD6 (args:List SV) (ks:List Nat) (B:Hp) (n:Nat):(tJ args ks B n).nx=1000:=rfl
theorem wW (args:List SV) (ks:List Nat) (B:Hp) (n:Nat):(tJ args ks B n).sz=n:=rfl
theorem aD5 (args:List SV) (ks:List Nat) (B:Hp) (n:Nat):(tJ args ks B n).fx=⟨ks,[],false,none⟩:=rfl
def aUa (P:Program) (rs:List ResultVar) (r:SV) (ks' : List Nat) (B' : Hp) (σ:St):Prop:=∃ σ',aD σ σ'∧σ'.fx.dfs=[]∧jJ P σ' rs=some r∧(∀ k,ks'.contains k=true→σ'.H k=B' k)
def cJ (P:Program) (rs:List ResultVar) (r:SV) (ks' : List Nat) (B' : Hp):Exit→St→Prop
 | .normal,σ=>aUa P rs r ks' B' σ
 | .ret,σ=>aUa P rs r ks' B' σ
 | _,_=>False
def okB (ks:List Nat) (M:List (Nat × HE)):Bool:=M.all fun p=>p.2.ids.all fun i=>ks.contains i
theorem tH {ks:List Nat} {M:List (Nat × HE)} (h:okB ks M=true):kD ks (bJ M):=by
 intro k cs hk hc i hi
 have hm:=eL (show M.lookup k=some cs from hc)
 have h2:=List.all_eq_true.1 h _ hm
 exact List.all_eq_true.1 h2 i hi
theorem FunG.of_body {P : Program} {f : FuncId} {fn : Func} {c : Code} {args : List SV} {ks ks' : List Nat} {B B' : Hp} {r : SV} {n : Nat} {rs : Array ResultVar} (hf : P.funcs[f]? = some fn) (hb : fn.body = some c) (hn : (fn.name == "runtime.NumGoroutine") = false) (hnt : fn.ntmps = n) (hrs : fn.results = rs) (hle : args.length ≤ n)
  (sup:∀ i,ks.contains i=false→B i=none) (sup' : ∀ i,ks'.contains i=false→B' i=none) (sub:∀ i,ks.contains i=true→ks'.contains i=true) (cl:kD ks B) (cl' : kD ks' B') (ids:∀ a ∈ args,∀ i ∈ a.ids,ks.contains i=true) (rids:∀ i ∈ r.ids,ks'.contains i=true)
  (h:Wp P c (tJ args ks B n) (cJ P rs.toList r ks' B')):FunG P f args ks B r ks' B':=by
 subst hnt hrs
 refine⟨by unfold iT;rw[hf];simp only[hn,hb];rfl,sup,sup',sub,cl,ids,fun g w vs hh hL=>?_⟩
 have hl:=hL.1
 refine callsIn_wide.1 (callsIn_of_wp_marks (F:=Fence.wide) (n:=0) hf hb trivial (wpIn_mono (h (mR w g ks g B) g.K g _ w ⟨hh,?_,?_,trivial,rfl,rfl,List.nodup_nil,fun q hq=>by cases hq⟩) ?_))
 ·intro t
  rw[aA0,tK]
  cases ht:args[t]? with
  | none=>trivial
  | some x =>
   have hlt:t<vs.length:=by have:=(List.getElem?_eq_some_iff.1 ht).1;omega
   have:(vs.toArray++Array.replicate (fn.ntmps - vs.toArray.size) undef).getD t undef=vs[t]:=by
    rw[Array.getD_eq_getD_getElem?,Array.getElem?_append_left (by simpa using hlt)];simp[hlt]
   rw[this]
   exact hL.2 t x _ ht (List.getElem?_eq_getElem hlt)
 ·rw[wW];simp;omega
 ·rintro e a' w' ⟨g',σ',hr,hQ⟩
  have fin:aUa P fn.results.toList r ks' B' σ'→LeavesInM Fence.wide 0 P fn a'.tmps (fun e w'=>∃ v g',e = .returned v∧bH g' B' r v∧RelH (mR w g ks g B) g.K g' B' w') a'.defers .returning w':=by
   rintro⟨σ2,hw,hdf,hret,hB⟩
   obtain⟨g2,hr2⟩:=hw _ _ _ _ _ hr
   have hd:=hr2.defers
   rw[hdf] at hd
   have hnil:a'.defers=[]:=by
    cases hq:a'.defers with
    | nil=>rfl
    | cons x y=>rw[hq] at hd;exact hd.elim
   rw[hnil]
   obtain⟨v,hv,hrep⟩:=aKx hr2 (fn:=fn) hret
   have hcl:kD ks' σ2.H:=fun k cs hk hH=>cl' k cs hk (by rw[← hB k hk];exact hH)
   have hm:=hr2.mem.drop ks' (fun i hi=>by have:i ∈ ks:=hi;exact sub i (by simpa using this)) hcl
   have hon:σ2.H.on ks' = B':=by
    funext i
    cases hc:ks'.contains i with
    | true=>rw[Hp.on_in hc];exact hB i hc
    | false=>rw[Hp.on_out hc,sup' i hc]
   have hrep':=bH.on (ks:=ks') rids hrep
   rw[hon] at hm hrep'
   exact⟨v,hv,v,_,rfl,hrep',hm⟩
  cases e with
  | normal=>exact fin hQ
  | ret=>exact fin hQ
  | _=>exact hQ.elim
def aOc (l ks:List Nat):Bool:=l.all fun i=>ks.contains i
def okG (args:List SV) (r:SV) (M M' : List (Nat × HE)):Bool :=
 okB (M.map (·.1)) M && (okB (M'.map (·.1)) M' && (aOc (M.map (·.1)) (M'.map (·.1)) && ((args.all fun a=>aOc a.ids (M.map (·.1))) && aOc r.ids (M'.map (·.1)))))
theorem vC (M:List (Nat × HE)) (i:Nat) (h:(M.map (·.1)).contains i=false):bJ M i=none:=by
 show M.lookup i=none
 cases hm:M.lookup i with
 | none=>rfl
 | some x =>
  have:(M.map (·.1)).contains i=true:=by simp only[List.contains_iff_mem];exact List.mem_map.2 ⟨_,eL hm,rfl⟩
  rw[h] at this;cases this
theorem rX {l ks:List Nat} (h:aOc l ks=true):∀ i ∈ l,ks.contains i=true:=fun i hi=>List.all_eq_true.1 h i hi
theorem FunG.of_bodyH {P : Program} {f : FuncId} {fn : Func} {c : Code} {args : List SV} {ks ks' : List Nat} {M M' : List (Nat × HE)} {r : SV} {n : Nat} {rs : Array ResultVar} (hks : M.map (·.1) = ks) (hks' : M'.map (·.1) = ks') (hf : P.funcs[f]? = some fn) (hb : fn.body = some c) (hn : (fn.name == "runtime.NumGoroutine") = false) (hnt : fn.ntmps = n) (hrs : fn.results = rs) (hle : args.length ≤ n)
  (hok:okG args r M M' = true) (h:Wp P c (tJ args ks (bJ M) n) (cJ P rs.toList r ks' (bJ M'))):FunG P f args ks (bJ M) r ks' (bJ M'):=by
 subst hks hks'
 simp only[okG,Bool.and_eq_true] at hok
 obtain⟨h1,h2,h3,h4,h5⟩:=hok
 exact FunG.of_body hf hb hn hnt hrs hle (vC M) (vC M') (fun i hi=>rX h3 i (by simpa using hi)) (tH h1) (tH h2) (fun a ha=>rX (List.all_eq_true.1 h4 a ha)) (rX h5) h
def kO (H B' : Hp):List Nat→Prop
 | []=>True
 | k::ks=>H k=B' k∧kO H B' ks
theorem zZ {H B' : Hp}:∀ {ks:List Nat},kO H B' ks→∀ k,ks.contains k=true→H k=B' k
 | k::ks,h,j,hj=>by
  simp only[List.contains_cons,Bool.or_eq_true,beq_iff_eq] at hj
  rcases hj with rfl|hj
  ·exact h.1
  ·exact zZ h.2 j hj
theorem cJ.ret {P:Program} {rs:List ResultVar} {r:SV} {ks' : List Nat} {B' : Hp} {σ:St} (h:σ.fx.dfs=[]∧jJ P σ rs=some r∧kO σ.H B' ks'):cJ P rs r ks' B' .ret σ:=⟨σ,aD.refl _,h.1,h.2.1,zZ h.2.2⟩
theorem cJ.normal {P:Program} {rs:List ResultVar} {r:SV} {ks' : List Nat} {B' : Hp} {σ:St} (h:σ.fx.dfs=[]∧jJ P σ rs=some r∧kO σ.H B' ks'):cJ P rs r ks' B' .normal σ:=⟨σ,aD.refl _,h.1,h.2.1,zZ h.2.2⟩
theorem cJ.weak {P:Program} {rs:List ResultVar} {r:SV} {ks' : List Nat} {B' : Hp} {σ σ2:St} {e:Exit} (hw:aD σ σ2) (h:cJ P rs r ks' B' e σ2):cJ P rs r ks' B' e σ:=by
 cases e with
 | normal=>obtain⟨σ3,h1,h2⟩:=h;exact⟨σ3,hw.trans h1,h2⟩
 | ret=>obtain⟨σ3,h1,h2⟩:=h;exact⟨σ3,hw.trans h1,h2⟩
 | _=>exact h
theorem bA:type_of% (ai @tK (ai @aA0 (ai @aD6 (ai @wW @aD5)))):=ai @tK (ai @aA0 (ai @aD6 (ai @wW @aD5)))
/-! numbers that are turned about,by pairs -/
def iP:List (Nat × Nat)→Nat→Nat
 | [],i=>i
 | p::l,i=>if i=p.1 then p.2 else if i=p.2 then p.1 else iP l i
def aR8 (x:Nat):List (Nat × Nat)→Bool
 | []=>true
 | p::l=>!(x == p.1) && (!(x == p.2) && aR8 x l)
def aIy:List (Nat × Nat)→Bool
 | []=>true
 | p::l=>aR8 p.1 l && (aR8 p.2 l && (!(p.1 == p.2) && aIy l))
theorem aBq:∀ {l:List (Nat × Nat)} {x i:Nat},aR8 x l=true→aIy l=true→i≠x→iP l i≠x
 | [],x,i,h,_,hi=>hi
 | p::l,x,i,h,ho,hi=>by
  simp only[aR8,Bool.and_eq_true,Bool.not_eq_true',beq_eq_false_iff_ne] at h
  simp only[aIy,Bool.and_eq_true] at ho
  unfold iP
  split
  ·exact fun e=>h.2.1 e.symm
  ·split
   ·exact fun e=>h.1 e.symm
   ·exact aBq h.2.2 ho.2.2.2 hi
theorem aM2:∀ {l:List (Nat × Nat)},aIy l=true→∀ i,iP l (iP l i)=i
 | [],_,i=>rfl
 | p::l,ho,i=>by
  simp only[aIy,Bool.and_eq_true,Bool.not_eq_true',beq_eq_false_iff_ne] at ho
  by_cases h1:i=p.1
  ·have:iP (p::l) i=p.2:=by unfold iP;rw[if_pos h1]
   rw[this];unfold iP;rw[if_neg (fun e=>ho.2.2.1 e.symm),if_pos rfl];exact h1.symm
  ·by_cases h2:i=p.2
   ·have:iP (p::l) i=p.1:=by unfold iP;rw[if_neg h1,if_pos h2]
    rw[this];unfold iP;rw[if_pos rfl];exact h2.symm
   ·have hs:∀ j,¬ j=p.1→¬ j=p.2→iP (p::l) j=iP l j:=fun j h h'=>by
     show (if j=p.1 then p.2 else if j=p.2 then p.1 else iP l j)=_
     rw[if_neg h,if_neg h']
    rw[hs i h1 h2]
    have a:=aBq (i:=i) ho.1 ho.2.2.2 h1
    have b:=aBq (i:=i) ho.2.1 ho.2.2.2 h2
    rw[hs _ a b]
    exact aM2 ho.2.2.2 i
theorem jC.append {g:G} {H:Hp} {a b:List SV} {u v:List Value} (h:jC g H a u) (h' : jC g H b v):jC g H (a++b) (u++v):=by
 refine⟨by simp[h.1,h'.1],fun j x y hx hy=>?_⟩
 have e:=h.1
 rcases Nat.lt_or_ge j a.length with hj|hj
 ·rw[List.getElem?_append_left hj] at hx
  rw[List.getElem?_append_left (by omega)] at hy
  exact h.2 j x y hx hy
 ·rw[List.getElem?_append_right hj] at hx
  rw[List.getElem?_append_right (by omega),← e] at hy
  exact h'.2 _ x y hx hy
def fX:SV→Option (FuncId × List SV × List SV)
 | .c (.d (.fn (.func f) caps))=>some (f,[],caps.map SV.ofD)
 | .c (.clo (.func f) caps)=>some (f,[],caps.map Cap.sv)
 | .c (.bnd (.func f) caps)=>some (f,caps.map Cap.sv,[])
 | _=>none
theorem jC.nil {g:G} {H:Hp}:jC g H [] []:=⟨rfl,fun j x u hx hu=>by simp at hx⟩
theorem aJm {g:G} {H:Hp} {x:SV} {v:Value} {f:FuncId} {pre cs:List SV} (hx:bH g H x v) (h:fX x=some (f,pre,cs)):∃ us vs:List Value,v = .func (.func f) us.toArray vs.toArray∧jC g H pre us∧jC g H cs vs:=by
 unfold fX at h
 split at h
 ·rename_i f' caps
  cases h
  obtain⟨vs,hv,hr⟩:=tF hx (show aGm _=some (_,caps.map SV.ofD) from rfl)
  exact⟨[],vs,hv,.nil,hr⟩
 ·rename_i f' caps
  cases h
  obtain⟨vs,hv,hr⟩:=tF hx (show aGm _=some (_,caps.map Cap.sv) from rfl)
  exact⟨[],vs,hv,.nil,hr⟩
 ·rename_i f' caps
  cases h
  obtain⟨vs,hv,hl,hc⟩:=hx
  refine⟨vs,[],hv,⟨by simpa using hl,fun j x u hx hu=>?_⟩,.nil⟩
  simp only[List.getElem?_map,Option.map_eq_some_iff] at hx
  obtain⟨d,hd,rfl⟩:=hx
  have:=hc j d u hd hu
  cases d with
  | d y=>exact lW this g H rfl
  | own id off=>exact this
 ·cases h
def jR (H:Hp) (ρ:Nat→Nat) (B' : Hp):List Nat→Hp
 | []=>H
 | k::ks=>upd (jR H ρ B' ks) (ρ k) ((B' k).map (HE.ren ρ))
def wF (H:Hp) (ρ:Nat→Nat) (B:Hp):List Nat→Prop
 | []=>True
 | k::ks=>H (ρ k)=(B k).map (HE.ren ρ)∧wF H ρ B ks
def lR (H:Hp) (ρ:Nat→Nat) (ks:List Nat):List Nat→Prop
 | []=>True
 | k::l=>(ks.contains k=true∨H (ρ k)=none)∧lR H ρ ks l
theorem aL9 {H:Hp} {ρ:Nat→Nat} {B:Hp}:∀ {ks:List Nat},wF H ρ B ks→∀ k ∈ ks,H (ρ k)=(B k).map (HE.ren ρ)
 | k::ks,h,j,hj=>by
  rcases List.mem_cons.1 hj with rfl|hj
  ·exact h.1
  ·exact aL9 h.2 j hj
theorem aI9 {H:Hp} {ρ:Nat→Nat} {ks:List Nat}:∀ {l:List Nat},lR H ρ ks l→∀ k ∈ l,ks.contains k=true∨H (ρ k)=none
 | k::ks,h,j,hj=>by
  rcases List.mem_cons.1 hj with rfl|hj
  ·exact h.1
  ·exact aI9 h.2 j hj
theorem vR {ρ:Nat→Nat} (hρ:∀ i,ρ (ρ i)=i) (H B' : Hp):∀ (ks:List Nat),jR H ρ B' ks=(over ks (H.ren ρ) B').ren ρ
 | []=>by
  have:over [] (H.ren ρ) B' = H.ren ρ:=by funext i;exact dE rfl
  rw[this,Hp.ren_ren hρ];rfl
 | k::ks=>by
  have ih:=vR hρ H B' ks
  funext i
  simp only[jR,ih]
  by_cases h:i=ρ k
  ·subst h
   rw[aC]
   simp only[Hp.ren,hρ]
   rw[gI (by simp)]
  ·rw[aB _ _ h]
   simp only[Hp.ren]
   have hne:ρ i≠k:=fun e=>h (by rw[← e,hρ])
   cases hc:ks.contains (ρ i) with
   | true=>rw[gI hc,gI (by simp only[List.contains_cons,hc,Bool.or_true])]
   | false=>rw[dE hc,dE (by simp only[List.contains_cons,hc,Bool.or_false];simpa using hne)]
theorem dB.mono' {g g' : G} {H H' : Hp} (hle:gB g H g' H'):∀ {l:List Nat} {ds:List Deferred},(∀ id ∈ l,H' id=H id)→dB g H l ds→dB g' H' l ds
 | [],[],_,h=>h
 | id::l,d::ds,ho,⟨⟨b,hb,hd⟩,h2,h3⟩=>by
  refine⟨?_,by rw[ho id (by simp)];exact h2,dB.mono' hle (fun i hi=>ho i (by simp[hi])) h3⟩
  obtain⟨b',hb',hv,_⟩:=hle (.own id 0) (.pointer (some ⟨b,0,none⟩)) ⟨b,hb,rfl,by rw[h2];rfl⟩
  simp only[Value.pointer.injEq,Option.some.injEq,Addr.mk.injEq,and_true] at hv
  exact⟨b',hb',by rw[hd,hv]⟩
 | [],_::_,_,h=>h.elim
 | _::_,[],_,h=>h.elim
def cU (P:Program) (all l:List Oper) (σ:St) (k:St→Prop):Prop :=
 ∀ (F:Fr) (K0:aW) (g:G) (a:Act) (w:World) (Q:Exit→Act→World→Prop),Rel F K0 g σ a w→(∀ g' σ' a' w',k σ'→Rel F K0 g' σ' a' w'→Q .normal a' w')→wpListIn (fen F.ro) 0 P all.toArray Q l a w
theorem cU.done {P:Program} {all l:List Oper} {σ:St} {k:St→Prop} (h:∀ K:St→Prop,(∀ σ',k σ'→K σ')→kE P all l σ [] (fun σ' _=>K σ')):cU P all l σ k:=by
 intro F K0 g a w Q hr hk
 have:=oM (all:=all) (rest:=[]) (Q:=Q) (ro:=F.ro) (k:=fun σ' _=>k σ') (fun g1 σ1 tr1 a1 w1 hk1 hr1=>show wpListIn _ _ _ _ _ [] a1 w1 from hk g1 σ1 a1 w1 hk1 hr1) l g σ [] a w (dM (h _ (fun _ h=>h))) hr
 rwa [List.append_nil] at this
theorem cU.at (n:Nat) {P:Program} {all l:List Oper} {σ:St} {k:St→Prop} (h:∀ K:St→Prop,(∀ σ',cU P all (l.drop n) σ' k→K σ')→kE P all (l.take n) σ [] (fun σ' _=>K σ')):cU P all l σ k:=by
 intro F K0 g a w Q hr hk
 have:=oM (all:=all) (rest:=l.drop n) (Q:=Q) (ro:=F.ro) (k:=fun σ' _=>cU P all (l.drop n) σ' k) (fun g1 σ1 tr1 a1 w1 hk1 hr1=>hk1 F K0 g1 a1 w1 Q hr1 hk) (l.take n) g σ [] a w (dM (h _ (fun _ h=>h))) hr
 rwa [List.take_append_drop] at this
theorem cU.skip {P:Program} {all:List Oper} {o:Oper} {os:List Oper} {σ:St} {k:St→Prop} (hg:gV all σ.env o=some false) (hd:tD σ o=true) (h:cU P all os (σ.skip o) k):cU P all (o::os) σ k:=by
 intro F K0 g a w Q hr hk
 have hw:=eD (a:=a) (fun _ _ _ d _ _ _=>hr.env d) hg
 unfold wpListIn
 rw[hw]
 simp only[Bool.false_eq_true,if_false]
 exact⟨fun _ _=>trivial,h F K0 g _ _ Q (rU hr (uM hd)) hk⟩
theorem cR (args:List D) (n:Nat):(xZ args n).fx=⟨[],[],false,none⟩:=rfl
theorem pP:(0:Fx)=⟨[],[],false,none⟩:=rfl
def iN (P:Program) (all:List Oper) (o:Oper) (f:Operand) (args:Array Operand) (σ:St) (ρ:Nat→Nat) (fid:FuncId) (as:List SV) (ks:List Nat) (B:Hp) (ks' : List Nat):Prop :=
 gV all σ.env o=some true∧tD σ o=true∧(match fX (bV σ.env f) with
  | some (fid',pre,cs)=>fid' = fid∧pre.map (SV.ren ρ)++((args.toList.map (bV σ.env)).map (SV.ren ρ)++cs.map (SV.ren ρ))=as
  | none=>False)∧wF σ.H ρ B ks∧lR σ.H ρ ks ks'∧(σ.fx.dfs.all fun i=>!ks'.contains (ρ i))=true
theorem cU.call {P:Program} {fid:FuncId} {as:List SV} {ks ks' : List Nat} {B B' : Hp} {r:SV} (hf:FunG P fid as ks B r ks' B') (l:List (Nat × Nat)) (nx' : Nat) {all:List Oper} {o:Oper} {os:List Oper} {σ:St} {k:St→Prop} {f:Operand} {args:Array Operand} {tys:Array TypeId}
  (hop:o.op = .call { callee:=.value f,args:=args,argTypes:=tys }) (hl:aIy l=true) (hc:iN P all o f args σ (iP l) fid as ks B ks')
  (h:cU P all os ⟨mO σ.env o.dst (r.ren (iP l)),jR σ.H (iP l) B' ks',nx',σ.sz,σ.fx⟩ k):cU P all (o::os) σ k:=by
 intro F K0 g a w Q hr hk
 have hρ:=aM2 hl
 generalize iP l=ρ at *
 obtain⟨hg,hd,hcap,hat,hnew,hdf⟩:=hc
 have hw:=eD (a:=a) (fun _ _ _ d _ _ _=>hr.env d) hg
 unfold wpListIn
 rw[hw]
 simp only[if_true]
 have hnd:∀ c,o.op≠.defer c:=by intro c hc;rw[hop] at hc;cases hc
 split at hcap
 rotate_left
 ·exact hcap.elim
 rename_i fid' pre cs hcs
 obtain⟨rfl,has⟩:=hcap
 obtain⟨pvs,cvs,hfv,hpr,hcr⟩:=aJm (iQ hr f) hcs
 have hargs:jC g σ.H (args.toList.map (bV σ.env)) (args.toList.map a.eval):=oR args.toList (fun p _=>iQ hr p)
 have hall:=hpr.append (hargs.append hcr)
 have hmap:args.map a.eval=(args.toList.map a.eval).toArray:=by apply Array.ext';simp
 have hbody:=hf.body
 have hex:(execOp a.eval o).run P w = .ok (.enter fid' (pvs++(args.toList.map a.eval++cvs)).toArray) w:=by
  unfold execOp
  rw[hop]
  unfold iT at hbody
  split at hbody
  ·rename_i fn hfn
   simp only[Bool.and_eq_true,Bool.not_eq_true'] at hbody
   simp only[resolve,hmap,hfv,Deferred.ofValue]
   have hb1:¬ fn.body=none:=by intro e;rw[e] at hbody;simp at hbody
   have hb2 : ¬ fn.name = "runtime.NumGoroutine" := by simpa using hbody.1
   simp[invoke,callFunc,hfn,hb1,hb2]
  ·cases hbody
 -- the caller's memory under the callee's numbers
 have hren:=hr.mem.ren hρ
 have hren':=hren
 have hB:∀ i,ks'.contains i=true→(σ.H.ren ρ) i=B i:=fun i hi=>by
  cases hc:ks.contains i with
  | true =>
   have:=aL9 hat i (by simpa using hc)
   show (σ.H (ρ i)).map (HE.ren ρ)=_
   rw[this,Option.map_map]
   cases B i with
   | none=>rfl
   | some x=>simp[HE.ren_ren hρ]
  | false =>
   have:=(aI9 hnew i (by simpa using hi)).resolve_left (by rw[hc];simp)
   show (σ.H (ρ i)).map (HE.ren ρ)=_
   rw[this,hf.sup i hc];rfl
 have hon:(σ.H.ren ρ).on ks=B:=by
  funext i
  cases hc:ks.contains i with
  | true=>rw[Hp.on_in hc];exact hB i (hf.sub i hc)
  | false=>rw[Hp.on_out hc,hf.sup i hc]
 have hon' : (σ.H.ren ρ).on ks' = B:=by
  funext i
  cases hc:ks'.contains i with
  | true=>rw[Hp.on_in hc];exact hB i hc
  | false =>
   rw[Hp.on_out hc]
   cases hc2:ks.contains i with
   | true=>rw[hf.sub i hc2] at hc;cases hc
   | false=>rw[hf.sup i hc2]
 generalize hg1:g.ren ρ=g1 at hren
 generalize hH1:σ.H.ren ρ=H1 at hren hon hon' hB
 have hgon:g1.on ks' = g1.on ks:=by
  have:∀ i,ks'.contains i=true→ks.contains i=false→g1.β i=none:=fun i h1 h2=>hren.dom i (by rw[hB i h1];exact hf.sup i h2)
  unfold G.on
  congr 1
  funext i
  cases h1:ks'.contains i with
  | true =>
   cases h2:ks.contains i with
   | true=>rfl
   | false=>simp only[if_true];rw[this i h1 h2];rfl
  | false =>
   cases h2:ks.contains i with
   | true=>rw[hf.sub i h2] at h1;cases h1
   | false=>rfl
 have hcl:kD ks H1:=fun k cs hk hH=>hf.cl k cs hk (by rw[← hB k (hf.sub k hk)];exact hH)
 have hlend:=hren.lend ks hcl (g0:=g1.on ks) (H0:=B) (fun x v _ h=>by rw[← hon] at h;exact aTi h)
 rw[hon] at hlend
 have hS:∀ (g0:G) (H0:Hp) (ks2:List Nat),(mR w (g1.on ks) ks g0 H0).S=(mR w g1 ks g0 H0).S:=fun g0 H0 ks2=>by
  funext b
  apply propext
  constructor
  ·rintro⟨i,h1,h2⟩;exact⟨i,h1,(G.on_some h2).2⟩
  ·rintro⟨i,h1,h2⟩;exact⟨i,h1,(G.on_in h1).trans h2⟩
 have hlend2:RelH (mR w (g1.on ks) ks (g1.on ks) B) (g1.on ks).K (g1.on ks) B w:=hlend.reb rfl (hS _ _ ks) hlend.lent
 have hargs2:jC (g1.on ks) B as (pvs++(args.toList.map a.eval++cvs)):=by
  rw[← has,← List.map_append,← List.map_append]
  refine⟨by simpa using hall.1,fun j x v hx hv=>?_⟩
  have hx0:=hx
  simp only[List.getElem?_map,Option.map_eq_some_iff] at hx
  obtain⟨y,hy,rfl⟩:=hx
  have h1:=(hall.2 j y v hy hv).ren hρ
  rw[hg1,hH1] at h1
  have hmem:y.ren ρ ∈ as:=by rw[← has,← List.map_append,← List.map_append];exact List.mem_of_getElem? hx0
  have h2:=bH.on (ks:=ks) (hf.ids _ hmem) h1
  rw[hon] at h2;exact h2
 have hcall:=hf.calls (g1.on ks) w _ hlend2 hargs2
 refine⟨fun _ _=>trivial,?_⟩
 rw[Oper.semAt_eq _ _ _ hnd,hex]
 simp only[Oper.uponIn]
 refine⟨lL,mB (hcall.mono ?_)⟩
 rintro e w' ⟨v,g',rfl,hrv,hrel⟩
 have hln:gB (g1.on ks') (H1.on ks') g' B':=by
  rw[hgon,hon']
  intro x v r
  exact hrel.lent x v (fun i hi=>by
   have hne:=vS hlend2 r i hi
   cases hc:ks.contains i with
   | true=>show i ∈ ks;simpa using hc
   | false=>exact absurd (hf.sup i hc) hne) r
 have hrel2:RelH (mR w g1 ks' (g1.on ks') (H1.on ks')) g1.K g' B' w':=by
  refine hrel.reb rfl ?_ (fun x v _ r=>hln x v r)
  funext b
  apply propext
  constructor
  ·rintro⟨i,h1,h2⟩
   refine⟨i,?_,?_⟩
   ·cases h3:ks.contains i with
    | true=>rfl
    | false =>
     have:g1.β i=none:=hren.dom i (by rw[hB i h1];exact hf.sup i h3)
     have h2:g1.β i=some b:=h2
     rw[this] at h2;cases h2
   ·have:(g1.on ks').β i=some b:=(G.on_in h1).trans h2
    rw[hgon] at this;exact this
  ·rintro⟨i,h1,h2⟩;exact⟨i,hf.sub i h1,(G.on_some h2).2⟩
 obtain⟨hm,hgle,hto⟩:=hren.back hrel2 hf.sup' hln
 have hm2:=hm.ren hρ
 rw[Fr.ren_ren hρ,← hH1,← vR hρ] at hm2
 have hgle2:gB g σ.H ((lG ks' g1 g').ren ρ) (jR σ.H ρ B' ks'):=by
  intro x v r
  have h1:=oG hρ r
  rw[hg1,hH1] at h1
  have h2:=oG hρ (hgle _ _ h1)
  rw[CV.ren_ren hρ,← hH1,← vR hρ] at h2
  exact h2
 have hrv2:bH ((lG ks' g1 g').ren ρ) (jR σ.H ρ B' ks') (r.ren ρ) v:=by
  have h1:bH (lG ks' g1 g') (over ks' H1 B') r v:=by
   cases r with
   | c x=>exact hto _ _ hrv
   | agg xs =>
    obtain⟨vs,hv,hr',h1⟩:=hrv
    exact⟨vs,hv,⟨hr'.1,fun j x v hx hv=>hto _ _ (hr'.2 j x v hx hv)⟩,h1⟩
  have h2:=bH.ren hρ h1
  rw[← hH1,← vR hρ] at h2
  exact h2
 refine h F K0 _ _ w' Q ⟨hm2,fun t=>?_,by rw[oX];exact hr.size,?_,hr.ln,hr.rd,hr.nodup,hr.lt⟩ hk
 ·have hd':=uM hd
  unfold mQ at hd'
  exact sD (d:=o.dst) (fun t=>(hr.env t).mono hgle2) hrv2 hr.size (fun t ht=>by rw[ht] at hd';exact hd') t
 ·show dB _ _ σ.fx.dfs _
  rw[sK]
  refine dB.mono' hgle2 (fun i hi=>?_) hr.defers
  have:=List.all_eq_true.1 hdf i hi
  rw[Bool.not_eq_true'] at this
  rw[vR hρ]
  show ((over ks' (σ.H.ren ρ) B') (ρ i)).map (HE.ren ρ)=_
  rw[dE this]
  show ((σ.H (ρ (ρ i))).map (HE.ren ρ)).map (HE.ren ρ)=_
  rw[hρ,Option.map_map]
  cases σ.H i with
  | none=>rfl
  | some x=>simp[HE.ren_ren hρ]
theorem Wp.regG {P:Program} {σ:St} {Q:Exit→St→Prop} {id:Nat} {all:List Oper} (h:cU P all all σ (fun σ'=>Q .normal σ')):Wp P (.region id all.toArray false) σ Q:=by
 intro F K0 g a w hr
 exact wpIn_region_lit (h F K0 g a w _ hr (fun g' σ' a' w' hq hr'=>⟨g',σ',hr',hq⟩))
theorem Wp.sregG {P:Program} {σ:St} {Q:Exit→St→Prop} {id:Nat} {all:List Oper} {y:Code} (h:cU P all all σ (fun σ'=>Wp P y σ' Q)):Wp P (.seq (.region id all.toArray false) y) σ Q:=Wp.seq (Wp.regG h)
end Go.Proofs.YtkmfmphpndhkjaaGreatDoor
namespace Go.Proofs.YtkmfmphpndhkjaaGreatDoor
open Go Go.RowKit
set_option linter.unusedVariables false
set_option linter.unusedSimpArgs false
abbrev Bs:=List UInt8
def aVp (e:MapEntry):Bs:=match e.key with | .string s=>s.data.toList|_=>[]
def aL7 (es:List MapEntry):Prop:=∀ e ∈ es,e.key = .string ⟨(aVp e).toArray⟩
def aTt (l:List (Bs × Value)):List Bs:=l.map (·.1)
def aY8 (es:List MapEntry):List (Bs × Value):=es.map fun e=>(aVp e,e.val)
def aUb (o:Obj) (L:List (Bs × Value)):Prop:=∃ (es:List MapEntry) (clock:Nat),o = .map es.toArray clock∧aL7 es∧aY8 es=L∧(aTt L).Nodup∧(es.map (·.born)).Nodup∧∀ e ∈ es,e.born<clock
theorem aUb.nil:aUb (.map #[] 0) []:=⟨[],0,rfl,by simp[aL7],rfl,by simp[aTt],by simp,by simp⟩
section
variable {P:Program} {w:World} {b:Nat} {t k e:TypeId} {o:Obj} {L:List (Bs × Value)}
end
end Go.Proofs.YtkmfmphpndhkjaaGreatDoor
namespace Go.Proofs.YtkmfmphpndhkjaaGreatDoor
open Go Go.RowKit
set_option linter.unusedVariables false
set_option linter.unusedSimpArgs false
def HE.smap (L:List (Bs × Value)):HE:=.ob [] (fun _ o=>aUb o L)
theorem cU.yld {P:Program} {all:List Oper} {o:Oper} {os:List Oper} {σ:St} {k:St→Prop} {ks:List Nat} {A:Nat→Hp} {q:G × Hp} {y d:Nat} {b:Bool} {ds:List D} {f:Operand} {args:Array Operand} {tys:Array TypeId} (hL:Lent ks A) (hfx:σ.fx=⟨ks,[],false,some q⟩)
  (hop:o.op = .call { callee:=.value f,args:=args,argTypes:=tys }) (hg:gV all σ.env o=some true) (hdst:o.dst=some d) (hY:aJc P q.1 q.2 ks ds (A y) b (A (y+1))) (hB:kC σ.H (A y)) (hd:d<σ.sz) (hf:bV σ.env f = .c (.yld 999)) (hds:bZ (SV.toD σ.H) (args.toList.map (bV σ.env))=some ds)
  (hrest:cU P all os ⟨upd σ.env d (vb b),rb (A (y+1)) σ.H,σ.nx,σ.sz,σ.fx⟩ k):cU P all (o::os) σ k:=by
 obtain⟨env,H,nx,sz,fx⟩:=σ
 simp only at hfx hd hg hB hf hds hrest
 subst hfx
 have hlt:=hL.lt
 have h999:=hL.l
 have hs:=hL.sup y
 have hs':=hL.sup (y+1)
 have hcl:=hL.cl y
 intro F K0 g a w Q hr hk
 have hw:=eD (a:=a) (fun _ _ _ d _ _ _=>hr.env d) hg
 unfold wpListIn
 rw[hw]
 simp only[if_true]
 have hnd:∀ c,o.op≠.defer c:=by intro c hc;rw[hop] at hc;cases hc
 have hfv:=iQ hr f
 simp only at hfv
 rw[hf] at hfv
 obtain⟨l,hl,hav,hnr⟩:=hfv
 have hargs:jC g H (args.toList.map (bV env)) (args.toList.map a.eval):=oR args.toList (fun p _=>iQ hr p)
 obtain⟨h1,h2⟩:=dW hds
 have hLr:gK g.K ds (args.toList.map a.eval):=⟨by rw[h1,hargs.1],fun j x v hx hv'=>by
  obtain⟨s,hs,hsx⟩:=h2 j x hx
  exact SV.toD_rep hr.mem (hargs.2 j s v hs hv') hsx⟩
 obtain⟨e1,e2⟩:=hr.lt q rfl
 have hon:=aEa hB hlt hs
 have hcl' : kD ks H:=fun k cs hc hk=>hcl k cs hc (by rw[← hB k (hlt k hc)];exact hk)
 have hlend:=hr.mem.lend ks hcl' (g0:=q.1) (H0:=q.2) (fun x v hi h=>hr.mem.lent x v (by rw[hr.ln];exact hi) (by rw[e1,e2];exact h))
 rw[hon] at hlend
 have hl' : (g.on ks).β 999=some l:=(G.on_in h999).trans hl
 obtain⟨fn,tmps,asg,body,hrun,hround⟩:=hY _ _ _ w (args.toList.map a.eval) l rfl rfl rfl hlend hLr hl'
 refine⟨fun _ _=>trivial,?_⟩
 rw[Oper.semAt_eq _ _ _ hnd]
 have hmap:args.map a.eval=(args.toList.map a.eval).toArray:=by apply Array.ext';simp
 have hex:(execOp a.eval o).run P w = .ok (.round l fn tmps asg body) w:=by
  unfold execOp
  rw[hop]
  simp only[resolve,hmap,hav,Deferred.ofValue]
  simp[invoke,hrun]
 rw[hex]
 simp only[Oper.uponIn]
 refine⟨lL,?_⟩
 have hround' : RoundIn (fen F.ro) (0 - 1) P l fn tmps asg body w _:=hround
 refine hround'.mono ?_
 rintro e w' ⟨g',rfl,hrel,hle⟩
 have hle' : gB (g.on ks) (H.on ks) g' (A (y+1)):=by rw[hon];exact hle
 obtain⟨hm,hgle,_⟩:=hr.mem.back hrel hs' hle'
 rw[aLv hB hlt hs hs'] at hm hgle
 have hdef:=hr.defers
 simp only at hdef
 have hrel2:Rel F K0 (lG ks g g') ⟨upd env d (vb b),rb (A (y+1)) H,nx,sz,⟨ks,[],false,some q⟩⟩ (a.put o.dst (.bool b)) w':=by
  refine⟨hm,fun t=>?_,by rw[oX];exact hr.size,?_,hr.ln,hr.rd,hr.nodup,hr.lt⟩
  ·have:=sD (d:=o.dst) (x:=vb b) (v:=.bool b) (fun t=>(hr.env t).mono hgle) (Rep.val _) hr.size (fun t ht=>by rw[hdst] at ht;cases ht;exact hd) t
   rw[hdst] at this ⊢
   exact this
  ·show dB _ _ [] _
   rw[sK]
   cases hq:a.defers with
   | nil=>trivial
   | cons x y=>rw[hq] at hdef;exact hdef.elim
 exact hrest F K0 _ _ w' Q hrel2 hk
structure ResM where
 v:SV
 fp:List Nat
 ws:List Nat
 H' : Hp
structure FootM where
 fp:List Nat
 ws:List Nat
def ftM (r:ResM):FootM:=⟨r.fp,r.ws⟩
def wpO (P:Program) (all:List Oper) (ro:Option Nat) (o:Oper) (Q:Exit→Act→World→Prop) (Kc:Act→World→Prop) (a:Act) (w:World):Prop :=
 if Region.wanted o (yielded all.toArray a.tmps) then o.wpIn (fen ro) 0 P a w Kc Q else (∀ f,o.about P w a.eval=some f→(fen ro).fn f)∧Kc (a.put o.dst undef) w
def xS (P:Program) (all:List Oper) (o:Oper) (σ:St) (r:ResM):Prop :=
 (∀ x ∈ r.ws,x ∈ r.fp)∧∀ (E:Nat→SV) (H:Hp),(∀ t ∈ eE all o,E t=σ.env t)→(∀ i ∈ r.fp,H i=σ.H i) →
  ∀ (F:Fr) (K0:aW) (g:G) (a:Act) (w:World) (Q:Exit→Act→World→Prop) (Kc:Act→World→Prop),Rel F K0 g ⟨E,H,σ.nx,σ.sz,σ.fx⟩ a w →
   (∀ g' a' w',Rel F K0 g' ⟨mO E o.dst r.v,over r.ws H r.H',σ.nx,σ.sz,σ.fx⟩ a' w'→Kc a' w')→wpO P all F.ro o Q Kc a w
def jX (P:Program) (all:List Oper):List Oper→St→List FootM→(St→List FootM→Prop)→Prop
 | [],σ,tr,k=>k σ tr.reverse
 | o::os,σ,tr,k=>∃ r nx',xS P all o σ r∧jX P all os ⟨mO σ.env o.dst r.v,over r.ws σ.H r.H',nx',σ.sz,σ.fx⟩ (ftM r::tr) k
def aW1 (P:Program) (all:List Oper) (i:Nat) (σ:St) (r:ResM) (σ' : St):Prop :=
 ∃ o,all[i]? = some o∧xS P all o σ r∧σ'.env=mO σ.env o.dst r.v∧σ'.H=over r.ws σ.H r.H'∧σ'.sz=σ.sz∧σ'.fx=σ.fx
theorem aDj {P:Program} {all:List Oper} {k:St→List FootM→Prop}:∀ (l pre:List Oper) (σ:St) (tr:List FootM),all=pre++l→jX P all l σ tr k →
  ∃ (q:Nat→ResM) (st:Nat→St),st pre.length=σ∧(∀ i,pre.length≤i→i<all.length→aW1 P all i (st i) (q i) (st (i+1))) ∧
   k (st all.length) (tr.reverse++(List.range' pre.length l.length).map (fun i=>ftM (q i)))
 | [],pre,σ,tr,hall,h=>by
  refine⟨fun _=>⟨.c .any,[],[],σ.H⟩,fun _=>σ,rfl,fun i h1 h2=>?_,by simpa [jX] using h⟩
  rw[hall] at h2;simp at h2;omega
 | o::os,pre,σ,tr,hall,h=>by
  have hlen:all.length=pre.length+(os.length+1):=by rw[hall];simp
  have hget:all[pre.length]? = some o:=by rw[hall];simp
  obtain⟨r,nx',hs,hrest⟩:=h
  obtain⟨q,st,h0,hsteps,hk⟩:=aDj os (pre++[o]) _ (ftM r::tr) (by simp[hall]) hrest
  simp only[List.length_append,List.length_cons,List.length_nil,Nat.zero_add] at h0 hsteps hk
  refine⟨upd q pre.length r,upd st pre.length σ,aC _ _ _,fun i h1 h2=>?_,?_⟩
  ·by_cases hi:i=pre.length
   ·subst hi
    rw[aC,aC,aB _ _ (by omega),h0];exact⟨o,hget,hs,rfl,rfl,rfl,rfl⟩
   ·rw[aB _ _ hi,aB _ _ hi,aB _ _ (by omega)]
    exact hsteps i (by omega) h2
  ·rw[aB _ _ (by omega)]
   have e:(tr.reverse++(List.range' pre.length (o::os).length).map (fun i=>ftM (upd q pre.length r i)))=(ftM r::tr).reverse++(List.range' (pre.length+1) os.length).map (fun i=>ftM (q i)):=by
    simp only[List.length_cons,List.range'_succ,List.map_cons,aC,List.reverse_cons,List.append_assoc,List.cons_append,List.nil_append]
    congr 2
    apply List.map_congr_left
    intro i hi
    rw[List.mem_range'_1] at hi
    rw[aB _ _ (by omega)]
   rw[e];exact hk
/-! what hangs together -/
def aE6 (ws fp:List Nat):Bool:=ws.all fun x=>!fp.contains x
def mN (all:List Oper) (oi oj:Oper) (fi fj:FootM):Bool :=
 !(iR oi.dst (eE all oj++oj.dst.toList) && iR oj.dst (eE all oi) && aE6 fi.ws fj.fp && aE6 fj.ws fi.fp)
def aPy (all:List Oper) (bs:List (List Nat)) (fs:List FootM):Bool :=
 (List.range all.length).all fun j=>(List.range j).all fun i =>
  match all[i]?,all[j]?,fs[i]?,fs[j]?,bs[j]? with
  | some oi,some oj,some fi,some fj,some b=>b.contains i || !mN all oi oj fi fj
  | _,_,_,_,_=>false
def aB1 (all:List Oper) (fs:List FootM):Bool :=
 fs.length == all.length && aPy all (aMk all []) fs && ((List.range all.length).all fun j=>match all[j]? with
  | some o=>(fR o).all (· < j)
  | none=>false)
theorem aKm {all:List Oper} {fs:List FootM} (h:aB1 all fs=true) {j:Nat} {o:Oper} (hj:all[j]? = some o) {i:Nat} (hi:i ∈ fR o):i<j:=by
 simp only[aB1,Bool.and_eq_true] at h
 have:=List.all_eq_true.1 h.2 j (by simpa using (List.getElem?_eq_some_iff.1 hj).1)
 rw[hj] at this
 have:=List.all_eq_true.1 this i hi
 simpa using this
theorem aB2 {all:List Oper} {fs:List FootM} (h:aB1 all fs=true) {i j:Nat} {oi oj:Oper} {fi fj:FootM} (hij:i<j) (hi:all[i]? = some oi) (hj:all[j]? = some oj) (hfi:fs[i]? = some fi) (hfj:fs[j]? = some fj)
  (hn:mN all oi oj fi fj=true) {L:Nat→Prop} (hL:∀ j o,all[j]? = some o→L j→∀ i ∈ fR o,L i) (hLj:L j):L i:=by
 have hcl:=qU hL all [] [] rfl rfl (fun j l hj=>by simp at hj) j
 simp only[aB1,Bool.and_eq_true] at h
 have h2:=List.all_eq_true.1 h.1.2 j (by simpa using (List.getElem?_eq_some_iff.1 hj).1)
 have h3:=List.all_eq_true.1 h2 i (by simpa using hij)
 rw[hi,hj,hfi,hfj] at h3
 cases hb:(aMk all [])[j]? with
 | none=>rw[hb] at h3;cases h3
 | some b =>
  rw[hb] at h3
  simp only[hn,Bool.not_true,Bool.or_false,List.contains_iff_mem] at h3
  exact hcl b hb hLj i h3
theorem aAv {all:List Oper} {oi oj:Oper} {fi fj:FootM} {d:Nat} (h:oi.dst=some d) (hr:d ∈ eE all oj∨oj.dst=some d):mN all oi oj fi fj=true:=by
 have:iR oi.dst (eE all oj++oj.dst.toList)=false:=by
  rw[h];simp only[iR,Bool.not_eq_false',List.contains_iff_mem]
  rcases hr with hr|hr
  ·simp[hr]
  ·simp[hr]
 simp[mN,this]
theorem aI6 {all:List Oper} {oi oj:Oper} {fi fj:FootM} {d:Nat} (h:oj.dst=some d) (hr:d ∈ eE all oi):mN all oi oj fi fj=true:=by
 have:iR oj.dst (eE all oi)=false:=by
  rw[h];simp only[iR,Bool.not_eq_false',List.contains_iff_mem];exact hr
 simp[mN,this]
theorem aCu {ws fp:List Nat} {d:Nat} (h:d ∈ ws) (hr:d ∈ fp):aE6 ws fp=false:=by
 cases hq:aE6 ws fp with
 | false=>rfl
 | true =>
  have:=List.all_eq_true.1 hq d h
  simp[hr] at this
theorem aDl {all:List Oper} {oi oj:Oper} {fi fj:FootM} {d:Nat} (h:d ∈ fi.ws) (hr:d ∈ fj.fp):mN all oi oj fi fj=true:=by
 simp[mN,aCu h hr]
theorem aKi {all:List Oper} {oi oj:Oper} {fi fj:FootM} {d:Nat} (h:d ∈ fj.ws) (hr:d ∈ fi.fp):mN all oi oj fi fj=true:=by
 simp[mN,aCu h hr]
def sU (N:Nat) (f:Nat→Bool) (ws:Nat→List Nat) (val:Nat→Hp) (base:Hp):Hp:=fun x =>
 match (List.range N).reverse.find? (fun j=>f j && (ws j).contains x) with
 | some j=>val j x
 | none=>base x
theorem rI {N:Nat} {f f' : Nat→Bool} {ws:Nat→List Nat} {val:Nat→Hp} {base:Hp} {x:Nat} (h:∀ j,j<N→x ∈ ws j→f j=f' j):sU N f ws val base x=sU N f' ws val base x:=by
 unfold sU
 rw[tM (q:=fun j=>f' j && (ws j).contains x)]
 intro j hj
 have hj:j<N:=by simpa using hj
 by_cases hk:x ∈ ws j
 ·simp only[h j hj hk]
 ·have:(ws j).contains x=false:=by simpa using hk
  simp only[this,Bool.and_false]
theorem aDi {N i:Nat} {f:Nat→Bool} {ws:Nat→List Nat} {val:Nat→Hp} {base:Hp} (hi:i<N) (hl:∀ j x,i<j→j<N→x ∈ ws i→x ∈ ws j→f j=false) :
  sU N (gZ f i) ws val base=over (ws i) (sU N f ws val base) (val i):=by
 funext y
 cases hk:(ws i).contains y with
 | false =>
  rw[dE hk]
  exact rI (fun j hj hkj=>by unfold gZ;rw[if_neg (fun e=>by subst e;simp[hkj] at hk)])
 | true =>
  rw[gI hk]
  unfold sU
  rw[aDa hi (by simp only[gZ,if_true,hk,Bool.and_self]) (fun j h1 h2=>by
   by_cases hkj:y ∈ ws j
   ·have:=hl j y h1 h2 (by simpa using hk) hkj
    simp[gZ,show ¬ j=i from by omega,this]
   ·simp[hkj])]
theorem aAh {N:Nat} {f:Nat→Bool} {ws:Nat→List Nat} {val:Nat→Hp} {base:Hp} (h:∀ j,f j=false):sU N f ws val base=base:=by
 funext x
 unfold sU
 have:(List.range N).reverse.find? (fun j=>f j && (ws j).contains x)=none:=by
  rw[List.find?_eq_none];intro j _;simp[h j]
 rw[this]
theorem xR {P:Program} {W0:Fr} {K0:aW} {id:Nat} {all:List Oper} {Q:Exit→Act→World→Prop} {k:St→List FootM→Prop} {g:G} {σ:St} {a:Act} {w:World} {ro:Option Nat} (hro:W0.ro=ro) (hm:P.follows .mixedOrders=true) (hk:∀ g σ tr a w,k σ tr→Rel W0 K0 g σ a w→Q .normal a w)
  (h:jX P all all σ [] (fun σ' tr=>aB1 all tr=true∧k σ' tr)) (hr:Rel W0 K0 g σ a w):(Code.region id all.toArray true).wpIn (fen ro) 0 P Q a w:=by
 obtain⟨q,st,h0,hsteps,hok,hkk⟩:=aDj all [] σ [] rfl h
 simp only[List.length_nil,List.reverse_nil,List.nil_append,Nat.zero_le,forall_const] at h0 hsteps hok hkk
 have hfs:∀ i,i<all.length→((List.range' 0 all.length).map (fun i=>ftM (q i)))[i]? = some (ftM (q i)):=fun i hi=>by
  rw[List.getElem?_map,List.getElem?_range' (by simpa using hi)];simp
 generalize hF:(List.range' 0 all.length).map (fun i=>ftM (q i))=fs at hok hkk hfs
 clear hF
 let vals:Nat→SV:=fun i=>(q i).v
 let key1:Nat→Option Nat:=fun i=>(all[i]?).bind (·.dst)
 let E:(Nat→Bool)→Nat→SV:=fun f=>mH all.length f key1 vals σ.env
 let Hf:(Nat→Bool)→Hp:=fun f=>sU all.length f (fun i=>(q i).ws) (fun i=>(q i).H') σ.H
 have hst:∀ i,i≤all.length→(st i).env=E (pS i)∧(st i).H=Hf (pS i)∧(st i).sz=σ.sz∧(st i).fx=σ.fx:=by
  intro i
  induction i with
  | zero =>
   intro _
   rw[h0]
   exact⟨(lN (fun j=>by simp[pS])).symm,(aAh (fun j=>by simp[pS])).symm,rfl,rfl⟩
  | succ i ih =>
   intro hi
   obtain⟨he,hH,hz,hx⟩:=ih (by omega)
   obtain⟨o,ho,hs,s1,s2,s3,s4⟩:=hsteps i (by omega)
   have e1:E (pS (i+1))=wA (E (pS i)) (key1 i) (vals i):=by
    show mH _ _ _ _ _=_
    rw[vH];exact nF (by omega) (fun j x h1 _ _ _=>by simp[pS];omega)
   have e2:Hf (pS (i+1))=over (q i).ws (Hf (pS i)) (q i).H':=by
    show sU _ _ _ _ _=_
    rw[vH];exact aDi (by omega) (fun j x h1 _ _ _=>by simp[pS];omega)
   have hk1:key1 i=o.dst:=by show (all[i]?).bind _=_;rw[ho];rfl
   refine⟨?_,?_,s3.trans hz,s4.trans hx⟩
   ·rw[e1,hk1,s1,he]
    cases o.dst<;>rfl
   ·rw[e2,s2,hH]
 let fOf:Array Bool→Nat→Bool:=fun listed j=>listed.getD j false
 refine wpIn_region_any hm (aHo (Inv:=fun listed a w=>(∀ j o,all[j]? = some o→fOf listed j=true→∀ i ∈ fR o,fOf listed i=true)∧∃ g,Rel W0 K0 g ⟨E (fOf listed),Hf (fOf listed),0,σ.sz,σ.fx⟩ a w) ?_ ?_ _ _ _ _ (by simp) ?_ ?_)
 ·intro listed a w i hls hinv hri
  obtain⟨hcl,g,hrel⟩:=hinv
  obtain⟨hun,o,ho,hedge⟩:=aF6 hri
  have hlt:i<all.length:=by have:=(Array.getElem?_eq_some_iff.1 ho).1;simpa using this
  have hoi:all[i]? = some o:=by simpa using ho
  have hlsz:i<listed.size:=by rw[hls];simpa using hlt
  have hfi:fOf listed i=false:=by
   show listed.getD i false=false
   rw[Array.getD_eq_getD_getElem?,Array.getElem?_eq_getElem hlsz] at hun ⊢
   simpa using hun
  have hset:fOf (listed.setIfInBounds i true)=gZ (fOf listed) i:=by
   funext j
   show (listed.setIfInBounds i true).getD j false=_
   unfold gZ
   rw[Array.getD_eq_getD_getElem?,Array.getElem?_setIfInBounds]
   by_cases hj:j=i
   ·subst hj;simp[hlsz]
   ·rw[if_neg (Ne.symm hj),if_neg hj]
    show _=listed.getD j false
    rw[Array.getD_eq_getD_getElem?]
  have hcl' : ∀ j o',all[j]? = some o'→gZ (fOf listed) i j=true→∀ x ∈ fR o',gZ (fOf listed) i x=true:=by
   intro j o' hj hf x hx
   by_cases hji:j=i
   ·subst hji
    rw[hoi] at hj;cases hj
    simp only[fR,List.mem_map,List.mem_filter] at hx
    obtain⟨e,⟨he,hb⟩,rfl⟩:=hx
    have:=hedge e (by simpa using he) hb
    unfold gZ;split
    ·rfl
    ·exact this
   ·unfold gZ at hf
    rw[if_neg hji] at hf
    have:=hcl j o' hj hf x hx
    unfold gZ;split
    ·rfl
    ·exact this
  obtain⟨o',ho',hs,_,_,_,_⟩:=hsteps i hlt
  rw[hoi] at ho';cases ho'
  obtain⟨hse,hsH,hssz⟩:=hst i (by omega)
  have hgetj:∀ j,j<all.length→∃ oj,all[j]? = some oj:=fun j hj=>⟨_,List.getElem?_eq_getElem hj⟩
  -- behind: what comes later in the text and hangs on i is not yet done
  have hlater:∀ j oj,i<j→all[j]? = some oj→mN all o oj (ftM (q i)) (ftM (q j))=true→fOf listed j=false:=by
   intro j oj hij hj hn
   cases hfj:fOf listed j with
   | false=>rfl
   | true =>
    have:=aB2 hok hij hoi hj (hfs i hlt) (hfs j (List.getElem?_eq_some_iff.1 hj).1) hn (L:=fun x=>fOf listed x=true) hcl hfj
    rw[hfi] at this;cases this
  have hearlier:∀ j oj,j<i→all[j]? = some oj→mN all oj o (ftM (q j)) (ftM (q i))=true→fOf listed j=true:=by
   intro j oj hij hj hn
   have:=aB2 hok hij hj hoi (hfs j (by omega)) (hfs i hlt) hn (L:=fun x=>gZ (fOf listed) i x=true) hcl' (by simp[gZ])
   unfold gZ at this
   rw[if_neg (by omega)] at this
   exact this
  have hA:∀ t ∈ eE all o,E (fOf listed) t=(st i).env t:=by
   intro t ht
   rw[hse]
   refine iA (fun j hj hkj=>?_)
   obtain⟨oj,hoj⟩:=hgetj j hj
   have hdj:oj.dst=some t:=by have:(all[j]?).bind (·.dst)=some t:=hkj;rw[hoj] at this;exact this
   rcases Nat.lt_trichotomy j i with h|h|h
   ·rw[hearlier j oj h hoj (aAv hdj (.inl ht))];simp[pS,h]
   ·subst h;rw[hfi];simp[pS]
   ·rw[hlater j oj h hoj (aI6 hdj ht)];simp[pS];omega
  have hB:∀ x ∈ (ftM (q i)).fp,Hf (fOf listed) x=(st i).H x:=by
   intro x hx
   rw[hsH]
   refine rI (fun j hj hkj=>?_)
   obtain⟨oj,hoj⟩:=hgetj j hj
   rcases Nat.lt_trichotomy j i with h|h|h
   ·rw[hearlier j oj h hoj (aDl (fi:=ftM (q j)) hkj hx)];simp[pS,h]
   ·subst h;rw[hfi];simp[pS]
   ·rw[hlater j oj h hoj (aKi (fj:=ftM (q j)) hkj hx)];simp[pS];omega
  have hE1:E (gZ (fOf listed) i)=wA (E (fOf listed)) (key1 i) (vals i):=by
   refine nF hlt (fun j x h1 h2 hki hkj=>?_)
   obtain⟨oj,hoj⟩:=hgetj j h2
   have hdi:o.dst=some x:=by have:(all[i]?).bind (·.dst)=some x:=hki;rw[hoi] at this;exact this
   have hdj:oj.dst=some x:=by have:(all[j]?).bind (·.dst)=some x:=hkj;rw[hoj] at this;exact this
   exact hlater j oj h1 hoj (aAv hdi (.inr hdj))
  have hH1:Hf (gZ (fOf listed) i)=over (q i).ws (Hf (fOf listed)) (q i).H':=by
   refine aDi hlt (fun j x h1 h2 hki hkj=>?_)
   obtain⟨oj,hoj⟩:=hgetj j h2
   obtain⟨oj',hoj',hsj,_⟩:=hsteps j h2
   exact hlater j oj h1 hoj (aDl (fi:=ftM (q i)) hki (hsj.1 x hkj))
  have hk1:key1 i=o.dst:=by show (all[i]?).bind _=_;rw[hoi];rfl
  have hrel' : Rel W0 K0 g ⟨E (fOf listed),Hf (fOf listed),(st i).nx,(st i).sz,(st i).fx⟩ a w:=⟨hrel.mem,hrel.env,by rw[hssz.1];exact hrel.size,by rw[hssz.2];exact hrel.defers,by rw[hssz.2];exact hrel.ln,by rw[hssz.2];exact hrel.rd,by rw[hssz.2];exact hrel.nodup,by rw[hssz.2];exact hrel.lt⟩
  unfold wpOpIn
  rw[ho]
  simp only
  have hro' : W0.ro=ro:=hro
  subst hro'
  refine hs.2 (E (fOf listed)) (Hf (fOf listed)) hA hB W0 K0 g a w Q _ hrel' (fun g' a' w' hr'=>?_)
  rw[hset]
  refine⟨hcl',g',?_⟩
  have e1:E (gZ (fOf listed) i)=mO (E (fOf listed)) o.dst (q i).v:=by
   rw[hE1,hk1];cases o.dst<;>rfl
  rw[e1,hH1]
  exact⟨hr'.mem,hr'.env,by rw[← hssz.1];exact hr'.size,by rw[← hssz.2];exact hr'.defers,by rw[← hssz.2];exact hr'.ln,by rw[← hssz.2];exact hr'.rd,by rw[← hssz.2];exact hr'.nodup,by rw[← hssz.2];exact hr'.lt⟩
 ·intro listed a w hls hinv hready
  obtain⟨hcl,g,hrel⟩:=hinv
  have hall:∀ n j,j<n→j<all.length→fOf listed j=true:=by
   intro n
   induction n with
   | zero=>intro j h;omega
   | succ n ih =>
    intro j hj hjl
    cases hfj:fOf listed j with
    | true=>rfl
    | false =>
     exfalso
     obtain⟨oj,hoj⟩:∃ oj,all[j]? = some oj:=⟨_,List.getElem?_eq_getElem hjl⟩
     have hjs:j<listed.size:=by rw[hls];simpa using hjl
     have:j ∈ Region.ready .any all.toArray listed:=by
      unfold Region.ready
      rw[List.mem_filter]
      refine⟨by simpa using hjl,?_⟩
      have h1:listed.getD j true=false:=by
       have:listed.getD j false=false:=hfj
       rw[Array.getD_eq_getD_getElem?,Array.getElem?_eq_getElem hjs] at this ⊢
       simpa using this
      simp only[h1,Bool.not_false,Bool.true_and,List.getElem?_toArray,hoj,Option.map_some,Option.getD_some,Array.all_eq_true']
      intro e he
      cases hb:Region.binds .any e with
      | false=>simp
      | true =>
       have hm:e.on ∈ fR oj:=by
        simp only[fR,List.mem_map,List.mem_filter]
        exact⟨e,⟨by simpa using he,hb⟩,rfl⟩
       have hlt:=aKm hok hoj hm
       have:=ih e.on (by omega) (by omega)
       have this:listed.getD e.on false=true:=this
       simp[this]
     rw[hready] at this
     simp at this
  obtain⟨hse,hsH,hssz⟩:=hst all.length (Nat.le_refl _)
  have e1:E (fOf listed)=(st all.length).env:=by
   rw[hse];funext t
   exact iA (fun j hj _=>by rw[hall _ j (Nat.lt_succ_self j) hj];simp[pS,hj])
  have e2:Hf (fOf listed)=(st all.length).H:=by
   rw[hsH];funext t
   exact rI (fun j hj _=>by rw[hall _ j (Nat.lt_succ_self j) hj];simp[pS,hj])
  rw[e1,e2] at hrel
  exact hk g (st all.length) fs a w hkk ⟨hrel.mem,hrel.env,by rw[hssz.1];exact hrel.size,by rw[hssz.2];exact hrel.defers,by rw[hssz.2];exact hrel.ln,by rw[hssz.2];exact hrel.rd,by rw[hssz.2];exact hrel.nodup,by rw[hssz.2];exact hrel.lt⟩
 ·exact Nat.le_trans List.countP_le_length (by simp)
 ·have hf:∀ j,fOf (Array.replicate all.toArray.size false) j=false:=fun j=>by
   show (Array.replicate _ false).getD j false=false
   rw[Array.getD_eq_getD_getElem?]
   simp only[Array.getElem?_replicate]
   split<;>rfl
  refine⟨(fun j o hj h=>absurd h (by rw[hf j];simp)),g,?_⟩
  have e1:E (fOf (Array.replicate all.toArray.size false))=σ.env:=lN hf
  have e2:Hf (fOf (Array.replicate all.toArray.size false))=σ.H:=aAh hf
  rw[e1,e2]
  exact⟨hr.mem.drew,hr.env,hr.size,hr.defers,hr.ln,hr.rd,hr.nodup,hr.lt⟩
theorem Wp.regM {P:Program} {σ:St} {Q:Exit→St→Prop} {id:Nat} {all:List Oper} (hm:P.follows .mixedOrders=true) (h:jX P all all σ [] (fun σ' tr=>aB1 all tr=true∧Q .normal σ')):Wp P (.region id all.toArray true) σ Q:=by
 intro F K0 g a w hr
 exact xR (k:=fun σ' _=>Q .normal σ') (ro:=F.ro) rfl hm (fun g' σ' tr a' w' hq hr'=>⟨g',σ',hr',hq⟩) h hr
theorem Wp.sregM {P:Program} {σ:St} {Q:Exit→St→Prop} {id:Nat} {all:List Oper} {y:Code} (hm:P.follows .mixedOrders=true) (h:jX P all all σ [] (fun σ' tr=>aB1 all tr=true∧Wp P y σ' Q)):Wp P (.seq (.region id all.toArray true) y) σ Q:=Wp.seq (Wp.regM hm h)
/-! steps of the machine -/
def aD3 (f:Foot):FootM:=⟨f.fp++f.wr.toList,f.wr.toList⟩
theorem aId {H Ho:Hp} {up:Option (Nat × HE)}:over (up.map (·.1)).toList H (pB Ho up)=pB H up:=by
 funext i
 cases up with
 | none=>exact dE rfl
 | some p =>
  obtain⟨k,he⟩:=p
  by_cases h:i=k
  ·subst h
   rw[gI (by simp)]
   show upd _ _ _ _=upd _ _ _ _
   rw[aC,aC]
  ·rw[dE (by simpa using h)]
   show _=upd _ _ _ _
   rw[aB _ _ h]
theorem xS.astep {P:Program} {all:List Oper} {o:Oper} {σ:St} {r:Res} (hg:gV all σ.env o=some true) (hs:fW P o (bV σ.env) σ.H σ.nx r) (hd:mQ σ o) :
  xS P all o σ ⟨r.v,r.fp++(r.up.map (·.1)).toList,(r.up.map (·.1)).toList,pB σ.H r.up⟩:=by
 refine⟨fun x hx=>by simp only[List.mem_append];exact .inr hx,fun E H hE hH F K0 g a w Q Kc hr hk=>?_⟩
 have hgd:=(jP (E:=E) (E':=σ.env) hE).trans hg
 have hw:=eD (a:=a) (env:=E) (fun _ _ _ d _ _ _=>hr.env d) hgd
 unfold wpO
 rw[hw,if_pos rfl]
 have hloc:fW P o (bV E) H σ.nx r:=hs.local (fun x hx=>(rD hE x hx).symm) (fun x hx=>hH x (by simp only[List.mem_append];exact .inl hx))
 refine Oper.wpIn_mono ?_ (vV hr hloc hd F.ro Q)
 rintro a' w' ⟨g',hr'⟩
 refine hk g' a' w' ?_
 rw[aId]
 exact⟨hr'.mem,hr'.env,hr'.size,hr'.defers,hr'.ln,hr'.rd,hr'.nodup,hr'.lt⟩
theorem aB8 (H H' : Hp):over [] H H' = H:=by funext i;exact dE rfl
theorem xS.skip {P:Program} {all:List Oper} {o:Oper} {σ:St} (hg:gV all σ.env o=some false) (hd:mQ σ o):xS P all o σ ⟨.c (.d (.val undef)),[],[],σ.H⟩:=by
 refine⟨fun x hx=>hx,fun E H hE hH F K0 g a w Q Kc hr hk=>?_⟩
 have hgd:=(jP (E:=E) (E':=σ.env) hE).trans hg
 have hw:=eD (a:=a) (env:=E) (fun _ _ _ d _ _ _=>hr.env d) hgd
 unfold wpO
 rw[hw,if_neg (by simp)]
 refine⟨fun _ _=>trivial,hk g _ w ?_⟩
 rw[aB8]
 have:=rU hr hd
 exact⟨this.mem,this.env,this.size,this.defers,this.ln,this.rd,this.nodup,this.lt⟩
theorem uL {P:Program} {all rest:List Oper} {tm:List FootM} {k:St→List FootM→Prop} {k1:St→List Foot→Prop} (hk:∀ σ' tr',k1 σ' tr'→jX P all rest σ' ((tr'.map aD3).reverse++tm) k) :
  ∀ (l:List Oper) (σ:St) (tr:List Foot),lY P all l σ tr k1→jX P all (l++rest) σ (tr.map aD3++tm) k
 | [],σ,tr,h=>by
  have:=hk σ _ h
  rw[List.map_reverse,List.reverse_reverse] at this
  exact this
 | o::os,σ,tr,h=>by
  simp only[lY] at h
  split at h
  ·exact h.elim
  ·rename_i t ht
   cases t with
   | true =>
    obtain⟨r,hr1,hd,hrest⟩:=oN (h.1 rfl)
    refine⟨_,(σ.step o r).nx,xS.astep ht hr1 hd,?_⟩
    have:=uL hk os _ _ hrest
    simp only[aId]
    exact this
   | false =>
    obtain⟨hd,hrest⟩:=h.2 rfl
    refine⟨_,σ.nx,xS.skip ht hd,?_⟩
    have:=uL hk os _ _ hrest
    simp only[aB8]
    exact this
theorem jX.at (n:Nat) {P:Program} {all l:List Oper} {σ:St} {tm:List FootM} {k:St→List FootM→Prop} (h:∀ K:St→List Foot→Prop,(∀ σ' tr',jX P all (l.drop n) σ' ((tr'.map aD3).reverse++tm) k→K σ' tr')→kE P all (l.take n) σ [] K):jX P all l σ tm k:=by
 have:=uL (rest:=l.drop n) (tm:=tm) (k:=k) (k1:=fun σ' tr'=>jX P all (l.drop n) σ' ((tr'.map aD3).reverse++tm) k) (fun _ _ h=>h) (l.take n) σ [] (dM (h _ (fun _ _ h=>h)))
 rwa [List.take_append_drop] at this
theorem jX.done {P:Program} {all l:List Oper} {σ:St} {tm:List FootM} {k:St→List FootM→Prop} (h:∀ K:St→List Foot→Prop,(∀ σ' tr',k σ' (tm.reverse++tr'.map aD3)→K σ' tr')→kE P all l σ [] K):jX P all l σ tm k:=by
 have:=uL (rest:=[]) (tm:=tm) (k:=k) (k1:=fun σ' tr'=>k σ' (tm.reverse++tr'.map aD3)) (fun σ' tr' h=>by show k σ' _;rw[List.reverse_append,List.reverse_reverse];exact h) l σ [] (dM (h _ (fun _ _ h=>h)))
 rwa [List.append_nil] at this
/-! steps by rules -/
theorem cU.ret {P:Program} {all:List Oper} {σ:St} {k:St→Prop} (h:k σ):cU P all [] σ k:=fun F K0 g a w Q hr hk=>show Q .normal a w from hk g σ a w h hr
def SV.toD0' : SV→Option D
 | .c x=>x.toD0
 | .agg cs=>match bZ CV.toD0 cs with
  | some ds=>some (.agg ds)
  | none=>none
theorem aDy {H:Hp}:∀ {xs:List SV} {ds:List D},bZ SV.toD0' xs=some ds→bZ (SV.toD H) xs=some ds
 | [],ds,h=>h
 | x::xs,ds,h=>by
  simp only[bZ] at h ⊢
  cases hx:x.toD0' with
  | none=>rw[hx] at h;cases h
  | some y =>
   rw[hx] at h
   cases hm:bZ SV.toD0' xs with
   | none=>rw[hm] at h;cases h
   | some ys =>
    rw[hm] at h
    have h1:SV.toD H x=some y:=by
     cases x with
     | agg cs=>exact hx
     | c c =>
      have hx:c.toD0=some y:=hx
      show c.toD H=some y
      cases c<;>simp[CV.toD0] at hx<;>subst hx<;>rfl
    rw[h1,aDy hm];exact h
theorem aJ3 {F:Fence} {n:Nat} {P:Program} {o:Oper} {a:Act} {K:Act→World→Prop} {Q Q' : Exit→Act→World→Prop} (hQ:∀ e a w,e≠.normal→Q' e a w→Q e a w) {r:Result Next} (h:o.uponIn F n P a K Q' r):o.uponIn F n P a K Q r:=by
 cases r with
 | ok x w' =>
  cases x<;>simp only[Oper.uponIn] at h ⊢ <;>
   first
    | exact h
    | exact⟨h.1,CallsIn.mono h.2 (fun e w'' he=>by cases e<;>first|exact he|exact hQ _ _ _ (by simp) he|exact he.elim (fun a h=>h.elim fun w h=>⟨a,w,hQ _ _ _ (by simp) h⟩))⟩
    | exact⟨h.1,RoundIn.mono h.2 (fun e w'' he=>by cases e<;>first|exact he|exact hQ _ _ _ (by simp) he|exact he.elim (fun a h=>h.elim fun w h=>⟨a,w,hQ _ _ _ (by simp) h⟩))⟩
 | halt x w'=>cases x<;>simp only[Oper.uponIn] at h ⊢<;>first|exact h|exact hQ _ _ _ (by simp) h
theorem aJ6 {P:Program} {all:List Oper} {o:Oper} {σ:St} {k:St→Prop} (h:cU P all [o] σ k) {F:Fr} {K0:aW} {g:G} {a:Act} {w:World} {Q:Exit→Act→World→Prop} {Kc:Act→World→Prop} (hr:Rel F K0 g σ a w) (hk:∀ g' σ' a' w',k σ'→Rel F K0 g' σ' a' w'→Kc a' w'):wpO P all F.ro o Q Kc a w:=by
 have:=h F K0 g a w (fun e a w=>match e with | .normal=>Kc a w|e=>Q e a w) hr hk
 unfold wpListIn at this
 unfold wpO
 split at this
 ·rename_i hw
  rw[if_pos hw]
  exact⟨this.1,aJ3 (fun e a w hne hq=>by cases e<;>first|exact hq|exact absurd rfl hne) this.2⟩
 ·rename_i hw
  rw[if_neg hw]
  exact this
theorem jX.rule {P:Program} {all:List Oper} {o:Oper} {os:List Oper} {σ σ2:St} {tm:List FootM} {k:St→List FootM→Prop} (fp ws:List Nat) (hws:∀ x ∈ ws,x ∈ fp) (v:SV) (henv:σ2.env=mO σ.env o.dst v) (hsz:σ2.sz=σ.sz) (hfx:σ2.fx=σ.fx) (hout:∀ i,ws.contains i=false→σ2.H i=σ.H i)
  (h:∀ E H,(∀ t ∈ eE all o,E t=σ.env t)→(∀ i ∈ fp,H i=σ.H i)→cU P all [o] ⟨E,H,σ.nx,σ.sz,σ.fx⟩ (fun σ'=>σ'.env=mO E o.dst v∧σ'.H=over ws H σ2.H∧σ'.sz=σ.sz∧σ'.fx=σ.fx))
  (hrest:jX P all os σ2 (⟨fp,ws⟩::tm) k):jX P all (o::os) σ tm k:=by
 refine⟨⟨v,fp,ws,σ2.H⟩,σ2.nx,⟨hws,fun E H hE hH F K0 g a w Q Kc hr hk=>aJ6 (h E H hE hH) hr ?_⟩,?_⟩
 ·rintro g' ⟨e',H',n',s',f'⟩ a' w' ⟨q1,q2,q3,q4⟩ hr'
  simp only at q1 q2 q3 q4
  subst q1 q2 q3 q4
  exact hk g' a' w' ⟨hr'.mem,hr'.env,hr'.size,hr'.defers,hr'.ln,hr'.rd,hr'.nodup,hr'.lt⟩
 ·have:over ws σ.H σ2.H=σ2.H:=by
   funext i
   cases hc:ws.contains i with
   | true=>exact gI hc
   | false=>rw[dE hc,hout i hc]
  obtain⟨e2,H2,n2,s2,f2⟩:=σ2
  simp only at henv hsz hfx this
  subst henv hsz hfx
  simp only[this]
  exact hrest
theorem aBe {H:Hp} {ρ:Nat→Nat} {B' : Hp}:∀ {ks:List Nat} {i:Nat},(ks.map ρ).contains i=false→jR H ρ B' ks i=H i
 | [],i,_=>rfl
 | k::ks,i,h=>by
  simp only[List.map_cons,List.contains_cons,Bool.or_eq_false_iff,beq_eq_false_iff_ne] at h
  show upd _ _ _ _=_
  rw[aB _ _ h.1];exact aBe h.2
theorem aLw {H H2:Hp} {ρ:Nat→Nat} {B' : Hp}:∀ {ks:List Nat} {i:Nat},(ks.map ρ).contains i=true→jR H ρ B' ks i=jR H2 ρ B' ks i
 | k::ks,i,h=>by
  show upd _ _ _ _=upd _ _ _ _
  by_cases e:i=ρ k
  ·subst e;rw[aC,aC]
  ·rw[aB _ _ e,aB _ _ e]
   simp only[List.map_cons,List.contains_cons,Bool.or_eq_true,beq_iff_eq] at h
   exact aLw (h.resolve_left e)
theorem wP {H H2:Hp} {ρ:Nat→Nat} {B:Hp}:∀ {ks:List Nat},(∀ k ∈ ks,H2 (ρ k)=H (ρ k))→wF H ρ B ks→wF H2 ρ B ks
 | [],_,_=>trivial
 | k::ks,h,h1=>⟨(h k (by simp)).trans h1.1,wP (fun j hj=>h j (by simp[hj])) h1.2⟩
theorem tU {H H2:Hp} {ρ:Nat→Nat} {ks:List Nat}:∀ {l:List Nat},(∀ k ∈ l,H2 (ρ k)=H (ρ k))→lR H ρ ks l→lR H2 ρ ks l
 | [],_,_=>trivial
 | k::l,h,h1=>⟨h1.1.imp id (fun e=>(h k (by simp)).trans e),tU (fun j hj=>h j (by simp[hj])) h1.2⟩
theorem oY {all:List Oper} {o:Oper} {x:Operand} {E E' : Nat→SV} (h:∀ t ∈ eE all o,E t=E' t) (hx:x ∈ o.op.operands):bV E x=bV E' x:=rD h x hx
theorem aKs (f:Operand) (args:Array Operand) (tys:Array TypeId):f ∈ ({ callee:=.value f,args:=args,argTypes:=tys }:Call).operands:=by
 unfold Call.operands;simp
theorem aKr (f:Operand) (args:Array Operand) (tys:Array TypeId) {x:Operand} (h:x ∈ args.toList):x ∈ ({ callee:=.value f,args:=args,argTypes:=tys }:Call).operands:=by
 unfold Call.operands;simp;right;simpa using h
theorem jX.call {P:Program} {fid:FuncId} {as:List SV} {ks ks' : List Nat} {B B' : Hp} {r:SV} (hf:FunG P fid as ks B r ks' B') (l:List (Nat × Nat)) (nx' : Nat) {all:List Oper} {o:Oper} {os:List Oper} {σ:St} {tm:List FootM} {k:St→List FootM→Prop} {f:Operand} {args:Array Operand} {tys:Array TypeId}
  (hop:o.op = .call { callee:=.value f,args:=args,argTypes:=tys }) (hl:aIy l=true) (hc:iN P all o f args σ (iP l) fid as ks B ks')
  (h:jX P all os ⟨mO σ.env o.dst (r.ren (iP l)),jR σ.H (iP l) B' ks',nx',σ.sz,σ.fx⟩ (⟨ks'.map (iP l),ks'.map (iP l)⟩::tm) k):jX P all (o::os) σ tm k:=by
 refine jX.rule (σ2:=⟨mO σ.env o.dst (r.ren (iP l)),jR σ.H (iP l) B' ks',nx',σ.sz,σ.fx⟩) (ks'.map (iP l)) (ks'.map (iP l)) (fun _ h=>h) (r.ren (iP l)) rfl rfl rfl (fun i hi=>aBe hi) (fun E H hE hH=>?_) h
 obtain⟨hg,hd,hcap,hat,hnew,hdf⟩:=hc
 have hsub:∀ k ∈ ks,k ∈ ks':=fun k hk=>by have:=hf.sub k (by simpa using hk);simpa using this
 have ef:bV E f=bV σ.env f:=oY hE (by rw[hop];exact aKs _ _ _)
 have ea:args.toList.map (bV E)=args.toList.map (bV σ.env):=List.map_congr_left (fun x hx=>oY hE (by rw[hop];exact aKr _ _ _ hx))
 refine cU.call hf l σ.nx hop hl ⟨(jP hE).trans hg,hd,?_,wP (fun k hk=>hH _ (List.mem_map.2 ⟨k,hsub k hk,rfl⟩)) hat,tU (fun k hk=>hH _ (List.mem_map.2 ⟨k,hk,rfl⟩)) hnew,hdf⟩ (cU.ret ⟨rfl,?_,rfl,rfl⟩)
 ·show (match fX (bV E f) with
   | some (fid',pre,cs)=>fid' = fid∧pre.map (SV.ren (iP l))++((args.toList.map (bV E)).map (SV.ren (iP l))++cs.map (SV.ren (iP l)))=as
   | none=>False)
  rw[ef,ea];exact hcap
 ·funext i
  show jR H (iP l) B' ks' i=over _ H (jR σ.H (iP l) B' ks') i
  cases hc:(ks'.map (iP l)).contains i with
  | true=>rw[gI hc];exact aLw hc
  | false=>rw[dE hc];exact aBe hc
theorem jX.yld {P:Program} {all:List Oper} {o:Oper} {os:List Oper} {σ:St} {tm:List FootM} {k:St→List FootM→Prop} {ks:List Nat} {A:Nat→Hp} {q:G × Hp} {y d:Nat} {b:Bool} {ds:List D} {f:Operand} {args:Array Operand} {tys:Array TypeId} (hL:Lent ks A) (hfx:σ.fx=⟨ks,[],false,some q⟩)
  (hop:o.op = .call { callee:=.value f,args:=args,argTypes:=tys }) (hg:gV all σ.env o=some true) (hdst:o.dst=some d) (hY:aJc P q.1 q.2 ks ds (A y) b (A (y+1))) (hB:kC σ.H (A y)) (hd:d<σ.sz) (hf:bV σ.env f = .c (.yld 999)) (hds:bZ SV.toD0' (args.toList.map (bV σ.env))=some ds)
  (hrest:jX P all os ⟨upd σ.env d (vb b),rb (A (y+1)) σ.H,σ.nx,σ.sz,σ.fx⟩ (⟨List.range 1000,List.range 1000⟩::tm) k):jX P all (o::os) σ tm k:=by
 refine jX.rule (σ2:=⟨upd σ.env d (vb b),rb (A (y+1)) σ.H,σ.nx,σ.sz,σ.fx⟩) (List.range 1000) (List.range 1000) (fun _ h=>h) (vb b) (by rw[hdst];rfl) rfl rfl (fun i hi=>?_) (fun E H hE hH=>?_) hrest
 ·have:¬ i<1000:=by simpa using hi
  simp only[rb,this,if_false]
 ·have ef:bV E f=bV σ.env f:=oY hE (by rw[hop];exact aKs _ _ _)
  have ea:args.toList.map (bV E)=args.toList.map (bV σ.env):=List.map_congr_left (fun x hx=>oY hE (by rw[hop];exact aKr _ _ _ hx))
  refine cU.yld (σ:=⟨E,H,σ.nx,σ.sz,σ.fx⟩) hL hfx hop ((jP hE).trans hg) hdst hY (fun i hi=>(hH i (by simpa using hi)).trans (hB i hi)) hd (ef.trans hf) (by show bZ _ (args.toList.map (bV E))=_;rw[ea];exact aDy hds) (cU.ret ⟨by rw[hdst];rfl,?_,rfl,rfl⟩)
  funext i
  show rb _ H i=_
  by_cases h:i<1000
  ·rw[gI (by simpa using h)];simp only[rb,h,if_true]
  ·rw[dE (by simpa using h)];simp only[rb,h,if_false]
/-! lookups -/
theorem aDs (ρ:Nat→Nat) (cs:List CV):(HE.cells cs).ren ρ = .cells (cs.map (CV.ren ρ)):=rfl
theorem aIl (ρ:Nat→Nat) (ds:List D):(HE.froz ds).ren ρ = .froz ds:=rfl
theorem aLx (ρ:Nat→Nat) (e sz n:Nat):(HE.row e sz n).ren ρ = .row e sz n:=rfl
theorem aIm (ρ:Nat→Nat) (L:List (Bs × Value)):(HE.smap L).ren ρ = .smap L:=rfl
theorem nI:type_of% (ai @aDs (ai @aIl (ai @aLx @aIm))):=ai @aDs (ai @aIl (ai @aLx @aIm))
/-! an array's cell -/
/-! an array that is built -/
end Go.Proofs.YtkmfmphpndhkjaaGreatDoor
namespace Go.Proofs.YtkmfmphpndhkjaaGreatDoor
open Go Go.RowKit Go.Lib
set_option linter.unusedVariables false
set_option linter.unusedSimpArgs false
theorem cU.weak {P:Program} {all l:List Oper} {σ σ' : St} {k:St→Prop} (hw:aD σ σ') (h:cU P all l σ' k):cU P all l σ k:=fun F K0 g a w Q hr hk=>by
 obtain⟨g',hr'⟩:=hw F K0 g a w hr
 exact h F K0 g' a w Q hr' hk
theorem cU.callR {P:Program} {fid:FuncId} {all:List Oper} {o:Oper} {os:List Oper} {σ:St} {k:St→Prop} {f:Operand} {args:Array Operand} {tys:Array TypeId} {H' : Hp} {x:SV} {nx' : Nat}
  (hop:o.op = .call { callee:=.value f,args:=args,argTypes:=tys }) (hbody:iT P fid=true) (hc:gV all σ.env o=some true∧tD σ o=true∧bV σ.env f = .c (.d (.fn (.func fid) [])))
  (hcall:∀ F K0 g a w,Rel F K0 g σ a w→Calls P fid (args.map a.eval) w fun e w'=>∃ v g',e = .returned v∧RelH F K0 g' H' w'∧gB g σ.H g' H'∧bH g' H' x v) (hdf:∀ i ∈ σ.fx.dfs,H' i=σ.H i)
  (h:cU P all os ⟨mO σ.env o.dst x,H',nx',σ.sz,σ.fx⟩ k):cU P all (o::os) σ k:=by
 intro F K0 g a w Q hr hk
 obtain⟨hg,hd,hf⟩:=hc
 have hw:=eD (a:=a) (fun _ _ _ d _ _ _=>hr.env d) hg
 unfold wpListIn
 rw[hw]
 simp only[if_true]
 have hnd:∀ c,o.op≠.defer c:=by intro c hc;rw[hop] at hc;cases hc
 have hfv:a.eval f = .func (.func fid) #[] #[]:=by
  have h0:=iQ hr f
  rw[hf] at h0
  have h0:Rep g.K (.fn (.func fid) []) (a.eval f):=h0
  generalize a.eval f=v at h0
  cases h0 with
  | fn hl hv =>
   rename_i vs
   cases vs with
   | nil=>rfl
   | cons _ _=>simp at hl
 have hex:(execOp a.eval o).run P w = .ok (.enter fid (args.map a.eval)) w:=by
  unfold execOp
  rw[hop]
  unfold iT at hbody
  split at hbody
  ·rename_i fn hfn
   simp only[Bool.and_eq_true,Bool.not_eq_true'] at hbody
   simp only[resolve,hfv,Deferred.ofValue]
   have hb1:¬ fn.body=none:=by intro e;rw[e] at hbody;simp at hbody
   have hb2 : ¬ fn.name = "runtime.NumGoroutine" := by simpa using hbody.1
   simp[invoke,callFunc,hfn,hb1,hb2]
  ·cases hbody
 refine⟨fun _ _=>trivial,?_⟩
 rw[Oper.semAt_eq _ _ _ hnd,hex]
 simp only[Oper.uponIn]
 refine⟨lL,mB ((hcall F K0 g a w hr).mono ?_)⟩
 rintro e w' ⟨v,g',rfl,hm,hle,hv⟩
 refine h F K0 g' _ w' Q ⟨hm,fun t=>?_,by rw[oX];exact hr.size,?_,hr.ln,hr.rd,hr.nodup,hr.lt⟩ hk
 ·have hd':=uM hd
  unfold mQ at hd'
  exact sD (d:=o.dst) (fun t=>(hr.env t).mono hle) hv hr.size (fun t ht=>by rw[ht] at hd';exact hd') t
 ·show dB _ _ σ.fx.dfs _
  rw[sK]
  exact dB.mono' hle hdf hr.defers
end Go.Proofs.YtkmfmphpndhkjaaGreatDoor
namespace Go.Proofs.YtkmfmphpndhkjaaGreatDoor
open Go Go.RowKit Go.Lib
set_option linter.unusedVariables false
set_option linter.unusedSimpArgs false
end Go.Proofs.YtkmfmphpndhkjaaGreatDoor
