/- The abstract machine (InT, InU, InV, InW, InWb, InWc). -/
import Derived.Test.YtpklhnpchhaccaaGreatDoorInMd
import Derived.Test.YtpklhnpchhaccaaGreatDoorMpK
namespace Go.Proofs.YtpklhnpchhaccaaGreatDoor
open Go Go.RowKit
set_option maxHeartbeats 4000000
set_option maxRecDepth 100000
set_option linter.unusedVariables false
set_option linter.unusedSimpArgs false
def hG (l:List OpenD):List CV:=(l.map OpenD.dv).flatten.map CV.d
theorem aLy (a b:List OpenD):hG (a++b)=hG a++hG b:=by simp[hG]
theorem aLz (l:List OpenD):(hG l).length=l.length*3:=by
 unfold hG
 rw[List.length_map,cQ (sz:=3) (by intro x hx;obtain⟨r,_,rfl⟩:=List.mem_map.1 hx;rfl),List.length_map]
theorem aKo (l:List BatD):eM 5 ((fN l).length / 5) (l.map BatD.dv).flatten=l.map BatD.dv:=by
 rw[aOg,Nat.mul_div_cancel _ (by decide)]
 have:=kO 5 (l.map BatD.dv) (fun x hx=>by obtain⟨b,_,rfl⟩:=List.mem_map.1 hx;rfl)
 rwa [List.length_map] at this
theorem aKp (l:List RowD):eM 5 ((fO l).length / 5) (l.map RowD.dv).flatten=l.map RowD.dv:=by
 rw[xN,Nat.mul_div_cancel _ (by decide)]
 have:=kO 5 (l.map RowD.dv) (fun x hx=>by obtain⟨b,_,rfl⟩:=List.mem_map.1 hx;rfl)
 rwa [List.length_map] at this
theorem aHy (l:List OpenD):eM 3 ((hG l).length / 3) (l.map OpenD.dv).flatten=l.map OpenD.dv:=by
 rw[aLz,Nat.mul_div_cancel _ (by decide)]
 have:=kO 3 (l.map OpenD.dv) (fun x hx=>by obtain⟨b,_,rfl⟩:=List.mem_map.1 hx;rfl)
 rwa [List.length_map] at this
theorem uI (ds:List D):bN CV.toD0 (ds.map CV.d)=some ds:=tQ CV.toD0 (fun _=>rfl) ds
theorem aEl (vt:Nat→Nat) (vo:Nat):∀ (rest pre:List OpenD) (σ:St),OpOk rest→σ.H 10=some (.mrow 95 3 vo (hG pre++dK vt rest))→(∀ o ∈ rest,σ.H (10+o.pid.toNat)=some (.mrow 62 5 (vt o.pid.toNat) (fN o.bats))) →
  ∃ H',aD σ { σ with H:=H' }∧H' 10=some (.mrow 95 3 vo (hG (pre++rest)))∧∀ i,i<10∨18<i→H' i=σ.H i
 | [],pre,σ,_,h10,_=>⟨σ.H,aD.refl σ,by rw[h10,List.append_nil];simp[dK],fun _ _=>rfl⟩
 | o::rest,pre,σ,hok,h10,hq=>by
  have hp:=hok.pid o (List.mem_cons_self ..)
  obtain⟨hr1,hr2⟩:=List.pairwise_cons.1 hok.rise
  have hok' : OpOk rest:=⟨fun x hx=>hok.pid x (List.mem_cons_of_mem _ hx),hr2⟩
  have hqo:=hq o (List.mem_cons_self ..)
  have hc:hG pre++dK vt (o::rest)=hG pre++(.d (int o.pid) :: .d (int o.epoch) :: .mt (10+o.pid.toNat) (vt o.pid.toNat)::dK vt rest):=by simp[dK]
  have hk:(hG pre++dK vt (o::rest))[(hG pre).length+2]? = some (.mt (10+o.pid.toNat) (vt o.pid.toNat)):=by
   rw[hc,List.getElem?_append_right (by omega),Nat.add_sub_cancel_left];rfl
  have hw:=aD.pubIn (σ:=σ) (id:=10) (by omega) hqo (uI (o.bats.map BatD.dv).flatten) h10 hk
  rw[aKo] at hw
  have hset:(hG pre++dK vt (o::rest)).set ((hG pre).length+2) (.d (.lst 5 (o.bats.map BatD.dv)))=hG (pre++[o])++dK vt rest:=by
   rw[hc,List.set_append_right _ _ (by omega),Nat.add_sub_cancel_left,aLy]
   simp[hG,OpenD.dv]
  rw[hset] at hw
  obtain⟨H',h1,h2,h3⟩:=aEl vt vo rest (pre++[o]) { σ with H:=upd (upd σ.H (10+o.pid.toNat) (some (.mrow 62 5 (vt o.pid.toNat+1) []))) 10 (some (.mrow 95 3 vo (hG (pre++[o])++dK vt rest))) } hok' (by dsimp only;exact aB _ _ _) (fun x hx=>by
   have hx1:=hr1 x hx
   have hx2:=hok'.pid x hx
   show upd (upd σ.H _ _) 10 _ (10+x.pid.toNat)=_
   rw[aA _ _ (by omega),aA _ _ (by omega)]
   exact hq x (List.mem_cons_of_mem _ hx))
  refine⟨H',hw.trans h1,by rw[h2];simp,fun i hi=>?_⟩
  rw[h3 i hi]
  show upd (upd σ.H _ _) 10 _ i=_
  rw[aA _ _ (by omega),aA _ _ (by omega)]
theorem aSk (s:FoldS) (R:Nat) (hR:R<9∨18<R) (σ:St) (hok:OpOk s.p.opens) (h0:σ.H R=some (.cells [.d (int s.p.start),.d (int s.p.fin),.mt 9 s.vr,.mt 10 s.vo,.d (.lst 4 (s.p.prods.map ProdD.dv))]))
  (h9:σ.H 9=some (.mrow 47 5 s.vr (fO s.p.rows))) (h10:σ.H 10=some (.mrow 95 3 s.vo (dK s.vt s.p.opens))) (hq:∀ q,1≤q→q≤8→σ.H (10+q)=some (.mrow 62 5 (s.vt q) (fN (fW s.p.opens q)))) :
  ∃ H',aD σ { σ with H:=H' }∧H' R=some (.cells (s.p.dv.map CV.d))∧∀ i,i≠R→i<9∨18<i→H' i=σ.H i:=by
 obtain⟨H1,w1,e10,e1⟩:=aEl s.vt s.vo s.p.opens [] σ hok h10 (fun o ho=>by
  have hp:=hok.pid o ho
  rw[hq o.pid.toNat (by omega) (by omega),aA0 hok ho])
 rw[List.nil_append] at e10
 have r1:H1 R=_:=(e1 R (by omega)).trans h0
 have w2:=aD.publish (σ:={ σ with H:=H1 }) (id:=R) (k:=3) (τ:=10) (by omega) e10 (uI _) r1 rfl
 rw[aHy] at w2
 have r9:upd (upd H1 10 (some (.mrow 95 3 (s.vo+1) []))) R (some (.cells (List.set [.d (int s.p.start),.d (int s.p.fin),.mt 9 s.vr,.mt 10 s.vo,.d (.lst 4 (s.p.prods.map ProdD.dv))] 3 (.d (.lst 3 (s.p.opens.map OpenD.dv)))))) 9=some (.mrow 47 5 s.vr (fO s.p.rows)):=by
  rw[aA _ _ (by omega),aA _ _ (by omega),e1 9 (by omega)];exact h9
 have w3:=aD.publish (σ:={ σ with H:=upd (upd H1 10 (some (.mrow 95 3 (s.vo+1) []))) R (some (.cells (List.set [.d (int s.p.start),.d (int s.p.fin),.mt 9 s.vr,.mt 10 s.vo,.d (.lst 4 (s.p.prods.map ProdD.dv))] 3 (.d (.lst 3 (s.p.opens.map OpenD.dv)))))) }) (id:=R) (k:=2) (τ:=9) (by omega) r9 (uI _) (by dsimp only;exact aB _ _ _) rfl
 rw[aKp] at w3
 refine⟨_,(w1.trans w2).trans w3,aB _ _ _,fun i hi hi2=>?_⟩
 show upd (upd (upd (upd H1 _ _) R _) 9 _) R _ i=_
 rw[aA _ _ hi,aA _ _ (by omega),aA _ _ hi,aA _ _ (by omega)]
 exact e1 i (by omega)
set_option maxHeartbeats 8000000
def s0:FoldS:=⟨⟨0,0,[],[],[]⟩,0,0,fun _=>0⟩
abbrev cL:CV:=.d (.val (.slice none 0 0))
theorem aAo (ks:List Nat) (hks:∀ q,1≤q→q≤8→ks.contains (10+q)=true) (vt:Nat→Nat):∀ (l:List OpenD),mQ l→(((dK vt l).flatMap CV.ids).all fun i=>ks.contains i)=true
 | [],_=>rfl
 | o::l,h=>by
  have h1:=h o (List.mem_cons_self ..)
  have ih:=aAo ks hks vt l (fun x hx=>h x (List.mem_cons_of_mem _ hx))
  unfold dK at ih ⊢
  rw[List.flatMap_cons,List.flatMap_append,List.all_append,ih,Bool.and_true]
  show (List.all [10+o.pid.toNat] fun i=>ks.contains i)=true
  simp only[List.all_cons,List.all_nil,Bool.and_true]
  exact hks _ (by omega) (by omega)
theorem aWh (e sz:Nat) (hsz:0<sz):∀ (n:Nat) (σ:St) (t:Nat),(∀ i,t≤i→i<t+n→σ.H i=none)→∃ H',aD σ { σ with H:=H' }∧(∀ i,t≤i→i<t+n→H' i=some (.mrow e sz 0 []))∧∀ i,i<t∨t+n≤i→H' i=σ.H i
 | 0,σ,t,_=>⟨σ.H,aD.refl σ,fun i h1 h2=>by omega,fun _ _=>rfl⟩
 | n+1,σ,t,h=>by
  have w1:=aD.mtok (σ:=σ) (τ:=t) e sz (h t (Nat.le_refl _) (by omega)) hsz
  obtain⟨H',w2,h1,h2⟩:=aWh e sz hsz n { σ with H:=upd σ.H t (some (.mrow e sz 0 [])) } (t+1) (fun i h3 h4=>by
   dsimp only
   rw[aA _ _ (by omega)];exact h i (by omega) (by omega))
  refine⟨H',w1.trans w2,fun i h3 h4=>?_,fun i h3=>?_⟩
  ·by_cases hi:i=t
   ·subst hi;rw[h2 i (by omega)];exact aB _ _ _
   ·exact h1 i (by omega) (by omega)
  ·rw[h2 i (by omega)]
   exact aA _ _ (by omega)
theorem Wp.weakE {P:Program} {c:Code} {σ:St} {Q:Exit→St→Prop} {R:Hp→Prop} (h:∃ H',aD σ { σ with H:=H' }∧R H') (h2:∀ H',R H'→Wp P c { σ with H:=H' } Q):Wp P c σ Q:=by
 obtain⟨H',w,hr⟩:=h
 exact Wp.weak w (h2 H' hr)
theorem sE (ρ:Nat→Nat) (e v:Nat) (l:List BatD):HE.ren ρ (.mrow e 5 v (fN l)) = .mrow e 5 v (fN l):=by
 show HE.mrow e 5 v ((fN l).map (CV.ren ρ))=_
 unfold fN
 rw[List.map_map]
 congr 1
set_option maxHeartbeats 4000000
def kM (p:PartD) (b:BatD):Option PartD :=
 if (aP p.prods b).2.2≠0∨(aP p.prods b).2.1=true then none else
 match bL p.opens b.pid,p.opens[aZ p.opens b.pid]? with
 | true,some o=>if b.txn=false∨o.epoch≠b.epoch∨8≤o.bats.length then none else
   some { p with prods:=(aG p.prods b (-1)).1,opens:=p.opens.set (aZ p.opens b.pid) ⟨o.pid,o.epoch,o.bats++[b]⟩ }
 | _,_=>if b.txn=false then
   (if 1048576<p.fin+(b.recs.length:Int) then none else some { p with prods:=(aG p.prods b p.fin).1,rows:=p.rows++cS b p.fin,fin:=p.fin+(b.recs.length:Int) })
  else some { p with prods:=(aG p.prods b (-1)).1,opens:=p.opens.take (aZ p.opens b.pid)++⟨b.pid,b.epoch,[b]⟩::p.opens.drop (aZ p.opens b.pid) }
def lK (p:PartD) (l:List BatD):PartD:=l.foldl (fun p b=>{ p with rows:=p.rows++cS b p.fin,fin:=p.fin+(b.recs.length:Int) }) p
def aB2 (p:PartD) (b:BatD) (yes:Bool):Option PartD :=
 match bL p.opens b.pid,p.opens[aZ p.opens b.pid]? with
 | true,some o=>if o.epoch≠b.epoch then none else
   if 1048576<p.fin+(hJ (if yes then o.bats else []):Nat)+1 then none else
   some { lK p (if yes then o.bats else []) with fin:=(lK p (if yes then o.bats else [])).fin+1,opens:=p.opens.take (aZ p.opens b.pid)++p.opens.drop (aZ p.opens b.pid+1),prods:=eP p.prods b.pid }
 | _,_=>none
def cG (p:PartD) (e:EntD):Option PartD :=
 if aL e=false then none else
 if e.kind=0 then kM p e.b
 else if e.kind=1 then aB2 p e.b e.yes
 else if e.kind=2 then (if e.off<p.start∨p.fin<e.off then none else some { p with start:=e.off,rows:=jJ (nJ e.off) p.rows })
 else if e.kind=3 then none
 else if e.kind=4 then none
 else if e.kind=5 then (if p.fin=1048576 then none else some { p with rows:=p.rows++[{ e.row with off:=p.fin }],fin:=p.fin+1 })
 else (if bL p.opens e.prod.pid=true then none else some { p with prods:=dV p.prods e.prod })
theorem aJm:∀ (l:List OpenD) (n:Int),n≤8→l.Pairwise (fun a b=>a.pid<b.pid)→(∀ o ∈ l,n<o.pid∧o.pid≤8)→(l.length:Int)≤8 - n
 | [],n,hn,_,_=>by simp only[List.length_nil];omega
 | o::l,n,hn,hp,h=>by
  have h1:=h o (List.mem_cons_self ..)
  rw[List.pairwise_cons] at hp
  have:=aJm l o.pid h1.2 hp.2 (fun x hx=>⟨hp.1 x hx,(h x (List.mem_cons_of_mem _ hx)).2⟩)
  rw[List.length_cons];omega
theorem OpOk.len8 {l:List OpenD} (h:OpOk l):l.length≤8:=by
 have:=aJm l 0 (by decide) h.rise (fun o ho=>by have:=h.pid o ho;omega)
 omega
structure FOk (k:Nat) (p:PartD):Prop where
 ok:OpOk p.opens
 fin:0≤p.fin∧p.fin≤1048576
 rows:p.rows.length≤40*k
 prods:p.prods.length≤k
 seen:∀ x ∈ p.prods,x.seen.length≤100
 opens:p.opens.length≤k
 bats:∀ o ∈ p.opens,o.bats.length≤8
 recs:∀ o ∈ p.opens,∀ b ∈ o.bats,b.recs.length≤4
theorem FOk.small {k:Nat} {p:PartD} (h:FOk k p) (hk:k≤20000):SmallL p.prods:=⟨by have:=h.prods;omega,fun x hx=>by have:=h.seen x hx;omega⟩
theorem aC9:∀ (l:List BatD),(∀ b ∈ l,b.recs.length≤4)→hJ l≤4*l.length
 | [],_=>by simp[hJ]
 | b::l,h=>by
  have h1:=h b (List.mem_cons_self ..)
  have h2:=aC9 l (fun x hx=>h x (List.mem_cons_of_mem _ hx))
  simp only[hJ,List.length_cons];omega
theorem aCb (l:List ProdD) (b:BatD) (base:Int) (h1:(aP l b).2.2=0) (h2:(aP l b).2.1=false) (hb : -1≤base∧base≤1048576):(aG l b base).2=0:=by
 unfold aG
 rw[show (decide (base < -1) || decide (1048576<base))=false by simp;omega]
 simp[h1,h2]
def zQ (s:FoldS) (e:EntD):Prop:=∃ r t,FunG Tryz.prog 252 [.c (.own 0 0),jG e] qL (bI (oB s)) r qL (bI (oB t))∧((cG s.p e=some t.p∧r=lJ)∨(cG s.p e=none∧(∃ m,r=wU m)∧t=s))
theorem aLl (s:FoldS) (e:EntD) (k:Nat) (h:FOk k s.p) (hk:k≤20000) (hr:e.b.recs.length≤100000) (hq:e.prod.seen.length≤100000) (ho:aL e=true) (he:e.kind=5):zQ s e:=by
 have hok:=ho
 simp only[aL,Bool.and_eq_true,decide_eq_true_eq] at hok
 have hrow:=h.rows
 have hfin:=h.fin
 have hstep:cG s.p e=(if s.p.fin=1048576 then none else some { s.p with rows:=s.p.rows++[{ e.row with off:=s.p.fin }],fin:=s.p.fin+1 }):=by
  unfold cG;simp[ho,he]
 have hF:nxF e.kind=287:=by simp[nxF,he]
 by_cases hc:s.p.fin=1048576
 ·exact⟨_,_,gR s s e _ h.ok h.ok.pid rfl hok.1 hr hq hok.2 h.fin.2 (hF ▸ aW4 s e h.ok hc),.inr ⟨by rw[hstep,if_pos hc],⟨_,rfl⟩,rfl⟩⟩
 ·exact⟨_,_,gR s (aXn s e.row) e _ h.ok h.ok.pid rfl hok.1 hr hq hok.2 h.fin.2 (hF ▸ aSu s e h.ok (by omega) (by omega)),.inl ⟨by rw[hstep,if_neg hc];rfl,rfl⟩⟩
theorem aGc (s:FoldS) (e:EntD) (k:Nat) (h:FOk k s.p) (hk:k≤20000) (hr:e.b.recs.length≤100000) (hq:e.prod.seen.length≤100000) (ho:aL e=true) (he:e.kind=6):zQ s e:=by
 have hok:=ho
 simp only[aL,Bool.and_eq_true,decide_eq_true_eq] at hok
 have hop:=h.ok.len8
 have hstep:cG s.p e=(if bL s.p.opens e.prod.pid=true then none else some { s.p with prods:=dV s.p.prods e.prod }):=by
  unfold cG;simp[ho,he]
 have hF:nxF e.kind=288:=by simp[nxF,he]
 cases hc:bL s.p.opens e.prod.pid with
 | true=>exact⟨_,_,gR s s e _ h.ok h.ok.pid rfl hok.1 hr hq hok.2 h.fin.2 (hF ▸ aQe s e h.ok (by omega) hc),.inr ⟨by rw[hstep,hc];rfl,⟨_,rfl⟩,rfl⟩⟩
 | false=>exact⟨_,_,gR s (aMd s e.prod) e _ h.ok h.ok.pid rfl hok.1 hr hq hok.2 h.fin.2 (hF ▸ aMc s e h.ok (by omega) hc (h.small hk) hq),.inl ⟨by rw[hstep,hc];rfl,rfl⟩⟩
theorem oV {l:List OpenD} {pid:Int} (h:bL l pid=true):∃ o,l[aZ l pid]? = some o∧o.pid=pid:=by
 obtain⟨hlt,hp⟩:=aLv h
 exact⟨_,List.getElem?_eq_getElem hlt,hp⟩
theorem aN7 {e:EntD} (hm:nB e=true) (he:e.kind=0):dQ e.b=true:=by
 unfold nB at hm
 rw[if_pos he,Bool.and_eq_true] at hm
 exact hm.1
theorem oL {b:BatD} (h:dQ b=true):(1≤b.pid∧b.pid≤8)∧b.recs.length≤4:=by
 unfold dQ at h
 simp only[Bool.and_eq_true,Bool.not_eq_true',Bool.or_eq_false_iff,decide_eq_false_iff_not] at h
 omega
theorem pC {l:List ProdD} {p x:ProdD} (h:x ∈ dV l p):x ∈ l∨x=p:=by
 unfold dV at h
 rcases List.mem_append.1 h with h|h
 ·rcases List.mem_append.1 h with h|h
  ·exact .inl (List.mem_of_mem_take h)
  ·exact .inr (by simpa using h)
 ·exact .inl (List.mem_of_mem_drop h)
theorem pB (l:List ProdD) (p:ProdD):(dV l p).length≤l.length+1:=by
 unfold dV
 have:=xI l p.pid
 rw[List.length_append,List.length_append,List.length_take,List.length_drop]
 simp only[List.length_cons,List.length_nil]
 split<;>omega
theorem aI0 {l:List ProdD} {pid:Int} {x:ProdD} (h:x ∈ eP l pid):x ∈ l∨x.seen=[]:=by
 unfold eP at h
 split at h
 ·rcases List.mem_append.1 h with h|h
  ·rcases List.mem_append.1 h with h|h
   ·exact .inl (List.mem_of_mem_take h)
   ·right;simp at h;rw[h]
  ·exact .inl (List.mem_of_mem_drop h)
 ·exact .inl h
theorem aHz (l:List ProdD) (pid:Int):(eP l pid).length≤l.length:=by
 unfold eP
 split
 ·rename_i p hp
  have:=(List.getElem?_eq_some_iff.1 hp).1
  rw[List.length_append,List.length_append,List.length_take,List.length_drop]
  simp only[List.length_cons,List.length_nil]
  omega
 ·omega
theorem wW (pr:RowD→Bool) (l:List RowD):(jJ pr l).length≤l.length:=List.length_filter_le ..
theorem kV (b:BatD) (n:Int):(cS b n).length=b.recs.length:=pA _ _ _
theorem aPk (l:List ProdD) (b:BatD) (base:Int):(kD l b base).length≤3:=by
 unfold kD
 rw[List.length_drop,List.length_append]
 simp only[List.length_cons,List.length_nil]
 omega
theorem kX {k:Nat} {l:List ProdD} (b:BatD) (base:Int) (hl:l.length≤k) (hs:∀ x ∈ l,x.seen.length≤100):(aG l b base).1.length≤k+1∧∀ x ∈ (aG l b base).1,x.seen.length≤100:=by
 unfold aG
 split
 ·exact⟨by simp,fun x hx=>by simp at hx⟩
 split
 ·exact⟨by simp,fun x hx=>by simp at hx⟩
 split
 ·exact⟨by simp,fun x hx=>by simp at hx⟩
 ·refine⟨by have:=pB l ⟨b.pid,b.epoch,eB b,kD l b base⟩;simp only;omega,fun x hx=>?_⟩
  rcases pC hx with h|h
  ·exact hs x h
  ·subst h
   have:=aPk l b base
   simp only;omega
theorem aBl:∀ (l:List BatD) (p:PartD),(lK p l).opens=p.opens∧(lK p l).prods=p.prods∧(lK p l).start=p.start∧(lK p l).fin=p.fin+(hJ l:Nat)∧(lK p l).rows.length=p.rows.length+hJ l
 | [],p=>by simp[lK,hJ]
 | b::l,p=>by
  obtain⟨h1,h2,h3,h4,h5⟩:=aBl l { p with rows:=p.rows++cS b p.fin,fin:=p.fin+(b.recs.length:Int) }
  refine⟨h1,h2,h3,?_,?_⟩
  ·show (lK _ l).fin=_
   rw[h4];simp only[hJ,Int.natCast_add];omega
  ·show (lK _ l).rows.length=_
   rw[h5,List.length_append,kV];simp only[hJ];omega
theorem FOk.mono {k:Nat} {p:PartD} (h:FOk k p):FOk (k+1) p:=⟨h.ok,h.fin,by have:=h.rows;omega,by have:=h.prods;omega,h.seen,by have:=h.opens;omega,h.bats,h.recs⟩
theorem OpOk.erase {l:List OpenD} (h:OpOk l) (i:Nat):OpOk (l.take i++l.drop (i+1)):=by
 refine⟨h.pid.erase i,?_⟩
 have hsub:(l.take i++l.drop (i+1)).Sublist l:=by
  conv=>rhs;rw[← List.take_append_drop i l]
  exact List.Sublist.append (List.Sublist.refl _) (by rw[← List.drop_drop];exact List.drop_sublist _ _)
 exact h.rise.sublist hsub
theorem aVd {k:Nat} {p p' : PartD} {b:BatD} {yes:Bool} (h:FOk k p) (hm:aB2 p b yes=some p'):FOk (k+1) p':=by
 unfold aB2 at hm
 split at hm
 ·rename_i o hob hi
  obtain⟨L,hL⟩:∃ L,L=(if yes then o.bats else []):=⟨_,rfl⟩
  rw[← hL] at hm
  split at hm
  ·cases hm
  split at hm
  ·cases hm
  rename_i hf
  cases hm
  obtain⟨hlt,hoe⟩:=List.getElem?_eq_some_iff.1 hi
  have hmem:o ∈ p.opens:=hoe ▸ List.getElem_mem hlt
  have hsb:hJ L≤32:=by
   rw[hL]
   split
   ·have h1:=aC9 o.bats (h.recs o hmem)
    have h2:=h.bats o hmem
    omega
   ·simp[hJ]
  obtain⟨q1,q2,q3,q4,q5⟩:=aBl L p
  have hfin:=h.fin
  have hrow:=h.rows
  have hop:=h.opens
  have hpr:=h.prods
  have hcl:=aHz p.prods b.pid
  have hmm:∀ x ∈ p.opens.take (aZ p.opens b.pid)++p.opens.drop (aZ p.opens b.pid+1),x ∈ p.opens:=fun x hx=>(List.mem_append.1 hx).elim List.mem_of_mem_take List.mem_of_mem_drop
  refine⟨h.ok.erase _,⟨by show 0≤(lK p _).fin+1;rw[q4];omega,by show (lK p _).fin+1≤_;rw[q4];omega⟩,by show (lK p _).rows.length≤_;rw[q5];omega,by show (eP _ _).length≤_;omega,fun x hx=>?_,?_,fun x hx=>h.bats x (hmm x hx),fun x hx=>h.recs x (hmm x hx)⟩
  ·rcases aI0 hx with hx|hx
   ·exact h.seen x hx
   ·rw[hx];simp
  ·show (p.opens.take _++p.opens.drop _).length≤_
   rw[List.length_append,List.length_take,List.length_drop];omega
 ·cases hm
theorem OpOk.set {l:List OpenD} (h:OpOk l) {i:Nat} {o:OpenD} (hi:l[i]? = some o) (x:OpenD) (hx:x.pid=o.pid):OpOk (l.set i x):=by
 obtain⟨hlt,hoe⟩:=List.getElem?_eq_some_iff.1 hi
 have hmem:o ∈ l:=hoe ▸ List.getElem_mem hlt
 refine⟨fun y hy=>?_,?_⟩
 ·rcases List.mem_or_eq_of_mem_set hy with h1|rfl
  ·exact h.pid y h1
  ·rw[hx];exact h.pid o hmem
 ·have hr:=h.rise
  rw[List.pairwise_iff_getElem] at hr ⊢
  intro a b ha hb hab
  rw[List.length_set] at ha hb
  have h1:=hr a b ha hb hab
  have e:∀ (j:Nat) (hj:j<(l.set i x).length) (hj' : j<l.length),(l.set i x)[j].pid=l[j].pid:=fun j hj hj'=>by
   rw[List.getElem_set]
   split
   ·rename_i hij;subst hij;rw[hx,hoe]
   ·rfl
  rw[e a (by rw[List.length_set];exact ha) ha,e b (by rw[List.length_set];exact hb) hb]
  exact h1
theorem aUt {k:Nat} {p p' : PartD} {b:BatD} (h:FOk k p) (hb:dQ b=true) (hm:kM p b=some p'):FOk (k+1) p':=by
 obtain⟨hbp,hbr⟩:=oL hb
 have hfin:=h.fin
 have hrow:=h.rows
 have hop:=h.opens
 obtain⟨t1,t2⟩:=kX b (-1) h.prods h.seen
 obtain⟨t3,t4⟩:=kX b p.fin h.prods h.seen
 unfold kM at hm
 split at hm
 ·cases hm
 have hkeep:(match bL p.opens b.pid,p.opens[aZ p.opens b.pid]? with
  | true,some o=>False
  | _,_=>True)→(if b.txn=false then
   (if 1048576<p.fin+(b.recs.length:Int) then none else some { p with prods:=(aG p.prods b p.fin).1,rows:=p.rows++cS b p.fin,fin:=p.fin+(b.recs.length:Int) })
  else some { p with prods:=(aG p.prods b (-1)).1,opens:=p.opens.take (aZ p.opens b.pid)++⟨b.pid,b.epoch,[b]⟩::p.opens.drop (aZ p.opens b.pid) })=some p'→FOk (k+1) p':=fun hno hm=>by
  have hob:bL p.opens b.pid=false:=by
   cases hob:bL p.opens b.pid with
   | false=>rfl
   | true =>
    obtain⟨o,hi,_⟩:=oV hob
    rw[hob,hi] at hno
    exact hno.elim
  split at hm
  ·split at hm
   ·cases hm
   rename_i hf
   cases hm
   exact⟨h.ok,⟨by show 0≤p.fin+_;omega,by show p.fin+_≤_;omega⟩,by show (p.rows++cS b p.fin).length≤_;rw[List.length_append,kV];omega,t3,t4,by show p.opens.length≤_;omega,h.bats,h.recs⟩
  ·cases hm
   have hmm:∀ x ∈ p.opens.take (aZ p.opens b.pid)++(⟨b.pid,b.epoch,[b]⟩:OpenD)::p.opens.drop (aZ p.opens b.pid),x ∈ p.opens∨x=⟨b.pid,b.epoch,[b]⟩:=fun x hx=>by
    rcases List.mem_append.1 hx with hx|hx
    ·exact .inl (List.mem_of_mem_take hx)
    ·rcases List.mem_cons.1 hx with rfl|hx
     ·exact .inr rfl
     ·exact .inl (List.mem_of_mem_drop hx)
   refine⟨h.ok.ins hob hbp b.epoch [b],hfin,by show p.rows.length≤_;omega,t1,t2,?_,fun x hx=>?_,fun x hx y hy=>?_⟩
   ·show (p.opens.take _++_::p.opens.drop _).length≤_
    rw[List.length_append,List.length_cons,List.length_take,List.length_drop];omega
   ·rcases hmm x hx with hx|rfl
    ·exact h.bats x hx
    ·simp
   ·rcases hmm x hx with hx|rfl
    ·exact h.recs x hx y hy
    ·simp at hy;subst hy;exact hbr
 split at hm
 ·rename_i o hob hi
  obtain⟨hlt,hoe⟩:=List.getElem?_eq_some_iff.1 hi
  have hmem:o ∈ p.opens:=hoe ▸ List.getElem_mem hlt
  split at hm
  ·cases hm
  rename_i hno
  cases hm
  have hbl:o.bats.length<8:=by
   rcases Nat.lt_or_ge o.bats.length 8 with hh|hh
   ·exact hh
   ·exact absurd (.inr (.inr hh)) hno
  refine⟨h.ok.set hi _ rfl,hfin,by show p.rows.length≤_;omega,t1,t2,by show (p.opens.set _ _).length≤_;rw[List.length_set];omega,fun x hx=>?_,fun x hx y hy=>?_⟩
  ·rcases List.mem_or_eq_of_mem_set hx with hx|rfl
   ·exact h.bats x hx
   ·show (o.bats++[b]).length≤8
    rw[List.length_append];simp only[List.length_cons,List.length_nil];omega
  ·rcases List.mem_or_eq_of_mem_set hx with hx|rfl
   ·exact h.recs x hx y hy
   ·rcases List.mem_append.1 hy with hy|hy
    ·exact h.recs o hmem y hy
    ·simp at hy;subst hy;exact hbr
 ·rename_i hno
  refine hkeep ?_ hm
  split
  ·rename_i o hob hi
   exact hno o hob hi
  ·trivial
theorem yJ {p:ProdD} (h:bC p=true):p.seen.length≤3:=by
 unfold bC at h
 rw[Bool.and_eq_true] at h
 have h1:=h.1
 unfold cW at h1
 simp only[Bool.not_eq_true',Bool.or_eq_false_iff,decide_eq_false_iff_not] at h1
 omega
theorem aGx {k:Nat} {p p' : PartD} {e:EntD} (h:FOk k p) (hm:cG p e=some p'):FOk (k+1) p':=by
 have hfin:=h.fin
 have hrow:=h.rows
 have hop:=h.opens
 have hpr:=h.prods
 unfold cG at hm
 split at hm
 ·cases hm
 rename_i ho
 have ho:aL e=true:=by simpa using ho
 simp only[aL,Bool.and_eq_true,decide_eq_true_eq] at ho
 split at hm
 ·rename_i he
  exact aUt h (aN7 ho.2 he) hm
 split at hm
 ·exact aVd h hm
 split at hm
 ·split at hm
  ·cases hm
  ·cases hm
   have:=wW (nJ e.off) p.rows
   exact⟨h.ok,hfin,by show (jJ _ _).length≤_;omega,by show p.prods.length≤_;omega,h.seen,by show p.opens.length≤_;omega,h.bats,h.recs⟩
 split at hm
 ·cases hm
 split at hm
 ·cases hm
 split at hm
 ·split at hm
  ·cases hm
  ·rename_i hf
   cases hm
   exact⟨h.ok,⟨by show 0≤p.fin+1;omega,by show p.fin+1≤_;omega⟩,by show (p.rows++[_]).length≤_;rw[List.length_append];simp only[List.length_cons,List.length_nil];omega,by show p.prods.length≤_;omega,h.seen,by show p.opens.length≤_;omega,h.bats,h.recs⟩
 ·rename_i h0 h1 h2 h3 h4 h5
  split at hm
  ·cases hm
  ·cases hm
   have hkn:bC e.prod=true:=by
    have hm2:=ho.2
    unfold nB at hm2
    rw[if_neg h0,if_neg h1,if_neg h2,if_neg h3,if_neg h4,if_neg h5,Bool.and_eq_true] at hm2
    exact hm2.1
   have hks:=yJ hkn
   have:=pB p.prods e.prod
   refine⟨h.ok,hfin,by show p.rows.length≤_;omega,by show (dV _ _).length≤_;omega,fun x hx=>?_,by show p.opens.length≤_;omega,h.bats,h.recs⟩
   rcases pC hx with hx|rfl
   ·exact h.seen x hx
   ·omega
def pZ:PartD:=⟨0,0,[],[],[]⟩
def mX:PartD→List EntD→Option PartD
 | p,[]=>some p
 | p,e::l=>match cG p e with
  | some p'=>mX p' l
  | none=>none
theorem aE2:∀ (a b:List EntD) (p:PartD),mX p (a++b)=match mX p a with
  | some q=>mX q b
  | none=>none
 | [],b,p=>rfl
 | e::a,b,p=>by
  show (match cG p e with|some p'=>mX p' (a++b)|none=>none)=match (match cG p e with|some p'=>mX p' a|none=>none) with|some q=>mX q b|none=>none
  cases cG p e with
  | none=>rfl
  | some q=>exact aE2 a b q
structure SmallEn (e:EntD):Prop where
 kind : -128≤e.kind∧e.kind≤127
 recs:e.b.recs.length≤100000
 seen:e.prod.seen.length≤100000
abbrev aSi:List D:=[int 0,int 0,.lst 5 [],.lst 3 [],.lst 4 []]
end Go.Proofs.YtpklhnpchhaccaaGreatDoor
