/- The buffer's log in plain words: what holds behind it. -/
import Derived.Test.YtpklhnpchhaccaaGreatDoorBfMd
import Derived.Test.YtpklhnpchhaccaaGreatDoorPlM
namespace Go.Proofs.YtpklhnpchhaccaaGreatDoor
open Go Go.RowKit
set_option maxHeartbeats 4000000
set_option maxRecDepth 100000
set_option linter.unusedVariables false
set_option linter.unusedSimpArgs false
theorem aEh (w:eV) (pid:Int) (l:List BatD):cI (eE w pid l) pid=cI w pid:=by
 rw[vG]
 unfold nM cI
 cases h:nO w pid with
 | true=>rw[if_pos rfl,if_pos rfl]
 | false=>rw[if_neg Bool.false_ne_true,if_neg Bool.false_ne_true,xN h,List.eraseIdx_append_of_length_le (Nat.le_refl _),Nat.sub_self];simp
inductive LStep (s:RefS) (e:EntD) (t:RefS):Prop
 | data (k:e.kind=0) (tx:e.b.txn=false) (ok:(aJ s.p.prods e.b s.p.fin).2=0) (hp:t.p = { s.p with prods:=(aJ s.p.prods e.b s.p.fin).1,rows:=s.p.rows++cB e.b s.p.fin,fin:=s.p.fin+(e.b.recs.length:Int) }) (hw:t.w=s.w):LStep s e t
 | cut (k:e.kind=2) (ge:s.p.start≤e.off) (le:e.off≤s.p.fin) (hp:t.p = { s.p with start:=e.off,rows:=tQ (aB8 e.off) s.p.rows }) (hw:t.w=s.w):LStep s e t
 | row (k:e.kind=5) (hp:t.p = { s.p with rows:=s.p.rows++[{ e.row with off:=s.p.fin }],fin:=s.p.fin+1 }) (hw:t.w=s.w):LStep s e t
 | state (k:e.kind=6) (hp:t.p = { s.p with prods:=cM s.p.prods e.prod }) (hw:t.w=s.w):LStep s e t
 | wait (k:e.kind=3) (ok:jT (cG s.w e.b.pid) e.b=false) (y:e.yes=false) (hp:t.p=s.p) (hw:t.w=eE s.w e.b.pid (cG s.w e.b.pid++[e.b])):LStep s e t
 | last (k:e.kind=3) (ok:jT (cG s.w e.b.pid) e.b=false) (y:e.yes=true) (nx:e.next=dQ e.b) (tk:(aF s.p (cG s.w e.b.pid++[e.b])).1=true)
   (hp:t.p = { (aF s.p (cG s.w e.b.pid++[e.b])).2 with prods:=dT (aF s.p (cG s.w e.b.pid++[e.b])).2.prods e.b.pid }) (hw:t.w=cI s.w e.b.pid):LStep s e t
 | drop (k:e.kind=4) (ok:jW s.p e=false) (hp:t.p=zJ s.p e) (hw:t.w=cI s.w e.b.pid):LStep s e t
theorem aO4 {s t:RefS} {e:EntD} (h:aZ s e=some t):aK e=true∧t.p.fin≤1048576∧LStep s e t:=by
 unfold aZ at h
 split at h
 ·cases h
 rename_i h0
 have hm:aK e=true:=by simpa using h0
 split at h
 ·cases h
 rename_i h1
 have h1:(jP s e).1=true:=by simpa using h1
 split at h
 ·cases h
 rename_i h2
 have h3:(jP s e).2=t:=Option.some.inj h
 rw[h3] at h2
 refine⟨hm,by omega,?_⟩
 unfold jP at h1 h3
 by_cases k0:e.kind=0
 ·rw[if_pos k0] at h1 h3
  cases hp:iU s.p e.b with
  | none=>rw[hp] at h1;cases h1
  | some q =>
   rw[hp] at h3
   unfold iU at hp
   split at hp
   ·cases hp
   rename_i hc
   have hq:=Option.some.inj hp
   have htx:e.b.txn=false:=by
    cases ht:e.b.txn with
    | false=>rfl
    | true=>exact absurd (.inr (.inl ht)) hc
   have hok:(aJ s.p.prods e.b s.p.fin).2=0:=Decidable.byContradiction (fun hx=>hc (.inr (.inr hx)))
   exact .data k0 htx hok (by rw[← h3,← hq]) (by rw[← h3])
 rw[if_neg k0] at h1 h3
 by_cases k3:e.kind=3
 ·rw[if_pos k3] at h1 h3
  unfold lY at h1 h3
  by_cases c1:jT (cG s.w e.b.pid) e.b=true
  ·rw[if_pos c1] at h1;cases h1
  rw[if_neg c1] at h1 h3
  have c1:jT (cG s.w e.b.pid) e.b=false:=by simpa using c1
  by_cases c2:e.yes=false
  ·rw[if_pos c2] at h3
   exact .wait k3 c1 c2 (by rw[← h3]) (by rw[← h3,wU])
  rw[if_neg c2] at h1 h3
  by_cases c3:e.next≠dQ e.b
  ·rw[if_pos c3] at h1;cases h1
  rw[if_neg c3] at h1 h3
  by_cases c4:(aF s.p (cG s.w e.b.pid++[e.b])).1=false
  ·rw[if_pos c4] at h1;cases h1
  rw[if_neg c4] at h3
  have c4:(aF s.p (cG s.w e.b.pid++[e.b])).1=true:=by simpa using c4
  exact .last k3 c1 (by simpa using c2) (by simpa using c3) c4 (by rw[← h3,← sP e.b.pid c4]) (by rw[← h3,← aEh _ _ [],vG])
 rw[if_neg k3] at h1 h3
 by_cases k4:e.kind=4
 ·rw[if_pos k4] at h1 h3
  unfold oQ at h1 h3
  by_cases c1:jW s.p e=true
  ·rw[if_pos c1] at h1;cases h1
  rw[if_neg c1] at h3
  exact .drop k4 (by simpa using c1) (by rw[← h3]) (by rw[← h3,← aIe])
 rw[if_neg k4] at h1 h3
 cases hp:iP s.p e with
 | none=>rw[hp] at h1;cases h1
 | some q =>
  rw[hp] at h3
  unfold iP at hp
  by_cases k2:e.kind=2
  ·rw[if_pos k2] at hp
   split at hp
   ·cases hp
   rename_i hc
   have hq:=Option.some.inj hp
   exact .cut k2 (by omega) (by omega) (by rw[← h3,← hq]) (by rw[← h3])
  rw[if_neg k2] at hp
  by_cases k5:e.kind=5
  ·rw[if_pos k5] at hp
   have hq:=Option.some.inj hp
   exact .row k5 (by rw[← h3,← hq]) (by rw[← h3])
  rw[if_neg k5] at hp
  by_cases k6:e.kind=6
  ·rw[if_pos k6] at hp
   split at hp
   ·cases hp
   have hq:=Option.some.inj hp
   exact .state k6 (by rw[← h3,← hq]) (by rw[← h3])
  ·rw[if_neg k6] at hp;cases hp
def oH (w:eV):Nat:=(w.map fun x=>cY x.2).sum
structure GapI (p:PartD):Prop where
 at_:∀ (i:Nat) (r:RowD),p.rows[i]? = some r→r.off=p.start+(i:Int)
 len:(p.rows.length:Int)=p.fin - p.start
structure LogI (k:Nat) (s:RefS):Prop where
 f:FOk14 k s
 ri:RowsI s.p
 ow:OkW s.w
 may:gH s.p.prods=true
 rok:∀ r ∈ s.p.rows,(0≤r.off∧r.off≤1048576)∧lN { r with off:=0 }=true
 wok:∀ x ∈ s.w,∀ b ∈ x.2,dK b=true∧b.pid=x.1
 gap:GapI s.p
theorem aH3 {p q:PartD} {l:List RowD} (h:GapI p) (h1:q.start=p.start) (h2:q.rows=p.rows++l) (h3:q.fin=p.fin+(l.length:Int)) (hl:∀ (i:Nat) (r:RowD),l[i]? = some r→r.off=p.fin+(i:Int)):GapI q:=by
 have hlen:=h.len
 refine⟨fun i r hr=>?_,by rw[h2,h3,h1,List.length_append];omega⟩
 rw[h2] at hr
 rw[h1]
 rcases Nat.lt_or_ge i p.rows.length with hi|hi
 ·rw[List.getElem?_append_left hi] at hr
  exact h.at_ i r hr
 ·rw[List.getElem?_append_right hi] at hr
  have:=hl _ r hr
  omega
theorem aF3 {b:BatD} {n:Int} (hn:0≤n∧n≤2000000) (hb:b.recs.length≤100000) (i:Nat) (r:RowD) (h:(cB b n)[i]? = some r):r.off=n+(i:Int):=by
 unfold cB oB at h
 rw[List.getElem?_map] at h
 cases hg:(List.range b.recs.length)[i]? with
 | none=>rw[hg] at h;cases h
 | some j =>
  rw[hg] at h
  obtain⟨hlt,hge⟩:=List.getElem?_eq_some_iff.1 hg
  rw[List.length_range] at hlt
  rw[List.getElem_range] at hge
  subst hge
  have h:=(Option.some.inj h).symm
  subst h
  exact tG hn hb hlt
theorem aG1:∀ (l:List BatD) (p:PartD),0≤p.fin→p.fin+4*l.length≤2000000→(∀ b ∈ l,b.recs.length≤4)→GapI p→GapI (aF p l).2
 | [],p,_,_,_,h=>h
 | b::l,p,h0,hm,hb,h=>by
  have hbr:=hb b (List.mem_cons_self ..)
  have e:aF p (b::l)=if (aJ p.prods b (-1)).2≠0 then (false,p) else aF (gZ p b) l:=rfl
  rw[e]
  rw[List.length_cons] at hm
  split
  ·exact h
  ·refine aG1 l (gZ p b) (by show 0≤p.fin+_;omega) (by show p.fin+_+_≤_;omega) (fun x hx=>hb x (List.mem_cons_of_mem _ hx)) ?_
   exact aH3 h rfl rfl (by show p.fin+_=_;rw[iL]) (fun i r hr=>aF3 (by omega) (by omega) i r hr)
theorem aJb {α:Type} (f:α→Bool) (l:List α) (n:Nat) (hn:n≤l.length) (h:∀ (i:Nat) (x:α),l[i]? = some x→f x=decide (n≤i)):l.filter f=l.drop n:=by
 conv=>lhs;rw[← List.take_append_drop n l]
 rw[List.filter_append,List.filter_eq_nil_iff.2,List.filter_eq_self.2,List.nil_append]
 ·intro x hx
  obtain⟨i,hi⟩:=List.mem_iff_getElem?.1 hx
  rw[List.getElem?_drop] at hi
  rw[h _ _ hi]
  simp
 ·intro x hx
  obtain⟨i,hi⟩:=List.mem_iff_getElem?.1 hx
  have hlt:=(List.getElem?_eq_some_iff.1 hi).1
  rw[List.length_take] at hlt
  rw[List.getElem?_take_of_lt (by omega)] at hi
  rw[h _ _ hi]
  simp;omega
theorem aVy {p:PartD} {off:Int} (h:GapI p) (h1:p.start≤off) (h2:off≤p.fin):GapI { p with start:=off,rows:=tQ (aB8 off) p.rows }:=by
 have hlen:=h.len
 have hk:tQ (aB8 off) p.rows=p.rows.drop (off - p.start).toNat:=by
  refine aJb _ p.rows (off - p.start).toNat (by omega) (fun i r hr=>?_)
  have:=h.at_ i r hr
  unfold aB8
  rw[Bool.eq_iff_iff]
  simp
  omega
 refine⟨fun i r hr=>?_,?_⟩
 ·rw[hk] at hr
  rw[List.getElem?_drop] at hr
  have:=h.at_ _ r hr
  show r.off=off+(i:Int)
  omega
 ·rw[hk]
  show ((p.rows.drop _).length:Int)=p.fin - off
  rw[List.length_drop]
  omega
theorem aG3:∀ (l:List BatD) (p:PartD),0≤p.fin→(aF p l).2.fin≤1048576→(∀ b ∈ l,dK b=true)→(aF p l).1=true→(∀ r ∈ p.rows,(0≤r.off∧r.off≤1048576)∧lN { r with off:=0 }=true) →
  (∀ r ∈ (aF p l).2.rows,(0≤r.off∧r.off≤1048576)∧lN { r with off:=0 }=true)∧p.fin≤(aF p l).2.fin
 | [],p,_,_,_,_,h=>⟨h,Int.le_refl _⟩
 | b::l,p,h0,hm,hb,ht,h=>by
  have hbr:=hb b (List.mem_cons_self ..)
  have e:aF p (b::l)=if (aJ p.prods b (-1)).2≠0 then (false,p) else aF (gZ p b) l:=rfl
  rw[e] at ht hm ⊢
  by_cases hz:(aJ p.prods b (-1)).2≠0
  ·rw[if_pos hz] at ht;cases ht
  rw[if_neg hz] at ht hm ⊢
  have hmono:∀ (l:List BatD) (p:PartD),p.fin≤(aF p l).2.fin:=by
   intro l
   induction l with
   | nil=>intro p;exact Int.le_refl _
   | cons b l ih =>
    intro p
    have e:aF p (b::l)=if (aJ p.prods b (-1)).2≠0 then (false,p) else aF (gZ p b) l:=rfl
    rw[e]
    split
    ·exact Int.le_refl _
    ·have:=ih (gZ p b)
     have e2:(gZ p b).fin=p.fin+(b.recs.length:Int):=rfl
     omega
  have hm2:=hmono l (gZ p b)
  have e2:(gZ p b).fin=p.fin+(b.recs.length:Int):=rfl
  obtain⟨q1,q2⟩:=aG3 l (gZ p b) (by omega) hm (fun x hx=>hb x (List.mem_cons_of_mem _ hx)) ht (fun r hr=>by
   rcases List.mem_append.1 hr with hr|hr
   ·exact h r hr
   ·exact xD hbr (by omega) r hr)
  exact⟨q1,by omega⟩
theorem aTs {e:EntD} (ho:aK e=true) (h5:e.kind=5) (n:Int):lN { ({ e.row with off:=n }:RowD) with off:=0 }=true:=by
 simp only[aK,Bool.and_eq_true,decide_eq_true_eq] at ho
 have hm2:=ho.2
 unfold qK at hm2
 rw[if_neg (by omega),if_neg (by omega),if_neg (by omega),if_neg (by omega),if_neg (by omega),if_pos h5,Bool.and_eq_true] at hm2
 have h7:=hm2.1
 simp only[lN,Bool.and_eq_true,beq_iff_eq] at h7 ⊢
 exact⟨⟨⟨⟨⟨by trivial,h7.1.1.1.1.2⟩,h7.1.1.1.2⟩,h7.1.1.2⟩,h7.1.2⟩,h7.2⟩
theorem aG2:∀ (l:List BatD) (p:PartD),l≠[]→(aF p l).1=true→gH (aF p l).2.prods=true
 | [],p,h,_=>absurd rfl h
 | b::l,p,_,h=>by
  have e:aF p (b::l)=if (aJ p.prods b (-1)).2≠0 then (false,p) else aF (gZ p b) l:=rfl
  rw[e] at h ⊢
  by_cases hz:(aJ p.prods b (-1)).2≠0
  ·rw[if_pos hz] at h;cases h
  rw[if_neg hz] at h ⊢
  have h1:gH (gZ p b).prods=true:=sO (by simpa using hz)
  cases l with
  | nil=>exact h1
  | cons c l=>exact aG2 (c::l) (gZ p b) (by simp) h
theorem aLv {e:EntD} (ho:aK e=true) (h4:e.kind=4):bB ⟨e.b.pid,e.b.epoch,e.next,[]⟩=true:=by
 obtain⟨k,b,yes,next,off,row,prod⟩:=e
 dsimp only at h4
 subst h4
 unfold aK at ho
 have h1:qK ⟨4,b,yes,next,off,row,prod⟩=(!yes && (fS next 0 1048576 && (gY b.pid b.epoch && decide ((⟨4,⟨0,0,b.seq,b.txn,b.recs⟩,false,0,off,row,prod⟩:EntD)=zE 4)))):=rfl
 rw[h1] at ho
 simp only[Bool.and_eq_true] at ho
 obtain⟨_,_,h2,h3,_⟩:=ho
 simp[bB,fB,lX,h2,h3]
theorem aKy {e:EntD} (ho:aK e=true) (h6:e.kind=6):bB e.prod=true:=by
 obtain⟨k,b,yes,next,off,row,prod⟩:=e
 dsimp only at h6
 subst h6
 unfold aK at ho
 have h1:qK ⟨6,b,yes,next,off,row,prod⟩=(bB prod && decide ((⟨6,b,yes,next,off,row,dA⟩:EntD)=zE 6)):=rfl
 rw[h1] at ho
 simp only[Bool.and_eq_true] at ho
 exact ho.2.1
theorem aHl {w:eV} {pid:Int} {l:List BatD} {x:Int × List BatD} (h:x ∈ eE w pid l):x ∈ w∨x=(pid,l):=by
 unfold eE at h
 split at h
 ·exact List.mem_or_eq_of_mem_set h
 ·rcases List.mem_append.1 h with h|h
  ·exact .inl h
  ·simp at h;exact .inr h
theorem aRn {w:eV} {pid:Int} {x:Int × List BatD} (h:x ∈ cI w pid):x ∈ w:=by
 unfold cI at h
 split at h
 ·exact List.mem_of_mem_eraseIdx h
 ·exact h
theorem aOn {w:eV} {pid:Int} {b:BatD} (hw:∀ x ∈ w,∀ b ∈ x.2,dK b=true∧b.pid=x.1) (h:b ∈ cG w pid):dK b=true∧b.pid=pid:=by
 cases hk:nO w pid with
 | false=>rw[qV hk] at h;cases h
 | true=>exact hw _ (List.mem_of_getElem? (lS hk)) b h
theorem oW {k:Nat} {s t:RefS} {e:EntD} (h:LogI k s) (hs:aZ s e=some t):LogI (k+1) t:=by
 obtain⟨ho,hf,hL⟩:=aO4 hs
 have hnr:=wL s e h.ri h.f.opens
 rw[hs] at hnr
 have how:OkW t.w:=aT4 h.ow hnr
 obtain⟨hwl,hwr⟩:=aT3 h.ow e.b.pid
 obtain⟨hri,hop⟩:=aQz h.ri h.f.opens hwl hwr hs
 have hfo:=aQk h.f hs
 have hsf:=h.ri.sf
 have hbr:=(lI ho).1
 have hfin:=h.f.fin
 refine⟨hfo,hri,how,?_,?_,?_,?_⟩
 ·cases hL with
  | data k0 tx ok hp hw=>rw[hp];exact sO ok
  | cut k0 ge le hp hw=>rw[hp];exact h.may
  | row k0 hp hw=>rw[hp];exact h.may
  | state k0 hp hw=>rw[hp];exact nU h.may (aKy ho k0)
  | wait k0 ok y hp hw=>rw[hp];exact h.may
  | last k0 ok y nx tk hp hw=>rw[hp];exact aFe _ (aG2 _ _ (by simp) tk)
  | drop k0 ok hp hw=>rw[hp];exact nU h.may (aLv ho k0)
 ·cases hL with
  | data k0 tx ok hp hw =>
   rw[hp] at hf ⊢
   have hbb:dK e.b=true:=((mN _ _ _ (by omega)).1 ok |> fun q=>(vQ q.1 q.2).2.2.2)
   intro r hr
   rcases List.mem_append.1 hr with hr|hr
   ·exact h.rok r hr
   ·exact xD hbb ⟨hfin.1,hf⟩ r hr
  | cut k0 ge le hp hw=>rw[hp];exact fun r hr=>h.rok r (List.mem_filter.1 hr).1
  | row k0 hp hw =>
   rw[hp] at hf ⊢
   intro r hr
   rcases List.mem_append.1 hr with hr|hr
   ·exact h.rok r hr
   ·simp at hr
    subst hr
    exact⟨⟨hfin.1,hfin.2⟩,aTs ho k0 _⟩
  | state k0 hp hw=>rw[hp];exact h.rok
  | wait k0 ok y hp hw=>rw[hp];exact h.rok
  | last k0 ok y nx tk hp hw =>
   rw[hp] at hf ⊢
   exact (aG3 _ _ hfin.1 hf (fun b hb=>by
    rcases List.mem_append.1 hb with hb|hb
    ·exact (aOn h.wok hb).1
    ·simp at hb;subst hb;exact vT ho k0) tk h.rok).1
  | drop k0 ok hp hw=>rw[hp];exact h.rok
 ·have hA:∀ x ∈ cI s.w e.b.pid,∀ b ∈ x.2,dK b=true∧b.pid=x.1:=fun x hx=>h.wok x (aRn hx)
  cases hL with
  | data k0 tx ok hp hw=>rw[hw];exact h.wok
  | cut k0 ge le hp hw=>rw[hw];exact h.wok
  | row k0 hp hw=>rw[hw];exact h.wok
  | state k0 hp hw=>rw[hw];exact h.wok
  | wait k0 ok y hp hw =>
   rw[hw]
   intro x hx b hb
   rcases aHl hx with hx|rfl
   ·exact h.wok x hx b hb
   ·rcases List.mem_append.1 hb with hb|hb
    ·exact aOn h.wok hb
    ·simp at hb;subst hb;exact⟨vT ho k0,rfl⟩
  | last k0 ok y nx tk hp hw=>rw[hw];exact hA
  | drop k0 ok hp hw=>rw[hw];exact hA
 ·cases hL with
  | data k0 tx ok hp hw =>
   rw[hp]
   exact aH3 h.gap rfl rfl (by show _+_=_;rw[iL]) (fun i r hr=>aF3 (by omega) (by omega) i r hr)
  | cut k0 ge le hp hw=>rw[hp];exact aVy h.gap ge le
  | row k0 hp hw =>
   rw[hp]
   refine aH3 h.gap rfl rfl rfl (fun i r hr=>?_)
   cases i with
   | zero=>simp at hr;subst hr;simp
   | succ i=>simp at hr
  | state k0 hp hw=>rw[hp];exact⟨h.gap.at_,h.gap.len⟩
  | wait k0 ok y hp hw=>rw[hp];exact h.gap
  | last k0 ok y nx tk hp hw =>
   rw[hp]
   have hg:=aG1 (cG s.w e.b.pid++[e.b]) s.p hfin.1 (by rw[List.length_append];simp;omega) (fun b hb=>by
    rcases List.mem_append.1 hb with hb|hb
    ·exact hwr b hb
    ·simp at hb;subst hb;exact hbr) h.gap
   exact⟨hg.at_,hg.len⟩
  | drop k0 ok hp hw=>rw[hp];exact⟨h.gap.at_,h.gap.len⟩
theorem aBy:LogI 0 ref0 :=
 ⟨aVw,⟨List.Pairwise.nil,(fun r h=>by cases h),(fun r h=>by cases h),by decide⟩,⟨(fun x h=>by cases h),List.nodup_nil,(fun x h=>by cases h),(fun x h=>by cases h)⟩,rfl,(fun r h=>by cases h),(fun x h=>by cases h),⟨(fun i r h=>by simp[ref0,pZ] at h),rfl⟩⟩
theorem wB:∀ (l:List EntD) (k:Nat) (s t:RefS),LogI k s→eL s l=some t→LogI (k+l.length) t
 | [],k,s,t,h,hl=>by cases hl;exact h
 | e::l,k,s,t,h,hl=>by
  have e1:eL s (e::l)=match aZ s e with|none=>none|some t=>eL t l:=rfl
  rw[e1] at hl
  cases hs:aZ s e with
  | none=>rw[hs] at hl;cases hl
  | some u =>
   rw[hs] at hl
   have:=wB l (k+1) u t (oW h hs) hl
   rw[List.length_cons,show k+(l.length+1)=k+1+l.length by omega]
   exact this
/-! how many were decided -/
theorem yS:∀ (a b:List BatD),cY (a++b)=cY a+cY b
 | [],b=>by simp[cY]
 | x::a,b=>by simp only[List.cons_append,cY,yS a b];omega
theorem aL7:∀ (w:eV) (i:Nat) (x y:Int × List BatD),w[i]? = some x→oH (w.set i y)+cY x.2=oH w+cY y.2
 | [],i,x,y,h=>by simp at h
 | z::w,0,x,y,h=>by
  simp at h;subst h
  simp[oH];omega
 | z::w,i+1,x,y,h=>by
  have:=aL7 w i x y (by simpa using h)
  simp only[oH,List.set_cons_succ,List.map_cons,List.sum_cons] at this ⊢
  omega
theorem aDj:∀ (w:eV) (i:Nat) (x:Int × List BatD),w[i]? = some x→oH (w.eraseIdx i)+cY x.2=oH w
 | [],i,x,h=>by simp at h
 | z::w,0,x,h=>by
  simp at h;subst h
  simp[oH];omega
 | z::w,i+1,x,h=>by
  have:=aDj w i x (by simpa using h)
  simp only[oH,List.eraseIdx_cons_succ,List.map_cons,List.sum_cons] at this ⊢
  omega
theorem aUz (w:eV) (pid:Int) (l:List BatD):oH (eE w pid l)+cY (cG w pid)=oH w+cY l:=by
 unfold eE
 cases h:nO w pid with
 | true=>rw[if_pos rfl];exact aL7 w _ _ _ (lS h)
 | false=>rw[if_neg Bool.false_ne_true,qV h];simp[oH,cY]
theorem aRe (w:eV) (pid:Int):oH (cI w pid)+cY (cG w pid)=oH w:=by
 unfold cI
 cases h:nO w pid with
 | true=>rw[if_pos rfl];exact aDj w _ _ (lS h)
 | false=>rw[if_neg Bool.false_ne_true,qV h];simp[cY]
theorem yU:∀ (l:List BatD) (p:PartD),(aF p l).1=true→(aF p l).2.fin=p.fin+(cY l:Nat)
 | [],p,_=>by simp[aF,cY]
 | b::l,p,h=>by
  have e:aF p (b::l)=if (aJ p.prods b (-1)).2≠0 then (false,p) else aF (gZ p b) l:=rfl
  rw[e] at h ⊢
  by_cases hz:(aJ p.prods b (-1)).2≠0
  ·rw[if_pos hz] at h;cases h
  rw[if_neg hz] at h ⊢
  rw[yU l _ h]
  simp only[cY]
  show p.fin+_+_=_
  omega
def aVo (w:eV) (e:EntD):Int :=
 if e.kind=5 then 1 else if e.kind=0 then (e.b.recs.length:Int) else if e.kind=3 then (e.b.recs.length:Int) else if e.kind=4 then - (cY (cG w e.b.pid):Nat) else 0
theorem aRw {s t:RefS} {e:EntD} (hs:aZ s e=some t):t.p.fin+(oH t.w:Nat)=s.p.fin+(oH s.w:Nat)+aVo s.w e:=by
 obtain⟨ho,hf,hL⟩:=aO4 hs
 have h1:=aUz s.w e.b.pid (cG s.w e.b.pid++[e.b])
 have h2:=aRe s.w e.b.pid
 have h3:cY (cG s.w e.b.pid++[e.b])=cY (cG s.w e.b.pid)+e.b.recs.length:=by rw[yS];simp[cY]
 unfold aVo
 cases hL with
 | data k0 tx ok hp hw=>rw[hp,hw,if_neg (by omega),if_pos k0];dsimp only;omega
 | cut k0 ge le hp hw=>rw[hp,hw,if_neg (by omega),if_neg (by omega),if_neg (by omega),if_neg (by omega)];dsimp only;omega
 | row k0 hp hw=>rw[hp,hw,if_pos k0];dsimp only;omega
 | state k0 hp hw=>rw[hp,hw,if_neg (by omega),if_neg (by omega),if_neg (by omega),if_neg (by omega)];dsimp only;omega
 | wait k0 ok y hp hw=>rw[hp,hw,if_neg (by omega),if_neg (by omega),if_pos k0];omega
 | last k0 ok y nx tk hp hw =>
  have h4:=yU _ _ tk
  rw[hp,hw,if_neg (by omega),if_neg (by omega),if_pos k0]
  dsimp only
  omega
 | drop k0 ok hp hw =>
  rw[hp,hw,if_neg (by omega),if_neg (by omega),if_neg (by omega),if_pos k0]
  show s.p.fin+_=_
  omega
theorem aH8:∀ (l:List EntD) (s t:RefS),eL s l=some t→t.p.fin+(oH t.w:Nat)≤s.p.fin+(oH s.w:Nat)+4*(l.length:Int)
 | [],s,t,hl=>by cases hl;simp
 | e::l,s,t,hl=>by
  have e1:eL s (e::l)=match aZ s e with|none=>none|some t=>eL t l:=rfl
  rw[e1] at hl
  cases hs:aZ s e with
  | none=>rw[hs] at hl;cases hl
  | some u =>
   rw[hs] at hl
   have h1:=aH8 l u t hl
   have h2:=aRw hs
   have h3:=(lI (aO4 hs).1).1
   have h4:aVo s.w e≤4:=by unfold aVo;split;omega;split;omega;split;omega;split<;>omega
   rw[List.length_cons]
   omega
end Go.Proofs.YtpklhnpchhaccaaGreatDoor
