/- The buffer's log in plain words: what holds behind it. -/
import Derived.Test.YtpklhnpchhaccaaGreatDoorBfMd
import Derived.Test.YtpklhnpchhaccaaGreatDoorPlM
namespace Go.Proofs.YtpklhnpchhaccaaGreatDoor
open Go Go.RowKit
set_option maxHeartbeats 4000000
set_option maxRecDepth 100000
set_option linter.unusedVariables false
set_option linter.unusedSimpArgs false
theorem aO5 (w:eE) (pid:Int) (l:List BatD):cU (gG w pid l) pid=cU w pid:=by
 rw[zX]
 unfold lO cU
 cases h:lL w pid with
 | true=>rw[if_pos rfl,if_pos rfl]
 | false=>rw[if_neg Bool.false_ne_true,if_neg Bool.false_ne_true,sW h,List.eraseIdx_append_of_length_le (Nat.le_refl _),Nat.sub_self];simp
inductive LStep (s:RefS) (e:EntD) (t:RefS):Prop
 | data (k:e.kind=0) (tx:e.b.txn=false) (ok:(aG s.p.prods e.b s.p.fin).2=0) (hp:t.p = { s.p with prods:=(aG s.p.prods e.b s.p.fin).1,rows:=s.p.rows++cS e.b s.p.fin,fin:=s.p.fin+(e.b.recs.length:Int) }) (hw:t.w=s.w):LStep s e t
 | cut (k:e.kind=2) (ge:s.p.start≤e.off) (le:e.off≤s.p.fin) (hp:t.p = { s.p with start:=e.off,rows:=jJ (nJ e.off) s.p.rows }) (hw:t.w=s.w):LStep s e t
 | row (k:e.kind=5) (hp:t.p = { s.p with rows:=s.p.rows++[{ e.row with off:=s.p.fin }],fin:=s.p.fin+1 }) (hw:t.w=s.w):LStep s e t
 | state (k:e.kind=6) (hp:t.p = { s.p with prods:=dV s.p.prods e.prod }) (hw:t.w=s.w):LStep s e t
 | wait (k:e.kind=3) (ok:kA (dG s.w e.b.pid) e.b=false) (y:e.yes=false) (hp:t.p=s.p) (hw:t.w=gG s.w e.b.pid (dG s.w e.b.pid++[e.b])):LStep s e t
 | last (k:e.kind=3) (ok:kA (dG s.w e.b.pid) e.b=false) (y:e.yes=true) (nx:e.next=eB e.b) (tk:(aF s.p (dG s.w e.b.pid++[e.b])).1=true)
   (hp:t.p = { (aF s.p (dG s.w e.b.pid++[e.b])).2 with prods:=eP (aF s.p (dG s.w e.b.pid++[e.b])).2.prods e.b.pid }) (hw:t.w=cU s.w e.b.pid):LStep s e t
 | drop (k:e.kind=4) (ok:iP s.p e=false) (hp:t.p=uW s.p e) (hw:t.w=cU s.w e.b.pid):LStep s e t
theorem aRn {s t:RefS} {e:EntD} (h:bF s e=some t):aL e=true∧t.p.fin≤1048576∧LStep s e t:=by
 unfold bF at h
 split at h
 ·cases h
 rename_i h0
 have hm:aL e=true:=by simpa using h0
 split at h
 ·cases h
 rename_i h1
 have h1:(iW s e).1=true:=by simpa using h1
 split at h
 ·cases h
 rename_i h2
 have h3:(iW s e).2=t:=Option.some.inj h
 rw[h3] at h2
 refine⟨hm,by omega,?_⟩
 unfold iW at h1 h3
 by_cases k0:e.kind=0
 ·rw[if_pos k0] at h1 h3
  cases hp:jA s.p e.b with
  | none=>rw[hp] at h1;cases h1
  | some q =>
   rw[hp] at h3
   unfold jA at hp
   split at hp
   ·cases hp
   rename_i hc
   have hq:=Option.some.inj hp
   have htx:e.b.txn=false:=by
    cases ht:e.b.txn with
    | false=>rfl
    | true=>exact absurd (.inr (.inl ht)) hc
   have hok:(aG s.p.prods e.b s.p.fin).2=0:=Decidable.byContradiction (fun hx=>hc (.inr (.inr hx)))
   exact .data k0 htx hok (by rw[← h3,← hq]) (by rw[← h3])
 rw[if_neg k0] at h1 h3
 by_cases k3:e.kind=3
 ·rw[if_pos k3] at h1 h3
  unfold lA at h1 h3
  by_cases c1:kA (dG s.w e.b.pid) e.b=true
  ·rw[if_pos c1] at h1;cases h1
  rw[if_neg c1] at h1 h3
  have c1:kA (dG s.w e.b.pid) e.b=false:=by simpa using c1
  by_cases c2:e.yes=false
  ·rw[if_pos c2] at h3
   exact .wait k3 c1 c2 (by rw[← h3]) (by rw[← h3,zN])
  rw[if_neg c2] at h1 h3
  by_cases c3:e.next≠eB e.b
  ·rw[if_pos c3] at h1;cases h1
  rw[if_neg c3] at h1 h3
  by_cases c4:(aF s.p (dG s.w e.b.pid++[e.b])).1=false
  ·rw[if_pos c4] at h1;cases h1
  rw[if_neg c4] at h3
  have c4:(aF s.p (dG s.w e.b.pid++[e.b])).1=true:=by simpa using c4
  exact .last k3 c1 (by simpa using c2) (by simpa using c3) c4 (by rw[← h3,← yT e.b.pid c4]) (by rw[← h3,← aO5 _ _ [],zX])
 rw[if_neg k3] at h1 h3
 by_cases k4:e.kind=4
 ·rw[if_pos k4] at h1 h3
  unfold kI at h1 h3
  by_cases c1:iP s.p e=true
  ·rw[if_pos c1] at h1;cases h1
  rw[if_neg c1] at h3
  exact .drop k4 (by simpa using c1) (by rw[← h3]) (by rw[← h3,← aHh])
 rw[if_neg k4] at h1 h3
 cases hp:kF s.p e with
 | none=>rw[hp] at h1;cases h1
 | some q =>
  rw[hp] at h3
  unfold kF at hp
  by_cases k2:e.kind=2
  ·rw[if_pos k2] at hp
   split at hp
   ·cases hp
   rename_i hc
   have hq:=Option.some.inj hp
   exact .cut k2 (by omega) (by omega) (by rw[← h3,← hq]) (by rw[← h3])
  rw[if_neg k2] at hp
  by_cases k5:e.kind=5
  ·rw[if_pos k5] at hp
   have hq:=Option.some.inj hp
   exact .row k5 (by rw[← h3,← hq]) (by rw[← h3])
  rw[if_neg k5] at hp
  by_cases k6:e.kind=6
  ·rw[if_pos k6] at hp
   split at hp
   ·cases hp
   have hq:=Option.some.inj hp
   exact .state k6 (by rw[← h3,← hq]) (by rw[← h3])
  ·rw[if_neg k6] at hp;cases hp
def qI (w:eE):Nat:=(w.map fun x=>hJ x.2).sum
structure GapI (p:PartD):Prop where
 at_:∀ (i:Nat) (r:RowD),p.rows[i]? = some r→r.off=p.start+(i:Int)
 len:(p.rows.length:Int)=p.fin - p.start
structure LogI (k:Nat) (s:RefS):Prop where
 f:FOk14 k s
 ri:RowsI s.p
 ow:OkW s.w
 may:iQ s.p.prods=true
 rok:∀ r ∈ s.p.rows,(0≤r.off∧r.off≤1048576)∧nF { r with off:=0 }=true
 wok:∀ x ∈ s.w,∀ b ∈ x.2,dQ b=true∧b.pid=x.1
 gap:GapI s.p
theorem aG6 {p q:PartD} {l:List RowD} (h:GapI p) (h1:q.start=p.start) (h2:q.rows=p.rows++l) (h3:q.fin=p.fin+(l.length:Int)) (hl:∀ (i:Nat) (r:RowD),l[i]? = some r→r.off=p.fin+(i:Int)):GapI q:=by
 have hlen:=h.len
 refine⟨fun i r hr=>?_,by rw[h2,h3,h1,List.length_append];omega⟩
 rw[h2] at hr
 rw[h1]
 rcases Nat.lt_or_ge i p.rows.length with hi|hi
 ·rw[List.getElem?_append_left hi] at hr
  exact h.at_ i r hr
 ·rw[List.getElem?_append_right hi] at hr
  have:=hl _ r hr
  omega
theorem aE3 {b:BatD} {n:Int} (hn:0≤n∧n≤2000000) (hb:b.recs.length≤100000) (i:Nat) (r:RowD) (h:(cS b n)[i]? = some r):r.off=n+(i:Int):=by
 unfold cS nX at h
 rw[List.getElem?_map] at h
 cases hg:(List.range b.recs.length)[i]? with
 | none=>rw[hg] at h;cases h
 | some j =>
  rw[hg] at h
  obtain⟨hlt,hge⟩:=List.getElem?_eq_some_iff.1 hg
  rw[List.length_range] at hlt
  rw[List.getElem_range] at hge
  subst hge
  have h:=(Option.some.inj h).symm
  subst h
  exact sQ hn hb hlt
theorem aEx:∀ (l:List BatD) (p:PartD),0≤p.fin→p.fin+4*l.length≤2000000→(∀ b ∈ l,b.recs.length≤4)→GapI p→GapI (aF p l).2
 | [],p,_,_,_,h=>h
 | b::l,p,h0,hm,hb,h=>by
  have hbr:=hb b (List.mem_cons_self ..)
  have e:aF p (b::l)=if (aG p.prods b (-1)).2≠0 then (false,p) else aF (iX p b) l:=rfl
  rw[e]
  rw[List.length_cons] at hm
  split
  ·exact h
  ·refine aEx l (iX p b) (by show 0≤p.fin+_;omega) (by show p.fin+_+_≤_;omega) (fun x hx=>hb x (List.mem_cons_of_mem _ hx)) ?_
   exact aG6 h rfl rfl (by show p.fin+_=_;rw[kV]) (fun i r hr=>aE3 (by omega) (by omega) i r hr)
theorem aIh {α:Type} (f:α→Bool) (l:List α) (n:Nat) (hn:n≤l.length) (h:∀ (i:Nat) (x:α),l[i]? = some x→f x=decide (n≤i)):l.filter f=l.drop n:=by
 conv=>lhs;rw[← List.take_append_drop n l]
 rw[List.filter_append,List.filter_eq_nil_iff.2,List.filter_eq_self.2,List.nil_append]
 ·intro x hx
  obtain⟨i,hi⟩:=List.mem_iff_getElem?.1 hx
  rw[List.getElem?_drop] at hi
  rw[h _ _ hi]
  simp
 ·intro x hx
  obtain⟨i,hi⟩:=List.mem_iff_getElem?.1 hx
  have hlt:=(List.getElem?_eq_some_iff.1 hi).1
  rw[List.length_take] at hlt
  rw[List.getElem?_take_of_lt (by omega)] at hi
  rw[h _ _ hi]
  simp;omega
theorem aV1 {p:PartD} {off:Int} (h:GapI p) (h1:p.start≤off) (h2:off≤p.fin):GapI { p with start:=off,rows:=jJ (nJ off) p.rows }:=by
 have hlen:=h.len
 have hk:jJ (nJ off) p.rows=p.rows.drop (off - p.start).toNat:=by
  refine aIh _ p.rows (off - p.start).toNat (by omega) (fun i r hr=>?_)
  have:=h.at_ i r hr
  unfold nJ
  rw[Bool.eq_iff_iff]
  simp
  omega
 refine⟨fun i r hr=>?_,?_⟩
 ·rw[hk] at hr
  rw[List.getElem?_drop] at hr
  have:=h.at_ _ r hr
  show r.off=off+(i:Int)
  omega
 ·rw[hk]
  show ((p.rows.drop _).length:Int)=p.fin - off
  rw[List.length_drop]
  omega
theorem aEz:∀ (l:List BatD) (p:PartD),0≤p.fin→(aF p l).2.fin≤1048576→(∀ b ∈ l,dQ b=true)→(aF p l).1=true→(∀ r ∈ p.rows,(0≤r.off∧r.off≤1048576)∧nF { r with off:=0 }=true) →
  (∀ r ∈ (aF p l).2.rows,(0≤r.off∧r.off≤1048576)∧nF { r with off:=0 }=true)∧p.fin≤(aF p l).2.fin
 | [],p,_,_,_,_,h=>⟨h,Int.le_refl _⟩
 | b::l,p,h0,hm,hb,ht,h=>by
  have hbr:=hb b (List.mem_cons_self ..)
  have e:aF p (b::l)=if (aG p.prods b (-1)).2≠0 then (false,p) else aF (iX p b) l:=rfl
  rw[e] at ht hm ⊢
  by_cases hz:(aG p.prods b (-1)).2≠0
  ·rw[if_pos hz] at ht;cases ht
  rw[if_neg hz] at ht hm ⊢
  have hmono:∀ (l:List BatD) (p:PartD),p.fin≤(aF p l).2.fin:=by
   intro l
   induction l with
   | nil=>intro p;exact Int.le_refl _
   | cons b l ih =>
    intro p
    have e:aF p (b::l)=if (aG p.prods b (-1)).2≠0 then (false,p) else aF (iX p b) l:=rfl
    rw[e]
    split
    ·exact Int.le_refl _
    ·have:=ih (iX p b)
     have e2:(iX p b).fin=p.fin+(b.recs.length:Int):=rfl
     omega
  have hm2:=hmono l (iX p b)
  have e2:(iX p b).fin=p.fin+(b.recs.length:Int):=rfl
  obtain⟨q1,q2⟩:=aEz l (iX p b) (by omega) hm (fun x hx=>hb x (List.mem_cons_of_mem _ hx)) ht (fun r hr=>by
   rcases List.mem_append.1 hr with hr|hr
   ·exact h r hr
   ·exact vY hbr (by omega) r hr)
  exact⟨q1,by omega⟩
theorem aSs {e:EntD} (ho:aL e=true) (h5:e.kind=5) (n:Int):nF { ({ e.row with off:=n }:RowD) with off:=0 }=true:=by
 simp only[aL,Bool.and_eq_true,decide_eq_true_eq] at ho
 have hm2:=ho.2
 unfold nB at hm2
 rw[if_neg (by omega),if_neg (by omega),if_neg (by omega),if_neg (by omega),if_neg (by omega),if_pos h5,Bool.and_eq_true] at hm2
 have h7:=hm2.1
 simp only[nF,Bool.and_eq_true,beq_iff_eq] at h7 ⊢
 exact⟨⟨⟨⟨⟨by trivial,h7.1.1.1.1.2⟩,h7.1.1.1.2⟩,h7.1.1.2⟩,h7.1.2⟩,h7.2⟩
theorem aEy:∀ (l:List BatD) (p:PartD),l≠[]→(aF p l).1=true→iQ (aF p l).2.prods=true
 | [],p,h,_=>absurd rfl h
 | b::l,p,_,h=>by
  have e:aF p (b::l)=if (aG p.prods b (-1)).2≠0 then (false,p) else aF (iX p b) l:=rfl
  rw[e] at h ⊢
  by_cases hz:(aG p.prods b (-1)).2≠0
  ·rw[if_pos hz] at h;cases h
  rw[if_neg hz] at h ⊢
  have h1:iQ (iX p b).prods=true:=rY (by simpa using hz)
  cases l with
  | nil=>exact h1
  | cons c l=>exact aEy (c::l) (iX p b) (by simp) h
theorem aKu {e:EntD} (ho:aL e=true) (h4:e.kind=4):bC ⟨e.b.pid,e.b.epoch,e.next,[]⟩=true:=by
 obtain⟨k,b,yes,next,off,row,prod⟩:=e
 dsimp only at h4
 subst h4
 unfold aL at ho
 have h1:nB ⟨4,b,yes,next,off,row,prod⟩=(!yes && (cC next 0 1048576 && (dN b.pid b.epoch && decide ((⟨4,⟨0,0,b.seq,b.txn,b.recs⟩,false,0,off,row,prod⟩:EntD)=zE 4)))):=rfl
 rw[h1] at ho
 simp only[Bool.and_eq_true] at ho
 obtain⟨_,_,h2,h3,_⟩:=ho
 simp[bC,cW,jR,h2,h3]
theorem aJx {e:EntD} (ho:aL e=true) (h6:e.kind=6):bC e.prod=true:=by
 obtain⟨k,b,yes,next,off,row,prod⟩:=e
 dsimp only at h6
 subst h6
 unfold aL at ho
 have h1:nB ⟨6,b,yes,next,off,row,prod⟩=(bC prod && decide ((⟨6,b,yes,next,off,row,dF⟩:EntD)=zE 6)):=rfl
 rw[h1] at ho
 simp only[Bool.and_eq_true] at ho
 exact ho.2.1
theorem aW1 {w:eE} {pid:Int} {l:List BatD} {x:Int × List BatD} (h:x ∈ gG w pid l):x ∈ w∨x=(pid,l):=by
 unfold gG at h
 split at h
 ·exact List.mem_or_eq_of_mem_set h
 ·rcases List.mem_append.1 h with h|h
  ·exact .inl h
  ·simp at h;exact .inr h
theorem aQt {w:eE} {pid:Int} {x:Int × List BatD} (h:x ∈ cU w pid):x ∈ w:=by
 unfold cU at h
 split at h
 ·exact List.mem_of_mem_eraseIdx h
 ·exact h
theorem aNo {w:eE} {pid:Int} {b:BatD} (hw:∀ x ∈ w,∀ b ∈ x.2,dQ b=true∧b.pid=x.1) (h:b ∈ dG w pid):dQ b=true∧b.pid=pid:=by
 cases hk:lL w pid with
 | false=>rw[sA hk] at h;cases h
 | true=>exact hw _ (List.mem_of_getElem? (oF hk)) b h
theorem aEa {k:Nat} {s t:RefS} {e:EntD} (h:LogI k s) (hs:bF s e=some t):LogI (k+1) t:=by
 obtain⟨ho,hf,hL⟩:=aRn hs
 have hnr:=vJ s e h.ri h.f.opens
 rw[hs] at hnr
 have how:OkW t.w:=aS5 h.ow hnr
 obtain⟨hwl,hwr⟩:=aS4 h.ow e.b.pid
 obtain⟨hri,hop⟩:=aQ3 h.ri h.f.opens hwl hwr hs
 have hfo:=aEf h.f hs
 have hsf:=h.ri.sf
 have hbr:=(jZ ho).1
 have hfin:=h.f.fin
 refine⟨hfo,hri,how,?_,?_,?_,?_⟩
 ·cases hL with
  | data k0 tx ok hp hw=>rw[hp];exact rY ok
  | cut k0 ge le hp hw=>rw[hp];exact h.may
  | row k0 hp hw=>rw[hp];exact h.may
  | state k0 hp hw=>rw[hp];exact pX h.may (aJx ho k0)
  | wait k0 ok y hp hw=>rw[hp];exact h.may
  | last k0 ok y nx tk hp hw=>rw[hp];exact aEb _ (aEy _ _ (by simp) tk)
  | drop k0 ok hp hw=>rw[hp];exact pX h.may (aKu ho k0)
 ·cases hL with
  | data k0 tx ok hp hw =>
   rw[hp] at hf ⊢
   have hbb:dQ e.b=true:=((mP _ _ _ (by omega)).1 ok |> fun q=>(uU q.1 q.2).2.2.2)
   intro r hr
   rcases List.mem_append.1 hr with hr|hr
   ·exact h.rok r hr
   ·exact vY hbb ⟨hfin.1,hf⟩ r hr
  | cut k0 ge le hp hw=>rw[hp];exact fun r hr=>h.rok r (List.mem_filter.1 hr).1
  | row k0 hp hw =>
   rw[hp] at hf ⊢
   intro r hr
   rcases List.mem_append.1 hr with hr|hr
   ·exact h.rok r hr
   ·simp at hr
    subst hr
    exact⟨⟨hfin.1,hfin.2⟩,aSs ho k0 _⟩
  | state k0 hp hw=>rw[hp];exact h.rok
  | wait k0 ok y hp hw=>rw[hp];exact h.rok
  | last k0 ok y nx tk hp hw =>
   rw[hp] at hf ⊢
   exact (aEz _ _ hfin.1 hf (fun b hb=>by
    rcases List.mem_append.1 hb with hb|hb
    ·exact (aNo h.wok hb).1
    ·simp at hb;subst hb;exact uV ho k0) tk h.rok).1
  | drop k0 ok hp hw=>rw[hp];exact h.rok
 ·have hA:∀ x ∈ cU s.w e.b.pid,∀ b ∈ x.2,dQ b=true∧b.pid=x.1:=fun x hx=>h.wok x (aQt hx)
  cases hL with
  | data k0 tx ok hp hw=>rw[hw];exact h.wok
  | cut k0 ge le hp hw=>rw[hw];exact h.wok
  | row k0 hp hw=>rw[hw];exact h.wok
  | state k0 hp hw=>rw[hw];exact h.wok
  | wait k0 ok y hp hw =>
   rw[hw]
   intro x hx b hb
   rcases aW1 hx with hx|rfl
   ·exact h.wok x hx b hb
   ·rcases List.mem_append.1 hb with hb|hb
    ·exact aNo h.wok hb
    ·simp at hb;subst hb;exact⟨uV ho k0,rfl⟩
  | last k0 ok y nx tk hp hw=>rw[hw];exact hA
  | drop k0 ok hp hw=>rw[hw];exact hA
 ·cases hL with
  | data k0 tx ok hp hw =>
   rw[hp]
   exact aG6 h.gap rfl rfl (by show _+_=_;rw[kV]) (fun i r hr=>aE3 (by omega) (by omega) i r hr)
  | cut k0 ge le hp hw=>rw[hp];exact aV1 h.gap ge le
  | row k0 hp hw =>
   rw[hp]
   refine aG6 h.gap rfl rfl rfl (fun i r hr=>?_)
   cases i with
   | zero=>simp at hr;subst hr;simp
   | succ i=>simp at hr
  | state k0 hp hw=>rw[hp];exact⟨h.gap.at_,h.gap.len⟩
  | wait k0 ok y hp hw=>rw[hp];exact h.gap
  | last k0 ok y nx tk hp hw =>
   rw[hp]
   have hg:=aEx (dG s.w e.b.pid++[e.b]) s.p hfin.1 (by rw[List.length_append];simp;omega) (fun b hb=>by
    rcases List.mem_append.1 hb with hb|hb
    ·exact hwr b hb
    ·simp at hb;subst hb;exact hbr) h.gap
   exact⟨hg.at_,hg.len⟩
  | drop k0 ok hp hw=>rw[hp];exact⟨h.gap.at_,h.gap.len⟩
theorem aL8:LogI 0 ref0 :=
 ⟨aMz,⟨List.Pairwise.nil,(fun r h=>by cases h),(fun r h=>by cases h),by decide⟩,⟨(fun x h=>by cases h),List.nodup_nil,(fun x h=>by cases h),(fun x h=>by cases h)⟩,rfl,(fun r h=>by cases h),(fun x h=>by cases h),⟨(fun i r h=>by simp[ref0,pZ] at h),rfl⟩⟩
theorem aAu:∀ (l:List EntD) (k:Nat) (s t:RefS),LogI k s→eG s l=some t→LogI (k+l.length) t
 | [],k,s,t,h,hl=>by cases hl;exact h
 | e::l,k,s,t,h,hl=>by
  have e1:eG s (e::l)=match bF s e with|none=>none|some t=>eG t l:=rfl
  rw[e1] at hl
  cases hs:bF s e with
  | none=>rw[hs] at hl;cases hl
  | some u =>
   rw[hs] at hl
   have:=aAu l (k+1) u t (aEa h hs) hl
   rw[List.length_cons,show k+(l.length+1)=k+1+l.length by omega]
   exact this
/-! how many were decided -/
theorem aEv:∀ (a b:List BatD),hJ (a++b)=hJ a+hJ b
 | [],b=>by simp[hJ]
 | x::a,b=>by simp only[List.cons_append,hJ,aEv a b];omega
theorem aK7:∀ (w:eE) (i:Nat) (x y:Int × List BatD),w[i]? = some x→qI (w.set i y)+hJ x.2=qI w+hJ y.2
 | [],i,x,y,h=>by simp at h
 | z::w,0,x,y,h=>by
  simp at h;subst h
  simp[qI];omega
 | z::w,i+1,x,y,h=>by
  have:=aK7 w i x y (by simpa using h)
  simp only[qI,List.set_cons_succ,List.map_cons,List.sum_cons] at this ⊢
  omega
theorem aCj:∀ (w:eE) (i:Nat) (x:Int × List BatD),w[i]? = some x→qI (w.eraseIdx i)+hJ x.2=qI w
 | [],i,x,h=>by simp at h
 | z::w,0,x,h=>by
  simp at h;subst h
  simp[qI];omega
 | z::w,i+1,x,h=>by
  have:=aCj w i x (by simpa using h)
  simp only[qI,List.eraseIdx_cons_succ,List.map_cons,List.sum_cons] at this ⊢
  omega
theorem aTy (w:eE) (pid:Int) (l:List BatD):qI (gG w pid l)+hJ (dG w pid)=qI w+hJ l:=by
 unfold gG
 cases h:lL w pid with
 | true=>rw[if_pos rfl];exact aK7 w _ _ _ (oF h)
 | false=>rw[if_neg Bool.false_ne_true,sA h];simp[qI,hJ]
theorem aQk (w:eE) (pid:Int):qI (cU w pid)+hJ (dG w pid)=qI w:=by
 unfold cU
 cases h:lL w pid with
 | true=>rw[if_pos rfl];exact aCj w _ _ (oF h)
 | false=>rw[if_neg Bool.false_ne_true,sA h];simp[hJ]
theorem aEw:∀ (l:List BatD) (p:PartD),(aF p l).1=true→(aF p l).2.fin=p.fin+(hJ l:Nat)
 | [],p,_=>by simp[aF,hJ]
 | b::l,p,h=>by
  have e:aF p (b::l)=if (aG p.prods b (-1)).2≠0 then (false,p) else aF (iX p b) l:=rfl
  rw[e] at h ⊢
  by_cases hz:(aG p.prods b (-1)).2≠0
  ·rw[if_pos hz] at h;cases h
  rw[if_neg hz] at h ⊢
  rw[aEw l _ h]
  simp only[hJ]
  show p.fin+_+_=_
  omega
def aUr (w:eE) (e:EntD):Int :=
 if e.kind=5 then 1 else if e.kind=0 then (e.b.recs.length:Int) else if e.kind=3 then (e.b.recs.length:Int) else if e.kind=4 then - (hJ (dG w e.b.pid):Nat) else 0
theorem aR2 {s t:RefS} {e:EntD} (hs:bF s e=some t):t.p.fin+(qI t.w:Nat)=s.p.fin+(qI s.w:Nat)+aUr s.w e:=by
 obtain⟨ho,hf,hL⟩:=aRn hs
 have h1:=aTy s.w e.b.pid (dG s.w e.b.pid++[e.b])
 have h2:=aQk s.w e.b.pid
 have h3:hJ (dG s.w e.b.pid++[e.b])=hJ (dG s.w e.b.pid)+e.b.recs.length:=by rw[aEv];simp[hJ]
 unfold aUr
 cases hL with
 | data k0 tx ok hp hw=>rw[hp,hw,if_neg (by omega),if_pos k0];dsimp only;omega
 | cut k0 ge le hp hw=>rw[hp,hw,if_neg (by omega),if_neg (by omega),if_neg (by omega),if_neg (by omega)];dsimp only;omega
 | row k0 hp hw=>rw[hp,hw,if_pos k0];dsimp only;omega
 | state k0 hp hw=>rw[hp,hw,if_neg (by omega),if_neg (by omega),if_neg (by omega),if_neg (by omega)];dsimp only;omega
 | wait k0 ok y hp hw=>rw[hp,hw,if_neg (by omega),if_neg (by omega),if_pos k0];omega
 | last k0 ok y nx tk hp hw =>
  have h4:=aEw _ _ tk
  rw[hp,hw,if_neg (by omega),if_neg (by omega),if_pos k0]
  dsimp only
  omega
 | drop k0 ok hp hw =>
  rw[hp,hw,if_neg (by omega),if_neg (by omega),if_neg (by omega),if_pos k0]
  show s.p.fin+_=_
  omega
theorem aN5:∀ (l:List EntD) (s t:RefS),eG s l=some t→t.p.fin+(qI t.w:Nat)≤s.p.fin+(qI s.w:Nat)+4*(l.length:Int)
 | [],s,t,hl=>by cases hl;simp
 | e::l,s,t,hl=>by
  have e1:eG s (e::l)=match bF s e with|none=>none|some t=>eG t l:=rfl
  rw[e1] at hl
  cases hs:bF s e with
  | none=>rw[hs] at hl;cases hl
  | some u =>
   rw[hs] at hl
   have h1:=aN5 l u t hl
   have h2:=aR2 hs
   have h3:=(jZ (aRn hs).1).1
   have h4:aUr s.w e≤4:=by unfold aUr;split;omega;split;omega;split;omega;split<;>omega
   rw[List.length_cons]
   omega
end Go.Proofs.YtpklhnpchhaccaaGreatDoor
