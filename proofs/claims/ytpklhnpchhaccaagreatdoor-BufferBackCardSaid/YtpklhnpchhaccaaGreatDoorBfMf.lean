/- The abstract machine (BfV, BfW, BfX, BfWk). -/
import Derived.Test.YtpklhnpchhaccaaGreatDoorBfT
import Derived.Test.YtpklhnpchhaccaaGreatDoorInMd
import Derived.Test.YtpklhnpchhaccaaGreatDoorCpMc
import Derived.Test.YtpklhnpchhaccaaGreatDoorBfMh
import Derived.Test.YtpklhnpchhaccaaGreatDoorRhMb
namespace Go.Proofs.YtpklhnpchhaccaaGreatDoor
open Go Go.RowKit
set_option maxHeartbeats 4000000
set_option maxRecDepth 100000
set_option linter.unusedVariables false
set_option linter.unusedSimpArgs false
def tW (pid:Int) (acc:List BatD) (e:EntD):List BatD:=if e.b.pid≠pid then acc else if e.kind=3 then (if e.yes=true then [] else acc++[e.b]) else if e.kind=4 then [] else acc
def nJ (l:List EntD) (pid:Int):List BatD:=l.foldl (tW pid) []
theorem aUo {w:eV} (hn:(w.map (·.1)).Nodup) (p pid:Int):cG (cI w p) pid=if pid=p then [] else cG w pid:=by
 rw[rQ hn]
 by_cases h:pid=p
 ·rw[if_pos h]
  refine aI0 (fun y hy e=>?_)
  have:=(List.mem_filter.1 hy).2
  simp at this
  omega
 ·rw[if_neg h]
  exact vC hn (fun y hy=>by simp;omega)
theorem aOo {w:eV} (hn:(w.map (·.1)).Nodup) (p pid:Int) (l:List BatD) (hn2:((eE w p l).map (·.1)).Nodup):cG (eE w p l) pid=if pid=p then l else cG w pid:=by
 have hin:∀ y ∈ w,y.1≠p→y ∈ eE w p l:=fun y hy hne=>by
  unfold eE
  cases h:nO w p with
  | false=>rw[if_neg Bool.false_ne_true];exact List.mem_append.2 (.inl hy)
  | true =>
   rw[if_pos rfl]
   obtain⟨i,hi⟩:=List.mem_iff_getElem?.1 hy
   refine List.mem_iff_getElem?.2 ⟨i,?_⟩
   rw[List.getElem?_set]
   split
   ·rename_i e
    subst e
    rw[lS h] at hi
    cases hi
    exact absurd rfl hne
   ·exact hi
 have hp:(p,l) ∈ eE w p l:=by
  unfold eE
  cases h:nO w p with
  | false=>rw[if_neg Bool.false_ne_true];simp
  | true =>
   rw[if_pos rfl]
   exact List.mem_set (of_decide_eq_true h) _
 by_cases h:pid=p
 ·subst h
  rw[if_pos rfl]
  exact aDg hn2 hp
 ·rw[if_neg h]
  cases hk:nO w pid with
  | true=>exact aDg hn2 (hin _ (List.mem_of_getElem? (lS hk)) h)
  | false =>
   rw[qV hk]
   refine aI0 (fun y hy e=>?_)
   rcases aHl hy with hy|rfl
   ·exact kV hk (List.mem_map.2 ⟨y,hy,e⟩)
   ·exact h e.symm
theorem aRd {k:Nat} {s t:RefS} {e:EntD} (h:LogI k s) (hs:aZ s e=some t) (pid:Int):cG t.w pid=tW pid (cG s.w pid) e:=by
 have hI:=oW h hs
 have hn2:=hI.ow.nd
 obtain⟨ho,hf,hL⟩:=aO4 hs
 have hA:=aUo h.ow.nd e.b.pid pid
 unfold tW
 cases hL with
 | data k0 tx ok hp hw=>rw[hw,if_neg (show ¬ e.kind=3 by omega),if_neg (show ¬ e.kind=4 by omega),ite_self]
 | cut k0 ge le hp hw=>rw[hw,if_neg (show ¬ e.kind=3 by omega),if_neg (show ¬ e.kind=4 by omega),ite_self]
 | row k0 hp hw=>rw[hw,if_neg (show ¬ e.kind=3 by omega),if_neg (show ¬ e.kind=4 by omega),ite_self]
 | state k0 hp hw=>rw[hw,if_neg (show ¬ e.kind=3 by omega),if_neg (show ¬ e.kind=4 by omega),ite_self]
 | wait k0 ok y hp hw =>
  rw[hw] at hn2 ⊢
  rw[aOo h.ow.nd _ _ _ hn2,if_pos k0,y,if_neg Bool.false_ne_true]
  by_cases e1:pid=e.b.pid
  ·rw[if_pos e1,if_neg (show ¬ (e.b.pid≠pid) by omega),e1]
  ·rw[if_neg e1,if_pos (show e.b.pid≠pid by omega)]
 | last k0 ok y nx tk hp hw =>
  rw[hw,hA,if_pos k0,y,if_pos rfl]
  by_cases e1:pid=e.b.pid
  ·rw[if_pos e1,if_neg (show ¬ (e.b.pid≠pid) by omega)]
  ·rw[if_neg e1,if_pos (show e.b.pid≠pid by omega)]
 | drop k0 ok hp hw =>
  rw[hw,hA,if_neg (show ¬ e.kind=3 by omega),if_pos k0]
  by_cases e1:pid=e.b.pid
  ·rw[if_pos e1,if_neg (show ¬ (e.b.pid≠pid) by omega)]
  ·rw[if_neg e1,if_pos (show e.b.pid≠pid by omega)]
theorem aL5:∀ (l:List EntD) (k:Nat) (s t:RefS),LogI k s→eL s l=some t→∀ pid,cG t.w pid=l.foldl (tW pid) (cG s.w pid)
 | [],k,s,t,h,hl,pid=>by cases hl;rfl
 | e::l,k,s,t,h,hl,pid=>by
  have e1:eL s (e::l)=match aZ s e with|none=>none|some t=>eL t l:=rfl
  rw[e1] at hl
  cases hs:aZ s e with
  | none=>rw[hs] at hl;cases hl
  | some u =>
   rw[hs] at hl
   rw[aL5 l (k+1) u t (oW h hs) hl pid,aRd h hs pid];rfl
theorem aUw {l:List EntD} {s:RefS} (h:eL ref0 l=some s) (pid:Int):cG s.w pid=nJ l pid:=aL5 l 0 ref0 s aBy h pid
theorem aPk {s:RefS} {e:EntD} (ho:aK e=true) (k3:e.kind=3) (hy:e.yes=false) (hb:jT (cG s.w e.b.pid) e.b=false) (hf:s.p.fin≤1048576):∃ v,aZ s e=some ⟨s.p,eE s.w e.b.pid (cG s.w e.b.pid++[e.b]),v⟩:=by
 refine⟨aGz s e.b.pid,?_⟩
 have hn:jP s e=(true,⟨s.p,eE s.w e.b.pid (cG s.w e.b.pid++[e.b]),aGz s e.b.pid⟩):=by
  unfold jP lY
  rw[if_neg (by omega),if_pos k3,hb,if_neg Bool.false_ne_true,hy,if_pos rfl,wU]
 unfold aZ
 rw[ho,if_neg (by simp),hn,if_neg (by simp),if_neg (by dsimp only;omega)]
theorem aPj {s:RefS} {e:EntD} (ho:aK e=true) (k3:e.kind=3) (hy:e.yes=true) (hx:e.next=dQ e.b) (hb:jT (cG s.w e.b.pid) e.b=false) (ht:(aF s.p (cG s.w e.b.pid++[e.b])).1=true)
  (hf:(aF s.p (cG s.w e.b.pid++[e.b])).2.fin≤1048576):∃ v,aZ s e=some ⟨{ (aF s.p (cG s.w e.b.pid++[e.b])).2 with prods:=dT (aF s.p (cG s.w e.b.pid++[e.b])).2.prods e.b.pid },cI s.w e.b.pid,v⟩:=by
 refine⟨aGz s e.b.pid+1,?_⟩
 have hn:jP s e=(true,⟨{ (aF s.p (cG s.w e.b.pid++[e.b])).2 with prods:=dT (aF s.p (cG s.w e.b.pid++[e.b])).2.prods e.b.pid },cI s.w e.b.pid,aGz s e.b.pid+1⟩):=by
  unfold jP lY
  rw[if_neg (by omega),if_pos k3,hb,if_neg Bool.false_ne_true,hy,if_neg (by simp),if_neg (fun h=>h hx),if_neg (by rw[ht];simp),sP _ ht,← vG,aEh _ _ []]
 unfold aZ
 rw[ho,if_neg (by simp),hn,if_neg (by simp),if_neg (by dsimp only;omega)]
def iS (b:BatD) (yes:Bool):EntD:=⟨3,b,yes,if yes then dQ b else 0,0,lJ,dA⟩
theorem aCe {b:BatD} (h:dK b=true) (ht:b.txn=true) (yes:Bool):aK (iS b yes)=true:=by
 have hbeh:fS (dQ b) 0 1048576=true:=by
  unfold dK at h
  simp only[Bool.and_eq_true,Bool.not_eq_true',Bool.or_eq_false_iff,decide_eq_false_iff_not,decide_eq_true_eq] at h
  unfold dQ fS
  rw[aT (by omega)]
  simp only[Bool.and_eq_true,decide_eq_true_eq]
  omega
 cases yes<;>simp[aK,qK,iS,h,ht,zE,hbeh]
def vS (bs:List BatD):List EntD:=bs.map (fun b=>iS b false)
def pF (bs:List BatD):Int:=match bs with
 | []=>0
 | b::_=>b.pid
abbrev dD (bs:List BatD):SideD:=⟨pF bs,bs.map dZ⟩
theorem aA1 {x:SideD}:∀ (bs:List BatD) (p:PartD) (qs:List ProdD),bN x p.prods (bs.map dZ)=some qs→(aF p bs).1=true∧∀ b ∈ bs,eU x (dZ b)=false
 | [],p,qs,_=>⟨rfl,fun b hb=>by cases hb⟩
 | b::bs,p,qs,h=>by
  have h:(if eU x (dZ b)=true then none else if (aJ p.prods b (-1)).2≠0 then none else bN x (aJ p.prods b (-1)).1 (bs.map dZ))=some qs:=h
  split at h
  ·cases h
  rename_i h1
  split at h
  ·cases h
  rename_i h2
  obtain⟨q1,q2⟩:=aA1 bs (gZ p b) qs h
  refine⟨?_,fun c hc=>?_⟩
  ·show (if (aJ p.prods b (-1)).2≠0 then (false,p) else aF (gZ p b) bs).1=true
   rw[if_neg h2];exact q1
  ·rcases List.mem_cons.1 hc with rfl|hc
   ·simpa using h1
   ·exact q2 c hc
def eF:Int→List BatD→List RowD
 | _,[]=>[]
 | n,b::l=>cB b n++eF (n+(b.recs.length:Int)) l
theorem aA3:∀ (l:List BatD) (p:PartD),(aF p l).1=true→(aF p l).2.rows=p.rows++eF p.fin l
 | [],p,_=>by simp[aF,eF]
 | b::l,p,h=>by
  have e:aF p (b::l)=if (aJ p.prods b (-1)).2≠0 then (false,p) else aF (gZ p b) l:=rfl
  rw[e] at h ⊢
  by_cases hz:(aJ p.prods b (-1)).2≠0
  ·rw[if_pos hz] at h;cases h
  rw[if_neg hz] at h ⊢
  rw[aA3 l _ h]
  show (p.rows++cB b p.fin)++_=p.rows++(cB b p.fin++_)
  rw[List.append_assoc];rfl
structure WaitI (l:List EntD) (bs:List BatD) (s t:RefS):Prop where
 log:eL ref0 l=some s
 inv:LogI l.length s
 no:cG s.w (pF bs)=[]
 len:1≤bs.length∧bs.length≤8
 takes:(aF s.p bs).1=true
 bats:∀ b ∈ bs,dK b=true∧b.txn=true∧b.pid=pF bs∧b.epoch=jZ (dD bs)
 opens:t.p.opens=[⟨pF bs,jZ (dD bs),bs⟩]
 fin:t.p.fin=s.p.fin
 rows:t.p.rows=s.p.rows
 w:s.w.all (nK t.p)=true
 q:∃ qs,iE [dD bs] s.p.prods 0 [dD bs]=some qs∧t.p = { s.p with prods:=qs,opens:=s.p.opens++[mkO (dD bs)] }
theorem aXz (bs:List BatD):(bs.map dZ).map (·.b)=bs:=by
 rw[List.map_map]
 conv=>rhs;rw[← List.map_id bs]
 rfl
theorem aUu {l:List EntD} {bs:List BatD} {t:RefS} (h:iT l [dD bs]=some t) (hno:nJ l (pF bs)=[]):∃ s,WaitI l bs s t:=by
 unfold iT at h
 cases hl:eL ref0 l with
 | none=>rw[hl] at h;cases h
 | some s =>
  rw[hl] at h
  dsimp only at h
  have hI:=wB l 0 ref0 s aBy hl
  rw[Nat.zero_add] at hI
  rw[xH [dD bs] [dD bs] s 0 rfl (.inl hI.f.opens)] at h
  cases hq:iE [dD bs] s.p.prods 0 [dD bs] with
  | none=>rw[hq] at h;cases h
  | some qs =>
   rw[hq] at h
   dsimp only[Option.map_some] at h
   split at h
   rotate_left
   ·cases h
   rename_i hw
   cases h
   have hq2:(if (dD bs).l.length=0∨8<(dD bs).l.length then none else match bN (dD bs) s.p.prods (dD bs).l with
    | none=>none
    | some qs=>some qs)=some qs:=hq
   split at hq2
   ·cases hq2
   rename_i hlen
   have hlen:¬ (bs.length=0∨8<bs.length):=by rwa [show (dD bs).l.length=bs.length from List.length_map _] at hlen
   cases hs:bN (dD bs) s.p.prods (dD bs).l with
   | none=>rw[hs] at hq2;cases hq2
   | some rs =>
    obtain⟨t1,t2⟩:=aA1 bs s.p rs hs
    refine⟨s,hl,hI,by rw[aUw hl];exact hno,by omega,t1,fun b hb=>?_,?_,rfl,rfl,hw,qs,hq,rfl⟩
    ·obtain⟨e1,e2,e3,e4,e5⟩:=xG (t2 b hb)
     refine⟨?_,e3,e4,e5⟩
     unfold aK at e1
     have hm:qK (dZ b)=(dK b && decide ((⟨0,kA,false,0,0,lJ,dA⟩:EntD)=zE 0)):=rfl
     rw[hm] at e1
     simp only[Bool.and_eq_true] at e1
     exact e1.2.1
    ·show s.p.opens++[mkO (dD bs)]=_
     rw[hI.f.opens]
     show [OpenD.mk _ _ _]=_
     rw[aXz]
theorem aG0 {bs:List BatD} {E:Int} (he:∀ b ∈ bs,b.epoch=E) {i:Nat} (hi:i<bs.length) (h8:bs.length≤8):jT (bs.take i) bs[i]=false:=by
 have h1:=he _ (List.getElem_mem hi)
 unfold jT
 rw[decide_eq_false (by rw[List.length_take];omega),Bool.false_or]
 cases hb:bs.take i with
 | nil=>rfl
 | cons c r =>
  have:=he c (List.mem_of_mem_take (by rw[hb];exact List.mem_cons_self ..))
  simp[this,h1]
structure CopI (l:List EntD) (bs:List BatD) (s:RefS) (i:Nat) (u:RefS):Prop where
 log:eL ref0 (l++vS (bs.take i))=some u
 inv:LogI (l.length+i) u
 p:u.p=s.p
 at_:cG u.w (pF bs)=bs.take i
 rest:∀ y ∈ u.w,y.1≠pF bs→y ∈ s.w
theorem aRz {l:List EntD} {bs:List BatD} {s t:RefS} (h:WaitI l bs s t):∀ i,i≤bs.length→∃ u,CopI l bs s i u
 | 0,_=>⟨s,by rw[List.take_zero];show eL ref0 (l++[])=_;rw[List.append_nil];exact h.log,h.inv,rfl,by rw[h.no,List.take_zero],fun y hy _=>hy⟩
 | i+1,hi=>by
  obtain⟨u,hu⟩:=aRz h i (by omega)
  have hil:i<bs.length:=by omega
  obtain⟨b1,b2,b3,b4⟩:=h.bats _ (List.getElem_mem hil)
  have hbad:=aG0 (E:=jZ (dD bs)) (fun b hb=>(h.bats b hb).2.2.2) hil h.len.2
  have hat:=hu.at_
  obtain⟨v,hv⟩:=aPk (s:=u) (e:=iS bs[i] false) (aCe b1 b2 false) rfl rfl (by show jT (cG u.w bs[i].pid) bs[i]=false;rw[b3,hat];exact hbad) (by rw[hu.p];exact h.inv.f.fin.2)
  have hI:=oW hu.inv hv
  have e1:(iS bs[i] false).b.pid=pF bs:=b3
  rw[e1] at hv hI
  rw[hat] at hv hI
  have e2:bs.take i++[(iS bs[i] false).b]=bs.take (i+1):=by rw[List.take_succ_eq_append_getElem hil];rfl
  rw[e2] at hv hI
  refine⟨⟨u.p,eE u.w (pF bs) (bs.take (i+1)),v⟩,?_,hI,hu.p,?_,?_⟩
  ·have e3:l++vS (bs.take (i+1))=(l++vS (bs.take i))++[iS bs[i] false]:=by
    unfold vS
    rw[List.take_succ_eq_append_getElem hil,List.map_append,List.append_assoc];rfl
   rw[e3,sA,hu.log]
   show (match aZ u (iS bs[i] false) with|none=>none|some t=>some t)=_
   rw[hv]
  ·have:=aOo hu.inv.ow.nd (pF bs) (pF bs) (bs.take (i+1)) hI.ow.nd
   rw[if_pos rfl] at this
   exact this
  ·intro y hy hne
   rcases aHl hy with hy|rfl
   ·exact hu.rest y hy hne
   ·exact absurd rfl hne
theorem aLu {l:List EntD} {bs:List BatD} {s t:RefS} (h:WaitI l bs s t) {i:Nat} (hi:i<bs.length):∃ u,iT (l++vS (bs.take i)) [dD bs]=some u∧u.p=t.p:=by
 obtain⟨u,hu⟩:=aRz h i (by omega)
 obtain⟨qs,q1,q2⟩:=h.q
 refine⟨⟨t.p,u.w,u.v⟩,?_,rfl⟩
 unfold iT
 rw[hu.log]
 dsimp only
 rw[xH [dD bs] [dD bs] u 0 rfl (.inl (by rw[hu.p];exact h.inv.f.opens)),hu.p,q1]
 dsimp only[Option.map_some]
 have hw:u.w.all (nK t.p)=true:=by
  rw[List.all_eq_true]
  intro y hy
  by_cases hne:y.1=pF bs
  ·have h1:=aDg hu.inv.ow.nd hy
   rw[hne,hu.at_] at h1
   unfold nK
   rw[h.opens,hne,← h1]
   have hlt:(bs.take i).length<bs.length:=by rw[List.length_take];omega
   simp[bX,aQ,hlt,List.length_take,Nat.min_eq_left (Nat.le_of_lt hi),hi]
  ·exact List.all_eq_true.1 h.w y (hu.rest y hy hne)
 rw[show ({ s.p with prods:=qs,opens:=s.p.opens++[dD bs].map mkO }:PartD)=t.p from q2.symm,hw,if_pos rfl]
theorem aIx {l:List EntD} {bs:List BatD} {s t:RefS} (h:WaitI l bs s t) (hl:l.length≤200) {n:Nat} (hn:bs.length=n+1):∃ u,iT ((l++vS (bs.take n))++[iS (bs[n]'(by omega)) true]) []=some u∧u.p.opens=[]∧u.p.fin=t.p.fin+(cY bs:Nat)∧u.p.rows=t.p.rows++eF t.p.fin bs:=by
 obtain⟨u,hu⟩:=aRz h n (by omega)
 have hil:n<bs.length:=by omega
 obtain⟨b1,b2,b3,b4⟩:=h.bats _ (List.getElem_mem hil)
 have hbad:=aG0 (E:=jZ (dD bs)) (fun b hb=>(h.bats b hb).2.2.2) hil h.len.2
 have hat:=hu.at_
 have hall:bs.take n++[bs[n]]=bs:=by
  rw[← List.take_succ_eq_append_getElem hil,← hn,List.take_length]
 have htk:=h.takes
 have hfin:=yU bs s.p htk
 have hrw:=aA3 bs s.p htk
 have hlf:=aH8 l ref0 s h.log
 have hlf:s.p.fin+(oH s.w:Nat)≤4*(l.length:Int):=by
  have e:(ref0.p.fin:Int)+(oH ref0.w:Nat)=0:=rfl
  omega
 have hsum:=qT bs (fun b hb=>(lC (h.bats b hb).1).2)
 have hlen:=h.len.2
 obtain⟨v,hv⟩:=aPj (s:=u) (e:=iS bs[n] true) (aCe b1 b2 true) rfl rfl rfl (by show jT (cG u.w bs[n].pid) bs[n]=false;rw[b3,hat];exact hbad)
  (by show (aF u.p (cG u.w bs[n].pid++[bs[n]])).1=true;rw[b3,hat,hall,hu.p];exact htk) (by show (aF u.p (cG u.w bs[n].pid++[bs[n]])).2.fin≤_;rw[b3,hat,hall,hu.p];omega)
 have e1:(iS bs[n] true).b=bs[n]:=rfl
 rw[e1,b3,hat,hall,hu.p] at hv
 have hop:=sQ bs s.p
 generalize (aF s.p bs).2=z at *
 have hw:cI u.w (pF bs)=[]:=by
  rw[rQ hu.inv.ow.nd,List.filter_eq_nil_iff]
  intro y hy hne
  have hne:y.1≠pF bs:=by simpa using hne
  have h1:=List.all_eq_true.1 h.w y (hu.rest y hy hne)
  unfold nK at h1
  rw[h.opens,Bool.and_eq_true] at h1
  have h2:=h1.1
  unfold bX aQ at h2
  simp only[List.findIdx_cons,List.findIdx_nil] at h2
  by_cases hle:y.1≤pF bs
  ·simp[hle] at h2;exact hne h2.symm
  ·simp[hle] at h2
 rw[hw] at hv
 refine⟨⟨{ z with prods:=dT z.prods (pF bs) },[],v⟩,?_,by show z.opens=[];rw[hop];exact h.inv.f.opens,by show z.fin=_;rw[hfin,h.fin],by show z.rows=_;rw[hrw,h.rows,h.fin]⟩
 unfold iT
 rw[sA,hu.log]
 show (match (match aZ u (iS bs[n] true) with|none=>none|some t=>some t) with
  | none=>none
  | some s=>match lR [] s 0 [] with
   | none=>none
   | some t=>if t.w.all (nK t.p) then some t else none)=_
 rw[hv]
 rfl
set_option maxHeartbeats 8000000
theorem aNn {l:List EntD} {k:Nat} (pid:Int) (h:k<l.length):nJ (l.take (k+1)) pid=tW pid (nJ (l.take k) pid) l[k]:=by
 unfold nJ
 rw[List.take_succ_eq_append_getElem h,List.foldl_append];rfl
theorem aRc (pid:Int) (l:List EntD):(nJ l pid).length≤l.length:=by
 unfold nJ
 have key:∀ (l:List EntD) (acc:List BatD),(l.foldl (tW pid) acc).length≤acc.length+l.length:=by
  intro l
  induction l with
  | nil=>intro acc;exact Nat.le_refl _
  | cons e l ih =>
   intro acc
   rw[List.foldl_cons]
   have h1:=ih (tW pid acc e)
   have h2:(tW pid acc e).length≤acc.length+1:=by
    unfold tW
    split
    ·omega
    split
    ·split
     ·simp
     ·simp
    split
    ·simp
    ·omega
   rw[List.length_cons];omega
 have:=key l []
 simpa using this
theorem aCt (l:List EntD) (pid:Int) (hl:l.length≤100000):bF Tryz.prog 20 [.lst 18 (l.map EntD.dv),int pid] (.lst 5 ((nJ l pid).map BatD.dv)):=by
 (refine bF.of_bodyW Tryz.func20 rfl rfl Tryz.ntmps20 Tryz.results20 (by simp) ?_)
 (refine cA ?_)
 refine Wp.weak (aD.nilApp (t:=5) (τ:=60) 62 5 (by (refine aY ?_;try with_reducible exact tt)) (by (refine aY ?_;try with_reducible exact tt))) ?_
 refine Wp.loop (fun k:Nat=>⟨iC [(0,.c (.d (.lst 18 (l.map EntD.dv)))),(1,vi .i64 pid),(5,.c (.app 60 5 ((nJ (l.take k) pid).map BatD.dv))),(6,vi .i64 k)],bK [(60,.row 62 5 (nJ (l.take k) pid).length)],61,37,0⟩) (fun k=>k≤l.length) (fun k=>l.length - k) 0 (Nat.zero_le _) ?_ ?_
 ·refine aD.keep rfl rfl ?_
  simp (maxSteps:=2000000) (disch:=omega) only[gE,TY,bV,eJ,fQ,SV.ofD,dS,eQ,fL,fM,bP,fN,eW,eT,fO,eN,fJ,fI,fK,CV.exact,CV.lstOf,CV.lenOf,CV.one,D.one,Value.oneCell',CV.toD0,fT,eB,fW,fG,rD0,gA,fF,fV,reduceCtorEq,reduceIte,Nat.reduceBEq,Nat.reduceEqDiff,Nat.reduceAdd,Nat.reduceMul,Nat.reduceSub,Nat.reduceLT,Nat.reduceLeDiff,Nat.reduceBNe,Int.reduceLE,Int.reduceLT,Int.reduceBEq,Int.reduceBNe,Int.reduceEq,Int.reduceNeg,Int.reduceAdd,Int.reduceSub,Int.reduceToNat,forall_const,List.take_zero,nJ,List.foldl_nil,List.map_nil,List.length_nil]
 intro k hk
 by_cases hkl:k<l.length
 ·have d1:decide ((k:Int)<(l.length:Int))=true:=decide_eq_true (by omega)
  have hge:l[k]? = some l[k]:=List.getElem?_eq_getElem hkl
  have hwk:IntKind.i64.wrap ((k:Int)+1)=((k+1:Nat):Int):=by rw[aT (by omega)];rfl
  have hsn:=aNn pid hkl
  have hwl:=aRc pid (l.take k)
  rw[List.length_take] at hwl
  generalize l[k]=e at *
  generalize nJ (l.take k) pid=w at *
  unfold tW at hsn
  by_cases h1:e.b.pid≠pid
  ·have e1:(e.b.pid != pid)=true:=by simpa using h1
   rw[if_pos h1] at hsn
   (refine gO (ai d1 (ai hge (ai e1 (ai hwk (@EntD.dv.eq_1))))) ?_)
   refine⟨k+1,hkl,by omega,aD.keep rfl rfl ?_⟩
   (refine rO (hsn) ?_;try with_reducible exact tt)
  have e1:(e.b.pid != pid)=false:=by simpa using h1
  rw[if_neg h1] at hsn
  by_cases h3:e.kind=3
  ·have e3:(e.kind == 3)=true:=by simpa using h3
   rw[if_pos h3] at hsn
   have hbb:(w.length+1)*56≤140737488355328:=by omega
   cases hy:e.yes with
   | true =>
    rw[hy,if_pos rfl] at hsn
    (refine gO (ai d1 (ai hge (ai e1 (ai e3 (ai hy (ai hbb (ai hwk (ai @EntD.dv.eq_1 (ai @BatD.dv.eq_1 (@List.length_map.{0,0})))))))))) ?_)
    refine⟨k+1,hkl,by omega,?_⟩
    refine aD.trans (aD.keep (L:=[(0,.c (.d (.lst 18 (l.map EntD.dv)))),(1,vi .i64 pid),(5,.c iJ),(6,vi .i64 (k+1:Nat))]) (M:=[]) (nx:=61) rfl rfl (by (refine aY ?_;try with_reducible exact tt))) ?_
    refine aD.trans (aD.nilApp (t:=5) (τ:=60) 62 5 (by (refine aY ?_;try with_reducible exact tt)) (by (refine aY ?_;try with_reducible exact tt))) ?_
    refine aD.keep rfl rfl ?_
    (refine rO (ai hsn (ai @List.map_nil.{0,0} (@List.length_nil.{0}))) ?_;try with_reducible exact tt)
   | false =>
    rw[hy,if_neg Bool.false_ne_true] at hsn
    (refine gO (ai d1 (ai hge (ai e1 (ai e3 (ai hy (ai hbb (ai hwk (ai @EntD.dv.eq_1 (ai @BatD.dv.eq_1 (@List.length_map.{0,0})))))))))) ?_)
    refine⟨k+1,hkl,by omega,aD.keep rfl rfl ?_⟩
    (refine rO (ai hsn (ai @BatD.dv.eq_1 (ai @List.map_append.{0,0} (ai @List.map_cons.{0,0} (ai @List.map_nil.{0,0} (ai @List.length_append.{0} (ai @List.length_cons.{0} (@List.length_nil.{0})))))))) ?_;try with_reducible exact tt)
  ·have e3:(e.kind == 3)=false:=by simpa using h3
   rw[if_neg h3] at hsn
   by_cases h4:e.kind=4
   ·have e4:(e.kind == 4)=true:=by simpa using h4
    rw[if_pos h4] at hsn
    (refine gO (ai d1 (ai hge (ai e1 (ai e3 (ai e4 (ai hwk (@EntD.dv.eq_1))))))) ?_)
    refine⟨k+1,hkl,by omega,?_⟩
    refine aD.trans (aD.keep (L:=[(0,.c (.d (.lst 18 (l.map EntD.dv)))),(1,vi .i64 pid),(5,.c iJ),(6,vi .i64 (k+1:Nat))]) (M:=[]) (nx:=61) rfl rfl (by (refine aY ?_;try with_reducible exact tt))) ?_
    refine aD.trans (aD.nilApp (t:=5) (τ:=60) 62 5 (by (refine aY ?_;try with_reducible exact tt)) (by (refine aY ?_;try with_reducible exact tt))) ?_
    refine aD.keep rfl rfl ?_
    (refine rO (ai hsn (ai @List.map_nil.{0,0} (@List.length_nil.{0}))) ?_;try with_reducible exact tt)
   ·have e4:(e.kind == 4)=false:=by simpa using h4
    rw[if_neg h4] at hsn
    (refine gO (ai d1 (ai hge (ai e1 (ai e3 (ai e4 (ai hwk (@EntD.dv.eq_1))))))) ?_)
    refine⟨k+1,hkl,by omega,aD.keep rfl rfl ?_⟩
    (refine rO (hsn) ?_;try with_reducible exact tt)
 ·have hke:k=l.length:=by omega
  subst hke
  have d1:decide ((l.length:Int)<(l.length:Int))=false:=by simp
  (refine gO (d1) ?_)
  (refine rO (@List.take_length.{0}) ?_)
  exact⟨_,rfl,fun _ _ h=>h⟩
def uU (a b:SideD):Bool:=a.pid == b.pid && decide (a.l=b.l)
theorem aR5 (a b:SideD):uU a b=decide (a=b):=by
 rw[Bool.eq_iff_iff]
 obtain⟨a1,a2⟩:=a
 obtain⟨b1,b2⟩:=b
 simp only[uU,Bool.and_eq_true,beq_iff_eq,decide_eq_true_eq,SideD.mk.injEq]
theorem aO1 {e:EntD} (h:¬ xX e=true):e.b.recs.length≤40∧e.prod.seen.length≤40:=by
 simp only[xX,zO,Bool.not_eq_true,Bool.or_eq_false_iff,decide_eq_false_iff_not] at h
 exact⟨by omega,by omega⟩
def rA (x:SideD):Bool:=xW x.l || decide (30<(x.l.length:Int))
def qH (l:List SideD):Bool:=decide (20<(l.length:Int)) || l.any rA
theorem aQ3 {l:List SideD} (h:qH l=false):l.length≤20∧∀ x ∈ l,x.l.length≤30∧∀ e ∈ x.l,e.b.recs.length≤40∧e.prod.seen.length≤40:=by
 unfold qH at h
 simp only[Bool.or_eq_false_iff,decide_eq_false_iff_not] at h
 refine⟨by omega,fun x hx=>?_⟩
 have h2:=List.any_eq_false.1 h.2 x hx
 unfold rA at h2
 simp only[Bool.or_eq_true,decide_eq_true_eq,not_or,Bool.not_eq_true] at h2
 have h3:=h2.1
 simp only[xW,Bool.or_eq_false_iff,decide_eq_false_iff_not] at h3
 refine⟨by omega,fun e he=>?_⟩
 exact aO1 (List.any_eq_false.1 h3.2 e he)
theorem aCs (l:List SideD):bF Tryz.prog 52 [.lst 2 (l.map SideD.dv)] (gD (qH l)):=by
 (refine bF.of_body Tryz.func52 rfl rfl Tryz.ntmps52 Tryz.results52 (by simp) ?_)
 (refine cA ?_)
 refine Wp.loop (fun k:Nat=>⟨iC [(0,.c (.d (.lst 2 (l.map SideD.dv)))),(3,vi .i64 k)],bK [],0,32,0⟩) (fun k=>k≤l.length∧k≤21∧(l.take k).any rA=false) (fun k=>l.length - k) 0 ⟨Nat.zero_le _,by omega,rfl⟩ ?_ ?_
 ·refine aD.keep rfl rfl ?_
  (refine aY ?_;try with_reducible exact tt)
 rintro k ⟨hk,hk21,hany⟩
 by_cases hc:k<l.length∧k≤20
 ·obtain⟨hkl,h20⟩:=hc
  have d1:decide ((k:Int)<(l.length:Int))=true:=decide_eq_true (by omega)
  have d2:decide ((k:Int)≤20)=true:=decide_eq_true (by omega)
  have hge:l[k]? = some l[k]:=List.getElem?_eq_getElem hkl
  have hwk:IntKind.i64.wrap ((k:Int)+1)=((k+1:Nat):Int):=by rw[aT (by omega)];rfl
  have hsn:(l.take (k+1)).any rA=rA l[k]:=by
   rw[List.take_succ_eq_append_getElem hkl,List.any_append,hany];simp
  have hgt:rA l[k]=true→qH l=true:=fun h=>by
   unfold qH
   rw[List.any_eq_true.2 ⟨_,List.getElem_mem hkl,h⟩,Bool.or_true]
  generalize l[k]=x at *
  have c1:=aJl x.l
  (first|refine Wp.sto 11 (vb true) ?_ ?_|refine Wp.rtoS 11 (vb true) ?_ ?_|(refine Wp.seq ?_;first|refine Wp.sto 11 (vb true) ?_ ?_|refine Wp.rtoS 11 (vb true) ?_ ?_))
  ·((refine rO (ai d1 (d2)) ?_;try with_reducible exact tt);(repeat (refine eA (by assumption) ?_;(refine rO (ai d1 (d2)) ?_))))
   all_goals (exact (show bI _ _=true by kernel_rfl))
  (repeat (first|apply Wp.skip|apply Wp.exit|apply Wp.ret|apply Wp.block|apply Wp.label|((first|refine Wp.sreg (fun K hK=>?_)|refine Wp.reg (fun K hK=>?_)|refine Wp.sdrw aI (fun K hK=>?_)|refine Wp.drw aI (fun K hK=>?_)|refine Wp.condG (fun K hK hF=>?_));(repeat (revert hK;intro hK;simp (maxSteps:=2000000) (disch:=omega) only[gE,TY,bV,eJ,fQ,SV.ofD,dS,eQ,fL,fM,bP,fN,eW,eT,fO,eN,fJ,fI,fK,CV.exact,CV.lstOf,CV.lenOf,CV.one,D.one,Value.oneCell',CV.toD0,fT,eB,fW,fG,rD0,gA,fF,fV,reduceCtorEq,reduceIte,Nat.reduceBEq,Nat.reduceEqDiff,Nat.reduceAdd,Nat.reduceMul,Nat.reduceSub,Nat.reduceLT,Nat.reduceLeDiff,Nat.reduceBNe,Int.reduceLE,Int.reduceLT,Int.reduceBEq,Int.reduceBNe,Int.reduceEq,Int.reduceNeg,Int.reduceAdd,Int.reduceSub,Int.reduceToNat,forall_const,hge,SideD.dv];(first|(refine hK _ ?_;clear hK K)|(refine⟨by kernel_rfl,hK _ ?_⟩;clear hK K)|(refine hK ?_;clear hK hF K)|(refine hF ?_;clear hK hF K)|refine eA (by assumption) ?_|refine bca (by assumption) ?_)));fail_if_success (revert hK;intro hK))|apply Wp.seq))
  (first|refine Wp.sto 28 (vb (rA x)) ?_ ?_|refine Wp.rtoS 28 (vb (rA x)) ?_ ?_|(refine Wp.seq ?_;first|refine Wp.sto 28 (vb (rA x)) ?_ ?_|refine Wp.rtoS 28 (vb (rA x)) ?_ ?_))
  ·unfold rA;((rcases Bool.eq_false_or_eq_true (xW x.l) with hL1|hL1)<;>(rcases Bool.eq_false_or_eq_true (decide (30<(x.l.length:Int))) with hL2|hL2)<;>((simp (maxSteps:=2000000) (disch:=omega) only[gE,TY,bV,eJ,fQ,SV.ofD,dS,eQ,fL,fM,bP,fN,eW,eT,fO,eN,fJ,fI,fK,CV.exact,CV.lstOf,CV.lenOf,CV.one,D.one,Value.oneCell',CV.toD0,fT,eB,fW,fG,rD0,gA,fF,fV,reduceCtorEq,reduceIte,Nat.reduceBEq,Nat.reduceEqDiff,Nat.reduceAdd,Nat.reduceMul,Nat.reduceSub,Nat.reduceLT,Nat.reduceLeDiff,Nat.reduceBNe,Int.reduceLE,Int.reduceLT,Int.reduceBEq,Int.reduceBNe,Int.reduceEq,Int.reduceNeg,Int.reduceAdd,Int.reduceSub,Int.reduceToNat,forall_const,hL1,hL2,hge,SideD.dv];(repeat (refine eA (by assumption) ?_;simp (maxSteps:=2000000) (disch:=omega) only[gE,TY,bV,eJ,fQ,SV.ofD,dS,eQ,fL,fM,bP,fN,eW,eT,fO,eN,fJ,fI,fK,CV.exact,CV.lstOf,CV.lenOf,CV.one,D.one,Value.oneCell',CV.toD0,fT,eB,fW,fG,rD0,gA,fF,fV,reduceCtorEq,reduceIte,Nat.reduceBEq,Nat.reduceEqDiff,Nat.reduceAdd,Nat.reduceMul,Nat.reduceSub,Nat.reduceLT,Nat.reduceLeDiff,Nat.reduceBNe,Int.reduceLE,Int.reduceLT,Int.reduceBEq,Int.reduceBNe,Int.reduceEq,Int.reduceNeg,Int.reduceAdd,Int.reduceSub,Int.reduceToNat,forall_const,hL1,hL2,hge,SideD.dv])));all_goals (exact (show bI _ _=true by kernel_rfl))))
  cases hgx:rA x with
  | true =>
   have hr:=hgt hgx
   (refine cA ?_)
   (refine rO (hr) ?_;try with_reducible exact tt)
  | false =>
   rw[hgx] at hsn
   (refine gO (hwk) ?_)
   refine⟨k+1,⟨hkl,by omega,hsn⟩,by omega,aD.keep rfl rfl ?_⟩
   (refine aY ?_;try with_reducible exact tt)
 ·have hr:qH l=decide (20<(l.length:Int)):=by
   unfold qH
   by_cases h20:20<(l.length:Int)
   ·rw[decide_eq_true h20,Bool.true_or]
   ·have hke:k=l.length:=by omega
    rw[hke,List.take_length] at hany
    rw[hany,Bool.or_false]
  (first|refine Wp.sto 11 (vb false) ?_ ?_|refine Wp.rtoS 11 (vb false) ?_ ?_|(refine Wp.seq ?_;first|refine Wp.sto 11 (vb false) ?_ ?_|refine Wp.rtoS 11 (vb false) ?_ ?_))
  ·by_cases h1:k<l.length
   ·have d1:decide ((k:Int)<(l.length:Int))=true:=decide_eq_true (by omega)
    have d2:decide ((k:Int)≤20)=false:=decide_eq_false (by omega)
    ((refine rO (ai d1 (d2)) ?_;try with_reducible exact tt);(repeat (refine eA (by assumption) ?_;(refine rO (ai d1 (d2)) ?_))))
    all_goals (exact (show bI _ _=true by kernel_rfl))
   ·have d1:decide ((k:Int)<(l.length:Int))=false:=decide_eq_false (by omega)
    ((refine rO (d1) ?_;try with_reducible exact tt);(repeat (refine eA (by assumption) ?_;(refine rO (d1) ?_))))
    all_goals (exact (show bI _ _=true by kernel_rfl))
  (refine cA ?_)
  (refine rO (hr) ?_;try with_reducible exact tt)
def kX (l:List EntD) (s:List SideD):Bool:=decide (200<(l.length:Int)) || (xW l || qH s)
theorem zP (l:List EntD) (s:List SideD):bF Tryz.prog 19 [.lst 18 (l.map EntD.dv),.lst 2 (s.map SideD.dv)] (gD (kX l s)):=by
 have c1:=aJl l
 have c2:=aCs s
 (refine bF.of_body Tryz.func19 rfl rfl Tryz.ntmps19 Tryz.results19 (by simp) ?_)
 (refine cA ?_)
 (first|refine Wp.sto 4 (vb (kX l s)) ?_ ?_|refine Wp.rtoS 4 (vb (kX l s)) ?_ ?_|(refine Wp.seq ?_;first|refine Wp.sto 4 (vb (kX l s)) ?_ ?_|refine Wp.rtoS 4 (vb (kX l s)) ?_ ?_))
 ·unfold kX;((rcases Bool.eq_false_or_eq_true (decide (200<(l.length:Int))) with hL1|hL1)<;>(rcases Bool.eq_false_or_eq_true (xW l) with hL2|hL2)<;>(rcases Bool.eq_false_or_eq_true (qH s) with hL3|hL3)<;>(((refine rO (ai hL1 (ai hL2 (hL3))) ?_;try with_reducible exact tt);(repeat (refine eA (by assumption) ?_;(refine rO (ai hL1 (ai hL2 (hL3))) ?_;try with_reducible exact tt))));all_goals (exact (show bI _ _=true by kernel_rfl))))
 (refine cA ?_)
 (refine aY ?_;try with_reducible exact tt)
theorem aBo {l:List EntD} {s:List SideD} (h:kX l s=false):l.length≤200∧(∀ e ∈ l,e.b.recs.length≤40∧e.prod.seen.length≤40)∧s.length≤20∧∀ x ∈ s,x.l.length≤30∧∀ e ∈ x.l,e.b.recs.length≤40∧e.prod.seen.length≤40:=by
 unfold kX at h
 simp only[Bool.or_eq_false_iff,decide_eq_false_iff_not] at h
 obtain⟨h1,h2,h3⟩:=h
 obtain⟨g1,g2⟩:=aQ3 h3
 refine⟨by omega,fun e he=>?_,g1,g2⟩
 simp only[xW,Bool.or_eq_false_iff,decide_eq_false_iff_not] at h2
 exact aO1 (List.any_eq_false.1 h2.2 e he)
theorem aE6 (a b:List SideD) (hl:a.length≤100000) (hs:∀ x ∈ a,x.l.length<2 ^ 40∧∀ e ∈ x.l,SmallE e):bF Tryz.prog 35 [.lst 2 (a.map SideD.dv),.lst 2 (b.map SideD.dv)] (gD (decide (a=b))):=by
 (refine bF.of_body Tryz.func35 rfl rfl Tryz.ntmps35 Tryz.results35 (by simp) ?_)
 by_cases hlen:a.length=b.length
 rotate_left
 ·have hne:((a.length:Int) != (b.length:Int))=true:=by simp;omega
  have hf:decide (a=b)=false:=decide_eq_false (fun e=>hlen (by rw[e]))
  (refine gO (hne) ?_)
  (refine rO (hf) ?_;try with_reducible exact tt)
 have hne:((a.length:Int) != (b.length:Int))=false:=by simp[hlen]
 (refine gO (hne) ?_)
 refine Wp.loop (fun k:Nat=>⟨iC [(0,.c (.d (.lst 2 (a.map SideD.dv)))),(1,.c (.d (.lst 2 (b.map SideD.dv)))),(5,vi .i64 k)],bK [],0,42,0⟩) (fun k=>k≤a.length∧a.take k=b.take k) (fun k=>a.length - k) 0 ⟨Nat.zero_le _,rfl⟩ ?_ ?_
 ·refine aD.keep rfl rfl ?_
  (refine aY ?_;try with_reducible exact tt)
 rintro k ⟨hk,hall⟩
 by_cases hlt:k<a.length
 ·have d1:decide ((k:Int)<(a.length:Int))=true:=decide_eq_true (by omega)
  have hlt2:k<b.length:=by omega
  have g1:a[k]? = some a[k]:=List.getElem?_eq_getElem hlt
  have g2:b[k]? = some b[k]:=List.getElem?_eq_getElem hlt2
  have t1:=aU a k hlt
  have t2:=aU b k hlt2
  have hwk:IntKind.i64.wrap ((k:Int)+1)=((k+1:Nat):Int):=by rw[aT (by omega)];rfl
  have hne:a[k]≠b[k]→¬ a=b:=fun hx e=>by subst e;exact hx rfl
  have hsx:=hs _ (List.getElem_mem hlt)
  generalize a[k]=x at *
  generalize b[k]=y at *
  have c1:=zY x.l y.l hsx.1 hsx.2
  (refine gO (d1) ?_)
  (first|refine Wp.stoD 41 (vb (!uU x y)) aI ?_ ?_|refine Wp.rtoDS 41 (vb (!uU x y)) aI ?_ ?_|(refine Wp.seq ?_;first|refine Wp.stoD 41 (vb (!uU x y)) aI ?_ ?_|refine Wp.rtoDS 41 (vb (!uU x y)) aI ?_ ?_))
  ·unfold uU
   cases q1:(x.pid == y.pid)<;>cases q2:decide (x.l=y.l)<;>(rw[q2] at c1;have q3:(x.pid != y.pid) = !(x.pid == y.pid):=rfl;rw[q1] at q3;(simp (maxSteps:=2000000) (disch:=omega) only[gE,TY,bV,eJ,fQ,SV.ofD,dS,eQ,fL,fM,bP,fN,eW,eT,fO,eN,fJ,fI,fK,CV.exact,CV.lstOf,CV.lenOf,CV.one,D.one,Value.oneCell',CV.toD0,fT,eB,fW,fG,rD0,gA,fF,fV,reduceCtorEq,reduceIte,Nat.reduceBEq,Nat.reduceEqDiff,Nat.reduceAdd,Nat.reduceMul,Nat.reduceSub,Nat.reduceLT,Nat.reduceLeDiff,Nat.reduceBNe,Int.reduceLE,Int.reduceLT,Int.reduceBEq,Int.reduceBNe,Int.reduceEq,Int.reduceNeg,Int.reduceAdd,Int.reduceSub,Int.reduceToNat,forall_const,g1,g2,q3,SideD.dv];(repeat (refine eA (by assumption) ?_;simp (maxSteps:=2000000) (disch:=omega) only[gE,TY,bV,eJ,fQ,SV.ofD,dS,eQ,fL,fM,bP,fN,eW,eT,fO,eN,fJ,fI,fK,CV.exact,CV.lstOf,CV.lenOf,CV.one,D.one,Value.oneCell',CV.toD0,fT,eB,fW,fG,rD0,gA,fF,fV,reduceCtorEq,reduceIte,Nat.reduceBEq,Nat.reduceEqDiff,Nat.reduceAdd,Nat.reduceMul,Nat.reduceSub,Nat.reduceLT,Nat.reduceLeDiff,Nat.reduceBNe,Int.reduceLE,Int.reduceLT,Int.reduceBEq,Int.reduceBNe,Int.reduceEq,Int.reduceNeg,Int.reduceAdd,Int.reduceSub,Int.reduceToNat,forall_const,g1,g2,q3,SideD.dv])));all_goals (exact (show bI _ _=true by kernel_rfl)))
  rw[aR5]
  by_cases hxy:x=y
  ·rw[decide_eq_true hxy]
   (refine gO (hwk) ?_)
   refine⟨k+1,⟨hlt,by rw[t1,t2,hall,hxy]⟩,by omega,aD.keep rfl rfl ?_⟩
   (refine aY ?_;try with_reducible exact tt)
  ·rw[decide_eq_false hxy]
   have hf:decide (a=b)=false:=decide_eq_false (hne hxy)
   (refine cA ?_)
   (refine rO (hf) ?_;try with_reducible exact tt)
 ·have hk2:k=a.length:=by omega
  have d1:decide ((k:Int)<(a.length:Int))=false:=decide_eq_false (by omega)
  have hf:decide (a=b)=true:=by
   rw[List.take_of_length_le (by omega),List.take_of_length_le (by omega)] at hall;simp[hall]
  (refine gO (d1) ?_)
  (refine rO (hf) ?_;try with_reducible exact tt)
set_option maxHeartbeats 16000000
def wkX:BatD:=⟨3,0,0,true,[⟨[97],[]⟩]⟩
def wkY:BatD:=⟨3,0,1,true,[⟨[97],[]⟩]⟩
def aOs:List EntD:=[⟨3,wkX,false,0,0,lJ,dA⟩]
def aOu:List SideD:=[⟨3,[dZ wkX,dZ wkY]⟩]
def aOt:List EntD:=[⟨3,wkX,false,0,0,lJ,dA⟩,⟨3,wkY,true,2,0,lJ,dA⟩]
def aUx:PartD:=⟨0,0,[],[⟨3,0,[wkX,wkY]⟩],[⟨3,0,2,[⟨0,1,-1⟩,⟨1,1,-1⟩]⟩]⟩
def aUy:PartD:=⟨0,2,[⟨0,3,0,[97],[]⟩,⟨1,3,1,[97],[]⟩],[],[⟨3,0,2,[]⟩]⟩
theorem aZ3:aAt aOs aOu=some aUx:=by decide +kernel
theorem aZ4:aAt aOt []=some aUy:=by decide +kernel
theorem aA4:bF Tryz.prog 21 [] (gD true):=by
 have s1:∀ e ∈ aOs,SmallEn e:=by intro e he;simp[aOs] at he;subst he;exact⟨by decide,by decide,by decide⟩
 have s2:∀ x ∈ aOu,∀ y ∈ x.l,SmallEn y:=by
  intro x hx y hy
  simp[aOu] at hx
  subst hx
  simp at hy
  rcases hy with rfl|rfl<;>exact⟨by decide,by decide,by decide⟩
 have s3:∀ e ∈ aOt,SmallEn e:=by intro e he;simp[aOt] at he;rcases he with rfl|rfl<;>exact⟨by decide,by decide,by decide⟩
 have c1:=hP aOs aOu (by decide) s1 (by decide) s2
 have c2:=hP aOt [] (by decide) s3 (by decide) (fun x hx=>by cases hx)
 unfold a14 e14 at c1 c2
 rw[aZ3] at c1
 rw[aZ4] at c2
 have c1:=c1.args (.cons (qY.lst (.cons (lZ ⟨3,wkX,false,0,0,lJ,dA⟩ _ _ (.refl _) (.nil 3)) .nil)) (.cons (qY.lst (.cons (.cons (.refl _) (.cons (qY.lst (.cons (lZ (dZ wkX) _ _ (.refl _) (.nil 3)) (.cons (lZ (dZ wkY) _ _ (.refl _) (.nil 3)) .nil))) .nil)) .nil)) .nil))
 have c2:=c2.args (.cons (qY.lst (.cons (lZ ⟨3,wkX,false,0,0,lJ,dA⟩ _ _ (.refl _) (.nil 3)) (.cons (lZ ⟨3,wkY,true,2,0,lJ,dA⟩ _ _ (.refl _) (.nil 3)) .nil))) (.cons (.nil 2) .nil))
 simp only[PartD.dv,aUx,aUy,wkX,wkY,dZ,RowD.dv,OpenD.dv,BatD.dv,ProdD.dv,SeenD.dv,RecD.dv,List.map_cons,List.map_nil,lJ,dA,Option.isSome_some,if_true,Option.getD_some] at c1 c2
 (refine bF.of_body Tryz.func21 rfl rfl Tryz.ntmps21 Tryz.results21 (by simp) ?_)
 (refine cA ?_)
 (refine aY ?_;try with_reducible exact tt)
end Go.Proofs.YtpklhnpchhaccaaGreatDoor
