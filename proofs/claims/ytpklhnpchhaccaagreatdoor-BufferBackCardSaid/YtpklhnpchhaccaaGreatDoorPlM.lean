/- The abstract machine (PlB, PlC, PlD, PlE). -/
import Derived.Test.YtpklhnpchhaccaaGreatDoorRgM
namespace Go.Proofs.YtpklhnpchhaccaaGreatDoor
open Go Go.RowKit
set_option maxHeartbeats 4000000
set_option maxRecDepth 100000
set_option linter.unusedVariables false
set_option linter.unusedSimpArgs false
def nL (b:BatD):List OpenD→List OpenD
 | []=>[⟨b.pid,b.epoch,[b]⟩]
 | x::l=>if b.pid≤x.pid then (if x.pid=b.pid then ⟨x.pid,x.epoch,x.bats++[b]⟩::l else ⟨b.pid,b.epoch,[b]⟩::x::l) else x::nL b l
def aGu (pid:Int):List OpenD→List OpenD
 | []=>[]
 | x::l=>if pid≤x.pid then (if x.pid=pid then l else x::l) else x::aGu pid l
def dR (pid:Int):List OpenD→Option OpenD
 | []=>none
 | x::l=>if pid≤x.pid then (if x.pid=pid then some x else none) else dR pid l
theorem nE (x:OpenD) (l:List OpenD) (pid:Int):aQ (x::l) pid=if pid≤x.pid then 0 else aQ l pid+1:=by
 unfold aQ
 rw[List.findIdx_cons]
 by_cases h:pid≤x.pid<;>simp[h]
theorem aMt (x:OpenD) (l:List OpenD) (pid:Int):bX (x::l) pid=if pid≤x.pid then x.pid == pid else bX l pid:=by
 unfold bX
 rw[nE]
 by_cases h:pid≤x.pid<;>simp[h]
theorem aH4 (pid:Int):∀ l:List OpenD,dR pid l=match bX l pid,l[aQ l pid]? with
  | true,some o=>some o
  | _,_=>none
 | []=>by simp[dR,bX]
 | x::l=>by
  have ih:=aH4 pid l
  rw[nE,aMt,dR]
  by_cases h:pid≤x.pid
  ·by_cases h2:x.pid=pid
   ·simp[h2]
   ·have h3:(x.pid == pid)=false:=by simpa using h2
    simp[h,h2,h3]
  ·simp only[h,if_false,ih,List.getElem?_cons_succ]
theorem xR (b:BatD):∀ l:List OpenD,dR b.pid l=none→l.take (aQ l b.pid)++(⟨b.pid,b.epoch,[b]⟩:OpenD)::l.drop (aQ l b.pid)=nL b l
 | [],_=>rfl
 | x::l,h=>by
  have ih:=xR b l
  rw[dR] at h
  rw[nE,nL]
  by_cases h1:b.pid≤x.pid
  ·rw[if_pos h1] at h
   by_cases h2:x.pid=b.pid
   ·rw[if_pos h2] at h;cases h
   ·simp[h1,h2]
  ·rw[if_neg h1] at h
   simp[h1,ih h]
theorem aEc (b:BatD) (o:OpenD):∀ l:List OpenD,dR b.pid l=some o→l.set (aQ l b.pid) ⟨o.pid,o.epoch,o.bats++[b]⟩=nL b l
 | [],h=>by cases h
 | x::l,h=>by
  have ih:=aEc b o l
  rw[dR] at h
  rw[nE,nL]
  by_cases h1:b.pid≤x.pid
  ·rw[if_pos h1] at h
   by_cases h2:x.pid=b.pid
   ·rw[if_pos h2] at h;cases h;simp[h2]
   ·rw[if_neg h2] at h;cases h
  ·rw[if_neg h1] at h
   simp[h1,ih h]
theorem aNx (pid:Int) (o:OpenD):∀ l:List OpenD,dR pid l=some o→l.take (aQ l pid)++l.drop (aQ l pid+1)=aGu pid l
 | [],h=>by cases h
 | x::l,h=>by
  have ih:=aNx pid o l
  rw[dR] at h
  rw[nE,aGu]
  by_cases h1:pid≤x.pid
  ·rw[if_pos h1] at h
   by_cases h2:x.pid=pid
   ·simp[h2]
   ·rw[if_neg h2] at h;cases h
  ·rw[if_neg h1] at h
   simp[h1,ih h]
theorem oT {pid:Int} {o:OpenD}:∀ {l:List OpenD},dR pid l=some o→o.pid=pid
 | [],h=>by cases h
 | x::l,h=>by
  rw[dR] at h
  split at h
  ·split at h
   ·cases h;assumption
   ·cases h
  ·exact oT h
theorem aVz {q:Int}:∀ {l:List OpenD},(∀ x ∈ l,q<x.pid)→dR q l=none
 | [],_=>rfl
 | x::l,h=>by
  have:=h x (List.mem_cons_self ..)
  rw[dR,if_pos (by omega),if_neg (by omega)]
theorem aJf (pid q:Int) (hne:q≠pid):∀ l:List ProdD,bE (aA8 pid l) q=bE l q
 | []=>rfl
 | x::l=>by
  rw[aA8]
  split
  ·rename_i h
   rw[dU,dU,if_neg (show ¬ x.pid=q by omega),if_neg (by omega)]
  ·rw[dU,dU,aJf pid q hne l]
def wJ (l:List ProdD) (b:BatD) (base:Int):ProdD:=⟨b.pid,b.epoch,dQ b,kB l b base⟩
structure OkT (l:List ProdD) (b:BatD):Prop where
 err:(aN l b).2.2=0
 dup:(aN l b).2.1=false
theorem OkT.val {l:List ProdD} {b:BatD} (h:OkT l b) (base:Int) (hb : -1≤base∧base≤1048576):(aJ l b base).1=cM l (wJ l b base) :=
 (pO ((mN l b base hb).2 ⟨h.err,h.dup⟩)).2.2.2
theorem OkT.known {l:List ProdD} {b:BatD} (h:OkT l b) (base:Int) (hb : -1≤base∧base≤1048576):bB (wJ l b base)=true :=
 tA (by simp only[Bool.or_eq_false_iff,decide_eq_false_iff_not];omega) h.err h.dup
theorem OkT.not {l:List ProdD} {b:BatD}:((aN l b).2.2≠0∨(aN l b).2.1=true) ↔ ¬ OkT l b:=by
 constructor
 ·rintro (h|h) h2
  ·exact h h2.err
  ·rw[h2.dup] at h;cases h
 ·intro h
  by_cases h1:(aN l b).2.2=0
  ·right
   cases h2:(aN l b).2.1 with
   | true=>rfl
   | false=>exact absurd ⟨h1,h2⟩ h
  ·exact .inl h1
theorem nD {l:List OpenD} {pid:Int}:(bX l pid=true∧∃ o,l[aQ l pid]? = some o∧dR pid l=some o)∨(bX l pid=false∧dR pid l=none):=by
 have h:=aH4 pid l
 cases ho:bX l pid with
 | false=>right;rw[ho] at h;exact⟨rfl,h⟩
 | true =>
  obtain⟨o,hi,_⟩:=tD ho
  left;rw[ho,hi] at h;exact⟨rfl,o,hi,h⟩
theorem qC {p q:PartD} {b:BatD} (ht:b.txn=true):kE p b=some q ↔ OkT p.prods b∧(∀ o,dR b.pid p.opens=some o→o.epoch=b.epoch∧o.bats.length<8)∧q = { p with prods:=cM p.prods (wJ p.prods b (-1)),opens:=nL b p.opens }:=by
 unfold kE
 by_cases hc:OkT p.prods b
 ·rw[if_neg (by rw[OkT.not];exact fun h=>h hc),hc.val (-1) (by omega)]
  rcases nD (l:=p.opens) (pid:=b.pid) with ⟨h1,o,h2,h3⟩|⟨h1,h3⟩
  ·simp only[h1,h2,h3,aEc b o p.opens h3]
   by_cases hx:b.txn=false∨o.epoch≠b.epoch∨8≤o.bats.length
   ·rw[if_pos hx]
    constructor
    ·intro h;cases h
    ·rintro⟨_,h,_⟩
     obtain⟨a1,a2⟩:=h o rfl
     rcases hx with hx|hx|hx
     ·rw[ht] at hx;cases hx
     ·exact absurd a1 hx
     ·omega
   ·rw[if_neg hx]
    constructor
    ·intro h;cases h
     refine⟨hc,fun o' ho=>?_,rfl⟩
     cases ho
     refine⟨Decidable.not_not.1 (fun h=>hx (.inr (.inl h))),?_⟩
     rcases Nat.lt_or_ge o.bats.length 8 with h|h
     ·exact h
     ·exact absurd (.inr (.inr h)) hx
    ·rintro⟨_,_,rfl⟩;rfl
  ·simp only[h1,h3,xR b p.opens h3]
   rw[if_neg (by rw[ht];simp)]
   constructor
   ·intro h;cases h
    exact⟨hc,fun o ho=>(by cases ho),rfl⟩
   ·rintro⟨_,_,rfl⟩;rfl
 ·rw[if_pos (OkT.not.2 hc)]
  constructor
  ·intro h;cases h
  ·rintro⟨h,_⟩;exact absurd h hc
theorem aB9 {p q:PartD} {b:BatD} (ht:b.txn=false) (hf:0≤p.fin∧p.fin≤1048576):kE p b=some q ↔ OkT p.prods b∧dR b.pid p.opens=none∧p.fin+(b.recs.length:Int)≤1048576∧q = { p with prods:=cM p.prods (wJ p.prods b p.fin),rows:=p.rows++cB b p.fin,fin:=p.fin+(b.recs.length:Int) }:=by
 unfold kE
 by_cases hc:OkT p.prods b
 ·rw[if_neg (by rw[OkT.not];exact fun h=>h hc),hc.val p.fin (by omega)]
  rcases nD (l:=p.opens) (pid:=b.pid) with ⟨h1,o,h2,h3⟩|⟨h1,h3⟩
  ·simp only[h1,h2,h3]
   rw[if_pos (.inl ht)]
   constructor
   ·intro h;cases h
   ·rintro⟨_,h,_⟩;cases h
  ·simp only[h1,h3]
   rw[if_pos ht]
   by_cases hx:1048576<p.fin+(b.recs.length:Int)
   ·rw[if_pos hx]
    constructor
    ·intro h;cases h
    ·rintro⟨_,_,h,_⟩;omega
   ·rw[if_neg hx]
    constructor
    ·intro h;cases h
     exact⟨hc,by trivial,by omega,rfl⟩
    ·rintro⟨_,_,_,rfl⟩;rfl
 ·rw[if_pos (OkT.not.2 hc)]
  constructor
  ·intro h;cases h
  ·rintro⟨h,_⟩;exact absurd h hc
theorem aSn {p q:PartD} {b:BatD} {yes:Bool}:wD p b yes=some q ↔ ∃ o,dR b.pid p.opens=some o∧o.epoch=b.epoch∧p.fin+(cY (if yes then o.bats else []):Nat)+1≤1048576 ∧
  q = { jE p (if yes then o.bats else []) with fin:=(jE p (if yes then o.bats else [])).fin+1,opens:=aGu b.pid p.opens,prods:=dT p.prods b.pid }:=by
 unfold wD
 rcases nD (l:=p.opens) (pid:=b.pid) with ⟨h1,o,h2,h3⟩|⟨h1,h3⟩
 ·simp only[h1,h2,h3,aNx b.pid o p.opens h3]
  by_cases he:o.epoch=b.epoch
  ·rw[if_neg (fun h:o.epoch≠b.epoch=>h he)]
   by_cases hx:1048576<p.fin+(cY (if yes then o.bats else []):Nat)+1
   ·rw[if_pos hx]
    constructor
    ·intro h;cases h
    ·rintro⟨o',ho,_,h,_⟩;cases ho;omega
   ·rw[if_neg hx]
    constructor
    ·intro h;cases h
     exact⟨o,rfl,he,by omega,rfl⟩
    ·rintro⟨o',ho,_,_,rfl⟩;cases ho;rfl
  ·rw[if_pos (show o.epoch≠b.epoch from he)]
   constructor
   ·intro h;cases h
   ·rintro⟨o',ho,h,_⟩;cases ho;exact absurd h he
 ·simp only[h1,h3]
  constructor
  ·intro h;cases h
  ·rintro⟨o,ho,_⟩;cases ho
theorem yR {p q:PartD} {e:EntD} (h:bO p e=some q):aK e=true:=by
 unfold bO at h
 cases ho:aK e with
 | true=>rfl
 | false=>rw[ho,if_pos rfl] at h;cases h
theorem tK {p:PartD} {e:EntD} (ho:aK e=true) (he:e.kind=0):bO p e=kE p e.b:=by
 unfold bO;simp[ho,he]
theorem aR9 {p:PartD} {e:EntD} (ho:aK e=true) (he:e.kind=1):bO p e=wD p e.b e.yes:=by
 unfold bO;simp[ho,he]
theorem sV (p q:PartD) (e:EntD) (l:List EntD) (h:bO p e=some q):eS p (e::l)=eS q l:=by
 rw[eS,h]
def aNr (pid:Int) (l:List OpenD):List BatD:=match dR pid l with
 | some o=>o.bats
 | none=>[]
theorem rV (b:BatD):∀ l:List OpenD,∃ o,dR b.pid (nL b l)=some o∧o.bats=aNr b.pid l++[b]
 | []=>⟨⟨b.pid,b.epoch,[b]⟩,by simp[nL,dR],rfl⟩
 | x::l=>by
  obtain⟨o,h1,h2⟩:=rV b l
  unfold aNr at h2 ⊢
  rw[nL,dR]
  by_cases h:b.pid≤x.pid
  ·rw[if_pos h,if_pos h]
   by_cases h3:x.pid=b.pid
   ·rw[if_pos h3,if_pos h3,dR,if_pos (show b.pid≤x.pid from h),if_pos (show x.pid=b.pid from h3)]
    exact⟨_,rfl,rfl⟩
   ·rw[if_neg h3,if_neg h3,dR,if_pos (Int.le_refl _),if_pos rfl]
    exact⟨_,rfl,rfl⟩
  ·rw[if_neg h,if_neg h,dR,if_neg h]
   exact⟨o,h1,h2⟩
theorem rW (q:Int):∀ l:List OpenD,l.Pairwise (fun a b=>a.pid<b.pid)→dR q (aGu q l)=none
 | [],_=>rfl
 | x::l,hp=>by
  rw[List.pairwise_cons] at hp
  rw[aGu]
  by_cases h:q≤x.pid
  ·rw[if_pos h]
   by_cases h3:x.pid=q
   ·rw[if_pos h3]
    exact aVz (fun y hy=>by have:=hp.1 y hy;omega)
   ·rw[if_neg h3,dR,if_pos h,if_neg h3]
  ·rw[if_neg h,dR,if_neg h]
   exact rW q l hp.2
theorem aRa {p q:PartD} {e:EntD} (h:bO p e=some q) (h0:e.kind≠0) (h1:e.kind≠1):q.opens=p.opens:=by
 have ho:=yR h
 unfold bO at h
 rw[ho,if_neg (by simp),if_neg h0,if_neg h1] at h
 split at h
 ·split at h
  ·cases h
  ·cases h;rfl
 split at h
 ·cases h
 split at h
 ·cases h
 split at h
 ·split at h
  ·cases h
  ·cases h;rfl
 ·split at h
  ·cases h
  ·cases h;rfl
def hZ {α:Type} (l:List α):List α:=l.drop (l.length - 3)
theorem aFb {α:Type} (a b:List α):hZ (hZ a++b)=hZ (a++b):=by
 unfold hZ
 rw[List.length_append,List.length_drop,List.length_append,List.drop_append,List.drop_append,List.drop_drop,List.length_drop]
 by_cases h:a.length≤3
 ·rw[show a.length - 3=0 by omega,show a.length - 0+b.length - 3=a.length+b.length - 3 by omega,Nat.zero_add,Nat.sub_zero]
 ·rw[show a.length - (a.length - 3)=3 by omega,show 3+b.length - 3=b.length by omega,show a.length - 3+b.length=a.length+b.length - 3 by omega,show b.length - 3=a.length+b.length - 3 - a.length by omega]
def jY (b:BatD):SeenD:=⟨b.seq,(b.recs.length:Int),-1⟩
theorem uM (l:List ProdD) (b:BatD):kB l b (-1)=hZ (pB l b++[jY b]):=by
 unfold kB hZ jY
 rw[List.length_append,List.length_singleton,show (pB l b).length+1 - 3=(pB l b).length - 2 by omega]
def uA:Int→List BatD→Int→Prop
 | s,[],e=>s=e
 | s,b::l,e=>b.seq=s∧uA (dQ b) l e
theorem zC:∀ (l:List BatD) (s e:Int) (b:BatD),uA s l e→b.seq=e→uA s (l++[b]) (dQ b)
 | [],s,e,b,h,hb=>⟨by rw[hb];exact h.symm,rfl⟩
 | x::l,s,e,b,h,hb=>⟨h.1,zC l (dQ x) e b h.2 hb⟩
def kC (o:OpenD):Int:=match o.bats with
 | b::_=>b.seq
 | []=>0
structure Link (q:ProdD) (o:OpenD):Prop where
 pid:q.pid=o.pid
 epoch:q.epoch=o.epoch
 some:o.bats≠[]
 bats:∀ b ∈ o.bats,dK b=true∧b.txn=true∧b.pid=o.pid∧b.epoch=o.epoch
 chain:uA (kC o) o.bats q.next
 seen:∃ S:List SeenD,(∀ s ∈ S,s.seq<kC o)∧q.seen=hZ (S++o.bats.map jY)
structure BOk (p:PartD):Prop where
 rows:∀ r ∈ p.rows,(0≤r.off∧r.off≤1048576)∧lN { r with off:=0 }=true
 link:∀ o ∈ p.opens,∃ q,bE p.prods o.pid=(q,true)∧Link q o
theorem bBs:BOk pZ:=⟨fun r h=>by simp[pZ] at h,fun o h=>by simp[pZ] at h⟩
theorem aRv:∀ (l:List SeenD) (b:Int),lX l b=true→∀ s ∈ l,s.seq<b
 | [],_,_,s,h=>by simp at h
 | x::l,b,h,s,hs=>by
  rw[lX,Bool.and_eq_true] at h
  have h1:=h.1
  simp only[lW,aDs,aGg,Bool.not_eq_true',Bool.or_eq_false_iff,decide_eq_false_iff_not] at h1
  rcases List.mem_cons.1 hs with rfl|hs
  ·omega
  ·have:=aRv l x.seq h.2 s hs
   omega
theorem aJs {p:ProdD} (h:bB p=true):∀ s ∈ p.seen,s.seq<p.next:=fun s hs=>by
 unfold bB at h
 rw[Bool.and_eq_true] at h
 exact aRv _ _ h.2 s (List.mem_reverse.2 hs)
theorem aEt (p:ProdD):∀ (l:List ProdD) (b:Int),jB l b=true→bE (eI p l) p.pid=(p,true)
 | [],_,_=>by rw[eI,dU,if_pos rfl]
 | x::l,b,h=>by
  rw[jB,Bool.and_eq_true] at h
  rw[eI]
  by_cases h1:p.pid≤x.pid
  ·rw[if_pos h1]
   split
   ·rw[dU,if_pos rfl]
   ·rw[dU,if_pos rfl]
  ·rw[if_neg h1,dU,if_neg (by omega)]
   exact aEt p l x.pid h.2
theorem aBh {l:List ProdD} (p:ProdD) (h:gH l=true):bE (cM l p) p.pid=(p,true):=by
 rw[dI];exact aEt p l 0 h
theorem aQ1 {l:List ProdD} (q pid:Int) (hne:q≠pid):bE (dT l pid) q=bE l q:=by
 rw[nS];exact aJf pid q hne l
theorem mX {l:List OpenD} (hp:l.Pairwise (fun a b=>a.pid<b.pid)) {o:OpenD} (ho:o ∈ l):dR o.pid l=some o:=by
 induction l with
 | nil=>cases ho
 | cons x l ih =>
  rw[List.pairwise_cons] at hp
  rw[dR]
  rcases List.mem_cons.1 ho with rfl|ho
  ·rw[if_pos (Int.le_refl _),if_pos rfl]
  ·have:=hp.1 o ho
   rw[if_neg (by omega)]
   exact ih hp.2 ho
theorem oX {pid:Int} {o:OpenD}:∀ {l:List OpenD},dR pid l=some o→o ∈ l
 | [],h=>by cases h
 | x::l,h=>by
  rw[dR] at h
  split at h
  ·split at h
   ·cases h;exact List.mem_cons_self ..
   ·cases h
  ·exact List.mem_cons_of_mem _ (oX h)
theorem wF {b:BatD} {o:OpenD}:∀ {l:List OpenD},o ∈ nL b l→(o ∈ l∧o.pid≠b.pid)∨(∃ x,dR b.pid l=some x∧o=⟨x.pid,x.epoch,x.bats++[b]⟩)∨(dR b.pid l=none∧o=⟨b.pid,b.epoch,[b]⟩)∨(o ∈ l∧o.pid=b.pid)
 | [],h=>by
  simp only[nL,List.mem_singleton] at h
  exact .inr (.inr (.inl ⟨rfl,h⟩))
 | x::l,h=>by
  have hsp:∀ {m:List OpenD},o ∈ m→(o ∈ m∧o.pid≠b.pid)∨(o ∈ m∧o.pid=b.pid):=fun hm=>(Decidable.em (o.pid=b.pid)).elim (fun e=>.inr ⟨hm,e⟩) (fun e=>.inl ⟨hm,e⟩)
  rw[nL] at h
  rw[dR]
  by_cases h1:b.pid≤x.pid
  ·rw[if_pos h1] at h
   by_cases h2:x.pid=b.pid
   ·rw[if_pos h2] at h
    rcases List.mem_cons.1 h with h|h
    ·right;left;exact⟨x,by rw[if_pos h1,if_pos h2],h⟩
    ·rcases hsp (List.mem_cons_of_mem x h) with h|h
     ·exact .inl h
     ·exact .inr (.inr (.inr h))
   ·rw[if_neg h2] at h
    rcases List.mem_cons.1 h with h|h
    ·right;right;left;exact⟨by rw[if_pos h1,if_neg h2],h⟩
    ·rcases hsp h with h|h
     ·exact .inl h
     ·exact .inr (.inr (.inr h))
  ·rw[if_neg h1] at h
   rcases List.mem_cons.1 h with h|h
   ·left;exact⟨h ▸ List.mem_cons_self ..,by rw[h];omega⟩
   ·rcases wF h with ⟨h,e⟩|⟨y,hy,e⟩|⟨hy,e⟩|⟨h,e⟩
    ·exact .inl ⟨List.mem_cons_of_mem _ h,e⟩
    ·right;left;exact⟨y,by rw[if_neg h1];exact hy,e⟩
    ·right;right;left;exact⟨by rw[if_neg h1];exact hy,e⟩
    ·exact .inr (.inr (.inr ⟨List.mem_cons_of_mem _ h,e⟩))
theorem aK4 {pid:Int} {o:OpenD}:∀ {l:List OpenD},o ∈ aGu pid l→o ∈ l
 | [],h=>h
 | x::l,h=>by
  rw[aGu] at h
  split at h
  ·split at h
   ·exact List.mem_cons_of_mem _ h
   ·exact h
  ·rcases List.mem_cons.1 h with h|h
   ·exact h ▸ List.mem_cons_self ..
   ·exact List.mem_cons_of_mem _ (aK4 h)
theorem aQd {k:Nat} {p:PartD} {b:BatD} (hM:FOkM k p) (hB:BOk p) (ht:b.txn=true) (hk:OkT p.prods b) (ho:∀ o,dR b.pid p.opens=some o→o.epoch=b.epoch∧o.bats.length<8) {o:OpenD} (hg:dR b.pid (nL b p.opens)=some o):Link (wJ p.prods b (-1)) o:=by
 obtain⟨c1,c2,c3,c4⟩:=vQ hk.err hk.dup
 have hnew:(wJ p.prods b (-1)).seen=hZ (pB p.prods b++[jY b]):=uM _ _
 cases hx:dR b.pid p.opens with
 | none =>
  have hadd:=xR b p.opens hx
  have hos:o=⟨b.pid,b.epoch,[b]⟩:=by
   rcases wF (oX hg) with ⟨_,h⟩|⟨x,h,_⟩|⟨_,h⟩|⟨h,e⟩
   ·exact absurd (oT hg) h
   ·rw[hx] at h;cases h
   ·exact h
   ·have:=mX hM.ok.rise h
    rw[e,hx] at this;cases this
  subst hos
  refine⟨rfl,rfl,by simp,fun x hx=>by simp at hx;subst hx;exact⟨c4,ht,rfl,rfl⟩,⟨rfl,rfl⟩,pB p.prods b,fun s hs=>?_,by rw[hnew];rfl⟩
  show s.seq<b.seq
  rw[c1] at hs
  rw[c2]
  unfold uC at hs ⊢
  split at hs
  ·simp at hs
  ·rename_i hc
   rw[if_neg hc]
   cases hf:bE p.prods b.pid with
   | mk q kn =>
    rw[hf] at hs hc
    cases kn with
    | false=>simp at hc
    | true=>exact aJs (mL c3 q (kK hf)) s hs
 | some x =>
  have hxp:=oT hx
  obtain⟨he,_⟩:=ho x hx
  have hos:o=⟨x.pid,x.epoch,x.bats++[b]⟩:=by
   rcases wF (oX hg) with ⟨_,h⟩|⟨y,h,e⟩|⟨h,_⟩|⟨h,e⟩
   ·exact absurd (oT hg) h
   ·rw[hx] at h;cases h;exact e
   ·rw[hx] at h;cases h
   ·exfalso
    have h1:=mX hM.ok.rise h
    rw[e,hx] at h1
    cases h1
    obtain⟨y,hy1,hy2⟩:=rV b p.opens
    rw[hg] at hy1
    cases hy1
    have:_=(aNr b.pid p.opens++[b]).length:=congrArg List.length hy2
    unfold aNr at this
    rw[hx,List.length_append] at this
    simp at this
  obtain⟨q,hq,hl⟩:=hB.link x (oX hx)
  rw[hxp] at hq
  have hqe:q.epoch=b.epoch:=hl.epoch.trans he
  have hold:pB p.prods b=q.seen:=by
   unfold pB
   rw[hq]
   simp[hqe]
  have heff:uC p.prods b=q:=by
   unfold uC
   rw[hq]
   simp[hqe]
  rw[heff] at c2
  obtain⟨S,hS1,hS2⟩:=hl.seen
  have hseq:kC o=kC x:=by
   rw[hos]
   unfold kC
   cases hb:x.bats with
   | nil=>exact absurd hb hl.some
   | cons y l=>rfl
  rw[hos] at hseq ⊢
  refine⟨hxp.symm,he.symm,by simp,fun y hy=>?_,?_,S,fun s hs=>by rw[hseq];exact hS1 s hs,?_⟩
  ·rcases List.mem_append.1 hy with hy|hy
   ·exact hl.bats y hy
   ·simp at hy;subst hy;exact⟨c4,ht,hxp.symm,he.symm⟩
  ·rw[hseq]
   exact zC x.bats (kC x) q.next b hl.chain c2
  ·rw[hnew,hold,hS2,aFb,List.map_append,List.append_assoc];rfl
theorem aQx {b:BatD} {n:Int} {r:RowD} (h:r ∈ cB b n):∃ (i:Nat) (x:RecD),b.recs[i]? = some x∧r=rE b n i:=by
 unfold cB oB at h
 obtain⟨i,hi,rfl⟩:=List.mem_map.1 h
 rw[List.mem_range] at hi
 exact⟨i,b.recs[i],List.getElem?_eq_getElem hi,rfl⟩
theorem xD {b:BatD} {n:Int} (hb:dK b=true) (hn:0≤n∧n+(b.recs.length:Int)≤1048576):∀ r ∈ cB b n,(0≤r.off∧r.off≤1048576)∧lN { r with off:=0 }=true:=fun r hr=>by
 obtain⟨i,x,hi,rfl⟩:=aQx hr
 obtain⟨hlt,_⟩:=List.getElem?_eq_some_iff.1 hi
 have hmem:x ∈ b.recs:=List.mem_of_getElem? hi
 unfold dK at hb
 simp only[Bool.and_eq_true,Bool.not_eq_true',Bool.or_eq_false_iff,decide_eq_false_iff_not] at hb
 obtain⟨⟨⟨⟨⟨p1,p2⟩,p3,p4⟩,p5,p6⟩,p7,p8⟩,p9⟩:=hb
 have hx:mR x=false:=by
  rw[List.any_eq_false] at p9
  simpa using p9 x hmem
 unfold mR at hx
 simp only[Bool.or_eq_false_iff,decide_eq_false_iff_not] at hx
 have w1:IntKind.i64.wrap (n+(i:Int))=n+(i:Int):=aT (by omega)
 have w2:IntKind.i64.wrap (b.seq+(i:Int))=b.seq+(i:Int):=aT (by omega)
 have hr2:rE b n i=⟨n+(i:Int),b.pid,b.seq+(i:Int),x.key,x.value⟩:=by
  simp only[rE,hi,w1,w2]
  rw[if_neg (by omega)]
 rw[hr2]
 refine⟨⟨by show 0≤n+(i:Int);omega,by show n+(i:Int)≤_;omega⟩,?_⟩
 simp only[lN,gY,Bool.and_eq_true,decide_eq_true_eq,beq_iff_eq]
 refine⟨⟨⟨⟨⟨by trivial,⟨⟨⟨by omega,by omega⟩,by omega⟩,by omega⟩⟩,by omega⟩,by omega⟩,by omega⟩,by omega⟩
theorem aFq {k:Nat}:∀ (l:List BatD) (p:PartD),(∀ b ∈ l,dK b=true)→0≤p.fin→p.fin+(cY l:Nat)≤1048576→(∀ r ∈ p.rows,(0≤r.off∧r.off≤1048576)∧lN { r with off:=0 }=true)→∀ r ∈ (jE p l).rows,(0≤r.off∧r.off≤1048576)∧lN { r with off:=0 }=true
 | [],p,_,_,_,h=>h
 | b::l,p,hb,h0,hs,h=>by
  simp only[cY,Int.natCast_add] at hs
  refine aFq (k:=k) l { p with rows:=p.rows++cB b p.fin,fin:=p.fin+(b.recs.length:Int) } (fun x hx=>hb x (List.mem_cons_of_mem _ hx)) (by show 0≤p.fin+_;omega) (by show p.fin+_+_≤_;omega) (fun r hr=>?_)
  rcases List.mem_append.1 hr with hr|hr
  ·exact h r hr
  ·exact xD (hb b (List.mem_cons_self ..)) (by omega) r hr
theorem aUg {k:Nat} {p q:PartD} {e:EntD} (hM:FOkM k p) (hB:BOk p) (h:bO p e=some q):BOk q:=by
 have ho:=yR h
 have hM2:=aD9 hM h
 have hfin:=hM.fin
 by_cases h0:e.kind=0
 ·rw[tK ho h0] at h
  cases ht:e.b.txn with
  | false =>
   obtain⟨k1,k2,k3,rfl⟩:=(aB9 ht hfin).1 h
   have hbb:=(vQ k1.err k1.dup).2.2.2
   refine⟨fun r hr=>?_,fun o hoo=>?_⟩
   ·rcases List.mem_append.1 hr with hr|hr
    ·exact hB.rows r hr
    ·exact xD hbb (by omega) r hr
   ·obtain⟨x,hx,hl⟩:=hB.link o hoo
    have hne:e.b.pid≠o.pid:=fun e1=>by
     have:=mX hM.ok.rise hoo
     rw[← e1,k2] at this;cases this
    exact⟨x,by show bE (cM _ _) _=_;rw[oS _ _ _ hne];exact hx,hl⟩
  | true =>
   obtain⟨k1,k2,rfl⟩:=(qC ht).1 h
   refine⟨hB.rows,fun o hoo=>?_⟩
   by_cases hp:o.pid=e.b.pid
   ·have hg:=mX hM2.ok.rise hoo
    rw[hp] at hg
    refine⟨_,?_,aQd hM hB ht k1 k2 hg⟩
    show bE (cM _ _) _=_
    rw[hp]
    exact aBh (wJ p.prods e.b (-1)) hM.may
   ·have hoo' : o ∈ p.opens:=by
     rcases wF hoo with ⟨h,_⟩|⟨x,hx,e1⟩|⟨_,e1⟩|⟨h,_⟩
     ·exact h
     ·exfalso;apply hp;rw[e1];exact oT (pid:=e.b.pid) (o:=x) hx
     ·exfalso;apply hp;rw[e1]
     ·exact h
    obtain⟨x,hx,hl⟩:=hB.link o hoo'
    exact⟨x,by show bE (cM _ _) _=_;rw[oS _ _ _ (fun e1=>hp e1.symm)];exact hx,hl⟩
 by_cases h1:e.kind=1
 ·rw[aR9 ho h1] at h
  obtain⟨o,g1,g2,g3,rfl⟩:=aSn.1 h
  obtain⟨x,hx,hl⟩:=hB.link o (oX g1)
  refine⟨?_,fun y hy=>?_⟩
  ·show ∀ r ∈ (jE p _).rows,_
   refine aFq (k:=k) _ p (fun b hb=>?_) hfin.1 (by omega) hB.rows
   split at hb
   ·exact (hl.bats b hb).1
   ·simp at hb
  ·have hyl:y ∈ aGu e.b.pid p.opens:=hy
   have hne:y.pid≠e.b.pid:=fun e1=>by
    have h3:=mX hM2.ok.rise hy
    have h4:=rW e.b.pid p.opens hM.ok.rise
    rw[e1] at h3
    exact absurd (h3.symm.trans h4) (by simp)
   obtain⟨z,hz,hzl⟩:=hB.link y (aK4 hyl)
   exact⟨z,by show bE (dT _ _) _=_;rw[aQ1 _ _ hne];exact hz,hzl⟩
 ·have hop:=aRa h h0 h1
  unfold bO at h
  rw[ho,if_neg (by simp),if_neg h0,if_neg h1] at h
  split at h
  ·split at h
   ·cases h
   ·cases h
    exact⟨fun r hr=>hB.rows r ((List.mem_filter.1 hr).1),hB.link⟩
  split at h
  ·cases h
  split at h
  ·cases h
  split at h
  ·rename_i h5
   split at h
   ·cases h
   ·rename_i hx
    cases h
    refine⟨fun r hr=>?_,hB.link⟩
    rcases List.mem_append.1 hr with hr|hr
    ·exact hB.rows r hr
    ·simp at hr
     subst hr
     refine⟨⟨by show 0≤p.fin;omega,by show p.fin≤_;omega⟩,?_⟩
     simp only[aK,Bool.and_eq_true,decide_eq_true_eq] at ho
     have hm2:=ho.2
     unfold qK at hm2
     rw[if_neg (by omega),if_neg (by omega),if_neg (by omega),if_neg (by omega),if_neg (by omega),if_pos h5,Bool.and_eq_true] at hm2
     have h7:=hm2.1
     simp only[lN,Bool.and_eq_true,beq_iff_eq] at h7 ⊢
     exact⟨⟨⟨⟨⟨by trivial,h7.1.1.1.1.2⟩,h7.1.1.1.2⟩,h7.1.1.2⟩,h7.1.2⟩,h7.2⟩
  ·split at h
   ·cases h
   ·rename_i hob
    cases h
    refine⟨hB.rows,fun o hoo=>?_⟩
    obtain⟨x,hx,hl⟩:=hB.link o hoo
    have hne:e.prod.pid≠o.pid:=fun e1=>by
     have h3:=mX hM.ok.rise hoo
     rcases nD (l:=p.opens) (pid:=e.prod.pid) with ⟨h4,_⟩|⟨_,h4⟩
     ·exact hob h4
     ·rw[e1] at h4;rw[h3] at h4;cases h4
    exact⟨x,by show bE (cM _ _) _=_;rw[oS _ _ _ hne];exact hx,hl⟩
theorem aBk:∀ (l:List EntD) (k:Nat) (p p' : PartD),FOkM k p→BOk p→eS p l=some p'→BOk p'
 | [],k,p,p',_,h,hm=>by cases hm;exact h
 | e::l,k,p,p',hM,h,hm=>by
  unfold eS at hm
  split at hm
  ·rename_i q hq
   exact aBk l (k+1) q p' (aD9 hM hq) (aUg hM h hq) hm
  ·cases hm
def dF (l:List OpenD) (q:ProdD):ProdD:=match dR q.pid l with
 | some o=>(match o.bats with
  | b::_=>⟨q.pid,q.epoch,b.seq,q.seen.filter fun s=>decide (s.seq<b.seq)⟩
  | []=>q)
 | none=>q
def pI (r:RowD):EntD:=⟨5,kA,false,0,0,{ r with off:=0 },dA⟩
def nZ (q:ProdD):EntD:=⟨6,kA,false,0,0,lJ,q⟩
def dZ (b:BatD):EntD:=⟨0,b,false,0,0,lJ,dA⟩
def tN (p:PartD):List EntD:=p.rows.map pI++p.prods.map (fun q=>nZ (dF p.opens q))++p.opens.flatMap fun o=>o.bats.map dZ
def lM:Int→List RowD→List RowD
 | _,[]=>[]
 | n,r::l=>{ r with off:=n }::lM (n+1) l
theorem aCf {r:RowD} (h:lN { r with off:=0 }=true):aK (pI r)=true:=by
 simp[aK,qK,pI,h,zE]
theorem aKc {q:ProdD} (h:bB q=true):aK (nZ q)=true:=by
 simp[aK,qK,nZ,h,zE,dA]
theorem uN {b:BatD} (h:dK b=true):aK (dZ b)=true:=by
 simp[aK,qK,dZ,h,zE,kA]
theorem aF2:∀ (l:List RowD) (p:PartD),(∀ r ∈ l,lN { r with off:=0 }=true)→p.fin+(l.length:Int)≤1048576→eS p (l.map pI)=some { p with rows:=p.rows++lM p.fin l,fin:=p.fin+(l.length:Int) }
 | [],p,_,_=>by simp[eS,lM]
 | r::l,p,h,hf=>by
  rw[List.length_cons] at hf
  have ho:=aCf (h r (List.mem_cons_self ..))
  have hs:bO p (pI r)=some { p with rows:=p.rows++[{ r with off:=p.fin }],fin:=p.fin+1 }:=by
   have hk:(pI r).kind=5:=rfl
   unfold bO
   rw[ho,if_neg (by simp),hk,if_neg (by decide),if_neg (by decide),if_neg (by decide),if_neg (by decide),if_neg (by decide),if_pos rfl,if_neg (by omega)]
   rfl
  rw[List.map_cons,sV _ _ _ _ hs,aF2 l _ (fun x hx=>h x (List.mem_cons_of_mem _ hx)) (by show p.fin+1+_≤_;omega)]
  simp only[lM,List.append_assoc,List.cons_append,List.nil_append,List.length_cons,Int.natCast_add,Int.natCast_one]
  rw[Int.add_assoc,Int.add_comm 1]
theorem aBl:∀ (l:List ProdD) (p:PartD),p.opens=[]→(∀ q ∈ l,bB q=true)→eS p (l.map nZ)=some { p with prods:=l.foldl cM p.prods }
 | [],p,_,_=>rfl
 | q::l,p,ho,h=>by
  have hk:=aKc (h q (List.mem_cons_self ..))
  have hs:bO p (nZ q)=some { p with prods:=cM p.prods q }:=by
   have hk6:(nZ q).kind=6:=rfl
   have hob:¬ bX p.opens (nZ q).prod.pid=true:=by rw[ho];simp[bX]
   unfold bO
   rw[hk,if_neg (by simp),hk6,if_neg (by decide),if_neg (by decide),if_neg (by decide),if_neg (by decide),if_neg (by decide),if_neg (by decide),if_neg hob]
   rfl
  rw[List.map_cons,sV _ _ _ _ hs,aBl l { p with prods:=cM p.prods q } ho (fun x hx=>h x (List.mem_cons_of_mem _ hx))]
  rfl
theorem aF6 (q:ProdD):∀ l:List ProdD,(∀ x ∈ l,x.pid<q.pid)→eI q l=l++[q]
 | [],_=>rfl
 | x::l,h=>by
  have:=h x (List.mem_cons_self ..)
  rw[eI,if_neg (by omega),aF6 q l (fun y hy=>h y (List.mem_cons_of_mem _ hy))];rfl
theorem aOg:∀ (l a:List ProdD),(a++l).Pairwise (fun x y=>x.pid<y.pid)→l.foldl cM a=a++l
 | [],a,_=>by simp
 | q::l,a,h=>by
  have h1:∀ x ∈ a,x.pid<q.pid:=fun x hx=>(List.pairwise_append.1 h).2.2 x hx q (List.mem_cons_self ..)
  rw[List.foldl_cons,dI,aF6 q a h1,aOg l (a++[q]) (by rw[List.append_assoc];exact h),List.append_assoc];rfl
theorem tB:∀ (l:List ProdD) (b:Int),jB l b=true→l.Pairwise (fun x y=>x.pid<y.pid)
 | [],_,_=>List.Pairwise.nil
 | x::l,b,h=>by
  rw[jB,Bool.and_eq_true] at h
  exact List.Pairwise.cons (aHb l x.pid h.2) (tB l x.pid h.2)
theorem aK3 (f:ProdD→ProdD) (hp:∀ x,(f x).pid=x.pid):∀ (l:List ProdD) (b:Int),(∀ x ∈ l,bB (f x)=true)→jB l b=true→jB (l.map f) b=true
 | [],_,_,_=>rfl
 | x::l,b,hk,h=>by
  rw[jB,Bool.and_eq_true] at h
  have h1:=h.1
  simp only[Bool.not_eq_true',Bool.or_eq_false_iff] at h1
  rw[List.map_cons,jB,hp,aK3 f hp l x.pid (fun y hy=>hk y (List.mem_cons_of_mem _ hy)) h.2,hk x (List.mem_cons_self ..),h1.1];rfl
theorem aEu (f:ProdD→ProdD) (hp:∀ x,(f x).pid=x.pid) (pid:Int) (q:ProdD):∀ l:List ProdD,bE l pid=(q,true)→bE (l.map f) pid=(f q,true)
 | [],h=>by simp[bE] at h
 | x::l,h=>by
  rw[dU] at h
  rw[List.map_cons,dU,hp]
  split at h
  ·rename_i hx;cases h;rw[if_pos hx]
  ·rename_i hx;rw[if_neg hx];exact aEu f hp pid q l h
theorem aJp (q:ProdD):∀ l:List ProdD,l.Pairwise (fun x y=>x.pid<y.pid)→(∃ x ∈ l,x.pid=q.pid)→eI q l=l.map fun x=>if x.pid=q.pid then q else x
 | [],_,h=>by obtain⟨x,hx,_⟩:=h;cases hx
 | x::l,hp,h=>by
  rw[List.pairwise_cons] at hp
  rw[eI,List.map_cons]
  by_cases h1:x.pid=q.pid
  ·rw[if_pos (by omega),if_pos h1,if_pos h1]
   congr 1
   symm
   rw[List.map_congr_left (g:=id) (fun y hy=>by have:=hp.1 y hy;rw[if_neg (by omega)];rfl)]
   simp
  ·obtain⟨y,hy,hyp⟩:=h
   rcases List.mem_cons.1 hy with rfl|hy
   ·exact absurd hyp h1
   ·have:=hp.1 y hy
    rw[if_neg (by omega),if_neg h1,aJp q l hp.2 ⟨y,hy,hyp⟩]
theorem aBr (p q:ProdD) (he:p.pid=q.pid):∀ l:List ProdD,eI q (eI p l)=eI q l
 | []=>by
  show eI q [p]=[q]
  rw[eI,if_pos (by omega),if_pos he]
 | x::l=>by
  have ih:=aBr p q he l
  rw[eI]
  by_cases h1:p.pid≤x.pid
  ·rw[if_pos h1]
   by_cases h2:x.pid=p.pid
   ·rw[if_pos h2,eI,if_pos (by omega),if_pos he,eI,if_pos (by omega),if_pos (by omega)]
   ·rw[if_neg h2,eI,if_pos (by omega),if_pos he,eI,if_pos (by omega),if_neg (by omega)]
  ·rw[if_neg h1,eI,if_neg (by omega),ih,eI,if_neg (by omega)]
theorem aN5 (l:List ProdD) (p q:ProdD) (he:p.pid=q.pid):cM (cM l p) q=cM l q:=by
 rw[dI,dI,dI,aBr p q he]
theorem aT2 {l:List ProdD} {b:BatD} {q:ProdD} (hm:gH l=true) (hb:dK b=true) (hf:bE l b.pid=(q,true)) (he:q.epoch=b.epoch) (hn:b.seq=q.next):OkT l b∧pB l b=q.seen:=by
 have hk:=mL hm q (kK hf)
 have hno:q.seen.find? (nG b)=none:=by
  rw[List.find?_eq_none]
  intro s hs
  have:=aJs hk s hs
  simp only[nG,Bool.and_eq_true,beq_iff_eq,not_and]
  intro h;omega
 have heff:uC l b=q:=by unfold uC;rw[hf];simp[he]
 have hc:aN l b=(-1,false,0):=by
  unfold aN mY
  rw[hm,hb,hf,heff]
  simp only[Bool.not_true,Bool.or_self,Bool.false_eq_true,if_false,Bool.true_and]
  rw[if_neg (by simp[he])]
  unfold aAc
  rw[hno]
  simp[hn]
 refine⟨⟨by rw[hc],by rw[hc]⟩,?_⟩
 unfold pB;rw[hf];simp[he]
theorem aEb (b:BatD):∀ (l:List OpenD),(∀ x ∈ l,x.pid<b.pid)→nL b l=l++[⟨b.pid,b.epoch,[b]⟩]
 | [],_=>rfl
 | x::l,h=>by
  have:=h x (List.mem_cons_self ..)
  rw[nL,if_neg (by omega),aEb b l (fun y hy=>h y (List.mem_cons_of_mem _ hy))];rfl
theorem aAs (b:BatD) (ep:Int) (pre:List BatD):∀ (l:List OpenD),(∀ x ∈ l,x.pid<b.pid)→nL b (l++[⟨b.pid,ep,pre⟩])=l++[⟨b.pid,ep,pre++[b]⟩]
 | [],_=>by rw[List.nil_append,nL,if_pos (Int.le_refl _),if_pos rfl];rfl
 | x::l,h=>by
  have:=h x (List.mem_cons_self ..)
  rw[List.cons_append,nL,if_neg (by omega),aAs b ep pre l (fun y hy=>h y (List.mem_cons_of_mem _ hy))];rfl
theorem aF4 (pid:Int):∀ (l:List OpenD),(∀ x ∈ l,x.pid<pid)→dR pid l=none
 | [],_=>rfl
 | x::l,h=>by
  have:=h x (List.mem_cons_self ..)
  rw[dR,if_neg (by omega),aF4 pid l (fun y hy=>h y (List.mem_cons_of_mem _ hy))]
theorem aBn (o:OpenD):∀ (l:List OpenD),(∀ x ∈ l,x.pid<o.pid)→dR o.pid (l++[o])=some o
 | [],_=>by rw[List.nil_append,dR,if_pos (Int.le_refl _),if_pos rfl]
 | x::l,h=>by
  have:=h x (List.mem_cons_self ..)
  rw[List.cons_append,dR,if_neg (by omega),aBn o l (fun y hy=>h y (List.mem_cons_of_mem _ hy))]
theorem zX (o:OpenD) (S:List SeenD) (e:Int) (done:List OpenD) (l:List ProdD) (hd:∀ x ∈ done,x.pid<o.pid) (hml:gH l=true)
  (hbats:∀ b ∈ o.bats,dK b=true∧b.txn=true∧b.pid=o.pid∧b.epoch=o.epoch) (hlen:o.bats.length≤8) :
  ∀ (rest pre:List BatD) (at_:Int) (p:PartD),pre≠[]→o.bats=pre++rest→uA at_ rest e →
   p.opens=done++[⟨o.pid,o.epoch,pre⟩]→p.prods=cM l ⟨o.pid,o.epoch,at_,hZ (S++pre.map jY)⟩→bB ⟨o.pid,o.epoch,at_,hZ (S++pre.map jY)⟩=true →
   eS p (rest.map dZ)=some { p with opens:=done++[o],prods:=cM l ⟨o.pid,o.epoch,e,hZ (S++o.bats.map jY)⟩ }
 | [],pre,at_,p,_,hsp,hch,ho,hp,_=>by
  rw[List.append_nil] at hsp
  rw[show at_=e from hch,← hsp] at hp
  rw[← hsp] at ho
  show some p=_
  rw[← hp,← ho]
 | b::rest,pre,at_,p,hne,hsp,hch,ho,hp,hk=>by
  obtain⟨hb1,hb2,hb3,hb4⟩:=hbats b (by rw[hsp];simp)
  have hm:gH p.prods=true:=by rw[hp];exact nU hml hk
  have hf:bE p.prods b.pid=(⟨o.pid,o.epoch,at_,hZ (S++pre.map jY)⟩,true):=by
   rw[hp,hb3]
   exact aBh ⟨o.pid,o.epoch,at_,hZ (S++pre.map jY)⟩ hml
  obtain⟨hok,hold⟩:=aT2 hm hb1 hf hb4.symm hch.1
  have hnew:wJ p.prods b (-1)=⟨o.pid,o.epoch,dQ b,hZ (S++(pre++[b]).map jY)⟩:=by
   unfold wJ
   rw[uM,hold,hb3,hb4,aFb,List.map_append,List.append_assoc];rfl
  have hg:dR b.pid p.opens=some ⟨o.pid,o.epoch,pre⟩:=by
   rw[ho,hb3]
   exact aBn ⟨o.pid,o.epoch,pre⟩ done hd
  have hpl:pre.length<8:=by
   have:o.bats.length=pre.length+(rest.length+1):=by rw[hsp,List.length_append,List.length_cons]
   omega
  have hstep:bO p (dZ b)=some { p with prods:=cM p.prods (wJ p.prods b (-1)),opens:=nL b p.opens }:=by
   rw[tK (uN hb1) rfl]
   exact (qC hb2).2 ⟨hok,fun x hx=>(by rw[hg] at hx;cases hx;exact⟨hb4.symm,hpl⟩),rfl⟩
  have hadd:nL b p.opens=done++[⟨o.pid,o.epoch,pre++[b]⟩]:=by
   rw[ho]
   have:=aAs b o.epoch pre done (fun x hx=>by rw[hb3];exact hd x hx)
   rw[hb3] at this
   exact this
  have hkn:=hok.known (-1) (by omega)
  rw[List.map_cons,sV _ _ _ _ hstep]
  rw[hnew] at hkn
  have hset:cM p.prods (wJ p.prods b (-1))=cM l ⟨o.pid,o.epoch,dQ b,hZ (S++(pre++[b]).map jY)⟩:=by
   rw[hnew,hp]
   exact aN5 l ⟨o.pid,o.epoch,at_,hZ (S++pre.map jY)⟩ ⟨o.pid,o.epoch,dQ b,hZ (S++(pre++[b]).map jY)⟩ rfl
  rw[zX o S e done l hd hml hbats hlen rest (pre++[b]) (dQ b) _ (by simp) (by rw[hsp,List.append_assoc];rfl) hch.2 hadd hset hkn]
theorem aKk (o:OpenD) (q:ProdD) (S:List SeenD) (done:List OpenD) (p:PartD) (hd:∀ x ∈ done,x.pid<o.pid) (hm:gH p.prods=true) (hne:o.bats≠[])
  (hbats:∀ b ∈ o.bats,dK b=true∧b.txn=true∧b.pid=o.pid∧b.epoch=o.epoch) (hlen:o.bats.length≤8) (hch:uA (kC o) o.bats q.next) (hS:S.length≤3)
  (hf:bE p.prods o.pid=(⟨o.pid,o.epoch,kC o,S⟩,true)) (hq:q=⟨o.pid,o.epoch,q.next,hZ (S++o.bats.map jY)⟩) (ho:p.opens=done) :
  eS p (o.bats.map dZ)=some { p with opens:=done++[o],prods:=cM p.prods q }:=by
 cases hbs:o.bats with
 | nil=>exact absurd hbs hne
 | cons b rest =>
  obtain⟨hb1,hb2,hb3,hb4⟩:=hbats b (by rw[hbs];simp)
  rw[hbs] at hch
  have hsq:b.seq=kC o:=hch.1
  rw[← hb3] at hf
  obtain⟨hok,hold⟩:=aT2 hm hb1 hf hb4.symm hsq
  have hnew:wJ p.prods b (-1)=⟨o.pid,o.epoch,dQ b,hZ (S++[b].map jY)⟩:=by
   unfold wJ
   rw[uM,hold,hb3,hb4];rfl
  have hg:dR b.pid p.opens=none:=by
   rw[ho,hb3];exact aF4 o.pid done hd
  have hstep:bO p (dZ b)=some { p with prods:=cM p.prods (wJ p.prods b (-1)),opens:=nL b p.opens }:=by
   rw[tK (uN hb1) rfl]
   exact (qC hb2).2 ⟨hok,fun x hx=>(by rw[hg] at hx;cases hx),rfl⟩
  have hadd:nL b p.opens=done++[⟨o.pid,o.epoch,[b]⟩]:=by
   rw[ho,aEb b done (fun x hx=>by rw[hb3];exact hd x hx),hb3,hb4]
  have hkn:=hok.known (-1) (by omega)
  rw[hnew] at hkn
  rw[List.map_cons,sV _ _ _ _ hstep]
  rw[zX o S q.next done p.prods hd hm hbats hlen rest [b] (dQ b) _ (by simp) hbs hch.2 hadd (by rw[hnew]) hkn]
  rw[← hq]
theorem aIo:∀ (l:List BatD) (s e:Int),(∀ b ∈ l,dK b=true)→uA s l e→∀ b ∈ l,s≤b.seq
 | [],_,_,_,_,b,hb=>by cases hb
 | x::l,s,e,h,hch,b,hb=>by
  have hx:=h x (List.mem_cons_self ..)
  have hbeh:dQ x=x.seq+(x.recs.length:Int):=by
   unfold dK at hx
   simp only[Bool.and_eq_true,Bool.not_eq_true',Bool.or_eq_false_iff,decide_eq_false_iff_not] at hx
   exact aT (by omega)
  rcases List.mem_cons.1 hb with rfl|hb
  ·have:=hch.1;omega
  ·have:=aIo l (dQ x) e (fun y hy=>h y (List.mem_cons_of_mem _ hy)) hch.2 b hb
   have:=hch.1
   omega
theorem aNu:∀ (A C:List SeenD) (x:SeenD) (b:Int),lX (A++x::C) b=true→lX C x.seq=true
 | [],C,x,b,h=>by rw[List.nil_append,lX,Bool.and_eq_true] at h;exact h.2
 | a::A,C,x,b,h=>by rw[List.cons_append,lX,Bool.and_eq_true] at h;exact aNu A C x a.seq h.2
theorem aJ2 {q:ProdD} {o:OpenD} (hl:Link q o) (hk:bB q=true) :
  hZ (q.seen.filter (fun s=>decide (s.seq<kC o))++o.bats.map jY)=q.seen∧bB ⟨q.pid,q.epoch,kC o,q.seen.filter fun s=>decide (s.seq<kC o)⟩=true:=by
 obtain⟨S,hS,hseen⟩:=hl.seen
 have hge:=aIo o.bats (kC o) q.next (fun b hb=>(hl.bats b hb).1) hl.chain
 obtain⟨B,hB⟩:∃ B,B=o.bats.map jY:=⟨_,rfl⟩
 rw[← hB] at hseen ⊢
 have hBge:∀ s ∈ B,¬ s.seq<kC o:=fun s hs=>by
  rw[hB] at hs
  obtain⟨b,hb,rfl⟩:=List.mem_map.1 hs
  have:=hge b hb
  show ¬ b.seq<kC o
  omega
 obtain⟨n,hn⟩:∃ n,n=S.length+B.length - 3:=⟨_,rfl⟩
 have hsplit:q.seen=S.drop n++B.drop (n - S.length):=by
  rw[hseen]
  unfold hZ
  rw[List.length_append,← hn,List.drop_append]
 have hfil:q.seen.filter (fun s=>decide (s.seq<kC o))=S.drop n:=by
  rw[hsplit,List.filter_append]
  rw[List.filter_eq_self.2 (fun s hs=>by simpa using hS s (List.mem_of_mem_drop hs))]
  rw[List.filter_eq_nil_iff.2 (fun s hs=>by simpa using hBge s (List.mem_of_mem_drop hs)),List.append_nil]
 rw[hfil]
 have hb0:∃ b rest,o.bats=b::rest:=by
  cases hbs:o.bats with
  | nil=>exact absurd hbs hl.some
  | cons b rest=>exact⟨b,rest,rfl⟩
 obtain⟨b,rest,hbs⟩:=hb0
 have hsq:kC o=b.seq:=by unfold kC;rw[hbs]
 refine⟨?_,?_⟩
 ·rw[hsplit]
  unfold hZ
  rw[List.length_append,List.length_drop,List.drop_append,List.length_drop,List.drop_drop]
  by_cases h3:3≤B.length
  ·have z1:S.drop n=[]:=List.drop_eq_nil_of_le (by omega)
   have z2:S.drop (n+(S.length - n+B.length - 3))=[]:=List.drop_eq_nil_of_le (by omega)
   rw[z1,z2,show S.length - n+B.length - 3 - (S.length - n)=n - S.length by omega]
  ·rw[show S.length - n+B.length - 3=0 by omega,Nat.add_zero,show n - S.length=0 by omega,Nat.zero_sub]
 ·have hbb:=(hl.bats b (by rw[hbs];simp)).1
  unfold dK at hbb
  simp only[Bool.and_eq_true,Bool.not_eq_true',Bool.or_eq_false_iff,decide_eq_false_iff_not] at hbb
  unfold bB at hk ⊢
  rw[Bool.and_eq_true] at hk ⊢
  refine⟨?_,?_⟩
  ·have h1:=hk.1
   unfold fB at h1 ⊢
   simp only[Bool.not_eq_true',Bool.or_eq_false_iff,Bool.not_eq_false',decide_eq_false_iff_not] at h1 ⊢
   have hlen:(S.drop n).length≤q.seen.length:=by rw[hsplit,List.length_append];omega
   refine⟨⟨h1.1.1,?_⟩,by omega⟩
   rw[hsq]
   simp only[fS,Bool.and_eq_true,decide_eq_true_eq]
   omega
  ·by_cases he:S.drop n=[]
   ·rw[he];rfl
   ·have hlt:n<S.length:=Decidable.byContradiction fun h=>he (List.drop_eq_nil_of_le (by omega))
    have h2:=hk.2
    rw[hsplit,show n - S.length=0 by omega,List.drop_zero,List.reverse_append,hB,hbs,List.map_cons,List.reverse_cons,List.append_assoc,List.cons_append,List.nil_append] at h2
    rw[hsq]
    exact aNu _ _ (jY b) _ h2
theorem vW:∀ (l:List ProdD) (x:ProdD),l.Pairwise (fun a b=>a.pid<b.pid)→x ∈ l→bE l x.pid=(x,true)
 | [],_,_,h=>by cases h
 | y::l,x,hp,h=>by
  rw[List.pairwise_cons] at hp
  rw[dU]
  rcases List.mem_cons.1 h with rfl|h
  ·rw[if_pos rfl]
  ·have:=hp.1 x h
   rw[if_neg (by omega)]
   exact vW l x hp.2 h
theorem aPq (l:List OpenD) (q:ProdD):(dF l q).pid=q.pid:=by
 unfold dF
 split
 ·split<;>rfl
 ·rfl
def rH (all os:List OpenD) (q:ProdD):ProdD:=if (os.any fun o=>decide (o.pid=q.pid))=true then dF all q else q
theorem nX (all os:List OpenD) (q:ProdD):(rH all os q).pid=q.pid:=by
 unfold rH
 split
 ·exact aPq all q
 ·rfl
theorem aBb {l:List OpenD} {q:ProdD} {o:OpenD} (hp:l.Pairwise (fun a b=>a.pid<b.pid)) (ho:o ∈ l) (hl:Link q o):dF l q=⟨q.pid,q.epoch,kC o,q.seen.filter fun s=>decide (s.seq<kC o)⟩:=by
 have hg:=mX hp ho
 rw[← hl.pid] at hg
 unfold dF
 rw[hg]
 cases hbs:o.bats with
 | nil=>exact absurd hbs hl.some
 | cons b rest =>
  have hsq:kC o=b.seq:=by unfold kC;rw[hbs]
  rw[hsq]
  simp only[hbs]
theorem aPo {all:List OpenD} (q:ProdD):dF all q=rH all all q:=by
 unfold rH
 split
 ·rfl
 ·rename_i h
  have hn:dR q.pid all=none:=by
   cases hg:dR q.pid all with
   | none=>rfl
   | some o =>
    exfalso;apply h
    rw[List.any_eq_true]
    exact⟨o,oX hg,by simpa using oT hg⟩
  unfold dF
  rw[hn]
theorem aFf {k:Nat} {p:PartD} (hM:FOkM k p) (hB:BOk p) {os:List OpenD} (hos:∀ o ∈ os,o ∈ p.opens):∀ x ∈ p.prods,bB (rH p.opens os x)=true:=fun x hx=>by
 have hkx:=mL hM.may x hx
 have hrise:=tB p.prods 0 hM.may
 unfold rH
 split
 ·rename_i h
  rw[List.any_eq_true] at h
  obtain⟨o,ho,hpid⟩:=h
  have hpid:o.pid=x.pid:=by simpa using hpid
  obtain⟨q,hq,hl⟩:=hB.link o (hos o ho)
  rw[hpid,vW p.prods x hrise hx] at hq
  cases hq
  rw[aBb hM.ok.rise (hos o ho) hl]
  exact (aJ2 hl hkx).2
 ·exact hkx
theorem wY {k:Nat} {p0:PartD} (hM:FOkM k p0) (hB:BOk p0):∀ (os done:List OpenD) (p:PartD),p0.opens=done++os→p.opens=done→p.prods=p0.prods.map (rH p0.opens os) →
  eS p (os.flatMap fun o=>o.bats.map dZ)=some { p with opens:=p0.opens,prods:=p0.prods }
 | [],done,p,h1,h2,h3=>by
  have hid:p0.prods.map (rH p0.opens [])=p0.prods:=by
   rw[List.map_congr_left (g:=id) (fun x _=>by simp[rH])];simp
  rw[hid] at h3
  rw[List.append_nil] at h1
  show some p=_
  rw[h1,← h2,← h3]
 | o::os,done,p,h1,h2,h3=>by
  have hrise:=tB p0.prods 0 hM.may
  have hop:=hM.ok.rise
  rw[h1] at hop
  have hoo:o ∈ p0.opens:=by rw[h1];simp
  have hos:∀ x ∈ o::os,x ∈ p0.opens:=fun x hx=>by rw[h1];exact List.mem_append_right _ hx
  obtain⟨q,hq,hl⟩:=hB.link o hoo
  have hqm:=kK hq
  have hkq:=mL hM.may q hqm
  obtain⟨e1,e2⟩:=aJ2 hl hkq
  have hd:∀ x ∈ done,x.pid<o.pid:=fun x hx=>(List.pairwise_append.1 hop).2.2 x hx o (List.mem_cons_self ..)
  have hafter:∀ x ∈ os,o.pid<x.pid:=(List.pairwise_cons.1 (List.pairwise_append.1 hop).2.1).1
  have hm:gH p.prods=true:=by
   rw[h3]
   exact aK3 _ (nX p0.opens (o::os)) p0.prods 0 (aFf hM hB hos) hM.may
  have hmixq:rH p0.opens (o::os) q=⟨o.pid,o.epoch,kC o,q.seen.filter fun s=>decide (s.seq<kC o)⟩:=by
   unfold rH
   rw[if_pos (by simp[hl.pid]),aBb hM.ok.rise hoo hl,hl.pid,hl.epoch]
  have hf:bE p.prods o.pid=(⟨o.pid,o.epoch,kC o,q.seen.filter fun s=>decide (s.seq<kC o)⟩,true):=by
   rw[h3,aEu _ (nX p0.opens (o::os)) o.pid q p0.prods hq,hmixq]
  have hS:(q.seen.filter fun s=>decide (s.seq<kC o)).length≤3:=Nat.le_trans (List.length_filter_le ..) (aBt hkq)
  have hqe:q=⟨o.pid,o.epoch,q.next,hZ ((q.seen.filter fun s=>decide (s.seq<kC o))++o.bats.map jY)⟩:=by
   rw[e1,← hl.pid,← hl.epoch]
  have hone:=aKk o q _ done p hd hm hl.some hl.bats (hM.bats o hoo) hl.chain hS hf hqe h2
  rw[List.flatMap_cons,kL,hone]
  simp only
  refine wY hM hB os (done++[o]) _ (by rw[h1,List.append_assoc];rfl) rfl ?_
  show cM p.prods q=_
  rw[h3,dI,aJp q _ (by
   rw[List.pairwise_map]
   exact hrise.imp (fun {a b} h=>by rw[nX,nX];exact h)) ⟨_,List.mem_map.2 ⟨q,hqm,rfl⟩,nX _ _ _⟩,List.map_map]
  refine List.map_congr_left (fun x hx=>?_)
  show (if (rH p0.opens (o::os) x).pid=q.pid then q else rH p0.opens (o::os) x)=_
  rw[nX]
  by_cases hx2:x.pid=q.pid
  ·rw[if_pos hx2]
   have hxq:x=q:=by
    have a1:=vW p0.prods x hrise hx
    have a2:=vW p0.prods q hrise hqm
    rw[hx2,a2] at a1
    cases a1;rfl
   rw[hxq]
   unfold rH
   rw[if_neg]
   rw[List.any_eq_true]
   rintro⟨y,hy,hyp⟩
   have:=hafter y hy
   have hyp:y.pid=q.pid:=by simpa using hyp
   rw[hl.pid] at hyp
   omega
  ·rw[if_neg hx2]
   unfold rH
   rw[List.any_cons,show decide (o.pid=x.pid)=false from decide_eq_false (fun e=>hx2 (by rw[hl.pid];exact e.symm)),Bool.false_or]
def lB (p:PartD):PartD:=⟨0,(p.rows.length:Int),lM 0 p.rows,p.opens,p.prods⟩
theorem aJu {k:Nat} {p:PartD} (hM:FOkM k p) (hB:BOk p) (hk:k≤200):eS pZ (tN p)=some (lB p):=by
 have hrow:=hM.rows
 unfold tN
 rw[List.append_assoc,kL,aF2 p.rows pZ (fun r hr=>(hB.rows r hr).2) (by show (0:Int)+_≤_;omega)]
 simp only
 rw[kL,show (p.prods.map fun q=>nZ (dF p.opens q))=(p.prods.map (dF p.opens)).map nZ by rw[List.map_map];rfl]
 have hmap:p.prods.map (dF p.opens)=p.prods.map (rH p.opens p.opens):=List.map_congr_left (fun x _=>aPo x)
 rw[aBl _ _ rfl (fun q hq=>by
  rw[hmap] at hq
  obtain⟨x,hx,rfl⟩:=List.mem_map.1 hq
  exact aFf hM hB (fun o ho=>ho) x hx)]
 simp only
 have hset:(p.prods.map (dF p.opens)).foldl cM pZ.prods=p.prods.map (rH p.opens p.opens):=by
  rw[hmap]
  have:=aOg (p.prods.map (rH p.opens p.opens)) [] (by
   rw[List.nil_append,List.pairwise_map]
   exact (tB p.prods 0 hM.may).imp (fun {a b} h=>by rw[nX,nX];exact h))
  rw[List.nil_append] at this
  exact this
 rw[hset,wY hM hB p.opens [] _ rfl rfl rfl]
 simp only[lB,pZ,List.nil_append,Int.zero_add]
theorem aFu:∀ (l:List RowD) (n:Int),(lM n l).map pI=l.map pI
 | [],_=>rfl
 | r::l,n=>by rw[lM,List.map_cons,List.map_cons,aFu l];rfl
theorem aFt:∀ (l:List RowD) (n:Int),(lM n l).length=l.length
 | [],_=>rfl
 | r::l,n=>by rw[lM,List.length_cons,List.length_cons,aFt l]
theorem aFs:∀ (l:List RowD) (n:Int) (i:Nat),(lM n l)[i]? = (l[i]?).map fun r=>{ r with off:=n+(i:Int) }
 | [],_,_=>rfl
 | r::l,n,0=>by simp[lM]
 | r::l,n,i+1=>by
  rw[lM,List.getElem?_cons_succ,List.getElem?_cons_succ,aFs l (n+1) i]
  rw[show n+1+(i:Int)=n+((i+1:Nat):Int) by omega]
end Go.Proofs.YtpklhnpchhaccaaGreatDoor
