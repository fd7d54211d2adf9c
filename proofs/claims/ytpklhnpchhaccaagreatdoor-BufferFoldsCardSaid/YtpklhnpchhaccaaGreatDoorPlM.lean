/- The abstract machine (PlB, PlC, PlD, PlE). -/
import Derived.Test.YtpklhnpchhaccaaGreatDoorRgM
namespace Go.Proofs.YtpklhnpchhaccaaGreatDoor
open Go Go.RowKit
set_option maxHeartbeats 4000000
set_option maxRecDepth 100000
set_option linter.unusedVariables false
set_option linter.unusedSimpArgs false
def wK (b:BatD):List OpenD→List OpenD
 | []=>[⟨b.pid,b.epoch,[b]⟩]
 | x::l=>if b.pid≤x.pid then (if x.pid=b.pid then ⟨x.pid,x.epoch,x.bats++[b]⟩::l else ⟨b.pid,b.epoch,[b]⟩::x::l) else x::wK b l
def aFy (pid:Int):List OpenD→List OpenD
 | []=>[]
 | x::l=>if pid≤x.pid then (if x.pid=pid then l else x::l) else x::aFy pid l
def gQ (pid:Int):List OpenD→Option OpenD
 | []=>none
 | x::l=>if pid≤x.pid then (if x.pid=pid then some x else none) else gQ pid l
theorem nE (x:OpenD) (l:List OpenD) (pid:Int):aZ (x::l) pid=if pid≤x.pid then 0 else aZ l pid+1:=by
 unfold aZ
 rw[List.findIdx_cons]
 by_cases h:pid≤x.pid<;>simp[h]
theorem aLt (x:OpenD) (l:List OpenD) (pid:Int):bL (x::l) pid=if pid≤x.pid then x.pid == pid else bL l pid:=by
 unfold bL
 rw[nE]
 by_cases h:pid≤x.pid<;>simp[h]
theorem aN1 (pid:Int):∀ l:List OpenD,gQ pid l=match bL l pid,l[aZ l pid]? with
  | true,some o=>some o
  | _,_=>none
 | []=>by simp[gQ,bL]
 | x::l=>by
  have ih:=aN1 pid l
  rw[nE,aLt,gQ]
  by_cases h:pid≤x.pid
  ·by_cases h2:x.pid=pid
   ·simp[h2]
   ·have h3:(x.pid == pid)=false:=by simpa using h2
    simp[h,h2,h3]
  ·simp only[h,if_false,ih,List.getElem?_cons_succ]
theorem wL (b:BatD):∀ l:List OpenD,gQ b.pid l=none→l.take (aZ l b.pid)++(⟨b.pid,b.epoch,[b]⟩:OpenD)::l.drop (aZ l b.pid)=wK b l
 | [],_=>rfl
 | x::l,h=>by
  have ih:=wL b l
  rw[gQ] at h
  rw[nE,wK]
  by_cases h1:b.pid≤x.pid
  ·rw[if_pos h1] at h
   by_cases h2:x.pid=b.pid
   ·rw[if_pos h2] at h;cases h
   ·simp[h1,h2]
  ·rw[if_neg h1] at h
   simp[h1,ih h]
theorem aDh (b:BatD) (o:OpenD):∀ l:List OpenD,gQ b.pid l=some o→l.set (aZ l b.pid) ⟨o.pid,o.epoch,o.bats++[b]⟩=wK b l
 | [],h=>by cases h
 | x::l,h=>by
  have ih:=aDh b o l
  rw[gQ] at h
  rw[nE,wK]
  by_cases h1:b.pid≤x.pid
  ·rw[if_pos h1] at h
   by_cases h2:x.pid=b.pid
   ·rw[if_pos h2] at h;cases h;simp[h2]
   ·rw[if_neg h2] at h;cases h
  ·rw[if_neg h1] at h
   simp[h1,ih h]
theorem aMu (pid:Int) (o:OpenD):∀ l:List OpenD,gQ pid l=some o→l.take (aZ l pid)++l.drop (aZ l pid+1)=aFy pid l
 | [],h=>by cases h
 | x::l,h=>by
  have ih:=aMu pid o l
  rw[gQ] at h
  rw[nE,aFy]
  by_cases h1:pid≤x.pid
  ·rw[if_pos h1] at h
   by_cases h2:x.pid=pid
   ·simp[h2]
   ·rw[if_neg h2] at h;cases h
  ·rw[if_neg h1] at h
   simp[h1,ih h]
theorem rE {pid:Int} {o:OpenD}:∀ {l:List OpenD},gQ pid l=some o→o.pid=pid
 | [],h=>by cases h
 | x::l,h=>by
  rw[gQ] at h
  split at h
  ·split at h
   ·cases h;assumption
   ·cases h
  ·exact rE h
theorem aV2 {q:Int}:∀ {l:List OpenD},(∀ x ∈ l,q<x.pid)→gQ q l=none
 | [],_=>rfl
 | x::l,h=>by
  have:=h x (List.mem_cons_self ..)
  rw[gQ,if_pos (by omega),if_neg (by omega)]
theorem aIk (pid q:Int) (hne:q≠pid):∀ l:List ProdD,bB (yZ pid l) q=bB l q
 | []=>rfl
 | x::l=>by
  rw[yZ]
  split
  ·rename_i h
   rw[gP,gP,if_neg (show ¬ x.pid=q by omega),if_neg (by omega)]
  ·rw[gP,gP,aIk pid q hne l]
def aLj (l:List ProdD) (b:BatD) (base:Int):ProdD:=⟨b.pid,b.epoch,eB b,kD l b base⟩
structure OkT (l:List ProdD) (b:BatD):Prop where
 err:(aP l b).2.2=0
 dup:(aP l b).2.1=false
theorem OkT.val {l:List ProdD} {b:BatD} (h:OkT l b) (base:Int) (hb : -1≤base∧base≤1048576):(aG l b base).1=dV l (aLj l b base) :=
 (pF ((mP l b base hb).2 ⟨h.err,h.dup⟩)).2.2.2
theorem OkT.known {l:List ProdD} {b:BatD} (h:OkT l b) (base:Int) (hb : -1≤base∧base≤1048576):bC (aLj l b base)=true :=
 sL (by simp only[Bool.or_eq_false_iff,decide_eq_false_iff_not];omega) h.err h.dup
theorem OkT.not {l:List ProdD} {b:BatD}:((aP l b).2.2≠0∨(aP l b).2.1=true) ↔ ¬ OkT l b:=by
 constructor
 ·rintro (h|h) h2
  ·exact h h2.err
  ·rw[h2.dup] at h;cases h
 ·intro h
  by_cases h1:(aP l b).2.2=0
  ·right
   cases h2:(aP l b).2.1 with
   | true=>rfl
   | false=>exact absurd ⟨h1,h2⟩ h
  ·exact .inl h1
theorem qA {l:List OpenD} {pid:Int}:(bL l pid=true∧∃ o,l[aZ l pid]? = some o∧gQ pid l=some o)∨(bL l pid=false∧gQ pid l=none):=by
 have h:=aN1 pid l
 cases ho:bL l pid with
 | false=>right;rw[ho] at h;exact⟨rfl,h⟩
 | true =>
  obtain⟨o,hi,_⟩:=oV ho
  left;rw[ho,hi] at h;exact⟨rfl,o,hi,h⟩
theorem aFx {p q:PartD} {b:BatD} (ht:b.txn=true):kM p b=some q ↔ OkT p.prods b∧(∀ o,gQ b.pid p.opens=some o→o.epoch=b.epoch∧o.bats.length<8)∧q = { p with prods:=dV p.prods (aLj p.prods b (-1)),opens:=wK b p.opens }:=by
 unfold kM
 by_cases hc:OkT p.prods b
 ·rw[if_neg (by rw[OkT.not];exact fun h=>h hc),hc.val (-1) (by omega)]
  rcases qA (l:=p.opens) (pid:=b.pid) with ⟨h1,o,h2,h3⟩|⟨h1,h3⟩
  ·simp only[h1,h2,h3,aDh b o p.opens h3]
   by_cases hx:b.txn=false∨o.epoch≠b.epoch∨8≤o.bats.length
   ·rw[if_pos hx]
    constructor
    ·intro h;cases h
    ·rintro⟨_,h,_⟩
     obtain⟨a1,a2⟩:=h o rfl
     rcases hx with hx|hx|hx
     ·rw[ht] at hx;cases hx
     ·exact absurd a1 hx
     ·omega
   ·rw[if_neg hx]
    constructor
    ·intro h;cases h
     refine⟨hc,fun o' ho=>?_,rfl⟩
     cases ho
     refine⟨Decidable.not_not.1 (fun h=>hx (.inr (.inl h))),?_⟩
     rcases Nat.lt_or_ge o.bats.length 8 with h|h
     ·exact h
     ·exact absurd (.inr (.inr h)) hx
    ·rintro⟨_,_,rfl⟩;rfl
  ·simp only[h1,h3,wL b p.opens h3]
   rw[if_neg (by rw[ht];simp)]
   constructor
   ·intro h;cases h
    exact⟨hc,fun o ho=>(by cases ho),rfl⟩
   ·rintro⟨_,_,rfl⟩;rfl
 ·rw[if_pos (OkT.not.2 hc)]
  constructor
  ·intro h;cases h
  ·rintro⟨h,_⟩;exact absurd h hc
theorem aAb {p q:PartD} {b:BatD} (ht:b.txn=false) (hf:0≤p.fin∧p.fin≤1048576):kM p b=some q ↔ OkT p.prods b∧gQ b.pid p.opens=none∧p.fin+(b.recs.length:Int)≤1048576∧q = { p with prods:=dV p.prods (aLj p.prods b p.fin),rows:=p.rows++cS b p.fin,fin:=p.fin+(b.recs.length:Int) }:=by
 unfold kM
 by_cases hc:OkT p.prods b
 ·rw[if_neg (by rw[OkT.not];exact fun h=>h hc),hc.val p.fin (by omega)]
  rcases qA (l:=p.opens) (pid:=b.pid) with ⟨h1,o,h2,h3⟩|⟨h1,h3⟩
  ·simp only[h1,h2,h3]
   rw[if_pos (.inl ht)]
   constructor
   ·intro h;cases h
   ·rintro⟨_,h,_⟩;cases h
  ·simp only[h1,h3]
   rw[if_pos ht]
   by_cases hx:1048576<p.fin+(b.recs.length:Int)
   ·rw[if_pos hx]
    constructor
    ·intro h;cases h
    ·rintro⟨_,_,h,_⟩;omega
   ·rw[if_neg hx]
    constructor
    ·intro h;cases h
     exact⟨hc,by trivial,by omega,rfl⟩
    ·rintro⟨_,_,_,rfl⟩;rfl
 ·rw[if_pos (OkT.not.2 hc)]
  constructor
  ·intro h;cases h
  ·rintro⟨h,_⟩;exact absurd h hc
theorem aRp {p q:PartD} {b:BatD} {yes:Bool}:aB2 p b yes=some q ↔ ∃ o,gQ b.pid p.opens=some o∧o.epoch=b.epoch∧p.fin+(hJ (if yes then o.bats else []):Nat)+1≤1048576 ∧
  q = { lK p (if yes then o.bats else []) with fin:=(lK p (if yes then o.bats else [])).fin+1,opens:=aFy b.pid p.opens,prods:=eP p.prods b.pid }:=by
 unfold aB2
 rcases qA (l:=p.opens) (pid:=b.pid) with ⟨h1,o,h2,h3⟩|⟨h1,h3⟩
 ·simp only[h1,h2,h3,aMu b.pid o p.opens h3]
  by_cases he:o.epoch=b.epoch
  ·rw[if_neg (fun h:o.epoch≠b.epoch=>h he)]
   by_cases hx:1048576<p.fin+(hJ (if yes then o.bats else []):Nat)+1
   ·rw[if_pos hx]
    constructor
    ·intro h;cases h
    ·rintro⟨o',ho,_,h,_⟩;cases ho;omega
   ·rw[if_neg hx]
    constructor
    ·intro h;cases h
     exact⟨o,rfl,he,by omega,rfl⟩
    ·rintro⟨o',ho,_,_,rfl⟩;cases ho;rfl
  ·rw[if_pos (show o.epoch≠b.epoch from he)]
   constructor
   ·intro h;cases h
   ·rintro⟨o',ho,h,_⟩;cases ho;exact absurd h he
 ·simp only[h1,h3]
  constructor
  ·intro h;cases h
  ·rintro⟨o,ho,_⟩;cases ho
theorem aEu {p q:PartD} {e:EntD} (h:cG p e=some q):aL e=true:=by
 unfold cG at h
 cases ho:aL e with
 | true=>rfl
 | false=>rw[ho,if_pos rfl] at h;cases h
theorem aEt {p:PartD} {e:EntD} (ho:aL e=true) (he:e.kind=0):cG p e=kM p e.b:=by
 unfold cG;simp[ho,he]
theorem aQf {p:PartD} {e:EntD} (ho:aL e=true) (he:e.kind=1):cG p e=aB2 p e.b e.yes:=by
 unfold cG;simp[ho,he]
def aMq (pid:Int) (l:List OpenD):List BatD:=match gQ pid l with
 | some o=>o.bats
 | none=>[]
theorem rC (b:BatD):∀ l:List OpenD,∃ o,gQ b.pid (wK b l)=some o∧o.bats=aMq b.pid l++[b]
 | []=>⟨⟨b.pid,b.epoch,[b]⟩,by simp[wK,gQ],rfl⟩
 | x::l=>by
  obtain⟨o,h1,h2⟩:=rC b l
  unfold aMq at h2 ⊢
  rw[wK,gQ]
  by_cases h:b.pid≤x.pid
  ·rw[if_pos h,if_pos h]
   by_cases h3:x.pid=b.pid
   ·rw[if_pos h3,if_pos h3,gQ,if_pos (show b.pid≤x.pid from h),if_pos (show x.pid=b.pid from h3)]
    exact⟨_,rfl,rfl⟩
   ·rw[if_neg h3,if_neg h3,gQ,if_pos (Int.le_refl _),if_pos rfl]
    exact⟨_,rfl,rfl⟩
  ·rw[if_neg h,if_neg h,gQ,if_neg h]
   exact⟨o,h1,h2⟩
theorem rD (q:Int):∀ l:List OpenD,l.Pairwise (fun a b=>a.pid<b.pid)→gQ q (aFy q l)=none
 | [],_=>rfl
 | x::l,hp=>by
  rw[List.pairwise_cons] at hp
  rw[aFy]
  by_cases h:q≤x.pid
  ·rw[if_pos h]
   by_cases h3:x.pid=q
   ·rw[if_pos h3]
    exact aV2 (fun y hy=>by have:=hp.1 y hy;omega)
   ·rw[if_neg h3,gQ,if_pos h,if_neg h3]
  ·rw[if_neg h,gQ,if_neg h]
   exact rD q l hp.2
theorem aQg {p q:PartD} {e:EntD} (h:cG p e=some q) (h0:e.kind≠0) (h1:e.kind≠1):q.opens=p.opens:=by
 have ho:=aEu h
 unfold cG at h
 rw[ho,if_neg (by simp),if_neg h0,if_neg h1] at h
 split at h
 ·split at h
  ·cases h
  ·cases h;rfl
 split at h
 ·cases h
 split at h
 ·cases h
 split at h
 ·split at h
  ·cases h
  ·cases h;rfl
 ·split at h
  ·cases h
  ·cases h;rfl
def yK {α:Type} (l:List α):List α:=l.drop (l.length - 3)
theorem aPb {α:Type} (a b:List α):yK (yK a++b)=yK (a++b):=by
 unfold yK
 rw[List.length_append,List.length_drop,List.length_append,List.drop_append,List.drop_append,List.drop_drop,List.length_drop]
 by_cases h:a.length≤3
 ·rw[show a.length - 3=0 by omega,show a.length - 0+b.length - 3=a.length+b.length - 3 by omega,Nat.zero_add,Nat.sub_zero]
 ·rw[show a.length - (a.length - 3)=3 by omega,show 3+b.length - 3=b.length by omega,show a.length - 3+b.length=a.length+b.length - 3 by omega,show b.length - 3=a.length+b.length - 3 - a.length by omega]
def aNh (b:BatD):SeenD:=⟨b.seq,(b.recs.length:Int),-1⟩
theorem aLk (l:List ProdD) (b:BatD):kD l b (-1)=yK (nK l b++[aNh b]):=by
 unfold kD yK aNh
 rw[List.length_append,List.length_singleton,show (nK l b).length+1 - 3=(nK l b).length - 2 by omega]
def aFp:Int→List BatD→Int→Prop
 | s,[],e=>s=e
 | s,b::l,e=>b.seq=s∧aFp (eB b) l e
theorem xZ:∀ (l:List BatD) (s e:Int) (b:BatD),aFp s l e→b.seq=e→aFp s (l++[b]) (eB b)
 | [],s,e,b,h,hb=>⟨by rw[hb];exact h.symm,rfl⟩
 | x::l,s,e,b,h,hb=>⟨h.1,xZ l (eB x) e b h.2 hb⟩
def aQ5 (o:OpenD):Int:=match o.bats with
 | b::_=>b.seq
 | []=>0
structure Link (q:ProdD) (o:OpenD):Prop where
 pid:q.pid=o.pid
 epoch:q.epoch=o.epoch
 some:o.bats≠[]
 bats:∀ b ∈ o.bats,dQ b=true∧b.txn=true∧b.pid=o.pid∧b.epoch=o.epoch
 chain:aFp (aQ5 o) o.bats q.next
 seen:∃ S:List SeenD,(∀ s ∈ S,s.seq<aQ5 o)∧q.seen=yK (S++o.bats.map aNh)
structure BOk (p:PartD):Prop where
 rows:∀ r ∈ p.rows,(0≤r.off∧r.off≤1048576)∧nF { r with off:=0 }=true
 link:∀ o ∈ p.opens,∃ q,bB p.prods o.pid=(q,true)∧Link q o
theorem aR1:∀ (l:List SeenD) (b:Int),jR l b=true→∀ s ∈ l,s.seq<b
 | [],_,_,s,h=>by simp at h
 | x::l,b,h,s,hs=>by
  rw[jR,Bool.and_eq_true] at h
  have h1:=h.1
  simp only[kB,zY,aCt,Bool.not_eq_true',Bool.or_eq_false_iff,decide_eq_false_iff_not] at h1
  rcases List.mem_cons.1 hs with rfl|hs
  ·omega
  ·have:=aR1 l x.seq h.2 s hs
   omega
theorem aRl {p:ProdD} (h:bC p=true):∀ s ∈ p.seen,s.seq<p.next:=fun s hs=>by
 unfold bC at h
 rw[Bool.and_eq_true] at h
 exact aR1 _ _ h.2 s (List.mem_reverse.2 hs)
theorem aDy (p:ProdD):∀ (l:List ProdD) (b:Int),lI l b=true→bB (jI p l) p.pid=(p,true)
 | [],_,_=>by rw[jI,gP,if_pos rfl]
 | x::l,b,h=>by
  rw[lI,Bool.and_eq_true] at h
  rw[jI]
  by_cases h1:p.pid≤x.pid
  ·rw[if_pos h1]
   split
   ·rw[gP,if_pos rfl]
   ·rw[gP,if_pos rfl]
  ·rw[if_neg h1,gP,if_neg (by omega)]
   exact aDy p l x.pid h.2
theorem aL0 {l:List ProdD} (p:ProdD) (h:iQ l=true):bB (dV l p) p.pid=(p,true):=by
 rw[gW];exact aDy p l 0 h
theorem aP1 {l:List ProdD} (q pid:Int) (hne:q≠pid):bB (eP l pid) q=bB l q:=by
 rw[nQ];exact aIk pid q hne l
theorem oP {l:List OpenD} (hp:l.Pairwise (fun a b=>a.pid<b.pid)) {o:OpenD} (ho:o ∈ l):gQ o.pid l=some o:=by
 induction l with
 | nil=>cases ho
 | cons x l ih =>
  rw[List.pairwise_cons] at hp
  rw[gQ]
  rcases List.mem_cons.1 ho with rfl|ho
  ·rw[if_pos (Int.le_refl _),if_pos rfl]
  ·have:=hp.1 o ho
   rw[if_neg (by omega)]
   exact ih hp.2 ho
theorem rL {pid:Int} {o:OpenD}:∀ {l:List OpenD},gQ pid l=some o→o ∈ l
 | [],h=>by cases h
 | x::l,h=>by
  rw[gQ] at h
  split at h
  ·split at h
   ·cases h;exact List.mem_cons_self ..
   ·cases h
  ·exact List.mem_cons_of_mem _ (rL h)
theorem vF {b:BatD} {o:OpenD}:∀ {l:List OpenD},o ∈ wK b l→(o ∈ l∧o.pid≠b.pid)∨(∃ x,gQ b.pid l=some x∧o=⟨x.pid,x.epoch,x.bats++[b]⟩)∨(gQ b.pid l=none∧o=⟨b.pid,b.epoch,[b]⟩)∨(o ∈ l∧o.pid=b.pid)
 | [],h=>by
  simp only[wK,List.mem_singleton] at h
  exact .inr (.inr (.inl ⟨rfl,h⟩))
 | x::l,h=>by
  have hsp:∀ {m:List OpenD},o ∈ m→(o ∈ m∧o.pid≠b.pid)∨(o ∈ m∧o.pid=b.pid):=fun hm=>(Decidable.em (o.pid=b.pid)).elim (fun e=>.inr ⟨hm,e⟩) (fun e=>.inl ⟨hm,e⟩)
  rw[wK] at h
  rw[gQ]
  by_cases h1:b.pid≤x.pid
  ·rw[if_pos h1] at h
   by_cases h2:x.pid=b.pid
   ·rw[if_pos h2] at h
    rcases List.mem_cons.1 h with h|h
    ·right;left;exact⟨x,by rw[if_pos h1,if_pos h2],h⟩
    ·rcases hsp (List.mem_cons_of_mem x h) with h|h
     ·exact .inl h
     ·exact .inr (.inr (.inr h))
   ·rw[if_neg h2] at h
    rcases List.mem_cons.1 h with h|h
    ·right;right;left;exact⟨by rw[if_pos h1,if_neg h2],h⟩
    ·rcases hsp h with h|h
     ·exact .inl h
     ·exact .inr (.inr (.inr h))
  ·rw[if_neg h1] at h
   rcases List.mem_cons.1 h with h|h
   ·left;exact⟨h ▸ List.mem_cons_self ..,by rw[h];omega⟩
   ·rcases vF h with ⟨h,e⟩|⟨y,hy,e⟩|⟨hy,e⟩|⟨h,e⟩
    ·exact .inl ⟨List.mem_cons_of_mem _ h,e⟩
    ·right;left;exact⟨y,by rw[if_neg h1];exact hy,e⟩
    ·right;right;left;exact⟨by rw[if_neg h1];exact hy,e⟩
    ·exact .inr (.inr (.inr ⟨List.mem_cons_of_mem _ h,e⟩))
theorem aJ4 {pid:Int} {o:OpenD}:∀ {l:List OpenD},o ∈ aFy pid l→o ∈ l
 | [],h=>h
 | x::l,h=>by
  rw[aFy] at h
  split at h
  ·split at h
   ·exact List.mem_cons_of_mem _ h
   ·exact h
  ·rcases List.mem_cons.1 h with h|h
   ·exact h ▸ List.mem_cons_self ..
   ·exact List.mem_cons_of_mem _ (aJ4 h)
theorem aPf {k:Nat} {p:PartD} {b:BatD} (hM:FOkM k p) (hB:BOk p) (ht:b.txn=true) (hk:OkT p.prods b) (ho:∀ o,gQ b.pid p.opens=some o→o.epoch=b.epoch∧o.bats.length<8) {o:OpenD} (hg:gQ b.pid (wK b p.opens)=some o):Link (aLj p.prods b (-1)) o:=by
 obtain⟨c1,c2,c3,c4⟩:=uU hk.err hk.dup
 have hnew:(aLj p.prods b (-1)).seen=yK (nK p.prods b++[aNh b]):=aLk _ _
 cases hx:gQ b.pid p.opens with
 | none =>
  have hadd:=wL b p.opens hx
  have hos:o=⟨b.pid,b.epoch,[b]⟩:=by
   rcases vF (rL hg) with ⟨_,h⟩|⟨x,h,_⟩|⟨_,h⟩|⟨h,e⟩
   ·exact absurd (rE hg) h
   ·rw[hx] at h;cases h
   ·exact h
   ·have:=oP hM.ok.rise h
    rw[e,hx] at this;cases this
  subst hos
  refine⟨rfl,rfl,by simp,fun x hx=>by simp at hx;subst hx;exact⟨c4,ht,rfl,rfl⟩,⟨rfl,rfl⟩,nK p.prods b,fun s hs=>?_,by rw[hnew];rfl⟩
  show s.seq<b.seq
  rw[c1] at hs
  rw[c2]
  unfold uY at hs ⊢
  split at hs
  ·simp at hs
  ·rename_i hc
   rw[if_neg hc]
   cases hf:bB p.prods b.pid with
   | mk q kn =>
    rw[hf] at hs hc
    cases kn with
    | false=>simp at hc
    | true=>exact aRl (xB c3 q (mM hf)) s hs
 | some x =>
  have hxp:=rE hx
  obtain⟨he,_⟩:=ho x hx
  have hos:o=⟨x.pid,x.epoch,x.bats++[b]⟩:=by
   rcases vF (rL hg) with ⟨_,h⟩|⟨y,h,e⟩|⟨h,_⟩|⟨h,e⟩
   ·exact absurd (rE hg) h
   ·rw[hx] at h;cases h;exact e
   ·rw[hx] at h;cases h
   ·exfalso
    have h1:=oP hM.ok.rise h
    rw[e,hx] at h1
    cases h1
    obtain⟨y,hy1,hy2⟩:=rC b p.opens
    rw[hg] at hy1
    cases hy1
    have:_=(aMq b.pid p.opens++[b]).length:=congrArg List.length hy2
    unfold aMq at this
    rw[hx,List.length_append] at this
    simp at this
  obtain⟨q,hq,hl⟩:=hB.link x (rL hx)
  rw[hxp] at hq
  have hqe:q.epoch=b.epoch:=hl.epoch.trans he
  have hold:nK p.prods b=q.seen:=by
   unfold nK
   rw[hq]
   simp[hqe]
  have heff:uY p.prods b=q:=by
   unfold uY
   rw[hq]
   simp[hqe]
  rw[heff] at c2
  obtain⟨S,hS1,hS2⟩:=hl.seen
  have hseq:aQ5 o=aQ5 x:=by
   rw[hos]
   unfold aQ5
   cases hb:x.bats with
   | nil=>exact absurd hb hl.some
   | cons y l=>rfl
  rw[hos] at hseq ⊢
  refine⟨hxp.symm,he.symm,by simp,fun y hy=>?_,?_,S,fun s hs=>by rw[hseq];exact hS1 s hs,?_⟩
  ·rcases List.mem_append.1 hy with hy|hy
   ·exact hl.bats y hy
   ·simp at hy;subst hy;exact⟨c4,ht,hxp.symm,he.symm⟩
  ·rw[hseq]
   exact xZ x.bats (aQ5 x) q.next b hl.chain c2
  ·rw[hnew,hold,hS2,aPb,List.map_append,List.append_assoc];rfl
theorem aQ1 {b:BatD} {n:Int} {r:RowD} (h:r ∈ cS b n):∃ (i:Nat) (x:RecD),b.recs[i]? = some x∧r=qN b n i:=by
 unfold cS nX at h
 obtain⟨i,hi,rfl⟩:=List.mem_map.1 h
 rw[List.mem_range] at hi
 exact⟨i,b.recs[i],List.getElem?_eq_getElem hi,rfl⟩
theorem vY {b:BatD} {n:Int} (hb:dQ b=true) (hn:0≤n∧n+(b.recs.length:Int)≤1048576):∀ r ∈ cS b n,(0≤r.off∧r.off≤1048576)∧nF { r with off:=0 }=true:=fun r hr=>by
 obtain⟨i,x,hi,rfl⟩:=aQ1 hr
 obtain⟨hlt,_⟩:=List.getElem?_eq_some_iff.1 hi
 have hmem:x ∈ b.recs:=List.mem_of_getElem? hi
 unfold dQ at hb
 simp only[Bool.and_eq_true,Bool.not_eq_true',Bool.or_eq_false_iff,decide_eq_false_iff_not] at hb
 obtain⟨⟨⟨⟨⟨p1,p2⟩,p3,p4⟩,p5,p6⟩,p7,p8⟩,p9⟩:=hb
 have hx:fV x=false:=by
  rw[List.any_eq_false] at p9
  simpa using p9 x hmem
 unfold fV at hx
 simp only[Bool.or_eq_false_iff,decide_eq_false_iff_not] at hx
 have w1:IntKind.i64.wrap (n+(i:Int))=n+(i:Int):=bA (by omega)
 have w2:IntKind.i64.wrap (b.seq+(i:Int))=b.seq+(i:Int):=bA (by omega)
 have hr2:qN b n i=⟨n+(i:Int),b.pid,b.seq+(i:Int),x.key,x.value⟩:=by
  simp only[qN,hi,w1,w2]
  rw[if_neg (by omega)]
 rw[hr2]
 refine⟨⟨by show 0≤n+(i:Int);omega,by show n+(i:Int)≤_;omega⟩,?_⟩
 simp only[nF,dN,Bool.and_eq_true,decide_eq_true_eq,beq_iff_eq]
 refine⟨⟨⟨⟨⟨by trivial,⟨⟨⟨by omega,by omega⟩,by omega⟩,by omega⟩⟩,by omega⟩,by omega⟩,by omega⟩,by omega⟩
theorem aEm {k:Nat}:∀ (l:List BatD) (p:PartD),(∀ b ∈ l,dQ b=true)→0≤p.fin→p.fin+(hJ l:Nat)≤1048576→(∀ r ∈ p.rows,(0≤r.off∧r.off≤1048576)∧nF { r with off:=0 }=true)→∀ r ∈ (lK p l).rows,(0≤r.off∧r.off≤1048576)∧nF { r with off:=0 }=true
 | [],p,_,_,_,h=>h
 | b::l,p,hb,h0,hs,h=>by
  simp only[hJ,Int.natCast_add] at hs
  refine aEm (k:=k) l { p with rows:=p.rows++cS b p.fin,fin:=p.fin+(b.recs.length:Int) } (fun x hx=>hb x (List.mem_cons_of_mem _ hx)) (by show 0≤p.fin+_;omega) (by show p.fin+_+_≤_;omega) (fun r hr=>?_)
  rcases List.mem_append.1 hr with hr|hr
  ·exact h r hr
  ·exact vY (hb b (List.mem_cons_self ..)) (by omega) r hr
theorem aTe {k:Nat} {p q:PartD} {e:EntD} (hM:FOkM k p) (hB:BOk p) (h:cG p e=some q):BOk q:=by
 have ho:=aEu h
 have hM2:=aC8 hM h
 have hfin:=hM.fin
 by_cases h0:e.kind=0
 ·rw[aEt ho h0] at h
  cases ht:e.b.txn with
  | false =>
   obtain⟨k1,k2,k3,rfl⟩:=(aAb ht hfin).1 h
   have hbb:=(uU k1.err k1.dup).2.2.2
   refine⟨fun r hr=>?_,fun o hoo=>?_⟩
   ·rcases List.mem_append.1 hr with hr|hr
    ·exact hB.rows r hr
    ·exact vY hbb (by omega) r hr
   ·obtain⟨x,hx,hl⟩:=hB.link o hoo
    have hne:e.b.pid≠o.pid:=fun e1=>by
     have:=oP hM.ok.rise hoo
     rw[← e1,k2] at this;cases this
    exact⟨x,by show bB (dV _ _) _=_;rw[oO _ _ _ hne];exact hx,hl⟩
  | true =>
   obtain⟨k1,k2,rfl⟩:=(aFx ht).1 h
   refine⟨hB.rows,fun o hoo=>?_⟩
   by_cases hp:o.pid=e.b.pid
   ·have hg:=oP hM2.ok.rise hoo
    rw[hp] at hg
    refine⟨_,?_,aPf hM hB ht k1 k2 hg⟩
    show bB (dV _ _) _=_
    rw[hp]
    exact aL0 (aLj p.prods e.b (-1)) hM.may
   ·have hoo' : o ∈ p.opens:=by
     rcases vF hoo with ⟨h,_⟩|⟨x,hx,e1⟩|⟨_,e1⟩|⟨h,_⟩
     ·exact h
     ·exfalso;apply hp;rw[e1];exact rE (pid:=e.b.pid) (o:=x) hx
     ·exfalso;apply hp;rw[e1]
     ·exact h
    obtain⟨x,hx,hl⟩:=hB.link o hoo'
    exact⟨x,by show bB (dV _ _) _=_;rw[oO _ _ _ (fun e1=>hp e1.symm)];exact hx,hl⟩
 by_cases h1:e.kind=1
 ·rw[aQf ho h1] at h
  obtain⟨o,g1,g2,g3,rfl⟩:=aRp.1 h
  obtain⟨x,hx,hl⟩:=hB.link o (rL g1)
  refine⟨?_,fun y hy=>?_⟩
  ·show ∀ r ∈ (lK p _).rows,_
   refine aEm (k:=k) _ p (fun b hb=>?_) hfin.1 (by omega) hB.rows
   split at hb
   ·exact (hl.bats b hb).1
   ·simp at hb
  ·have hyl:y ∈ aFy e.b.pid p.opens:=hy
   have hne:y.pid≠e.b.pid:=fun e1=>by
    have h3:=oP hM2.ok.rise hy
    have h4:=rD e.b.pid p.opens hM.ok.rise
    rw[e1] at h3
    exact absurd (h3.symm.trans h4) (by simp)
   obtain⟨z,hz,hzl⟩:=hB.link y (aJ4 hyl)
   exact⟨z,by show bB (eP _ _) _=_;rw[aP1 _ _ hne];exact hz,hzl⟩
 ·have hop:=aQg h h0 h1
  unfold cG at h
  rw[ho,if_neg (by simp),if_neg h0,if_neg h1] at h
  split at h
  ·split at h
   ·cases h
   ·cases h
    exact⟨fun r hr=>hB.rows r ((List.mem_filter.1 hr).1),hB.link⟩
  split at h
  ·cases h
  split at h
  ·cases h
  split at h
  ·rename_i h5
   split at h
   ·cases h
   ·rename_i hx
    cases h
    refine⟨fun r hr=>?_,hB.link⟩
    rcases List.mem_append.1 hr with hr|hr
    ·exact hB.rows r hr
    ·simp at hr
     subst hr
     refine⟨⟨by show 0≤p.fin;omega,by show p.fin≤_;omega⟩,?_⟩
     simp only[aL,Bool.and_eq_true,decide_eq_true_eq] at ho
     have hm2:=ho.2
     unfold nB at hm2
     rw[if_neg (by omega),if_neg (by omega),if_neg (by omega),if_neg (by omega),if_neg (by omega),if_pos h5,Bool.and_eq_true] at hm2
     have h7:=hm2.1
     simp only[nF,Bool.and_eq_true,beq_iff_eq] at h7 ⊢
     exact⟨⟨⟨⟨⟨by trivial,h7.1.1.1.1.2⟩,h7.1.1.1.2⟩,h7.1.1.2⟩,h7.1.2⟩,h7.2⟩
  ·split at h
   ·cases h
   ·rename_i hob
    cases h
    refine⟨hB.rows,fun o hoo=>?_⟩
    obtain⟨x,hx,hl⟩:=hB.link o hoo
    have hne:e.prod.pid≠o.pid:=fun e1=>by
     have h3:=oP hM.ok.rise hoo
     rcases qA (l:=p.opens) (pid:=e.prod.pid) with ⟨h4,_⟩|⟨_,h4⟩
     ·exact hob h4
     ·rw[e1] at h4;rw[h3] at h4;cases h4
    exact⟨x,by show bB (dV _ _) _=_;rw[oO _ _ _ hne];exact hx,hl⟩
theorem aIo:∀ (l:List EntD) (k:Nat) (p p' : PartD),FOkM k p→BOk p→mX p l=some p'→BOk p'
 | [],k,p,p',_,h,hm=>by cases hm;exact h
 | e::l,k,p,p',hM,h,hm=>by
  unfold mX at hm
  split at hm
  ·rename_i q hq
   exact aIo l (k+1) q p' (aC8 hM hq) (aTe hM h hq) hm
  ·cases hm
def aQu (b:BatD):EntD:=⟨0,b,false,0,0,iR,dF⟩
end Go.Proofs.YtpklhnpchhaccaaGreatDoor
