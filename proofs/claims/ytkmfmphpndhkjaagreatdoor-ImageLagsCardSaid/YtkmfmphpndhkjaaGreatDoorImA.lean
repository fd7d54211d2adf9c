/- Images as plain data,and when one may be. -/
import Derived.Test.YtkmfmphpndhkjaaGreatDoorTbA
import Derived.Test.YtkmfmphpndhkjaaGreatDoorSqM
import Derived.Test.YtkmfmphpndhkjaaGreatDoorCpMa
namespace Go.Proofs.YtkmfmphpndhkjaaGreatDoor
open Go Go.RowKit
set_option maxHeartbeats 4000000
set_option maxRecDepth 100000
set_option linter.unusedVariables false
set_option linter.unusedSimpArgs false
def eU (r:RowD):Bool:=aT r.pid 1 8 && aT r.seq 0 1048575 && decide ((r.key.length:Int)≤16) && decide ((r.value.length:Int)≤16)
structure PendD where
 grp:Int
 part:Int
 off:Int
 deriving DecidableEq
def PendD.dv (p:PendD):List D:=[int p.grp,int p.part,int p.off]
structure CoordD where
 st:Int
 pid:Int
 epoch:Int
 timeout:Int
 thn:Int
 parts:List Int
 pends:List PendD
 age:Int
 deriving DecidableEq
def CoordD.dv (c:CoordD):List D:=[i8 c.st,int c.pid,int c.epoch,int c.timeout,int c.thn,.lst 1 (c.parts.map fun n=>[int n]),.lst 3 (c.pends.map PendD.dv),int c.age]
def cz:CoordD:=⟨0,0,0,0,0,[],[],0⟩
structure GrpD where
 a0:Int
 a1:Int
 a2:Int
 b0:Int
 b1:Int
 b2:Int
 deriving DecidableEq
def GrpD.dv (g:GrpD):List D:=[int g.a0,int g.a1,int g.a2,int g.b0,int g.b1,int g.b2]
def GrpD.ls (g:GrpD):List Int:=[g.a0,g.a1,g.a2,g.b0,g.b1,g.b2]
structure StateD where
 made:Int
 c0:CoordD
 c1:CoordD
 c2:CoordD
 gr:GrpD
 deriving DecidableEq
def StateD.dv (s:StateD):List D:=int s.made::(s.c0.dv++(s.c1.dv++(s.c2.dv++s.gr.dv)))
def StateD.c (s:StateD):Nat→CoordD
 | 0=>s.c0
 | 1=>s.c1
 | _=>s.c2
structure ImgD where
 tag:Int
 p0:PartD
 p1:PartD
 p2:PartD
 m:StateD
 deriving DecidableEq
def ImgD.dv (i:ImgD):List D:=i8 i.tag::(i.p0.dv++(i.p1.dv++(i.p2.dv++i.m.dv)))
def ImgD.p (i:ImgD):Nat→PartD
 | 0=>i.p0
 | 1=>i.p1
 | _=>i.p2
def pz:PartD:=⟨0,0,[],[],[]⟩
def gz:GrpD:=⟨0,0,0,0,0,0⟩
def sz0:StateD:=⟨0,cz,cz,cz,gz⟩
def iz:ImgD:=⟨0,pz,pz,pz,sz0⟩
/-! transactional ids -/
def fV (q:Int):Bool:=aT q 0 2
def eW (p:PendD):Bool:=aT p.grp 0 1 && aT p.part 0 2 && aT p.off 0 1048576
def gY (a b:PendD):Bool:=decide (a.grp<b.grp) || (a.grp == b.grp && decide (a.part<b.part))
def oR:List PendD→Bool
 | a::b::l=>gY a b && oR (b::l)
 | _=>true
def mM (l:List Int):Bool:=eD l && l.all fV
def rS (c:CoordD):Bool:=c.st == 2 || c.st == 3 || c.st == 4
def dV (c:CoordD):Bool:=c.pends.all eW && aT c.pid 1 8 && aT c.epoch 0 100 && aT c.timeout 1 20 && aT c.age 0 1048576 && mM c.parts && oR c.pends
def lJ (c:CoordD):Bool :=
 if c.st == 2 then !(c.parts == [] && c.pends == []) && c.thn == 0
 else if c.st == 3 then c.thn == 0
 else if c.st == 4 then aT c.thn 0 20 && !(decide (0<c.thn) && decide (100≤c.epoch))
 else if c.st == 1 || c.st == 5 || c.st == 6 then c.thn == 0 && c.age == 0 && c.parts == [] && c.pends == []
 else false
def gW (c:CoordD):Bool:=if c.st == 0 then decide (c=cz) else lJ c && dV c
/-! states -/
def aMn (s:StateD):Nat→Bool
 | 0=>false
 | 1=>s.c1.pid != 0 && s.c0.pid == s.c1.pid
 | _=>s.c2.pid != 0 && (s.c0.pid == s.c2.pid || s.c1.pid == s.c2.pid)
def cOk (s:StateD) (k:Nat):Bool:=gW (s.c k) && decide ((s.c k).pid≤s.made) && !aMn s k
def lM (n:Int):Bool:=aT n (-1) 1048576
def eO (s:StateD):Bool:=aT s.made 0 8 && (cOk s 0 && (cOk s 1 && cOk s 2)) && s.gr.ls.all lM
def nL (s:StateD) (pid:Int):Nat × Bool :=
 if pid<1 then (0,false) else if s.c0.pid == pid then (0,true) else if s.c1.pid == pid then (1,true) else if s.c2.pid == pid then (2,true) else (0,false)
/-! parts -/
def dH (p:PartD) (o:OpenD):Bool:=vO o && ((jR p.prods o.pid).2 && ((jR p.prods o.pid).1.epoch == o.epoch && (jR p.prods o.pid).1.next == gG o))
def cA (p:PartD):Bool:=cD p && p.rows.all eU && qE p.prods && p.opens.all (dH p)
/-! images -/
def mD (p:PartD) (pid:Int):Bool:=p.opens.any (fun o=>o.pid == pid)
def aW (i:ImgD) (pid:Int):List Int:=(if mD i.p0 pid then [0] else [])++((if mD i.p1 pid then [1] else [])++(if mD i.p2 pid then [2] else []))
def cV (i:ImgD) (o:OpenD):Bool:=(nL i.m o.pid).2 && (i.m.c (nL i.m o.pid).1).epoch == o.epoch
def dJ (i:ImgD) (k:Nat):Bool:=decide ((i.m.c k).parts=aW i (i.m.c k).pid)
def rA (i:ImgD):Bool:=(dJ i 0 && (dJ i 1 && dJ i 2)) && (i.p0.opens.all (cV i) && (i.p1.opens.all (cV i) && i.p2.opens.all (cV i)))
def zS (i:ImgD):Bool:=i.tag == 0 || i.tag == 1
def aX (i:ImgD):Bool:=zS i && eO i.m && (cA i.p0 && (cA i.p1 && cA i.p2)) && rA i
/-! lags -/
def GrpD.at (g:GrpD):Nat→Nat→Int
 | 0,0=>g.a0
 | 0,1=>g.a1
 | 0,_=>g.a2
 | _,0=>g.b0
 | _,1=>g.b1
 | _,_=>g.b2
def GrpD.put (x:GrpD) (n:Int):Nat→Nat→GrpD
 | 0,0=>{ x with a0:=n }
 | 0,1=>{ x with a1:=n }
 | 0,_=>{ x with a2:=n }
 | _,0=>{ x with b0:=n }
 | _,1=>{ x with b1:=n }
 | _,_=>{ x with b2:=n }
def jM (p:PartD) (n:Int):Nat:=p.rows.countP (fun r=>decide (n≤r.off))
def ImgD.put (i:ImgD) (g q:Nat) (n:Int):ImgD:={ i with m:={ i.m with gr:=i.m.gr.put n g q } }
def kM (i:ImgD) (g q:Int):Int × Int:=if aT g 0 1 && aT q 0 2 && aX i then (((jM (i.p q.toNat) (i.m.gr.at g.toNat q.toNat):Nat):Int),0) else (0,2)
theorem aPy (x:GrpD) (n:Int) (g q:Nat) (hg:g<2) (hq:q<3):(x.put n g q).at g q=n:=by
 rcases (show g=0∨g=1 by omega) with rfl|rfl<;>rcases (show q=0∨q=1∨q=2 by omega) with rfl|rfl|rfl<;>rfl
theorem aPz (x:GrpD) (n:Int) (g q:Nat) (hx:x.ls.all lM=true) (hn:lM n=true):(x.put n g q).ls.all lM=true:=by
 simp only[GrpD.ls,List.all_cons,List.all_nil,Bool.and_true,Bool.and_eq_true] at hx
 obtain⟨h1,h2,h3,h4,h5,h6⟩:=hx
 unfold GrpD.put GrpD.ls
 split<;>simp only[List.all_cons,List.all_nil,Bool.and_true,Bool.and_eq_true]<;>exact⟨by assumption,by assumption,by assumption,by assumption,by assumption,by assumption⟩
theorem aL5 {s:StateD} {g q:Nat} {n:Int} (h:eO s=true) (hn:lM n=true):eO { s with gr:=s.gr.put n g q }=true:=by
 simp only[eO,Bool.and_eq_true] at h ⊢
 exact⟨h.1,aPz _ _ _ _ h.2 hn⟩
theorem aIb {i:ImgD} {g q:Nat} {n:Int} (h:aX i=true) (hn:lM n=true):aX (i.put g q n)=true:=by
 simp only[aX,Bool.and_eq_true] at h ⊢
 exact⟨⟨⟨h.1.1.1,aL5 h.1.1.2 hn⟩,h.1.2⟩,h.2⟩
theorem cU {i:ImgD} (h:aX i=true) (q:Nat):cA (i.p q)=true:=by
 simp only[aX,Bool.and_eq_true] at h
 obtain⟨⟨_,h0,h1,h2⟩,_⟩:=h
 match q with
 | 0=>exact h0
 | 1=>exact h1
 | _+2=>exact h2
theorem eQ {p:PartD} (h:cA p=true):cD p=true:=by
 simp only[cA,Bool.and_eq_true] at h;exact h.1.1.1
theorem pW {p:PartD} (h:cD p=true):jM p (-1)=p.rows.length:=by
 unfold jM
 rw[List.countP_eq_length]
 intro r hr
 have:=uA h r hr
 have:=fM h
 simp only[decide_eq_true_eq];omega
theorem pX {p:PartD} (h:cD p=true):jM p p.fin=0:=by
 unfold jM
 rw[List.countP_eq_zero]
 intro r hr
 have:=uA h r hr
 simp only[decide_eq_true_eq];omega
theorem tQ (l:List RowD) (n:Int):l.countP (fun r=>decide (n≤r.off))+l.countP (fun r=>decide (r.off<n))=l.length:=by
 induction l with
 | nil=>rfl
 | cons a l ih =>
  simp only[List.countP_cons,List.length_cons]
  by_cases h:n≤a.off
  ·have:¬ a.off<n:=by omega
   simp only[h,this,decide_true,decide_false,if_true,Bool.false_eq_true,if_false];omega
  ·have:a.off<n:=by omega
   simp only[h,this,decide_true,decide_false,if_true,Bool.false_eq_true,if_false];omega
end Go.Proofs.YtkmfmphpndhkjaaGreatDoor
