/- Images as plain data,and when one may be. -/
import Derived.Test.YtkmfmphpndhkjaaGreatDoorTbA
import Derived.Test.YtkmfmphpndhkjaaGreatDoorSqM
import Derived.Test.YtkmfmphpndhkjaaGreatDoorCpMa
namespace Go.Proofs.YtkmfmphpndhkjaaGreatDoor
open Go Go.RowKit
set_option maxHeartbeats 4000000
set_option maxRecDepth 100000
set_option linter.unusedVariables false
set_option linter.unusedSimpArgs false
def fV (r:RowD):Bool:=aU r.pid 1 8 && aU r.seq 0 1048575 && decide ((r.key.length:Int)≤16) && decide ((r.value.length:Int)≤16)
structure PendD where
 grp:Int
 part:Int
 off:Int
 deriving DecidableEq
def PendD.dv (p:PendD):List D:=[int p.grp,int p.part,int p.off]
structure CoordD where
 st:Int
 pid:Int
 epoch:Int
 timeout:Int
 thn:Int
 parts:List Int
 pends:List PendD
 age:Int
 deriving DecidableEq
def CoordD.dv (c:CoordD):List D:=[i8 c.st,int c.pid,int c.epoch,int c.timeout,int c.thn,.lst 1 (c.parts.map fun n=>[int n]),.lst 3 (c.pends.map PendD.dv),int c.age]
def cz:CoordD:=⟨0,0,0,0,0,[],[],0⟩
structure GrpD where
 a0:Int
 a1:Int
 a2:Int
 b0:Int
 b1:Int
 b2:Int
 deriving DecidableEq
def GrpD.dv (g:GrpD):List D:=[int g.a0,int g.a1,int g.a2,int g.b0,int g.b1,int g.b2]
def GrpD.ls (g:GrpD):List Int:=[g.a0,g.a1,g.a2,g.b0,g.b1,g.b2]
structure StateD where
 made:Int
 c0:CoordD
 c1:CoordD
 c2:CoordD
 gr:GrpD
 deriving DecidableEq
def StateD.dv (s:StateD):List D:=int s.made::(s.c0.dv++(s.c1.dv++(s.c2.dv++s.gr.dv)))
def StateD.c (s:StateD):Nat→CoordD
 | 0=>s.c0
 | 1=>s.c1
 | _=>s.c2
structure ImgD where
 tag:Int
 p0:PartD
 p1:PartD
 p2:PartD
 m:StateD
 deriving DecidableEq
def ImgD.dv (i:ImgD):List D:=i8 i.tag::(i.p0.dv++(i.p1.dv++(i.p2.dv++i.m.dv)))
def ImgD.p (i:ImgD):Nat→PartD
 | 0=>i.p0
 | 1=>i.p1
 | _=>i.p2
def pz:PartD:=⟨0,0,[],[],[]⟩
def gz:GrpD:=⟨0,0,0,0,0,0⟩
def sz0:StateD:=⟨0,cz,cz,cz,gz⟩
def iz:ImgD:=⟨0,pz,pz,pz,sz0⟩
/-! transactional ids -/
def gS (q:Int):Bool:=aU q 0 2
def dG (p:PendD):Bool:=aU p.grp 0 1 && aU p.part 0 2 && aU p.off 0 1048576
def iC (a b:PendD):Bool:=decide (a.grp<b.grp) || (a.grp == b.grp && decide (a.part<b.part))
def oL:List PendD→Bool
 | a::b::l=>iC a b && oL (b::l)
 | _=>true
def nV (l:List Int):Bool:=eH l && l.all gS
def kI (c:CoordD):Bool:=c.st == 2 || c.st == 3 || c.st == 4
def dK (c:CoordD):Bool:=c.pends.all dG && aU c.pid 1 8 && aU c.epoch 0 100 && aU c.timeout 1 20 && aU c.age 0 1048576 && nV c.parts && oL c.pends
def lT (c:CoordD):Bool :=
 if c.st == 2 then !(c.parts == [] && c.pends == []) && c.thn == 0
 else if c.st == 3 then c.thn == 0
 else if c.st == 4 then aU c.thn 0 20 && !(decide (0<c.thn) && decide (100≤c.epoch))
 else if c.st == 1 || c.st == 5 || c.st == 6 then c.thn == 0 && c.age == 0 && c.parts == [] && c.pends == []
 else false
def fF (c:CoordD):Bool:=if c.st == 0 then decide (c=cz) else lT c && dK c
/-! states -/
def aRb (s:StateD):Nat→Bool
 | 0=>false
 | 1=>s.c1.pid != 0 && s.c0.pid == s.c1.pid
 | _=>s.c2.pid != 0 && (s.c0.pid == s.c2.pid || s.c1.pid == s.c2.pid)
def cOk (s:StateD) (k:Nat):Bool:=fF (s.c k) && decide ((s.c k).pid≤s.made) && !aRb s k
def aHi (n:Int):Bool:=aU n (-1) 1048576
def fG (s:StateD):Bool:=aU s.made 0 8 && (cOk s 0 && (cOk s 1 && cOk s 2)) && s.gr.ls.all aHi
def nG (s:StateD) (pid:Int):Nat × Bool :=
 if pid<1 then (0,false) else if s.c0.pid == pid then (0,true) else if s.c1.pid == pid then (1,true) else if s.c2.pid == pid then (2,true) else (0,false)
/-! parts -/
def cV (p:PartD) (o:OpenD):Bool:=wG o && ((eI p.prods o.pid).2 && ((eI p.prods o.pid).1.epoch == o.epoch && (eI p.prods o.pid).1.next == hZ o))
def bE (p:PartD):Bool:=bB p && p.rows.all fV && sO p.prods && p.opens.all (cV p)
/-! images -/
def mY (p:PartD) (pid:Int):Bool:=p.opens.any (fun o=>o.pid == pid)
def aY (i:ImgD) (pid:Int):List Int:=(if mY i.p0 pid then [0] else [])++((if mY i.p1 pid then [1] else [])++(if mY i.p2 pid then [2] else []))
def cH (i:ImgD) (o:OpenD):Bool:=(nG i.m o.pid).2 && (i.m.c (nG i.m o.pid).1).epoch == o.epoch
def dD (i:ImgD) (k:Nat):Bool:=decide ((i.m.c k).parts=aY i (i.m.c k).pid)
def nS (i:ImgD):Bool:=(dD i 0 && (dD i 1 && dD i 2)) && (i.p0.opens.all (cH i) && (i.p1.opens.all (cH i) && i.p2.opens.all (cH i)))
def aCp (i:ImgD):Bool:=i.tag == 0 || i.tag == 1
def aS (i:ImgD):Bool:=aCp i && fG i.m && (bE i.p0 && (bE i.p1 && bE i.p2)) && nS i
/-! lags -/
def GrpD.at (g:GrpD):Nat→Nat→Int
 | 0,0=>g.a0
 | 0,1=>g.a1
 | 0,_=>g.a2
 | _,0=>g.b0
 | _,1=>g.b1
 | _,_=>g.b2
def GrpD.put (x:GrpD) (n:Int):Nat→Nat→GrpD
 | 0,0=>{ x with a0:=n }
 | 0,1=>{ x with a1:=n }
 | 0,_=>{ x with a2:=n }
 | _,0=>{ x with b0:=n }
 | _,1=>{ x with b1:=n }
 | _,_=>{ x with b2:=n }
def vD (p:PartD) (n:Int):Nat:=p.rows.countP (fun r=>decide (n≤r.off))
def ImgD.put (i:ImgD) (g q:Nat) (n:Int):ImgD:={ i with m:={ i.m with gr:=i.m.gr.put n g q } }
def aK9 (i:ImgD) (g q:Int):Int × Int:=if aU g 0 1 && aU q 0 2 && aS i then (((vD (i.p q.toNat) (i.m.gr.at g.toNat q.toNat):Nat):Int),0) else (0,2)
theorem bI {i:ImgD} (h:aS i=true) (q:Nat):bE (i.p q)=true:=by
 simp only[aS,Bool.and_eq_true] at h
 obtain⟨⟨_,h0,h1,h2⟩,_⟩:=h
 match q with
 | 0=>exact h0
 | 1=>exact h1
 | _+2=>exact h2
theorem dA {p:PartD} (h:bE p=true):bB p=true:=by
 simp only[bE,Bool.and_eq_true] at h;exact h.1.1.1
end Go.Proofs.YtkmfmphpndhkjaaGreatDoor
