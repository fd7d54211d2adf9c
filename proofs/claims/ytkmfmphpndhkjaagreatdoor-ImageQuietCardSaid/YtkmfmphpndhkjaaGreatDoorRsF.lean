/- The reference of layer 22: opens. -/
import Derived.Test.YtkmfmphpndhkjaaGreatDoorRsE
import Derived.Test.YtkmfmphpndhkjaaGreatDoorRsN
import Derived.Test.YtkmfmphpndhkjaaGreatDoorPnM
import Derived.Test.YtkmfmphpndhkjaaGreatDoorOpI
namespace Go.Proofs.YtkmfmphpndhkjaaGreatDoor
open Go Go.RowKit
set_option maxHeartbeats 16000000
set_option maxRecDepth 100000
set_option linter.unusedVariables false
set_option linter.unusedSimpArgs false
theorem aQ8 {l:List OpenD} {pid:Int} {j:Nat} (h:j<lH l pid):∃ hj:j<l.length,l[j].pid<pid:=by
 have hle:=aB4 l pid
 have hj:j<l.length:=by omega
 have:=List.not_of_lt_findIdx (p:=fun x:OpenD=>decide (pid≤x.pid)) (xs:=l) (i:=j) h
 exact⟨hj,by simpa using this⟩
theorem aQ7 {l:List OpenD} {pid:Int} (h:lH l pid<l.length):pid≤l[lH l pid].pid:=by
 have:=List.findIdx_getElem (p:=fun x:OpenD=>decide (pid≤x.pid)) (xs:=l) (w:=h)
 exact of_decide_eq_true this
theorem aFi {p:PartD} (h:bB p=true):eH (p.opens.map (·.pid))=true∧p.opens.any (fun o=>o.bats == [])=false:=by
 simp only[bB,Bool.and_eq_true,Bool.not_eq_true'] at h
 exact⟨h.1.2,h.2⟩
theorem rR (p:PartD) (pid:Int) (hl:p.opens.length≤100000):aJ Tryz.prog 41 [.agg p.dv,int pid] (.tup [int (lH p.opens pid:Nat),dC (vO p.opens pid)]):=by
 have hile:=aB4 p.opens pid
 (refine aJ.of_body Tryz.func41 rfl rfl Tryz.ntmps41 Tryz.results41 (by simp) ?_)
 (refine gO (@PartD.dv.eq_1) ?_;try with_reducible exact tt)
 refine Wp.loop (fun k:Nat=>⟨dI [(1,.c (.d (int pid))),(2,.c (.own 0 0)),(6,vi .i64 k)],bJ [(0,.cells (p.dv.map CV.d))],1,40,0⟩) (fun k=>k≤lH p.opens pid) (fun k=>p.opens.length - k) 0 (Nat.zero_le _) ?_ ?_
 ·refine aD.keep rfl rfl ?_
  (refine rO (ai @PartD.dv.eq_1 (ai @List.map_cons.{0,0} (@List.map_nil.{0,0}))) ?_;try with_reducible exact tt)
 intro k hk
 have hwk:IntKind.i64.wrap ((k:Int)+1)=((k+1:Nat):Int):=by rw[aG (by omega)];rfl
 by_cases hkl:k<p.opens.length
 rotate_left
 ·have d1:decide ((k:Int)<(p.opens.length:Int))=false:=decide_eq_false (by omega)
  have hke:lH p.opens pid=k:=by omega
  have hob:vO p.opens pid=false:=by
   unfold vO
   rw[List.getElem?_eq_none (by omega)]
  rw[hob,hke]
  (refine gO (ai @PartD.dv.eq_1 (ai @List.map_cons.{0,0} (ai @List.map_nil.{0,0} (ai @List.length_map.{0,0} (d1))))) ?_;try with_reducible exact tt)
  (refine aK ?_;try with_reducible exact tt)
 have d1:decide ((k:Int)<(p.opens.length:Int))=true:=decide_eq_true (by omega)
 have hge:p.opens[k]? = some p.opens[k]:=List.getElem?_eq_getElem hkl
 by_cases hki:k<lH p.opens pid
 ·obtain⟨_,hlt⟩:=aQ8 hki
  have d2:decide (p.opens[k].pid<pid)=true:=decide_eq_true hlt
  generalize p.opens[k]=o at *
  (refine gO (ai @PartD.dv.eq_1 (ai @List.map_cons.{0,0} (ai @List.map_nil.{0,0} (ai @List.length_map.{0,0} (ai d1 (ai hge (ai @OpenD.dv.eq_1 (ai d2 (hwk))))))))) ?_;try with_reducible exact tt)
  refine⟨k+1,hki,by omega,aD.keep rfl rfl ?_⟩
  (refine rO (ai @PartD.dv.eq_1 (ai @List.map_cons.{0,0} (@List.map_nil.{0,0}))) ?_;try with_reducible exact tt)
 ·have hke:lH p.opens pid=k:=by omega
  have hg:=aQ7 (l:=p.opens) (pid:=pid) (by rw[hke];exact hkl)
  simp only[hke] at hg
  have d2:decide (p.opens[k].pid<pid)=false:=decide_eq_false (by omega)
  have hob:vO p.opens pid=(p.opens[k].pid == pid):=by
   unfold vO
   rw[hke,hge]
  rw[hob,hke]
  generalize p.opens[k]=o at *
  (refine gO (ai @PartD.dv.eq_1 (ai @List.map_cons.{0,0} (ai @List.map_nil.{0,0} (ai @List.length_map.{0,0} (ai d1 (ai hge (ai @OpenD.dv.eq_1 (ai d2 (hwk))))))))) ?_;try with_reducible exact tt)
  (refine aK ?_;try with_reducible exact tt)

theorem aNq (l:List OpenD) (h:eH (l.map (·.pid))=true) (pid:Int):vO l pid=l.any (fun o=>o.pid == pid):=by
 have hle:=aB4 l pid
 rw[Bool.eq_iff_iff]
 constructor
 ·intro hb
  unfold vO at hb
  cases hg:l[lH l pid]? with
  | none=>rw[hg] at hb;cases hb
  | some o =>
   rw[hg] at hb
   exact List.any_eq_true.2 ⟨o,List.mem_of_getElem? hg,hb⟩
 ·intro ha
  obtain⟨o,hm,hp⟩:=List.any_eq_true.1 ha
  obtain⟨j,hj,rfl⟩:=List.getElem_of_mem hm
  have hpj:l[j].pid=pid:=by simpa using hp
  have hij:lH l pid≤j:=by
   rcases Nat.lt_or_ge j (lH l pid) with h1|h1
   ·have:=List.not_of_lt_findIdx h1
    simp at this;omega
   ·exact h1
  have hlt:lH l pid<l.length:=by omega
  have h2:decide (pid≤(l[lH l pid]).pid)=true:=List.findIdx_getElem (p:=fun x:OpenD=>decide (pid≤x.pid)) (xs:=l) (w:=hlt)
  simp only[decide_eq_true_eq] at h2
  unfold vO
  rw[List.getElem?_eq_getElem hlt]
  simp only[beq_iff_eq]
  rcases Nat.lt_or_ge (lH l pid) j with h3|h3
  ·have:=oH _ h (lH l pid) j (by simpa using hj) h3
   simp only[List.getElem_map] at this
   omega
  ·have e:lH l pid=j:=by omega
   simp only[e];exact hpj
theorem aB7 {p:PartD} (h:bE p=true) (pid:Int):vO p.opens pid=mY p pid:=aNq _ (aFi (dA h)).1 pid
theorem rN (i:ImgD) (pid:Int) (hs:SmallI i) (h0:bE i.p0=true) (h1:bE i.p1=true) (h2:bE i.p2=true):aJ Tryz.prog 22 [.agg i.dv,int pid] (oQ (aY i pid)):=by
 have c0:=rR i.p0 pid hs.p0.opens
 have c1:=rR i.p1 pid hs.p1.opens
 have c2:=rR i.p2 pid hs.p2.opens
 rw[aB7 h0] at c0
 rw[aB7 h1] at c1
 rw[aB7 h2] at c2
 simp only[PartD.dv] at c0 c1 c2
 (refine aJ.of_bodyW Tryz.func22 rfl rfl Tryz.ntmps22 Tryz.results22 (by simp) ?_)
 (refine gO (ai @ImgD.dv.eq_1 (ai @PartD.dv.eq_1 (ai @StateD.dv.eq_1 (ai @CoordD.dv.eq_1 (@GrpD.dv.eq_1))))) ?_;try with_reducible exact tt)
 refine Wp.rounds 4 (aN.go ?_)
 cases h0:mY i.p0 pid<;>rw[h0] at c0<;>cases h1:mY i.p1 pid<;>rw[h1] at c1<;>cases h2:mY i.p2 pid<;>rw[h2] at c2
 ·have e:aY i pid=[]:=by unfold aY;rw[h0,h1,h2];rfl
  rw[e]
  (refine aI ?_;try with_reducible exact tt)
  (refine aK ?_;try with_reducible exact tt)
  exact⟨_,rfl,jA.nil 1⟩
 ·have e:aY i pid=[2]:=by unfold aY;rw[h0,h1,h2];rfl
  rw[e]
  (refine aI ?_;try with_reducible exact tt)
  (refine aK ?_;try with_reducible exact tt)
  exact⟨_,rfl,fun K v h=>h⟩
 ·have e:aY i pid=[1]:=by unfold aY;rw[h0,h1,h2];rfl
  rw[e]
  (refine aI ?_;try with_reducible exact tt)
  (refine aK ?_;try with_reducible exact tt)
  exact⟨_,rfl,fun K v h=>h⟩
 ·have e:aY i pid=[1,2]:=by unfold aY;rw[h0,h1,h2];rfl
  rw[e]
  (refine aI ?_;try with_reducible exact tt)
  (refine aK ?_;try with_reducible exact tt)
  exact⟨_,rfl,fun K v h=>h⟩
 ·have e:aY i pid=[0]:=by unfold aY;rw[h0,h1,h2];rfl
  rw[e]
  (refine aI ?_;try with_reducible exact tt)
  (refine aK ?_;try with_reducible exact tt)
  exact⟨_,rfl,fun K v h=>h⟩
 ·have e:aY i pid=[0,2]:=by unfold aY;rw[h0,h1,h2];rfl
  rw[e]
  (refine aI ?_;try with_reducible exact tt)
  (refine aK ?_;try with_reducible exact tt)
  exact⟨_,rfl,fun K v h=>h⟩
 ·have e:aY i pid=[0,1]:=by unfold aY;rw[h0,h1,h2];rfl
  rw[e]
  (refine aI ?_;try with_reducible exact tt)
  (refine aK ?_;try with_reducible exact tt)
  exact⟨_,rfl,fun K v h=>h⟩
 ·have e:aY i pid=[0,1,2]:=by unfold aY;rw[h0,h1,h2];rfl
  rw[e]
  (refine aI ?_;try with_reducible exact tt)
  (refine aK ?_;try with_reducible exact tt)
  exact⟨_,rfl,fun K v h=>h⟩
end Go.Proofs.YtkmfmphpndhkjaaGreatDoor
