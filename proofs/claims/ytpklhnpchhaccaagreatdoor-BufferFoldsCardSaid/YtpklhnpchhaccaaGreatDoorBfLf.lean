/- Layer 14's statements: BufferFolds. -/
import Derived.Test.YtpklhnpchhaccaaGreatDoorBfMg
namespace Go.Proofs.YtpklhnpchhaccaaGreatDoor
open Go Go.RowKit
set_option maxHeartbeats 16000000
set_option maxRecDepth 100000
set_option linter.unusedVariables false
set_option linter.unusedSimpArgs false
theorem yY (l:List EntD) (s:List SideD) (pid:Int) (hk:∀ e ∈ l,-128≤e.kind∧e.kind≤127) (hks:∀ x ∈ s,x.l.length≤maxLen∧∀ e ∈ x.l,-128≤e.kind∧e.kind≤127) :
  aW Tryz.prog 8 [.lst 18 (l.map EntD.dv),.lst 2 (s.map SideD.dv),int pid] (dM true):=by
 have cw:=aK5
 have c0:=aIs l s
 (refine aW.of_body Tryz.func8 rfl rfl Tryz.ntmps8 Tryz.results8 (by simp) ?_)
 cases hg:mB l s with
 | true =>
  rw[hg] at c0
  (refine bP ?_)
  (refine aT ?_;try with_reducible exact tt)
 | false =>
 rw[hg] at c0
 obtain⟨hl,hs,hsl,hss⟩:=aL3 hg
 have hsm:∀ e ∈ l,SmallEn e:=fun e he=>⟨hk e he,by have:=(hs e he).1;omega,by have:=(hs e he).2;omega⟩
 have hsx:∀ x ∈ s,∀ y ∈ x.l,SmallEn y:=fun x hx y hy=>⟨(hks x hx).2 y hy,by have:=((hss x hx).2 y hy).1;omega,by have:=((hss x hx).2 y hy).2;omega⟩
 have c1:=qX l s (by omega) hsm (by omega) hsx
 have c2:=aL1 l s (by omega) (fun e he=>⟨(hsm e he).recs,(hsm e he).seen⟩) ⟨by omega,fun x hx e he=>⟨(hsx x hx e he).recs,(hsx x hx e he).seen⟩⟩
 rw[aNd] at c2
 obtain⟨a1,a2,a3⟩:=aNw hl hsl
 have c3:=aA5 l pid (by omega) (fun e he=>(hsm e he).recs)
 have c4:=aBr l pid (by omega)
 have c5:=aGr (a14 l s) (a14 l s) a1 a2 a3
 rw[show decide (a14 l s=a14 l s)=true by simp] at c5
 have c6:=aHp s s (by omega) (fun x hx=>⟨by have:=(hss x hx).1;omega,fun e he=>⟨(hsx x hx e he).recs,(hsx x hx e he).seen⟩⟩)
 rw[show decide (s=s)=true by simp] at c6
 have hwl:=xR pid l
 have hwr:∀ b ∈ lM l pid,b.recs.length≤100000:=by
  have key:∀ (l:List EntD) (acc:List BatD),(∀ e ∈ l,SmallEn e)→(∀ b ∈ acc,b.recs.length≤100000)→∀ b ∈ l.foldl (tG pid) acc,b.recs.length≤100000:=by
   intro l
   induction l with
   | nil=>intro acc _ h;exact h
   | cons e l ih =>
    intro acc he ha
    rw[List.foldl_cons]
    refine ih _ (fun x hx=>he x (List.mem_cons_of_mem _ hx)) ?_
    unfold tG
    split
    ·exact ha
    split
    ·split
     ·intro b hb;cases hb
     ·intro b hb
      rcases List.mem_append.1 hb with hb|hb
      ·exact ha b hb
      ·simp at hb;subst hb;exact (he e (List.mem_cons_self ..)).recs
    split
    ·intro b hb;cases hb
    ·exact ha
  exact key l [] hsm (fun b hb=>by cases hb)
 generalize a14 l s=p at *
 generalize e14 l s=e at *
 generalize lM l pid=w at *
 clear a1 a2 a3
 simp only[PartD.dv] at c1 c2 c5
 have hb1:((w.length:Int) != (w.length:Int))=false:=by simp
 have hb2:(e != e)=false:=by simp
 (refine gO (ai hb1 (ai hb2 (@PartD.dv.eq_1))) ?_)
 refine Wp.loop (fun i:Nat=>⟨iH [(11,.c (.d (.lst 5 (w.map BatD.dv)))),(12,.c (.d (.lst 5 (w.map BatD.dv)))),(13,vi .i64 i)],bI [],2,75,0⟩) (fun i=>i≤w.length) (fun i=>w.length - i) 0 (Nat.zero_le _) ?_ ?_
 ·refine aD.keep rfl rfl ?_
  (refine aT ?_;try with_reducible exact tt)
 intro i hi
 by_cases hil:i<w.length
 ·have d3:decide ((i:Int)<(w.length:Int))=true:=decide_eq_true (by omega)
  have hge:w[i]? = some w[i]:=List.getElem?_eq_getElem hil
  have hwi:IntKind.i64.wrap ((i:Int)+1)=((i+1:Nat):Int):=by rw[bA (by omega)];rfl
  have hbr:=hwr _ (List.getElem_mem hil)
  generalize w[i]=b at *
  have c7:=nY b b (by omega)
  rw[show decide (b=b)=true by simp] at c7
  simp only[BatD.dv] at c7
  (refine gO (ai d3 (ai hge (@BatD.dv.eq_1))) ?_)
  refine⟨i+1,hil,by omega,aD.keep rfl rfl ?_⟩
  (refine rO (hwi) ?_;try with_reducible exact tt)
 ·have hie:i=w.length:=by omega
  subst hie
  have d3:decide ((w.length:Int)<(w.length:Int))=false:=by simp
  (refine gO (d3) ?_)
  (refine aT ?_;try with_reducible exact tt)
end Go.Proofs.YtpklhnpchhaccaaGreatDoor
