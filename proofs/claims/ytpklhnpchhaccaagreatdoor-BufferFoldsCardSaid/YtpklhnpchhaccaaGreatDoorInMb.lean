/- The abstract machine (MpI, MpJ, InF, InG). -/
import Derived.Test.YtpklhnpchhaccaaGreatDoorMpH
import Derived.Test.YtpklhnpchhaccaaGreatDoorInM
import Derived.Test.YtpklhnpchhaccaaGreatDoorSqN
namespace Go.Proofs.YtpklhnpchhaccaaGreatDoor
open Go Go.RowKit
set_option linter.unusedVariables false
set_option linter.unusedSimpArgs false
theorem aNl {σ:St} {id:Nat} {x:Option HE} (hdf:σ.fx.dfs.contains id=false):∀ i ∈ σ.fx.dfs,upd σ.H id x i=σ.H i:=fun i hi=>by
 rw[aA]
 rintro rfl
 rw[show σ.fx.dfs.contains i=true by simpa using hi] at hdf;cases hdf
set_option maxHeartbeats 4000000
set_option maxRecDepth 100000
def jJ (pr:RowD→Bool) (l:List RowD):List RowD:=l.filter fun r=>!pr r
theorem aW4 (s:FoldS) (e:EntD) (hp:OpOk s.p.opens) (hf:s.p.fin=1048576) :
  FunG Tryz.prog 287 [.c (.own 0 0),jG e] qL (bI (oB s)) (wU [97,32,114,111,119,32,119,105,116,104,111,117,116,32,114,111,111,109]) qL (bI (oB s)):=by
 have c1:=rB s.p 1
 rw[show IntKind.i64.wrap (1048576 - 1)=1048575 from bA (by decide),show decide (s.p.fin≤1048575)=false from decide_eq_false (by omega)] at c1
 have c2:=oQ [97,32,114,111,119,32,119,105,116,104,111,117,116,32,114,111,111,109]
 refine FunG.of_bodyH rfl rfl Tryz.func287 rfl rfl Tryz.ntmps287 Tryz.results287 (Nat.le_of_ble_eq_true rfl) (nD rfl rfl hp.pid hp.pid) ?_
 (refine gO (ai @aC (@EntD.dv.eq_1)) ?_)
 refine Wp.reg (fun K hK=>?_)
 (refine rO (ai @aC (@EntD.dv.eq_1)) ?_)
 refine fQ c1 rfl (iK hp (by (refine rO (ai @aC (ai @aJ.eq_1 (@aJ.eq_2))) ?_;try with_reducible exact tt))) ?_
 (refine rO (@aC) ?_)
 refine hK _ ?_
 clear hK K
 (refine gO (ai @aC (@EntD.dv.eq_1)) ?_)
 refine aO.ret ?_
 (refine rO (ai @aC (ai @aJ.eq_1 (@aJ.eq_2))) ?_;try with_reducible exact tt)
def aMd (s:FoldS) (p:ProdD):FoldS:=⟨{ s.p with prods:=dV s.p.prods p },s.vr,s.vo,s.vt⟩
theorem aQe (s:FoldS) (e:EntD) (hp:OpOk s.p.opens) (hl:s.p.opens.length≤1000) (ho:bL s.p.opens e.prod.pid=true) :
  FunG Tryz.prog 288 [.c (.own 0 0),jG e] qL (bI (oB s)) (wU [116,104,101,32,115,116,97,116,101,32,111,102,32,97,32,112,114,111,100,117,99,101,114,32,119,105,116,104,32,97,110,32,111,112,101,110,32,116,114,97,110,115,97,99,116,105,111,110]) qL (bI (oB s)):=by
 have c1:=rR s.p e.prod.pid (by omega)
 rw[ho] at c1
 have c2:=oQ [116,104,101,32,115,116,97,116,101,32,111,102,32,97,32,112,114,111,100,117,99,101,114,32,119,105,116,104,32,97,110,32,111,112,101,110,32,116,114,97,110,115,97,99,116,105,111,110]
 refine FunG.of_bodyH rfl rfl Tryz.func288 rfl rfl Tryz.ntmps288 Tryz.results288 (Nat.le_of_ble_eq_true rfl) (nD rfl rfl hp.pid hp.pid) ?_
 (refine gO (ai @aC (@EntD.dv.eq_1)) ?_)
 refine Wp.reg (fun K hK=>?_)
 (refine rO (ai @aC (@EntD.dv.eq_1)) ?_)
 refine fQ c1 rfl (iK hp (by (refine rO (ai @aC (ai @aJ.eq_1 (@aJ.eq_2))) ?_;try with_reducible exact tt))) ?_
 (refine rO (@aC) ?_)
 refine hK _ ?_
 clear hK K
 (refine gO (ai @aC (@EntD.dv.eq_1)) ?_)
 refine aO.ret ?_
 (refine rO (ai @aC (ai @aJ.eq_1 (@aJ.eq_2))) ?_;try with_reducible exact tt)
theorem aMc (s:FoldS) (e:EntD) (hp:OpOk s.p.opens) (hl:s.p.opens.length≤1000) (ho:bL s.p.opens e.prod.pid=false) (hs:SmallL s.p.prods) (he:e.prod.seen.length≤100000) :
  FunG Tryz.prog 288 [.c (.own 0 0),jG e] qL (bI (oB s)) lJ qL (bI (oB (aMd s e.prod))):=by
 have c1:=rR s.p e.prod.pid (by omega)
 rw[ho] at c1
 have c2:=aGs s.p.prods e.prod hs he
 simp only[ProdD.dv] at c2
 refine FunG.of_bodyH rfl rfl Tryz.func288 rfl rfl Tryz.ntmps288 Tryz.results288 (Nat.le_of_ble_eq_true rfl) (nD rfl rfl hp.pid hp.pid) ?_
 (refine gO (ai @aC (@EntD.dv.eq_1)) ?_)
 refine Wp.reg (fun K hK=>?_)
 (refine rO (ai @aC (@EntD.dv.eq_1)) ?_)
 refine fQ c1 rfl (iK hp (by (refine rO (ai @aC (ai @aJ.eq_1 (@aJ.eq_2))) ?_;try with_reducible exact tt))) ?_
 (refine rO (@aC) ?_)
 refine hK _ ?_
 clear hK K
 (refine gO (ai @aC (@EntD.dv.eq_1)) ?_)
 refine aO.ret ?_
 (refine rO (ai @aC (ai @aJ.eq_1 (ai @aJ.eq_2 (@aMd.eq_1)))) ?_;try with_reducible exact tt)
theorem aOp (s:FoldS) (e:EntD) (hp:OpOk s.p.opens) (hc:e.off<s.p.start∨s.p.fin<e.off) :
  FunG Tryz.prog 285 [.c (.own 0 0),jG e] qL (bI (oB s)) (wU [97,32,99,117,116]) qL (bI (oB s)):=by
 have c2:=oQ [97,32,99,117,116]
 refine FunG.of_bodyH rfl rfl Tryz.func285 rfl rfl Tryz.ntmps285 Tryz.results285 (Nat.le_of_ble_eq_true rfl) (nD rfl rfl hp.pid hp.pid) ?_
 by_cases h1:e.off<s.p.start
 ·have d1:decide (e.off<s.p.start)=true:=decide_eq_true h1
  (refine gO (ai @aC (ai @EntD.dv.eq_1 (d1))) ?_)
  refine aO.ret ?_
  (refine rO (ai @aC (ai @aJ.eq_1 (@aJ.eq_2))) ?_;try with_reducible exact tt)
 ·have d1:decide (e.off<s.p.start)=false:=decide_eq_false h1
  have d2:decide (s.p.fin<e.off)=true:=decide_eq_true (by omega)
  (refine gO (ai @aC (ai @EntD.dv.eq_1 (ai d1 (d2)))) ?_)
  refine aO.ret ?_
  (refine rO (ai @aC (ai @aJ.eq_1 (@aJ.eq_2))) ?_;try with_reducible exact tt)
theorem aQ0 (ρ:Nat→Nat) (l:List RowD):(fO l).map (CV.ren ρ)=fO l:=by
 unfold fO
 rw[List.map_map]
 exact List.map_congr_left (fun _ _=>rfl)
theorem iS (ρ:Nat→Nat) (e v:Nat) (l:List RowD):HE.ren ρ (.mrow e 5 v (fO l)) = .mrow e 5 v (fO l):=by
 show HE.mrow e 5 v ((fO l).map (CV.ren ρ))=_
 rw[aQ0]
def nJ (o:Int) (r:RowD):Bool:=decide (r.off<o)
end Go.Proofs.YtpklhnpchhaccaaGreatDoor
