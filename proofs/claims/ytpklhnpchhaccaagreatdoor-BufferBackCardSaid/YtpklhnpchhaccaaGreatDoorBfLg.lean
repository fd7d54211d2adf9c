/- Package buffer: Log. -/
import Derived.Test.YtpklhnpchhaccaaGreatDoorBfMg
import Derived.Test.YtpklhnpchhaccaaGreatDoorRgV
namespace Go.Proofs.YtpklhnpchhaccaaGreatDoor
open Go Go.RowKit
set_option maxHeartbeats 16000000
set_option maxRecDepth 100000
set_option linter.unusedVariables false
set_option linter.unusedSimpArgs false
theorem zG (xs:List (List D)) (hl:xs.length≤1000000):mO Tryz.prog 67 [.lst 18 xs] 71 18 xs:=by
 cases xs with
 | nil =>
  refine mO.of_nil (fun a c=>?_)
  (refine mO.of_body Tryz.func67 rfl rfl Tryz.ntmps67 Tryz.results67 (by simp) ?_)
  cases a with
  | none =>
   (repeat (first|refine Wp.skip ?_|refine Wp.exit ?_|refine Wp.ret ?_|refine Wp.block ?_|refine Wp.label ?_|((first|(first|refine Wp.sreg (fun K hK=>?_)|refine Wp.reg (fun K hK=>?_)|refine Wp.sdrw aI (fun K hK=>?_)|refine Wp.drw aI (fun K hK=>?_))|refine Wp.condG (fun K hT hF=>?_));(refine rO (ai @Option.isNone_none.{0} (@Option.isNone_some.{0})) ?_);(first|(refine hK _ ?_;clear hK K)|(refine⟨by kernel_rfl,hK _ ?_⟩;clear hK K)|(refine hT ?_;clear hT hF K)|(refine hF ?_;clear hT hF K)))|refine Wp.seq ?_))
   (refine aY ?_;try with_reducible exact tt)
  | some ad =>
   (repeat (first|refine Wp.skip ?_|refine Wp.exit ?_|refine Wp.ret ?_|refine Wp.block ?_|refine Wp.label ?_|((first|(first|refine Wp.sreg (fun K hK=>?_)|refine Wp.reg (fun K hK=>?_)|refine Wp.sdrw aI (fun K hK=>?_)|refine Wp.drw aI (fun K hK=>?_))|refine Wp.condG (fun K hT hF=>?_));(refine rO (ai @Option.isNone_none.{0} (@Option.isNone_some.{0})) ?_);(first|(refine hK _ ?_;clear hK K)|(refine⟨by kernel_rfl,hK _ ?_⟩;clear hK K)|(refine hT ?_;clear hT hF K)|(refine hF ?_;clear hT hF K)))|refine Wp.seq ?_))
   (refine aY ?_)
   exact .inl ⟨0,rfl,rfl⟩
 | cons f fs =>
  have hb:(fs.length+1)*192≤140737488355328:=by simp at hl;omega
  (refine mO.of_body Tryz.func67 rfl rfl Tryz.ntmps67 Tryz.results67 (by simp) ?_)
  (repeat (first|refine Wp.skip ?_|refine Wp.exit ?_|refine Wp.ret ?_|refine Wp.block ?_|refine Wp.label ?_|((first|(first|refine Wp.sreg (fun K hK=>?_)|refine Wp.reg (fun K hK=>?_)|refine Wp.sdrw aI (fun K hK=>?_)|refine Wp.drw aI (fun K hK=>?_))|refine Wp.condG (fun K hT hF=>?_));(refine rO (hb) ?_);(first|(refine hK _ ?_;clear hK K)|(refine⟨by kernel_rfl,hK _ ?_⟩;clear hK K)|(refine hT ?_;clear hT hF K)|(refine hF ?_;clear hT hF K)))|refine Wp.seq ?_))
  (refine aY ?_)
  exact .inl ⟨0,rfl,rfl⟩
theorem aJy (p:PartD):(eH p).length=p.rows.length+p.prods.length:=by
 unfold eH;rw[List.length_append,List.length_map,List.length_map]
def jQ (p:PartD) (k:Nat):List EntD:=((p.opens.drop k).map bZ).flatMap (·.l)
theorem aTq {p:PartD} {k:Nat} (h:k<p.opens.length):jQ p k=p.opens[k].bats.map dZ++jQ p (k+1):=by
 unfold jQ
 rw[List.drop_eq_getElem_cons h,List.map_cons,List.flatMap_cons];rfl
theorem aKn (p:PartD) (h:∀ o ∈ p.opens,o.bats.length≤8) (k:Nat):(jQ p k).length≤8*p.opens.length:=by
 have key:∀ l:List OpenD,(∀ o ∈ l,o.bats.length≤8)→((l.map bZ).flatMap (·.l)).length≤8*l.length:=by
  intro l
  induction l with
  | nil=>intro _;simp
  | cons o l ih =>
   intro h
   have h1:=h o (List.mem_cons_self ..)
   have h2:=ih (fun x hx=>h x (List.mem_cons_of_mem _ hx))
   rw[List.map_cons,List.flatMap_cons,List.length_append,List.length_cons]
   have:(bZ o).l.length=o.bats.length:=by unfold bZ;rw[List.length_map]
   omega
 have h1:=key (p.opens.drop k) (fun o ho=>h o (List.mem_of_mem_drop ho))
 rw[List.length_drop] at h1
 unfold jQ
 omega
theorem aB0 {k:Nat} {p:PartD} (hM:FOkM k p) (hB:BOk p) (hk:k≤1000):bF Tryz.prog 31 [.agg p.dv] (.tup [.lst 18 ((eH p).map EntD.dv),.lst 2 ((p.opens.map bZ).map SideD.dv),int 0]):=by
 have c1:=aQe hM hB (by omega)
 have hrow:=hM.rows
 have hpr:=hM.prods
 have hop:=hM.ok.len8
 have hmn:=aJy p
 have hsp:(tN p).map EntD.dv=(eH p).map EntD.dv++(jQ p 0).map EntD.dv:=by rw[qI,List.map_append];rfl
 have hrl:=aKn p hM.bats
 rw[hsp] at c1
 have c2:=zG ((eH p).map EntD.dv) (by rw[List.length_map];omega)
 have hwn:IntKind.i64.wrap ((p.rows.length:Int)+(p.prods.length:Int))=((eH p).length:Int):=by rw[aT (by omega),hmn];omega
 simp only[PartD.dv] at c1
 obtain⟨M,hMd⟩:∃ M,M=(eH p).map EntD.dv:=⟨_,rfl⟩
 have hMl:M.length=(eH p).length:=by rw[hMd,List.length_map]
 rw[← hMd] at c1 c2 ⊢
 have hr0:=hrl 0
 have hb1:(eH p).length≤(M++(jQ p 0).map EntD.dv).length:=by rw[List.length_append];omega
 have t1:(M++(jQ p 0).map EntD.dv).take (eH p).length=M:=by rw[← hMl];exact List.take_left' rfl
 have t2:(M++(jQ p 0).map EntD.dv).drop (eH p).length=(jQ p 0).map EntD.dv:=by rw[← hMl];exact List.drop_left' rfl
 have t3:((jQ p 0).map EntD.dv).take ((M++(jQ p 0).map EntD.dv).length - (eH p).length)=(jQ p 0).map EntD.dv:=List.take_of_length_le (by rw[List.length_append,List.length_map];omega)
 (refine bF.of_bodyW Tryz.func31 rfl rfl Tryz.ntmps31 Tryz.results31 (by simp) ?_)
 (refine gO (ai hwn (ai hb1 (ai t1 (ai t2 (ai t3 (@PartD.dv.eq_1)))))) ?_)
 refine Wp.weak (aD.appD (t:=8) (τ:=1) (sz:=18) (xs:=M) (by (refine aY ?_;try with_reducible exact tt))) ?_
 refine Wp.weak (aD.nilApp (t:=9) (τ:=60) 64 2 (by (refine aY ?_;try with_reducible exact tt)) (by (refine aY ?_;try with_reducible exact tt))) ?_
 refine Wp.loop (fun k:Nat=>⟨iC [(5,.c (.d (.lst 18 ((jQ p k).map EntD.dv)))),(8,.c (.d (.lst 18 M))),(9,.c (.app 60 2 (((p.opens.map bZ).take k).map SideD.dv))),(36,.c (.d (.lst 3 (p.opens.map OpenD.dv)))),(37,vi .i64 p.opens.length),(38,vi .i64 k)],bK [(60,.row 64 2 k)],61,61,0⟩) (fun k=>k≤p.opens.length) (fun k=>p.opens.length - k) 0 (Nat.zero_le _) ?_ ?_
 ·refine aD.keep rfl rfl ?_
  (refine rO (ai @List.take_zero.{0} (@List.map_nil.{0,0})) ?_;try with_reducible exact tt)
 intro k hkk
 by_cases hkl:k<p.opens.length
 ·have d1:decide ((k:Int)<(p.opens.length:Int))=true:=decide_eq_true (by omega)
  have hge:p.opens[k]? = some p.opens[k]:=List.getElem?_eq_getElem hkl
  have hwk:IntKind.i64.wrap ((k:Int)+1)=((k+1:Nat):Int):=by rw[aT (by omega)];rfl
  have hrs:(jQ p k).map EntD.dv=(p.opens[k].bats.map dZ).map EntD.dv++(jQ p (k+1)).map EntD.dv:=by rw[aTq hkl,List.map_append]
  have hts:(p.opens.map bZ).take (k+1)=(p.opens.map bZ).take k++[bZ p.opens[k]]:=by
   rw[List.take_succ_eq_append_getElem (by rw[List.length_map];exact hkl),List.getElem_map]
  have htl:((p.opens.map bZ).take k).length=k:=by rw[List.length_take,List.length_map];omega
  have h8:=hM.bats _ (List.getElem_mem hkl)
  have hr1:=hrl (k+1)
  rw[hrs]
  generalize p.opens[k]=o at *
  obtain⟨B,hBd⟩:∃ B,B=(o.bats.map dZ).map EntD.dv:=⟨_,rfl⟩
  have hBl:B.length=o.bats.length:=by rw[hBd,List.length_map,List.length_map]
  have hsd:SideD.dv (bZ o)=[int o.pid,.lst 18 B]:=by rw[hBd];rfl
  rw[← hBd]
  have hCl:((jQ p (k+1)).map EntD.dv).length=(jQ p (k+1)).length:=List.length_map _
  obtain⟨C,hC2⟩:∃ C,(jQ p (k+1)).map EntD.dv=C:=⟨_,rfl⟩
  rw[hC2] at hCl
  rw[hC2]
  have c3:=zG B (by omega)
  have hb2:o.bats.length≤(B++C).length:=by rw[List.length_append];omega
  have u1:(B++C).take o.bats.length=B:=by rw[← hBl];exact List.take_left' rfl
  have u2:(B++C).drop o.bats.length=C:=by rw[← hBl];exact List.drop_left' rfl
  have u3:C.take ((B++C).length - o.bats.length)=C:=List.take_of_length_le (by rw[List.length_append];omega)
  have hbb:(k+1)*32≤140737488355328:=by omega
  (refine gO (ai d1 (ai hge (ai @OpenD.dv.eq_1 (ai hb2 (ai u1 (ai u2 (ai u3 (ai htl (ai hbb (@List.length_map.{0,0})))))))))) ?_)
  refine⟨k+1,hkl,by omega,aD.keep rfl rfl ?_⟩
  (refine rO (ai hwk (ai hts (ai hsd (ai hC2 (ai @List.map_append.{0,0} (ai @List.map_cons.{0,0} (ai @List.map_nil.{0,0} (ai @List.length_append.{0} (ai @List.length_cons.{0} (@List.length_nil.{0})))))))))) ?_;try with_reducible exact tt)
 ·have hke:k=p.opens.length:=by omega
  subst hke
  have d1:decide ((p.opens.length:Int)<(p.opens.length:Int))=false:=by simp
  have htk:(p.opens.map bZ).take p.opens.length=p.opens.map bZ:=List.take_of_length_le (by rw[List.length_map];exact Nat.le_refl _)
  rw[htk]
  (refine gO (d1) ?_)
  (refine aY ?_)
  exact⟨_,rfl,fun _ _ h=>h⟩
end Go.Proofs.YtpklhnpchhaccaaGreatDoor
