/- The reference of layer 17: Check. -/
import Derived.Test.YtkmfmphpndhkjaaGreatDoorImA
import Derived.Test.YtkmfmphpndhkjaaGreatDoorEnM
import Derived.Test.YtkmfmphpndhkjaaGreatDoorTbM
import Derived.Test.YtkmfmphpndhkjaaGreatDoorSqD
import Derived.Test.YtkmfmphpndhkjaaGreatDoorCpMd
namespace Go.Proofs.YtkmfmphpndhkjaaGreatDoor
open Go Go.RowKit
set_option maxHeartbeats 8000000
set_option maxRecDepth 100000
set_option linter.unusedVariables false
set_option linter.unusedSimpArgs false
theorem aI1 (r:RowD):aJ Tryz.prog 37 [.agg r.dv] (dC (fV r)):=by
 have c1:=nY r.pid 1 8
 have c2:=nY r.seq 0 1048575
 (refine aJ.of_body Tryz.func37 rfl rfl Tryz.ntmps37 Tryz.results37 (by simp) ?_)
 (refine gO (@RowD.dv.eq_1) ?_;try with_reducible exact tt)
 unfold fV
 cases h1:aU r.pid 1 8<;>rw[h1] at c1
 ·(refine gO (@RowD.dv.eq_1) ?_;try with_reducible exact tt)
  (refine aK ?_;try with_reducible exact tt)
 cases h2:aU r.seq 0 1048575<;>rw[h2] at c2
 ·(refine gO (@RowD.dv.eq_1) ?_;try with_reducible exact tt)
  (refine aK ?_;try with_reducible exact tt)
 cases h3:decide ((r.key.length:Int)≤16)<;>cases h4:decide ((r.value.length:Int)≤16)<;>((refine gO (ai @RowD.dv.eq_1 (ai h3 (h4))) ?_;try with_reducible exact tt);(refine rO (ai h3 (h4)) ?_;try with_reducible exact tt))
theorem aNt (p:PartD):bE p=((bB p && sO p.prods) && (p.rows.all fV && p.opens.all (cV p))):=by
 unfold bE
 cases bB p<;>cases sO p.prods<;>cases p.rows.all fV<;>rfl
theorem qV (p:PartD) (hs:SmallP p):aJ Tryz.prog 21 [.agg p.dv] (int (if bE p then 0 else 2)):=by
 have c1:=aBf p (Nat.le_trans hs.rows (by decide +kernel)) (Nat.le_trans hs.opens (by decide +kernel))
 have c2:=aFn p.prods hs.prods
 have hrl:=hs.rows
 have hol:=hs.opens
 have hp:=aNt p
 simp only[PartD.dv] at c1
 (refine aJ.of_body Tryz.func21 rfl rfl Tryz.ntmps21 Tryz.results21 (by simp) ?_)
 cases h1:bB p with
 | false =>
  have e:bE p=false:=by rw[hp,h1];rfl
  rw[h1] at c1
  simp only[Bool.false_eq_true,if_false] at c1
  (refine gO (@PartD.dv.eq_1) ?_;try with_reducible exact tt)
  (refine rO (ai e (ai @Bool.false_eq_true (@if_false.{1}))) ?_;try with_reducible exact tt)
 | true =>
 rw[h1,if_pos rfl] at c1
 cases h2:sO p.prods with
 | false =>
  have e:bE p=false:=by rw[hp,h1,h2];rfl
  rw[h2] at c2
  (refine gO (@PartD.dv.eq_1) ?_;try with_reducible exact tt)
  (refine rO (ai e (ai @Bool.false_eq_true (@if_false.{1}))) ?_;try with_reducible exact tt)
 | true =>
 rw[h2] at c2
 (refine gO (@PartD.dv.eq_1) ?_;try with_reducible exact tt)
 refine Wp.loop (fun k:Nat=>⟨dI [(1,.c (.own 0 0)),(3,vi .i64 k)],bJ [(0,.cells (p.dv.map .d))],1,85,0⟩) (fun k=>k≤p.rows.length∧(p.rows.take k).all fV=true) (fun k=>p.rows.length - k) 0 ⟨Nat.zero_le _,rfl⟩ ?_ ?_
 ·refine aD.keep rfl rfl ?_
  (refine rO (@PartD.dv.eq_1) ?_;try with_reducible exact tt)
 rintro k ⟨hk,hall⟩
 by_cases hlt:k<p.rows.length
 ·have dk:decide ((k:Int)<(p.rows.length:Int))=true:=decide_eq_true (by omega)
  have g1:p.rows[k]? = some p.rows[k]:=List.getElem?_eq_getElem hlt
  have hwk:IntKind.i64.wrap ((k:Int)+1)=((k+1:Nat):Int):=by rw[aG (by omega)];rfl
  have hsn:=eC fV p.rows k hlt
  have hmem:=List.getElem_mem hlt
  generalize p.rows[k]=r at *
  have c3:=aI1 r
  simp only[RowD.dv] at c3
  cases hx:fV r with
  | false =>
   rw[hx] at c3
   have e:bE p=false:=by
    have:p.rows.all fV=false:=by rw[List.all_eq_false];exact⟨r,hmem,by rw[hx];simp⟩
    rw[hp,this];simp
   (refine gO (ai dk (ai g1 (ai @PartD.dv.eq_1 (@RowD.dv.eq_1)))) ?_;try with_reducible exact tt)
   (refine rO (ai e (ai @Bool.false_eq_true (@if_false.{1}))) ?_;try with_reducible exact tt)
  | true =>
   rw[hx] at c3
   rw[hx,hall] at hsn
   (refine gO (ai dk (ai g1 (ai @PartD.dv.eq_1 (@RowD.dv.eq_1)))) ?_;try with_reducible exact tt)
   refine⟨k+1,⟨by omega,hsn⟩,by omega,aD.keep rfl rfl ?_⟩
   (refine rO (ai hwk (@PartD.dv.eq_1)) ?_;try with_reducible exact tt)
 have h3:p.rows.all fV=true:=by rw[List.take_of_length_le (by omega)] at hall;exact hall
 have dk:decide ((k:Int)<(p.rows.length:Int))=false:=decide_eq_false (by omega)
 have hp2:bE p=p.opens.all (cV p):=by rw[hp,h1,h2,h3];rfl
 rw[hp2]
 (refine gO (ai dk (@PartD.dv.eq_1)) ?_;try with_reducible exact tt)
 clear hall hlt hk dk hp hp2 c1 c2
 refine Wp.loop (fun k:Nat=>⟨dI [(1,.c (.own 0 0)),(4,vi .i64 k)],bJ [(0,.cells (p.dv.map .d))],1,85,0⟩) (fun k=>k≤p.opens.length∧(p.opens.take k).all (cV p)=true) (fun k=>p.opens.length - k) 0 ⟨Nat.zero_le _,rfl⟩ ?_ ?_
 ·refine aD.keep rfl rfl ?_
  (refine rO (@PartD.dv.eq_1) ?_;try with_reducible exact tt)
 rintro k ⟨hk,hall⟩
 by_cases hlt:k<p.opens.length
 ·have dk:decide ((k:Int)<(p.opens.length:Int))=true:=decide_eq_true (by omega)
  have g1:p.opens[k]? = some p.opens[k]:=List.getElem?_eq_getElem hlt
  have hwk:IntKind.i64.wrap ((k:Int)+1)=((k+1:Nat):Int):=by rw[aG (by omega)];rfl
  have hsm:=hs.open1 _ (List.getElem_mem hlt)
  have hsn:=eC (cV p) p.opens k hlt
  have hmem:=List.getElem_mem hlt
  generalize p.opens[k]=o at *
  have hbad:cV p o=false→p.opens.all (cV p)=false:=fun h=>by rw[List.all_eq_false];exact⟨o,hmem,by rw[h];simp⟩
  have c4:=aCm o hsm
  have c5:=aCn p.prods o.pid hs.prods
  obtain⟨q,is,hq⟩:∃ q is,eI p.prods o.pid=(q,is):=⟨_,_,rfl⟩
  rw[hq] at c5
  simp only[OpenD.dv] at c4
  simp only[ProdD.dv] at c5
  cases ho:wG o with
  | false =>
   have e3:(cpF o).2=2:=by unfold cpF;rw[ho];rfl
   have e:=hbad (by unfold cV;rw[ho];rfl)
   rw[e3] at c4
   (refine gO (ai dk (ai g1 (ai @PartD.dv.eq_1 (@OpenD.dv.eq_1)))) ?_;try with_reducible exact tt)
   (refine rO (ai e (ai @Bool.false_eq_true (@if_false.{1}))) ?_;try with_reducible exact tt)
  | true =>
   have e3:(cpF o).2=0:=by unfold cpF;rw[ho];rfl
   rw[e3] at c4
   obtain⟨hpos,_⟩:=zC ho
   have hz:o.bats[o.bats.length - 1]? = some (o.bats[o.bats.length - 1]'(by omega)):=List.getElem?_eq_getElem (by omega)
   have hla:hZ o=wS (o.bats[o.bats.length - 1]'(by omega)):=by
    unfold hZ;rw[List.getLast?_eq_getElem?,hz]
   have ew:IntKind.i64.wrap ((o.bats.length:Int) - 1)=((o.bats.length - 1:Nat):Int):=by rw[aG (by omega)];omega
   generalize o.bats[o.bats.length - 1]'(by omega)=z at *
   have c6:=tY z
   simp only[BatD.dv] at c6
   have hok:cV p o=(is && (q.epoch == o.epoch && q.next == hZ o)):=by unfold cV;rw[ho,hq];rfl
   rw[← hla] at c6
   (refine gO (ai dk (ai g1 (ai @PartD.dv.eq_1 (@OpenD.dv.eq_1)))) ?_;try with_reducible exact tt)
   (first|refine Wp.stoD 84 (vb (!is || (q.epoch != o.epoch) || (q.next != hZ o))) aA ?_ ?_|refine Wp.rtoDS 84 (vb (!is || (q.epoch != o.epoch) || (q.next != hZ o))) aA ?_ ?_|(refine Wp.seq ?_;first|refine Wp.stoD 84 (vb (!is || (q.epoch != o.epoch) || (q.next != hZ o))) aA ?_ ?_|refine Wp.rtoDS 84 (vb (!is || (q.epoch != o.epoch) || (q.next != hZ o))) aA ?_ ?_))
   ·((rcases Bool.eq_false_or_eq_true (!is) with hL1|hL1)<;>(rcases Bool.eq_false_or_eq_true (q.epoch != o.epoch) with hL2|hL2)<;>(rcases Bool.eq_false_or_eq_true (q.next != hZ o) with hL3|hL3)<;>(((refine rO (ai hL1 (ai hL2 (ai hL3 (ai @PartD.dv.eq_1 (ai @OpenD.dv.eq_1 (ai @ProdD.dv.eq_1 (ai @BatD.dv.eq_1 (ai hz (ew))))))))) ?_;try with_reducible exact tt);(repeat (refine aQ (by assumption) ?_;(refine rO (ai hL1 (ai hL2 (ai hL3 (ai @PartD.dv.eq_1 (ai @OpenD.dv.eq_1 (ai @ProdD.dv.eq_1 (ai @BatD.dv.eq_1 (ai hz (ew))))))))) ?_;try with_reducible exact tt))));all_goals (exact (show aH _ _=true by kernel_rfl))))
   refine Wp.cond (by (refine aK ?_;try with_reducible exact tt);rfl) (fun h=>?_) (fun h=>?_)
   ·have hf:cV p o=false:=by
     rw[hok]
     simp only[Bool.or_eq_true,Bool.not_eq_true',bne_iff_ne] at h
     rw[Bool.and_eq_false_iff,Bool.and_eq_false_iff,beq_eq_false_iff_ne,beq_eq_false_iff_ne]
     rcases h with (h|h)|h
     ·exact .inl h
     ·exact .inr (.inl h)
     ·exact .inr (.inr h)
    have e:=hbad hf
    (refine aI ?_;try with_reducible exact tt)
    (refine rO (ai e (ai @Bool.false_eq_true (@if_false.{1}))) ?_;try with_reducible exact tt)
   ·have hf:cV p o=true:=by
     rw[hok]
     simp only[Bool.or_eq_false_iff,Bool.not_eq_false',bne_eq_false_iff_eq] at h
     rw[h.1.1,h.1.2,h.2];simp
    (refine aI ?_;try with_reducible exact tt)
    refine⟨k+1,⟨by omega,by rw[hsn,hall,hf];rfl⟩,by omega,aD.keep rfl rfl ?_⟩
    (refine rO (ai hwk (@PartD.dv.eq_1)) ?_;try with_reducible exact tt)
 ·have e:p.opens.all (cV p)=true:=by rw[List.take_of_length_le (by omega)] at hall;exact hall
  have d1:decide ((k:Int)<(p.opens.length:Int))=false:=decide_eq_false (by omega)
  (refine gO (ai d1 (@PartD.dv.eq_1)) ?_;try with_reducible exact tt)
  (refine rO (ai e (@if_true.{1})) ?_;try with_reducible exact tt)
end Go.Proofs.YtkmfmphpndhkjaaGreatDoor
