/- The abstract machine (BfG, BfH, BfI). -/
import Derived.Test.YtpklhnpchhaccaaGreatDoorBfF
namespace Go.Proofs.YtpklhnpchhaccaaGreatDoor
open Go Go.RowKit
set_option maxHeartbeats 16000000
set_option maxRecDepth 100000
set_option linter.unusedVariables false
set_option linter.unusedSimpArgs false
theorem aB7 (e : EntD) (h : e.kind < 0 ∨ 7 ≤ e.kind) : bR Tryz.prog 158 [.agg e.dv] (iF false) := by
 obtain ⟨k, b, yes, next, off, row, prod⟩ := e
 dsimp only at h
 have k0 : (k == 0) = false := by rw [beq_eq_false_iff_ne]; omega
 have k1 : (k == 1) = false := by rw [beq_eq_false_iff_ne]; omega
 have k2 : (k == 2) = false := by rw [beq_eq_false_iff_ne]; omega
 have k3 : (k == 3) = false := by rw [beq_eq_false_iff_ne]; omega
 have k4 : (k == 4) = false := by rw [beq_eq_false_iff_ne]; omega
 have k5 : (k == 5) = false := by rw [beq_eq_false_iff_ne]; omega
 have k6 : (k == 6) = false := by rw [beq_eq_false_iff_ne]; omega
 (refine bR.of_body Tryz.func158 rfl rfl Tryz.ntmps158 Tryz.results158 (by simp) ?_)
 (refine gO (ai @EntD.dv.eq_1 (ai k0 (ai k1 (ai k2 (ai k3 (ai k4 (ai k5 (k6)))))))) ?_)
 (refine bL ?_; try with_reducible exact tt)
theorem uY (e : EntD) (hr : e.b.recs.length ≤ 100000) (hq : e.prod.seen.length ≤ 100000) : bR Tryz.prog 158 [.agg e.dv] (iF (aS e)) := by
 unfold aS
 by_cases h : e.kind < 0 ∨ 7 ≤ e.kind
 ·have : (decide (0 ≤ e.kind) && decide (e.kind < 7)) = false := by simp; omega
  rw [this]; exact aB7 e h
 ·have : (decide (0 ≤ e.kind) && decide (e.kind < 7)) = true := by simp; omega
  rw [this]; exact yP e (by omega) hr hq
def oJ (p : PartD) (w : Wts) (e : EntD) : Option (PartD × Wts) :=
 if lC (cD w e.b.pid) e.b = true then none else
 if e.yes = false then some (p, dP w e.b.pid (cD w e.b.pid ++ [e.b])) else
 if e.next ≠ eX e.b then none else
 if (aD p (cD w e.b.pid ++ [e.b])).1 = false then none else
 if 1048576 < (aD p (cD w e.b.pid ++ [e.b])).2.fin then none else
 some ({ (aD p (cD w e.b.pid ++ [e.b])).2 with prods := dT (aD p (cD w e.b.pid ++ [e.b])).2.prods e.b.pid }, cH (dP w e.b.pid (cD w e.b.pid ++ [e.b])) e.b.pid)
def wV (p : PartD) (w : Wts) (e : EntD) : Option (PartD × Wts) :=
 if aS e = false then none else
 if e.kind = 3 then oJ p w e else
 if e.kind = 4 then (if iW p e = true then none else some (wO p e, cH w e.b.pid)) else
 if e.kind = 1 then none else
 if e.kind = 0 ∧ e.b.txn = true then none else
 match iH p e with
 | some q => some (q, w)
 | none => none
def aT0 (f : FuncId) (args : List SV) (s : BufS) (o : Option (PartD × Wts)) : Prop := ∃ r t, FunG Tryz.prog f args bfK (bO (fZ s)) r bfK (bO (fZ t)) ∧ fO t.w ∧ ((o = some (t.p, t.w) ∧ r = kD ∧ t.vc = t.vt) ∨ (o = none ∧ ∃ m, r = gY m))
theorem aO2 (s : BufS) (e : EntD) (h : s.vc = s.vt) : (oJ s.p s.w e = some ((xI s e).p, (xI s e).w) ∧ aB6 s e = kD ∧ (xI s e).vc = (xI s e).vt) ∨ (oJ s.p s.w e = none ∧ ∃ m, aB6 s e = gY m) := by
 unfold oJ aB6 xI pF
 split
 ·exact .inr ⟨rfl, _, rfl⟩
 split
 ·refine .inl ⟨rfl, rfl, ?_⟩; unfold aI8; rw [h]
 split
 ·exact .inr ⟨rfl, _, rfl⟩
 split
 ·exact .inr ⟨rfl, _, rfl⟩
 split
 ·exact .inr ⟨rfl, _, rfl⟩
 ·refine .inl ⟨rfl, rfl, ?_⟩; unfold aTu; rw [h]
abbrev aV9 : List UInt8 := [97, 110, 32, 101, 110, 116, 114, 121, 32, 116, 104, 97, 116, 32, 105, 115, 32, 110, 111, 116, 32, 118, 97, 108, 105, 100]
abbrev aVa : List UInt8 := [97, 32, 98, 97, 116, 99, 104, 32, 111, 102, 32, 97, 32, 116, 114, 97, 110, 115, 97, 99, 116, 105, 111, 110, 32, 105, 110, 32, 116, 104, 101, 32, 108, 111, 103]
abbrev aVb : List UInt8 := [97, 110, 32, 101, 110, 116, 114, 121, 32, 111, 102, 32, 116, 104, 101, 32, 111, 116, 104, 101, 114, 32, 101, 110, 103, 105, 110, 101]
/-- A call that next hands its lX on to. -/
theorem tV (s t : BufS) (e : EntD) (r : SV) (hw : fO s.w) (ht : fO t.w) (hr : nX r.ids bfK = true) (he : SmallEn e) (hm : aS e = true)
  (hc : (e.kind = 3 ∧ FunG Tryz.prog 159 [.c (.own 0 0), jI e] bfK (bO (fZ s)) r bfK (bO (fZ t))) ∨ (e.kind = 4 ∧ FunG Tryz.prog 160 [.c (.own 0 0), jI e] bfK (bO (fZ s)) r bfK (bO (fZ t))) ∨
   ((e.kind = 0 ∧ e.b.txn = false ∨ e.kind = 2 ∨ e.kind = 5 ∨ e.kind = 6) ∧ FunG Tryz.prog 161 [.c (.own 0 0), jI e] bfK (bO (fZ s)) r bfK (bO (fZ t)))) :
  FunG Tryz.prog 102 [.c (.own 0 0), jI e] bfK (bO (fZ s)) r bfK (bO (fZ t)) := by
 have c1 := uY e he.recs he.seen
 rw [hm] at c1
 have hbV : jI e = .agg (e.dv.map CV.d) := rfl
 simp only [EntD.dv] at c1
 refine FunG.of_bodyH rfl rfl Tryz.func102 rfl rfl Tryz.ntmps102 Tryz.results102 (Nat.le_of_ble_eq_true rfl) (jP rfl hr hw ht) ?_
 rcases hc with ⟨hk, c2⟩ | ⟨hk, c2⟩ | ⟨hk, c2⟩
 ·have k3 : (e.kind == 3) = true := by simpa using hk
  (refine gO (ai @aC (ai @EntD.dv.eq_1 (ai k3 (ai @List.map_cons.{0,0} (@List.map_nil.{0,0}))))) ?_)
  (first | refine Wp.sregG ?_ | refine Wp.regG ?_ | (refine Wp.seq ?_; first | refine Wp.sregG ?_ | refine Wp.regG ?_))
  (refine aG.at 2 (fun K hK => ?_); (refine rO (ai @aC (ai @EntD.dv.eq_1 (ai @List.map_cons.{0,0} (@List.map_nil.{0,0})))) ?_); refine hK _ ?_; clear hK K)
  (refine aG.call (c2) [] 1010 rfl rfl ?_ ?_; (focus ((refine rOs (ai @eN (ai @aC (ai @aQ (ai hbV (ai @EntD.dv.eq_1 (ai @List.map_cons.{0,0} (@List.map_nil.{0,0}))))))) ?_; try with_reducible exact tt); done)))
  (refine aG.done (fun K hK => ?_); (refine rOt (ai @aC (ai @cW.eq_1 (ai @cW.eq_2 (ai @aQ (ai @bZ (ai @List.map_cons.{0,0} (@List.map_nil.{0,0}))))))) ?_); refine hK _ ?_; clear hK K)
  (refine gO (@aC) ?_)
  refine aT.ret ?_
  (refine rO (ai @aC (ai @aO.eq_1 (@aO.eq_2))) ?_; try with_reducible exact tt)
 ·have k3 : (e.kind == 3) = false := by rw [hk]; rfl
  have k4 : (e.kind == 4) = true := by simpa using hk
  (refine gO (ai @aC (ai @EntD.dv.eq_1 (ai k3 (ai k4 (ai @List.map_cons.{0,0} (@List.map_nil.{0,0})))))) ?_)
  (first | refine Wp.sregG ?_ | refine Wp.regG ?_ | (refine Wp.seq ?_; first | refine Wp.sregG ?_ | refine Wp.regG ?_))
  (refine aG.at 2 (fun K hK => ?_); (refine rO (ai @aC (ai @EntD.dv.eq_1 (ai @List.map_cons.{0,0} (@List.map_nil.{0,0})))) ?_); refine hK _ ?_; clear hK K)
  (refine aG.call (c2) [] 1010 rfl rfl ?_ ?_; (focus ((refine rOs (ai @eN (ai @aC (ai @aQ (ai hbV (ai @EntD.dv.eq_1 (ai @List.map_cons.{0,0} (@List.map_nil.{0,0}))))))) ?_; try with_reducible exact tt); done)))
  (refine aG.done (fun K hK => ?_); (refine rOt (ai @aC (ai @cW.eq_1 (ai @cW.eq_2 (ai @aQ (ai @bZ (ai @List.map_cons.{0,0} (@List.map_nil.{0,0}))))))) ?_); refine hK _ ?_; clear hK K)
  (refine gO (@aC) ?_)
  refine aT.ret ?_
  (refine rO (ai @aC (ai @aO.eq_1 (@aO.eq_2))) ?_; try with_reducible exact tt)
 ·have k3 : (e.kind == 3) = false := by rw [beq_eq_false_iff_ne]; omega
  have k4 : (e.kind == 4) = false := by rw [beq_eq_false_iff_ne]; omega
  rcases hk with ⟨hk, htx⟩ | hk | hk | hk
  ·have k0 : (e.kind == 0) = true := by simpa using hk
   rw [htx] at c1
   (refine gO (ai @aC (ai @EntD.dv.eq_1 (ai k3 (ai k4 (ai k0 (ai htx (ai @List.map_cons.{0,0} (@List.map_nil.{0,0})))))))) ?_)
   (first | refine Wp.sregG ?_ | refine Wp.regG ?_ | (refine Wp.seq ?_; first | refine Wp.sregG ?_ | refine Wp.regG ?_))
   (refine aG.at 2 (fun K hK => ?_); (refine rO (ai @aC (ai @EntD.dv.eq_1 (ai htx (ai @List.map_cons.{0,0} (@List.map_nil.{0,0}))))) ?_); refine hK _ ?_; clear hK K)
   (refine aG.call (c2) [] 1010 rfl rfl ?_ ?_; (focus ((refine rOs (ai @eN (ai @aC (ai @aQ (ai hbV (ai htx (ai @EntD.dv.eq_1 (ai @List.map_cons.{0,0} (@List.map_nil.{0,0})))))))) ?_; try with_reducible exact tt); done)))
   (refine aG.done (fun K hK => ?_); (refine rOt (ai @aC (ai @cW.eq_1 (ai @cW.eq_2 (ai @aQ (ai @bZ (ai @List.map_cons.{0,0} (@List.map_nil.{0,0}))))))) ?_); refine hK _ ?_; clear hK K)
   (refine gO (@aC) ?_)
   refine aT.ret ?_
   (refine rO (ai @aC (ai @aO.eq_1 (@aO.eq_2))) ?_; try with_reducible exact tt)
  ·have k0 : (e.kind == 0) = false := by rw [hk]; rfl
   have k2 : (e.kind == 2) = true := by simpa using hk
   (refine gO (ai @aC (ai @EntD.dv.eq_1 (ai k3 (ai k4 (ai k0 (ai k2 (ai @List.map_cons.{0,0} (@List.map_nil.{0,0})))))))) ?_)
   (first | refine Wp.sregG ?_ | refine Wp.regG ?_ | (refine Wp.seq ?_; first | refine Wp.sregG ?_ | refine Wp.regG ?_))
   (refine aG.at 2 (fun K hK => ?_); (refine rO (ai @aC (ai @EntD.dv.eq_1 (ai @List.map_cons.{0,0} (@List.map_nil.{0,0})))) ?_); refine hK _ ?_; clear hK K)
   (refine aG.call (c2) [] 1010 rfl rfl ?_ ?_; (focus ((refine rOs (ai @eN (ai @aC (ai @aQ (ai hbV (ai @EntD.dv.eq_1 (ai @List.map_cons.{0,0} (@List.map_nil.{0,0}))))))) ?_; try with_reducible exact tt); done)))
   (refine aG.done (fun K hK => ?_); (refine rOt (ai @aC (ai @cW.eq_1 (ai @cW.eq_2 (ai @aQ (ai @bZ (ai @List.map_cons.{0,0} (@List.map_nil.{0,0}))))))) ?_); refine hK _ ?_; clear hK K)
   (refine gO (@aC) ?_)
   refine aT.ret ?_
   (refine rO (ai @aC (ai @aO.eq_1 (@aO.eq_2))) ?_; try with_reducible exact tt)
  ·have k0 : (e.kind == 0) = false := by rw [hk]; rfl
   have k2 : (e.kind == 2) = false := by rw [hk]; rfl
   have k5 : (e.kind == 5) = true := by simpa using hk
   (refine gO (ai @aC (ai @EntD.dv.eq_1 (ai k3 (ai k4 (ai k0 (ai k2 (ai k5 (ai @List.map_cons.{0,0} (@List.map_nil.{0,0}))))))))) ?_)
   (first | refine Wp.sregG ?_ | refine Wp.regG ?_ | (refine Wp.seq ?_; first | refine Wp.sregG ?_ | refine Wp.regG ?_))
   (refine aG.at 2 (fun K hK => ?_); (refine rO (ai @aC (ai @EntD.dv.eq_1 (ai @List.map_cons.{0,0} (@List.map_nil.{0,0})))) ?_); refine hK _ ?_; clear hK K)
   (refine aG.call (c2) [] 1010 rfl rfl ?_ ?_; (focus ((refine rOs (ai @eN (ai @aC (ai @aQ (ai hbV (ai @EntD.dv.eq_1 (ai @List.map_cons.{0,0} (@List.map_nil.{0,0}))))))) ?_; try with_reducible exact tt); done)))
   (refine aG.done (fun K hK => ?_); (refine rOt (ai @aC (ai @cW.eq_1 (ai @cW.eq_2 (ai @aQ (ai @bZ (ai @List.map_cons.{0,0} (@List.map_nil.{0,0}))))))) ?_); refine hK _ ?_; clear hK K)
   (refine gO (@aC) ?_)
   refine aT.ret ?_
   (refine rO (ai @aC (ai @aO.eq_1 (@aO.eq_2))) ?_; try with_reducible exact tt)
  ·have k0 : (e.kind == 0) = false := by rw [hk]; rfl
   have k2 : (e.kind == 2) = false := by rw [hk]; rfl
   have k5 : (e.kind == 5) = false := by rw [hk]; rfl
   have k6 : (e.kind == 6) = true := by simpa using hk
   (refine gO (ai @aC (ai @EntD.dv.eq_1 (ai k3 (ai k4 (ai k0 (ai k2 (ai k5 (ai k6 (ai @List.map_cons.{0,0} (@List.map_nil.{0,0})))))))))) ?_)
   (first | refine Wp.sregG ?_ | refine Wp.regG ?_ | (refine Wp.seq ?_; first | refine Wp.sregG ?_ | refine Wp.regG ?_))
   (refine aG.at 2 (fun K hK => ?_); (refine rO (ai @aC (ai @EntD.dv.eq_1 (ai @List.map_cons.{0,0} (@List.map_nil.{0,0})))) ?_); refine hK _ ?_; clear hK K)
   (refine aG.call (c2) [] 1010 rfl rfl ?_ ?_; (focus ((refine rOs (ai @eN (ai @aC (ai @aQ (ai hbV (ai @EntD.dv.eq_1 (ai @List.map_cons.{0,0} (@List.map_nil.{0,0}))))))) ?_; try with_reducible exact tt); done)))
   (refine aG.done (fun K hK => ?_); (refine rOt (ai @aC (ai @cW.eq_1 (ai @cW.eq_2 (ai @aQ (ai @bZ (ai @List.map_cons.{0,0} (@List.map_nil.{0,0}))))))) ?_); refine hK _ ?_; clear hK K)
   (refine gO (@aC) ?_)
   refine aT.ret ?_
   (refine rO (ai @aC (ai @aO.eq_1 (@aO.eq_2))) ?_; try with_reducible exact tt)
theorem aE6 (s : BufS) (e : EntD) (hw : fO s.w) (he : SmallEn e) (hc : aS e = false ∨ aS e = true ∧ (e.kind = 1 ∨ e.kind = 0 ∧ e.b.txn = true)) :
  ∃ m, FunG Tryz.prog 102 [.c (.own 0 0), jI e] bfK (bO (fZ s)) (gY m) bfK (bO (fZ s)) := by
 have c1 := uY e he.recs he.seen
 rcases hc with hm | ⟨hm, hk | ⟨hk, htx⟩⟩
 ·refine ⟨aV9, ?_⟩
  have c2 := cI aV9
  rw [hm] at c1
  simp only [EntD.dv] at c1
  refine FunG.of_bodyH rfl rfl Tryz.func102 rfl rfl Tryz.ntmps102 Tryz.results102 (Nat.le_of_ble_eq_true rfl) (jP rfl rfl hw hw) ?_
  (refine gO (ai @aC (ai @EntD.dv.eq_1 (ai @List.map_cons.{0,0} (@List.map_nil.{0,0})))) ?_)
  refine aT.ret ?_
  (refine rO (ai @aC (ai @aO.eq_1 (@aO.eq_2))) ?_; try with_reducible exact tt)
 ·refine ⟨aVb, ?_⟩
  have c2 := cI aVb
  have k3 : (e.kind == 3) = false := by rw [hk]; rfl
  have k4 : (e.kind == 4) = false := by rw [hk]; rfl
  have k0 : (e.kind == 0) = false := by rw [hk]; rfl
  have k2 : (e.kind == 2) = false := by rw [hk]; rfl
  have k5 : (e.kind == 5) = false := by rw [hk]; rfl
  have k6 : (e.kind == 6) = false := by rw [hk]; rfl
  rw [hm] at c1
  simp only [EntD.dv] at c1
  refine FunG.of_bodyH rfl rfl Tryz.func102 rfl rfl Tryz.ntmps102 Tryz.results102 (Nat.le_of_ble_eq_true rfl) (jP rfl rfl hw hw) ?_
  (refine gO (ai @aC (ai @EntD.dv.eq_1 (ai k3 (ai k4 (ai k0 (ai k2 (ai k5 (ai k6 (ai @List.map_cons.{0,0} (@List.map_nil.{0,0})))))))))) ?_)
  refine aT.ret ?_
  (refine rO (ai @aC (ai @aO.eq_1 (@aO.eq_2))) ?_; try with_reducible exact tt)
 ·refine ⟨aVa, ?_⟩
  have c2 := cI aVa
  have k3 : (e.kind == 3) = false := by rw [hk]; rfl
  have k4 : (e.kind == 4) = false := by rw [hk]; rfl
  have k0 : (e.kind == 0) = true := by rw [hk]; rfl
  rw [hm] at c1
  simp only [EntD.dv, htx] at c1
  refine FunG.of_bodyH rfl rfl Tryz.func102 rfl rfl Tryz.ntmps102 Tryz.results102 (Nat.le_of_ble_eq_true rfl) (jP rfl rfl hw hw) ?_
  (refine gO (ai @aC (ai @EntD.dv.eq_1 (ai k3 (ai k4 (ai k0 (ai htx (ai @List.map_cons.{0,0} (@List.map_nil.{0,0})))))))) ?_)
  refine aT.ret ?_
  (refine rO (ai @aC (ai @aO.eq_1 (@aO.eq_2))) ?_; try with_reducible exact tt)
set_option maxHeartbeats 4000000
theorem tJ {e : EntD} (hm : aS e = true) (hk : e.kind = 3) : eJ e.b = true := by
 obtain ⟨k, b, yes, next, off, row, prod⟩ := e
 dsimp only at hk
 subst hk
 unfold aS at hm
 have h1 : vI ⟨3, b, yes, next, off, row, prod⟩ = (b.txn && ((!yes || fA next 0 1048576) && (eJ b && decide ((⟨3, mY, false, if yes then 0 else next, off, row, prod⟩ : EntD) = zE 3)))) := rfl
 rw [h1] at hm
 simp only [Bool.and_eq_true] at hm
 exact hm.2.2.2.1
theorem aK7 {p : PartD} {w : Wts} (h : Sm14 p w) : FOk 10000 (dS p) :=
 ⟨⟨fun o ho => by simp [dS] at ho, by simp [dS]⟩, h.fin, by simp [dS], h.prods, h.seen, by simp [dS], fun x hx => by simp [dS] at hx, fun x hx => by simp [dS] at hx⟩
theorem tX {e : EntD} (h : aS e = true) : 0 ≤ e.kind ∧ e.kind < 7 := by
 unfold aS at h
 simp at h
 exact ⟨h.1.1, h.1.2⟩
theorem tA (s : BufS) (e : EntD) (h : BokB s) (he : SmallEn e) : aT0 102 [.c (.own 0 0), jI e] s (wV s.p s.w e) := by
 have hw := h.w.pid
 have hqs : SmallL s.p.prods := ⟨by have := h.sm.prods; omega, fun x hx => by have := h.sm.seen x hx; omega⟩
 unfold wV
 cases hm : aS e with
 | false =>
  obtain ⟨m, c⟩ := aE6 s e hw he (.inl hm)
  rw [if_pos rfl]
  exact ⟨_, s, c, hw, .inr ⟨rfl, m, rfl⟩⟩
 | true =>
 have hrg := tX hm
 have ny : ¬ (true = false) := by simp
 rw [if_neg ny]
 by_cases k3 : e.kind = 3
 ·rw [if_pos k3]
  obtain ⟨hp, hb⟩ := mX (tJ hm k3)
  have c := tV s (xI s e) e (aB6 s e) hw (yK h hp) (aFo s e) he hm (.inl ⟨k3, aLo s e h hb hp⟩)
  exact ⟨_, _, c, yK h hp, aO2 s e h.v⟩
 rw [if_neg k3]
 by_cases k4 : e.kind = 4
 ·rw [if_pos k4]
  have c0 := aRd s e hw hqs
  cases hd : iW s.p e with
  | true =>
   rw [hd, if_pos rfl, if_pos rfl] at c0
   have c := tV s s e (gY aDu) hw hw rfl he hm (.inr (.inl ⟨k4, c0⟩))
   rw [if_pos rfl]
   exact ⟨_, _, c, hw, .inr ⟨rfl, _, rfl⟩⟩
  | false =>
   rw [hd, if_neg Bool.false_ne_true, if_neg Bool.false_ne_true] at c0
   have c := tV s (yN s e) e kD hw (lB hw e.b.pid) rfl he hm (.inr (.inl ⟨k4, c0⟩))
   rw [if_neg Bool.false_ne_true]
   exact ⟨_, _, c, lB hw e.b.pid, .inl ⟨rfl, rfl, h.v⟩⟩
 rw [if_neg k4]
 by_cases k1 : e.kind = 1
 ·rw [if_pos k1]
  obtain ⟨m, c⟩ := aE6 s e hw he (.inr ⟨hm, .inl k1⟩)
  exact ⟨_, s, c, hw, .inr ⟨rfl, m, rfl⟩⟩
 rw [if_neg k1]
 by_cases k0 : e.kind = 0 ∧ e.b.txn = true
 ·rw [if_pos k0]
  obtain ⟨m, c⟩ := aE6 s e hw he (.inr ⟨hm, .inr k0⟩)
  exact ⟨_, s, c, hw, .inr ⟨rfl, m, rfl⟩⟩
 rw [if_neg k0]
 have hk : (e.kind = 0 ∧ e.b.txn = false ∨ e.kind = 2 ∨ e.kind = 5 ∨ e.kind = 6) := by
  by_cases h0 : e.kind = 0
  ·left; refine ⟨h0, ?_⟩
   cases ht : e.b.txn with
   | false => rfl
   | true => exact absurd ⟨h0, ht⟩ k0
  ·right; omega
 unfold iH
 cases hst : bS (dS s.p) e with
 | some q =>
  have c0 := aDh s e q 10000 hw (by omega) (aK7 h.sm) he (by have := h.sm.rows; omega) hst hm hk
  have c := tV s ⟨{ s.p with start := q.start, fin := q.fin, prods := q.prods, rows := kN q.start (s.p.rows ++ q.rows) }, s.w, s.vr + 1, s.vt, s.vc⟩ e kD hw hw rfl he hm (.inr (.inr ⟨hk, c0⟩))
  exact ⟨_, _, c, hw, .inl ⟨rfl, rfl, h.v⟩⟩
 | none =>
  have c0 := aDg s e 10000 hw (by omega) (aK7 h.sm) he hst hm hk
  have c := tV s s e (gY aTd) hw hw rfl he hm (.inr (.inr ⟨hk, c0⟩))
  exact ⟨_, _, c, hw, .inr ⟨rfl, _, rfl⟩⟩
set_option maxHeartbeats 16000000
/-- What a side file's entries do to the producers; the first that is refused. -/
def lN (x : SideD) : Int := match x.l with
 | [] => 0
 | y :: _ => y.b.epoch
def eL (x : SideD) (y : EntD) : Bool := !aS y || (y.kind != 0 || (!y.b.txn || (y.b.pid != x.pid || y.b.epoch != lN x)))
def bK (x : SideD) : List ProdD → List EntD → Option (List ProdD)
 | ps, [] => some ps
 | ps, y :: l => if eL x y = true then none else if (aI ps y.b (-1)).2 ≠ 0 then none else bK x (aI ps y.b (-1)).1 l
theorem rJ (x : SideD) : ∀ (l : List EntD) (ps : List ProdD) (r : List EntD), bK x ps (l ++ r) = match bK x ps l with
  | some qs => bK x qs r
  | none => none
 | [], ps, r => rfl
 | y :: l, ps, r => by
  show (if _ then _ else if _ then _ else bK x _ (l ++ r)) = match (if _ then _ else if _ then _ else bK x _ l) with | some qs => bK x qs r | none => none
  split
  ·rfl
  split
  ·rfl
  ·exact rJ x l _ r
theorem oV {x : SideD} {ps qs : List ProdD} {l : List EntD} {k : Nat} (hk : k < l.length) (h : bK x ps (l.take k) = some qs) : bK x ps (l.take (k + 1)) = if eL x l[k] = true then none else if (aI qs l[k].b (-1)).2 ≠ 0 then none else some (aI qs l[k].b (-1)).1 := by
 rw [List.take_succ_eq_append_getElem hk, rJ, h]
 rfl
theorem aAb {x : SideD} {ps : List ProdD} {l : List EntD} {k : Nat} (h : bK x ps (l.take k) = none) : bK x ps l = none := by
 conv => lhs; rw [← List.take_append_drop k l]
 rw [rJ, h]
def eZ (p : PartD) (w : Wts) (x : SideD) : Option (PartD × Wts) :=
 if x.l.length = 0 ∨ 8 < x.l.length then none else
 match bK x p.prods x.l with
 | none => none
 | some qs =>
  if x.l.length ≤ (cD w x.pid).length then none else
  if cD w x.pid ≠ (x.l.map (·.b)).take (cD w x.pid).length then none else
  some ({ p with prods := qs, opens := p.opens ++ [⟨x.pid, lN x, x.l.map (·.b)⟩] }, cH w x.pid)
theorem qI {x : SideD} : ∀ (l : List EntD) (ps qs : List ProdD) (n : Nat), ps.length ≤ n → (∀ q ∈ ps, q.seen.length ≤ 100) → bK x ps l = some qs → qs.length ≤ n + l.length ∧ ∀ q ∈ qs, q.seen.length ≤ 100
 | [], ps, qs, n, h1, h2, h => by cases h; exact ⟨h1, h2⟩
 | y :: l, ps, qs, n, h1, h2, h => by
  have h : (if eL x y = true then none else if (aI ps y.b (-1)).2 ≠ 0 then none else bK x (aI ps y.b (-1)).1 l) = some qs := h
  split at h
  ·cases h
  split at h
  ·cases h
  obtain ⟨t1, t2⟩ := lP (k := n) y.b (-1) h1 h2
  obtain ⟨q1, q2⟩ := qI l _ qs (n + 1) t1 t2 h
  exact ⟨by rw [List.length_cons]; omega, q2⟩
abbrev aKv (x : SideD) : SV := .agg [.d (int x.pid), .d (.lst 18 (x.l.map EntD.dv))]
abbrev aVe : List UInt8 := [116, 104, 101, 32, 108, 101, 110, 103, 116, 104, 32, 111, 102, 32, 97, 32, 115, 105, 100, 101, 32, 102, 105, 108, 101]
theorem aFa (s : BufS) (x : SideD) (hw : fO s.w) (hl : x.l.length = 0 ∨ 8 < x.l.length) : FunG Tryz.prog 105 [.c (.own 0 0), aKv x] bfK (bO (fZ s)) (gY aVe) bfK (bO (fZ s)) := by
 have c1 := cI aVe
 refine FunG.of_bodyH rfl rfl Tryz.func105 rfl rfl Tryz.ntmps105 Tryz.results105 (Nat.le_of_ble_eq_true rfl) (jP rfl rfl hw hw) ?_
 (refine gO (@aC) ?_)
 (first | refine Wp.sto 22 (vb true) ?_ ?_ | refine Wp.rtoS 22 (vb true) ?_ ?_ | (refine Wp.seq ?_; first | refine Wp.sto 22 (vb true) ?_ ?_ | refine Wp.rtoS 22 (vb true) ?_ ?_))
 ·rcases hl with h | h
  ·have d1 : ((x.l.length : Int) == 0) = true := by rw [h]; rfl
   ((refine rO (d1) ?_; try with_reducible exact tt); (repeat (refine iE (by assumption) ?_; (refine rO (d1) ?_))))
   all_goals (exact (show bV _ _ = true by kernel_rfl))
  ·have d1 : ((x.l.length : Int) == 0) = false := by rw [beq_eq_false_iff_ne]; omega
   have d2 : decide ((8 : Int) < (x.l.length : Int)) = true := decide_eq_true (by omega)
   ((refine rO (ai d1 (d2)) ?_; try with_reducible exact tt); (repeat (refine iE (by assumption) ?_; (refine rO (ai d1 (d2)) ?_))))
   all_goals (exact (show bV _ _ = true by kernel_rfl))
 (refine gO (@aC) ?_)
 refine aT.ret ?_
 (refine rO (ai @aC (ai @aO.eq_1 (@aO.eq_2))) ?_; try with_reducible exact tt)
end Go.Proofs.YtpklhnpchhaccaaGreatDoor
