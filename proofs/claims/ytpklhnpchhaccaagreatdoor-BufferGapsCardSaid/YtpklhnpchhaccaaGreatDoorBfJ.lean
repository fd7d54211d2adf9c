/- Package buffer: side, the walk. -/
import Derived.Test.YtpklhnpchhaccaaGreatDoorBfMc
import Derived.Test.YtpklhnpchhaccaaGreatDoorRhMa
namespace Go.Proofs.YtpklhnpchhaccaaGreatDoor
open Go Go.RowKit
set_option maxHeartbeats 16000000
set_option maxRecDepth 100000
set_option linter.unusedVariables false
set_option linter.unusedSimpArgs false
/-- The fold's boxes, a side file, the transaction that grows. -/
abbrev bfY (s : BufS) (x : SideD) (l : List BatD) : List (Nat × HE) := fZ s ++ [(1000, .cells [.d (int x.pid), .d (.lst 18 (x.l.map EntD.dv))]), (1001, .cells [.d (int x.pid), .d (int (lN x)), .app 60 5 (l.map BatD.dv)]), (60, .row 62 5 l.length)]
theorem nL {L : List (Nat × SV)} {s : BufS} {x : SideD} {k : List BatD} (h : fO s.w) (hL : (L.all fun p => p.2.ids.all fun i => (bfK ++ [1000, 1001, 60]).contains i) = true) : (jE L (bfY s x k) && fC ⟨bfK, [], false, none⟩ (bfY s x k)) = true := by
 have e1 : (bfY s x k).map (·.1) = bfK ++ [1000, 1001, 60] := rfl
 have h2 := qY s.vc _ h
 have h3 : (((pI s.vc s.w).flatMap CV.ids).all fun i => (bfK ++ [1000, 1001, 60]).contains i) = true := by
  rw [List.all_eq_true] at h2 ⊢
  intro i hi
  have := h2 i hi
  simp only [List.contains_iff_mem, List.mem_append] at this ⊢
  exact .inl this
 unfold jE
 rw [e1, hL]
 simp only [bfY, fZ, List.cons_append, List.nil_append, List.all_cons, List.all_nil, pW]
 rw [show ((pI s.vc s.w).flatMap CV.ids).all (fun i => [0, 8, 9, 10, 31, 32, 33, 34, 35, 36, 37, 38, 1000, 1001, 60].contains i) = true from h3]
 rfl
abbrev aUh : List UInt8 := [97, 110, 32, 101, 110, 116, 114, 121, 32, 111, 102, 32, 97, 32, 115, 105, 100, 101, 32, 102, 105, 108, 101]
abbrev aUi : List UInt8 := [99, 111, 112, 105, 101, 115, 32, 111, 102, 32, 116, 104, 101, 32, 119, 104, 111, 108, 101, 32, 115, 105, 100, 101, 32, 102, 105, 108, 101, 32, 116, 104, 97, 116, 32, 119, 97, 105, 116]
abbrev aUj : List UInt8 := [99, 111, 112, 105, 101, 115, 32, 111, 102, 32, 97, 110, 111, 116, 104, 101, 114, 32, 115, 105, 100, 101, 32, 102, 105, 108, 101]
/-- The fold with other producers; with the side file's transaction. -/
def pH (s : BufS) (qs : List ProdD) : BufS := { s with p := { s.p with prods := qs } }
def sdT (s : BufS) (x : SideD) (qs : List ProdD) : BufS := { s with p := { s.p with prods := qs, opens := s.p.opens ++ [⟨x.pid, lN x, x.l.map (·.b)⟩] }, w := cH s.w x.pid }
/-- The ways out of side: what is returned, and how the fold stands then. -/
structure SdOut (s : BufS) (x : SideD) (r : SV) (t : BufS) : Prop where
 bad : ∀ k (hk : k < x.l.length) qs, bK x s.p.prods (x.l.take k) = some qs → eL x x.l[k] = true → r = gY aUh ∧ t = pH s qs
 take : ∀ k (hk : k < x.l.length) qs, bK x s.p.prods (x.l.take k) = some qs → eL x x.l[k] = false → (aI qs x.l[k].b (-1)).2 ≠ 0 → r = gY (aHj (aI qs x.l[k].b (-1)).2) ∧ t = pH s qs
 many : ∀ qs, bK x s.p.prods x.l = some qs → x.l.length ≤ (cD s.w x.pid).length → r = gY aUi ∧ t = pH s qs
 other : ∀ qs, bK x s.p.prods x.l = some qs → (cD s.w x.pid).length < x.l.length → cD s.w x.pid ≠ (x.l.map (·.b)).take (cD s.w x.pid).length → r = gY aUj ∧ t = pH s qs
 done : ∀ qs, bK x s.p.prods x.l = some qs → (cD s.w x.pid).length < x.l.length → cD s.w x.pid = (x.l.map (·.b)).take (cD s.w x.pid).length → r = kD ∧ t = sdT s x qs
theorem aEn {α : Type} [DecidableEq α] (a b : List α) (k : Nat) (hk : k < a.length) (hb : k < b.length) (h : a.take k = b.take k) : a.take (k + 1) = b.take (k + 1) ↔ a[k] = b[k] := by
 rw [List.take_succ_eq_append_getElem hk, List.take_succ_eq_append_getElem hb, h]
 constructor
 ·intro e; have := List.append_cancel_left e; simpa using this
 ·intro e; rw [e]
theorem aCf {L : List (Nat × SV)} {s : BufS} {cs : List D} (h : fO s.w) (hL : (L.all fun p => p.2.ids.all fun i => (bfK ++ [1001]).contains i) = true) : (jE L (fZ s ++ [(1001, .cells (cs.map CV.d))]) && fC ⟨bfK, [], false, none⟩ (fZ s ++ [(1001, .cells (cs.map CV.d))])) = true := by
 have e1 : (fZ s ++ [(1001, HE.cells (cs.map CV.d))] : List (Nat × HE)).map (fun p => p.1) = bfK ++ [1001] := rfl
 have h2 := qY s.vc _ h
 have h3 : (((pI s.vc s.w).flatMap CV.ids).all fun i => (bfK ++ [1001]).contains i) = true := by
  rw [List.all_eq_true] at h2 ⊢
  intro i hi
  have := h2 i hi
  simp only [List.contains_iff_mem, List.mem_append] at this ⊢
  exact .inl this
 have i1 : HE.ids (.cells (cs.map CV.d)) = [] := jK _
 unfold jE
 rw [e1, hL]
 simp only [fZ, List.cons_append, List.nil_append, List.all_cons, List.all_nil, pW, i1]
 rw [show ((pI s.vc s.w).flatMap CV.ids).all (fun i => [0, 8, 9, 10, 31, 32, 33, 34, 35, 36, 37, 38, 1001].contains i) = true from h3]
 rfl
theorem iU (s : BufS) (x : SideD) (r : SV) (t : BufS) (hB : BokB s) (he : ∀ y ∈ x.l, SmallEn y) (ht : fO t.w) (hr : nX r.ids bfK = true) (hl : 1 ≤ x.l.length ∧ x.l.length ≤ 8) (ho : SdOut s x r t) : FunG Tryz.prog 105 [.c (.own 0 0), aKv x] bfK (bO (fZ s)) r bfK (bO (fZ t)) := by
 have hw := hB.w.pid
 have hv := hB.v
 obtain ⟨hl8, hlr⟩ := aQh hB x.pid
 have hprods := hB.sm.prods
 have hseen := hB.sm.seen
 have hopens := hB.sm.opens
 have d1 : ((x.l.length : Int) == 0) = false := by rw [beq_eq_false_iff_ne]; omega
 have d2 : decide ((8 : Int) < (x.l.length : Int)) = false := decide_eq_false (by omega)
 obtain ⟨y, hy, hye⟩ : ∃ y, x.l[0]? = some y ∧ lN x = y.b.epoch := by
  obtain ⟨pid, l⟩ := x
  cases l with
  | nil => simp at hl
  | cons y l => exact ⟨y, rfl, rfl⟩
 refine FunG.of_bodyH rfl rfl Tryz.func105 rfl rfl Tryz.ntmps105 Tryz.results105 (Nat.le_of_ble_eq_true rfl) (jP rfl hr hw ht) ?_
 (refine gO (@aC) ?_)
 (first | refine Wp.sto 22 (vb false) ?_ ?_ | refine Wp.rtoS 22 (vb false) ?_ ?_ | (refine Wp.seq ?_; first | refine Wp.sto 22 (vb false) ?_ ?_ | refine Wp.rtoS 22 (vb false) ?_ ?_))
 ·((refine rO (ai d1 (d2)) ?_; try with_reducible exact tt); (repeat (refine iE (by assumption) ?_; (refine rO (ai d1 (d2)) ?_))))
  all_goals (exact (show bV _ _ = true by kernel_rfl))
 (refine gO (ai @aC (ai hy (@EntD.dv.eq_1))) ?_)
 refine Wp.weak (aF.nilAppCell (id := 1001) (k := 2) (τ := 60) (cs := [.d (int x.pid), .d (int y.b.epoch), .d (.val (.slice none 0 0))]) 62 5 (by decide) (by (refine rO (@aC) ?_; try with_reducible exact tt)) (by (refine rO (@aC) ?_; try with_reducible exact tt)) rfl) ?_
 refine Wp.loop (fun k : Nat => ⟨lJ [(0, .c (.own 0 0)), (3, .c (.own 1000 0)), (5, .c (.own 1001 0)), (34, .c (.d (.lst 18 (x.l.map EntD.dv)))), (35, vi .i64 x.l.length), (36, vi .i64 k)], bO (bfY (pH s ((bK x s.p.prods (x.l.take k)).getD [])) x ((x.l.map (·.b)).take k)), 1020, 133, ⟨bfK, [], false, none⟩⟩) (fun k => k ≤ x.l.length ∧ (bK x s.p.prods (x.l.take k)).isSome = true) (fun k => x.l.length - k) 0 ⟨Nat.zero_le _, rfl⟩ ?_ ?_
 ·refine aF.keep rfl (nL hw rfl) ?_
  simp (maxSteps := 2000000) (disch := omega) only [iK, TY, cF, fB, gR, SV.ofD, eE, fM, gK, gL, bT, gM, fP, fN, gN, fK, gI, gH, gJ, CV.exact, CV.lstOf, CV.lenOf, CV.one, D.one, Value.oneCell', CV.toD0, gZ, oWn, hZ, gB, rD0, iB, gE, hJ, reduceCtorEq, reduceIte, Nat.reduceBEq, Nat.reduceEqDiff, Nat.reduceAdd, Nat.reduceMul, Nat.reduceSub, Nat.reduceLT, Nat.reduceLeDiff, Nat.reduceBNe, Int.reduceLE, Int.reduceLT, Int.reduceBEq, Int.reduceBNe, Int.reduceEq, Int.reduceNeg, Int.reduceAdd, Int.reduceSub, Int.reduceToNat, forall_const, aC, hye, List.take_zero, bK, Option.getD_some, List.map_nil, List.length_nil, pH]
  rfl
 rintro k ⟨hk, hks⟩
 obtain ⟨qs, hqs⟩ := Option.isSome_iff_exists.1 hks
 rw [hqs, Option.getD_some]
 have htl : (x.l.take k).length ≤ 8 := by rw [List.length_take]; omega
 obtain ⟨g1, g2⟩ := qI (x.l.take k) s.p.prods qs 10000 hprods hseen hqs
 have hq2 : SmallL qs := ⟨by omega, fun z hz => by have := g2 z hz; omega⟩
 have hwq : fO (pH s qs).w := hw
 by_cases hkl : k < x.l.length
 ·have d3 : decide ((k : Int) < (x.l.length : Int)) = true := decide_eq_true (by omega)
  have hge : x.l[k]? = some x.l[k] := List.getElem?_eq_getElem hkl
  have hwk : IntKind.i64.wrap ((k : Int) + 1) = ((k + 1 : Nat) : Int) := by rw [aW (by omega)]; rfl
  have hsn := oV hkl hqs
  obtain ⟨hr1, hr2, hr3⟩ := he _ (List.getElem_mem hkl)
  have hbad := ho.bad k hkl qs hqs
  have htake := ho.take k hkl qs hqs
  have htk1 : (x.l.map (·.b)).take (k + 1) = (x.l.map (·.b)).take k ++ [x.l[k].b] := by
   rw [List.take_succ_eq_append_getElem (by rw [List.length_map]; exact hkl), List.getElem_map]
  have htkl : ((x.l.map (·.b)).take k).length = k := by rw [List.length_take, List.length_map]; omega
  generalize (x.l.map (·.b)).take k = wl at *
  have hbb : (wl.length + 1) * 56 ≤ 140737488355328 := by omega
  generalize x.l[k] = e at *
  have c1 := uY e hr2 hr3
  simp only [EntD.dv] at c1
  (refine gO (ai @aC (ai d3 (ai hge (@EntD.dv.eq_1)))) ?_)
  (first | refine Wp.sto 68 (vb (eL x e)) ?_ ?_ | refine Wp.rtoS 68 (vb (eL x e)) ?_ ?_ | (refine Wp.seq ?_; first | refine Wp.sto 68 (vb (eL x e)) ?_ ?_ | refine Wp.rtoS 68 (vb (eL x e)) ?_ ?_))
  ·unfold eL
   cases q1 : aS e with
   | false =>
    rw [q1] at c1
    ((refine rO (@EntD.dv.eq_1) ?_); (repeat (refine iE (by assumption) ?_; (refine rO (@EntD.dv.eq_1) ?_; try with_reducible exact tt))))
    all_goals (exact (show bV _ _ = true by kernel_rfl))
   | true =>
   rw [q1] at c1
   cases q2 : (e.kind != 0) with
   | true =>
    ((refine rO (ai @EntD.dv.eq_1 (q2)) ?_); (repeat (refine iE (by assumption) ?_; (refine rO (ai @EntD.dv.eq_1 (q2)) ?_; try with_reducible exact tt))))
    all_goals (exact (show bV _ _ = true by kernel_rfl))
   | false =>
   cases q3 : e.b.txn <;> (rw [q3] at c1) <;> cases q4 : (e.b.pid != x.pid) <;> cases q5 : (e.b.epoch != lN x) <;> (((refine rO (ai @EntD.dv.eq_1 (ai q2 (ai q3 (ai q4 (q5))))) ?_); (repeat (refine iE (by assumption) ?_; (refine rO (ai @EntD.dv.eq_1 (ai q2 (ai q3 (ai q4 (q5))))) ?_; try with_reducible exact tt)))); all_goals (exact (show bV _ _ = true by kernel_rfl)))
  cases hn : eL x e with
  | true =>
   obtain ⟨rfl, rfl⟩ := hbad hn
   have c6 := cI aUh
   (refine gO (@aC) ?_)
   refine aT.ret ?_
   simp (maxSteps := 2000000) (disch := omega) only [iK, TY, cF, fB, gR, SV.ofD, eE, fM, gK, gL, bT, gM, fP, fN, gN, fK, gI, gH, gJ, CV.exact, CV.lstOf, CV.lenOf, CV.one, D.one, Value.oneCell', CV.toD0, gZ, oWn, hZ, gB, rD0, iB, gE, hJ, reduceCtorEq, reduceIte, Nat.reduceBEq, Nat.reduceEqDiff, Nat.reduceAdd, Nat.reduceMul, Nat.reduceSub, Nat.reduceLT, Nat.reduceLeDiff, Nat.reduceBNe, Int.reduceLE, Int.reduceLT, Int.reduceBEq, Int.reduceBNe, Int.reduceEq, Int.reduceNeg, Int.reduceAdd, Int.reduceSub, Int.reduceToNat, forall_const, aC, retG, aO, pH]
  | false =>
  rw [hn, if_neg Bool.false_ne_true] at hsn
  have htake := htake hn
  have hbW : aLk e.b = .agg (e.b.dv.map CV.d) := rfl
  by_cases hz : (aI qs e.b (-1)).2 ≠ 0
  ·obtain ⟨rfl, rfl⟩ := htake hz
   have c4 := yF (pH s qs) e.b hw hq2 hr2 hz
   have ez : (aI (pH s qs).p.prods e.b (-1)).2 = (aI qs e.b (-1)).2 := rfl
   rw [ez] at c4
   (refine gO (ai @aC (ai @EntD.dv.eq_1 (ai @List.map_cons.{0,0} (@List.map_nil.{0,0})))) ?_)
   (first | refine Wp.sregG ?_ | refine Wp.regG ?_ | (refine Wp.seq ?_; first | refine Wp.sregG ?_ | refine Wp.regG ?_))
   (refine aG.at 2 (fun K hK => ?_); (refine rO (ai @aC (ai @EntD.dv.eq_1 (ai @List.map_cons.{0,0} (@List.map_nil.{0,0})))) ?_); refine hK _ ?_; clear hK K)
   (refine aG.call (c4) [] 1040 rfl rfl ?_ ?_; (focus ((refine rOs (ai @eN (ai @aC (ai @aQ (ai hbW (ai @BatD.dv.eq_1 (ai @List.map_cons.{0,0} (@List.map_nil.{0,0}))))))) ?_; try with_reducible exact tt); done)))
   (refine aG.done (fun K hK => ?_); (refine rOt (ai @aC (ai @cW.eq_1 (ai @cW.eq_2 (ai @aQ (ai @bZ (ai @List.map_cons.{0,0} (@List.map_nil.{0,0}))))))) ?_); refine hK _ ?_; clear hK K)
   (refine gO (@aC) ?_)
   refine aT.ret ?_
   (refine rO (ai @aC (ai @aO.eq_1 (@aO.eq_2))) ?_; try with_reducible exact tt)
  ·have hz0 : (aI qs e.b (-1)).2 = 0 := by simpa using hz
   rw [if_neg hz] at hsn
   have c4 := yG (pH s qs) e.b hw hq2 hr2 hz0
   have et : aEo (pH s qs) e.b = pH s (aI qs e.b (-1)).1 := rfl
   rw [et] at c4
   have c5 := rZ e.b (by omega)
   simp only [BatD.dv] at c5
   generalize (aI qs e.b (-1)).1 = np at *
   (refine gO (ai @aC (ai @EntD.dv.eq_1 (ai @List.map_cons.{0,0} (@List.map_nil.{0,0})))) ?_)
   (first | refine Wp.sregG ?_ | refine Wp.regG ?_ | (refine Wp.seq ?_; first | refine Wp.sregG ?_ | refine Wp.regG ?_))
   (refine aG.at 2 (fun K hK => ?_); (refine rO (ai @aC (ai @EntD.dv.eq_1 (ai @List.map_cons.{0,0} (@List.map_nil.{0,0})))) ?_); refine hK _ ?_; clear hK K)
   (refine aG.call (c4) [] 1040 rfl rfl ?_ ?_; (focus ((refine rOs (ai @eN (ai @aC (ai @aQ (ai hbW (ai @BatD.dv.eq_1 (ai @List.map_cons.{0,0} (@List.map_nil.{0,0}))))))) ?_; try with_reducible exact tt); done)))
   (refine aG.done (fun K hK => ?_); (refine rOt (ai @aC (ai @cW.eq_1 (ai @cW.eq_2 (ai @aQ (ai @bZ (ai @List.map_cons.{0,0} (@List.map_nil.{0,0}))))))) ?_); refine hK _ ?_; clear hK K)
   (refine gO (ai @aC (ai hbb (ai @EntD.dv.eq_1 (ai @BatD.dv.eq_1 (ai @List.length_map.{0,0} (ai @List.map_cons.{0,0} (@List.map_nil.{0,0}))))))) ?_)
   refine ⟨k + 1, ⟨hkl, by rw [hsn]; rfl⟩, by omega, ?_⟩
   rw [hsn, Option.getD_some, htk1]
   refine aF.keep rfl (nL hw rfl) ?_
   (refine rO (ai @aC (ai hwk (ai @EntD.dv.eq_1 (ai @BatD.dv.eq_1 (ai @List.map_append.{0,0} (ai @List.length_append.{0} (ai @List.length_cons.{0} (ai @List.length_nil.{0} (ai @List.map_cons.{0,0} (@List.map_nil.{0,0})))))))))) ?_; try with_reducible exact tt)
 have hke : k = x.l.length := by omega
 subst hke
 rw [List.take_length] at hqs
 have hmany := ho.many qs hqs
 have hother := ho.other qs hqs
 have hdone := ho.done qs hqs
 have d3 : decide ((x.l.length : Int) < (x.l.length : Int)) = false := by simp
 obtain ⟨l, hlw⟩ : ∃ l, l = cD s.w x.pid := ⟨_, rfl⟩
 have hbe : (x.l.map (·.b)).take x.l.length = x.l.map (·.b) := List.take_of_length_le (by rw [List.length_map]; exact Nat.le_refl _)
 obtain ⟨os, hos⟩ : ∃ os, os = x.l.map (·.b) := ⟨_, rfl⟩
 have hosl : os.length = x.l.length := by rw [hos, List.length_map]
 rw [← hlw, ← hos] at hother hdone
 rw [← hlw] at hmany
 rw [← hlw] at hl8 hlr
 rw [hbe, ← hos]
 (refine gO (ai @aC (d3)) ?_)
 refine Wp.meetT ⟨lJ [(0, .c (.own 0 0)), (3, .c (.own 1000 0)), (5, .c (.own 1001 0)), (10, .c (.d (.lst 5 (l.map BatD.dv))))], bO (bfY (pH s qs) x os), 1020, 133, ⟨bfK, [], false, none⟩⟩ ?_ ?_
 ·cases hk : lS s.w x.pid with
  | true =>
   have hci := aQi (vt := s.vc) hk
   rw [← hlw, hv] at hci
   have hq9 := hw _ (List.mem_of_getElem? (kK hk))
   dsimp only at hq9
   obtain ⟨q, hq⟩ : ∃ q, q = x.pid.toNat := ⟨_, rfl⟩
   rw [← hq] at hci
   (first | refine Wp.sregM aL ?_ | refine Wp.regM aL ?_ | (refine Wp.seq ?_; first | refine Wp.sregM aL ?_ | refine Wp.regM aL ?_))
   (refine cN.at 6 (fun K hK => ?_); (refine rO (ai @aC (ai @List.map_cons.{0,0} (@List.map_nil.{0,0}))) ?_); refine hK _ _ ?_; clear hK K)
   refine cN.imapHas rfl 8 (oA s.w) (pI s.vc s.w) (wI s.w x.pid) x.pid _ _ iG iY xQ (qQ hk) (fun j hj => pB hj) (by rw [hv]; exact hci) ⟨by kernel_rfl, by kernel_rfl, dW ?_ ?_, ?_⟩ ?_
   ·(refine rO (@aC) ?_; try with_reducible exact tt)
   ·simp (maxSteps := 2000000) (disch := omega) only [iK, TY, cF, fB, gR, SV.ofD, eE, fM, gK, gL, bT, gM, fP, fN, gN, fK, gI, gH, gJ, CV.exact, CV.lstOf, CV.lenOf, CV.one, D.one, Value.oneCell', CV.toD0, gZ, oWn, hZ, gB, rD0, iB, gE, hJ, reduceCtorEq, reduceIte, Nat.reduceBEq, Nat.reduceEqDiff, Nat.reduceAdd, Nat.reduceMul, Nat.reduceSub, Nat.reduceLT, Nat.reduceLeDiff, Nat.reduceBNe, Int.reduceLE, Int.reduceLT, Int.reduceBEq, Int.reduceBNe, Int.reduceEq, Int.reduceNeg, Int.reduceAdd, Int.reduceSub, Int.reduceToNat, forall_const, aC, pH]
   ·simp (maxSteps := 2000000) (disch := omega) only [iK, TY, cF, fB, gR, SV.ofD, eE, fM, gK, gL, bT, gM, fP, fN, gN, fK, gI, gH, gJ, CV.exact, CV.lstOf, CV.lenOf, CV.one, D.one, Value.oneCell', CV.toD0, gZ, oWn, hZ, gB, rD0, iB, gE, hJ, reduceCtorEq, reduceIte, Nat.reduceBEq, Nat.reduceEqDiff, Nat.reduceAdd, Nat.reduceMul, Nat.reduceSub, Nat.reduceLT, Nat.reduceLeDiff, Nat.reduceBNe, Int.reduceLE, Int.reduceLT, Int.reduceBEq, Int.reduceBNe, Int.reduceEq, Int.reduceNeg, Int.reduceAdd, Int.reduceSub, Int.reduceToNat, forall_const, gF, sV, aC]
   (refine cN.done (fun K hK => ?_); (refine rO (ai @aC (ai @List.map_cons.{0,0} (@List.map_nil.{0,0}))) ?_); refine hK _ _ ?_; clear hK K; refine ⟨by kernel_rfl, ?_⟩)
   refine aF.trans (aF.aptD (t := 10) (τ := 30 + q) (sz := 5) (n := s.vt q) (xs := l.map BatD.dv) (by (refine rO (@aC) ?_; try with_reducible exact tt))) (aF.keep rfl (nL hw rfl) ?_)
   (refine rO (ai @aC (ai @List.map_cons.{0,0} (@List.map_nil.{0,0}))) ?_; try with_reducible exact tt)
  | false =>
   have hl0 : l = [] := by rw [hlw]; exact pA hk
   subst hl0
   (first | refine Wp.sregM aL ?_ | refine Wp.regM aL ?_ | (refine Wp.seq ?_; first | refine Wp.sregM aL ?_ | refine Wp.regM aL ?_))
   (refine cN.at 6 (fun K hK => ?_); (refine rO (ai @aC (ai @List.map_cons.{0,0} (@List.map_nil.{0,0}))) ?_); refine hK _ _ ?_; clear hK K)
   refine cN.imapNone rfl 8 (oA s.w) (pI s.vc s.w) x.pid _ iG iY xQ (jT hk) ⟨by kernel_rfl, by kernel_rfl, dW ?_ ?_, ?_⟩ ?_
   ·(refine rO (@aC) ?_; try with_reducible exact tt)
   ·simp (maxSteps := 2000000) (disch := omega) only [iK, TY, cF, fB, gR, SV.ofD, eE, fM, gK, gL, bT, gM, fP, fN, gN, fK, gI, gH, gJ, CV.exact, CV.lstOf, CV.lenOf, CV.one, D.one, Value.oneCell', CV.toD0, gZ, oWn, hZ, gB, rD0, iB, gE, hJ, reduceCtorEq, reduceIte, Nat.reduceBEq, Nat.reduceEqDiff, Nat.reduceAdd, Nat.reduceMul, Nat.reduceSub, Nat.reduceLT, Nat.reduceLeDiff, Nat.reduceBNe, Int.reduceLE, Int.reduceLT, Int.reduceBEq, Int.reduceBNe, Int.reduceEq, Int.reduceNeg, Int.reduceAdd, Int.reduceSub, Int.reduceToNat, forall_const, aC, pH]
   ·simp (maxSteps := 2000000) (disch := omega) only [iK, TY, cF, fB, gR, SV.ofD, eE, fM, gK, gL, bT, gM, fP, fN, gN, fK, gI, gH, gJ, CV.exact, CV.lstOf, CV.lenOf, CV.one, D.one, Value.oneCell', CV.toD0, gZ, oWn, hZ, gB, rD0, iB, gE, hJ, reduceCtorEq, reduceIte, Nat.reduceBEq, Nat.reduceEqDiff, Nat.reduceAdd, Nat.reduceMul, Nat.reduceSub, Nat.reduceLT, Nat.reduceLeDiff, Nat.reduceBNe, Int.reduceLE, Int.reduceLT, Int.reduceBEq, Int.reduceBNe, Int.reduceEq, Int.reduceNeg, Int.reduceAdd, Int.reduceSub, Int.reduceToNat, forall_const, gF, sV, aC]
   (refine cN.done (fun K hK => ?_); (refine rO (ai @aC (ai @List.map_cons.{0,0} (@List.map_nil.{0,0}))) ?_); refine hK _ _ ?_; clear hK K; refine ⟨by kernel_rfl, ?_⟩)
   refine aF.trans (aF.slot (t := 10) (x := .c (.d (.val (.slice none 0 0)))) (y := .c (.d (.lst 5 []))) (by (refine rO (@aC) ?_; try with_reducible exact tt)) (fun g v h => sX.nil 5 _ _ h)) (aF.keep rfl (nL hw rfl) ?_)
   (refine rO (ai @aC (ai @List.map_cons.{0,0} (@List.map_nil.{0,0}))) ?_; try with_reducible exact tt)
 by_cases hm : x.l.length ≤ l.length
 ·obtain ⟨rfl, rfl⟩ := hmany hm
  have dm : decide ((os.length : Int) ≤ (l.length : Int)) = true := decide_eq_true (by omega)
  have c6 := cI aUi
  (refine gO (ai @aC (ai dm (@List.length_map.{0,0}))) ?_)
  refine aT.ret ?_
  (refine rO (ai @aC (ai @aO.eq_1 (@aO.eq_2))) ?_; try with_reducible exact tt)
 have dm : decide ((os.length : Int) ≤ (l.length : Int)) = false := decide_eq_false (by omega)
 (refine gO (ai @aC (ai dm (@List.length_map.{0,0}))) ?_)
 refine Wp.loop (fun k : Nat => ⟨lJ [(0, .c (.own 0 0)), (3, .c (.own 1000 0)), (5, .c (.own 1001 0)), (98, .c (.d (.lst 5 (l.map BatD.dv)))), (99, vi .i64 l.length), (100, vi .i64 k)], bO (bfY (pH s qs) x os), 1020, 133, ⟨bfK, [], false, none⟩⟩) (fun k => k ≤ l.length ∧ l.take k = os.take k) (fun k => l.length - k) 0 ⟨Nat.zero_le _, rfl⟩ ?_ ?_
 ·refine aF.keep rfl (nL hw rfl) ?_
  (refine rO (ai @aC (@List.length_map.{0,0})) ?_; try with_reducible exact tt)
 rintro k ⟨hkk, htk⟩
 by_cases hkl : k < l.length
 ·have d4 : decide ((k : Int) < (l.length : Int)) = true := decide_eq_true (by omega)
  have hge : l[k]? = some l[k] := List.getElem?_eq_getElem hkl
  have hgo : os[k]? = some os[k] := List.getElem?_eq_getElem (by omega)
  have hwk : IntKind.i64.wrap ((k : Int) + 1) = ((k + 1 : Nat) : Int) := by rw [aW (by omega)]; rfl
  have hiff := aEn l os k hkl (by omega) htk
  have hmr := hlr _ (List.getElem_mem hkl)
  have hbad : ¬ l[k] = os[k] → ¬ l = os.take l.length := fun h e => h (by
   rw [← hiff]
   conv => lhs; rw [e]
   rw [List.take_take]; congr 1; omega)
  generalize l[k] = b at *
  generalize os[k] = c at *
  have c8 := aBv b c (by omega)
  simp only [BatD.dv] at c8
  by_cases hbc : b = c
  ·have dd : decide (b = c) = true := decide_eq_true hbc
   rw [dd] at c8
   (refine gO (ai @aC (ai d4 (ai hge (ai hgo (ai @BatD.dv.eq_1 (ai @List.length_map.{0,0} (ai @List.map_cons.{0,0} (@List.map_nil.{0,0})))))))) ?_)
   refine ⟨k + 1, ⟨hkl, hiff.2 hbc⟩, by omega, aF.keep rfl (nL hw rfl) ?_⟩
   (refine rO (ai @aC (hwk)) ?_; try with_reducible exact tt)
  ·have dd : decide (b = c) = false := decide_eq_false hbc
   rw [dd] at c8
   obtain ⟨rfl, rfl⟩ := hother (by omega) (hbad hbc)
   have c6 := cI aUj
   (refine gO (ai @aC (ai d4 (ai hge (ai hgo (ai @BatD.dv.eq_1 (ai @List.length_map.{0,0} (ai @List.map_cons.{0,0} (@List.map_nil.{0,0})))))))) ?_)
   refine aT.ret ?_
   (refine rO (ai @aC (ai @aO.eq_1 (@aO.eq_2))) ?_; try with_reducible exact tt)
 have hke2 : k = l.length := by omega
 subst hke2
 rw [List.take_length] at htk
 obtain ⟨rfl, rfl⟩ := hdone (by omega) htk
 have d4 : decide ((l.length : Int) < (l.length : Int)) = false := by simp
 have hob : (s.p.opens.length + 1) * 40 ≤ 140737488355328 := by omega
 (refine gO (ai @aC (d4)) ?_)
 refine Wp.weak (aF.cellAt (id := 1001) (k := 2) (cs := [.d (int x.pid), .d (int (lN x)), .app 60 5 (os.map BatD.dv)]) (x := .app 60 5 (os.map BatD.dv)) (y := .d (.lst 5 (os.map BatD.dv))) (by (refine rO (@aC) ?_; try with_reducible exact tt)) rfl (fun g v h => h.1)) ?_
 refine Wp.meetT ⟨lJ [(0, .c (.own 0 0)), (5, .c (.own 1001 0))], bO (fZ { pH s qs with w := cH s.w x.pid } ++ [(1001, .cells ([int x.pid, int (lN x), .lst 5 (os.map BatD.dv)].map CV.d))]), 1020, 133, ⟨bfK, [], false, none⟩⟩ ?_ ?_
 ·cases hk : lS s.w x.pid with
  | true =>
   (first | refine Wp.sregM aL ?_ | refine Wp.regM aL ?_ | (refine Wp.seq ?_; first | refine Wp.sregM aL ?_ | refine Wp.regM aL ?_))
   (refine cN.at 6 (fun K hK => ?_); (refine rO (ai @aC (ai @List.map_cons.{0,0} (@List.map_nil.{0,0}))) ?_); refine hK _ _ ?_; clear hK K)
   refine cN.imapDel rfl 8 (oA s.w) (pI s.vc s.w) (wI s.w x.pid) x.pid iG iY (qQ hk) (fun j hj => pB hj) ⟨by kernel_rfl, by kernel_rfl, dW ?_ ?_, ?_, by kernel_rfl⟩ ?_
   ·(refine rO (@aC) ?_; try with_reducible exact tt)
   ·simp (maxSteps := 2000000) (disch := omega) only [iK, TY, cF, fB, gR, SV.ofD, eE, fM, gK, gL, bT, gM, fP, fN, gN, fK, gI, gH, gJ, CV.exact, CV.lstOf, CV.lenOf, CV.one, D.one, Value.oneCell', CV.toD0, gZ, oWn, hZ, gB, rD0, iB, gE, hJ, reduceCtorEq, reduceIte, Nat.reduceBEq, Nat.reduceEqDiff, Nat.reduceAdd, Nat.reduceMul, Nat.reduceSub, Nat.reduceLT, Nat.reduceLeDiff, Nat.reduceBNe, Int.reduceLE, Int.reduceLT, Int.reduceBEq, Int.reduceBNe, Int.reduceEq, Int.reduceNeg, Int.reduceAdd, Int.reduceSub, Int.reduceToNat, forall_const, aC, pH]
   ·simp (maxSteps := 2000000) (disch := omega) only [iK, TY, cF, fB, gR, SV.ofD, eE, fM, gK, gL, bT, gM, fP, fN, gN, fK, gI, gH, gJ, CV.exact, CV.lstOf, CV.lenOf, CV.one, D.one, Value.oneCell', CV.toD0, gZ, oWn, hZ, gB, rD0, iB, gE, hJ, reduceCtorEq, reduceIte, Nat.reduceBEq, Nat.reduceEqDiff, Nat.reduceAdd, Nat.reduceMul, Nat.reduceSub, Nat.reduceLT, Nat.reduceLeDiff, Nat.reduceBNe, Int.reduceLE, Int.reduceLT, Int.reduceBEq, Int.reduceBNe, Int.reduceEq, Int.reduceNeg, Int.reduceAdd, Int.reduceSub, Int.reduceToNat, forall_const, gF, sV, aC]
   rw [aAq _ _ hk, aAp _ _ _ hk]
   (refine cN.done (fun K hK => ?_); (refine rO (ai @aC (ai @List.map_cons.{0,0} (@List.map_nil.{0,0}))) ?_); refine hK _ _ ?_; clear hK K; refine ⟨by kernel_rfl, ?_⟩)
   refine aF.keep rfl (aCf (lB hw x.pid) rfl) ?_
   simp (maxSteps := 2000000) (disch := omega) only [iK, TY, cF, fB, gR, SV.ofD, eE, fM, gK, gL, bT, gM, fP, fN, gN, fK, gI, gH, gJ, CV.exact, CV.lstOf, CV.lenOf, CV.one, D.one, Value.oneCell', CV.toD0, gZ, oWn, hZ, gB, rD0, iB, gE, hJ, reduceCtorEq, reduceIte, Nat.reduceBEq, Nat.reduceEqDiff, Nat.reduceAdd, Nat.reduceMul, Nat.reduceSub, Nat.reduceLT, Nat.reduceLeDiff, Nat.reduceBNe, Int.reduceLE, Int.reduceLT, Int.reduceBEq, Int.reduceBNe, Int.reduceEq, Int.reduceNeg, Int.reduceAdd, Int.reduceSub, Int.reduceToNat, forall_const, aC, pH, List.set_cons_succ, List.set_cons_zero, List.cons_append, List.nil_append]
  | false =>
   have e1 : cH s.w x.pid = s.w := by unfold cH; rw [hk]; rfl
   rw [e1]
   (first | refine Wp.sregM aL ?_ | refine Wp.regM aL ?_ | (refine Wp.seq ?_; first | refine Wp.sregM aL ?_ | refine Wp.regM aL ?_))
   (refine cN.at 6 (fun K hK => ?_); (refine rO (ai @aC (ai @List.map_cons.{0,0} (@List.map_nil.{0,0}))) ?_); refine hK _ _ ?_; clear hK K)
   refine cN.imapDelNo rfl 8 (oA s.w) (pI s.vc s.w) x.pid iG iY (jT hk) ⟨by kernel_rfl, by kernel_rfl, dW ?_ ?_, ?_, by kernel_rfl⟩ ?_
   ·(refine rO (@aC) ?_; try with_reducible exact tt)
   ·simp (maxSteps := 2000000) (disch := omega) only [iK, TY, cF, fB, gR, SV.ofD, eE, fM, gK, gL, bT, gM, fP, fN, gN, fK, gI, gH, gJ, CV.exact, CV.lstOf, CV.lenOf, CV.one, D.one, Value.oneCell', CV.toD0, gZ, oWn, hZ, gB, rD0, iB, gE, hJ, reduceCtorEq, reduceIte, Nat.reduceBEq, Nat.reduceEqDiff, Nat.reduceAdd, Nat.reduceMul, Nat.reduceSub, Nat.reduceLT, Nat.reduceLeDiff, Nat.reduceBNe, Int.reduceLE, Int.reduceLT, Int.reduceBEq, Int.reduceBNe, Int.reduceEq, Int.reduceNeg, Int.reduceAdd, Int.reduceSub, Int.reduceToNat, forall_const, aC, pH]
   ·simp (maxSteps := 2000000) (disch := omega) only [iK, TY, cF, fB, gR, SV.ofD, eE, fM, gK, gL, bT, gM, fP, fN, gN, fK, gI, gH, gJ, CV.exact, CV.lstOf, CV.lenOf, CV.one, D.one, Value.oneCell', CV.toD0, gZ, oWn, hZ, gB, rD0, iB, gE, hJ, reduceCtorEq, reduceIte, Nat.reduceBEq, Nat.reduceEqDiff, Nat.reduceAdd, Nat.reduceMul, Nat.reduceSub, Nat.reduceLT, Nat.reduceLeDiff, Nat.reduceBNe, Int.reduceLE, Int.reduceLT, Int.reduceBEq, Int.reduceBNe, Int.reduceEq, Int.reduceNeg, Int.reduceAdd, Int.reduceSub, Int.reduceToNat, forall_const, gF, sV, aC]
   (refine cN.done (fun K hK => ?_); (refine rO (ai @aC (ai @List.map_cons.{0,0} (@List.map_nil.{0,0}))) ?_); refine hK _ _ ?_; clear hK K; refine ⟨by kernel_rfl, ?_⟩)
   refine aF.keep rfl (aCf hw rfl) ?_
   simp (maxSteps := 2000000) (disch := omega) only [iK, TY, cF, fB, gR, SV.ofD, eE, fM, gK, gL, bT, gM, fP, fN, gN, fK, gI, gH, gJ, CV.exact, CV.lstOf, CV.lenOf, CV.one, D.one, Value.oneCell', CV.toD0, gZ, oWn, hZ, gB, rD0, iB, gE, hJ, reduceCtorEq, reduceIte, Nat.reduceBEq, Nat.reduceEqDiff, Nat.reduceAdd, Nat.reduceMul, Nat.reduceSub, Nat.reduceLT, Nat.reduceLeDiff, Nat.reduceBNe, Int.reduceLE, Int.reduceLT, Int.reduceBEq, Int.reduceBNe, Int.reduceEq, Int.reduceNeg, Int.reduceAdd, Int.reduceSub, Int.reduceToNat, forall_const, aC, pH, List.set_cons_succ, List.set_cons_zero, List.cons_append, List.nil_append]
 (repeat (first | apply Wp.skip | apply Wp.exit | apply Wp.ret | apply Wp.block | apply Wp.label | ((first | refine Wp.sreg (fun K hK => ?_) | refine Wp.reg (fun K hK => ?_) | refine Wp.sdrw aL (fun K hK => ?_) | refine Wp.drw aL (fun K hK => ?_) | refine Wp.condG (fun K hK hF => ?_)); (repeat (revert hK; intro hK; simp (maxSteps := 2000000) (disch := omega) only [iK, TY, cF, fB, gR, SV.ofD, eE, fM, gK, gL, bT, gM, fP, fN, gN, fK, gI, gH, gJ, CV.exact, CV.lstOf, CV.lenOf, CV.one, D.one, Value.oneCell', CV.toD0, gZ, oWn, hZ, gB, rD0, iB, gE, hJ, reduceCtorEq, reduceIte, Nat.reduceBEq, Nat.reduceEqDiff, Nat.reduceAdd, Nat.reduceMul, Nat.reduceSub, Nat.reduceLT, Nat.reduceLeDiff, Nat.reduceBNe, Int.reduceLE, Int.reduceLT, Int.reduceBEq, Int.reduceBNe, Int.reduceEq, Int.reduceNeg, Int.reduceAdd, Int.reduceSub, Int.reduceToNat, forall_const, aC, hob, OpenD.dv, pH, List.cons_append, List.nil_append, List.length_map]; (first | (refine hK _ ?_; clear hK K) | (refine ⟨by kernel_rfl, hK _ ?_⟩; clear hK K) | (refine hK ?_; clear hK hF K) | (refine hF ?_; clear hK hF K) | refine iE (by assumption) ?_ | refine bca (by assumption) ?_))); fail_if_success (revert hK; intro hK)) | apply Wp.seq))
 refine aT.ret ?_
 simp (maxSteps := 2000000) (disch := omega) only [iK, TY, cF, fB, gR, SV.ofD, eE, fM, gK, gL, bT, gM, fP, fN, gN, fK, gI, gH, gJ, CV.exact, CV.lstOf, CV.lenOf, CV.one, D.one, Value.oneCell', CV.toD0, gZ, oWn, hZ, gB, rD0, iB, gE, hJ, reduceCtorEq, reduceIte, Nat.reduceBEq, Nat.reduceEqDiff, Nat.reduceAdd, Nat.reduceMul, Nat.reduceSub, Nat.reduceLT, Nat.reduceLeDiff, Nat.reduceBNe, Int.reduceLE, Int.reduceLT, Int.reduceBEq, Int.reduceBNe, Int.reduceEq, Int.reduceNeg, Int.reduceAdd, Int.reduceSub, Int.reduceToNat, forall_const, aC, retG, aO, sdT, pH, hos, OpenD.dv, List.map_append, List.map_cons, List.map_nil, List.length_append, List.length_cons, List.length_nil]
theorem wZ {x : SideD} {ps : List ProdD} : ∀ (n : Nat), n ≤ x.l.length → bK x ps (x.l.take n) = none → ∃ k, ∃ hk : k < x.l.length, ∃ qs, bK x ps (x.l.take k) = some qs ∧ bK x ps (x.l.take (k + 1)) = none
 | 0, _, h => by rw [List.take_zero] at h; cases h
 | n + 1, hn, h => by
  cases hq : bK x ps (x.l.take n) with
  | none => exact wZ n (by omega) hq
  | some qs => exact ⟨n, by omega, qs, hq, h⟩
theorem oW {x : SideD} {ps a b : List ProdD} {i j : Nat} (h1 : bK x ps (x.l.take i) = some a) (h2 : bK x ps (x.l.take (i + 1)) = none) (h3 : bK x ps (x.l.take j) = some b) (h4 : bK x ps (x.l.take (j + 1)) = none) : i = j := by
 have key : ∀ (i j : Nat) (b : List ProdD), bK x ps (x.l.take (i + 1)) = none → bK x ps (x.l.take j) = some b → ¬ i < j := fun i j b h2 h3 hlt => by
  have : bK x ps (x.l.take j) = none := aAb (k := i + 1) (by rw [List.take_take, Nat.min_eq_left (by omega)]; exact h2)
  rw [this] at h3; cases h3
 have := key i j b h2 h3
 have := key j i a h4 h1
 omega
theorem nV {x : SideD} {ps qs : List ProdD} {k : Nat} (hk : k < x.l.length) (h : bK x ps (x.l.take k) = some qs) (h2 : eL x x.l[k] = true ∨ (aI qs x.l[k].b (-1)).2 ≠ 0) : bK x ps (x.l.take (k + 1)) = none := by
 rw [oV hk h]
 by_cases h1 : eL x x.l[k] = true
 ·rw [if_pos h1]
 ·rw [if_neg h1]
  rcases h2 with h2 | h2
  ·exact absurd h2 h1
  ·rw [if_pos h2]
theorem tB (s : BufS) (x : SideD) (hB : BokB s) (he : ∀ y ∈ x.l, SmallEn y) : aT0 105 [.c (.own 0 0), aKv x] s (eZ s.p s.w x) := by
 by_cases hl : x.l.length = 0 ∨ 8 < x.l.length
 ·have c := aFa s x hB.w.pid hl
  exact ⟨_, s, c, hB.w.pid, .inr ⟨by unfold eZ; rw [if_pos hl], _, rfl⟩⟩
 have hl2 : 1 ≤ x.l.length ∧ x.l.length ≤ 8 := by omega
 have hsp : eZ s.p s.w x = match bK x s.p.prods x.l with
   | none => none
   | some qs =>
    if x.l.length ≤ (cD s.w x.pid).length then none else
    if cD s.w x.pid ≠ (x.l.map (·.b)).take (cD s.w x.pid).length then none else
    some ({ s.p with prods := qs, opens := s.p.opens ++ [⟨x.pid, lN x, x.l.map (·.b)⟩] }, cH s.w x.pid) := by unfold eZ; rw [if_neg hl] <;> rfl
 rw [hsp]
 cases hq : bK x s.p.prods x.l with
 | none =>
  obtain ⟨k, hk, qs, h1, h2⟩ := wZ x.l.length (Nat.le_refl _) (by rw [List.take_length]; exact hq)
  have hno : ∀ rs, bK x s.p.prods x.l = some rs → False := fun rs h => by rw [hq] at h; cases h
  have hsn := oV hk h1
  rw [h2] at hsn
  by_cases hn : eL x x.l[k] = true
  ·have ho : SdOut s x (gY aUh) (pH s qs) := by
    refine ⟨fun j hj rs h3 h4 => ?_, fun j hj rs h3 h4 h5 => ?_, fun rs h _ => (hno rs h).elim, fun rs h _ _ => (hno rs h).elim, fun rs h _ _ => (hno rs h).elim⟩
    ·have e := oW h1 h2 h3 (nV hj h3 (.inl h4))
     subst e
     rw [h1] at h3; cases h3; exact ⟨rfl, rfl⟩
    ·have e := oW h1 h2 h3 (nV hj h3 (.inr h5))
     subst e
     rw [hn] at h4; cases h4
   exact ⟨_, pH s qs, iU s x _ (pH s qs) hB he hB.w.pid rfl hl2 ho, hB.w.pid, .inr ⟨rfl, _, rfl⟩⟩
  ·rw [if_neg hn] at hsn
   have hz : (aI qs x.l[k].b (-1)).2 ≠ 0 := by
    intro h0
    rw [if_neg (by simpa using h0)] at hsn; cases hsn
   have hn : eL x x.l[k] = false := by simpa using hn
   have ho : SdOut s x (gY (aHj (aI qs x.l[k].b (-1)).2)) (pH s qs) := by
    refine ⟨fun j hj rs h3 h4 => ?_, fun j hj rs h3 h4 h5 => ?_, fun rs h _ => (hno rs h).elim, fun rs h _ _ => (hno rs h).elim, fun rs h _ _ => (hno rs h).elim⟩
    ·have e := oW h1 h2 h3 (nV hj h3 (.inl h4))
     subst e
     rw [hn] at h4; cases h4
    ·have e := oW h1 h2 h3 (nV hj h3 (.inr h5))
     subst e
     rw [h1] at h3; cases h3; exact ⟨rfl, rfl⟩
   exact ⟨_, pH s qs, iU s x _ (pH s qs) hB he hB.w.pid rfl hl2 ho, hB.w.pid, .inr ⟨rfl, _, rfl⟩⟩
 | some qs =>
  have hb1 : ∀ (j : Nat) (hj : j < x.l.length) (rs : List ProdD), bK x s.p.prods (x.l.take j) = some rs → (eL x x.l[j] = true ∨ (aI rs x.l[j].b (-1)).2 ≠ 0) → False := fun j hj rs h3 h4 => by
   have := aAb (nV hj h3 h4)
   rw [hq] at this; cases this
  have heq : ∀ rs, bK x s.p.prods x.l = some rs → rs = qs := fun rs h => by rw [hq] at h; cases h; rfl
  dsimp only
  by_cases hm : x.l.length ≤ (cD s.w x.pid).length
  ·rw [if_pos hm]
   have ho : SdOut s x (gY aUi) (pH s qs) := ⟨fun j hj rs h3 h4 => (hb1 j hj rs h3 (.inl h4)).elim, fun j hj rs h3 h4 h5 => (hb1 j hj rs h3 (.inr h5)).elim, fun rs h _ => by rw [heq rs h]; exact ⟨rfl, rfl⟩, fun rs h h5 => by omega, fun rs h h5 => by omega⟩
   exact ⟨_, pH s qs, iU s x _ (pH s qs) hB he hB.w.pid rfl hl2 ho, hB.w.pid, .inr ⟨rfl, _, rfl⟩⟩
  rw [if_neg hm]
  by_cases ht : cD s.w x.pid ≠ (x.l.map (·.b)).take (cD s.w x.pid).length
  ·rw [if_pos ht]
   have ho : SdOut s x (gY aUj) (pH s qs) := ⟨fun j hj rs h3 h4 => (hb1 j hj rs h3 (.inl h4)).elim, fun j hj rs h3 h4 h5 => (hb1 j hj rs h3 (.inr h5)).elim, fun rs h h5 => by omega, fun rs h _ _ => by rw [heq rs h]; exact ⟨rfl, rfl⟩, fun rs h _ h5 => (ht h5).elim⟩
   exact ⟨_, pH s qs, iU s x _ (pH s qs) hB he hB.w.pid rfl hl2 ho, hB.w.pid, .inr ⟨rfl, _, rfl⟩⟩
  ·rw [if_neg ht]
   have ho : SdOut s x kD (sdT s x qs) := ⟨fun j hj rs h3 h4 => (hb1 j hj rs h3 (.inl h4)).elim, fun j hj rs h3 h4 h5 => (hb1 j hj rs h3 (.inr h5)).elim, fun rs h h5 => by omega, fun rs h _ h5 => (ht h5).elim, fun rs h _ _ => by rw [heq rs h]; exact ⟨rfl, rfl⟩⟩
   exact ⟨_, sdT s x qs, iU s x _ (sdT s x qs) hB he (lB hB.w.pid x.pid) rfl hl2 ho, lB hB.w.pid x.pid, .inl ⟨rfl, rfl, hB.v⟩⟩
end Go.Proofs.YtpklhnpchhaccaaGreatDoor
