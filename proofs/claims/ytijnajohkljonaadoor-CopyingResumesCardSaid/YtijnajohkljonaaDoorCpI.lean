/- Layer 15's statements: CopyingEnds. -/
import Derived.Test.YtijnajohkljonaaDoorCpH0
namespace Go.Proofs.YtijnajohkljonaaDoor
open Go Go.RowKit
set_option maxHeartbeats 8000000
set_option maxRecDepth 100000
set_option linter.unusedVariables false
set_option linter.unusedSimpArgs false
theorem okO_at {o : OpenD} (h : okO o = true) {i : Nat} {b : BatD} (hb : o.bats[i]? = some b) : b.pid = o.pid ∧ b.epoch = o.epoch := by
  cases hbad : badAt o i b with
  | true => rw [okO_bad hb hbad] at h; cases h
  | false =>
    simp only [badAt, Bool.or_eq_false_iff, bne_eq_false_iff_eq] at hbad
    exact ⟨hbad.1.1.2, hbad.1.2⟩
theorem cpL_get {o : OpenD} {i : Nat} {b : BatD} (hb : o.bats[i]? = some b) : (cpL o)[i]? = some (copyE o i b) := by
  simp [cpL, mkL, hb]
theorem cpL_last {o : OpenD} (h : okO o = true) : ∃ L b, cpL o = L ++ [⟨3, b, true, lastF o, 0, rowZ, prodZ⟩] ∧ b.pid = o.pid ∧ b.epoch = o.epoch := by
  obtain ⟨hp, _⟩ := okO_pos h
  have hb : o.bats[o.bats.length - 1]? = some (o.bats[o.bats.length - 1]'(by omega)) := List.getElem?_eq_getElem (by omega)
  have hk := mkL_take o.bats (copyE o) (o.bats.length - 1) (by omega)
  obtain ⟨h1, h2⟩ := okO_at h hb
  generalize o.bats[o.bats.length - 1]'(by omega) = b at *
  refine ⟨(cpL o).take (o.bats.length - 1), b, ?_, h1, h2⟩
  have he : copyE o (o.bats.length - 1) b = ⟨3, b, true, lastF o, 0, rowZ, prodZ⟩ := by
    unfold copyE; rw [if_pos (by omega)]
  rw [← he]
  unfold cpL
  rw [← hk, List.take_of_length_le (by rw [mkL_len]; omega)]
theorem now_end {o : OpenD} (hok : okO o = true) (L : List EntD) (e : EntD) (h1 : endB e o.pid = true) (h2 : e.b.epoch = o.epoch) (h3 : e.next = lastF o) :
    overF (L ++ [e]) o = true ∧ standF (L ++ [e]) o.pid o.epoch = 0 ∧ leftF (L ++ [e]) o = ([], 0) := by
  have hh : hitB o e = true := by simp only [hitB, h1, h2, h3, beq_self_eq_true, Bool.and_self]
  have ho : overF (L ++ [e]) o = true := by simp only [overF, List.any_append, List.any_cons, hh, Bool.true_or, Bool.or_true]
  refine ⟨ho, ?_, by simp only [leftF, hok, ho, if_true]⟩
  simp only [standF, standR, List.reverse_append, List.reverse_cons, List.reverse_nil, List.nil_append, List.singleton_append, List.takeWhile_cons, h1, Bool.not_true, Bool.false_eq_true, if_false, List.countP_nil]
theorem ends_copies {o : OpenD} (hok : okO o = true) (main : List EntD) : overF (main ++ cpL o) o = true ∧ standF (main ++ cpL o) o.pid o.epoch = 0 ∧ leftF (main ++ cpL o) o = ([], 0) := by
  obtain ⟨L, b, hL, h1, h2⟩ := cpL_last hok
  rw [hL, ← List.append_assoc]
  refine now_end hok _ _ ?_ h2 rfl
  simp [endB, h1]
theorem ends_drop {o : OpenD} (hok : okO o = true) (main : List EntD) : overF (main ++ [dropE o]) o = true ∧ standF (main ++ [dropE o]) o.pid o.epoch = 0 ∧ leftF (main ++ [dropE o]) o = ([], 0) := by
  refine now_end hok _ _ ?_ rfl rfl
  simp [endB, dropE]
theorem copyingEnds_fun (main : List EntD) (o : OpenD) (yes : Bool) : Fun Tryd.prog 14 [.lst 18 (main.map EntD.dv), .agg o.dv, boo yes] (boo true) := by
  have g1 := gAll_fun main
  have g2 := gOpen_fun o
  have w1 := wakes15_fun
  simp only [OpenD.dv] at g2
  (refine Fun.of_body Tryd.func14 rfl rfl Tryd.ntmps14 Tryd.results14 (by simp) ?_)
  cases q1 : gAll main with
  | true =>
    rw [q1] at g1
    (repeat (first | refine Wp.skip ?_ | refine Wp.exit ?_ | refine Wp.ret ?_ | refine Wp.block ?_ | refine Wp.label ?_ | ((first | (first | refine Wp.sreg (fun K hK => ?_) | refine Wp.reg (fun K hK => ?_) | refine Wp.sdrw mixed (fun K hK => ?_) | refine Wp.drw mixed (fun K hK => ?_)) | refine Wp.condG (fun K hT hF => ?_)); (repeat ((first | (have hX := hK; clear hX) | (have hX := hT; clear hX)); simp (maxSteps := 2000000) (disch := omega) only [RUN, TY, bops, bgd, bgo, bres, bdst, guardB, aop, evalS, ofV, SV.ofD, Res.pure, aAlloc, aBox, aLoad, aStore, ldv, aField, aPart, aIndexAddr, aLen, aSlice, aBuild, aBuildSlice, afill, placeS, aIface, aMakeFunc, aExtract, aMakeSlice, abuiltin, aAppend, SV.exact, CV.exact, SV.nat, CV.lstOf, CV.lenOf, SV.cells, CV.one, D.one, Value.oneCell', mapO, CV.toD0, CV.toD, SV.toD, splice, chunk, zrow, onat, isFull, capD, ownId, ptrLike, nilD, retV, retD, bodyQ, thenQ, blockQ, dsts, reduceCtorEq, reduceIte, if_true, if_false, ite_true, ite_false, Nat.reduceBEq, Nat.reduceEqDiff, Nat.reduceAdd, Nat.reduceMul, Nat.reduceSub, Nat.reduceLT, Nat.reduceLeDiff, Nat.reduceBNe, Int.reduceLE, Int.reduceLT, Int.reduceBEq, Int.reduceBNe, Int.reduceEq, Int.reduceNeg, Int.reduceAdd, Int.reduceSub, Int.reduceToNat, ne_eq, true_implies, false_implies, forall_const, implies_true, exists_eq_left, exists_eq_left', eq_self, undef, eqL, eqH, toNat_k1, nonneg_k1, Int.add_sub_cancel, Int.cast_ofNat_Int, entryY_env, entryY_H, entryY_nx, entryY_sz, entryY_fx, ofHB_cons, ofHB_nil, rb_upd, baseIs_upd, setP_cons, setP_nil, roundS, afterS, fxR, OpenD.dv]; (first | (first | (refine hK _ ?_; clear hK K) | (refine ⟨by kernel_rfl, hK _ ?_⟩; clear hK K) | (refine hT ?_; clear hT hF K) | (refine hF ?_; clear hT hF K)) | refine bcall_f (by assumption) ?_ | refine bcall_a (by assumption) ?_))); fail_if_success (first | (have hX := hK; clear hX) | (have hX := hT; clear hX))) | refine Wp.seq ?_))
    simp (maxSteps := 2000000) (disch := omega) only [RUN, TY, bops, bgd, bgo, bres, bdst, guardB, aop, evalS, ofV, SV.ofD, Res.pure, aAlloc, aBox, aLoad, aStore, ldv, aField, aPart, aIndexAddr, aLen, aSlice, aBuild, aBuildSlice, afill, placeS, aIface, aMakeFunc, aExtract, aMakeSlice, abuiltin, aAppend, SV.exact, CV.exact, SV.nat, CV.lstOf, CV.lenOf, SV.cells, CV.one, D.one, Value.oneCell', mapO, CV.toD0, CV.toD, SV.toD, splice, chunk, zrow, onat, isFull, capD, ownId, ptrLike, nilD, retV, retD, bodyQ, thenQ, blockQ, dsts, reduceCtorEq, reduceIte, if_true, if_false, ite_true, ite_false, Nat.reduceBEq, Nat.reduceEqDiff, Nat.reduceAdd, Nat.reduceMul, Nat.reduceSub, Nat.reduceLT, Nat.reduceLeDiff, Nat.reduceBNe, Int.reduceLE, Int.reduceLT, Int.reduceBEq, Int.reduceBNe, Int.reduceEq, Int.reduceNeg, Int.reduceAdd, Int.reduceSub, Int.reduceToNat, ne_eq, true_implies, false_implies, forall_const, implies_true, exists_eq_left, exists_eq_left', eq_self, undef, eqL, eqH, toNat_k1, nonneg_k1, Int.add_sub_cancel, Int.cast_ofNat_Int, entryY_env, entryY_H, entryY_nx, entryY_sz, entryY_fx, ofHB_cons, ofHB_nil, rb_upd, baseIs_upd, setP_cons, setP_nil, roundS, afterS, fxR]
  | false =>
  rw [q1] at g1
  cases q2 : gOpen o with
  | true =>
    rw [q2] at g2
    (repeat (first | refine Wp.skip ?_ | refine Wp.exit ?_ | refine Wp.ret ?_ | refine Wp.block ?_ | refine Wp.label ?_ | ((first | (first | refine Wp.sreg (fun K hK => ?_) | refine Wp.reg (fun K hK => ?_) | refine Wp.sdrw mixed (fun K hK => ?_) | refine Wp.drw mixed (fun K hK => ?_)) | refine Wp.condG (fun K hT hF => ?_)); (repeat ((first | (have hX := hK; clear hX) | (have hX := hT; clear hX)); simp (maxSteps := 2000000) (disch := omega) only [RUN, TY, bops, bgd, bgo, bres, bdst, guardB, aop, evalS, ofV, SV.ofD, Res.pure, aAlloc, aBox, aLoad, aStore, ldv, aField, aPart, aIndexAddr, aLen, aSlice, aBuild, aBuildSlice, afill, placeS, aIface, aMakeFunc, aExtract, aMakeSlice, abuiltin, aAppend, SV.exact, CV.exact, SV.nat, CV.lstOf, CV.lenOf, SV.cells, CV.one, D.one, Value.oneCell', mapO, CV.toD0, CV.toD, SV.toD, splice, chunk, zrow, onat, isFull, capD, ownId, ptrLike, nilD, retV, retD, bodyQ, thenQ, blockQ, dsts, reduceCtorEq, reduceIte, if_true, if_false, ite_true, ite_false, Nat.reduceBEq, Nat.reduceEqDiff, Nat.reduceAdd, Nat.reduceMul, Nat.reduceSub, Nat.reduceLT, Nat.reduceLeDiff, Nat.reduceBNe, Int.reduceLE, Int.reduceLT, Int.reduceBEq, Int.reduceBNe, Int.reduceEq, Int.reduceNeg, Int.reduceAdd, Int.reduceSub, Int.reduceToNat, ne_eq, true_implies, false_implies, forall_const, implies_true, exists_eq_left, exists_eq_left', eq_self, undef, eqL, eqH, toNat_k1, nonneg_k1, Int.add_sub_cancel, Int.cast_ofNat_Int, entryY_env, entryY_H, entryY_nx, entryY_sz, entryY_fx, ofHB_cons, ofHB_nil, rb_upd, baseIs_upd, setP_cons, setP_nil, roundS, afterS, fxR, OpenD.dv]; (first | (first | (refine hK _ ?_; clear hK K) | (refine ⟨by kernel_rfl, hK _ ?_⟩; clear hK K) | (refine hT ?_; clear hT hF K) | (refine hF ?_; clear hT hF K)) | refine bcall_f (by assumption) ?_ | refine bcall_a (by assumption) ?_))); fail_if_success (first | (have hX := hK; clear hX) | (have hX := hT; clear hX))) | refine Wp.seq ?_))
    simp (maxSteps := 2000000) (disch := omega) only [RUN, TY, bops, bgd, bgo, bres, bdst, guardB, aop, evalS, ofV, SV.ofD, Res.pure, aAlloc, aBox, aLoad, aStore, ldv, aField, aPart, aIndexAddr, aLen, aSlice, aBuild, aBuildSlice, afill, placeS, aIface, aMakeFunc, aExtract, aMakeSlice, abuiltin, aAppend, SV.exact, CV.exact, SV.nat, CV.lstOf, CV.lenOf, SV.cells, CV.one, D.one, Value.oneCell', mapO, CV.toD0, CV.toD, SV.toD, splice, chunk, zrow, onat, isFull, capD, ownId, ptrLike, nilD, retV, retD, bodyQ, thenQ, blockQ, dsts, reduceCtorEq, reduceIte, if_true, if_false, ite_true, ite_false, Nat.reduceBEq, Nat.reduceEqDiff, Nat.reduceAdd, Nat.reduceMul, Nat.reduceSub, Nat.reduceLT, Nat.reduceLeDiff, Nat.reduceBNe, Int.reduceLE, Int.reduceLT, Int.reduceBEq, Int.reduceBNe, Int.reduceEq, Int.reduceNeg, Int.reduceAdd, Int.reduceSub, Int.reduceToNat, ne_eq, true_implies, false_implies, forall_const, implies_true, exists_eq_left, exists_eq_left', eq_self, undef, eqL, eqH, toNat_k1, nonneg_k1, Int.add_sub_cancel, Int.cast_ofNat_Int, entryY_env, entryY_H, entryY_nx, entryY_sz, entryY_fx, ofHB_cons, ofHB_nil, rb_upd, baseIs_upd, setP_cons, setP_nil, roundS, afterS, fxR]
  | false =>
  rw [q2] at g2
  have hs := gOpen_small q2
  obtain ⟨hl, hse⟩ := gAll_small q1
  have k1 := copies_fun o hs
  have d1 := drop_fun o hs
  cases hok : okO o with
  | false =>
    have e1 : cpF o = ([], 2) := by simp only [cpF, hok]; rfl
    have e2 : dropF o = (entZ, 2) := by simp only [dropF, hok]; rfl
    rw [e1] at k1
    rw [e2] at d1
    simp only [OpenD.dv, EntD.dv, List.map_nil] at k1 d1
    (repeat (first | refine Wp.skip ?_ | refine Wp.exit ?_ | refine Wp.ret ?_ | refine Wp.block ?_ | refine Wp.label ?_ | ((first | (first | refine Wp.sreg (fun K hK => ?_) | refine Wp.reg (fun K hK => ?_) | refine Wp.sdrw mixed (fun K hK => ?_) | refine Wp.drw mixed (fun K hK => ?_)) | refine Wp.condG (fun K hT hF => ?_)); (repeat ((first | (have hX := hK; clear hX) | (have hX := hT; clear hX)); simp (maxSteps := 2000000) (disch := omega) only [RUN, TY, bops, bgd, bgo, bres, bdst, guardB, aop, evalS, ofV, SV.ofD, Res.pure, aAlloc, aBox, aLoad, aStore, ldv, aField, aPart, aIndexAddr, aLen, aSlice, aBuild, aBuildSlice, afill, placeS, aIface, aMakeFunc, aExtract, aMakeSlice, abuiltin, aAppend, SV.exact, CV.exact, SV.nat, CV.lstOf, CV.lenOf, SV.cells, CV.one, D.one, Value.oneCell', mapO, CV.toD0, CV.toD, SV.toD, splice, chunk, zrow, onat, isFull, capD, ownId, ptrLike, nilD, retV, retD, bodyQ, thenQ, blockQ, dsts, reduceCtorEq, reduceIte, if_true, if_false, ite_true, ite_false, Nat.reduceBEq, Nat.reduceEqDiff, Nat.reduceAdd, Nat.reduceMul, Nat.reduceSub, Nat.reduceLT, Nat.reduceLeDiff, Nat.reduceBNe, Int.reduceLE, Int.reduceLT, Int.reduceBEq, Int.reduceBNe, Int.reduceEq, Int.reduceNeg, Int.reduceAdd, Int.reduceSub, Int.reduceToNat, ne_eq, true_implies, false_implies, forall_const, implies_true, exists_eq_left, exists_eq_left', eq_self, undef, eqL, eqH, toNat_k1, nonneg_k1, Int.add_sub_cancel, Int.cast_ofNat_Int, entryY_env, entryY_H, entryY_nx, entryY_sz, entryY_fx, ofHB_cons, ofHB_nil, rb_upd, baseIs_upd, setP_cons, setP_nil, roundS, afterS, fxR, OpenD.dv, EntD.dv]; (first | (first | (refine hK _ ?_; clear hK K) | (refine ⟨by kernel_rfl, hK _ ?_⟩; clear hK K) | (refine hT ?_; clear hT hF K) | (refine hF ?_; clear hT hF K)) | refine bcall_f (by assumption) ?_ | refine bcall_a (by assumption) ?_))); fail_if_success (first | (have hX := hK; clear hX) | (have hX := hT; clear hX))) | refine Wp.seq ?_))
    simp (maxSteps := 2000000) (disch := omega) only [RUN, TY, bops, bgd, bgo, bres, bdst, guardB, aop, evalS, ofV, SV.ofD, Res.pure, aAlloc, aBox, aLoad, aStore, ldv, aField, aPart, aIndexAddr, aLen, aSlice, aBuild, aBuildSlice, afill, placeS, aIface, aMakeFunc, aExtract, aMakeSlice, abuiltin, aAppend, SV.exact, CV.exact, SV.nat, CV.lstOf, CV.lenOf, SV.cells, CV.one, D.one, Value.oneCell', mapO, CV.toD0, CV.toD, SV.toD, splice, chunk, zrow, onat, isFull, capD, ownId, ptrLike, nilD, retV, retD, bodyQ, thenQ, blockQ, dsts, reduceCtorEq, reduceIte, if_true, if_false, ite_true, ite_false, Nat.reduceBEq, Nat.reduceEqDiff, Nat.reduceAdd, Nat.reduceMul, Nat.reduceSub, Nat.reduceLT, Nat.reduceLeDiff, Nat.reduceBNe, Int.reduceLE, Int.reduceLT, Int.reduceBEq, Int.reduceBNe, Int.reduceEq, Int.reduceNeg, Int.reduceAdd, Int.reduceSub, Int.reduceToNat, ne_eq, true_implies, false_implies, forall_const, implies_true, exists_eq_left, exists_eq_left', eq_self, undef, eqL, eqH, toNat_k1, nonneg_k1, Int.add_sub_cancel, Int.cast_ofNat_Int, entryY_env, entryY_H, entryY_nx, entryY_sz, entryY_fx, ofHB_cons, ofHB_nil, rb_upd, baseIs_upd, setP_cons, setP_nil, roundS, afterS, fxR]
  | true =>
    have e1 : cpF o = (cpL o, 0) := by simp only [cpF, hok]; rfl
    have e2 : dropF o = (dropE o, 0) := by simp only [dropF, hok]; rfl
    rw [e1] at k1
    rw [e2] at d1
    have hcl := cpL_len o
    have hbl := hs.bats
    have hb1 : main.length * 192 ≤ 140737488355328 := by omega
    cases yes with
    | true =>
      obtain ⟨p1, p2, p3⟩ := ends_copies hok main
      have hb2 : (main.length + (cpL o).length) * 192 ≤ 140737488355328 := by omega
      have hn : (main ++ cpL o).length ≤ 100000 := by rw [List.length_append]; have := okO_pos hok; omega
      have l1 := left_fun15 (main ++ cpL o) o hn hs
      have v1 := Over_fun (main ++ cpL o) o hn hs
      have t1 := standing_fun (main ++ cpL o) o.pid o.epoch hn
      rw [p3] at l1
      rw [p1, hok] at v1
      rw [p2] at t1
      generalize cpL o = cp at *
      generalize dropE o = dp at *
      simp only [OpenD.dv, EntD.dv, List.map_append, List.map_nil, Bool.and_self, Int.natCast_zero] at k1 d1 l1 v1 t1
      (repeat (first | refine Wp.skip ?_ | refine Wp.exit ?_ | refine Wp.ret ?_ | refine Wp.block ?_ | refine Wp.label ?_ | ((first | (first | refine Wp.sreg (fun K hK => ?_) | refine Wp.reg (fun K hK => ?_) | refine Wp.sdrw mixed (fun K hK => ?_) | refine Wp.drw mixed (fun K hK => ?_)) | refine Wp.condG (fun K hT hF => ?_)); (repeat ((first | (have hX := hK; clear hX) | (have hX := hT; clear hX)); simp (maxSteps := 2000000) (disch := omega) only [RUN, TY, bops, bgd, bgo, bres, bdst, guardB, aop, evalS, ofV, SV.ofD, Res.pure, aAlloc, aBox, aLoad, aStore, ldv, aField, aPart, aIndexAddr, aLen, aSlice, aBuild, aBuildSlice, afill, placeS, aIface, aMakeFunc, aExtract, aMakeSlice, abuiltin, aAppend, SV.exact, CV.exact, SV.nat, CV.lstOf, CV.lenOf, SV.cells, CV.one, D.one, Value.oneCell', mapO, CV.toD0, CV.toD, SV.toD, splice, chunk, zrow, onat, isFull, capD, ownId, ptrLike, nilD, retV, retD, bodyQ, thenQ, blockQ, dsts, reduceCtorEq, reduceIte, if_true, if_false, ite_true, ite_false, Nat.reduceBEq, Nat.reduceEqDiff, Nat.reduceAdd, Nat.reduceMul, Nat.reduceSub, Nat.reduceLT, Nat.reduceLeDiff, Nat.reduceBNe, Int.reduceLE, Int.reduceLT, Int.reduceBEq, Int.reduceBNe, Int.reduceEq, Int.reduceNeg, Int.reduceAdd, Int.reduceSub, Int.reduceToNat, ne_eq, true_implies, false_implies, forall_const, implies_true, exists_eq_left, exists_eq_left', eq_self, undef, eqL, eqH, toNat_k1, nonneg_k1, Int.add_sub_cancel, Int.cast_ofNat_Int, entryY_env, entryY_H, entryY_nx, entryY_sz, entryY_fx, ofHB_cons, ofHB_nil, rb_upd, baseIs_upd, setP_cons, setP_nil, roundS, afterS, fxR, OpenD.dv, EntD.dv, bne_self_eq_false, beq_self_eq_true, hb1, hb2, List.nil_append]; (first | (first | (refine hK _ ?_; clear hK K) | (refine ⟨by kernel_rfl, hK _ ?_⟩; clear hK K) | (refine hT ?_; clear hT hF K) | (refine hF ?_; clear hT hF K)) | refine bcall_f (by assumption) ?_ | refine bcall_a (by assumption) ?_))); fail_if_success (first | (have hX := hK; clear hX) | (have hX := hT; clear hX))) | refine Wp.seq ?_))
      simp (maxSteps := 2000000) (disch := omega) only [RUN, TY, bops, bgd, bgo, bres, bdst, guardB, aop, evalS, ofV, SV.ofD, Res.pure, aAlloc, aBox, aLoad, aStore, ldv, aField, aPart, aIndexAddr, aLen, aSlice, aBuild, aBuildSlice, afill, placeS, aIface, aMakeFunc, aExtract, aMakeSlice, abuiltin, aAppend, SV.exact, CV.exact, SV.nat, CV.lstOf, CV.lenOf, SV.cells, CV.one, D.one, Value.oneCell', mapO, CV.toD0, CV.toD, SV.toD, splice, chunk, zrow, onat, isFull, capD, ownId, ptrLike, nilD, retV, retD, bodyQ, thenQ, blockQ, dsts, reduceCtorEq, reduceIte, if_true, if_false, ite_true, ite_false, Nat.reduceBEq, Nat.reduceEqDiff, Nat.reduceAdd, Nat.reduceMul, Nat.reduceSub, Nat.reduceLT, Nat.reduceLeDiff, Nat.reduceBNe, Int.reduceLE, Int.reduceLT, Int.reduceBEq, Int.reduceBNe, Int.reduceEq, Int.reduceNeg, Int.reduceAdd, Int.reduceSub, Int.reduceToNat, ne_eq, true_implies, false_implies, forall_const, implies_true, exists_eq_left, exists_eq_left', eq_self, undef, eqL, eqH, toNat_k1, nonneg_k1, Int.add_sub_cancel, Int.cast_ofNat_Int, entryY_env, entryY_H, entryY_nx, entryY_sz, entryY_fx, ofHB_cons, ofHB_nil, rb_upd, baseIs_upd, setP_cons, setP_nil, roundS, afterS, fxR]
    | false =>
      obtain ⟨p1, p2, p3⟩ := ends_drop hok main
      have hb2 : (main.length + (cpL o).length) * 192 ≤ 140737488355328 := by omega
      have hb3 : (main.length + 1) * 192 ≤ 140737488355328 := by omega
      have hn : (main ++ [dropE o]).length ≤ 100000 := by rw [List.length_append, List.length_singleton]; omega
      have l1 := left_fun15 (main ++ [dropE o]) o hn hs
      have v1 := Over_fun (main ++ [dropE o]) o hn hs
      have t1 := standing_fun (main ++ [dropE o]) o.pid o.epoch hn
      rw [p3] at l1
      rw [p1, hok] at v1
      rw [p2] at t1
      generalize cpL o = cp at *
      generalize dropE o = dp at *
      simp only [OpenD.dv, EntD.dv, List.map_append, List.map_nil, List.map_cons, Bool.and_self, Int.natCast_zero] at k1 d1 l1 v1 t1
      (repeat (first | refine Wp.skip ?_ | refine Wp.exit ?_ | refine Wp.ret ?_ | refine Wp.block ?_ | refine Wp.label ?_ | ((first | (first | refine Wp.sreg (fun K hK => ?_) | refine Wp.reg (fun K hK => ?_) | refine Wp.sdrw mixed (fun K hK => ?_) | refine Wp.drw mixed (fun K hK => ?_)) | refine Wp.condG (fun K hT hF => ?_)); (repeat ((first | (have hX := hK; clear hX) | (have hX := hT; clear hX)); simp (maxSteps := 2000000) (disch := omega) only [RUN, TY, bops, bgd, bgo, bres, bdst, guardB, aop, evalS, ofV, SV.ofD, Res.pure, aAlloc, aBox, aLoad, aStore, ldv, aField, aPart, aIndexAddr, aLen, aSlice, aBuild, aBuildSlice, afill, placeS, aIface, aMakeFunc, aExtract, aMakeSlice, abuiltin, aAppend, SV.exact, CV.exact, SV.nat, CV.lstOf, CV.lenOf, SV.cells, CV.one, D.one, Value.oneCell', mapO, CV.toD0, CV.toD, SV.toD, splice, chunk, zrow, onat, isFull, capD, ownId, ptrLike, nilD, retV, retD, bodyQ, thenQ, blockQ, dsts, reduceCtorEq, reduceIte, if_true, if_false, ite_true, ite_false, Nat.reduceBEq, Nat.reduceEqDiff, Nat.reduceAdd, Nat.reduceMul, Nat.reduceSub, Nat.reduceLT, Nat.reduceLeDiff, Nat.reduceBNe, Int.reduceLE, Int.reduceLT, Int.reduceBEq, Int.reduceBNe, Int.reduceEq, Int.reduceNeg, Int.reduceAdd, Int.reduceSub, Int.reduceToNat, ne_eq, true_implies, false_implies, forall_const, implies_true, exists_eq_left, exists_eq_left', eq_self, undef, eqL, eqH, toNat_k1, nonneg_k1, Int.add_sub_cancel, Int.cast_ofNat_Int, entryY_env, entryY_H, entryY_nx, entryY_sz, entryY_fx, ofHB_cons, ofHB_nil, rb_upd, baseIs_upd, setP_cons, setP_nil, roundS, afterS, fxR, OpenD.dv, EntD.dv, bne_self_eq_false, beq_self_eq_true, hb1, hb2, hb3, List.nil_append]; (first | (first | (refine hK _ ?_; clear hK K) | (refine ⟨by kernel_rfl, hK _ ?_⟩; clear hK K) | (refine hT ?_; clear hT hF K) | (refine hF ?_; clear hT hF K)) | refine bcall_f (by assumption) ?_ | refine bcall_a (by assumption) ?_))); fail_if_success (first | (have hX := hK; clear hX) | (have hX := hT; clear hX))) | refine Wp.seq ?_))
      simp (maxSteps := 2000000) (disch := omega) only [RUN, TY, bops, bgd, bgo, bres, bdst, guardB, aop, evalS, ofV, SV.ofD, Res.pure, aAlloc, aBox, aLoad, aStore, ldv, aField, aPart, aIndexAddr, aLen, aSlice, aBuild, aBuildSlice, afill, placeS, aIface, aMakeFunc, aExtract, aMakeSlice, abuiltin, aAppend, SV.exact, CV.exact, SV.nat, CV.lstOf, CV.lenOf, SV.cells, CV.one, D.one, Value.oneCell', mapO, CV.toD0, CV.toD, SV.toD, splice, chunk, zrow, onat, isFull, capD, ownId, ptrLike, nilD, retV, retD, bodyQ, thenQ, blockQ, dsts, reduceCtorEq, reduceIte, if_true, if_false, ite_true, ite_false, Nat.reduceBEq, Nat.reduceEqDiff, Nat.reduceAdd, Nat.reduceMul, Nat.reduceSub, Nat.reduceLT, Nat.reduceLeDiff, Nat.reduceBNe, Int.reduceLE, Int.reduceLT, Int.reduceBEq, Int.reduceBNe, Int.reduceEq, Int.reduceNeg, Int.reduceAdd, Int.reduceSub, Int.reduceToNat, ne_eq, true_implies, false_implies, forall_const, implies_true, exists_eq_left, exists_eq_left', eq_self, undef, eqL, eqH, toNat_k1, nonneg_k1, Int.add_sub_cancel, Int.cast_ofNat_Int, entryY_env, entryY_H, entryY_nx, entryY_sz, entryY_fx, ofHB_cons, ofHB_nil, rb_upd, baseIs_upd, setP_cons, setP_nil, roundS, afterS, fxR]
end Go.Proofs.YtijnajohkljonaaDoor
