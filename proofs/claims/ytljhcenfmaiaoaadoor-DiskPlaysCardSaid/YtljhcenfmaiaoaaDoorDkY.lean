/- DiskTells. -/
import Derived.Test.YtljhcenfmaiaoaaDoorDkX
import Derived.Test.YtljhcenfmaiaoaaDoorDkW2
import Derived.Test.YtljhcenfmaiaoaaDoorDkJ0
import Derived.Test.YtljhcenfmaiaoaaDoorDkL0
namespace Go.Proofs.YtljhcenfmaiaoaaDoor
open Go Go.RowKit
set_option maxHeartbeats 8000000
set_option maxRecDepth 100000
set_option linter.unusedVariables false
set_option linter.unusedSimpArgs false
theorem same_self (s : DiskS) : sameB s s = true := by simp [sameB]
theorem do_len (s : DiskS) (w : WriteD) (hs : Small s.fs) : (doF s w).1.fs.length ≤ 2000 := by
  have hl := hs.1
  unfold doF
  split
  · simp
  split
  · simp
  split
  · simp only; omega
  split
  · simp
  · have := @len_with s.fs w.file (afterF (fileAt s.fs w.file) w)
    have h1 : (if isAt s.fs w.file = true then 0 else 1) ≤ 1 := by split <;> simp
    simp only; omega
theorem arm_len (s : DiskS) (n : Int) (hs : Small s.fs) : (armF s n).1.fs.length ≤ 2000 := by
  have hl := hs.1
  unfold armF
  split
  · simp only; omega
  · simp
theorem crash_len (s : DiskS) (keep : List Int) (hs : Small s.fs) : (crashF s keep).1.fs.length ≤ 2000 := by
  have hl := hs.1
  have := crashT_len s.fs keep s.fs.length
  unfold crashF
  split
  · simp only; omega
  · simp
theorem new_len (n : Int) : (newF n).1.fs.length ≤ 2000 := by
  unfold newF
  split <;> simp
theorem getV_is (fs : List FileD) (nm : List UInt8) : ∃ (a b : List UInt8) (c : Int) (ok : Bool), getV fs nm = .tup [.agg [str a, str b, int c], boo ok] := by
  unfold getV
  split
  · rename_i f _; exact ⟨f.name, f.b, f.sure, true, rfl⟩
  · exact ⟨[], [], 0, false, rfl⟩
theorem tells_fun (s o : DiskS) (w : WriteD) (n : Int) (keep : List Int) (name : List UInt8) (hle : s.left ≤ 9223372036854775807) : Fun Tryd.prog 8 [s.d, o.d, .agg w.dv, int n, keepD keep, str name] (boo true) := by
  obtain ⟨fs, cap, left, down⟩ := s
  obtain ⟨gs, cap', left', down'⟩ := o
  simp only at hle
  have hwk := wakes_fun
  have hgr := great_fun fs cap left down
  have hgo := great_fun gs cap' left' down'
  have hgw := greatWrites_fun [w]
  cases hg : greatD fs with
  | true =>
    rw [hg] at hgr
    (refine Fun.of_body Tryd.func8 rfl rfl Tryd.ntmps8 Tryd.results8 (by simp) ?_)
    (repeat (first | refine Wp.skip ?_ | refine Wp.exit ?_ | refine Wp.ret ?_ | refine Wp.block ?_ | refine Wp.label ?_ | ((first | (first | refine Wp.sreg (fun K hK => ?_) | refine Wp.reg (fun K hK => ?_) | refine Wp.sdrw mixed (fun K hK => ?_) | refine Wp.drw mixed (fun K hK => ?_)) | refine Wp.condG (fun K hT hF => ?_)); (repeat ((first | (have hX := hK; clear hX) | (have hX := hT; clear hX)); simp (maxSteps := 2000000) (disch := omega) only [RUN, TY, bops, bgd, bgo, bres, bdst, guardB, aop, evalS, ofV, SV.ofD, Res.pure, aAlloc, aBox, aLoad, aStore, ldv, aField, aPart, aIndexAddr, aLen, aSlice, aBuild, aBuildSlice, afill, placeS, aIface, aMakeFunc, aExtract, abuiltin, aAppend, SV.exact, CV.exact, SV.nat, CV.lstOf, CV.lenOf, SV.cells, CV.one, D.one, Value.oneCell', mapO, CV.toD0, CV.toD, SV.toD, splice, chunk, zrow, onat, isFull, capD, ownId, ptrLike, nilD, retV, retD, bodyQ, thenQ, blockQ, dsts, reduceCtorEq, reduceIte, if_true, if_false, ite_true, ite_false, Nat.reduceBEq, Nat.reduceEqDiff, Nat.reduceAdd, Nat.reduceMul, Nat.reduceSub, Nat.reduceLT, Nat.reduceLeDiff, Nat.reduceBNe, Int.reduceLE, Int.reduceLT, Int.reduceBEq, Int.reduceBNe, Int.reduceEq, Int.reduceNeg, Int.reduceAdd, Int.reduceSub, Int.reduceToNat, ne_eq, true_implies, false_implies, forall_const, implies_true, exists_eq_left, exists_eq_left', eq_self, undef, eqL, eqH, WriteD.dv]; (first | (first | (refine hK _ ?_; clear hK K) | (refine ⟨by kernel_rfl, hK _ ?_⟩; clear hK K) | (refine hT ?_; clear hT hF K) | (refine hF ?_; clear hT hF K)) | refine bcall_f (by assumption) ?_))); fail_if_success (first | (have hX := hK; clear hX) | (have hX := hT; clear hX))) | refine Wp.seq ?_))
    simp (maxSteps := 2000000) (disch := omega) only [RUN, TY, bops, bgd, bgo, bres, bdst, guardB, aop, evalS, ofV, SV.ofD, Res.pure, aAlloc, aBox, aLoad, aStore, ldv, aField, aPart, aIndexAddr, aLen, aSlice, aBuild, aBuildSlice, afill, placeS, aIface, aMakeFunc, aExtract, abuiltin, aAppend, SV.exact, CV.exact, SV.nat, CV.lstOf, CV.lenOf, SV.cells, CV.one, D.one, Value.oneCell', mapO, CV.toD0, CV.toD, SV.toD, splice, chunk, zrow, onat, isFull, capD, ownId, ptrLike, nilD, retV, retD, bodyQ, thenQ, blockQ, dsts, reduceCtorEq, reduceIte, if_true, if_false, ite_true, ite_false, Nat.reduceBEq, Nat.reduceEqDiff, Nat.reduceAdd, Nat.reduceMul, Nat.reduceSub, Nat.reduceLT, Nat.reduceLeDiff, Nat.reduceBNe, Int.reduceLE, Int.reduceLT, Int.reduceBEq, Int.reduceBNe, Int.reduceEq, Int.reduceNeg, Int.reduceAdd, Int.reduceSub, Int.reduceToNat, ne_eq, true_implies, false_implies, forall_const, implies_true, exists_eq_left, exists_eq_left', eq_self, undef, eqL, eqH]
  | false =>
  rw [hg] at hgr
  cases hg2 : greatD gs with
  | true =>
    rw [hg2] at hgo
    (refine Fun.of_body Tryd.func8 rfl rfl Tryd.ntmps8 Tryd.results8 (by simp) ?_)
    (repeat (first | refine Wp.skip ?_ | refine Wp.exit ?_ | refine Wp.ret ?_ | refine Wp.block ?_ | refine Wp.label ?_ | ((first | (first | refine Wp.sreg (fun K hK => ?_) | refine Wp.reg (fun K hK => ?_) | refine Wp.sdrw mixed (fun K hK => ?_) | refine Wp.drw mixed (fun K hK => ?_)) | refine Wp.condG (fun K hT hF => ?_)); (repeat ((first | (have hX := hK; clear hX) | (have hX := hT; clear hX)); simp (maxSteps := 2000000) (disch := omega) only [RUN, TY, bops, bgd, bgo, bres, bdst, guardB, aop, evalS, ofV, SV.ofD, Res.pure, aAlloc, aBox, aLoad, aStore, ldv, aField, aPart, aIndexAddr, aLen, aSlice, aBuild, aBuildSlice, afill, placeS, aIface, aMakeFunc, aExtract, abuiltin, aAppend, SV.exact, CV.exact, SV.nat, CV.lstOf, CV.lenOf, SV.cells, CV.one, D.one, Value.oneCell', mapO, CV.toD0, CV.toD, SV.toD, splice, chunk, zrow, onat, isFull, capD, ownId, ptrLike, nilD, retV, retD, bodyQ, thenQ, blockQ, dsts, reduceCtorEq, reduceIte, if_true, if_false, ite_true, ite_false, Nat.reduceBEq, Nat.reduceEqDiff, Nat.reduceAdd, Nat.reduceMul, Nat.reduceSub, Nat.reduceLT, Nat.reduceLeDiff, Nat.reduceBNe, Int.reduceLE, Int.reduceLT, Int.reduceBEq, Int.reduceBNe, Int.reduceEq, Int.reduceNeg, Int.reduceAdd, Int.reduceSub, Int.reduceToNat, ne_eq, true_implies, false_implies, forall_const, implies_true, exists_eq_left, exists_eq_left', eq_self, undef, eqL, eqH, WriteD.dv]; (first | (first | (refine hK _ ?_; clear hK K) | (refine ⟨by kernel_rfl, hK _ ?_⟩; clear hK K) | (refine hT ?_; clear hT hF K) | (refine hF ?_; clear hT hF K)) | refine bcall_f (by assumption) ?_))); fail_if_success (first | (have hX := hK; clear hX) | (have hX := hT; clear hX))) | refine Wp.seq ?_))
    simp (maxSteps := 2000000) (disch := omega) only [RUN, TY, bops, bgd, bgo, bres, bdst, guardB, aop, evalS, ofV, SV.ofD, Res.pure, aAlloc, aBox, aLoad, aStore, ldv, aField, aPart, aIndexAddr, aLen, aSlice, aBuild, aBuildSlice, afill, placeS, aIface, aMakeFunc, aExtract, abuiltin, aAppend, SV.exact, CV.exact, SV.nat, CV.lstOf, CV.lenOf, SV.cells, CV.one, D.one, Value.oneCell', mapO, CV.toD0, CV.toD, SV.toD, splice, chunk, zrow, onat, isFull, capD, ownId, ptrLike, nilD, retV, retD, bodyQ, thenQ, blockQ, dsts, reduceCtorEq, reduceIte, if_true, if_false, ite_true, ite_false, Nat.reduceBEq, Nat.reduceEqDiff, Nat.reduceAdd, Nat.reduceMul, Nat.reduceSub, Nat.reduceLT, Nat.reduceLeDiff, Nat.reduceBNe, Int.reduceLE, Int.reduceLT, Int.reduceBEq, Int.reduceBNe, Int.reduceEq, Int.reduceNeg, Int.reduceAdd, Int.reduceSub, Int.reduceToNat, ne_eq, true_implies, false_implies, forall_const, implies_true, exists_eq_left, exists_eq_left', eq_self, undef, eqL, eqH]
  | false =>
  rw [hg2] at hgo
  cases hg3 : greatWs [w] with
  | true =>
    rw [hg3] at hgw
    (refine Fun.of_body Tryd.func8 rfl rfl Tryd.ntmps8 Tryd.results8 (by simp) ?_)
    (repeat (first | refine Wp.skip ?_ | refine Wp.exit ?_ | refine Wp.ret ?_ | refine Wp.block ?_ | refine Wp.label ?_ | ((first | (first | refine Wp.sreg (fun K hK => ?_) | refine Wp.reg (fun K hK => ?_) | refine Wp.sdrw mixed (fun K hK => ?_) | refine Wp.drw mixed (fun K hK => ?_)) | refine Wp.condG (fun K hT hF => ?_)); (repeat ((first | (have hX := hK; clear hX) | (have hX := hT; clear hX)); simp (maxSteps := 2000000) (disch := omega) only [RUN, TY, bops, bgd, bgo, bres, bdst, guardB, aop, evalS, ofV, SV.ofD, Res.pure, aAlloc, aBox, aLoad, aStore, ldv, aField, aPart, aIndexAddr, aLen, aSlice, aBuild, aBuildSlice, afill, placeS, aIface, aMakeFunc, aExtract, abuiltin, aAppend, SV.exact, CV.exact, SV.nat, CV.lstOf, CV.lenOf, SV.cells, CV.one, D.one, Value.oneCell', mapO, CV.toD0, CV.toD, SV.toD, splice, chunk, zrow, onat, isFull, capD, ownId, ptrLike, nilD, retV, retD, bodyQ, thenQ, blockQ, dsts, reduceCtorEq, reduceIte, if_true, if_false, ite_true, ite_false, Nat.reduceBEq, Nat.reduceEqDiff, Nat.reduceAdd, Nat.reduceMul, Nat.reduceSub, Nat.reduceLT, Nat.reduceLeDiff, Nat.reduceBNe, Int.reduceLE, Int.reduceLT, Int.reduceBEq, Int.reduceBNe, Int.reduceEq, Int.reduceNeg, Int.reduceAdd, Int.reduceSub, Int.reduceToNat, ne_eq, true_implies, false_implies, forall_const, implies_true, exists_eq_left, exists_eq_left', eq_self, undef, eqL, eqH, WriteD.dv]; (first | (first | (refine hK _ ?_; clear hK K) | (refine ⟨by kernel_rfl, hK _ ?_⟩; clear hK K) | (refine hT ?_; clear hT hF K) | (refine hF ?_; clear hT hF K)) | refine bcall_f (by assumption) ?_))); fail_if_success (first | (have hX := hK; clear hX) | (have hX := hT; clear hX))) | refine Wp.seq ?_))
    simp (maxSteps := 2000000) (disch := omega) only [RUN, TY, bops, bgd, bgo, bres, bdst, guardB, aop, evalS, ofV, SV.ofD, Res.pure, aAlloc, aBox, aLoad, aStore, ldv, aField, aPart, aIndexAddr, aLen, aSlice, aBuild, aBuildSlice, afill, placeS, aIface, aMakeFunc, aExtract, abuiltin, aAppend, SV.exact, CV.exact, SV.nat, CV.lstOf, CV.lenOf, SV.cells, CV.one, D.one, Value.oneCell', mapO, CV.toD0, CV.toD, SV.toD, splice, chunk, zrow, onat, isFull, capD, ownId, ptrLike, nilD, retV, retD, bodyQ, thenQ, blockQ, dsts, reduceCtorEq, reduceIte, if_true, if_false, ite_true, ite_false, Nat.reduceBEq, Nat.reduceEqDiff, Nat.reduceAdd, Nat.reduceMul, Nat.reduceSub, Nat.reduceLT, Nat.reduceLeDiff, Nat.reduceBNe, Int.reduceLE, Int.reduceLT, Int.reduceBEq, Int.reduceBNe, Int.reduceEq, Int.reduceNeg, Int.reduceAdd, Int.reduceSub, Int.reduceToNat, ne_eq, true_implies, false_implies, forall_const, implies_true, exists_eq_left, exists_eq_left', eq_self, undef, eqL, eqH]
  | false =>
  rw [hg3] at hgw
  cases hg4 : decide (200 < (keep.length : Int)) with
  | true =>
    (refine Fun.of_body Tryd.func8 rfl rfl Tryd.ntmps8 Tryd.results8 (by simp) ?_)
    (repeat (first | refine Wp.skip ?_ | refine Wp.exit ?_ | refine Wp.ret ?_ | refine Wp.block ?_ | refine Wp.label ?_ | ((first | (first | refine Wp.sreg (fun K hK => ?_) | refine Wp.reg (fun K hK => ?_) | refine Wp.sdrw mixed (fun K hK => ?_) | refine Wp.drw mixed (fun K hK => ?_)) | refine Wp.condG (fun K hT hF => ?_)); (repeat ((first | (have hX := hK; clear hX) | (have hX := hT; clear hX)); simp (maxSteps := 2000000) (disch := omega) only [RUN, TY, bops, bgd, bgo, bres, bdst, guardB, aop, evalS, ofV, SV.ofD, Res.pure, aAlloc, aBox, aLoad, aStore, ldv, aField, aPart, aIndexAddr, aLen, aSlice, aBuild, aBuildSlice, afill, placeS, aIface, aMakeFunc, aExtract, abuiltin, aAppend, SV.exact, CV.exact, SV.nat, CV.lstOf, CV.lenOf, SV.cells, CV.one, D.one, Value.oneCell', mapO, CV.toD0, CV.toD, SV.toD, splice, chunk, zrow, onat, isFull, capD, ownId, ptrLike, nilD, retV, retD, bodyQ, thenQ, blockQ, dsts, reduceCtorEq, reduceIte, if_true, if_false, ite_true, ite_false, Nat.reduceBEq, Nat.reduceEqDiff, Nat.reduceAdd, Nat.reduceMul, Nat.reduceSub, Nat.reduceLT, Nat.reduceLeDiff, Nat.reduceBNe, Int.reduceLE, Int.reduceLT, Int.reduceBEq, Int.reduceBNe, Int.reduceEq, Int.reduceNeg, Int.reduceAdd, Int.reduceSub, Int.reduceToNat, ne_eq, true_implies, false_implies, forall_const, implies_true, exists_eq_left, exists_eq_left', eq_self, undef, eqL, eqH, WriteD.dv, hg4]; (first | (first | (refine hK _ ?_; clear hK K) | (refine ⟨by kernel_rfl, hK _ ?_⟩; clear hK K) | (refine hT ?_; clear hT hF K) | (refine hF ?_; clear hT hF K)) | refine bcall_f (by assumption) ?_))); fail_if_success (first | (have hX := hK; clear hX) | (have hX := hT; clear hX))) | refine Wp.seq ?_))
    simp (maxSteps := 2000000) (disch := omega) only [RUN, TY, bops, bgd, bgo, bres, bdst, guardB, aop, evalS, ofV, SV.ofD, Res.pure, aAlloc, aBox, aLoad, aStore, ldv, aField, aPart, aIndexAddr, aLen, aSlice, aBuild, aBuildSlice, afill, placeS, aIface, aMakeFunc, aExtract, abuiltin, aAppend, SV.exact, CV.exact, SV.nat, CV.lstOf, CV.lenOf, SV.cells, CV.one, D.one, Value.oneCell', mapO, CV.toD0, CV.toD, SV.toD, splice, chunk, zrow, onat, isFull, capD, ownId, ptrLike, nilD, retV, retD, bodyQ, thenQ, blockQ, dsts, reduceCtorEq, reduceIte, if_true, if_false, ite_true, ite_false, Nat.reduceBEq, Nat.reduceEqDiff, Nat.reduceAdd, Nat.reduceMul, Nat.reduceSub, Nat.reduceLT, Nat.reduceLeDiff, Nat.reduceBNe, Int.reduceLE, Int.reduceLT, Int.reduceBEq, Int.reduceBNe, Int.reduceEq, Int.reduceNeg, Int.reduceAdd, Int.reduceSub, Int.reduceToNat, ne_eq, true_implies, false_implies, forall_const, implies_true, exists_eq_left, exists_eq_left', eq_self, undef, eqL, eqH]
  | false =>
  cases hg5 : decide (100 < (name.length : Int)) with
  | true =>
    (refine Fun.of_body Tryd.func8 rfl rfl Tryd.ntmps8 Tryd.results8 (by simp) ?_)
    (repeat (first | refine Wp.skip ?_ | refine Wp.exit ?_ | refine Wp.ret ?_ | refine Wp.block ?_ | refine Wp.label ?_ | ((first | (first | refine Wp.sreg (fun K hK => ?_) | refine Wp.reg (fun K hK => ?_) | refine Wp.sdrw mixed (fun K hK => ?_) | refine Wp.drw mixed (fun K hK => ?_)) | refine Wp.condG (fun K hT hF => ?_)); (repeat ((first | (have hX := hK; clear hX) | (have hX := hT; clear hX)); simp (maxSteps := 2000000) (disch := omega) only [RUN, TY, bops, bgd, bgo, bres, bdst, guardB, aop, evalS, ofV, SV.ofD, Res.pure, aAlloc, aBox, aLoad, aStore, ldv, aField, aPart, aIndexAddr, aLen, aSlice, aBuild, aBuildSlice, afill, placeS, aIface, aMakeFunc, aExtract, abuiltin, aAppend, SV.exact, CV.exact, SV.nat, CV.lstOf, CV.lenOf, SV.cells, CV.one, D.one, Value.oneCell', mapO, CV.toD0, CV.toD, SV.toD, splice, chunk, zrow, onat, isFull, capD, ownId, ptrLike, nilD, retV, retD, bodyQ, thenQ, blockQ, dsts, reduceCtorEq, reduceIte, if_true, if_false, ite_true, ite_false, Nat.reduceBEq, Nat.reduceEqDiff, Nat.reduceAdd, Nat.reduceMul, Nat.reduceSub, Nat.reduceLT, Nat.reduceLeDiff, Nat.reduceBNe, Int.reduceLE, Int.reduceLT, Int.reduceBEq, Int.reduceBNe, Int.reduceEq, Int.reduceNeg, Int.reduceAdd, Int.reduceSub, Int.reduceToNat, ne_eq, true_implies, false_implies, forall_const, implies_true, exists_eq_left, exists_eq_left', eq_self, undef, eqL, eqH, WriteD.dv, hg4, hg5]; (first | (first | (refine hK _ ?_; clear hK K) | (refine ⟨by kernel_rfl, hK _ ?_⟩; clear hK K) | (refine hT ?_; clear hT hF K) | (refine hF ?_; clear hT hF K)) | refine bcall_f (by assumption) ?_))); fail_if_success (first | (have hX := hK; clear hX) | (have hX := hT; clear hX))) | refine Wp.seq ?_))
    simp (maxSteps := 2000000) (disch := omega) only [RUN, TY, bops, bgd, bgo, bres, bdst, guardB, aop, evalS, ofV, SV.ofD, Res.pure, aAlloc, aBox, aLoad, aStore, ldv, aField, aPart, aIndexAddr, aLen, aSlice, aBuild, aBuildSlice, afill, placeS, aIface, aMakeFunc, aExtract, abuiltin, aAppend, SV.exact, CV.exact, SV.nat, CV.lstOf, CV.lenOf, SV.cells, CV.one, D.one, Value.oneCell', mapO, CV.toD0, CV.toD, SV.toD, splice, chunk, zrow, onat, isFull, capD, ownId, ptrLike, nilD, retV, retD, bodyQ, thenQ, blockQ, dsts, reduceCtorEq, reduceIte, if_true, if_false, ite_true, ite_false, Nat.reduceBEq, Nat.reduceEqDiff, Nat.reduceAdd, Nat.reduceMul, Nat.reduceSub, Nat.reduceLT, Nat.reduceLeDiff, Nat.reduceBNe, Int.reduceLE, Int.reduceLT, Int.reduceBEq, Int.reduceBNe, Int.reduceEq, Int.reduceNeg, Int.reduceAdd, Int.reduceSub, Int.reduceToNat, ne_eq, true_implies, false_implies, forall_const, implies_true, exists_eq_left, exists_eq_left', eq_self, undef, eqL, eqH]
  | false =>
  obtain ⟨hs, hsm⟩ := great_small hg
  obtain ⟨hs2, _⟩ := great_small hg2
  have hl := hs.1
  have hub := hs.used
  have mw : w.file.length ≤ 1000000 ∧ w.b.length ≤ 1000000 := by
    simp only [greatWs, Bool.or_eq_false_iff] at hg3
    have := List.any_eq_false.1 hg3.2 w (by simp)
    simp only [greatW, Bool.or_eq_true, decide_eq_true_eq, not_or] at this
    omega
  have hkl : keep.length ≤ 1000000 := by simp only [decide_eq_false_iff_not] at hg4; omega
  have hnl : name.length < 2 ^ 62 := by simp only [decide_eq_false_iff_not] at hg5; omega
  have d1 := do_fun ⟨fs, cap, left, down⟩ w hs mw.1 mw.2 hle
  have d2 := refDo_fun ⟨fs, cap, left, down⟩ w hs mw.1 mw.2 hle
  have d3 := do_len ⟨fs, cap, left, down⟩ w hs
  generalize doF ⟨fs, cap, left, down⟩ w = dr at d1 d2 d3
  obtain ⟨⟨f1, c1, l1, b1⟩, e1⟩ := dr
  have d4 := refSame_fun ⟨f1, c1, l1, b1⟩ ⟨f1, c1, l1, b1⟩ (by simp only at d3 ⊢; omega)
  rw [same_self] at d4
  have a1 := arm_fun ⟨fs, cap, left, down⟩ n hs
  have a2 := refArm_fun ⟨fs, cap, left, down⟩ n hs
  have a3 := arm_len ⟨fs, cap, left, down⟩ n hs
  generalize armF ⟨fs, cap, left, down⟩ n = ar at a1 a2 a3
  obtain ⟨⟨f2, c2, l2, b2⟩, e2⟩ := ar
  have a4 := refSame_fun ⟨f2, c2, l2, b2⟩ ⟨f2, c2, l2, b2⟩ (by simp only at a3 ⊢; omega)
  rw [same_self] at a4
  have k1 := crash_fun ⟨fs, cap, left, down⟩ keep hs hkl
  have k2 := refCrash_fun ⟨fs, cap, left, down⟩ keep hs hkl
  have k3 := crash_len ⟨fs, cap, left, down⟩ keep hs
  generalize crashF ⟨fs, cap, left, down⟩ keep = kr at k1 k2 k3
  obtain ⟨⟨f3, c3, l3, b3⟩, e3⟩ := kr
  have k4 := refSame_fun ⟨f3, c3, l3, b3⟩ ⟨f3, c3, l3, b3⟩ (by simp only at k3 ⊢; omega)
  rw [same_self] at k4
  have n1 := new_fun' n
  have n2 := refNew_fun n
  have n3 := new_len n
  generalize newF n = nr at n1 n2 n3
  obtain ⟨⟨f4, c4, l4, b4⟩, e4⟩ := nr
  have n4 := refSame_fun ⟨f4, c4, l4, b4⟩ ⟨f4, c4, l4, b4⟩ (by simp only at n3 ⊢; omega)
  rw [same_self] at n4
  have g1 := get_fun fs cap left down name (by omega)
  have g2 := refGet_fun fs cap left down name (by omega)
  obtain ⟨ga, gb, gc, ok, hgv⟩ := getV_is fs name
  rw [hgv] at g1 g2
  have c1 := check_fun fs cap left down hs
  have c2 := refCheck_fun fs cap left down hs
  have u1 := used_fun fs cap left down (by omega) (by omega)
  have u2 := refUsed_fun fs cap left down (by omega) (by omega)
  have s1 := same_fun ⟨fs, cap, left, down⟩ ⟨gs, cap', left', down'⟩ (by simp only; omega)
  have s2 := refSame_fun ⟨fs, cap, left, down⟩ ⟨gs, cap', left', down'⟩ (by simp only; omega)
  have m1 := name_fun name
  have m2 := refName_fun name hnl
  generalize sameB ⟨fs, cap, left, down⟩ ⟨gs, cap', left', down'⟩ = sm at s1 s2
  generalize nameB name = nm at m1 m2
  generalize (if validB fs cap = true then (0 : Int) else 2) = ck at c1 c2
  simp only [WriteD.dv] at d1 d2
  (refine Fun.of_body Tryd.func8 rfl rfl Tryd.ntmps8 Tryd.results8 (by simp) ?_)
  (repeat (first | refine Wp.skip ?_ | refine Wp.exit ?_ | refine Wp.ret ?_ | refine Wp.block ?_ | refine Wp.label ?_ | ((first | (first | refine Wp.sreg (fun K hK => ?_) | refine Wp.reg (fun K hK => ?_) | refine Wp.sdrw mixed (fun K hK => ?_) | refine Wp.drw mixed (fun K hK => ?_)) | refine Wp.condG (fun K hT hF => ?_)); (repeat ((first | (have hX := hK; clear hX) | (have hX := hT; clear hX)); simp (maxSteps := 2000000) (disch := omega) only [RUN, TY, bops, bgd, bgo, bres, bdst, guardB, aop, evalS, ofV, SV.ofD, Res.pure, aAlloc, aBox, aLoad, aStore, ldv, aField, aPart, aIndexAddr, aLen, aSlice, aBuild, aBuildSlice, afill, placeS, aIface, aMakeFunc, aExtract, abuiltin, aAppend, SV.exact, CV.exact, SV.nat, CV.lstOf, CV.lenOf, SV.cells, CV.one, D.one, Value.oneCell', mapO, CV.toD0, CV.toD, SV.toD, splice, chunk, zrow, onat, isFull, capD, ownId, ptrLike, nilD, retV, retD, bodyQ, thenQ, blockQ, dsts, reduceCtorEq, reduceIte, if_true, if_false, ite_true, ite_false, Nat.reduceBEq, Nat.reduceEqDiff, Nat.reduceAdd, Nat.reduceMul, Nat.reduceSub, Nat.reduceLT, Nat.reduceLeDiff, Nat.reduceBNe, Int.reduceLE, Int.reduceLT, Int.reduceBEq, Int.reduceBNe, Int.reduceEq, Int.reduceNeg, Int.reduceAdd, Int.reduceSub, Int.reduceToNat, ne_eq, true_implies, false_implies, forall_const, implies_true, exists_eq_left, exists_eq_left', eq_self, undef, eqL, eqH, WriteD.dv, hg4, hg5, bne_self_eq_false, beq_self_eq_true, file_bin, Bool.and_self]; (first | (first | (refine hK _ ?_; clear hK K) | (refine ⟨by kernel_rfl, hK _ ?_⟩; clear hK K) | (refine hT ?_; clear hT hF K) | (refine hF ?_; clear hT hF K)) | refine bcall_f (by assumption) ?_))); fail_if_success (first | (have hX := hK; clear hX) | (have hX := hT; clear hX))) | refine Wp.seq ?_))
  simp (maxSteps := 2000000) (disch := omega) only [RUN, TY, bops, bgd, bgo, bres, bdst, guardB, aop, evalS, ofV, SV.ofD, Res.pure, aAlloc, aBox, aLoad, aStore, ldv, aField, aPart, aIndexAddr, aLen, aSlice, aBuild, aBuildSlice, afill, placeS, aIface, aMakeFunc, aExtract, abuiltin, aAppend, SV.exact, CV.exact, SV.nat, CV.lstOf, CV.lenOf, SV.cells, CV.one, D.one, Value.oneCell', mapO, CV.toD0, CV.toD, SV.toD, splice, chunk, zrow, onat, isFull, capD, ownId, ptrLike, nilD, retV, retD, bodyQ, thenQ, blockQ, dsts, reduceCtorEq, reduceIte, if_true, if_false, ite_true, ite_false, Nat.reduceBEq, Nat.reduceEqDiff, Nat.reduceAdd, Nat.reduceMul, Nat.reduceSub, Nat.reduceLT, Nat.reduceLeDiff, Nat.reduceBNe, Int.reduceLE, Int.reduceLT, Int.reduceBEq, Int.reduceBNe, Int.reduceEq, Int.reduceNeg, Int.reduceAdd, Int.reduceSub, Int.reduceToNat, ne_eq, true_implies, false_implies, forall_const, implies_true, exists_eq_left, exists_eq_left', eq_self, undef, eqL, eqH]
end Go.Proofs.YtljhcenfmaiaoaaDoor
