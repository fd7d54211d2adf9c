/- FileCrash: the walk. -/
import Derived.Test.YtepcpdionlfkhaaDoorFlT
import Derived.Test.YtepcpdionlfkhaaDoorFlN
import Derived.Test.YtepcpdionlfkhaaDoorFlO
namespace Go.Proofs.YtepcpdionlfkhaaDoor
open Go Go.RowKit
set_option maxHeartbeats 8000000
set_option maxRecDepth 100000
set_option linter.unusedVariables false
set_option linter.unusedSimpArgs false
theorem fileCrash_fun (sure more fresh : List (List UInt8)) (keep : Int) : Fun Tryd.prog 5 [strsD sure, strsD more, strsD fresh, int keep] (boo true) := by
  have hw := wakes5_fun
  by_cases n1 : 100 < sure.length
  · have e1 : decide ((100 : Int) < (sure.length : Int)) = true := decide_eq_true (by omega)
    (refine Fun.of_body Tryd.func5 rfl rfl Tryd.ntmps5 Tryd.results5 (by simp) ?_)
    (repeat (first | refine Wp.skip ?_ | refine Wp.exit ?_ | refine Wp.ret ?_ | refine Wp.block ?_ | refine Wp.label ?_ | ((first | (first | refine Wp.sreg (fun K hK => ?_) | refine Wp.reg (fun K hK => ?_) | refine Wp.sdrw mixed (fun K hK => ?_) | refine Wp.drw mixed (fun K hK => ?_)) | refine Wp.condG (fun K hT hF => ?_)); (repeat ((first | (have hX := hK; clear hX) | (have hX := hT; clear hX)); simp (maxSteps := 2000000) (disch := omega) only [RUN, TY, RUND, aop, ofV, SV.ofD, aLoad, aStore, aField, aPart, aLen, aSlice, aIface, aMakeFunc, aExtract, abuiltin, aConvX, aConvL, aCopy, CV.exact, CV.lstOf, CV.lenOf, CV.one, D.one, Value.oneCell', CV.toD0, isFull, ownId, ptrLike, nilD, retD, bodyQ, thenQ, blockQ, reduceCtorEq, reduceIte, if_true, if_false, ite_true, ite_false, Nat.reduceBEq, Nat.reduceEqDiff, Nat.reduceAdd, Nat.reduceMul, Nat.reduceSub, Nat.reduceLT, Nat.reduceLeDiff, Nat.reduceBNe, Int.reduceLE, Int.reduceLT, Int.reduceBEq, Int.reduceBNe, Int.reduceEq, Int.reduceNeg, Int.reduceAdd, Int.reduceSub, Int.reduceToNat, ne_eq, true_implies, false_implies, forall_const, implies_true, exists_eq_left, exists_eq_left', eq_self, e1]; (first | (first | (refine hK _ ?_; clear hK K) | (refine ⟨by kernel_rfl, hK _ ?_⟩; clear hK K) | (refine hT ?_; clear hT hF K) | (refine hF ?_; clear hT hF K)) | refine bcall_f (by assumption) ?_ | refine bcall_a (by assumption) ?_))); fail_if_success (first | (have hX := hK; clear hX) | (have hX := hT; clear hX))) | refine Wp.seq ?_))
    simp (maxSteps := 2000000) (disch := omega) only [RUN, TY, RUND, aop, ofV, SV.ofD, aLoad, aStore, aField, aPart, aLen, aSlice, aIface, aMakeFunc, aExtract, abuiltin, aConvX, aConvL, aCopy, CV.exact, CV.lstOf, CV.lenOf, CV.one, D.one, Value.oneCell', CV.toD0, isFull, ownId, ptrLike, nilD, retD, bodyQ, thenQ, blockQ, reduceCtorEq, reduceIte, if_true, if_false, ite_true, ite_false, Nat.reduceBEq, Nat.reduceEqDiff, Nat.reduceAdd, Nat.reduceMul, Nat.reduceSub, Nat.reduceLT, Nat.reduceLeDiff, Nat.reduceBNe, Int.reduceLE, Int.reduceLT, Int.reduceBEq, Int.reduceBNe, Int.reduceEq, Int.reduceNeg, Int.reduceAdd, Int.reduceSub, Int.reduceToNat, ne_eq, true_implies, false_implies, forall_const, implies_true, exists_eq_left, exists_eq_left', eq_self]
  have e1 : decide ((100 : Int) < (sure.length : Int)) = false := decide_eq_false (by omega)
  by_cases n2 : 100 < more.length
  · have e2 : decide ((100 : Int) < (more.length : Int)) = true := decide_eq_true (by omega)
    (refine Fun.of_body Tryd.func5 rfl rfl Tryd.ntmps5 Tryd.results5 (by simp) ?_)
    (repeat (first | refine Wp.skip ?_ | refine Wp.exit ?_ | refine Wp.ret ?_ | refine Wp.block ?_ | refine Wp.label ?_ | ((first | (first | refine Wp.sreg (fun K hK => ?_) | refine Wp.reg (fun K hK => ?_) | refine Wp.sdrw mixed (fun K hK => ?_) | refine Wp.drw mixed (fun K hK => ?_)) | refine Wp.condG (fun K hT hF => ?_)); (repeat ((first | (have hX := hK; clear hX) | (have hX := hT; clear hX)); simp (maxSteps := 2000000) (disch := omega) only [RUN, TY, RUND, aop, ofV, SV.ofD, aLoad, aStore, aField, aPart, aLen, aSlice, aIface, aMakeFunc, aExtract, abuiltin, aConvX, aConvL, aCopy, CV.exact, CV.lstOf, CV.lenOf, CV.one, D.one, Value.oneCell', CV.toD0, isFull, ownId, ptrLike, nilD, retD, bodyQ, thenQ, blockQ, reduceCtorEq, reduceIte, if_true, if_false, ite_true, ite_false, Nat.reduceBEq, Nat.reduceEqDiff, Nat.reduceAdd, Nat.reduceMul, Nat.reduceSub, Nat.reduceLT, Nat.reduceLeDiff, Nat.reduceBNe, Int.reduceLE, Int.reduceLT, Int.reduceBEq, Int.reduceBNe, Int.reduceEq, Int.reduceNeg, Int.reduceAdd, Int.reduceSub, Int.reduceToNat, ne_eq, true_implies, false_implies, forall_const, implies_true, exists_eq_left, exists_eq_left', eq_self, e1, e2]; (first | (first | (refine hK _ ?_; clear hK K) | (refine ⟨by kernel_rfl, hK _ ?_⟩; clear hK K) | (refine hT ?_; clear hT hF K) | (refine hF ?_; clear hT hF K)) | refine bcall_f (by assumption) ?_ | refine bcall_a (by assumption) ?_))); fail_if_success (first | (have hX := hK; clear hX) | (have hX := hT; clear hX))) | refine Wp.seq ?_))
    simp (maxSteps := 2000000) (disch := omega) only [RUN, TY, RUND, aop, ofV, SV.ofD, aLoad, aStore, aField, aPart, aLen, aSlice, aIface, aMakeFunc, aExtract, abuiltin, aConvX, aConvL, aCopy, CV.exact, CV.lstOf, CV.lenOf, CV.one, D.one, Value.oneCell', CV.toD0, isFull, ownId, ptrLike, nilD, retD, bodyQ, thenQ, blockQ, reduceCtorEq, reduceIte, if_true, if_false, ite_true, ite_false, Nat.reduceBEq, Nat.reduceEqDiff, Nat.reduceAdd, Nat.reduceMul, Nat.reduceSub, Nat.reduceLT, Nat.reduceLeDiff, Nat.reduceBNe, Int.reduceLE, Int.reduceLT, Int.reduceBEq, Int.reduceBNe, Int.reduceEq, Int.reduceNeg, Int.reduceAdd, Int.reduceSub, Int.reduceToNat, ne_eq, true_implies, false_implies, forall_const, implies_true, exists_eq_left, exists_eq_left', eq_self]
  have e2 : decide ((100 : Int) < (more.length : Int)) = false := decide_eq_false (by omega)
  by_cases n3 : 100 < fresh.length
  · have e3 : decide ((100 : Int) < (fresh.length : Int)) = true := decide_eq_true (by omega)
    (refine Fun.of_body Tryd.func5 rfl rfl Tryd.ntmps5 Tryd.results5 (by simp) ?_)
    (repeat (first | refine Wp.skip ?_ | refine Wp.exit ?_ | refine Wp.ret ?_ | refine Wp.block ?_ | refine Wp.label ?_ | ((first | (first | refine Wp.sreg (fun K hK => ?_) | refine Wp.reg (fun K hK => ?_) | refine Wp.sdrw mixed (fun K hK => ?_) | refine Wp.drw mixed (fun K hK => ?_)) | refine Wp.condG (fun K hT hF => ?_)); (repeat ((first | (have hX := hK; clear hX) | (have hX := hT; clear hX)); simp (maxSteps := 2000000) (disch := omega) only [RUN, TY, RUND, aop, ofV, SV.ofD, aLoad, aStore, aField, aPart, aLen, aSlice, aIface, aMakeFunc, aExtract, abuiltin, aConvX, aConvL, aCopy, CV.exact, CV.lstOf, CV.lenOf, CV.one, D.one, Value.oneCell', CV.toD0, isFull, ownId, ptrLike, nilD, retD, bodyQ, thenQ, blockQ, reduceCtorEq, reduceIte, if_true, if_false, ite_true, ite_false, Nat.reduceBEq, Nat.reduceEqDiff, Nat.reduceAdd, Nat.reduceMul, Nat.reduceSub, Nat.reduceLT, Nat.reduceLeDiff, Nat.reduceBNe, Int.reduceLE, Int.reduceLT, Int.reduceBEq, Int.reduceBNe, Int.reduceEq, Int.reduceNeg, Int.reduceAdd, Int.reduceSub, Int.reduceToNat, ne_eq, true_implies, false_implies, forall_const, implies_true, exists_eq_left, exists_eq_left', eq_self, e1, e2, e3]; (first | (first | (refine hK _ ?_; clear hK K) | (refine ⟨by kernel_rfl, hK _ ?_⟩; clear hK K) | (refine hT ?_; clear hT hF K) | (refine hF ?_; clear hT hF K)) | refine bcall_f (by assumption) ?_ | refine bcall_a (by assumption) ?_))); fail_if_success (first | (have hX := hK; clear hX) | (have hX := hT; clear hX))) | refine Wp.seq ?_))
    simp (maxSteps := 2000000) (disch := omega) only [RUN, TY, RUND, aop, ofV, SV.ofD, aLoad, aStore, aField, aPart, aLen, aSlice, aIface, aMakeFunc, aExtract, abuiltin, aConvX, aConvL, aCopy, CV.exact, CV.lstOf, CV.lenOf, CV.one, D.one, Value.oneCell', CV.toD0, isFull, ownId, ptrLike, nilD, retD, bodyQ, thenQ, blockQ, reduceCtorEq, reduceIte, if_true, if_false, ite_true, ite_false, Nat.reduceBEq, Nat.reduceEqDiff, Nat.reduceAdd, Nat.reduceMul, Nat.reduceSub, Nat.reduceLT, Nat.reduceLeDiff, Nat.reduceBNe, Int.reduceLE, Int.reduceLT, Int.reduceBEq, Int.reduceBNe, Int.reduceEq, Int.reduceNeg, Int.reduceAdd, Int.reduceSub, Int.reduceToNat, ne_eq, true_implies, false_implies, forall_const, implies_true, exists_eq_left, exists_eq_left', eq_self]
  have e3 : decide ((100 : Int) < (fresh.length : Int)) = false := decide_eq_false (by omega)
  have hg1 := great5_fun sure (by omega)
  cases g1 : great5 sure with
  | true =>
    rw [g1] at hg1
    (refine Fun.of_body Tryd.func5 rfl rfl Tryd.ntmps5 Tryd.results5 (by simp) ?_)
    (repeat (first | refine Wp.skip ?_ | refine Wp.exit ?_ | refine Wp.ret ?_ | refine Wp.block ?_ | refine Wp.label ?_ | ((first | (first | refine Wp.sreg (fun K hK => ?_) | refine Wp.reg (fun K hK => ?_) | refine Wp.sdrw mixed (fun K hK => ?_) | refine Wp.drw mixed (fun K hK => ?_)) | refine Wp.condG (fun K hT hF => ?_)); (repeat ((first | (have hX := hK; clear hX) | (have hX := hT; clear hX)); simp (maxSteps := 2000000) (disch := omega) only [RUN, TY, RUND, aop, ofV, SV.ofD, aLoad, aStore, aField, aPart, aLen, aSlice, aIface, aMakeFunc, aExtract, abuiltin, aConvX, aConvL, aCopy, CV.exact, CV.lstOf, CV.lenOf, CV.one, D.one, Value.oneCell', CV.toD0, isFull, ownId, ptrLike, nilD, retD, bodyQ, thenQ, blockQ, reduceCtorEq, reduceIte, if_true, if_false, ite_true, ite_false, Nat.reduceBEq, Nat.reduceEqDiff, Nat.reduceAdd, Nat.reduceMul, Nat.reduceSub, Nat.reduceLT, Nat.reduceLeDiff, Nat.reduceBNe, Int.reduceLE, Int.reduceLT, Int.reduceBEq, Int.reduceBNe, Int.reduceEq, Int.reduceNeg, Int.reduceAdd, Int.reduceSub, Int.reduceToNat, ne_eq, true_implies, false_implies, forall_const, implies_true, exists_eq_left, exists_eq_left', eq_self, e1, e2, e3]; (first | (first | (refine hK _ ?_; clear hK K) | (refine ⟨by kernel_rfl, hK _ ?_⟩; clear hK K) | (refine hT ?_; clear hT hF K) | (refine hF ?_; clear hT hF K)) | refine bcall_f (by assumption) ?_ | refine bcall_a (by assumption) ?_))); fail_if_success (first | (have hX := hK; clear hX) | (have hX := hT; clear hX))) | refine Wp.seq ?_))
    simp (maxSteps := 2000000) (disch := omega) only [RUN, TY, RUND, aop, ofV, SV.ofD, aLoad, aStore, aField, aPart, aLen, aSlice, aIface, aMakeFunc, aExtract, abuiltin, aConvX, aConvL, aCopy, CV.exact, CV.lstOf, CV.lenOf, CV.one, D.one, Value.oneCell', CV.toD0, isFull, ownId, ptrLike, nilD, retD, bodyQ, thenQ, blockQ, reduceCtorEq, reduceIte, if_true, if_false, ite_true, ite_false, Nat.reduceBEq, Nat.reduceEqDiff, Nat.reduceAdd, Nat.reduceMul, Nat.reduceSub, Nat.reduceLT, Nat.reduceLeDiff, Nat.reduceBNe, Int.reduceLE, Int.reduceLT, Int.reduceBEq, Int.reduceBNe, Int.reduceEq, Int.reduceNeg, Int.reduceAdd, Int.reduceSub, Int.reduceToNat, ne_eq, true_implies, false_implies, forall_const, implies_true, exists_eq_left, exists_eq_left', eq_self]
  | false =>
  rw [g1] at hg1
  have hm1 := great5_mem g1
  have hl1 : ∀ l ∈ sure, l.length ≤ 1000000 := fun l hl => by have := hm1 l hl; omega
  have hb1 := bytesF_len (ls := sure) (n := 100) (by omega)
  have hg2 := great5_fun more (by omega)
  cases g2 : great5 more with
  | true =>
    rw [g2] at hg2
    (refine Fun.of_body Tryd.func5 rfl rfl Tryd.ntmps5 Tryd.results5 (by simp) ?_)
    (repeat (first | refine Wp.skip ?_ | refine Wp.exit ?_ | refine Wp.ret ?_ | refine Wp.block ?_ | refine Wp.label ?_ | ((first | (first | refine Wp.sreg (fun K hK => ?_) | refine Wp.reg (fun K hK => ?_) | refine Wp.sdrw mixed (fun K hK => ?_) | refine Wp.drw mixed (fun K hK => ?_)) | refine Wp.condG (fun K hT hF => ?_)); (repeat ((first | (have hX := hK; clear hX) | (have hX := hT; clear hX)); simp (maxSteps := 2000000) (disch := omega) only [RUN, TY, RUND, aop, ofV, SV.ofD, aLoad, aStore, aField, aPart, aLen, aSlice, aIface, aMakeFunc, aExtract, abuiltin, aConvX, aConvL, aCopy, CV.exact, CV.lstOf, CV.lenOf, CV.one, D.one, Value.oneCell', CV.toD0, isFull, ownId, ptrLike, nilD, retD, bodyQ, thenQ, blockQ, reduceCtorEq, reduceIte, if_true, if_false, ite_true, ite_false, Nat.reduceBEq, Nat.reduceEqDiff, Nat.reduceAdd, Nat.reduceMul, Nat.reduceSub, Nat.reduceLT, Nat.reduceLeDiff, Nat.reduceBNe, Int.reduceLE, Int.reduceLT, Int.reduceBEq, Int.reduceBNe, Int.reduceEq, Int.reduceNeg, Int.reduceAdd, Int.reduceSub, Int.reduceToNat, ne_eq, true_implies, false_implies, forall_const, implies_true, exists_eq_left, exists_eq_left', eq_self, e1, e2, e3]; (first | (first | (refine hK _ ?_; clear hK K) | (refine ⟨by kernel_rfl, hK _ ?_⟩; clear hK K) | (refine hT ?_; clear hT hF K) | (refine hF ?_; clear hT hF K)) | refine bcall_f (by assumption) ?_ | refine bcall_a (by assumption) ?_))); fail_if_success (first | (have hX := hK; clear hX) | (have hX := hT; clear hX))) | refine Wp.seq ?_))
    simp (maxSteps := 2000000) (disch := omega) only [RUN, TY, RUND, aop, ofV, SV.ofD, aLoad, aStore, aField, aPart, aLen, aSlice, aIface, aMakeFunc, aExtract, abuiltin, aConvX, aConvL, aCopy, CV.exact, CV.lstOf, CV.lenOf, CV.one, D.one, Value.oneCell', CV.toD0, isFull, ownId, ptrLike, nilD, retD, bodyQ, thenQ, blockQ, reduceCtorEq, reduceIte, if_true, if_false, ite_true, ite_false, Nat.reduceBEq, Nat.reduceEqDiff, Nat.reduceAdd, Nat.reduceMul, Nat.reduceSub, Nat.reduceLT, Nat.reduceLeDiff, Nat.reduceBNe, Int.reduceLE, Int.reduceLT, Int.reduceBEq, Int.reduceBNe, Int.reduceEq, Int.reduceNeg, Int.reduceAdd, Int.reduceSub, Int.reduceToNat, ne_eq, true_implies, false_implies, forall_const, implies_true, exists_eq_left, exists_eq_left', eq_self]
  | false =>
  rw [g2] at hg2
  have hm2 := great5_mem g2
  have hl2 : ∀ l ∈ more, l.length ≤ 1000000 := fun l hl => by have := hm2 l hl; omega
  have hb2 := bytesF_len (ls := more) (n := 100) (by omega)
  have hg3 := great5_fun fresh (by omega)
  cases g3 : great5 fresh with
  | true =>
    rw [g3] at hg3
    (refine Fun.of_body Tryd.func5 rfl rfl Tryd.ntmps5 Tryd.results5 (by simp) ?_)
    (repeat (first | refine Wp.skip ?_ | refine Wp.exit ?_ | refine Wp.ret ?_ | refine Wp.block ?_ | refine Wp.label ?_ | ((first | (first | refine Wp.sreg (fun K hK => ?_) | refine Wp.reg (fun K hK => ?_) | refine Wp.sdrw mixed (fun K hK => ?_) | refine Wp.drw mixed (fun K hK => ?_)) | refine Wp.condG (fun K hT hF => ?_)); (repeat ((first | (have hX := hK; clear hX) | (have hX := hT; clear hX)); simp (maxSteps := 2000000) (disch := omega) only [RUN, TY, RUND, aop, ofV, SV.ofD, aLoad, aStore, aField, aPart, aLen, aSlice, aIface, aMakeFunc, aExtract, abuiltin, aConvX, aConvL, aCopy, CV.exact, CV.lstOf, CV.lenOf, CV.one, D.one, Value.oneCell', CV.toD0, isFull, ownId, ptrLike, nilD, retD, bodyQ, thenQ, blockQ, reduceCtorEq, reduceIte, if_true, if_false, ite_true, ite_false, Nat.reduceBEq, Nat.reduceEqDiff, Nat.reduceAdd, Nat.reduceMul, Nat.reduceSub, Nat.reduceLT, Nat.reduceLeDiff, Nat.reduceBNe, Int.reduceLE, Int.reduceLT, Int.reduceBEq, Int.reduceBNe, Int.reduceEq, Int.reduceNeg, Int.reduceAdd, Int.reduceSub, Int.reduceToNat, ne_eq, true_implies, false_implies, forall_const, implies_true, exists_eq_left, exists_eq_left', eq_self, e1, e2, e3]; (first | (first | (refine hK _ ?_; clear hK K) | (refine ⟨by kernel_rfl, hK _ ?_⟩; clear hK K) | (refine hT ?_; clear hT hF K) | (refine hF ?_; clear hT hF K)) | refine bcall_f (by assumption) ?_ | refine bcall_a (by assumption) ?_))); fail_if_success (first | (have hX := hK; clear hX) | (have hX := hT; clear hX))) | refine Wp.seq ?_))
    simp (maxSteps := 2000000) (disch := omega) only [RUN, TY, RUND, aop, ofV, SV.ofD, aLoad, aStore, aField, aPart, aLen, aSlice, aIface, aMakeFunc, aExtract, abuiltin, aConvX, aConvL, aCopy, CV.exact, CV.lstOf, CV.lenOf, CV.one, D.one, Value.oneCell', CV.toD0, isFull, ownId, ptrLike, nilD, retD, bodyQ, thenQ, blockQ, reduceCtorEq, reduceIte, if_true, if_false, ite_true, ite_false, Nat.reduceBEq, Nat.reduceEqDiff, Nat.reduceAdd, Nat.reduceMul, Nat.reduceSub, Nat.reduceLT, Nat.reduceLeDiff, Nat.reduceBNe, Int.reduceLE, Int.reduceLT, Int.reduceBEq, Int.reduceBNe, Int.reduceEq, Int.reduceNeg, Int.reduceAdd, Int.reduceSub, Int.reduceToNat, ne_eq, true_implies, false_implies, forall_const, implies_true, exists_eq_left, exists_eq_left', eq_self]
  | false =>
  rw [g3] at hg3
  have hm3 := great5_mem g3
  have hl3 : ∀ l ∈ fresh, l.length ≤ 1000000 := fun l hl => by have := hm3 l hl; omega
  have hb3 := bytesF_len (ls := fresh) (n := 100) (by omega)
  have c1 := new_fun' 65536
  rw [nw_new] at c1
  have c2 := fput_fun nwS [97] sure (by simp) (by simp) (by omega) hl1 (by omega) (new_path _)
  rw [put_new] at c2
  have c3 := fbytes_fun more (by omega) hl2
  -- the first ones are not put
  by_cases hs : bytesE sure = 0 ∧ sure ≠ []
  rotate_left
  · rw [if_neg hs] at c2
    simp only [errV] at c2
    generalize bytesF more = b at *
    generalize bytesE more = be at *
    (refine Fun.of_body Tryd.func5 rfl rfl Tryd.ntmps5 Tryd.results5 (by simp) ?_)
    (repeat (first | refine Wp.skip ?_ | refine Wp.exit ?_ | refine Wp.ret ?_ | refine Wp.block ?_ | refine Wp.label ?_ | ((first | (first | refine Wp.sreg (fun K hK => ?_) | refine Wp.reg (fun K hK => ?_) | refine Wp.sdrw mixed (fun K hK => ?_) | refine Wp.drw mixed (fun K hK => ?_)) | refine Wp.condG (fun K hT hF => ?_)); (repeat ((first | (have hX := hK; clear hX) | (have hX := hT; clear hX)); simp (maxSteps := 2000000) (disch := omega) only [RUN, TY, RUND, aop, ofV, SV.ofD, aLoad, aStore, aField, aPart, aLen, aSlice, aIface, aMakeFunc, aExtract, abuiltin, aConvX, aConvL, aCopy, CV.exact, CV.lstOf, CV.lenOf, CV.one, D.one, Value.oneCell', CV.toD0, isFull, ownId, ptrLike, nilD, retD, bodyQ, thenQ, blockQ, reduceCtorEq, reduceIte, if_true, if_false, ite_true, ite_false, Nat.reduceBEq, Nat.reduceEqDiff, Nat.reduceAdd, Nat.reduceMul, Nat.reduceSub, Nat.reduceLT, Nat.reduceLeDiff, Nat.reduceBNe, Int.reduceLE, Int.reduceLT, Int.reduceBEq, Int.reduceBNe, Int.reduceEq, Int.reduceNeg, Int.reduceAdd, Int.reduceSub, Int.reduceToNat, ne_eq, true_implies, false_implies, forall_const, implies_true, exists_eq_left, exists_eq_left', eq_self, e1, e2, e3]; (first | (first | (refine hK _ ?_; clear hK K) | (refine ⟨by kernel_rfl, hK _ ?_⟩; clear hK K) | (refine hT ?_; clear hT hF K) | (refine hF ?_; clear hT hF K)) | refine bcall_f (by assumption) ?_ | refine bcall_a (by assumption) ?_))); fail_if_success (first | (have hX := hK; clear hX) | (have hX := hT; clear hX))) | refine Wp.seq ?_))
    simp (maxSteps := 2000000) (disch := omega) only [RUN, TY, RUND, aop, ofV, SV.ofD, aLoad, aStore, aField, aPart, aLen, aSlice, aIface, aMakeFunc, aExtract, abuiltin, aConvX, aConvL, aCopy, CV.exact, CV.lstOf, CV.lenOf, CV.one, D.one, Value.oneCell', CV.toD0, isFull, ownId, ptrLike, nilD, retD, bodyQ, thenQ, blockQ, reduceCtorEq, reduceIte, if_true, if_false, ite_true, ite_false, Nat.reduceBEq, Nat.reduceEqDiff, Nat.reduceAdd, Nat.reduceMul, Nat.reduceSub, Nat.reduceLT, Nat.reduceLeDiff, Nat.reduceBNe, Int.reduceLE, Int.reduceLT, Int.reduceBEq, Int.reduceBNe, Int.reduceEq, Int.reduceNeg, Int.reduceAdd, Int.reduceSub, Int.reduceToNat, ne_eq, true_implies, false_implies, forall_const, implies_true, exists_eq_left, exists_eq_left', eq_self]
  rw [if_pos hs] at c2
  obtain ⟨hs1, hs2⟩ := bytes_ok hs.1
  have hxj := joinF_ne hs.2
  by_cases hx : (joinF sure).length ≤ 65536
  rotate_left
  · rw [if_neg hx] at c2
    simp only [errV] at c2
    generalize bytesF more = b at *
    generalize bytesE more = be at *
    (refine Fun.of_body Tryd.func5 rfl rfl Tryd.ntmps5 Tryd.results5 (by simp) ?_)
    (repeat (first | refine Wp.skip ?_ | refine Wp.exit ?_ | refine Wp.ret ?_ | refine Wp.block ?_ | refine Wp.label ?_ | ((first | (first | refine Wp.sreg (fun K hK => ?_) | refine Wp.reg (fun K hK => ?_) | refine Wp.sdrw mixed (fun K hK => ?_) | refine Wp.drw mixed (fun K hK => ?_)) | refine Wp.condG (fun K hT hF => ?_)); (repeat ((first | (have hX := hK; clear hX) | (have hX := hT; clear hX)); simp (maxSteps := 2000000) (disch := omega) only [RUN, TY, RUND, aop, ofV, SV.ofD, aLoad, aStore, aField, aPart, aLen, aSlice, aIface, aMakeFunc, aExtract, abuiltin, aConvX, aConvL, aCopy, CV.exact, CV.lstOf, CV.lenOf, CV.one, D.one, Value.oneCell', CV.toD0, isFull, ownId, ptrLike, nilD, retD, bodyQ, thenQ, blockQ, reduceCtorEq, reduceIte, if_true, if_false, ite_true, ite_false, Nat.reduceBEq, Nat.reduceEqDiff, Nat.reduceAdd, Nat.reduceMul, Nat.reduceSub, Nat.reduceLT, Nat.reduceLeDiff, Nat.reduceBNe, Int.reduceLE, Int.reduceLT, Int.reduceBEq, Int.reduceBNe, Int.reduceEq, Int.reduceNeg, Int.reduceAdd, Int.reduceSub, Int.reduceToNat, ne_eq, true_implies, false_implies, forall_const, implies_true, exists_eq_left, exists_eq_left', eq_self, e1, e2, e3]; (first | (first | (refine hK _ ?_; clear hK K) | (refine ⟨by kernel_rfl, hK _ ?_⟩; clear hK K) | (refine hT ?_; clear hT hF K) | (refine hF ?_; clear hT hF K)) | refine bcall_f (by assumption) ?_ | refine bcall_a (by assumption) ?_))); fail_if_success (first | (have hX := hK; clear hX) | (have hX := hT; clear hX))) | refine Wp.seq ?_))
    simp (maxSteps := 2000000) (disch := omega) only [RUN, TY, RUND, aop, ofV, SV.ofD, aLoad, aStore, aField, aPart, aLen, aSlice, aIface, aMakeFunc, aExtract, abuiltin, aConvX, aConvL, aCopy, CV.exact, CV.lstOf, CV.lenOf, CV.one, D.one, Value.oneCell', CV.toD0, isFull, ownId, ptrLike, nilD, retD, bodyQ, thenQ, blockQ, reduceCtorEq, reduceIte, if_true, if_false, ite_true, ite_false, Nat.reduceBEq, Nat.reduceEqDiff, Nat.reduceAdd, Nat.reduceMul, Nat.reduceSub, Nat.reduceLT, Nat.reduceLeDiff, Nat.reduceBNe, Int.reduceLE, Int.reduceLT, Int.reduceBEq, Int.reduceBNe, Int.reduceEq, Int.reduceNeg, Int.reduceAdd, Int.reduceSub, Int.reduceToNat, ne_eq, true_implies, false_implies, forall_const, implies_true, exists_eq_left, exists_eq_left', eq_self]
  rw [if_pos hx] at c2
  simp only [errV] at c2
  by_cases hbe : bytesE more = 0
  rotate_left
  · have f1 : (bytesE more != 0) = true := by simpa using hbe
    generalize bytesF more = b at *
    generalize bytesE more = be at *
    (refine Fun.of_body Tryd.func5 rfl rfl Tryd.ntmps5 Tryd.results5 (by simp) ?_)
    (repeat (first | refine Wp.skip ?_ | refine Wp.exit ?_ | refine Wp.ret ?_ | refine Wp.block ?_ | refine Wp.label ?_ | ((first | (first | refine Wp.sreg (fun K hK => ?_) | refine Wp.reg (fun K hK => ?_) | refine Wp.sdrw mixed (fun K hK => ?_) | refine Wp.drw mixed (fun K hK => ?_)) | refine Wp.condG (fun K hT hF => ?_)); (repeat ((first | (have hX := hK; clear hX) | (have hX := hT; clear hX)); simp (maxSteps := 2000000) (disch := omega) only [RUN, TY, RUND, aop, ofV, SV.ofD, aLoad, aStore, aField, aPart, aLen, aSlice, aIface, aMakeFunc, aExtract, abuiltin, aConvX, aConvL, aCopy, CV.exact, CV.lstOf, CV.lenOf, CV.one, D.one, Value.oneCell', CV.toD0, isFull, ownId, ptrLike, nilD, retD, bodyQ, thenQ, blockQ, reduceCtorEq, reduceIte, if_true, if_false, ite_true, ite_false, Nat.reduceBEq, Nat.reduceEqDiff, Nat.reduceAdd, Nat.reduceMul, Nat.reduceSub, Nat.reduceLT, Nat.reduceLeDiff, Nat.reduceBNe, Int.reduceLE, Int.reduceLT, Int.reduceBEq, Int.reduceBNe, Int.reduceEq, Int.reduceNeg, Int.reduceAdd, Int.reduceSub, Int.reduceToNat, ne_eq, true_implies, false_implies, forall_const, implies_true, exists_eq_left, exists_eq_left', eq_self, e1, e2, e3, f1]; (first | (first | (refine hK _ ?_; clear hK K) | (refine ⟨by kernel_rfl, hK _ ?_⟩; clear hK K) | (refine hT ?_; clear hT hF K) | (refine hF ?_; clear hT hF K)) | refine bcall_f (by assumption) ?_ | refine bcall_a (by assumption) ?_))); fail_if_success (first | (have hX := hK; clear hX) | (have hX := hT; clear hX))) | refine Wp.seq ?_))
    simp (maxSteps := 2000000) (disch := omega) only [RUN, TY, RUND, aop, ofV, SV.ofD, aLoad, aStore, aField, aPart, aLen, aSlice, aIface, aMakeFunc, aExtract, abuiltin, aConvX, aConvL, aCopy, CV.exact, CV.lstOf, CV.lenOf, CV.one, D.one, Value.oneCell', CV.toD0, isFull, ownId, ptrLike, nilD, retD, bodyQ, thenQ, blockQ, reduceCtorEq, reduceIte, if_true, if_false, ite_true, ite_false, Nat.reduceBEq, Nat.reduceEqDiff, Nat.reduceAdd, Nat.reduceMul, Nat.reduceSub, Nat.reduceLT, Nat.reduceLeDiff, Nat.reduceBNe, Int.reduceLE, Int.reduceLT, Int.reduceBEq, Int.reduceBNe, Int.reduceEq, Int.reduceNeg, Int.reduceAdd, Int.reduceSub, Int.reduceToNat, ne_eq, true_implies, false_implies, forall_const, implies_true, exists_eq_left, exists_eq_left', eq_self]
  obtain ⟨ht1, ht2⟩ := bytes_ok hbe
  rw [hbe, ht1] at c3
  by_cases hmore : more = []
  · subst hmore
    have hj0 : joinF ([] : List (List UInt8)) = [] := rfl
    rw [hj0] at c3
    (refine Fun.of_body Tryd.func5 rfl rfl Tryd.ntmps5 Tryd.results5 (by simp) ?_)
    (repeat (first | refine Wp.skip ?_ | refine Wp.exit ?_ | refine Wp.ret ?_ | refine Wp.block ?_ | refine Wp.label ?_ | ((first | (first | refine Wp.sreg (fun K hK => ?_) | refine Wp.reg (fun K hK => ?_) | refine Wp.sdrw mixed (fun K hK => ?_) | refine Wp.drw mixed (fun K hK => ?_)) | refine Wp.condG (fun K hT hF => ?_)); (repeat ((first | (have hX := hK; clear hX) | (have hX := hT; clear hX)); simp (maxSteps := 2000000) (disch := omega) only [RUN, TY, RUND, aop, ofV, SV.ofD, aLoad, aStore, aField, aPart, aLen, aSlice, aIface, aMakeFunc, aExtract, abuiltin, aConvX, aConvL, aCopy, CV.exact, CV.lstOf, CV.lenOf, CV.one, D.one, Value.oneCell', CV.toD0, isFull, ownId, ptrLike, nilD, retD, bodyQ, thenQ, blockQ, reduceCtorEq, reduceIte, if_true, if_false, ite_true, ite_false, Nat.reduceBEq, Nat.reduceEqDiff, Nat.reduceAdd, Nat.reduceMul, Nat.reduceSub, Nat.reduceLT, Nat.reduceLeDiff, Nat.reduceBNe, Int.reduceLE, Int.reduceLT, Int.reduceBEq, Int.reduceBNe, Int.reduceEq, Int.reduceNeg, Int.reduceAdd, Int.reduceSub, Int.reduceToNat, ne_eq, true_implies, false_implies, forall_const, implies_true, exists_eq_left, exists_eq_left', eq_self, e1, e2, e3]; (first | (first | (refine hK _ ?_; clear hK K) | (refine ⟨by kernel_rfl, hK _ ?_⟩; clear hK K) | (refine hT ?_; clear hT hF K) | (refine hF ?_; clear hT hF K)) | refine bcall_f (by assumption) ?_ | refine bcall_a (by assumption) ?_))); fail_if_success (first | (have hX := hK; clear hX) | (have hX := hT; clear hX))) | refine Wp.seq ?_))
    simp (maxSteps := 2000000) (disch := omega) only [RUN, TY, RUND, aop, ofV, SV.ofD, aLoad, aStore, aField, aPart, aLen, aSlice, aIface, aMakeFunc, aExtract, abuiltin, aConvX, aConvL, aCopy, CV.exact, CV.lstOf, CV.lenOf, CV.one, D.one, Value.oneCell', CV.toD0, isFull, ownId, ptrLike, nilD, retD, bodyQ, thenQ, blockQ, reduceCtorEq, reduceIte, if_true, if_false, ite_true, ite_false, Nat.reduceBEq, Nat.reduceEqDiff, Nat.reduceAdd, Nat.reduceMul, Nat.reduceSub, Nat.reduceLT, Nat.reduceLeDiff, Nat.reduceBNe, Int.reduceLE, Int.reduceLT, Int.reduceBEq, Int.reduceBNe, Int.reduceEq, Int.reduceNeg, Int.reduceAdd, Int.reduceSub, Int.reduceToNat, ne_eq, true_implies, false_implies, forall_const, implies_true, exists_eq_left, exists_eq_left', eq_self]
  have hbj := joinF_ne hmore
  obtain ⟨b, hb⟩ : ∃ b, b = joinF more := ⟨_, rfl⟩
  obtain ⟨x, hxx⟩ : ∃ x, x = joinF sure := ⟨_, rfl⟩
  have f2 : (b == []) = false := by rw [hb]; simpa using hbj
  rw [ht1] at hb2
  rw [← hb] at c3 hbj hb2
  rw [← hxx] at c2 hxj hx
  have hsmx := valid_small (one_valid hxj hx (n := (x.length : Int)) (by omega) (Int.le_refl _))
  have c4 := do_fun (oneS x x.length) ⟨0, [97], b, 0⟩ hsmx (by simp) (by simp only; omega) (show (-1 : Int) ≤ 9223372036854775807 by decide)
  rw [one_app hxj hx (by omega) (Int.le_refl _) hbj] at c4
  simp only [WriteD.dv] at c4
  by_cases hfit : x.length + b.length ≤ 65536
  rotate_left
  · rw [if_neg hfit] at c4
    (refine Fun.of_body Tryd.func5 rfl rfl Tryd.ntmps5 Tryd.results5 (by simp) ?_)
    (repeat (first | refine Wp.skip ?_ | refine Wp.exit ?_ | refine Wp.ret ?_ | refine Wp.block ?_ | refine Wp.label ?_ | ((first | (first | refine Wp.sreg (fun K hK => ?_) | refine Wp.reg (fun K hK => ?_) | refine Wp.sdrw mixed (fun K hK => ?_) | refine Wp.drw mixed (fun K hK => ?_)) | refine Wp.condG (fun K hT hF => ?_)); (repeat ((first | (have hX := hK; clear hX) | (have hX := hT; clear hX)); simp (maxSteps := 2000000) (disch := omega) only [RUN, TY, RUND, aop, ofV, SV.ofD, aLoad, aStore, aField, aPart, aLen, aSlice, aIface, aMakeFunc, aExtract, abuiltin, aConvX, aConvL, aCopy, CV.exact, CV.lstOf, CV.lenOf, CV.one, D.one, Value.oneCell', CV.toD0, isFull, ownId, ptrLike, nilD, retD, bodyQ, thenQ, blockQ, reduceCtorEq, reduceIte, if_true, if_false, ite_true, ite_false, Nat.reduceBEq, Nat.reduceEqDiff, Nat.reduceAdd, Nat.reduceMul, Nat.reduceSub, Nat.reduceLT, Nat.reduceLeDiff, Nat.reduceBNe, Int.reduceLE, Int.reduceLT, Int.reduceBEq, Int.reduceBNe, Int.reduceEq, Int.reduceNeg, Int.reduceAdd, Int.reduceSub, Int.reduceToNat, ne_eq, true_implies, false_implies, forall_const, implies_true, exists_eq_left, exists_eq_left', eq_self, e1, e2, e3, f2]; (first | (first | (refine hK _ ?_; clear hK K) | (refine ⟨by kernel_rfl, hK _ ?_⟩; clear hK K) | (refine hT ?_; clear hT hF K) | (refine hF ?_; clear hT hF K)) | refine bcall_f (by assumption) ?_ | refine bcall_a (by assumption) ?_))); fail_if_success (first | (have hX := hK; clear hX) | (have hX := hT; clear hX))) | refine Wp.seq ?_))
    simp (maxSteps := 2000000) (disch := omega) only [RUN, TY, RUND, aop, ofV, SV.ofD, aLoad, aStore, aField, aPart, aLen, aSlice, aIface, aMakeFunc, aExtract, abuiltin, aConvX, aConvL, aCopy, CV.exact, CV.lstOf, CV.lenOf, CV.one, D.one, Value.oneCell', CV.toD0, isFull, ownId, ptrLike, nilD, retD, bodyQ, thenQ, blockQ, reduceCtorEq, reduceIte, if_true, if_false, ite_true, ite_false, Nat.reduceBEq, Nat.reduceEqDiff, Nat.reduceAdd, Nat.reduceMul, Nat.reduceSub, Nat.reduceLT, Nat.reduceLeDiff, Nat.reduceBNe, Int.reduceLE, Int.reduceLT, Int.reduceBEq, Int.reduceBNe, Int.reduceEq, Int.reduceNeg, Int.reduceAdd, Int.reduceSub, Int.reduceToNat, ne_eq, true_implies, false_implies, forall_const, implies_true, exists_eq_left, exists_eq_left', eq_self]
  rw [if_pos hfit] at c4
  have hxb : x ++ b ≠ [] := by simp [hxj]
  have hxbl : (x ++ b).length ≤ 65536 := by rw [List.length_append]; exact hfit
  have hxle : (x.length : Int) ≤ ((x ++ b).length : Int) := by rw [List.length_append]; omega
  have hx0 : 0 < (x.length : Int) := by have := List.length_pos_iff.2 hxj; omega
  have hsmy := valid_small (one_valid hxb hxbl (n := (x.length : Int)) (by omega) hxle)
  have c5 := crash_fun (oneS (x ++ b) x.length) [keep] hsmy (by simp)
  obtain ⟨k, hk1, hk2, hcr⟩ := one_crash hxb hxbl hx0 hxle keep
  rw [hcr] at c5
  obtain ⟨j, hj, hlod⟩ := crash_loads hs2 ht2 (k := k) (by rw [← hxx]; omega)
  rw [← hxx, ← hb] at hlod
  have hyl : ((x ++ b).take k).length = k := by rw [List.length_take]; omega
  obtain ⟨y, hy⟩ : ∃ y, y = (x ++ b).take k := ⟨_, rfl⟩
  rw [← hy] at hlod hyl c5
  have hy0 : y ≠ [] := by intro q; rw [q] at hyl; simp at hyl; omega
  have hyl2 : y.length ≤ 65536 := by omega
  obtain ⟨got, hgot⟩ : ∃ got, got = lodF y := ⟨_, rfl⟩
  have hg0 : got ≠ [] := by rw [hgot, hlod]; simp [hs.2]
  obtain ⟨q1, q2⟩ := one_mend hy0 hyl2 (by rw [← hgot]; exact hg0)
  have hsm3 := valid_small (one_valid hy0 hyl2 (n := (y.length : Int)) (by omega) (Int.le_refl _))
  have hmem3 : ∀ f ∈ (oneS y y.length).fs, f.b.length ≤ 1000000 := fun f hf => (hsm3.2 f hf).2
  have c6 := fmend_fun (oneS y y.length) [97] (by simp) (fun _ => by simp) hmem3 q2
  rw [q1] at c6
  simp only [errV] at c6
  rw [← hgot] at c6
  have hgmem : ∀ l ∈ got, l.length ≤ 1024 := by rw [hgot]; exact lod_mem y
  obtain ⟨hlj, htj⟩ := lod_of_join got hgmem
  have hzl : (joinF got).length ≤ 65536 := by
    obtain ⟨rest, r1, _, _⟩ := lod_join y
    rw [← hgot] at r1
    have := congrArg List.length r1
    rw [List.length_append] at this
    omega
  have hz0 := joinF_ne hg0
  obtain ⟨z, hz⟩ : ∃ z, z = joinF got := ⟨_, rfl⟩
  rw [← hz] at c6 hlj htj hzl hz0
  have hsm4 := valid_small (one_valid hz0 hzl (n := (z.length : Int)) (by omega) (Int.le_refl _))
  have hmem4 : ∀ f ∈ (oneS z z.length).fs, f.b.length ≤ 1000000 := fun f hf => (hsm4.2 f hf).2
  have c7 := loads_fun (oneS z z.length).fs 65536 (-1) false [97] (by simp) hmem4
  rw [get_one, hlj, htj] at c7
  have hgl : got.length = sure.length + j := by rw [hgot, hlod, List.length_append, List.length_take]; omega
  have hgl2 : got.length ≤ 1000000 := by omega
  have htake : (sure ++ more).take got.length = got := by
    rw [hgl, hgot, hlod, List.take_append, List.take_of_length_le (by omega)]
    congr 1
    rw [show sure.length + j - sure.length = j by omega]
  have c8 := texts_fun got ((sure ++ more).take got.length) (by omega) (by rw [htake]; omega)
  rw [show decide (got = (sure ++ more).take got.length) = true by simp [htake]] at c8
  have c9 := fput_fun (oneS z z.length) [97] fresh (by simp) (by simp) (by omega) hl3 (by omega) (put_path hz0 hzl (by omega) (Int.le_refl _))
  rw [put_one hz0 hzl (by omega) (Int.le_refl _)] at c9
  have f3 : decide ((got.length : Int) < (sure.length : Int)) = false := decide_eq_false (by omega)
  have f4 : decide ((sure.length : Int) + (more.length : Int) < (got.length : Int)) = false := decide_eq_false (by omega)
  have f5 : (got.length ≤ sure.length + more.length) = True := by simp; omega
  simp only [strsD, List.map_take, List.map_append] at c8
  have b1 : (sure.length * 16 ≤ 140737488355328) = True := eq_true (by omega)
  have b2 : ((sure.length + more.length) * 16 ≤ 140737488355328) = True := eq_true (by omega)
  have b3 : (got.length * 16 ≤ 140737488355328) = True := eq_true (by omega)
  have b4 : ((got.length + fresh.length) * 16 ≤ 140737488355328) = True := eq_true (by omega)
  by_cases hf : bytesE fresh = 0 ∧ fresh ≠ []
  rotate_left
  · rw [if_neg hf] at c9
    simp only [errV] at c9
    have i2 := is_fault 0 2 31 [97]
    have i3 := is_fault 0 2 2 [97]
    rw [show ((2 : Int) == 31) = false from rfl] at i2
    rw [show ((2 : Int) == 2) = true from rfl] at i3
    (refine Fun.of_body Tryd.func5 rfl rfl Tryd.ntmps5 Tryd.results5 (by simp) ?_)
    (repeat (first | refine Wp.skip ?_ | refine Wp.exit ?_ | refine Wp.ret ?_ | refine Wp.block ?_ | refine Wp.label ?_ | ((first | (first | refine Wp.sreg (fun K hK => ?_) | refine Wp.reg (fun K hK => ?_) | refine Wp.sdrw mixed (fun K hK => ?_) | refine Wp.drw mixed (fun K hK => ?_)) | refine Wp.condG (fun K hT hF => ?_)); (repeat ((first | (have hX := hK; clear hX) | (have hX := hT; clear hX)); simp (maxSteps := 2000000) (disch := omega) only [RUN, TY, RUND, aop, ofV, SV.ofD, aLoad, aStore, aField, aPart, aLen, aSlice, aIface, aMakeFunc, aExtract, abuiltin, aConvX, aConvL, aCopy, CV.exact, CV.lstOf, CV.lenOf, CV.one, D.one, Value.oneCell', CV.toD0, isFull, ownId, ptrLike, nilD, retD, bodyQ, thenQ, blockQ, reduceCtorEq, reduceIte, if_true, if_false, ite_true, ite_false, Nat.reduceBEq, Nat.reduceEqDiff, Nat.reduceAdd, Nat.reduceMul, Nat.reduceSub, Nat.reduceLT, Nat.reduceLeDiff, Nat.reduceBNe, Int.reduceLE, Int.reduceLT, Int.reduceBEq, Int.reduceBNe, Int.reduceEq, Int.reduceNeg, Int.reduceAdd, Int.reduceSub, Int.reduceToNat, ne_eq, true_implies, false_implies, forall_const, implies_true, exists_eq_left, exists_eq_left', eq_self, e1, e2, e3, f2, f3, f4, f5, b1, b2, b3, b4, List.length_append, List.length_map]; (first | (first | (refine hK _ ?_; clear hK K) | (refine ⟨by kernel_rfl, hK _ ?_⟩; clear hK K) | (refine hT ?_; clear hT hF K) | (refine hF ?_; clear hT hF K)) | refine bcall_f (by assumption) ?_ | refine bcall_a (by assumption) ?_))); fail_if_success (first | (have hX := hK; clear hX) | (have hX := hT; clear hX))) | refine Wp.seq ?_))
    simp (maxSteps := 2000000) (disch := omega) only [RUN, TY, RUND, aop, ofV, SV.ofD, aLoad, aStore, aField, aPart, aLen, aSlice, aIface, aMakeFunc, aExtract, abuiltin, aConvX, aConvL, aCopy, CV.exact, CV.lstOf, CV.lenOf, CV.one, D.one, Value.oneCell', CV.toD0, isFull, ownId, ptrLike, nilD, retD, bodyQ, thenQ, blockQ, reduceCtorEq, reduceIte, if_true, if_false, ite_true, ite_false, Nat.reduceBEq, Nat.reduceEqDiff, Nat.reduceAdd, Nat.reduceMul, Nat.reduceSub, Nat.reduceLT, Nat.reduceLeDiff, Nat.reduceBNe, Int.reduceLE, Int.reduceLT, Int.reduceBEq, Int.reduceBNe, Int.reduceEq, Int.reduceNeg, Int.reduceAdd, Int.reduceSub, Int.reduceToNat, ne_eq, true_implies, false_implies, forall_const, implies_true, exists_eq_left, exists_eq_left', eq_self]
  rw [if_pos hf] at c9
  obtain ⟨hf1, hf2⟩ := bytes_ok hf.1
  by_cases hfl : z.length + (joinF fresh).length ≤ 65536
  rotate_left
  · rw [if_neg hfl] at c9
    simp only [errV] at c9
    have i2 := is_fault 0 31 31 [97]
    rw [show ((31 : Int) == 31) = true from rfl] at i2
    (refine Fun.of_body Tryd.func5 rfl rfl Tryd.ntmps5 Tryd.results5 (by simp) ?_)
    (repeat (first | refine Wp.skip ?_ | refine Wp.exit ?_ | refine Wp.ret ?_ | refine Wp.block ?_ | refine Wp.label ?_ | ((first | (first | refine Wp.sreg (fun K hK => ?_) | refine Wp.reg (fun K hK => ?_) | refine Wp.sdrw mixed (fun K hK => ?_) | refine Wp.drw mixed (fun K hK => ?_)) | refine Wp.condG (fun K hT hF => ?_)); (repeat ((first | (have hX := hK; clear hX) | (have hX := hT; clear hX)); simp (maxSteps := 2000000) (disch := omega) only [RUN, TY, RUND, aop, ofV, SV.ofD, aLoad, aStore, aField, aPart, aLen, aSlice, aIface, aMakeFunc, aExtract, abuiltin, aConvX, aConvL, aCopy, CV.exact, CV.lstOf, CV.lenOf, CV.one, D.one, Value.oneCell', CV.toD0, isFull, ownId, ptrLike, nilD, retD, bodyQ, thenQ, blockQ, reduceCtorEq, reduceIte, if_true, if_false, ite_true, ite_false, Nat.reduceBEq, Nat.reduceEqDiff, Nat.reduceAdd, Nat.reduceMul, Nat.reduceSub, Nat.reduceLT, Nat.reduceLeDiff, Nat.reduceBNe, Int.reduceLE, Int.reduceLT, Int.reduceBEq, Int.reduceBNe, Int.reduceEq, Int.reduceNeg, Int.reduceAdd, Int.reduceSub, Int.reduceToNat, ne_eq, true_implies, false_implies, forall_const, implies_true, exists_eq_left, exists_eq_left', eq_self, e1, e2, e3, f2, f3, f4, f5, b1, b2, b3, b4, List.length_append, List.length_map]; (first | (first | (refine hK _ ?_; clear hK K) | (refine ⟨by kernel_rfl, hK _ ?_⟩; clear hK K) | (refine hT ?_; clear hT hF K) | (refine hF ?_; clear hT hF K)) | refine bcall_f (by assumption) ?_ | refine bcall_a (by assumption) ?_))); fail_if_success (first | (have hX := hK; clear hX) | (have hX := hT; clear hX))) | refine Wp.seq ?_))
    simp (maxSteps := 2000000) (disch := omega) only [RUN, TY, RUND, aop, ofV, SV.ofD, aLoad, aStore, aField, aPart, aLen, aSlice, aIface, aMakeFunc, aExtract, abuiltin, aConvX, aConvL, aCopy, CV.exact, CV.lstOf, CV.lenOf, CV.one, D.one, Value.oneCell', CV.toD0, isFull, ownId, ptrLike, nilD, retD, bodyQ, thenQ, blockQ, reduceCtorEq, reduceIte, if_true, if_false, ite_true, ite_false, Nat.reduceBEq, Nat.reduceEqDiff, Nat.reduceAdd, Nat.reduceMul, Nat.reduceSub, Nat.reduceLT, Nat.reduceLeDiff, Nat.reduceBNe, Int.reduceLE, Int.reduceLT, Int.reduceBEq, Int.reduceBNe, Int.reduceEq, Int.reduceNeg, Int.reduceAdd, Int.reduceSub, Int.reduceToNat, ne_eq, true_implies, false_implies, forall_const, implies_true, exists_eq_left, exists_eq_left', eq_self]
  rw [if_pos hfl] at c9
  simp only [errV] at c9
  have hall : z ++ joinF fresh = joinF (got ++ fresh) := by rw [joinF_app, hz]
  have hallm : ∀ l ∈ got ++ fresh, l.length ≤ 1024 := fun l hl => (List.mem_append.1 hl).elim (hgmem l) (hf2 l)
  obtain ⟨hl5, ht5⟩ := lod_of_join (got ++ fresh) hallm
  have hall0 : joinF (got ++ fresh) ≠ [] := joinF_ne (by simp [hg0])
  have halll : (joinF (got ++ fresh)).length ≤ 65536 := by rw [← hall, List.length_append]; exact hfl
  rw [hall] at c9
  have hsm5 := valid_small (one_valid hall0 halll (n := ((joinF (got ++ fresh)).length : Int)) (by omega) (Int.le_refl _))
  have hmem5 : ∀ f ∈ (oneS (joinF (got ++ fresh)) (joinF (got ++ fresh)).length).fs, f.b.length ≤ 1000000 := fun f hf => (hsm5.2 f hf).2
  have c10 := loads_fun (oneS (joinF (got ++ fresh)) (joinF (got ++ fresh)).length).fs 65536 (-1) false [97] (by simp) hmem5
  rw [get_one, hl5, ht5] at c10
  have c11 := texts_fun (got ++ fresh) (got ++ fresh) (by rw [List.length_append]; omega) (by rw [List.length_append]; omega)
  rw [show decide (got ++ fresh = got ++ fresh) = true by simp] at c11
  simp only [strsD, List.map_append] at c10 c11
  generalize joinF (got ++ fresh) = zz at *
  (refine Fun.of_body Tryd.func5 rfl rfl Tryd.ntmps5 Tryd.results5 (by simp) ?_)
  (repeat (first | refine Wp.skip ?_ | refine Wp.exit ?_ | refine Wp.ret ?_ | refine Wp.block ?_ | refine Wp.label ?_ | ((first | (first | refine Wp.sreg (fun K hK => ?_) | refine Wp.reg (fun K hK => ?_) | refine Wp.sdrw mixed (fun K hK => ?_) | refine Wp.drw mixed (fun K hK => ?_)) | refine Wp.condG (fun K hT hF => ?_)); (repeat ((first | (have hX := hK; clear hX) | (have hX := hT; clear hX)); simp (maxSteps := 2000000) (disch := omega) only [RUN, TY, RUND, aop, ofV, SV.ofD, aLoad, aStore, aField, aPart, aLen, aSlice, aIface, aMakeFunc, aExtract, abuiltin, aConvX, aConvL, aCopy, CV.exact, CV.lstOf, CV.lenOf, CV.one, D.one, Value.oneCell', CV.toD0, isFull, ownId, ptrLike, nilD, retD, bodyQ, thenQ, blockQ, reduceCtorEq, reduceIte, if_true, if_false, ite_true, ite_false, Nat.reduceBEq, Nat.reduceEqDiff, Nat.reduceAdd, Nat.reduceMul, Nat.reduceSub, Nat.reduceLT, Nat.reduceLeDiff, Nat.reduceBNe, Int.reduceLE, Int.reduceLT, Int.reduceBEq, Int.reduceBNe, Int.reduceEq, Int.reduceNeg, Int.reduceAdd, Int.reduceSub, Int.reduceToNat, ne_eq, true_implies, false_implies, forall_const, implies_true, exists_eq_left, exists_eq_left', eq_self, e1, e2, e3, f2, f3, f4, f5, b1, b2, b3, b4, List.length_append, List.length_map]; (first | (first | (refine hK _ ?_; clear hK K) | (refine ⟨by kernel_rfl, hK _ ?_⟩; clear hK K) | (refine hT ?_; clear hT hF K) | (refine hF ?_; clear hT hF K)) | refine bcall_f (by assumption) ?_ | refine bcall_a (by assumption) ?_))); fail_if_success (first | (have hX := hK; clear hX) | (have hX := hT; clear hX))) | refine Wp.seq ?_))
  simp (maxSteps := 2000000) (disch := omega) only [RUN, TY, RUND, aop, ofV, SV.ofD, aLoad, aStore, aField, aPart, aLen, aSlice, aIface, aMakeFunc, aExtract, abuiltin, aConvX, aConvL, aCopy, CV.exact, CV.lstOf, CV.lenOf, CV.one, D.one, Value.oneCell', CV.toD0, isFull, ownId, ptrLike, nilD, retD, bodyQ, thenQ, blockQ, reduceCtorEq, reduceIte, if_true, if_false, ite_true, ite_false, Nat.reduceBEq, Nat.reduceEqDiff, Nat.reduceAdd, Nat.reduceMul, Nat.reduceSub, Nat.reduceLT, Nat.reduceLeDiff, Nat.reduceBNe, Int.reduceLE, Int.reduceLT, Int.reduceBEq, Int.reduceBNe, Int.reduceEq, Int.reduceNeg, Int.reduceAdd, Int.reduceSub, Int.reduceToNat, ne_eq, true_implies, false_implies, forall_const, implies_true, exists_eq_left, exists_eq_left', eq_self]
end Go.Proofs.YtepcpdionlfkhaaDoor
