/- FileLoads: the walk. -/
import Derived.Test.YtdpfjdkjimaocaaDoorFlN
import Derived.Test.YtdpfjdkjimaocaaDoorDkJ0
namespace Go.Proofs.YtdpfjdkjimaocaaDoor
open Go Go.RowKit
set_option maxHeartbeats 8000000
set_option maxRecDepth 100000
set_option linter.unusedVariables false
set_option linter.unusedSimpArgs false
theorem great5_mem {l : List (List UInt8)} (h : great5 l = false) : ∀ s ∈ l, s.length ≤ 3000 := fun s hs => by
  unfold great5 at h
  rw [List.any_eq_false] at h
  have := h s hs
  simpa using this
theorem fileLoads_fun (s : DiskS) (nm : List UInt8) (ls : List (List UInt8)) : Fun Tryd.prog 6 [s.d, str nm, strsD ls] (boo true) := by
  have hg := great_fun s.fs s.cap s.left s.down
  have hw := wakes5_fun
  cases h1 : greatD s.fs with
  | true =>
    rw [h1] at hg
    (refine Fun.of_body Tryd.func6 rfl rfl Tryd.ntmps6 Tryd.results6 (by simp) ?_)
    (repeat (first | refine Wp.skip ?_ | refine Wp.exit ?_ | refine Wp.ret ?_ | refine Wp.block ?_ | refine Wp.label ?_ | ((first | (first | refine Wp.sreg (fun K hK => ?_) | refine Wp.reg (fun K hK => ?_) | refine Wp.sdrw mixed (fun K hK => ?_) | refine Wp.drw mixed (fun K hK => ?_)) | refine Wp.condG (fun K hT hF => ?_)); (repeat ((first | (have hX := hK; clear hX) | (have hX := hT; clear hX)); simp (maxSteps := 2000000) (disch := omega) only [RUN, TY, RUND, aop, ofV, SV.ofD, aLoad, aStore, aField, aPart, aLen, aSlice, aIface, aMakeFunc, aExtract, abuiltin, aConvX, aConvL, aCopy, CV.exact, CV.lstOf, CV.lenOf, CV.one, D.one, Value.oneCell', CV.toD0, isFull, ownId, ptrLike, nilD, retD, bodyQ, thenQ, blockQ, reduceCtorEq, reduceIte, if_true, if_false, ite_true, ite_false, Nat.reduceBEq, Nat.reduceEqDiff, Nat.reduceAdd, Nat.reduceMul, Nat.reduceSub, Nat.reduceLT, Nat.reduceLeDiff, Nat.reduceBNe, Int.reduceLE, Int.reduceLT, Int.reduceBEq, Int.reduceBNe, Int.reduceEq, Int.reduceNeg, Int.reduceAdd, Int.reduceSub, Int.reduceToNat, ne_eq, true_implies, false_implies, forall_const, implies_true, exists_eq_left, exists_eq_left', eq_self]; (first | (first | (refine hK _ ?_; clear hK K) | (refine ⟨by kernel_rfl, hK _ ?_⟩; clear hK K) | (refine hT ?_; clear hT hF K) | (refine hF ?_; clear hT hF K)) | refine bcall_f (by assumption) ?_ | refine bcall_a (by assumption) ?_))); fail_if_success (first | (have hX := hK; clear hX) | (have hX := hT; clear hX))) | refine Wp.seq ?_))
    simp (maxSteps := 2000000) (disch := omega) only [RUN, TY, RUND, aop, ofV, SV.ofD, aLoad, aStore, aField, aPart, aLen, aSlice, aIface, aMakeFunc, aExtract, abuiltin, aConvX, aConvL, aCopy, CV.exact, CV.lstOf, CV.lenOf, CV.one, D.one, Value.oneCell', CV.toD0, isFull, ownId, ptrLike, nilD, retD, bodyQ, thenQ, blockQ, reduceCtorEq, reduceIte, if_true, if_false, ite_true, ite_false, Nat.reduceBEq, Nat.reduceEqDiff, Nat.reduceAdd, Nat.reduceMul, Nat.reduceSub, Nat.reduceLT, Nat.reduceLeDiff, Nat.reduceBNe, Int.reduceLE, Int.reduceLT, Int.reduceBEq, Int.reduceBNe, Int.reduceEq, Int.reduceNeg, Int.reduceAdd, Int.reduceSub, Int.reduceToNat, ne_eq, true_implies, false_implies, forall_const, implies_true, exists_eq_left, exists_eq_left', eq_self]
  | false =>
  rw [h1] at hg
  by_cases h2 : 100 < ls.length
  · have d1 : decide ((100 : Int) < (ls.length : Int)) = true := decide_eq_true (by omega)
    (refine Fun.of_body Tryd.func6 rfl rfl Tryd.ntmps6 Tryd.results6 (by simp) ?_)
    (repeat (first | refine Wp.skip ?_ | refine Wp.exit ?_ | refine Wp.ret ?_ | refine Wp.block ?_ | refine Wp.label ?_ | ((first | (first | refine Wp.sreg (fun K hK => ?_) | refine Wp.reg (fun K hK => ?_) | refine Wp.sdrw mixed (fun K hK => ?_) | refine Wp.drw mixed (fun K hK => ?_)) | refine Wp.condG (fun K hT hF => ?_)); (repeat ((first | (have hX := hK; clear hX) | (have hX := hT; clear hX)); simp (maxSteps := 2000000) (disch := omega) only [RUN, TY, RUND, aop, ofV, SV.ofD, aLoad, aStore, aField, aPart, aLen, aSlice, aIface, aMakeFunc, aExtract, abuiltin, aConvX, aConvL, aCopy, CV.exact, CV.lstOf, CV.lenOf, CV.one, D.one, Value.oneCell', CV.toD0, isFull, ownId, ptrLike, nilD, retD, bodyQ, thenQ, blockQ, reduceCtorEq, reduceIte, if_true, if_false, ite_true, ite_false, Nat.reduceBEq, Nat.reduceEqDiff, Nat.reduceAdd, Nat.reduceMul, Nat.reduceSub, Nat.reduceLT, Nat.reduceLeDiff, Nat.reduceBNe, Int.reduceLE, Int.reduceLT, Int.reduceBEq, Int.reduceBNe, Int.reduceEq, Int.reduceNeg, Int.reduceAdd, Int.reduceSub, Int.reduceToNat, ne_eq, true_implies, false_implies, forall_const, implies_true, exists_eq_left, exists_eq_left', eq_self, d1]; (first | (first | (refine hK _ ?_; clear hK K) | (refine ⟨by kernel_rfl, hK _ ?_⟩; clear hK K) | (refine hT ?_; clear hT hF K) | (refine hF ?_; clear hT hF K)) | refine bcall_f (by assumption) ?_ | refine bcall_a (by assumption) ?_))); fail_if_success (first | (have hX := hK; clear hX) | (have hX := hT; clear hX))) | refine Wp.seq ?_))
    simp (maxSteps := 2000000) (disch := omega) only [RUN, TY, RUND, aop, ofV, SV.ofD, aLoad, aStore, aField, aPart, aLen, aSlice, aIface, aMakeFunc, aExtract, abuiltin, aConvX, aConvL, aCopy, CV.exact, CV.lstOf, CV.lenOf, CV.one, D.one, Value.oneCell', CV.toD0, isFull, ownId, ptrLike, nilD, retD, bodyQ, thenQ, blockQ, reduceCtorEq, reduceIte, if_true, if_false, ite_true, ite_false, Nat.reduceBEq, Nat.reduceEqDiff, Nat.reduceAdd, Nat.reduceMul, Nat.reduceSub, Nat.reduceLT, Nat.reduceLeDiff, Nat.reduceBNe, Int.reduceLE, Int.reduceLT, Int.reduceBEq, Int.reduceBNe, Int.reduceEq, Int.reduceNeg, Int.reduceAdd, Int.reduceSub, Int.reduceToNat, ne_eq, true_implies, false_implies, forall_const, implies_true, exists_eq_left, exists_eq_left', eq_self]
  have d1 : decide ((100 : Int) < (ls.length : Int)) = false := decide_eq_false (by omega)
  have hg5 := great5_fun ls (by omega)
  cases h3 : great5 ls with
  | true =>
    rw [h3] at hg5
    (refine Fun.of_body Tryd.func6 rfl rfl Tryd.ntmps6 Tryd.results6 (by simp) ?_)
    (repeat (first | refine Wp.skip ?_ | refine Wp.exit ?_ | refine Wp.ret ?_ | refine Wp.block ?_ | refine Wp.label ?_ | ((first | (first | refine Wp.sreg (fun K hK => ?_) | refine Wp.reg (fun K hK => ?_) | refine Wp.sdrw mixed (fun K hK => ?_) | refine Wp.drw mixed (fun K hK => ?_)) | refine Wp.condG (fun K hT hF => ?_)); (repeat ((first | (have hX := hK; clear hX) | (have hX := hT; clear hX)); simp (maxSteps := 2000000) (disch := omega) only [RUN, TY, RUND, aop, ofV, SV.ofD, aLoad, aStore, aField, aPart, aLen, aSlice, aIface, aMakeFunc, aExtract, abuiltin, aConvX, aConvL, aCopy, CV.exact, CV.lstOf, CV.lenOf, CV.one, D.one, Value.oneCell', CV.toD0, isFull, ownId, ptrLike, nilD, retD, bodyQ, thenQ, blockQ, reduceCtorEq, reduceIte, if_true, if_false, ite_true, ite_false, Nat.reduceBEq, Nat.reduceEqDiff, Nat.reduceAdd, Nat.reduceMul, Nat.reduceSub, Nat.reduceLT, Nat.reduceLeDiff, Nat.reduceBNe, Int.reduceLE, Int.reduceLT, Int.reduceBEq, Int.reduceBNe, Int.reduceEq, Int.reduceNeg, Int.reduceAdd, Int.reduceSub, Int.reduceToNat, ne_eq, true_implies, false_implies, forall_const, implies_true, exists_eq_left, exists_eq_left', eq_self, d1]; (first | (first | (refine hK _ ?_; clear hK K) | (refine ⟨by kernel_rfl, hK _ ?_⟩; clear hK K) | (refine hT ?_; clear hT hF K) | (refine hF ?_; clear hT hF K)) | refine bcall_f (by assumption) ?_ | refine bcall_a (by assumption) ?_))); fail_if_success (first | (have hX := hK; clear hX) | (have hX := hT; clear hX))) | refine Wp.seq ?_))
    simp (maxSteps := 2000000) (disch := omega) only [RUN, TY, RUND, aop, ofV, SV.ofD, aLoad, aStore, aField, aPart, aLen, aSlice, aIface, aMakeFunc, aExtract, abuiltin, aConvX, aConvL, aCopy, CV.exact, CV.lstOf, CV.lenOf, CV.one, D.one, Value.oneCell', CV.toD0, isFull, ownId, ptrLike, nilD, retD, bodyQ, thenQ, blockQ, reduceCtorEq, reduceIte, if_true, if_false, ite_true, ite_false, Nat.reduceBEq, Nat.reduceEqDiff, Nat.reduceAdd, Nat.reduceMul, Nat.reduceSub, Nat.reduceLT, Nat.reduceLeDiff, Nat.reduceBNe, Int.reduceLE, Int.reduceLT, Int.reduceBEq, Int.reduceBNe, Int.reduceEq, Int.reduceNeg, Int.reduceAdd, Int.reduceSub, Int.reduceToNat, ne_eq, true_implies, false_implies, forall_const, implies_true, exists_eq_left, exists_eq_left', eq_self]
  | false =>
  rw [h3] at hg5
  obtain ⟨hsm, hsb⟩ := great_small h1
  have hbb : ∀ f ∈ s.fs, f.b.length ≤ 1000000 := fun f hf => by have := (hsb f hf).1; omega
  have hsl := hsm.1
  have hl5 := great5_mem h3
  have c1 := loads_fun s.fs s.cap s.left s.down nm (by omega) hbb
  have c2 := refLoads_fun s.fs s.cap s.left s.down nm (by omega) hbb
  have c3 := fbytes_fun ls (by omega) (fun l hl => by have := hl5 l hl; omega)
  have c4 := refB_fun ls (by omega) (fun l hl => by have := hl5 l hl; omega)
  have hll : (lodF (getB s.fs nm)).length ≤ 1000000 := by
    have h5 := ysF_len 0 (getB s.fs nm)
    have h6 : (getB s.fs nm).length ≤ 1000000 := by
      unfold getB
      split
      · rename_i f hf; exact hbb f (List.mem_of_getElem? hf)
      · simp
    unfold lodF
    rw [List.length_map]; omega
  have c5 := texts_fun (lodF (getB s.fs nm)) (lodF (getB s.fs nm)) (by omega) (by omega)
  rw [show decide (lodF (getB s.fs nm) = lodF (getB s.fs nm)) = true by simp] at c5
  generalize lodF (getB s.fs nm) = a at *
  generalize tornF (getB s.fs nm) = m at *
  generalize bytesF ls = x at *
  generalize bytesE ls = e at *
  (refine Fun.of_body Tryd.func6 rfl rfl Tryd.ntmps6 Tryd.results6 (by simp) ?_)
  (repeat (first | refine Wp.skip ?_ | refine Wp.exit ?_ | refine Wp.ret ?_ | refine Wp.block ?_ | refine Wp.label ?_ | ((first | (first | refine Wp.sreg (fun K hK => ?_) | refine Wp.reg (fun K hK => ?_) | refine Wp.sdrw mixed (fun K hK => ?_) | refine Wp.drw mixed (fun K hK => ?_)) | refine Wp.condG (fun K hT hF => ?_)); (repeat ((first | (have hX := hK; clear hX) | (have hX := hT; clear hX)); simp (maxSteps := 2000000) (disch := omega) only [RUN, TY, RUND, aop, ofV, SV.ofD, aLoad, aStore, aField, aPart, aLen, aSlice, aIface, aMakeFunc, aExtract, abuiltin, aConvX, aConvL, aCopy, CV.exact, CV.lstOf, CV.lenOf, CV.one, D.one, Value.oneCell', CV.toD0, isFull, ownId, ptrLike, nilD, retD, bodyQ, thenQ, blockQ, reduceCtorEq, reduceIte, if_true, if_false, ite_true, ite_false, Nat.reduceBEq, Nat.reduceEqDiff, Nat.reduceAdd, Nat.reduceMul, Nat.reduceSub, Nat.reduceLT, Nat.reduceLeDiff, Nat.reduceBNe, Int.reduceLE, Int.reduceLT, Int.reduceBEq, Int.reduceBNe, Int.reduceEq, Int.reduceNeg, Int.reduceAdd, Int.reduceSub, Int.reduceToNat, ne_eq, true_implies, false_implies, forall_const, implies_true, exists_eq_left, exists_eq_left', eq_self, d1]; (first | (first | (refine hK _ ?_; clear hK K) | (refine ⟨by kernel_rfl, hK _ ?_⟩; clear hK K) | (refine hT ?_; clear hT hF K) | (refine hF ?_; clear hT hF K)) | refine bcall_f (by assumption) ?_ | refine bcall_a (by assumption) ?_))); fail_if_success (first | (have hX := hK; clear hX) | (have hX := hT; clear hX))) | refine Wp.seq ?_))
  simp (maxSteps := 2000000) (disch := omega) only [RUN, TY, RUND, aop, ofV, SV.ofD, aLoad, aStore, aField, aPart, aLen, aSlice, aIface, aMakeFunc, aExtract, abuiltin, aConvX, aConvL, aCopy, CV.exact, CV.lstOf, CV.lenOf, CV.one, D.one, Value.oneCell', CV.toD0, isFull, ownId, ptrLike, nilD, retD, bodyQ, thenQ, blockQ, reduceCtorEq, reduceIte, if_true, if_false, ite_true, ite_false, Nat.reduceBEq, Nat.reduceEqDiff, Nat.reduceAdd, Nat.reduceMul, Nat.reduceSub, Nat.reduceLT, Nat.reduceLeDiff, Nat.reduceBNe, Int.reduceLE, Int.reduceLT, Int.reduceBEq, Int.reduceBNe, Int.reduceEq, Int.reduceNeg, Int.reduceAdd, Int.reduceSub, Int.reduceToNat, ne_eq, true_implies, false_implies, forall_const, implies_true, exists_eq_left, exists_eq_left', eq_self, beq_self_eq_true]
end Go.Proofs.YtdpfjdkjimaocaaDoor
