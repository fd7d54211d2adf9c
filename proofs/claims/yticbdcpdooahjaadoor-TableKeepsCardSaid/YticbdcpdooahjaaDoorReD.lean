/- Package read: fetch and Fetch of what is committed; Check. -/
import Derived.Test.YticbdcpdooahjaaDoorReC
namespace Go.Proofs.YticbdcpdooahjaaDoor
open Go Go.RowKit
set_option maxHeartbeats 4000000
set_option maxRecDepth 100000
set_option linter.unusedVariables false
set_option linter.unusedSimpArgs false
theorem part_range {p : PartD} (h : partB p = true) : 0 ≤ p.start ∧ p.start ≤ p.fin ∧ p.fin ≤ 1048576 := by
  simp only [partB, Bool.and_eq_true, Bool.not_eq_true', rangeBad, Bool.or_eq_false_iff, decide_eq_false_iff_not] at h
  omega
theorem Check_fun (p : PartD) (hs : Small p) : Fun Tryd.prog 110 [.agg p.dv] (int (if partB p then 0 else 2)) := by
  have c1 := check_fun p (by have := hs.rows; omega) (by have := hs.opens; omega)
  have c2 := code_err_read partTxt 2
  have c3 := code_nil_read
  simp only [PartD.dv] at c1
  (refine Fun.of_body Tryd.func110 rfl rfl Tryd.ntmps110 Tryd.results110 (by simp) ?_)
  cases hp : partB p <;> (
    simp only [hp, if_true, if_false, Bool.false_eq_true] at c1
    (repeat (first | refine Wp.skip ?_ | refine Wp.exit ?_ | refine Wp.ret ?_ | refine Wp.block ?_ | refine Wp.label ?_ | ((first | (first | refine Wp.sreg (fun K hK => ?_) | refine Wp.reg (fun K hK => ?_) | refine Wp.sdrw mixed (fun K hK => ?_) | refine Wp.drw mixed (fun K hK => ?_)) | refine Wp.condG (fun K hT hF => ?_)); (repeat ((first | (have hX := hK; clear hX) | (have hX := hT; clear hX)); simp (maxSteps := 2000000) (disch := omega) only [RUN, TY, RUND, aop, ofV, SV.ofD, aLoad, aStore, aField, aPart, aLen, aSlice, aIface, aMakeFunc, aExtract, abuiltin, aConvX, aConvL, aCopy, CV.exact, CV.lstOf, CV.lenOf, CV.one, D.one, Value.oneCell', CV.toD0, isFull, ownId, ptrLike, nilD, retD, bodyQ, thenQ, blockQ, reduceCtorEq, reduceIte, if_true, if_false, ite_true, ite_false, Nat.reduceBEq, Nat.reduceEqDiff, Nat.reduceAdd, Nat.reduceMul, Nat.reduceSub, Nat.reduceLT, Nat.reduceLeDiff, Nat.reduceBNe, Int.reduceLE, Int.reduceLT, Int.reduceBEq, Int.reduceBNe, Int.reduceEq, Int.reduceNeg, Int.reduceAdd, Int.reduceSub, Int.reduceToNat, ne_eq, true_implies, false_implies, forall_const, implies_true, exists_eq_left, exists_eq_left', eq_self, PartD.dv]; (first | (first | (refine hK _ ?_; clear hK K) | (refine ⟨by kernel_rfl, hK _ ?_⟩; clear hK K) | (refine hT ?_; clear hT hF K) | (refine hF ?_; clear hT hF K)) | refine bcall_f (by assumption) ?_ | refine bcall_a (by assumption) ?_))); fail_if_success (first | (have hX := hK; clear hX) | (have hX := hT; clear hX))) | refine Wp.seq ?_))
    simp (maxSteps := 2000000) (disch := omega) only [RUN, TY, RUND, aop, ofV, SV.ofD, aLoad, aStore, aField, aPart, aLen, aSlice, aIface, aMakeFunc, aExtract, abuiltin, aConvX, aConvL, aCopy, CV.exact, CV.lstOf, CV.lenOf, CV.one, D.one, Value.oneCell', CV.toD0, isFull, ownId, ptrLike, nilD, retD, bodyQ, thenQ, blockQ, reduceCtorEq, reduceIte, if_true, if_false, ite_true, ite_false, Nat.reduceBEq, Nat.reduceEqDiff, Nat.reduceAdd, Nat.reduceMul, Nat.reduceSub, Nat.reduceLT, Nat.reduceLeDiff, Nat.reduceBNe, Int.reduceLE, Int.reduceLT, Int.reduceBEq, Int.reduceBNe, Int.reduceEq, Int.reduceNeg, Int.reduceAdd, Int.reduceSub, Int.reduceToNat, ne_eq, true_implies, false_implies, forall_const, implies_true, exists_eq_left, exists_eq_left', eq_self])
end Go.Proofs.YticbdcpdooahjaaDoor
