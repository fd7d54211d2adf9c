/- Room: may. -/
import Derived.Test.YtdpfjdkjimaocaaDoorRmA
import Derived.Test.YtdpfjdkjimaocaaDoorErE
namespace Go.Proofs.YtdpfjdkjimaocaaDoor
open Go Go.RowKit
set_option maxHeartbeats 4000000
set_option maxRecDepth 100000
set_option linter.unusedVariables false
set_option linter.unusedSimpArgs false
def minW (w : WriteD) : WriteD := if w.op = 3 then ⟨w.op, w.file, w.b, min w.n 1⟩ else w
def mayF (w : WriteD) : Bool := !((doF ⟨[⟨w.file, [120], 1⟩], 65536, -1, false⟩ (minW w)).2 == 2)
theorem min_op (w : WriteD) : opB (minW w) = opB w := by
  unfold minW
  split
  · rename_i h
    have e : decide (0 ≤ min w.n 1) = decide (0 ≤ w.n) := decide_eq_decide.2 (by omega)
    simp only [opB, h, e]
    simp
  · rfl
theorem may_op (w : WriteD) : mayF w = opB w := by
  have ho := min_op w
  have hf : (minW w).file = w.file := by unfold minW; split <;> rfl
  have hop : (minW w).op = w.op := by unfold minW; split <;> rfl
  unfold mayF doF
  simp only
  rw [ho]
  cases h : opB w with
  | false => simp
  | true =>
    have hn : nameB w.file = true := by simp only [opB, Bool.and_eq_true] at h; exact h.1
    have hv : validB [⟨w.file, [120], 1⟩] 65536 = true := by
      refine valid_iff.2 ⟨okF_cons.2 ⟨⟨⟨hn, by simp, by simp, by simp⟩, nil_less hn⟩, rfl⟩, by simp, by simp, by simp, by simp [usedF]⟩
    have hi : isAt [⟨w.file, [120], 1⟩] w.file = true := by simp [isAt, findAt, List.findIdx_cons, less_irr]
    have hfa : (fileAt [⟨w.file, [120], 1⟩] w.file).b = [120] := by
      obtain ⟨hlt, _, e⟩ := isAt_lt hi
      rw [e]
      have : findAt [(⟨w.file, [120], 1⟩ : FileD)] w.file = 0 := by simp at hlt; omega
      simp [this]
    rw [hv, hf]
    have key : ∀ r, fitsO [⟨w.file, [120], 1⟩] 65536 (minW w) (fileAt [⟨w.file, [120], 1⟩] w.file) (isAt [⟨w.file, [120], 1⟩] w.file) = some r → r.2 ≠ 2 := by
      intro r hr
      unfold fitsO at hr
      rw [hi, hfa] at hr
      simp only [Bool.true_eq_false, if_false, false_and] at hr
      split at hr
      · have : ¬ (([120] : List UInt8).length : Int) < (minW w).n := by
          rcases op_cases h with ⟨e, _, hb⟩ | ⟨e, _, hb⟩ | ⟨e, _, hb⟩ | ⟨e, _, hb⟩ | ⟨e, _, hb⟩
          · simp [minW, e, hb]
          · simp [minW, e, hb]
          · simp only [minW, e, if_true]; simp; omega
          · simp [minW, e, hb]
          · simp [minW, e, hb]
        rw [if_neg this] at hr; cases hr
      · split at hr
        · cases hr; simp
        · cases hr
    simp only [Bool.and_self, Bool.not_true, Bool.false_eq_true, if_false]
    rw [if_neg (by decide)]
    split
    · rename_i s n hs
      have := key _ hs
      simpa using this
    · rfl
theorem may_fun (w : WriteD) (hw : w.file.length ≤ 1000000) (hb : w.b.length ≤ 1000000) : Fun Tryd.prog 70 [.agg w.dv] (boo (opB w)) := by
  have hd := do_fun ⟨[⟨w.file, [120], 1⟩], 65536, -1, false⟩ (minW w) (small_one _ hw (by simp)) (by unfold minW; split <;> exact hw) (by unfold minW; split <;> exact hb) (by simp)
  have hi := fun n => is_errno n 2
  rw [← may_op w]
  unfold mayF
  generalize doF ⟨[⟨w.file, [120], 1⟩], 65536, -1, false⟩ (minW w) = r at hd
  obtain ⟨⟨fs, cap, left, down⟩, e⟩ := r
  have hi := hi e
  obtain ⟨op, nm, b, n⟩ := w
  unfold minW at hd
  (refine Fun.of_body Tryd.func70 rfl rfl Tryd.ntmps70 Tryd.results70 (by simp) ?_)
  by_cases h3 : op = 3
  · subst h3
    simp only [if_true] at hd
    rw [show min n 1 = (if 1 < n then 1 else n) by rw [Int.min_def]; split <;> split <;> omega] at hd
    (repeat (first | refine Wp.skip ?_ | refine Wp.exit ?_ | refine Wp.ret ?_ | refine Wp.block ?_ | refine Wp.label ?_ | ((first | (first | refine Wp.sreg (fun K hK => ?_) | refine Wp.reg (fun K hK => ?_) | refine Wp.sdrw mixed (fun K hK => ?_) | refine Wp.drw mixed (fun K hK => ?_)) | refine Wp.condG (fun K hT hF => ?_)); (repeat ((first | (have hX := hK; clear hX) | (have hX := hT; clear hX)); simp (maxSteps := 2000000) (disch := omega) only [RUN, TY, RUND, aop, ofV, SV.ofD, aLoad, aStore, aField, aPart, aLen, aSlice, aIface, aMakeFunc, aExtract, abuiltin, aConvX, aConvL, aCopy, CV.exact, CV.lstOf, CV.lenOf, CV.one, D.one, Value.oneCell', CV.toD0, isFull, ownId, ptrLike, nilD, retD, bodyQ, thenQ, blockQ, reduceCtorEq, reduceIte, if_true, if_false, ite_true, ite_false, Nat.reduceBEq, Nat.reduceEqDiff, Nat.reduceAdd, Nat.reduceMul, Nat.reduceSub, Nat.reduceLT, Nat.reduceLeDiff, Nat.reduceBNe, Int.reduceLE, Int.reduceLT, Int.reduceBEq, Int.reduceBNe, Int.reduceEq, Int.reduceNeg, Int.reduceAdd, Int.reduceSub, Int.reduceToNat, ne_eq, true_implies, false_implies, forall_const, implies_true, exists_eq_left, exists_eq_left', eq_self, WriteD.dv]; (first | (first | (refine hK _ ?_; clear hK K) | (refine ⟨by kernel_rfl, hK _ ?_⟩; clear hK K) | (refine hT ?_; clear hT hF K) | (refine hF ?_; clear hT hF K)) | refine bcall_f (by assumption) ?_ | refine bcall_a (by assumption) ?_))); fail_if_success (first | (have hX := hK; clear hX) | (have hX := hT; clear hX))) | refine Wp.seq ?_))
    simp (maxSteps := 2000000) (disch := omega) only [RUN, TY, RUND, aop, ofV, SV.ofD, aLoad, aStore, aField, aPart, aLen, aSlice, aIface, aMakeFunc, aExtract, abuiltin, aConvX, aConvL, aCopy, CV.exact, CV.lstOf, CV.lenOf, CV.one, D.one, Value.oneCell', CV.toD0, isFull, ownId, ptrLike, nilD, retD, bodyQ, thenQ, blockQ, reduceCtorEq, reduceIte, if_true, if_false, ite_true, ite_false, Nat.reduceBEq, Nat.reduceEqDiff, Nat.reduceAdd, Nat.reduceMul, Nat.reduceSub, Nat.reduceLT, Nat.reduceLeDiff, Nat.reduceBNe, Int.reduceLE, Int.reduceLT, Int.reduceBEq, Int.reduceBNe, Int.reduceEq, Int.reduceNeg, Int.reduceAdd, Int.reduceSub, Int.reduceToNat, ne_eq, true_implies, false_implies, forall_const, implies_true, exists_eq_left, exists_eq_left', eq_self, bne]
  · have d3 : (op == 3) = false := by simpa using h3
    simp only [h3, if_false] at hd
    (repeat (first | refine Wp.skip ?_ | refine Wp.exit ?_ | refine Wp.ret ?_ | refine Wp.block ?_ | refine Wp.label ?_ | ((first | (first | refine Wp.sreg (fun K hK => ?_) | refine Wp.reg (fun K hK => ?_) | refine Wp.sdrw mixed (fun K hK => ?_) | refine Wp.drw mixed (fun K hK => ?_)) | refine Wp.condG (fun K hT hF => ?_)); (repeat ((first | (have hX := hK; clear hX) | (have hX := hT; clear hX)); simp (maxSteps := 2000000) (disch := omega) only [RUN, TY, RUND, aop, ofV, SV.ofD, aLoad, aStore, aField, aPart, aLen, aSlice, aIface, aMakeFunc, aExtract, abuiltin, aConvX, aConvL, aCopy, CV.exact, CV.lstOf, CV.lenOf, CV.one, D.one, Value.oneCell', CV.toD0, isFull, ownId, ptrLike, nilD, retD, bodyQ, thenQ, blockQ, reduceCtorEq, reduceIte, if_true, if_false, ite_true, ite_false, Nat.reduceBEq, Nat.reduceEqDiff, Nat.reduceAdd, Nat.reduceMul, Nat.reduceSub, Nat.reduceLT, Nat.reduceLeDiff, Nat.reduceBNe, Int.reduceLE, Int.reduceLT, Int.reduceBEq, Int.reduceBNe, Int.reduceEq, Int.reduceNeg, Int.reduceAdd, Int.reduceSub, Int.reduceToNat, ne_eq, true_implies, false_implies, forall_const, implies_true, exists_eq_left, exists_eq_left', eq_self, WriteD.dv, d3]; (first | (first | (refine hK _ ?_; clear hK K) | (refine ⟨by kernel_rfl, hK _ ?_⟩; clear hK K) | (refine hT ?_; clear hT hF K) | (refine hF ?_; clear hT hF K)) | refine bcall_f (by assumption) ?_ | refine bcall_a (by assumption) ?_))); fail_if_success (first | (have hX := hK; clear hX) | (have hX := hT; clear hX))) | refine Wp.seq ?_))
    simp (maxSteps := 2000000) (disch := omega) only [RUN, TY, RUND, aop, ofV, SV.ofD, aLoad, aStore, aField, aPart, aLen, aSlice, aIface, aMakeFunc, aExtract, abuiltin, aConvX, aConvL, aCopy, CV.exact, CV.lstOf, CV.lenOf, CV.one, D.one, Value.oneCell', CV.toD0, isFull, ownId, ptrLike, nilD, retD, bodyQ, thenQ, blockQ, reduceCtorEq, reduceIte, if_true, if_false, ite_true, ite_false, Nat.reduceBEq, Nat.reduceEqDiff, Nat.reduceAdd, Nat.reduceMul, Nat.reduceSub, Nat.reduceLT, Nat.reduceLeDiff, Nat.reduceBNe, Int.reduceLE, Int.reduceLT, Int.reduceBEq, Int.reduceBNe, Int.reduceEq, Int.reduceNeg, Int.reduceAdd, Int.reduceSub, Int.reduceToNat, ne_eq, true_implies, false_implies, forall_const, implies_true, exists_eq_left, exists_eq_left', eq_self, bne]
end Go.Proofs.YtdpfjdkjimaocaaDoor
