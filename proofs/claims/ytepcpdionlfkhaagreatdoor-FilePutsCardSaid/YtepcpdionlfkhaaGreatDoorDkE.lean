/- Disks: after, fits. -/
import Derived.Test.YtepcpdionlfkhaaGreatDoorDkD
namespace Go.Proofs.YtepcpdionlfkhaaGreatDoor
open Go Go.RowKit
set_option maxHeartbeats 1000000
set_option maxRecDepth 100000
set_option linter.unusedVariables false
set_option linter.unusedSimpArgs false
set_option maxHeartbeats 4000000
def afterF (f : FileD) (w : WriteD) : FileD :=
  if w.op = 4 then ⟨f.name, [], 0⟩ else if w.op = 3 then ⟨f.name, f.b.take w.n.toNat, (f.b.take w.n.toNat).length⟩ else if w.op = 1 then ⟨f.name, f.b, f.b.length⟩
  else if w.op = 2 then ⟨f.name, w.b, w.b.length⟩ else if w.op = 0 then ⟨f.name, f.b ++ w.b, f.sure⟩ else f
theorem after_fun (f : FileD) (w : WriteD) (h1 : f.b.length ≤ 1000000) (h2 : w.b.length ≤ 1000000) (h3 : w.op = 3 → 0 ≤ w.n ∧ w.n ≤ f.b.length) : Fun Tryz.prog 79 [.agg f.dv, .agg w.dv] (.agg (afterF f w).dv) := by
  obtain ⟨op, file, b, n⟩ := w
  obtain ⟨nm, fb, sure⟩ := f
  simp only at h1 h2 h3
  (refine Fun.of_body Tryz.func79 rfl rfl Tryz.ntmps79 Tryz.results79 (by simp) ?_)
  (refine Wp.sreg (fun K hK => ?_); simp (maxSteps := 2000000) (disch := omega) only [RUN, TY, RUNB, aop, SV.ofD, Value.oneCell', Nat.reduceBEq, Nat.reduceAdd, Nat.reduceLT, FileD.dv, WriteD.dv]; refine hK _ ?_; clear hK K)
  by_cases e4 : op = 4
  · subst e4
    (repeat (first | refine Wp.skip ?_ | refine Wp.exit ?_ | refine Wp.ret ?_ | refine Wp.block ?_ | refine Wp.label ?_ | ((first | (first | refine Wp.sreg (fun K hK => ?_) | refine Wp.reg (fun K hK => ?_) | refine Wp.sdrw mixed (fun K hK => ?_) | refine Wp.drw mixed (fun K hK => ?_)) | refine Wp.condG (fun K hT hF => ?_)); simp (maxSteps := 2000000) (disch := omega) only [RUN, TY, RUNB, aop, ofV, aLd, aSt, aFd, aLen, aSl, aBu, CV.exact, CV.one, D.one, Value.oneCell', Nat.reduceBEq, Nat.reduceAdd, Nat.reduceLT, Nat.reduceLeDiff, Int.reduceLE, Int.reduceToNat]; (first | (refine hK _ ?_; clear hK K) | (refine ⟨by kernel_rfl, hK _ ?_⟩; clear hK K) | (refine hT ?_; clear hT hF K) | (refine hF ?_; clear hT hF K))) | refine Wp.seq ?_))
    simp (maxSteps := 2000000) (disch := omega) only [RUN, TY, RUNB, aLd, CV.toD0, rD0, bQ0, Nat.reduceBEq, Nat.reduceAdd, Int.reduceEq, afterF, FileD.dv]
  by_cases e3 : op = 3
  · subst e3
    obtain ⟨q1, q2⟩ := h3 rfl
    obtain ⟨m, rfl⟩ : ∃ m : Nat, n = m := ⟨n.toNat, by omega⟩
    have q3 : m ≤ fb.length := by omega
    (repeat (first | refine Wp.skip ?_ | refine Wp.exit ?_ | refine Wp.ret ?_ | refine Wp.block ?_ | refine Wp.label ?_ | ((first | (first | refine Wp.sreg (fun K hK => ?_) | refine Wp.reg (fun K hK => ?_) | refine Wp.sdrw mixed (fun K hK => ?_) | refine Wp.drw mixed (fun K hK => ?_)) | refine Wp.condG (fun K hT hF => ?_)); simp (maxSteps := 2000000) (disch := omega) only [RUN, TY, RUNB, aop, ofV, aLd, aSt, aFd, aLen, aSl, aBu, CV.exact, CV.one, D.one, Value.oneCell', Nat.reduceBEq, Nat.reduceAdd, Nat.reduceLT, Nat.reduceLeDiff, Int.reduceBEq, q3, List.length_take, Nat.min_eq_left q3]; (first | (refine hK _ ?_; clear hK K) | (refine ⟨by kernel_rfl, hK _ ?_⟩; clear hK K) | (refine hT ?_; clear hT hF K) | (refine hF ?_; clear hT hF K))) | refine Wp.seq ?_))
    simp (maxSteps := 2000000) (disch := omega) only [RUN, TY, RUNB, aLd, CV.toD0, rD0, bQ0, Nat.reduceBEq, Nat.reduceAdd, Int.reduceEq, afterF, FileD.dv, List.length_take, Nat.min_eq_left q3]
  by_cases e1 : op = 1
  · subst e1
    (repeat (first | refine Wp.skip ?_ | refine Wp.exit ?_ | refine Wp.ret ?_ | refine Wp.block ?_ | refine Wp.label ?_ | ((first | (first | refine Wp.sreg (fun K hK => ?_) | refine Wp.reg (fun K hK => ?_) | refine Wp.sdrw mixed (fun K hK => ?_) | refine Wp.drw mixed (fun K hK => ?_)) | refine Wp.condG (fun K hT hF => ?_)); simp (maxSteps := 2000000) (disch := omega) only [RUN, TY, RUNB, aop, ofV, aLd, aSt, aFd, aLen, aBu, CV.one, D.one, Value.oneCell', Nat.reduceBEq, Nat.reduceAdd, Nat.reduceLT, Nat.reduceLeDiff, Int.reduceBEq]; (first | (refine hK _ ?_; clear hK K) | (refine ⟨by kernel_rfl, hK _ ?_⟩; clear hK K) | (refine hT ?_; clear hT hF K) | (refine hF ?_; clear hT hF K))) | refine Wp.seq ?_))
    simp (maxSteps := 2000000) (disch := omega) only [RUN, TY, RUNB, aLd, CV.toD0, rD0, bQ0, Nat.reduceBEq, Nat.reduceAdd, Int.reduceEq, afterF, FileD.dv]
  by_cases e2 : op = 2
  · subst e2
    have hz : ([] : List UInt8).length + b.length ≤ 9223372036854775807 := by simp; omega
    (repeat (first | refine Wp.skip ?_ | refine Wp.exit ?_ | refine Wp.ret ?_ | refine Wp.block ?_ | refine Wp.label ?_ | ((first | (first | refine Wp.sreg (fun K hK => ?_) | refine Wp.reg (fun K hK => ?_) | refine Wp.sdrw mixed (fun K hK => ?_) | refine Wp.drw mixed (fun K hK => ?_)) | refine Wp.condG (fun K hT hF => ?_)); simp (maxSteps := 2000000) (disch := omega) only [RUN, TY, RUNB, aop, ofV, aLd, aSt, aFd, aLen, aBu, CV.one, D.one, Value.oneCell', Nat.reduceBEq, Nat.reduceAdd, Nat.reduceLT, Nat.reduceLeDiff, Int.reduceBEq, sbin_add hz]; (first | (refine hK _ ?_; clear hK K) | (refine ⟨by kernel_rfl, hK _ ?_⟩; clear hK K) | (refine hT ?_; clear hT hF K) | (refine hF ?_; clear hT hF K))) | refine Wp.seq ?_))
    simp (maxSteps := 2000000) (disch := omega) only [RUN, TY, RUNB, aLd, CV.toD0, rD0, bQ0, Nat.reduceBEq, Nat.reduceAdd, Int.reduceEq, afterF, FileD.dv]
  by_cases e0 : op = 0
  · subst e0
    (repeat (first | refine Wp.skip ?_ | refine Wp.exit ?_ | refine Wp.ret ?_ | refine Wp.block ?_ | refine Wp.label ?_ | ((first | (first | refine Wp.sreg (fun K hK => ?_) | refine Wp.reg (fun K hK => ?_) | refine Wp.sdrw mixed (fun K hK => ?_) | refine Wp.drw mixed (fun K hK => ?_)) | refine Wp.condG (fun K hT hF => ?_)); simp (maxSteps := 2000000) (disch := omega) only [RUN, TY, RUNB, aop, ofV, aLd, aSt, aFd, CV.one, D.one, Value.oneCell', Nat.reduceBEq, Nat.reduceAdd, Nat.reduceLT, Nat.reduceLeDiff, Int.reduceBEq, sbin_add]; (first | (refine hK _ ?_; clear hK K) | (refine ⟨by kernel_rfl, hK _ ?_⟩; clear hK K) | (refine hT ?_; clear hT hF K) | (refine hF ?_; clear hT hF K))) | refine Wp.seq ?_))
    simp (maxSteps := 2000000) (disch := omega) only [RUN, TY, RUNB, aLd, CV.toD0, rD0, bQ0, Nat.reduceBEq, Nat.reduceAdd, Int.reduceEq, afterF, FileD.dv]
  have d0 : (op == 0) = false := by simpa using e0
  have d1 : (op == 1) = false := by simpa using e1
  have d2 : (op == 2) = false := by simpa using e2
  have d3 : (op == 3) = false := by simpa using e3
  have d4 : (op == 4) = false := by simpa using e4
  (repeat (first | refine Wp.skip ?_ | refine Wp.exit ?_ | refine Wp.ret ?_ | refine Wp.block ?_ | refine Wp.label ?_ | ((first | (first | refine Wp.sreg (fun K hK => ?_) | refine Wp.reg (fun K hK => ?_) | refine Wp.sdrw mixed (fun K hK => ?_) | refine Wp.drw mixed (fun K hK => ?_)) | refine Wp.condG (fun K hT hF => ?_)); simp (maxSteps := 2000000) (disch := omega) only [RUN, TY, RUNB, aop, ofV, aLd, aSt, aFd, Nat.reduceBEq, Nat.reduceAdd, Nat.reduceLT, Nat.reduceLeDiff, d0, d1, d2, d3, d4]; (first | (refine hK _ ?_; clear hK K) | (refine ⟨by kernel_rfl, hK _ ?_⟩; clear hK K) | (refine hT ?_; clear hT hF K) | (refine hF ?_; clear hT hF K))) | refine Wp.seq ?_))
  simp (maxSteps := 2000000) (disch := omega) only [RUN, TY, RUNB, aLd, CV.toD0, rD0, bQ0, Nat.reduceBEq, Nat.reduceAdd, afterF, FileD.dv, e0, e1, e2, e3, e4]
end Go.Proofs.YtepcpdionlfkhaaGreatDoor
