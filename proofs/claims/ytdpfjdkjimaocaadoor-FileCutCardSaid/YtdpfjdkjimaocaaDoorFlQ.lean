/- FileCut. -/
import Derived.Test.YtdpfjdkjimaocaaDoorFlP
import Derived.Test.YtdpfjdkjimaocaaDoorFlN
import Derived.Test.YtdpfjdkjimaocaaDoorFlO
namespace Go.Proofs.YtdpfjdkjimaocaaDoor
open Go Go.RowKit
set_option maxHeartbeats 8000000
set_option maxRecDepth 100000
set_option linter.unusedVariables false
set_option linter.unusedSimpArgs false
abbrev nwS : DiskS := ⟨[], 65536, -1, false⟩
abbrev oneS (x : List UInt8) (sure : Int) : DiskS := ⟨[⟨[97], x, sure⟩], 65536, -1, false⟩
theorem nw_new : newF 65536 = (nwS, 0) := by rfl
theorem do_new {x : List UInt8} (hx : x ≠ []) (hl : x.length ≤ 65536) : doF nwS ⟨2, [97], x, 0⟩ = (oneS x x.length, 0) := by
  have hv : validB [] 65536 = true := by decide
  have hxb : (x == []) = false := by simpa using hx
  have ho : opB ⟨2, [97], x, 0⟩ = true := by
    have : nameB [97] = true := by decide
    simp [opB, this, hxb]
  have hlt : ¬ ((65536 : Int) < (x.length : Int)) := by omega
  simp [doF, hv, ho, fitsO, isAt, fileAt, findAt, late, moreI, usedF, withF, behAt, afterF, hxb, hx, hlt]
theorem get_one (x : List UInt8) (n : Int) : getB [⟨[97], x, n⟩] [97] = x := rfl
theorem fileCut_fun (ls : List (List UInt8)) (n : Int) (hn : -9223372036854775808 ≤ n ∧ n ≤ 9223372036854775807) : Fun Tryd.prog 7 [strsD ls, int n] (boo true) := by
  have hw := wakes5_fun
  by_cases h2 : 100 < ls.length
  · have d1 : decide ((100 : Int) < (ls.length : Int)) = true := decide_eq_true (by omega)
    (refine Fun.of_body Tryd.func7 rfl rfl Tryd.ntmps7 Tryd.results7 (by simp) ?_)
    (repeat (first | refine Wp.skip ?_ | refine Wp.exit ?_ | refine Wp.ret ?_ | refine Wp.block ?_ | refine Wp.label ?_ | ((first | (first | refine Wp.sreg (fun K hK => ?_) | refine Wp.reg (fun K hK => ?_) | refine Wp.sdrw mixed (fun K hK => ?_) | refine Wp.drw mixed (fun K hK => ?_)) | refine Wp.condG (fun K hT hF => ?_)); (repeat ((first | (have hX := hK; clear hX) | (have hX := hT; clear hX)); simp (maxSteps := 2000000) (disch := omega) only [RUN, TY, RUND, aop, ofV, SV.ofD, aLoad, aStore, aField, aPart, aLen, aSlice, aIface, aMakeFunc, aExtract, abuiltin, aConvX, aConvL, aCopy, CV.exact, CV.lstOf, CV.lenOf, CV.one, D.one, Value.oneCell', CV.toD0, isFull, ownId, ptrLike, nilD, retD, bodyQ, thenQ, blockQ, reduceCtorEq, reduceIte, if_true, if_false, ite_true, ite_false, Nat.reduceBEq, Nat.reduceEqDiff, Nat.reduceAdd, Nat.reduceMul, Nat.reduceSub, Nat.reduceLT, Nat.reduceLeDiff, Nat.reduceBNe, Int.reduceLE, Int.reduceLT, Int.reduceBEq, Int.reduceBNe, Int.reduceEq, Int.reduceNeg, Int.reduceAdd, Int.reduceSub, Int.reduceToNat, ne_eq, true_implies, false_implies, forall_const, implies_true, exists_eq_left, exists_eq_left', eq_self, d1]; (first | (first | (refine hK _ ?_; clear hK K) | (refine ⟨by kernel_rfl, hK _ ?_⟩; clear hK K) | (refine hT ?_; clear hT hF K) | (refine hF ?_; clear hT hF K)) | refine bcall_f (by assumption) ?_ | refine bcall_a (by assumption) ?_))); fail_if_success (first | (have hX := hK; clear hX) | (have hX := hT; clear hX))) | refine Wp.seq ?_))
    simp (maxSteps := 2000000) (disch := omega) only [RUN, TY, RUND, aop, ofV, SV.ofD, aLoad, aStore, aField, aPart, aLen, aSlice, aIface, aMakeFunc, aExtract, abuiltin, aConvX, aConvL, aCopy, CV.exact, CV.lstOf, CV.lenOf, CV.one, D.one, Value.oneCell', CV.toD0, isFull, ownId, ptrLike, nilD, retD, bodyQ, thenQ, blockQ, reduceCtorEq, reduceIte, if_true, if_false, ite_true, ite_false, Nat.reduceBEq, Nat.reduceEqDiff, Nat.reduceAdd, Nat.reduceMul, Nat.reduceSub, Nat.reduceLT, Nat.reduceLeDiff, Nat.reduceBNe, Int.reduceLE, Int.reduceLT, Int.reduceBEq, Int.reduceBNe, Int.reduceEq, Int.reduceNeg, Int.reduceAdd, Int.reduceSub, Int.reduceToNat, ne_eq, true_implies, false_implies, forall_const, implies_true, exists_eq_left, exists_eq_left', eq_self]
  have d1 : decide ((100 : Int) < (ls.length : Int)) = false := decide_eq_false (by omega)
  have hg5 := great5_fun ls (by omega)
  cases h3 : great5 ls with
  | true =>
    rw [h3] at hg5
    (refine Fun.of_body Tryd.func7 rfl rfl Tryd.ntmps7 Tryd.results7 (by simp) ?_)
    (repeat (first | refine Wp.skip ?_ | refine Wp.exit ?_ | refine Wp.ret ?_ | refine Wp.block ?_ | refine Wp.label ?_ | ((first | (first | refine Wp.sreg (fun K hK => ?_) | refine Wp.reg (fun K hK => ?_) | refine Wp.sdrw mixed (fun K hK => ?_) | refine Wp.drw mixed (fun K hK => ?_)) | refine Wp.condG (fun K hT hF => ?_)); (repeat ((first | (have hX := hK; clear hX) | (have hX := hT; clear hX)); simp (maxSteps := 2000000) (disch := omega) only [RUN, TY, RUND, aop, ofV, SV.ofD, aLoad, aStore, aField, aPart, aLen, aSlice, aIface, aMakeFunc, aExtract, abuiltin, aConvX, aConvL, aCopy, CV.exact, CV.lstOf, CV.lenOf, CV.one, D.one, Value.oneCell', CV.toD0, isFull, ownId, ptrLike, nilD, retD, bodyQ, thenQ, blockQ, reduceCtorEq, reduceIte, if_true, if_false, ite_true, ite_false, Nat.reduceBEq, Nat.reduceEqDiff, Nat.reduceAdd, Nat.reduceMul, Nat.reduceSub, Nat.reduceLT, Nat.reduceLeDiff, Nat.reduceBNe, Int.reduceLE, Int.reduceLT, Int.reduceBEq, Int.reduceBNe, Int.reduceEq, Int.reduceNeg, Int.reduceAdd, Int.reduceSub, Int.reduceToNat, ne_eq, true_implies, false_implies, forall_const, implies_true, exists_eq_left, exists_eq_left', eq_self, d1]; (first | (first | (refine hK _ ?_; clear hK K) | (refine ⟨by kernel_rfl, hK _ ?_⟩; clear hK K) | (refine hT ?_; clear hT hF K) | (refine hF ?_; clear hT hF K)) | refine bcall_f (by assumption) ?_ | refine bcall_a (by assumption) ?_))); fail_if_success (first | (have hX := hK; clear hX) | (have hX := hT; clear hX))) | refine Wp.seq ?_))
    simp (maxSteps := 2000000) (disch := omega) only [RUN, TY, RUND, aop, ofV, SV.ofD, aLoad, aStore, aField, aPart, aLen, aSlice, aIface, aMakeFunc, aExtract, abuiltin, aConvX, aConvL, aCopy, CV.exact, CV.lstOf, CV.lenOf, CV.one, D.one, Value.oneCell', CV.toD0, isFull, ownId, ptrLike, nilD, retD, bodyQ, thenQ, blockQ, reduceCtorEq, reduceIte, if_true, if_false, ite_true, ite_false, Nat.reduceBEq, Nat.reduceEqDiff, Nat.reduceAdd, Nat.reduceMul, Nat.reduceSub, Nat.reduceLT, Nat.reduceLeDiff, Nat.reduceBNe, Int.reduceLE, Int.reduceLT, Int.reduceBEq, Int.reduceBNe, Int.reduceEq, Int.reduceNeg, Int.reduceAdd, Int.reduceSub, Int.reduceToNat, ne_eq, true_implies, false_implies, forall_const, implies_true, exists_eq_left, exists_eq_left', eq_self]
  | false =>
  rw [h3] at hg5
  have hl5 := great5_mem h3
  have hll : ∀ l ∈ ls, l.length ≤ 1000000 := fun l hl => by have := hl5 l hl; omega
  have c3 := fbytes_fun ls (by omega) hll
  have hbl := bytesF_len (ls := ls) (n := 100) (by omega)
  by_cases he : bytesE ls = 0
  rotate_left
  · have e1 : (bytesE ls != 0) = true := by simpa using he
    (refine Fun.of_body Tryd.func7 rfl rfl Tryd.ntmps7 Tryd.results7 (by simp) ?_)
    (repeat (first | refine Wp.skip ?_ | refine Wp.exit ?_ | refine Wp.ret ?_ | refine Wp.block ?_ | refine Wp.label ?_ | ((first | (first | refine Wp.sreg (fun K hK => ?_) | refine Wp.reg (fun K hK => ?_) | refine Wp.sdrw mixed (fun K hK => ?_) | refine Wp.drw mixed (fun K hK => ?_)) | refine Wp.condG (fun K hT hF => ?_)); (repeat ((first | (have hX := hK; clear hX) | (have hX := hT; clear hX)); simp (maxSteps := 2000000) (disch := omega) only [RUN, TY, RUND, aop, ofV, SV.ofD, aLoad, aStore, aField, aPart, aLen, aSlice, aIface, aMakeFunc, aExtract, abuiltin, aConvX, aConvL, aCopy, CV.exact, CV.lstOf, CV.lenOf, CV.one, D.one, Value.oneCell', CV.toD0, isFull, ownId, ptrLike, nilD, retD, bodyQ, thenQ, blockQ, reduceCtorEq, reduceIte, if_true, if_false, ite_true, ite_false, Nat.reduceBEq, Nat.reduceEqDiff, Nat.reduceAdd, Nat.reduceMul, Nat.reduceSub, Nat.reduceLT, Nat.reduceLeDiff, Nat.reduceBNe, Int.reduceLE, Int.reduceLT, Int.reduceBEq, Int.reduceBNe, Int.reduceEq, Int.reduceNeg, Int.reduceAdd, Int.reduceSub, Int.reduceToNat, ne_eq, true_implies, false_implies, forall_const, implies_true, exists_eq_left, exists_eq_left', eq_self, d1, e1]; (first | (first | (refine hK _ ?_; clear hK K) | (refine ⟨by kernel_rfl, hK _ ?_⟩; clear hK K) | (refine hT ?_; clear hT hF K) | (refine hF ?_; clear hT hF K)) | refine bcall_f (by assumption) ?_ | refine bcall_a (by assumption) ?_))); fail_if_success (first | (have hX := hK; clear hX) | (have hX := hT; clear hX))) | refine Wp.seq ?_))
    simp (maxSteps := 2000000) (disch := omega) only [RUN, TY, RUND, aop, ofV, SV.ofD, aLoad, aStore, aField, aPart, aLen, aSlice, aIface, aMakeFunc, aExtract, abuiltin, aConvX, aConvL, aCopy, CV.exact, CV.lstOf, CV.lenOf, CV.one, D.one, Value.oneCell', CV.toD0, isFull, ownId, ptrLike, nilD, retD, bodyQ, thenQ, blockQ, reduceCtorEq, reduceIte, if_true, if_false, ite_true, ite_false, Nat.reduceBEq, Nat.reduceEqDiff, Nat.reduceAdd, Nat.reduceMul, Nat.reduceSub, Nat.reduceLT, Nat.reduceLeDiff, Nat.reduceBNe, Int.reduceLE, Int.reduceLT, Int.reduceBEq, Int.reduceBNe, Int.reduceEq, Int.reduceNeg, Int.reduceAdd, Int.reduceSub, Int.reduceToNat, ne_eq, true_implies, false_implies, forall_const, implies_true, exists_eq_left, exists_eq_left', eq_self]
  obtain ⟨hbj, hgood⟩ := bytes_ok he
  rw [he] at c3
  obtain ⟨b, hb⟩ : ∃ b, b = bytesF ls := ⟨_, rfl⟩
  rw [← hb] at c3 hbl hbj
  clear he hb
  by_cases h4 : b = []
  · have e1 : (b == []) = true := by simpa using h4
    (refine Fun.of_body Tryd.func7 rfl rfl Tryd.ntmps7 Tryd.results7 (by simp) ?_)
    (repeat (first | refine Wp.skip ?_ | refine Wp.exit ?_ | refine Wp.ret ?_ | refine Wp.block ?_ | refine Wp.label ?_ | ((first | (first | refine Wp.sreg (fun K hK => ?_) | refine Wp.reg (fun K hK => ?_) | refine Wp.sdrw mixed (fun K hK => ?_) | refine Wp.drw mixed (fun K hK => ?_)) | refine Wp.condG (fun K hT hF => ?_)); (repeat ((first | (have hX := hK; clear hX) | (have hX := hT; clear hX)); simp (maxSteps := 2000000) (disch := omega) only [RUN, TY, RUND, aop, ofV, SV.ofD, aLoad, aStore, aField, aPart, aLen, aSlice, aIface, aMakeFunc, aExtract, abuiltin, aConvX, aConvL, aCopy, CV.exact, CV.lstOf, CV.lenOf, CV.one, D.one, Value.oneCell', CV.toD0, isFull, ownId, ptrLike, nilD, retD, bodyQ, thenQ, blockQ, reduceCtorEq, reduceIte, if_true, if_false, ite_true, ite_false, Nat.reduceBEq, Nat.reduceEqDiff, Nat.reduceAdd, Nat.reduceMul, Nat.reduceSub, Nat.reduceLT, Nat.reduceLeDiff, Nat.reduceBNe, Int.reduceLE, Int.reduceLT, Int.reduceBEq, Int.reduceBNe, Int.reduceEq, Int.reduceNeg, Int.reduceAdd, Int.reduceSub, Int.reduceToNat, ne_eq, true_implies, false_implies, forall_const, implies_true, exists_eq_left, exists_eq_left', eq_self, d1, e1]; (first | (first | (refine hK _ ?_; clear hK K) | (refine ⟨by kernel_rfl, hK _ ?_⟩; clear hK K) | (refine hT ?_; clear hT hF K) | (refine hF ?_; clear hT hF K)) | refine bcall_f (by assumption) ?_ | refine bcall_a (by assumption) ?_))); fail_if_success (first | (have hX := hK; clear hX) | (have hX := hT; clear hX))) | refine Wp.seq ?_))
    simp (maxSteps := 2000000) (disch := omega) only [RUN, TY, RUND, aop, ofV, SV.ofD, aLoad, aStore, aField, aPart, aLen, aSlice, aIface, aMakeFunc, aExtract, abuiltin, aConvX, aConvL, aCopy, CV.exact, CV.lstOf, CV.lenOf, CV.one, D.one, Value.oneCell', CV.toD0, isFull, ownId, ptrLike, nilD, retD, bodyQ, thenQ, blockQ, reduceCtorEq, reduceIte, if_true, if_false, ite_true, ite_false, Nat.reduceBEq, Nat.reduceEqDiff, Nat.reduceAdd, Nat.reduceMul, Nat.reduceSub, Nat.reduceLT, Nat.reduceLeDiff, Nat.reduceBNe, Int.reduceLE, Int.reduceLT, Int.reduceBEq, Int.reduceBNe, Int.reduceEq, Int.reduceNeg, Int.reduceAdd, Int.reduceSub, Int.reduceToNat, ne_eq, true_implies, false_implies, forall_const, implies_true, exists_eq_left, exists_eq_left', eq_self]
  have e1 : (b == []) = false := by simpa using h4
  by_cases h5 : 65536 < b.length
  · have d2 : decide ((65536 : Int) < (b.length : Int)) = true := decide_eq_true (by omega)
    (refine Fun.of_body Tryd.func7 rfl rfl Tryd.ntmps7 Tryd.results7 (by simp) ?_)
    (repeat (first | refine Wp.skip ?_ | refine Wp.exit ?_ | refine Wp.ret ?_ | refine Wp.block ?_ | refine Wp.label ?_ | ((first | (first | refine Wp.sreg (fun K hK => ?_) | refine Wp.reg (fun K hK => ?_) | refine Wp.sdrw mixed (fun K hK => ?_) | refine Wp.drw mixed (fun K hK => ?_)) | refine Wp.condG (fun K hT hF => ?_)); (repeat ((first | (have hX := hK; clear hX) | (have hX := hT; clear hX)); simp (maxSteps := 2000000) (disch := omega) only [RUN, TY, RUND, aop, ofV, SV.ofD, aLoad, aStore, aField, aPart, aLen, aSlice, aIface, aMakeFunc, aExtract, abuiltin, aConvX, aConvL, aCopy, CV.exact, CV.lstOf, CV.lenOf, CV.one, D.one, Value.oneCell', CV.toD0, isFull, ownId, ptrLike, nilD, retD, bodyQ, thenQ, blockQ, reduceCtorEq, reduceIte, if_true, if_false, ite_true, ite_false, Nat.reduceBEq, Nat.reduceEqDiff, Nat.reduceAdd, Nat.reduceMul, Nat.reduceSub, Nat.reduceLT, Nat.reduceLeDiff, Nat.reduceBNe, Int.reduceLE, Int.reduceLT, Int.reduceBEq, Int.reduceBNe, Int.reduceEq, Int.reduceNeg, Int.reduceAdd, Int.reduceSub, Int.reduceToNat, ne_eq, true_implies, false_implies, forall_const, implies_true, exists_eq_left, exists_eq_left', eq_self, d1, e1, d2]; (first | (first | (refine hK _ ?_; clear hK K) | (refine ⟨by kernel_rfl, hK _ ?_⟩; clear hK K) | (refine hT ?_; clear hT hF K) | (refine hF ?_; clear hT hF K)) | refine bcall_f (by assumption) ?_ | refine bcall_a (by assumption) ?_))); fail_if_success (first | (have hX := hK; clear hX) | (have hX := hT; clear hX))) | refine Wp.seq ?_))
    simp (maxSteps := 2000000) (disch := omega) only [RUN, TY, RUND, aop, ofV, SV.ofD, aLoad, aStore, aField, aPart, aLen, aSlice, aIface, aMakeFunc, aExtract, abuiltin, aConvX, aConvL, aCopy, CV.exact, CV.lstOf, CV.lenOf, CV.one, D.one, Value.oneCell', CV.toD0, isFull, ownId, ptrLike, nilD, retD, bodyQ, thenQ, blockQ, reduceCtorEq, reduceIte, if_true, if_false, ite_true, ite_false, Nat.reduceBEq, Nat.reduceEqDiff, Nat.reduceAdd, Nat.reduceMul, Nat.reduceSub, Nat.reduceLT, Nat.reduceLeDiff, Nat.reduceBNe, Int.reduceLE, Int.reduceLT, Int.reduceBEq, Int.reduceBNe, Int.reduceEq, Int.reduceNeg, Int.reduceAdd, Int.reduceSub, Int.reduceToNat, ne_eq, true_implies, false_implies, forall_const, implies_true, exists_eq_left, exists_eq_left', eq_self]
  have d2 : decide ((65536 : Int) < (b.length : Int)) = false := decide_eq_false (by omega)
  have c4 := new_fun' 65536
  rw [nw_new] at c4
  have hk0 : ((b.length : Int) + 1) ≠ 0 := by omega
  have r1 := Int.lt_tmod_of_pos n (show (0 : Int) < (b.length : Int) + 1 by omega)
  have r2 := Int.tmod_lt_of_pos n (show (0 : Int) < (b.length : Int) + 1 by omega)
  have r3 := Int.tmod_nonneg ((b.length : Int) + 1) (show 0 ≤ n.tmod ((b.length : Int) + 1) + ((b.length : Int) + 1) by omega)
  have r4 := Int.tmod_lt_of_pos (n.tmod ((b.length : Int) + 1) + ((b.length : Int) + 1)) (show (0 : Int) < (b.length : Int) + 1 by omega)
  obtain ⟨m, hm⟩ : ∃ m : Nat, (n.tmod ((b.length : Int) + 1) + ((b.length : Int) + 1)).tmod ((b.length : Int) + 1) = m := ⟨_, (Int.toNat_of_nonneg r3).symm⟩
  rw [hm] at r3 r4
  (refine Fun.of_body Tryd.func7 rfl rfl Tryd.ntmps7 Tryd.results7 (by simp) ?_)
  by_cases hm0 : m = 0
  · subst hm0
    (repeat (first | refine Wp.skip ?_ | refine Wp.exit ?_ | refine Wp.ret ?_ | refine Wp.block ?_ | refine Wp.label ?_ | ((first | (first | refine Wp.sreg (fun K hK => ?_) | refine Wp.reg (fun K hK => ?_) | refine Wp.sdrw mixed (fun K hK => ?_) | refine Wp.drw mixed (fun K hK => ?_)) | refine Wp.condG (fun K hT hF => ?_)); (repeat ((first | (have hX := hK; clear hX) | (have hX := hT; clear hX)); simp (maxSteps := 2000000) (disch := omega) only [RUN, TY, RUND, aop, ofV, SV.ofD, aLoad, aStore, aField, aPart, aLen, aSlice, aIface, aMakeFunc, aExtract, abuiltin, aConvX, aConvL, aCopy, CV.exact, CV.lstOf, CV.lenOf, CV.one, D.one, Value.oneCell', CV.toD0, isFull, ownId, ptrLike, nilD, retD, bodyQ, thenQ, blockQ, reduceCtorEq, reduceIte, if_true, if_false, ite_true, ite_false, Nat.reduceBEq, Nat.reduceEqDiff, Nat.reduceAdd, Nat.reduceMul, Nat.reduceSub, Nat.reduceLT, Nat.reduceLeDiff, Nat.reduceBNe, Int.reduceLE, Int.reduceLT, Int.reduceBEq, Int.reduceBNe, Int.reduceEq, Int.reduceNeg, Int.reduceAdd, Int.reduceSub, Int.reduceToNat, ne_eq, true_implies, false_implies, forall_const, implies_true, exists_eq_left, exists_eq_left', eq_self, d1, e1, d2, bin_rem hk0, hm]; (first | (first | (refine hK _ ?_; clear hK K) | (refine ⟨by kernel_rfl, hK _ ?_⟩; clear hK K) | (refine hT ?_; clear hT hF K) | (refine hF ?_; clear hT hF K)) | refine bcall_f (by assumption) ?_ | refine bcall_a (by assumption) ?_))); fail_if_success (first | (have hX := hK; clear hX) | (have hX := hT; clear hX))) | refine Wp.seq ?_))
    simp (maxSteps := 2000000) (disch := omega) only [RUN, TY, RUND, aop, ofV, SV.ofD, aLoad, aStore, aField, aPart, aLen, aSlice, aIface, aMakeFunc, aExtract, abuiltin, aConvX, aConvL, aCopy, CV.exact, CV.lstOf, CV.lenOf, CV.one, D.one, Value.oneCell', CV.toD0, isFull, ownId, ptrLike, nilD, retD, bodyQ, thenQ, blockQ, reduceCtorEq, reduceIte, if_true, if_false, ite_true, ite_false, Nat.reduceBEq, Nat.reduceEqDiff, Nat.reduceAdd, Nat.reduceMul, Nat.reduceSub, Nat.reduceLT, Nat.reduceLeDiff, Nat.reduceBNe, Int.reduceLE, Int.reduceLT, Int.reduceBEq, Int.reduceBNe, Int.reduceEq, Int.reduceNeg, Int.reduceAdd, Int.reduceSub, Int.reduceToNat, ne_eq, true_implies, false_implies, forall_const, implies_true, exists_eq_left, exists_eq_left', eq_self]
  have e2 : ((m : Int) == 0) = false := by simpa using hm0
  have hxl : (b.take m).length = m := by rw [List.length_take]; omega
  have hx0 : b.take m ≠ [] := by intro q; rw [q] at hxl; simp at hxl; omega
  have f1 : List.take (m - 0) (List.drop 0 b) = b.take m := by simp
  have f2 : (m ≤ b.length) = True := by simp; omega
  have c5 := do_fun nwS ⟨2, [97], b.take m, 0⟩ small_nil (by simp) (by simp only; omega) (by decide)
  rw [do_new hx0 (by omega)] at c5
  have c6 := loads_fun (oneS (b.take m) (b.take m).length).fs 65536 (-1) false [97] (by simp) (by intro f hf; simp only [List.mem_singleton] at hf; subst hf; simp only; omega)
  rw [get_one] at c6
  obtain ⟨j, hj, hcut⟩ := lod_cut ls m hgood
  obtain ⟨rest, g1, g2, g3⟩ := lod_join (b.take m)
  have g4 := lod_mem (b.take m)
  rw [← hbj] at hcut
  obtain ⟨a, ha⟩ : ∃ a, a = lodF (b.take m) := ⟨_, rfl⟩
  have hal : a.length ≤ ls.length := by rw [ha, hcut, List.length_take]; omega
  have haa : ls.take a.length = a := by
    have h7 : a = ls.take j := by rw [ha, hcut]
    have h8 : a.length = j := by rw [h7, List.length_take]; omega
    rw [h8]; exact h7.symm
  rw [← ha] at c6 g1 g4
  obtain ⟨hbf, hbe⟩ := bytes_good g4
  have c7 := texts_fun a (ls.take a.length) (by omega) (by rw [haa]; omega)
  rw [show decide (a = ls.take a.length) = true by simp [haa]] at c7
  have c8 := fbytes_fun a (by omega) (fun l hl => by have := g4 l hl; omega)
  rw [hbf, hbe] at c8
  have hjl := joinF_len a g4
  have hsum : ((joinF a).length : Int) + tornF (b.take m) = m := by
    have := congrArg List.length g1
    rw [hxl, List.length_append] at this
    omega
  have hT0 : 0 ≤ tornF (b.take m) := by omega
  generalize tornF (b.take m) = T at *
  simp only [strsD, List.map_take] at c7
  simp only [WriteD.dv, hxl] at c5 c6
  have hal2 : decide ((ls.length : Int) < (a.length : Int)) = false := decide_eq_false (by omega)
  generalize hxe : b.take m = x at *
  have f3 : (((joinF a).length : Int) + T == (m : Int)) = true := by simpa using hsum
  have f5 : (a.length ≤ ls.length) = True := by simp; omega
  (repeat (first | refine Wp.skip ?_ | refine Wp.exit ?_ | refine Wp.ret ?_ | refine Wp.block ?_ | refine Wp.label ?_ | ((first | (first | refine Wp.sreg (fun K hK => ?_) | refine Wp.reg (fun K hK => ?_) | refine Wp.sdrw mixed (fun K hK => ?_) | refine Wp.drw mixed (fun K hK => ?_)) | refine Wp.condG (fun K hT hF => ?_)); (repeat ((first | (have hX := hK; clear hX) | (have hX := hT; clear hX)); simp (maxSteps := 2000000) (disch := omega) only [RUN, TY, RUND, aop, ofV, SV.ofD, aLoad, aStore, aField, aPart, aLen, aSlice, aIface, aMakeFunc, aExtract, abuiltin, aConvX, aConvL, aCopy, CV.exact, CV.lstOf, CV.lenOf, CV.one, D.one, Value.oneCell', CV.toD0, isFull, ownId, ptrLike, nilD, retD, bodyQ, thenQ, blockQ, reduceCtorEq, reduceIte, if_true, if_false, ite_true, ite_false, Nat.reduceBEq, Nat.reduceEqDiff, Nat.reduceAdd, Nat.reduceMul, Nat.reduceSub, Nat.reduceLT, Nat.reduceLeDiff, Nat.reduceBNe, Int.reduceLE, Int.reduceLT, Int.reduceBEq, Int.reduceBNe, Int.reduceEq, Int.reduceNeg, Int.reduceAdd, Int.reduceSub, Int.reduceToNat, ne_eq, true_implies, false_implies, forall_const, implies_true, exists_eq_left, exists_eq_left', eq_self, d1, e1, d2, bin_rem hk0, hm, e2, f2, hxe, hal2, f5]; (first | (first | (refine hK _ ?_; clear hK K) | (refine ⟨by kernel_rfl, hK _ ?_⟩; clear hK K) | (refine hT ?_; clear hT hF K) | (refine hF ?_; clear hT hF K)) | refine bcall_f (by assumption) ?_ | refine bcall_a (by assumption) ?_))); fail_if_success (first | (have hX := hK; clear hX) | (have hX := hT; clear hX))) | refine Wp.seq ?_))
  have f6 : ((m : Int) == ((joinF a).length : Int)) = !decide (0 < T) := by
    rw [Bool.eq_iff_iff, beq_iff_eq, Bool.not_eq_true', decide_eq_false_iff_not]; omega
  (cases hp : ((a.length : Int) == (ls.length : Int)) <;> cases hq : decide (0 < T)) <;>
  · (repeat (first | refine Wp.skip ?_ | refine Wp.exit ?_ | refine Wp.ret ?_ | refine Wp.block ?_ | refine Wp.label ?_ | ((first | (first | refine Wp.sreg (fun K hK => ?_) | refine Wp.reg (fun K hK => ?_) | refine Wp.sdrw mixed (fun K hK => ?_) | refine Wp.drw mixed (fun K hK => ?_)) | refine Wp.condG (fun K hT hF => ?_)); (repeat ((first | (have hX := hK; clear hX) | (have hX := hT; clear hX)); simp (maxSteps := 2000000) (disch := omega) only [RUN, TY, RUND, aop, ofV, SV.ofD, aLoad, aStore, aField, aPart, aLen, aSlice, aIface, aMakeFunc, aExtract, abuiltin, aConvX, aConvL, aCopy, CV.exact, CV.lstOf, CV.lenOf, CV.one, D.one, Value.oneCell', CV.toD0, isFull, ownId, ptrLike, nilD, retD, bodyQ, thenQ, blockQ, reduceCtorEq, reduceIte, if_true, if_false, ite_true, ite_false, Nat.reduceBEq, Nat.reduceEqDiff, Nat.reduceAdd, Nat.reduceMul, Nat.reduceSub, Nat.reduceLT, Nat.reduceLeDiff, Nat.reduceBNe, Int.reduceLE, Int.reduceLT, Int.reduceBEq, Int.reduceBNe, Int.reduceEq, Int.reduceNeg, Int.reduceAdd, Int.reduceSub, Int.reduceToNat, ne_eq, true_implies, false_implies, forall_const, implies_true, exists_eq_left, exists_eq_left', eq_self, f3, hp, hq, f6]; (first | (first | (refine hK _ ?_; clear hK K) | (refine ⟨by kernel_rfl, hK _ ?_⟩; clear hK K) | (refine hT ?_; clear hT hF K) | (refine hF ?_; clear hT hF K)) | refine bcall_f (by assumption) ?_ | refine bcall_a (by assumption) ?_))); fail_if_success (first | (have hX := hK; clear hX) | (have hX := hT; clear hX))) | refine Wp.seq ?_))
    simp (maxSteps := 2000000) (disch := omega) only [RUN, TY, RUND, aop, ofV, SV.ofD, aLoad, aStore, aField, aPart, aLen, aSlice, aIface, aMakeFunc, aExtract, abuiltin, aConvX, aConvL, aCopy, CV.exact, CV.lstOf, CV.lenOf, CV.one, D.one, Value.oneCell', CV.toD0, isFull, ownId, ptrLike, nilD, retD, bodyQ, thenQ, blockQ, reduceCtorEq, reduceIte, if_true, if_false, ite_true, ite_false, Nat.reduceBEq, Nat.reduceEqDiff, Nat.reduceAdd, Nat.reduceMul, Nat.reduceSub, Nat.reduceLT, Nat.reduceLeDiff, Nat.reduceBNe, Int.reduceLE, Int.reduceLT, Int.reduceBEq, Int.reduceBNe, Int.reduceEq, Int.reduceNeg, Int.reduceAdd, Int.reduceSub, Int.reduceToNat, ne_eq, true_implies, false_implies, forall_const, implies_true, exists_eq_left, exists_eq_left', eq_self]
end Go.Proofs.YtdpfjdkjimaocaaDoor
