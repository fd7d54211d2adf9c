/- The abstract machine (DkV, DkW, DkX). -/
import Derived.Test.YtepcpdionlfkhaaGreatDoorDkU
import Derived.Test.YtepcpdionlfkhaaGreatDoorMacC
namespace Go.Proofs.YtepcpdionlfkhaaGreatDoor
open Go Go.RowKit
set_option maxHeartbeats 4000000
set_option maxRecDepth 100000
set_option linter.unusedVariables false
set_option linter.unusedSimpArgs false
theorem len_zero (b : List UInt8) : (((b.length : Nat) : Int) == 0) = (b == []) := by cases b <;> simp <;> omega
theorem not_less (a b : List UInt8) : (!Op.bytesLess a b) = (Op.bytesLess b a || b == a) := by
  rcases less_tot a b with h | h | h
  · rw [h, less_asym h]
    have := less_ne h
    simp only [beq_eq_false_iff_ne] at this
    simp [Ne.symm this]
  · subst h; simp [less_irr]
  · rw [less_asym h, h]; rfl
def badR (k : Nat) (last : List UInt8) (f : FileD) : Bool := !nameB f.name || f.b == [] || decide (f.sure < 0) || decide ((f.b.length : Int) < f.sure) || (decide (0 < (k : Int)) && !Op.bytesLess last f.name)
theorem badR_eq (fs : List FileD) (k : Nat) (f : FileD) : badR k (lastN fs k) f = badF (lastN fs k) f := by
  unfold badR badF
  rw [not_less]
  by_cases hk : k = 0
  · subst hk
    have : (f.name == [] && nameB f.name) = false := by cases h : f.name <;> simp [nameB]
    simp only [lastN]
    cases h1 : nameB f.name <;> cases h2 : f.b == [] <;> cases h3 : f.name == [] <;> simp_all [Op.bytesLess]
  · have : decide ((0 : Int) < (k : Int)) = true := by simp; omega
    rw [this]
    cases nameB f.name <;> cases f.b == [] <;> cases (Op.bytesLess f.name (lastN fs k) || f.name == lastN fs k) <;> simp
theorem refCheck_fun (fs : List FileD) (cap left : Int) (down : Bool) (hs : Small fs) : Fun Tryz.prog 85 [diskD fs cap left down] (int (if validB fs cap then 0 else 2)) := by
  have hu := hs.used
  have hl := hs.1
  have hus := refUsed_fun fs cap left down (by omega) (by omega)
  (refine Fun.of_body Tryz.func85 rfl rfl Tryz.ntmps85 Tryz.results85 (by simp) ?_)
  (repeat (first | apply Wp.skip | apply Wp.exit | apply Wp.ret | apply Wp.block | apply Wp.label | ((first | refine Wp.sreg (fun K hK => ?_) | refine Wp.reg (fun K hK => ?_) | refine Wp.sdrw mixed (fun K hK => ?_) | refine Wp.drw mixed (fun K hK => ?_) | refine Wp.condG (fun K hK hF => ?_)); (repeat (revert hK; intro hK; simp (maxSteps := 2000000) (disch := omega) only [RUN, TY, RUNB, aop, ofV, SV.ofD, aLd, aFd, aLen, aBu, CV.exact, CV.lenOf, Nat.reduceBEq, Nat.reduceAdd, Nat.reduceLT, Nat.reduceLeDiff]; (first | (refine hK _ ?_; clear hK K) | (refine ⟨by kernel_rfl, hK _ ?_⟩; clear hK K) | (refine hK ?_; clear hK hF K) | (refine hF ?_; clear hK hF K) | refine bcf (by assumption) ?_ | refine bca (by assumption) ?_))); fail_if_success (revert hK; intro hK)) | apply Wp.seq))
  (first | refine Wp.stoD 25 (vb (badTop fs cap || decide (cap < (usedF fs : Int)))) mixed ?_ ?_ | refine Wp.rtoDS 25 (vb (badTop fs cap || decide (cap < (usedF fs : Int)))) mixed ?_ ?_ | (refine Wp.seq ?_; first | refine Wp.stoD 25 (vb (badTop fs cap || decide (cap < (usedF fs : Int)))) mixed ?_ ?_ | refine Wp.rtoDS 25 (vb (badTop fs cap || decide (cap < (usedF fs : Int)))) mixed ?_ ?_))
  · have e : badTop fs cap = (decide (64 < (fs.length : Int)) || decide (cap < 0) || decide (65536 < cap)) := by
      unfold badTop; cases decide (64 < (fs.length : Int)) <;> simp
    rw [e]
    ((rcases Bool.eq_false_or_eq_true (decide (64 < (fs.length : Int))) with hL1 | hL1) <;> (rcases Bool.eq_false_or_eq_true (decide (cap < 0)) with hL2 | hL2) <;> (rcases Bool.eq_false_or_eq_true (decide (65536 < cap)) with hL3 | hL3) <;> ((simp (maxSteps := 2000000) (disch := omega) only [RUN, TY, RUNB, aop, ofV, aLd, aFd, aLen, aBu, CV.exact, CV.lenOf, CV.toD0, oWn, Nat.reduceBEq, Nat.reduceAdd, Nat.reduceLT, Nat.reduceLeDiff, hL1, hL2, hL3]; (repeat (refine bcf (by assumption) ?_; simp (maxSteps := 2000000) (disch := omega) only [RUN, TY, RUNB, aop, ofV, SV.ofD, aLd, aFd, CV.exact, Nat.reduceBEq, Nat.reduceAdd, Nat.reduceLT, Nat.reduceLeDiff]))); all_goals (exact (show okTr _ _ = true by kernel_rfl))))
  refine Wp.cond (by simp (maxSteps := 2000000) (disch := omega) only [RUN, RUNB]; rfl) (fun h => ?_) (fun h => ?_)
  · have : validB fs cap = false := by
      simp only [validB]
      simp only [Bool.or_eq_true] at h
      rcases h with h | h <;> simp only [h] <;> simp
    rw [this]
    (repeat (first | apply Wp.skip | apply Wp.exit | apply Wp.ret | apply Wp.block | apply Wp.label | ((first | refine Wp.sreg (fun K hK => ?_) | refine Wp.reg (fun K hK => ?_) | refine Wp.sdrw mixed (fun K hK => ?_) | refine Wp.drw mixed (fun K hK => ?_) | refine Wp.condG (fun K hK hF => ?_)); (repeat (revert hK; intro hK; simp (maxSteps := 2000000) (disch := omega) only [RUN, RUNB, aop, ofV, Nat.reduceAdd, Nat.reduceLT]; (first | (refine hK _ ?_; clear hK K) | (refine ⟨by kernel_rfl, hK _ ?_⟩; clear hK K) | (refine hK ?_; clear hK hF K) | (refine hF ?_; clear hK hF K) | refine bcf (by assumption) ?_ | refine bca (by assumption) ?_))); fail_if_success (revert hK; intro hK)) | apply Wp.seq))
    simp (maxSteps := 2000000) (disch := omega) only [RUN, RUNB, rD0, bQ0, tQ0]
  · have ht := h
    simp only [Bool.or_eq_false_iff] at ht
    (repeat (first | apply Wp.skip | apply Wp.exit | apply Wp.ret | apply Wp.block | apply Wp.label | ((first | refine Wp.sreg (fun K hK => ?_) | refine Wp.reg (fun K hK => ?_) | refine Wp.sdrw mixed (fun K hK => ?_) | refine Wp.drw mixed (fun K hK => ?_) | refine Wp.condG (fun K hK hF => ?_)); (repeat (revert hK; intro hK; simp (maxSteps := 2000000) (disch := omega) only [RUN, RUNB, aop, ofV, Nat.reduceAdd, Nat.reduceLT]; (first | (refine hK _ ?_; clear hK K) | (refine ⟨by kernel_rfl, hK _ ?_⟩; clear hK K) | (refine hK ?_; clear hK hF K) | (refine hF ?_; clear hK hF K) | refine bcf (by assumption) ?_ | refine bca (by assumption) ?_))); fail_if_success (revert hK; intro hK)) | apply Wp.seq))
    refine Wp.loop (fun k : Nat => ⟨ofL [(1, .c (.own 0 0)), (3, vi .i64 k)], ofH [(0, .cells [.d (.lst 3 (fs.map FileD.dv)), .d (int cap), .d (int left), .d (boo down)])], 1, 77, 0⟩)
      (fun k => k ≤ fs.length ∧ okFiles [] fs = okFiles (lastN fs k) (fs.drop k)) (fun k => fs.length - k) 0 ⟨Nat.zero_le _, rfl⟩ ?_ ?_
    · refine Weak.keep rfl rfl ?_
      simp (maxSteps := 2000000) (disch := omega) only [RUN, RUNB, Nat.reduceBEq]
    rintro k ⟨hk, hok⟩
    (repeat (first | apply Wp.skip | apply Wp.exit | apply Wp.ret | apply Wp.block | apply Wp.label | ((first | refine Wp.sreg (fun K hK => ?_) | refine Wp.reg (fun K hK => ?_) | refine Wp.sdrw mixed (fun K hK => ?_) | refine Wp.drw mixed (fun K hK => ?_) | refine Wp.condG (fun K hK hF => ?_)); (repeat (revert hK; intro hK; simp (maxSteps := 2000000) (disch := omega) only [RUN, TY, RUNB, aop, aLd, aFd, aLen, aBu, CV.lenOf, Nat.reduceBEq, Nat.reduceAdd, Nat.reduceLT, Nat.reduceLeDiff]; (first | (refine hK _ ?_; clear hK K) | (refine ⟨by kernel_rfl, hK _ ?_⟩; clear hK K) | (refine hK ?_; clear hK hF K) | (refine hF ?_; clear hK hF K) | refine bcf (by assumption) ?_ | refine bca (by assumption) ?_))); fail_if_success (revert hK; intro hK)) | apply Wp.seq))
    refine Wp.cond (by simp (maxSteps := 2000000) (disch := omega) only [RUN, RUNB]; rfl) (fun h => ?_) (fun h => ?_)
    · have hlt : k < fs.length := by simpa using h
      have hf := hs.2 fs[k] (List.getElem_mem hlt)
      have hd : fs.drop k = fs[k] :: fs.drop (k + 1) := (List.drop_eq_getElem_cons hlt)
      have hln : lastN fs (k + 1) = fs[k].name := by simp [lastN, hlt]
      have hnm := refName_fun fs[k].name (by omega)
      rw [hd] at hok
      simp only [okFiles] at hok
      (repeat (first | apply Wp.skip | apply Wp.exit | apply Wp.ret | apply Wp.block | apply Wp.label | ((first | refine Wp.sreg (fun K hK => ?_) | refine Wp.reg (fun K hK => ?_) | refine Wp.sdrw mixed (fun K hK => ?_) | refine Wp.drw mixed (fun K hK => ?_) | refine Wp.condG (fun K hK hF => ?_)); (repeat (revert hK; intro hK; simp (maxSteps := 2000000) (disch := omega) only [RUN, TY, RUNB, aop, SV.ofD, aLd, aSt, aFd, CV.exact, CV.lstOf, Value.oneCell', oWn, Nat.reduceBEq, Nat.reduceAdd, Nat.reduceLT, Nat.reduceLeDiff, List.getElem?_eq_getElem hlt, FileD.dv]; (first | (refine hK _ ?_; clear hK K) | (refine ⟨by kernel_rfl, hK _ ?_⟩; clear hK K) | (refine hK ?_; clear hK hF K) | (refine hF ?_; clear hK hF K) | refine bcf (by assumption) ?_ | refine bca (by assumption) ?_))); fail_if_success (revert hK; intro hK)) | apply Wp.seq))
      (first | refine Wp.stoD 76 (vb (badF (lastN fs k) fs[k])) mixed ?_ ?_ | refine Wp.rtoDS 76 (vb (badF (lastN fs k) fs[k])) mixed ?_ ?_ | (refine Wp.seq ?_; first | refine Wp.stoD 76 (vb (badF (lastN fs k) fs[k])) mixed ?_ ?_ | refine Wp.rtoDS 76 (vb (badF (lastN fs k) fs[k])) mixed ?_ ?_))
      · rw [← badR_eq]
        cases hk0 : decide ((0 : Int) < (k : Int)) with
        | false =>
          ((rcases Bool.eq_false_or_eq_true (!nameB fs[k].name) with hL1 | hL1) <;> (rcases Bool.eq_false_or_eq_true (fs[k].b == []) with hL2 | hL2) <;> (rcases Bool.eq_false_or_eq_true (decide (fs[k].sure < 0)) with hL3 | hL3) <;> (rcases Bool.eq_false_or_eq_true (decide ((fs[k].b.length : Int) < fs[k].sure)) with hL4 | hL4) <;> ((simp (maxSteps := 2000000) (disch := omega) only [RUN, TY, RUNB, aop, aLd, aFd, oWn, Nat.reduceAdd, Nat.reduceLT, Nat.reduceLeDiff, hL1, hL2, hL3, hL4, hk0, badR]; (repeat (refine bcf (by assumption) ?_; simp (maxSteps := 2000000) (disch := omega) only [RUN, TY, RUNB, aop, ofV, SV.ofD, aLd, aFd, aLen, aBu, CV.exact, Nat.reduceBEq, Nat.reduceAdd, Nat.reduceLT, Nat.reduceLeDiff, hL1, hL2, hL3, hL4, hk0, len_zero]))); all_goals (exact (show okTr _ _ = true by kernel_rfl))))
        | true =>
          have hk1 : k - 1 < fs.length := by omega
          have hkp : 0 < k := by simpa using hk0
          have hkk : (k : Int) - 1 = ((k - 1 : Nat) : Int) := by omega
          have hla : lastN fs k = fs[k - 1].name := by
            obtain ⟨j, rfl⟩ : ∃ j, k = j + 1 := ⟨k - 1, by omega⟩
            have hj : j < fs.length := by omega
            simp [lastN, List.getElem?_eq_getElem hj]
          ((rcases Bool.eq_false_or_eq_true (!nameB fs[k].name) with hL1 | hL1) <;> (rcases Bool.eq_false_or_eq_true (fs[k].b == []) with hL2 | hL2) <;> (rcases Bool.eq_false_or_eq_true (decide (fs[k].sure < 0)) with hL3 | hL3) <;> (rcases Bool.eq_false_or_eq_true (decide ((fs[k].b.length : Int) < fs[k].sure)) with hL4 | hL4) <;> ((simp (maxSteps := 2000000) (disch := omega) only [RUN, TY, RUNB, aop, aLd, aFd, oWn, Nat.reduceAdd, Nat.reduceLT, Nat.reduceLeDiff, hL1, hL2, hL3, hL4, hk0, badR, List.getElem?_eq_getElem hk1, hla]; (repeat (refine bcf (by assumption) ?_; simp (maxSteps := 2000000) (disch := omega) only [RUN, TY, RUNB, aop, ofV, SV.ofD, aLd, aFd, aLen, aBu, CV.exact, CV.lstOf, Nat.reduceBEq, Nat.reduceAdd, Nat.reduceLT, Nat.reduceLeDiff, hL1, hL2, hL3, hL4, hk0, len_zero, hkk, List.getElem?_eq_getElem hk1, FileD.dv]))); all_goals (exact (show okTr _ _ = true by kernel_rfl))))
      refine Wp.cond (by simp (maxSteps := 2000000) (disch := omega) only [RUN, RUNB]; rfl) (fun h => ?_) (fun h => ?_)
      · have : validB fs cap = false := by simp [validB, hok, h]
        rw [this]
        (repeat (first | apply Wp.skip | apply Wp.exit | apply Wp.ret | apply Wp.block | apply Wp.label | ((first | refine Wp.sreg (fun K hK => ?_) | refine Wp.reg (fun K hK => ?_) | refine Wp.sdrw mixed (fun K hK => ?_) | refine Wp.drw mixed (fun K hK => ?_) | refine Wp.condG (fun K hK hF => ?_)); (repeat (revert hK; intro hK; simp (maxSteps := 2000000) (disch := omega) only [RUN, RUNB, aop, ofV, Nat.reduceAdd, Nat.reduceLT]; (first | (refine hK _ ?_; clear hK K) | (refine ⟨by kernel_rfl, hK _ ?_⟩; clear hK K) | (refine hK ?_; clear hK hF K) | (refine hF ?_; clear hK hF K) | refine bcf (by assumption) ?_ | refine bca (by assumption) ?_))); fail_if_success (revert hK; intro hK)) | apply Wp.seq))
        simp (maxSteps := 2000000) (disch := omega) only [RUN, RUNB, rD0, bQ0, tQ0, kQ0]
      · (repeat (first | apply Wp.skip | apply Wp.exit | apply Wp.ret | apply Wp.block | apply Wp.label | ((first | refine Wp.sreg (fun K hK => ?_) | refine Wp.reg (fun K hK => ?_) | refine Wp.sdrw mixed (fun K hK => ?_) | refine Wp.drw mixed (fun K hK => ?_) | refine Wp.condG (fun K hK hF => ?_)); (repeat (revert hK; intro hK; simp (maxSteps := 2000000) (disch := omega) only [RUN, RUNB, aop, ofV, Nat.reduceBEq, Nat.reduceAdd, Nat.reduceLT]; (first | (refine hK _ ?_; clear hK K) | (refine ⟨by kernel_rfl, hK _ ?_⟩; clear hK K) | (refine hK ?_; clear hK hF K) | (refine hF ?_; clear hK hF K) | refine bcf (by assumption) ?_ | refine bca (by assumption) ?_))); fail_if_success (revert hK; intro hK)) | apply Wp.seq))
        refine ⟨k + 1, ⟨by omega, by rw [hok, h, hln]; rfl⟩, by omega, Weak.keep rfl rfl ?_⟩
        simp (maxSteps := 2000000) (disch := omega) only [RUN, RUNB, Nat.reduceBEq]
    · have hlt : k = fs.length := by simp at h; omega
      have hok' : okFiles [] fs = true := by rw [hok, hlt, List.drop_length]; rfl
      have : validB fs cap = true := by simp only [validB, hok', ht]; rfl
      rw [this]
      (repeat (first | apply Wp.skip | apply Wp.exit | apply Wp.ret | apply Wp.block | apply Wp.label | ((first | refine Wp.sreg (fun K hK => ?_) | refine Wp.reg (fun K hK => ?_) | refine Wp.sdrw mixed (fun K hK => ?_) | refine Wp.drw mixed (fun K hK => ?_) | refine Wp.condG (fun K hK hF => ?_)); (repeat (revert hK; intro hK; simp (maxSteps := 2000000) (disch := omega) only [RUN, RUNB, aop, ofV, Nat.reduceAdd, Nat.reduceLT]; (first | (refine hK _ ?_; clear hK K) | (refine ⟨by kernel_rfl, hK _ ?_⟩; clear hK K) | (refine hK ?_; clear hK hF K) | (refine hF ?_; clear hK hF K) | refine bcf (by assumption) ?_ | refine bca (by assumption) ?_))); fail_if_success (revert hK; intro hK)) | apply Wp.seq))
      simp (maxSteps := 2000000) (disch := omega) only [RUN, RUNB, rD0, bQ0]
theorem refSame_fun (s o : DiskS) (hl : s.fs.length < 2 ^ 62) : Fun Tryz.prog 18 [s.d, o.d] (boo (sameB s o)) := by
  obtain ⟨fs, cap, left, down⟩ := s
  obtain ⟨gs, cap', left', down'⟩ := o
  simp only at hl
  (refine Fun.of_body Tryz.func18 rfl rfl Tryz.ntmps18 Tryz.results18 (by simp) ?_)
  (repeat (first | apply Wp.skip | apply Wp.exit | apply Wp.ret | apply Wp.block | apply Wp.label | ((first | refine Wp.sreg (fun K hK => ?_) | refine Wp.reg (fun K hK => ?_) | refine Wp.sdrw mixed (fun K hK => ?_) | refine Wp.drw mixed (fun K hK => ?_) | refine Wp.condG (fun K hK hF => ?_)); (repeat (revert hK; intro hK; simp (maxSteps := 2000000) (disch := omega) only [RUN, TY, RUNB, aop, ofV, SV.ofD, aLd, aFd, CV.exact, Nat.reduceBEq, Nat.reduceAdd, Nat.reduceLT, Nat.reduceLeDiff]; (first | (refine hK _ ?_; clear hK K) | (refine ⟨by kernel_rfl, hK _ ?_⟩; clear hK K) | (refine hK ?_; clear hK hF K) | (refine hF ?_; clear hK hF K) | refine bcf (by assumption) ?_ | refine bca (by assumption) ?_))); fail_if_success (revert hK; intro hK)) | apply Wp.seq))
  (first | refine Wp.sto 33 (vb (!(cap == cap' && left == left' && down == down' && ((fs.length : Int) == (gs.length : Int))))) ?_ ?_ | refine Wp.rtoS 33 (vb (!(cap == cap' && left == left' && down == down' && ((fs.length : Int) == (gs.length : Int))))) ?_ ?_ | (refine Wp.seq ?_; first | refine Wp.sto 33 (vb (!(cap == cap' && left == left' && down == down' && ((fs.length : Int) == (gs.length : Int))))) ?_ ?_ | refine Wp.rtoS 33 (vb (!(cap == cap' && left == left' && down == down' && ((fs.length : Int) == (gs.length : Int))))) ?_ ?_))
  · ((rcases Bool.eq_false_or_eq_true (cap == cap') with hL1 | hL1) <;> (rcases Bool.eq_false_or_eq_true (left == left') with hL2 | hL2) <;> (rcases Bool.eq_false_or_eq_true (down == down') with hL3 | hL3) <;> ((simp (maxSteps := 2000000) (disch := omega) only [RUN, TY, RUNB, aop, ofV, aLd, aFd, aLen, aBu, CV.exact, CV.lenOf, Nat.reduceBEq, Nat.reduceAdd, Nat.reduceLT, Nat.reduceLeDiff, hL1, hL2, hL3, bne]; (repeat (refine bcf (by assumption) ?_; simp (maxSteps := 2000000) (disch := omega) only [RUN, TY, RUNB, aop, ofV, SV.ofD, aLd, aSt, aFd, aPt, aLen, aSl, aIf, aMF, aXt, aBu, aCX, aCL, aCy, CV.exact, CV.lstOf, CV.lenOf, CV.one, D.one, Value.oneCell', CV.toD0, iFl, oWn, pLk, nD0, rD0, bQ0, tQ0, kQ0, reduceCtorEq, reduceIte, Nat.reduceBEq, Nat.reduceEqDiff, Nat.reduceAdd, Nat.reduceMul, Nat.reduceSub, Nat.reduceLT, Nat.reduceLeDiff, Nat.reduceBNe, Int.reduceLE, Int.reduceLT, Int.reduceBEq, Int.reduceBNe, Int.reduceEq, Int.reduceNeg, Int.reduceAdd, Int.reduceSub, Int.reduceToNat, forall_const, hL1, hL2, hL3, bne]))); all_goals (exact (show okTr _ _ = true by kernel_rfl))))
  refine Wp.cond (by simp (maxSteps := 2000000) (disch := omega) only [RUN, RUNB]; rfl) (fun h => ?_) (fun h => ?_)
  · have : sameB ⟨fs, cap, left, down⟩ ⟨gs, cap', left', down'⟩ = false := by
      cases hd : decide (fs = gs) with
      | false => simp [sameB, hd]
      | true =>
        have hfg : fs = gs := by simpa using hd
        subst hfg
        simp only [sameB]
        simp only [beq_self_eq_true, Bool.and_true, Bool.not_eq_true'] at h
        rw [h]; rfl
    (repeat (first | apply Wp.skip | apply Wp.exit | apply Wp.ret | apply Wp.block | apply Wp.label | ((first | refine Wp.sreg (fun K hK => ?_) | refine Wp.reg (fun K hK => ?_) | refine Wp.sdrw mixed (fun K hK => ?_) | refine Wp.drw mixed (fun K hK => ?_) | refine Wp.condG (fun K hK hF => ?_)); (repeat (revert hK; intro hK; simp (maxSteps := 2000000) (disch := omega) only [RUN, RUNB, aop, ofV, Nat.reduceAdd, Nat.reduceLT]; (first | (refine hK _ ?_; clear hK K) | (refine ⟨by kernel_rfl, hK _ ?_⟩; clear hK K) | (refine hK ?_; clear hK hF K) | (refine hF ?_; clear hK hF K) | refine bcf (by assumption) ?_ | refine bca (by assumption) ?_))); fail_if_success (revert hK; intro hK)) | apply Wp.seq))
    simp (maxSteps := 2000000) (disch := omega) only [RUN, RUNB, rD0, bQ0, tQ0, this]
  · have hh : sameB ⟨fs, cap, left, down⟩ ⟨gs, cap', left', down'⟩ = decide (fs = gs) ∧ fs.length = gs.length := by
      simp only [Bool.not_eq_false', Bool.and_eq_true] at h
      refine ⟨by simp [sameB, h.1.1.1, h.1.1.2, h.1.2], ?_⟩
      have := h.2
      simp at this; omega
    obtain ⟨hsb, hlen⟩ := hh
    rw [hsb]
    (repeat (first | apply Wp.skip | apply Wp.exit | apply Wp.ret | apply Wp.block | apply Wp.label | ((first | refine Wp.sreg (fun K hK => ?_) | refine Wp.reg (fun K hK => ?_) | refine Wp.sdrw mixed (fun K hK => ?_) | refine Wp.drw mixed (fun K hK => ?_) | refine Wp.condG (fun K hK hF => ?_)); (repeat (revert hK; intro hK; simp (maxSteps := 2000000) (disch := omega) only [RUN, RUNB, aop, ofV, Nat.reduceAdd, Nat.reduceLT]; (first | (refine hK _ ?_; clear hK K) | (refine ⟨by kernel_rfl, hK _ ?_⟩; clear hK K) | (refine hK ?_; clear hK hF K) | (refine hF ?_; clear hK hF K) | refine bcf (by assumption) ?_ | refine bca (by assumption) ?_))); fail_if_success (revert hK; intro hK)) | apply Wp.seq))
    refine Wp.loop (fun k : Nat => ⟨ofL [(2, .c (.own 0 0)), (3, .c (.own 1 0)), (5, vi .i64 k)], ofH [(0, diskC ⟨fs, cap, left, down⟩), (1, diskC ⟨gs, cap', left', down'⟩)], 2, 52, 0⟩) (fun k => k ≤ fs.length ∧ fs.take k = gs.take k) (fun k => fs.length - k) 0 ⟨Nat.zero_le _, rfl⟩ ?_ ?_
    · refine Weak.keep rfl rfl ?_
      simp (maxSteps := 2000000) (disch := omega) only [RUN, RUNB, Nat.reduceBEq]
    rintro k ⟨hk, hall⟩
    (repeat (first | apply Wp.skip | apply Wp.exit | apply Wp.ret | apply Wp.block | apply Wp.label | ((first | refine Wp.sreg (fun K hK => ?_) | refine Wp.reg (fun K hK => ?_) | refine Wp.sdrw mixed (fun K hK => ?_) | refine Wp.drw mixed (fun K hK => ?_) | refine Wp.condG (fun K hK hF => ?_)); (repeat (revert hK; intro hK; simp (maxSteps := 2000000) (disch := omega) only [RUN, TY, RUNB, aop, aLd, aFd, aLen, aBu, CV.lenOf, Nat.reduceBEq, Nat.reduceAdd, Nat.reduceLT, Nat.reduceLeDiff]; (first | (refine hK _ ?_; clear hK K) | (refine ⟨by kernel_rfl, hK _ ?_⟩; clear hK K) | (refine hK ?_; clear hK hF K) | (refine hF ?_; clear hK hF K) | refine bcf (by assumption) ?_ | refine bca (by assumption) ?_))); fail_if_success (revert hK; intro hK)) | apply Wp.seq))
    refine Wp.cond (by simp (maxSteps := 2000000) (disch := omega) only [RUN, RUNB]; rfl) (fun h => ?_) (fun h => ?_)
    · have hlt : k < fs.length := by simpa using h
      have hlt2 : k < gs.length := by omega
      (repeat (first | apply Wp.skip | apply Wp.exit | apply Wp.ret | apply Wp.block | apply Wp.label | ((first | refine Wp.sreg (fun K hK => ?_) | refine Wp.reg (fun K hK => ?_) | refine Wp.sdrw mixed (fun K hK => ?_) | refine Wp.drw mixed (fun K hK => ?_) | refine Wp.condG (fun K hK hF => ?_)); (repeat (revert hK; intro hK; simp (maxSteps := 2000000) (disch := omega) only [RUN, TY, RUNB, aop, aLd, aFd, CV.exact, CV.lstOf, Nat.reduceBEq, Nat.reduceAdd, Nat.reduceLT, Nat.reduceLeDiff, List.getElem?_eq_getElem hlt, List.getElem?_eq_getElem hlt2, FileD.dv, file_bin, file_same]; (first | (refine hK _ ?_; clear hK K) | (refine ⟨by kernel_rfl, hK _ ?_⟩; clear hK K) | (refine hK ?_; clear hK hF K) | (refine hF ?_; clear hK hF K) | refine bcf (by assumption) ?_ | refine bca (by assumption) ?_))); fail_if_success (revert hK; intro hK)) | apply Wp.seq))
      refine Wp.cond (by simp (maxSteps := 2000000) (disch := omega) only [RUN, RUNB]; rfl) (fun h => ?_) (fun h => ?_)
      · have : ¬ fs = gs := by
          simp only [Bool.not_eq_true', decide_eq_false_iff_not] at h
          intro e; subst e; exact h rfl
        have : decide (fs = gs) = false := by simp [this]
        (repeat (first | apply Wp.skip | apply Wp.exit | apply Wp.ret | apply Wp.block | apply Wp.label | ((first | refine Wp.sreg (fun K hK => ?_) | refine Wp.reg (fun K hK => ?_) | refine Wp.sdrw mixed (fun K hK => ?_) | refine Wp.drw mixed (fun K hK => ?_) | refine Wp.condG (fun K hK hF => ?_)); (repeat (revert hK; intro hK; simp (maxSteps := 2000000) (disch := omega) only [RUN, RUNB, aop, ofV, Nat.reduceAdd, Nat.reduceLT]; (first | (refine hK _ ?_; clear hK K) | (refine ⟨by kernel_rfl, hK _ ?_⟩; clear hK K) | (refine hK ?_; clear hK hF K) | (refine hF ?_; clear hK hF K) | refine bcf (by assumption) ?_ | refine bca (by assumption) ?_))); fail_if_success (revert hK; intro hK)) | apply Wp.seq))
        simp (maxSteps := 2000000) (disch := omega) only [RUN, RUNB, rD0, bQ0, tQ0, kQ0, this]
      · simp only [Bool.not_eq_false', decide_eq_true_eq] at h
        (repeat (first | apply Wp.skip | apply Wp.exit | apply Wp.ret | apply Wp.block | apply Wp.label | ((first | refine Wp.sreg (fun K hK => ?_) | refine Wp.reg (fun K hK => ?_) | refine Wp.sdrw mixed (fun K hK => ?_) | refine Wp.drw mixed (fun K hK => ?_) | refine Wp.condG (fun K hK hF => ?_)); (repeat (revert hK; intro hK; simp (maxSteps := 2000000) (disch := omega) only [RUN, RUNB, aop, ofV, Nat.reduceBEq, Nat.reduceAdd, Nat.reduceLT]; (first | (refine hK _ ?_; clear hK K) | (refine ⟨by kernel_rfl, hK _ ?_⟩; clear hK K) | (refine hK ?_; clear hK hF K) | (refine hF ?_; clear hK hF K) | refine bcf (by assumption) ?_ | refine bca (by assumption) ?_))); fail_if_success (revert hK; intro hK)) | apply Wp.seq))
        refine ⟨k + 1, ⟨by omega, ?_⟩, by omega, Weak.keep rfl rfl ?_⟩
        · rw [List.take_succ_eq_append_getElem hlt, List.take_succ_eq_append_getElem hlt2, hall, h]
        simp (maxSteps := 2000000) (disch := omega) only [RUN, RUNB, Nat.reduceBEq]
    · have hlt : k = fs.length := by simp at h; omega
      have : fs = gs := by
        have h2 := hall
        rw [hlt, List.take_length, hlen, List.take_length] at h2; exact h2
      have : decide (fs = gs) = true := by simp [this]
      (repeat (first | apply Wp.skip | apply Wp.exit | apply Wp.ret | apply Wp.block | apply Wp.label | ((first | refine Wp.sreg (fun K hK => ?_) | refine Wp.reg (fun K hK => ?_) | refine Wp.sdrw mixed (fun K hK => ?_) | refine Wp.drw mixed (fun K hK => ?_) | refine Wp.condG (fun K hK hF => ?_)); (repeat (revert hK; intro hK; simp (maxSteps := 2000000) (disch := omega) only [RUN, RUNB, aop, ofV, Nat.reduceAdd, Nat.reduceLT]; (first | (refine hK _ ?_; clear hK K) | (refine ⟨by kernel_rfl, hK _ ?_⟩; clear hK K) | (refine hK ?_; clear hK hF K) | (refine hF ?_; clear hK hF K) | refine bcf (by assumption) ?_ | refine bca (by assumption) ?_))); fail_if_success (revert hK; intro hK)) | apply Wp.seq))
      simp (maxSteps := 2000000) (disch := omega) only [RUN, RUNB, rD0, bQ0, this]
end Go.Proofs.YtepcpdionlfkhaaGreatDoor
namespace Go.Proofs.YtepcpdionlfkhaaGreatDoor
open Go Go.RowKit
set_option maxHeartbeats 4000000
set_option maxRecDepth 100000
set_option linter.unusedVariables false
set_option linter.unusedSimpArgs false
/-- What with still puts, from a place on. -/
def withR (f : FileD) : Bool → List FileD → List FileD
  | done, [] => if done then [] else nowF f
  | done, g :: l => (if !Op.bytesLess g.name f.name && !done then nowF f else []) ++ (if g.name == f.name then [] else [g]) ++ withR f (done || !Op.bytesLess g.name f.name) l
theorem withR_done (f : FileD) : ∀ (l : List FileD), (∀ g ∈ l, (g.name == f.name) = false) → withR f true l = l
  | [], _ => rfl
  | g :: l, h => by
    simp only [withR, h g (by simp), Bool.true_or, Bool.not_true, Bool.and_false]
    rw [withR_done f l (fun g hg => h g (by simp [hg]))]; simp
theorem withR_with (f : FileD) : ∀ {l : List FileD} {last : List UInt8}, okFiles last l = true → withR f false l = withF l f.name f
  | [], _, _ => by rw [with_nil]; rfl
  | g :: l, last, h => by
    have hc := ok_cons h
    have hgt := ok_gt hc.2.2
    rcases less_tot g.name f.name with h1 | h1 | h1
    · rw [with_lt h1]
      simp only [withR, h1, less_ne h1, Bool.not_true, Bool.false_and, Bool.or_false]
      rw [withR_with f hc.2.2]; simp
    · rw [with_eq h1]
      simp only [withR, h1, less_irr, beq_self_eq_true, Bool.not_false, Bool.and_self, Bool.or_true, if_true]
      rw [withR_done f l (fun x hx => by have := less_ne (hgt x hx); rw [h1] at this; rw [Bool.eq_false_iff] at this ⊢; intro e; apply this; simp at e ⊢; exact e.symm)]
      simp
    · rw [with_gt h1]
      have hne : (g.name == f.name) = false := by have := less_ne h1; rw [Bool.eq_false_iff] at this ⊢; intro e; apply this; simp at e ⊢; exact e.symm
      simp only [withR, less_asym h1, hne, Bool.not_false, Bool.and_self, Bool.or_true, if_true]
      rw [withR_done f l (fun x hx => by have := less_ne (less_trans h1 (hgt x hx)); rw [Bool.eq_false_iff] at this ⊢; intro e; apply this; simp at e ⊢; exact e.symm)]
      simp
structure WIx where
  k : Nat
  out : List FileD
  done : Bool
abbrev refWS (l : List FileD) (f : FileD) (i : WIx) : St := ⟨ofL [(0, .c (.d (.lst 3 (l.map FileD.dv)))), (3, .c (.own 0 0)), (5, .c (.app 1 3 (i.out.map FileD.dv))), (6, vb i.done), (7, vi .i64 i.k)],
  ofH [(0, .cells [.d (str f.name), .d (str f.b), .d (int f.sure)]), (1, .row 85 3 i.out.length)], 2, 62, 0⟩
theorem now_len (f : FileD) : nowF f = match (f.b == []) with | true => [] | false => [f] := by unfold nowF; cases f.b == [] <;> rfl
theorem refWith_fun (l : List FileD) (f : FileD) (hl : l.length ≤ 1000) : Fun Tryz.prog 87 [.lst 3 (l.map FileD.dv), .agg f.dv] (.lst 3 ((withR f false l).map FileD.dv)) := by
  (refine Fun.of_body Tryz.func87 rfl rfl Tryz.ntmps87 Tryz.results87 (by simp) ?_)
  (repeat (first | apply Wp.skip | apply Wp.exit | apply Wp.ret | apply Wp.block | apply Wp.label | ((first | refine Wp.sreg (fun K hK => ?_) | refine Wp.reg (fun K hK => ?_) | refine Wp.sdrw mixed (fun K hK => ?_) | refine Wp.drw mixed (fun K hK => ?_) | refine Wp.condG (fun K hK hF => ?_)); (repeat (revert hK; intro hK; simp (maxSteps := 2000000) (disch := omega) only [RUN, RUNB, aop, ofV, SV.ofD, Nat.reduceAdd, Nat.reduceLT, FileD.dv]; (first | (refine hK _ ?_; clear hK K) | (refine ⟨by kernel_rfl, hK _ ?_⟩; clear hK K) | (refine hK ?_; clear hK hF K) | (refine hF ?_; clear hK hF K) | refine bcf (by assumption) ?_ | refine bca (by assumption) ?_))); fail_if_success (revert hK; intro hK)) | apply Wp.seq))
  refine Wp.loop (refWS l f) (fun i => i.k ≤ l.length ∧ i.out ++ withR f i.done (l.drop i.k) = withR f false l ∧ i.out.length ≤ 2 * i.k) (fun i => l.length - i.k) ⟨0, [], false⟩ ⟨Nat.zero_le _, rfl, Nat.le_refl _⟩ ?_ ?_
  · refine Weak.trans (Weak.nilApp (t := 5) (τ := 1) 85 3 (by simp (maxSteps := 2000000) (disch := omega) only [RUN, Nat.reduceBEq]) (by simp (maxSteps := 2000000) (disch := omega) only [RUN, Nat.reduceBEq])) (Weak.keep rfl rfl ?_)
    simp (maxSteps := 2000000) (disch := omega) only [RUN, RUNB, SV.ofD, Nat.reduceBEq]
  rintro ⟨k, out, done⟩ ⟨hk, hall, hol⟩
  simp only at hk hall hol
  (repeat (first | apply Wp.skip | apply Wp.exit | apply Wp.ret | apply Wp.block | apply Wp.label | ((first | refine Wp.sreg (fun K hK => ?_) | refine Wp.reg (fun K hK => ?_) | refine Wp.sdrw mixed (fun K hK => ?_) | refine Wp.drw mixed (fun K hK => ?_) | refine Wp.condG (fun K hK hF => ?_)); (repeat (revert hK; intro hK; simp (maxSteps := 2000000) (disch := omega) only [RUN, TY, RUNB, aop, aLen, aBu, CV.lenOf, Nat.reduceBEq, Nat.reduceAdd, Nat.reduceLT]; (first | (refine hK _ ?_; clear hK K) | (refine ⟨by kernel_rfl, hK _ ?_⟩; clear hK K) | (refine hK ?_; clear hK hF K) | (refine hF ?_; clear hK hF K) | refine bcf (by assumption) ?_ | refine bca (by assumption) ?_))); fail_if_success (revert hK; intro hK)) | apply Wp.seq))
  refine Wp.cond (by simp (maxSteps := 2000000) (disch := omega) only [RUN, RUNB]; rfl) (fun h => ?_) (fun h => ?_)
  · have hlt : k < l.length := by simpa using h
    have hd : l.drop k = l[k] :: l.drop (k + 1) := (List.drop_eq_getElem_cons hlt)
    rw [hd] at hall
    simp only [withR] at hall
    have hb : (out.length + 1) * 40 ≤ 140737488355328 := by omega
    refine Wp.skip ?_
    refine Wp.seq ?_
    refine Wp.block ?_
    obtain ⟨pre, hpre⟩ : ∃ pre, pre = (if !Op.bytesLess l[k].name f.name && !done then nowF f else []) := ⟨_, rfl⟩
    obtain ⟨dn, hdn⟩ : ∃ dn, dn = (done || !Op.bytesLess l[k].name f.name) := ⟨_, rfl⟩
    rw [← hpre, ← hdn] at hall
    have hpl : pre.length ≤ 1 := by rw [hpre]; split <;> simp [nowF] <;> split <;> simp
    refine Wp.meet (refWS l f ⟨k, out ++ pre, dn⟩) ?_ ?_
    · rw [hpre, hdn]
      cases hge : Op.bytesLess l[k].name f.name with
      | true =>
        (repeat (first | apply Wp.skip | apply Wp.exit | apply Wp.ret | apply Wp.block | apply Wp.label | ((first | refine Wp.sreg (fun K hK => ?_) | refine Wp.reg (fun K hK => ?_) | refine Wp.sdrw mixed (fun K hK => ?_) | refine Wp.drw mixed (fun K hK => ?_) | refine Wp.condG (fun K hK hF => ?_)); (repeat (revert hK; intro hK; simp (maxSteps := 2000000) (disch := omega) only [RUN, TY, RUNB, aop, ofV, aLd, aFd, CV.exact, CV.lstOf, Nat.reduceBEq, Nat.reduceAdd, Nat.reduceLT, Nat.reduceLeDiff, List.getElem?_eq_getElem hlt, FileD.dv, hge]; (first | (refine hK _ ?_; clear hK K) | (refine ⟨by kernel_rfl, hK _ ?_⟩; clear hK K) | (refine hK ?_; clear hK hF K) | (refine hF ?_; clear hK hF K) | refine bcf (by assumption) ?_ | refine bca (by assumption) ?_))); fail_if_success (revert hK; intro hK)) | apply Wp.seq))
        refine Weak.keep rfl rfl ?_
        simp (maxSteps := 2000000) (disch := omega) only [RUN, RUNB, Nat.reduceBEq]
      | false =>
        cases done with
        | true =>
          (repeat (first | apply Wp.skip | apply Wp.exit | apply Wp.ret | apply Wp.block | apply Wp.label | ((first | refine Wp.sreg (fun K hK => ?_) | refine Wp.reg (fun K hK => ?_) | refine Wp.sdrw mixed (fun K hK => ?_) | refine Wp.drw mixed (fun K hK => ?_) | refine Wp.condG (fun K hK hF => ?_)); (repeat (revert hK; intro hK; simp (maxSteps := 2000000) (disch := omega) only [RUN, TY, RUNB, aop, ofV, aLd, aFd, CV.exact, CV.lstOf, Nat.reduceBEq, Nat.reduceAdd, Nat.reduceLT, Nat.reduceLeDiff, List.getElem?_eq_getElem hlt, FileD.dv, hge]; (first | (refine hK _ ?_; clear hK K) | (refine ⟨by kernel_rfl, hK _ ?_⟩; clear hK K) | (refine hK ?_; clear hK hF K) | (refine hF ?_; clear hK hF K) | refine bcf (by assumption) ?_ | refine bca (by assumption) ?_))); fail_if_success (revert hK; intro hK)) | apply Wp.seq))
          refine Weak.keep rfl rfl ?_
          simp (maxSteps := 2000000) (disch := omega) only [RUN, RUNB, Nat.reduceBEq]
        | false =>
          cases hbe : (f.b == []) with
          | true =>
            (repeat (first | apply Wp.skip | apply Wp.exit | apply Wp.ret | apply Wp.block | apply Wp.label | ((first | refine Wp.sreg (fun K hK => ?_) | refine Wp.reg (fun K hK => ?_) | refine Wp.sdrw mixed (fun K hK => ?_) | refine Wp.drw mixed (fun K hK => ?_) | refine Wp.condG (fun K hK hF => ?_)); (repeat (revert hK; intro hK; simp (maxSteps := 2000000) (disch := omega) only [RUN, TY, RUNB, aop, ofV, aLd, aFd, aLen, aBu, CV.exact, CV.lstOf, Nat.reduceBEq, Nat.reduceAdd, Nat.reduceLT, Nat.reduceLeDiff, List.getElem?_eq_getElem hlt, FileD.dv, hge, len_pos, hbe]; (first | (refine hK _ ?_; clear hK K) | (refine ⟨by kernel_rfl, hK _ ?_⟩; clear hK K) | (refine hK ?_; clear hK hF K) | (refine hF ?_; clear hK hF K) | refine bcf (by assumption) ?_ | refine bca (by assumption) ?_))); fail_if_success (revert hK; intro hK)) | apply Wp.seq))
            refine Weak.keep rfl rfl ?_
            simp (maxSteps := 2000000) (disch := omega) only [RUN, RUNB, Nat.reduceBEq, now_len, hbe, Bool.and_self]
          | false =>
            (repeat (first | apply Wp.skip | apply Wp.exit | apply Wp.ret | apply Wp.block | apply Wp.label | ((first | refine Wp.sreg (fun K hK => ?_) | refine Wp.reg (fun K hK => ?_) | refine Wp.sdrw mixed (fun K hK => ?_) | refine Wp.drw mixed (fun K hK => ?_) | refine Wp.condG (fun K hK hF => ?_)); (repeat (revert hK; intro hK; simp (maxSteps := 2000000) (disch := omega) only [RUN, TY, RUNB, aop, ofV, aLd, aFd, aLen, aBu, CV.exact, CV.lstOf, Value.oneCell', CV.toD0, Nat.reduceBEq, Nat.reduceAdd, Nat.reduceMul, Nat.reduceLT, Nat.reduceLeDiff, List.getElem?_eq_getElem hlt, FileD.dv, hge, len_pos, hbe, hb]; (first | (refine hK _ ?_; clear hK K) | (refine ⟨by kernel_rfl, hK _ ?_⟩; clear hK K) | (refine hK ?_; clear hK hF K) | (refine hF ?_; clear hK hF K) | refine bcf (by assumption) ?_ | refine bca (by assumption) ?_))); fail_if_success (revert hK; intro hK)) | apply Wp.seq))
            refine Weak.keep rfl rfl ?_
            simp (maxSteps := 2000000) (disch := omega) only [RUN, RUNB, Nat.reduceBEq, now_len, hbe, List.map_append, FileD.dv, List.length_append, Bool.and_self]
    have hle2 : (out ++ pre).length = out.length + pre.length := List.length_append
    have hb2 : ((out ++ pre).length + 1) * 40 ≤ 140737488355328 := by omega
    have hol2 : (out ++ pre).length ≤ 2 * k + 1 := by omega
    rw [List.append_assoc, ← List.append_assoc out] at hall
    generalize out ++ pre = out2 at hb2 hol2 hall ⊢
    cases hne : (l[k].name == f.name) with
    | true =>
      rw [hne] at hall
      (repeat (first | apply Wp.skip | apply Wp.exit | apply Wp.ret | apply Wp.block | apply Wp.label | ((first | refine Wp.sreg (fun K hK => ?_) | refine Wp.reg (fun K hK => ?_) | refine Wp.sdrw mixed (fun K hK => ?_) | refine Wp.drw mixed (fun K hK => ?_) | refine Wp.condG (fun K hK hF => ?_)); (repeat (revert hK; intro hK; simp (maxSteps := 2000000) (disch := omega) only [RUN, TY, RUNB, aop, ofV, aLd, aFd, CV.exact, CV.lstOf, Nat.reduceBEq, Nat.reduceAdd, Nat.reduceLT, Nat.reduceLeDiff, List.getElem?_eq_getElem hlt, FileD.dv, hne]; (first | (refine hK _ ?_; clear hK K) | (refine ⟨by kernel_rfl, hK _ ?_⟩; clear hK K) | (refine hK ?_; clear hK hF K) | (refine hF ?_; clear hK hF K) | refine bcf (by assumption) ?_ | refine bca (by assumption) ?_))); fail_if_success (revert hK; intro hK)) | apply Wp.seq))
      refine ⟨⟨k + 1, out2, dn⟩, ⟨by simp only; omega, by simpa using hall, by simp only; omega⟩, by simp only; omega, Weak.keep rfl rfl ?_⟩
      simp (maxSteps := 2000000) (disch := omega) only [RUN, RUNB, Nat.reduceBEq]
    | false =>
      rw [hne] at hall
      (repeat (first | apply Wp.skip | apply Wp.exit | apply Wp.ret | apply Wp.block | apply Wp.label | ((first | refine Wp.sreg (fun K hK => ?_) | refine Wp.reg (fun K hK => ?_) | refine Wp.sdrw mixed (fun K hK => ?_) | refine Wp.drw mixed (fun K hK => ?_) | refine Wp.condG (fun K hK hF => ?_)); (repeat (revert hK; intro hK; simp (maxSteps := 2000000) (disch := omega) only [RUN, TY, RUNB, aop, ofV, aLd, aFd, aBu, CV.exact, CV.lstOf, Value.oneCell', CV.toD0, Nat.reduceBEq, Nat.reduceAdd, Nat.reduceMul, Nat.reduceLT, Nat.reduceLeDiff, List.getElem?_eq_getElem hlt, FileD.dv, hne, hb2]; (first | (refine hK _ ?_; clear hK K) | (refine ⟨by kernel_rfl, hK _ ?_⟩; clear hK K) | (refine hK ?_; clear hK hF K) | (refine hF ?_; clear hK hF K) | refine bcf (by assumption) ?_ | refine bca (by assumption) ?_))); fail_if_success (revert hK; intro hK)) | apply Wp.seq))
      refine ⟨⟨k + 1, out2 ++ [l[k]], dn⟩, ⟨by simp only; omega, by simpa using hall, by simp only [List.length_append, List.length_cons, List.length_nil]; omega⟩, by simp only; omega, Weak.keep rfl rfl ?_⟩
      simp (maxSteps := 2000000) (disch := omega) only [RUN, RUNB, Nat.reduceBEq, List.map_append, FileD.dv, List.length_append]
  · have hlt : k = l.length := by simp at h; omega
    subst hlt
    rw [List.drop_length] at hall
    simp only [withR] at hall
    have hb : (out.length + 1) * 40 ≤ 140737488355328 := by omega
    cases done <;> cases hbe : (f.b == []) <;>
      ((repeat (first | apply Wp.skip | apply Wp.exit | apply Wp.ret | apply Wp.block | apply Wp.label | ((first | refine Wp.sreg (fun K hK => ?_) | refine Wp.reg (fun K hK => ?_) | refine Wp.sdrw mixed (fun K hK => ?_) | refine Wp.drw mixed (fun K hK => ?_) | refine Wp.condG (fun K hK hF => ?_)); (repeat (revert hK; intro hK; simp (maxSteps := 2000000) (disch := omega) only [RUN, TY, RUNB, aop, ofV, aLd, aFd, aLen, aBu, CV.exact, CV.lstOf, Value.oneCell', CV.toD0, Nat.reduceBEq, Nat.reduceAdd, Nat.reduceMul, Nat.reduceLT, Nat.reduceLeDiff, len_pos, hbe, hb]; (first | (refine hK _ ?_; clear hK K) | (refine ⟨by kernel_rfl, hK _ ?_⟩; clear hK K) | (refine hK ?_; clear hK hF K) | (refine hF ?_; clear hK hF K) | refine bcf (by assumption) ?_ | refine bca (by assumption) ?_))); fail_if_success (revert hK; intro hK)) | apply Wp.seq))
       simp (maxSteps := 2000000) (disch := omega) only [RUN, RUNB, rD0, bQ0, ← hall, now_len, hbe, List.map_append, FileD.dv])
end Go.Proofs.YtepcpdionlfkhaaGreatDoor
namespace Go.Proofs.YtepcpdionlfkhaaGreatDoor
open Go Go.RowKit
set_option maxHeartbeats 8000000
set_option maxRecDepth 100000
set_option linter.unusedVariables false
set_option linter.unusedSimpArgs false
/-- Why the reference does not do an operation: by what would come. -/
theorem fits_ref {fs : List FileD} {cap : Int} {w : WriteD} (hv : validB fs cap = true) (ho : opB w = true) :
    (fitsO fs cap w (fileAt fs w.file) (isAt fs w.file)).map Prod.snd =
      if late w && !isAt fs w.file then some 32 else if w.op == 3 && decide (((fileAt fs w.file).b.length : Int) < w.n) then some 2
      else if decide (64 < ((withF fs w.file (afterF (fileAt fs w.file) w)).length : Int)) then some 3
      else if decide (cap < (usedF (withF fs w.file (afterF (fileAt fs w.file) w)) : Int)) then some 31 else none := by
  obtain ⟨hok, hc0, hc1, hlen, hus⟩ := valid_ok hv
  have hw := @used_with' fs w.file (afterF (fileAt fs w.file) w)
  have hl := @len_with fs w.file (afterF (fileAt fs w.file) w)
  have hno : isAt fs w.file = false → (afterF (fileAt fs w.file) w).b ≠ [] → (withF fs w.file (afterF (fileAt fs w.file) w)).length = fs.length + 1 := by
    intro hi hb
    have hle := findAt_le fs w.file
    have : ((afterF (fileAt fs w.file) w).b == []) = false := by simpa using hb
    unfold withF
    simp only [behAt, hi, this]
    simp; omega
  have hnb : isAt fs w.file = false → (fileAt fs w.file).b = [] := fun hi => by rw [isAt_no hi]
  simp only [opB, Bool.and_eq_true, Bool.or_eq_true, beq_iff_eq, Bool.not_eq_true', decide_eq_true_eq] at ho
  obtain ⟨hn, ho⟩ := ho
  generalize withF fs w.file (afterF (fileAt fs w.file) w) = o at *
  have hcase : (late w = true ∧ (w.op = 3 ∨ w.n = 0 ∧ w.op ≠ 3) ∧ (afterF (fileAt fs w.file) w).b.length ≤ (fileAt fs w.file).b.length) ∨ (late w = false ∧ w.op ≠ 3 ∧ (afterF (fileAt fs w.file) w).b ≠ [] ∧ ((afterF (fileAt fs w.file) w).b.length : Int) = (fileAt fs w.file).b.length + moreI w (fileAt fs w.file)) := by
    rcases ho with (⟨h | h, h2, h3⟩ | ⟨h, h2, h3⟩) | ⟨h | h, h2, h3⟩
    · right
      refine ⟨by simp [late, h], by omega, ?_, ?_⟩
      · simp only [afterF, h]; simp; intro _ e; simp [e] at h2
      · simp [afterF, h, moreI]
    · right
      refine ⟨by simp [late, h], by omega, ?_, ?_⟩
      · simp only [afterF, h]; simp; intro e; simp [e] at h2
      · simp only [afterF, h, moreI]; simp; omega
    · left; exact ⟨by simp [late, h], .inl h, by simp only [afterF, h]; simp; omega⟩
    · left; exact ⟨by simp [late, h], .inr ⟨h3, by omega⟩, by simp [afterF, h]⟩
    · left; exact ⟨by simp [late, h], .inr ⟨h3, by omega⟩, by simp [afterF, h]⟩
  rcases hcase with ⟨h1, h2, h3⟩ | ⟨h1, h2, h3, h4⟩
  · unfold fitsO
    simp only [h1, if_true, Bool.true_and]
    cases hi : isAt fs w.file with
    | false => simp
    | true =>
      simp only [hi, if_true] at hl
      rcases h2 with h2 | ⟨h2, h2'⟩
      · by_cases hq : ((fileAt fs w.file).b.length : Int) < w.n
        · simp [h2, hq]
        · have e1 : ¬ (64 < (o.length : Int)) := by omega
          have e2 : ¬ (cap < (usedF o : Int)) := by omega
          simp [h2, hq, e1, e2]
      · have e0 : ¬ ((fileAt fs w.file).b.length : Int) < w.n := by omega
        have e1 : ¬ (64 < (o.length : Int)) := by omega
        have e2 : ¬ (cap < (usedF o : Int)) := by omega
        simp [h2', e0, e1, e2]
  · unfold fitsO
    have h5 : (w.op == 3) = false := by simpa using h2
    simp only [h1, h5, Bool.false_and, Bool.false_eq_true, if_false]
    have e2 : (cap < (usedF o : Int)) ↔ (cap < usedF fs + moreI w (fileAt fs w.file)) := by omega
    cases hi : isAt fs w.file with
    | false =>
      have := hno hi h3
      have e1 : (64 < (o.length : Int)) ↔ 64 ≤ (fs.length : Int) := by omega
      simp only [true_and, decide_eq_true_eq, e1, e2]
      split
      · rfl
      · split <;> rfl
    | true =>
      simp only [hi, if_true] at hl
      have e1 : ¬ (64 < (o.length : Int)) := by omega
      simp only [Bool.true_eq_false, false_and, if_false, decide_eq_true_eq, e1, e2]
      split <;> rfl
theorem do_ref {fs : List FileD} {cap left : Int} {w : WriteD} (hv : validB fs cap = true) (ho : opB w = true) (hz : (left == 0) = false) : doF ⟨fs, cap, left, false⟩ w =
      if late w && !isAt fs w.file then (⟨[], 0, 0, false⟩, 32) else if w.op == 3 && decide (((fileAt fs w.file).b.length : Int) < w.n) then (⟨[], 0, 0, false⟩, 2)
      else if decide (64 < ((withF fs w.file (afterF (fileAt fs w.file) w)).length : Int)) then (⟨[], 0, 0, false⟩, 3)
      else if decide (cap < (usedF (withF fs w.file (afterF (fileAt fs w.file) w)) : Int)) then (⟨[], 0, 0, false⟩, 31)
      else (⟨withF fs w.file (afterF (fileAt fs w.file) w), cap, if decide (0 < left) then left - 1 else left, false⟩, 0) := by
  have h := fits_ref hv ho
  have e : doF ⟨fs, cap, left, false⟩ w = match (fitsO fs cap w (fileAt fs w.file) (isAt fs w.file)).map Prod.snd with
    | some n => (⟨[], 0, 0, false⟩, n)
    | none => (⟨withF fs w.file (afterF (fileAt fs w.file) w), cap, if decide (0 < left) then left - 1 else left, false⟩, 0) := by
    simp only [doF, hv, ho, hz]
    cases fitsO fs cap w (fileAt fs w.file) (isAt fs w.file) <;> rfl
  rw [e, h]
  repeat' split
  all_goals first | rfl | simp_all
theorem after_leN (f : FileD) (w : WriteD) : (afterF f w).b.length ≤ f.b.length + w.b.length := by
  unfold afterF
  repeat' split
  all_goals simp
  all_goals omega
abbrev rdS (fs : List FileD) (cap left : Int) (w : WriteD) (f : FileD) : St := ⟨ofL [(2, .c (.own 0 0)), (3, .c (.own 1 0)), (4, .c (.own 2 0)), (6, .c (.own 3 0))],
  ofH [(0, diskC ⟨fs, cap, left, false⟩), (1, .cells [.d (i8 w.op), .d (str w.file), .d (str w.b), .d (int w.n)]), (2, .cells [.d nilV, .d (int 0), .d (int 0), .d (boo false)]), (3, .cells [.d (str f.name), .d (str f.b), .d (int f.sure)])], 4, 126, 0⟩
theorem refDo_on (fs : List FileD) (cap left : Int) (w : WriteD) (hs : Small fs) (hw : w.file.length ≤ 1000000) (hwb : w.b.length ≤ 1000000) (hle : left ≤ 9223372036854775807) (hval : validB fs cap = true) (hop : opB w = true) (hz : (left == 0) = false) :
    Fun Tryz.prog 45 [diskD fs cap left false, .agg w.dv] (.tup [(doF ⟨fs, cap, left, false⟩ w).1.d, int (doF ⟨fs, cap, left, false⟩ w).2]) := by
  have hl := hs.1
  have hok := (valid_ok hval).1
  have hck := refCheck_fun fs cap left false hs
  have hmy := refMay_fun w (by omega)
  have hget := refGet_fun fs cap left false w.file (by omega)
  have hfb := fileAt_small fs w.file hs
  rw [hval] at hck
  rw [hop] at hmy
  rw [getV_at hok] at hget
  simp only [if_true] at hck
  rw [do_ref hval hop hz]
  have hfa : fileAt fs w.file = ⟨w.file, (wasF fs w.file).b, (wasF fs w.file).sure⟩ := by
    have h1 := @fileAt_name fs w.file
    have h2 := @file_was fs w.file
    cases hf : fileAt fs w.file
    rw [hf] at h1 h2
    simp only at h1 h2
    rw [h1, h2.1, h2.2]
  generalize wasF fs w.file = was at hget hfa
  obtain ⟨wn, wb, wsu⟩ := was
  simp only at hfa
  simp only [WriteD.dv] at hmy
  simp only [FileD.dv] at hget
  (refine Fun.of_bodyW Tryz.func45 rfl rfl Tryz.ntmps45 Tryz.results45 (by simp) ?_)
  (repeat (first | apply Wp.skip | apply Wp.exit | apply Wp.ret | apply Wp.block | apply Wp.label | ((first | refine Wp.sreg (fun K hK => ?_) | refine Wp.reg (fun K hK => ?_) | refine Wp.sdrw mixed (fun K hK => ?_) | refine Wp.drw mixed (fun K hK => ?_) | refine Wp.condG (fun K hK hF => ?_)); (repeat (revert hK; intro hK; simp (maxSteps := 2000000) (disch := omega) only [RUN, TY, RUNB, aop, ofV, SV.ofD, aLd, aSt, aFd, aXt, CV.exact, Value.oneCell', CV.toD0, oWn, Nat.reduceBEq, Nat.reduceAdd, Nat.reduceLT, Nat.reduceLeDiff, Int.reduceBNe, WriteD.dv, hz]; (first | (refine hK _ ?_; clear hK K) | (refine ⟨by kernel_rfl, hK _ ?_⟩; clear hK K) | (refine hK ?_; clear hK hF K) | (refine hF ?_; clear hK hF K) | refine bcf (by assumption) ?_ | refine bca (by assumption) ?_))); fail_if_success (revert hK; intro hK)) | apply Wp.seq))
  (first | refine Wp.sto 49 (vb (late w && !isAt fs w.file)) ?_ ?_ | refine Wp.rtoS 49 (vb (late w && !isAt fs w.file)) ?_ ?_ | (refine Wp.seq ?_; first | refine Wp.sto 49 (vb (late w && !isAt fs w.file)) ?_ ?_ | refine Wp.rtoS 49 (vb (late w && !isAt fs w.file)) ?_ ?_))
  · unfold late
    cases hi : isAt fs w.file with
    | true => (simp (maxSteps := 2000000) (disch := omega) only [RUN, RUNB, aop, ofV, CV.exact, Nat.reduceBEq, Nat.reduceAdd, Nat.reduceLT]; (repeat (refine bcf (by assumption) ?_; simp (maxSteps := 2000000) (disch := omega) only [RUN, TY, RUNB, aop, ofV, SV.ofD, aLd, aSt, aFd, aPt, aLen, aSl, aIf, aMF, aXt, aBu, aCX, aCL, aCy, CV.exact, CV.lstOf, CV.lenOf, CV.one, D.one, Value.oneCell', CV.toD0, iFl, oWn, pLk, nD0, rD0, bQ0, tQ0, kQ0, reduceCtorEq, reduceIte, Nat.reduceBEq, Nat.reduceEqDiff, Nat.reduceAdd, Nat.reduceMul, Nat.reduceSub, Nat.reduceLT, Nat.reduceLeDiff, Nat.reduceBNe, Int.reduceLE, Int.reduceLT, Int.reduceBEq, Int.reduceBNe, Int.reduceEq, Int.reduceNeg, Int.reduceAdd, Int.reduceSub, Int.reduceToNat, forall_const, hi, Bool.not_true, Bool.and_false])))
    | false => ((rcases Bool.eq_false_or_eq_true (w.op == 1) with hL1 | hL1) <;> (rcases Bool.eq_false_or_eq_true (w.op == 3) with hL2 | hL2) <;> ((simp (maxSteps := 2000000) (disch := omega) only [RUN, TY, RUNB, aop, ofV, aLd, aFd, CV.exact, Nat.reduceBEq, Nat.reduceAdd, Nat.reduceLT, Nat.reduceLeDiff, hL1, hL2]; (repeat (refine bcf (by assumption) ?_; simp (maxSteps := 2000000) (disch := omega) only [RUN, TY, RUNB, aop, ofV, SV.ofD, aLd, aSt, aFd, aPt, aLen, aSl, aIf, aMF, aXt, aBu, aCX, aCL, aCy, CV.exact, CV.lstOf, CV.lenOf, CV.one, D.one, Value.oneCell', CV.toD0, iFl, oWn, pLk, nD0, rD0, bQ0, tQ0, kQ0, reduceCtorEq, reduceIte, Nat.reduceBEq, Nat.reduceEqDiff, Nat.reduceAdd, Nat.reduceMul, Nat.reduceSub, Nat.reduceLT, Nat.reduceLeDiff, Nat.reduceBNe, Int.reduceLE, Int.reduceLT, Int.reduceBEq, Int.reduceBNe, Int.reduceEq, Int.reduceNeg, Int.reduceAdd, Int.reduceSub, Int.reduceToNat, forall_const, hL1, hL2, hi]))); all_goals (exact (show okTr _ _ = true by kernel_rfl))))
  refine Wp.cond (by simp (maxSteps := 2000000) (disch := omega) only [RUN, RUNB]; rfl) (fun h => ?_) (fun h => ?_)
  · rw [if_pos h]
    (repeat (first | apply Wp.skip | apply Wp.exit | apply Wp.ret | apply Wp.block | apply Wp.label | ((first | refine Wp.sreg (fun K hK => ?_) | refine Wp.reg (fun K hK => ?_) | refine Wp.sdrw mixed (fun K hK => ?_) | refine Wp.drw mixed (fun K hK => ?_) | refine Wp.condG (fun K hK hF => ?_)); (repeat (revert hK; intro hK; simp (maxSteps := 2000000) (disch := omega) only [RUN, TY, RUNB, aop, ofV, aSt, Value.oneCell', reduceCtorEq, Nat.reduceBEq, Nat.reduceAdd, Nat.reduceLT]; (first | (refine hK _ ?_; clear hK K) | (refine ⟨by kernel_rfl, hK _ ?_⟩; clear hK K) | (refine hK ?_; clear hK hF K) | (refine hF ?_; clear hK hF K) | refine bcf (by assumption) ?_ | refine bca (by assumption) ?_))); fail_if_success (revert hK; intro hK)) | apply Wp.seq))
    simp (maxSteps := 2000000) (disch := omega) only [RUN, TY, RUNB, aLd, CV.toD0, rD0, tQ0, Nat.reduceBEq, Nat.reduceAdd, bodyW]
    exact ⟨_, rfl, fun K v h => zeroDisk h⟩
  rw [h, if_neg Bool.false_ne_true]
  have hop5 : w.op = 0 ∨ w.op = 1 ∨ w.op = 2 ∨ w.op = 3 ∨ w.op = 4 := by
    simp only [opB, Bool.and_eq_true, Bool.or_eq_true, beq_iff_eq] at hop
    omega
  have hn3 : w.op = 3 → 0 ≤ w.n := by
    intro h3
    simp [opB, h3] at hop
    exact hop.2.2
  cases hsh : (w.op == 3 && decide (((fileAt fs w.file).b.length : Int) < w.n)) with
  | true =>
    rw [if_pos rfl]
    simp only [Bool.and_eq_true, beq_iff_eq] at hsh
    have h3 := hsh.1
    have h4 : decide ((wb.length : Int) < w.n) = true := by have := hsh.2; rw [hfa] at this; exact this
    (repeat (first | apply Wp.skip | apply Wp.exit | apply Wp.ret | apply Wp.block | apply Wp.label | ((first | refine Wp.sreg (fun K hK => ?_) | refine Wp.reg (fun K hK => ?_) | refine Wp.sdrw mixed (fun K hK => ?_) | refine Wp.drw mixed (fun K hK => ?_) | refine Wp.condG (fun K hK hF => ?_)); (repeat (revert hK; intro hK; simp (maxSteps := 2000000) (disch := omega) only [RUN, TY, RUNB, aop, ofV, aLd, aSt, aFd, aLen, aBu, CV.one, D.one, Value.oneCell', reduceCtorEq, Nat.reduceBEq, Nat.reduceAdd, Nat.reduceLT, Nat.reduceLeDiff, Int.reduceBEq, h3, h4]; (first | (refine hK _ ?_; clear hK K) | (refine ⟨by kernel_rfl, hK _ ?_⟩; clear hK K) | (refine hK ?_; clear hK hF K) | (refine hF ?_; clear hK hF K) | refine bcf (by assumption) ?_ | refine bca (by assumption) ?_))); fail_if_success (revert hK; intro hK)) | apply Wp.seq))
    simp (maxSteps := 2000000) (disch := omega) only [RUN, TY, RUNB, aLd, CV.toD0, rD0, tQ0, kQ0, Nat.reduceBEq, Nat.reduceAdd, bodyW]
    exact ⟨_, rfl, fun K v h => zeroDisk h⟩
  | false =>
  rw [if_neg Bool.false_ne_true]
  obtain ⟨f', hf'⟩ : ∃ f', f' = afterF (fileAt fs w.file) w := ⟨_, rfl⟩
  have hfn : f'.name = w.file := by rw [hf']; exact (after_ok hok hop).1
  have hfl : f'.b.length ≤ 2000000 := by have := after_leN (fileAt fs w.file) w; rw [← hf'] at this; omega
  rw [← hf']
  rw [hfa] at hf' hsh hfb
  simp only at hsh hfb
  refine Wp.skip ?_
  (refine Wp.sreg (fun K hK => ?_); simp (maxSteps := 2000000) (disch := omega) only [RUN, TY, RUNB, aop, aLd, aSt, aFd, CV.one, D.one, Value.oneCell', Nat.reduceBEq, Nat.reduceAdd, Nat.reduceLT, Nat.reduceLeDiff]; refine hK _ ?_; clear hK K)
  refine Wp.meet (rdS fs cap left w f') ?_ ?_
  · rcases hop5 with h0 | h0 | h0 | h0 | h0
    · have e : f' = ⟨w.file, wb ++ w.b, wsu⟩ := by rw [hf']; simp [afterF, h0]
      (repeat (first | apply Wp.skip | apply Wp.exit | apply Wp.ret | apply Wp.block | apply Wp.label | ((first | refine Wp.sreg (fun K hK => ?_) | refine Wp.reg (fun K hK => ?_) | refine Wp.sdrw mixed (fun K hK => ?_) | refine Wp.drw mixed (fun K hK => ?_) | refine Wp.condG (fun K hK hF => ?_)); (repeat (revert hK; intro hK; simp (maxSteps := 2000000) (disch := omega) only [RUN, TY, RUNB, aop, ofV, aLd, aSt, aFd, CV.one, D.one, Value.oneCell', Nat.reduceBEq, Nat.reduceAdd, Nat.reduceLT, Nat.reduceLeDiff, h0, sbin_add]; (first | (refine hK _ ?_; clear hK K) | (refine ⟨by kernel_rfl, hK _ ?_⟩; clear hK K) | (refine hK ?_; clear hK hF K) | (refine hF ?_; clear hK hF K) | refine bcf (by assumption) ?_ | refine bca (by assumption) ?_))); fail_if_success (revert hK; intro hK)) | apply Wp.seq))
      refine Weak.keep rfl rfl ?_
      simp (maxSteps := 2000000) (disch := omega) only [RUN, RUNB, Nat.reduceBEq, h0, e]
    · have e : f' = ⟨w.file, wb, wb.length⟩ := by rw [hf']; simp [afterF, h0]
      (repeat (first | apply Wp.skip | apply Wp.exit | apply Wp.ret | apply Wp.block | apply Wp.label | ((first | refine Wp.sreg (fun K hK => ?_) | refine Wp.reg (fun K hK => ?_) | refine Wp.sdrw mixed (fun K hK => ?_) | refine Wp.drw mixed (fun K hK => ?_) | refine Wp.condG (fun K hK hF => ?_)); (repeat (revert hK; intro hK; simp (maxSteps := 2000000) (disch := omega) only [RUN, TY, RUNB, aop, ofV, aLd, aSt, aFd, aLen, aBu, CV.one, D.one, Value.oneCell', Nat.reduceBEq, Nat.reduceAdd, Nat.reduceLT, Nat.reduceLeDiff, Int.reduceBEq, h0]; (first | (refine hK _ ?_; clear hK K) | (refine ⟨by kernel_rfl, hK _ ?_⟩; clear hK K) | (refine hK ?_; clear hK hF K) | (refine hF ?_; clear hK hF K) | refine bcf (by assumption) ?_ | refine bca (by assumption) ?_))); fail_if_success (revert hK; intro hK)) | apply Wp.seq))
      refine Weak.keep rfl rfl ?_
      simp (maxSteps := 2000000) (disch := omega) only [RUN, RUNB, Nat.reduceBEq, h0, e]
    · have e : f' = ⟨w.file, w.b, w.b.length⟩ := by rw [hf']; simp [afterF, h0]
      (repeat (first | apply Wp.skip | apply Wp.exit | apply Wp.ret | apply Wp.block | apply Wp.label | ((first | refine Wp.sreg (fun K hK => ?_) | refine Wp.reg (fun K hK => ?_) | refine Wp.sdrw mixed (fun K hK => ?_) | refine Wp.drw mixed (fun K hK => ?_) | refine Wp.condG (fun K hK hF => ?_)); (repeat (revert hK; intro hK; simp (maxSteps := 2000000) (disch := omega) only [RUN, TY, RUNB, aop, ofV, aLd, aSt, aFd, aLen, aBu, CV.one, D.one, Value.oneCell', Nat.reduceBEq, Nat.reduceAdd, Nat.reduceLT, Nat.reduceLeDiff, Int.reduceBEq, h0]; (first | (refine hK _ ?_; clear hK K) | (refine ⟨by kernel_rfl, hK _ ?_⟩; clear hK K) | (refine hK ?_; clear hK hF K) | (refine hF ?_; clear hK hF K) | refine bcf (by assumption) ?_ | refine bca (by assumption) ?_))); fail_if_success (revert hK; intro hK)) | apply Wp.seq))
      refine Weak.keep rfl rfl ?_
      simp (maxSteps := 2000000) (disch := omega) only [RUN, RUNB, Nat.reduceBEq, h0, e]
    · have hn0 := hn3 h0
      obtain ⟨m, hm⟩ : ∃ m : Nat, w.n = m := ⟨w.n.toNat, by omega⟩
      have h4 : decide ((wb.length : Int) < (m : Int)) = false := by rw [← hm]; simpa [h0] using hsh
      have h5 : m ≤ wb.length := by simp only [decide_eq_false_iff_not] at h4; omega
      have e : f' = ⟨w.file, wb.take m, m⟩ := by rw [hf']; simp [afterF, h0, hm]; omega
      (repeat (first | apply Wp.skip | apply Wp.exit | apply Wp.ret | apply Wp.block | apply Wp.label | ((first | refine Wp.sreg (fun K hK => ?_) | refine Wp.reg (fun K hK => ?_) | refine Wp.sdrw mixed (fun K hK => ?_) | refine Wp.drw mixed (fun K hK => ?_) | refine Wp.condG (fun K hK hF => ?_)); (repeat (revert hK; intro hK; simp (maxSteps := 2000000) (disch := omega) only [RUN, TY, RUNB, aop, ofV, aLd, aSt, aFd, aLen, aSl, aBu, CV.exact, CV.one, D.one, Value.oneCell', Nat.reduceBEq, Nat.reduceAdd, Nat.reduceLT, Nat.reduceLeDiff, Int.reduceBEq, h0, hm, h4, h5]; (first | (refine hK _ ?_; clear hK K) | (refine ⟨by kernel_rfl, hK _ ?_⟩; clear hK K) | (refine hK ?_; clear hK hF K) | (refine hF ?_; clear hK hF K) | refine bcf (by assumption) ?_ | refine bca (by assumption) ?_))); fail_if_success (revert hK; intro hK)) | apply Wp.seq))
      refine Weak.keep rfl rfl ?_
      simp (maxSteps := 2000000) (disch := omega) only [RUN, RUNB, Nat.reduceBEq, h0, e, hm]
    · have e : f' = ⟨w.file, [], 0⟩ := by rw [hf']; simp [afterF, h0]
      (repeat (first | apply Wp.skip | apply Wp.exit | apply Wp.ret | apply Wp.block | apply Wp.label | ((first | refine Wp.sreg (fun K hK => ?_) | refine Wp.reg (fun K hK => ?_) | refine Wp.sdrw mixed (fun K hK => ?_) | refine Wp.drw mixed (fun K hK => ?_) | refine Wp.condG (fun K hK hF => ?_)); (repeat (revert hK; intro hK; simp (maxSteps := 2000000) (disch := omega) only [RUN, TY, RUNB, aop, ofV, aLd, aSt, aFd, CV.one, D.one, Value.oneCell', Nat.reduceBEq, Nat.reduceAdd, Nat.reduceLT, Nat.reduceLeDiff, Int.reduceBEq, h0]; (first | (refine hK _ ?_; clear hK K) | (refine ⟨by kernel_rfl, hK _ ?_⟩; clear hK K) | (refine hK ?_; clear hK hF K) | (refine hF ?_; clear hK hF K) | refine bcf (by assumption) ?_ | refine bca (by assumption) ?_))); fail_if_success (revert hK; intro hK)) | apply Wp.seq))
      refine Weak.keep rfl rfl ?_
      simp (maxSteps := 2000000) (disch := omega) only [RUN, RUNB, Nat.reduceBEq, h0, e]
  have hwi := refWith_fun fs f' hl
  rw [withR_with f' hok, hfn] at hwi
  have hln := @len_with fs w.file f'
  have hln2 : (withF fs w.file f').length ≤ 2000 := by have : (if isAt fs w.file = true then 0 else 1) ≤ 1 := by split <;> simp
                                                       omega
  have hub := hs.used
  have huw := @used_with' fs w.file f'
  have hus := refUsed_fun (withF fs w.file f') cap left false (by omega) (by omega)
  simp only [FileD.dv] at hwi
  generalize withF fs w.file f' = o at hwi hus hln2
  cases h1 : decide (64 < (o.length : Int)) with
  | true =>
    (repeat (first | apply Wp.skip | apply Wp.exit | apply Wp.ret | apply Wp.block | apply Wp.label | ((first | refine Wp.sreg (fun K hK => ?_) | refine Wp.reg (fun K hK => ?_) | refine Wp.sdrw mixed (fun K hK => ?_) | refine Wp.drw mixed (fun K hK => ?_) | refine Wp.condG (fun K hK hF => ?_)); (repeat (revert hK; intro hK; simp (maxSteps := 2000000) (disch := omega) only [RUN, TY, RUNB, aop, ofV, SV.ofD, aLd, aSt, aFd, aLen, aBu, CV.lenOf, CV.one, D.one, Value.oneCell', CV.toD0, oWn, reduceCtorEq, Nat.reduceBEq, Nat.reduceAdd, Nat.reduceLT, Nat.reduceLeDiff, h1]; (first | (refine hK _ ?_; clear hK K) | (refine ⟨by kernel_rfl, hK _ ?_⟩; clear hK K) | (refine hK ?_; clear hK hF K) | (refine hF ?_; clear hK hF K) | refine bcf (by assumption) ?_ | refine bca (by assumption) ?_))); fail_if_success (revert hK; intro hK)) | apply Wp.seq))
    simp (maxSteps := 2000000) (disch := omega) only [RUN, TY, RUNB, aLd, CV.toD0, rD0, tQ0, Nat.reduceBEq, Nat.reduceAdd, bodyW]
    exact ⟨_, rfl, fun K v h => zeroDisk h⟩
  | false =>
  cases h2 : decide (cap < (usedF o : Int)) with
  | true =>
    (repeat (first | apply Wp.skip | apply Wp.exit | apply Wp.ret | apply Wp.block | apply Wp.label | ((first | refine Wp.sreg (fun K hK => ?_) | refine Wp.reg (fun K hK => ?_) | refine Wp.sdrw mixed (fun K hK => ?_) | refine Wp.drw mixed (fun K hK => ?_) | refine Wp.condG (fun K hK hF => ?_)); (repeat (revert hK; intro hK; simp (maxSteps := 2000000) (disch := omega) only [RUN, TY, RUNB, aop, ofV, SV.ofD, aLd, aSt, aFd, aLen, aBu, CV.lenOf, CV.one, D.one, Value.oneCell', CV.toD0, oWn, reduceCtorEq, Nat.reduceBEq, Nat.reduceAdd, Nat.reduceLT, Nat.reduceLeDiff, h1, h2]; (first | (refine hK _ ?_; clear hK K) | (refine ⟨by kernel_rfl, hK _ ?_⟩; clear hK K) | (refine hK ?_; clear hK hF K) | (refine hF ?_; clear hK hF K) | refine bcf (by assumption) ?_ | refine bca (by assumption) ?_))); fail_if_success (revert hK; intro hK)) | apply Wp.seq))
    simp (maxSteps := 2000000) (disch := omega) only [RUN, TY, RUNB, aLd, CV.toD0, rD0, tQ0, Nat.reduceBEq, Nat.reduceAdd, bodyW]
    exact ⟨_, rfl, fun K v h => zeroDisk h⟩
  | false =>
  cases h3 : decide (0 < left) with
  | true =>
    have := of_decide_eq_true h3
    (repeat (first | apply Wp.skip | apply Wp.exit | apply Wp.ret | apply Wp.block | apply Wp.label | ((first | refine Wp.sreg (fun K hK => ?_) | refine Wp.reg (fun K hK => ?_) | refine Wp.sdrw mixed (fun K hK => ?_) | refine Wp.drw mixed (fun K hK => ?_) | refine Wp.condG (fun K hK hF => ?_)); (repeat (revert hK; intro hK; simp (maxSteps := 2000000) (disch := omega) only [RUN, TY, RUNB, aop, ofV, SV.ofD, aLd, aSt, aFd, aLen, aBu, CV.lenOf, CV.one, D.one, Value.oneCell', CV.toD0, oWn, Nat.reduceBEq, Nat.reduceAdd, Nat.reduceLT, Nat.reduceLeDiff, h1, h2, h3]; (first | (refine hK _ ?_; clear hK K) | (refine ⟨by kernel_rfl, hK _ ?_⟩; clear hK K) | (refine hK ?_; clear hK hF K) | (refine hF ?_; clear hK hF K) | refine bcf (by assumption) ?_ | refine bca (by assumption) ?_))); fail_if_success (revert hK; intro hK)) | apply Wp.seq))
    simp (maxSteps := 2000000) (disch := omega) only [RUN, TY, RUNB, aLd, CV.toD0, rD0, Nat.reduceBEq, Nat.reduceAdd, bodyW]
    exact ⟨_, rfl, fun K v h => h⟩
  | false =>
    (repeat (first | apply Wp.skip | apply Wp.exit | apply Wp.ret | apply Wp.block | apply Wp.label | ((first | refine Wp.sreg (fun K hK => ?_) | refine Wp.reg (fun K hK => ?_) | refine Wp.sdrw mixed (fun K hK => ?_) | refine Wp.drw mixed (fun K hK => ?_) | refine Wp.condG (fun K hK hF => ?_)); (repeat (revert hK; intro hK; simp (maxSteps := 2000000) (disch := omega) only [RUN, TY, RUNB, aop, ofV, SV.ofD, aLd, aSt, aFd, aLen, aBu, CV.lenOf, CV.one, D.one, Value.oneCell', CV.toD0, oWn, Nat.reduceBEq, Nat.reduceAdd, Nat.reduceLT, Nat.reduceLeDiff, h1, h2, h3]; (first | (refine hK _ ?_; clear hK K) | (refine ⟨by kernel_rfl, hK _ ?_⟩; clear hK K) | (refine hK ?_; clear hK hF K) | (refine hF ?_; clear hK hF K) | refine bcf (by assumption) ?_ | refine bca (by assumption) ?_))); fail_if_success (revert hK; intro hK)) | apply Wp.seq))
    simp (maxSteps := 2000000) (disch := omega) only [RUN, TY, RUNB, aLd, CV.toD0, rD0, Nat.reduceBEq, Nat.reduceAdd, bodyW]
    exact ⟨_, rfl, fun K v h => h⟩
theorem refDo_fun (s : DiskS) (w : WriteD) (hs : Small s.fs) (hw : w.file.length ≤ 1000000) (hwb : w.b.length ≤ 1000000) (hle : s.left ≤ 9223372036854775807) : Fun Tryz.prog 45 [s.d, .agg w.dv] (.tup [(doF s w).1.d, int (doF s w).2]) := by
  obtain ⟨fs, cap, left, down⟩ := s
  simp only at hs hle
  have hck := refCheck_fun fs cap left down hs
  have hmy := refMay_fun w (by omega)
  cases hval : validB fs cap with
  | false =>
    rw [hval] at hck
    rw [show doF ⟨fs, cap, left, down⟩ w = (⟨[], 0, 0, false⟩, 2) from by simp [doF, hval]]
    (refine Fun.of_bodyW Tryz.func45 rfl rfl Tryz.ntmps45 Tryz.results45 (by simp) ?_)
    (repeat (first | apply Wp.skip | apply Wp.exit | apply Wp.ret | apply Wp.block | apply Wp.label | ((first | refine Wp.sreg (fun K hK => ?_) | refine Wp.reg (fun K hK => ?_) | refine Wp.sdrw mixed (fun K hK => ?_) | refine Wp.drw mixed (fun K hK => ?_) | refine Wp.condG (fun K hK hF => ?_)); (repeat (revert hK; intro hK; simp (maxSteps := 2000000) (disch := omega) only [RUN, TY, RUNB, aop, ofV, SV.ofD, aLd, aSt, CV.exact, Value.oneCell', CV.toD0, oWn, reduceCtorEq, Nat.reduceBEq, Nat.reduceAdd, Nat.reduceLT, Int.reduceBNe, WriteD.dv]; (first | (refine hK _ ?_; clear hK K) | (refine ⟨by kernel_rfl, hK _ ?_⟩; clear hK K) | (refine hK ?_; clear hK hF K) | (refine hF ?_; clear hK hF K) | refine bcf (by assumption) ?_ | refine bca (by assumption) ?_))); fail_if_success (revert hK; intro hK)) | apply Wp.seq))
    simp (maxSteps := 2000000) (disch := omega) only [RUN, TY, RUNB, aLd, CV.toD0, rD0, tQ0, Nat.reduceBEq, Nat.reduceAdd, bodyW]
    exact ⟨_, rfl, fun K v h => zeroDisk h⟩
  | true =>
    cases hop : opB w with
    | false =>
      rw [hval] at hck
      rw [hop] at hmy
      rw [show doF ⟨fs, cap, left, down⟩ w = (⟨[], 0, 0, false⟩, 2) from by simp [doF, hop]]
      simp only [WriteD.dv] at hmy
      (refine Fun.of_bodyW Tryz.func45 rfl rfl Tryz.ntmps45 Tryz.results45 (by simp) ?_)
      (repeat (first | apply Wp.skip | apply Wp.exit | apply Wp.ret | apply Wp.block | apply Wp.label | ((first | refine Wp.sreg (fun K hK => ?_) | refine Wp.reg (fun K hK => ?_) | refine Wp.sdrw mixed (fun K hK => ?_) | refine Wp.drw mixed (fun K hK => ?_) | refine Wp.condG (fun K hK hF => ?_)); (repeat (revert hK; intro hK; simp (maxSteps := 2000000) (disch := omega) only [RUN, TY, RUNB, aop, ofV, SV.ofD, aLd, aSt, CV.exact, Value.oneCell', CV.toD0, oWn, reduceCtorEq, Nat.reduceBEq, Nat.reduceAdd, Nat.reduceLT, Int.reduceBNe, WriteD.dv]; (first | (refine hK _ ?_; clear hK K) | (refine ⟨by kernel_rfl, hK _ ?_⟩; clear hK K) | (refine hK ?_; clear hK hF K) | (refine hF ?_; clear hK hF K) | refine bcf (by assumption) ?_ | refine bca (by assumption) ?_))); fail_if_success (revert hK; intro hK)) | apply Wp.seq))
      simp (maxSteps := 2000000) (disch := omega) only [RUN, TY, RUNB, aLd, CV.toD0, rD0, tQ0, Nat.reduceBEq, Nat.reduceAdd, bodyW]
      exact ⟨_, rfl, fun K v h => zeroDisk h⟩
    | true =>
      cases hdz : (down || left == 0) with
      | true =>
        rw [hval] at hck
        rw [hop] at hmy
        simp only [WriteD.dv] at hmy
        cases down with
        | true =>
          rw [show doF ⟨fs, cap, left, true⟩ w = (⟨[], 0, 0, false⟩, 30) from by simp [doF, hop, hval]]
          (refine Fun.of_bodyW Tryz.func45 rfl rfl Tryz.ntmps45 Tryz.results45 (by simp) ?_)
          (repeat (first | apply Wp.skip | apply Wp.exit | apply Wp.ret | apply Wp.block | apply Wp.label | ((first | refine Wp.sreg (fun K hK => ?_) | refine Wp.reg (fun K hK => ?_) | refine Wp.sdrw mixed (fun K hK => ?_) | refine Wp.drw mixed (fun K hK => ?_) | refine Wp.condG (fun K hK hF => ?_)); (repeat (revert hK; intro hK; simp (maxSteps := 2000000) (disch := omega) only [RUN, TY, RUNB, aop, ofV, SV.ofD, aLd, aSt, aFd, CV.exact, Value.oneCell', CV.toD0, oWn, reduceCtorEq, Nat.reduceBEq, Nat.reduceAdd, Nat.reduceLT, Int.reduceBNe, WriteD.dv]; (first | (refine hK _ ?_; clear hK K) | (refine ⟨by kernel_rfl, hK _ ?_⟩; clear hK K) | (refine hK ?_; clear hK hF K) | (refine hF ?_; clear hK hF K) | refine bcf (by assumption) ?_ | refine bca (by assumption) ?_))); fail_if_success (revert hK; intro hK)) | apply Wp.seq))
          simp (maxSteps := 2000000) (disch := omega) only [RUN, TY, RUNB, aLd, CV.toD0, rD0, tQ0, Nat.reduceBEq, Nat.reduceAdd, bodyW]
          exact ⟨_, rfl, fun K v h => zeroDisk h⟩
        | false =>
          have hz : (left == 0) = true := hdz
          rw [show doF ⟨fs, cap, left, false⟩ w = (⟨fs, cap, left, true⟩, 30) from by simp only [doF, hop, hval, hz]; rfl]
          (refine Fun.of_bodyW Tryz.func45 rfl rfl Tryz.ntmps45 Tryz.results45 (by simp) ?_)
          (repeat (first | apply Wp.skip | apply Wp.exit | apply Wp.ret | apply Wp.block | apply Wp.label | ((first | refine Wp.sreg (fun K hK => ?_) | refine Wp.reg (fun K hK => ?_) | refine Wp.sdrw mixed (fun K hK => ?_) | refine Wp.drw mixed (fun K hK => ?_) | refine Wp.condG (fun K hK hF => ?_)); (repeat (revert hK; intro hK; simp (maxSteps := 2000000) (disch := omega) only [RUN, TY, RUNB, aop, ofV, SV.ofD, aLd, aSt, aFd, CV.exact, CV.one, D.one, Value.oneCell', CV.toD0, oWn, Nat.reduceBEq, Nat.reduceAdd, Nat.reduceLT, Nat.reduceLeDiff, Int.reduceBNe, WriteD.dv, hz]; (first | (refine hK _ ?_; clear hK K) | (refine ⟨by kernel_rfl, hK _ ?_⟩; clear hK K) | (refine hK ?_; clear hK hF K) | (refine hF ?_; clear hK hF K) | refine bcf (by assumption) ?_ | refine bca (by assumption) ?_))); fail_if_success (revert hK; intro hK)) | apply Wp.seq))
          simp (maxSteps := 2000000) (disch := omega) only [RUN, TY, RUNB, aLd, CV.toD0, rD0, tQ0, Nat.reduceBEq, Nat.reduceAdd, bodyW]
          exact ⟨_, rfl, fun K v h => h⟩
      | false =>
        simp only [Bool.or_eq_false_iff] at hdz
        obtain ⟨rfl, hz⟩ := hdz
        exact refDo_on fs cap left w hs hw hwb hle hval hop hz
end Go.Proofs.YtepcpdionlfkhaaGreatDoor
