/- Package file: the frames of loads. -/
import Derived.Test.YtepcpdionlfkhaaGreatDoorMacF
namespace Go.Proofs.YtepcpdionlfkhaaGreatDoor
open Go Go.RowKit
set_option maxHeartbeats 8000000
set_option maxRecDepth 100000
set_option linter.unusedVariables false
set_option linter.unusedSimpArgs false
def b1 (l : List UInt8) : List UInt8 := if l.length ≤ 1024 then frF l else []
def e1F (l : List UInt8) : Int := if l.length ≤ 1024 then 0 else 2
theorem Bytes1_fun' (l : List UInt8) (hl : l.length ≤ 1000000) : Fun Tryz.prog 152 [str l] (.tup [str (b1 l), int (e1F l)]) := by
  have h := Bytes1_fun l hl
  unfold b1 e1F
  by_cases c : l.length ≤ 1024
  · rw [if_pos c] at h; rw [if_pos c, if_pos c]; exact h
  · rw [if_neg c] at h; rw [if_neg c, if_neg c]; exact h
abbrev yldF (l : List UInt8) : List D := [str (b1 l), int (e1F l)]
theorem fframes_fun (ls : List (List UInt8)) : Fun Tryz.prog 95 [strsD ls] (.fn (.func 151) [.ptr [strsD ls] 0]) := by
  (refine Fun.of_body Tryz.func95 rfl rfl Tryz.ntmps95 Tryz.results95 (by simp) ?_)
  (repeat (first | apply Wp.skip | apply Wp.exit | apply Wp.ret | apply Wp.block | apply Wp.label | ((first | refine Wp.sreg (fun K hK => ?_) | refine Wp.reg (fun K hK => ?_) | refine Wp.sdrw mixed (fun K hK => ?_) | refine Wp.drw mixed (fun K hK => ?_) | refine Wp.condG (fun K hK hF => ?_)); (repeat (revert hK; intro hK; simp (maxSteps := 2000000) (disch := omega) only [RUN, RUNB, aop, ofV, SV.ofD, aMF, CV.one, D.one, oWn, Nat.reduceBEq, Nat.reduceAdd, Nat.reduceLT]; (first | (refine hK _ ?_; clear hK K) | (refine ⟨by kernel_rfl, hK _ ?_⟩; clear hK K) | (refine hK ?_; clear hK hF K) | (refine hF ?_; clear hK hF K) | refine bcf (by assumption) ?_ | refine bca (by assumption) ?_))); fail_if_success (revert hK; intro hK)) | apply Wp.seq))
  (refine Wp.weak (Weak.freeze (id := 0) (by simp (maxSteps := 2000000) (disch := omega) only [RUN]; rfl) (by simp (maxSteps := 2000000) (disch := omega) only [RUNB, CV.toD0]; rfl)) ?_)
  (repeat (first | apply Wp.skip | apply Wp.exit | apply Wp.ret | apply Wp.block | apply Wp.label | ((first | refine Wp.sreg (fun K hK => ?_) | refine Wp.reg (fun K hK => ?_) | refine Wp.sdrw mixed (fun K hK => ?_) | refine Wp.drw mixed (fun K hK => ?_) | refine Wp.condG (fun K hK hF => ?_)); (repeat (revert hK; intro hK; simp (maxSteps := 2000000) (disch := omega) only [RUN, RUNB, aop, aMF, oWn, Nat.reduceBEq, Nat.reduceAdd, Nat.reduceLT]; (first | (refine hK _ ?_; clear hK K) | (refine ⟨by kernel_rfl, hK _ ?_⟩; clear hK K) | (refine hK ?_; clear hK hF K) | (refine hF ?_; clear hK hF K) | refine bcf (by assumption) ?_ | refine bca (by assumption) ?_))); fail_if_success (revert hK; intro hK)) | apply Wp.seq))
  simp (maxSteps := 2000000) (disch := omega) only [RUN, RUNB, rD0, bQ0]
theorem fframes_seq (ls : List (List UInt8)) (hn : ls.length ≤ 1000000) (hl : ∀ l ∈ ls, l.length ≤ 1000000) : SeqF Tryz.prog 151 [.ptr [strsD ls] 0] (ls.map yldF) := by
  (refine SeqF.of_body Tryz.func151 rfl rfl Tryz.ntmps151 Tryz.results151 (by simp) (fun ks A cont q hL hY => ?_))
  (repeat (first | apply Wp.skip | apply Wp.exit | apply Wp.ret | apply Wp.block | apply Wp.label | ((first | refine Wp.sreg (fun K hK => ?_) | refine Wp.reg (fun K hK => ?_) | refine Wp.sdrw mixed (fun K hK => ?_) | refine Wp.drw mixed (fun K hK => ?_) | refine Wp.condG (fun K hK hF => ?_)); (repeat (revert hK; intro hK; simp (maxSteps := 2000000) (disch := omega) only [RUN, TY, RUNB, aop, ofV, SV.ofD, aLd, aLen, aBu, CV.lenOf, Nat.reduceAdd, Nat.reduceLT]; (first | (refine hK _ ?_; clear hK K) | (refine ⟨by kernel_rfl, hK _ ?_⟩; clear hK K) | (refine hK ?_; clear hK hF K) | (refine hF ?_; clear hK hF K) | refine bcf (by assumption) ?_ | refine bca (by assumption) ?_))); fail_if_success (revert hK; intro hK)) | apply Wp.seq))
  refine Wp.loop (fun y : Nat => ⟨ofL [(0, .c (.yld 999)), (5, .c (.d (strsD ls))), (6, vi .i64 ls.length), (7, vi .i64 y)], ofHB (A y) [], 1000, 19, ⟨ks, [], false, some q⟩⟩) (fun y => y ≤ ls.length ∧ ∀ j, j < y → cont j = true) (fun y => ls.length - y) 0 ⟨Nat.zero_le _, fun j hj => by omega⟩ ?_ ?_
  · refine Weak.keepB (A := A) hL 0 rfl rfl (baseIs_refl _) rfl ?_
    simp (maxSteps := 2000000) (disch := omega) only [RUN, RUNB, Nat.reduceBEq]
  rintro y ⟨hy, hc⟩
  (repeat (first | apply Wp.skip | apply Wp.exit | apply Wp.ret | apply Wp.block | apply Wp.label | ((first | refine Wp.sreg (fun K hK => ?_) | refine Wp.reg (fun K hK => ?_) | refine Wp.sdrw mixed (fun K hK => ?_) | refine Wp.drw mixed (fun K hK => ?_) | refine Wp.condG (fun K hK hF => ?_)); (repeat (revert hK; intro hK; simp (maxSteps := 2000000) (disch := omega) only [RUN, RUNB, aop, Nat.reduceBEq, Nat.reduceAdd, Nat.reduceLT]; (first | (refine hK _ ?_; clear hK K) | (refine ⟨by kernel_rfl, hK _ ?_⟩; clear hK K) | (refine hK ?_; clear hK hF K) | (refine hF ?_; clear hK hF K) | refine bcf (by assumption) ?_ | refine bca (by assumption) ?_))); fail_if_success (revert hK; intro hK)) | apply Wp.seq))
  refine Wp.cond (by simp (maxSteps := 2000000) (disch := omega) only [RUN, RUNB]; rfl) (fun h => ?_) (fun h => ?_)
  · have hlt : y < ls.length := by simpa using h
    have hg : ls[y]? = some ls[y] := List.getElem?_eq_getElem hlt
    have hYy := hY y (by simpa using hlt) hc
    simp only [List.getElem_map] at hYy
    have hlen := hl _ (List.getElem_mem hlt)
    generalize ls[y] = l at *
    have c1 := Bytes1_fun' l hlen
    (repeat (first | apply Wp.skip | apply Wp.exit | apply Wp.ret | apply Wp.block | apply Wp.label | ((first | refine Wp.sreg (fun K hK => ?_) | refine Wp.reg (fun K hK => ?_) | refine Wp.sdrw mixed (fun K hK => ?_) | refine Wp.drw mixed (fun K hK => ?_) | refine Wp.condG (fun K hK hF => ?_)); (repeat (revert hK; intro hK; simp (maxSteps := 2000000) (disch := omega) only [RUN, TY, RUNB, aop, SV.ofD, aLd, aXt, CV.exact, CV.lstOf, oWn, Nat.reduceBEq, Nat.reduceAdd, Nat.reduceLT, hg]; (first | (refine hK _ ?_; clear hK K) | (refine ⟨by kernel_rfl, hK _ ?_⟩; clear hK K) | (refine hK ?_; clear hK hF K) | (refine hF ?_; clear hK hF K) | refine bcf (by assumption) ?_ | refine bca (by assumption) ?_))); fail_if_success (revert hK; intro hK)) | apply Wp.seq))
    (first | refine Wp.sregG ?_ | refine Wp.regG ?_ | (refine Wp.seq ?_; first | refine Wp.sregG ?_ | refine Wp.regG ?_))
    refine GRun.at 5 (fun K hK => ?_); simp (maxSteps := 2000000) (disch := omega) only [RUN, RUNB, aop, oWn, Nat.reduceBEq, Nat.reduceAdd, Nat.reduceLT]; refine bcf c1 ?_; simp (maxSteps := 2000000) (disch := omega) only [RUN, RUNB, aop, SV.ofD, aXt, Nat.reduceBEq, Nat.reduceAdd, Nat.reduceLT]; refine hK _ ?_; clear hK K
    refine GRun.yld hL rfl rfl (by kernel_rfl) rfl hYy (by ((repeat refine (baseIs_upd (by omega)).2 ?_); first | exact baseIs_refl _ | exact baseIs_ofHB rfl)) (Nat.le_of_ble_eq_true rfl) ?_ ?_ ?_
    · simp (maxSteps := 2000000) (disch := omega) only [RUN, RUNB, Nat.reduceBEq]
    · simp (maxSteps := 2000000) (disch := omega) only [RUN, RUNB, Nat.reduceBEq]
    (refine GRun.done (fun K hK => ?_); simp (maxSteps := 2000000) (disch := omega) only [RUN, RUNB, aop, CV.exact, Nat.reduceAdd, Nat.reduceLT, hL.rb]; refine hK _ ?_; clear hK K)
    refine Wp.cond (by simp (maxSteps := 2000000) (disch := omega) only [RUN, RUNB]; rfl) (fun h => ?_) (fun h => ?_)
    · have hcy : cont y = false := by simpa using h
      (repeat (first | apply Wp.skip | apply Wp.exit | apply Wp.ret | apply Wp.block | apply Wp.label | ((first | refine Wp.sreg (fun K hK => ?_) | refine Wp.reg (fun K hK => ?_) | refine Wp.sdrw mixed (fun K hK => ?_) | refine Wp.drw mixed (fun K hK => ?_) | refine Wp.condG (fun K hK hF => ?_)); (repeat (revert hK; intro hK; simp (maxSteps := 2000000) (disch := omega) only [RUN, TY, RUNB, aop, ofV, SV.ofD, aLd, aSt, aFd, aPt, aLen, aSl, aIf, aMF, aXt, aBu, aCX, aCL, aCy, CV.exact, CV.lstOf, CV.lenOf, CV.one, D.one, Value.oneCell', CV.toD0, iFl, oWn, pLk, nD0, rD0, bQ0, tQ0, kQ0, reduceCtorEq, reduceIte, Nat.reduceBEq, Nat.reduceEqDiff, Nat.reduceAdd, Nat.reduceMul, Nat.reduceSub, Nat.reduceLT, Nat.reduceLeDiff, Nat.reduceBNe, Int.reduceLE, Int.reduceLT, Int.reduceBEq, Int.reduceBNe, Int.reduceEq, Int.reduceNeg, Int.reduceAdd, Int.reduceSub, Int.reduceToNat, forall_const]; (first | (refine hK _ ?_; clear hK K) | (refine ⟨by kernel_rfl, hK _ ?_⟩; clear hK K) | (refine hK ?_; clear hK hF K) | (refine hF ?_; clear hK hF K) | refine bcf (by assumption) ?_ | refine bca (by assumption) ?_))); fail_if_success (revert hK; intro hK)) | apply Wp.seq))
      refine ⟨rfl, y + 1, ⟨by simp; omega, fun j hj => hc j (by omega), .inr ⟨by omega, hcy⟩⟩, ?_⟩
      simp (maxSteps := 2000000) (disch := omega) only []
      exact baseIs_refl _
    · have hcy : cont y = true := by simpa using h
      (repeat (first | apply Wp.skip | apply Wp.exit | apply Wp.ret | apply Wp.block | apply Wp.label | ((first | refine Wp.sreg (fun K hK => ?_) | refine Wp.reg (fun K hK => ?_) | refine Wp.sdrw mixed (fun K hK => ?_) | refine Wp.drw mixed (fun K hK => ?_) | refine Wp.condG (fun K hK hF => ?_)); (repeat (revert hK; intro hK; simp (maxSteps := 2000000) (disch := omega) only [RUN, RUNB, aop, ofV, Nat.reduceBEq, Nat.reduceAdd, Nat.reduceLT]; (first | (refine hK _ ?_; clear hK K) | (refine ⟨by kernel_rfl, hK _ ?_⟩; clear hK K) | (refine hK ?_; clear hK hF K) | (refine hF ?_; clear hK hF K) | refine bcf (by assumption) ?_ | refine bca (by assumption) ?_))); fail_if_success (revert hK; intro hK)) | apply Wp.seq))
      refine ⟨y + 1, ⟨hlt, fun j hj => ?_⟩, by omega, ?_⟩
      · rcases Nat.lt_or_ge j y with h1 | h1
        · exact hc j h1
        · obtain rfl : j = y := by omega
          exact hcy
      refine Weak.keepB (A := A) (L := [(0, .c (.yld 999)), (5, .c (.d (strsD ls))), (6, vi .i64 ls.length), (7, vi .i64 (y + 1 : Nat))]) (M := []) (fx := ⟨ks, [], false, some q⟩) hL (y + 1) rfl rfl (baseIs_refl _) rfl ?_
      simp (maxSteps := 2000000) (disch := omega) only [RUN, RUNB, Nat.reduceBEq]
  · have hyl : y = ls.length := by simp only [decide_eq_false_iff_not] at h; omega
    subst hyl
    (repeat (first | apply Wp.skip | apply Wp.exit | apply Wp.ret | apply Wp.block | apply Wp.label | ((first | refine Wp.sreg (fun K hK => ?_) | refine Wp.reg (fun K hK => ?_) | refine Wp.sdrw mixed (fun K hK => ?_) | refine Wp.drw mixed (fun K hK => ?_) | refine Wp.condG (fun K hK hF => ?_)); (repeat (revert hK; intro hK; simp (maxSteps := 2000000) (disch := omega) only [RUN, TY, RUNB, aop, ofV, SV.ofD, aLd, aSt, aFd, aPt, aLen, aSl, aIf, aMF, aXt, aBu, aCX, aCL, aCy, CV.exact, CV.lstOf, CV.lenOf, CV.one, D.one, Value.oneCell', CV.toD0, iFl, oWn, pLk, nD0, rD0, bQ0, tQ0, kQ0, reduceCtorEq, reduceIte, Nat.reduceBEq, Nat.reduceEqDiff, Nat.reduceAdd, Nat.reduceMul, Nat.reduceSub, Nat.reduceLT, Nat.reduceLeDiff, Nat.reduceBNe, Int.reduceLE, Int.reduceLT, Int.reduceBEq, Int.reduceBNe, Int.reduceEq, Int.reduceNeg, Int.reduceAdd, Int.reduceSub, Int.reduceToNat, forall_const]; (first | (refine hK _ ?_; clear hK K) | (refine ⟨by kernel_rfl, hK _ ?_⟩; clear hK K) | (refine hK ?_; clear hK hF K) | (refine hF ?_; clear hK hF K) | refine bcf (by assumption) ?_ | refine bca (by assumption) ?_))); fail_if_success (revert hK; intro hK)) | apply Wp.seq))
    refine ⟨rfl, ls.length, ⟨by simp, fun j hj => hc j (by omega), .inl ⟨by simp, hc⟩⟩, ?_⟩
    simp (maxSteps := 2000000) (disch := omega) only []
    exact baseIs_refl _
end Go.Proofs.YtepcpdionlfkhaaGreatDoor
