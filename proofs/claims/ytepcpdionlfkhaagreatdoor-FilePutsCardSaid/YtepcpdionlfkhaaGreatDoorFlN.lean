/- rovinglaw05: wakes. -/
import Derived.Test.YtepcpdionlfkhaaGreatDoorFlK
import Derived.Test.YtepcpdionlfkhaaGreatDoorFlM
import Derived.Test.YtepcpdionlfkhaaGreatDoorDkI
namespace Go.Proofs.YtepcpdionlfkhaaGreatDoor
open Go Go.RowKit
set_option maxHeartbeats 8000000
set_option maxRecDepth 100000
set_option linter.unusedVariables false
set_option linter.unusedSimpArgs false
abbrev w0 : DiskS := ⟨[], 100, -1, false⟩
abbrev w1 : DiskS := ⟨[⟨[97], [1, 0, 0, 0, 120], 5⟩], 100, -1, false⟩
abbrev w2 : DiskS := ⟨[⟨[97], [1, 0, 0, 0, 120, 2, 0], 5⟩], 100, -1, false⟩
theorem w_new : newF 100 = (w0, 0) := by rfl
theorem w_bytes : bytesF [[120]] = [1, 0, 0, 0, 120] := by decide +kernel
theorem w_put : fputF w0 [97] [[120]] = (w1, none) := by rfl
theorem w_do : doF w1 ⟨0, [97], [2, 0], 0⟩ = (w2, 0) := by rfl
theorem w_lod2 : lodF [1, 0, 0, 0, 120, 2, 0] = [[120]] ∧ tornF [1, 0, 0, 0, 120, 2, 0] = 2 := by
  have h1 : ysF 0 [1, 0, 0, 0, 120, 2, 0] = [([120], 5)] := by
    rw [ysF_some 0 (show frOne [1, 0, 0, 0, 120, 2, 0] = some 1 by decide +kernel), ysF_none _ (show frOne _ = none by decide +kernel)]; rfl
  exact ⟨by unfold lodF; rw [h1]; rfl, by unfold tornF; rw [h1]; rfl⟩
theorem w_lod1 : lodF [1, 0, 0, 0, 120] = [[120]] ∧ tornF [1, 0, 0, 0, 120] = 0 := by
  have h1 : ysF 0 [1, 0, 0, 0, 120] = [([120], 5)] := by
    rw [ysF_some 0 (show frOne [1, 0, 0, 0, 120] = some 1 by decide +kernel), ysF_none _ (show frOne _ = none by decide +kernel)]; rfl
  exact ⟨by unfold lodF; rw [h1]; rfl, by unfold tornF; rw [h1]; rfl⟩
theorem w_mendW : mendW w2.fs [97] = [⟨3, [97], [], 5⟩] := by
  have hB : getB w2.fs [97] = [1, 0, 0, 0, 120, 2, 0] := rfl
  unfold mendW; rw [hB, w_lod2.2]; rfl
theorem w_mend : fmendF w2 [97] = (w1, none) := by
  unfold fmendF; rw [w_mendW]; rfl
theorem w_putA : fputF w1 [65] [[120]] = (w1, some (0, [65], 2)) := by rfl
theorem w_small1 : Small w1.fs := small_one _ (by decide) (by decide)
theorem w_small2 : Small w2.fs := small_one _ (by decide) (by decide)
theorem wakes5_fun : Fun Tryz.prog 15 [] (boo true) := by
  have c1 := new_fun' 100
  rw [w_new] at c1
  have c2 := fput_fun w0 [97] [[120]] (by decide) (by decide) (by decide) (by decide) (by rw [w_bytes]; decide) ⟨⟨small_nil, by decide⟩, fun _ => ⟨⟨small_one _ (by decide) (by decide), by decide⟩, fun _ => trivial⟩⟩
  rw [w_put] at c2
  have c3 := do_fun w1 ⟨0, [97], [2, 0], 0⟩ w_small1 (by decide) (by decide) (by decide)
  rw [w_do] at c3
  have hB2 : getB w2.fs [97] = [1, 0, 0, 0, 120, 2, 0] := rfl
  have hB1 : getB w1.fs [97] = [1, 0, 0, 0, 120] := rfl
  have c4 := loads_fun w2.fs 100 (-1) false [97] (by decide) (by decide)
  rw [hB2, w_lod2.1, w_lod2.2] at c4
  have c5 := fmend_fun w2 [97] (by decide) (fun _ => by decide) (by decide) (by rw [w_mendW]; exact ⟨⟨w_small2, by decide⟩, fun _ => trivial⟩)
  rw [w_mend] at c5
  have c6 := loads_fun w1.fs 100 (-1) false [97] (by decide) (by decide)
  rw [hB1, w_lod1.1, w_lod1.2] at c6
  have c7 := fput_fun w1 [65] [[120]] (by decide) (by decide) (by decide) (by decide) (by rw [w_bytes]; decide) ⟨⟨w_small1, by decide⟩, fun h => by cases h⟩
  rw [w_putA] at c7
  have c8 := is_fault 0 2 2 [65]
  rw [show ((2 : Int) == 2) = true from rfl] at c8
  have c9 := code_fault 0 2 [65]
  have c10 := code_nil_file
  simp only [errV] at c2 c5 c7
  (refine Fun.of_body Tryz.func15 rfl rfl Tryz.ntmps15 Tryz.results15 (by simp) ?_)
  (repeat (first | apply Wp.skip | apply Wp.exit | apply Wp.ret | apply Wp.block | apply Wp.label | ((first | refine Wp.sreg (fun K hK => ?_) | refine Wp.reg (fun K hK => ?_) | refine Wp.sdrw mixed (fun K hK => ?_) | refine Wp.drw mixed (fun K hK => ?_) | refine Wp.condG (fun K hK hF => ?_)); (repeat (revert hK; intro hK; simp (maxSteps := 2000000) (disch := omega) only [RUN, TY, RUNB, aop, ofV, SV.ofD, aLd, aSt, aLen, aIf, aXt, aBu, CV.exact, CV.lstOf, CV.lenOf, CV.one, D.one, Value.oneCell', CV.toD0, oWn, reduceCtorEq, Nat.reduceBEq, Nat.reduceAdd, Nat.reduceMul, Nat.reduceLT, Nat.reduceLeDiff, Int.reduceLE, Int.reduceNeg, Int.reduceToNat]; (first | (refine hK _ ?_; clear hK K) | (refine ⟨by kernel_rfl, hK _ ?_⟩; clear hK K) | (refine hK ?_; clear hK hF K) | (refine hF ?_; clear hK hF K) | refine bcf (by assumption) ?_ | refine bca (by assumption) ?_))); fail_if_success (revert hK; intro hK)) | apply Wp.seq))
  simp (maxSteps := 2000000) (disch := omega) only [RUN, RUNB, rD0, bQ0, Int.reduceNeg]
end Go.Proofs.YtepcpdionlfkhaaGreatDoor
