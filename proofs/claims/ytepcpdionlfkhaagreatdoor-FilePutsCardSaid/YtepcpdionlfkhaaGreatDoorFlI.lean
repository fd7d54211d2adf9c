/- Package file: Loads. -/
import Derived.Test.YtepcpdionlfkhaaGreatDoorFlH
import Derived.Test.YtepcpdionlfkhaaGreatDoorDkI
import Derived.Test.YtepcpdionlfkhaaGreatDoorDkP
namespace Go.Proofs.YtepcpdionlfkhaaGreatDoor
open Go Go.RowKit
set_option maxHeartbeats 8000000
set_option maxRecDepth 100000
set_option linter.unusedVariables false
set_option linter.unusedSimpArgs false
def getB (fs : List FileD) (nm : List UInt8) : List UInt8 := match fs[fs.findIdx fun f => f.name == nm]? with
  | some f => f.b
  | none => []
theorem lodF_nil : lodF [] = [] := by simp [lodF, ysF_none 0 (show frOne [] = none from rfl)]
theorem tornF_nil : tornF [] = 0 := by simp [tornF, ysF_none 0 (show frOne [] = none from rfl), tornY]
theorem loads_fun (fs : List FileD) (cap left : Int) (down : Bool) (nm : List UInt8) (hl : fs.length ≤ 1000000) (hb : ∀ f ∈ fs, f.b.length ≤ 1000000) : Fun Tryz.prog 41 [diskD fs cap left down, str nm] (.tup [strsD (lodF (getB fs nm)), int (tornF (getB fs nm))]) := by
  have c1 := get_fun fs cap left down nm (by omega)
  cases hg : fs[fs.findIdx fun f => f.name == nm]? with
  | none =>
    have hB : getB fs nm = [] := by simp [getB, hg]
    rw [hB, lodF_nil, tornF_nil]
    refine Fun.weaken (r := .tup [nilV, int 0]) ?_ (fun K v h => h.replT rfl (fun j x y hx hy v hv => ?_))
    · simp only [getV, hg] at c1
      (refine Fun.of_body Tryz.func41 rfl rfl Tryz.ntmps41 Tryz.results41 (by simp) ?_)
      (repeat (first | apply Wp.skip | apply Wp.exit | apply Wp.ret | apply Wp.block | apply Wp.label | ((first | refine Wp.sreg (fun K hK => ?_) | refine Wp.reg (fun K hK => ?_) | refine Wp.sdrw mixed (fun K hK => ?_) | refine Wp.drw mixed (fun K hK => ?_) | refine Wp.condG (fun K hK hF => ?_)); (repeat (revert hK; intro hK; simp (maxSteps := 2000000) (disch := omega) only [RUN, TY, RUNB, aop, ofV, SV.ofD, aLd, aSt, aXt, CV.exact, Value.oneCell', CV.toD0, oWn, Nat.reduceBEq, Nat.reduceAdd, Nat.reduceLT]; (first | (refine hK _ ?_; clear hK K) | (refine ⟨by kernel_rfl, hK _ ?_⟩; clear hK K) | (refine hK ?_; clear hK hF K) | (refine hF ?_; clear hK hF K) | refine bcf (by assumption) ?_ | refine bca (by assumption) ?_))); fail_if_success (revert hK; intro hK)) | apply Wp.seq))
      simp (maxSteps := 2000000) (disch := omega) only [RUN, RUNB, rD0, bQ0, tQ0, Nat.reduceBEq]
    · match j, hx, hy with
      | 0, hx, hy => cases hx; cases hy; exact hv.nilL 1
      | 1, hx, hy => cases hx; cases hy; exact hv
  | some f =>
    have hB : getB fs nm = f.b := by simp [getB, hg]
    rw [hB]
    have hf := hb f (List.mem_of_getElem? hg)
    have c2 := All_fun f.b hf
    simp only [getV, hg, FileD.dv] at c1
    (refine Fun.of_body Tryz.func41 rfl rfl Tryz.ntmps41 Tryz.results41 (by simp) ?_)
    (repeat (first | apply Wp.skip | apply Wp.exit | apply Wp.ret | apply Wp.block | apply Wp.label | ((first | refine Wp.sreg (fun K hK => ?_) | refine Wp.reg (fun K hK => ?_) | refine Wp.sdrw mixed (fun K hK => ?_) | refine Wp.drw mixed (fun K hK => ?_) | refine Wp.condG (fun K hK hF => ?_)); (repeat (revert hK; intro hK; simp (maxSteps := 2000000) (disch := omega) only [RUN, TY, RUNB, aop, ofV, SV.ofD, aLd, aSt, aFd, aXt, CV.exact, Value.oneCell', CV.toD0, oWn, Nat.reduceBEq, Nat.reduceAdd, Nat.reduceLT, Nat.reduceLeDiff]; (first | (refine hK _ ?_; clear hK K) | (refine ⟨by kernel_rfl, hK _ ?_⟩; clear hK K) | (refine hK ?_; clear hK hF K) | (refine hF ?_; clear hK hF K) | refine bcf (by assumption) ?_ | refine bca (by assumption) ?_))); fail_if_success (revert hK; intro hK)) | apply Wp.seq))
    simp (maxSteps := 2000000) (disch := omega) only [RUN, RUNB, rD0, bQ0, Nat.reduceBEq]
end Go.Proofs.YtepcpdionlfkhaaGreatDoor
