/- Package file: Put, Mend. -/
import Derived.Test.YtepcpdionlfkhaaGreatDoorFlJ
import Derived.Test.YtepcpdionlfkhaaGreatDoorDkL0
namespace Go.Proofs.YtepcpdionlfkhaaGreatDoor
open Go Go.RowKit
set_option maxHeartbeats 8000000
set_option maxRecDepth 100000
set_option linter.unusedVariables false
set_option linter.unusedSimpArgs false
def putW (nm b : List UInt8) : List WriteD := [⟨0, nm, b, 0⟩, ⟨1, nm, [], 0⟩]
def fputF (s : DiskS) (nm : List UInt8) (ls : List (List UInt8)) : DiskS × Option (Int × List UInt8 × Int) :=
  if bytesE ls = 0 ∧ ls ≠ [] then fdoF s (putW nm (bytesF ls)) else (s, some (0, nm, 2))
theorem fput_fun (s : DiskS) (nm : List UInt8) (ls : List (List UInt8)) (hs : s.fs.length ≤ 100000) (hnm : nm.length ≤ 1000000) (hn : ls.length ≤ 100000) (hl : ∀ l ∈ ls, l.length ≤ 1000000) (hb : (bytesF ls).length ≤ 1000000)
    (hp : okPath s (putW nm (bytesF ls))) : Fun Tryz.prog 21 [s.d, str nm, strsD ls] (.tup [(fputF s nm ls).1.d, errV (fputF s nm ls).2]) := by
  have c1 := fbytes_fun ls hn hl
  have c2 := fdo_fun s (putW nm (bytesF ls)) hp hs (by simp [putW]) (by
    intro w hw
    simp only [putW, List.mem_cons, List.not_mem_nil, or_false] at hw
    rcases hw with rfl | rfl
    · exact ⟨hnm, hb⟩
    · exact ⟨hnm, by simp⟩)
  have c3 := (clone_fun s.fs hs).fun
  obtain ⟨b, hbb⟩ : ∃ b, b = bytesF ls := ⟨_, rfl⟩
  unfold fputF
  rw [← hbb] at c1 c2 ⊢
  clear hbb hp hb
  have bad : ∀ x : DiskS × Option (Int × List UInt8 × Int), (¬ (bytesE ls = 0 ∧ ls ≠ [])) → (if bytesE ls = 0 ∧ ls ≠ [] then x else (s, some (0, nm, 2))) = (s, some (0, nm, 2)) := fun x h => if_neg h
  by_cases he : bytesE ls = 0
  · rw [he] at c1
    cases ls with
    | nil =>
      rw [bad _ (fun q => q.2 rfl)]
      (refine Fun.of_body Tryz.func21 rfl rfl Tryz.ntmps21 Tryz.results21 (by simp) ?_)
      (repeat (first | apply Wp.skip | apply Wp.exit | apply Wp.ret | apply Wp.block | apply Wp.label | ((first | refine Wp.sreg (fun K hK => ?_) | refine Wp.reg (fun K hK => ?_) | refine Wp.sdrw mixed (fun K hK => ?_) | refine Wp.drw mixed (fun K hK => ?_) | refine Wp.condG (fun K hK hF => ?_)); (repeat (revert hK; intro hK; simp (maxSteps := 2000000) (disch := omega) only [RUN, TY, RUNB, aop, ofV, SV.ofD, aLd, aSt, aFd, aLen, aIf, aXt, aBu, CV.exact, CV.lenOf, CV.one, D.one, Value.oneCell', CV.toD0, oWn, reduceCtorEq, Nat.reduceBEq, Nat.reduceAdd, Nat.reduceLT, Nat.reduceLeDiff, Int.reduceBNe]; (first | (refine hK _ ?_; clear hK K) | (refine ⟨by kernel_rfl, hK _ ?_⟩; clear hK K) | (refine hK ?_; clear hK hF K) | (refine hF ?_; clear hK hF K) | refine bcf (by assumption) ?_ | refine bca (by assumption) ?_))); fail_if_success (revert hK; intro hK)) | apply Wp.seq))
      simp (maxSteps := 2000000) (disch := omega) only [RUN, TY, RUNB, aLd, CV.toD0, rD0, bQ0, tQ0, Nat.reduceBEq, Nat.reduceAdd]
      rfl
    | cons x r =>
      rw [if_pos ⟨he, by simp⟩]
      obtain ⟨t, e, ht⟩ : ∃ t e, fdoF s (putW nm b) = (t, e) := ⟨_, _, rfl⟩
      rw [ht] at c2 ⊢
      simp only [putW, WriteD.dv, List.map_cons, List.map_nil] at c2
      have e1 : ((((x :: r).length : Nat) : Int) == 0) = false := by simp; omega
      rcases e with _ | ⟨op, nm', n⟩ <;> simp only [errV] at c2 ⊢
      · (refine Fun.of_body Tryz.func21 rfl rfl Tryz.ntmps21 Tryz.results21 (by simp) ?_)
        (repeat (first | apply Wp.skip | apply Wp.exit | apply Wp.ret | apply Wp.block | apply Wp.label | ((first | refine Wp.sreg (fun K hK => ?_) | refine Wp.reg (fun K hK => ?_) | refine Wp.sdrw mixed (fun K hK => ?_) | refine Wp.drw mixed (fun K hK => ?_) | refine Wp.condG (fun K hK hF => ?_)); (repeat (revert hK; intro hK; simp (maxSteps := 2000000) (disch := omega) only [RUN, TY, RUNB, aop, ofV, SV.ofD, aLd, aSt, aLen, aXt, aBu, CV.exact, CV.lenOf, CV.one, D.one, Value.oneCell', CV.toD0, oWn, reduceCtorEq, Nat.reduceBEq, Nat.reduceAdd, Nat.reduceMul, Nat.reduceLT, Nat.reduceLeDiff, Int.reduceBNe]; (first | (refine hK _ ?_; clear hK K) | (refine ⟨by kernel_rfl, hK _ ?_⟩; clear hK K) | (refine hK ?_; clear hK hF K) | (refine hF ?_; clear hK hF K) | refine bcf (by assumption) ?_ | refine bca (by assumption) ?_))); fail_if_success (revert hK; intro hK)) | apply Wp.seq))
        simp (maxSteps := 2000000) (disch := omega) only [RUN, TY, RUNB, aLd, CV.toD0, rD0, bQ0, Nat.reduceBEq, Nat.reduceAdd]
      · (refine Fun.of_body Tryz.func21 rfl rfl Tryz.ntmps21 Tryz.results21 (by simp) ?_)
        (repeat (first | apply Wp.skip | apply Wp.exit | apply Wp.ret | apply Wp.block | apply Wp.label | ((first | refine Wp.sreg (fun K hK => ?_) | refine Wp.reg (fun K hK => ?_) | refine Wp.sdrw mixed (fun K hK => ?_) | refine Wp.drw mixed (fun K hK => ?_) | refine Wp.condG (fun K hK hF => ?_)); (repeat (revert hK; intro hK; simp (maxSteps := 2000000) (disch := omega) only [RUN, TY, RUNB, aop, ofV, SV.ofD, aLd, aSt, aLen, aXt, aBu, CV.exact, CV.lenOf, CV.one, D.one, Value.oneCell', CV.toD0, oWn, reduceCtorEq, Nat.reduceBEq, Nat.reduceAdd, Nat.reduceMul, Nat.reduceLT, Nat.reduceLeDiff, Int.reduceBNe]; (first | (refine hK _ ?_; clear hK K) | (refine ⟨by kernel_rfl, hK _ ?_⟩; clear hK K) | (refine hK ?_; clear hK hF K) | (refine hF ?_; clear hK hF K) | refine bcf (by assumption) ?_ | refine bca (by assumption) ?_))); fail_if_success (revert hK; intro hK)) | apply Wp.seq))
        simp (maxSteps := 2000000) (disch := omega) only [RUN, TY, RUNB, aLd, CV.toD0, rD0, bQ0, Nat.reduceBEq, Nat.reduceAdd]
  · rw [bad _ (fun q => he q.1)]
    have e1 : (bytesE ls != 0) = true := by simpa using he
    (refine Fun.of_body Tryz.func21 rfl rfl Tryz.ntmps21 Tryz.results21 (by simp) ?_)
    (repeat (first | apply Wp.skip | apply Wp.exit | apply Wp.ret | apply Wp.block | apply Wp.label | ((first | refine Wp.sreg (fun K hK => ?_) | refine Wp.reg (fun K hK => ?_) | refine Wp.sdrw mixed (fun K hK => ?_) | refine Wp.drw mixed (fun K hK => ?_) | refine Wp.condG (fun K hK hF => ?_)); (repeat (revert hK; intro hK; simp (maxSteps := 2000000) (disch := omega) only [RUN, TY, RUNB, aop, ofV, SV.ofD, aLd, aSt, aFd, aIf, aXt, CV.exact, CV.one, D.one, Value.oneCell', CV.toD0, oWn, reduceCtorEq, Nat.reduceBEq, Nat.reduceAdd, Nat.reduceLT, Nat.reduceLeDiff, e1]; (first | (refine hK _ ?_; clear hK K) | (refine ⟨by kernel_rfl, hK _ ?_⟩; clear hK K) | (refine hK ?_; clear hK hF K) | (refine hF ?_; clear hK hF K) | refine bcf (by assumption) ?_ | refine bca (by assumption) ?_))); fail_if_success (revert hK; intro hK)) | apply Wp.seq))
    simp (maxSteps := 2000000) (disch := omega) only [RUN, TY, RUNB, aLd, CV.toD0, rD0, bQ0, tQ0, Nat.reduceBEq, Nat.reduceAdd]
    rfl
theorem fdoNil_fun (s : DiskS) (hs : s.fs.length ≤ 100000) : Fun Tryz.prog 16 [s.d, nilV] (.tup [s.d, .val .nilIface]) :=
  Fun.args (fdo_fun s [] trivial hs (by simp) (by simp)) rfl (fun K vs h => by
    refine ⟨h.1, fun j x v hx hv => ?_⟩
    match j, hx, hv with
    | 0, hx, hv => exact h.2 0 x v (by simpa using hx) hv
    | 1, hx, hv =>
      have := h.2 1 nilV v rfl hv
      simp only [List.getElem?_cons_succ, List.getElem?_cons_zero, Option.some.injEq] at hx
      subst hx
      exact this.nilL 4)
def mendW (fs : List FileD) (nm : List UInt8) : List WriteD := if 0 < tornF (getB fs nm) then [⟨3, nm, [], ((getB fs nm).length : Int) - tornF (getB fs nm)⟩] else []
def fmendF (s : DiskS) (nm : List UInt8) : DiskS × Option (Int × List UInt8 × Int) := fdoF s (mendW s.fs nm)
theorem torn_le (b : List UInt8) : 0 ≤ tornF b ∧ tornF b ≤ b.length := by
  unfold tornF tornY
  cases h : (ysF 0 b).getLast? with
  | none => simp
  | some p =>
    have := (ysF_end 0 b p (List.mem_of_getLast? h)).1
    simp only
    omega
theorem fmend_fun (s : DiskS) (nm : List UInt8) (hs : s.fs.length ≤ 100000) (hnm : 0 < tornF (getB s.fs nm) → nm.length ≤ 1000000) (hb : ∀ f ∈ s.fs, f.b.length ≤ 1000000) (hp : okPath s (mendW s.fs nm)) :
    Fun Tryz.prog 23 [s.d, str nm] (.tup [(fmendF s nm).1.d, errV (fmendF s nm).2]) := by
  have c1 := loads_fun s.fs s.cap s.left s.down nm (by omega) hb
  have c2 := get_fun s.fs s.cap s.left s.down nm (by omega)
  have ht := torn_le (getB s.fs nm)
  have c3 := fdo_fun s (mendW s.fs nm) hp hs (by unfold mendW; split <;> simp) (by
    intro w hw
    unfold mendW at hw
    split at hw
    · rename_i h0
      simp only [List.mem_cons, List.not_mem_nil, or_false] at hw
      subst hw; exact ⟨hnm h0, by simp⟩
    · cases hw)
  unfold fmendF
  have hmw : mendW s.fs nm = if 0 < tornF (getB s.fs nm) then [⟨3, nm, [], ((getB s.fs nm).length : Int) - tornF (getB s.fs nm)⟩] else [] := rfl
  cases hg : s.fs[s.fs.findIdx fun f => f.name == nm]? with
  | none =>
    have hB : getB s.fs nm = [] := by simp [getB, hg]
    rw [hB] at c1 ht hmw
    rw [lodF_nil, tornF_nil] at c1
    rw [if_neg (by rw [tornF_nil]; omega)] at hmw
    rw [hmw]
    clear c3
    have c3 := fdoNil_fun s hs
    simp only [fdoF, errV]
    (refine Fun.of_body Tryz.func23 rfl rfl Tryz.ntmps23 Tryz.results23 (by simp) ?_)
    (repeat (first | apply Wp.skip | apply Wp.exit | apply Wp.ret | apply Wp.block | apply Wp.label | ((first | refine Wp.sreg (fun K hK => ?_) | refine Wp.reg (fun K hK => ?_) | refine Wp.sdrw mixed (fun K hK => ?_) | refine Wp.drw mixed (fun K hK => ?_) | refine Wp.condG (fun K hK hF => ?_)); (repeat (revert hK; intro hK; simp (maxSteps := 2000000) (disch := omega) only [RUN, TY, RUNB, aop, ofV, SV.ofD, aLd, aSt, aXt, Value.oneCell', CV.toD0, oWn, Nat.reduceBEq, Nat.reduceAdd, Nat.reduceLT, Int.reduceLT]; (first | (refine hK _ ?_; clear hK K) | (refine ⟨by kernel_rfl, hK _ ?_⟩; clear hK K) | (refine hK ?_; clear hK hF K) | (refine hF ?_; clear hK hF K) | refine bcf (by assumption) ?_ | refine bca (by assumption) ?_))); fail_if_success (revert hK; intro hK)) | apply Wp.seq))
    simp (maxSteps := 2000000) (disch := omega) only [RUN, TY, RUNB, aLd, CV.toD0, rD0, bQ0, Nat.reduceBEq, Nat.reduceAdd]
  | some f =>
    have hB : getB s.fs nm = f.b := by simp [getB, hg]
    have hf := hb f (List.mem_of_getElem? hg)
    rw [hB] at c1 ht hmw
    simp only [getV, hg, FileD.dv] at c2
    by_cases h0 : 0 < tornF f.b
    · rw [if_pos h0] at hmw
      rw [hmw] at c3 ⊢
      have d1 : decide (0 < tornF f.b) = true := decide_eq_true h0
      generalize tornF f.b = tn at *
      obtain ⟨t, e, htt⟩ : ∃ t e, fdoF s [⟨3, nm, [], (f.b.length : Int) - tn⟩] = (t, e) := ⟨_, _, rfl⟩
      rw [htt] at c3 ⊢
      simp only [WriteD.dv, List.map_cons, List.map_nil] at c3
      rcases e with _ | ⟨op, nm', n⟩ <;> simp only [errV] at c3 ⊢
      · (refine Fun.of_body Tryz.func23 rfl rfl Tryz.ntmps23 Tryz.results23 (by simp) ?_)
        (repeat (first | apply Wp.skip | apply Wp.exit | apply Wp.ret | apply Wp.block | apply Wp.label | ((first | refine Wp.sreg (fun K hK => ?_) | refine Wp.reg (fun K hK => ?_) | refine Wp.sdrw mixed (fun K hK => ?_) | refine Wp.drw mixed (fun K hK => ?_) | refine Wp.condG (fun K hK hF => ?_)); (repeat (revert hK; intro hK; simp (maxSteps := 2000000) (disch := omega) only [RUN, TY, RUNB, aop, ofV, SV.ofD, aLd, aSt, aFd, aLen, aXt, aBu, CV.one, D.one, Value.oneCell', CV.toD0, oWn, reduceCtorEq, Nat.reduceBEq, Nat.reduceAdd, Nat.reduceMul, Nat.reduceLT, Nat.reduceLeDiff, d1]; (first | (refine hK _ ?_; clear hK K) | (refine ⟨by kernel_rfl, hK _ ?_⟩; clear hK K) | (refine hK ?_; clear hK hF K) | (refine hF ?_; clear hK hF K) | refine bcf (by assumption) ?_ | refine bca (by assumption) ?_))); fail_if_success (revert hK; intro hK)) | apply Wp.seq))
        simp (maxSteps := 2000000) (disch := omega) only [RUN, TY, RUNB, aLd, CV.toD0, rD0, bQ0, Nat.reduceBEq, Nat.reduceAdd]
      · (refine Fun.of_body Tryz.func23 rfl rfl Tryz.ntmps23 Tryz.results23 (by simp) ?_)
        (repeat (first | apply Wp.skip | apply Wp.exit | apply Wp.ret | apply Wp.block | apply Wp.label | ((first | refine Wp.sreg (fun K hK => ?_) | refine Wp.reg (fun K hK => ?_) | refine Wp.sdrw mixed (fun K hK => ?_) | refine Wp.drw mixed (fun K hK => ?_) | refine Wp.condG (fun K hK hF => ?_)); (repeat (revert hK; intro hK; simp (maxSteps := 2000000) (disch := omega) only [RUN, TY, RUNB, aop, ofV, SV.ofD, aLd, aSt, aFd, aLen, aXt, aBu, CV.one, D.one, Value.oneCell', CV.toD0, oWn, reduceCtorEq, Nat.reduceBEq, Nat.reduceAdd, Nat.reduceMul, Nat.reduceLT, Nat.reduceLeDiff, d1]; (first | (refine hK _ ?_; clear hK K) | (refine ⟨by kernel_rfl, hK _ ?_⟩; clear hK K) | (refine hK ?_; clear hK hF K) | (refine hF ?_; clear hK hF K) | refine bcf (by assumption) ?_ | refine bca (by assumption) ?_))); fail_if_success (revert hK; intro hK)) | apply Wp.seq))
        simp (maxSteps := 2000000) (disch := omega) only [RUN, TY, RUNB, aLd, CV.toD0, rD0, bQ0, Nat.reduceBEq, Nat.reduceAdd]
    · rw [if_neg h0] at hmw
      rw [hmw]
      clear c3
      have c3 := fdoNil_fun s hs
      have d1 : decide (0 < tornF f.b) = false := decide_eq_false h0
      simp only [fdoF, errV]
      (refine Fun.of_body Tryz.func23 rfl rfl Tryz.ntmps23 Tryz.results23 (by simp) ?_)
      (repeat (first | apply Wp.skip | apply Wp.exit | apply Wp.ret | apply Wp.block | apply Wp.label | ((first | refine Wp.sreg (fun K hK => ?_) | refine Wp.reg (fun K hK => ?_) | refine Wp.sdrw mixed (fun K hK => ?_) | refine Wp.drw mixed (fun K hK => ?_) | refine Wp.condG (fun K hK hF => ?_)); (repeat (revert hK; intro hK; simp (maxSteps := 2000000) (disch := omega) only [RUN, TY, RUNB, aop, ofV, SV.ofD, aLd, aSt, aXt, Value.oneCell', CV.toD0, oWn, Nat.reduceBEq, Nat.reduceAdd, Nat.reduceLT, d1]; (first | (refine hK _ ?_; clear hK K) | (refine ⟨by kernel_rfl, hK _ ?_⟩; clear hK K) | (refine hK ?_; clear hK hF K) | (refine hF ?_; clear hK hF K) | refine bcf (by assumption) ?_ | refine bca (by assumption) ?_))); fail_if_success (revert hK; intro hK)) | apply Wp.seq))
      simp (maxSteps := 2000000) (disch := omega) only [RUN, TY, RUNB, aLd, CV.toD0, rD0, bQ0, Nat.reduceBEq, Nat.reduceAdd]
end Go.Proofs.YtepcpdionlfkhaaGreatDoor
