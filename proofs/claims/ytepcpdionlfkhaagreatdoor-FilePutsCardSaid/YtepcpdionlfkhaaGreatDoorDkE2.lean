/- Disks: fits. -/
import Derived.Test.YtepcpdionlfkhaaGreatDoorDkE
namespace Go.Proofs.YtepcpdionlfkhaaGreatDoor
open Go Go.RowKit
set_option maxHeartbeats 1000000
set_option maxRecDepth 100000
set_option linter.unusedVariables false
set_option linter.unusedSimpArgs false
set_option maxHeartbeats 4000000
abbrev sNo : List UInt8 := [110, 111, 32, 102, 105, 108, 101]
abbrev sMore : List UInt8 := [109, 111, 114, 101, 32, 116, 104, 97, 110, 32, 116, 104, 101, 32, 102, 105, 108, 101, 32, 104, 97, 115]
abbrev sOne : List UInt8 := [111, 110, 101, 32, 102, 105, 108, 101, 32, 109, 111, 114, 101]
abbrev sBytes : List UInt8 := [109, 111, 114, 101, 32, 98, 121, 116, 101, 115]
def late (w : WriteD) : Bool := w.op == 1 || w.op == 3 || w.op == 4
def moreI (w : WriteD) (f : FileD) : Int := if w.op = 2 then w.b.length - f.b.length else w.b.length
/-- Why an operation does not fit: nothing, or a text and a number. -/
def fitsO (fs : List FileD) (cap : Int) (w : WriteD) (f : FileD) (is : Bool) : Option (List UInt8 × Int) :=
  if late w then (if is = false then some (sNo, 32) else if (f.b.length : Int) < w.n then some (sMore, 2) else none)
  else if is = false ∧ 64 ≤ (fs.length : Int) then some (sOne, 3) else if cap < usedF fs + moreI w f then some (sBytes, 31) else none
def errO : Option (List UInt8 × Int) → D
  | none => .val .nilIface
  | some (s, n) => errD s n
theorem fits_fun (fs : List FileD) (cap left : Int) (down : Bool) (w : WriteD) (f : FileD) (is : Bool) (hs : Small fs) (h1 : f.b.length ≤ 1000000) (h2 : w.b.length ≤ 1000000) :
    Fun Tryz.prog 77 [diskD fs cap left down, .agg w.dv, .agg f.dv, boo is] (errO (fitsO fs cap w f is)) := by
  have hu := hs.used
  have hl := hs.1
  obtain ⟨op, file, b, n⟩ := w
  obtain ⟨nm, fb, sure⟩ := f
  simp only at h1 h2
  have hused := used_fun fs cap left down (by omega) (by omega)
  (refine Fun.of_body Tryz.func77 rfl rfl Tryz.ntmps77 Tryz.results77 (by simp) ?_)
  (refine Wp.sreg (fun K hK => ?_); simp (maxSteps := 2000000) (disch := omega) only [RUN, RUNB, aop, ofV, SV.ofD, Nat.reduceBEq, Nat.reduceAdd, Nat.reduceLT, FileD.dv, WriteD.dv]; refine hK _ ?_; clear hK K)
  by_cases e1 : op = 1 ∨ op = 3 ∨ op = 4
  · have hlate : late ⟨op, file, b, n⟩ = true := by rcases e1 with rfl | rfl | rfl <;> rfl
    rcases e1 with rfl | rfl | rfl <;> cases is <;> by_cases hc : (fb.length : Int) < n <;> ((repeat (first | refine Wp.skip ?_ | refine Wp.exit ?_ | refine Wp.ret ?_ | refine Wp.block ?_ | refine Wp.label ?_ | ((first | (first | refine Wp.sreg (fun K hK => ?_) | refine Wp.reg (fun K hK => ?_) | refine Wp.sdrw mixed (fun K hK => ?_) | refine Wp.drw mixed (fun K hK => ?_)) | refine Wp.condG (fun K hT hF => ?_)); simp (maxSteps := 2000000) (disch := omega) only [RUN, TY, RUNB, aop, ofV, SV.ofD, aLd, aFd, aLen, aIf, aBu, CV.exact, CV.one, D.one, Value.oneCell', CV.toD0, reduceCtorEq, Nat.reduceBEq, Nat.reduceAdd, Nat.reduceLT, Nat.reduceLeDiff, Int.reduceBEq, hc]; (first | (refine hK _ ?_; clear hK K) | (refine ⟨by kernel_rfl, hK _ ?_⟩; clear hK K) | (refine hT ?_; clear hT hF K) | (refine hF ?_; clear hT hF K))) | refine Wp.seq ?_)); simp (maxSteps := 2000000) (disch := omega) only [RUN, RUNB, rD0, bQ0, tQ0, kQ0, fitsO, hlate, errO, hc])
  · have d1 : (op == 1) = false := by simp; omega
    have d3 : (op == 3) = false := by simp; omega
    have d4 : (op == 4) = false := by simp; omega
    have hlate : late ⟨op, file, b, n⟩ = false := by simp [late, d1, d3, d4]
    by_cases e2 : op = 2
    · subst e2
      have hm : moreI ⟨2, file, b, n⟩ ⟨nm, fb, sure⟩ = (b.length : Int) - fb.length := rfl
      (repeat (first | refine Wp.skip ?_ | refine Wp.exit ?_ | refine Wp.ret ?_ | refine Wp.block ?_ | refine Wp.label ?_ | ((first | (first | refine Wp.sreg (fun K hK => ?_) | refine Wp.reg (fun K hK => ?_) | refine Wp.sdrw mixed (fun K hK => ?_) | refine Wp.drw mixed (fun K hK => ?_)) | refine Wp.condG (fun K hT hF => ?_)); simp (maxSteps := 2000000) (disch := omega) only [RUN, TY, RUNB, aop, ofV, SV.ofD, aLd, aFd, aLen, aBu, CV.exact, Nat.reduceBEq, Nat.reduceAdd, Nat.reduceLT, Nat.reduceLeDiff, Int.reduceBEq]; (first | (refine hK _ ?_; clear hK K) | (refine ⟨by kernel_rfl, hK _ ?_⟩; clear hK K) | (refine hT ?_; clear hT hF K) | (refine hF ?_; clear hT hF K))) | refine Wp.seq ?_))
      (first | refine Wp.sto 47 (vb (!is && decide (64 ≤ (fs.length : Int)))) ?_ ?_ | refine Wp.rtoS 47 (vb (!is && decide (64 ≤ (fs.length : Int)))) ?_ ?_ | (refine Wp.seq ?_; first | refine Wp.sto 47 (vb (!is && decide (64 ≤ (fs.length : Int)))) ?_ ?_ | refine Wp.rtoS 47 (vb (!is && decide (64 ≤ (fs.length : Int)))) ?_ ?_))
      · cases is <;> simp (maxSteps := 2000000) (disch := omega) only [RUN, TY, RUNB, aop, ofV, SV.ofD, aLd, aFd, aLen, aBu, CV.exact, CV.lenOf, Nat.reduceBEq, Nat.reduceAdd, Nat.reduceLT, Nat.reduceLeDiff]
      refine Wp.cond (by simp (maxSteps := 2000000) (disch := omega) only [RUN, RUNB]; rfl) (fun h => ?_) (fun h => ?_)
      · have : is = false ∧ 64 ≤ (fs.length : Int) := by simpa using h
        (repeat (first | refine Wp.skip ?_ | refine Wp.exit ?_ | refine Wp.ret ?_ | refine Wp.block ?_ | refine Wp.label ?_ | ((first | (first | refine Wp.sreg (fun K hK => ?_) | refine Wp.reg (fun K hK => ?_) | refine Wp.sdrw mixed (fun K hK => ?_) | refine Wp.drw mixed (fun K hK => ?_)) | refine Wp.condG (fun K hT hF => ?_)); simp (maxSteps := 2000000) (disch := omega) only [RUN, TY, RUNB, aop, ofV, aIf, CV.one, D.one, Value.oneCell', CV.toD0, reduceCtorEq, Nat.reduceBEq, Nat.reduceAdd, Nat.reduceLT, Nat.reduceLeDiff]; (first | (refine hK _ ?_; clear hK K) | (refine ⟨by kernel_rfl, hK _ ?_⟩; clear hK K) | (refine hT ?_; clear hT hF K) | (refine hF ?_; clear hT hF K))) | refine Wp.seq ?_))
        simp (maxSteps := 2000000) (disch := omega) only [RUN, RUNB, rD0, bQ0, tQ0, fitsO, hlate, errO, this]
      · have : ¬ (is = false ∧ 64 ≤ (fs.length : Int)) := by simpa using h
        refine Wp.skip ?_
        ((first | refine Wp.sdrw mixed (fun K hK => ?_) | refine Wp.drw mixed (fun K hK => ?_) | (refine Wp.seq ?_; first | refine Wp.sdrw mixed (fun K hK => ?_) | refine Wp.drw mixed (fun K hK => ?_))); simp (maxSteps := 2000000) (disch := omega) only [RUN, TY, RUNB, aop, aLd, CV.toD0, oWn, Nat.reduceBEq, Nat.reduceAdd, Nat.reduceLT]; refine bcf (hused) ?_; simp (maxSteps := 2000000) (disch := omega) only [RUN, TY, RUNB, aop, SV.ofD, aLd, aFd, Nat.reduceBEq, Nat.reduceAdd, Nat.reduceLT, Nat.reduceLeDiff]; refine ⟨by kernel_rfl, hK _ ?_⟩; clear hK K)
        refine Wp.cond (by simp (maxSteps := 2000000) (disch := omega) only [RUN, RUNB]; rfl) (fun h => ?_) (fun h => ?_)
        · have h' := of_decide_eq_true h
          rw [← hm] at h'
          (repeat (first | refine Wp.skip ?_ | refine Wp.exit ?_ | refine Wp.ret ?_ | refine Wp.block ?_ | refine Wp.label ?_ | ((first | (first | refine Wp.sreg (fun K hK => ?_) | refine Wp.reg (fun K hK => ?_) | refine Wp.sdrw mixed (fun K hK => ?_) | refine Wp.drw mixed (fun K hK => ?_)) | refine Wp.condG (fun K hT hF => ?_)); simp (maxSteps := 2000000) (disch := omega) only [RUN, TY, RUNB, aop, ofV, aIf, CV.one, D.one, Value.oneCell', CV.toD0, reduceCtorEq, Nat.reduceBEq, Nat.reduceAdd, Nat.reduceLT, Nat.reduceLeDiff]; (first | (refine hK _ ?_; clear hK K) | (refine ⟨by kernel_rfl, hK _ ?_⟩; clear hK K) | (refine hT ?_; clear hT hF K) | (refine hF ?_; clear hT hF K))) | refine Wp.seq ?_))
          simp only [fitsO, hlate, if_neg this, if_pos h', Bool.false_eq_true, if_false]
          simp (maxSteps := 2000000) (disch := omega) only [RUN, RUNB, rD0, bQ0, tQ0, errO]
        · have h' := of_decide_eq_false h
          rw [← hm] at h'
          (repeat (first | refine Wp.skip ?_ | refine Wp.exit ?_ | refine Wp.ret ?_ | refine Wp.block ?_ | refine Wp.label ?_ | ((first | (first | refine Wp.sreg (fun K hK => ?_) | refine Wp.reg (fun K hK => ?_) | refine Wp.sdrw mixed (fun K hK => ?_) | refine Wp.drw mixed (fun K hK => ?_)) | refine Wp.condG (fun K hT hF => ?_)); simp (maxSteps := 2000000) (disch := omega) only [RUN, RUNB, aop, ofV, Nat.reduceAdd, Nat.reduceLT]; (first | (refine hK _ ?_; clear hK K) | (refine ⟨by kernel_rfl, hK _ ?_⟩; clear hK K) | (refine hT ?_; clear hT hF K) | (refine hF ?_; clear hT hF K))) | refine Wp.seq ?_))
          simp only [fitsO, hlate, if_neg this, if_neg h', Bool.false_eq_true, if_false]
          simp (maxSteps := 2000000) (disch := omega) only [RUN, RUNB, rD0, bQ0, errO]
    · have d2 : (op == 2) = false := by simpa using e2
      have hm : moreI ⟨op, file, b, n⟩ ⟨nm, fb, sure⟩ = (b.length : Int) := if_neg e2
      (repeat (first | refine Wp.skip ?_ | refine Wp.exit ?_ | refine Wp.ret ?_ | refine Wp.block ?_ | refine Wp.label ?_ | ((first | (first | refine Wp.sreg (fun K hK => ?_) | refine Wp.reg (fun K hK => ?_) | refine Wp.sdrw mixed (fun K hK => ?_) | refine Wp.drw mixed (fun K hK => ?_)) | refine Wp.condG (fun K hT hF => ?_)); simp (maxSteps := 2000000) (disch := omega) only [RUN, TY, RUNB, aop, ofV, SV.ofD, aLd, aFd, aLen, aBu, CV.exact, Nat.reduceBEq, Nat.reduceAdd, Nat.reduceLT, Nat.reduceLeDiff, d1, d2, d3, d4]; (first | (refine hK _ ?_; clear hK K) | (refine ⟨by kernel_rfl, hK _ ?_⟩; clear hK K) | (refine hT ?_; clear hT hF K) | (refine hF ?_; clear hT hF K))) | refine Wp.seq ?_))
      (first | refine Wp.sto 47 (vb (!is && decide (64 ≤ (fs.length : Int)))) ?_ ?_ | refine Wp.rtoS 47 (vb (!is && decide (64 ≤ (fs.length : Int)))) ?_ ?_ | (refine Wp.seq ?_; first | refine Wp.sto 47 (vb (!is && decide (64 ≤ (fs.length : Int)))) ?_ ?_ | refine Wp.rtoS 47 (vb (!is && decide (64 ≤ (fs.length : Int)))) ?_ ?_))
      · cases is <;> simp (maxSteps := 2000000) (disch := omega) only [RUN, TY, RUNB, aop, ofV, SV.ofD, aLd, aFd, aLen, aBu, CV.exact, CV.lenOf, Nat.reduceBEq, Nat.reduceAdd, Nat.reduceLT, Nat.reduceLeDiff]
      refine Wp.cond (by simp (maxSteps := 2000000) (disch := omega) only [RUN, RUNB]; rfl) (fun h => ?_) (fun h => ?_)
      · have : is = false ∧ 64 ≤ (fs.length : Int) := by simpa using h
        (repeat (first | refine Wp.skip ?_ | refine Wp.exit ?_ | refine Wp.ret ?_ | refine Wp.block ?_ | refine Wp.label ?_ | ((first | (first | refine Wp.sreg (fun K hK => ?_) | refine Wp.reg (fun K hK => ?_) | refine Wp.sdrw mixed (fun K hK => ?_) | refine Wp.drw mixed (fun K hK => ?_)) | refine Wp.condG (fun K hT hF => ?_)); simp (maxSteps := 2000000) (disch := omega) only [RUN, TY, RUNB, aop, ofV, aIf, CV.one, D.one, Value.oneCell', CV.toD0, reduceCtorEq, Nat.reduceBEq, Nat.reduceAdd, Nat.reduceLT, Nat.reduceLeDiff]; (first | (refine hK _ ?_; clear hK K) | (refine ⟨by kernel_rfl, hK _ ?_⟩; clear hK K) | (refine hT ?_; clear hT hF K) | (refine hF ?_; clear hT hF K))) | refine Wp.seq ?_))
        simp (maxSteps := 2000000) (disch := omega) only [RUN, RUNB, rD0, bQ0, tQ0, fitsO, hlate, errO, this]
      · have : ¬ (is = false ∧ 64 ≤ (fs.length : Int)) := by simpa using h
        refine Wp.skip ?_
        ((first | refine Wp.sdrw mixed (fun K hK => ?_) | refine Wp.drw mixed (fun K hK => ?_) | (refine Wp.seq ?_; first | refine Wp.sdrw mixed (fun K hK => ?_) | refine Wp.drw mixed (fun K hK => ?_))); simp (maxSteps := 2000000) (disch := omega) only [RUN, TY, RUNB, aop, aLd, CV.toD0, oWn, Nat.reduceBEq, Nat.reduceAdd, Nat.reduceLT]; refine bcf (hused) ?_; simp (maxSteps := 2000000) (disch := omega) only [RUN, TY, RUNB, aop, SV.ofD, aLd, aFd, Nat.reduceBEq, Nat.reduceAdd, Nat.reduceLT, Nat.reduceLeDiff]; refine ⟨by kernel_rfl, hK _ ?_⟩; clear hK K)
        refine Wp.cond (by simp (maxSteps := 2000000) (disch := omega) only [RUN, RUNB]; rfl) (fun h => ?_) (fun h => ?_)
        · have h' := of_decide_eq_true h
          rw [← hm] at h'
          (repeat (first | refine Wp.skip ?_ | refine Wp.exit ?_ | refine Wp.ret ?_ | refine Wp.block ?_ | refine Wp.label ?_ | ((first | (first | refine Wp.sreg (fun K hK => ?_) | refine Wp.reg (fun K hK => ?_) | refine Wp.sdrw mixed (fun K hK => ?_) | refine Wp.drw mixed (fun K hK => ?_)) | refine Wp.condG (fun K hT hF => ?_)); simp (maxSteps := 2000000) (disch := omega) only [RUN, TY, RUNB, aop, ofV, aIf, CV.one, D.one, Value.oneCell', CV.toD0, reduceCtorEq, Nat.reduceBEq, Nat.reduceAdd, Nat.reduceLT, Nat.reduceLeDiff]; (first | (refine hK _ ?_; clear hK K) | (refine ⟨by kernel_rfl, hK _ ?_⟩; clear hK K) | (refine hT ?_; clear hT hF K) | (refine hF ?_; clear hT hF K))) | refine Wp.seq ?_))
          simp only [fitsO, hlate, if_neg this, if_pos h', Bool.false_eq_true, if_false]
          simp (maxSteps := 2000000) (disch := omega) only [RUN, RUNB, rD0, bQ0, tQ0, errO]
        · have h' := of_decide_eq_false h
          rw [← hm] at h'
          (repeat (first | refine Wp.skip ?_ | refine Wp.exit ?_ | refine Wp.ret ?_ | refine Wp.block ?_ | refine Wp.label ?_ | ((first | (first | refine Wp.sreg (fun K hK => ?_) | refine Wp.reg (fun K hK => ?_) | refine Wp.sdrw mixed (fun K hK => ?_) | refine Wp.drw mixed (fun K hK => ?_)) | refine Wp.condG (fun K hT hF => ?_)); simp (maxSteps := 2000000) (disch := omega) only [RUN, RUNB, aop, ofV, Nat.reduceAdd, Nat.reduceLT]; (first | (refine hK _ ?_; clear hK K) | (refine ⟨by kernel_rfl, hK _ ?_⟩; clear hK K) | (refine hT ?_; clear hT hF K) | (refine hF ?_; clear hT hF K))) | refine Wp.seq ?_))
          simp only [fitsO, hlate, if_neg this, if_neg h', Bool.false_eq_true, if_false]
          simp (maxSteps := 2000000) (disch := omega) only [RUN, RUNB, rD0, bQ0, errO]
end Go.Proofs.YtepcpdionlfkhaaGreatDoor
