/- The abstract machine (DkA, DkB). -/
import Derived.Test.YtepcpdionlfkhaaGreatDoorApi
namespace Go.Proofs.YtepcpdionlfkhaaGreatDoor
open Go Go.RowKit
set_option maxRecDepth 100000
set_option linter.unusedVariables false
set_option linter.unusedSimpArgs false
structure FileD where
  name : List UInt8
  b : List UInt8
  sure : Int
def FileD.dv (f : FileD) : List D := [str f.name, str f.b, int f.sure]
abbrev diskD (fs : List FileD) (cap left : Int) (down : Bool) : D := .agg [.lst 3 (fs.map FileD.dv), int cap, int left, boo down]
def usedF (fs : List FileD) : Nat := (fs.map (·.b.length)).sum
theorem used_step (fs : List FileD) (k : Nat) (h : k < fs.length) : usedF (fs.take (k + 1)) = usedF (fs.take k) + fs[k].b.length := by
  unfold usedF; rw [List.take_succ_eq_append_getElem h]; simp only [List.map_append, List.sum_append, List.map_cons, List.map_nil, List.sum_cons, List.sum_nil]; omega
theorem used_le (fs : List FileD) (k : Nat) : usedF (fs.take k) ≤ usedF fs := by
  have : usedF fs = usedF (fs.take k) + usedF (fs.drop k) := by
    unfold usedF; rw [← List.sum_append, ← List.map_append, List.take_append_drop]
  omega
theorem used_fun (fs : List FileD) (cap left : Int) (down : Bool) (hb : usedF fs < 2 ^ 62) (hl : fs.length < 2 ^ 62) : Fun Tryz.prog 142 [diskD fs cap left down] (int (usedF fs)) := by
  (refine Fun.of_body Tryz.func142 rfl rfl Tryz.ntmps142 Tryz.results142 (by simp) ?_)
  (refine Wp.sreg (fun K hK => ?_); simp (maxSteps := 2000000) (disch := omega) only [RUN, RUNB, aop, ofV, SV.ofD, Nat.reduceAdd, Nat.reduceLT]; refine hK _ ?_; clear hK K)
  (refine Wp.sreg (fun K hK => ?_); simp (maxSteps := 2000000) (disch := omega) only [RUN, RUNB, aop, ofV, Nat.reduceAdd, Nat.reduceLT]; refine hK _ ?_; clear hK K)
  refine Wp.seq ?_
  (refine Wp.sreg (fun K hK => ?_); simp (maxSteps := 2000000) (disch := omega) only [RUN, TY, RUNB, aop, ofV, aLd, aFd, aLen, aBu, CV.lenOf, Nat.reduceBEq, Nat.reduceAdd, Nat.reduceLT, Nat.reduceLeDiff]; refine hK _ ?_; clear hK K)
  refine Wp.block ?_
  refine Wp.loop (fun k : Nat => ⟨ofL [(3, vi .i64 (usedF (fs.take k))), (7, .c (.d (.lst 3 (fs.map FileD.dv)))), (8, vi .i64 fs.length), (9, vi .i64 k)], ofH [], 0, 20, 0⟩) (fun k => k ≤ fs.length) (fun k => fs.length - k) 0 (Nat.zero_le _) ?_ ?_
  · refine Weak.keep rfl rfl ?_
    simp (maxSteps := 2000000) (disch := omega) only [RUN, RUNB, Nat.reduceBEq, usedF, List.sum_nil]
  intro k hk
  (refine Wp.sreg (fun K hK => ?_); simp (maxSteps := 2000000) (disch := omega) only [RUN, RUNB, aop, Nat.reduceBEq, Nat.reduceLT]; refine hK _ ?_; clear hK K)
  refine Wp.seq ?_
  refine Wp.cond (by simp (maxSteps := 2000000) (disch := omega) only [RUN, RUNB]; rfl) (fun h => ?_) (fun h => ?_)
  · have hlt : k < fs.length := by simpa using h
    have h1 := used_step fs k hlt
    have h2 := used_le fs (k + 1)
    refine Wp.skip ?_
    refine Wp.seq ?_
    refine Wp.block ?_
    (refine Wp.sreg (fun K hK => ?_); simp (maxSteps := 2000000) (disch := omega) only [RUN, TY, RUNB, aop, aLd, aSt, CV.exact, CV.lstOf, Value.oneCell', Nat.reduceBEq, Nat.reduceAdd, Nat.reduceLT, List.getElem?_eq_getElem hlt, FileD.dv]; refine hK _ ?_; clear hK K)
    (refine Wp.reg (fun K hK => ?_); simp (maxSteps := 2000000) (disch := omega) only [RUN, TY, RUNB, aop, aLd, aFd, aLen, aBu, Nat.reduceBEq, Nat.reduceAdd, Nat.reduceLT, Nat.reduceLeDiff]; refine hK _ ?_; clear hK K)
    (refine Wp.reg (fun K hK => ?_); simp (maxSteps := 2000000) (disch := omega) only [RUN, RUNB, aop, ofV, Nat.reduceBEq, Nat.reduceAdd, Nat.reduceLT]; refine hK _ ?_; clear hK K)
    refine ⟨k + 1, by omega, by omega, Weak.keep rfl rfl ?_⟩
    simp (maxSteps := 2000000) (disch := omega) only [RUN, RUNB, Nat.reduceBEq]
    rw [h1, Int.natCast_add]
  · have hlt : k = fs.length := by simp at h; omega
    refine Wp.exit ?_
    (refine Wp.sreg (fun K hK => ?_); simp (maxSteps := 2000000) (disch := omega) only [RUN, RUNB, aop, Nat.reduceBEq, Nat.reduceLT]; refine hK _ ?_; clear hK K)
    refine Wp.ret ?_
    simp (maxSteps := 2000000) (disch := omega) only [RUN, RUNB, rD0, bQ0]
    rw [hlt, List.take_length]
def badC (c : Int) : Bool := (decide (c < 97) || decide (122 < c)) && (decide (c < 48) || decide (57 < c)) && c != 46
def nameB (l : List UInt8) : Bool := decide (1 ≤ l.length) && decide (l.length ≤ 8) && l.all (fun c => !badC c.toNat)
theorem name_fun (l : List UInt8) : Fun Tryz.prog 141 [str l] (boo (nameB l)) := by
  (refine Fun.of_body Tryz.func141 rfl rfl Tryz.ntmps141 Tryz.results141 (by simp) ?_)
  (refine Wp.sreg (fun K hK => ?_); simp (maxSteps := 2000000) (disch := omega) only [RUN, RUNB, aop, ofV, Nat.reduceLT]; refine hK _ ?_; clear hK K)
  refine Wp.seq ?_
  refine Wp.sto 12 (vb (decide ((l.length : Int) < 1) || decide (8 < (l.length : Int)))) ?_ ?_
  · cases h : decide ((l.length : Int) < 1) <;> simp (maxSteps := 2000000) (disch := omega) only [RUN, TY, RUNB, aop, ofV, SV.ofD, aLen, aBu, CV.exact, Nat.reduceBEq, Nat.reduceLT, h]
  refine Wp.cond (by simp (maxSteps := 2000000) (disch := omega) only [RUN, RUNB]; rfl) (fun h => ?_) (fun h => ?_)
  · (refine Wp.sreg (fun K hK => ?_); simp (maxSteps := 2000000) (disch := omega) only [RUN, RUNB, aop, ofV, Nat.reduceLT]; refine hK _ ?_; clear hK K)
    refine Wp.ret ?_
    have : nameB l = false := by
      simp only [Bool.or_eq_true, decide_eq_true_eq] at h
      simp only [nameB, Bool.and_eq_false_iff, decide_eq_false_iff_not]
      omega
    simp (maxSteps := 2000000) (disch := omega) only [RUN, RUNB, rD0, bQ0, tQ0, this]
  · have h1 : 1 ≤ l.length ∧ l.length ≤ 8 := by simp only [Bool.or_eq_false_iff, decide_eq_false_iff_not] at h; omega
    refine Wp.skip ?_
    refine Wp.seq ?_
    (refine Wp.sreg (fun K hK => ?_); simp (maxSteps := 2000000) (disch := omega) only [RUN, TY, RUNB, aop, ofV, SV.ofD, aLen, aBu, Nat.reduceBEq, Nat.reduceLT]; refine hK _ ?_; clear hK K)
    refine Wp.block ?_
    refine Wp.loop (fun k : Nat => ⟨ofL [(0, vs l), (14, vi .i64 l.length), (15, vi .i64 k)], ofH [], 0, 40, 0⟩) (fun k => k ≤ l.length ∧ (l.take k).all (fun c => !badC c.toNat) = true) (fun k => l.length - k) 0 ⟨Nat.zero_le _, rfl⟩ ?_ ?_
    · refine Weak.keep rfl rfl ?_
      simp (maxSteps := 2000000) (disch := omega) only [RUN, RUNB, SV.ofD, Nat.reduceBEq]
    rintro k ⟨hk, hall⟩
    (refine Wp.sreg (fun K hK => ?_); simp (maxSteps := 2000000) (disch := omega) only [RUN, RUNB, aop, Nat.reduceBEq, Nat.reduceLT]; refine hK _ ?_; clear hK K)
    refine Wp.seq ?_
    refine Wp.cond (by simp (maxSteps := 2000000) (disch := omega) only [RUN, RUNB]; rfl) (fun h => ?_) (fun h => ?_)
    · have hlt : k < l.length := by simpa using h
      have hs := all_take_succ (fun c : UInt8 => !badC c.toNat) l k hlt
      refine Wp.skip ?_
      refine Wp.seq ?_
      refine Wp.block ?_
      (refine Wp.sreg (fun K hK => ?_); simp (maxSteps := 2000000) (disch := omega) only [RUN, RUNB, aop, Nat.reduceBEq, Nat.reduceLT]; refine hK _ ?_; clear hK K)
      (refine Wp.sreg (fun K hK => ?_); simp (maxSteps := 2000000) (disch := omega) only [RUN, RUNB, aop, CV.exact, Nat.reduceBEq, Nat.reduceLT, idx_str Tryz.underlying9 hlt]; refine hK _ ?_; clear hK K)
      refine Wp.sto 38 (vb (badC l[k].toNat)) ?_ ?_
      · generalize (l[k].toNat : Int) = c
        cases h1 : decide (c < 97) <;> cases h2 : decide (122 < c) <;> cases h3 : decide (c < 48) <;> cases h4 : decide (57 < c) <;> simp (maxSteps := 2000000) (disch := omega) only [RUN, RUNB, aop, ofV, CV.exact, Nat.reduceBEq, Nat.reduceLT, h1, h2, h3, h4, badC]
      refine Wp.cond (by simp (maxSteps := 2000000) (disch := omega) only [RUN, RUNB]; rfl) (fun h => ?_) (fun h => ?_)
      · (refine Wp.sreg (fun K hK => ?_); simp (maxSteps := 2000000) (disch := omega) only [RUN, RUNB, aop, ofV, Nat.reduceLT]; refine hK _ ?_; clear hK K)
        refine Wp.ret ?_
        have : nameB l = false := by
          have : l.all (fun c => !badC c.toNat) = false := by
            rw [List.all_eq_false]; exact ⟨l[k], List.getElem_mem hlt, by simp [h]⟩
          simp [nameB, this]
        simp (maxSteps := 2000000) (disch := omega) only [RUN, RUNB, rD0, bQ0, tQ0, kQ0, this]
      · refine Wp.skip ?_
        (refine Wp.reg (fun K hK => ?_); simp (maxSteps := 2000000) (disch := omega) only [RUN, RUNB, aop, ofV, Nat.reduceBEq, Nat.reduceLT]; refine hK _ ?_; clear hK K)
        refine ⟨k + 1, ⟨by omega, by rw [hs, hall, h]; rfl⟩, by omega, Weak.keep rfl rfl ?_⟩
        simp (maxSteps := 2000000) (disch := omega) only [RUN, RUNB, Nat.reduceBEq]
    · have hlt : k = l.length := by simp at h; omega
      refine Wp.exit ?_
      (refine Wp.sreg (fun K hK => ?_); simp (maxSteps := 2000000) (disch := omega) only [RUN, RUNB, aop, ofV, Nat.reduceLT]; refine hK _ ?_; clear hK K)
      refine Wp.ret ?_
      have : nameB l = true := by
        rw [hlt, List.take_length] at hall
        simp only [nameB, hall, Bool.and_true, Bool.and_eq_true, decide_eq_true_eq]; omega
      simp (maxSteps := 2000000) (disch := omega) only [RUN, RUNB, rD0, bQ0, this]
end Go.Proofs.YtepcpdionlfkhaaGreatDoor
namespace Go.Proofs.YtepcpdionlfkhaaGreatDoor
open Go Go.RowKit
set_option maxRecDepth 100000
set_option linter.unusedVariables false
set_option linter.unusedSimpArgs false
def greatF (f : FileD) : Bool := decide (131072 < (f.b.length : Int)) || decide (100 < (f.name.length : Int))
def greatD (fs : List FileD) : Bool := decide (100 < fs.length) || fs.any greatF
theorem great_fun (fs : List FileD) (cap left : Int) (down : Bool) : Fun Tryz.prog 13 [diskD fs cap left down] (boo (greatD fs)) := by
  (refine Fun.of_body Tryz.func13 rfl rfl Tryz.ntmps13 Tryz.results13 (by simp) ?_)
  (repeat (first | refine Wp.skip ?_ | refine Wp.exit ?_ | refine Wp.ret ?_ | refine Wp.block ?_ | refine Wp.label ?_ | ((first | (first | refine Wp.sreg (fun K hK => ?_) | refine Wp.reg (fun K hK => ?_) | refine Wp.sdrw mixed (fun K hK => ?_) | refine Wp.drw mixed (fun K hK => ?_)) | refine Wp.condG (fun K hT hF => ?_)); simp (maxSteps := 2000000) (disch := omega) only [RUN, TY, RUNB, aop, ofV, SV.ofD, aLd, aFd, aLen, aBu, CV.lenOf, Nat.reduceBEq, Nat.reduceAdd, Nat.reduceLT, Nat.reduceLeDiff]; (first | (refine hK _ ?_; clear hK K) | (refine ⟨by kernel_rfl, hK _ ?_⟩; clear hK K) | (refine hT ?_; clear hT hF K) | (refine hF ?_; clear hT hF K))) | refine Wp.seq ?_))
  refine Wp.cond (by simp (maxSteps := 2000000) (disch := omega) only [RUN, RUNB]; rfl) (fun h => ?_) (fun h => ?_)
  · (repeat (first | refine Wp.skip ?_ | refine Wp.exit ?_ | refine Wp.ret ?_ | refine Wp.block ?_ | refine Wp.label ?_ | ((first | (first | refine Wp.sreg (fun K hK => ?_) | refine Wp.reg (fun K hK => ?_) | refine Wp.sdrw mixed (fun K hK => ?_) | refine Wp.drw mixed (fun K hK => ?_)) | refine Wp.condG (fun K hT hF => ?_)); simp (maxSteps := 2000000) (disch := omega) only [RUN, RUNB, aop, ofV, Nat.reduceAdd, Nat.reduceLT]; (first | (refine hK _ ?_; clear hK K) | (refine ⟨by kernel_rfl, hK _ ?_⟩; clear hK K) | (refine hT ?_; clear hT hF K) | (refine hF ?_; clear hT hF K))) | refine Wp.seq ?_))
    have : greatD fs = true := by simp only [decide_eq_true_eq] at h; simp only [greatD, Bool.or_eq_true, decide_eq_true_eq]; left; omega
    simp (maxSteps := 2000000) (disch := omega) only [RUN, RUNB, rD0, bQ0, tQ0, this]
  · have hl : fs.length ≤ 100 := by simp only [decide_eq_false_iff_not] at h; omega
    (repeat (first | refine Wp.skip ?_ | refine Wp.exit ?_ | refine Wp.ret ?_ | refine Wp.block ?_ | refine Wp.label ?_ | ((first | (first | refine Wp.sreg (fun K hK => ?_) | refine Wp.reg (fun K hK => ?_) | refine Wp.sdrw mixed (fun K hK => ?_) | refine Wp.drw mixed (fun K hK => ?_)) | refine Wp.condG (fun K hT hF => ?_)); simp (maxSteps := 2000000) (disch := omega) only [RUN, RUNB, aop, ofV, Nat.reduceAdd, Nat.reduceLT]; (first | (refine hK _ ?_; clear hK K) | (refine ⟨by kernel_rfl, hK _ ?_⟩; clear hK K) | (refine hT ?_; clear hT hF K) | (refine hF ?_; clear hT hF K))) | refine Wp.seq ?_))
    refine Wp.loop (fun k : Nat => ⟨ofL [(1, .c (.own 0 0)), (3, vi .i64 k)], ofH [(0, .cells [.d (.lst 3 (fs.map FileD.dv)), .d (int cap), .d (int left), .d (boo down)])], 1, 33, 0⟩) (fun k => k ≤ fs.length ∧ (fs.take k).any greatF = false) (fun k => fs.length - k) 0 ⟨Nat.zero_le _, rfl⟩ ?_ ?_
    · refine Weak.keep rfl rfl ?_
      simp (maxSteps := 2000000) (disch := omega) only [RUN, RUNB, Nat.reduceBEq]
    rintro k ⟨hk, hall⟩
    (repeat (first | refine Wp.skip ?_ | refine Wp.exit ?_ | refine Wp.ret ?_ | refine Wp.block ?_ | refine Wp.label ?_ | ((first | (first | refine Wp.sreg (fun K hK => ?_) | refine Wp.reg (fun K hK => ?_) | refine Wp.sdrw mixed (fun K hK => ?_) | refine Wp.drw mixed (fun K hK => ?_)) | refine Wp.condG (fun K hT hF => ?_)); simp (maxSteps := 2000000) (disch := omega) only [RUN, TY, RUNB, aop, aLd, aFd, aLen, aBu, CV.lenOf, Nat.reduceBEq, Nat.reduceAdd, Nat.reduceLT, Nat.reduceLeDiff]; (first | (refine hK _ ?_; clear hK K) | (refine ⟨by kernel_rfl, hK _ ?_⟩; clear hK K) | (refine hT ?_; clear hT hF K) | (refine hF ?_; clear hT hF K))) | refine Wp.seq ?_))
    refine Wp.cond (by simp (maxSteps := 2000000) (disch := omega) only [RUN, RUNB]; rfl) (fun h => ?_) (fun h => ?_)
    · have hlt : k < fs.length := by simpa using h
      refine Wp.skip ?_
      refine Wp.seq ?_
      refine Wp.block ?_
      refine Wp.sto 32 (vb (greatF fs[k])) ?_ ?_
      · cases h1 : decide (131072 < (fs[k].b.length : Int)) <;> simp (maxSteps := 2000000) (disch := omega) only [RUN, TY, RUNB, aop, ofV, aLd, aFd, aLen, aBu, CV.exact, CV.lstOf, Nat.reduceBEq, Nat.reduceAdd, Nat.reduceLT, Nat.reduceLeDiff, List.getElem?_eq_getElem hlt, FileD.dv, h1, greatF]
      refine Wp.cond (by simp (maxSteps := 2000000) (disch := omega) only [RUN, RUNB]; rfl) (fun h => ?_) (fun h => ?_)
      · (repeat (first | refine Wp.skip ?_ | refine Wp.exit ?_ | refine Wp.ret ?_ | refine Wp.block ?_ | refine Wp.label ?_ | ((first | (first | refine Wp.sreg (fun K hK => ?_) | refine Wp.reg (fun K hK => ?_) | refine Wp.sdrw mixed (fun K hK => ?_) | refine Wp.drw mixed (fun K hK => ?_)) | refine Wp.condG (fun K hT hF => ?_)); simp (maxSteps := 2000000) (disch := omega) only [RUN, RUNB, aop, ofV, Nat.reduceAdd, Nat.reduceLT]; (first | (refine hK _ ?_; clear hK K) | (refine ⟨by kernel_rfl, hK _ ?_⟩; clear hK K) | (refine hT ?_; clear hT hF K) | (refine hF ?_; clear hT hF K))) | refine Wp.seq ?_))
        have : greatD fs = true := by
          have : fs.any greatF = true := by rw [List.any_eq_true]; exact ⟨fs[k], List.getElem_mem hlt, h⟩
          simp [greatD, this]
        simp (maxSteps := 2000000) (disch := omega) only [RUN, RUNB, rD0, bQ0, tQ0, kQ0, this]
      · (repeat (first | refine Wp.skip ?_ | refine Wp.exit ?_ | refine Wp.ret ?_ | refine Wp.block ?_ | refine Wp.label ?_ | ((first | (first | refine Wp.sreg (fun K hK => ?_) | refine Wp.reg (fun K hK => ?_) | refine Wp.sdrw mixed (fun K hK => ?_) | refine Wp.drw mixed (fun K hK => ?_)) | refine Wp.condG (fun K hT hF => ?_)); simp (maxSteps := 2000000) (disch := omega) only [RUN, RUNB, aop, ofV, Nat.reduceBEq, Nat.reduceAdd, Nat.reduceLT]; (first | (refine hK _ ?_; clear hK K) | (refine ⟨by kernel_rfl, hK _ ?_⟩; clear hK K) | (refine hT ?_; clear hT hF K) | (refine hF ?_; clear hT hF K))) | refine Wp.seq ?_))
        refine ⟨k + 1, ⟨by omega, by rw [List.take_succ_eq_append_getElem hlt, List.any_append, hall]; simp [h]⟩, by omega, Weak.keep rfl rfl ?_⟩
        simp (maxSteps := 2000000) (disch := omega) only [RUN, RUNB, Nat.reduceBEq]
    · have hlt : k = fs.length := by simp at h; omega
      (repeat (first | refine Wp.skip ?_ | refine Wp.exit ?_ | refine Wp.ret ?_ | refine Wp.block ?_ | refine Wp.label ?_ | ((first | (first | refine Wp.sreg (fun K hK => ?_) | refine Wp.reg (fun K hK => ?_) | refine Wp.sdrw mixed (fun K hK => ?_) | refine Wp.drw mixed (fun K hK => ?_)) | refine Wp.condG (fun K hT hF => ?_)); simp (maxSteps := 2000000) (disch := omega) only [RUN, RUNB, aop, ofV, Nat.reduceAdd, Nat.reduceLT]; (first | (refine hK _ ?_; clear hK K) | (refine ⟨by kernel_rfl, hK _ ?_⟩; clear hK K) | (refine hT ?_; clear hT hF K) | (refine hF ?_; clear hT hF K))) | refine Wp.seq ?_))
      have : greatD fs = false := by
        rw [hlt, List.take_length] at hall
        simp only [greatD, hall, Bool.or_false, decide_eq_false_iff_not]; omega
      simp (maxSteps := 2000000) (disch := omega) only [RUN, RUNB, rD0, bQ0, this]
theorem get1_fun (f : FileD) (nm : List UInt8) : Fun Tryz.prog 99 [.agg f.dv, .ptr [str nm] 0] (boo (f.name == nm)) := by
  (refine Fun.of_body Tryz.func99 rfl rfl Tryz.ntmps99 Tryz.results99 (by simp) ?_)
  (repeat (first | refine Wp.skip ?_ | refine Wp.exit ?_ | refine Wp.ret ?_ | refine Wp.block ?_ | refine Wp.label ?_ | ((first | (first | refine Wp.sreg (fun K hK => ?_) | refine Wp.reg (fun K hK => ?_) | refine Wp.sdrw mixed (fun K hK => ?_) | refine Wp.drw mixed (fun K hK => ?_)) | refine Wp.condG (fun K hT hF => ?_)); simp (maxSteps := 2000000) (disch := omega) only [RUN, TY, RUNB, aop, ofV, SV.ofD, aLd, aFd, Nat.reduceBEq, Nat.reduceAdd, Nat.reduceLT, Nat.reduceLeDiff, FileD.dv]; (first | (refine hK _ ?_; clear hK K) | (refine ⟨by kernel_rfl, hK _ ?_⟩; clear hK K) | (refine hT ?_; clear hT hF K) | (refine hF ?_; clear hT hF K))) | refine Wp.seq ?_))
  simp (maxSteps := 2000000) (disch := omega) only [RUN, RUNB, rD0, bQ0]
theorem idx_take {α : Type} {p : α → Bool} {l : List α} {k : Nat} (hk : k < l.length) (h : (l.take k).any p = false) (h2 : p l[k] = true) : l.findIdx p = k := by
  rw [List.findIdx_eq hk]
  refine ⟨h2, fun j hj => ?_⟩
  rw [List.any_eq_false] at h
  have : l[j] ∈ l.take k := by rw [List.mem_take_iff_getElem]; exact ⟨j, by omega, rfl⟩
  simpa using h _ this
theorem idx_none {α : Type} {p : α → Bool} {l : List α} (h : l.any p = false) : l.findIdx p = l.length := by
  rw [List.findIdx_eq_length]; rw [List.any_eq_false] at h; simpa using h
theorem first_fun (fs : List FileD) (g : FuncId) (caps : List D) (p : FileD → Bool) (hl : fs.length < 2 ^ 62) (hg : ∀ f : FileD, Fun Tryz.prog g (.agg f.dv :: caps) (boo (p f))) : Fun Tryz.prog 75 [.lst 3 (fs.map FileD.dv), .fn (.func g) caps] (int (fs.findIdx p)) := by
  (refine Fun.of_body Tryz.func75 rfl rfl Tryz.ntmps75 Tryz.results75 (by simp) ?_)
  (repeat (first | refine Wp.skip ?_ | refine Wp.exit ?_ | refine Wp.ret ?_ | refine Wp.block ?_ | refine Wp.label ?_ | ((first | (first | refine Wp.sreg (fun K hK => ?_) | refine Wp.reg (fun K hK => ?_) | refine Wp.sdrw mixed (fun K hK => ?_) | refine Wp.drw mixed (fun K hK => ?_)) | refine Wp.condG (fun K hT hF => ?_)); simp (maxSteps := 2000000) (disch := omega) only [RUN, TY, RUNB, aop, ofV, SV.ofD, aLen, aBu, CV.lenOf, Nat.reduceBEq, Nat.reduceLT]; (first | (refine hK _ ?_; clear hK K) | (refine ⟨by kernel_rfl, hK _ ?_⟩; clear hK K) | (refine hT ?_; clear hT hF K) | (refine hF ?_; clear hT hF K))) | refine Wp.seq ?_))
  refine Wp.loop (fun k : Nat => ⟨ofL [(0, .c (.d (.lst 3 (fs.map FileD.dv)))), (1, .c (.d (.fn (.func g) caps))), (7, .c (.d (.lst 3 (fs.map FileD.dv)))), (8, vi .i64 fs.length), (9, vi .i64 k)], ofH [], 0, 21, 0⟩) (fun k => k ≤ fs.length ∧ (fs.take k).any p = false) (fun k => fs.length - k) 0 ⟨Nat.zero_le _, rfl⟩ ?_ ?_
  · refine Weak.keep rfl rfl ?_
    simp (maxSteps := 2000000) (disch := omega) only [RUN, RUNB, SV.ofD, Nat.reduceBEq]
  rintro k ⟨hk, hall⟩
  (repeat (first | refine Wp.skip ?_ | refine Wp.exit ?_ | refine Wp.ret ?_ | refine Wp.block ?_ | refine Wp.label ?_ | ((first | (first | refine Wp.sreg (fun K hK => ?_) | refine Wp.reg (fun K hK => ?_) | refine Wp.sdrw mixed (fun K hK => ?_) | refine Wp.drw mixed (fun K hK => ?_)) | refine Wp.condG (fun K hT hF => ?_)); simp (maxSteps := 2000000) (disch := omega) only [RUN, RUNB, aop, Nat.reduceBEq, Nat.reduceLT]; (first | (refine hK _ ?_; clear hK K) | (refine ⟨by kernel_rfl, hK _ ?_⟩; clear hK K) | (refine hT ?_; clear hT hF K) | (refine hF ?_; clear hT hF K))) | refine Wp.seq ?_))
  refine Wp.cond (by simp (maxSteps := 2000000) (disch := omega) only [RUN, RUNB]; rfl) (fun h => ?_) (fun h => ?_)
  · have hlt : k < fs.length := by simpa using h
    refine Wp.skip ?_
    refine Wp.seq ?_
    refine Wp.block ?_
    (refine Wp.sreg (fun K hK => ?_); simp (maxSteps := 2000000) (disch := omega) only [RUN, TY, RUNB, aop, aLd, aSt, CV.exact, CV.lstOf, Value.oneCell', Nat.reduceBEq, Nat.reduceAdd, Nat.reduceLT, List.getElem?_eq_getElem hlt, FileD.dv]; refine hK _ ?_; clear hK K)
    ((first | refine Wp.sreg (fun K hK => ?_) | refine Wp.reg (fun K hK => ?_) | (refine Wp.seq ?_; first | refine Wp.sreg (fun K hK => ?_) | refine Wp.reg (fun K hK => ?_))); simp (maxSteps := 2000000) (disch := omega) only [RUN, TY, RUNB, aop, aLd, CV.toD0, oWn, Nat.reduceBEq, Nat.reduceAdd, Nat.reduceLT]; refine bcf ((hg fs[k])) ?_; simp (maxSteps := 2000000) (disch := omega) only [RUN, RUNB, SV.ofD, Nat.reduceAdd, Nat.reduceLT]; refine hK _ ?_; clear hK K)
    refine Wp.cond (by simp (maxSteps := 2000000) (disch := omega) only [RUN, RUNB]; rfl) (fun h => ?_) (fun h => ?_)
    · (repeat (first | refine Wp.skip ?_ | refine Wp.exit ?_ | refine Wp.ret ?_ | refine Wp.block ?_ | refine Wp.label ?_ | ((first | (first | refine Wp.sreg (fun K hK => ?_) | refine Wp.reg (fun K hK => ?_) | refine Wp.sdrw mixed (fun K hK => ?_) | refine Wp.drw mixed (fun K hK => ?_)) | refine Wp.condG (fun K hT hF => ?_)); simp (maxSteps := 2000000) (disch := omega) only [RUN, RUNB, aop, Nat.reduceBEq, Nat.reduceAdd, Nat.reduceLT]; (first | (refine hK _ ?_; clear hK K) | (refine ⟨by kernel_rfl, hK _ ?_⟩; clear hK K) | (refine hT ?_; clear hT hF K) | (refine hF ?_; clear hT hF K))) | refine Wp.seq ?_))
      have := idx_take hlt hall h
      simp (maxSteps := 2000000) (disch := omega) only [RUN, RUNB, rD0, bQ0, tQ0, kQ0, this]
    · (repeat (first | refine Wp.skip ?_ | refine Wp.exit ?_ | refine Wp.ret ?_ | refine Wp.block ?_ | refine Wp.label ?_ | ((first | (first | refine Wp.sreg (fun K hK => ?_) | refine Wp.reg (fun K hK => ?_) | refine Wp.sdrw mixed (fun K hK => ?_) | refine Wp.drw mixed (fun K hK => ?_)) | refine Wp.condG (fun K hT hF => ?_)); simp (maxSteps := 2000000) (disch := omega) only [RUN, RUNB, aop, ofV, Nat.reduceBEq, Nat.reduceAdd, Nat.reduceLT]; (first | (refine hK _ ?_; clear hK K) | (refine ⟨by kernel_rfl, hK _ ?_⟩; clear hK K) | (refine hT ?_; clear hT hF K) | (refine hF ?_; clear hT hF K))) | refine Wp.seq ?_))
      refine ⟨k + 1, ⟨by omega, by rw [List.take_succ_eq_append_getElem hlt, List.any_append, hall]; simp [h]⟩, by omega, Weak.keep rfl rfl ?_⟩
      simp (maxSteps := 2000000) (disch := omega) only [RUN, RUNB, Nat.reduceBEq]
  · have hlt : k = fs.length := by simp at h; omega
    (repeat (first | refine Wp.skip ?_ | refine Wp.exit ?_ | refine Wp.ret ?_ | refine Wp.block ?_ | refine Wp.label ?_ | ((first | (first | refine Wp.sreg (fun K hK => ?_) | refine Wp.reg (fun K hK => ?_) | refine Wp.sdrw mixed (fun K hK => ?_) | refine Wp.drw mixed (fun K hK => ?_)) | refine Wp.condG (fun K hT hF => ?_)); simp (maxSteps := 2000000) (disch := omega) only [RUN, TY, RUNB, aop, aLen, aBu, CV.lenOf, Nat.reduceBEq, Nat.reduceLT]; (first | (refine hK _ ?_; clear hK K) | (refine ⟨by kernel_rfl, hK _ ?_⟩; clear hK K) | (refine hT ?_; clear hT hF K) | (refine hF ?_; clear hT hF K))) | refine Wp.seq ?_))
    have := idx_none (p := p) (l := fs) (by rw [hlt, List.take_length] at hall; exact hall)
    simp (maxSteps := 2000000) (disch := omega) only [RUN, RUNB, rD0, bQ0, this]
def getV (fs : List FileD) (nm : List UInt8) : D := match fs[fs.findIdx fun f => f.name == nm]? with
  | some f => .tup [.agg f.dv, boo true]
  | none => .tup [.agg [str [], str [], int 0], boo false]
theorem get_fun (fs : List FileD) (cap left : Int) (down : Bool) (nm : List UInt8) (hl : fs.length < 2 ^ 62) : Fun Tryz.prog 52 [diskD fs cap left down, str nm] (getV fs nm) := by
  have hle : (fs.findIdx fun f => f.name == nm) ≤ fs.length := List.findIdx_le_length
  (refine Fun.of_body Tryz.func52 rfl rfl Tryz.ntmps52 Tryz.results52 (by simp) ?_)
  (repeat (first | refine Wp.skip ?_ | refine Wp.exit ?_ | refine Wp.ret ?_ | refine Wp.block ?_ | refine Wp.label ?_ | ((first | (first | refine Wp.sreg (fun K hK => ?_) | refine Wp.reg (fun K hK => ?_) | refine Wp.sdrw mixed (fun K hK => ?_) | refine Wp.drw mixed (fun K hK => ?_)) | refine Wp.condG (fun K hT hF => ?_)); simp (maxSteps := 2000000) (disch := omega) only [RUN, TY, RUNB, aop, ofV, SV.ofD, aLd, aFd, aMF, CV.one, D.one, Value.oneCell', oWn, Nat.reduceBEq, Nat.reduceAdd, Nat.reduceLT, Nat.reduceLeDiff]; (first | (refine hK _ ?_; clear hK K) | (refine ⟨by kernel_rfl, hK _ ?_⟩; clear hK K) | (refine hT ?_; clear hT hF K) | (refine hF ?_; clear hT hF K))) | refine Wp.seq ?_))
  (refine Wp.weak (Weak.freeze (id := 1) (by simp (maxSteps := 2000000) (disch := omega) only [RUN, Nat.reduceBEq]; rfl) (by simp (maxSteps := 2000000) (disch := omega) only [RUNB, CV.toD0]; rfl)) ?_)
  ((first | refine Wp.sreg (fun K hK => ?_) | refine Wp.reg (fun K hK => ?_) | (refine Wp.seq ?_; first | refine Wp.sreg (fun K hK => ?_) | refine Wp.reg (fun K hK => ?_))); simp (maxSteps := 2000000) (disch := omega) only [RUN, TY, RUNB, aop, aLd, aFd, aMF, oWn, Nat.reduceBEq, Nat.reduceAdd, Nat.reduceLT, Nat.reduceLeDiff]; refine bcf ((first_fun fs _ _ (fun f => f.name == nm) hl (fun f => get1_fun f nm))) ?_; simp (maxSteps := 2000000) (disch := omega) only [RUN, RUNB, aop, SV.ofD, Nat.reduceAdd, Nat.reduceLT]; refine hK _ ?_; clear hK K)
  (repeat (first | refine Wp.skip ?_ | refine Wp.exit ?_ | refine Wp.ret ?_ | refine Wp.block ?_ | refine Wp.label ?_ | ((first | (first | refine Wp.sreg (fun K hK => ?_) | refine Wp.reg (fun K hK => ?_) | refine Wp.sdrw mixed (fun K hK => ?_) | refine Wp.drw mixed (fun K hK => ?_)) | refine Wp.condG (fun K hT hF => ?_)); simp (maxSteps := 2000000) (disch := omega) only [RUN, TY, RUNB, aop, aLd, aFd, aLen, aBu, CV.lenOf, Nat.reduceBEq, Nat.reduceAdd, Nat.reduceLT, Nat.reduceLeDiff]; (first | (refine hK _ ?_; clear hK K) | (refine ⟨by kernel_rfl, hK _ ?_⟩; clear hK K) | (refine hT ?_; clear hT hF K) | (refine hF ?_; clear hT hF K))) | refine Wp.seq ?_))
  refine Wp.cond (by simp (maxSteps := 2000000) (disch := omega) only [RUN, RUNB]; rfl) (fun h => ?_) (fun h => ?_)
  · have : fs[fs.findIdx fun f => f.name == nm]? = none := by rw [List.getElem?_eq_none_iff]; simp at h; omega
    (repeat (first | refine Wp.skip ?_ | refine Wp.exit ?_ | refine Wp.ret ?_ | refine Wp.block ?_ | refine Wp.label ?_ | ((first | (first | refine Wp.sreg (fun K hK => ?_) | refine Wp.reg (fun K hK => ?_) | refine Wp.sdrw mixed (fun K hK => ?_) | refine Wp.drw mixed (fun K hK => ?_)) | refine Wp.condG (fun K hT hF => ?_)); simp (maxSteps := 2000000) (disch := omega) only [RUN, TY, RUNB, aop, ofV, aSt, Value.oneCell', reduceCtorEq, Nat.reduceBEq, Nat.reduceAdd, Nat.reduceLT]; (first | (refine hK _ ?_; clear hK K) | (refine ⟨by kernel_rfl, hK _ ?_⟩; clear hK K) | (refine hT ?_; clear hT hF K) | (refine hF ?_; clear hT hF K))) | refine Wp.seq ?_))
    simp (maxSteps := 2000000) (disch := omega) only [RUN, TY, RUNB, aLd, CV.toD0, rD0, bQ0, tQ0, Nat.reduceBEq, Nat.reduceAdd, getV, this]
  · have hlt : (fs.findIdx fun f => f.name == nm) < fs.length := by simp at h; omega
    (repeat (first | refine Wp.skip ?_ | refine Wp.exit ?_ | refine Wp.ret ?_ | refine Wp.block ?_ | refine Wp.label ?_ | ((first | (first | refine Wp.sreg (fun K hK => ?_) | refine Wp.reg (fun K hK => ?_) | refine Wp.sdrw mixed (fun K hK => ?_) | refine Wp.drw mixed (fun K hK => ?_)) | refine Wp.condG (fun K hT hF => ?_)); simp (maxSteps := 2000000) (disch := omega) only [RUN, TY, RUNB, aop, ofV, aLd, aSt, aFd, CV.exact, CV.lstOf, Nat.reduceBEq, Nat.reduceAdd, Nat.reduceLT, Nat.reduceLeDiff, List.getElem?_eq_getElem hlt, FileD.dv]; (first | (refine hK _ ?_; clear hK K) | (refine ⟨by kernel_rfl, hK _ ?_⟩; clear hK K) | (refine hT ?_; clear hT hF K) | (refine hF ?_; clear hT hF K))) | refine Wp.seq ?_))
    simp (maxSteps := 2000000) (disch := omega) only [RUN, TY, RUNB, aLd, CV.toD0, rD0, bQ0, Nat.reduceBEq, Nat.reduceAdd, getV, List.getElem?_eq_getElem hlt, FileD.dv]
end Go.Proofs.YtepcpdionlfkhaaGreatDoor
