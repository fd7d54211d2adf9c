/- Disks: valid, Check, after. -/
import Derived.Test.YtepcpdionlfkhaaGreatDoorDkC
namespace Go.Proofs.YtepcpdionlfkhaaGreatDoor
open Go Go.RowKit
set_option maxHeartbeats 1000000
set_option maxRecDepth 100000
set_option linter.unusedVariables false
set_option linter.unusedSimpArgs false
def Small (fs : List FileD) : Prop := fs.length ≤ 1000 ∧ ∀ f ∈ fs, f.name.length ≤ 1000000 ∧ f.b.length ≤ 1000000
theorem sum_bound {α : Type} (g : α → Nat) (m : Nat) : ∀ (l : List α), (∀ x ∈ l, g x ≤ m) → (l.map g).sum ≤ l.length * m
  | [], _ => by simp
  | x :: l, h => by
    have h1 := sum_bound g m l (fun y hy => h y (by simp [hy]))
    have h2 := h x (by simp)
    simp only [List.map_cons, List.sum_cons, List.length_cons, Nat.succ_mul]; omega
theorem Small.used {fs : List FileD} (h : Small fs) : usedF fs ≤ 1000000000 := by
  have h1 := sum_bound (fun f : FileD => f.b.length) 1000000 fs (fun f hf => (h.2 f hf).2)
  have h2 : fs.length * 1000000 ≤ 1000 * 1000000 := Nat.mul_le_mul_right _ h.1
  unfold usedF; omega
def badF (last : List UInt8) (f : FileD) : Bool := !nameB f.name || (Op.bytesLess f.name last || f.name == last) || f.b == [] || decide (f.sure < 0) || decide ((f.b.length : Int) < f.sure)
def okFiles : List UInt8 → List FileD → Bool
  | _, [] => true
  | last, f :: fs => !badF last f && okFiles f.name fs
def badTop (fs : List FileD) (cap : Int) : Bool := decide (cap < 0) || decide (65536 < cap) || decide (64 < (fs.length : Int))
def validB (fs : List FileD) (cap : Int) : Bool := !badTop fs cap && okFiles [] fs && !decide (cap < (usedF fs : Int))
abbrev sDisk : List UInt8 := [97, 32, 100, 105, 115, 107]
def lastN (fs : List FileD) (k : Nat) : List UInt8 := match k with
  | 0 => []
  | k + 1 => match fs[k]? with
    | some f => f.name
    | none => []
theorem valid_fun (fs : List FileD) (cap left : Int) (down : Bool) (hs : Small fs) : Fun Tryz.prog 73 [diskD fs cap left down] (if validB fs cap then .val .nilIface else errD sDisk 2) := by
  have hu := hs.used
  have hl := hs.1
  (refine Fun.of_body Tryz.func73 rfl rfl Tryz.ntmps73 Tryz.results73 (by simp) ?_)
  (repeat (first | refine Wp.skip ?_ | refine Wp.exit ?_ | refine Wp.ret ?_ | refine Wp.block ?_ | refine Wp.label ?_ | ((first | (first | refine Wp.sreg (fun K hK => ?_) | refine Wp.reg (fun K hK => ?_) | refine Wp.sdrw mixed (fun K hK => ?_) | refine Wp.drw mixed (fun K hK => ?_)) | refine Wp.condG (fun K hT hF => ?_)); simp (maxSteps := 2000000) (disch := omega) only [RUN, TY, RUNB, aop, ofV, SV.ofD, aLd, aFd, CV.exact, CV.one, D.one, Value.oneCell', reduceCtorEq, Nat.reduceBEq, Nat.reduceAdd, Nat.reduceLT, Nat.reduceLeDiff]; (first | (refine hK _ ?_; clear hK K) | (refine ⟨by kernel_rfl, hK _ ?_⟩; clear hK K) | (refine hT ?_; clear hT hF K) | (refine hF ?_; clear hT hF K))) | refine Wp.seq ?_))
  (first | refine Wp.sto 22 (vb (badTop fs cap)) ?_ ?_ | refine Wp.rtoS 22 (vb (badTop fs cap)) ?_ ?_ | (refine Wp.seq ?_; first | refine Wp.sto 22 (vb (badTop fs cap)) ?_ ?_ | refine Wp.rtoS 22 (vb (badTop fs cap)) ?_ ?_))
  · cases h1 : decide (cap < 0) <;> cases h2 : decide (65536 < cap) <;> simp (maxSteps := 2000000) (disch := omega) only [RUN, TY, RUNB, aop, ofV, aLd, aFd, aLen, aBu, CV.exact, CV.lenOf, Nat.reduceBEq, Nat.reduceAdd, Nat.reduceLT, Nat.reduceLeDiff, h1, h2, badTop]
  refine Wp.cond (by simp (maxSteps := 2000000) (disch := omega) only [RUN, RUNB]; rfl) (fun h => ?_) (fun h => ?_)
  · have : validB fs cap = false := by simp [validB, h]
    rw [this]
    (repeat (first | refine Wp.skip ?_ | refine Wp.exit ?_ | refine Wp.ret ?_ | refine Wp.block ?_ | refine Wp.label ?_ | ((first | (first | refine Wp.sreg (fun K hK => ?_) | refine Wp.reg (fun K hK => ?_) | refine Wp.sdrw mixed (fun K hK => ?_) | refine Wp.drw mixed (fun K hK => ?_)) | refine Wp.condG (fun K hT hF => ?_)); simp (maxSteps := 2000000) (disch := omega) only [RUN, TY, RUNB, aop, aIf, CV.toD0, Nat.reduceBEq, Nat.reduceAdd, Nat.reduceLT]; (first | (refine hK _ ?_; clear hK K) | (refine ⟨by kernel_rfl, hK _ ?_⟩; clear hK K) | (refine hT ?_; clear hT hF K) | (refine hF ?_; clear hT hF K))) | refine Wp.seq ?_))
    simp (maxSteps := 2000000) (disch := omega) only [RUN, RUNB, rD0, bQ0, tQ0]
  · have ht := h
    (repeat (first | refine Wp.skip ?_ | refine Wp.exit ?_ | refine Wp.ret ?_ | refine Wp.block ?_ | refine Wp.label ?_ | ((first | (first | refine Wp.sreg (fun K hK => ?_) | refine Wp.reg (fun K hK => ?_) | refine Wp.sdrw mixed (fun K hK => ?_) | refine Wp.drw mixed (fun K hK => ?_)) | refine Wp.condG (fun K hT hF => ?_)); simp (maxSteps := 2000000) (disch := omega) only [RUN, TY, RUNB, aop, ofV, aLd, aFd, aLen, aBu, CV.lenOf, Nat.reduceBEq, Nat.reduceAdd, Nat.reduceLT, Nat.reduceLeDiff]; (first | (refine hK _ ?_; clear hK K) | (refine ⟨by kernel_rfl, hK _ ?_⟩; clear hK K) | (refine hT ?_; clear hT hF K) | (refine hF ?_; clear hT hF K))) | refine Wp.seq ?_))
    refine Wp.loop (fun k : Nat => ⟨ofL [(1, .c (.own 0 0)), (3, .c (.own 1 0)), (4, Go.Proofs.YtepcpdionlfkhaaGreatDoor.vs (lastN fs k)), (26, .c (.d (.lst 3 (fs.map FileD.dv)))), (27, vi .i64 fs.length), (28, vi .i64 k)], ofH [(0, .cells [.d (.lst 3 (fs.map FileD.dv)), .d (int cap), .d (int left), .d (boo down)]), (1, .cells [.d (str sDisk), .d (int 2)])], 2, 72, 0⟩)
      (fun k => k ≤ fs.length ∧ okFiles [] fs = okFiles (lastN fs k) (fs.drop k)) (fun k => fs.length - k) 0 ⟨Nat.zero_le _, rfl⟩ ?_ ?_
    · refine Weak.keep rfl rfl ?_
      simp (maxSteps := 2000000) (disch := omega) only [RUN, RUNB, Nat.reduceBEq, lastN]
    rintro k ⟨hk, hok⟩
    (repeat (first | refine Wp.skip ?_ | refine Wp.exit ?_ | refine Wp.ret ?_ | refine Wp.block ?_ | refine Wp.label ?_ | ((first | (first | refine Wp.sreg (fun K hK => ?_) | refine Wp.reg (fun K hK => ?_) | refine Wp.sdrw mixed (fun K hK => ?_) | refine Wp.drw mixed (fun K hK => ?_)) | refine Wp.condG (fun K hT hF => ?_)); simp (maxSteps := 2000000) (disch := omega) only [RUN, RUNB, aop, Nat.reduceBEq, Nat.reduceAdd, Nat.reduceLT]; (first | (refine hK _ ?_; clear hK K) | (refine ⟨by kernel_rfl, hK _ ?_⟩; clear hK K) | (refine hT ?_; clear hT hF K) | (refine hF ?_; clear hT hF K))) | refine Wp.seq ?_))
    refine Wp.cond (by simp (maxSteps := 2000000) (disch := omega) only [RUN, RUNB]; rfl) (fun h => ?_) (fun h => ?_)
    · have hlt : k < fs.length := by simpa using h
      have hf := hs.2 fs[k] (List.getElem_mem hlt)
      have hd : fs.drop k = fs[k] :: fs.drop (k + 1) := (List.drop_eq_getElem_cons hlt)
      have hln : lastN fs (k + 1) = fs[k].name := by simp [lastN, hlt]
      rw [hd] at hok
      simp only [okFiles] at hok
      refine Wp.skip ?_
      refine Wp.seq ?_
      refine Wp.block ?_
      (refine Wp.sreg (fun K hK => ?_); simp (maxSteps := 2000000) (disch := omega) only [RUN, TY, RUNB, aop, aLd, aSt, CV.exact, CV.lstOf, Value.oneCell', Nat.reduceBEq, Nat.reduceAdd, Nat.reduceLT, List.getElem?_eq_getElem hlt, FileD.dv]; refine hK _ ?_; clear hK K)
      generalize lastN fs k = last at hok
      (first | refine Wp.sto 59 (vb (badF last fs[k])) ?_ ?_ | refine Wp.rtoS 59 (vb (badF last fs[k])) ?_ ?_ | (refine Wp.seq ?_; first | refine Wp.sto 59 (vb (badF last fs[k])) ?_ ?_ | refine Wp.rtoS 59 (vb (badF last fs[k])) ?_ ?_))
      · simp (maxSteps := 2000000) (disch := omega) only [RUN, TY, RUNB, aop, aLd, aFd, oWn, Nat.reduceAdd, Nat.reduceLT, Nat.reduceLeDiff]
        refine bcf (name_fun fs[k].name) ?_
        cases h1 : nameB fs[k].name <;> cases h2 : (Op.bytesLess fs[k].name last || fs[k].name == last) <;> cases h3 : (fs[k].b == []) <;> cases h4 : decide (fs[k].sure < 0) <;> simp (maxSteps := 2000000) (disch := omega) only [RUN, TY, RUNB, aop, ofV, SV.ofD, aLd, aFd, aLen, aBu, CV.exact, Nat.reduceBEq, Nat.reduceAdd, Nat.reduceLT, Nat.reduceLeDiff, h1, h2, h3, h4, badF]
      refine Wp.cond (by simp (maxSteps := 2000000) (disch := omega) only [RUN, RUNB]; rfl) (fun h => ?_) (fun h => ?_)
      · have : validB fs cap = false := by simp [validB, hok, h]
        rw [this]
        (repeat (first | refine Wp.skip ?_ | refine Wp.exit ?_ | refine Wp.ret ?_ | refine Wp.block ?_ | refine Wp.label ?_ | ((first | (first | refine Wp.sreg (fun K hK => ?_) | refine Wp.reg (fun K hK => ?_) | refine Wp.sdrw mixed (fun K hK => ?_) | refine Wp.drw mixed (fun K hK => ?_)) | refine Wp.condG (fun K hT hF => ?_)); simp (maxSteps := 2000000) (disch := omega) only [RUN, TY, RUNB, aop, aIf, CV.toD0, Nat.reduceBEq, Nat.reduceAdd, Nat.reduceLT]; (first | (refine hK _ ?_; clear hK K) | (refine ⟨by kernel_rfl, hK _ ?_⟩; clear hK K) | (refine hT ?_; clear hT hF K) | (refine hF ?_; clear hT hF K))) | refine Wp.seq ?_))
        simp (maxSteps := 2000000) (disch := omega) only [RUN, RUNB, rD0, bQ0, tQ0, kQ0]
      · (repeat (first | refine Wp.skip ?_ | refine Wp.exit ?_ | refine Wp.ret ?_ | refine Wp.block ?_ | refine Wp.label ?_ | ((first | (first | refine Wp.sreg (fun K hK => ?_) | refine Wp.reg (fun K hK => ?_) | refine Wp.sdrw mixed (fun K hK => ?_) | refine Wp.drw mixed (fun K hK => ?_)) | refine Wp.condG (fun K hT hF => ?_)); simp (maxSteps := 2000000) (disch := omega) only [RUN, TY, RUNB, aop, ofV, aLd, aFd, Nat.reduceBEq, Nat.reduceAdd, Nat.reduceLT, Nat.reduceLeDiff]; (first | (refine hK _ ?_; clear hK K) | (refine ⟨by kernel_rfl, hK _ ?_⟩; clear hK K) | (refine hT ?_; clear hT hF K) | (refine hF ?_; clear hT hF K))) | refine Wp.seq ?_))
        refine ⟨k + 1, ⟨by omega, by rw [hok, h, hln]; rfl⟩, by omega, Weak.keep rfl rfl ?_⟩
        simp (maxSteps := 2000000) (disch := omega) only [RUN, RUNB, Nat.reduceBEq, hln]
    · have hlt : k = fs.length := by simp at h; omega
      have hok' : okFiles [] fs = true := by rw [hok, hlt, List.drop_length]; rfl
      refine Wp.exit ?_
      ((first | refine Wp.sdrw mixed (fun K hK => ?_) | refine Wp.drw mixed (fun K hK => ?_) | (refine Wp.seq ?_; first | refine Wp.sdrw mixed (fun K hK => ?_) | refine Wp.drw mixed (fun K hK => ?_))); simp (maxSteps := 2000000) (disch := omega) only [RUN, TY, RUNB, aop, aLd, CV.toD0, oWn, Nat.reduceBEq, Nat.reduceAdd, Nat.reduceLT]; refine bcf ((used_fun fs cap left down (by omega) (by omega))) ?_; simp (maxSteps := 2000000) (disch := omega) only [RUN, TY, RUNB, aop, SV.ofD, aLd, aFd, Nat.reduceBEq, Nat.reduceAdd, Nat.reduceLT, Nat.reduceLeDiff]; refine ⟨by kernel_rfl, hK _ ?_⟩; clear hK K)
      refine Wp.cond (by simp (maxSteps := 2000000) (disch := omega) only [RUN, RUNB]; rfl) (fun h => ?_) (fun h => ?_)
      · have : validB fs cap = false := by simp [validB, hok', ht]; simpa using h
        rw [this]
        (repeat (first | refine Wp.skip ?_ | refine Wp.exit ?_ | refine Wp.ret ?_ | refine Wp.block ?_ | refine Wp.label ?_ | ((first | (first | refine Wp.sreg (fun K hK => ?_) | refine Wp.reg (fun K hK => ?_) | refine Wp.sdrw mixed (fun K hK => ?_) | refine Wp.drw mixed (fun K hK => ?_)) | refine Wp.condG (fun K hT hF => ?_)); simp (maxSteps := 2000000) (disch := omega) only [RUN, TY, RUNB, aop, aIf, CV.toD0, Nat.reduceBEq, Nat.reduceAdd, Nat.reduceLT]; (first | (refine hK _ ?_; clear hK K) | (refine ⟨by kernel_rfl, hK _ ?_⟩; clear hK K) | (refine hT ?_; clear hT hF K) | (refine hF ?_; clear hT hF K))) | refine Wp.seq ?_))
        simp (maxSteps := 2000000) (disch := omega) only [RUN, RUNB, rD0, bQ0, tQ0]
      · have : validB fs cap = true := by simp only [validB, hok', ht, h]; rfl
        rw [this]
        (repeat (first | refine Wp.skip ?_ | refine Wp.exit ?_ | refine Wp.ret ?_ | refine Wp.block ?_ | refine Wp.label ?_ | ((first | (first | refine Wp.sreg (fun K hK => ?_) | refine Wp.reg (fun K hK => ?_) | refine Wp.sdrw mixed (fun K hK => ?_) | refine Wp.drw mixed (fun K hK => ?_)) | refine Wp.condG (fun K hT hF => ?_)); simp (maxSteps := 2000000) (disch := omega) only [RUN, RUNB, aop, ofV, Nat.reduceAdd, Nat.reduceLT]; (first | (refine hK _ ?_; clear hK K) | (refine ⟨by kernel_rfl, hK _ ?_⟩; clear hK K) | (refine hT ?_; clear hT hF K) | (refine hF ?_; clear hT hF K))) | refine Wp.seq ?_))
        simp (maxSteps := 2000000) (disch := omega) only [RUN, RUNB, rD0, bQ0]
end Go.Proofs.YtepcpdionlfkhaaGreatDoor
