/- Package file: Do. -/
import Derived.Test.YtepcpdionlfkhaaGreatDoorFlI
import Derived.Test.YtepcpdionlfkhaaGreatDoorErE
namespace Go.Proofs.YtepcpdionlfkhaaGreatDoor
open Go Go.RowKit
set_option maxHeartbeats 8000000
set_option maxRecDepth 100000
set_option linter.unusedVariables false
set_option linter.unusedSimpArgs false
/-- A disk behind operations, and the fault of the one that fails. -/
def fdoF : DiskS → List WriteD → DiskS × Option (Int × List UInt8 × Int)
  | s, [] => (s, none)
  | s, w :: ws => if (doF s w).2 = 0 then fdoF (doF s w).1 ws else (if (doF s w).2 = 30 ∧ (doF s w).1.down = true then (doF s w).1 else s, some (w.op, w.file, (doF s w).2))
def okPath : DiskS → List WriteD → Prop
  | _, [] => True
  | s, w :: ws => (Small s.fs ∧ s.left ≤ 9223372036854775807) ∧ ((doF s w).2 = 0 → okPath (doF s w).1 ws)
def errV : Option (Int × List UInt8 × Int) → D
  | none => .val .nilIface
  | some (op, nm, e) => faultD op nm e
abbrev wrsD (ws : List WriteD) : D := .lst 4 (ws.map WriteD.dv)
theorem fdo_fun (s : DiskS) (ws : List WriteD) (hp : okPath s ws) (hs : s.fs.length ≤ 100000) (hl : ws.length ≤ 1000000) (hw : ∀ w ∈ ws, w.file.length ≤ 1000000 ∧ w.b.length ≤ 1000000) :
    Fun Tryz.prog 16 [s.d, wrsD ws] (.tup [(fdoF s ws).1.d, errV (fdoF s ws).2]) := by
  have c0 := (clone_fun s.fs hs).fun
  (refine Fun.of_body Tryz.func16 rfl rfl Tryz.ntmps16 Tryz.results16 (by simp) ?_)
  (repeat (first | apply Wp.skip | apply Wp.exit | apply Wp.ret | apply Wp.block | apply Wp.label | ((first | refine Wp.sreg (fun K hK => ?_) | refine Wp.reg (fun K hK => ?_) | refine Wp.sdrw mixed (fun K hK => ?_) | refine Wp.drw mixed (fun K hK => ?_) | refine Wp.condG (fun K hK hF => ?_)); (repeat (revert hK; intro hK; simp (maxSteps := 2000000) (disch := omega) only [RUN, TY, RUNB, aop, ofV, SV.ofD, aLd, aSt, aFd, aLen, aBu, CV.lenOf, CV.one, D.one, Value.oneCell', oWn, Nat.reduceBEq, Nat.reduceAdd, Nat.reduceLT, Nat.reduceLeDiff]; (first | (refine hK _ ?_; clear hK K) | (refine ⟨by kernel_rfl, hK _ ?_⟩; clear hK K) | (refine hK ?_; clear hK hF K) | (refine hF ?_; clear hK hF K) | refine bcf (by assumption) ?_ | refine bca (by assumption) ?_))); fail_if_success (revert hK; intro hK)) | apply Wp.seq))
  refine Wp.loop (fun q : Nat × DiskS => ⟨ofL [(2, .c (.own 0 0)), (4, .c (.own 1 0)), (14, .c (.d (wrsD ws))), (15, vi .i64 ws.length), (16, vi .i64 q.1)], ofH [(0, .cells [.d (.lst 3 (q.2.fs.map FileD.dv)), .d (int q.2.cap), .d (int q.2.left), .d (boo q.2.down)]), (1, .cells [.d nilV, .d (int 0), .d (int 0), .d (boo false)])], 2, 49, 0⟩) (fun q => q.1 ≤ ws.length ∧ okPath q.2 (ws.drop q.1) ∧ fdoF s ws = fdoF q.2 (ws.drop q.1)) (fun q => ws.length - q.1) (0, s) ⟨Nat.zero_le _, hp, rfl⟩ ?_ ?_
  · refine Weak.keep rfl rfl ?_
    simp (maxSteps := 2000000) (disch := omega) only [RUN, RUNB, Nat.reduceBEq]
  rintro ⟨i, u⟩ ⟨hi, hok, heq⟩
  simp only at hi hok heq
  rw [heq]
  clear heq
  (repeat (first | apply Wp.skip | apply Wp.exit | apply Wp.ret | apply Wp.block | apply Wp.label | ((first | refine Wp.sreg (fun K hK => ?_) | refine Wp.reg (fun K hK => ?_) | refine Wp.sdrw mixed (fun K hK => ?_) | refine Wp.drw mixed (fun K hK => ?_) | refine Wp.condG (fun K hK hF => ?_)); (repeat (revert hK; intro hK; simp (maxSteps := 2000000) (disch := omega) only [RUN, RUNB, aop, Nat.reduceBEq, Nat.reduceAdd, Nat.reduceLT]; (first | (refine hK _ ?_; clear hK K) | (refine ⟨by kernel_rfl, hK _ ?_⟩; clear hK K) | (refine hK ?_; clear hK hF K) | (refine hF ?_; clear hK hF K) | refine bcf (by assumption) ?_ | refine bca (by assumption) ?_))); fail_if_success (revert hK; intro hK)) | apply Wp.seq))
  refine Wp.cond (by simp (maxSteps := 2000000) (disch := omega) only [RUN, RUNB]; rfl) (fun h => ?_) (fun h => ?_)
  · have hlt : i < ws.length := by simpa using h
    have hg : ws[i]? = some ws[i] := List.getElem?_eq_getElem hlt
    have hww := hw _ (List.getElem_mem hlt)
    rw [List.drop_eq_getElem_cons hlt] at hok ⊢
    generalize ws[i] = w at *
    obtain ⟨⟨hsm, hle⟩, hnx⟩ := hok
    have c1 := do_fun u w hsm hww.1 hww.2 hle
    simp only [fdoF]
    obtain ⟨t, e, ht⟩ : ∃ t e, doF u w = (t, e) := ⟨_, _, rfl⟩
    rw [ht] at c1 hnx ⊢
    simp only at c1 hnx ⊢
    obtain ⟨op, nm, bb, n⟩ := w
    simp only [WriteD.dv] at c1 hg
    by_cases he : e = 0
    · subst he
      (repeat (first | apply Wp.skip | apply Wp.exit | apply Wp.ret | apply Wp.block | apply Wp.label | ((first | refine Wp.sreg (fun K hK => ?_) | refine Wp.reg (fun K hK => ?_) | refine Wp.sdrw mixed (fun K hK => ?_) | refine Wp.drw mixed (fun K hK => ?_) | refine Wp.condG (fun K hK hF => ?_)); (repeat (revert hK; intro hK; simp (maxSteps := 2000000) (disch := omega) only [RUN, TY, RUNB, aop, ofV, SV.ofD, aLd, aSt, aXt, CV.exact, CV.lstOf, Value.oneCell', CV.toD0, oWn, Nat.reduceBEq, Nat.reduceAdd, Nat.reduceLT, Int.reduceBNe, hg, WriteD.dv]; (first | (refine hK _ ?_; clear hK K) | (refine ⟨by kernel_rfl, hK _ ?_⟩; clear hK K) | (refine hK ?_; clear hK hF K) | (refine hF ?_; clear hK hF K) | refine bcf (by assumption) ?_ | refine bca (by assumption) ?_))); fail_if_success (revert hK; intro hK)) | apply Wp.seq))
      refine ⟨(i + 1, t), ⟨hlt, hnx rfl, by simp⟩, (by simp only; omega), Weak.keep rfl rfl ?_⟩
      simp (maxSteps := 2000000) (disch := omega) only [RUN, RUNB, Nat.reduceBEq]
    · have e1 : (e != 0) = true := by simpa using he
      have c2 := is_errno e 30
      rw [if_neg he]
      by_cases h30 : e = 30
      · subst h30
        rw [show ((30 : Int) == 30) = true from rfl] at c2
        obtain ⟨tf, tc, tl, td⟩ := t
        cases td with
        | true =>
          (repeat (first | apply Wp.skip | apply Wp.exit | apply Wp.ret | apply Wp.block | apply Wp.label | ((first | refine Wp.sreg (fun K hK => ?_) | refine Wp.reg (fun K hK => ?_) | refine Wp.sdrw mixed (fun K hK => ?_) | refine Wp.drw mixed (fun K hK => ?_) | refine Wp.condG (fun K hK hF => ?_)); (repeat (revert hK; intro hK; simp (maxSteps := 2000000) (disch := omega) only [RUN, TY, RUNB, aop, ofV, SV.ofD, aLd, aSt, aFd, aIf, aXt, CV.exact, CV.lstOf, CV.one, D.one, Value.oneCell', CV.toD0, oWn, reduceCtorEq, Nat.reduceBEq, Nat.reduceAdd, Nat.reduceLT, Nat.reduceLeDiff, hg, WriteD.dv, e1]; (first | (refine hK _ ?_; clear hK K) | (refine ⟨by kernel_rfl, hK _ ?_⟩; clear hK K) | (refine hK ?_; clear hK hF K) | (refine hF ?_; clear hK hF K) | refine bcf (by assumption) ?_ | refine bca (by assumption) ?_))); fail_if_success (revert hK; intro hK)) | apply Wp.seq))
          simp (maxSteps := 2000000) (disch := omega) only [RUN, TY, RUNB, aLd, CV.toD0, rD0, bQ0, tQ0, kQ0, Nat.reduceBEq, Nat.reduceAdd]
          rfl
        | false =>
          (repeat (first | apply Wp.skip | apply Wp.exit | apply Wp.ret | apply Wp.block | apply Wp.label | ((first | refine Wp.sreg (fun K hK => ?_) | refine Wp.reg (fun K hK => ?_) | refine Wp.sdrw mixed (fun K hK => ?_) | refine Wp.drw mixed (fun K hK => ?_) | refine Wp.condG (fun K hK hF => ?_)); (repeat (revert hK; intro hK; simp (maxSteps := 2000000) (disch := omega) only [RUN, TY, RUNB, aop, ofV, SV.ofD, aLd, aSt, aFd, aIf, aXt, CV.exact, CV.lstOf, CV.one, D.one, Value.oneCell', CV.toD0, oWn, reduceCtorEq, Nat.reduceBEq, Nat.reduceAdd, Nat.reduceLT, Nat.reduceLeDiff, hg, WriteD.dv, e1]; (first | (refine hK _ ?_; clear hK K) | (refine ⟨by kernel_rfl, hK _ ?_⟩; clear hK K) | (refine hK ?_; clear hK hF K) | (refine hF ?_; clear hK hF K) | refine bcf (by assumption) ?_ | refine bca (by assumption) ?_))); fail_if_success (revert hK; intro hK)) | apply Wp.seq))
          simp (maxSteps := 2000000) (disch := omega) only [RUN, TY, RUNB, aLd, CV.toD0, rD0, bQ0, tQ0, kQ0, Nat.reduceBEq, Nat.reduceAdd]
          rfl
      · have e2 : (e == 30) = false := by simpa using h30
        rw [e2] at c2
        (repeat (first | apply Wp.skip | apply Wp.exit | apply Wp.ret | apply Wp.block | apply Wp.label | ((first | refine Wp.sreg (fun K hK => ?_) | refine Wp.reg (fun K hK => ?_) | refine Wp.sdrw mixed (fun K hK => ?_) | refine Wp.drw mixed (fun K hK => ?_) | refine Wp.condG (fun K hK hF => ?_)); (repeat (revert hK; intro hK; simp (maxSteps := 2000000) (disch := omega) only [RUN, TY, RUNB, aop, ofV, SV.ofD, aLd, aSt, aFd, aIf, aXt, CV.exact, CV.lstOf, CV.one, D.one, Value.oneCell', CV.toD0, oWn, reduceCtorEq, Nat.reduceBEq, Nat.reduceAdd, Nat.reduceLT, Nat.reduceLeDiff, hg, WriteD.dv, e1]; (first | (refine hK _ ?_; clear hK K) | (refine ⟨by kernel_rfl, hK _ ?_⟩; clear hK K) | (refine hK ?_; clear hK hF K) | (refine hF ?_; clear hK hF K) | refine bcf (by assumption) ?_ | refine bca (by assumption) ?_))); fail_if_success (revert hK; intro hK)) | apply Wp.seq))
        simp (maxSteps := 2000000) (disch := omega) only [RUN, TY, RUNB, aLd, CV.toD0, rD0, bQ0, tQ0, kQ0, Nat.reduceBEq, Nat.reduceAdd]
        rw [if_neg (fun q => h30 q.1)]
        rfl
  · have hil : i = ws.length := by simp only [decide_eq_false_iff_not] at h; omega
    subst hil
    rw [List.drop_length]
    (repeat (first | apply Wp.skip | apply Wp.exit | apply Wp.ret | apply Wp.block | apply Wp.label | ((first | refine Wp.sreg (fun K hK => ?_) | refine Wp.reg (fun K hK => ?_) | refine Wp.sdrw mixed (fun K hK => ?_) | refine Wp.drw mixed (fun K hK => ?_) | refine Wp.condG (fun K hK hF => ?_)); (repeat (revert hK; intro hK; simp (maxSteps := 2000000) (disch := omega) only [RUN, TY, RUNB, aop, ofV, aLd, aSt, Nat.reduceBEq, Nat.reduceAdd, Nat.reduceLT]; (first | (refine hK _ ?_; clear hK K) | (refine ⟨by kernel_rfl, hK _ ?_⟩; clear hK K) | (refine hK ?_; clear hK hF K) | (refine hF ?_; clear hK hF K) | refine bcf (by assumption) ?_ | refine bca (by assumption) ?_))); fail_if_success (revert hK; intro hK)) | apply Wp.seq))
    simp (maxSteps := 2000000) (disch := omega) only [RUN, TY, RUNB, aLd, CV.toD0, rD0, bQ0, Nat.reduceBEq, Nat.reduceAdd, fdoF, errV]
end Go.Proofs.YtepcpdionlfkhaaGreatDoor
