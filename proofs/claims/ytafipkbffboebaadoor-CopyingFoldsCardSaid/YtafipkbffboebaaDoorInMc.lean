/- The abstract machine (InH, InI, InJ, InK, InL, InN, InO, InP). -/
import Derived.Test.YtafipkbffboebaaDoorInMb
namespace Go.Proofs.YtafipkbffboebaaDoor
open Go Go.RowKit
set_option maxHeartbeats 4000000
set_option maxRecDepth 100000
set_option linter.unusedVariables false
set_option linter.unusedSimpArgs false
theorem clone_Record (xs : List (List D)) (hl : xs.length ≤ 1000000) : FunA Tryd.prog 23 [.lst 2 xs] 70 2 xs := by
  cases xs with
  | nil =>
    refine FunA.of_nil (fun a c => ?_)
    (refine FunA.of_body Tryd.func23 rfl rfl Tryd.ntmps23 Tryd.results23 (by simp) ?_)
    cases a with
    | none =>
      (repeat (first | refine Wp.skip ?_ | refine Wp.exit ?_ | refine Wp.ret ?_ | refine Wp.block ?_ | refine Wp.label ?_ | ((first | (first | refine Wp.sreg (fun K hK => ?_) | refine Wp.reg (fun K hK => ?_) | refine Wp.sdrw mixed (fun K hK => ?_) | refine Wp.drw mixed (fun K hK => ?_)) | refine Wp.condG (fun K hT hF => ?_)); (refine rO (And.intro @Option.isNone_none.{0} (@Option.isNone_some.{0})) ?_; try (with_reducible exact True.intro)); (first | (refine hK _ ?_; clear hK K) | (refine ⟨by kernel_rfl, hK _ ?_⟩; clear hK K) | (refine hT ?_; clear hT hF K) | (refine hF ?_; clear hT hF K))) | refine Wp.seq ?_))
      (refine rO0 ?_; try (with_reducible exact True.intro))
    | some ad =>
      (repeat (first | refine Wp.skip ?_ | refine Wp.exit ?_ | refine Wp.ret ?_ | refine Wp.block ?_ | refine Wp.label ?_ | ((first | (first | refine Wp.sreg (fun K hK => ?_) | refine Wp.reg (fun K hK => ?_) | refine Wp.sdrw mixed (fun K hK => ?_) | refine Wp.drw mixed (fun K hK => ?_)) | refine Wp.condG (fun K hT hF => ?_)); (refine rO (And.intro @Option.isNone_none.{0} (@Option.isNone_some.{0})) ?_; try (with_reducible exact True.intro)); (first | (refine hK _ ?_; clear hK K) | (refine ⟨by kernel_rfl, hK _ ?_⟩; clear hK K) | (refine hT ?_; clear hT hF K) | (refine hF ?_; clear hT hF K))) | refine Wp.seq ?_))
      (refine rO0 ?_; try (with_reducible exact True.intro))
      exact .inl ⟨0, rfl, rfl⟩
  | cons f fs =>
    have hb : (fs.length + 1) * 32 ≤ 140737488355328 := by simp at hl; omega
    (refine FunA.of_body Tryd.func23 rfl rfl Tryd.ntmps23 Tryd.results23 (by simp) ?_)
    (repeat (first | refine Wp.skip ?_ | refine Wp.exit ?_ | refine Wp.ret ?_ | refine Wp.block ?_ | refine Wp.label ?_ | ((first | (first | refine Wp.sreg (fun K hK => ?_) | refine Wp.reg (fun K hK => ?_) | refine Wp.sdrw mixed (fun K hK => ?_) | refine Wp.drw mixed (fun K hK => ?_)) | refine Wp.condG (fun K hT hF => ?_)); (refine rO (hb) ?_; try (with_reducible exact True.intro)); (first | (refine hK _ ?_; clear hK K) | (refine ⟨by kernel_rfl, hK _ ?_⟩; clear hK K) | (refine hT ?_; clear hT hF K) | (refine hF ?_; clear hT hF K))) | refine Wp.seq ?_))
    (refine rO0 ?_; try (with_reducible exact True.intro))
    exact .inl ⟨0, rfl, rfl⟩
end Go.Proofs.YtafipkbffboebaaDoor
namespace Go.Proofs.YtafipkbffboebaaDoor
open Go Go.RowKit
set_option maxHeartbeats 4000000
set_option maxRecDepth 100000
set_option linter.unusedVariables false
set_option linter.unusedSimpArgs false
theorem openB_spec {l : List OpenD} {pid : Int} (h : openB l pid = true) : ∃ h : openI l pid < l.length, l[openI l pid].pid = pid := by
  unfold openB at h
  cases hq : l[openI l pid]? with
  | none => rw [hq] at h; cases h
  | some o =>
    rw [hq] at h
    obtain ⟨hlt, he⟩ := List.getElem?_eq_some_iff.1 hq
    exact ⟨hlt, by rw [he]; simpa using h⟩
end Go.Proofs.YtafipkbffboebaaDoor
namespace Go.Proofs.YtafipkbffboebaaDoor
open Go Go.RowKit
set_option maxHeartbeats 4000000
set_option maxRecDepth 100000
set_option linter.unusedVariables false
set_option linter.unusedSimpArgs false
theorem CV_ren_id (c : CV) : CV.ren (fun x => x) c = c := by
  have hc : ∀ l : List Cap, l.map (Cap.ren fun x => x) = l := fun l => by
    rw [show (Cap.ren fun x => x) = id from funext fun c => by cases c <;> rfl, List.map_id]
  cases c <;> simp [CV.ren, hc]
theorem CVs_ren_id (l : List CV) : l.map (CV.ren fun x => x) = l := by
  rw [show (CV.ren fun x => x) = id from funext CV_ren_id, List.map_id]
theorem SV_ren_id (c : SV) : SV.ren (fun x => x) c = c := by
  cases c
  · simp [SV.ren, CV_ren_id]
  · simp [SV.ren, CVs_ren_id]
theorem HE_ren_id (h : HE) : HE.ren (fun x => x) h = h := by
  cases h <;> simp [HE.ren, CVs_ren_id]
end Go.Proofs.YtafipkbffboebaaDoor
namespace Go.Proofs.YtafipkbffboebaaDoor
open Go Go.RowKit
set_option maxHeartbeats 8000000
set_option maxRecDepth 100000
set_option linter.unusedVariables false
set_option linter.unusedSimpArgs false
end Go.Proofs.YtafipkbffboebaaDoor
namespace Go.Proofs.YtafipkbffboebaaDoor
open Go Go.RowKit
set_option maxHeartbeats 8000000
set_option maxRecDepth 100000
set_option linter.unusedVariables false
set_option linter.unusedSimpArgs false
theorem openI_ge {l : List OpenD} {pid : Int} (h : openI l pid < l.length) : pid ≤ l[openI l pid].pid := by
  have := List.findIdx_getElem (p := fun x : OpenD => decide (pid ≤ x.pid)) (xs := l) (w := h)
  exact of_decide_eq_true this
theorem openI_lt {l : List OpenD} {pid : Int} {j : Nat} (h : j < openI l pid) : ∃ hj : j < l.length, l[j].pid < pid := by
  have hle := openI_le l pid
  have hj : j < l.length := by omega
  have := List.not_of_lt_findIdx (p := fun x : OpenD => decide (pid ≤ x.pid)) (xs := l) (i := j) h
  exact ⟨hj, by simpa using this⟩
theorem openB_none {l : List OpenD} (hr : l.Pairwise (fun a b => a.pid < b.pid)) {pid : Int} (h : openB l pid = false) : ∀ o ∈ l, o.pid ≠ pid := by
  intro o ho he
  obtain ⟨j, hj, rfl⟩ := List.getElem_of_mem ho
  rcases Nat.lt_trichotomy j (openI l pid) with hlt | heq | hgt
  · obtain ⟨_, h1⟩ := openI_lt hlt; omega
  · have : openB l pid = true := by
      unfold openB
      rw [← heq, List.getElem?_eq_getElem hj]; simpa using he
    rw [h] at this; cases this
  · have hi : openI l pid < l.length := by omega
    have h1 := openI_ge hi
    have h2 := List.pairwise_iff_getElem.1 hr (openI l pid) j hi hj hgt
    omega
theorem OpOk.ins {l : List OpenD} (h : OpOk l) {pid : Int} (hb : openB l pid = false) (hp : 1 ≤ pid ∧ pid ≤ 8) (ep : Int) (bs : List BatD) : OpOk (l.take (openI l pid) ++ ⟨pid, ep, bs⟩ :: l.drop (openI l pid)) := by
  refine ⟨h.pid.ins _ hp, ?_⟩
  have hr := h.rise
  have hno := openB_none hr hb
  have hr2 := hr
  rw [← List.take_append_drop (openI l pid) l, List.pairwise_append] at hr2
  obtain ⟨h1, h2, h3⟩ := hr2
  rw [List.pairwise_append]
  refine ⟨h1, List.pairwise_cons.2 ⟨fun x hx => ?_, h2⟩, fun a ha x hx => ?_⟩
  · show pid < x.pid
    obtain ⟨k, hk, rfl⟩ := List.getElem_of_mem hx
    rw [List.getElem_drop]
    have hk' : openI l pid + k < l.length := by rw [List.length_drop] at hk; omega
    have hi : openI l pid < l.length := by omega
    have g1 := openI_ge hi
    have g2 := hno _ (List.getElem_mem hi)
    rcases Nat.eq_zero_or_pos k with rfl | h0
    · show pid < l[openI l pid + 0].pid
      simp only [Nat.add_zero]; omega
    · have := List.pairwise_iff_getElem.1 hr (openI l pid) (openI l pid + k) hi hk' (by omega)
      omega
  · obtain ⟨k, hk, rfl⟩ := List.mem_take_iff_getElem.1 ha
    obtain ⟨hj, g1⟩ := openI_lt (l := l) (pid := pid) (j := k) (by omega)
    rcases List.mem_cons.1 hx with rfl | hx
    · exact g1
    · exact h3 _ ha x hx
end Go.Proofs.YtafipkbffboebaaDoor
namespace Go.Proofs.YtafipkbffboebaaDoor
open Go Go.RowKit
set_option maxHeartbeats 8000000
set_option maxRecDepth 100000
set_option linter.unusedVariables false
set_option linter.unusedSimpArgs false
def sumR : List BatD → Nat
  | [] => 0
  | b :: l => b.recs.length + sumR l
theorem sumR_app : ∀ (a b : List BatD), sumR (a ++ b) = sumR a + sumR b
  | [], b => by simp [sumR]
  | x :: a, b => by simp [sumR, sumR_app a b]; omega
end Go.Proofs.YtafipkbffboebaaDoor
namespace Go.Proofs.YtafipkbffboebaaDoor
open Go Go.RowKit
set_option maxHeartbeats 8000000
set_option maxRecDepth 100000
set_option linter.unusedVariables false
set_option linter.unusedSimpArgs false
end Go.Proofs.YtafipkbffboebaaDoor
namespace Go.Proofs.YtafipkbffboebaaDoor
open Go Go.RowKit
set_option maxHeartbeats 8000000
set_option maxRecDepth 100000
set_option linter.unusedVariables false
set_option linter.unusedSimpArgs false
end Go.Proofs.YtafipkbffboebaaDoor
