/- The abstract machine (PlB, PlC, PlD, PlE). -/
import Derived.Test.YtafipkbffboebaaDoorRgM
namespace Go.Proofs.YtafipkbffboebaaDoor
open Go Go.RowKit
set_option maxHeartbeats 4000000
set_option maxRecDepth 100000
set_option linter.unusedVariables false
set_option linter.unusedSimpArgs false
def newP (l : List ProdD) (b : BatD) (base : Int) : ProdD := ⟨b.pid, b.epoch, behF b, newS l b base⟩
structure OkT (l : List ProdD) (b : BatD) : Prop where
  err : (checkF l b).2.2 = 0
  dup : (checkF l b).2.1 = false
theorem OkT.val {l : List ProdD} {b : BatD} (h : OkT l b) (base : Int) (hb : -1 ≤ base ∧ base ≤ 1048576) : (takeF l b base).1 = setF l (newP l b base) :=
  (takeF_ok ((takeF_iff l b base hb).2 ⟨h.err, h.dup⟩)).2.2.2
theorem OkT.known {l : List ProdD} {b : BatD} (h : OkT l b) (base : Int) (hb : -1 ≤ base ∧ base ≤ 1048576) : knownB (newP l b base) = true :=
  known_new (by simp only [Bool.or_eq_false_iff, decide_eq_false_iff_not]; omega) h.err h.dup
theorem OkT.not {l : List ProdD} {b : BatD} : ((checkF l b).2.2 ≠ 0 ∨ (checkF l b).2.1 = true) ↔ ¬ OkT l b := by
  constructor
  · rintro (h | h) h2
    · exact h h2.err
    · rw [h2.dup] at h; cases h
  · intro h
    by_cases h1 : (checkF l b).2.2 = 0
    · right
      cases h2 : (checkF l b).2.1 with
      | true => rfl
      | false => exact absurd ⟨h1, h2⟩ h
    · exact .inl h1
end Go.Proofs.YtafipkbffboebaaDoor
namespace Go.Proofs.YtafipkbffboebaaDoor
open Go Go.RowKit
set_option maxHeartbeats 4000000
set_option maxRecDepth 100000
set_option linter.unusedVariables false
set_option linter.unusedSimpArgs false
end Go.Proofs.YtafipkbffboebaaDoor
namespace Go.Proofs.YtafipkbffboebaaDoor
open Go Go.RowKit
set_option maxHeartbeats 4000000
set_option maxRecDepth 100000
set_option linter.unusedVariables false
set_option linter.unusedSimpArgs false
theorem chk_lt : ∀ (l : List SeenD) (b : Int), chkR l b = true → ∀ s ∈ l, s.seq < b
  | [], _, _, s, h => by simp at h
  | x :: l, b, h, s, hs => by
    rw [chkR, Bool.and_eq_true] at h
    have h1 := h.1
    simp only [badS, bad1, bad2, Bool.not_eq_true', Bool.or_eq_false_iff, decide_eq_false_iff_not] at h1
    rcases List.mem_cons.1 hs with rfl | hs
    · omega
    · have := chk_lt l x.seq h.2 s hs
      omega
theorem known_lt {p : ProdD} (h : knownB p = true) : ∀ s ∈ p.seen, s.seq < p.next := fun s hs => by
  unfold knownB at h
  rw [Bool.and_eq_true] at h
  exact chk_lt _ _ h.2 s (List.mem_reverse.2 hs)
end Go.Proofs.YtafipkbffboebaaDoor
namespace Go.Proofs.YtafipkbffboebaaDoor
open Go Go.RowKit
set_option maxHeartbeats 4000000
set_option maxRecDepth 100000
set_option linter.unusedVariables false
set_option linter.unusedSimpArgs false
def batE (b : BatD) : EntD := ⟨0, b, false, 0, 0, rowZ, prodZ⟩
theorem okKind_bat {b : BatD} (h : batB b = true) : okKind (batE b) = true := by
  simp [okKind, mayI, batE, h, zE, batZ]
/-- When a batch is taken. -/
theorem okT_of {l : List ProdD} {b : BatD} {q : ProdD} (hm : mayL l = true) (hb : batB b = true) (hf : findF l b.pid = (q, true)) (he : q.epoch = b.epoch) (hn : b.seq = q.next) : OkT l b ∧ oldS l b = q.seen := by
  have hk := may_known hm q (findF_mem hf)
  have hno : q.seen.find? (sameS b) = none := by
    rw [List.find?_eq_none]
    intro s hs
    have := known_lt hk s hs
    simp only [sameS, Bool.and_eq_true, beq_iff_eq, not_and]
    intro h; omega
  have heff : effP l b = q := by unfold effP; rw [hf]; simp [he]
  have hc : checkF l b = (-1, false, 0) := by
    unfold checkF judgeF
    rw [hm, hb, hf, heff]
    simp only [Bool.not_true, Bool.or_self, Bool.false_eq_true, if_false, Bool.true_and]
    rw [if_neg (by simp [he])]
    unfold dupF
    rw [hno]
    simp [hn]
  refine ⟨⟨by rw [hc], by rw [hc]⟩, ?_⟩
  unfold oldS; rw [hf]; simp [he]
end Go.Proofs.YtafipkbffboebaaDoor
