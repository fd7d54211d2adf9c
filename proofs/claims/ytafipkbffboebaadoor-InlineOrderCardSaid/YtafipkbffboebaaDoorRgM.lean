/- The abstract machine (RgA, RgB, RgC, RgD, PlA). -/
import Derived.Test.YtafipkbffboebaaDoorInMe
import Derived.Test.YtafipkbffboebaaDoorSqG
import Derived.Test.YtafipkbffboebaaDoorSqN
namespace Go.Proofs.YtafipkbffboebaaDoor
open Go Go.RowKit
set_option maxHeartbeats 4000000
set_option maxRecDepth 100000
set_option linter.unusedVariables false
set_option linter.unusedSimpArgs false
end Go.Proofs.YtafipkbffboebaaDoor
namespace Go.Proofs.YtafipkbffboebaaDoor
open Go Go.RowKit
set_option maxHeartbeats 4000000
set_option maxRecDepth 100000
set_option linter.unusedVariables false
set_option linter.unusedSimpArgs false
end Go.Proofs.YtafipkbffboebaaDoor
namespace Go.Proofs.YtafipkbffboebaaDoor
open Go Go.RowKit
set_option maxHeartbeats 4000000
set_option maxRecDepth 100000
set_option linter.unusedVariables false
set_option linter.unusedSimpArgs false
end Go.Proofs.YtafipkbffboebaaDoor
namespace Go.Proofs.YtafipkbffboebaaDoor
open Go Go.RowKit
set_option maxHeartbeats 4000000
set_option maxRecDepth 100000
set_option linter.unusedVariables false
set_option linter.unusedSimpArgs false
end Go.Proofs.YtafipkbffboebaaDoor
namespace Go.Proofs.YtafipkbffboebaaDoor
open Go Go.RowKit
set_option maxHeartbeats 4000000
set_option maxRecDepth 100000
set_option linter.unusedVariables false
set_option linter.unusedSimpArgs false
/-- Without what is seen. -/
def clrP (pid : Int) : List ProdD → List ProdD
  | [] => []
  | x :: l => if x.pid = pid then ⟨x.pid, x.epoch, x.next, []⟩ :: l else x :: clrP pid l
theorem clearF_clrP (pid : Int) : ∀ l : List ProdD, clearF l pid = clrP pid l
  | [] => by simp [clearF, clrP]
  | x :: l => by
    have ih := clearF_clrP pid l
    by_cases h : x.pid = pid
    · have h' : (x.pid == pid) = true := by simpa using h
      simp [clearF, clrP, List.findIdx_cons, h', h]
    · have h' : (x.pid == pid) = false := by simpa using h
      simp only [clrP, h, if_false, ← ih]
      simp only [clearF, List.findIdx_cons, h', cond_false, List.getElem?_cons_succ]
      split <;> simp
theorem known_clr {p : ProdD} (h : knownB p = true) : knownB ⟨p.pid, p.epoch, p.next, []⟩ = true := by
  unfold knownB at h ⊢
  rw [Bool.and_eq_true] at h ⊢
  refine ⟨?_, rfl⟩
  have h1 := h.1
  unfold headBad at h1 ⊢
  simp only [Bool.not_eq_true', Bool.or_eq_false_iff] at h1 ⊢
  exact ⟨h1.1, by simp⟩
theorem mayR_clr (pid : Int) : ∀ (l : List ProdD) (b : Int), mayR l b = true → mayR (clrP pid l) b = true
  | [], _, _ => rfl
  | x :: l, b, h => by
    rw [mayR, Bool.and_eq_true] at h
    unfold clrP
    split
    · rw [mayR, Bool.and_eq_true]
      refine ⟨?_, h.2⟩
      have h1 := h.1
      simp only [Bool.not_eq_true', Bool.or_eq_false_iff, Bool.not_eq_false'] at h1 ⊢
      exact ⟨h1.1, known_clr h1.2⟩
    · rw [mayR, h.1, mayR_clr pid l x.pid h.2]; rfl
theorem may_clear {l : List ProdD} (pid : Int) (h : mayL l = true) : mayL (clearF l pid) = true := by
  rw [clearF_clrP]; exact mayR_clr pid l 0 h
theorem take_may {l : List ProdD} {b : BatD} {base : Int} (h : (takeF l b base).2 = 0) : mayL (takeF l b base).1 = true := by
  obtain ⟨a1, a2, a3, a4⟩ := takeF_ok h
  rw [a4]
  exact may_set (checkF_may a2).1 (known_new a1 a2 a3)
theorem takeF_iff (l : List ProdD) (b : BatD) (base : Int) (hb : -1 ≤ base ∧ base ≤ 1048576) : (takeF l b base).2 = 0 ↔ (checkF l b).2.2 = 0 ∧ (checkF l b).2.1 = false :=
  ⟨fun h => ⟨(takeF_ok h).2.1, (takeF_ok h).2.2.1⟩, fun h => takeF_fine l b base h.1 h.2 hb⟩
theorem kind_known {e : EntD} (ho : okKind e = true) (h6 : e.kind = 6) : knownB e.prod = true := by
  simp only [okKind, Bool.and_eq_true, decide_eq_true_eq] at ho
  have hm2 := ho.2
  unfold mayI at hm2
  rw [if_neg (by omega), if_neg (by omega), if_neg (by omega), if_neg (by omega), if_neg (by omega), if_neg (by omega), Bool.and_eq_true] at hm2
  exact hm2.1
theorem step_may {p p' : PartD} {e : EntD} (hf : 0 ≤ p.fin ∧ p.fin ≤ 1048576) (hm : mayL p.prods = true) (h : stepP p e = some p') : mayL p'.prods = true := by
  unfold stepP at h
  cases ho : okKind e with
  | false => rw [ho, if_pos rfl] at h; cases h
  | true =>
    rw [ho, if_neg (by simp)] at h
    split at h
    · unfold dataP at h
      split at h
      · cases h
      rename_i hc
      have hy : (checkF p.prods e.b).2.2 = 0 ∧ (checkF p.prods e.b).2.1 = false := by
        refine ⟨Decidable.not_not.1 (fun h => hc (.inl h)), ?_⟩
        cases h : (checkF p.prods e.b).2.1 with
        | false => rfl
        | true => exact absurd (.inr h) hc
      have n1 := take_may ((takeF_iff p.prods e.b (-1) (by omega)).2 hy)
      have n2 := take_may ((takeF_iff p.prods e.b p.fin (by omega)).2 hy)
      split at h
      · split at h
        · cases h
        · cases h; exact n1
      · split at h
        · split at h
          · cases h
          · cases h; exact n2
        · cases h; exact n1
    split at h
    · unfold markP at h
      split at h
      · rename_i o _ _
        obtain ⟨L, hL⟩ : ∃ L, L = (if e.yes = true then o.bats else []) := ⟨_, rfl⟩
        rw [← hL] at h
        split at h
        · cases h
        split at h
        · cases h
        · cases h; exact may_clear _ hm
      · cases h
    split at h
    · split at h
      · cases h
      · cases h; exact hm
    split at h
    · cases h
    split at h
    · cases h
    split at h
    · split at h
      · cases h
      · cases h; exact hm
    · split at h
      · cases h
      · cases h
        simp only [okKind, Bool.and_eq_true, decide_eq_true_eq] at ho
        exact may_set hm (kind_known (by simp [okKind]; exact ⟨⟨by omega, by omega⟩, ho.2⟩) (by omega))
/-- What holds of a part that k entries made. -/
structure FOkM (k : Nat) (p : PartD) : Prop extends FOk k p where
  may : mayL p.prods = true
theorem step_okM {k : Nat} {p p' : PartD} {e : EntD} (h : FOkM k p) (hm : stepP p e = some p') : FOkM (k + 1) p' := ⟨step_ok h.toFOk hm, step_may h.fin h.may hm⟩
theorem fokM0 : FOkM 0 pZ := ⟨fok0, rfl⟩
theorem fold_okM : ∀ (l : List EntD) (k : Nat) (p p' : PartD), FOkM k p → foldP p l = some p' → FOkM (k + l.length) p'
  | [], k, p, p', h, hm => by cases hm; exact h
  | e :: l, k, p, p', h, hm => by
    unfold foldP at hm
    split at hm
    · rename_i q hq
      have := fold_okM l (k + 1) q p' (step_okM h hq) hm
      rw [List.length_cons, show k + (l.length + 1) = k + 1 + l.length by omega]
      exact this
    · cases hm
end Go.Proofs.YtafipkbffboebaaDoor
