/- The abstract machine (InT, InU, InV, InW, InWb, InWc). -/
import Derived.Test.YtafipkbffboebaaDoorInMd
import Derived.Test.YtafipkbffboebaaDoorMpK
namespace Go.Proofs.YtafipkbffboebaaDoor
open Go Go.RowKit
set_option maxHeartbeats 4000000
set_option maxRecDepth 100000
set_option linter.unusedVariables false
set_option linter.unusedSimpArgs false
end Go.Proofs.YtafipkbffboebaaDoor
namespace Go.Proofs.YtafipkbffboebaaDoor
open Go Go.RowKit
set_option maxHeartbeats 8000000
set_option maxRecDepth 100000
set_option linter.unusedVariables false
set_option linter.unusedSimpArgs false
def s0 : FoldS := ⟨⟨0, 0, [], [], []⟩, 0, 0, fun _ => 0⟩
abbrev nilC : CV := .d (.val (.slice none 0 0))
end Go.Proofs.YtafipkbffboebaaDoor
namespace Go.Proofs.YtafipkbffboebaaDoor
open Go Go.RowKit
set_option maxHeartbeats 8000000
set_option maxRecDepth 100000
set_option linter.unusedVariables false
set_option linter.unusedSimpArgs false
theorem Wp.weakE {P : Program} {c : Code} {σ : St} {Q : Exit → St → Prop} {R : Hp → Prop} (h : ∃ H', Weak σ { σ with H := H' } ∧ R H') (h2 : ∀ H', R H' → Wp P c { σ with H := H' } Q) : Wp P c σ Q := by
  obtain ⟨H', w, hr⟩ := h
  exact Wp.weak w (h2 H' hr)
end Go.Proofs.YtafipkbffboebaaDoor
namespace Go.Proofs.YtafipkbffboebaaDoor
open Go Go.RowKit
set_option maxHeartbeats 4000000
set_option maxRecDepth 100000
set_option linter.unusedVariables false
set_option linter.unusedSimpArgs false
/-- What holds of a part that k entries made. -/
structure FOk (k : Nat) (p : PartD) : Prop where
  ok : OpOk p.opens
  fin : 0 ≤ p.fin ∧ p.fin ≤ 1048576
  rows : p.rows.length ≤ 40 * k
  prods : p.prods.length ≤ k
  seen : ∀ x ∈ p.prods, x.seen.length ≤ 100
  opens : p.opens.length ≤ k
  bats : ∀ o ∈ p.opens, o.bats.length ≤ 8
  recs : ∀ o ∈ p.opens, ∀ b ∈ o.bats, b.recs.length ≤ 4
theorem FOk.small {k : Nat} {p : PartD} (h : FOk k p) (hk : k ≤ 20000) : SmallL p.prods := ⟨by have := h.prods; omega, fun x hx => by have := h.seen x hx; omega⟩
theorem sumR_bound : ∀ (l : List BatD), (∀ b ∈ l, b.recs.length ≤ 4) → sumR l ≤ 4 * l.length
  | [], _ => by simp [sumR]
  | b :: l, h => by
    have h1 := h b (List.mem_cons_self ..)
    have h2 := sumR_bound l (fun x hx => h x (List.mem_cons_of_mem _ hx))
    simp only [sumR, List.length_cons]; omega
theorem takeF_fine (l : List ProdD) (b : BatD) (base : Int) (h1 : (checkF l b).2.2 = 0) (h2 : (checkF l b).2.1 = false) (hb : -1 ≤ base ∧ base ≤ 1048576) : (takeF l b base).2 = 0 := by
  unfold takeF
  rw [show (decide (base < -1) || decide (1048576 < base)) = false by simp; omega]
  simp [h1, h2]
theorem openB_get {l : List OpenD} {pid : Int} (h : openB l pid = true) : ∃ o, l[openI l pid]? = some o ∧ o.pid = pid := by
  obtain ⟨hlt, hp⟩ := openB_spec h
  exact ⟨_, List.getElem?_eq_getElem hlt, hp⟩
theorem batB_pid {b : BatD} (h : batB b = true) : (1 ≤ b.pid ∧ b.pid ≤ 8) ∧ b.recs.length ≤ 4 := by
  unfold batB at h
  simp only [Bool.and_eq_true, Bool.not_eq_true', Bool.or_eq_false_iff, decide_eq_false_iff_not] at h
  omega
end Go.Proofs.YtafipkbffboebaaDoor
namespace Go.Proofs.YtafipkbffboebaaDoor
open Go Go.RowKit
set_option maxHeartbeats 4000000
set_option maxRecDepth 100000
set_option linter.unusedVariables false
set_option linter.unusedSimpArgs false
theorem setF_mem' {l : List ProdD} {p x : ProdD} (h : x ∈ setF l p) : x ∈ l ∨ x = p := by
  unfold setF at h
  rcases List.mem_append.1 h with h | h
  · rcases List.mem_append.1 h with h | h
    · exact .inl (List.mem_of_mem_take h)
    · exact .inr (by simpa using h)
  · exact .inl (List.mem_of_mem_drop h)
theorem setF_len' (l : List ProdD) (p : ProdD) : (setF l p).length ≤ l.length + 1 := by
  unfold setF
  have := placeI_le l p.pid
  rw [List.length_append, List.length_append, List.length_take, List.length_drop]
  simp only [List.length_cons, List.length_nil]
  split <;> omega
theorem keepF_len (pr : RowD → Bool) (l : List RowD) : (keepF pr l).length ≤ l.length := List.length_filter_le ..
theorem rows_len' (b : BatD) (n : Int) : (rowsF b n).length = b.recs.length := rowsT_len _ _ _
theorem newS_len' (l : List ProdD) (b : BatD) (base : Int) : (newS l b base).length ≤ 3 := by
  unfold newS
  rw [List.length_drop, List.length_append]
  simp only [List.length_cons, List.length_nil]
  omega
theorem take_prods {k : Nat} {l : List ProdD} (b : BatD) (base : Int) (hl : l.length ≤ k) (hs : ∀ x ∈ l, x.seen.length ≤ 100) : (takeF l b base).1.length ≤ k + 1 ∧ ∀ x ∈ (takeF l b base).1, x.seen.length ≤ 100 := by
  unfold takeF
  split
  · exact ⟨by simp, fun x hx => by simp at hx⟩
  split
  · exact ⟨by simp, fun x hx => by simp at hx⟩
  split
  · exact ⟨by simp, fun x hx => by simp at hx⟩
  · refine ⟨by have := setF_len' l ⟨b.pid, b.epoch, behF b, newS l b base⟩; simp only; omega, fun x hx => ?_⟩
    rcases setF_mem' hx with h | h
    · exact hs x h
    · subst h
      have := newS_len' l b base
      simp only; omega
theorem FOk.mono {k : Nat} {p : PartD} (h : FOk k p) : FOk (k + 1) p := ⟨h.ok, h.fin, by have := h.rows; omega, by have := h.prods; omega, h.seen, by have := h.opens; omega, h.bats, h.recs⟩
theorem OpOk.set {l : List OpenD} (h : OpOk l) {i : Nat} {o : OpenD} (hi : l[i]? = some o) (x : OpenD) (hx : x.pid = o.pid) : OpOk (l.set i x) := by
  obtain ⟨hlt, hoe⟩ := List.getElem?_eq_some_iff.1 hi
  have hmem : o ∈ l := hoe ▸ List.getElem_mem hlt
  refine ⟨fun y hy => ?_, ?_⟩
  · rcases List.mem_or_eq_of_mem_set hy with h1 | rfl
    · exact h.pid y h1
    · rw [hx]; exact h.pid o hmem
  · have hr := h.rise
    rw [List.pairwise_iff_getElem] at hr ⊢
    intro a b ha hb hab
    rw [List.length_set] at ha hb
    have h1 := hr a b ha hb hab
    have e : ∀ (j : Nat) (hj : j < (l.set i x).length) (hj' : j < l.length), (l.set i x)[j].pid = l[j].pid := fun j hj hj' => by
      rw [List.getElem_set]
      split
      · rename_i hij; subst hij; rw [hx, hoe]
      · rfl
    rw [e a (by rw [List.length_set]; exact ha) ha, e b (by rw [List.length_set]; exact hb) hb]
    exact h1
theorem knownB_seen {p : ProdD} (h : knownB p = true) : p.seen.length ≤ 3 := by
  unfold knownB at h
  rw [Bool.and_eq_true] at h
  have h1 := h.1
  unfold headBad at h1
  simp only [Bool.not_eq_true', Bool.or_eq_false_iff, decide_eq_false_iff_not] at h1
  omega
def pZ : PartD := ⟨0, 0, [], [], []⟩
end Go.Proofs.YtafipkbffboebaaDoor
namespace Go.Proofs.YtafipkbffboebaaDoor
open Go Go.RowKit
set_option maxHeartbeats 4000000
set_option maxRecDepth 100000
set_option linter.unusedVariables false
set_option linter.unusedSimpArgs false
end Go.Proofs.YtafipkbffboebaaDoor
