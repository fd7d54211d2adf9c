/- Disks, plain: files by name; two operations on unlike files. -/
import Derived.Test.YtepcpdionlfkhaaDoorDkR
namespace Go.Proofs.YtepcpdionlfkhaaDoor
open Go Go.RowKit
set_option linter.unusedVariables false
set_option linter.unusedSimpArgs false
abbrev lookF (fs : List FileD) (nm : List UInt8) : Option FileD := fs.find? (fun f => f.name == nm)
theorem at_idx {α : Type} (p : α → Bool) : ∀ l : List α, l[l.findIdx p]? = l.find? p
  | [] => rfl
  | x :: l => by
    rw [List.findIdx_cons, List.find?_cons]
    cases p x
    · simpa using at_idx p l
    · rfl
theorem look_at {fs : List FileD} {last : List UInt8} (h : okFiles last fs = true) (nm : List UInt8) : lookF fs nm = if isAt fs nm then some (fileAt fs nm) else none := by
  rw [← get_at fs nm h]; exact (at_idx _ _).symm
theorem look_none {fs : List FileD} {last nm : List UInt8} (h : okFiles last fs = true) (hn : nm = last ∨ Op.bytesLess nm last = true) : lookF fs nm = none := by
  refine List.find?_eq_none.2 (fun f hf => ?_)
  have h1 := ok_gt h f hf
  have h2 : Op.bytesLess nm f.name = true := by
    rcases hn with rfl | hn
    · exact h1
    · exact less_trans hn h1
  have := less_ne h2; simp only [beq_eq_false_iff_ne, ne_eq, beq_iff_eq] at this ⊢; exact fun h => this h.symm
theorem look_now (f : FileD) (nm : List UInt8) (fs : List FileD) : lookF (nowF f ++ fs) nm = if f.b ≠ [] ∧ f.name = nm then some f else lookF fs nm := by
  unfold nowF
  by_cases hb : f.b = []
  · simp [hb, lookF]
  · have : (f.b == []) = false := by simpa using hb
    simp only [this, lookF]
    by_cases hn : f.name = nm
    · simp [hn, hb]
    · simp [hn]
theorem with_look {nm a : List UInt8} {f : FileD} (hn : f.name = a) : ∀ {fs : List FileD} {last : List UInt8}, okFiles last fs = true → lookF (withF fs a f) nm = if nm = a then (if f.b = [] then none else some f) else lookF fs nm
  | [], last, _ => by
    rw [with_nil]
    have := look_now f nm []
    rw [List.append_nil] at this
    rw [this]
    by_cases hm : nm = a
    · subst hm; by_cases hb : f.b = [] <;> simp [hb, hn]
    · have : ¬ f.name = nm := by rw [hn]; exact fun h => hm h.symm
      simp [this, hm]
  | g :: fs, last, h => by
    have h' := okF_cons.1 h
    rcases less_tot g.name a with q | q | q
    · rw [with_lt q]
      have ih := with_look (nm := nm) hn h'.2
      by_cases hg : g.name = nm
      · have : ¬ nm = a := by rintro rfl; rw [hg, less_irr] at q; cases q
        simp [lookF, List.find?_cons, hg, this]
      · have e : (g.name == nm) = false := by simpa using hg
        simp only [lookF, List.find?_cons, e]; exact ih
    · rw [with_eq q, look_now]
      by_cases hm : nm = a
      · subst hm
        have := look_none (nm := nm) h'.2 (.inl q.symm)
        by_cases hb : f.b = [] <;> simp [hb, hn, this]
      · have e1 : ¬ f.name = nm := by rw [hn]; exact fun h => hm h.symm
        have e2 : (g.name == nm) = false := by rw [q]; simpa using fun h => hm h.symm
        simp only [e1, and_false, if_false, hm, lookF, List.find?_cons, e2]
    · rw [with_gt q, look_now]
      by_cases hm : nm = a
      · subst hm
        have e2 : (g.name == nm) = false := by have := less_ne q; simp only [beq_eq_false_iff_ne, ne_eq] at this ⊢; exact fun h => this h.symm
        have := look_none (nm := nm) h'.2 (.inr q)
        by_cases hb : f.b = [] <;> simp [hb, hn, lookF, List.find?_cons, e2]
        simpa [lookF] using this
      · have e1 : ¬ f.name = nm := by rw [hn]; exact fun h => hm h.symm
        simp only [e1, and_false, if_false, hm]
end Go.Proofs.YtepcpdionlfkhaaDoor
