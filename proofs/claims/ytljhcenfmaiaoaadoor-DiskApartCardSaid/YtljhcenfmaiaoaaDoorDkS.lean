/- Disks, plain: files by name; two operations on unlike files. -/
import Derived.Test.YtljhcenfmaiaoaaDoorDkR
namespace Go.Proofs.YtljhcenfmaiaoaaDoor
open Go Go.RowKit
set_option linter.unusedVariables false
set_option linter.unusedSimpArgs false
abbrev lookF (fs : List FileD) (nm : List UInt8) : Option FileD := fs.find? (fun f => f.name == nm)
theorem at_idx {α : Type} (p : α → Bool) : ∀ l : List α, l[l.findIdx p]? = l.find? p
  | [] => rfl
  | x :: l => by
    rw [List.findIdx_cons, List.find?_cons]
    cases p x
    · simpa using at_idx p l
    · rfl
theorem look_at {fs : List FileD} {last : List UInt8} (h : okFiles last fs = true) (nm : List UInt8) : lookF fs nm = if isAt fs nm then some (fileAt fs nm) else none := by
  rw [← get_at fs nm h]; exact (at_idx _ _).symm
theorem look_none {fs : List FileD} {last nm : List UInt8} (h : okFiles last fs = true) (hn : nm = last ∨ Op.bytesLess nm last = true) : lookF fs nm = none := by
  refine List.find?_eq_none.2 (fun f hf => ?_)
  have h1 := ok_gt h f hf
  have h2 : Op.bytesLess nm f.name = true := by
    rcases hn with rfl | hn
    · exact h1
    · exact less_trans hn h1
  have := less_ne h2; simp only [beq_eq_false_iff_ne, ne_eq, beq_iff_eq] at this ⊢; exact fun h => this h.symm
theorem look_now (f : FileD) (nm : List UInt8) (fs : List FileD) : lookF (nowF f ++ fs) nm = if f.b ≠ [] ∧ f.name = nm then some f else lookF fs nm := by
  unfold nowF
  by_cases hb : f.b = []
  · simp [hb, lookF]
  · have : (f.b == []) = false := by simpa using hb
    simp only [this, lookF]
    by_cases hn : f.name = nm
    · simp [hn, hb]
    · simp [hn]
theorem with_look {nm a : List UInt8} {f : FileD} (hn : f.name = a) : ∀ {fs : List FileD} {last : List UInt8}, okFiles last fs = true → lookF (withF fs a f) nm = if nm = a then (if f.b = [] then none else some f) else lookF fs nm
  | [], last, _ => by
    rw [with_nil]
    have := look_now f nm []
    rw [List.append_nil] at this
    rw [this]
    by_cases hm : nm = a
    · subst hm; by_cases hb : f.b = [] <;> simp [hb, hn]
    · have : ¬ f.name = nm := by rw [hn]; exact fun h => hm h.symm
      simp [this, hm]
  | g :: fs, last, h => by
    have h' := okF_cons.1 h
    rcases less_tot g.name a with q | q | q
    · rw [with_lt q]
      have ih := with_look (nm := nm) hn h'.2
      by_cases hg : g.name = nm
      · have : ¬ nm = a := by rintro rfl; rw [hg, less_irr] at q; cases q
        simp [lookF, List.find?_cons, hg, this]
      · have e : (g.name == nm) = false := by simpa using hg
        simp only [lookF, List.find?_cons, e]; exact ih
    · rw [with_eq q, look_now]
      by_cases hm : nm = a
      · subst hm
        have := look_none (nm := nm) h'.2 (.inl q.symm)
        by_cases hb : f.b = [] <;> simp [hb, hn, this]
      · have e1 : ¬ f.name = nm := by rw [hn]; exact fun h => hm h.symm
        have e2 : (g.name == nm) = false := by rw [q]; simpa using fun h => hm h.symm
        simp only [e1, and_false, if_false, hm, lookF, List.find?_cons, e2]
    · rw [with_gt q, look_now]
      by_cases hm : nm = a
      · subst hm
        have e2 : (g.name == nm) = false := by have := less_ne q; simp only [beq_eq_false_iff_ne, ne_eq] at this ⊢; exact fun h => this h.symm
        have := look_none (nm := nm) h'.2 (.inr q)
        by_cases hb : f.b = [] <;> simp [hb, hn, lookF, List.find?_cons, e2]
        simpa [lookF] using this
      · have e1 : ¬ f.name = nm := by rw [hn]; exact fun h => hm h.symm
        simp only [e1, and_false, if_false, hm]
theorem look_ext : ∀ {fs gs : List FileD} {last : List UInt8}, okFiles last fs = true → okFiles last gs = true → (∀ nm, lookF fs nm = lookF gs nm) → fs = gs
  | [], [], _, _, _, _ => rfl
  | [], g :: gs, _, _, _, h => by have := h g.name; simp [lookF] at this
  | f :: fs, [], _, _, _, h => by have := h f.name; simp [lookF] at this
  | f :: fs, g :: gs, last, h1, h2, h => by
    have h1' := okF_cons.1 h1
    have h2' := okF_cons.1 h2
    have hfg : f.name = g.name := by
      rcases less_tot f.name g.name with q | q | q
      · have e := h f.name
        have e2 : (g.name == f.name) = false := by have := less_ne q; simp only [beq_eq_false_iff_ne, ne_eq] at this ⊢; exact fun h => this h.symm
        have := look_none (nm := f.name) h2'.2 (.inr q)
        simp only [lookF, List.find?_cons, beq_self_eq_true, e2] at e this
        rw [this] at e; cases e
      · exact q
      · have e := h g.name
        have e2 : (f.name == g.name) = false := by have := less_ne q; simp only [beq_eq_false_iff_ne, ne_eq] at this ⊢; exact fun h => this h.symm
        have := look_none (nm := g.name) h1'.2 (.inr q)
        simp only [lookF, List.find?_cons, beq_self_eq_true, e2] at e this
        rw [this] at e; cases e
    have e : f = g := by
      have := h f.name
      simp only [lookF, List.find?_cons, beq_self_eq_true, ← hfg, Option.some.injEq] at this; exact this
    subst e
    rw [look_ext h1'.2 h2'.2 (fun nm => ?_)]
    by_cases hn : f.name = nm
    · rw [look_none h1'.2 (.inl hn.symm), look_none h2'.2 (.inl hn.symm)]
    · have := h nm
      have e : (f.name == nm) = false := by simpa using hn
      simpa only [lookF, List.find?_cons, e] using this
theorem with_comm {fs : List FileD} {a b : List UInt8} {f g : FileD} (h : okFiles [] fs = true) (ha : nameB a = true) (hb : nameB b = true) (hf : f.name = a) (hg : g.name = b) (of : f.b ≠ [] → fileOk f) (og : g.b ≠ [] → fileOk g) (hab : a ≠ b) : withF (withF fs a f) b g = withF (withF fs b g) a f := by
  have h1 := ok_with hf of h (nil_less ha)
  have h2 := ok_with hg og h (nil_less hb)
  refine look_ext (ok_with hg og h1 (nil_less hb)) (ok_with hf of h2 (nil_less ha)) (fun nm => ?_)
  rw [with_look hg h1, with_look hf h, with_look hf h2, with_look hg h]
  by_cases e1 : nm = a
  · subst e1; simp [hab]
  · simp [e1]
theorem at_with {fs : List FileD} {a b : List UInt8} {f : FileD} (h : okFiles [] fs = true) (ha : nameB a = true) (hf : f.name = a) (of : f.b ≠ [] → fileOk f) (hab : b ≠ a) : isAt (withF fs a f) b = isAt fs b ∧ fileAt (withF fs a f) b = fileAt fs b := by
  have h1 := ok_with hf of h (nil_less ha)
  have e1 := look_at h1 b
  have e2 := look_at h b
  rw [with_look hf h, if_neg hab, e2] at e1
  cases i1 : isAt fs b <;> cases i2 : isAt (withF fs a f) b <;> simp [i1, i2] at e1
  · exact ⟨rfl, by rw [isAt_no i1, isAt_no i2]⟩
  · exact ⟨rfl, e1.symm⟩
end Go.Proofs.YtljhcenfmaiaoaaDoor
