/- Disks, plain: the order of names, finding a file, a disk with a file put. -/
import Derived.Test.YtepcpdionlfkhaaGreatDoorDkI
namespace Go.Proofs.YtepcpdionlfkhaaGreatDoor
open Go Go.RowKit
set_option linter.unusedVariables false
set_option linter.unusedSimpArgs false
theorem less_irr : ∀ a : List UInt8, Op.bytesLess a a = false
  | [] => rfl
  | a :: x => by simp [Op.bytesLess, less_irr x]
theorem less_trans : ∀ {a b c : List UInt8}, Op.bytesLess a b = true → Op.bytesLess b c = true → Op.bytesLess a c = true
  | _, [], _, h, _ => by simp [Op.bytesLess] at h
  | _, _ :: _, [], _, h => by simp [Op.bytesLess] at h
  | [], _ :: _, _ :: _, _, _ => by simp [Op.bytesLess]
  | a :: x, b :: y, c :: z, h1, h2 => by
    simp only [Op.bytesLess, Bool.or_eq_true, Bool.and_eq_true, decide_eq_true_eq, beq_iff_eq, UInt8.lt_iff_toNat_lt, ← UInt8.toNat_inj] at *
    rcases h1 with h1 | ⟨h1, h1'⟩ <;> rcases h2 with h2 | ⟨h2, h2'⟩
    · left; omega
    · left; omega
    · left; omega
    · right; exact ⟨by omega, less_trans h1' h2'⟩
theorem less_tot : ∀ a b : List UInt8, Op.bytesLess a b = true ∨ a = b ∨ Op.bytesLess b a = true
  | [], [] => by simp
  | [], _ :: _ => by simp [Op.bytesLess]
  | _ :: _, [] => by simp [Op.bytesLess]
  | a :: x, b :: y => by
    have ih := less_tot x y
    simp only [Op.bytesLess, Bool.or_eq_true, Bool.and_eq_true, decide_eq_true_eq, beq_iff_eq, UInt8.lt_iff_toNat_lt, ← UInt8.toNat_inj, List.cons.injEq]
    rcases Nat.lt_trichotomy a.toNat b.toNat with h | h | h
    · left; left; exact h
    · rcases ih with ih | ih | ih
      · left; right; exact ⟨h, ih⟩
      · right; left; exact ⟨h, ih⟩
      · right; right; right; exact ⟨h.symm, ih⟩
    · right; right; left; exact h
theorem less_asym {a b : List UInt8} (h : Op.bytesLess a b = true) : Op.bytesLess b a = false := by
  cases h2 : Op.bytesLess b a with
  | false => rfl
  | true => have := less_trans h h2; rw [less_irr] at this; cases this
theorem less_ne {a b : List UInt8} (h : Op.bytesLess a b = true) : (a == b) = false := by
  cases h2 : (a == b) with
  | false => rfl
  | true => have : a = b := by simpa using h2
            subst this; rw [less_irr] at h; cases h
theorem ok_cons {last : List UInt8} {f : FileD} {fs : List FileD} (h : okFiles last (f :: fs) = true) : Op.bytesLess last f.name = true ∧ f.b ≠ [] ∧ okFiles f.name fs = true := by
  simp only [okFiles, Bool.and_eq_true, Bool.not_eq_true', badF, Bool.or_eq_false_iff, decide_eq_false_iff_not, Bool.not_eq_false'] at h
  obtain ⟨⟨⟨⟨⟨h1, h2, h2'⟩, h3⟩, h4⟩, h5⟩, h6⟩ := h
  refine ⟨?_, by simpa using h3, h6⟩
  rcases less_tot last f.name with q | q | q
  · exact q
  · rw [q] at h2'; simp at h2'
  · rw [q] at h2; cases h2
theorem ok_gt : ∀ {fs : List FileD} {last : List UInt8}, okFiles last fs = true → ∀ f ∈ fs, Op.bytesLess last f.name = true
  | [], _, _, f, hf => by simp at hf
  | g :: fs, last, h, f, hf => by
    obtain ⟨h1, _, h2⟩ := ok_cons h
    rcases List.mem_cons.1 hf with rfl | hf
    · exact h1
    · exact less_trans h1 (ok_gt h2 f hf)
def wasF (fs : List FileD) (nm : List UInt8) : FileD := if isAt fs nm then fileAt fs nm else ⟨[], [], 0⟩
theorem get_at (fs : List FileD) (nm : List UInt8) : ∀ {last : List UInt8}, okFiles last fs = true → fs[fs.findIdx fun f => f.name == nm]? = if isAt fs nm then some (fileAt fs nm) else none := by
  induction fs with
  | nil => intro _ _; rfl
  | cons f fs ih =>
    intro last h
    obtain ⟨h1, _, h2⟩ := ok_cons h
    have ih := ih h2
    rcases less_tot f.name nm with q | q | q
    · have e1 := less_ne q
      have e2 : findAt (f :: fs) nm = findAt fs nm + 1 := by simp [findAt, List.findIdx_cons, q]
      have e3 : isAt (f :: fs) nm = isAt fs nm := by simp [isAt, e2]
      have e4 : fileAt (f :: fs) nm = fileAt fs nm := by simp [fileAt, e2]
      rw [e3, e4, List.findIdx_cons, e1]
      simpa using ih
    · have e2 : findAt (f :: fs) nm = 0 := by simp [findAt, List.findIdx_cons, q, less_irr]
      simp [isAt, fileAt, e2, List.findIdx_cons, q]
    · have e2 : findAt (f :: fs) nm = 0 := by simp [findAt, List.findIdx_cons, less_asym q]
      have e1 : (f.name == nm) = false := by have := less_ne q; simp only [beq_eq_false_iff_ne, ne_eq] at this ⊢; exact fun h => this h.symm
      have e3 : isAt (f :: fs) nm = false := by simp [isAt, e2, e1]
      have hn : ((f :: fs).findIdx fun f => f.name == nm) = (f :: fs).length := by
        rw [List.findIdx_eq_length]
        intro g hg
        rcases List.mem_cons.1 hg with rfl | hg
        · exact e1
        · have := less_ne (less_trans q (ok_gt h2 g hg))
          simp only [beq_eq_false_iff_ne, ne_eq] at this ⊢; exact fun h => this h.symm
      rw [hn, e3]; simp
theorem getV_at {fs : List FileD} {last nm : List UInt8} (h : okFiles last fs = true) : getV fs nm = .tup [.agg (wasF fs nm).dv, boo (isAt fs nm)] := by
  unfold getV
  rw [get_at fs nm h]
  unfold wasF
  cases isAt fs nm <;> simp [FileD.dv]
theorem fileAt_name {fs : List FileD} {nm : List UInt8} : (fileAt fs nm).name = nm := by
  cases hi : isAt fs nm with
  | false => rw [isAt_no hi]
  | true => obtain ⟨hlt, h1, e⟩ := isAt_lt hi; rw [e]; simpa using h1
theorem file_was {fs : List FileD} {nm : List UInt8} : (fileAt fs nm).b = (wasF fs nm).b ∧ (fileAt fs nm).sure = (wasF fs nm).sure := by
  unfold wasF
  cases hi : isAt fs nm with
  | false => rw [isAt_no hi]; simp
  | true => simp
theorem used_app (a b : List FileD) : usedF (a ++ b) = usedF a + usedF b := by simp [usedF]
theorem used_with {fs : List FileD} {nm : List UInt8} {f : FileD} (hb : f.b ≠ []) : usedF (withF fs nm f) + (fileAt fs nm).b.length = usedF fs + f.b.length := by
  have hl := findAt_le fs nm
  have e : withF fs nm f = fs.take (findAt fs nm) ++ ([f] ++ fs.drop (behAt fs nm)) := by
    unfold withF; have : (f.b == []) = false := by simpa using hb
    simp [this]
  have e2 : usedF fs = usedF (fs.take (findAt fs nm)) + usedF (fs.drop (findAt fs nm)) := by rw [← used_app, List.take_append_drop]
  rw [e, used_app, used_app, e2]
  have e3 : usedF [f] = f.b.length := by simp [usedF]
  cases hi : isAt fs nm with
  | false => rw [isAt_no hi]; simp only [behAt, hi, e3]; simp; omega
  | true =>
    obtain ⟨hlt, h1, e4⟩ := isAt_lt hi
    rw [e4, List.drop_eq_getElem_cons hlt]
    simp only [behAt, hi, e3, if_true]
    have : usedF (fs[findAt fs nm] :: fs.drop (findAt fs nm + 1)) = fs[findAt fs nm].b.length + usedF (fs.drop (findAt fs nm + 1)) := by simp only [usedF, List.map_cons, List.sum_cons]
    rw [this]; omega
end Go.Proofs.YtepcpdionlfkhaaGreatDoor
