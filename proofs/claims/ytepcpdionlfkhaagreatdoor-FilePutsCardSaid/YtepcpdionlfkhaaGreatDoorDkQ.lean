/- Disks, plain: what is done to a disk that may be leaves one that may be. -/
import Derived.Test.YtepcpdionlfkhaaGreatDoorDkP
namespace Go.Proofs.YtepcpdionlfkhaaGreatDoor
open Go Go.RowKit
set_option linter.unusedVariables false
set_option linter.unusedSimpArgs false
theorem with_lt {g : FileD} {fs : List FileD} {nm : List UInt8} {f : FileD} (h : Op.bytesLess g.name nm = true) : withF (g :: fs) nm f = g :: withF fs nm f := by
  have e2 : findAt (g :: fs) nm = findAt fs nm + 1 := by simp [findAt, List.findIdx_cons, h]
  have e3 : isAt (g :: fs) nm = isAt fs nm := by simp [isAt, e2]
  have e4 : behAt (g :: fs) nm = behAt fs nm + 1 := by simp only [behAt, e2, e3]; omega
  simp [withF, e2, e4]
theorem with_eq {g : FileD} {fs : List FileD} {nm : List UInt8} {f : FileD} (h : g.name = nm) : withF (g :: fs) nm f = nowF f ++ fs := by
  have e2 : findAt (g :: fs) nm = 0 := by simp [findAt, List.findIdx_cons, h, less_irr]
  have e3 : isAt (g :: fs) nm = true := by simp [isAt, e2, h]
  simp [withF, e2, behAt, e3, nowF]
theorem with_gt {g : FileD} {fs : List FileD} {nm : List UInt8} {f : FileD} (h : Op.bytesLess nm g.name = true) : withF (g :: fs) nm f = nowF f ++ g :: fs := by
  have e2 : findAt (g :: fs) nm = 0 := by simp [findAt, List.findIdx_cons, less_asym h]
  have e1 : (g.name == nm) = false := by have := less_ne h; simp only [beq_eq_false_iff_ne, ne_eq] at this ⊢; exact fun h => this h.symm
  have e3 : isAt (g :: fs) nm = false := by simp [isAt, e2, e1]
  simp [withF, e2, behAt, e3, nowF]
theorem with_nil {nm : List UInt8} {f : FileD} : withF [] nm f = nowF f := by simp [withF, nowF]
/-- A file that may lie on a disk. -/
def fileOk (f : FileD) : Prop := nameB f.name = true ∧ f.b ≠ [] ∧ 0 ≤ f.sure ∧ f.sure ≤ f.b.length
theorem bad_iff {last : List UInt8} {f : FileD} : badF last f = false ↔ fileOk f ∧ Op.bytesLess last f.name = true := by
  simp only [badF, fileOk, Bool.or_eq_false_iff, decide_eq_false_iff_not, Bool.not_eq_false', Int.not_lt]
  constructor
  · rintro ⟨⟨⟨⟨h1, h2, h2'⟩, h3⟩, h4⟩, h5⟩
    refine ⟨⟨h1, by simpa using h3, h4, h5⟩, ?_⟩
    rcases less_tot last f.name with q | q | q
    · exact q
    · rw [q] at h2'; simp at h2'
    · rw [q] at h2; cases h2
  · rintro ⟨⟨h1, h3, h4, h5⟩, q⟩
    refine ⟨⟨⟨⟨h1, less_asym q, ?_⟩, by simpa using h3⟩, h4⟩, h5⟩
    have := less_ne q; simp only [beq_eq_false_iff_ne, ne_eq] at this ⊢; exact fun h => this h.symm
theorem okF_cons {last : List UInt8} {f : FileD} {fs : List FileD} : okFiles last (f :: fs) = true ↔ (fileOk f ∧ Op.bytesLess last f.name = true) ∧ okFiles f.name fs = true := by
  simp only [okFiles, Bool.and_eq_true, Bool.not_eq_true', bad_iff]
theorem ok_low {last m : List UInt8} (h : Op.bytesLess last m = true) : ∀ {fs : List FileD}, okFiles m fs = true → okFiles last fs = true
  | [], _ => rfl
  | f :: fs, h2 => by
    rw [okF_cons] at h2 ⊢
    exact ⟨⟨h2.1.1, less_trans h h2.1.2⟩, h2.2⟩
theorem ok_with {nm : List UInt8} {f : FileD} (hn : f.name = nm) (hf : f.b ≠ [] → fileOk f) : ∀ {fs : List FileD} {last : List UInt8}, okFiles last fs = true → Op.bytesLess last nm = true → okFiles last (withF fs nm f) = true
  | [], last, _, h2 => by
    rw [with_nil]; unfold nowF
    split
    · rfl
    · rename_i hb
      have hb : f.b ≠ [] := by simpa using hb
      rw [okF_cons]; exact ⟨⟨hf hb, by rw [hn]; exact h2⟩, rfl⟩
  | g :: fs, last, h, h2 => by
    have h' := okF_cons.1 h
    rcases less_tot g.name nm with q | q | q
    · rw [with_lt q, okF_cons]; exact ⟨h'.1, ok_with hn hf h'.2 q⟩
    · rw [with_eq q]; unfold nowF
      split
      · exact ok_low (by rw [q]; exact h2) h'.2
      · rename_i hb
        have hb : f.b ≠ [] := by simpa using hb
        show okFiles last (f :: fs) = true
        rw [okF_cons]; exact ⟨⟨hf hb, by rw [hn]; exact h2⟩, by rw [hn, ← q]; exact h'.2⟩
    · rw [with_gt q]; unfold nowF
      split
      · exact h
      · rename_i hb
        have hb : f.b ≠ [] := by simpa using hb
        show okFiles last (f :: g :: fs) = true
        rw [okF_cons, hn, okF_cons]; exact ⟨⟨hf hb, h2⟩, ⟨h'.1.1, q⟩, h'.2⟩
theorem used_with' {fs : List FileD} {nm : List UInt8} {f : FileD} : usedF (withF fs nm f) + (fileAt fs nm).b.length = usedF fs + f.b.length := by
  by_cases hb : f.b = []
  · have hl := findAt_le fs nm
    have e : withF fs nm f = fs.take (findAt fs nm) ++ fs.drop (behAt fs nm) := by unfold withF; simp [hb]
    have e2 : usedF fs = usedF (fs.take (findAt fs nm)) + usedF (fs.drop (findAt fs nm)) := by rw [← used_app, List.take_append_drop]
    rw [e, used_app, e2, hb]
    cases hi : isAt fs nm with
    | false => rw [isAt_no hi]; simp only [behAt, hi]; simp
    | true =>
      obtain ⟨hlt, h1, e4⟩ := isAt_lt hi
      rw [e4, List.drop_eq_getElem_cons hlt]
      simp only [behAt, hi, if_true]
      have : usedF (fs[findAt fs nm] :: fs.drop (findAt fs nm + 1)) = fs[findAt fs nm].b.length + usedF (fs.drop (findAt fs nm + 1)) := by simp only [usedF, List.map_cons, List.sum_cons]
      rw [this]; simp; omega
  · exact used_with hb
theorem len_with {fs : List FileD} {nm : List UInt8} {f : FileD} : (withF fs nm f).length ≤ fs.length + if isAt fs nm then 0 else 1 := by
  have hl := findAt_le fs nm
  have h3 : (if f.b == [] then [] else [f]).length ≤ 1 := by split <;> simp
  unfold withF
  simp only [List.length_append, List.length_take, List.length_drop]
  cases hi : isAt fs nm with
  | false => simp only [behAt, hi]; simp only [Bool.false_eq_true, if_false]; omega
  | true => obtain ⟨hlt, _, _⟩ := isAt_lt hi; simp only [behAt, hi, if_true]; omega
theorem fileAt_ok {fs : List FileD} {last nm : List UInt8} (h : okFiles last fs = true) : 0 ≤ (fileAt fs nm).sure ∧ (fileAt fs nm).sure ≤ (fileAt fs nm).b.length := by
  cases hi : isAt fs nm with
  | false => rw [isAt_no hi]; simp
  | true => obtain ⟨hlt, _, e⟩ := isAt_lt hi; rw [e]; exact (ok_mem h _ (List.getElem_mem hlt)).2.2
theorem after_ok {fs : List FileD} {last : List UInt8} {w : WriteD} (h : okFiles last fs = true) (ho : opB w = true) : (afterF (fileAt fs w.file) w).name = w.file ∧ ((afterF (fileAt fs w.file) w).b ≠ [] → fileOk (afterF (fileAt fs w.file) w)) := by
  have hn : nameB w.file = true := by simp only [opB, Bool.and_eq_true] at ho; exact ho.1
  have h2 := fileAt_ok (nm := w.file) h
  have h1 := @fileAt_name fs w.file
  have key : (afterF (fileAt fs w.file) w).name = w.file ∧ 0 ≤ (afterF (fileAt fs w.file) w).sure ∧ (afterF (fileAt fs w.file) w).sure ≤ (afterF (fileAt fs w.file) w).b.length := by
    unfold afterF
    split
    · simp [h1]
    split
    · simp [h1]
    split
    · simp [h1]
    split
    · simp [h1]
    split
    · simp only [h1, List.length_append, true_and]; omega
    · exact ⟨h1, h2⟩
  exact ⟨key.1, fun hb => ⟨by rw [key.1]; exact hn, hb, key.2⟩⟩
theorem nil_less {nm : List UInt8} (h : nameB nm = true) : Op.bytesLess [] nm = true := by
  cases nm with
  | nil => simp [nameB] at h
  | cons _ _ => rfl
theorem valid_iff {fs : List FileD} {cap : Int} : validB fs cap = true ↔ okFiles [] fs = true ∧ 0 ≤ cap ∧ cap ≤ 65536 ∧ fs.length ≤ 64 ∧ (usedF fs : Int) ≤ cap := by
  refine ⟨valid_ok, ?_⟩
  rintro ⟨h1, h2, h3, h4, h5⟩
  simp only [validB, badTop, Bool.and_eq_true, Bool.not_eq_true', Bool.or_eq_false_iff, decide_eq_false_iff_not]
  exact ⟨⟨⟨⟨by omega, by omega⟩, by omega⟩, h1⟩, by omega⟩
theorem mem_used {fs : List FileD} : ∀ f ∈ fs, f.b.length ≤ usedF fs := by
  induction fs with
  | nil => intro f hf; simp at hf
  | cons g fs ih =>
    intro f hf
    have e : usedF (g :: fs) = g.b.length + usedF fs := by simp only [usedF, List.map_cons, List.sum_cons]
    rcases List.mem_cons.1 hf with rfl | hf
    · omega
    · have := ih f hf; omega
theorem valid_small {fs : List FileD} {cap : Int} (h : validB fs cap = true) : Small fs := by
  obtain ⟨h1, h2, h3, h4, h5⟩ := valid_ok h
  refine ⟨by omega, fun f hf => ?_⟩
  have a := mem_used f hf
  have b := (ok_mem h1 f hf).1
  simp only [nameB, Bool.and_eq_true, decide_eq_true_eq] at b
  omega
/-- A disk behind an operation that was done. -/
theorem do_valid {fs : List FileD} {cap : Int} {w : WriteD} (hv : validB fs cap = true) (ho : opB w = true) (hf : fitsO fs cap w (fileAt fs w.file) (isAt fs w.file) = none) : validB (withF fs w.file (afterF (fileAt fs w.file) w)) cap = true := by
  obtain ⟨h1, h2, h3, h4, h5⟩ := valid_ok hv
  have hn : nameB w.file = true := by simp only [opB, Bool.and_eq_true] at ho; exact ho.1
  obtain ⟨a1, a2⟩ := after_ok h1 ho
  have hu := @used_with' fs w.file (afterF (fileAt fs w.file) w)
  have hl := @len_with fs w.file (afterF (fileAt fs w.file) w)
  refine valid_iff.2 ⟨ok_with a1 a2 h1 (nil_less hn), h2, h3, ?_, ?_⟩
  · unfold fitsO at hf
    cases hi : isAt fs w.file with
    | true => rw [hi] at hl; simp at hl; omega
    | false =>
      rw [hi] at hl hf
      simp only [true_and] at hf
      split at hf
      · simp at hf
      · split at hf
        · cases hf
        · simp at hl; omega
  · unfold fitsO at hf
    split at hf
    · rename_i hlate
      have : (afterF (fileAt fs w.file) w).b.length ≤ (fileAt fs w.file).b.length := by
        simp only [late, Bool.or_eq_true, beq_iff_eq] at hlate
        unfold afterF
        rcases hlate with (e | e) | e <;> simp [e]
        omega
      omega
    · rename_i hlate
      split at hf
      · cases hf
      · split at hf
        · cases hf
        · rename_i hc
          simp only [Bool.not_eq_true, late, Bool.or_eq_false_iff, beq_eq_false_iff_ne, ne_eq] at hlate
          have : ((afterF (fileAt fs w.file) w).b.length : Int) ≤ (fileAt fs w.file).b.length + moreI w (fileAt fs w.file) := by
            unfold afterF moreI
            rw [if_neg hlate.2, if_neg hlate.1.2, if_neg hlate.1.1]
            by_cases e2 : w.op = 2
            · simp [e2]; omega
            · by_cases e0 : w.op = 0
              · simp [e0]
              · simp [e2, e0]; omega
          omega
end Go.Proofs.YtepcpdionlfkhaaGreatDoor
