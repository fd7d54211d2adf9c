/- DiskSure, plain. -/
import Derived.Test.YtdpfjdkjimaocaaDoorDsA
import Derived.Test.YtdpfjdkjimaocaaDoorDkS
import Derived.Test.YtdpfjdkjimaocaaDoorMacD
namespace Go.Proofs.YtdpfjdkjimaocaaDoor
open Go Go.RowKit
set_option linter.unusedVariables false
set_option linter.unusedSimpArgs false
abbrev fileV (b : Bs) : Value := .agg #[.string ⟨#[]⟩, .string ⟨b.toArray⟩, .int .i64 0]
def mapS (S : List (Bs × Bs)) : List (Bs × Value) := S.map fun p => (p.1, fileV p.2)
def sget (k : Bs) : List (Bs × Bs) → Option Bs
  | [] => none
  | e :: es => if k = e.1 then some e.2 else sget k es
def sset (k : Bs) (v : Bs) : List (Bs × Bs) → List (Bs × Bs)
  | [] => [(k, v)]
  | e :: es => if k = e.1 then (k, v) :: es else e :: sset k v es
theorem aget_mapS (k : Bs) : ∀ S, aget k (mapS S) = (sget k S).map fileV
  | [] => rfl
  | e :: es => by
    have ih := aget_mapS k es
    show (if k = e.1 then _ else _) = Option.map fileV (if k = e.1 then _ else _)
    split
    · rfl
    · exact ih
theorem aset_mapS (k v : Bs) : ∀ S, aset k (fileV v) (mapS S) = mapS (sset k v S)
  | [] => rfl
  | e :: es => by
    have ih := aset_mapS k v es
    show (if k = e.1 then _ else _) = mapS (if k = e.1 then _ else _)
    split
    · rfl
    · show _ :: aset k (fileV v) (mapS es) = _
      rw [ih]; rfl
theorem sget_sset (k v k' : Bs) : ∀ S, sget k' (sset k v S) = if k' = k then some v else sget k' S
  | [] => rfl
  | e :: es => by
    have ih := sget_sset k v k' es
    unfold sset
    by_cases h : k = e.1
    · rw [if_pos h]; unfold sget
      by_cases h2 : k' = k
      · simp [h2]
      · rw [if_neg h2, if_neg h2, if_neg (fun e' => h2 (e'.trans h.symm))]
    · rw [if_neg h]; unfold sget
      by_cases h2 : k' = e.1
      · rw [if_pos h2, if_pos h2, if_neg (fun e' => h (e'.symm.trans h2))]
      · rw [if_neg h2, if_neg h2, ih]
theorem sget_mem {k b : Bs} : ∀ {S : List (Bs × Bs)}, (akeys (mapS S)).Nodup → (k, b) ∈ S → sget k S = some b
  | e :: es, hn, h => by
    have hn' : e.1 ∉ akeys (mapS es) ∧ (akeys (mapS es)).Nodup := by simpa [akeys, mapS] using hn
    unfold sget
    rcases List.mem_cons.1 h with rfl | h
    · simp
    · have hk : k ∈ akeys (mapS es) := by
        simp only [akeys, mapS, List.map_map, List.mem_map]
        exact ⟨(k, b), h, rfl⟩
      rw [if_neg (show ¬ k = e.1 from fun q => hn'.1 (by rw [← q]; exact hk))]
      exact sget_mem hn'.2 h
/-- What was sure stands in front. -/
def SInv (S : List (Bs × Bs)) (fs : List FileD) : Prop := ∀ nm b, sget nm S = some b → b ≠ [] → ∃ f, lookF fs nm = some f ∧ b <+: f.b ∧ (b.length : Int) ≤ f.sure
theorem look_name {fs : List FileD} {nm : Bs} {f : FileD} (h : lookF fs nm = some f) : f.name = nm ∧ f ∈ fs := ⟨by simpa using List.find?_some h, List.mem_of_find?_eq_some h⟩
theorem look_self : ∀ {fs : List FileD} {last : Bs}, okFiles last fs = true → ∀ f ∈ fs, lookF fs f.name = some f
  | g :: fs, last, h, f, hf => by
    have h' := okF_cons.1 h
    rcases List.mem_cons.1 hf with rfl | hf
    · simp [lookF]
    · have hl := ok_gt h'.2 f hf
      have : (g.name == f.name) = false := less_ne hl
      unfold lookF
      rw [List.find?_cons, this]
      exact look_self h'.2 f hf
/-! a crash -/
theorem crash_ok {fs : List FileD} {keep : List Int} {last : Bs} (h : okFiles last fs = true) : ∀ k, (∀ g ∈ crashT fs keep k, ∃ f ∈ fs.take k, g.name = f.name ∧ g.b ≠ [] ∧ g.sure = g.b.length) := by
  intro k
  induction k with
  | zero => intro g hg; simp [crashT] at hg
  | succ k ih =>
    intro g hg
    simp only [crashT, List.mem_append] at hg
    rcases hg with hg | hg
    · obtain ⟨f, hf, h2⟩ := ih g hg
      exact ⟨f, List.take_subset_take_left fs (by omega) hf, h2⟩
    · split at hg
      · rename_i f hf
        obtain ⟨hk, rfl⟩ := List.getElem?_eq_some_iff.1 hf
        unfold nowF at hg
        split at hg
        · simp at hg
        · rename_i hb
          simp at hg; subst hg
          refine ⟨fs[k], ?_, rfl, by simpa using hb, rfl⟩
          rw [List.take_add_one, hf]; simp only [Option.toList_some, List.mem_append, List.mem_singleton, or_true]
      · simp at hg
theorem ok_ahead : ∀ {a : List FileD} {last : List UInt8} {f : FileD} {b : List FileD}, okFiles last (a ++ f :: b) = true → ∀ g ∈ a, Op.bytesLess g.name f.name = true
  | c :: a, last, f, b, h, g, hg => by
    rw [List.cons_append, okF_cons] at h
    rcases List.mem_cons.1 hg with rfl | hg
    · exact ok_gt h.2 f (by simp)
    · exact ok_ahead h.2 g hg
theorem ok_snoc : ∀ {a : List FileD} {last : List UInt8} {f : FileD}, okFiles last a = true → (∀ g ∈ a, Op.bytesLess g.name f.name = true) → Op.bytesLess last f.name = true → fileOk f → okFiles last (a ++ [f]) = true
  | [], last, f, _, _, h, hf => okF_cons.2 ⟨⟨hf, h⟩, rfl⟩
  | c :: a, last, f, h, hg, hl, hf => by
    have h' := okF_cons.1 h
    rw [List.cons_append, okF_cons]
    exact ⟨h'.1, ok_snoc h'.2 (fun g hg' => hg g (by simp [hg'])) (hg c (by simp)) hf⟩
theorem take_lt {fs : List FileD} {last : Bs} (h : okFiles last fs = true) {k : Nat} {f : FileD} (hf : fs[k]? = some f) : ∀ g ∈ fs.take k, Op.bytesLess g.name f.name = true := by
  obtain ⟨hk, rfl⟩ := List.getElem?_eq_some_iff.1 hf
  have e : fs = fs.take k ++ fs[k] :: fs.drop (k + 1) := by rw [← List.drop_eq_getElem_cons hk, List.take_append_drop]
  rw [e] at h
  exact ok_ahead h
theorem crash_valid {fs : List FileD} {keep : List Int} (h : okFiles [] fs = true) : ∀ k, okFiles [] (crashT fs keep k) = true ∧ usedF (crashT fs keep k) ≤ usedF (fs.take k)
  | 0 => ⟨rfl, by simp [crashT, usedF]⟩
  | k + 1 => by
    obtain ⟨i1, i2⟩ := crash_valid (keep := keep) h k
    simp only [crashT]
    cases hf : fs[k]? with
    | none =>
      have hle := List.getElem?_eq_none_iff.1 hf
      rw [List.take_of_length_le (show fs.length ≤ k + 1 by omega)]
      rw [List.take_of_length_le hle] at i2
      simp only [List.append_nil]
      exact ⟨i1, i2⟩
    | some f =>
      have ht := take_lt h hf
      obtain ⟨hk, hfe⟩ := List.getElem?_eq_some_iff.1 hf
      have hm : f ∈ fs := by rw [← hfe]; exact List.getElem_mem hk
      have hok := ok_mem h f hm
      have hus : usedF (fs.take (k + 1)) = usedF (fs.take k) + f.b.length := by rw [used_step fs k hk, hfe]
      have hlen : (crash1 f keep[k]?).b.length ≤ f.b.length := by simp [crash1]; omega
      simp only [nowF]
      split
      · rw [List.append_nil]; exact ⟨i1, by omega⟩
      · rename_i hb
        have hb : (crash1 f keep[k]?).b ≠ [] := by simpa using hb
        refine ⟨ok_snoc i1 (fun g hg => ?_) (nil_less hok.1) ⟨hok.1, hb, by simp only [crash1]; omega, by simp only [crash1]; omega⟩, ?_⟩
        · obtain ⟨f', hf', e, _⟩ := crash_ok h k g hg
          rw [e]; exact ht f' hf'
        · rw [used_app]
          have : usedF [crash1 f keep[k]?] = (crash1 f keep[k]?).b.length := by simp [usedF]
          omega
theorem crash_look {fs : List FileD} {keep : List Int} (h : okFiles [] fs = true) : ∀ k i f, i < k → fs[i]? = some f → (crash1 f keep[i]?).b ≠ [] → lookF (crashT fs keep k) f.name = some (crash1 f keep[i]?)
  | 0, i, f, hi, _, _ => by omega
  | k + 1, i, f, hi, hf, hb => by
    simp only [crashT]
    unfold lookF
    rw [List.find?_append]
    rcases Nat.lt_or_ge i k with h1 | h1
    · have := crash_look h k i f h1 hf hb
      unfold lookF at this
      rw [this]; rfl
    · obtain rfl : i = k := by omega
      have hno : (crashT fs keep i).find? (fun g => g.name == f.name) = none := by
        rw [List.find?_eq_none]
        intro g hg
        obtain ⟨f', hf', e, _⟩ := crash_ok h i g hg
        have := less_ne (take_lt h hf f' hf')
        rw [e, this]; simp
      rw [hno, hf]
      have hbb : ((crash1 f keep[i]?).b == []) = false := by simpa using hb
      simp only [nowF, hbb, Bool.false_eq_true, if_false, Option.none_or]
      simp [crash1]
theorem crash_inv {S : List (Bs × Bs)} {fs : List FileD} {keep : List Int} (h : okFiles [] fs = true) (hI : SInv S fs) : SInv S (crashT fs keep fs.length) := by
  intro nm b hb hne
  obtain ⟨f, hl, hp, hs⟩ := hI nm b hb hne
  obtain ⟨hn, hm⟩ := look_name hl
  obtain ⟨i, hi, hfi⟩ := List.getElem_of_mem hm
  have hf : fs[i]? = some f := by rw [List.getElem?_eq_getElem hi, hfi]
  have hok := ok_mem h f hm
  have hpre : b <+: (crash1 f keep[i]?).b := by
    simp only [crash1]
    refine List.prefix_take_iff.2 ⟨hp, by omega⟩
  have hlen := hpre.length_le
  have hb0 : 0 < b.length := List.length_pos_iff.2 hne
  have hsu : (crash1 f keep[i]?).sure = ((crash1 f keep[i]?).b.length : Int) := rfl
  refine ⟨crash1 f keep[i]?, ?_, hpre, by omega⟩
  rw [← hn]
  exact crash_look h fs.length i f hi hf (fun e => by rw [e] at hlen; exact hne (List.eq_nil_of_length_eq_zero (Nat.le_zero.1 hlen)))
/-- An operation that is done. -/
theorem do_inv {S : List (Bs × Bs)} {fs : List FileD} {w : WriteD} (h : okFiles [] fs = true) (hop : opB w = true) (hI : SInv S fs) :
    SInv (if w.op ≠ 0 ∧ w.op ≠ 1 then sset w.file [] S else S) (withF fs w.file (afterF (fileAt fs w.file) w)) := by
  intro nm b hb hne
  have hname := (after_ok h hop).1
  rw [with_look hname h]
  have hb' : sget nm S = some b ∧ (nm = w.file → w.op = 0 ∨ w.op = 1) := by
    split at hb
    · rw [sget_sset] at hb
      split at hb
      · cases hb; exact absurd rfl hne
      · rename_i hn; exact ⟨hb, fun e => absurd e hn⟩
    · rename_i hn; exact ⟨hb, fun _ => by omega⟩
  obtain ⟨f, hl, hp, hs⟩ := hI nm b hb'.1 hne
  by_cases e : nm = w.file
  · have hop01 := hb'.2 e
    rw [if_pos e]
    rw [look_at h, e] at hl
    split at hl
    · cases hl
      obtain ⟨t, ht⟩ := hp
      rcases hop01 with e0 | e1
      · have ha : afterF (fileAt fs w.file) w = ⟨(fileAt fs w.file).name, (fileAt fs w.file).b ++ w.b, (fileAt fs w.file).sure⟩ := by simp [afterF, e0]
        rw [ha]
        have hne2 : (fileAt fs w.file).b ++ w.b ≠ [] := fun q => hne (by have := List.append_eq_nil_iff.1 (List.append_eq_nil_iff.1 (ht ▸ q)).1; exact this.1)
        rw [if_neg hne2]
        exact ⟨_, rfl, ⟨t ++ w.b, by simp [← ht]⟩, hs⟩
      · have ha : afterF (fileAt fs w.file) w = ⟨(fileAt fs w.file).name, (fileAt fs w.file).b, (fileAt fs w.file).b.length⟩ := by simp [afterF, e1]
        rw [ha]
        have hne2 : (fileAt fs w.file).b ≠ [] := fun q => hne (by rw [q] at ht; exact (List.append_eq_nil_iff.1 ht).1)
        rw [if_neg hne2]
        have hlen : b.length ≤ (fileAt fs w.file).b.length := by rw [← ht]; simp
        exact ⟨_, rfl, ⟨t, ht⟩, by simp only; omega⟩
    · cases hl
  · rw [if_neg e]
    exact ⟨f, hl, hp, hs⟩
/-- Is a file's name freed by this act? -/
def frees (x : ActD) (e : Int) : Bool := x.kind == 0 && e == 0 && x.w.op != 0 && x.w.op != 1
theorem does_inv {S : List (Bs × Bs)} {s : DiskS} {x : ActD} (hv : validB s.fs s.cap = true) (hI : SInv S s.fs) :
    validB (doesF s x).1.fs (doesF s x).1.cap = true ∧ SInv (if frees x (doesF s x).2 then sset x.w.file [] S else S) (doesF s x).1.fs := by
  obtain ⟨fs, cap, left, down⟩ := s
  obtain ⟨kind, w, keep, n⟩ := x
  simp only at hv hI
  obtain ⟨v1, v2, v3, v4, v5⟩ := valid_ok hv
  have stay : ∀ e : Int, e ≠ 0 → validB fs cap = true ∧ SInv (if frees ⟨kind, w, keep, n⟩ e then sset w.file [] S else S) fs := fun e he => by
    have : frees ⟨kind, w, keep, n⟩ e = false := by simp [frees, he]
    rw [this]; exact ⟨hv, by simpa using hI⟩
  unfold doesF stepF
  simp only
  by_cases k0 : kind = 0
  · subst k0
    simp only [beq_self_eq_true, if_true]
    unfold doF
    simp only [hv, Bool.true_and]
    cases hop : opB w with
    | false => simp only [Bool.not_false, if_true]; exact stay 2 (by decide)
    | true =>
      simp only [Bool.not_true, Bool.false_eq_true, if_false]
      cases down with
      | true => simp only [if_true]; exact stay 30 (by decide)
      | false =>
        simp only [Bool.false_eq_true, if_false]
        cases hz : (left == 0) with
        | true => simp only [if_true]; exact stay 30 (by decide)
        | false =>
          simp only [Bool.false_eq_true, if_false]
          cases hf : fitsO fs cap w (fileAt fs w.file) (isAt fs w.file) with
          | some r =>
            obtain ⟨m, c⟩ := r
            have hc : c ≠ 0 := by
              unfold fitsO at hf
              intro e0
              subst e0
              (repeat' split at hf) <;> cases hf
            have hc2 : (c != 0) = true := by simpa using hc
            simp only [hc2, Bool.not_false, Bool.and_self, if_true]
            exact stay c hc
          | none =>
            simp only [bne_self_eq_false, Bool.false_and, Bool.false_eq_true, if_false]
            refine ⟨do_valid hv hop hf, ?_⟩
            have := do_inv v1 hop hI
            have e : frees ⟨0, w, keep, n⟩ 0 = decide (w.op ≠ 0 ∧ w.op ≠ 1) := by rw [Bool.eq_iff_iff]; simp [frees]
            rw [e]
            simpa using this
  · have hf : ∀ e, frees ⟨kind, w, keep, n⟩ e = false := fun e => by simp [frees, k0]
    simp only [hf, Bool.false_eq_true, if_false]
    have e0 : (kind == 0) = false := by simpa using k0
    simp only [e0, Bool.false_eq_true, if_false]
    by_cases k1 : kind = 1
    · subst k1
      simp only [beq_self_eq_true, if_true]
      unfold crashF
      simp only [hv, if_true, bne_self_eq_false, Bool.false_and, Bool.false_eq_true, if_false]
      obtain ⟨c1, c2⟩ := crash_valid (keep := keep) v1 fs.length
      rw [List.take_length] at c2
      have c3 := crashT_len fs keep fs.length
      exact ⟨valid_iff.2 ⟨c1, v2, v3, by omega, by omega⟩, crash_inv v1 hI⟩
    · have e1 : (kind == 1) = false := by simpa using k1
      simp only [e1, Bool.false_eq_true, if_false]
      by_cases k2 : kind = 2
      · subst k2
        simp only [beq_self_eq_true, if_true]
        unfold armF
        simp only [hv, if_true, bne_self_eq_false, Bool.false_and, Bool.false_eq_true, if_false]
        exact ⟨trivial, hI⟩
      · have e2 : (kind == 2) = false := by simpa using k2
        simp only [e2, Bool.false_eq_true, if_false, bne_self_eq_false, Bool.false_and]
        exact ⟨hv, hI⟩
/-- What is sure now, file by file. -/
def updT (S : List (Bs × Bs)) (fs : List FileD) : Nat → List (Bs × Bs)
  | 0 => S
  | k + 1 => match fs[k]? with
    | some f => sset f.name (f.b.take f.sure.toNat) (updT S fs k)
    | none => updT S fs k
theorem upd_look {S : List (Bs × Bs)} {fs : List FileD} (h : okFiles [] fs = true) : ∀ k nm, sget nm (updT S fs k) = match lookF (fs.take k) nm with
    | some f => some (f.b.take f.sure.toNat)
    | none => sget nm S
  | 0, nm => rfl
  | k + 1, nm => by
    have ih := upd_look (S := S) h k nm
    simp only [updT]
    cases hf : fs[k]? with
    | none =>
      have hle := List.getElem?_eq_none_iff.1 hf
      rw [List.take_of_length_le (show fs.length ≤ k + 1 by omega)]
      rw [List.take_of_length_le hle] at ih
      exact ih
    | some f =>
      have e : fs.take (k + 1) = fs.take k ++ [f] := by rw [List.take_add_one, hf]; rfl
      simp only [sget_sset]
      rw [e]
      unfold lookF
      rw [List.find?_append]
      by_cases en : nm = f.name
      · rw [if_pos en]
        have hno : (fs.take k).find? (fun g => g.name == nm) = none := by
          rw [List.find?_eq_none]
          intro g hg
          have := less_ne (take_lt h hf g hg)
          rw [en, this]; simp
        rw [hno]
        simp [en]
      · rw [if_neg en, ih]
        unfold lookF
        have hne : (f.name == nm) = false := by simpa using Ne.symm en
        cases hq : (fs.take k).find? (fun g => g.name == nm) with
        | some g => rfl
        | none => simp [hne]
/-- The checks hold: of a file, what was sure. -/
theorem sure_ok {S : List (Bs × Bs)} {fs : List FileD} (h : okFiles [] fs = true) (hI : SInv S fs) (k : Nat) (f : FileD) (hf : fs[k]? = some f) :
    ∃ b, (sget f.name (updT S fs k)).getD [] = b ∧ b.length ≤ f.b.length ∧ f.b.take b.length = b ∧ (b.length : Int) ≤ f.sure ∧ 0 ≤ f.sure ∧ f.sure ≤ f.b.length := by
  obtain ⟨hk, hfe⟩ := List.getElem?_eq_some_iff.1 hf
  have hm : f ∈ fs := by rw [← hfe]; exact List.getElem_mem hk
  have hok := ok_mem h f hm
  have hno : lookF (fs.take k) f.name = none := by
    unfold lookF
    rw [List.find?_eq_none]
    intro g hg
    have := less_ne (take_lt h hf g hg)
    rw [this]; simp
  rw [upd_look h, hno]
  simp only
  cases hs : sget f.name S with
  | none => exact ⟨[], rfl, by simp, by simp, by simpa using hok.2.2.1, hok.2.2.1, hok.2.2.2⟩
  | some b =>
    by_cases hb : b = []
    · subst hb; exact ⟨[], rfl, by simp, by simp, by simpa using hok.2.2.1, hok.2.2.1, hok.2.2.2⟩
    · obtain ⟨g, hg, hp, hl⟩ := hI f.name b hs hb
      rw [look_self h f hm] at hg
      cases hg
      exact ⟨b, rfl, hp.length_le, (List.prefix_iff_eq_take.1 hp).symm, hl, hok.2.2.1, hok.2.2.2⟩
theorem upd_inv {S : List (Bs × Bs)} {fs : List FileD} (h : okFiles [] fs = true) (hI : SInv S fs) : SInv (updT S fs fs.length) fs := by
  intro nm b hb hne
  rw [upd_look h, List.take_length] at hb
  split at hb
  · rename_i f hf
    cases hb
    obtain ⟨hn, hm⟩ := look_name hf
    have hok := ok_mem h f hm
    exact ⟨f, hf, List.take_prefix _ _, by rw [List.length_take]; omega⟩
  · exact hI nm b hb hne
end Go.Proofs.YtdpfjdkjimaocaaDoor
