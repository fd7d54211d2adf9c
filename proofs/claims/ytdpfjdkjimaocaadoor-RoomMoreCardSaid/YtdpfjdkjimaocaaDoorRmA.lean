/- Room, plain: the sizes of a disk's files in a map, step by step. -/
import Derived.Test.YtdpfjdkjimaocaaDoorDkS
import Derived.Test.YtdpfjdkjimaocaaDoorMacD
namespace Go.Proofs.YtdpfjdkjimaocaaDoor
open Go Go.RowKit
set_option linter.unusedVariables false
set_option linter.unusedSimpArgs false
abbrev i64 (n : Int) : Value := .int .i64 n
/-- The map holds the sizes of the files. -/
structure Szs (L : List (Bs × Value)) (fs : List FileD) : Prop where
  get : ∀ nm, aget nm L = (lookF fs nm).map fun f => i64 f.b.length
  nd : (akeys L).Nodup
  len : L.length = fs.length
theorem aset_len (k : Bs) (v : Value) (L : List (Bs × Value)) : (aset k v L).length = if (aget k L).isSome then L.length else L.length + 1 := by
  have h := akeys_aset k v L
  have h1 : (akeys (aset k v L)).length = (aset k v L).length := by simp [akeys]
  have h2 : (akeys L).length = L.length := by simp [akeys]
  rw [← h1, h]
  cases hg : aget k L with
  | none => rw [if_neg (aget_none.1 hg)]; simp [h2]
  | some x =>
    have : k ∈ akeys L := by
      by_cases hk : k ∈ akeys L
      · exact hk
      · rw [aget_none.2 hk] at hg; cases hg
    rw [if_pos this]; simp [h2]
theorem adel_len (k : Bs) : ∀ L : List (Bs × Value), (adel k L).length + (if (aget k L).isSome then 1 else 0) = L.length
  | [] => by simp [adel, aget]
  | e :: es => by
    have ih := adel_len k es
    unfold adel aget
    by_cases h : k = e.1
    · rw [if_pos h, if_pos h]; simp
    · rw [if_neg h, if_neg h]; simp only [List.length_cons]; omega
theorem len_with' {fs : List FileD} {nm : List UInt8} {f : FileD} : (withF fs nm f).length + (if isAt fs nm then 1 else 0) = fs.length + (if f.b = [] then 0 else 1) := by
  have hl := findAt_le fs nm
  have h3 : (if f.b == [] then [] else [f]).length = if f.b = [] then 0 else 1 := by
    by_cases hb : f.b = []
    · simp [hb]
    · simp [hb]
  unfold withF
  simp only [List.length_append, List.length_take, List.length_drop]
  rw [h3]
  cases hi : isAt fs nm with
  | false => simp only [behAt, hi]; simp only [Bool.false_eq_true, if_false]; omega
  | true => obtain ⟨hlt, _, _⟩ := isAt_lt hi; simp only [behAt, hi, if_true]; omega
/-- What the map has for a name. -/
def oldOf (nm : Bs) (L : List (Bs × Value)) : Int := match aget nm L with
  | some (.int _ n) => n
  | _ => 0
theorem Szs.at {L : List (Bs × Value)} {fs : List FileD} (h : Szs L fs) (ho : okFiles [] fs = true) (nm : Bs) : aget nm L = if isAt fs nm then some (i64 (fileAt fs nm).b.length) else none := by
  rw [h.get, look_at ho]
  cases isAt fs nm <;> rfl
theorem Szs.old {L : List (Bs × Value)} {fs : List FileD} (h : Szs L fs) (ho : okFiles [] fs = true) (nm : Bs) : oldOf nm L = (fileAt fs nm).b.length := by
  unfold oldOf
  rw [h.at ho]
  cases hi : isAt fs nm with
  | false => rw [isAt_no hi]; rfl
  | true => rfl
theorem Szs.has {L : List (Bs × Value)} {fs : List FileD} (h : Szs L fs) (ho : okFiles [] fs = true) (nm : Bs) : (aget nm L).isSome = isAt fs nm := by
  rw [h.at ho]
  cases isAt fs nm <;> rfl
theorem Szs.set {L : List (Bs × Value)} {fs : List FileD} {a : Bs} {f : FileD} (h : Szs L fs) (ho : okFiles [] fs = true) (hn : f.name = a) (hb : f.b ≠ []) : Szs (aset a (i64 f.b.length) L) (withF fs a f) := by
  refine ⟨fun nm => ?_, nodup_aset h.nd, ?_⟩
  · rw [aget_aset, with_look hn ho]
    by_cases e : nm = a
    · simp [e, hb]
    · rw [if_neg e, if_neg e]; exact h.get nm
  · rw [aset_len, h.has ho]
    have := @len_with' fs a f
    rw [if_neg hb] at this
    have := h.len
    cases hi : isAt fs a <;> simp [hi] at * <;> omega
theorem Szs.del {L : List (Bs × Value)} {fs : List FileD} {a : Bs} {f : FileD} (h : Szs L fs) (ho : okFiles [] fs = true) (hn : f.name = a) (hb : f.b = []) : Szs (adel a L) (withF fs a f) := by
  refine ⟨fun nm => ?_, nodup_adel h.nd, ?_⟩
  · rw [aget_adel nm h.nd, with_look hn ho]
    by_cases e : nm = a
    · simp [e, hb]
    · rw [if_neg e, if_neg e]; exact h.get nm
  · have h1 := adel_len a L
    rw [h.has ho] at h1
    have := @len_with' fs a f
    rw [if_pos hb] at this
    have := h.len
    omega
theorem Szs.same {L : List (Bs × Value)} {fs : List FileD} {a : Bs} {f : FileD} (h : Szs L fs) (ho : okFiles [] fs = true) (hi : isAt fs a = true) (hn : f.name = a) (hb : f.b = (fileAt fs a).b) (hb0 : f.b ≠ []) : Szs L (withF fs a f) := by
  refine ⟨fun nm => ?_, h.nd, ?_⟩
  · rw [with_look hn ho]
    by_cases e : nm = a
    · rw [if_pos e, if_neg hb0, e, h.at ho, hi]; simp only [if_true, Option.map_some, hb]
    · rw [if_neg e]; exact h.get nm
  · have := @len_with' fs a f
    rw [if_neg hb0, hi] at this
    have := h.len
    simp at *; omega
/-! what the tally does -/
abbrev Tal := List (Bs × Value) × Int
def setM (t : Tal) (nm : Bs) (n : Int) : Bool × Tal :=
  if (!(aget nm t.1).isSome && decide (64 ≤ (t.1.length : Int))) || decide (65536 < t.2 - oldOf nm t.1 + n) then (false, t) else (true, (aset nm (i64 n) t.1, t.2 + (n - oldOf nm t.1)))
def remM (t : Tal) (nm : Bs) : Bool × Tal := ((aget nm t.1).isSome, (adel nm t.1, t.2 - oldOf nm t.1))
def growM (t : Tal) (w : WriteD) : Bool × Tal := setM t w.file (oldOf w.file t.1 + w.b.length)
def replM (t : Tal) (w : WriteD) : Bool × Tal := setM t w.file w.b.length
def hasM (t : Tal) (w : WriteD) : Bool × Tal := ((aget w.file t.1).isSome, t)
def shortM (t : Tal) (w : WriteD) : Bool × Tal := if !(aget w.file t.1).isSome || decide (oldOf w.file t.1 < w.n) then (false, t) else if w.n = 0 then remM t w.file else setM t w.file w.n
def stepM (t : Tal) (w : WriteD) : Bool × Tal :=
  if w.op = 0 then growM t w else if w.op = 1 then hasM t w else if w.op = 2 then replM t w else if w.op = 3 then shortM t w else remM t w.file
/-- Does it go on, on a disk of the greatest size? -/
def goesF (fs : List FileD) (w : WriteD) : Bool := opB w && (fitsO fs 65536 w (fileAt fs w.file) (isAt fs w.file)).isNone
abbrev thenF (fs : List FileD) (w : WriteD) : List FileD := withF fs w.file (afterF (fileAt fs w.file) w)
def wayF : List FileD → List WriteD → List (Int × Int)
  | fs, [] => [((usedF fs : Int), (fs.length : Int))]
  | fs, w :: ws => ((usedF fs : Int), (fs.length : Int)) :: if goesF fs w then wayF (thenF fs w) ws else []
theorem op_cases {w : WriteD} (h : opB w = true) : (w.op = 0 ∧ w.b ≠ [] ∧ w.n = 0) ∨ (w.op = 2 ∧ w.b ≠ [] ∧ w.n = 0) ∨ (w.op = 3 ∧ w.b = [] ∧ 0 ≤ w.n) ∨ (w.op = 1 ∧ w.b = [] ∧ w.n = 0) ∨ (w.op = 4 ∧ w.b = [] ∧ w.n = 0) := by
  simp only [opB, Bool.and_eq_true, Bool.or_eq_true, beq_iff_eq, Bool.not_eq_true', beq_eq_false_iff_ne, decide_eq_true_eq, ne_eq] at h
  obtain ⟨_, h⟩ := h
  rcases h with (⟨h1 | h1, h2, h3⟩ | ⟨h1, h2, h3⟩) | ⟨h1 | h1, h2, h3⟩
  · exact .inl ⟨h1, h2, h3⟩
  · exact .inr (.inl ⟨h1, h2, h3⟩)
  · exact .inr (.inr (.inl ⟨h1, h2, h3⟩))
  · exact .inr (.inr (.inr (.inl ⟨h1, h2, h3⟩)))
  · exact .inr (.inr (.inr (.inr ⟨h1, h2, h3⟩)))
theorem set_step {L : List (Bs × Value)} {fs : List FileD} {w : WriteD} (h : Szs L fs) (ho : okFiles [] fs = true) (hl : late w = false) (n : Int) (hn : n - (fileAt fs w.file).b.length = moreI w (fileAt fs w.file))
    (hf : (afterF (fileAt fs w.file) w).name = w.file) (hb : (afterF (fileAt fs w.file) w).b ≠ []) (hbl : ((afterF (fileAt fs w.file) w).b.length : Int) = n) :
    (setM (L, (usedF fs : Int)) w.file n).1 = (fitsO fs 65536 w (fileAt fs w.file) (isAt fs w.file)).isNone ∧ ((fitsO fs 65536 w (fileAt fs w.file) (isAt fs w.file)).isNone = true →
      Szs (setM (L, (usedF fs : Int)) w.file n).2.1 (thenF fs w) ∧ (setM (L, (usedF fs : Int)) w.file n).2.2 = usedF (thenF fs w)) := by
  have h1 := h.has ho w.file
  have h2 := h.old ho w.file
  have h3 := h.len
  have hu := @used_with' fs w.file (afterF (fileAt fs w.file) w)
  unfold setM fitsO thenF
  dsimp only
  simp only [h1, h2, hl, h3, Bool.false_eq_true, if_false]
  cases hi : isAt fs w.file with
  | false =>
    by_cases c1 : 64 ≤ (fs.length : Int)
    · simp [c1]
    · by_cases c2 : 65536 < (usedF fs : Int) + moreI w (fileAt fs w.file)
      · have c3 : 65536 < (usedF fs : Int) - ((fileAt fs w.file).b.length : Int) + n := by omega
        simp [c1, c2, c3]
      · have c3 : ¬ 65536 < (usedF fs : Int) - ((fileAt fs w.file).b.length : Int) + n := by omega
        simp only [c1, c2, c3, decide_false, Bool.not_false, Bool.and_false, Bool.or_false, Bool.false_eq_true, if_false, and_false, Option.isNone_none, true_and, true_implies]
        refine ⟨?_, by omega⟩
        rw [← hbl]; exact h.set ho hf hb
  | true =>
    by_cases c2 : 65536 < (usedF fs : Int) + moreI w (fileAt fs w.file)
    · have c3 : 65536 < (usedF fs : Int) - ((fileAt fs w.file).b.length : Int) + n := by omega
      simp [c2, c3]
    · have c3 : ¬ 65536 < (usedF fs : Int) - ((fileAt fs w.file).b.length : Int) + n := by omega
      simp only [c2, c3, decide_false, Bool.not_true, Bool.false_and, Bool.or_false, Bool.false_eq_true, if_false, Bool.true_eq_false, false_and, Option.isNone_none, true_and, true_implies]
      refine ⟨?_, by omega⟩
      rw [← hbl]; exact h.set ho hf hb
/-- The tally goes as the disk does. -/
theorem tally_step {L : List (Bs × Value)} {fs : List FileD} {w : WriteD} (h : Szs L fs) (ho : okFiles [] fs = true) (hu0 : usedF fs ≤ 65536) (hop : opB w = true) :
    (stepM (L, (usedF fs : Int)) w).1 = goesF fs w ∧ (goesF fs w = true → Szs (stepM (L, (usedF fs : Int)) w).2.1 (thenF fs w) ∧ (stepM (L, (usedF fs : Int)) w).2.2 = usedF (thenF fs w)) := by
  have hu : usedF (thenF fs w) + (fileAt fs w.file).b.length = usedF fs + (afterF (fileAt fs w.file) w).b.length := @used_with' fs w.file (afterF (fileAt fs w.file) w)
  have h1 := h.has ho w.file
  have h2 := h.old ho w.file
  have hname := (after_ok ho hop).1
  simp only [goesF, hop, Bool.true_and]
  rcases op_cases hop with ⟨e, hb, hn⟩ | ⟨e, hb, hn⟩ | ⟨e, hb, hn⟩ | ⟨e, hb, hn⟩ | ⟨e, hb, hn⟩
  · have hs : stepM (L, (usedF fs : Int)) w = setM (L, (usedF fs : Int)) w.file ((fileAt fs w.file).b.length + w.b.length) := by simp only [stepM, e, if_true, growM, h2]
    rw [hs]
    have ha : (afterF (fileAt fs w.file) w).b = (fileAt fs w.file).b ++ w.b := by simp [afterF, e]
    exact set_step h ho (by simp [late, e]) _ (by simp only [moreI, e]; simp; omega) hname (by rw [ha]; simp [hb]) (by rw [ha]; simp)
  · have hs : stepM (L, (usedF fs : Int)) w = setM (L, (usedF fs : Int)) w.file w.b.length := by simp [stepM, e, replM]
    rw [hs]
    have ha : (afterF (fileAt fs w.file) w).b = w.b := by simp [afterF, e]
    exact set_step h ho (by simp [late, e]) _ (by simp only [moreI, e]; simp) hname (by rw [ha]; exact hb) (by rw [ha])
  · have hs : stepM (L, (usedF fs : Int)) w = shortM (L, (usedF fs : Int)) w := by simp [stepM, e]
    rw [hs]
    have hl : late w = true := by simp [late, e]
    have ha : (afterF (fileAt fs w.file) w).b = (fileAt fs w.file).b.take w.n.toNat := by simp [afterF, e]
    unfold shortM fitsO
    simp only [h1, h2, hl, if_true]
    cases hi : isAt fs w.file with
    | false => simp
    | true =>
      have hz : (fileAt fs w.file).b ≠ [] := by
        obtain ⟨hlt, _, e4⟩ := isAt_lt hi
        rw [e4]; exact (ok_mem ho _ (List.getElem_mem hlt)).2.1
      by_cases c : ((fileAt fs w.file).b.length : Int) < w.n
      · simp [c]
      · simp only [c, Bool.not_true, decide_false, Bool.or_false, Bool.false_eq_true, if_false, Bool.true_eq_false, Option.isNone_none, true_implies]
        by_cases c0 : w.n = 0
        · have hb0 : (afterF (fileAt fs w.file) w).b = [] := by rw [ha, c0]; rfl
          rw [if_pos c0]
          simp only [remM, h1, hi, h2, true_and]
          refine ⟨h.del ho hname hb0, ?_⟩
          rw [hb0] at hu; simp at hu; omega
        · rw [if_neg c0]
          have hlen : (((fileAt fs w.file).b.take w.n.toNat).length : Int) = w.n := by rw [List.length_take]; omega
          have hb0 : (afterF (fileAt fs w.file) w).b ≠ [] := by
            rw [ha]; intro e0
            rw [e0] at hlen; simp at hlen; omega
          have hc : ¬ 65536 < (usedF fs : Int) - ((fileAt fs w.file).b.length : Int) + w.n := by omega
          have hset := h.set ho hname hb0
          rw [ha, hlen] at hset
          rw [ha] at hu
          simp only [setM, h1, hi, h2, hc, Bool.not_true, Bool.false_and, decide_false, Bool.or_false, Bool.false_eq_true, if_false, true_and]
          exact ⟨hset, by omega⟩
  · have hs : stepM (L, (usedF fs : Int)) w = hasM (L, (usedF fs : Int)) w := by simp [stepM, e]
    rw [hs]
    have hl : late w = true := by simp [late, e]
    have ha : (afterF (fileAt fs w.file) w).b = (fileAt fs w.file).b := by simp [afterF, e]
    unfold hasM fitsO
    simp only [h1, hl, if_true]
    cases hi : isAt fs w.file with
    | false => simp
    | true =>
      have hz : (fileAt fs w.file).b ≠ [] := by
        obtain ⟨hlt, _, e4⟩ := isAt_lt hi
        rw [e4]; exact (ok_mem ho _ (List.getElem_mem hlt)).2.1
      have c : ¬ ((fileAt fs w.file).b.length : Int) < w.n := by omega
      simp only [c, Bool.true_eq_false, if_false, Option.isNone_none, true_and, true_implies]
      refine ⟨h.same ho hi hname ha (by rw [ha]; exact hz), ?_⟩
      rw [ha] at hu; omega
  · have hs : stepM (L, (usedF fs : Int)) w = remM (L, (usedF fs : Int)) w.file := by simp [stepM, e]
    rw [hs]
    have hl : late w = true := by simp [late, e]
    have ha : (afterF (fileAt fs w.file) w).b = [] := by simp [afterF, e]
    unfold remM fitsO
    simp only [h1, h2, hl, if_true]
    cases hi : isAt fs w.file with
    | false => simp
    | true =>
      have c : ¬ ((fileAt fs w.file).b.length : Int) < w.n := by omega
      simp only [c, Bool.true_eq_false, if_false, Option.isNone_none, true_and, true_implies]
      refine ⟨h.del ho hname ha, ?_⟩
      rw [ha] at hu; simp at hu; omega
end Go.Proofs.YtdpfjdkjimaocaaDoor
