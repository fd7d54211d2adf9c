/- Room, plain: what fits. -/
import Derived.Test.YtdpfjdkjimaocaaDoorRmI
namespace Go.Proofs.YtdpfjdkjimaocaaDoor
open Go Go.RowKit
set_option linter.unusedVariables false
set_option linter.unusedSimpArgs false
theorem cap_goes {fs : List FileD} {cap : Int} {w : WriteD} (hv : validB fs cap = true) (hop : opB w = true) :
    (fitsO fs cap w (fileAt fs w.file) (isAt fs w.file) = none) ↔ (goesF fs w = true ∧ (usedF (thenF fs w) : Int) ≤ cap) := by
  obtain ⟨v1, v2, v3, v4, v5⟩ := valid_ok hv
  have hu : usedF (thenF fs w) + (fileAt fs w.file).b.length = usedF fs + (afterF (fileAt fs w.file) w).b.length := @used_with' fs w.file (afterF (fileAt fs w.file) w)
  simp only [goesF, hop, Bool.true_and]
  unfold fitsO
  rcases op_cases hop with ⟨e, hb, hn⟩ | ⟨e, hb, hn⟩ | ⟨e, hb, hn⟩ | ⟨e, hb, hn⟩ | ⟨e, hb, hn⟩
  · have hl : late w = false := by simp [late, e]
    have ha : (afterF (fileAt fs w.file) w).b.length = (fileAt fs w.file).b.length + w.b.length := by simp [afterF, e]
    have hm : moreI w (fileAt fs w.file) = w.b.length := by simp [moreI, e]
    rw [ha] at hu
    simp only [hl, hm, Bool.false_eq_true, if_false]
    by_cases c1 : isAt fs w.file = false ∧ 64 ≤ (fs.length : Int)
    · simp [c1]
    · simp only [c1, if_false]
      by_cases c2 : cap < (usedF fs : Int) + w.b.length
      · simp only [c2, if_true, reduceCtorEq, false_iff, not_and]; intro _; omega
      · have c3 : ¬ 65536 < (usedF fs : Int) + w.b.length := by omega
        simp only [c2, c3, if_false, Option.isNone_none, true_and, true_iff]; omega
  · have hl : late w = false := by simp [late, e]
    have ha : (afterF (fileAt fs w.file) w).b.length = w.b.length := by simp [afterF, e]
    have hm : moreI w (fileAt fs w.file) = w.b.length - (fileAt fs w.file).b.length := by simp [moreI, e]
    rw [ha] at hu
    simp only [hl, hm, Bool.false_eq_true, if_false]
    by_cases c1 : isAt fs w.file = false ∧ 64 ≤ (fs.length : Int)
    · simp [c1]
    · simp only [c1, if_false]
      by_cases c2 : cap < (usedF fs : Int) + (w.b.length - (fileAt fs w.file).b.length)
      · simp only [c2, if_true, reduceCtorEq, false_iff, not_and]; intro _; omega
      · have c3 : ¬ 65536 < (usedF fs : Int) + (w.b.length - (fileAt fs w.file).b.length) := by omega
        simp only [c2, c3, if_false, Option.isNone_none, true_and, true_iff]; omega
  all_goals
    have hl : late w = true := by simp [late, e]
    have ha : (afterF (fileAt fs w.file) w).b.length ≤ (fileAt fs w.file).b.length := by simp [afterF, e] <;> omega
    simp only [hl, if_true]
    by_cases c1 : isAt fs w.file = false
    · simp [c1]
    · by_cases c2 : ((fileAt fs w.file).b.length : Int) < w.n
      · simp [c1, c2]
      · have hcap : (usedF (thenF fs w) : Int) ≤ cap := by omega
        have hi : isAt fs w.file = true := by simpa using c1
        simp only [hi, c2, Bool.true_eq_false, if_false, Option.isNone_none, true_and, true_iff]; exact hcap
/-- Done so far, on a disk of that size. -/
def doneTo (fs : List FileD) (cap : Int) (ws : List WriteD) (k : Nat) : Prop := goesTo fs ws k ∧ ∀ j, j ≤ k → (usedF (fsAt fs ws j) : Int) ≤ cap
theorem done_zero {fs : List FileD} {cap : Int} (ws : List WriteD) (hv : validB fs cap = true) : doneTo fs cap ws 0 := by
  obtain ⟨v1, v2, v3, v4, v5⟩ := valid_ok hv
  exact ⟨fun j w hj => by omega, fun j hj => by rw [show j = 0 by omega]; exact v5⟩
theorem done_valid {fs : List FileD} {cap : Int} {ws : List WriteD} {k : Nat} (hv : validB fs cap = true) (h : doneTo fs cap ws k) : validB (fsAt fs ws k) cap = true := by
  obtain ⟨v1, v2, v3, v4, v5⟩ := valid_ok hv
  obtain ⟨u1, u2, u3, u4, u5⟩ := valid_ok (fsAt_ok (valid_great hv) h.1)
  exact valid_iff.2 ⟨u1, v2, v3, u4, h.2 k (Nat.le_refl _)⟩
theorem done_step {fs : List FileD} {cap : Int} {ws : List WriteD} {k : Nat} {w : WriteD} (h : doneTo fs cap ws k) (hw : ws[k]? = some w) (hg : goesF (fsAt fs ws k) w = true) (hu : (usedF (thenF (fsAt fs ws k) w) : Int) ≤ cap) : doneTo fs cap ws (k + 1) := by
  refine ⟨fun j w' hj hw' => ?_, fun j hj => ?_⟩
  · rcases Nat.lt_or_ge j k with h1 | h1
    · exact h.1 j w' h1 hw'
    · obtain rfl : j = k := by omega
      rw [hw] at hw'; cases hw'; exact hg
  · rcases Nat.lt_or_ge j (k + 1) with h1 | h1
    · exact h.2 j (by omega)
    · obtain rfl : j = k + 1 := by omega
      simp only [fsAt, hw]; exact hu
theorem do_done {fs : List FileD} {cap : Int} {ws : List WriteD} {k : Nat} {w : WriteD} (hv : validB fs cap = true) (h : doneTo fs cap ws k) (hw : ws[k]? = some w) :
    (doF ⟨fsAt fs ws k, cap, -1, false⟩ w = (⟨fsAt fs ws (k + 1), cap, -1, false⟩, 0) ∧ doneTo fs cap ws (k + 1)) ∨ ((doF ⟨fsAt fs ws k, cap, -1, false⟩ w).2 ≠ 0 ∧ ¬ doneTo fs cap ws (k + 1)) := by
  have hvk := done_valid hv h
  have hf : fsAt fs ws (k + 1) = thenF (fsAt fs ws k) w := by simp only [fsAt, hw]
  unfold doF
  simp only [hvk, Bool.true_and, Bool.false_eq_true, if_false]
  cases hop : opB w with
  | false =>
    refine .inr ⟨by simp, fun hd => ?_⟩
    have := hd.1 k w (by omega) hw
    simp only [goesF, hop, Bool.false_and] at this; cases this
  | true =>
    have hc := cap_goes hvk hop
    simp only [Bool.not_true, Bool.false_eq_true, if_false]
    rw [if_neg (by decide)]
    cases hfo : fitsO (fsAt fs ws k) cap w (fileAt (fsAt fs ws k) w.file) (isAt (fsAt fs ws k) w.file) with
    | none =>
      obtain ⟨h1, h2⟩ := hc.1 hfo
      refine .inl ⟨?_, done_step h hw h1 h2⟩
      rw [hf]
      simp
    | some r =>
      obtain ⟨s, n⟩ := r
      refine .inr ⟨?_, fun hd => ?_⟩
      · unfold fitsO at hfo
        show n ≠ 0
        intro e0
        subst e0
        (repeat' split at hfo) <;> cases hfo
      · have h1 := hd.1 k w (by omega) hw
        have h2 := hd.2 (k + 1) (Nat.le_refl _)
        rw [hf] at h2
        have := hc.2 ⟨h1, h2⟩
        rw [hfo] at this; cases this
theorem done_less {fs : List FileD} {cap : Int} {ws : List WriteD} {k : Nat} : ∀ {m : Nat}, doneTo fs cap ws m → k ≤ m → doneTo fs cap ws k := fun h hk => ⟨fun j w hj hw => h.1 j w (by omega) hw, fun j hj => h.2 j (by omega)⟩
/-- What fits is what is done. -/
theorem fits_done {fs : List FileD} {cap : Int} {ws : List WriteD} (hv : validB fs cap = true) : fitsR fs cap false ws = true ↔ doneTo fs cap ws ws.length := by
  have e : fitsR fs cap false ws = ((wayF fs ws).all (okP cap) && (((wayF fs ws).length : Int) - 1 == ws.length)) := by simp [fitsR, hv]
  rw [e, Bool.and_eq_true, beq_iff_eq]
  constructor
  · rintro ⟨h1, h2⟩
    have hgo : ∀ k, k ≤ ws.length → goesTo fs ws k := by
      intro k
      induction k with
      | zero => intro _ j w hj; omega
      | succ k ih =>
        intro hk j w hj hw
        have ihk := ih (by omega)
        rcases Nat.lt_or_ge j k with h3 | h3
        · exact ihk j w h3 hw
        · obtain rfl : j = k := by omega
          cases hg : goesF (fsAt fs ws j) w with
          | true => rfl
          | false =>
            have := way_end ws fs j ihk (.inr ⟨w, hw, hg⟩)
            omega
    refine ⟨hgo _ (Nat.le_refl _), fun j hj => ?_⟩
    have hget := way_get ws fs j (hgo j hj) hj
    have := List.all_eq_true.1 h1 _ (List.mem_of_getElem? hget)
    simpa using this
  · intro h
    have hlen := way_end ws fs ws.length h.1 (.inl rfl)
    refine ⟨?_, by omega⟩
    rw [List.all_eq_true]
    intro x hx
    obtain ⟨j, hj, rfl⟩ := List.getElem_of_mem hx
    have hget := way_get ws fs j (done_less h (by omega)).1 (by omega)
    have : (wayF fs ws)[j] = _ := (List.getElem?_eq_some_iff.1 hget).2
    rw [this]
    exact decide_eq_true (h.2 j (by omega))
theorem foldl_mx {α : Type} (g : α → Int) : ∀ (xs : List α) (m : Int), m ≤ xs.foldl (fun m p => mxI m (g p)) m ∧ (∀ p ∈ xs, g p ≤ xs.foldl (fun m p => mxI m (g p)) m) ∧ (xs.foldl (fun m p => mxI m (g p)) m = m ∨ ∃ p ∈ xs, xs.foldl (fun m p => mxI m (g p)) m = g p)
  | [], m => ⟨by simp, by simp, .inl rfl⟩
  | x :: xs, m => by
    obtain ⟨h1, h2, h3⟩ := foldl_mx g xs (mxI m (g x))
    have e1 : m ≤ mxI m (g x) := by unfold mxI; split <;> omega
    have e2 : g x ≤ mxI m (g x) := by unfold mxI; split <;> omega
    refine ⟨Int.le_trans e1 h1, fun p hp => ?_, ?_⟩
    · rcases List.mem_cons.1 hp with rfl | hp
      · exact Int.le_trans e2 h1
      · exact h2 p hp
    · rcases h3 with h3 | ⟨p, hp, h3⟩
      · by_cases c : m < g x
        · exact .inr ⟨x, by simp, by rw [List.foldl_cons, h3]; simp [mxI, c]⟩
        · exact .inl (by rw [List.foldl_cons, h3]; simp [mxI, c])
      · exact .inr ⟨p, by simp [hp], by rw [List.foldl_cons]; exact h3⟩
theorem mxB_ge {xs : List (Int × Int)} {p : Int × Int} (h : p ∈ xs) : p.1 ≤ mxB xs ∧ p.2 ≤ mxF xs := ⟨(foldl_mx (fun p : Int × Int => p.1) xs 0).2.1 p h, (foldl_mx (fun p : Int × Int => p.2) xs 0).2.1 p h⟩
/-- With a byte less of room they do not fit. -/
theorem small_no {fs : List FileD} {ws : List WriteD} {cap : Int} (hv : validB fs cap = true) (hc : cap < mxB (wayF fs ws)) (hm : 0 < mxB (wayF fs ws)) : fitsR fs cap false ws = false := by
  have e : fitsR fs cap false ws = ((wayF fs ws).all (okP cap) && (((wayF fs ws).length : Int) - 1 == ws.length)) := by simp [fitsR, hv]
  rw [e]
  have : (wayF fs ws).all (okP cap) = false := by
    rw [List.all_eq_false]
    rcases (foldl_mx (fun p : Int × Int => p.1) (wayF fs ws) 0).2.2 with h | ⟨p, hp, h⟩
    · have : mxB (wayF fs ws) = 0 := h
      omega
    · have : mxB (wayF fs ws) = p.1 := h
      exact ⟨p, hp, by simp; omega⟩
  rw [this]; rfl
theorem most_ge {fs : List FileD} {cap : Int} {ws : List WriteD} {k : Nat} (hk : k ≤ ws.length) (h : doneTo fs cap ws k) : (usedF (fsAt fs ws k) : Int) ≤ mxB (wayF fs ws) ∧ ((fsAt fs ws k).length : Int) ≤ mxF (wayF fs ws) :=
  mxB_ge (List.mem_of_getElem? (way_get ws fs k h.1 hk))
/-! beginnings and ends -/
theorem fsAt_take (fs : List FileD) (ws : List WriteD) (k : Nat) : ∀ j, j ≤ k → fsAt fs (ws.take k) j = fsAt fs ws j
  | 0, _ => rfl
  | j + 1, h => by
    simp only [fsAt]
    rw [fsAt_take fs ws k j (by omega), List.getElem?_take, if_pos (by omega)]
theorem done_take {fs : List FileD} {cap : Int} {ws : List WriteD} {k : Nat} (hk : k ≤ ws.length) (h : doneTo fs cap ws ws.length) : doneTo fs cap (ws.take k) (ws.take k).length := by
  have e : (ws.take k).length = k := by simp; omega
  rw [e]
  refine ⟨fun j w hj hw => ?_, fun j hj => by rw [fsAt_take fs ws k j hj]; exact h.2 j (by omega)⟩
  rw [List.getElem?_take, if_pos (by omega)] at hw
  rw [fsAt_take fs ws k j (by omega)]
  exact h.1 j w (by omega) hw
theorem fsAt_drop (fs : List FileD) (ws : List WriteD) (k : Nat) : ∀ j, fsAt (fsAt fs ws k) (ws.drop k) j = fsAt fs ws (k + j)
  | 0 => rfl
  | j + 1 => by
    show (match (ws.drop k)[j]? with | some w => _ | none => _) = (match ws[k + j]? with | some w => _ | none => _)
    rw [List.getElem?_drop, fsAt_drop fs ws k j]; rfl
theorem done_drop {fs : List FileD} {cap : Int} {ws : List WriteD} {k : Nat} (hk : k ≤ ws.length) (h : doneTo fs cap ws ws.length) : doneTo (fsAt fs ws k) cap (ws.drop k) (ws.drop k).length := by
  have e : (ws.drop k).length = ws.length - k := by simp
  rw [e]
  refine ⟨fun j w hj hw => ?_, fun j hj => by rw [fsAt_drop]; exact h.2 _ (by omega)⟩
  rw [List.getElem?_drop] at hw
  rw [fsAt_drop]
  exact h.1 _ w (by omega) hw
end Go.Proofs.YtdpfjdkjimaocaaDoor
