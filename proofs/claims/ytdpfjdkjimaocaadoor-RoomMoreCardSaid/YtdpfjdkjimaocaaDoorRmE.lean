/- Room, plain: the way, step by step. -/
import Derived.Test.YtdpfjdkjimaocaaDoorRmB
namespace Go.Proofs.YtdpfjdkjimaocaaDoor
open Go Go.RowKit
set_option linter.unusedVariables false
set_option linter.unusedSimpArgs false
def fsAt (fs : List FileD) (ws : List WriteD) : Nat → List FileD
  | 0 => fs
  | k + 1 => match ws[k]? with
    | some w => thenF (fsAt fs ws k) w
    | none => fsAt fs ws k
def tAt (t : Tal) (ws : List WriteD) : Nat → Tal
  | 0 => t
  | k + 1 => match ws[k]? with
    | some w => (stepM (tAt t ws k) w).2
    | none => tAt t ws k
def goesTo (fs : List FileD) (ws : List WriteD) (k : Nat) : Prop := ∀ j w, j < k → ws[j]? = some w → goesF (fsAt fs ws j) w = true
theorem fsAt_succ (fs : List FileD) (w : WriteD) (ws : List WriteD) : ∀ k, fsAt fs (w :: ws) (k + 1) = fsAt (thenF fs w) ws k
  | 0 => rfl
  | k + 1 => by
    show (match (w :: ws)[k + 1]? with | some w' => thenF (fsAt fs (w :: ws) (k + 1)) w' | none => fsAt fs (w :: ws) (k + 1)) = _
    rw [fsAt_succ fs w ws k]; rfl
theorem goesTo_succ {fs : List FileD} {w : WriteD} {ws : List WriteD} {k : Nat} (h : goesTo fs (w :: ws) (k + 1)) : goesF fs w = true ∧ goesTo (thenF fs w) ws k :=
  ⟨h 0 w (by omega) rfl, fun j w' hj hw => by rw [← fsAt_succ]; exact h (j + 1) w' (by omega) hw⟩
theorem way_get : ∀ (ws : List WriteD) (fs : List FileD) (k : Nat), goesTo fs ws k → k ≤ ws.length → (wayF fs ws)[k]? = some ((usedF (fsAt fs ws k) : Int), ((fsAt fs ws k).length : Int))
  | [], fs, k, _, hk => by simp at hk; subst hk; rfl
  | w :: ws, fs, 0, _, _ => rfl
  | w :: ws, fs, k + 1, h, hk => by
    obtain ⟨h1, h2⟩ := goesTo_succ h
    have ih := way_get ws (thenF fs w) k h2 (by simpa using hk)
    rw [fsAt_succ]
    show ((_ : Int × Int) :: (if goesF fs w then wayF (thenF fs w) ws else []))[k + 1]? = _
    rw [h1, if_pos rfl]; exact ih
theorem way_end : ∀ (ws : List WriteD) (fs : List FileD) (k : Nat), goesTo fs ws k → (k = ws.length ∨ ∃ w, ws[k]? = some w ∧ goesF (fsAt fs ws k) w = false) → (wayF fs ws).length = k + 1
  | [], fs, k, _, hk => by
    rcases hk with rfl | ⟨w, hw, _⟩
    · rfl
    · simp at hw
  | w :: ws, fs, 0, _, hk => by
    rcases hk with hk | ⟨w', hw, hg⟩
    · simp at hk
    · simp at hw; subst hw
      have hg : goesF fs w = false := hg
      show ((_ : Int × Int) :: (if goesF fs w then wayF (thenF fs w) ws else [])).length = _
      rw [hg]; rfl
  | w :: ws, fs, k + 1, h, hk => by
    obtain ⟨h1, h2⟩ := goesTo_succ h
    have ih := way_end ws (thenF fs w) k h2 (by
      rcases hk with hk | ⟨w', hw, hg⟩
      · exact .inl (by simpa using hk)
      · exact .inr ⟨w', by simpa using hw, by rw [← fsAt_succ]; exact hg⟩)
    show ((_ : Int × Int) :: (if goesF fs w then wayF (thenF fs w) ws else [])).length = _
    rw [h1, if_pos rfl, List.length_cons, ih]
/-- A disk of the greatest size that may be. -/
abbrev okD (fs : List FileD) : Prop := validB fs 65536 = true
theorem goes_ok {fs : List FileD} {w : WriteD} (h : okD fs) (hg : goesF fs w = true) : okD (thenF fs w) := by
  simp only [goesF, Bool.and_eq_true, Option.isNone_iff_eq_none] at hg
  exact do_valid h hg.1 hg.2
theorem goesTo_less {fs : List FileD} {ws : List WriteD} {k : Nat} (h : goesTo fs ws (k + 1)) : goesTo fs ws k := fun j w hj hw => h j w (by omega) hw
theorem fsAt_ok {fs : List FileD} {ws : List WriteD} (h : okD fs) : ∀ {k : Nat}, goesTo fs ws k → okD (fsAt fs ws k)
  | 0, _ => h
  | k + 1, hg => by
    have ih := fsAt_ok (k := k) h (goesTo_less hg)
    show okD (match ws[k]? with | some w => thenF (fsAt fs ws k) w | none => fsAt fs ws k)
    cases hw : ws[k]? with
    | none => exact ih
    | some w => exact goes_ok ih (hg k w (by omega) hw)
theorem tAt_ok {fs : List FileD} {ws : List WriteD} {L : List (Bs × Value)} (hL : Szs L fs) (h : okD fs) : ∀ {k : Nat}, goesTo fs ws k → Szs (tAt (L, (usedF fs : Int)) ws k).1 (fsAt fs ws k) ∧ (tAt (L, (usedF fs : Int)) ws k).2 = usedF (fsAt fs ws k)
  | 0, _ => ⟨hL, rfl⟩
  | k + 1, hg => by
    obtain ⟨i1, i2⟩ := tAt_ok (k := k) hL h (goesTo_less hg)
    have ho := fsAt_ok (k := k) h (goesTo_less hg)
    simp only [tAt, fsAt]
    cases hw : ws[k]? with
    | none => exact ⟨i1, i2⟩
    | some w =>
      have hgo := hg k w (by omega) hw
      have hop : opB w = true := by simp only [goesF, Bool.and_eq_true] at hgo; exact hgo.1
      obtain ⟨v1, v2, v3, v4, v5⟩ := valid_ok ho
      have := (tally_step i1 v1 (by omega) hop).2 hgo
      rw [← i2] at this
      exact this
theorem tal_ok {fs : List FileD} {t : Tal} (hL : Szs t.1 fs) (hs : t.2 = usedF fs) (h : okD fs) : TalOk t := by
  obtain ⟨v1, v2, v3, v4, v5⟩ := valid_ok h
  refine ⟨fun nm => ?_, by omega, by have := hL.len; omega⟩
  rw [hL.at v1]
  cases hi : isAt fs nm with
  | false => exact .inl rfl
  | true =>
    refine .inr ⟨(fileAt fs nm).b.length, by omega, ?_, rfl⟩
    obtain ⟨hlt, _, e⟩ := isAt_lt hi
    have := mem_used fs[findAt fs nm] (List.getElem_mem hlt)
    rw [e]; omega
theorem old_le {fs : List FileD} {t : Tal} (hL : Szs t.1 fs) (h : okD fs) (nm : Bs) : oldOf nm t.1 ≤ 65536 := by
  obtain ⟨v1, v2, v3, v4, v5⟩ := valid_ok h
  rw [hL.old v1]
  cases hi : isAt fs nm with
  | false => rw [isAt_no hi]; simp
  | true =>
    obtain ⟨hlt, _, e⟩ := isAt_lt hi
    have := mem_used fs[findAt fs nm] (List.getElem_mem hlt)
    rw [e]; omega
end Go.Proofs.YtdpfjdkjimaocaaDoor
