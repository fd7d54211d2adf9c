/- Package table: tables as plain data, and what its functions answer. -/
import Derived.Test.YticbdcpdooahjaaDoorReD
namespace Go.Proofs.YticbdcpdooahjaaDoor
open Go Go.RowKit
set_option maxHeartbeats 4000000
set_option maxRecDepth 100000
set_option linter.unusedVariables false
set_option linter.unusedSimpArgs false
structure TabD where
  start : Int
  fin : Int
  news : List Int
abbrev intsT (l : List Int) : D := .lst 1 (l.map fun n => [int n])
def TabD.dv (t : TabD) : List D := [int t.start, int t.fin, .lst 1 (t.news.map fun n => [int n])]
def tabZ : TabD := ⟨0, 0, []⟩
def upB : Int → List Int → Bool
  | _, [] => true
  | m, n :: l => !(decide (n < m) || decide (1048576 < n)) && upB n l
def tabBad (t : TabD) : Bool := decide (t.start < 0) || decide (t.fin < t.start) || decide (1048576 < t.fin)
def tabLen (t : TabD) : Bool := (t.news.length : Int) == t.fin - t.start + 1
/-- A table that is valid. -/
def tabB (t : TabD) : Bool := !tabBad t && tabLen t && upB 0 t.news
theorem upB_take : ∀ (m : Int) (l : List Int) (k : Nat), upB m l = true → upB m (l.take k) = true
  | _, [], k, _ => by simp [upB]
  | m, n :: l, 0, _ => by simp [upB]
  | m, n :: l, k + 1, h => by
    simp only [upB, Bool.and_eq_true, List.take_succ_cons] at h ⊢
    exact ⟨h.1, upB_take n l k h.2⟩
theorem upB_get : ∀ (m : Int) (l : List Int), upB m l = true → ∀ (i : Nat) (hi : i < l.length), m ≤ l[i] ∧ l[i] ≤ 1048576
  | m, n :: l, h, 0, hi => by
    simp only [upB, Bool.and_eq_true, Bool.not_eq_true', Bool.or_eq_false_iff, decide_eq_false_iff_not] at h
    simp only [List.getElem_cons_zero]; omega
  | m, n :: l, h, i + 1, hi => by
    simp only [upB, Bool.and_eq_true, Bool.not_eq_true', Bool.or_eq_false_iff, decide_eq_false_iff_not] at h
    have := upB_get n l h.2 i (by simpa using hi)
    simp only [List.getElem_cons_succ]; omega
theorem upB_mono : ∀ (m : Int) (l : List Int), upB m l = true → ∀ (i j : Nat) (hj : j < l.length) (hij : i ≤ j), l[i] ≤ l[j]
  | m, n :: l, h, 0, 0, hj, _ => Int.le_refl _
  | m, n :: l, h, 0, j + 1, hj, hij => by
    simp only [upB, Bool.and_eq_true] at h
    have := upB_get n l h.2 j (by simpa using hj)
    simp only [List.getElem_cons_zero, List.getElem_cons_succ]; omega
  | m, n :: l, h, i + 1, j + 1, hj, hij => by
    simp only [upB, Bool.and_eq_true] at h
    have := upB_mono n l h.2 i j (by simpa using hj) (by omega)
    simpa using this
theorem upB_of : ∀ (m : Int) (l : List Int), (∀ (i : Nat) (hi : i < l.length), m ≤ l[i] ∧ l[i] ≤ 1048576) → (∀ (i : Nat) (hi : i + 1 < l.length), l[i] ≤ l[i + 1]) → upB m l = true
  | _, [], _, _ => rfl
  | m, n :: l, h, hs => by
    have h0 := h 0 (by simp)
    simp only [List.getElem_cons_zero] at h0
    simp only [upB, Bool.and_eq_true, Bool.not_eq_true', Bool.or_eq_false_iff, decide_eq_false_iff_not]
    refine ⟨by omega, upB_of n l (fun i hi => ?_) (fun i hi => by have := hs (i + 1) (by simpa using hi); simpa using this)⟩
    have h1 := h (i + 1) (by simpa using hi)
    simp only [List.getElem_cons_succ] at h1
    refine ⟨?_, h1.2⟩
    have key : ∀ (k : Nat) (hk : k < (n :: l).length), n ≤ (n :: l)[k] := by
      intro k
      induction k with
      | zero => intro _; exact Int.le_refl _
      | succ k ih => intro hk; have := ih (by omega); have := hs k hk; omega
    have := key (i + 1) (by simpa using hi)
    simpa using this
theorem tab_range {t : TabD} (h : tabB t = true) : 0 ≤ t.start ∧ t.start ≤ t.fin ∧ t.fin ≤ 1048576 ∧ (t.news.length : Int) = t.fin - t.start + 1 ∧ upB 0 t.news = true := by
  simp only [tabB, tabBad, tabLen, Bool.and_eq_true, Bool.not_eq_true', Bool.or_eq_false_iff, decide_eq_false_iff_not, beq_iff_eq] at h
  refine ⟨?_, ?_, ?_, h.1.2, h.2⟩ <;> omega
/-- The new offset of an old one, in the table from old to fresh. -/
def newAt (old fresh : PartD) (n : Int) : Int := match fresh.rows[fromI old n]? with
  | some r => r.off
  | none => fresh.fin
def newsF (old fresh : PartD) (k : Nat) : List Int := (List.range k).map fun i : Nat => newAt old fresh (old.start + (i : Int))
def matchB (old fresh : PartD) : Bool := partB old && partB fresh && old.rows.length == fresh.rows.length
def tabOf (old fresh : PartD) : TabD := ⟨old.start, old.fin, newsF old fresh (old.fin - old.start + 1).toNat⟩
def makeF (old fresh : PartD) : TabD × Int := if matchB old fresh then (tabOf old fresh, 0) else (tabZ, 2)
def toF (t : TabD) (off : Int) : Int × Int :=
  if !tabB t then (0, 2) else if off == -1 then (-1, 0) else if decide (off < -1) || decide (t.fin < off) then (0, 130) else (t.news.getD (off - t.start).toNat 0, 0)
def aboveI (t : TabD) (off : Int) : Nat := t.news.findIdx fun n => decide (off < n)
def backF (t : TabD) (off : Int) : Int × Bool :=
  if !tabB t then (0, false) else if aboveI t off = 0 then (0, false) else if t.news.getD (aboveI t off - 1) 0 == off then (t.start + (aboveI t off - 1 : Nat), true) else (0, false)
def joinBad (a b : TabD) : Bool := !tabB a || !tabB b || decide (a.news.getD 0 0 < b.start) || decide (b.fin < a.news.getD (a.news.length - 1) 0)
def joinOf (a b : TabD) : TabD := ⟨a.start, a.fin, a.news.map fun n => b.news.getD (n - b.start).toNat 0⟩
def joinF (a b : TabD) : TabD × Int := if joinBad a b then (tabZ, 2) else (joinOf a b, 0)
theorem newsF_len (old fresh : PartD) (k : Nat) : (newsF old fresh k).length = k := by simp [newsF]
theorem newsF_get {old fresh : PartD} {k i : Nat} (h : i < k) : (newsF old fresh k)[i]? = some (newAt old fresh (old.start + i)) := by simp [newsF, h]
theorem newsF_succ (old fresh : PartD) (k : Nat) : newsF old fresh (k + 1) = newsF old fresh k ++ [newAt old fresh (old.start + k)] := by
  simp [newsF, List.range_succ]
theorem match_of {old fresh : PartD} (h : matchB old fresh = true) : partB old = true ∧ partB fresh = true ∧ old.rows.length = fresh.rows.length := by
  simp only [matchB, Bool.and_eq_true, beq_iff_eq] at h
  exact ⟨h.1.1, h.1.2, h.2⟩
theorem from_mono (p : PartD) {m n : Int} (h : m ≤ n) : fromI p m ≤ fromI p n := by
  rcases Nat.lt_or_ge (fromI p n) (fromI p m) with hlt | hge
  · have h1 := List.not_of_lt_findIdx hlt
    have hl : fromI p n < p.rows.length := Nat.lt_of_lt_of_le hlt (from_le p m)
    have h2 : decide (n ≤ (p.rows[fromI p n]).off) = true := List.findIdx_getElem (p := fun r : RowD => decide (n ≤ r.off)) (xs := p.rows) (w := hl)
    simp only [decide_eq_true_eq, decide_eq_false_iff_not] at h1 h2
    simp at h1
    omega
  · exact hge
theorem newAt_le {old fresh : PartD} (hf : partB fresh = true) (n : Int) : 0 ≤ newAt old fresh n ∧ fresh.start ≤ newAt old fresh n ∧ newAt old fresh n ≤ fresh.fin := by
  obtain ⟨h1, h2, h3⟩ := part_range hf
  unfold newAt
  cases hq : fresh.rows[fromI old n]? with
  | none => simp only; omega
  | some r =>
    have := part_rows hf r (List.mem_of_getElem? hq)
    simp only; omega
theorem newAt_mono {old fresh : PartD} (hf : partB fresh = true) {m n : Int} (h : m ≤ n) : newAt old fresh m ≤ newAt old fresh n := by
  have hm := from_mono old h
  unfold newAt
  cases hq : fresh.rows[fromI old n]? with
  | none =>
    have := newAt_le (old := old) hf m
    unfold newAt at this
    exact this.2.2
  | some r =>
    have hl := (List.getElem?_eq_some_iff.1 hq).1
    have hl2 : fromI old m < fresh.rows.length := by omega
    rw [List.getElem?_eq_getElem hl2]
    rw [List.getElem?_eq_getElem hl] at hq
    cases hq
    simp only
    rcases Nat.lt_or_ge (fromI old m) (fromI old n) with h1 | h1
    · have := ris_get _ (part_ris hf) (fromI old m) (fromI old n) (by simpa using hl) h1
      simp only [List.getElem_map] at this
      omega
    · have e : fromI old m = fromI old n := by omega
      simp only [e]; exact Int.le_refl _
theorem tab_make {old fresh : PartD} (h : matchB old fresh = true) : tabB (tabOf old fresh) = true := by
  obtain ⟨ho, hf, hl⟩ := match_of h
  obtain ⟨h1, h2, h3⟩ := part_range ho
  obtain ⟨g1, g2, g3⟩ := part_range hf
  have hbad : tabBad (tabOf old fresh) = false := by
    show (decide (old.start < 0) || decide (old.fin < old.start) || decide (1048576 < old.fin)) = false
    simp only [Bool.or_eq_false_iff, decide_eq_false_iff_not]
    omega
  have hlen : tabLen (tabOf old fresh) = true := by
    simp only [tabLen, tabOf, beq_iff_eq, newsF_len]; omega
  simp only [tabB, hbad, hlen, Bool.not_false, Bool.true_and]
  refine upB_of _ _ (fun i hi => ?_) (fun i hi => ?_) <;> simp only [tabOf] at hi ⊢
  · rw [newsF_len] at hi
    have h4 := newsF_get (old := old) (fresh := fresh) hi
    rw [List.getElem?_eq_getElem (by rw [newsF_len]; exact hi)] at h4
    have := newAt_le (old := old) hf (old.start + i)
    simp only [Option.some.injEq] at h4
    rw [h4]; omega
  · rw [newsF_len] at hi
    have h4 := newsF_get (old := old) (fresh := fresh) (show i < _ from by omega : i < (old.fin - old.start + 1).toNat)
    have h5 := newsF_get (old := old) (fresh := fresh) hi
    rw [List.getElem?_eq_getElem (by rw [newsF_len]; omega)] at h4 h5
    simp only [Option.some.injEq] at h4 h5
    rw [h4, h5]
    exact newAt_mono hf (by omega)
theorem to_in {t : TabD} (h : tabB t = true) {off : Int} (h1 : 0 ≤ off) (h2 : off ≤ t.fin) : toF t off = (t.news.getD (off - t.start).toNat 0, 0) := by
  have e1 : (off == -1) = false := by simp; omega
  have e2 : (decide (off < -1) || decide (t.fin < off)) = false := by simp; omega
  simp only [toF, h, e1, e2, Bool.not_true, Bool.false_eq_true, if_false]
theorem to_make {old fresh : PartD} (h : matchB old fresh = true) {off : Int} (h1 : old.start ≤ off) (h2 : off ≤ old.fin) : toF (tabOf old fresh) off = (newAt old fresh off, 0) := by
  obtain ⟨ho, hf, hl⟩ := match_of h
  obtain ⟨g1, g2, g3⟩ := part_range ho
  rw [to_in (tab_make h) (by omega) (by simpa [tabOf] using h2)]
  simp only [tabOf]
  have h4 := newsF_get (old := old) (fresh := fresh) (show (off - old.start).toNat < (old.fin - old.start + 1).toNat by omega)
  rw [List.getD_eq_getElem?_getD, h4]
  simp only [Option.getD_some]
  congr 2
  omega
/-! the laws -/
theorem from_row {p : PartD} (h : partB p = true) (k : Nat) (hk : k < p.rows.length) : fromI p p.rows[k].off = k := by
  have hr := part_ris h
  have h1 : decide (fromI p p.rows[k].off ≤ k) = true := by rw [← from_ge hr _ k hk]; simp
  simp only [decide_eq_true_eq] at h1
  rcases Nat.lt_or_ge (fromI p p.rows[k].off) k with h2 | h2
  · have h3 := ris_get _ hr (fromI p p.rows[k].off) k (by simpa using hk) h2
    simp only [List.getElem_map] at h3
    have h4 := from_ge hr p.rows[k].off (fromI p p.rows[k].off) (by omega)
    simp only [Nat.le_refl, decide_true, decide_eq_true_eq] at h4
    omega
  · omega
/-- On a row's offset the table rises to the row in the same place. -/
theorem new_row {old fresh : PartD} (h : matchB old fresh = true) (k : Nat) (hk : k < old.rows.length) (hk' : k < fresh.rows.length) : newAt old fresh old.rows[k].off = fresh.rows[k].off := by
  obtain ⟨ho, hf, hl⟩ := match_of h
  unfold newAt
  rw [from_row ho k hk, List.getElem?_eq_getElem hk']
/-- What is above a row stays above it. -/
theorem new_above {old fresh : PartD} (h : matchB old fresh = true) (k : Nat) (hk : k < old.rows.length) (hk' : k < fresh.rows.length) (n : Int) : decide (n ≤ old.rows[k].off) = decide (newAt old fresh n ≤ fresh.rows[k].off) := by
  obtain ⟨ho, hf, hl⟩ := match_of h
  rw [from_ge (part_ris ho) n k hk]
  apply decide_eq_decide.2
  have hrow := part_rows hf fresh.rows[k] (List.getElem_mem hk')
  constructor
  · intro hle
    unfold newAt
    have hl2 : fromI old n < fresh.rows.length := by omega
    rw [List.getElem?_eq_getElem hl2]
    simp only
    rcases Nat.lt_or_ge (fromI old n) k with h1 | h1
    · have := ris_get _ (part_ris hf) (fromI old n) k (by simpa using hk') h1
      simp only [List.getElem_map] at this; omega
    · have e : fromI old n = k := by omega
      simp only [e]; exact Int.le_refl _
  · intro hle
    rcases Nat.lt_or_ge k (fromI old n) with h1 | h1
    · exfalso
      unfold newAt at hle
      cases hq : fresh.rows[fromI old n]? with
      | none => rw [hq] at hle; simp only at hle; omega
      | some r =>
        rw [hq] at hle
        simp only at hle
        obtain ⟨hl3, rfl⟩ := List.getElem?_eq_some_iff.1 hq
        have := ris_get _ (part_ris hf) k (fromI old n) (by simpa using hl3) h1
        simp only [List.getElem_map] at this; omega
    · exact h1
theorem new_end {old fresh : PartD} (h : matchB old fresh = true) : newAt old fresh old.fin = fresh.fin := by
  obtain ⟨ho, hf, hl⟩ := match_of h
  have : fromI old old.fin = old.rows.length := by
    rcases Nat.lt_or_ge (fromI old old.fin) old.rows.length with h1 | h1
    · have h2 := from_ge (part_ris ho) old.fin (fromI old old.fin) h1
      have := part_rows ho old.rows[fromI old old.fin] (List.getElem_mem h1)
      simp only [Nat.le_refl, decide_true, decide_eq_true_eq] at h2
      omega
    · have := from_le old old.fin; omega
  unfold newAt
  rw [this, List.getElem?_eq_none (by omega)]
theorem new_new {a b c : PartD} (hab : matchB a b = true) (hbc : matchB b c = true) (n : Int) : newAt b c (newAt a b n) = newAt a c n := by
  obtain ⟨ha, hb, hl⟩ := match_of hab
  obtain ⟨_, hc, hl2⟩ := match_of hbc
  have hL := from_le a n
  rcases Nat.lt_or_ge (fromI a n) a.rows.length with h1 | h1
  · have e1 : newAt a b n = b.rows[fromI a n].off := by
      show (match b.rows[fromI a n]? with | some r => r.off | none => b.fin) = _
      rw [List.getElem?_eq_getElem (show fromI a n < b.rows.length by omega)]
    rw [e1]
    show (match c.rows[fromI b b.rows[fromI a n].off]? with | some r => r.off | none => c.fin) = (match c.rows[fromI a n]? with | some r => r.off | none => c.fin)
    rw [from_row hb (fromI a n) (by omega)]
  · have e1 : newAt a b n = b.fin := by
      show (match b.rows[fromI a n]? with | some r => r.off | none => b.fin) = _
      rw [List.getElem?_eq_none (by omega)]
    rw [e1, new_end hbc]
    show _ = (match c.rows[fromI a n]? with | some r => r.off | none => c.fin)
    rw [List.getElem?_eq_none (by omega)]
/-- Joined tables are the table from the first to the last part. -/
theorem join_make {a b c : PartD} (hab : matchB a b = true) (hbc : matchB b c = true) : joinF (tabOf a b) (tabOf b c) = (tabOf a c, 0) := by
  obtain ⟨ha, hb, hl⟩ := match_of hab
  obtain ⟨_, hc, hl2⟩ := match_of hbc
  obtain ⟨g1, g2, g3⟩ := part_range ha
  have hget : ∀ i, i < (a.fin - a.start + 1).toNat → (newsF a b (a.fin - a.start + 1).toNat).getD i 0 = newAt a b (a.start + i) := fun i hi => by
    rw [List.getD_eq_getElem?_getD, newsF_get hi]; rfl
  have hbad : joinBad (tabOf a b) (tabOf b c) = false := by
    have h0 := newAt_le (old := a) hb (a.start + ((0 : Nat) : Int))
    have h1 := newAt_le (old := a) hb (a.start + (((a.fin - a.start + 1).toNat - 1 : Nat) : Int))
    have e0 := hget 0 (by omega)
    have e1 := hget ((a.fin - a.start + 1).toNat - 1) (by omega)
    simp only [joinBad, tab_make hab, tab_make hbc, Bool.not_true, Bool.false_or, Bool.or_eq_false_iff, decide_eq_false_iff_not]
    simp only [tabOf, newsF_len]
    rw [e0, e1]
    omega
  simp only [joinF, hbad, Bool.false_eq_true, if_false, joinOf]
  congr 1
  simp only [tabOf]
  congr 1
  simp only [newsF, List.map_map]
  apply List.map_congr_left
  intro i hi
  simp only [List.mem_range] at hi
  simp only [Function.comp_apply]
  have h0 := newAt_le (old := a) hb (a.start + (i : Int))
  have hg := newsF_get (old := b) (fresh := c) (show (newAt a b (a.start + (i : Int)) - b.start).toNat < (b.fin - b.start + 1).toNat by omega)
  have := List.getD_eq_getElem?_getD (l := newsF b c (b.fin - b.start + 1).toNat) (i := (newAt a b (a.start + (i : Int)) - b.start).toNat) (a := (0 : Int))
  rw [hg] at this
  simp only [newsF] at this
  rw [this]
  simp only [Option.getD_some]
  rw [show b.start + (((newAt a b (a.start + (i : Int)) - b.start).toNat : Nat) : Int) = newAt a b (a.start + i) by omega]
  exact new_new hab hbc _
theorem back_hit {t : TabD} (h : tabB t = true) (off : Int) (k : Nat) (hk : k < t.news.length) : (t.news[k] == off) = true → k < aboveI t off := by
  intro he
  simp only [beq_iff_eq] at he
  rcases Nat.lt_or_ge k (aboveI t off) with h1 | h1
  · exact h1
  · have hlt : aboveI t off < t.news.length := by omega
    have h2 : decide (off < t.news[aboveI t off]) = true := List.findIdx_getElem (p := fun n : Int => decide (off < n)) (xs := t.news) (w := hlt)
    simp only [decide_eq_true_eq] at h2
    have := upB_mono _ _ (tab_range h).2.2.2.2 (aboveI t off) k hk h1
    omega
theorem above_le (t : TabD) (off : Int) : aboveI t off ≤ t.news.length := List.findIdx_le_length
theorem below_above {t : TabD} {off : Int} {k : Nat} (hk : k < aboveI t off) (hl : k < t.news.length) : t.news[k] ≤ off := by
  have := List.not_of_lt_findIdx hk
  simp at this
  omega
/-- What Back tells: the last place of an offset, if it has one. -/
theorem back_spec {t : TabD} (h : tabB t = true) (off : Int) :
    (∃ k : Nat, ∃ hk : k < t.news.length, backF t off = (t.start + k, true) ∧ t.news[k] = off ∧ ∀ (j : Nat) (hj : j < t.news.length), k < j → t.news[j] ≠ off) ∨
    (backF t off = (0, false) ∧ ∀ (j : Nat) (hj : j < t.news.length), t.news[j] ≠ off) := by
  have hle := above_le t off
  by_cases h0 : aboveI t off = 0
  · right
    refine ⟨by simp [backF, h, h0], fun j hj he => ?_⟩
    have := back_hit h off j hj (by simpa using he)
    omega
  · have hlt : aboveI t off - 1 < t.news.length := by omega
    have hg : t.news.getD (aboveI t off - 1) 0 = t.news[aboveI t off - 1] := by rw [List.getD_eq_getElem?_getD, List.getElem?_eq_getElem hlt]; rfl
    by_cases he : t.news[aboveI t off - 1] = off
    · left
      refine ⟨aboveI t off - 1, hlt, ?_, he, fun j hj hkj hje => ?_⟩
      · unfold backF; rw [h, if_neg (by simp), if_neg h0, hg, he, if_pos (by simp)]
      have := back_hit h off j hj (by simpa using hje)
      omega
    · right
      refine ⟨by unfold backF; rw [h, if_neg (by simp), if_neg h0, hg, if_neg (by simpa using he)], fun j hj hje => ?_⟩
      have h1 := back_hit h off j hj (by simpa using hje)
      have h2 := upB_mono _ _ (tab_range h).2.2.2.2 j (aboveI t off - 1) hlt (by omega)
      have h3 := below_above (t := t) (off := off) (k := aboveI t off - 1) (by omega) hlt
      omega
end Go.Proofs.YticbdcpdooahjaaDoor
