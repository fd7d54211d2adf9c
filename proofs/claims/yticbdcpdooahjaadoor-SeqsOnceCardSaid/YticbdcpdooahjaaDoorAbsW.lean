/- The machine: functions that are ranged over. What a loop's body does to boxes, each element once, in order; what the function that is ranged over gives. -/
import Derived.Test.YticbdcpdooahjaaDoorAbsV
import Derived.RangeFuncSeq
namespace Go.Proofs.YticbdcpdooahjaaDoor
open Go Go.RowKit
set_option linter.unusedVariables false
set_option linter.unusedSimpArgs false
/-! a memory in part -/
def Hp.on (ks : List Nat) (H : Hp) : Hp := fun i => if ks.contains i then H i else none
def G.on (ks : List Nat) (g : G) : G := { g with β := fun i => if ks.contains i then g.β i else none }
def over (ks : List Nat) (H H' : Hp) : Hp := fun i => if ks.contains i then H' i else H i
theorem Hp.on_in {ks : List Nat} {H : Hp} {i : Nat} (h : ks.contains i = true) : H.on ks i = H i := by simp only [Hp.on, h, if_true]
theorem Hp.on_out {ks : List Nat} {H : Hp} {i : Nat} (h : ks.contains i = false) : H.on ks i = none := by simp only [Hp.on, h]; rfl
theorem G.on_in {ks : List Nat} {g : G} {i : Nat} (h : ks.contains i = true) : (g.on ks).β i = g.β i := by simp only [G.on, h, if_true]
theorem G.on_out {ks : List Nat} {g : G} {i : Nat} (h : ks.contains i = false) : (g.on ks).β i = none := by simp only [G.on, h]; rfl
theorem over_in {ks : List Nat} {H H' : Hp} {i : Nat} (h : ks.contains i = true) : over ks H H' i = H' i := by simp only [over, h, if_true]
theorem over_out {ks : List Nat} {H H' : Hp} {i : Nat} (h : ks.contains i = false) : over ks H H' i = H i := by simp only [over, h]; rfl
theorem G.on_some {ks : List Nat} {g : G} {i b : Nat} (h : (g.on ks).β i = some b) : ks.contains i = true ∧ g.β i = some b := by
  cases hc : ks.contains i with
  | true => rw [G.on_in hc] at h; exact ⟨rfl, h⟩
  | false => rw [G.on_out hc] at h; cases h
/-- What stands for something, by boxes of the part alone. -/
theorem rep_on {ks : List Nat} {g : G} {H : Hp} {x : CV} {v : Value} (hi : ∀ i ∈ x.ids, ks.contains i = true) (h : RepC g H x v) : RepC (g.on ks) (H.on ks) x v := by
  cases x with
  | any => trivial
  | d x => exact h
  | full sz xs => exact h
  | own id off =>
    obtain ⟨b, hb, hv, hr⟩ := h
    have := hi id (by simp [CV.ids])
    exact ⟨b, (G.on_in this).trans hb, hv, by rw [Hp.on_in this]; exact hr⟩
  | yld id =>
    obtain ⟨b, hb, hv, hr⟩ := h
    have := hi id (by simp [CV.ids])
    exact ⟨b, (G.on_in this).trans hb, hv, by rw [Hp.on_in this]; exact hr⟩
  | view id sz off len =>
    obtain ⟨b, c, hb, hv, hc, hr⟩ := h
    have := hi id (by simp [CV.ids])
    exact ⟨b, c, (G.on_in this).trans hb, hv, hc, by rw [Hp.on_in this]; exact hr⟩
  | app τ sz xs =>
    obtain ⟨h1, e, n, hrow, hl, hf⟩ := h
    have := hi τ (by simp [CV.ids])
    refine ⟨h1, e, n, (Hp.on_in this).trans hrow, hl, fun hn => ?_⟩
    rcases hf hn with h2 | ⟨b, hb, hv⟩
    · exact .inl h2
    · exact .inr ⟨b, (G.on_in this).trans hb, hv⟩
  | clo f caps =>
    obtain ⟨vs, hv, hl, hc⟩ := h
    refine ⟨vs, hv, hl, fun j c u hj hu => ?_⟩
    have hcu := hc j c u hj hu
    cases c with
    | d x => exact hcu
    | own id off =>
      obtain ⟨b, hb, hv, hr⟩ := hcu
      have := hi id (List.mem_flatMap.2 ⟨_, List.mem_of_getElem? hj, by simp [Cap.ids]⟩)
      exact ⟨b, (G.on_in this).trans hb, hv, by rw [Hp.on_in this]; exact hr⟩
/-- What is lent for a while: the boxes ks, in the world w. -/
def lendF (w : World) (g : G) (ks : List Nat) (g0 : G) (H0 : Hp) : Fr := ⟨w, fun b => ∃ i, ks.contains i = true ∧ g.β i = some b, ks, g0, H0, none⟩
def Closed (ks : List Nat) (H : Hp) : Prop := ∀ k cs, ks.contains k = true → H k = some (.cells cs) → ∀ i ∈ cs.flatMap CV.ids, ks.contains i = true
theorem RelH.lend {F : Fr} {K0 : Know} {g : G} {H : Hp} {w : World} (hh : RelH F K0 g H w) (ks : List Nat) (hcl : Closed ks H) {g0 : G} {H0 : Hp} (hl : ∀ x v, (∀ i ∈ CV.ids x, i ∈ ks) → RepC g0 H0 x v → RepC g H x v) : RelH (lendF w g ks g0 H0) g.K (g.on ks) (H.on ks) w := by
  refine ⟨⟨rfl, rfl, rfl, Nat.le_refl _, fun _ _ => rfl⟩, ⟨KLe.refl _, fun _ _ _ => rfl⟩, hh.kw, ?_, ?_, ?_, ?_, ?_, hh.glob.trans hh.ext.1, fun x v hi h => rep_on (fun i hix => by have := hi i hix; have : i ∈ ks := this; simpa using this) (hl x v hi h)⟩
  · intro id he hid
    cases hc : ks.contains id with
    | false => rw [Hp.on_out hc] at hid; cases hid
    | true =>
      rw [Hp.on_in hc] at hid
      have := hh.holds id he hid
      cases he with
      | cells cs =>
        obtain ⟨b, vs, t, hb, hheap, hr, h1, hn⟩ := this
        exact ⟨b, vs, t, (G.on_in hc).trans hb, hheap, ⟨hr.1, fun j x v hx hv => rep_on (fun i hi => hcl id cs hc hid i (List.mem_flatMap.2 ⟨x, List.mem_of_getElem? hx, hi⟩)) (hr.2 j x v hx hv)⟩, h1, hn⟩
      | froz ds =>
        obtain ⟨b, vs, hb, hr⟩ := this
        exact ⟨b, vs, (G.on_in hc).trans hb, hr⟩
      | obj o =>
        obtain ⟨b, hb, hr⟩ := this
        exact ⟨b, (G.on_in hc).trans hb, hr⟩
      | row e sz n =>
        intro b hb
        exact this b ((G.on_in hc).symm.trans hb)
  · intro id b hb
    obtain ⟨h1, h2⟩ := G.on_some hb
    exact .inr ⟨id, h1, h2⟩
  · intro id hid
    cases hc : ks.contains id with
    | false => exact G.on_out hc
    | true => rw [Hp.on_in hc] at hid; exact (G.on_in hc).trans (hh.dom id hid)
  · intro i j b hi hj
    exact hh.sep i j b (G.on_some hi).2 (G.on_some hj).2
  · intro i b hi
    exact hh.frozlt i b (G.on_some hi).2
def backG (ks : List Nat) (g g' : G) : G := ⟨g'.K, fun i => if ks.contains i then g'.β i else g.β i, fun i => if ks.contains i then g'.cap i else g.cap i⟩
theorem backG_in {ks : List Nat} {g g' : G} {i : Nat} (h : ks.contains i = true) : (backG ks g g').β i = g'.β i ∧ (backG ks g g').cap i = g'.cap i := by simp only [backG, h, if_true, and_self]
theorem backG_out {ks : List Nat} {g g' : G} {i : Nat} (h : ks.contains i = false) : (backG ks g g').β i = g.β i ∧ (backG ks g g').cap i = g.cap i := by constructor <;> (simp only [backG, h]; rfl)
/-- What was lent is back. -/
theorem RelH.back {F : Fr} {K0 : Know} {g g' : G} {H H' : Hp} {w w' : World} {ks : List Nat} {g0 : G} {H0 : Hp} (hh : RelH F K0 g H w) (hh' : RelH (lendF w g ks g0 H0) g.K g' H' w') (hsup : ∀ i, ks.contains i = false → H' i = none) (hlent : GLe (g.on ks) (H.on ks) g' H') :
    RelH F K0 (backG ks g g') (over ks H H') w' ∧ GLe g H (backG ks g g') (over ks H H') ∧ ∀ x v, RepC g' H' x v → RepC (backG ks g g') (over ks H H') x v := by
  have hin : ∀ i b, g'.β i = some b → ks.contains i = true := fun i b hb => by
    cases hc : ks.contains i with
    | true => rfl
    | false => rw [hh'.dom i (hsup i hc)] at hb; cases hb
  have hnm : ∀ i b, ks.contains i = false → g.β i = some b → ¬ (lendF w g ks g0 H0).mine b := by
    rintro i b hc hb (h | ⟨j, hj, hjb⟩)
    · have := hh.frozlt i b hb
      have h : w.heap.size ≤ b := h
      omega
    · have := hh.sep i j b hb hjb
      subst this
      rw [hc] at hj; cases hj
  -- out of the part's memory
  have hto : ∀ x v, RepC g' H' x v → RepC (backG ks g g') (over ks H H') x v := by
    intro x v r
    have ho : ∀ id off v, RepC g' H' (.own id off) v → RepC (backG ks g g') (over ks H H') (.own id off) v := by
      rintro id off v ⟨b, hb, hv, hr⟩
      have := hin id b hb
      exact ⟨b, (backG_in this).1.trans hb, hv, by rw [over_in this]; exact hr⟩
    cases x with
    | any => trivial
    | d x => exact r
    | full sz xs => exact r
    | own id off => exact ho id off v r
    | yld id => exact yld_mono r ho
    | clo f caps => exact clo_mono r (KLe.refl _) ho
    | view id sz off len =>
      obtain ⟨b, c, hb, hv, hc, hr⟩ := r
      have := hin id b hb
      exact ⟨b, c, (backG_in this).1.trans hb, hv, hc, by rw [over_in this]; exact hr⟩
    | app τ sz xs =>
      obtain ⟨h1, e, n, hrow, hl, hf⟩ := r
      have : ks.contains τ = true := by
        cases hc : ks.contains τ with
        | true => rfl
        | false => rw [hsup τ hc] at hrow; cases hrow
      refine ⟨h1, e, n, (over_in this).trans hrow, hl, fun hn => ?_⟩
      rcases hf hn with h2 | ⟨b, hb, hv⟩
      · exact .inl h2
      · exact .inr ⟨b, (backG_in this).1.trans hb, by rw [(backG_in this).2]; exact hv⟩
  have hK : KLe g.K g'.K := hh'.ext.1
  have hle : GLe g H (backG ks g g') (over ks H H') := by
    intro x v r
    have ho : ∀ id off v, RepC g H (.own id off) v → RepC (backG ks g g') (over ks H H') (.own id off) v := by
      rintro id off v ⟨b, hb, hv, hr⟩
      cases hc : ks.contains id with
      | true => exact hto _ _ (hlent (.own id off) v (rep_on (fun i hi => by simp [CV.ids] at hi; subst hi; exact hc) ⟨b, hb, hv, hr⟩))
      | false => exact ⟨b, (backG_out hc).1.trans hb, hv, by rw [over_out hc]; exact hr⟩
    cases x with
    | any => trivial
    | d x => exact Rep.mono hK r
    | full sz xs => exact ⟨r.1.mono hK, r.2⟩
    | own id off => exact ho id off v r
    | yld id => exact yld_mono r ho
    | clo f caps => exact clo_mono r hK ho
    | view id sz off len =>
      cases hc : ks.contains id with
      | true => exact hto _ _ (hlent (.view id sz off len) v (rep_on (fun i hi => by simp [CV.ids] at hi; subst hi; exact hc) r))
      | false =>
        obtain ⟨b, c, hb, hv, hcc, hr⟩ := r
        exact ⟨b, c, (backG_out hc).1.trans hb, hv, hcc, by rw [over_out hc]; exact hr⟩
    | app τ sz xs =>
      cases hc : ks.contains τ with
      | true => exact hto _ _ (hlent (.app τ sz xs) v (rep_on (fun i hi => by simp [CV.ids] at hi; subst hi; exact hc) r))
      | false =>
        obtain ⟨h1, e, n, hrow, hl, hf⟩ := r
        refine ⟨h1.mono hK, e, n, (over_out hc).trans hrow, hl, fun hn => ?_⟩
        rcases hf hn with h2 | ⟨b, hb, hv⟩
        · exact .inl h2
        · exact .inr ⟨b, (backG_out hc).1.trans hb, by rw [(backG_out hc).2]; exact hv⟩
  have hFm : ∀ k, ¬ F.mine k → ¬ (lendF w g ks g0 H0).mine k := by
    rintro k hk (h | ⟨j, hj, hjb⟩)
    · have := Fr.lt hk
      have := hh.below.size
      have h : w.heap.size ≤ k := h
      omega
    · exact hk (hh.base j k hjb)
  refine ⟨⟨⟨hh'.below.os.trans hh.below.os, hh'.below.tape.trans hh.below.tape, hh'.below.output.trans hh.below.output, Nat.le_trans hh.below.size hh'.below.size, fun k hk => (hh'.below.block k (hFm k hk)).trans (hh.below.block k hk)⟩,
    ⟨hh.ext.1.trans hK, fun b o hb => (hh'.ext.2 b o (hFm b hb)).trans (hh.ext.2 b o hb)⟩, hh'.kw, ?_, ?_, ?_, ?_, ?_, hh.glob, hh.lent.trans hle⟩, hle, hto⟩
  · intro id he hid
    cases hc : ks.contains id with
    | true =>
      rw [over_in hc] at hid
      have := hh'.holds id he hid
      cases he with
      | cells cs =>
        obtain ⟨b, vs, t, hb, hheap, hr, h1, hn⟩ := this
        exact ⟨b, vs, t, (backG_in hc).1.trans hb, hheap, ⟨hr.1, fun j x v hx hv => hto x v (hr.2 j x v hx hv)⟩, h1, hn⟩
      | froz ds =>
        obtain ⟨b, vs, hb, hr⟩ := this
        exact ⟨b, vs, (backG_in hc).1.trans hb, hr⟩
      | obj o =>
        obtain ⟨b, hb, hr⟩ := this
        exact ⟨b, (backG_in hc).1.trans hb, hr⟩
      | row e sz n =>
        intro b hb
        have := this b ((backG_in hc).1.symm.trans hb)
        rw [(backG_in hc).2]; exact this
    | false =>
      rw [over_out hc] at hid
      have := hh.holds id he hid
      cases he with
      | cells cs =>
        obtain ⟨b, vs, t, hb, hheap, hr, h1, hn⟩ := this
        have hm := hnm id b hc hb
        exact ⟨b, vs, t, (backG_out hc).1.trans hb, (hh'.below.block b hm).trans hheap, hr.mono hle, h1, fun o => (hh'.ext.2 b o hm).trans (hn o)⟩
      | froz ds =>
        obtain ⟨b, vs, hb, hr, h1, hn⟩ := this
        exact ⟨b, vs, (backG_out hc).1.trans hb, hr.mono hK, h1, fun j v hj => hK _ _ _ (hn j v hj)⟩
      | obj o =>
        obtain ⟨b, hb, hheap, hn⟩ := this
        have hm := hnm id b hc hb
        exact ⟨b, (backG_out hc).1.trans hb, (hh'.below.block b hm).trans hheap, fun o => (hh'.ext.2 b o hm).trans (hn o)⟩
      | row e sz n =>
        intro b hb
        have hb' := (backG_out hc).1.symm.trans hb
        have hm := hnm id b hc hb'
        obtain ⟨cur, h1, h2, h3, h4⟩ := this b hb'
        exact ⟨cur, (hh'.below.block b hm).trans h1, by rw [(backG_out hc).2]; exact h2, by rw [(backG_out hc).2]; exact h3, fun o ho => (hh'.ext.2 b o hm).trans (h4 o ho)⟩
  · intro id b hb
    cases hc : ks.contains id with
    | true =>
      rw [(backG_in hc).1] at hb
      rcases hh'.base id b hb with h | ⟨j, hj, hjb⟩
      · exact Fr.new (Nat.le_trans hh.below.size h)
      · exact hh.base j b hjb
    | false => rw [(backG_out hc).1] at hb; exact hh.base id b hb
  · intro id hid
    cases hc : ks.contains id with
    | true => rw [over_in hc] at hid; exact (backG_in hc).1.trans (hh'.dom id hid)
    | false => rw [over_out hc] at hid; exact (backG_out hc).1.trans (hh.dom id hid)
  · intro i j b hi hj
    cases hci : ks.contains i with
    | true =>
      rw [(backG_in hci).1] at hi
      cases hcj : ks.contains j with
      | true => rw [(backG_in hcj).1] at hj; exact hh'.sep i j b hi hj
      | false => rw [(backG_out hcj).1] at hj; exact absurd (hh'.base i b hi) (hnm j b hcj hj)
    | false =>
      rw [(backG_out hci).1] at hi
      cases hcj : ks.contains j with
      | true => rw [(backG_in hcj).1] at hj; exact absurd (hh'.base j b hj) (hnm i b hci hi)
      | false => rw [(backG_out hcj).1] at hj; exact hh.sep i j b hi hj
  · intro i b hi
    cases hci : ks.contains i with
    | true => rw [(backG_in hci).1] at hi; exact hh'.frozlt i b hi
    | false =>
      rw [(backG_out hci).1] at hi
      have := hh.frozlt i b hi
      have := hh'.below.size
      have h2 : (lendF w g ks g0 H0).W.heap.size = w.heap.size := rfl
      omega
end Go.Proofs.YticbdcpdooahjaaDoor
