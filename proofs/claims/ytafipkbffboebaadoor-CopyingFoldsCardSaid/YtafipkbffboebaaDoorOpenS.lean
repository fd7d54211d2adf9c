/- Opening arguments: slices of structs of one-cell fields, disks. -/
import Derived.Test.YtafipkbffboebaaDoorProg
import Derived.Test.YtafipkbffboebaaDoorMem
import Derived.ProofKit
import Derived.OpenShut
import Derived.Deep.Slices
import Derived.Deep.Fields
import Derived.ChangeSame
import Derived.Lib.SmallJoins
namespace Go.Proofs.YtafipkbffboebaaDoor
open Go.ChangeShapes Go.WideShapes Go.Deep
section
variable {H : Type} {enc : TypeId × Value → H} {P : Program} {w : World} {base : Nat} {spare : Nat → Bool} {held : Bool}
theorem open_slice_fields {t e : TypeId} {fs : Array Field} {fuel : Nat} {cs : List Value} {x : DataW H × List MemPlace} (ht : P.underlying t = some (.slice e)) (he : P.underlying e = some (.struct fs))
    (hone : oneCellFields P fs = true) (hC : P.cellsOf e = fs.size) (h : DataW.trod enc P w base spare held fuel t cs = some x) :
    (cs = [.slice none 0 0] ∧ x = (.nil, [])) ∨
    ∃ (a : Addr) (len cap m : Nat) (D : Nat → DataW H) (Pl : Nat → List MemPlace), cs = [.slice (some a) len cap] ∧ base ≤ a.block ∧ len ≤ cap ∧ cap ≤ maxLen ∧ m = (if spare a.block then cap else len) ∧
      x = (.slice ((List.range len).map D) ((List.range (m - len)).map fun j => D (len + j)), MemPlace.row a (m * fs.size) ++ (List.range m).flatMap Pl) ∧
      ∀ i, i < m → ∃ (ys : List (DataW H × List MemPlace)) (n : Nat), D i = .agg (ys.map (·.1)) ∧ Pl i = ys.flatMap (·.2) ∧ ys.length = fs.size ∧
        ∀ (j : Nat) (f : Field), fs[j]? = some f → ∃ (v : Value) (y : DataW H × List MemPlace), w.cell? (a.add (i * fs.size + j)) = some v ∧ ys[j]? = some y ∧ DataW.trod enc P w base spare held n f.type [v] = some y := by
  rcases open_slice ht h with h0 | ⟨a, len, cap, m, n, D, Pl, hcs, hb, hl, hm, hmm, hx, hi⟩
  · exact .inl h0
  · refine .inr ⟨a, len, cap, m, D, Pl, hcs, hb, hl, hm, hmm, by rw [hC] at hx; exact hx, fun i him => ?_⟩
    obtain ⟨cs', hc, ht'⟩ := hi i him
    rw [hC] at hc
    obtain ⟨ys, n', hn', hy, hlen, hyl, hf⟩ := DataW.trod_struct he ht'
    obtain ⟨_, hcl, hat⟩ := World.cells?_some hc
    simp only [Prod.mk.injEq] at hy
    refine ⟨ys, n', hy.1, hy.2, hyl, fun j f hj => ?_⟩
    obtain ⟨ho, hk⟩ := hone_of hone j f hj
    have hjl : j < fs.size := (Array.getElem?_eq_some_iff.1 hj).1
    have hcell := hat j hjl
    have hv : cs'[j]? = some (cs'[j]'(by omega)) := List.getElem?_eq_getElem (by omega)
    have h1 := hf j f hj
    rw [ho, hk] at h1
    have hone' : (cs'.drop j).take 1 = [cs'[j]'(by omega)] := by
      rw [List.drop_eq_getElem_cons (by omega)]
      rfl
    rw [hone'] at h1
    have hys : ys[j]? = some (ys[j]'(by omega)) := List.getElem?_eq_getElem (by omega)
    refine ⟨_, _, ?_, hys, h1.trans hys⟩
    rw [← Go.Deep.add_add, hcell, hv]
end
theorem exists_list {α : Type} {p : Nat → α → Prop} : ∀ (n : Nat), (∀ i, i < n → ∃ x, p i x) → ∃ l : List α, l.length = n ∧ ∀ i (h : i < l.length), p i l[i]
  | 0, _ => ⟨[], rfl, fun i h => absurd h (by simp)⟩
  | n + 1, h => by
    obtain ⟨l, hl, hp⟩ := exists_list n (fun i hi => h i (by omega))
    obtain ⟨x, hx⟩ := h n (by omega)
    refine ⟨l ++ [x], by simp [hl], fun i hi => ?_⟩
    by_cases e : i < l.length
    · rw [List.getElem_append_left e]; exact hp i e
    · have : i = n := by simp at hi; omega
      subst this
      rw [List.getElem_append_right (by omega)]
      simpa [hl] using hx
theorem add_form (b off k : Nat) : (⟨b, off, none⟩ : Addr).add k = ⟨b, off + k, none⟩ := by unfold Addr.add; split <;> simp_all
/-- A slice of structs of one-cell fields, each element of which can be read: it reads as a list. -/
theorem slice_of_trod {H : Type} {enc : TypeId × Value → H} {P : Program} {w : World} {spare : Nat → Bool} {held : Bool} {α : Type} {R : List Value → α → Prop} {t e : TypeId} {fs : Array Field} {fuel : Nat} {v : Value} {x : DataW H × List MemPlace} (ht : P.underlying t = some (.slice e)) (he : P.underlying e = some (.struct fs))
    (hone : oneCellFields P fs = true) (hC : P.cellsOf e = fs.size) (hpos : 0 < fs.size) (h : DataW.trod enc P w 0 spare held fuel t [v] = some x)
    (hel : ∀ (cs : List Value) (n : Nat), cs.length = fs.size → (∀ (j : Nat) (f : Field), fs[j]? = some f → ∃ v y, cs[j]? = some v ∧ DataW.trod enc P w 0 spare held n f.type [v] = some y) → ∃ x, R cs x) :
    ∃ xs : List α, SliceAt w.heap.size w fs.size R v xs ∧ xs.length ≤ maxLen := by
  rcases open_slice_fields ht he hone hC h with ⟨h0, _⟩ | ⟨a, len, cap, m, D, Pl, hcs, hb, hl, hm, hmm, hx, hi⟩
  · cases h0; exact ⟨[], SliceAt.nil _ _ _ _ _ _, Nat.zero_le _⟩
  · cases hcs
    have hml : len ≤ m := by rw [hmm]; split <;> omega
    have hc : ∀ i, i < len → ∃ xc : α × List Value, xc.2.length = fs.size ∧ R xc.2 xc.1 ∧ ∀ j, j < fs.size → w.cell? (a.add (i * fs.size + j)) = xc.2[j]? := fun i hil => by
      obtain ⟨ys, n, _, _, hyl, hf⟩ := hi i (by omega)
      obtain ⟨cs, hcl, hcs⟩ := exists_list (p := fun j v => ∃ y f, fs[j]? = some f ∧ w.cell? (a.add (i * fs.size + j)) = some v ∧ DataW.trod enc P w 0 spare held n f.type [v] = some y) fs.size (fun j hj => by
        obtain ⟨v, y, h1, h2, h3⟩ := hf j fs[j] (Array.getElem?_eq_getElem hj)
        exact ⟨v, y, fs[j], Array.getElem?_eq_getElem hj, h1, h3⟩)
      obtain ⟨x, hx⟩ := hel cs n hcl (fun j f hj => by
        have hjl : j < fs.size := (Array.getElem?_eq_some_iff.1 hj).1
        obtain ⟨y, f', h1, h2, h3⟩ := hcs j (by omega)
        rw [hj] at h1; cases h1
        exact ⟨cs[j]'(by omega), y, List.getElem?_eq_getElem (by omega), h3⟩)
      refine ⟨(x, cs), hcl, hx, fun j hj => ?_⟩
      obtain ⟨y, f', h1, h2, h3⟩ := hcs j (by omega)
      rw [h2]; exact (List.getElem?_eq_getElem (l := cs) (by omega)).symm
    obtain ⟨xs, hxl, hxs⟩ := exists_list len hc
    refine ⟨xs.map (·.1), ?_, by simp; omega⟩
    refine ⟨some a, cap, by simp [hxl], by simp; omega, fun hne => ?_⟩
    have h0 : 0 < xs.length := by
      rcases xs with _ | ⟨y, ys⟩
      · exact absurd rfl hne
      · simp
    have hfirst := (hxs 0 h0).2.2 0 hpos
    rw [List.getElem?_eq_getElem (by have := (hxs 0 h0).1; omega)] at hfirst
    obtain ⟨b, off, sp⟩ := a
    have hsp : sp = none := by simpa [Addr.add] using World.cell?_spot hfirst
    subst hsp
    refine ⟨b, off, rfl, by have := World.block_lt_of_cell? w _ hfirst; simpa [Addr.add] using this, fun i hil => ?_⟩
    have hil' : i < xs.length := by simpa using hil
    obtain ⟨h1, h2, h3⟩ := hxs i hil'
    refine ⟨xs[i].2, h1, by simpa using h2, fun j hj => ?_⟩
    have := h3 j hj
    rw [← this, add_form, Nat.add_assoc]
end Go.Proofs.YtafipkbffboebaaDoor
