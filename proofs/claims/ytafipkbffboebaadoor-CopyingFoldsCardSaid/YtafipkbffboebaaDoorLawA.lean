/- From contracts to laws: the arguments of a law as data. -/
import Derived.Test.YtafipkbffboebaaDoorMacB
import Derived.Test.YtafipkbffboebaaDoorOpenS
import Derived.Test.YtafipkbffboebaaDoorLawKit
import Derived.Test.YtafipkbffboebaaDoorTie
namespace Go.Proofs.YtafipkbffboebaaDoor
open Go Go.RowKit Go.ChangeShapes Go.WideShapes Go.Deep Go.Joins
set_option linter.unusedVariables false
set_option linter.unusedSimpArgs false
def allK (W : World) : Know := fun b o => W.cell? ⟨b, o, none⟩
theorem Fun.law {P : Program} {f : FuncId} {ds : List D} (h : Fun P f ds (boo true)) {W : World} {vs : List Value} (hB : KLe BaseK (allK W)) (hL : RepL (allK W) ds vs) : Calls P f vs.toArray W fun e w' => e = .returned (.bool true) ∧ Below W.heap.size W w' :=
  (h.2 (allK W) W vs hB (fun b o v hv => hv) hL).mono (fun e w' ⟨v, K', h1, _, _, h4, h5⟩ => ⟨by rw [h1]; cases h4; rfl, h5⟩)
theorem SliceAt.rep {α : Type} {W : World} {B sz : Nat} {R : List Value → α → Prop} {v : Value} {xs : List α} (dv : α → List D) (h : SliceAt B W sz R v xs) (hR : ∀ cs x, cs.length = sz → R cs x → RepL (allK W) (dv x) cs ∧ ∀ u ∈ cs, u.oneCell' = true) : Rep (allK W) (.lst sz (xs.map dv)) v := by
  obtain ⟨a, c, rfl, hc, hx⟩ := h
  by_cases hne : xs = []
  · subst hne
    exact Rep.lst (vs := []) (by simp) (by simp) rfl (by simp) (by simp) (by simp)
  · obtain ⟨b, off, rfl, hb, hel⟩ := hx hne
    obtain ⟨css, hl, hp⟩ := exists_list (p := fun i cs => cs.length = sz ∧ (∃ h : i < xs.length, R cs xs[i]) ∧ ∀ j, j < sz → W.cell? ⟨b, off + i * sz + j, none⟩ = cs[j]?) xs.length (fun i hi => by
      obtain ⟨cs, h1, h2, h3⟩ := hel i hi
      exact ⟨cs, h1, ⟨hi, h2⟩, h3⟩)
    have hlen : ∀ cs ∈ css, cs.length = sz := fun cs hcs => by
      obtain ⟨i, hi, rfl⟩ := List.getElem_of_mem hcs
      exact (hp i hi).1
    have hrep : ∀ i (hi : i < css.length) (hi' : i < xs.length), RepL (allK W) (dv xs[i]) css[i] ∧ ∀ u ∈ css[i], u.oneCell' = true := fun i hi hi' => by
      obtain ⟨_, h2⟩ := (hp i hi).2.1
      exact hR _ _ (hp i hi).1 h2
    have hdl : ∀ x ∈ xs.map dv, x.length = sz := fun x hx => by
      obtain ⟨y, hy, rfl⟩ := List.mem_map.1 hx
      obtain ⟨i, hi, rfl⟩ := List.getElem_of_mem hy
      have := (hrep i (by omega) hi).1.1
      rw [this]; exact (hp i (by omega)).1
    have f1 := flat_len hdl
    have f2 := flat_len hlen
    have key := Rep.lst (K := allK W) (sz := sz) (xs := xs.map dv) (vs := css.flatten) (a := some ⟨b, off, none⟩) (c := c) hdl (by simpa using hc) (by rw [f1, f2]; simp [hl])
      (fun j x u hx hu => by
        have hj : j < xs.length * sz := by have := (List.getElem?_eq_some_iff.1 hx).1; rw [f1] at this; simpa using this
        have hsz : 0 < sz := by rcases Nat.eq_zero_or_pos sz with h | h; (subst h; simp at hj); exact h
        have hi : j / sz < xs.length := Nat.div_lt_of_lt_mul (by rw [Nat.mul_comm]; exact hj)
        have hm : j % sz < sz := Nat.mod_lt _ hsz
        have e : j = (j / sz) * sz + j % sz := by rw [Nat.mul_comm]; exact (Nat.div_add_mod j sz).symm
        rw [e, flat_at hdl (j / sz) (dv xs[j / sz]) (by simp [hi]) _ hm] at hx
        rw [e, flat_at hlen (j / sz) (css[j / sz]'(by omega)) (List.getElem?_eq_getElem (by omega)) _ hm] at hu
        exact (hrep (j / sz) (by omega) hi).1.2 _ x u hx hu)
      (fun u hu => by
        obtain ⟨cs, hcs, hu⟩ := List.mem_flatten.1 hu
        obtain ⟨i, hi, rfl⟩ := List.getElem_of_mem hcs
        exact (hrep i hi (by omega)).2 u hu)
      (fun _ => ⟨b, off, rfl, fun j u hu => by
        have hj : j < xs.length * sz := by have := (List.getElem?_eq_some_iff.1 hu).1; rw [f2, hl] at this; exact this
        have hsz : 0 < sz := by rcases Nat.eq_zero_or_pos sz with h | h; (subst h; simp at hj); exact h
        have hi : j / sz < xs.length := Nat.div_lt_of_lt_mul (by rw [Nat.mul_comm]; exact hj)
        have hm : j % sz < sz := Nat.mod_lt _ hsz
        have e : j = (j / sz) * sz + j % sz := by rw [Nat.mul_comm]; exact (Nat.div_add_mod j sz).symm
        rw [e, flat_at hlen (j / sz) (css[j / sz]'(by omega)) (List.getElem?_eq_getElem (by omega)) _ hm] at hu
        show W.cell? ⟨b, off + j, none⟩ = some u
        rw [e, ← Nat.add_assoc, (hp (j / sz) (by omega)).2.2 _ hm]; exact hu⟩)
    rw [List.length_map] at key
    exact key
theorem RepL.two {K : Know} {a b : D} {u v : Value} (h1 : Rep K a u) (h2 : Rep K b v) : RepL K [a, b] [u, v] := ⟨rfl, fun j x y hx hy => by
  match j, hx, hy with
  | 0, hx, hy => simp at hx hy; subst hx hy; exact h1
  | 1, hx, hy => simp at hx hy; subst hx hy; exact h2⟩
theorem RepL.nil {K : Know} : RepL K [] [] := ⟨rfl, fun j x y hx => by simp at hx⟩
theorem RepL.cons {K : Know} {a : D} {u : Value} {ds : List D} {us : List Value} (h1 : Rep K a u) (h2 : RepL K ds us) : RepL K (a :: ds) (u :: us) := ⟨by simp [h2.1], fun j x y hx hy => by
  cases j with
  | zero => simp at hx hy; subst hx hy; exact h1
  | succ j => exact h2.2 j x y (by simpa using hx) (by simpa using hy)⟩
theorem handle_of_laid {l : List (String × DataW Unit)} {W : World} (h0 : laidMetH Tryd.prog l W) (hl : (l.filter fun x => x.2.handleName?.isSome) = [("errors.errorType", Rows.laid_errors_errorType)] := by kernel_rfl) : KLe BaseK (allK W) := by
  have et : Tryd.prog.globalNamed "errors.errorType" = some 0 := by kernel_rfl
  have rt : (Tryd.prog.cutTypes.find? (·.1 == "internal/reflectlite.rtype")).map (·.2) = some 154 := by kernel_rfl
  have oneRow : ((List.range 223).filter fun t => Tryd.prog.rowNamed t [101, 114, 114, 111, 114]) = [64] := by kernel_rfl
  have size : Tryd.prog.types.size = 223 := by kernel_rfl
  have h' : handlesMet Tryd.prog [("errors.errorType", Rows.laid_errors_errorType)] W := by
    unfold laidMetH at h0
    rw [hl] at h0
    exact h0.2
  obtain ⟨name, u, ty, e1, e2, e3, e4, e5⟩ := h' _ (List.mem_singleton.2 rfl)
  have en : name = [101, 114, 114, 111, 114] := (Option.some.inj e1).symm
  subst en
  obtain rfl := Option.some.inj (rt.symm.trans e2)
  have hm : ty ∈ (List.range 223).filter fun t => Tryd.prog.rowNamed t [101, 114, 114, 111, 114] := List.mem_filter.2 ⟨List.mem_range.2 (by rw [← size]; exact e3), e4⟩
  rw [oneRow] at hm
  obtain rfl := List.mem_singleton.1 hm
  have hh : typeHandle Tryd.prog 64 = .pointer (some ⟨1, 64, none⟩) := by kernel_rfl
  rw [hh] at e5
  have hc : W.cell? ⟨0, 0, none⟩ = some (.iface 154 (.agg #[.pointer (some ⟨1, 64, none⟩)])) := by simpa using World.var?_cell et e5 0
  intro b o v hv
  unfold BaseK at hv
  split at hv
  · rename_i hbo; obtain ⟨rfl, rfl⟩ := hbo; cases hv; exact hc
  · cases hv
theorem i64_le {n : Int} (h : (Lit.int .i64 n).wf = true) : n ≤ 9223372036854775807 := by
  have h' : (decide (IntKind.i64.min ≤ n) && decide (n ≤ IntKind.i64.max)) = true := h
  have e : IntKind.i64.max = 9223372036854775807 := by decide +kernel
  rw [e, Bool.and_eq_true] at h'
  exact of_decide_eq_true h'.2
theorem i64_ge {n : Int} (h : (Lit.int .i64 n).wf = true) : -9223372036854775808 ≤ n := by
  have h' : (decide (IntKind.i64.min ≤ n) && decide (n ≤ IntKind.i64.max)) = true := h
  have e : IntKind.i64.min = -9223372036854775808 := by decide +kernel
  rw [e, Bool.and_eq_true] at h'
  exact of_decide_eq_true h'.1
end Go.Proofs.YtafipkbffboebaaDoor
