/- Opening lists of numbers and of acts that came in. -/
import Derived.Test.YtljhcenfmaiaoaaDoorOpenW
namespace Go.Proofs.YtljhcenfmaiaoaaDoor
open Go Go.RowKit Go.ChangeShapes Go.WideShapes Go.Deep Go.Joins
set_option maxRecDepth 100000
set_option linter.unusedVariables false
set_option linter.unusedSimpArgs false
theorem slice_of_trodG {H : Type} {enc : TypeId × Value → H} {P : Program} {w : World} {spare : Nat → Bool} {held : Bool} {α : Type} {R : List Value → α → Prop} {t e : TypeId} {C fuel : Nat} {v : Value} {x : DataW H × List MemPlace} (ht : P.underlying t = some (.slice e)) (hC : P.cellsOf e = C) (hpos : 0 < C) (h : DataW.trod enc P w 0 spare held fuel t [v] = some x)
    (hel : ∀ (cs : List Value) (n : Nat) (y : DataW H × List MemPlace), cs.length = C → DataW.trod enc P w 0 spare held n e cs = some y → ∃ x, R cs x) :
    ∃ xs : List α, SliceAt w.heap.size w C R v xs ∧ xs.length ≤ maxLen := by
  rcases open_slice ht h with ⟨h0, _⟩ | ⟨a, len, cap, m, n, D, Pl, hcs, hb, hl, hm, hmm, hx, hi⟩
  · cases h0; exact ⟨[], SliceAt.nil _ _ _ _ _ _, Nat.zero_le _⟩
  · cases hcs
    have hml : len ≤ m := by rw [hmm]; split <;> omega
    have hc : ∀ i, i < len → ∃ xc : α × List Value, xc.2.length = C ∧ R xc.2 xc.1 ∧ ∀ j, j < C → w.cell? (a.add (i * C + j)) = xc.2[j]? := fun i hil => by
      obtain ⟨cs', hc, ht'⟩ := hi i (by omega)
      rw [hC] at hc
      obtain ⟨_, hcl, hat⟩ := World.cells?_some hc
      obtain ⟨x, hx⟩ := hel cs' _ _ hcl ht'
      refine ⟨(x, cs'), hcl, hx, fun j hj => ?_⟩
      rw [← Go.Deep.add_add, hat j hj]
    obtain ⟨xs, hxl, hxs⟩ := exists_list len hc
    refine ⟨xs.map (·.1), ?_, by simp; omega⟩
    refine ⟨some a, cap, by simp [hxl], by simp; omega, fun hne => ?_⟩
    have h0 : 0 < xs.length := by
      rcases xs with _ | ⟨y, ys⟩
      · exact absurd rfl hne
      · simp
    have hfirst := (hxs 0 h0).2.2 0 hpos
    rw [List.getElem?_eq_getElem (by have := (hxs 0 h0).1; omega)] at hfirst
    obtain ⟨b, off, sp⟩ := a
    have hsp : sp = none := by simpa [Addr.add] using World.cell?_spot hfirst
    subst hsp
    refine ⟨b, off, rfl, by have := World.block_lt_of_cell? w _ hfirst; simpa [Addr.add] using this, fun i hil => ?_⟩
    have hil' : i < xs.length := by simpa using hil
    obtain ⟨h1, h2, h3⟩ := hxs i hil'
    refine ⟨xs[i].2, h1, by simpa using h2, fun j hj => ?_⟩
    have := h3 j hj
    rw [← this, add_form, Nat.add_assoc]
theorem cellsI : Tryd.prog.cellsOf 3 = 1 := by kernel_rfl
theorem cells8 : Tryd.prog.cellsOf 36 = 1 := by kernel_rfl
theorem cellsS : Tryd.prog.cellsOf 9 = 1 := by kernel_rfl
theorem cellsIs : Tryd.prog.cellsOf 45 = 1 := by kernel_rfl
def IR (cs : List Value) (n : Int) : Prop := cs = [.int .i64 n]
theorem ints_of_trod {H : Type} {enc : TypeId × Value → H} {w : World} {spare : Nat → Bool} {held : Bool} {fuel : Nat} {v : Value} {x : DataW H × List MemPlace} (h : DataW.trod enc Tryd.prog w 0 spare held fuel 45 [v] = some x) :
    ∃ l : List Int, SliceAt w.heap.size w 1 IR v l ∧ l.length ≤ maxLen :=
  slice_of_trodG (R := IR) Tryd.underlying45 cellsI (by decide) h (fun cs n y hl hf => by
    obtain ⟨n0, g0, _, _⟩ := DataW.trod_int Tryd.underlying3 hf
    exact ⟨n0, g0⟩)
theorem open_ints {H : Type} {enc : TypeId × Value → H} {w : World} {r : Reach} {b0 : Nat} {spare : Nat → Bool} {held : Bool} {v : Value} {d : DataW H} {p : List MemPlace} (hv : Value.okWide Tryd.prog w r b0 45 v) (h : DataW.Trod enc Tryd.prog w 0 spare held 45 v d p) :
    ∃ l : List Int, SliceAt w.heap.size w 1 IR v l ∧ l.length ≤ maxLen := by
  obtain ⟨a, len, cap, rfl⟩ := okWide_slice Tryd.underlying45 hv
  obtain ⟨fuel, hf⟩ := h
  exact ints_of_trod hf
theorem ints_rep {W : World} {B : Nat} {v : Value} {l : List Int} (h : SliceAt B W 1 IR v l) : Rep (allK W) (keepD l) v := h.rep (fun n => [int n]) (fun cs x _ hx => by
  unfold IR at hx; subst hx
  exact ⟨.cons (.val _) .nil, by simp [Value.oneCell']⟩)
structure ActD where
  kind : Int
  w : WriteD
  keep : List Int
  n : Int
abbrev ActD.dv (x : ActD) : List D := [int x.kind, i8 x.w.op, str x.w.file, str x.w.b, int x.w.n, keepD x.keep, int x.n]
abbrev actsD (l : List ActD) : D := .lst 7 (l.map ActD.dv)
theorem cellsAct : Tryd.prog.cellsOf 47 = 7 := by kernel_rfl
def AR (w : World) (cs : List Value) (x : ActD) : Prop := (∃ vk, cs = [.int .i64 x.kind, .int .i8 x.w.op, S x.w.file, S x.w.b, .int .i64 x.w.n, vk, .int .i64 x.n] ∧ SliceAt w.heap.size w 1 IR vk x.keep) ∧ x.n ≤ 9223372036854775807
theorem some_at {α : Type} {l : List α} {n j : Nat} (h : l.length = n) (hj : j < n) : ∃ y, l[j]? = some y := ⟨_, List.getElem?_eq_getElem (by omega)⟩
theorem open_acts {H : Type} {enc : TypeId × Value → H} {w : World} {r : Reach} {b0 : Nat} {spare : Nat → Bool} {held : Bool} {v : Value} {d : DataW H} {p : List MemPlace} (hv : Value.okWide Tryd.prog w r b0 42 v) (h : DataW.Trod enc Tryd.prog w 0 spare held 42 v d p) :
    ∃ l : List ActD, SliceAt w.heap.size w 7 (AR w) v l ∧ l.length ≤ maxLen := by
  obtain ⟨a, len, cap, rfl⟩ := okWide_slice Tryd.underlying42 hv
  obtain ⟨fuel, hf⟩ := h
  refine slice_of_trodG (R := AR w) Tryd.underlying42 cellsAct (by decide) hf (fun cs n y hl hf => ?_)
  match cs, hl with
  | [c0, c1, c2, c3, c4, c5, c6], _ =>
    obtain ⟨ys, n1, _, _, _, hyl, hf⟩ := DataW.trod_struct Tryd.underlying47 hf
    obtain ⟨y0, e0⟩ := some_at hyl (j := 0) (by decide)
    obtain ⟨y1, e1⟩ := some_at hyl (j := 1) (by decide)
    obtain ⟨y2, e2⟩ := some_at hyl (j := 2) (by decide)
    obtain ⟨y3, e3⟩ := some_at hyl (j := 3) (by decide)
    have h0 : DataW.trod enc Tryd.prog w 0 spare held n1 3 (([c0, c1, c2, c3, c4, c5, c6].drop 0).take (Tryd.prog.cellsOf 3)) = some y0 := (hf 0 _ rfl).trans e0
    have h1 : DataW.trod enc Tryd.prog w 0 spare held n1 38 (([c0, c1, c2, c3, c4, c5, c6].drop 1).take (Tryd.prog.cellsOf 38)) = some y1 := (hf 1 _ rfl).trans e1
    have h2 : DataW.trod enc Tryd.prog w 0 spare held n1 45 (([c0, c1, c2, c3, c4, c5, c6].drop 5).take (Tryd.prog.cellsOf 45)) = some y2 := (hf 2 _ rfl).trans e2
    have h3 : DataW.trod enc Tryd.prog w 0 spare held n1 3 (([c0, c1, c2, c3, c4, c5, c6].drop 6).take (Tryd.prog.cellsOf 3)) = some y3 := (hf 3 _ rfl).trans e3
    rw [cellsI] at h0 h3
    rw [cellsW] at h1
    rw [cellsIs] at h2
    obtain ⟨n0, g0, _, _⟩ := DataW.trod_int Tryd.underlying3 h0
    obtain ⟨n3, g3, _, w3⟩ := DataW.trod_int Tryd.underlying3 h3
    obtain ⟨keep, hk, _⟩ := ints_of_trod (v := c5) h2
    obtain ⟨zs, n2, _, _, _, hzl, hz⟩ := DataW.trod_struct Tryd.underlying38 h1
    obtain ⟨z0, k0⟩ := some_at hzl (j := 0) (by decide)
    obtain ⟨z1, k1⟩ := some_at hzl (j := 1) (by decide)
    obtain ⟨z2, k2⟩ := some_at hzl (j := 2) (by decide)
    obtain ⟨z3, k3⟩ := some_at hzl (j := 3) (by decide)
    have j0 : DataW.trod enc Tryd.prog w 0 spare held n2 36 (([c1, c2, c3, c4].drop 0).take (Tryd.prog.cellsOf 36)) = some z0 := (hz 0 _ rfl).trans k0
    have j1 : DataW.trod enc Tryd.prog w 0 spare held n2 9 (([c1, c2, c3, c4].drop 1).take (Tryd.prog.cellsOf 9)) = some z1 := (hz 1 _ rfl).trans k1
    have j2 : DataW.trod enc Tryd.prog w 0 spare held n2 9 (([c1, c2, c3, c4].drop 2).take (Tryd.prog.cellsOf 9)) = some z2 := (hz 2 _ rfl).trans k2
    have j3 : DataW.trod enc Tryd.prog w 0 spare held n2 3 (([c1, c2, c3, c4].drop 3).take (Tryd.prog.cellsOf 3)) = some z3 := (hz 3 _ rfl).trans k3
    rw [cells8] at j0
    rw [cellsS] at j1 j2
    rw [cellsI] at j3
    obtain ⟨m0, q0, _, _⟩ := DataW.trod_int Tryd.underlying36 j0
    obtain ⟨s1, q1, _, _⟩ := DataW.trod_string Tryd.underlying9 j1
    obtain ⟨s2, q2, _, _⟩ := DataW.trod_string Tryd.underlying9 j2
    obtain ⟨m3, q3, _, _⟩ := DataW.trod_int Tryd.underlying3 j3
    have x0 : c0 = .int .i64 n0 := (List.cons.inj g0).1
    have x1 : c1 = .int .i8 m0 := by have : [c1] = [_] := q0; exact (List.cons.inj this).1
    have x2 : c2 = .string s1 := by have : [c2] = [_] := q1; exact (List.cons.inj this).1
    have x3 : c3 = .string s2 := by have : [c3] = [_] := q2; exact (List.cons.inj this).1
    have x4 : c4 = .int .i64 m3 := by have : [c4] = [_] := q3; exact (List.cons.inj this).1
    have x6 : c6 = .int .i64 n3 := by have : [c6] = [_] := g3; exact (List.cons.inj this).1
    subst x0 x1 x2 x3 x4 x6
    exact ⟨⟨n0, ⟨m0, s1.data.toList, s2.data.toList, m3⟩, keep, n3⟩, ⟨c5, rfl, hk⟩, i64_le w3⟩
theorem acts_rep {W : World} {v : Value} {l : List ActD} (h : SliceAt W.heap.size W 7 (AR W) v l) : Rep (allK W) (actsD l) v := h.rep ActD.dv (fun cs x _ hx => by
  obtain ⟨⟨vk, rfl, hk⟩, _⟩ := hx
  refine ⟨.cons (.val _) (.cons (.val _) (.cons (.val _) (.cons (.val _) (.cons (.val _) (.cons (ints_rep hk) (.cons (.val _) .nil)))))), ?_⟩
  intro u hu
  obtain ⟨a, c, rfl, _⟩ := hk
  simp at hu
  rcases hu with rfl | rfl | rfl | rfl | rfl | rfl | rfl <;> rfl)
theorem acts_n {W : World} {v : Value} {l : List ActD} (h : SliceAt W.heap.size W 7 (AR W) v l) : ∀ x ∈ l, x.n ≤ 9223372036854775807 := by
  intro x hx
  obtain ⟨a, c, rfl, _, hel⟩ := h
  obtain ⟨b, off, _, _, hel⟩ := hel (by intro e; subst e; simp at hx)
  obtain ⟨i, hi, rfl⟩ := List.getElem_of_mem hx
  obtain ⟨cs, _, hR, _⟩ := hel i hi
  exact hR.2
end Go.Proofs.YtljhcenfmaiaoaaDoor
