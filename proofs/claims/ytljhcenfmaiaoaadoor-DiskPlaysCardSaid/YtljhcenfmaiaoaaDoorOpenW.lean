/- Opening a list of operations that came in. -/
import Derived.Test.YtljhcenfmaiaoaaDoorOpenK
import Derived.Test.YtljhcenfmaiaoaaDoorDkL0
namespace Go.Proofs.YtljhcenfmaiaoaaDoor
open Go Go.RowKit Go.ChangeShapes Go.WideShapes Go.Deep Go.Joins
set_option maxRecDepth 100000
set_option linter.unusedVariables false
theorem cellsW : Tryd.prog.cellsOf 38 = 4 := by kernel_rfl
theorem list4 {cs : List Value} {v0 v1 v2 v3 : Value} (hl : cs.length = 4) (h0 : cs[0]? = some v0) (h1 : cs[1]? = some v1) (h2 : cs[2]? = some v2) (h3 : cs[3]? = some v3) : cs = [v0, v1, v2, v3] := by
  match cs, hl with
  | [a, b, c, d], _ => simp at h0 h1 h2 h3; simp [h0, h1, h2, h3]
def WR (cs : List Value) (w : WriteD) : Prop := cs = [.int .i8 w.op, S w.file, S w.b, .int .i64 w.n]
theorem WR.rep {W : World} {cs : List Value} {w : WriteD} (h : WR cs w) : RepL (allK W) w.dv cs ∧ ∀ u ∈ cs, u.oneCell' = true := by
  unfold WR at h; subst h
  exact ⟨.cons (.val _) (.cons (.val _) (.cons (.val _) (.cons (.val _) .nil))), by simp [Value.oneCell']⟩
theorem open_writes {H : Type} {enc : TypeId × Value → H} {w : World} {r : Reach} {b0 : Nat} {spare : Nat → Bool} {held : Bool} {v : Value} {d : DataW H} {p : List MemPlace} (hv : Value.okWide Tryd.prog w r b0 53 v) (h : DataW.Trod enc Tryd.prog w 0 spare held 53 v d p) :
    ∃ l : List WriteD, SliceAt w.heap.size w 4 WR v l ∧ l.length ≤ maxLen := by
  obtain ⟨a, len, cap, rfl⟩ := okWide_slice Tryd.underlying53 hv
  obtain ⟨fuel, hf⟩ := h
  refine slice_of_trod (R := WR) Tryd.underlying53 Tryd.underlying38 (by kernel_rfl) cellsW (by decide) hf (fun cs n hl hf => ?_)
  obtain ⟨v0, y0, e0, t0⟩ := hf 0 _ rfl
  obtain ⟨v1, y1, e1, t1⟩ := hf 1 _ rfl
  obtain ⟨v2, y2, e2, t2⟩ := hf 2 _ rfl
  obtain ⟨v3, y3, e3, t3⟩ := hf 3 _ rfl
  obtain ⟨n0, g0, _, _⟩ := DataW.trod_int Tryd.underlying36 t0
  obtain ⟨s1, g1, _, _⟩ := DataW.trod_string Tryd.underlying9 t1
  obtain ⟨s2, g2, _, _⟩ := DataW.trod_string Tryd.underlying9 t2
  obtain ⟨n3, g3, _, _⟩ := DataW.trod_int Tryd.underlying3 t3
  cases g0; cases g1; cases g2; cases g3
  exact ⟨⟨n0, s1.data.toList, s2.data.toList, n3⟩, list4 hl e0 e1 e2 e3⟩
theorem writes_rep {W : World} {B : Nat} {v : Value} {l : List WriteD} (h : SliceAt B W 4 WR v l) : Rep (allK W) (writesD l) v := h.rep WriteD.dv (fun cs x _ hx => hx.rep)
theorem open_write {H : Type} {enc : TypeId × Value → H} {w : World} {r : Reach} {b0 : Nat} {spare : Nat → Bool} {held : Bool} {v : Value} {d : DataW H} {p : List MemPlace} (hv : Value.okWide Tryd.prog w r b0 38 v) (h : DataW.Trod enc Tryd.prog w 0 spare held 38 v d p) :
    ∃ x : WriteD, v = .agg #[.int .i8 x.op, S x.file, S x.b, .int .i64 x.n] := by
  obtain ⟨v0, v1, v2, v3, y0, y1, y2, y3, n, rfl, _, _, t0, t1, t2, t3⟩ := open_agg4 Tryd.underlying38 (by kernel_rfl) cellsW hv h
  obtain ⟨n0, g0, _, _⟩ := DataW.trod_int Tryd.underlying36 t0
  obtain ⟨s1, g1, _, _⟩ := DataW.trod_string Tryd.underlying9 t1
  obtain ⟨s2, g2, _, _⟩ := DataW.trod_string Tryd.underlying9 t2
  obtain ⟨n3, g3, _, _⟩ := DataW.trod_int Tryd.underlying3 t3
  cases g0; cases g1; cases g2; cases g3
  exact ⟨⟨n0, s1.data.toList, s2.data.toList, n3⟩, rfl⟩
theorem write_rep {W : World} (x : WriteD) : Rep (allK W) (.agg x.dv) (.agg #[.int .i8 x.op, S x.file, S x.b, .int .i64 x.n]) := by
  have hL : RepL (allK W) x.dv [.int .i8 x.op, S x.file, S x.b, .int .i64 x.n] := .cons (.val _) (.cons (.val _) (.cons (.val _) (.cons (.val _) .nil)))
  refine Rep.agg (vs := [.int .i8 x.op, S x.file, S x.b, .int .i64 x.n]) hL.1 hL.2 ?_
  intro u hu
  simp at hu
  rcases hu with rfl | rfl | rfl | rfl <;> rfl
end Go.Proofs.YtljhcenfmaiaoaaDoor
