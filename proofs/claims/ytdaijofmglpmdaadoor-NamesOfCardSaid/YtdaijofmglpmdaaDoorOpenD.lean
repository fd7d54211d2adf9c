/- Opening a disk that came in: its files read as a list. -/
import Derived.Test.YtdaijofmglpmdaaDoorOpenS
import Derived.Test.YtdaijofmglpmdaaDoorDiskA
namespace Go.Proofs.YtdaijofmglpmdaaDoor
open Go.ChangeShapes Go.WideShapes Go.Deep Go.Joins
theorem cellsF : Tryd.prog.cellsOf 38 = 3 := by kernel_rfl
theorem cellsDk : Tryd.prog.cellsOf 35 = 4 := by kernel_rfl
theorem list3 {cs : List Value} {v0 v1 v2 : Value} (hl : cs.length = 3) (h0 : cs[0]? = some v0) (h1 : cs[1]? = some v1) (h2 : cs[2]? = some v2) : cs = [v0, v1, v2] := by
  match cs, hl with
  | [a, b, c], _ => simp at h0 h1 h2; simp [h0, h1, h2]
theorem files_of_trod {H : Type} {enc : TypeId × Value → H} {w : World} {spare : Nat → Bool} {held : Bool} {fuel : Nat} {v : Value} {x : DataW H × List MemPlace} (h : DataW.trod enc Tryd.prog w 0 spare held fuel 33 [v] = some x) :
    ∃ fs : List FileD, SliceAt w.heap.size w 3 FR v fs ∧ fs.length ≤ maxLen :=
  slice_of_trod (R := FR) Tryd.underlying33 Tryd.underlying38 (by kernel_rfl) cellsF (by decide) h (fun cs n hl hf => by
    obtain ⟨v0, y0, e0, t0⟩ := hf 0 _ rfl
    obtain ⟨v1, y1, e1, t1⟩ := hf 1 _ rfl
    obtain ⟨v2, y2, e2, t2⟩ := hf 2 _ rfl
    obtain ⟨s0, g0, _, _⟩ := DataW.trod_string Tryd.underlying9 t0
    obtain ⟨s1, g1, _, _⟩ := DataW.trod_string Tryd.underlying9 t1
    obtain ⟨n2, g2, _, _⟩ := DataW.trod_int Tryd.underlying3 t2
    cases g0; cases g1; cases g2
    exact ⟨⟨s0.data.toList, s1.data.toList, n2⟩, list3 hl e0 e1 e2⟩)
theorem open_disk {H : Type} {enc : TypeId × Value → H} {w : World} {r : Reach} {b0 : Nat} {spare : Nat → Bool} {held : Bool} {v : Value} {d : DataW H} {p : List MemPlace} (hv : Value.okWide Tryd.prog w r b0 35 v) (h : DataW.Trod enc Tryd.prog w 0 spare held 35 v d p) :
    ∃ (vf : Value) (fs : List FileD) (cap left : Int) (down : Bool), v = .agg #[vf, .int .i64 cap, .int .i64 left, .bool down] ∧ SliceAt w.heap.size w 3 FR vf fs ∧ fs.length ≤ maxLen ∧ (Lit.int .i64 cap).wf = true ∧ (Lit.int .i64 left).wf = true := by
  obtain ⟨v0, v1, v2, v3, y0, y1, y2, y3, n, rfl, _, _, t0, t1, t2, t3⟩ := open_agg4 Tryd.underlying35 (by kernel_rfl) cellsDk hv h
  obtain ⟨fs, hf, hl⟩ := files_of_trod t0
  obtain ⟨n1, g1, _, w1⟩ := DataW.trod_int Tryd.underlying3 t1
  obtain ⟨n2, g2, _, w2⟩ := DataW.trod_int Tryd.underlying3 t2
  obtain ⟨b3, g3, _⟩ := DataW.trod_bool Tryd.underlying4 t3
  cases g1; cases g2; cases g3
  exact ⟨_, fs, n1, n2, b3, rfl, hf, hl, w1, w2⟩
end Go.Proofs.YtdaijofmglpmdaaDoor
