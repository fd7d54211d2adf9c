/- Opening a disk that came in: its files read as a list. -/
import Derived.Test.YtljhcenfmaiaoaaDoorOpenS
import Derived.Test.YtljhcenfmaiaoaaDoorDkA
import Derived.Test.YtljhcenfmaiaoaaDoorLawA
namespace Go.Proofs.YtljhcenfmaiaoaaDoor
open Go Go.RowKit Go.ChangeShapes Go.WideShapes Go.Deep Go.Joins
set_option maxRecDepth 100000
theorem cellsF : Tryd.prog.cellsOf 31 = 3 := by kernel_rfl
theorem cellsDk : Tryd.prog.cellsOf 24 = 4 := by kernel_rfl
theorem list3 {cs : List Value} {v0 v1 v2 : Value} (hl : cs.length = 3) (h0 : cs[0]? = some v0) (h1 : cs[1]? = some v1) (h2 : cs[2]? = some v2) : cs = [v0, v1, v2] := by
  match cs, hl with
  | [a, b, c], _ => simp at h0 h1 h2; simp [h0, h1, h2]
def FR (cs : List Value) (f : FileD) : Prop := cs = [S f.name, S f.b, .int .i64 f.sure]
theorem FR.rep {W : World} {cs : List Value} {f : FileD} (h : FR cs f) : RepL (allK W) f.dv cs ∧ ∀ u ∈ cs, u.oneCell' = true := by
  unfold FR at h; subst h
  exact ⟨.cons (.val _) (.cons (.val _) (.cons (.val _) .nil)), by simp [Value.oneCell']⟩
theorem files_of_trod {H : Type} {enc : TypeId × Value → H} {w : World} {spare : Nat → Bool} {held : Bool} {fuel : Nat} {v : Value} {x : DataW H × List MemPlace} (h : DataW.trod enc Tryd.prog w 0 spare held fuel 22 [v] = some x) :
    ∃ fs : List FileD, SliceAt w.heap.size w 3 FR v fs ∧ fs.length ≤ maxLen :=
  slice_of_trod (R := FR) Tryd.underlying22 Tryd.underlying31 (by kernel_rfl) cellsF (by decide) h (fun cs n hl hf => by
    obtain ⟨v0, y0, e0, t0⟩ := hf 0 _ rfl
    obtain ⟨v1, y1, e1, t1⟩ := hf 1 _ rfl
    obtain ⟨v2, y2, e2, t2⟩ := hf 2 _ rfl
    obtain ⟨s0, g0, _, _⟩ := DataW.trod_string Tryd.underlying9 t0
    obtain ⟨s1, g1, _, _⟩ := DataW.trod_string Tryd.underlying9 t1
    obtain ⟨n2, g2, _, _⟩ := DataW.trod_int Tryd.underlying3 t2
    cases g0; cases g1; cases g2
    exact ⟨⟨s0.data.toList, s1.data.toList, n2⟩, list3 hl e0 e1 e2⟩)
theorem open_disk {H : Type} {enc : TypeId × Value → H} {w : World} {r : Reach} {b0 : Nat} {spare : Nat → Bool} {held : Bool} {v : Value} {d : DataW H} {p : List MemPlace} (hv : Value.okWide Tryd.prog w r b0 24 v) (h : DataW.Trod enc Tryd.prog w 0 spare held 24 v d p) :
    ∃ (vf : Value) (fs : List FileD) (cap left : Int) (down : Bool), v = .agg #[vf, .int .i64 cap, .int .i64 left, .bool down] ∧ SliceAt w.heap.size w 3 FR vf fs ∧ fs.length ≤ maxLen ∧ (Lit.int .i64 cap).wf = true ∧ (Lit.int .i64 left).wf = true := by
  obtain ⟨v0, v1, v2, v3, y0, y1, y2, y3, n, rfl, _, _, t0, t1, t2, t3⟩ := open_agg4 Tryd.underlying24 (by kernel_rfl) cellsDk hv h
  obtain ⟨fs, hf, hl⟩ := files_of_trod t0
  obtain ⟨n1, g1, _, w1⟩ := DataW.trod_int Tryd.underlying3 t1
  obtain ⟨n2, g2, _, w2⟩ := DataW.trod_int Tryd.underlying3 t2
  obtain ⟨b3, g3, _⟩ := DataW.trod_bool Tryd.underlying4 t3
  cases g1; cases g2; cases g3
  exact ⟨_, fs, n1, n2, b3, rfl, hf, hl, w1, w2⟩
theorem disk_rep {W : World} {B : Nat} {vf : Value} {fs : List FileD} (h : SliceAt B W 3 FR vf fs) (cap left : Int) (down : Bool) : Rep (allK W) (diskD fs cap left down) (.agg #[vf, .int .i64 cap, .int .i64 left, .bool down]) := by
  have hr := h.rep FileD.dv (fun cs x _ hx => hx.rep)
  have hL : RepL (allK W) [.lst 3 (fs.map FileD.dv), int cap, int left, boo down] [vf, .int .i64 cap, .int .i64 left, .bool down] := .cons hr (.cons (.val _) (.cons (.val _) (.cons (.val _) .nil)))
  refine Rep.agg (vs := [vf, .int .i64 cap, .int .i64 left, .bool down]) hL.1 hL.2 ?_
  intro u hu
  obtain ⟨a, c, rfl, _⟩ := h
  simp at hu
  rcases hu with rfl | rfl | rfl | rfl <;> rfl
end Go.Proofs.YtljhcenfmaiaoaaDoor
