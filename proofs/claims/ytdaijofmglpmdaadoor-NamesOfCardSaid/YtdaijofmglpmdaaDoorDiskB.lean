/- The reference's Get. -/
import Derived.Test.YtdaijofmglpmdaaDoorDiskA
namespace Go.Proofs.YtdaijofmglpmdaaDoor
open Go.RowKit
set_option maxRecDepth 100000
set_option linter.unusedVariables false
set_option maxHeartbeats 1000000 in
theorem getR (v : Value) (fs : List FileD) (cap left : Int) (down : Bool) (nm : List UInt8) (w : World) (hf : SliceAt w.heap.size w 3 FR v fs) (hn : fs.length ≤ 1000) :
    Calls Tryd.prog 29 #[.agg #[v, .int .i64 cap, .int .i64 left, .bool down], S nm] w fun e w' => e = .returned (getV fs nm) ∧ Below w.heap.size w w' := by
  obtain ⟨a, c, rfl, hc, hel⟩ := hf
  have b0 : Below w.heap.size w ((w.alloc (.cells #[.slice a fs.length c, .int .i64 cap, .int .i64 left, .bool down] 35)).alloc (.cells #[S [], S [], .int .i64 0] 38)) := ((Below.refl _ _).alloc (Nat.le_refl _) _).alloc (by simp) _
  have m0 := (LiesAt.new w #[.slice a fs.length c, .int .i64 cap, .int .i64 left, .bool down] 35).alloc (.cells #[S [], S [], .int .i64 0] 38)
  have m2 := LiesAt.new (w.alloc (.cells #[.slice a fs.length c, .int .i64 cap, .int .i64 left, .bool down] 35)) #[S [], S [], .int .i64 0] 38
  simp only [World.size_alloc] at m2
  go_enter Tryd.func29, Tryd.ntmps29
  go_wp2_with fail
  generalize ((w.alloc (.cells #[.slice a fs.length c, .int .i64 cap, .int .i64 left, .bool down] 35)).alloc (.cells #[S [], S [], .int .i64 0] 38)) = W0 at b0 m0 m2 ⊢
  have c0 : W0.cell? ⟨w.heap.size, 0, none⟩ = some (.slice a fs.length c) := m0.cell 0
  have e0 : W0.cell? ⟨w.heap.size + 1, 0, none⟩ = some (S []) := m2.cell 0
  have e1 : W0.cell? ⟨w.heap.size + 1, 1, none⟩ = some (S []) := m2.cell 1
  have e2 : W0.cell? ⟨w.heap.size + 1, 2, none⟩ = some (.int .i64 0) := m2.cell 2
  have g0 := m2.frozen 0
  have g1 := m2.frozen 1
  have g2 := m2.frozen 2
  go_loop [6] (fun i => ∃ k : Nat, k ≤ fs.length ∧ i = .int .i64 k ∧ NotTo (fun f => f.name == nm) fs k) (fun i => fs.length - (intOf i).toNat)
  case atStart => exact ⟨0, Nat.zero_le _, rfl, fun i hi h => absurd h (by omega)⟩
  case round =>
    obtain ⟨k, hk, rfl, hN⟩ := hrel
    by_cases hlt : k < fs.length
    · obtain ⟨b, off, rfl, hbl, hcell⟩ := hel (by intro e; rw [e] at hlt; simp at hlt)
      obtain ⟨cs, h1, h2, h3⟩ := hcell k hlt
      obtain ⟨d0, d1, d2⟩ := file_cells h1 h2 (fun j hj => (b0.cell (p := ⟨b, off + k * 3 + j, none⟩) hbl).trans (h3 j hj))
      clear hcell h1 h2 h3 hel
      cases hq : (fs[k].name == nm) with
      | true =>
        have HV := Lib.hid (getV_hit hlt (idx_hit hlt hN hq))
        go_wp2_with fail
        have m3 := ((m2.set 0 (S fs[k].name)).set 1 (S fs[k].b)).set 2 (.int .i64 fs[k].sure)
        have b3 := ((b0.setCell (p := ⟨w.heap.size + 1, 0, none⟩) (by show w.heap.size ≤ w.heap.size + 1; omega) (S fs[k].name)).setCell (p := ⟨w.heap.size + 1, 1, none⟩) (by show w.heap.size ≤ w.heap.size + 1; omega) (S fs[k].b)).setCell (p := ⟨w.heap.size + 1, 2, none⟩) (by show w.heap.size ≤ w.heap.size + 1; omega) (.int .i64 fs[k].sure)
        generalize (((W0.setCell ⟨w.heap.size + 1, 0, none⟩ (S fs[k].name)).setCell ⟨w.heap.size + 1, 1, none⟩ (S fs[k].b)).setCell ⟨w.heap.size + 1, 2, none⟩ (.int .i64 fs[k].sure)) = W3 at m3 b3 ⊢
        have q0 : W3.cell? ⟨w.heap.size + 1, 0, none⟩ = some (S fs[k].name) := m3.cell 0
        have q1 : W3.cell? ⟨w.heap.size + 1, 1, none⟩ = some (S fs[k].b) := m3.cell 1
        have q2 : W3.cell? ⟨w.heap.size + 1, 2, none⟩ = some (.int .i64 fs[k].sure) := m3.cell 2
        refine bodyPost_ret (v := .tuple #[.agg #[S fs[k].name, S fs[k].b, .int .i64 fs[k].sure], .bool true]) (by simp [results, Tryd.results29, go_sem, q0, q1, q2]) rfl ⟨by rw [HV.out], b3⟩
      | false =>
        have hN' : NotTo (fun f => f.name == nm) fs (k + 1) := fun i hi h => by
          by_cases e : i = k
          · subst e; exact hq
          · exact hN i hi (by omega)
        go_wp2_with fail
        go_round
        case rel => exact ⟨k + 1, by omega, by go_num, hN'⟩
        case measure => simp [intOf]; omega
    · have e : k = fs.length := by omega
      have HV := Lib.hid (getV_none (idx_none (p := fun f => f.name == nm) (fs := fs) (by rw [← e]; exact hN)))
      clear e
      go_wp2_with fail
      have m3 := ((m2.set 0 (S [])).set 1 (S [])).set 2 (.int .i64 0)
      have b3 := ((b0.setCell (p := ⟨w.heap.size + 1, 0, none⟩) (by show w.heap.size ≤ w.heap.size + 1; omega) (S [])).setCell (p := ⟨w.heap.size + 1, 1, none⟩) (by show w.heap.size ≤ w.heap.size + 1; omega) (S [])).setCell (p := ⟨w.heap.size + 1, 2, none⟩) (by show w.heap.size ≤ w.heap.size + 1; omega) (.int .i64 0)
      generalize (((W0.setCell ⟨w.heap.size + 1, 0, none⟩ (S [])).setCell ⟨w.heap.size + 1, 1, none⟩ (S [])).setCell ⟨w.heap.size + 1, 2, none⟩ (.int .i64 0)) = W3 at m3 b3 ⊢
      have q0 : W3.cell? ⟨w.heap.size + 1, 0, none⟩ = some (S []) := m3.cell 0
      have q1 : W3.cell? ⟨w.heap.size + 1, 1, none⟩ = some (S []) := m3.cell 1
      have q2 : W3.cell? ⟨w.heap.size + 1, 2, none⟩ = some (.int .i64 0) := m3.cell 2
      refine bodyPost_ret (v := .tuple #[.agg #[S [], S [], .int .i64 0], .bool false]) (by simp [results, Tryd.results29, go_sem, q0, q1, q2]) rfl ⟨by rw [HV.out], b3⟩
end Go.Proofs.YtdaijofmglpmdaaDoor
