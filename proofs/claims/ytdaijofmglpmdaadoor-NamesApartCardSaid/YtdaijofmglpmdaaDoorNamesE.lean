/- Disks: Great of the reference, and names.Of: the names of an engine's files. -/
import Derived.Test.YtdaijofmglpmdaaDoorNamesD
import Derived.Maps.AppendAt
namespace Go.Proofs.YtdaijofmglpmdaaDoor
open Go.RowKit
set_option maxRecDepth 100000
set_option linter.unusedVariables false
structure FileD where
  name : List UInt8
  b : List UInt8
  sure : Int
def FileD.cells (f : FileD) : List Value := [S f.name, S f.b, .int .i64 f.sure]
def FR (cs : List Value) (f : FileD) : Prop := cs = f.cells
def greatF (f : FileD) : Bool := decide (131072 < f.b.length) || decide (100 < f.name.length)
def greatD (fs : List FileD) : Bool := decide (100 < fs.length) || fs.any greatF
theorem file_cells {w : World} {b o : Nat} {f : FileD} {cs : List Value} (h1 : cs.length = 3) (h2 : FR cs f) (h : ∀ j, j < 3 → w.cell? ⟨b, o + j, none⟩ = cs[j]?) :
    w.cell? ⟨b, o, none⟩ = some (S f.name) ∧ w.cell? ⟨b, o + 1, none⟩ = some (S f.b) ∧ w.cell? ⟨b, o + 2, none⟩ = some (.int .i64 f.sure) := by
  unfold FR FileD.cells at h2
  subst h2
  exact ⟨h 0 (by omega), h 1 (by omega), h 2 (by omega)⟩
theorem great_hit {fs : List FileD} {k : Nat} (hk : k < fs.length) (h : greatF fs[k] = true) : greatD fs = true := by
  have : fs.any greatF = true := by rw [List.any_eq_true]; exact ⟨fs[k], List.getElem_mem hk, h⟩
  simp [greatD, this]
theorem great_not {fs : List FileD} (h0 : ¬ 100 < fs.length) (h : ∀ i (hi : i < fs.length), greatF fs[i] = false) : greatD fs = false := by
  have : fs.any greatF = false := by
    rw [List.any_eq_false]; intro x hx
    obtain ⟨i, hi, rfl⟩ := List.getElem_of_mem hx
    simp [h i hi]
  simp [greatD, this]; omega
def SomeFrom (fs : List FileD) (k : Nat) : Prop := ∀ i (hi : i < fs.length), i < k → greatF fs[i] = false
set_option maxHeartbeats 1000000 in
theorem greatR (v : Value) (fs : List FileD) (cap left : Int) (down : Bool) (w : World) (hf : SliceAt w.heap.size w 3 FR v fs) :
    Calls Tryd.prog 19 #[.agg #[v, .int .i64 cap, .int .i64 left, .bool down]] w fun e w' => e = .returned (.bool (greatD fs)) ∧ Below w.heap.size w w' := by
  obtain ⟨a, c, rfl, hc, hel⟩ := hf
  by_cases h100 : 100 < fs.length
  · have hg : greatD fs = true := by simp [greatD, h100]
    rw [hg]
    go_enter Tryd.func19, Tryd.ntmps19
    go_wp2_with fail
    go_ret
    exact ⟨rfl, (Below.refl _ _).alloc (Nat.le_refl _) _⟩
  · have e100 : decide (100 < (fs.length : Int)) = false := by simp; omega
    go_enter Tryd.func19, Tryd.ntmps19
    go_wp2_with fail
    have l0 := LiesAt.new w #[.slice a fs.length c, .int .i64 cap, .int .i64 left, .bool down] 35
    have b0 : Below w.heap.size w (w.alloc (.cells #[.slice a fs.length c, .int .i64 cap, .int .i64 left, .bool down] 35)) := (Below.refl _ _).alloc (Nat.le_refl _) _
    generalize w.alloc (.cells #[.slice a fs.length c, .int .i64 cap, .int .i64 left, .bool down] 35) = W0 at l0 b0 ⊢
    have c0 : W0.cell? ⟨w.heap.size, 0, none⟩ = some (.slice a fs.length c) := l0.cell 0
    go_loop [3] (fun i => ∃ k : Nat, k ≤ fs.length ∧ i = .int .i64 k ∧ SomeFrom fs k) (fun i => fs.length - (intOf i).toNat)
    case atStart => exact ⟨0, Nat.zero_le _, rfl, fun i hi h => absurd h (by omega)⟩
    case round =>
      obtain ⟨k, hk, rfl, hs⟩ := hrel
      by_cases hlt : k < fs.length
      · obtain ⟨b, off, rfl, hbl, hcell⟩ := hel (by intro e; rw [e] at hlt; simp at hlt)
        obtain ⟨cs, h1, h2, h3⟩ := hcell k hlt
        obtain ⟨d0, d1, d2⟩ := file_cells h1 h2 (fun j hj => (b0.cell (p := ⟨b, off + k * 3 + j, none⟩) hbl).trans (h3 j hj))
        clear hcell h1 h2 h3
        have hgk : greatF fs[k] = (decide (131072 < fs[k].b.length) || decide (100 < fs[k].name.length)) := rfl
        generalize fs[k].name = nm at d0 hgk
        generalize fs[k].b = bb at d1 hgk
        by_cases hb : 131072 < bb.length
        · have HG := Lib.hid (great_hit hlt (show greatF fs[k] = true by rw [hgk]; simp [hb]))
          clear hgk
          go_wp2_with fail
          go_ret
          exact ⟨by rw [HG.out]; rfl, b0⟩
        · by_cases hm : 100 < nm.length
          · have HG := Lib.hid (great_hit hlt (show greatF fs[k] = true by rw [hgk]; simp [hm]))
            clear hgk
            have e1 : decide (100 < (nm.length : Int)) = true := by simp; omega
            go_wp2_with fail
            go_ret
            exact ⟨by rw [HG.out]; rfl, b0⟩
          · have hs' : SomeFrom fs (k + 1) := fun i hi h => by
              by_cases e : i = k
              · subst e; rw [hgk]; simp [hb, hm]
              · exact hs i hi (by omega)
            clear hgk
            have e1 : decide (100 < (nm.length : Int)) = false := by simp; omega
            go_wp2_with fail
            go_round
            case rel => exact ⟨k + 1, by omega, by go_num, hs'⟩
            case measure => simp [intOf]; omega
      · have HG := Lib.hid (great_not h100 (fun i hi => hs i hi (by omega)))
        go_wp2_with fail
        go_ret
        exact ⟨by rw [HG.out]; rfl, b0⟩
end Go.Proofs.YtdaijofmglpmdaaDoor
