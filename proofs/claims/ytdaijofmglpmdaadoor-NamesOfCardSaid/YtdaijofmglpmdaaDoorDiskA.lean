/- Disks in memory: Great of the reference; the first file that is wanted; Get of the package and of the reference. -/
import Derived.Test.YtdaijofmglpmdaaDoorProg
import Derived.Test.YtdaijofmglpmdaaDoorMem
import Derived.WalkKit
import Derived.WalkSpells
import Derived.WalkLawsBesides
import Derived.Deep.RegionHeld3
import Derived.Maps.AppendAt
namespace Go.Proofs.YtdaijofmglpmdaaDoor
open Go.RowKit
set_option maxRecDepth 100000
set_option linter.unusedVariables false
structure FileD where
  name : List UInt8
  b : List UInt8
  sure : Int
def FileD.cells (f : FileD) : List Value := [S f.name, S f.b, .int .i64 f.sure]
def FR (cs : List Value) (f : FileD) : Prop := cs = f.cells
def greatF (f : FileD) : Bool := decide (131072 < f.b.length) || decide (100 < f.name.length)
def greatD (fs : List FileD) : Bool := decide (100 < fs.length) || fs.any greatF
theorem file_cells {w : World} {b o : Nat} {f : FileD} {cs : List Value} (h1 : cs.length = 3) (h2 : FR cs f) (h : ∀ j, j < 3 → w.cell? ⟨b, o + j, none⟩ = cs[j]?) :
    w.cell? ⟨b, o, none⟩ = some (S f.name) ∧ w.cell? ⟨b, o + 1, none⟩ = some (S f.b) ∧ w.cell? ⟨b, o + 2, none⟩ = some (.int .i64 f.sure) := by
  unfold FR FileD.cells at h2
  subst h2
  exact ⟨h 0 (by omega), h 1 (by omega), h 2 (by omega)⟩
theorem great_hit {fs : List FileD} {k : Nat} (hk : k < fs.length) (h : greatF fs[k] = true) : greatD fs = true := by
  have : fs.any greatF = true := by rw [List.any_eq_true]; exact ⟨fs[k], List.getElem_mem hk, h⟩
  simp [greatD, this]
theorem great_not {fs : List FileD} (h0 : ¬ 100 < fs.length) (h : ∀ i (hi : i < fs.length), greatF fs[i] = false) : greatD fs = false := by
  have : fs.any greatF = false := by
    rw [List.any_eq_false]; intro x hx
    obtain ⟨i, hi, rfl⟩ := List.getElem_of_mem hx
    simp [h i hi]
  simp [greatD, this]; omega
def SomeFrom (fs : List FileD) (k : Nat) : Prop := ∀ i (hi : i < fs.length), i < k → greatF fs[i] = false
set_option maxHeartbeats 1000000 in
theorem greatR (v : Value) (fs : List FileD) (cap left : Int) (down : Bool) (w : World) (hf : SliceAt w.heap.size w 3 FR v fs) :
    Calls Tryd.prog 19 #[.agg #[v, .int .i64 cap, .int .i64 left, .bool down]] w fun e w' => e = .returned (.bool (greatD fs)) ∧ Below w.heap.size w w' := by
  obtain ⟨a, c, rfl, hc, hel⟩ := hf
  by_cases h100 : 100 < fs.length
  · have hg : greatD fs = true := by simp [greatD, h100]
    rw [hg]
    go_enter Tryd.func19, Tryd.ntmps19
    go_wp2_with fail
    go_ret
    exact ⟨rfl, (Below.refl _ _).alloc (Nat.le_refl _) _⟩
  · have e100 : decide (100 < (fs.length : Int)) = false := by simp; omega
    go_enter Tryd.func19, Tryd.ntmps19
    go_wp2_with fail
    have l0 := LiesAt.new w #[.slice a fs.length c, .int .i64 cap, .int .i64 left, .bool down] 35
    have b0 : Below w.heap.size w (w.alloc (.cells #[.slice a fs.length c, .int .i64 cap, .int .i64 left, .bool down] 35)) := (Below.refl _ _).alloc (Nat.le_refl _) _
    generalize w.alloc (.cells #[.slice a fs.length c, .int .i64 cap, .int .i64 left, .bool down] 35) = W0 at l0 b0 ⊢
    have c0 : W0.cell? ⟨w.heap.size, 0, none⟩ = some (.slice a fs.length c) := l0.cell 0
    go_loop [3] (fun i => ∃ k : Nat, k ≤ fs.length ∧ i = .int .i64 k ∧ SomeFrom fs k) (fun i => fs.length - (intOf i).toNat)
    case atStart => exact ⟨0, Nat.zero_le _, rfl, fun i hi h => absurd h (by omega)⟩
    case round =>
      obtain ⟨k, hk, rfl, hs⟩ := hrel
      by_cases hlt : k < fs.length
      · obtain ⟨b, off, rfl, hbl, hcell⟩ := hel (by intro e; rw [e] at hlt; simp at hlt)
        obtain ⟨cs, h1, h2, h3⟩ := hcell k hlt
        obtain ⟨d0, d1, d2⟩ := file_cells h1 h2 (fun j hj => (b0.cell (p := ⟨b, off + k * 3 + j, none⟩) hbl).trans (h3 j hj))
        clear hcell h1 h2 h3
        have hgk : greatF fs[k] = (decide (131072 < fs[k].b.length) || decide (100 < fs[k].name.length)) := rfl
        generalize fs[k].name = nm at d0 hgk
        generalize fs[k].b = bb at d1 hgk
        by_cases hb : 131072 < bb.length
        · have HG := Lib.hid (great_hit hlt (show greatF fs[k] = true by rw [hgk]; simp [hb]))
          clear hgk
          go_wp2_with fail
          go_ret
          exact ⟨by rw [HG.out]; rfl, b0⟩
        · by_cases hm : 100 < nm.length
          · have HG := Lib.hid (great_hit hlt (show greatF fs[k] = true by rw [hgk]; simp [hm]))
            clear hgk
            have e1 : decide (100 < (nm.length : Int)) = true := by simp; omega
            go_wp2_with fail
            go_ret
            exact ⟨by rw [HG.out]; rfl, b0⟩
          · have hs' : SomeFrom fs (k + 1) := fun i hi h => by
              by_cases e : i = k
              · subst e; rw [hgk]; simp [hb, hm]
              · exact hs i hi (by omega)
            clear hgk
            have e1 : decide (100 < (nm.length : Int)) = false := by simp; omega
            go_wp2_with fail
            go_round
            case rel => exact ⟨k + 1, by omega, by go_num, hs'⟩
            case measure => simp [intOf]; omega
      · have HG := Lib.hid (great_not h100 (fun i hi => hs i hi (by omega)))
        go_wp2_with fail
        go_ret
        exact ⟨by rw [HG.out]; rfl, b0⟩
theorem get1 (f : FileD) (nm : List UInt8) (b : Nat) (w : World) (hc : w.cell? ⟨b, 0, none⟩ = some (S nm)) (hb : b < w.heap.size) :
    Calls Tryd.prog 33 #[.agg #[S f.name, S f.b, .int .i64 f.sure], .pointer (some ⟨b, 0, none⟩)] w fun e w' => e = .returned (.bool (f.name == nm)) ∧ Below w.heap.size w w' := by
  have hc1 : (w.alloc (.cells #[S f.name, S f.b, .int .i64 f.sure] 38)).cell? ⟨b, 0, none⟩ = some (S nm) := (((Below.refl _ w).alloc (Nat.le_refl _) _).cell (p := ⟨b, 0, none⟩) hb).trans hc
  go_enter Tryd.func33, Tryd.ntmps33
  go_wp2_with fail
  go_ret
  exact ⟨rfl, (Below.refl _ _).alloc (Nat.le_refl _) _⟩
def NotTo (p : FileD → Bool) (fs : List FileD) (k : Nat) : Prop := ∀ i (hi : i < fs.length), i < k → p fs[i] = false
theorem idx_hit {p : FileD → Bool} {fs : List FileD} {k : Nat} (hk : k < fs.length) (h : NotTo p fs k) (h2 : p fs[k] = true) : fs.findIdx p = k := by
  rw [List.findIdx_eq hk]; exact ⟨h2, fun j hj => h j (by omega) hj⟩
theorem idx_none {p : FileD → Bool} {fs : List FileD} (h : NotTo p fs fs.length) : fs.findIdx p = fs.length := by
  rw [List.findIdx_eq_length]; intro x hx
  obtain ⟨i, hi, rfl⟩ := List.getElem_of_mem hx
  exact h i hi hi
set_option maxHeartbeats 1000000 in
theorem firstGet (v : Value) (fs : List FileD) (nm : List UInt8) (b0 : Nat) (w : World) (hf : SliceAt w.heap.size w 3 FR v fs) (hn : fs.length ≤ 1000) (hc0 : w.cell? ⟨b0, 0, none⟩ = some (S nm)) (hb0 : b0 < w.heap.size) :
    Calls Tryd.prog 32 #[v, .func (.func 33) #[] #[.pointer (some ⟨b0, 0, none⟩)]] w fun e w' => e = .returned (.int .i64 (fs.findIdx fun f => f.name == nm)) ∧ Below w.heap.size w w' := by
  obtain ⟨a, c, rfl, hc, hel⟩ := hf
  go_enter Tryd.func32, Tryd.ntmps32
  go_wp2_with fail
  go_loopw [9] (fun i wr => ∃ k : Nat, k ≤ fs.length ∧ i = .int .i64 k ∧ NotTo (fun f => f.name == nm) fs k ∧ Below w.heap.size w wr) (fun i wr => fs.length - (intOf i).toNat)
  case atStart => exact ⟨0, Nat.zero_le _, rfl, fun i hi h => absurd h (by omega), Below.refl _ _⟩
  case round =>
    obtain ⟨k, hk, rfl, hN, hB⟩ := hrel
    by_cases hlt : k < fs.length
    · obtain ⟨b, off, rfl, hbl, hcell⟩ := hel (by intro e; rw [e] at hlt; simp at hlt)
      obtain ⟨cs, h1, h2, h3⟩ := hcell k hlt
      obtain ⟨d0, d1, d2⟩ := file_cells h1 h2 (fun j hj => (hB.cell (p := ⟨b, off + k * 3 + j, none⟩) hbl).trans (h3 j hj))
      have hcw : (wr.alloc (.cells #[S fs[k].name, S fs[k].b, .int .i64 fs[k].sure] 38)).cell? ⟨b0, 0, none⟩ = some (S nm) := ((hB.alloc hB.size _).cell (p := ⟨b0, 0, none⟩) hb0).trans hc0
      have hbw : b0 < (wr.alloc (.cells #[S fs[k].name, S fs[k].b, .int .i64 fs[k].sure] 38)).heap.size := by simp; have := hB.size; omega
      clear hcell h1 h2 h3 hel
      go_wp2_with fail
      refine (get1 fs[k] nm b0 _ hcw hbw).mono ?_
      rintro e w1 ⟨rfl, hb1⟩
      have hB1 : Below w.heap.size w w1 := (hB.alloc hB.size _).then hb1 (by simp; have := hB.size; omega)
      clear hb1 d0 d1 d2 hcw hbw
      cases hq : (fs[k].name == nm) with
      | true =>
        have HI := Lib.hid (idx_hit hlt hN hq)
        go_wp2_with fail
        go_ret
        exact ⟨by rw [HI.out]; rfl, hB1⟩
      | false =>
        have hN' : NotTo (fun f => f.name == nm) fs (k + 1) := fun i hi h => by
          by_cases e : i = k
          · subst e; exact hq
          · exact hN i hi (by omega)
        go_wp2_with fail
        go_roundw
        case rel => exact ⟨k + 1, by omega, by go_num, hN', hB1⟩
        case measure => simp [intOf]; omega
    · have e : k = fs.length := by omega
      have HI := Lib.hid (idx_none (p := fun f => f.name == nm) (fs := fs) (by rw [← e]; exact hN))
      clear e
      go_wp2_with fail
      go_ret
      exact ⟨by rw [HI.out]; rfl, hB⟩
def getF (fs : List FileD) (nm : List UInt8) : Option FileD := fs[fs.findIdx fun f => f.name == nm]?
def fileV (f : FileD) : Value := .agg #[S f.name, S f.b, .int .i64 f.sure]
def getV (fs : List FileD) (nm : List UInt8) : Value := match getF fs nm with
  | some f => .tuple #[.agg #[S f.name, S f.b, .int .i64 f.sure], .bool true]
  | none => .tuple #[.agg #[S [], S [], .int .i64 0], .bool false]
theorem getV_hit {fs : List FileD} {nm : List UInt8} {k : Nat} (hk : k < fs.length) (h : (fs.findIdx fun f => f.name == nm) = k) : getV fs nm = .tuple #[.agg #[S fs[k].name, S fs[k].b, .int .i64 fs[k].sure], .bool true] := by
  unfold getV getF; rw [h, List.getElem?_eq_getElem hk]
theorem getV_none {fs : List FileD} {nm : List UInt8} (h : (fs.findIdx fun f => f.name == nm) = fs.length) : getV fs nm = .tuple #[.agg #[S [], S [], .int .i64 0], .bool false] := by
  unfold getV getF; rw [h, List.getElem?_eq_none (Nat.le_refl _)]
set_option maxHeartbeats 1000000 in
theorem get (v : Value) (fs : List FileD) (cap left : Int) (down : Bool) (nm : List UInt8) (w : World) (hf : SliceAt w.heap.size w 3 FR v fs) (hn : fs.length ≤ 1000) :
    Calls Tryd.prog 28 #[.agg #[v, .int .i64 cap, .int .i64 left, .bool down], S nm] w fun e w' => e = .returned (getV fs nm) ∧ Below w.heap.size w w' := by
  have hf0 := hf
  obtain ⟨a, c, rfl, hc, hel⟩ := hf
  have b0 : Below w.heap.size w (((w.alloc (.cells #[.slice a fs.length c, .int .i64 cap, .int .i64 left, .bool down] 35)).alloc (.cells #[S nm] 9)).alloc (.cells #[S [], S [], .int .i64 0] 38)) := (((Below.refl _ _).alloc (Nat.le_refl _) _).alloc (by simp) _).alloc (by simp; omega) _
  have l0 := ((LiesAt.new w #[.slice a fs.length c, .int .i64 cap, .int .i64 left, .bool down] 35).alloc (.cells #[S nm] 9)).alloc (.cells #[S [], S [], .int .i64 0] 38)
  have l1 := (LiesAt.new (w.alloc (.cells #[.slice a fs.length c, .int .i64 cap, .int .i64 left, .bool down] 35)) #[S nm] 9).alloc (.cells #[S [], S [], .int .i64 0] 38)
  have l2 := LiesAt.new ((w.alloc (.cells #[.slice a fs.length c, .int .i64 cap, .int .i64 left, .bool down] 35)).alloc (.cells #[S nm] 9)) #[S [], S [], .int .i64 0] 38
  simp only [World.size_alloc] at l1 l2
  have z0 : w.heap.size + 3 ≤ (((w.alloc (.cells #[.slice a fs.length c, .int .i64 cap, .int .i64 left, .bool down] 35)).alloc (.cells #[S nm] 9)).alloc (.cells #[S [], S [], .int .i64 0] 38)).heap.size := by simp
  go_enter Tryd.func28, Tryd.ntmps28
  go_wp2_with fail
  generalize (((w.alloc (.cells #[.slice a fs.length c, .int .i64 cap, .int .i64 left, .bool down] 35)).alloc (.cells #[S nm] 9)).alloc (.cells #[S [], S [], .int .i64 0] 38)) = W0 at b0 l0 l1 l2 z0 ⊢
  refine (firstGet (.slice a fs.length c) fs nm (w.heap.size + 1) W0 (hf0.mono b0 (by omega) (fun _ _ _ h => h)) hn (l1.cell 0) (by omega)).mono ?_
  rintro e w1 ⟨rfl, hb1⟩
  have b1 := b0.then hb1 (by omega)
  have m0 := l0.below hb1 l0.lt
  have m2 := l2.below hb1 l2.lt
  have c0 : w1.cell? ⟨w.heap.size, 0, none⟩ = some (.slice a fs.length c) := m0.cell 0
  have e0 : w1.cell? ⟨w.heap.size + 1 + 1, 0, none⟩ = some (S []) := m2.cell 0
  have e1 : w1.cell? ⟨w.heap.size + 1 + 1, 1, none⟩ = some (S []) := m2.cell 1
  have e2 : w1.cell? ⟨w.heap.size + 1 + 1, 2, none⟩ = some (.int .i64 0) := m2.cell 2
  have g0 := m2.frozen 0
  have g1 := m2.frozen 1
  have g2 := m2.frozen 2
  clear l0 l1 l2 b0 hb1 z0
  have hle : (fs.findIdx fun f => f.name == nm) ≤ fs.length := List.findIdx_le_length
  generalize hk : (fs.findIdx fun f => f.name == nm) = k at hle ⊢
  by_cases hlt : k < fs.length
  · have HV := Lib.hid (getV_hit hlt hk)
    clear hk
    have hne : ((k : Int) == (fs.length : Int)) = false := by simp; omega
    obtain ⟨b, off, rfl, hbl, hcell⟩ := hel (by intro e; rw [e] at hlt; simp at hlt)
    obtain ⟨cs, h1, h2, h3⟩ := hcell k hlt
    obtain ⟨d0, d1, d2⟩ := file_cells h1 h2 (fun j hj => (b1.cell (p := ⟨b, off + k * 3 + j, none⟩) hbl).trans (h3 j hj))
    clear hcell h1 h2 h3 hel
    go_wp2_with fail
    have m3 := ((m2.set 0 (S fs[k].name)).set 1 (S fs[k].b)).set 2 (.int .i64 fs[k].sure)
    have b3 := ((b1.setCell (p := ⟨w.heap.size + 1 + 1, 0, none⟩) (by show w.heap.size ≤ w.heap.size + 1 + 1; omega) (S fs[k].name)).setCell (p := ⟨w.heap.size + 1 + 1, 1, none⟩) (by show w.heap.size ≤ w.heap.size + 1 + 1; omega) (S fs[k].b)).setCell (p := ⟨w.heap.size + 1 + 1, 2, none⟩) (by show w.heap.size ≤ w.heap.size + 1 + 1; omega) (.int .i64 fs[k].sure)
    generalize (((w1.setCell ⟨w.heap.size + 1 + 1, 0, none⟩ (S fs[k].name)).setCell ⟨w.heap.size + 1 + 1, 1, none⟩ (S fs[k].b)).setCell ⟨w.heap.size + 1 + 1, 2, none⟩ (.int .i64 fs[k].sure)) = W3 at m3 b3 ⊢
    have q0 : W3.cell? ⟨w.heap.size + 1 + 1, 0, none⟩ = some (S fs[k].name) := m3.cell 0
    have q1 : W3.cell? ⟨w.heap.size + 1 + 1, 1, none⟩ = some (S fs[k].b) := m3.cell 1
    have q2 : W3.cell? ⟨w.heap.size + 1 + 1, 2, none⟩ = some (.int .i64 fs[k].sure) := m3.cell 2
    refine bodyPost_ret (v := .tuple #[.agg #[S fs[k].name, S fs[k].b, .int .i64 fs[k].sure], .bool true]) (by simp [results, Tryd.results28, go_sem, q0, q1, q2]) rfl ⟨by rw [HV.out], b3⟩
  · have e : k = fs.length := by omega
    have HV := Lib.hid (getV_none (hk.trans e))
    clear hk
    have hne : ((k : Int) == (fs.length : Int)) = true := by simp; omega
    clear e
    go_wp2_with fail
    have m3 := ((m2.set 0 (S [])).set 1 (S [])).set 2 (.int .i64 0)
    have b3 := ((b1.setCell (p := ⟨w.heap.size + 1 + 1, 0, none⟩) (by show w.heap.size ≤ w.heap.size + 1 + 1; omega) (S [])).setCell (p := ⟨w.heap.size + 1 + 1, 1, none⟩) (by show w.heap.size ≤ w.heap.size + 1 + 1; omega) (S [])).setCell (p := ⟨w.heap.size + 1 + 1, 2, none⟩) (by show w.heap.size ≤ w.heap.size + 1 + 1; omega) (.int .i64 0)
    generalize (((w1.setCell ⟨w.heap.size + 1 + 1, 0, none⟩ (S [])).setCell ⟨w.heap.size + 1 + 1, 1, none⟩ (S [])).setCell ⟨w.heap.size + 1 + 1, 2, none⟩ (.int .i64 0)) = W3 at m3 b3 ⊢
    have q0 : W3.cell? ⟨w.heap.size + 1 + 1, 0, none⟩ = some (S []) := m3.cell 0
    have q1 : W3.cell? ⟨w.heap.size + 1 + 1, 1, none⟩ = some (S []) := m3.cell 1
    have q2 : W3.cell? ⟨w.heap.size + 1 + 1, 2, none⟩ = some (.int .i64 0) := m3.cell 2
    refine bodyPost_ret (v := .tuple #[.agg #[S [], S [], .int .i64 0], .bool false]) (by simp [results, Tryd.results28, go_sem, q0, q1, q2]) rfl ⟨by rw [HV.out], b3⟩
end Go.Proofs.YtdaijofmglpmdaaDoor
