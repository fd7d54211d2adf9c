/- Tag of both, Of of the reference, Texts. -/
import Derived.Test.YtdaijofmglpmdaaDoorNamesF
import Derived.Test.YtdaijofmglpmdaaDoorDiskB
import Derived.Deep.QuietTactic
import Derived.BigQuiet
namespace Go.Proofs.YtdaijofmglpmdaaDoor
open Go.RowKit
set_option maxRecDepth 100000
set_option linter.unusedVariables false
def tagP (fs : List FileD) : Int × Bool := match getF fs [116] with
  | some f => if f.b = [105] then (0, true) else if f.b = [98] then (1, true) else (0, false)
  | none => (0, false)
def TagV (fs : List FileD) : Value := .tuple #[.int .i8 (tagP fs).1, .bool (tagP fs).2]
theorem get_parts (fs : List FileD) : ∃ (nm bb : List UInt8) (su : Int) (ok : Bool), getV fs [116] = .tuple #[.agg #[S nm, S bb, .int .i64 su], .bool ok] ∧ tagP fs = (if ok = true then (if bb = [105] then (0, true) else if bb = [98] then (1, true) else (0, false)) else (0, false)) := by
  unfold getV tagP
  cases getF fs [116] with
  | some f => exact ⟨_, _, _, true, rfl, rfl⟩
  | none => exact ⟨_, _, _, false, rfl, rfl⟩
set_option maxHeartbeats 2000000 in
theorem tag1 (v : Value) (fs : List FileD) (cap left : Int) (down : Bool) (w : World) (hf : SliceAt w.heap.size w 3 FR v fs) (hn : fs.length ≤ 1000) :
    Calls Tryd.prog 21 #[.agg #[v, .int .i64 cap, .int .i64 left, .bool down]] w fun e w' => e = .returned (TagV fs) ∧ Below w.heap.size w w' := by
  have hf0 := hf
  obtain ⟨a, c, rfl, hc, hel⟩ := hf
  clear hel
  obtain ⟨nm, bb, su, ok, hg, ht⟩ := get_parts fs
  have HG := Lib.hid hg
  have HT := Lib.hid ht
  clear ht hg
  have i0 : ∀ w, (Instr.index 52 (.agg #[.int .i8 0, .int .i8 1]) (.int .i64 0)).run Tryd.prog w = .ok (.int .i8 0) w := fun _ => by kernel_rfl
  have i1 : ∀ w, (Instr.index 52 (.agg #[.int .i8 0, .int .i8 1]) (.int .i64 1)).run Tryd.prog w = .ok (.int .i8 1) w := fun _ => by kernel_rfl
  have b0 : Below w.heap.size w (w.alloc (.cells #[.slice a fs.length c, .int .i64 cap, .int .i64 left, .bool down] 35)) := (Below.refl _ _).alloc (Nat.le_refl _) _
  have z0 : w.heap.size + 1 ≤ (w.alloc (.cells #[.slice a fs.length c, .int .i64 cap, .int .i64 left, .bool down] 35)).heap.size := by simp
  go_enter Tryd.func21, Tryd.ntmps21
  go_wp2_with fail
  generalize w.alloc (.cells #[.slice a fs.length c, .int .i64 cap, .int .i64 left, .bool down] 35) = W0 at b0 z0 ⊢
  refine (get (.slice a fs.length c) fs cap left down [116] W0 (hf0.mono b0 (by omega) (fun _ _ _ h => h)) hn).mono ?_
  rw [HG.out]
  rintro e w1 ⟨rfl, hb1⟩
  have b1 := b0.then hb1 (by omega)
  clear hb1 b0
  have l1 := LiesAt.new w1 #[S nm, S bb, .int .i64 su] 38
  have b2 := b1.alloc b1.size (.cells #[S nm, S bb, .int .i64 su] 38)
  cases ok with
  | false =>
    go_wp2_with fail
    go_ret2
    exact ⟨by unfold TagV; rw [HT.out]; rfl, b2⟩
  | true =>
    go_wp2_with fail
    generalize w1.alloc (.cells #[S nm, S bb, .int .i64 su] 38) = W1 at l1 b2 ⊢
    have c1 : W1.cell? ⟨w1.heap.size, 1, none⟩ = some (S bb) := l1.cell 1
    go_loopw [16] (fun i wr => ∃ k : Nat, k ≤ 2 ∧ i = .int .i64 k ∧ (1 ≤ k → bb ≠ [105]) ∧ (2 ≤ k → bb ≠ [98]) ∧ wr.cell? ⟨w1.heap.size, 1, none⟩ = some (S bb) ∧ Below w.heap.size w wr) (fun i wr => 2 - (intOf i).toNat)
    case atStart => exact ⟨0, by omega, rfl, by omega, by omega, c1, b2⟩
    case round =>
      obtain ⟨k, hk, rfl, hn1, hn2, hcr, hB⟩ := hrel
      clear c1 b2 l1
      obtain rfl | rfl | rfl : k = 0 ∨ k = 1 ∨ k = 2 := by omega
      · by_cases hb : bb = [105]
        · have he : (bb == [105]) = true := by simpa using hb
          have HB := Lib.hid hb
          clear hb hn1 hn2
          go_wp2_with fail
          go_region_held3 (fun w' => w'.cell? ⟨w1.heap.size, 1, none⟩ = some (S bb) ∧ Below w.heap.size w w') (first | exact ⟨hcr, hB.drew⟩ | (go_split_ands; refine ⟨?_, ?_⟩ <;> assumption)) (first | (go_at_call 10; go_split_ands; refine (letter _ _).mono ?_; rw [show letterL 0 = [105] from rfl]; rintro e w' ⟨rfl, rfl⟩))
          go_split_ands
          go_wp2_with fail
          go_ret2
          exact ⟨by unfold TagV; rw [HT.out, HB.out]; rfl, by assumption⟩
        · have he : (bb == [105]) = false := by simpa using hb
          have HB := Lib.hid hb
          clear hb hn1 hn2
          go_wp2_with fail
          go_region_held3 (fun w' => w'.cell? ⟨w1.heap.size, 1, none⟩ = some (S bb) ∧ Below w.heap.size w w') (first | exact ⟨hcr, hB.drew⟩ | (go_split_ands; refine ⟨?_, ?_⟩ <;> assumption)) (first | (go_at_call 10; go_split_ands; refine (letter _ _).mono ?_; rw [show letterL 0 = [105] from rfl]; rintro e w' ⟨rfl, rfl⟩))
          go_split_ands
          go_wp2_with fail
          go_roundw
          case rel => exact ⟨1, by omega, rfl, fun _ => HB.out, by omega, by assumption, by assumption⟩
          case measure => simp [intOf]
      · have HN := Lib.hid (hn1 (by omega))
        by_cases hb : bb = [98]
        · have he : (bb == [98]) = true := by simpa using hb
          have HB := Lib.hid hb
          clear hb hn1 hn2
          go_wp2_with fail
          go_region_held3 (fun w' => w'.cell? ⟨w1.heap.size, 1, none⟩ = some (S bb) ∧ Below w.heap.size w w') (first | exact ⟨hcr, hB.drew⟩ | (go_split_ands; refine ⟨?_, ?_⟩ <;> assumption)) (first | (go_at_call 10; go_split_ands; refine (letter _ _).mono ?_; rw [show letterL 1 = [98] from rfl]; rintro e w' ⟨rfl, rfl⟩))
          go_split_ands
          go_wp2_with fail
          go_ret2
          exact ⟨by unfold TagV; rw [HT.out, HB.out]; rfl, by assumption⟩
        · have he : (bb == [98]) = false := by simpa using hb
          have HB := Lib.hid hb
          clear hb hn1 hn2
          go_wp2_with fail
          go_region_held3 (fun w' => w'.cell? ⟨w1.heap.size, 1, none⟩ = some (S bb) ∧ Below w.heap.size w w') (first | exact ⟨hcr, hB.drew⟩ | (go_split_ands; refine ⟨?_, ?_⟩ <;> assumption)) (first | (go_at_call 10; go_split_ands; refine (letter _ _).mono ?_; rw [show letterL 1 = [98] from rfl]; rintro e w' ⟨rfl, rfl⟩))
          go_split_ands
          go_wp2_with fail
          go_roundw
          case rel => exact ⟨2, by omega, rfl, fun _ => HN.out, fun _ => HB.out, by assumption, by assumption⟩
          case measure => simp [intOf]
      · have h1 := hn1 (by omega)
        have h2 := hn2 (by omega)
        have HE := Lib.hid (show (if true = true then (if bb = [105] then ((0 : Int), true) else if bb = [98] then (1, true) else (0, false)) else (0, false)) = (0, false) by simp [h1, h2])
        clear hn1 hn2 h1 h2
        go_wp2_with fail
        go_ret2
        exact ⟨by unfold TagV; rw [HT.out, HE.out]; rfl, hB⟩

set_option maxHeartbeats 2000000 in
theorem tagR (v : Value) (fs : List FileD) (cap left : Int) (down : Bool) (w : World) (hf : SliceAt w.heap.size w 3 FR v fs) (hn : fs.length ≤ 1000) :
    Calls Tryd.prog 22 #[.agg #[v, .int .i64 cap, .int .i64 left, .bool down]] w fun e w' => e = .returned (TagV fs) ∧ Below w.heap.size w w' := by
  have hf0 := hf
  obtain ⟨a, c, rfl, hc, hel⟩ := hf
  clear hel
  obtain ⟨nm, bb, su, ok, hg, ht⟩ := get_parts fs
  have HG := Lib.hid hg
  have HT := Lib.hid ht
  clear ht hg
  have b0 : Below w.heap.size w (w.alloc (.cells #[.slice a fs.length c, .int .i64 cap, .int .i64 left, .bool down] 35)) := (Below.refl _ _).alloc (Nat.le_refl _) _
  have z0 : w.heap.size + 1 ≤ (w.alloc (.cells #[.slice a fs.length c, .int .i64 cap, .int .i64 left, .bool down] 35)).heap.size := by simp
  go_enter Tryd.func22, Tryd.ntmps22
  go_wp2_with fail
  generalize w.alloc (.cells #[.slice a fs.length c, .int .i64 cap, .int .i64 left, .bool down] 35) = W0 at b0 z0 ⊢
  refine (getR (.slice a fs.length c) fs cap left down [116] W0 (hf0.mono b0 (by omega) (fun _ _ _ h => h)) hn).mono ?_
  rw [HG.out]
  rintro e w1 ⟨rfl, hb1⟩
  have b1 := b0.then hb1 (by omega)
  clear hb1 b0
  have l1 := LiesAt.new w1 #[S nm, S bb, .int .i64 su] 38
  have b2 := b1.alloc b1.size (.cells #[S nm, S bb, .int .i64 su] 38)
  go_wp2_with fail
  generalize w1.alloc (.cells #[S nm, S bb, .int .i64 su] 38) = W1 at l1 b2 ⊢
  have c1 : W1.cell? ⟨w1.heap.size, 1, none⟩ = some (S bb) := l1.cell 1
  cases ok with
  | false =>
    go_loopw [6] (fun i wr => ∃ k : Nat, k ≤ 2 ∧ i = .int .i8 k ∧ wr.cell? ⟨w1.heap.size, 1, none⟩ = some (S bb) ∧ Below w.heap.size w wr) (fun i wr => 2 - (intOf i).toNat)
    case atStart => exact ⟨0, by omega, rfl, c1, b2⟩
    case round =>
      obtain ⟨k, hk, rfl, hcr, hB⟩ := hrel
      clear c1 b2 l1
      obtain rfl | rfl | rfl : k = 0 ∨ k = 1 ∨ k = 2 := by omega
      · go_wp2_with fail
        go_quiet (fail)
        go_wp2_with fail
        go_roundw
        case rel => exact ⟨1, by omega, rfl, hcr, Below.drewN hB _⟩
        case measure => simp [intOf]
      · go_wp2_with fail
        go_quiet (fail)
        go_wp2_with fail
        go_roundw
        case rel => exact ⟨2, by omega, rfl, hcr, Below.drewN hB _⟩
        case measure => simp [intOf]
      · go_wp2_with fail
        go_ret2
        exact ⟨by unfold TagV; rw [HT.out]; rfl, hB⟩
  | true =>
    go_loopw [6] (fun i wr => ∃ k : Nat, k ≤ 2 ∧ i = .int .i8 k ∧ (1 ≤ k → bb ≠ [105]) ∧ (2 ≤ k → bb ≠ [98]) ∧ wr.cell? ⟨w1.heap.size, 1, none⟩ = some (S bb) ∧ Below w.heap.size w wr) (fun i wr => 2 - (intOf i).toNat)
    case atStart => exact ⟨0, by omega, rfl, by omega, by omega, c1, b2⟩
    case round =>
      obtain ⟨k, hk, rfl, hn1, hn2, hcr, hB⟩ := hrel
      clear c1 b2 l1
      obtain rfl | rfl | rfl : k = 0 ∨ k = 1 ∨ k = 2 := by omega
      · by_cases hb : bb = [105]
        · have he : (bb == [105]) = true := by simpa using hb
          have HB := Lib.hid hb
          clear hb hn1 hn2
          go_wp2_with fail
          go_region_held3 (fun w' => w'.cell? ⟨w1.heap.size, 1, none⟩ = some (S bb) ∧ Below w.heap.size w w') (first | exact ⟨hcr, hB.drew⟩ | (go_split_ands; refine ⟨?_, ?_⟩ <;> assumption)) (first | (go_at_call 11; go_split_ands; refine (letterR _ _).mono ?_; rw [show letterL 0 = [105] from rfl]; rintro e w' ⟨rfl, rfl⟩))
          go_split_ands
          go_wp2_with fail
          go_ret2
          exact ⟨by unfold TagV; rw [HT.out, HB.out]; rfl, by assumption⟩
        · have he : (bb == [105]) = false := by simpa using hb
          have HB := Lib.hid hb
          clear hb hn1 hn2
          go_wp2_with fail
          go_region_held3 (fun w' => w'.cell? ⟨w1.heap.size, 1, none⟩ = some (S bb) ∧ Below w.heap.size w w') (first | exact ⟨hcr, hB.drew⟩ | (go_split_ands; refine ⟨?_, ?_⟩ <;> assumption)) (first | (go_at_call 11; go_split_ands; refine (letterR _ _).mono ?_; rw [show letterL 0 = [105] from rfl]; rintro e w' ⟨rfl, rfl⟩))
          go_split_ands
          go_wp2_with fail
          go_roundw
          case rel => exact ⟨1, by omega, rfl, fun _ => HB.out, by omega, by assumption, by assumption⟩
          case measure => simp [intOf]
      · have HN := Lib.hid (hn1 (by omega))
        by_cases hb : bb = [98]
        · have he : (bb == [98]) = true := by simpa using hb
          have HB := Lib.hid hb
          clear hb hn1 hn2
          go_wp2_with fail
          go_region_held3 (fun w' => w'.cell? ⟨w1.heap.size, 1, none⟩ = some (S bb) ∧ Below w.heap.size w w') (first | exact ⟨hcr, hB.drew⟩ | (go_split_ands; refine ⟨?_, ?_⟩ <;> assumption)) (first | (go_at_call 11; go_split_ands; refine (letterR _ _).mono ?_; rw [show letterL 1 = [98] from rfl]; rintro e w' ⟨rfl, rfl⟩))
          go_split_ands
          go_wp2_with fail
          go_ret2
          exact ⟨by unfold TagV; rw [HT.out, HB.out]; rfl, by assumption⟩
        · have he : (bb == [98]) = false := by simpa using hb
          have HB := Lib.hid hb
          clear hb hn1 hn2
          go_wp2_with fail
          go_region_held3 (fun w' => w'.cell? ⟨w1.heap.size, 1, none⟩ = some (S bb) ∧ Below w.heap.size w w') (first | exact ⟨hcr, hB.drew⟩ | (go_split_ands; refine ⟨?_, ?_⟩ <;> assumption)) (first | (go_at_call 11; go_split_ands; refine (letterR _ _).mono ?_; rw [show letterL 1 = [98] from rfl]; rintro e w' ⟨rfl, rfl⟩))
          go_split_ands
          go_wp2_with fail
          go_roundw
          case rel => exact ⟨2, by omega, rfl, fun _ => HN.out, fun _ => HB.out, by assumption, by assumption⟩
          case measure => simp [intOf]
      · have h1 := hn1 (by omega)
        have h2 := hn2 (by omega)
        have HE := Lib.hid (show (if true = true then (if bb = [105] then ((0 : Int), true) else if bb = [98] then (1, true) else (0, false)) else (0, false)) = (0, false) by simp [h1, h2])
        clear hn1 hn2 h1 h2
        go_wp2_with fail
        go_ret2
        exact ⟨by unfold TagV; rw [HT.out, HE.out]; rfl, hB⟩
end Go.Proofs.YtdaijofmglpmdaaDoor
