/- The walk of NamesOf: true for every disk and tag. -/
import Derived.Test.YtdaijofmglpmdaaDoorNamesH
namespace Go.Proofs.YtdaijofmglpmdaaDoor
open Go.RowKit
set_option maxRecDepth 100000
set_option linter.unusedVariables false
set_option maxHeartbeats 4000000 in
theorem of_walk (v : Value) (fs : List FileD) (cap left : Int) (down : Bool) (tag : Int) (w : World) (hf : SliceAt w.heap.size w 3 FR v fs) :
    Calls Tryd.prog 6 #[.agg #[v, .int .i64 cap, .int .i64 left, .bool down], .int .i8 tag] w fun e w' => e = .returned (.bool true) ∧ Below w.heap.size w w' := by
  have hf0 := hf
  obtain ⟨a, c, rfl, hc, hel⟩ := hf
  clear hel
  obtain ⟨tg, ok, hT⟩ : ∃ (tg : Int) (ok : Bool), TagV fs = .tuple #[.int .i8 tg, .bool ok] := ⟨_, _, rfl⟩
  have HT := Lib.hid hT
  clear hT
  have l0 := LiesAt.new w #[.slice a fs.length c, .int .i64 cap, .int .i64 left, .bool down] 35
  have b0 : Below w.heap.size w (w.alloc (.cells #[.slice a fs.length c, .int .i64 cap, .int .i64 left, .bool down] 35)) := (Below.refl _ _).alloc (Nat.le_refl _) _
  have z0 : w.heap.size + 1 ≤ (w.alloc (.cells #[.slice a fs.length c, .int .i64 cap, .int .i64 left, .bool down] 35)).heap.size := by simp
  go_enter Tryd.func6, Tryd.ntmps6
  go_wp2_with fail
  generalize w.alloc (.cells #[.slice a fs.length c, .int .i64 cap, .int .i64 left, .bool down] 35) = W0 at l0 b0 z0 ⊢
  refine (greatR (.slice a fs.length c) fs cap left down W0 (hf0.mono b0 (by omega) (fun _ _ _ h => h))).mono ?_
  rintro e w1 ⟨rfl, hb1⟩
  have l1 := l0.below hb1 l0.lt
  have b1 := b0.then hb1 (by omega)
  have z1 : w.heap.size + 1 ≤ w1.heap.size := by have := hb1.size; omega
  clear l0 b0 z0 hb1
  cases hg : greatD fs with
  | true =>
    go_wp2_with fail
    refine (wakes _).mono ?_
    rintro e w2 ⟨rfl, hb2⟩
    go_wp2_with fail
    go_ret
    exact ⟨rfl, b1.then hb2 (by omega)⟩
  | false =>
    have h100 : fs.length ≤ 100 := by
      have : ¬ 100 < fs.length := fun h => by simp [greatD, h] at hg
      omega
    clear hg
    have c0 : w1.cell? ⟨w.heap.size, 0, none⟩ = some (.slice a fs.length c) := l1.cell 0
    have c1 : w1.cell? ⟨w.heap.size, 1, none⟩ = some (.int .i64 cap) := l1.cell 1
    have c2 : w1.cell? ⟨w.heap.size, 2, none⟩ = some (.int .i64 left) := l1.cell 2
    have c3 : w1.cell? ⟨w.heap.size, 3, none⟩ = some (.bool down) := l1.cell 3
    go_wp2_with fail
    refine (tag1 (.slice a fs.length c) fs cap left down w1 (hf0.mono b1 (by omega) (fun _ _ _ h => h)) (by omega)).mono ?_
    rintro e w2 ⟨rfl, hb2⟩
    have l2 := l1.below hb2 l1.lt
    have b2 := b1.then hb2 (by omega)
    have z2 : w.heap.size + 1 ≤ w2.heap.size := by have := hb2.size; omega
    clear l1 b1 z1 hb2 c0 c1 c2 c3
    have c0 : w2.cell? ⟨w.heap.size, 0, none⟩ = some (.slice a fs.length c) := l2.cell 0
    have c1 : w2.cell? ⟨w.heap.size, 1, none⟩ = some (.int .i64 cap) := l2.cell 1
    have c2 : w2.cell? ⟨w.heap.size, 2, none⟩ = some (.int .i64 left) := l2.cell 2
    have c3 : w2.cell? ⟨w.heap.size, 3, none⟩ = some (.bool down) := l2.cell 3
    rw [HT.out]
    go_wp2_with fail
    refine (tagR (.slice a fs.length c) fs cap left down w2 (hf0.mono b2 (by omega) (fun _ _ _ h => h)) (by omega)).mono ?_
    rintro e w3 ⟨rfl, hb3⟩
    rw [HT.out]
    have l3 := l2.below hb3 l2.lt
    have b3 := b2.then hb3 (by omega)
    have z3 : w.heap.size + 1 ≤ w3.heap.size := by have := hb3.size; omega
    clear l2 b2 z2 hb3 c0 c1 c2 c3
    have c0 : w3.cell? ⟨w.heap.size, 0, none⟩ = some (.slice a fs.length c) := l3.cell 0
    have c1 : w3.cell? ⟨w.heap.size, 1, none⟩ = some (.int .i64 cap) := l3.cell 1
    have c2 : w3.cell? ⟨w.heap.size, 2, none⟩ = some (.int .i64 left) := l3.cell 2
    have c3 : w3.cell? ⟨w.heap.size, 3, none⟩ = some (.bool down) := l3.cell 3
    have hlen : (ofL tag fs).length ≤ 1000 := by have := ofL_len tag fs; omega
    have q1 : (tg == tg) = true := by simp
    have q2 : (ok == ok) = true := by simp
    go_wp2_with fail
    go_region_held3 (fun w' => Below w.heap.size w w' ∧ w.heap.size + 1 ≤ w'.heap.size ∧ w'.cell? ⟨w.heap.size, 0, none⟩ = some (.slice a fs.length c) ∧ w'.cell? ⟨w.heap.size, 1, none⟩ = some (.int .i64 cap) ∧ w'.cell? ⟨w.heap.size, 2, none⟩ = some (.int .i64 left) ∧ w'.cell? ⟨w.heap.size, 3, none⟩ = some (.bool down))
      (first | exact ⟨b3.drew, z3, c0, c1, c2, c3⟩ | (go_split_ands; refine ⟨Below.then (by assumption) hb (by omega), by have := hb.size; omega, ?_, ?_, ?_, ?_⟩ <;> (rw [hb.cell (by show w.heap.size < _; omega)]; assumption)))
      (first | (go_at_call 20; go_split_ands; refine (of1 _ fs cap left down _ _ (hf0.mono (by assumption) (by omega) (fun _ _ _ h => h)) h100).mono ?_; rintro e w' ⟨v1, rfl, hv1, hb⟩) | (go_at_call 24; go_split_ands; refine (ofR _ fs cap left down _ _ (hf0.mono (by assumption) (by omega) (fun _ _ _ h => h)) h100).mono ?_; rintro e w' ⟨v2, rfl, hv2, hb⟩) | (go_at_call 23; go_split_ands; refine (texts_same _ _ (ofL tag fs) _ (hv1.mono hb hb.size (fun _ _ _ h => h)) hv2 hlen).mono ?_; rintro e w' ⟨rfl, hb⟩) | (go_at_call 7; go_split_ands; refine (wakes _).mono ?_; rintro e w' ⟨rfl, hb⟩))
    go_split_ands
    go_wp2_with fail
    go_ret
    exact ⟨rfl, by assumption⟩
end Go.Proofs.YtdaijofmglpmdaaDoor
