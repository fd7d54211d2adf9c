/- The walk of NamesBack: true for every input. -/
import Derived.Test.YtdaijofmglpmdaaDoorNamesBackW
namespace Go.Proofs.YtdaijofmglpmdaaDoor
open Go.RowKit Go.Shelf
set_option maxRecDepth 100000
set_option linter.unusedVariables false
theorem lies_below {W W' : World} {B n : Nat} {cs : Array Value} {t : TypeId} (h : LiesAt W B cs t) (hb : Below n W W') (hB : B < n) : LiesAt W' B cs t := (hb.block B hB).trans h
set_option maxHeartbeats 8000000 in
theorem back_walk (t u q to p who : Int) (w : World) : Calls Tryd.prog 4 #[.int .i8 t, .int .i8 u, .int .i64 q, .int .i64 to, .int .i64 p, .int .i64 who] w fun e w' => e = .returned (.bool true) ∧ Below w.heap.size w w' := by
  go_enter Tryd.func4, Tryd.ntmps4
  go_wp2_with fail
  refine (meta1 _ _).mono ?_
  rintro e w3 ⟨rfl, rfl⟩
  go_wp2_with fail
  refine (log1 _ _ _).mono ?_
  rintro e w3 ⟨rfl, rfl⟩
  go_wp2_with fail
  refine (side1 _ _ _).mono ?_
  rintro e w3 ⟨rfl, rfl⟩
  go_wp2_with fail
  refine (meta1 _ _).mono ?_
  rintro e w3 ⟨rfl, rfl⟩
  go_wp2_with fail
  refine (log1 _ _ _).mono ?_
  rintro e w3 ⟨rfl, rfl⟩
  go_wp2_with fail
  refine (side1 _ _ _).mono ?_
  rintro e w3 ⟨rfl, rfl⟩
  go_wp2_with fail
  have l0 : LiesAt ((w.alloc (Obj.cells #[S (metaL t), S (logL t q), S (sideL q p)] 9)).alloc (Obj.cells #[S (metaL u), S (logL u to), S (sideL to who)] 9)) w.heap.size #[S (metaL t), S (logL t q), S (sideL q p)] 9 :=
    LiesAt.alloc (World.alloc_heap_new w _) _
  have m0 : LiesAt ((w.alloc (Obj.cells #[S (metaL t), S (logL t q), S (sideL q p)] 9)).alloc (Obj.cells #[S (metaL u), S (logL u to), S (sideL to who)] 9)) (w.heap.size + 1) #[S (metaL u), S (logL u to), S (sideL to who)] 9 := by
    have h := World.alloc_heap_new (w.alloc (Obj.cells #[S (metaL t), S (logL t q), S (sideL q p)] 9)) (Obj.cells #[S (metaL u), S (logL u to), S (sideL to who)] 9)
    rw [World.size_alloc] at h; exact h
  have b0 : Below w.heap.size w ((w.alloc (Obj.cells #[S (metaL t), S (logL t q), S (sideL q p)] 9)).alloc (Obj.cells #[S (metaL u), S (logL u to), S (sideL to who)] 9)) := ((Below.refl _ _).alloc (Nat.le_refl _) _).alloc (by simp) _
  generalize ((w.alloc (Obj.cells #[S (metaL t), S (logL t q), S (sideL q p)] 9)).alloc (Obj.cells #[S (metaL u), S (logL u to), S (sideL to who)] 9)) = W0 at l0 m0 b0 ⊢
  go_loopw [45] (fun i wr => ∃ k : Nat, k ≤ 3 ∧ i = .int .i64 k ∧ LiesAt wr w.heap.size #[S (metaL t), S (logL t q), S (sideL q p)] 9 ∧ LiesAt wr (w.heap.size + 1) #[S (metaL u), S (logL u to), S (sideL to who)] 9 ∧ Below w.heap.size w wr) (fun i wr => 3 - (intOf i).toNat)
  case atStart => exact ⟨0, by omega, rfl, l0, m0, b0⟩
  case round =>
    obtain ⟨k, hk, rfl, hl, hm, hb⟩ := hrel
    clear l0 m0 b0
    have hk4 : k = 0 ∨ k = 1 ∨ k = 2 ∨ k = 3 := by omega
    rcases hk4 with rfl | rfl | rfl | rfl
    · have c0 : wr.cell? ⟨w.heap.size, 0, none⟩ = some (S (metaL t)) := hl.cell 0
      by_cases hne : metaL t = []
      · have he : (metaL t).isEmpty = true := by simp [hne]
        clear hne
        go_wp2_with fail
        go_roundw
        case rel => exact ⟨1, by omega, rfl, hl, hm, hb⟩
        case measure => simp [intOf]
      · obtain ⟨g1, g2, g3, g4, g5, g6⟩ := meta_facts hne
        have G1 := Lib.hid g1
        have G2 := Lib.hid g2
        have HN := Lib.hid hne
        clear g1 g2 hne
        go_wp2_with fail
        refine (parse _ _).mono ?_
        rw [G1.out]
        rintro e w1 ⟨rfl, hb1⟩
        go_wp2_with fail
        refine (nameR _ _ g6).mono ?_
        rw [G2.out]
        rintro e w2 ⟨rfl, rfl⟩
        go_wp2_with fail
        try any_goals exact absurd ‹some undef = some (Value.bool _)› (by unfold undef; simp)
        have hl1 := lies_below hl hb1 hl.lt
        have hm1 := lies_below hm hb1 hm.lt
        clear c0 g3 g4 G1 G2
        go_loop [138] (fun i => ∃ j : Nat, j ≤ 3 ∧ i = .int .i64 j) (fun i => 3 - (intOf i).toNat)
        case atStart => exact ⟨0, by omega, rfl⟩
        case round =>
          obtain ⟨j, hj, rfl⟩ := hrel
          have hj4 : j = 0 ∨ j = 1 ∨ j = 2 ∨ j = 3 := by omega
          rcases hj4 with rfl | rfl | rfl | rfl
          · have d0 : w1.cell? ⟨w.heap.size + 1, 0, none⟩ = some (S (metaL u)) := hm1.cell 0
            have he : (metaL t == metaL u) = (t == u) := eq_mm HN.out
            cases a0 : (t == u)
            all_goals
              rw [a0] at he
              go_wp2_with fail
              go_round
              case rel => exact ⟨1, by omega, rfl⟩
              case measure => simp [intOf]
          · have d1 : w1.cell? ⟨w.heap.size + 1, 1, none⟩ = some (S (logL u to)) := hm1.cell 1
            have he : (metaL t == logL u to) = false := eq_ml HN.out
            go_wp2_with fail
            go_round
            case rel => exact ⟨2, by omega, rfl⟩
            case measure => simp [intOf]
          · have d2 : w1.cell? ⟨w.heap.size + 1, 2, none⟩ = some (S (sideL to who)) := hm1.cell 2
            have he : (metaL t == sideL to who) = false := eq_ms HN.out
            go_wp2_with fail
            go_round
            case rel => exact ⟨3, by omega, rfl⟩
            case measure => simp [intOf]
          · go_wp2_with fail
            go_roundw
            case rel => exact ⟨1, by omega, rfl, hl1, hm1, hb.trans (hb1.mono hb.size)⟩
            case measure => simp [intOf]
    · have c0 : wr.cell? ⟨w.heap.size, 1, none⟩ = some (S (logL t q)) := hl.cell 1
      by_cases hne : logL t q = []
      · have he : (logL t q).isEmpty = true := by simp [hne]
        clear hne
        go_wp2_with fail
        go_roundw
        case rel => exact ⟨2, by omega, rfl, hl, hm, hb⟩
        case measure => simp [intOf]
      · obtain ⟨g1, g2, g3, g4, g5, g6⟩ := log_facts hne
        have G1 := Lib.hid g1
        have G2 := Lib.hid g2
        have HN := Lib.hid hne
        clear g1 g2 hne
        go_wp2_with fail
        refine (parse _ _).mono ?_
        rw [G1.out]
        rintro e w1 ⟨rfl, hb1⟩
        go_wp2_with fail
        refine (nameR _ _ g6).mono ?_
        rw [G2.out]
        rintro e w2 ⟨rfl, rfl⟩
        go_wp2_with fail
        try any_goals exact absurd ‹some undef = some (Value.bool _)› (by unfold undef; simp)
        have hl1 := lies_below hl hb1 hl.lt
        have hm1 := lies_below hm hb1 hm.lt
        clear c0 g3 g4 G1 G2
        go_loop [138] (fun i => ∃ j : Nat, j ≤ 3 ∧ i = .int .i64 j) (fun i => 3 - (intOf i).toNat)
        case atStart => exact ⟨0, by omega, rfl⟩
        case round =>
          obtain ⟨j, hj, rfl⟩ := hrel
          have hj4 : j = 0 ∨ j = 1 ∨ j = 2 ∨ j = 3 := by omega
          rcases hj4 with rfl | rfl | rfl | rfl
          · have d0 : w1.cell? ⟨w.heap.size + 1, 0, none⟩ = some (S (metaL u)) := hm1.cell 0
            have he : (logL t q == metaL u) = false := eq_lm HN.out
            go_wp2_with fail
            go_round
            case rel => exact ⟨1, by omega, rfl⟩
            case measure => simp [intOf]
          · have d1 : w1.cell? ⟨w.heap.size + 1, 1, none⟩ = some (S (logL u to)) := hm1.cell 1
            have he : (logL t q == logL u to) = ((t == u) && (q == to)) := eq_ll HN.out
            cases a0 : (t == u)
            all_goals
            cases a1 : (q == to)
            all_goals
              rw [a0, a1] at he
              simp only [Bool.and_true, Bool.and_false] at he
              go_wp2_with fail
              go_round
              case rel => exact ⟨2, by omega, rfl⟩
              case measure => simp [intOf]
          · have d2 : w1.cell? ⟨w.heap.size + 1, 2, none⟩ = some (S (sideL to who)) := hm1.cell 2
            have he : (logL t q == sideL to who) = false := eq_ls HN.out
            go_wp2_with fail
            go_round
            case rel => exact ⟨3, by omega, rfl⟩
            case measure => simp [intOf]
          · go_wp2_with fail
            go_roundw
            case rel => exact ⟨2, by omega, rfl, hl1, hm1, hb.trans (hb1.mono hb.size)⟩
            case measure => simp [intOf]
    · have c0 : wr.cell? ⟨w.heap.size, 2, none⟩ = some (S (sideL q p)) := hl.cell 2
      by_cases hne : sideL q p = []
      · have he : (sideL q p).isEmpty = true := by simp [hne]
        clear hne
        go_wp2_with fail
        go_roundw
        case rel => exact ⟨3, by omega, rfl, hl, hm, hb⟩
        case measure => simp [intOf]
      · obtain ⟨g1, g2, g3, g4, g5, g6⟩ := side_facts hne
        have G1 := Lib.hid g1
        have G2 := Lib.hid g2
        have HN := Lib.hid hne
        clear g1 g2 hne
        go_wp2_with fail
        refine (parse _ _).mono ?_
        rw [G1.out]
        rintro e w1 ⟨rfl, hb1⟩
        go_wp2_with fail
        refine (nameR _ _ g6).mono ?_
        rw [G2.out]
        rintro e w2 ⟨rfl, rfl⟩
        go_wp2_with fail
        try any_goals exact absurd ‹some undef = some (Value.bool _)› (by unfold undef; simp)
        have hl1 := lies_below hl hb1 hl.lt
        have hm1 := lies_below hm hb1 hm.lt
        clear c0 g3 g4 G1 G2
        go_loop [138] (fun i => ∃ j : Nat, j ≤ 3 ∧ i = .int .i64 j) (fun i => 3 - (intOf i).toNat)
        case atStart => exact ⟨0, by omega, rfl⟩
        case round =>
          obtain ⟨j, hj, rfl⟩ := hrel
          have hj4 : j = 0 ∨ j = 1 ∨ j = 2 ∨ j = 3 := by omega
          rcases hj4 with rfl | rfl | rfl | rfl
          · have d0 : w1.cell? ⟨w.heap.size + 1, 0, none⟩ = some (S (metaL u)) := hm1.cell 0
            have he : (sideL q p == metaL u) = false := eq_sm HN.out
            go_wp2_with fail
            go_round
            case rel => exact ⟨1, by omega, rfl⟩
            case measure => simp [intOf]
          · have d1 : w1.cell? ⟨w.heap.size + 1, 1, none⟩ = some (S (logL u to)) := hm1.cell 1
            have he : (sideL q p == logL u to) = false := eq_sl HN.out
            go_wp2_with fail
            go_round
            case rel => exact ⟨2, by omega, rfl⟩
            case measure => simp [intOf]
          · have d2 : w1.cell? ⟨w.heap.size + 1, 2, none⟩ = some (S (sideL to who)) := hm1.cell 2
            have he : (sideL q p == sideL to who) = ((q == to) && (p == who)) := eq_ss HN.out
            cases a0 : (q == to)
            all_goals
            cases a1 : (p == who)
            all_goals
              rw [a0, a1] at he
              simp only [Bool.and_true, Bool.and_false] at he
              go_wp2_with fail
              go_round
              case rel => exact ⟨3, by omega, rfl⟩
              case measure => simp [intOf]
          · go_wp2_with fail
            go_roundw
            case rel => exact ⟨3, by omega, rfl, hl1, hm1, hb.trans (hb1.mono hb.size)⟩
            case measure => simp [intOf]
    · go_wp2_with fail
      refine (wakes _).mono ?_
      rintro e w1 ⟨rfl, hb1⟩
      go_wp2_with fail
      go_ret
      exact ⟨rfl, hb.trans (hb1.mono hb.size)⟩
end Go.Proofs.YtdaijofmglpmdaaDoor
