/- The contracts of the functions that make names: Letter, Meta, Log, Side of the package and of the reference, Itoa and digit at the digits 0 to 9: for every argument. -/
import Derived.Test.YtdaijofmglpmdaaDoorProg
import Derived.Test.YtdaijofmglpmdaaDoorMem
import Derived.WalkKit
import Derived.WalkSpells
import Derived.Lib.Hide
import Derived.WalkLawsBesides
namespace Go.Proofs.YtdaijofmglpmdaaDoor
open Go.RowKit
set_option maxRecDepth 100000
set_option linter.unusedVariables false
def letterL (t : Int) : List UInt8 := if t = 0 then [105] else if t = 1 then [98] else []
def digL (i : Int) : List UInt8 := [(48 + i.toNat).toUInt8]
theorem dig_cases (i : Int) (h0 : 0 ≤ i) (h1 : i ≤ 9) : i = 0 ∨ i = 1 ∨ i = 2 ∨ i = 3 ∨ i = 4 ∨ i = 5 ∨ i = 6 ∨ i = 7 ∨ i = 8 ∨ i = 9 := by omega
theorem itoa (i : Int) (h0 : 0 ≤ i) (h1 : i ≤ 9) (w : World) : Calls Tryd.prog 26 #[.int .i64 i] w fun e w' => e = .returned (S (digL i)) ∧ w = w' := by
  obtain rfl | rfl | rfl | rfl | rfl | rfl | rfl | rfl | rfl | rfl := dig_cases i h0 h1
  all_goals
    go_enter Tryd.func26, Tryd.ntmps26
    go_wp2
    go_ret
    exact ⟨rfl, rfl⟩
theorem conv_byte (w : World) (n : Int) : Sem.run Tryd.prog (convert 54 9 (Value.slice (some ⟨w.heap.size, 0, none⟩) 1 1)) (w.alloc (Obj.cells #[Value.int IntKind.u8 n] 5)) = .ok (.string (ByteArray.empty.push (UInt8.ofNat n.toNat))) (w.alloc (Obj.cells #[Value.int IntKind.u8 n] 5)) := by
  have h1 := run_convert_bytes_string (P := Tryd.prog) (w.alloc (Obj.cells #[Value.int IntKind.u8 n] 5)) 54 9 5 (some ⟨w.heap.size, 0, none⟩) 1 1 Tryd.underlying54 Tryd.underlying5 Tryd.underlying9
  have h2 := run_bytesToString (P := Tryd.prog) (w.alloc (Obj.cells #[Value.int IntKind.u8 n] 5)) ⟨w.heap.size, 0, none⟩ 1 1 [n] (run_loadCells_list _ _ [.int .u8 n] (fun j v hv => by
    cases j with
    | zero => cases hv; show World.cell? _ ⟨w.heap.size, 0, none⟩ = _; unfold World.cell?; rw [heap_alloc_new]; rfl
    | succ j => cases hv))
  rw [h1, h2]; rfl
theorem digit (i : Int) (h0 : 0 ≤ i) (h1 : i ≤ 9) (w : World) : Calls Tryd.prog 27 #[.int .i64 i] w fun e w' => e = .returned (S (digL i)) ∧ Below w.heap.size w w' := by
  have hc := conv_byte w
  obtain rfl | rfl | rfl | rfl | rfl | rfl | rfl | rfl | rfl | rfl := dig_cases i h0 h1
  all_goals
    go_enter Tryd.func27, Tryd.ntmps27
    go_wp2
    go_ret
    exact ⟨rfl, (Below.refl _ _).alloc (Nat.le_refl _) _⟩
theorem cases3 (t : Int) : t = 0 ∨ t = 1 ∨ (¬ t = 0 ∧ ¬ t = 1) := by omega
theorem letter (t : Int) (w : World) : Calls Tryd.prog 10 #[.int .i8 t] w fun e w' => e = .returned (S (letterL t)) ∧ w = w' := by
  rcases cases3 t with rfl | rfl | ⟨h0, h1⟩
  rotate_left 2
  have e : letterL t = [] := by simp [letterL, h0, h1]
  rw [e]
  all_goals
    go_enter Tryd.func10, Tryd.ntmps10
    go_wp2
    go_ret
    exact ⟨rfl, rfl⟩
theorem letterR (t : Int) (w : World) : Calls Tryd.prog 11 #[.int .i8 t] w fun e w' => e = .returned (S (letterL t)) ∧ w = w' := by
  rcases cases3 t with rfl | rfl | ⟨h0, h1⟩
  rotate_left 2
  have e : letterL t = [] := by simp [letterL, h0, h1]
  rw [e]
  all_goals
    go_enter Tryd.func11, Tryd.ntmps11
    go_wp2
    go_ret
    exact ⟨rfl, rfl⟩
def metaL (t : Int) : List UInt8 := if t = 0 then [105, 109] else if t = 1 then [98, 109] else []
theorem meta1 (t : Int) (w : World) : Calls Tryd.prog 12 #[.int .i8 t] w fun e w' => e = .returned (S (metaL t)) ∧ w = w' := by
  rcases cases3 t with rfl | rfl | ⟨h0, h1⟩
  rotate_left 2
  have e : metaL t = [] := by simp [metaL, h0, h1]
  rw [e]
  all_goals
    go_enter Tryd.func12, Tryd.ntmps12
    go_wp2
    go_ret
    exact ⟨rfl, rfl⟩
theorem metaR (t : Int) (w : World) : Calls Tryd.prog 13 #[.int .i8 t] w fun e w' => e = .returned (S (metaL t)) ∧ w = w' := by
  rcases cases3 t with rfl | rfl | ⟨h0, h1⟩
  rotate_left 2
  have e : metaL t = [] := by simp [metaL, h0, h1]
  rw [e]
  all_goals
    go_enter Tryd.func13, Tryd.ntmps13
    go_wp2
    go_ret
    exact ⟨rfl, rfl⟩
def logL (t q : Int) : List UInt8 := if 0 ≤ q ∧ q < 3 then (if t = 0 then 105 :: digL q else if t = 1 then 98 :: digL q else []) else []
theorem logL_out (t q : Int) (h : ¬ (0 ≤ q ∧ q < 3)) : logL t q = [] := by unfold logL; rw [if_neg h]
theorem logL_no (t q : Int) (h0 : ¬ t = 0) (h1 : ¬ t = 1) : logL t q = [] := by simp [logL, h0, h1]
theorem part_cases (q : Int) : q = 0 ∨ q = 1 ∨ q = 2 ∨ (q < 0 ∨ 3 ≤ q) := by omega
theorem log1 (t q : Int) (w : World) : Calls Tryd.prog 14 #[.int .i8 t, .int .i64 q] w fun e w' => e = .returned (S (logL t q)) ∧ w = w' := by
  rcases part_cases q with rfl | rfl | rfl | hq
  rotate_left 3
  · rw [logL_out t q (by omega)]
    rcases cases3 t with rfl | rfl | ⟨h0, h1⟩
    all_goals
      rcases hq with hq | hq
      all_goals
        go_enter Tryd.func14, Tryd.ntmps14
        go_wp2
        go_ret
        exact ⟨rfl, rfl⟩
  all_goals
    rcases cases3 t with rfl | rfl | ⟨h0, h1⟩
    rotate_left 2
    rw [logL_no _ _ h0 h1]
    all_goals
      go_enter Tryd.func14, Tryd.ntmps14
      go_wp2
      go_ret
      exact ⟨rfl, rfl⟩
theorem logR (t q : Int) (w : World) : Calls Tryd.prog 15 #[.int .i8 t, .int .i64 q] w fun e w' => e = .returned (S (logL t q)) ∧ Below w.heap.size w w' := by
  rcases part_cases q with rfl | rfl | rfl | hq
  rotate_left 3
  · rw [logL_out t q (by omega)]
    rcases cases3 t with rfl | rfl | ⟨h0, h1⟩
    all_goals
      rcases hq with hq | hq
      all_goals
        go_enter Tryd.func15, Tryd.ntmps15
        go_wp2
        go_ret
        exact ⟨rfl, Below.refl _ _⟩
  all_goals
    rcases cases3 t with rfl | rfl | ⟨h0, h1⟩
    rotate_left 2
    · rw [logL_no _ _ h0 h1]
      go_enter Tryd.func15, Tryd.ntmps15
      go_wp2
      go_ret
      exact ⟨rfl, Below.refl _ _⟩
    all_goals
      go_enter Tryd.func15, Tryd.ntmps15
      go_wp2_with (first | (go_at_call 11; refine (letterR _ _).mono ?_; rintro e w' ⟨rfl, rfl⟩) | (go_at_call 27; refine (digit _ (by omega) (by omega) _).mono ?_; rintro e w' ⟨rfl, hb⟩))
      go_ret
      exact ⟨rfl, hb⟩
def sideL (q p : Int) : List UInt8 := if 0 ≤ q ∧ q < 3 ∧ 1 ≤ p ∧ p ≤ 8 then [98, (48 + q.toNat).toUInt8, 46, (48 + p.toNat).toUInt8] else []
theorem sideL_out (q p : Int) (h : ¬ (0 ≤ q ∧ q < 3 ∧ 1 ≤ p ∧ p ≤ 8)) : sideL q p = [] := by unfold sideL; rw [if_neg h]
theorem pid_cases (p : Int) : p = 1 ∨ p = 2 ∨ p = 3 ∨ p = 4 ∨ p = 5 ∨ p = 6 ∨ p = 7 ∨ p = 8 ∨ (p < 1 ∨ 8 < p) := by omega
theorem side1 (q p : Int) (w : World) : Calls Tryd.prog 16 #[.int .i64 q, .int .i64 p] w fun e w' => e = .returned (S (sideL q p)) ∧ w = w' := by
  by_cases hq : 0 ≤ q ∧ q < 3
  · by_cases hp : 1 ≤ p ∧ p ≤ 8
    · have hs : sideL q p = (logL 1 q ++ [46]) ++ digL p := by
        unfold sideL logL digL; rw [if_pos (by omega), if_pos (by omega)]; rfl
      rw [hs]
      have hl : ∃ c, logL 1 q = [98, c] := by unfold logL digL; rw [if_pos (by omega)]; exact ⟨_, rfl⟩
      obtain ⟨c, hc⟩ := hl
      have Hc := Lib.hid hc
      clear hs hc
      go_enter Tryd.func16, Tryd.ntmps16
      go_wp2_with (first | (go_at_call 14; refine (log1 _ _ _).mono ?_; rw [Hc.out]; rintro e w' ⟨rfl, rfl⟩) | (go_at_call 26; refine (itoa _ (by omega) (by omega) _).mono ?_; rintro e w' ⟨rfl, rfl⟩))
      go_ret
      rw [Hc.out]
      exact ⟨rfl, rfl⟩
    · rw [sideL_out q p (by omega)]
      have hl : ∃ c, logL 1 q = [98, c] := by unfold logL digL; rw [if_pos (by omega)]; exact ⟨_, rfl⟩
      obtain ⟨c, hc⟩ := hl
      have Hc := Lib.hid hc
      clear hc
      have hp' : p < 1 ∨ 8 < p := by omega
      clear hp
      rcases hp' with hp | hp
      all_goals
        go_enter Tryd.func16, Tryd.ntmps16
        go_wp2_with (first | (go_at_call 14; refine (log1 _ _ _).mono ?_; rw [Hc.out]; rintro e w' ⟨rfl, rfl⟩) | (go_at_call 26; refine (itoa _ (by omega) (by omega) _).mono ?_; rintro e w' ⟨rfl, rfl⟩))
        go_ret
        exact ⟨rfl, rfl⟩
  · rw [sideL_out q p (by omega)]
    have Hc := Lib.hid (logL_out 1 q hq)
    clear hq
    go_enter Tryd.func16, Tryd.ntmps16
    go_wp2_with (first | (go_at_call 14; refine (log1 _ _ _).mono ?_; rw [Hc.out]; rintro e w' ⟨rfl, rfl⟩) | (go_at_call 26; refine (itoa _ (by omega) (by omega) _).mono ?_; rintro e w' ⟨rfl, rfl⟩))
    go_ret
    exact ⟨rfl, rfl⟩
end Go.Proofs.YtdaijofmglpmdaaDoor
