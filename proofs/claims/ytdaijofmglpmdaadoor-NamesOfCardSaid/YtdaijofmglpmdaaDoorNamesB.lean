/- The iterator over all names (meanings) has its contract, and Parse is the search in the list of all names. -/
import Derived.Test.YtdaijofmglpmdaaDoorNamesA
import Derived.RangeFuncNested
import Derived.RangeFuncBound
import Derived.RangeFuncCalls
import Derived.RangeFuncLeaves
import Derived.Shelf.Abstract
import Derived.Shelf.RegionOpen
import Derived.OwnWalkIn
import Derived.TacticsInMore
import Derived.LoopNIn
import Derived.LoopIn
namespace Go.Proofs.YtdaijofmglpmdaaDoor
open Go.RowKit Go.Shelf
attribute [local go_sem] Oper.semAt_some
set_option maxRecDepth 100000
set_option linter.unusedVariables false
abbrev NameE := List UInt8 × Int × Int × Int × Int
abbrev encE (x : NameE) : Array Value := #[S x.1, .agg #[.int .i8 x.2.1, .int .i8 x.2.2.1, .int .i64 x.2.2.2.1, .int .i64 x.2.2.2.2]]
def metaE (t : Nat) : NameE := (metaL t, (t : Int), 0, 0, 0)
def logE (t q : Nat) : NameE := (logL t q, (t : Int), 1, (q : Int), 0)
def sideE (q p : Nat) : NameE := (sideL q p, 1, 2, (q : Int), (p : Int))
def logsTo (t n : Nat) : List NameE := (List.range n).map fun q => logE t q
def tTo (n : Nat) : List NameE := (List.range n).flatMap fun t => metaE t :: logsTo t 3
def sidesTo (q n : Nat) : List NameE := (List.range n).map fun p => sideE q (p + 1)
def qTo (n : Nat) : List NameE := tTo 2 ++ (List.range n).flatMap fun q => sidesTo q 8
def allE : List NameE := qTo 3
theorem logsTo_succ (t n : Nat) : logsTo t (n + 1) = logsTo t n ++ [logE t n] := by simp [logsTo, List.range_succ]
theorem sidesTo_succ (q n : Nat) : sidesTo q (n + 1) = sidesTo q n ++ [sideE q (n + 1)] := by simp [sidesTo, List.range_succ]
theorem tTo_succ (n : Nat) : tTo (n + 1) = tTo n ++ metaE n :: logsTo n 3 := by simp [tTo, List.range_succ]
theorem qTo_succ (n : Nat) : qTo (n + 1) = qTo n ++ sidesTo n 8 := by simp [qTo, List.range_succ]
theorem pre_meta (t : Nat) (h : t < 2) : tTo t ++ [metaE t] <+: allE ∧ (tTo t).length < 32 := by
  obtain rfl | rfl : t = 0 ∨ t = 1 := by omega
  all_goals decide
theorem pre_log (t q : Nat) (h : t < 2) (hq : q < 3) : (tTo t ++ [metaE t] ++ logsTo t q) ++ [logE t q] <+: allE ∧ (tTo t ++ [metaE t] ++ logsTo t q).length < 32 := by
  obtain rfl | rfl : t = 0 ∨ t = 1 := by omega
  all_goals
    obtain rfl | rfl | rfl : q = 0 ∨ q = 1 ∨ q = 2 := by omega
    all_goals decide
theorem pre_side (q p : Nat) (hq : q < 3) (hp : p < 8) : (qTo q ++ sidesTo q p) ++ [sideE q (p + 1)] <+: allE ∧ (qTo q ++ sidesTo q p).length < 32 := by
  obtain rfl | rfl | rfl : q = 0 ∨ q = 1 ∨ q = 2 := by omega
  all_goals
    obtain rfl | rfl | rfl | rfl | rfl | rfl | rfl | rfl : p = 0 ∨ p = 1 ∨ p = 2 ∨ p = 3 ∨ p = 4 ∨ p = 5 ∨ p = 6 ∨ p = 7 := by omega
    all_goals decide
set_option maxHeartbeats 2000000 in
theorem meanings_stops (w : World) : SeqStopsA Fence.wide 10 Tryd.prog 30 #[] encE (fun xs => xs = allE) (fun pre => pre <+: allE) 32 w := fun l J Jx W _ _ _ hY h0 => by
  refine callsIn_of_wp Tryd.func30 rfl trivial ?_ rfl
  simp only [Tryd.ntmps30, List.size_toArray, List.length_cons, List.length_nil, Nat.reduceAdd, Nat.reduceSub, Array.replicate_succ, Array.replicate_zero, List.push_toArray, List.append_toArray, List.nil_append, List.cons_append]
  have i0 : ∀ w, (Instr.index 52 (.agg #[.int .i8 0, .int .i8 1]) (.int .i64 0)).run Tryd.prog w = .ok (.int .i8 0) w := fun _ => by kernel_rfl
  have i1 : ∀ w, (Instr.index 52 (.agg #[.int .i8 0, .int .i8 1]) (.int .i64 1)).run Tryd.prog w = .ok (.int .i8 1) w := fun _ => by kernel_rfl
  gi_wp2
  gi_loopw [8] (fun i wr => ∃ t : Nat, t ≤ 2 ∧ i = .int .i64 t ∧ J (tTo t) wr) (fun i wr => 2 - (intOf i).toNat)
  case atStart => exact ⟨0, by omega, rfl, h0⟩
  case round =>
    obtain ⟨t, ht, rfl, hJ⟩ := hrel
    by_cases hlt : t < 2
    · have hpm := pre_meta t hlt
      obtain ⟨f1, t1, a1, b1, hy1, hR1⟩ := hY (tTo t) (metaE t) wr hJ hpm.2
      dsimp only [encE, metaE] at hy1
      have hin : ∀ w, (Instr.index 52 (.agg #[.int .i8 0, .int .i8 1]) (.int .i64 t)).run Tryd.prog w = .ok (.int .i8 t) w := by
        obtain rfl | rfl : t = 0 ∨ t = 1 := by omega
        · exact i0
        · exact i1
      have HP := Lib.hid hpm
      clear hpm i0 i1
      gi_wp2_with (refine ⟨trivial, ?_⟩; gi_at_call 12; refine (callsIn_wide.2 (meta1 _ _)).mono ?_; rintro e w' ⟨rfl, rfl⟩)
      refine hR1.mono ?_
      rintro e W1 (⟨rfl, hJ1, _⟩ | ⟨rfl, hx1⟩)
      rotate_left
      · gi_wp2
        refine bodyPost_ret (results_none rfl _ _ _) rfl ?_
        exact ⟨⟨_, rfl⟩, .inr ⟨_, HP.out.1, hx1⟩⟩
      · clear HP hy1 hR1
        gi_wp2
        gi_loopw [18] (fun i wr => ∃ q : Nat, q ≤ 3 ∧ i = .int .i64 q ∧ J (tTo t ++ [metaE t] ++ logsTo t q) wr) (fun i wr => 3 - (intOf i).toNat)
        case atStart => exact ⟨0, by omega, rfl, by simpa [logsTo] using hJ1⟩
        case round =>
          obtain ⟨q, hq, rfl, hJq⟩ := hrel
          by_cases hqt : q < 3
          · have hpm := pre_log t q hlt hqt
            obtain ⟨f1, t1, a1, b1, hy1, hR1⟩ := hY _ (logE t q) _ hJq hpm.2
            dsimp only [encE, logE] at hy1
            have HP := Lib.hid hpm
            clear hpm
            gi_wp2_with (refine ⟨trivial, ?_⟩; gi_at_call 14; refine (callsIn_wide.2 (log1 _ _ _)).mono ?_; rintro e w' ⟨rfl, rfl⟩)
            refine hR1.mono ?_
            rintro e W2 (⟨rfl, hJ2, _⟩ | ⟨rfl, hx2⟩)
            · gi_wp2
              go_roundw
              case rel => exact ⟨q + 1, by omega, by go_num, by rw [logsTo_succ, ← List.append_assoc]; exact hJ2⟩
              case measure => simp [intOf]; omega
            · gi_wp2
              refine bodyPost_ret (results_none rfl _ _ _) rfl ?_
              exact ⟨⟨_, rfl⟩, .inr ⟨_, HP.out.1, hx2⟩⟩
          · obtain rfl : q = 3 := by omega
            gi_wp2
            go_roundw
            case rel => exact ⟨t + 1, by omega, by go_num, by rw [tTo_succ]; simpa using hJq⟩
            case measure => simp [intOf]; omega
    · have hJ0 : J (tTo 2) wr := by
        have e : t = 2 := by omega
        rw [← e]; exact hJ
      clear i0 i1
      gi_wp2
      gi_loopw [32] (fun i wr => ∃ q : Nat, q ≤ 3 ∧ i = .int .i64 q ∧ J (qTo q) wr) (fun i wr => 3 - (intOf i).toNat)
      case atStart => exact ⟨0, by omega, rfl, by simpa [qTo] using hJ0⟩
      case round =>
        obtain ⟨q, hq, rfl, hJq⟩ := hrel
        by_cases hqt : q < 3
        · have hq3 : decide ((q : Int) < 3) = true := by simp; omega
          gi_wp2
          gi_loopw [6] (fun i wr => ∃ p : Nat, p ≤ 8 ∧ i = .int .i64 (p + 1) ∧ J (qTo q ++ sidesTo q p) wr) (fun i wr => 9 - (intOf i).toNat)
          case atStart => exact ⟨0, by omega, rfl, by simpa [sidesTo] using hJq⟩
          case round =>
            obtain ⟨p, hp, rfl, hJp⟩ := hrel
            by_cases hpt : p < 8
            · have hpm := pre_side q p hqt hpt
              obtain ⟨f1, t1, a1, b1, hy1, hR1⟩ := hY _ (sideE q (p + 1)) _ hJp hpm.2
              dsimp only [encE, sideE] at hy1
              rw [show (((p + 1 : Nat) : Int)) = (p : Int) + 1 from by omega] at hy1
              have HP := Lib.hid hpm
              clear hpm
              gi_wp2_with (refine ⟨trivial, ?_⟩; gi_at_call 16; refine (callsIn_wide.2 (side1 _ _ _)).mono ?_; rintro e w' ⟨rfl, rfl⟩)
              refine hR1.mono ?_
              rintro e W2 (⟨rfl, hJ2, _⟩ | ⟨rfl, hx2⟩)
              · gi_wp2
                go_roundw
                case rel => exact ⟨p + 1, by omega, by go_num, by rw [sidesTo_succ, ← List.append_assoc]; exact hJ2⟩
                case measure => simp [intOf]; omega
              · gi_wp2
                refine bodyPost_ret (results_none rfl _ _ _) rfl ?_
                exact ⟨⟨_, rfl⟩, .inr ⟨_, HP.out.1, hx2⟩⟩
            · have hJ8 : J (qTo q ++ sidesTo q 8) wr := by
                have e : p = 8 := by omega
                rw [← e]; exact hJp
              gi_wp2
              go_roundw
              case rel => exact ⟨q + 1, by omega, by go_num, by rw [qTo_succ]; exact hJ8⟩
              case measure => simp [intOf]; omega
        · obtain rfl : q = 3 := by omega
          gi_wp2
          go_end0
          exact ⟨⟨_, rfl⟩, .inl ⟨_, rfl, hJq⟩⟩
end Go.Proofs.YtdaijofmglpmdaaDoor
