/- The reference's Side and Parse, and wakes: the same answers as the package's. -/
import Derived.Test.YtdaijofmglpmdaaDoorNamesC
namespace Go.Proofs.YtdaijofmglpmdaaDoor
open Go.RowKit Go.Shelf
set_option maxRecDepth 100000
set_option linter.unusedVariables false
theorem sideR (q p : Int) (w : World) : Calls Tryd.prog 17 #[.int .i64 q, .int .i64 p] w fun e w' => e = .returned (S (sideL q p)) ∧ Below w.heap.size w w' := by
  by_cases h : 0 ≤ q ∧ q < 3 ∧ 1 ≤ p ∧ p ≤ 8
  · obtain ⟨h1, h2, h3, h4⟩ := h
    have hs : sideL q p = (([98] ++ digL q) ++ [46]) ++ digL p := by
      unfold sideL digL; rw [if_pos (by omega)]; rfl
    rw [hs]
    clear hs
    go_enter Tryd.func17, Tryd.ntmps17
    go_wp2_with fail
    refine (digit _ (by omega) (by omega) _).mono ?_
    rintro e w1 ⟨rfl, hb1⟩
    go_wp2_with fail
    refine (digit _ (by omega) (by omega) _).mono ?_
    rintro e w2 ⟨rfl, hb2⟩
    go_wp2_with fail
    go_ret
    exact ⟨rfl, hb1.trans (hb2.mono hb1.size)⟩
  · rw [sideL_out q p h]
    have h' : q < 0 ∨ (0 ≤ q ∧ 3 ≤ q) ∨ (0 ≤ q ∧ q < 3 ∧ p < 1) ∨ (0 ≤ q ∧ q < 3 ∧ 1 ≤ p ∧ 8 < p) := by omega
    clear h
    rcases h' with h | ⟨h1, h2⟩ | ⟨h1, h2, h3⟩ | ⟨h1, h2, h3, h4⟩
    all_goals
      go_enter Tryd.func17, Tryd.ntmps17
      go_wp2_with fail
      go_ret
      exact ⟨rfl, Below.refl _ _⟩
def Parsed (nm : List UInt8) (w : World) (e : Ending) (w' : World) : Prop := e = .returned (parseV nm) ∧ Below w.heap.size w w'
theorem parsed_hit {nm : List UInt8} {w w' : World} {pre : List NameE} {y : NameE} (hb : Below w.heap.size w w') (hp : pre ++ [y] <+: allE) (h1 : ∀ x ∈ pre, x.1 ≠ nm) (h2 : y.1 = nm) :
    Parsed nm w (.returned (.tuple #[.int .i8 y.2.1, .int .i8 y.2.2.1, .int .i64 y.2.2.2.1, .int .i64 y.2.2.2.2, .bool true])) w' :=
  ⟨by simp only [parseV, parseE_pre hp y pre rfl h1 h2], hb⟩
theorem none_snoc {nm : List UInt8} {pre : List NameE} {y : NameE} (h1 : ∀ x ∈ pre, x.1 ≠ nm) (h2 : (nm == y.1) = false) : ∀ x ∈ pre ++ [y], x.1 ≠ nm := by
  intro x hx
  rcases List.mem_append.1 hx with hx | hx
  · exact h1 x hx
  · simp at hx; subst hx; intro e; rw [e] at h2; simp at h2
def NoneOf (nm : List UInt8) (pre : List NameE) : Prop := ∀ x ∈ pre, x.1 ≠ nm
set_option maxHeartbeats 2000000 in
theorem parseR (nm : List UInt8) (w : World) : Calls Tryd.prog 9 #[S nm] w (Parsed nm w) := by
  go_enter Tryd.func9, Tryd.ntmps9
  go_wp2_with fail
  go_loopw [7] (fun i wr => ∃ t : Nat, t ≤ 2 ∧ i = .int .i8 t ∧ NoneOf nm (tTo t) ∧ Below w.heap.size w wr) (fun i wr => 2 - (intOf i).toNat)
  case atStart => exact ⟨0, by omega, rfl, by intro x hx; simp [tTo] at hx, Below.refl _ _⟩
  case round =>
    obtain ⟨t, ht, rfl, hN, hB⟩ := hrel
    by_cases hlt : t < 2
    · have hpm := Lib.hid (pre_meta t hlt)
      by_cases hm : nm = metaL t
      · have hm' : (nm == metaL t) = true := by simpa using hm
        have HM := Lib.hid hm
        clear hm
        go_wp2_with (go_at_call 13; refine (metaR _ _).mono ?_; rintro e w' ⟨rfl, rfl⟩)
        refine bodyPost_ret (v := .tuple #[.int .i8 (metaE t).2.1, .int .i8 (metaE t).2.2.1, .int .i64 (metaE t).2.2.2.1, .int .i64 (metaE t).2.2.2.2, .bool true]) (by simp [results, Tryd.f9, go_sem, metaE]) rfl ?_
        exact parsed_hit hB hpm.out.1 hN HM.out.symm
      · have hm' : (nm == metaL t) = false := by simpa using hm
        have hN1 : NoneOf nm (tTo t ++ [metaE t]) := none_snoc hN hm'
        clear hm
        go_wp2_with (go_at_call 13; refine (metaR _ _).mono ?_; rintro e w' ⟨rfl, rfl⟩)
        go_loopw [8] (fun i wr => ∃ q : Nat, q ≤ 3 ∧ i = .int .i64 q ∧ NoneOf nm (tTo t ++ [metaE t] ++ logsTo t q) ∧ Below w.heap.size w wr) (fun i wr => 3 - (intOf i).toNat)
        case atStart => exact ⟨0, by omega, rfl, by simpa [logsTo] using hN1, hB⟩
        case round =>
          obtain ⟨q, hq, rfl, hNq, hBq⟩ := hrel
          by_cases hqt : q < 3
          · have hpq := Lib.hid (pre_log t q hlt hqt)
            by_cases hl : nm = logL t q
            · have hl' : (nm == logL t q) = true := by simpa using hl
              have HL := Lib.hid hl
              clear hl
              go_wp2_with (go_at_call 15; refine (logR _ _ _).mono ?_; rintro e w' ⟨rfl, hb2⟩)
              refine bodyPost_ret (v := .tuple #[.int .i8 (logE t q).2.1, .int .i8 (logE t q).2.2.1, .int .i64 (logE t q).2.2.2.1, .int .i64 (logE t q).2.2.2.2, .bool true]) (by simp [results, Tryd.f9, go_sem, logE]) rfl ?_
              exact parsed_hit (hBq.trans (hb2.mono hBq.size)) hpq.out.1 hNq HL.out.symm
            · have hl' : (nm == logL t q) = false := by simpa using hl
              have hN2 : NoneOf nm (tTo t ++ [metaE t] ++ logsTo t q ++ [logE t q]) := none_snoc hNq hl'
              clear hl
              go_wp2_with (go_at_call 15; refine (logR _ _ _).mono ?_; rintro e w' ⟨rfl, hb2⟩)
              go_roundw
              case rel => exact ⟨q + 1, by omega, by go_num, by rw [logsTo_succ, ← List.append_assoc]; exact hN2, hBq.trans (hb2.mono hBq.size)⟩
              case measure => simp [intOf]; omega
          · have hN3 : NoneOf nm (tTo (t + 1)) := by
              rw [tTo_succ]
              have e : q = 3 := by omega
              subst e; simpa using hNq
            go_wp2_with fail
            go_roundw
            case rel => exact ⟨t + 1, by omega, by go_num, hN3, hBq⟩
            case measure => simp [intOf]; omega
    · have hN0 : NoneOf nm (qTo 0) := by
        have e : t = 2 := by omega
        subst e; simpa [qTo] using hN
      go_wp2_with fail
      go_loopw [9] (fun i wr => ∃ q : Nat, q ≤ 3 ∧ i = .int .i64 q ∧ NoneOf nm (qTo q) ∧ Below w.heap.size w wr) (fun i wr => 3 - (intOf i).toNat)
      case atStart => exact ⟨0, by omega, rfl, hN0, hB⟩
      case round =>
        obtain ⟨q, hq, rfl, hNq, hBq⟩ := hrel
        by_cases hqt : q < 3
        · have hq3 : decide ((q : Int) < 3) = true := by simp; omega
          go_wp2_with fail
          go_loopw [10] (fun i wr => ∃ p : Nat, p ≤ 8 ∧ i = .int .i64 (p + 1) ∧ NoneOf nm (qTo q ++ sidesTo q p) ∧ Below w.heap.size w wr) (fun i wr => 9 - (intOf i).toNat)
          case atStart => exact ⟨0, by omega, rfl, by simpa [sidesTo] using hNq, hBq⟩
          case round =>
            obtain ⟨p, hp, rfl, hNp, hBp⟩ := hrel
            by_cases hpt : p < 8
            · have hpq := Lib.hid (pre_side q p hqt hpt)
              by_cases hl : nm = sideL q (p + 1)
              · have hl' : (nm == sideL q (p + 1)) = true := by simpa using hl
                have HL := Lib.hid hl
                clear hl
                go_wp2_with (go_at_call 17; refine (sideR _ _ _).mono ?_; rintro e w' ⟨rfl, hb2⟩)
                refine bodyPost_ret (v := .tuple #[.int .i8 (sideE q (p + 1)).2.1, .int .i8 (sideE q (p + 1)).2.2.1, .int .i64 (sideE q (p + 1)).2.2.2.1, .int .i64 (sideE q (p + 1)).2.2.2.2, .bool true]) (by simp [results, Tryd.f9, go_sem, sideE]) rfl ?_
                exact parsed_hit (hBp.trans (hb2.mono hBp.size)) hpq.out.1 hNp (by rw [HL.out]; simp [sideE])
              · have hl' : (nm == sideL q (p + 1)) = false := by simpa using hl
                have hN2 : NoneOf nm (qTo q ++ sidesTo q p ++ [sideE q (p + 1)]) := none_snoc hNp (by simpa [sideE] using hl)
                clear hl
                go_wp2_with (go_at_call 17; refine (sideR _ _ _).mono ?_; rintro e w' ⟨rfl, hb2⟩)
                go_roundw
                case rel => exact ⟨p + 1, by omega, by go_num, by rw [sidesTo_succ, ← List.append_assoc]; exact hN2, hBp.trans (hb2.mono hBp.size)⟩
                case measure => simp [intOf]; omega
            · have hN3 : NoneOf nm (qTo (q + 1)) := by
                rw [qTo_succ]
                have e : p = 8 := by omega
                subst e; exact hNp
              go_wp2_with fail
              go_roundw
              case rel => exact ⟨q + 1, by omega, by go_num, hN3, hBp⟩
              case measure => simp [intOf]; omega
        · have hN3 : NoneOf nm allE := by
            have e : q = 3 := by omega
            subst e; exact hNq
          go_wp2_with fail
          refine bodyPost_ret (v := .tuple #[.int .i8 0, .int .i8 0, .int .i64 0, .int .i64 0, .bool false]) (by simp [results, Tryd.f9, go_sem]) rfl ?_
          exact ⟨by simp only [parseV, parseE_none hN3], hBq⟩

theorem parseV_b25 : parseV [98, 50, 46, 53] = .tuple #[.int .i8 1, .int .i8 2, .int .i64 2, .int .i64 5, .bool true] := by rfl
theorem parseV_t : parseV [116] = .tuple #[.int .i8 0, .int .i8 0, .int .i64 0, .int .i64 0, .bool false] := by rfl
set_option maxHeartbeats 2000000 in
theorem wakes (w : World) : Calls Tryd.prog 7 #[] w fun e w' => e = .returned (.bool true) ∧ Below w.heap.size w w' := by
  have k1 := Lib.hid parseV_b25
  have k2 := Lib.hid parseV_t
  go_enter Tryd.func7, Tryd.ntmps7
  go_wp2_with fail
  refine (parse [98, 50, 46, 53] _).mono ?_
  rw [k1.out]
  rintro e w1 ⟨rfl, hb1⟩
  go_wp2_with fail
  refine (parse [116] _).mono ?_
  rw [k2.out]
  rintro e w2 ⟨rfl, hb2⟩
  go_wp2_with fail
  refine (side1 2 5 _).mono ?_
  rintro e w3 ⟨rfl, rfl⟩
  rw [show sideL 2 5 = [98, 50, 46, 53] from by decide]
  go_wp2_with fail
  refine (meta1 0 _).mono ?_
  rintro e w3 ⟨rfl, rfl⟩
  rw [show metaL 0 = [105, 109] from by decide]
  go_wp2_with fail
  refine (log1 0 1 _).mono ?_
  rintro e w3 ⟨rfl, rfl⟩
  rw [show logL 0 1 = [105, 49] from by decide]
  go_wp2_with fail
  refine (letter 1 _).mono ?_
  rintro e w3 ⟨rfl, rfl⟩
  rw [show letterL 1 = [98] from by decide]
  go_wp2_with fail
  go_ret
  exact ⟨rfl, hb1.trans (hb2.mono hb1.size)⟩
end Go.Proofs.YtdaijofmglpmdaaDoor
