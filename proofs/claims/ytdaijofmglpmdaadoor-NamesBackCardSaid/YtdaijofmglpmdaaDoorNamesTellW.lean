/- The walk of NamesTell: true for every input. -/
import Derived.Test.YtdaijofmglpmdaaDoorNamesD
namespace Go.Proofs.YtdaijofmglpmdaaDoor
open Go.RowKit Go.Shelf
set_option maxRecDepth 100000
set_option linter.unusedVariables false
theorem parseV_form (nm : List UInt8) : ∃ (a b c d : Int) (ok : Bool), parseV nm = .tuple #[.int .i8 a, .int .i8 b, .int .i64 c, .int .i64 d, .bool ok] := by
  unfold parseV; split <;> exact ⟨_, _, _, _, _, rfl⟩
set_option maxHeartbeats 2000000 in
theorem tell_walk (t q p : Int) (nm : List UInt8) (w : World) : Calls Tryd.prog 3 #[.int .i8 t, .int .i64 q, .int .i64 p, S nm] w fun e w' => e = .returned (.bool true) ∧ Below w.heap.size w w' := by
  by_cases hl : 100 < nm.length
  · go_enter Tryd.func3, Tryd.ntmps3
    go_wp2_with fail
    refine (wakes _).mono ?_
    rintro e w1 ⟨rfl, hb1⟩
    go_wp2_with fail
    go_ret
    exact ⟨rfl, hb1⟩
  · obtain ⟨a, b, c, d, ok, hv⟩ := parseV_form nm
    have Hv := Lib.hid hv
    clear hv
    go_enter Tryd.func3, Tryd.ntmps3
    go_wp2_with fail
    refine (parse nm _).mono ?_
    rw [Hv.out]
    rintro e w1 ⟨rfl, hb1⟩
    go_wp2_with fail
    refine (parseR nm _).mono ?_
    rintro e w2 ⟨rfl, hb2⟩
    rw [Hv.out]
    go_wp2_with fail
    refine (letter t _).mono ?_
    rintro e w3 ⟨rfl, rfl⟩
    go_wp2_with fail
    refine (letterR t _).mono ?_
    rintro e w3 ⟨rfl, rfl⟩
    go_wp2_with fail
    refine (meta1 t _).mono ?_
    rintro e w3 ⟨rfl, rfl⟩
    go_wp2_with fail
    refine (metaR t _).mono ?_
    rintro e w3 ⟨rfl, rfl⟩
    go_wp2_with fail
    refine (log1 t q _).mono ?_
    rintro e w3 ⟨rfl, rfl⟩
    go_wp2_with fail
    refine (logR t q _).mono ?_
    rintro e w3 ⟨rfl, hb3⟩
    go_wp2_with fail
    refine (side1 q p _).mono ?_
    rintro e w3 ⟨rfl, rfl⟩
    go_wp2_with fail
    refine (sideR q p _).mono ?_
    rintro e w4 ⟨rfl, hb4⟩
    go_wp2_with fail
    refine (wakes _).mono ?_
    rintro e w5 ⟨rfl, hb5⟩
    go_wp2_with fail
    go_ret
    have h2 := hb1.trans (hb2.mono hb1.size)
    have h3 := h2.trans (hb3.mono h2.size)
    have h4 := h3.trans (hb4.mono h3.size)
    exact ⟨rfl, h4.trans (hb5.mono h4.size)⟩
end Go.Proofs.YtdaijofmglpmdaaDoor
