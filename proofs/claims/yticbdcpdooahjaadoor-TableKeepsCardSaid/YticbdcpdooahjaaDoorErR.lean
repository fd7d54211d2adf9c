/- The error of package read, and its code. -/
import Derived.Test.YticbdcpdooahjaaDoorErM
namespace Go.Proofs.YticbdcpdooahjaaDoor
open Go.RowKit Go.Extern.Stop Go.Stop Go.Extern
set_option maxRecDepth 100000
set_option linter.unusedVariables false
set_option linter.unusedSimpArgs false
theorem unw_read (a : Addr) (n : Int) (w : World) (hc : w.cell? ⟨a.block, a.off + 1, none⟩ = some (.int .i64 n)) (ha : a.spot = none) :
    Calls Tryd.prog 191 #[.pointer (some a)] w fun e w' => e = .returned (.iface 28 (.int .i64 n)) ∧ w = w' := by
  obtain ⟨b, o, sp⟩ := a
  cases ha
  go_enter Tryd.func191, Tryd.ntmps191
  go_wp2_with fail
  go_ret
  exact ⟨rfl, rfl⟩
theorem errT_read : ErrT 229 191 where
  tof := fun v w => by kernel_rfl
  asg := fun w => by kernel_rfl
  unw := unw_read
  taA := fun a w => run_typeAssert_lacksB Tryd.underlying215 (by kernel_rfl) (by kernel_rfl) _ _ w
  taI := fun a w => run_typeAssert_lacksB Tryd.underlying232 (by kernel_rfl) (by kernel_rfl) _ _ w
  taU := fun a w => run_typeAssert_hasB Tryd.underlying218 (by kernel_rfl) _ _ w
  mU := fun a w => by kernel_rfl
  fE := fun args w => by simp [callFunc, Tryd.func191, Tryd.f191]
  ne := by decide
theorem codeNil_read (w : World) : Calls Tryd.prog 132 #[.nilIface] w fun e w' => e = .returned (.int .i64 0) ∧ Below w.heap.size w w' := by
  go_enter Tryd.func132, Tryd.ntmps132
  go_wp2_with fail
  go_ret
  exact ⟨rfl, (Below.refl _ _).alloc (Nat.le_refl _) _⟩
set_option maxHeartbeats 1000000 in
theorem codeR_read (b o : Nat) (n : Int) (w : World) (hg : Glob w) (hc : w.cell? ⟨b, o + 1, none⟩ = some (.int .i64 n)) (hbl : b < w.heap.size) :
    Calls Tryd.prog 132 #[.iface 229 (.pointer (some ⟨b, o, none⟩))] w fun e w' => e = .returned (.int .i64 n) ∧ Below w.heap.size w w' := by
  have b0 : Below w.heap.size w (w.alloc (.cells #[.int .i64 0] 28)) := (Below.refl _ _).alloc (Nat.le_refl _) _
  have l0 := LiesAt.new w #[.int .i64 0] 28
  have hg0 : Glob (w.alloc (.cells #[.int .i64 0] 28)) := hg.below b0
  go_enter Tryd.func132, Tryd.ntmps132
  go_wp2_with fail
  generalize w.alloc (.cells #[.int .i64 0] 28) = W0 at b0 l0 hg0 ⊢
  refine (isR errT_read b o n 130 W0 ((b0.cell (p := ⟨b, o + 1, none⟩) hbl).trans hc)).mono ?_
  rintro e w' ⟨rfl, rfl⟩
  cases hn : (n == 130)
  · go_wp2_with fail
    refine (asR errT_read b o n w.heap.size (.int .i64 0) W0 ((b0.cell (p := ⟨b, o + 1, none⟩) hbl).trans hc) (by have := l0.lt; omega) hg0 (l0.cell 0) (l0.frozen 0) l0.lt).mono ?_
    rintro e w' ⟨rfl, hgr, hcell⟩
    have hb1 : Below w.heap.size w w' := b0.grown hgr b0.size (fun k e => by cases e; exact Nat.le_refl _)
    go_wp2_with fail
    go_ret
    exact ⟨rfl, hb1⟩
  · obtain rfl : n = 130 := by simpa using hn
    go_wp2_with fail
    go_ret
    exact ⟨rfl, b0⟩
theorem code_nil_read : Fun Tryd.prog 132 [.val .nilIface] (int 0) := code_nil_of (by kernel_rfl) codeNil_read
abbrev err_read (x : D) (n : Int) : D := .iface 229 (.ptr [x, int n] 0)
theorem code_err_read (x : D) (n : Int) : Fun Tryd.prog 132 [err_read x n] (int n) := code_err_of (by kernel_rfl) codeR_read x
end Go.Proofs.YticbdcpdooahjaaDoor
