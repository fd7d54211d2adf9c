/- The error of package disk, and its code. -/
import Derived.Test.YtepcpdionlfkhaaGreatDoorErM
namespace Go.Proofs.YtepcpdionlfkhaaGreatDoor
open Go.RowKit Go.Extern.Stop Go.Stop Go.Extern
set_option maxRecDepth 100000
set_option linter.unusedVariables false
set_option linter.unusedSimpArgs false
theorem unw_disk (a : Addr) (n : Int) (w : World) (hc : w.cell? ⟨a.block, a.off + 1, none⟩ = some (.int .i64 n)) (ha : a.spot = none) :
    Calls Tryz.prog 233 #[.pointer (some a)] w fun e w' => e = .returned (.iface 41 (.int .i64 n)) ∧ w = w' := by
  obtain ⟨b, o, sp⟩ := a
  cases ha
  go_enter Tryz.func233, Tryz.ntmps233
  go_wp2_with fail
  go_ret
  exact ⟨rfl, rfl⟩
theorem errT_disk : ErrT 201 233 where
  tof := fun v w => by kernel_rfl
  asg := fun w => by kernel_rfl
  unw := unw_disk
  taA := fun a w => run_typeAssert_lacksB Tryz.underlying224 (by kernel_rfl) (by kernel_rfl) _ _ w
  taI := fun a w => run_typeAssert_lacksB Tryz.underlying213 (by kernel_rfl) (by kernel_rfl) _ _ w
  taU := fun a w => run_typeAssert_hasB Tryz.underlying216 (by kernel_rfl) _ _ w
  mU := fun a w => by kernel_rfl
  fE := fun args w => by simp [callFunc, Tryz.func233, Tryz.f233]
  ne := by decide
set_option maxHeartbeats 1000000 in
theorem codeR_disk (b o : Nat) (n : Int) (w : World) (hg : Glob w) (hc : w.cell? ⟨b, o + 1, none⟩ = some (.int .i64 n)) (hbl : b < w.heap.size) :
    Calls Tryz.prog 78 #[.iface 201 (.pointer (some ⟨b, o, none⟩))] w fun e w' => e = .returned (.int .i64 n) ∧ Below w.heap.size w w' := by
  have b0 : Below w.heap.size w (w.alloc (.cells #[.int .i64 0] 41)) := (Below.refl _ _).alloc (Nat.le_refl _) _
  have l0 := LiesAt.new w #[.int .i64 0] 41
  have hg0 : Glob (w.alloc (.cells #[.int .i64 0] 41)) := hg.below b0
  go_enter Tryz.func78, Tryz.ntmps78
  go_wp2_with fail
  generalize w.alloc (.cells #[.int .i64 0] 41) = W0 at b0 l0 hg0 ⊢
  refine (asR errT_disk b o n w.heap.size (.int .i64 0) W0 ((b0.cell (p := ⟨b, o + 1, none⟩) hbl).trans hc) (by have := l0.lt; omega) hg0 (l0.cell 0) (l0.frozen 0) l0.lt).mono ?_
  rintro e w' ⟨rfl, hgr, hcell⟩
  have hb1 : Below w.heap.size w w' := b0.grown hgr b0.size (fun k e => by cases e; exact Nat.le_refl _)
  go_wp2_with fail
  go_ret
  exact ⟨rfl, hb1⟩
abbrev err_disk (x : D) (n : Int) : D := .iface 201 (.ptr [x, int n] 0)
theorem code_err_disk (x : D) (n : Int) : Fun Tryz.prog 78 [err_disk x n] (int n) := code_err_of (by kernel_rfl) codeR_disk x
abbrev errD (s : List UInt8) (n : Int) : D := err_disk (str s) n
theorem code_err (s : List UInt8) (n : Int) : Fun Tryz.prog 78 [errD s n] (int n) := code_err_disk (str s) n
end Go.Proofs.YtepcpdionlfkhaaGreatDoor
