/- The error of package disk, and its code. -/
import Derived.Test.YtepcpdionlfkhaaDoorErM
namespace Go.Proofs.YtepcpdionlfkhaaDoor
open Go.RowKit Go.Extern.Stop Go.Stop Go.Extern
set_option maxRecDepth 100000
set_option linter.unusedVariables false
set_option linter.unusedSimpArgs false
theorem unw_disk (a : Addr) (n : Int) (w : World) (hc : w.cell? ⟨a.block, a.off + 1, none⟩ = some (.int .i64 n)) (ha : a.spot = none) :
    Calls Tryd.prog 202 #[.pointer (some a)] w fun e w' => e = .returned (.iface 31 (.int .i64 n)) ∧ w = w' := by
  obtain ⟨b, o, sp⟩ := a
  cases ha
  go_enter Tryd.func202, Tryd.ntmps202
  go_wp2_with fail
  go_ret
  exact ⟨rfl, rfl⟩
theorem errT_disk : ErrT 167 202 where
  tof := fun v w => by kernel_rfl
  asg := fun w => by kernel_rfl
  unw := unw_disk
  taA := fun a w => run_typeAssert_lacksB Tryd.underlying243 (by kernel_rfl) (by kernel_rfl) _ _ w
  taI := fun a w => run_typeAssert_lacksB Tryd.underlying183 (by kernel_rfl) (by kernel_rfl) _ _ w
  taU := fun a w => run_typeAssert_hasB Tryd.underlying186 (by kernel_rfl) _ _ w
  mU := fun a w => by kernel_rfl
  fE := fun args w => by simp [callFunc, Tryd.func202, Tryd.f202]
  ne := by decide
theorem codeNil_disk (w : World) : Calls Tryd.prog 46 #[.nilIface] w fun e w' => e = .returned (.int .i64 0) ∧ Below w.heap.size w w' := by
  go_enter Tryd.func46, Tryd.ntmps46
  go_wp2_with fail
  go_ret
  exact ⟨rfl, (Below.refl _ _).alloc (Nat.le_refl _) _⟩
set_option maxHeartbeats 1000000 in
theorem codeR_disk (b o : Nat) (n : Int) (w : World) (hg : Glob w) (hc : w.cell? ⟨b, o + 1, none⟩ = some (.int .i64 n)) (hbl : b < w.heap.size) :
    Calls Tryd.prog 46 #[.iface 167 (.pointer (some ⟨b, o, none⟩))] w fun e w' => e = .returned (.int .i64 n) ∧ Below w.heap.size w w' := by
  have b0 : Below w.heap.size w (w.alloc (.cells #[.int .i64 0] 31)) := (Below.refl _ _).alloc (Nat.le_refl _) _
  have l0 := LiesAt.new w #[.int .i64 0] 31
  have hg0 : Glob (w.alloc (.cells #[.int .i64 0] 31)) := hg.below b0
  go_enter Tryd.func46, Tryd.ntmps46
  go_wp2_with fail
  generalize w.alloc (.cells #[.int .i64 0] 31) = W0 at b0 l0 hg0 ⊢
  refine (asR errT_disk b o n w.heap.size (.int .i64 0) W0 ((b0.cell (p := ⟨b, o + 1, none⟩) hbl).trans hc) (by have := l0.lt; omega) hg0 (l0.cell 0) (l0.frozen 0) l0.lt).mono ?_
  rintro e w' ⟨rfl, hgr, hcell⟩
  have hb1 : Below w.heap.size w w' := b0.grown hgr b0.size (fun k e => by cases e; exact Nat.le_refl _)
  go_wp2_with fail
  go_ret
  exact ⟨rfl, hb1⟩
theorem code_nil_disk : Fun Tryd.prog 46 [.val .nilIface] (int 0) := code_nil_of (by kernel_rfl) codeNil_disk
abbrev err_disk (x : D) (n : Int) : D := .iface 167 (.ptr [x, int n] 0)
theorem code_err_disk (x : D) (n : Int) : Fun Tryd.prog 46 [err_disk x n] (int n) := code_err_of (by kernel_rfl) codeR_disk x
abbrev errD (s : List UInt8) (n : Int) : D := err_disk (str s) n
theorem code_nil : Fun Tryd.prog 46 [.val .nilIface] (int 0) := code_nil_disk
theorem code_err (s : List UInt8) (n : Int) : Fun Tryd.prog 46 [errD s n] (int n) := code_err_disk (str s) n
end Go.Proofs.YtepcpdionlfkhaaDoor
