/- errors.Is of an Errno, at a target that is an Errno. -/
import Derived.Test.YtepcpdionlfkhaaGreatDoorErM
namespace Go.Proofs.YtepcpdionlfkhaaGreatDoor
open Go.RowKit Go.Extern.Stop Go.Stop Go.Extern
set_option maxRecDepth 100000
set_option linter.unusedVariables false
set_option linter.unusedSimpArgs false
set_option maxHeartbeats 8000000 in
theorem isE_walk (n m : Int) (w : World) :
    Calls Tryz.prog 83 #[.iface 41 (.int .i64 n), .iface 41 (.int .i64 m), .bool true] w fun e w' => e = .returned (.bool (n == m)) ∧ w = w' := by
  have t4 := taIE
  have t5 := taUE
  have t6 := taVE
  go_enter Tryz.func83, Tryz.ntmps83
  go_wp2_with fail
  refine wp_loop_rounds 1 ?_
  rw [rounds_succ]
  have e3 := fun w => eqlEE n m w
  cases hnm : (n == m) <;> rw [hnm] at e3
  · go_wp2_with fail
    go_ret
    exact ⟨by rw [hnm]; rfl, rfl⟩
  · go_wp2_with fail
    go_ret
    exact ⟨by rw [hnm]; rfl, rfl⟩
set_option maxHeartbeats 8000000 in
theorem isE (n m : Int) (w : World) : Calls Tryz.prog 42 #[.iface 41 (.int .i64 n), .iface 41 (.int .i64 m)] w fun e w' => e = .returned (.bool (n == m)) ∧ w = w' := by
  have h52 := @run_callFunc_extern Tryz.prog 82 _ ReflectliteType.typeOf Tryz.func82 (by kernel_rfl) (by kernel_rfl) (by kernel_rfl) (by kernel_rfl)
  have h53 := @run_callFunc_extern Tryz.prog 236 _ (ReflectliteType.method (fun t => do Rtype.noPackHeld "Comparable" t; pure (.bool (← typeInfo t).comparable))) Tryz.func236 (by kernel_rfl) (by kernel_rfl) (by kernel_rfl) (by kernel_rfl)
  have tE := typeOfE
  have mC := methodComparable
  have cE := comparableE
  go_enter Tryz.func42, Tryz.ntmps42
  go_wp2_with fail
  refine (isE_walk n m w).mono ?_
  rintro e w' ⟨rfl, rfl⟩
  go_wp2_with fail
  go_ret
  exact ⟨rfl, rfl⟩
theorem is_errno (n m : Int) : Fun Tryz.prog 42 [.iface 41 (int n), .iface 41 (int m)] (boo (n == m)) := by
  refine ⟨by kernel_rfl, fun K w vs hB hk hL => ?_⟩
  obtain ⟨v, u, rfl, hv, hu⟩ := two_args hL
  cases hv with
  | iface hv =>
    cases hv
    cases hu with
    | iface hu =>
      cases hu
      refine (isE n m w).mono ?_
      rintro e w' ⟨rfl, rfl⟩
      exact ⟨_, K, rfl, Ext.refl _ _, hk, Rep.val _, Below.refl _ _⟩
end Go.Proofs.YtepcpdionlfkhaaGreatDoor
