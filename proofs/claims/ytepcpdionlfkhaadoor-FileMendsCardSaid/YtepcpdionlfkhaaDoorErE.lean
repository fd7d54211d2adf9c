/- errors.Is of an Errno, at a target that is an Errno. -/
import Derived.Test.YtepcpdionlfkhaaDoorErM
namespace Go.Proofs.YtepcpdionlfkhaaDoor
open Go.RowKit Go.Extern.Stop Go.Stop Go.Extern
set_option maxRecDepth 100000
set_option linter.unusedVariables false
set_option linter.unusedSimpArgs false
set_option maxHeartbeats 8000000 in
theorem isE_walk (n m : Int) (w : World) :
    Calls Tryd.prog 64 #[.iface 31 (.int .i64 n), .iface 31 (.int .i64 m), .bool true] w fun e w' => e = .returned (.bool (n == m)) ∧ w = w' := by
  have t4 := taIE
  have t5 := taUE
  have t6 := taVE
  go_enter Tryd.func64, Tryd.ntmps64
  go_wp2_with fail
  refine wp_loop_rounds 1 ?_
  rw [rounds_succ]
  have e3 := fun w => eqlEE n m w
  cases hnm : (n == m) <;> rw [hnm] at e3
  · go_wp2_with fail
    go_ret
    exact ⟨by rw [hnm]; rfl, rfl⟩
  · go_wp2_with fail
    go_ret
    exact ⟨by rw [hnm]; rfl, rfl⟩
set_option maxHeartbeats 8000000 in
theorem isE (n m : Int) (w : World) : Calls Tryd.prog 26 #[.iface 31 (.int .i64 n), .iface 31 (.int .i64 m)] w fun e w' => e = .returned (.bool (n == m)) ∧ w = w' := by
  have h52 := @run_callFunc_extern Tryd.prog 63 _ ReflectliteType.typeOf Tryd.func63 (by kernel_rfl) (by kernel_rfl) (by kernel_rfl) (by kernel_rfl)
  have h53 := @run_callFunc_extern Tryd.prog 205 _ (ReflectliteType.method (fun t => do Rtype.noPackHeld "Comparable" t; pure (.bool (← typeInfo t).comparable))) Tryd.func205 (by kernel_rfl) (by kernel_rfl) (by kernel_rfl) (by kernel_rfl)
  have tE := typeOfE
  have mC := methodComparable
  have cE := comparableE
  go_enter Tryd.func26, Tryd.ntmps26
  go_wp2_with fail
  refine (isE_walk n m w).mono ?_
  rintro e w' ⟨rfl, rfl⟩
  go_wp2_with fail
  go_ret
  exact ⟨rfl, rfl⟩
theorem is_errno (n m : Int) : Fun Tryd.prog 26 [.iface 31 (int n), .iface 31 (int m)] (boo (n == m)) := by
  refine ⟨by kernel_rfl, fun K w vs hB hk hL => ?_⟩
  obtain ⟨v, u, rfl, hv, hu⟩ := two_args hL
  cases hv with
  | iface hv =>
    cases hv
    cases hu with
    | iface hu =>
      cases hu
      refine (isE n m w).mono ?_
      rintro e w' ⟨rfl, rfl⟩
      exact ⟨_, K, rfl, Ext.refl _ _, hk, Rep.val _, Below.refl _ _⟩
end Go.Proofs.YtepcpdionlfkhaaDoor
