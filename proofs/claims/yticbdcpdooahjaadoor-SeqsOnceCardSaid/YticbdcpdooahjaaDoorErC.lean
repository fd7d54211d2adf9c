/- errors.Is of an error that wraps an Errno, at a target that is an Errno: whether the numbers are the same. The faults of the packages. -/
import Derived.Test.YticbdcpdooahjaaDoorErB
import Derived.Test.YticbdcpdooahjaaDoorAbsS
namespace Go.Proofs.YticbdcpdooahjaaDoor
open Go.RowKit Go.Extern.Stop Go.Stop Go.Extern
set_option maxRecDepth 100000
set_option linter.unusedVariables false
set_option linter.unusedSimpArgs false
theorem eqlInEE (d : Nat) (n m : Int) (w : World) : (Op.equalIn (d + 2) 103 (.iface 28 (.int .i64 n)) (.iface 28 (.int .i64 m))).run Tryd.prog w = .ok (n == m) w := by
  obtain ⟨i, hi, hc⟩ := Option.map_eq_some_iff.1 (show (Tryd.prog.info? 28).map (·.comparable) = some true by kernel_rfl)
  simp [Op.equalIn, run_underlying Tryd.underlying103, run_underlying Tryd.underlying28, typeInfo, hi, hc]
theorem eqlEE (n m : Int) (w : World) : (binOp .eql 103 (.iface 28 (.int .i64 n)) (.iface 28 (.int .i64 m))).run Tryd.prog w = .ok (.bool (n == m)) w := by
  simp only [binOp]
  simp [Op.equal, Op.maxDepth, eqlInEE 9998]
theorem eqlInTE {T : Nat} (hT : T ≠ 28) (d : Nat) (v : Value) (m : Int) (w : World) : (Op.equalIn (d + 2) 103 (.iface T v) (.iface 28 (.int .i64 m))).run Tryd.prog w = .ok false w := by
  simp [Op.equalIn, run_underlying Tryd.underlying103, hT]
theorem eqlTE {T : Nat} (hT : T ≠ 28) (v : Value) (m : Int) (w : World) : (binOp .eql 103 (.iface T v) (.iface 28 (.int .i64 m))).run Tryd.prog w = .ok (.bool false) w := by
  simp only [binOp]
  simp [Op.equal, Op.maxDepth, eqlInTE hT 9998]
theorem taIE (n : Int) (w : World) : (Instr.typeAssert (.iface 28 (.int .i64 n)) 103 232 true).run Tryd.prog w = .ok (.tuple #[.nilIface, .bool false]) w :=
  run_typeAssert_lacksB Tryd.underlying232 (by kernel_rfl) (by kernel_rfl) _ _ w
theorem taUE (n : Int) (w : World) : (Instr.typeAssert (.iface 28 (.int .i64 n)) 103 218 true).run Tryd.prog w = .ok (.tuple #[.nilIface, .bool false]) w :=
  run_typeAssert_lacksB Tryd.underlying218 (by kernel_rfl) (by kernel_rfl) _ _ w
theorem taVE (n : Int) (w : World) : (Instr.typeAssert (.iface 28 (.int .i64 n)) 103 220 true).run Tryd.prog w = .ok (.tuple #[.nilIface, .bool false]) w :=
  run_typeAssert_lacksB Tryd.underlying220 (by kernel_rfl) (by kernel_rfl) _ _ w
theorem methodComparable (h : Value) (w : World) : (Go.method 371 211 (.agg #[h]) "Comparable").run Tryd.prog w = .ok (181, .agg #[h]) w := by kernel_rfl
set_option maxHeartbeats 8000000 in
theorem is_walk {T fU : Nat} (hT : ErrT T fU) (b o : Nat) (n m : Int) (w : World) (hc : w.cell? ⟨b, o + 1, none⟩ = some (.int .i64 n)) :
    Calls Tryd.prog 135 #[.iface T (.pointer (some ⟨b, o, none⟩)), .iface 28 (.int .i64 m), .bool true] w fun e w' => e = .returned (.bool (n == m)) ∧ w = w' := by
  have e1 := @eqlTE T hT.ne
  have e2 := eqlEE
  have t1 := hT.taI
  have t2 := hT.taU
  have t3 := hT.mU
  have t4 := taIE
  have t5 := taUE
  have t6 := taVE
  have fE := hT.fE
  go_enter Tryd.func135, Tryd.ntmps135
  go_wp2_with fail
  refine wp_loop_rounds 2 ?_
  rw [rounds_succ]
  go_wp2_with fail
  refine (hT.unw ⟨b, o, none⟩ n _ hc rfl).mono ?_
  rintro e w1 ⟨rfl, rfl⟩
  go_wp2_with fail
  rw [rounds_succ]
  have e3 := fun w => eqlEE n m w
  clear e2
  cases hnm : (n == m) <;> rw [hnm] at e3
  · go_wp2_with fail
    go_ret
    exact ⟨by rw [hnm]; rfl, rfl⟩
  · go_wp2_with fail
    go_ret
    exact ⟨by rw [hnm]; rfl, rfl⟩
theorem comparableE (w : World) : (ReflectliteType.method (fun t => do Rtype.noPackHeld "Comparable" t; (fun a : TypeInfo => Value.bool a.comparable) <$> typeInfo t) #[.agg #[.pointer (some ⟨1, 28, none⟩)]]).run Tryd.prog w = .ok (.bool true) w := by kernel_rfl
set_option maxHeartbeats 8000000 in
theorem isR {T fU : Nat} (hT : ErrT T fU) (b o : Nat) (n m : Int) (w : World) (hc : w.cell? ⟨b, o + 1, none⟩ = some (.int .i64 n)) :
    Calls Tryd.prog 111 #[.iface T (.pointer (some ⟨b, o, none⟩)), .iface 28 (.int .i64 m)] w fun e w' => e = .returned (.bool (n == m)) ∧ w = w' := by
  have h52 := @run_callFunc_extern Tryd.prog 134 _ ReflectliteType.typeOf Tryd.func134 (by kernel_rfl) (by kernel_rfl) (by kernel_rfl) (by kernel_rfl)
  have h53 := @run_callFunc_extern Tryd.prog 181 _ (ReflectliteType.method (fun t => do Rtype.noPackHeld "Comparable" t; pure (.bool (← typeInfo t).comparable))) Tryd.func181 (by kernel_rfl) (by kernel_rfl) (by kernel_rfl) (by kernel_rfl)
  have tE := typeOfE
  have mC := methodComparable
  have cE := comparableE
  go_enter Tryd.func111, Tryd.ntmps111
  go_wp2_with fail
  refine (is_walk hT b o n m w hc).mono ?_
  rintro e w' ⟨rfl, rfl⟩
  go_wp2_with fail
  go_ret
  exact ⟨rfl, rfl⟩
end Go.Proofs.YticbdcpdooahjaaDoor
