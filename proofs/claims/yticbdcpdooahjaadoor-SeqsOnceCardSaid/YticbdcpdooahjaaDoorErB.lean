/- errors.As of an error that wraps an Errno: true, and the target holds the number. -/
import Derived.Test.YticbdcpdooahjaaDoorErA
namespace Go.Proofs.YticbdcpdooahjaaDoor
open Go.RowKit Go.Extern.Stop Go.Stop Go.Extern
set_option maxRecDepth 100000
set_option linter.unusedVariables false
set_option linter.unusedSimpArgs false
theorem grown_set (w : World) (tb : Nat) (n : Int) (o1 o2 : Obj) : w.grownBy (((w.setCell ⟨tb, 0, none⟩ (.int .i64 n)).alloc o1).alloc o2) (some tb) :=
  ⟨rfl, rfl, rfl, by simp [World.setCell]; omega, fun k hk hne => by
    have hz : (w.setCell ⟨tb, 0, none⟩ (.int .i64 n)).heap.size = w.heap.size := by simp [World.setCell]
    rw [Below.heap_alloc _ _ _ (by simp; omega), Below.heap_alloc _ _ _ (by omega), Below.heap_setCell _ _ _ _ (fun e => hne (by rw [e]))]⟩
theorem cell_set (w : World) (tb : Nat) (n : Int) (o1 o2 : Obj) (old : Value) (ht : w.cell? ⟨tb, 0, none⟩ = some old) (htl : tb < w.heap.size) : (((w.setCell ⟨tb, 0, none⟩ (.int .i64 n)).alloc o1).alloc o2).cell? ⟨tb, 0, none⟩ = some (.int .i64 n) := by
  have hz : (w.setCell ⟨tb, 0, none⟩ (.int .i64 n)).heap.size = w.heap.size := by simp [World.setCell]
  rw [World.cell?_alloc_lt _ _ ⟨tb, 0, none⟩ (by show tb < _; simp; omega), World.cell?_alloc_lt _ _ ⟨tb, 0, none⟩ (by show tb < _; omega)]
  exact World.cell?_setCell_same' _ _ _ (by rw [ht]; rfl)
set_option maxHeartbeats 8000000 in
theorem as_walk {T fU : Nat} (hT : ErrT T fU) (b o : Nat) (n : Int) (vb : Addr) (tb : Nat) (old : Value) (w : World) (hc : w.cell? ⟨b, o + 1, none⟩ = some (.int .i64 n)) (hbl : b < w.heap.size)
    (hv : w.cell? vb = some (.pointer (some ⟨tb, 0, none⟩))) (hvl : vb.block < w.heap.size) (ht : w.cell? ⟨tb, 0, none⟩ = some old) (hf : w.frozen? ⟨tb, 0, none⟩ = false) (htl : tb < w.heap.size) :
    Calls Tryd.prog 128 #[.iface T (.pointer (some ⟨b, o, none⟩)), .iface 158 (.pointer (some ⟨tb, 0, none⟩)), .agg #[.pointer (some ⟨1, 158, none⟩), .pointer (some vb), .int .u64 150], .iface 211 (.agg #[.pointer (some ⟨1, 28, none⟩)])] w
      fun e w' => e = .returned (.bool true) ∧ w.grownBy w' (some tb) ∧ w'.cell? ⟨tb, 0, none⟩ = some (.int .i64 n) := by
  have h48 := @run_callFunc_extern Tryd.prog 125 _ (fun args => ReflectliteValue.unpack (args.getD 0 (.tuple #[]))) Tryd.func125 (by kernel_rfl) (by kernel_rfl) (by kernel_rfl) (by kernel_rfl)
  have h52 := @run_callFunc_extern Tryd.prog 134 _ ReflectliteType.typeOf Tryd.func134 (by kernel_rfl) (by kernel_rfl) (by kernel_rfl) (by kernel_rfl)
  have h79 := @run_callFunc_extern Tryd.prog 180 _ (ReflectliteType.relation "AssignableTo" ReflectliteType.assignableTo) Tryd.func180 (by kernel_rfl) (by kernel_rfl) (by kernel_rfl) (by kernel_rfl)
  have h53 := @run_callFunc_extern Tryd.prog 142 _ (ReflectliteValue.method (ReflectliteValue.valueError "reflectlite.Value.Elem" 0) ReflectliteValue.elem) Tryd.func142 (by kernel_rfl) (by kernel_rfl) (by kernel_rfl) (by kernel_rfl)
  have h54 := @run_callFunc_extern Tryd.prog 143 _ ReflectliteValue.set Tryd.func143 (by kernel_rfl) (by kernel_rfl) (by kernel_rfl) (by kernel_rfl)
  have tE := typeOfE
  have mA := methodAssignableTo
  have aR := hT.asg
  have tR := hT.tof
  have fE := hT.fE
  have aE := assignableE
  have vE := valueOfE
  have t1 := hT.taA
  have t2 := hT.taU
  have t3 := hT.mU
  go_enter Tryd.func128, Tryd.ntmps128
  go_wp2_with fail
  refine wp_loop_rounds 2 ?_
  rw [rounds_succ]
  go_wp2_with fail
  have hb0 := (Below.refl w.heap.size w).alloc (Nat.le_refl _) (.cells #[.pointer (some ⟨1, 158, none⟩), .pointer (some vb), .int .u64 150] 189)
  have el := elemVP vb ⟨tb, 0, none⟩ (w.alloc (.cells #[.pointer (some ⟨1, 158, none⟩), .pointer (some vb), .int .u64 150] 189)) ((hb0.cell (p := vb) hvl).trans hv)
  have st := setE ⟨tb, 0, none⟩ ⟨w.heap.size + 1, 0, none⟩ n old ((w.alloc (.cells #[.pointer (some ⟨1, 158, none⟩), .pointer (some vb), .int .u64 150] 189)).alloc (.cells #[.int .i64 n] 28))
    (by rw [World.cell?_alloc_at _ _ _ _ (by simp)]; rfl)
    (((hb0.alloc (by simp) _).cell (p := ⟨tb, 0, none⟩) htl).trans ht) (((hb0.alloc (by simp) _).frozen (p := ⟨tb, 0, none⟩) htl).trans hf)
  refine (hT.unw ⟨b, o, none⟩ n _ ((hb0.cell (p := ⟨b, o + 1, none⟩) hbl).trans hc) rfl).mono ?_
  rintro e w1 ⟨rfl, rfl⟩
  go_wp2_with fail
  rw [rounds_succ]
  go_wp2_with fail
  go_ret
  exact ⟨rfl, grown_set w tb n _ _, cell_set w tb n _ _ old ht htl⟩
set_option maxHeartbeats 8000000 in
theorem asR {T fU : Nat} (hT : ErrT T fU) (b o : Nat) (n : Int) (tb : Nat) (old : Value) (w : World) (hc : w.cell? ⟨b, o + 1, none⟩ = some (.int .i64 n)) (hbl : b < w.heap.size) (hg : w.cell? ⟨0, 0, none⟩ = some (.iface 211 (.agg #[.pointer (some ⟨1, 103, none⟩)])))
    (ht : w.cell? ⟨tb, 0, none⟩ = some old) (hf : w.frozen? ⟨tb, 0, none⟩ = false) (htl : tb < w.heap.size) :
    Calls Tryd.prog 98 #[.iface T (.pointer (some ⟨b, o, none⟩)), .iface 158 (.pointer (some ⟨tb, 0, none⟩))] w
      fun e w' => e = .returned (.bool true) ∧ w.grownBy w' (some tb) ∧ w'.cell? ⟨tb, 0, none⟩ = some (.int .i64 n) := by
  have h48 := @run_callFunc_extern Tryd.prog 125 _ (fun args => ReflectliteValue.unpack (args.getD 0 (.tuple #[]))) Tryd.func125 (by kernel_rfl) (by kernel_rfl) (by kernel_rfl) (by kernel_rfl)
  have h49 := @run_callFunc_extern Tryd.prog 126 _ (ReflectliteValue.methodAny (ReflectliteValue.valueError "reflectlite.Value.Type" 0) (fun t _ _ _ => ReflectliteType.toType t)) Tryd.func126 (by kernel_rfl) (by kernel_rfl) (by kernel_rfl) (by kernel_rfl)
  have h50 := @run_callFunc_extern Tryd.prog 127 _ (ReflectliteValue.method (ReflectliteValue.valueError "reflectlite.Value.IsNil" 0) ReflectliteValue.isNil) Tryd.func127 (by kernel_rfl) (by kernel_rfl) (by kernel_rfl) (by kernel_rfl)
  have hK := @run_callFunc_extern Tryd.prog 165 _ (ReflectliteType.abiMethod fun t => do pure (.int .u8 (← Rtype.kind t))) Tryd.func165 (by kernel_rfl) (by kernel_rfl) (by kernel_rfl) (by kernel_rfl)
  have hE := @run_callFunc_extern Tryd.prog 182 _ (ReflectliteType.method ReflectliteType.elem) Tryd.func182 (by kernel_rfl) (by kernel_rfl) (by kernel_rfl) (by kernel_rfl)
  have hI := @run_callFunc_extern Tryd.prog 183 _ (ReflectliteType.relation "Implements" ReflectliteType.implements_) Tryd.func183 (by kernel_rfl) (by kernel_rfl) (by kernel_rfl) (by kernel_rfl)
  have f6 := valueOfP
  have f7 := typeP
  have mK := methodKind
  have mE := methodElem
  have mI := methodImplements
  have k27 := kindP
  have k25 := kindE
  have e27 := elemP
  have i25 := implementsE
  have hlt : 0 < w.heap.size := World.block_lt_of_cell? w _ hg
  have hb0 := (Below.refl w.heap.size w).alloc (Nat.le_refl _) (.cells #[.pointer (some ⟨tb, 0, none⟩)] 158)
  have hb1 := hb0.alloc (by simp) (.cells #[.pointer (some ⟨1, 158, none⟩), .pointer (some ⟨w.heap.size, 0, none⟩), .int .u64 150] 189)
  have n8 := isNilP ⟨w.heap.size, 0, none⟩ ⟨tb, 0, none⟩ ((w.alloc (.cells #[.pointer (some ⟨tb, 0, none⟩)] 158)).alloc (.cells #[.pointer (some ⟨1, 158, none⟩), .pointer (some ⟨w.heap.size, 0, none⟩), .int .u64 150] 189)) (by simp)
  have hg2 := (hb1.cell (p := ⟨0, 0, none⟩) hlt).trans hg
  go_enter Tryd.func98, Tryd.ntmps98
  go_wp2_with fail
  have q1 : b < ((w.alloc (.cells #[.pointer (some ⟨tb, 0, none⟩)] 158)).alloc (.cells #[.pointer (some ⟨1, 158, none⟩), .pointer (some ⟨w.heap.size, 0, none⟩), .int .u64 150] 189)).heap.size := by simp; omega
  have q2 : ((w.alloc (.cells #[.pointer (some ⟨tb, 0, none⟩)] 158)).alloc (.cells #[.pointer (some ⟨1, 158, none⟩), .pointer (some ⟨w.heap.size, 0, none⟩), .int .u64 150] 189)).cell? ⟨w.heap.size, 0, none⟩ = some (.pointer (some ⟨tb, 0, none⟩)) := ((LiesAt.new w #[.pointer (some ⟨tb, 0, none⟩)] 158).alloc _).cell 0
  have q3 : w.heap.size < ((w.alloc (.cells #[.pointer (some ⟨tb, 0, none⟩)] 158)).alloc (.cells #[.pointer (some ⟨1, 158, none⟩), .pointer (some ⟨w.heap.size, 0, none⟩), .int .u64 150] 189)).heap.size := by simp; omega
  have q4 : tb < ((w.alloc (.cells #[.pointer (some ⟨tb, 0, none⟩)] 158)).alloc (.cells #[.pointer (some ⟨1, 158, none⟩), .pointer (some ⟨w.heap.size, 0, none⟩), .int .u64 150] 189)).heap.size := by simp; omega
  refine (as_walk hT b o n ⟨w.heap.size, 0, none⟩ tb old _ ((hb1.cell (p := ⟨b, o + 1, none⟩) hbl).trans hc) q1 q2 q3 ((hb1.cell (p := ⟨tb, 0, none⟩) htl).trans ht) ((hb1.frozen (p := ⟨tb, 0, none⟩) htl).trans hf) q4).mono ?_
  rintro e w' ⟨rfl, hgr, hcell⟩
  have hfin : w.grownBy w' (some tb) := ⟨hgr.os, hgr.tape, hgr.output, by have := hgr.size; simp at this; omega, fun k hk hne => (hgr.block k (by simp; omega) hne).trans (hb1.block k hk)⟩
  go_wp2_with fail
  go_ret
  exact ⟨rfl, hfin, hcell⟩
end Go.Proofs.YticbdcpdooahjaaDoor
