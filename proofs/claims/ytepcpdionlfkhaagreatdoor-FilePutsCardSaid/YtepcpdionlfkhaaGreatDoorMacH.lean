/- The abstract machine (FlA, FlB, FlC, FlE, FlF, FlG). -/
import Derived.Test.YtepcpdionlfkhaaGreatDoorErM
import Derived.Defers
import Derived.Recover
import Derived.RegionTactic
import Derived.ChangeAlike
import Derived.Deep.QuietTactic
import Derived.BigQuiet
import Derived.Deep.RegionWith
import Derived.Test.YtepcpdionlfkhaaGreatDoorMem
import Derived.Test.YtepcpdionlfkhaaGreatDoorApi
import Derived.Test.YtepcpdionlfkhaaGreatDoorMacD
import Derived.Shelf.RegionOpenPlain
import Derived.Lib.Strings
import Derived.Lib.Walk
import Derived.Lib.Builder
import Derived.Lib.UnsafeStr
import Derived.WalkKit
import Derived.Laws.Externs
namespace Go.Proofs.YtepcpdionlfkhaaGreatDoor
open Go.RowKit Go.Extern.Stop Go.Stop Go.Extern
set_option maxRecDepth 100000
set_option linter.unusedVariables false
set_option linter.unusedSimpArgs false
theorem unwF (a : Addr) (n : Int) (w : World) (hc : w.cell? ⟨a.block, a.off + 2, none⟩ = some (.int .i64 n)) (ha : a.spot = none) :
    Calls Tryz.prog 94 #[.pointer (some a)] w fun e w' => e = .returned (.iface 41 (.int .i64 n)) ∧ w = w' := by
  obtain ⟨b, o, sp⟩ := a
  cases ha
  go_enter Tryz.func94, Tryz.ntmps94
  go_wp2_with fail
  go_ret
  exact ⟨rfl, rfl⟩
theorem taUF (a : Addr) (w : World) : (Instr.typeAssert (.iface 95 (.pointer (some a))) 53 216 true).run Tryz.prog w = .ok (.tuple #[.iface 95 (.pointer (some a)), .bool true]) w :=
  run_typeAssert_hasB Tryz.underlying216 (by kernel_rfl) _ _ w
theorem taAF (a : Addr) (w : World) : (Instr.typeAssert (.iface 95 (.pointer (some a))) 53 224 true).run Tryz.prog w = .ok (.tuple #[.nilIface, .bool false]) w :=
  run_typeAssert_lacksB Tryz.underlying224 (by kernel_rfl) (by kernel_rfl) _ _ w
abbrev walkC (e : Value) (p : Addr) : Obj := .cells #[e, .pointer (some p)] 254
theorem follow_errno (n L : Int) (p : Addr) (w : World) (hp : w.cell? p = some (.int .i64 L)) (hz : w.frozen? p = false) (hL : 0 < L ∧ L ≤ 1048576) :
    Calls Tryz.prog 146 #[.iface 41 (.int .i64 n), .pointer (some p)] w fun e w' => e = .returned (.iface 254 (.agg #[.iface 41 (.int .i64 n), .pointer (some p)])) ∧ w' = (w.setCell p (.int .i64 (L - 1))).alloc (walkC (.iface 41 (.int .i64 n)) p) := by
  have t1 := taUE
  have t2 := taVE
  have hL0 : (L == 0) = false := by simp; omega
  have hw : IntKind.i64.wrap (L - 1) = L - 1 := IntWalk.i64_in _ (by omega)
  go_enter Tryz.func146, Tryz.ntmps146
  go_wp2_with fail
  go_ret
  exact ⟨rfl, rfl⟩
theorem mfM (f : Fn) (first cap : Array Value) (w : World) : (Instr.makeFunc f first cap).run Tryz.prog w = .ok (.func f first cap) w := rfl
abbrev chainV (a p : Addr) : Value := .iface 256 (.agg #[.iface 95 (.pointer (some a)), .pointer (some p), .func (.method "Unwrap") #[.iface 95 (.pointer (some a))] #[]])
theorem follow_fault (a p : Addr) (L : Int) (w : World) (hp : w.cell? p = some (.int .i64 L)) (hz : w.frozen? p = false) (hL : 0 < L ∧ L ≤ 1048576) :
    Calls Tryz.prog 146 #[.iface 95 (.pointer (some a)), .pointer (some p)] w fun e w' => e = .returned (chainV a p) ∧ ∃ nq, w' = ((w.setCell p (.int .i64 (L - 1))).alloc (walkC (.iface 95 (.pointer (some a))) p)).drewN nq := by
  have t1 := taUF
  have hmf := mfM
  have hL0 : (L == 0) = false := by simp; omega
  have hw : IntKind.i64.wrap (L - 1) = L - 1 := IntWalk.i64_in _ (by omega)
  go_enter Tryz.func146, Tryz.ntmps146
  go_wp2_with fail
  go_quiet (fail)
  go_wp2_with fail
  go_ret
  exact ⟨rfl, nq, rfl⟩
theorem taEF (a : Addr) (w : World) : (Instr.typeAssert (.iface 95 (.pointer (some a))) 53 41 true).run Tryz.prog w = .ok (.tuple #[.int .i64 0, .bool false]) w := by kernel_rfl
theorem taEE (n : Int) (w : World) : (Instr.typeAssert (.iface 41 (.int .i64 n)) 53 41 true).run Tryz.prog w = .ok (.tuple #[.int .i64 n, .bool true]) w := by kernel_rfl
theorem taPE (a : Addr) (w : World) : (Instr.typeAssert (.iface 124 (.pointer (some a))) 20 124 true).run Tryz.prog w = .ok (.tuple #[.pointer (some a), .bool true]) w := by kernel_rfl
theorem walkAs_no (a p tb : Addr) (w : World) : Calls Tryz.prog 245 #[.agg #[.iface 95 (.pointer (some a)), .pointer (some p)], .iface 124 (.pointer (some tb))] w
    fun e w' => e = .returned (.bool false) ∧ w' = w.alloc (walkC (.iface 95 (.pointer (some a))) p) := by
  have t1 := taEF
  have t2 := taAF
  go_enter Tryz.func245, Tryz.ntmps245
  go_wp2_with fail
  go_ret
  exact ⟨rfl, rfl⟩
theorem walkAs_yes (n : Int) (p : Addr) (tb : Nat) (old : Value) (w : World) (ht : w.cell? ⟨tb, 0, none⟩ = some old) (hf : w.frozen? ⟨tb, 0, none⟩ = false) (htl : tb < w.heap.size) :
    Calls Tryz.prog 245 #[.agg #[.iface 41 (.int .i64 n), .pointer (some p)], .iface 124 (.pointer (some ⟨tb, 0, none⟩))] w
    fun e w' => e = .returned (.bool true) ∧ w' = (w.setCell ⟨tb, 0, none⟩ (.int .i64 n)).alloc (walkC (.iface 41 (.int .i64 n)) p) := by
  have t1 := taEE
  have t2 := taPE
  have hb0 := (Below.refl w.heap.size w).alloc (Nat.le_refl _) (walkC (.iface 41 (.int .i64 n)) p)
  have h1 := (hb0.cell (p := ⟨tb, 0, none⟩) htl).trans ht
  have h2 := (hb0.frozen (p := ⟨tb, 0, none⟩) htl).trans hf
  go_enter Tryz.func245, Tryz.ntmps245
  go_wp2_with fail
  go_ret
  exact ⟨rfl, rfl⟩
theorem mUF (a : Addr) (w : World) : (Go.method 419 95 (.pointer (some a)) "Unwrap").run Tryz.prog w = .ok (94, .pointer (some a)) w := by kernel_rfl
theorem grown_drew {w w1 : World} {r : Option Nat} (g : w.grownBy w1 r) : w.grownBy w1.drew r := ⟨g.os, g.tape, g.output, g.size, g.block⟩
theorem chainUnwrap (b o pb : Nat) (n L : Int) (w : World) (hc : w.cell? ⟨b, o + 2, none⟩ = some (.int .i64 n)) (hp : w.cell? ⟨pb, 0, none⟩ = some (.int .i64 L)) (hz : w.frozen? ⟨pb, 0, none⟩ = false) (hL : 0 < L ∧ L ≤ 1048576) (hbl : b < w.heap.size) (hpl : pb < w.heap.size) :
    Calls Tryz.prog 247 #[.agg #[.iface 95 (.pointer (some ⟨b, o, none⟩)), .pointer (some ⟨pb, 0, none⟩), .func (.method "Unwrap") #[.iface 95 (.pointer (some ⟨b, o, none⟩))] #[]]] w
    fun e w' => e = .returned (.iface 254 (.agg #[.iface 41 (.int .i64 n), .pointer (some ⟨pb, 0, none⟩)])) ∧ w.grownBy w' (some pb) := by
  have m1 := mUF
  obtain ⟨X, hX0⟩ : ∃ X, X = Obj.cells #[.iface 95 (.pointer (some ⟨b, o, none⟩)), .pointer (some ⟨pb, 0, none⟩), .func (.method "Unwrap") #[.iface 95 (.pointer (some ⟨b, o, none⟩))] #[]] 256 := ⟨_, rfl⟩
  have hb0 := (Below.refl w.heap.size w).alloc (Nat.le_refl _) X
  have c1 := (hb0.cell (p := ⟨b, o + 2, none⟩) hbl).trans hc
  have c2 := (hb0.cell (p := ⟨pb, 0, none⟩) hpl).trans hp
  have c3 := (hb0.frozen (p := ⟨pb, 0, none⟩) hpl).trans hz
  have c1 : (w.alloc X).drew.cell? ⟨b, o + 2, none⟩ = some (.int .i64 n) := c1
  have c2 : (w.alloc X).drew.cell? ⟨pb, 0, none⟩ = some (.int .i64 L) := c2
  have c3 : (w.alloc X).drew.frozen? ⟨pb, 0, none⟩ = false := c3
  subst hX0
  go_enter Tryz.func247, Tryz.ntmps247
  go_wp2_with fail
  go_region_with (first | (go_at_call 94; refine (unwF ⟨b, o, none⟩ n _ c1 rfl).mono ?_; rintro e w' ⟨rfl, rfl⟩) | (go_at_call 146; refine (follow_errno n L ⟨pb, 0, none⟩ _ c2 c3 hL).mono ?_; rintro e w' ⟨rfl, rfl⟩))
  all_goals (go_wp2_with fail)
  all_goals (go_ret; exact ⟨rfl, grown_drew (grown_set w pb (L - 1) _ _)⟩)
theorem mAC (x y z : Value) (w : World) : (Go.method 419 256 (.agg #[x, y, z]) "As").run Tryz.prog w = .ok (245, .agg #[x, y]) w := by kernel_rfl
theorem mAW (x y : Value) (w : World) : (Go.method 419 254 (.agg #[x, y]) "As").run Tryz.prog w = .ok (245, .agg #[x, y]) w := by kernel_rfl
theorem mUC (x y z : Value) (w : World) : (Go.method 419 256 (.agg #[x, y, z]) "Unwrap").run Tryz.prog w = .ok (247, .agg #[x, y, z]) w := by kernel_rfl
theorem taAC (v : Value) (w : World) : (Instr.typeAssert (.iface 256 v) 53 224 true).run Tryz.prog w = .ok (.tuple #[.iface 256 v, .bool true]) w :=
  run_typeAssert_hasB Tryz.underlying224 (by kernel_rfl) _ _ w
theorem taUC (v : Value) (w : World) : (Instr.typeAssert (.iface 256 v) 53 216 true).run Tryz.prog w = .ok (.tuple #[.iface 256 v, .bool true]) w :=
  run_typeAssert_hasB Tryz.underlying216 (by kernel_rfl) _ _ w
theorem taAW (v : Value) (w : World) : (Instr.typeAssert (.iface 254 v) 53 224 true).run Tryz.prog w = .ok (.tuple #[.iface 254 v, .bool true]) w :=
  run_typeAssert_hasB Tryz.underlying224 (by kernel_rfl) _ _ w
theorem tofC (v : Value) (w : World) : (ReflectliteType.typeOf #[.iface 256 v]).run Tryz.prog w = .ok (.iface 211 (.agg #[.pointer (some ⟨4, 256, none⟩)])) w := by kernel_rfl
theorem tofW (v : Value) (w : World) : (ReflectliteType.typeOf #[.iface 254 v]).run Tryz.prog w = .ok (.iface 211 (.agg #[.pointer (some ⟨4, 254, none⟩)])) w := by kernel_rfl
theorem asgC (w : World) : (ReflectliteType.relation "AssignableTo" ReflectliteType.assignableTo #[.agg #[.pointer (some ⟨4, 256, none⟩)], .iface 211 (.agg #[.pointer (some ⟨4, 41, none⟩)])]).run Tryz.prog w = .ok (.bool false) w := by kernel_rfl
theorem asgW (w : World) : (ReflectliteType.relation "AssignableTo" ReflectliteType.assignableTo #[.agg #[.pointer (some ⟨4, 254, none⟩)], .iface 211 (.agg #[.pointer (some ⟨4, 41, none⟩)])]).run Tryz.prog w = .ok (.bool false) w := by kernel_rfl
end Go.Proofs.YtepcpdionlfkhaaGreatDoor
namespace Go.Proofs.YtepcpdionlfkhaaGreatDoor
open Go.RowKit Go.Extern.Stop Go.Stop Go.Extern
set_option maxRecDepth 100000
set_option linter.unusedVariables false
set_option linter.unusedSimpArgs false
/-- All but two blocks are as they were. -/
structure grown2 (w w' : World) (p q : Nat) : Prop where
  os : w'.os = w.os
  tape : w'.tape = w.tape
  output : w'.output = w.output
  size : w.heap.size ≤ w'.heap.size
  block : ∀ k, k < w.heap.size → k ≠ p → k ≠ q → w'.heap[k]? = w.heap[k]?
set_option maxHeartbeats 8000000 in
theorem as_chain (b o pb tb : Nat) (n L : Int) (old : Value) (vb : Addr) (w : World) (hc : w.cell? ⟨b, o + 2, none⟩ = some (.int .i64 n)) (hbl : b < w.heap.size) (hp : w.cell? ⟨pb, 0, none⟩ = some (.int .i64 L)) (hz : w.frozen? ⟨pb, 0, none⟩ = false) (hL : 0 < L ∧ L ≤ 1048576) (hpl : pb < w.heap.size)
    (ht : w.cell? ⟨tb, 0, none⟩ = some old) (hf : w.frozen? ⟨tb, 0, none⟩ = false) (htl : tb < w.heap.size) (hpt : tb ≠ pb) :
    Calls Tryz.prog 92 #[chainV ⟨b, o, none⟩ ⟨pb, 0, none⟩, .iface 124 (.pointer (some ⟨tb, 0, none⟩)), .agg #[.pointer (some ⟨4, 124, none⟩), .pointer (some vb), .int .u64 150], .iface 211 (.agg #[.pointer (some ⟨4, 41, none⟩)])] w
      fun e w' => e = .returned (.bool true) ∧ grown2 w w' tb pb ∧ w'.cell? ⟨tb, 0, none⟩ = some (.int .i64 n) := by
  have h52 := @run_callFunc_extern Tryz.prog 82 _ ReflectliteType.typeOf Tryz.func82 (by kernel_rfl) (by kernel_rfl) (by kernel_rfl) (by kernel_rfl)
  have h79 := @run_callFunc_extern Tryz.prog 235 _ (ReflectliteType.relation "AssignableTo" ReflectliteType.assignableTo) Tryz.func235 (by kernel_rfl) (by kernel_rfl) (by kernel_rfl) (by kernel_rfl)
  have mA := methodAssignableTo
  have t1 := taAC
  have t2 := taUC
  have t3 := taAW
  have t4 := tofC
  have t5 := tofW
  have t6 := asgC
  have t7 := asgW
  have m1 := mAC
  have m2 := mAW
  have m3 := mUC
  go_enter Tryz.func92, Tryz.ntmps92
  go_wp2_with fail
  refine wp_loop_rounds 2 ?_
  rw [rounds_succ]
  go_wp2_with fail
  have hb0 := (Below.refl w.heap.size w).alloc (Nat.le_refl _) (.cells #[.pointer (some ⟨4, 124, none⟩), .pointer (some vb), .int .u64 150] 143)
  have hb1 := hb0.alloc (by simp) (walkC (.iface 95 (.pointer (some ⟨b, o, none⟩))) ⟨pb, 0, none⟩)
  refine (walkAs_no ⟨b, o, none⟩ ⟨pb, 0, none⟩ ⟨tb, 0, none⟩ _).mono ?_
  rintro e w1 ⟨rfl, rfl⟩
  go_wp2_with fail
  refine (chainUnwrap b o pb n L _ ((hb1.cell (p := ⟨b, o + 2, none⟩) hbl).trans hc) ((hb1.cell (p := ⟨pb, 0, none⟩) hpl).trans hp) ((hb1.frozen (p := ⟨pb, 0, none⟩) hpl).trans hz) hL (by have := hb1.size; omega) (by have := hb1.size; omega)).mono ?_
  rintro e w2 ⟨rfl, hg⟩
  go_wp2_with fail
  rw [rounds_succ]
  go_wp2_with fail
  have hsz := hb1.size
  have hblk := hg.block tb (by omega) (by simpa using hpt)
  have ht2 : w2.cell? ⟨tb, 0, none⟩ = some old := ((World.cell?_of_block (a := ⟨tb, 0, none⟩) hblk).trans (hb1.cell (p := ⟨tb, 0, none⟩) htl)).trans ht
  have hf2 : w2.frozen? ⟨tb, 0, none⟩ = false := ((World.frozen?_of_block (a := ⟨tb, 0, none⟩) hblk).trans (hb1.frozen (p := ⟨tb, 0, none⟩) htl)).trans hf
  have hsz2 := hg.size
  refine (walkAs_yes n ⟨pb, 0, none⟩ tb old _ ht2 hf2 (by omega)).mono ?_
  rintro e w3 ⟨rfl, rfl⟩
  go_wp2_with fail
  go_ret
  refine ⟨rfl, ⟨?_, ?_, ?_, ?_, ?_⟩, ?_⟩
  · show w2.os = w.os; rw [hg.os, hb1.os]
  · show w2.tape = w.tape; rw [hg.tape, hb1.tape]
  · show w2.output = w.output; rw [hg.output, hb1.output]
  · simp [World.setCell]; omega
  · intro k hk h1 h2
    have hz2 : (w2.setCell ⟨tb, 0, none⟩ (.int .i64 n)).heap.size = w2.heap.size := by simp [World.setCell]
    rw [Below.heap_alloc _ _ _ (by omega), Below.heap_setCell _ _ _ _ (fun e => h1 (by rw [e])), hg.block k (by omega) (by simpa using h2)]
    exact hb1.block k hk
  · have hz2 : (w2.setCell ⟨tb, 0, none⟩ (.int .i64 n)).heap.size = w2.heap.size := by simp [World.setCell]
    rw [World.cell?_alloc_lt _ _ ⟨tb, 0, none⟩ (by show tb < _; omega)]
    exact World.cell?_setCell_same' _ _ _ (by rw [ht2]; rfl)
set_option maxHeartbeats 8000000 in
theorem As_chain (b o pb tb : Nat) (n L : Int) (old : Value) (w : World) (hc : w.cell? ⟨b, o + 2, none⟩ = some (.int .i64 n)) (hbl : b < w.heap.size) (hp : w.cell? ⟨pb, 0, none⟩ = some (.int .i64 L)) (hz : w.frozen? ⟨pb, 0, none⟩ = false) (hL : 0 < L ∧ L ≤ 1048576) (hpl : pb < w.heap.size)
    (hg : w.cell? ⟨0, 0, none⟩ = some (.iface 211 (.agg #[.pointer (some ⟨4, 53, none⟩)]))) (ht : w.cell? ⟨tb, 0, none⟩ = some old) (hf : w.frozen? ⟨tb, 0, none⟩ = false) (htl : tb < w.heap.size) (hpt : tb ≠ pb) :
    Calls Tryz.prog 46 #[chainV ⟨b, o, none⟩ ⟨pb, 0, none⟩, .iface 124 (.pointer (some ⟨tb, 0, none⟩))] w
      fun e w' => e = .returned (.bool true) ∧ grown2 w w' tb pb ∧ w'.cell? ⟨tb, 0, none⟩ = some (.int .i64 n) := by
  have h48 := @run_callFunc_extern Tryz.prog 89 _ (fun args => ReflectliteValue.unpack (args.getD 0 (.tuple #[]))) Tryz.func89 (by kernel_rfl) (by kernel_rfl) (by kernel_rfl) (by kernel_rfl)
  have h49 := @run_callFunc_extern Tryz.prog 90 _ (ReflectliteValue.methodAny (ReflectliteValue.valueError "reflectlite.Value.Type" 0) (fun t _ _ _ => ReflectliteType.toType t)) Tryz.func90 (by kernel_rfl) (by kernel_rfl) (by kernel_rfl) (by kernel_rfl)
  have h50 := @run_callFunc_extern Tryz.prog 91 _ (ReflectliteValue.method (ReflectliteValue.valueError "reflectlite.Value.IsNil" 0) ReflectliteValue.isNil) Tryz.func91 (by kernel_rfl) (by kernel_rfl) (by kernel_rfl) (by kernel_rfl)
  have hK := @run_callFunc_extern Tryz.prog 223 _ (ReflectliteType.abiMethod fun t => do pure (.int .u8 (← Rtype.kind t))) Tryz.func223 (by kernel_rfl) (by kernel_rfl) (by kernel_rfl) (by kernel_rfl)
  have hE := @run_callFunc_extern Tryz.prog 237 _ (ReflectliteType.method ReflectliteType.elem) Tryz.func237 (by kernel_rfl) (by kernel_rfl) (by kernel_rfl) (by kernel_rfl)
  have hI := @run_callFunc_extern Tryz.prog 238 _ (ReflectliteType.relation "Implements" ReflectliteType.implements_) Tryz.func238 (by kernel_rfl) (by kernel_rfl) (by kernel_rfl) (by kernel_rfl)
  have f6 := valueOfP
  have f7 := typeP
  have mK := methodKind
  have mE := methodElem
  have mI := methodImplements
  have k27 := kindP
  have k25 := kindE
  have e27 := elemP
  have i25 := implementsE
  have hlt : 0 < w.heap.size := World.block_lt_of_cell? w _ hg
  have hb0 := (Below.refl w.heap.size w).alloc (Nat.le_refl _) (.cells #[.pointer (some ⟨tb, 0, none⟩)] 124)
  have hb1 := hb0.alloc (by simp) (.cells #[.pointer (some ⟨4, 124, none⟩), .pointer (some ⟨w.heap.size, 0, none⟩), .int .u64 150] 143)
  have n8 := isNilP ⟨w.heap.size, 0, none⟩ ⟨tb, 0, none⟩ ((w.alloc (.cells #[.pointer (some ⟨tb, 0, none⟩)] 124)).alloc (.cells #[.pointer (some ⟨4, 124, none⟩), .pointer (some ⟨w.heap.size, 0, none⟩), .int .u64 150] 143)) (by simp)
  have hg2 := (hb1.cell (p := ⟨0, 0, none⟩) hlt).trans hg
  go_enter Tryz.func46, Tryz.ntmps46
  go_wp2_with fail
  have hs1 := hb1.size
  refine (as_chain b o pb tb n L old ⟨w.heap.size, 0, none⟩ _ ((hb1.cell (p := ⟨b, o + 2, none⟩) hbl).trans hc) (by omega) ((hb1.cell (p := ⟨pb, 0, none⟩) hpl).trans hp) ((hb1.frozen (p := ⟨pb, 0, none⟩) hpl).trans hz) hL (by omega) ((hb1.cell (p := ⟨tb, 0, none⟩) htl).trans ht) ((hb1.frozen (p := ⟨tb, 0, none⟩) htl).trans hf) (by omega) hpt).mono ?_
  rintro e w' ⟨rfl, hgr, hcell⟩
  have hfin : grown2 w w' tb pb := ⟨hgr.os, hgr.tape, hgr.output, by have := hgr.size; omega, fun k hk h1 h2 => (hgr.block k (by omega) h1 h2).trans (hb1.block k hk)⟩
  go_wp2_with fail
  go_ret
  exact ⟨rfl, hfin, hcell⟩
end Go.Proofs.YtepcpdionlfkhaaGreatDoor
namespace Go.Proofs.YtepcpdionlfkhaaGreatDoor
open Go.RowKit Go.Extern.Stop Go.Stop Go.Extern
set_option maxRecDepth 100000
set_option linter.unusedVariables false
set_option linter.unusedSimpArgs false
theorem catch_idle (p : Addr) (w : World) : CallsD Tryz.prog 145 #[.pointer (some p)] .returning w fun e u' w' => e = .returned (.tuple #[]) ∧ u' = .returning ∧ w' = w := by
  refine callsD_of_wpS Tryz.func145 rfl fun c₀ cs hu => ?_
  apply wpS_seq
  apply wpS_region
  simp [wpOpsS, go_sem, recoverD, hu, Tryz.ntmps145, Exit.thenS]
  refine wpS_cond (t := false) (by simp [Act.eval, Array.replicate]) ?_
  simp only [Bool.false_eq_true, if_false]
  refine wpS_of_wp (wp_skip ?_)
  cases c₀
  simp_all [bodyPostS, results, Tryz.results145]
set_option maxHeartbeats 8000000 in
theorem wrapped_fault (b o : Nat) (n : Int) (w : World) (hc : w.cell? ⟨b, o + 2, none⟩ = some (.int .i64 n)) (hbl : b < w.heap.size) (hg : w.cell? ⟨0, 0, none⟩ = some (.iface 211 (.agg #[.pointer (some ⟨4, 53, none⟩)]))) :
    Calls Tryz.prog 84 #[.iface 95 (.pointer (some ⟨b, o, none⟩))] w fun e w' => e = .returned (.int .i64 n) ∧ Below w.heap.size w w' := by
  have hmf := mfM
  go_enter_defers Tryz.func84, Tryz.ntmps84
  go_wp2_with fail
  have lI : LiesAt (((w.alloc (.cells #[.int .i64 0] 41)).alloc (.cells #[.int .i64 1048576] 3)).alloc (.cells #[.int .i64 0] 41)) (w.heap.size + 1) #[.int .i64 1048576] 3 := by
    have := (LiesAt.new (w.alloc (.cells #[.int .i64 0] 41)) #[.int .i64 1048576] 3).alloc (.cells #[.int .i64 0] 41)
    simpa using this
  refine (follow_fault ⟨b, o, none⟩ ⟨w.heap.size + 1, 0, none⟩ 1048576 _ (lI.cell 0) (lI.frozen 0) (by omega)).mono ?_
  rintro e w1 ⟨rfl, nq, rfl⟩
  go_wp2_with fail
  obtain ⟨K, hK⟩ : ∃ K, K = walkC (.iface 95 (.pointer (some ⟨b, o, none⟩))) ⟨w.heap.size + 1, 0, none⟩ := ⟨_, rfl⟩
  rw [← hK]
  have b1 := (Below.refl w.heap.size w).alloc (Nat.le_refl _) (.cells #[.int .i64 0] 41)
  have b2 := b1.alloc (by simp) (.cells #[.int .i64 1048575] 3)
  have b3 := b2.alloc (by simp; omega) (.cells #[.int .i64 0] 41)
  have b4 := (b3.alloc (by simp; omega) K).drewN nq
  have z4 : (((((w.alloc (.cells #[.int .i64 0] 41)).alloc (.cells #[.int .i64 1048575] 3)).alloc (.cells #[.int .i64 0] 41)).alloc K).drewN nq).heap.size = w.heap.size + 4 := by simp
  have l0 : LiesAt (((((w.alloc (.cells #[.int .i64 0] 41)).alloc (.cells #[.int .i64 1048575] 3)).alloc (.cells #[.int .i64 0] 41)).alloc K).drewN nq) w.heap.size #[.int .i64 0] 41 :=
    (((LiesAt.new w #[.int .i64 0] 41).alloc (.cells #[.int .i64 1048575] 3)).alloc (.cells #[.int .i64 0] 41)).alloc K
  have l1 : LiesAt (((((w.alloc (.cells #[.int .i64 0] 41)).alloc (.cells #[.int .i64 1048575] 3)).alloc (.cells #[.int .i64 0] 41)).alloc K).drewN nq) (w.heap.size + 1) #[.int .i64 1048575] 3 := by
    have := ((LiesAt.new (w.alloc (.cells #[.int .i64 0] 41)) #[.int .i64 1048575] 3).alloc (.cells #[.int .i64 0] 41)).alloc K
    rw [show (w.alloc (.cells #[.int .i64 0] 41)).heap.size = w.heap.size + 1 by simp] at this
    exact this
  have l2 : LiesAt (((((w.alloc (.cells #[.int .i64 0] 41)).alloc (.cells #[.int .i64 1048575] 3)).alloc (.cells #[.int .i64 0] 41)).alloc K).drewN nq) (w.heap.size + 1 + 1) #[.int .i64 0] 41 := by
    have := (LiesAt.new ((w.alloc (.cells #[.int .i64 0] 41)).alloc (.cells #[.int .i64 1048575] 3)) #[.int .i64 0] 41).alloc K
    rw [show ((w.alloc (.cells #[.int .i64 0] 41)).alloc (.cells #[.int .i64 1048575] 3)).heap.size = w.heap.size + 1 + 1 by simp] at this
    exact this
  have hlt : 0 < w.heap.size := World.block_lt_of_cell? w _ hg
  have hc4 := (b4.cell (p := ⟨b, o + 2, none⟩) hbl).trans hc
  have hg4 := (b4.cell (p := ⟨0, 0, none⟩) hlt).trans hg
  generalize (((((w.alloc (.cells #[.int .i64 0] 41)).alloc (.cells #[.int .i64 1048575] 3)).alloc (.cells #[.int .i64 0] 41)).alloc K).drewN nq) = w4 at *
  refine (As_chain b o (w.heap.size + 1) (w.heap.size + 1 + 1) n 1048575 (.int .i64 0) w4 hc4 (by omega) (l1.cell 0) (l1.frozen 0) (by omega) (by omega) hg4 (l2.cell 0) (l2.frozen 0) (by omega) (by omega)).mono ?_
  rintro e w5 ⟨rfl, hgr, hcell⟩
  have l5 : LiesAt w5 w.heap.size #[.int .i64 0] 41 := (hgr.block w.heap.size (by omega) (by omega) (by omega)).trans l0
  have q2 := l5.cell 0
  have q3 := l5.frozen 0
  have b5 : Below w.heap.size w w5 := ⟨hgr.os.trans b4.os, hgr.tape.trans b4.tape, hgr.output.trans b4.output, by have := hgr.size; omega, fun k hk => (hgr.block k (by omega) (by omega) (by omega)).trans (b4.block k hk)⟩
  go_wp2_with fail
  refine leaves_cons (f := 145) (args := #[.pointer (some ⟨w.heap.size, 0, none⟩)]) (by simp) (by simp [go_sem]) ?_
  refine (catch_idle ⟨w.heap.size, 0, none⟩ _).mono ?_
  rintro e u' w'' ⟨rfl, rfl, rfl⟩
  have q4 : (w5.setCell ⟨w.heap.size, 0, none⟩ (.int .i64 n)).cell? ⟨w.heap.size, 0, none⟩ = some (.int .i64 n) := World.cell?_setCell_same' _ _ _ (by rw [q2]; rfl)
  have b6 := b5.setCell (p := ⟨w.heap.size, 0, none⟩) (Nat.le_refl _) (.int .i64 n)
  simp [Leaves, settle, results, Tryz.results84, go_sem, q4]
  exact b6
theorem codeFault (b o : Nat) (n : Int) (w : World) (hc : w.cell? ⟨b, o + 2, none⟩ = some (.int .i64 n)) (hbl : b < w.heap.size) (hg : w.cell? ⟨0, 0, none⟩ = some (.iface 211 (.agg #[.pointer (some ⟨4, 53, none⟩)]))) :
    Calls Tryz.prog 43 #[.iface 95 (.pointer (some ⟨b, o, none⟩))] w fun e w' => e = .returned (.int .i64 n) ∧ Below w.heap.size w w' := by
  go_enter Tryz.func43, Tryz.ntmps43
  go_wp2_with fail
  refine (wrapped_fault b o n w hc hbl hg).mono ?_
  rintro e w' ⟨rfl, hb⟩
  go_wp2_with fail
  go_ret
  exact ⟨rfl, hb⟩
theorem codeNilF (w : World) : Calls Tryz.prog 43 #[.nilIface] w fun e w' => e = .returned (.int .i64 0) ∧ Below w.heap.size w w' := by
  go_enter Tryz.func43, Tryz.ntmps43
  go_wp2_with fail
  go_ret
  exact ⟨rfl, Below.refl _ _⟩
abbrev faultD (op : Int) (nm : List UInt8) (n : Int) : D := .iface 95 (.ptr [i8 op, str nm, int n] 0)
theorem fault_inv {K : Know} {op n : Int} {nm : List UInt8} {v : Value} (h : Rep K (faultD op nm n) v) : ∃ b o, v = .iface 95 (.pointer (some ⟨b, o, none⟩)) ∧ K b (o + 2) = some (.int .i64 n) := by
  cases h with
  | iface h =>
    cases h with
    | ptr hl hv h1 hk =>
      rename_i vs b o
      match vs, hl with
      | [u0, u1, u2], _ =>
        have h2 := hv 2 (int n) u2 rfl rfl
        cases h2
        exact ⟨b, o + 0, rfl, by simpa using hk 2 _ rfl⟩
theorem code_nil_file : Fun Tryz.prog 43 [.val .nilIface] (int 0) := code_nil_of (by kernel_rfl) codeNilF
theorem code_fault (op n : Int) (nm : List UInt8) : Fun Tryz.prog 43 [faultD op nm n] (int n) := by
  refine ⟨by kernel_rfl, fun K w vs hB hk hL => ?_⟩
  obtain ⟨v, rfl, hv⟩ := one_arg hL
  obtain ⟨b, o, rfl, hkk⟩ := fault_inv hv
  have hc := hk _ _ _ hkk
  refine (codeFault b o n w hc (World.block_lt_of_cell? w _ hc) (glob_of hB hk)).mono ?_
  rintro e w' ⟨rfl, hb⟩
  exact ⟨_, K, rfl, Ext.refl _ _, kw_below hk hb, Rep.val _, hb⟩
set_option maxHeartbeats 8000000 in
theorem isF_walk (b o : Nat) (n m : Int) (w : World) (hc : w.cell? ⟨b, o + 2, none⟩ = some (.int .i64 n)) :
    Calls Tryz.prog 83 #[.iface 95 (.pointer (some ⟨b, o, none⟩)), .iface 41 (.int .i64 m), .bool true] w fun e w' => e = .returned (.bool (n == m)) ∧ w = w' := by
  have e1 := @eqlTE 95 (by decide)
  have e2 := eqlEE
  have t1 : ∀ (a : Addr) (w : World), (Instr.typeAssert (.iface 95 (.pointer (some a))) 53 213 true).run Tryz.prog w = .ok (.tuple #[.nilIface, .bool false]) w := fun a w => run_typeAssert_lacksB Tryz.underlying213 (by kernel_rfl) (by kernel_rfl) _ _ w
  have t2 := taUF
  have t3 := mUF
  have t4 := taIE
  have t5 := taUE
  have t6 := taVE
  go_enter Tryz.func83, Tryz.ntmps83
  go_wp2_with fail
  refine wp_loop_rounds 2 ?_
  rw [rounds_succ]
  go_wp2_with fail
  refine (unwF ⟨b, o, none⟩ n _ hc rfl).mono ?_
  rintro e w1 ⟨rfl, rfl⟩
  go_wp2_with fail
  rw [rounds_succ]
  have e3 := fun w => eqlEE n m w
  clear e2
  cases hnm : (n == m) <;> rw [hnm] at e3
  · go_wp2_with fail
    go_ret
    exact ⟨by rw [hnm]; rfl, rfl⟩
  · go_wp2_with fail
    go_ret
    exact ⟨by rw [hnm]; rfl, rfl⟩
set_option maxHeartbeats 8000000 in
theorem isF (b o : Nat) (n m : Int) (w : World) (hc : w.cell? ⟨b, o + 2, none⟩ = some (.int .i64 n)) :
    Calls Tryz.prog 42 #[.iface 95 (.pointer (some ⟨b, o, none⟩)), .iface 41 (.int .i64 m)] w fun e w' => e = .returned (.bool (n == m)) ∧ w = w' := by
  have h52 := @run_callFunc_extern Tryz.prog 82 _ ReflectliteType.typeOf Tryz.func82 (by kernel_rfl) (by kernel_rfl) (by kernel_rfl) (by kernel_rfl)
  have h53 := @run_callFunc_extern Tryz.prog 236 _ (ReflectliteType.method (fun t => do Rtype.noPackHeld "Comparable" t; pure (.bool (← typeInfo t).comparable))) Tryz.func236 (by kernel_rfl) (by kernel_rfl) (by kernel_rfl) (by kernel_rfl)
  have tE := typeOfE
  have mC := methodComparable
  have cE := comparableE
  go_enter Tryz.func42, Tryz.ntmps42
  go_wp2_with fail
  refine (isF_walk b o n m w hc).mono ?_
  rintro e w' ⟨rfl, rfl⟩
  go_wp2_with fail
  go_ret
  exact ⟨rfl, rfl⟩
theorem is_fault (op n m : Int) (nm : List UInt8) : Fun Tryz.prog 42 [faultD op nm n, .iface 41 (int m)] (boo (n == m)) := by
  refine ⟨by kernel_rfl, fun K w vs hB hk hL => ?_⟩
  obtain ⟨v, u, rfl, hv, hu⟩ := two_args hL
  obtain ⟨b, o, rfl, hkk⟩ := fault_inv hv
  cases hu with
  | iface hu =>
    cases hu
    refine (isF b o n m w (hk _ _ _ hkk)).mono ?_
    rintro e w' ⟨rfl, rfl⟩
    exact ⟨_, K, rfl, Ext.refl _ _, hk, Rep.val _, Below.refl _ _⟩
end Go.Proofs.YtepcpdionlfkhaaGreatDoor
namespace Go.Proofs.YtepcpdionlfkhaaGreatDoor
open Go.RowKit Go.Extern.Stop Go.Stop Go.Extern
set_option maxRecDepth 100000
set_option linter.unusedVariables false
set_option linter.unusedSimpArgs false
theorem bld_size : (Tryz.prog.info? 156).map (·.size) = some 2 := by kernel_rfl
theorem bld_lies : liesAt Tryz.prog Tryz.prog.depth 156 (2 / Tryz.prog.cellsOf 156) 0 156 1 = true := by kernel_rfl
theorem cc_used (b : Nat) (w : World) (h0 : w.cell? ⟨b, 0, none⟩ = some (.pointer (some ⟨b, 0, none⟩))) :
    Calls Tryz.prog 153 #[.pointer (some ⟨b, 0, none⟩)] w fun e w' => e = .returned (.tuple #[]) ∧ w = w' := by
  obtain ⟨j, hj, _⟩ := Option.map_eq_some_iff.1 bld_size
  have e1 := Lib.run_neq_ptr_same (P := Tryz.prog) w ⟨b, 0, none⟩ Tryz.underlying153 hj
  go_enter Tryz.func153, Tryz.ntmps153
  go_wp2_with fail
  go_end0
  exact ⟨rfl, rfl⟩
theorem cc_fresh (b : Nat) (w : World) (h0 : w.cell? ⟨b, 0, none⟩ = some (.pointer none)) (hsh : w.shape? b = some (156, 2)) (hfz : w.frozen? ⟨b, 0, none⟩ = false) :
    Calls Tryz.prog 153 #[.pointer (some ⟨b, 0, none⟩)] w fun e w' => e = .returned (.tuple #[]) ∧ w' = w.setCell ⟨b, 0, none⟩ (.pointer (some ⟨b, 0, none⟩)) := by
  obtain ⟨j, hj, hjs⟩ := Option.map_eq_some_iff.1 bld_size
  have e1 := Lib.run_to_unsafe (P := Tryz.prog) w ⟨b, 0, none⟩ Tryz.underlying153 Tryz.underlying140 hj (by rw [hjs]; decide) hsh (Nat.zero_lt_succ 1)
  have e2 := Lib.run_from_unsafe (P := Tryz.prog) w ⟨b, 0, none⟩ Tryz.underlying140 Tryz.underlying153 hj hsh bld_lies
  have e3 := @run_callFunc_extern Tryz.prog 184 _ Extern.AbiNoEscape.same Tryz.func184 (by kernel_rfl) (by kernel_rfl) (by kernel_rfl) (by kernel_rfl)
  have e4 := fun x w => Lib.run_noEscape (P := Tryz.prog) w x
  go_enter Tryz.func153, Tryz.ntmps153
  go_wp2_with fail
  go_end0
  exact ⟨rfl, rfl⟩
set_option maxHeartbeats 2000000 in
theorem str_nil (b : Nat) (w : World) (hbk : w.cell? ⟨b, 1, none⟩ = some (.slice none 0 0)) :
    Calls Tryz.prog 97 #[.pointer (some ⟨b, 0, none⟩)] w fun e w' => e = .returned (.string ⟨#[]⟩) ∧ w' = w.drew := by
  have hUS := fun W q => Lib.run_unsafeString_none (P := Tryz.prog) W 228 3 9 q
  have c1 : w.drew.cell? ⟨b, 1, none⟩ = some (.slice none 0 0) := hbk
  have hSD : (Builtin.unsafeSliceData_ #[154] 228 #[.slice none 0 0]).run Tryz.prog w.drew = .ok (.pointer none) w.drew := rfl
  have mixed := mixed
  go_enter Tryz.func97, Tryz.ntmps97
  go_wp2_with fail
  go_region_o
  all_goals (go_wp2_with fail; go_ret; exact ⟨rfl, rfl⟩)
set_option maxHeartbeats 2000000 in
theorem str_row (b g cap : Nat) (cur : Array Value) (l : List UInt8) (w : World) (h0 : l ≠ []) (hbk : w.cell? ⟨b, 1, none⟩ = some (.slice (some ⟨g, 0, none⟩) l.length cap)) (hg : w.heap[g]? = some (.cells cur 5 (0, 0)))
    (hlc : l.length ≤ cap) (hcs : l.length ≤ cur.size) (hsm : l.length ≤ 1000000000000) (hcells : ∀ (j : Nat) (x : UInt8), l[j]? = some x → cur[j]? = some (.int .u8 x.toNat)) :
    Calls Tryz.prog 97 #[.pointer (some ⟨b, 0, none⟩)] w fun e w' => e = .returned (.string ⟨l.toArray⟩) ∧ w' = w.drew.freeze ⟨g, 0, none⟩ l.length := by
  have hl0 : l.length ≠ 0 := by simpa using h0
  have c1 : w.drew.cell? ⟨b, 1, none⟩ = some (.slice (some ⟨g, 0, none⟩) l.length cap) := hbk
  have hSD : (Builtin.unsafeSliceData_ #[154] 228 #[.slice (some ⟨g, 0, none⟩) l.length cap]).run Tryz.prog w.drew = .ok (.pointer (some ⟨g, 0, none⟩)) w.drew :=
    Lib.run_unsafeSliceData_row _ _ _ _ _ _ (by omega)
  have hUS : (Builtin.unsafeString_ #[228, 3] 9 #[.pointer (some ⟨g, 0, none⟩), .int .i64 l.length]).run Tryz.prog w.drew = .ok (.string ⟨l.toArray⟩) (w.drew.freeze ⟨g, 0, none⟩ l.length) := by
    have hg' : w.drew.heap[g]? = some (.cells cur 5 (0, 0)) := hg
    refine Lib.run_unsafeString_row w.drew 228 3 9 5 Tryz.underlying228 (by kernel_rfl) g cur.size (by simp [World.shape?, hg']) l h0 hcs (by omega) ?_
    intro j x hx
    rw [Addr.add_lit, Nat.zero_add, Lib.cell_of_heap hg']; exact hcells j x hx
  have mixed := mixed
  go_enter Tryz.func97, Tryz.ntmps97
  go_wp2_with fail
  go_region_o
  all_goals (go_wp2_with fail; go_ret; exact ⟨rfl, rfl⟩)
end Go.Proofs.YtepcpdionlfkhaaGreatDoor
namespace Go.Proofs.YtepcpdionlfkhaaGreatDoor
open Go Go.RowKit
set_option maxHeartbeats 8000000
set_option maxRecDepth 100000
set_option linter.unusedVariables false
set_option linter.unusedSimpArgs false
abbrev bldO (x v : Value) : Obj := .cells #[x, v] 156 (0, 0)
/-- A builder behind n writes. -/
def bldH (id τ : Nat) : Nat → HE
  | 0 => .ob [.mt τ 0] (fun vs o => vs = [.slice none 0 0] ∧ o = bldO (.pointer none) (.slice none 0 0))
  | n + 1 => .cells [.own id 0, .mt τ (n + 1)]
theorem putObj_cell {w : World} {b : Nat} {x v : Value} (h : w.heap[b]? = some (bldO x v)) (y : Value) : w.setCell ⟨b, 0, none⟩ y = w.putObj b (bldO y v) := by
  obtain ⟨hp, tp, dr, os, ou⟩ := w
  have h : hp[b]? = some (bldO x v) := h
  have hlt := (Array.getElem?_eq_some_iff.1 h).1
  simp only [World.setCell, World.putObj, World.mk.injEq, and_true]
  apply Array.ext
  · simp
  intro i hi hi'
  by_cases hne : i = b
  · subst hne
    have h2 : hp[i] = bldO x v := (Array.getElem?_eq_some_iff.1 h).2
    simp [Array.getElem_modify, h2]
  · rw [Array.getElem_modify, if_neg (fun q => hne q.symm), Array.getElem_setIfInBounds_ne _ (fun q => hne q.symm)]
theorem cc_sem {F : Fr} {K0 : Know} {g : G} {H : Hp} {w : World} (hm : RelH F K0 g H w) {b id τ n : Nat} (hβ : g.β id = some b) (hid : H id = some (bldH id τ n))   :
    Calls Tryz.prog 153 #[.pointer (some ⟨b, 0, none⟩)] w fun e w' => ∃ v g', e = .returned v ∧ RelH F K0 g' (upd H id (some (.cells [.own id 0, .mt τ n]))) w' ∧ GLe g H g' (upd H id (some (.cells [.own id 0, .mt τ n]))) ∧ RepS g' (upd H id (some (.cells [.own id 0, .mt τ n]))) (.c .any) v := by
  cases n with
  | zero =>
    obtain ⟨b', vs0, o0, hb', hheap, ⟨_, hr0⟩, ⟨rfl, rfl⟩, hn⟩ := hm.holds id _ hid
    rw [hβ] at hb'; cases hb'
    have hmt := hr0 0 _ _ rfl rfl
    refine (cc_fresh b w (by rw [Lib.cell_of_heap hheap]; rfl) (by simp [World.shape?, hheap]) (by simp [World.frozen?, hheap])).mono ?_
    rintro e w' ⟨rfl, rfl⟩
    rw [putObj_cell hheap]
    obtain ⟨h0, l0⟩ := hm.reh (.obj (bldO (.pointer none) (.slice none 0 0))) hid rfl rfl (fun _ => ⟨b, hβ, hheap, hn⟩)
    obtain ⟨h1, l1⟩ := h0.setObj (bldO (.pointer (some ⟨b, 0, none⟩)) (.slice none 0 0)) (upd_same _ _ _) hβ
    obtain ⟨h2, l2⟩ := h1.reh (he0 := .obj (bldO (.pointer (some ⟨b, 0, none⟩)) (.slice none 0 0))) (.cells [.own id 0, .mt τ 0]) (upd_same _ _ _) rfl rfl (fun l2 => by
      obtain ⟨b2, hb2, hheap2, hn2⟩ := h1.holds id _ (upd_same _ _ _)
      rw [hβ] at hb2; cases hb2
      refine ⟨b, [.pointer (some ⟨b, 0, none⟩), .slice none 0 0], 156, hβ, hheap2, ⟨rfl, fun j x v hx hv => ?_⟩, by simp [Value.oneCell'], hn2⟩
      match j, hx, hv with
      | 0, hx, hv => cases hx; cases hv; exact ⟨b, hβ, rfl, by rw [upd_same]; rfl⟩
      | 1, hx, hv => cases hx; cases hv; exact l2 _ _ (l1 _ _ (l0 _ _ hmt)))
    simp only [upd_upd] at h2 l2 l1
    exact ⟨_, g, rfl, h2, (l0.trans l1).trans l2, trivial⟩
  | succ n =>
    obtain ⟨b', vs, t, hb', hheap, ⟨hl, hr⟩, h1, hn⟩ := hm.holds id _ hid
    rw [hβ] at hb'; cases hb'
    match vs, hl with
    | [x, v], _ =>
      obtain ⟨b2, hb2, hx, _⟩ := hr 0 (.own id 0) x rfl rfl
      rw [hβ] at hb2; cases hb2
      subst hx
      refine (cc_used b w (by simp [World.cell?, hheap])).mono ?_
      rintro e w' ⟨rfl, rfl⟩
      have hsame : upd H id (some (.cells [.own id 0, .mt τ (n + 1)])) = H := by
        funext i
        by_cases hi : i = id
        · subst hi; rw [upd_same, hid]; rfl
        · rw [upd_ne _ _ hi]
      rw [hsame]
      exact ⟨_, g, rfl, hm, GLe.refl _ _, trivial⟩
theorem freeze_other (w : World) (b n k : Nat) (h : k ≠ b) : (w.freeze ⟨b, 0, none⟩ n).heap[k]? = w.heap[k]? := by
  unfold World.freeze
  split
  · rfl
  · rw [Array.getElem?_modify, if_neg (fun q => h q.symm)]
theorem freeze_size (w : World) (b n : Nat) : (w.freeze ⟨b, 0, none⟩ n).heap.size = w.heap.size := by
  unfold World.freeze
  split
  · rfl
  · simp
theorem freeze_rest (w : World) (b n : Nat) : (w.freeze ⟨b, 0, none⟩ n).os = w.os ∧ (w.freeze ⟨b, 0, none⟩ n).tape = w.tape ∧ (w.freeze ⟨b, 0, none⟩ n).output = w.output := by
  unfold World.freeze
  split <;> exact ⟨rfl, rfl, rfl⟩
theorem str_sem {F : Fr} {K0 : Know} {g : G} {H : Hp} {w : World} (hm : RelH F K0 g H w) {b id τ n : Nat} {l : List UInt8} (hβ : g.β id = some b) (hid : H id = some (bldH id τ n)) (hτ : H τ = some (.mrow 5 1 n (byC l))) (h0 : n = 0 → l = []) (h1 : n ≠ 0 → l ≠ []) (hsm : l.length ≤ 1000000000000) :
    Calls Tryz.prog 97 #[.pointer (some ⟨b, 0, none⟩)] w fun e w' => ∃ v g', e = .returned v ∧ RelH F K0 g' (upd H τ (some (.mrow 5 1 (n + 1) []))) w' ∧ GLe g H g' (upd H τ (some (.mrow 5 1 (n + 1) []))) ∧ RepS g' (upd H τ (some (.mrow 5 1 (n + 1) []))) (vs l) v := by
  have hne : id ≠ τ := fun q => by subst q; rw [hid] at hτ; cases n <;> cases hτ
  cases n with
  | zero =>
    obtain rfl := h0 rfl
    obtain ⟨b', vs0, o0, hb', hheap, ⟨_, hr0⟩, ⟨rfl, rfl⟩, hn⟩ := hm.holds id _ hid
    rw [hβ] at hb'; cases hb'
    refine (str_nil b w (by simp [World.cell?, hheap])).mono ?_
    rintro e w' ⟨rfl, rfl⟩
    obtain ⟨h2, l2⟩ := hm.drew.mchg hτ 5 1 1 [] (by omega) none (g.cap τ) hm.drew.below hm.drew.kw (fun _ _ _ _ => rfl) (fun b hb => by cases hb) (fun i b _ _ q => by cases q) (fun b hb => by cases hb) (Nat.le_refl _) (fun _ => ⟨by decide, rfl, .inl ⟨upd_same _ _ _, rfl⟩⟩)
    exact ⟨_, _, rfl, h2, l2, Rep.val _⟩
  | succ n =>
    obtain ⟨b', vs, t, hb', hheap, ⟨hl, hr⟩, h3, hn⟩ := hm.holds id _ hid
    rw [hβ] at hb'; cases hb'
    match vs, hl with
    | [x, v], _ =>
      obtain ⟨_, e2, s2, n2, cs2, hrow2, _, hx2⟩ := hr 1 (.mt τ (n + 1)) v rfl rfl
      rw [hτ] at hrow2; cases hrow2
      obtain ⟨_, _, hcase⟩ := hm.holds τ _ hτ
      have hlne := h1 (by omega)
      rcases hcase with ⟨hb, hcs⟩ | ⟨bg, cur, us, rest, hb, hheapg, hcur, hcsz, hru, h1u, hkn⟩
      · exact absurd (by simpa using hcs) hlne
      obtain ⟨b2, hb2, hv⟩ : ∃ b2, g.β τ = some b2 ∧ v = .slice (some ⟨b2, 0, none⟩) ((byC l).length / 1) (g.cap τ) := by
        rcases hx2 rfl with h | ⟨hb2, _⟩
        · exact h
        · rw [hb] at hb2; cases hb2
      rw [hb] at hb2; cases hb2
      rw [Nat.div_one, List.length_map] at hv
      subst hv
      have hlu : us.length = l.length := by rw [← hru.1, List.length_map]
      have hcurl : cur.size = us.length + rest.length := by rw [← Array.length_toList, hcur, List.length_append]
      have hcap : l.length ≤ g.cap τ := by omega
      refine (str_row b bg (g.cap τ) cur l w hlne (by simp [World.cell?, hheap]) hheapg hcap (by omega) hsm (fun j x hx => ?_)).mono ?_
      · have hj : j < us.length := by rw [hlu]; exact (List.getElem?_eq_some_iff.1 hx).1
        have h5 := hru.2 j _ us[j] (by rw [List.getElem?_map, hx]; rfl) (List.getElem?_eq_getElem hj)
        have h6 : cur[j]? = some us[j] := by rw [← Array.getElem?_toList, hcur, List.getElem?_append_left hj]; exact List.getElem?_eq_getElem hj
        rw [h6]
        have h5 : Rep g.K (.val (.int .u8 x.toNat)) us[j] := h5
        generalize us[j] = y at h5
        cases h5; rfl
      rintro e w' ⟨rfl, rfl⟩
      have hm1 := hm.drew
      have hoth := fun k h => freeze_other w.drew bg l.length k h
      obtain ⟨ho, ht, hou⟩ := freeze_rest w.drew bg l.length
      have hsz := freeze_size w.drew bg l.length
      obtain ⟨h5, l5⟩ := hm1.mchg (w' := w.drew.freeze ⟨bg, 0, none⟩ l.length) hτ 5 1 (n + 1 + 1) [] (by omega) none (g.cap τ) ⟨ho.trans hm1.below.os, ht.trans hm1.below.tape, hou.trans hm1.below.output, by rw [hsz]; exact hm1.below.size, fun k hk => by rw [hoth k (Fr.ne hk (hm1.base τ bg hb))]; exact hm1.below.block k hk⟩
        (fun b2 o v hv => by
          have hne : b2 ≠ bg := fun q => by subst q; rw [hkn o] at hv; cases hv
          have h0 := hm1.kw b2 o v hv
          rw [← h0]; exact World.cell?_of_block (hoth b2 hne))
        (fun i b2 hne hib => hoth b2 (fun q => hne (hm1.sep i τ bg (q ▸ hib) hb))) (fun b hb => by cases hb) (fun i b _ _ q => by cases q) (fun b hb => by cases hb) (by rw [hsz]; exact Nat.le_refl _) (fun _ => ⟨by decide, rfl, .inl ⟨upd_same _ _ _, rfl⟩⟩)
      exact ⟨_, _, rfl, h5, l5, Rep.val _⟩
theorem bld_zero : pureRun Tryz.prog (zeroValue 156) = some (.agg #[.pointer none, .slice none 0 0]) := by kernel_rfl
/-- A new builder, and the row for its bytes. -/
theorem GRun.bldNew {all : List Oper} {o : Oper} {os : List Oper} {σ : St} {k : St → Prop} (hop : o.op = .alloc 156)
    (hc : guardB all σ.env o = some true ∧ bdst σ o = true ∧ σ.H σ.nx = none ∧ σ.H (σ.nx + 1) = none ∧ σ.fx.dfs.contains σ.nx = false ∧ σ.fx.dfs.contains (σ.nx + 1) = false)
    (h : GRun Tryz.prog all os ⟨putE σ.env o.dst (.c (.own σ.nx 0)), upd (upd σ.H (σ.nx + 1) (some (.mrow 5 1 0 []))) σ.nx (some (bldH σ.nx (σ.nx + 1) 0)), σ.nx + 2, σ.sz, σ.fx⟩ k) : GRun Tryz.prog all (o :: os) σ k := by
  obtain ⟨hg, hd, h1, h2, h3, h4⟩ := hc
  refine GRun.opr hg hd (by rw [hop]; intro c hc; cases hc) fun F K0 g a w hr => ?_
  obtain ⟨q1, l1⟩ := hr.mem.mtok 5 1 h2 (by decide)
  obtain ⟨q2, l2⟩ := q1.newObj (id := σ.nx) (bldO (.pointer none) (.slice none 0 0)) (by rw [upd_ne _ _ (by omega)]; exact h1)
  have hb0 : g.β (σ.nx + 1) = none := hr.mem.dom _ h2
  obtain ⟨q3, l3⟩ := q2.reh (he0 := .obj (bldO (.pointer none) (.slice none 0 0))) (bldH σ.nx (σ.nx + 1) 0) (upd_same _ _ _) rfl rfl (fun hle => by
    obtain ⟨b2, hb2, hheap2, hn2⟩ := q2.holds σ.nx _ (upd_same _ _ _)
    refine ⟨b2, [.slice none 0 0], _, hb2, hheap2, ⟨rfl, fun j x v hx hv => ?_⟩, ⟨rfl, rfl⟩, hn2⟩
    match j, hx, hv with
    | 0, hx, hv =>
      cases hx; cases hv
      refine ⟨⟨none, 0, 0, rfl⟩, 5, 1, 0, [], by rw [upd_ne _ _ (by omega), upd_ne _ _ (by omega), upd_same], Nat.le_refl _, fun _ => .inr ⟨?_, rfl, rfl⟩⟩
      show upd _ _ _ _ = _
      rw [upd_ne _ _ (by omega)]; exact hb0)
  simp only [upd_upd] at q3 l3 l2
  refine ⟨_, .pointer (some ⟨w.heap.size, 0, none⟩), _, _, _, .c (.own σ.nx 0), σ.nx + 2, ?_, .inl rfl, q3, (l1.trans l2).trans l3, ⟨w.heap.size, upd_same _ _ _, rfl, by rw [upd_same]; rfl⟩, fun i hi => ?_, h⟩
  · unfold execOp; rw [hop]
    have := pureRun_sound _ w _ bld_zero
    simp [Instr.alloc, this, Result.andThen, newVar, newRow, Value.cells]
  · rw [upd_ne, upd_ne]
    · rintro rfl; rw [show σ.fx.dfs.contains (σ.nx + 1) = true by simpa using hi] at h4; cases h4
    · rintro rfl; rw [show σ.fx.dfs.contains σ.nx = true by simpa using hi] at h3; cases h3
end Go.Proofs.YtepcpdionlfkhaaGreatDoor
namespace Go.Proofs.YtepcpdionlfkhaaGreatDoor
open Go Go.RowKit
set_option maxHeartbeats 8000000
set_option maxRecDepth 100000
set_option linter.unusedVariables false
set_option linter.unusedSimpArgs false
abbrev bldM (l : List UInt8) (n : Nat) : List (Nat × HE) := [(0, bldH 0 1 n), (1, .mrow 5 1 n (byC l))]
theorem u8_facts : ∃ j z, Tryz.prog.info? 5 = some j ∧ j.zero = some z ∧ j.size = 1 ∧ j.bytes = 1 ∧ z.cells.size = 1 := by
  obtain ⟨j, h1, h2⟩ := Option.map_eq_some_iff.1 (show (Tryz.prog.info? 5).map (fun j => (j.zero, j.size, j.bytes)) = some (some (.int .u8 0), 1, 1) by kernel_rfl)
  simp only [Prod.mk.injEq] at h2
  exact ⟨j, _, h1, h2.1, h2.2.1, h2.2.2, rfl⟩
theorem byC_ids (l : List UInt8) : (byC l).flatMap CV.ids = [] := by
  induction l with
  | nil => rfl
  | cons c l ih => rw [byC, List.map_cons, List.flatMap_cons]; exact ih
theorem bldH_ren (ρ : Nat → Nat) (a b n : Nat) : HE.ren ρ (bldH a b n) = bldH (ρ a) (ρ b) n := by cases n <;> rfl
theorem mrow_byC_ren (ρ : Nat → Nat) (e sz n : Nat) (l : List UInt8) : HE.ren ρ (.mrow e sz n (byC l)) = .mrow e sz n (byC l) := by simp [HE.ren, byC, CV.ren]
theorem wr_fun (l s : List UInt8) (n : Nat) (hs : s ≠ []) (hlen : l.length + s.length ≤ 140737488355328) :
    FunG Tryz.prog 96 [.c (.own 0 0), vs s] [0, 1] (ofH (bldM l n)) (.c (.d (.tup [int s.length, .val .nilIface]))) [0, 1] (ofH (bldM (l ++ s) (n + 1))) := by
  obtain ⟨j, z, hj, hz, hj1, hj2, hz1⟩ := u8_facts
  have key : ∀ H : Hp, H 0 = some (bldH 0 1 n) → H 1 = some (.mrow 5 1 n (byC l)) → ∀ F K0 g σ a w, σ.H = H → Rel F K0 g σ a w → evalS σ.env (.tmp 6) = .c (.own 0 0) → Calls Tryz.prog 153 ((#[.tmp 6] : Array Operand).map a.eval) w fun e w' => ∃ v g', e = .returned v ∧ RelH F K0 g' (upd H 0 (some (.cells [.own 0 0, .mt 1 n]))) w' ∧ GLe g σ.H g' (upd H 0 (some (.cells [.own 0 0, .mt 1 n]))) ∧ RepS g' (upd H 0 (some (.cells [.own 0 0, .mt 1 n]))) (.c .any) v := by
    intro H h0 h1 F K0 g σ a w hH hr he
    subst hH
    have hv := evalS_rep hr (.tmp 6)
    rw [he] at hv
    obtain ⟨b, hb, hev, _⟩ := hv
    have := cc_sem hr.mem hb h0
    rw [show ((#[.tmp 6] : Array Operand).map a.eval) = #[.pointer (some ⟨b, 0, none⟩)] by simp [hev]]
    exact this
  cases n with
  | zero =>
    refine FunG.of_bodyH rfl rfl Tryz.func96 rfl rfl Tryz.ntmps96 Tryz.results96 (Nat.le_of_ble_eq_true rfl) ?_ ?_
    · simp [okG, okB, bldM, bldH, HE.ids, byC_ids, CV.ids, SV.ids, subB]
    (repeat (first | apply Wp.skip | apply Wp.exit | apply Wp.ret | apply Wp.block | apply Wp.label | ((first | refine Wp.sreg (fun K hK => ?_) | refine Wp.reg (fun K hK => ?_) | refine Wp.sdrw mixed (fun K hK => ?_) | refine Wp.drw mixed (fun K hK => ?_) | refine Wp.condG (fun K hK hF => ?_)); (repeat (revert hK; intro hK; simp (maxSteps := 2000000) (disch := omega) only [RUN, RUNB, aop, ofV, oWn, Nat.reduceBEq, Nat.reduceAdd, Nat.reduceLT, GRUN]; (first | (refine hK _ ?_; clear hK K) | (refine ⟨by kernel_rfl, hK _ ?_⟩; clear hK K) | (refine hK ?_; clear hK hF K) | (refine hF ?_; clear hK hF K) | refine bcf (by assumption) ?_ | refine bca (by assumption) ?_))); fail_if_success (revert hK; intro hK)) | apply Wp.seq))
    (first | refine Wp.sregG ?_ | refine Wp.regG ?_ | (refine Wp.seq ?_; first | refine Wp.sregG ?_ | refine Wp.regG ?_))
    (refine GRun.at 1 (fun K hK => ?_); simp (maxSteps := 2000000) (disch := omega) only [RUN, RUNB, aop, Nat.reduceBEq, Nat.reduceAdd, Nat.reduceLT, GRUN]; refine hK _ ?_; clear hK K)
    refine GRun.callR (x := .c .any) (nx' := 1000) rfl (by kernel_rfl) ⟨by kernel_rfl, by kernel_rfl, by kernel_rfl⟩ (fun F K0 g a w hr => key _ ?_ ?_ F K0 g _ a w rfl hr ?_) ?_ ?_
    · simp (maxSteps := 2000000) (disch := omega) only [RUN, bldM, bldH]
    · simp (maxSteps := 2000000) (disch := omega) only [RUN, Nat.reduceBEq, bldM, bldH]
    · simp (maxSteps := 2000000) (disch := omega) only [RUN, RUNB]
    · intro i hi; cases hi
    (refine GRun.done (fun K hK => ?_); simp (maxSteps := 2000000) (disch := omega) only [RUN, RUNB]; refine hK _ ?_; clear hK K)
    (first | refine Wp.sregG ?_ | refine Wp.regG ?_ | (refine Wp.seq ?_; first | refine Wp.sregG ?_ | refine Wp.regG ?_))
    (refine GRun.at 6 (fun K hK => ?_); simp (maxSteps := 2000000) (disch := omega) only [RUN, TY, RUNB, aop, aLd, aFd, pLk, Nat.reduceBEq, Nat.reduceAdd, Nat.reduceLT, GRUN, bldM, bldH]; refine hK _ ?_; clear hK K)
    refine GRun.mappStr rfl 1 (0) (byC l) s Tryz.underlying154 Tryz.underlying9 hj hz hj1 hj2 hz1 hs (by simpa using hlen) ⟨by kernel_rfl, by kernel_rfl, ?_, ?_, ?_, rfl⟩ ?_
    · simp (maxSteps := 2000000) (disch := omega) only [RUN, RUNB, Nat.reduceBEq]
    · simp (maxSteps := 2000000) (disch := omega) only [RUN, Nat.reduceBEq]
    · simp (maxSteps := 2000000) (disch := omega) only [RUN, RUNB, valS, valC]
    (refine GRun.done (fun K hK => ?_); simp (maxSteps := 2000000) (disch := omega) only [RUN, TY, RUNB, aop, aSt, aFd, CV.one, pLk, Nat.reduceBEq, Nat.reduceAdd, Nat.reduceLT]; refine hK _ ?_; clear hK K)
    (repeat (first | apply Wp.skip | apply Wp.exit | apply Wp.ret | apply Wp.block | apply Wp.label | ((first | refine Wp.sreg (fun K hK => ?_) | refine Wp.reg (fun K hK => ?_) | refine Wp.sdrw mixed (fun K hK => ?_) | refine Wp.drw mixed (fun K hK => ?_) | refine Wp.condG (fun K hK hF => ?_)); (repeat (revert hK; intro hK; simp (maxSteps := 2000000) (disch := omega) only [RUN, TY, RUNB, aop, ofV, aLen, aBu, Nat.reduceBEq, Nat.reduceAdd, Nat.reduceLT, GRUN]; (first | (refine hK _ ?_; clear hK K) | (refine ⟨by kernel_rfl, hK _ ?_⟩; clear hK K) | (refine hK ?_; clear hK hF K) | (refine hF ?_; clear hK hF K) | refine bcf (by assumption) ?_ | refine bca (by assumption) ?_))); fail_if_success (revert hK; intro hK)) | apply Wp.seq))
    refine bodyQG.ret ?_
    simp (maxSteps := 2000000) (disch := omega) only [RUN, RUNB, Nat.reduceBEq, retG, endB, bldM, bldH, byC, List.map_append]
  | succ n =>
    refine FunG.of_bodyH rfl rfl Tryz.func96 rfl rfl Tryz.ntmps96 Tryz.results96 (Nat.le_of_ble_eq_true rfl) ?_ ?_
    · simp [okG, okB, bldM, bldH, HE.ids, byC_ids, CV.ids, SV.ids, subB]
    (repeat (first | apply Wp.skip | apply Wp.exit | apply Wp.ret | apply Wp.block | apply Wp.label | ((first | refine Wp.sreg (fun K hK => ?_) | refine Wp.reg (fun K hK => ?_) | refine Wp.sdrw mixed (fun K hK => ?_) | refine Wp.drw mixed (fun K hK => ?_) | refine Wp.condG (fun K hK hF => ?_)); (repeat (revert hK; intro hK; simp (maxSteps := 2000000) (disch := omega) only [RUN, RUNB, aop, ofV, oWn, Nat.reduceBEq, Nat.reduceAdd, Nat.reduceLT, GRUN]; (first | (refine hK _ ?_; clear hK K) | (refine ⟨by kernel_rfl, hK _ ?_⟩; clear hK K) | (refine hK ?_; clear hK hF K) | (refine hF ?_; clear hK hF K) | refine bcf (by assumption) ?_ | refine bca (by assumption) ?_))); fail_if_success (revert hK; intro hK)) | apply Wp.seq))
    (first | refine Wp.sregG ?_ | refine Wp.regG ?_ | (refine Wp.seq ?_; first | refine Wp.sregG ?_ | refine Wp.regG ?_))
    (refine GRun.at 1 (fun K hK => ?_); simp (maxSteps := 2000000) (disch := omega) only [RUN, RUNB, aop, Nat.reduceBEq, Nat.reduceAdd, Nat.reduceLT, GRUN]; refine hK _ ?_; clear hK K)
    refine GRun.callR (x := .c .any) (nx' := 1000) rfl (by kernel_rfl) ⟨by kernel_rfl, by kernel_rfl, by kernel_rfl⟩ (fun F K0 g a w hr => key _ ?_ ?_ F K0 g _ a w rfl hr ?_) ?_ ?_
    · simp (maxSteps := 2000000) (disch := omega) only [RUN, bldM, bldH]
    · simp (maxSteps := 2000000) (disch := omega) only [RUN, Nat.reduceBEq, bldM, bldH]
    · simp (maxSteps := 2000000) (disch := omega) only [RUN, RUNB]
    · intro i hi; cases hi
    (refine GRun.done (fun K hK => ?_); simp (maxSteps := 2000000) (disch := omega) only [RUN, RUNB]; refine hK _ ?_; clear hK K)
    (first | refine Wp.sregG ?_ | refine Wp.regG ?_ | (refine Wp.seq ?_; first | refine Wp.sregG ?_ | refine Wp.regG ?_))
    (refine GRun.at 6 (fun K hK => ?_); simp (maxSteps := 2000000) (disch := omega) only [RUN, TY, RUNB, aop, aLd, aFd, pLk, Nat.reduceBEq, Nat.reduceAdd, Nat.reduceLT, GRUN, bldM, bldH]; refine hK _ ?_; clear hK K)
    refine GRun.mappStr rfl 1 (n + 1) (byC l) s Tryz.underlying154 Tryz.underlying9 hj hz hj1 hj2 hz1 hs (by simpa using hlen) ⟨by kernel_rfl, by kernel_rfl, ?_, ?_, ?_, rfl⟩ ?_
    · simp (maxSteps := 2000000) (disch := omega) only [RUN, RUNB, Nat.reduceBEq]
    · simp (maxSteps := 2000000) (disch := omega) only [RUN, Nat.reduceBEq]
    · simp (maxSteps := 2000000) (disch := omega) only [RUN, RUNB, valS, valC]
    (refine GRun.done (fun K hK => ?_); simp (maxSteps := 2000000) (disch := omega) only [RUN, TY, RUNB, aop, aSt, aFd, CV.one, pLk, Nat.reduceBEq, Nat.reduceAdd, Nat.reduceLT]; refine hK _ ?_; clear hK K)
    (repeat (first | apply Wp.skip | apply Wp.exit | apply Wp.ret | apply Wp.block | apply Wp.label | ((first | refine Wp.sreg (fun K hK => ?_) | refine Wp.reg (fun K hK => ?_) | refine Wp.sdrw mixed (fun K hK => ?_) | refine Wp.drw mixed (fun K hK => ?_) | refine Wp.condG (fun K hK hF => ?_)); (repeat (revert hK; intro hK; simp (maxSteps := 2000000) (disch := omega) only [RUN, TY, RUNB, aop, ofV, aLen, aBu, Nat.reduceBEq, Nat.reduceAdd, Nat.reduceLT, GRUN]; (first | (refine hK _ ?_; clear hK K) | (refine ⟨by kernel_rfl, hK _ ?_⟩; clear hK K) | (refine hK ?_; clear hK hF K) | (refine hF ?_; clear hK hF K) | refine bcf (by assumption) ?_ | refine bca (by assumption) ?_))); fail_if_success (revert hK; intro hK)) | apply Wp.seq))
    refine bodyQG.ret ?_
    simp (maxSteps := 2000000) (disch := omega) only [RUN, RUNB, Nat.reduceBEq, retG, endB, bldM, bldH, byC, List.map_append]
end Go.Proofs.YtepcpdionlfkhaaGreatDoor
