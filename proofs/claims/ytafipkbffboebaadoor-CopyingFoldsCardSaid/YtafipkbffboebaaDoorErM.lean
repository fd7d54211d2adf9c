/- The abstract machine (ErA, ErB, ErC, ErD). -/
import Derived.Test.YtafipkbffboebaaDoorProg
import Derived.Test.YtafipkbffboebaaDoorMem
import Derived.WalkKit
import Derived.WalkSpells
import Derived.WalkLawsBesides
import Derived.LaidEql
import Derived.Stop.Asserts
import Derived.RowKitTokens
import Derived.Test.YtafipkbffboebaaDoorMacB
namespace Go.Proofs.YtafipkbffboebaaDoor
open Go.RowKit Go.Extern.Stop Go.Stop Go.Extern
set_option maxRecDepth 100000
set_option linter.unusedVariables false
set_option linter.unusedSimpArgs false
/- P: *Errno 94, E: Errno 31, R: the refusal's pointer type -/
theorem valueOfP (t : Addr) (w : World) : (ReflectliteValue.unpack (.iface 94 (.pointer (some t)))).run Tryd.prog w
    = .ok (.agg #[.pointer (some ⟨1, 94, none⟩), .pointer (some ⟨w.heap.size, 0, none⟩), .int .u64 150]) (w.alloc (.cells #[.pointer (some t)] 94)) := by kernel_rfl
theorem typeP (a : Addr) (w : World) : (ReflectliteValue.methodAny (ReflectliteValue.valueError "reflectlite.Value.Type" 0) (fun t _ _ _ => ReflectliteType.toType t) #[.agg #[.pointer (some ⟨1, 94, none⟩), .pointer (some a), .int .u64 150]]).run Tryd.prog w
    = .ok (.iface 154 (.agg #[.pointer (some ⟨1, 94, none⟩)])) w := by kernel_rfl
theorem methodKind (h : Value) (w : World) : (Go.method 323 154 (.agg #[h]) "Kind").run Tryd.prog w = .ok (143, h) w := by kernel_rfl
theorem kindP (w : World) : ((ReflectliteType.abiMethod fun t => (fun a : Nat => Value.int IntKind.u8 (a : Int)) <$> Rtype.kind t) #[.pointer (some ⟨1, 94, none⟩)]).run Tryd.prog w = .ok (.int .u8 22) w := by kernel_rfl
theorem kindE (w : World) : ((ReflectliteType.abiMethod fun t => (fun a : Nat => Value.int IntKind.u8 (a : Int)) <$> Rtype.kind t) #[.pointer (some ⟨1, 31, none⟩)]).run Tryd.prog w = .ok (.int .u8 2) w := by kernel_rfl
theorem rlm (z : Sem Value) (f : TypeId → Addr → Nat → Nat → Sem Value) (v : Value) :
    ReflectliteValue.method z f #[v] = (do match ← ReflectliteValue.parts v with | none => z | some (t, a, fl) => f t a fl (fl % 32)) := rfl
theorem partsP (a : Addr) (w : World) : (ReflectliteValue.parts (.agg #[.pointer (some ⟨1, 94, none⟩), .pointer (some a), .int .u64 150])).run Tryd.prog w = .ok (some (94, a, 150)) w := by kernel_rfl
theorem isNilP (a p : Addr) (W : World) (ha : W.cell? a = some (.pointer (some p))) :
    (ReflectliteValue.method (ReflectliteValue.valueError "reflectlite.Value.IsNil" 0) ReflectliteValue.isNil #[.agg #[.pointer (some ⟨1, 94, none⟩), .pointer (some a), .int .u64 150]]).run Tryd.prog W = .ok (.bool false) W := by
  rw [rlm]
  simp only [Sem.run_bind, partsP, Result.andThen]
  simp [ReflectliteValue.isNil, loadVar, isAgg, underlying, Tryd.underlying94, ha, Result.andThen]
theorem methodElem (h : Value) (w : World) : (Go.method 323 154 (.agg #[h]) "Elem").run Tryd.prog w = .ok (157, .agg #[h]) w := by kernel_rfl
theorem methodImplements (h : Value) (w : World) : (Go.method 323 154 (.agg #[h]) "Implements").run Tryd.prog w = .ok (158, .agg #[h]) w := by kernel_rfl
theorem methodAssignableTo (h : Value) (w : World) : (Go.method 323 154 (.agg #[h]) "AssignableTo").run Tryd.prog w = .ok (155, .agg #[h]) w := by kernel_rfl
theorem elemP (w : World) : (ReflectliteType.method ReflectliteType.elem #[.agg #[.pointer (some ⟨1, 94, none⟩)]]).run Tryd.prog w = .ok (.iface 154 (.agg #[.pointer (some ⟨1, 31, none⟩)])) w := by kernel_rfl
theorem implementsE (w : World) : (ReflectliteType.relation "Implements" ReflectliteType.implements_ #[.agg #[.pointer (some ⟨1, 31, none⟩)], .iface 154 (.agg #[.pointer (some ⟨1, 64, none⟩)])]).run Tryd.prog w = .ok (.bool true) w := by kernel_rfl
theorem typeOfE (v : Value) (w : World) : (ReflectliteType.typeOf #[.iface 31 v]).run Tryd.prog w = .ok (.iface 154 (.agg #[.pointer (some ⟨1, 31, none⟩)])) w := by kernel_rfl
theorem assignableE (w : World) : (ReflectliteType.relation "AssignableTo" ReflectliteType.assignableTo #[.agg #[.pointer (some ⟨1, 31, none⟩)], .iface 154 (.agg #[.pointer (some ⟨1, 31, none⟩)])]).run Tryd.prog w = .ok (.bool true) w := by kernel_rfl
theorem valueOfE (n : Int) (w : World) : (ReflectliteValue.unpack (.iface 31 (.int .i64 n))).run Tryd.prog w
    = .ok (.agg #[.pointer (some ⟨1, 31, none⟩), .pointer (some ⟨w.heap.size, 0, none⟩), .int .u64 130]) (w.alloc (.cells #[.int .i64 n] 31)) := by kernel_rfl
theorem elemOfP (w : World) : (Rtype.elem? 94).run Tryd.prog w = .ok (some 31) w := by kernel_rfl
theorem mkE (p : Addr) (w : World) : (ReflectliteValue.mk 31 p ReflectliteValue.flagAddr).run Tryd.prog w = .ok (.agg #[.pointer (some ⟨1, 31, none⟩), .pointer (some p), .int .u64 386]) w := by kernel_rfl
theorem elemVP (a p : Addr) (W : World) (ha : W.cell? a = some (.pointer (some p))) :
    (ReflectliteValue.method (ReflectliteValue.valueError "reflectlite.Value.Elem" 0) ReflectliteValue.elem #[.agg #[.pointer (some ⟨1, 94, none⟩), .pointer (some a), .int .u64 150]]).run Tryd.prog W
      = .ok (.agg #[.pointer (some ⟨1, 31, none⟩), .pointer (some p), .int .u64 386]) W := by
  rw [rlm]
  simp only [Sem.run_bind, partsP, Result.andThen]
  simp [ReflectliteValue.elem, loadVar, isAgg, underlying, Tryd.underlying94, ha, Result.andThen, elemOfP, mkE]
theorem rls (v x : Value) : ReflectliteValue.set #[v, x] = (do
    let (some (dst, a, fl), some (src, b, _)) := (← ReflectliteValue.parts v, ← ReflectliteValue.parts x)
      | unsupported (.noEntry "extern/(internal/reflectlite.Value).Set.zeroValue")
    if fl / ReflectliteValue.flagAddr % 2 == 0 then unsupported (.noEntry "extern/(internal/reflectlite.Value).Set.unaddressable")
    let val ← loadVar src b
    if ← Rtype.directlyAssignable dst src then storeVar dst a val
    else if ← Rtype.implements dst src then
      if (← Rtype.kind src) == 20 then
        match val with
        | .nilIface => unsupported (.noEntry "extern/reflectlite: a nil value of one interface type handed on as a value of another")
        | _ => storeVar dst a val
      else storeVar dst a (.iface src val)
    else panicString ("reflectlite.Set: value of type " ++ (← Rtype.spelt src) ++ " is not assignable to type " ++ (← Rtype.spelt dst))
    pure (.tuple #[])) := rfl
theorem partsEa (a : Addr) (w : World) : (ReflectliteValue.parts (.agg #[.pointer (some ⟨1, 31, none⟩), .pointer (some a), .int .u64 386])).run Tryd.prog w = .ok (some (31, a, 386)) w := by kernel_rfl
theorem partsE (a : Addr) (w : World) : (ReflectliteValue.parts (.agg #[.pointer (some ⟨1, 31, none⟩), .pointer (some a), .int .u64 130])).run Tryd.prog w = .ok (some (31, a, 130)) w := by kernel_rfl
theorem directE (w : World) : (Rtype.directlyAssignable 31 31).run Tryd.prog w = .ok true w := by kernel_rfl
theorem setE (ta b : Addr) (n : Int) (old : Value) (W : World) (hb : W.cell? b = some (.int .i64 n)) (ht : W.cell? ta = some old) (hf : W.frozen? ta = false) :
    (ReflectliteValue.set #[.agg #[.pointer (some ⟨1, 31, none⟩), .pointer (some ta), .int .u64 386], .agg #[.pointer (some ⟨1, 31, none⟩), .pointer (some b), .int .u64 130]]).run Tryd.prog W
      = .ok (.tuple #[]) (W.setCell ta (.int .i64 n)) := by
  rw [rls]
  simp only [Sem.run_bind, partsEa, partsE, Result.andThen]
  simp [ReflectliteValue.flagAddr, loadVar, isAgg, underlying, Tryd.underlying31, hb, Result.andThen, directE, storeVar, Value.cells, storeCells, Addr.add]
  rw [run_store Tryd.prog W ta _ _ (by rfl)]
  simp [ht, hf]
/-- A pointer type T whose Unwrap (the function fU) hands back the Errno in its second cell; it has neither Is nor As. -/
structure ErrT (T fU : Nat) : Prop where
  tof : ∀ (v : Value) (w : World), (ReflectliteType.typeOf #[.iface T v]).run Tryd.prog w = .ok (.iface 154 (.agg #[.pointer (some ⟨1, T, none⟩)])) w
  asg : ∀ (w : World), (ReflectliteType.relation "AssignableTo" ReflectliteType.assignableTo #[.agg #[.pointer (some ⟨1, T, none⟩)], .iface 154 (.agg #[.pointer (some ⟨1, 31, none⟩)])]).run Tryd.prog w = .ok (.bool false) w
  unw : ∀ (a : Addr) (n : Int) (w : World), w.cell? ⟨a.block, a.off + 1, none⟩ = some (.int .i64 n) → a.spot = none →
    Calls Tryd.prog fU #[.pointer (some a)] w fun e w' => e = .returned (.iface 31 (.int .i64 n)) ∧ w = w'
  taA : ∀ (a : Addr) (w : World), (Instr.typeAssert (.iface T (.pointer (some a))) 64 166 true).run Tryd.prog w = .ok (.tuple #[.nilIface, .bool false]) w
  taI : ∀ (a : Addr) (w : World), (Instr.typeAssert (.iface T (.pointer (some a))) 64 156 true).run Tryd.prog w = .ok (.tuple #[.nilIface, .bool false]) w
  taU : ∀ (a : Addr) (w : World), (Instr.typeAssert (.iface T (.pointer (some a))) 64 159 true).run Tryd.prog w = .ok (.tuple #[.iface T (.pointer (some a)), .bool true]) w
  mU : ∀ (a : Addr) (w : World), (Go.method 323 T (.pointer (some a)) "Unwrap").run Tryd.prog w = .ok (fU, .pointer (some a)) w
  fE : ∀ args w, (callFunc fU args).run Tryd.prog w = .ok (.enter fU args) w
  ne : T ≠ 31
end Go.Proofs.YtafipkbffboebaaDoor
namespace Go.Proofs.YtafipkbffboebaaDoor
open Go.RowKit Go.Extern.Stop Go.Stop Go.Extern
set_option maxRecDepth 100000
set_option linter.unusedVariables false
set_option linter.unusedSimpArgs false
theorem grown_set (w : World) (tb : Nat) (n : Int) (o1 o2 : Obj) : w.grownBy (((w.setCell ⟨tb, 0, none⟩ (.int .i64 n)).alloc o1).alloc o2) (some tb) :=
  ⟨rfl, rfl, rfl, by simp [World.setCell]; omega, fun k hk hne => by
    have hz : (w.setCell ⟨tb, 0, none⟩ (.int .i64 n)).heap.size = w.heap.size := by simp [World.setCell]
    rw [Below.heap_alloc _ _ _ (by simp; omega), Below.heap_alloc _ _ _ (by omega), Below.heap_setCell _ _ _ _ (fun e => hne (by rw [e]))]⟩
theorem cell_set (w : World) (tb : Nat) (n : Int) (o1 o2 : Obj) (old : Value) (ht : w.cell? ⟨tb, 0, none⟩ = some old) (htl : tb < w.heap.size) : (((w.setCell ⟨tb, 0, none⟩ (.int .i64 n)).alloc o1).alloc o2).cell? ⟨tb, 0, none⟩ = some (.int .i64 n) := by
  have hz : (w.setCell ⟨tb, 0, none⟩ (.int .i64 n)).heap.size = w.heap.size := by simp [World.setCell]
  rw [World.cell?_alloc_lt _ _ ⟨tb, 0, none⟩ (by show tb < _; simp; omega), World.cell?_alloc_lt _ _ ⟨tb, 0, none⟩ (by show tb < _; omega)]
  exact World.cell?_setCell_same' _ _ _ (by rw [ht]; rfl)
set_option maxHeartbeats 8000000 in
theorem as_walk {T fU : Nat} (hT : ErrT T fU) (b o : Nat) (n : Int) (vb : Addr) (tb : Nat) (old : Value) (w : World) (hc : w.cell? ⟨b, o + 1, none⟩ = some (.int .i64 n)) (hbl : b < w.heap.size)
    (hv : w.cell? vb = some (.pointer (some ⟨tb, 0, none⟩))) (hvl : vb.block < w.heap.size) (ht : w.cell? ⟨tb, 0, none⟩ = some old) (hf : w.frozen? ⟨tb, 0, none⟩ = false) (htl : tb < w.heap.size) :
    Calls Tryd.prog 71 #[.iface T (.pointer (some ⟨b, o, none⟩)), .iface 94 (.pointer (some ⟨tb, 0, none⟩)), .agg #[.pointer (some ⟨1, 94, none⟩), .pointer (some vb), .int .u64 150], .iface 154 (.agg #[.pointer (some ⟨1, 31, none⟩)])] w
      fun e w' => e = .returned (.bool true) ∧ w.grownBy w' (some tb) ∧ w'.cell? ⟨tb, 0, none⟩ = some (.int .i64 n) := by
  have h48 := @run_callFunc_extern Tryd.prog 68 _ (fun args => ReflectliteValue.unpack (args.getD 0 (.tuple #[]))) Tryd.func68 (by kernel_rfl) (by kernel_rfl) (by kernel_rfl) (by kernel_rfl)
  have h52 := @run_callFunc_extern Tryd.prog 66 _ ReflectliteType.typeOf Tryd.func66 (by kernel_rfl) (by kernel_rfl) (by kernel_rfl) (by kernel_rfl)
  have h79 := @run_callFunc_extern Tryd.prog 155 _ (ReflectliteType.relation "AssignableTo" ReflectliteType.assignableTo) Tryd.func155 (by kernel_rfl) (by kernel_rfl) (by kernel_rfl) (by kernel_rfl)
  have h53 := @run_callFunc_extern Tryd.prog 98 _ (ReflectliteValue.method (ReflectliteValue.valueError "reflectlite.Value.Elem" 0) ReflectliteValue.elem) Tryd.func98 (by kernel_rfl) (by kernel_rfl) (by kernel_rfl) (by kernel_rfl)
  have h54 := @run_callFunc_extern Tryd.prog 99 _ ReflectliteValue.set Tryd.func99 (by kernel_rfl) (by kernel_rfl) (by kernel_rfl) (by kernel_rfl)
  have tE := typeOfE
  have mA := methodAssignableTo
  have aR := hT.asg
  have tR := hT.tof
  have fE := hT.fE
  have aE := assignableE
  have vE := valueOfE
  have t1 := hT.taA
  have t2 := hT.taU
  have t3 := hT.mU
  go_enter Tryd.func71, Tryd.ntmps71
  go_wp2_with fail
  refine wp_loop_rounds 2 ?_
  rw [rounds_succ]
  go_wp2_with fail
  have hb0 := (Below.refl w.heap.size w).alloc (Nat.le_refl _) (.cells #[.pointer (some ⟨1, 94, none⟩), .pointer (some vb), .int .u64 150] 126)
  have el := elemVP vb ⟨tb, 0, none⟩ (w.alloc (.cells #[.pointer (some ⟨1, 94, none⟩), .pointer (some vb), .int .u64 150] 126)) ((hb0.cell (p := vb) hvl).trans hv)
  have st := setE ⟨tb, 0, none⟩ ⟨w.heap.size + 1, 0, none⟩ n old ((w.alloc (.cells #[.pointer (some ⟨1, 94, none⟩), .pointer (some vb), .int .u64 150] 126)).alloc (.cells #[.int .i64 n] 31))
    (by rw [World.cell?_alloc_at _ _ _ _ (by simp)]; rfl)
    (((hb0.alloc (by simp) _).cell (p := ⟨tb, 0, none⟩) htl).trans ht) (((hb0.alloc (by simp) _).frozen (p := ⟨tb, 0, none⟩) htl).trans hf)
  refine (hT.unw ⟨b, o, none⟩ n _ ((hb0.cell (p := ⟨b, o + 1, none⟩) hbl).trans hc) rfl).mono ?_
  rintro e w1 ⟨rfl, rfl⟩
  go_wp2_with fail
  rw [rounds_succ]
  go_wp2_with fail
  go_ret
  exact ⟨rfl, grown_set w tb n _ _, cell_set w tb n _ _ old ht htl⟩
set_option maxHeartbeats 8000000 in
theorem asR {T fU : Nat} (hT : ErrT T fU) (b o : Nat) (n : Int) (tb : Nat) (old : Value) (w : World) (hc : w.cell? ⟨b, o + 1, none⟩ = some (.int .i64 n)) (hbl : b < w.heap.size) (hg : w.cell? ⟨0, 0, none⟩ = some (.iface 154 (.agg #[.pointer (some ⟨1, 64, none⟩)])))
    (ht : w.cell? ⟨tb, 0, none⟩ = some old) (hf : w.frozen? ⟨tb, 0, none⟩ = false) (htl : tb < w.heap.size) :
    Calls Tryd.prog 37 #[.iface T (.pointer (some ⟨b, o, none⟩)), .iface 94 (.pointer (some ⟨tb, 0, none⟩))] w
      fun e w' => e = .returned (.bool true) ∧ w.grownBy w' (some tb) ∧ w'.cell? ⟨tb, 0, none⟩ = some (.int .i64 n) := by
  have h48 := @run_callFunc_extern Tryd.prog 68 _ (fun args => ReflectliteValue.unpack (args.getD 0 (.tuple #[]))) Tryd.func68 (by kernel_rfl) (by kernel_rfl) (by kernel_rfl) (by kernel_rfl)
  have h49 := @run_callFunc_extern Tryd.prog 69 _ (ReflectliteValue.methodAny (ReflectliteValue.valueError "reflectlite.Value.Type" 0) (fun t _ _ _ => ReflectliteType.toType t)) Tryd.func69 (by kernel_rfl) (by kernel_rfl) (by kernel_rfl) (by kernel_rfl)
  have h50 := @run_callFunc_extern Tryd.prog 70 _ (ReflectliteValue.method (ReflectliteValue.valueError "reflectlite.Value.IsNil" 0) ReflectliteValue.isNil) Tryd.func70 (by kernel_rfl) (by kernel_rfl) (by kernel_rfl) (by kernel_rfl)
  have hK := @run_callFunc_extern Tryd.prog 143 _ (ReflectliteType.abiMethod fun t => do pure (.int .u8 (← Rtype.kind t))) Tryd.func143 (by kernel_rfl) (by kernel_rfl) (by kernel_rfl) (by kernel_rfl)
  have hE := @run_callFunc_extern Tryd.prog 157 _ (ReflectliteType.method ReflectliteType.elem) Tryd.func157 (by kernel_rfl) (by kernel_rfl) (by kernel_rfl) (by kernel_rfl)
  have hI := @run_callFunc_extern Tryd.prog 158 _ (ReflectliteType.relation "Implements" ReflectliteType.implements_) Tryd.func158 (by kernel_rfl) (by kernel_rfl) (by kernel_rfl) (by kernel_rfl)
  have f6 := valueOfP
  have f7 := typeP
  have mK := methodKind
  have mE := methodElem
  have mI := methodImplements
  have k27 := kindP
  have k25 := kindE
  have e27 := elemP
  have i25 := implementsE
  have hlt : 0 < w.heap.size := World.block_lt_of_cell? w _ hg
  have hb0 := (Below.refl w.heap.size w).alloc (Nat.le_refl _) (.cells #[.pointer (some ⟨tb, 0, none⟩)] 94)
  have hb1 := hb0.alloc (by simp) (.cells #[.pointer (some ⟨1, 94, none⟩), .pointer (some ⟨w.heap.size, 0, none⟩), .int .u64 150] 126)
  have n8 := isNilP ⟨w.heap.size, 0, none⟩ ⟨tb, 0, none⟩ ((w.alloc (.cells #[.pointer (some ⟨tb, 0, none⟩)] 94)).alloc (.cells #[.pointer (some ⟨1, 94, none⟩), .pointer (some ⟨w.heap.size, 0, none⟩), .int .u64 150] 126)) (by simp)
  have hg2 := (hb1.cell (p := ⟨0, 0, none⟩) hlt).trans hg
  go_enter Tryd.func37, Tryd.ntmps37
  go_wp2_with fail
  have q1 : b < ((w.alloc (.cells #[.pointer (some ⟨tb, 0, none⟩)] 94)).alloc (.cells #[.pointer (some ⟨1, 94, none⟩), .pointer (some ⟨w.heap.size, 0, none⟩), .int .u64 150] 126)).heap.size := by simp; omega
  have q2 : ((w.alloc (.cells #[.pointer (some ⟨tb, 0, none⟩)] 94)).alloc (.cells #[.pointer (some ⟨1, 94, none⟩), .pointer (some ⟨w.heap.size, 0, none⟩), .int .u64 150] 126)).cell? ⟨w.heap.size, 0, none⟩ = some (.pointer (some ⟨tb, 0, none⟩)) := ((LiesAt.new w #[.pointer (some ⟨tb, 0, none⟩)] 94).alloc _).cell 0
  have q3 : w.heap.size < ((w.alloc (.cells #[.pointer (some ⟨tb, 0, none⟩)] 94)).alloc (.cells #[.pointer (some ⟨1, 94, none⟩), .pointer (some ⟨w.heap.size, 0, none⟩), .int .u64 150] 126)).heap.size := by simp; omega
  have q4 : tb < ((w.alloc (.cells #[.pointer (some ⟨tb, 0, none⟩)] 94)).alloc (.cells #[.pointer (some ⟨1, 94, none⟩), .pointer (some ⟨w.heap.size, 0, none⟩), .int .u64 150] 126)).heap.size := by simp; omega
  refine (as_walk hT b o n ⟨w.heap.size, 0, none⟩ tb old _ ((hb1.cell (p := ⟨b, o + 1, none⟩) hbl).trans hc) q1 q2 q3 ((hb1.cell (p := ⟨tb, 0, none⟩) htl).trans ht) ((hb1.frozen (p := ⟨tb, 0, none⟩) htl).trans hf) q4).mono ?_
  rintro e w' ⟨rfl, hgr, hcell⟩
  have hfin : w.grownBy w' (some tb) := ⟨hgr.os, hgr.tape, hgr.output, by have := hgr.size; simp at this; omega, fun k hk hne => (hgr.block k (by simp; omega) hne).trans (hb1.block k hk)⟩
  go_wp2_with fail
  go_ret
  exact ⟨rfl, hfin, hcell⟩
end Go.Proofs.YtafipkbffboebaaDoor
namespace Go.Proofs.YtafipkbffboebaaDoor
open Go.RowKit Go.Extern.Stop Go.Stop Go.Extern
set_option maxRecDepth 100000
set_option linter.unusedVariables false
set_option linter.unusedSimpArgs false
theorem eqlInEE (d : Nat) (n m : Int) (w : World) : (Op.equalIn (d + 2) 64 (.iface 31 (.int .i64 n)) (.iface 31 (.int .i64 m))).run Tryd.prog w = .ok (n == m) w := by
  obtain ⟨i, hi, hc⟩ := Option.map_eq_some_iff.1 (show (Tryd.prog.info? 31).map (·.comparable) = some true by kernel_rfl)
  simp [Op.equalIn, run_underlying Tryd.underlying64, run_underlying Tryd.underlying31, typeInfo, hi, hc]
theorem eqlEE (n m : Int) (w : World) : (binOp .eql 64 (.iface 31 (.int .i64 n)) (.iface 31 (.int .i64 m))).run Tryd.prog w = .ok (.bool (n == m)) w := by
  simp only [binOp]
  simp [Op.equal, Op.maxDepth, eqlInEE 9998]
theorem eqlInTE {T : Nat} (hT : T ≠ 31) (d : Nat) (v : Value) (m : Int) (w : World) : (Op.equalIn (d + 2) 64 (.iface T v) (.iface 31 (.int .i64 m))).run Tryd.prog w = .ok false w := by
  simp [Op.equalIn, run_underlying Tryd.underlying64, hT]
theorem eqlTE {T : Nat} (hT : T ≠ 31) (v : Value) (m : Int) (w : World) : (binOp .eql 64 (.iface T v) (.iface 31 (.int .i64 m))).run Tryd.prog w = .ok (.bool false) w := by
  simp only [binOp]
  simp [Op.equal, Op.maxDepth, eqlInTE hT 9998]
theorem taIE (n : Int) (w : World) : (Instr.typeAssert (.iface 31 (.int .i64 n)) 64 156 true).run Tryd.prog w = .ok (.tuple #[.nilIface, .bool false]) w :=
  run_typeAssert_lacksB Tryd.underlying156 (by kernel_rfl) (by kernel_rfl) _ _ w
theorem taUE (n : Int) (w : World) : (Instr.typeAssert (.iface 31 (.int .i64 n)) 64 159 true).run Tryd.prog w = .ok (.tuple #[.nilIface, .bool false]) w :=
  run_typeAssert_lacksB Tryd.underlying159 (by kernel_rfl) (by kernel_rfl) _ _ w
theorem taVE (n : Int) (w : World) : (Instr.typeAssert (.iface 31 (.int .i64 n)) 64 161 true).run Tryd.prog w = .ok (.tuple #[.nilIface, .bool false]) w :=
  run_typeAssert_lacksB Tryd.underlying161 (by kernel_rfl) (by kernel_rfl) _ _ w
theorem methodComparable (h : Value) (w : World) : (Go.method 323 154 (.agg #[h]) "Comparable").run Tryd.prog w = .ok (156, .agg #[h]) w := by kernel_rfl
set_option maxHeartbeats 8000000 in
theorem is_walk {T fU : Nat} (hT : ErrT T fU) (b o : Nat) (n m : Int) (w : World) (hc : w.cell? ⟨b, o + 1, none⟩ = some (.int .i64 n)) :
    Calls Tryd.prog 67 #[.iface T (.pointer (some ⟨b, o, none⟩)), .iface 31 (.int .i64 m), .bool true] w fun e w' => e = .returned (.bool (n == m)) ∧ w = w' := by
  have e1 := @eqlTE T hT.ne
  have e2 := eqlEE
  have t1 := hT.taI
  have t2 := hT.taU
  have t3 := hT.mU
  have t4 := taIE
  have t5 := taUE
  have t6 := taVE
  have fE := hT.fE
  go_enter Tryd.func67, Tryd.ntmps67
  go_wp2_with fail
  refine wp_loop_rounds 2 ?_
  rw [rounds_succ]
  go_wp2_with fail
  refine (hT.unw ⟨b, o, none⟩ n _ hc rfl).mono ?_
  rintro e w1 ⟨rfl, rfl⟩
  go_wp2_with fail
  rw [rounds_succ]
  have e3 := fun w => eqlEE n m w
  clear e2
  cases hnm : (n == m) <;> rw [hnm] at e3
  · go_wp2_with fail
    go_ret
    exact ⟨by rw [hnm]; rfl, rfl⟩
  · go_wp2_with fail
    go_ret
    exact ⟨by rw [hnm]; rfl, rfl⟩
theorem comparableE (w : World) : (ReflectliteType.method (fun t => do Rtype.noPackHeld "Comparable" t; (fun a : TypeInfo => Value.bool a.comparable) <$> typeInfo t) #[.agg #[.pointer (some ⟨1, 31, none⟩)]]).run Tryd.prog w = .ok (.bool true) w := by kernel_rfl
set_option maxHeartbeats 8000000 in
theorem isR {T fU : Nat} (hT : ErrT T fU) (b o : Nat) (n m : Int) (w : World) (hc : w.cell? ⟨b, o + 1, none⟩ = some (.int .i64 n)) :
    Calls Tryd.prog 36 #[.iface T (.pointer (some ⟨b, o, none⟩)), .iface 31 (.int .i64 m)] w fun e w' => e = .returned (.bool (n == m)) ∧ w = w' := by
  have h52 := @run_callFunc_extern Tryd.prog 66 _ ReflectliteType.typeOf Tryd.func66 (by kernel_rfl) (by kernel_rfl) (by kernel_rfl) (by kernel_rfl)
  have h53 := @run_callFunc_extern Tryd.prog 156 _ (ReflectliteType.method (fun t => do Rtype.noPackHeld "Comparable" t; pure (.bool (← typeInfo t).comparable))) Tryd.func156 (by kernel_rfl) (by kernel_rfl) (by kernel_rfl) (by kernel_rfl)
  have tE := typeOfE
  have mC := methodComparable
  have cE := comparableE
  go_enter Tryd.func36, Tryd.ntmps36
  go_wp2_with fail
  refine (is_walk hT b o n m w hc).mono ?_
  rintro e w' ⟨rfl, rfl⟩
  go_wp2_with fail
  go_ret
  exact ⟨rfl, rfl⟩
end Go.Proofs.YtafipkbffboebaaDoor
namespace Go.Proofs.YtafipkbffboebaaDoor
open Go.RowKit Go.Extern.Stop Go.Stop Go.Extern
set_option maxRecDepth 100000
set_option linter.unusedVariables false
set_option linter.unusedSimpArgs false
def Glob (w : World) : Prop := w.cell? ⟨0, 0, none⟩ = some (.iface 154 (.agg #[.pointer (some ⟨1, 64, none⟩)]))
theorem Glob.lt {w : World} (h : Glob w) : 0 < w.heap.size := World.block_lt_of_cell? w _ h
theorem Glob.below {w w' : World} (h : Glob w) (hb : Below w.heap.size w w') : Glob w' := (hb.cell (p := ⟨0, 0, none⟩) h.lt).trans h
theorem one_arg {K : Know} {x : D} {vs : List Value} (h : RepL K [x] vs) : ∃ v, vs = [v] ∧ Rep K x v := by
  have hl := h.1
  match vs, hl with
  | [v], _ => exact ⟨v, rfl, h.2 0 x v rfl rfl⟩
theorem glob_of {K : Know} {w : World} (hB : KLe BaseK K) (hk : KW K w) : Glob w := hk _ _ _ (hB _ _ _ (by unfold BaseK; rw [if_pos ⟨rfl, rfl⟩]))
theorem kw_below {K : Know} {w w' : World} (hk : KW K w) (hb : Below w.heap.size w w') : KW K w' := fun b o v h => by
  rw [← hk b o v h]; exact hb.cell (p := ⟨b, o, none⟩) (by
    rcases Nat.lt_or_ge b w.heap.size with h' | h'
    · exact h'
    · rw [hk.lt h'] at h; cases h)
theorem errD_inv {T : Nat} {K : Know} {x : D} {n : Int} {v : Value} (h : Rep K (.iface T (.ptr [x, int n] 0)) v) : ∃ b o, v = .iface T (.pointer (some ⟨b, o, none⟩)) ∧ K b (o + 1) = some (.int .i64 n) := by
  cases h with
  | iface hp =>
    cases hp with
    | ptr hl hv h1 hkk =>
      rename_i us b o
      match us, hl with
      | [u1, u2], _ =>
        have h2 := hv 1 (int n) u2 rfl rfl
        cases h2
        exact ⟨b, o, rfl, hkk 1 _ rfl⟩
theorem code_err_of {T f : Nat} {n : Int} (hf : bodyOk Tryd.prog f = true) (h : ∀ (b o : Nat) (n : Int) (w : World), Glob w → w.cell? ⟨b, o + 1, none⟩ = some (.int .i64 n) → b < w.heap.size →
    Calls Tryd.prog f #[.iface T (.pointer (some ⟨b, o, none⟩))] w fun e w' => e = .returned (.int .i64 n) ∧ Below w.heap.size w w') (x : D) : Fun Tryd.prog f [.iface T (.ptr [x, int n] 0)] (int n) := by
  refine ⟨hf, fun K w vs hB hk hL => ?_⟩
  obtain ⟨v, rfl, hv⟩ := one_arg hL
  obtain ⟨b, o, rfl, hkk⟩ := errD_inv hv
  have hc := hk _ _ _ hkk
  refine (h b o n w (glob_of hB hk) hc (World.block_lt_of_cell? w _ hc)).mono ?_
  rintro e w' ⟨rfl, hb⟩
  exact ⟨_, K, rfl, Ext.refl _ _, kw_below hk hb, Rep.val _, hb⟩
end Go.Proofs.YtafipkbffboebaaDoor
