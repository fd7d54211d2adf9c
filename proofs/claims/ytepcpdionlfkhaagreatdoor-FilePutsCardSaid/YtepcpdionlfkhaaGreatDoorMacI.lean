/- The abstract machine (FlV, FlW, FlX, FlY). -/
import Derived.Test.YtepcpdionlfkhaaGreatDoorMacH
import Derived.Test.YtepcpdionlfkhaaGreatDoorMacD
namespace Go.Proofs.YtepcpdionlfkhaaGreatDoor
open Go.RowKit Go.Extern.Stop Go.Stop Go.Extern
set_option maxRecDepth 100000
set_option linter.unusedVariables false
set_option linter.unusedSimpArgs false
theorem valueOfPP (t : Addr) (w : World) : (ReflectliteValue.unpack (.iface 99 (.pointer (some t)))).run Tryz.prog w
    = .ok (.agg #[.pointer (some ⟨4, 99, none⟩), .pointer (some ⟨w.heap.size, 0, none⟩), .int .u64 150]) (w.alloc (.cells #[.pointer (some t)] 99)) := by kernel_rfl
theorem typePP (a : Addr) (w : World) : (ReflectliteValue.methodAny (ReflectliteValue.valueError "reflectlite.Value.Type" 0) (fun t _ _ _ => ReflectliteType.toType t) #[.agg #[.pointer (some ⟨4, 99, none⟩), .pointer (some a), .int .u64 150]]).run Tryz.prog w
    = .ok (.iface 211 (.agg #[.pointer (some ⟨4, 99, none⟩)])) w := by kernel_rfl
theorem kindPP (w : World) : ((ReflectliteType.abiMethod fun t => (fun a : Nat => Value.int IntKind.u8 (a : Int)) <$> Rtype.kind t) #[.pointer (some ⟨4, 99, none⟩)]).run Tryz.prog w = .ok (.int .u8 22) w := by kernel_rfl
theorem kindPF (w : World) : ((ReflectliteType.abiMethod fun t => (fun a : Nat => Value.int IntKind.u8 (a : Int)) <$> Rtype.kind t) #[.pointer (some ⟨4, 95, none⟩)]).run Tryz.prog w = .ok (.int .u8 22) w := by kernel_rfl
theorem partsPP (a : Addr) (w : World) : (ReflectliteValue.parts (.agg #[.pointer (some ⟨4, 99, none⟩), .pointer (some a), .int .u64 150])).run Tryz.prog w = .ok (some (99, a, 150)) w := by kernel_rfl
theorem isNilPP (a p : Addr) (W : World) (ha : W.cell? a = some (.pointer (some p))) :
    (ReflectliteValue.method (ReflectliteValue.valueError "reflectlite.Value.IsNil" 0) ReflectliteValue.isNil #[.agg #[.pointer (some ⟨4, 99, none⟩), .pointer (some a), .int .u64 150]]).run Tryz.prog W = .ok (.bool false) W := by
  rw [rlm]
  simp only [Sem.run_bind, partsPP, Result.andThen]
  simp [ReflectliteValue.isNil, loadVar, isAgg, underlying, Tryz.underlying99, ha, Result.andThen]
theorem elemPP (w : World) : (ReflectliteType.method ReflectliteType.elem #[.agg #[.pointer (some ⟨4, 99, none⟩)]]).run Tryz.prog w = .ok (.iface 211 (.agg #[.pointer (some ⟨4, 95, none⟩)])) w := by kernel_rfl
theorem implementsPF (w : World) : (ReflectliteType.relation "Implements" ReflectliteType.implements_ #[.agg #[.pointer (some ⟨4, 95, none⟩)], .iface 211 (.agg #[.pointer (some ⟨4, 53, none⟩)])]).run Tryz.prog w = .ok (.bool true) w := by kernel_rfl
theorem typeOfPF (v : Value) (w : World) : (ReflectliteType.typeOf #[.iface 95 v]).run Tryz.prog w = .ok (.iface 211 (.agg #[.pointer (some ⟨4, 95, none⟩)])) w := by kernel_rfl
theorem assignablePF (w : World) : (ReflectliteType.relation "AssignableTo" ReflectliteType.assignableTo #[.agg #[.pointer (some ⟨4, 95, none⟩)], .iface 211 (.agg #[.pointer (some ⟨4, 95, none⟩)])]).run Tryz.prog w = .ok (.bool true) w := by kernel_rfl
theorem valueOfPF (p : Addr) (w : World) : (ReflectliteValue.unpack (.iface 95 (.pointer (some p)))).run Tryz.prog w
    = .ok (.agg #[.pointer (some ⟨4, 95, none⟩), .pointer (some ⟨w.heap.size, 0, none⟩), .int .u64 150]) (w.alloc (.cells #[.pointer (some p)] 95)) := by kernel_rfl
theorem elemOfPP (w : World) : (Rtype.elem? 99).run Tryz.prog w = .ok (some 95) w := by kernel_rfl
theorem mkPF (p : Addr) (w : World) : (ReflectliteValue.mk 95 p ReflectliteValue.flagAddr).run Tryz.prog w = .ok (.agg #[.pointer (some ⟨4, 95, none⟩), .pointer (some p), .int .u64 406]) w := by kernel_rfl
theorem elemVPP (a p : Addr) (W : World) (ha : W.cell? a = some (.pointer (some p))) :
    (ReflectliteValue.method (ReflectliteValue.valueError "reflectlite.Value.Elem" 0) ReflectliteValue.elem #[.agg #[.pointer (some ⟨4, 99, none⟩), .pointer (some a), .int .u64 150]]).run Tryz.prog W
      = .ok (.agg #[.pointer (some ⟨4, 95, none⟩), .pointer (some p), .int .u64 406]) W := by
  rw [rlm]
  simp only [Sem.run_bind, partsPP, Result.andThen]
  simp [ReflectliteValue.elem, loadVar, isAgg, underlying, Tryz.underlying99, ha, Result.andThen, elemOfPP, mkPF]
theorem partsPFa (a : Addr) (w : World) : (ReflectliteValue.parts (.agg #[.pointer (some ⟨4, 95, none⟩), .pointer (some a), .int .u64 406])).run Tryz.prog w = .ok (some (95, a, 406)) w := by kernel_rfl
theorem partsPF (a : Addr) (w : World) : (ReflectliteValue.parts (.agg #[.pointer (some ⟨4, 95, none⟩), .pointer (some a), .int .u64 150])).run Tryz.prog w = .ok (some (95, a, 150)) w := by kernel_rfl
theorem directPF (w : World) : (Rtype.directlyAssignable 95 95).run Tryz.prog w = .ok true w := by kernel_rfl
theorem setPF (ta b : Addr) (x : Addr) (old : Value) (W : World) (hb : W.cell? b = some (.pointer (some x))) (ht : W.cell? ta = some old) (hf : W.frozen? ta = false) :
    (ReflectliteValue.set #[.agg #[.pointer (some ⟨4, 95, none⟩), .pointer (some ta), .int .u64 406], .agg #[.pointer (some ⟨4, 95, none⟩), .pointer (some b), .int .u64 150]]).run Tryz.prog W
      = .ok (.tuple #[]) (W.setCell ta (.pointer (some x))) := by
  rw [rls]
  simp only [Sem.run_bind, partsPFa, partsPF, Result.andThen]
  simp [ReflectliteValue.flagAddr, loadVar, isAgg, underlying, Tryz.underlying95, hb, Result.andThen, directPF, storeVar, Value.cells, storeCells, Addr.add]
  rw [run_store Tryz.prog W ta _ _ (by rfl)]
  simp [ht, hf]
theorem grown_setV (w : World) (tb : Nat) (x : Value) (o1 o2 : Obj) : w.grownBy (((w.setCell ⟨tb, 0, none⟩ x).alloc o1).alloc o2) (some tb) :=
  ⟨rfl, rfl, rfl, by simp [World.setCell]; omega, fun k hk hne => by
    have hz : (w.setCell ⟨tb, 0, none⟩ x).heap.size = w.heap.size := by simp [World.setCell]
    rw [Below.heap_alloc _ _ _ (by simp; omega), Below.heap_alloc _ _ _ (by omega), Below.heap_setCell _ _ _ _ (fun e => hne (by rw [e]))]⟩
theorem heap_setV (w : World) (tb : Nat) (x y : Value) (o1 o2 : Obj) (ty : TypeId) (h : w.heap[tb]? = some (.cells #[y] ty (0, 0))) : (((w.setCell ⟨tb, 0, none⟩ x).alloc o1).alloc o2).heap[tb]? = some (.cells #[x] ty (0, 0)) := by
  have hlt : tb < w.heap.size := (Array.getElem?_eq_some_iff.1 h).1
  have hz : (w.setCell ⟨tb, 0, none⟩ x).heap.size = w.heap.size := by simp [World.setCell]
  rw [Below.heap_alloc _ _ _ (by simp; omega), Below.heap_alloc _ _ _ (by omega)]
  show (w.heap.modify tb _)[tb]? = _
  rw [Array.getElem?_modify, h, if_pos rfl]
  rfl
set_option maxHeartbeats 8000000 in
theorem as_fault (p : Addr) (vb : Addr) (tb : Nat) (ty : TypeId) (old : Value) (w : World)
    (hv : w.cell? vb = some (.pointer (some ⟨tb, 0, none⟩))) (hvl : vb.block < w.heap.size) (ht : w.heap[tb]? = some (.cells #[old] ty (0, 0))) :
    Calls Tryz.prog 92 #[.iface 95 (.pointer (some p)), .iface 99 (.pointer (some ⟨tb, 0, none⟩)), .agg #[.pointer (some ⟨4, 99, none⟩), .pointer (some vb), .int .u64 150], .iface 211 (.agg #[.pointer (some ⟨4, 95, none⟩)])] w
      fun e w' => e = .returned (.bool true) ∧ w.grownBy w' (some tb) ∧ w'.heap[tb]? = some (.cells #[.pointer (some p)] ty (0, 0)) := by
  have h48 := @run_callFunc_extern Tryz.prog 89 _ (fun args => ReflectliteValue.unpack (args.getD 0 (.tuple #[]))) Tryz.func89 (by kernel_rfl) (by kernel_rfl) (by kernel_rfl) (by kernel_rfl)
  have h52 := @run_callFunc_extern Tryz.prog 82 _ ReflectliteType.typeOf Tryz.func82 (by kernel_rfl) (by kernel_rfl) (by kernel_rfl) (by kernel_rfl)
  have h79 := @run_callFunc_extern Tryz.prog 235 _ (ReflectliteType.relation "AssignableTo" ReflectliteType.assignableTo) Tryz.func235 (by kernel_rfl) (by kernel_rfl) (by kernel_rfl) (by kernel_rfl)
  have h53 := @run_callFunc_extern Tryz.prog 148 _ (ReflectliteValue.method (ReflectliteValue.valueError "reflectlite.Value.Elem" 0) ReflectliteValue.elem) Tryz.func148 (by kernel_rfl) (by kernel_rfl) (by kernel_rfl) (by kernel_rfl)
  have h54 := @run_callFunc_extern Tryz.prog 149 _ ReflectliteValue.set Tryz.func149 (by kernel_rfl) (by kernel_rfl) (by kernel_rfl) (by kernel_rfl)
  have htl : tb < w.heap.size := (Array.getElem?_eq_some_iff.1 ht).1
  have htc : w.cell? ⟨tb, 0, none⟩ = some old := by simp [World.cell?, ht]
  have htf : w.frozen? ⟨tb, 0, none⟩ = false := by simp [World.frozen?, ht]
  have tE := typeOfPF
  have mA := methodAssignableTo
  have aE := assignablePF
  have vE := valueOfPF
  have hb0 := (Below.refl w.heap.size w).alloc (Nat.le_refl _) (.cells #[.pointer (some ⟨4, 99, none⟩), .pointer (some vb), .int .u64 150] 143)
  have el := elemVPP vb ⟨tb, 0, none⟩ (w.alloc (.cells #[.pointer (some ⟨4, 99, none⟩), .pointer (some vb), .int .u64 150] 143)) ((hb0.cell (p := vb) hvl).trans hv)
  have st := setPF ⟨tb, 0, none⟩ ⟨w.heap.size + 1, 0, none⟩ p old ((w.alloc (.cells #[.pointer (some ⟨4, 99, none⟩), .pointer (some vb), .int .u64 150] 143)).alloc (.cells #[.pointer (some p)] 95))
    (by rw [World.cell?_alloc_at _ _ _ _ (by simp)]; rfl)
    (((hb0.alloc (by simp) _).cell (p := ⟨tb, 0, none⟩) htl).trans htc) (((hb0.alloc (by simp) _).frozen (p := ⟨tb, 0, none⟩) htl).trans htf)
  go_enter Tryz.func92, Tryz.ntmps92
  go_wp2_with fail
  refine wp_loop_rounds 1 ?_
  rw [rounds_succ]
  go_wp2_with fail
  go_ret
  exact ⟨rfl, grown_setV w tb _ _ _, heap_setV w tb _ _ _ _ ty ht⟩
set_option maxHeartbeats 8000000 in
theorem As_fault (p : Addr) (tb : Nat) (ty : TypeId) (old : Value) (w : World) (hg : w.cell? ⟨0, 0, none⟩ = some (.iface 211 (.agg #[.pointer (some ⟨4, 53, none⟩)]))) (ht : w.heap[tb]? = some (.cells #[old] ty (0, 0))) :
    Calls Tryz.prog 46 #[.iface 95 (.pointer (some p)), .iface 99 (.pointer (some ⟨tb, 0, none⟩))] w
      fun e w' => e = .returned (.bool true) ∧ w.grownBy w' (some tb) ∧ w'.heap[tb]? = some (.cells #[.pointer (some p)] ty (0, 0)) := by
  have h48 := @run_callFunc_extern Tryz.prog 89 _ (fun args => ReflectliteValue.unpack (args.getD 0 (.tuple #[]))) Tryz.func89 (by kernel_rfl) (by kernel_rfl) (by kernel_rfl) (by kernel_rfl)
  have h49 := @run_callFunc_extern Tryz.prog 90 _ (ReflectliteValue.methodAny (ReflectliteValue.valueError "reflectlite.Value.Type" 0) (fun t _ _ _ => ReflectliteType.toType t)) Tryz.func90 (by kernel_rfl) (by kernel_rfl) (by kernel_rfl) (by kernel_rfl)
  have h50 := @run_callFunc_extern Tryz.prog 91 _ (ReflectliteValue.method (ReflectliteValue.valueError "reflectlite.Value.IsNil" 0) ReflectliteValue.isNil) Tryz.func91 (by kernel_rfl) (by kernel_rfl) (by kernel_rfl) (by kernel_rfl)
  have hK := @run_callFunc_extern Tryz.prog 223 _ (ReflectliteType.abiMethod fun t => do pure (.int .u8 (← Rtype.kind t))) Tryz.func223 (by kernel_rfl) (by kernel_rfl) (by kernel_rfl) (by kernel_rfl)
  have hE := @run_callFunc_extern Tryz.prog 237 _ (ReflectliteType.method ReflectliteType.elem) Tryz.func237 (by kernel_rfl) (by kernel_rfl) (by kernel_rfl) (by kernel_rfl)
  have hI := @run_callFunc_extern Tryz.prog 238 _ (ReflectliteType.relation "Implements" ReflectliteType.implements_) Tryz.func238 (by kernel_rfl) (by kernel_rfl) (by kernel_rfl) (by kernel_rfl)
  have f6 := valueOfPP
  have f7 := typePP
  have mK := methodKind
  have mE := methodElem
  have mI := methodImplements
  have k27 := kindPP
  have k25 := kindPF
  have e27 := elemPP
  have i25 := implementsPF
  have hlt : 0 < w.heap.size := World.block_lt_of_cell? w _ hg
  have htl : tb < w.heap.size := (Array.getElem?_eq_some_iff.1 ht).1
  have hb0 := (Below.refl w.heap.size w).alloc (Nat.le_refl _) (.cells #[.pointer (some ⟨tb, 0, none⟩)] 99)
  have hb1 := hb0.alloc (by simp) (.cells #[.pointer (some ⟨4, 99, none⟩), .pointer (some ⟨w.heap.size, 0, none⟩), .int .u64 150] 143)
  have n8 := isNilPP ⟨w.heap.size, 0, none⟩ ⟨tb, 0, none⟩ ((w.alloc (.cells #[.pointer (some ⟨tb, 0, none⟩)] 99)).alloc (.cells #[.pointer (some ⟨4, 99, none⟩), .pointer (some ⟨w.heap.size, 0, none⟩), .int .u64 150] 143)) (by simp)
  have hg2 := (hb1.cell (p := ⟨0, 0, none⟩) hlt).trans hg
  go_enter Tryz.func46, Tryz.ntmps46
  go_wp2_with fail
  have hs1 := hb1.size
  refine (as_fault p ⟨w.heap.size, 0, none⟩ tb ty old _ (by simp) (by simp; omega) ((hb1.block tb htl).trans ht)).mono ?_
  rintro e w' ⟨rfl, hgr, hcell⟩
  have hfin : w.grownBy w' (some tb) := ⟨hgr.os.trans hb1.os, hgr.tape.trans hb1.tape, hgr.output.trans hb1.output, by have := hgr.size; omega, fun k hk h1 => (hgr.block k (by omega) h1).trans (hb1.block k hk)⟩
  go_wp2_with fail
  go_ret
  exact ⟨rfl, hfin, hcell⟩
end Go.Proofs.YtepcpdionlfkhaaGreatDoor
namespace Go.Proofs.YtepcpdionlfkhaaGreatDoor
open Go Go.RowKit
set_option linter.unusedVariables false
set_option linter.unusedSimpArgs false
theorem GRun.ifcCall {P : Program} {fid : FuncId} {all : List Oper} {o1 o2 : Oper} {os : List Oper} {σ : St} {k : St → Prop} {t : TypeId} {u : TypeDesc} {x f : Operand} {args : Array Operand} {tys : Array TypeId} {id off d1 : Nat} {H' : Hp} {r : SV} {nx' : Nat}
    (h1 : o1.op = .makeInterface t x) (h1d : o1.dst = some d1) (h2 : o2.op = .call { callee := .value f, args := args, argTypes := tys }) (hu : P.underlying t = some u) (hi : ifaceD u = false) (hbody : bodyOk P fid = true)
    (hc : guardB all σ.env o1 = some true ∧ bdst σ o1 = true ∧ evalS σ.env x = .c (.own id off))
    (hc2 : guardB all (putE σ.env (some d1) (.c .any)) o2 = some true ∧ bdst σ o2 = true ∧ evalS (putE σ.env (some d1) (.c .any)) f = .c (.d (.fn (.func fid) [])))
    (hcall : ∀ F K0 g a w b, Rel F K0 g ⟨putE σ.env (some d1) (.c .any), σ.H, σ.nx, σ.sz, σ.fx⟩ a w → g.β id = some b → a.eval (.tmp d1) = .iface t (.pointer (some ⟨b, off, none⟩)) → Calls P fid (args.map a.eval) w fun e w' => ∃ v g', e = .returned v ∧ RelH F K0 g' H' w' ∧ GLe g σ.H g' H' ∧ RepS g' H' r v) (hdf : ∀ i ∈ σ.fx.dfs, H' i = σ.H i)
    (h : GRun P all os ⟨putE (putE σ.env (some d1) (.c .any)) o2.dst r, H', nx', σ.sz, σ.fx⟩ k) : GRun P all (o1 :: o2 :: os) σ k := by
  intro F K0 g a w Q hr hk
  obtain ⟨hg, hd, hx⟩ := hc
  obtain ⟨hg2, hd2, hf⟩ := hc2
  have hv := evalS_rep hr x
  rw [hx] at hv
  obtain ⟨b, hb, hv, _⟩ := hv
  have hw := guard_wanted (a := a) (fun _ _ _ d _ _ _ => hr.env d) hg
  unfold wpListIn
  rw [hw]
  simp only [if_true]
  refine ⟨fun _ _ => trivial, ?_⟩
  rw [Oper.semAt_eq _ _ _ (by intro c hc; rw [h1] at hc; cases hc)]
  have hex : (execOp a.eval o1).run P w = .ok (.value (.iface t (.pointer (some ⟨b, off, none⟩)))) w := by
    unfold execOp; rw [h1]
    have := run_makeIface hu hi (.pointer (some ⟨b, off, none⟩)) w
    simp [hv, this, Result.andThen]
  rw [hex]
  have hlt : d1 < σ.sz := by have hd' := bdst_ok hd; unfold dstOk at hd'; rw [h1d] at hd'; exact hd'
  have hupon : ∀ X : Act → World → Prop, X (a.put o1.dst (.iface t (.pointer (some ⟨b, off, none⟩)))) w → Oper.uponIn (fen F.ro) 0 P o1 a X Q (.ok (.value (.iface t (.pointer (some ⟨b, off, none⟩)))) w) := fun X hX => hX
  refine hupon _ ?_
  clear hupon
  rw [h1d]
  have hr1 : Rel F K0 g ⟨putE σ.env (some d1) (.c .any), σ.H, σ.nx, σ.sz, σ.fx⟩ (a.put (some d1) (.iface t (.pointer (some ⟨b, off, none⟩)))) w := by
    refine ⟨hr.mem, fun t' => ?_, by rw [put_size]; exact hr.size, ?_, hr.ln, hr.rd, hr.nodup, hr.lt⟩
    · exact env_put (d := some d1) (x := .c .any) hr.env trivial hr.size (fun t ht => by cases ht; exact hlt) t'
    · show DefsRel _ _ σ.fx.dfs _
      rw [put_def]; exact hr.defers
  have hev : (a.put (some d1) (.iface t (.pointer (some ⟨b, off, none⟩)))).eval (.tmp d1) = .iface t (.pointer (some ⟨b, off, none⟩)) := by
    show (a.put (some d1) _).tmps.getD d1 undef = _
    rw [put_getD, if_pos ⟨rfl, by rw [hr.size]; exact hlt⟩]
  generalize a.put (some d1) (.iface t (.pointer (some ⟨b, off, none⟩))) = a1 at *
  have hcl := hcall F K0 g a1 w b hr1 hb hev
  have hw2 := guard_wanted (a := a1) (fun _ _ _ d _ _ _ => hr1.env d) hg2
  unfold wpListIn
  rw [hw2]
  simp only [if_true]
  have hnd : ∀ c, o2.op ≠ .defer c := by intro c hc; rw [h2] at hc; cases hc
  have hfv : a1.eval f = .func (.func fid) #[] #[] := by
    have h0 := evalS_rep hr1 f
    rw [hf] at h0
    have h0 : Rep g.K (.fn (.func fid) []) (a1.eval f) := h0
    generalize a1.eval f = v at h0
    cases h0 with
    | fn hl hv =>
      rename_i vs
      cases vs with
      | nil => rfl
      | cons _ _ => simp at hl
  have hex2 : (execOp a1.eval o2).run P w = .ok (.enter fid (args.map a1.eval)) w := by
    unfold execOp
    rw [h2]
    unfold bodyOk at hbody
    split at hbody
    · rename_i fn hfn
      simp only [Bool.and_eq_true, Bool.not_eq_true'] at hbody
      simp only [resolve, hfv, Deferred.ofValue]
      have hb1 : ¬ fn.body = none := by intro e; rw [e] at hbody; simp at hbody
      have hb2 : ¬ fn.name = "runtime.NumGoroutine" := by simpa using hbody.1
      simp [invoke, callFunc, hfn, hb1, hb2]
    · cases hbody
  refine ⟨fun _ _ => trivial, ?_⟩
  rw [Oper.semAt_eq _ _ _ hnd, hex2]
  simp only [Oper.uponIn]
  refine ⟨fen_depth, callsIn_fen (hcl.mono ?_)⟩
  rintro e w' ⟨v, g', rfl, hm, hle, hvv⟩
  refine h F K0 g' _ w' Q ⟨hm, fun t => ?_, by rw [put_size]; exact hr1.size, ?_, hr1.ln, hr1.rd, hr1.nodup, hr1.lt⟩ hk
  · have hd' := bdst_ok hd2
    unfold dstOk at hd'
    exact env_put (d := o2.dst) (fun t => (hr1.env t).mono hle) hvv hr1.size (fun t ht => by rw [ht] at hd'; exact hd') t
  · show DefsRel _ _ σ.fx.dfs _
    rw [put_def]
    exact DefsRel.mono' hle hdf hr1.defers
end Go.Proofs.YtepcpdionlfkhaaGreatDoor
namespace Go.Proofs.YtepcpdionlfkhaaGreatDoor
open Go Go.RowKit
set_option maxHeartbeats 8000000
set_option maxRecDepth 100000
set_option linter.unusedVariables false
set_option linter.unusedSimpArgs false
def codeOk (n : Int) : Prop := n = 2 ∨ n = 3 ∨ n = 30 ∨ n = 31 ∨ n = 32
def numS (n : Int) : List UInt8 := if n = 2 then [50] else if n = 3 then [51] else if n = 30 then [51, 48] else if n = 31 then [51, 49] else [51, 50]
set_option maxHeartbeats 4000000 in
theorem itoa_code {n : Int} (h : codeOk n) (w : World) : Calls Tryz.prog 93 #[.int .i64 n] w fun e w' => e = .returned (.string ⟨(numS n).toArray⟩) ∧ w = w' := by
  rcases h with rfl | rfl | rfl | rfl | rfl
  all_goals
    go_enter Tryz.func93, Tryz.ntmps93
    go_wp2
    go_ret
    exact ⟨rfl, rfl⟩
theorem itoa_fun {n : Int} (h : codeOk n) : Fun Tryz.prog 93 [int n] (str (numS n)) := by
  refine ⟨by kernel_rfl, fun K w vs hB hk hL => ?_⟩
  obtain ⟨v, rfl, hv⟩ := one_arg hL
  cases hv
  refine (itoa_code h w).mono ?_
  rintro e w' ⟨rfl, rfl⟩
  exact ⟨_, K, rfl, Ext.refl _ _, hk, Rep.val _, Below.refl _ _⟩
theorem numS_len (n : Int) : (numS n).length ≤ 2 := by unfold numS; repeat' split
                                                       all_goals simp
def errS (n : Int) : List UInt8 := [101, 114, 114, 111, 114, 32] ++ numS n
theorem errno_fun {n : Int} (h : codeOk n) : Fun Tryz.prog 48 [int n] (str (errS n)) := by
  have c1 := itoa_fun h
  have hl := numS_len n
  have hh : [(101 : UInt8), 114, 114, 111, 114, 32].length + (numS n).length ≤ 9223372036854775807 := by simp; omega
  (refine Fun.of_body Tryz.func48 rfl rfl Tryz.ntmps48 Tryz.results48 (by simp) ?_)
  (repeat (first | apply Wp.skip | apply Wp.exit | apply Wp.ret | apply Wp.block | apply Wp.label | ((first | refine Wp.sreg (fun K hK => ?_) | refine Wp.reg (fun K hK => ?_) | refine Wp.sdrw mixed (fun K hK => ?_) | refine Wp.drw mixed (fun K hK => ?_) | refine Wp.condG (fun K hK hF => ?_)); (repeat (revert hK; intro hK; simp (maxSteps := 2000000) (disch := omega) only [RUN, RUNB, aop, ofV, SV.ofD, oWn, Nat.reduceBEq, Nat.reduceLT, sbin_add hh]; (first | (refine hK _ ?_; clear hK K) | (refine ⟨by kernel_rfl, hK _ ?_⟩; clear hK K) | (refine hK ?_; clear hK hF K) | (refine hF ?_; clear hK hF K) | refine bcf (by assumption) ?_ | refine bca (by assumption) ?_))); fail_if_success (revert hK; intro hK)) | apply Wp.seq))
  simp (maxSteps := 2000000) (disch := omega) only [RUN, RUNB, rD0, bQ0, errS]
def faultS (nm : List UInt8) (n : Int) : List UInt8 := [102, 105, 108, 101, 58, 32] ++ nm ++ [58, 32] ++ errS n
abbrev fptr (op : Int) (nm : List UInt8) (n : Int) : D := .ptr [i8 op, str nm, int n] 0
theorem errS_len (n : Int) : (errS n).length ≤ 8 := by have := numS_len n; simp [errS]; omega
theorem fptr_nil (x y : Operand) (cs : List D) (o : Nat) : aBin Tryz.prog .eql 95 x y (.c (.d (.ptr cs o))) (.c (.d (.val (.pointer none)))) = some (Res.pure (vb false)) := by
  simp [aBin, SV.exact, CV.exact, Tryz.underlying95, nD0]
theorem faultErr_fun {n : Int} (h : codeOk n) (op : Int) (nm : List UInt8) (hn : nm.length ≤ 1000000) : Fun Tryz.prog 47 [fptr op nm n] (str (faultS nm n)) := by
  have c1 := errno_fun h
  have hl := errS_len n
  have h1 : [(102 : UInt8), 105, 108, 101, 58, 32].length + nm.length ≤ 9223372036854775807 := by simp; omega
  have h2 : ((102 : UInt8) :: 105 :: 108 :: 101 :: 58 :: 32 :: nm).length + [(58 : UInt8), 32].length ≤ 9223372036854775807 := by simp; omega
  have h3 : ((102 : UInt8) :: 105 :: 108 :: 101 :: 58 :: 32 :: (nm ++ [(58 : UInt8), 32])).length + (errS n).length ≤ 9223372036854775807 := by simp; omega
  (refine Fun.of_body Tryz.func47 rfl rfl Tryz.ntmps47 Tryz.results47 (by simp) ?_)
  (repeat (first | apply Wp.skip | apply Wp.exit | apply Wp.ret | apply Wp.block | apply Wp.label | ((first | refine Wp.sreg (fun K hK => ?_) | refine Wp.reg (fun K hK => ?_) | refine Wp.sdrw mixed (fun K hK => ?_) | refine Wp.drw mixed (fun K hK => ?_) | refine Wp.condG (fun K hK hF => ?_)); (repeat (revert hK; intro hK; simp (maxSteps := 2000000) (disch := omega) only [RUN, TY, RUNB, aop, ofV, SV.ofD, aLd, aFd, oWn, pLk, Nat.reduceBEq, Nat.reduceAdd, Nat.reduceLT, Nat.reduceLeDiff, fptr_nil, sbin_add h1, sbin_add h2, sbin_add h3]; (first | (refine hK _ ?_; clear hK K) | (refine ⟨by kernel_rfl, hK _ ?_⟩; clear hK K) | (refine hK ?_; clear hK hF K) | (refine hF ?_; clear hK hF K) | refine bcf (by assumption) ?_ | refine bca (by assumption) ?_))); fail_if_success (revert hK; intro hK)) | apply Wp.seq))
  simp (maxSteps := 2000000) (disch := omega) only [RUN, RUNB, rD0, bQ0, faultS]
theorem fptr_inv {K : Know} {op n : Int} {nm : List UInt8} {v : Value} (h : Rep K (fptr op nm n) v) : ∃ b o, v = .pointer (some ⟨b, o, none⟩) ∧ K b (o + 2) = some (.int .i64 n) := by
  obtain ⟨b, o, hv, hk⟩ := fault_inv (Rep.iface (t := 95) h)
  simp only [Value.iface.injEq, true_and] at hv
  exact ⟨b, o, hv, hk⟩
set_option maxHeartbeats 4000000 in
theorem inner_walk (b o : Nat) (n : Int) (w : World) (hc : w.cell? ⟨b, o + 2, none⟩ = some (.int .i64 n)) :
    Calls Tryz.prog 49 #[.pointer (some ⟨b, o, none⟩)] w fun e w' => e = .returned (.int .i64 n) ∧ w = w' := by
  have t1 := taEE
  go_enter Tryz.func49, Tryz.ntmps49
  go_wp2_with fail
  refine (unwF ⟨b, o, none⟩ n _ hc rfl).mono ?_
  rintro e w' ⟨rfl, rfl⟩
  go_wp2_with fail
  go_ret
  exact ⟨rfl, rfl⟩
theorem inner_fun (op n : Int) (nm : List UInt8) : Fun Tryz.prog 49 [fptr op nm n] (int n) := by
  refine ⟨by kernel_rfl, fun K w vs hB hk hL => ?_⟩
  obtain ⟨v, rfl, hv⟩ := one_arg hL
  obtain ⟨b, o, rfl, hkk⟩ := fptr_inv hv
  refine (inner_walk b o n w (hk _ _ _ hkk)).mono ?_
  rintro e w' ⟨rfl, rfl⟩
  exact ⟨_, K, rfl, Ext.refl _ _, hk, Rep.val _, Below.refl _ _⟩
/-- errors.As puts the fault into a box of one's own. -/
theorem As_box {F : Fr} {K0 : Know} {g : G} {σ : St} {a : Act} {w : World} {id b : Nat} {op n : Int} {nm : List UInt8} {old : CV} {e u : Operand} (hr : Rel F K0 g σ a w) (hb : g.β id = some b) (hu : a.eval u = .iface 99 (.pointer (some ⟨b, 0, none⟩))) (hid : σ.H id = some (.cells [old])) (he : evalS σ.env e = .c (.d (faultD op nm n))) :
    Calls Tryz.prog 46 (#[e, u].map a.eval) w fun e w' => ∃ x g', e = .returned x ∧ RelH F K0 g' (upd σ.H id (some (.cells [.d (fptr op nm n)]))) w' ∧ GLe g σ.H g' (upd σ.H id (some (.cells [.d (fptr op nm n)]))) ∧ RepS g' (upd σ.H id (some (.cells [.d (fptr op nm n)]))) (vb true) x := by
  have hv := evalS_rep hr e
  rw [he] at hv
  have hB := hr.mem.glob
  have hv : Rep g.K (faultD op nm n) (a.eval e) := hv
  rw [show (#[e, u].map a.eval) = #[a.eval e, a.eval u] by simp, hu]
  generalize a.eval e = v at hv ⊢
  cases hv with
  | iface hv =>
  obtain ⟨pb, po, rfl, _⟩ := fptr_inv hv
  obtain ⟨b', vs, ty, hb', hheap, hrep, h1, hkn⟩ := hr.mem.holds id _ hid
  rw [hb] at hb'; cases hb'
  obtain ⟨u, rfl⟩ : ∃ u, vs = [u] := by
    have := hrep.1
    match vs, this with
    | [u], _ => exact ⟨u, rfl⟩
  have hg : Glob w := glob_of (fun _ _ _ h => hr.mem.ext.1 _ _ _ (hB _ _ _ h)) hr.mem.kw
  obtain ⟨h2, h3⟩ := RelH.write (cs' := [.d (fptr op nm n)]) (vs' := [.pointer (some ⟨pb, po, none⟩)]) hr.mem hid hb hheap hkn ⟨rfl, fun j x v hx hv' => by
    cases j with
    | zero => simp at hx hv'; subst hx hv'; exact hv
    | succ j => simp at hx⟩ (fun u hu => by simp at hu; subst hu; rfl)
  refine (As_fault ⟨pb, po, none⟩ b ty u w hg hheap).mono ?_
  rintro e w' ⟨rfl, hgr, hcell⟩
  have hblt : b < w.heap.size := (Array.getElem?_eq_some_iff.1 hheap).1
  have hset := setRow_heap w b #[u] #[.pointer (some ⟨pb, po, none⟩)] ty (0, 0) hheap
  have hszw : (w.setRow b #[.pointer (some ⟨pb, po, none⟩)]).heap.size = w.heap.size := by simp [World.setRow]
  have hbel : Below (w.setRow b #[.pointer (some ⟨pb, po, none⟩)]).heap.size (w.setRow b #[.pointer (some ⟨pb, po, none⟩)]) w' := by
    refine ⟨hgr.os, hgr.tape, hgr.output, by rw [hszw]; exact hgr.size, fun k hk => ?_⟩
    rw [hszw] at hk
    by_cases hkb : k = b
    · subst hkb; rw [hcell]; exact hset.symm
    · rw [hgr.block k hk (by simpa using hkb)]; exact (setRow_other w b k _ hkb).symm
  have h4 := h2.grow hbel (Ext.refl _ _) (kw_grown h2.kw hbel)
  exact ⟨_, g, rfl, h4, h3, Rep.val _⟩
end Go.Proofs.YtepcpdionlfkhaaGreatDoor
namespace Go.Proofs.YtepcpdionlfkhaaGreatDoor
open Go Go.RowKit
set_option maxHeartbeats 8000000
set_option maxRecDepth 100000
set_option linter.unusedVariables false
set_option linter.unusedSimpArgs false
theorem told_nil : Fun Tryz.prog 19 [.val .nilIface, i8 0, str [], int 0] (boo true) := by
  (refine Fun.of_body Tryz.func19 rfl rfl Tryz.ntmps19 Tryz.results19 (by simp) ?_)
  (repeat (first | apply Wp.skip | apply Wp.exit | apply Wp.ret | apply Wp.block | apply Wp.label | ((first | refine Wp.sreg (fun K hK => ?_) | refine Wp.reg (fun K hK => ?_) | refine Wp.sdrw mixed (fun K hK => ?_) | refine Wp.drw mixed (fun K hK => ?_) | refine Wp.condG (fun K hK hF => ?_)); (repeat (revert hK; intro hK; simp (maxSteps := 2000000) (disch := omega) only [RUN, TY, RUNB, aop, ofV, SV.ofD, Nat.reduceBEq, Nat.reduceLT]; (first | (refine hK _ ?_; clear hK K) | (refine ⟨by kernel_rfl, hK _ ?_⟩; clear hK K) | (refine hK ?_; clear hK hF K) | (refine hF ?_; clear hK hF K) | refine bcf (by assumption) ?_ | refine bca (by assumption) ?_))); fail_if_success (revert hK; intro hK)) | apply Wp.seq))
  simp (maxSteps := 2000000) (disch := omega) only [RUN, RUNB, rD0, bQ0, tQ0]
theorem told_fun {op n : Int} {nm : List UInt8} (h : codeOk n) (hn : nm.length ≤ 1000000) : Fun Tryz.prog 19 [faultD op nm n, i8 op, str nm, int n] (boo true) := by
  have e0 : (n == 0) = false := by rcases h with rfl | rfl | rfl | rfl | rfl <;> rfl
  have c1 := is_fault op n n nm
  rw [show (n == n) = true by simp] at c1
  have c2 := code_fault op n nm
  have c3 := faultErr_fun h op nm hn
  have c4 := errno_fun h
  have c5 := inner_fun op n nm
  have hl := errS_len n
  have h1 : [(102 : UInt8), 105, 108, 101, 58, 32].length + nm.length ≤ 9223372036854775807 := by simp; omega
  have h2 : ((102 : UInt8) :: 105 :: 108 :: 101 :: 58 :: 32 :: nm).length + [(58 : UInt8), 32].length ≤ 9223372036854775807 := by simp; omega
  have h3 : ((102 : UInt8) :: 105 :: 108 :: 101 :: 58 :: 32 :: (nm ++ [(58 : UInt8), 32])).length + (errS n).length ≤ 9223372036854775807 := by simp; omega
  (refine Fun.of_body Tryz.func19 rfl rfl Tryz.ntmps19 Tryz.results19 (by simp) ?_)
  (repeat (first | apply Wp.skip | apply Wp.exit | apply Wp.ret | apply Wp.block | apply Wp.label | ((first | refine Wp.sreg (fun K hK => ?_) | refine Wp.reg (fun K hK => ?_) | refine Wp.sdrw mixed (fun K hK => ?_) | refine Wp.drw mixed (fun K hK => ?_) | refine Wp.condG (fun K hK hF => ?_)); (repeat (revert hK; intro hK; simp (maxSteps := 2000000) (disch := omega) only [RUN, TY, RUNB, aop, ofV, SV.ofD, aIf, Value.oneCell', CV.toD0, oWn, Nat.reduceBEq, Nat.reduceAdd, Nat.reduceLT, e0]; (first | (refine hK _ ?_; clear hK K) | (refine ⟨by kernel_rfl, hK _ ?_⟩; clear hK K) | (refine hK ?_; clear hK hF K) | (refine hF ?_; clear hK hF K) | refine bcf (by assumption) ?_ | refine bca (by assumption) ?_))); fail_if_success (revert hK; intro hK)) | apply Wp.seq))
  (first | refine Wp.sregG ?_ | refine Wp.regG ?_ | (refine Wp.seq ?_; first | refine Wp.sregG ?_ | refine Wp.regG ?_))
  (refine GRun.at 1 (fun K hK => ?_); simp (maxSteps := 2000000) (disch := omega) only [RUN, RUNB, aop, SV.ofD, Nat.reduceBEq, Nat.reduceAdd, Nat.reduceLT]; refine hK _ ?_; clear hK K)
  refine GRun.ifcCall (fid := 46) (id := 0) (off := 0) (d1 := 15) (H' := upd (upd (entry [faultD op nm n, i8 op, str nm, int n] 73).H 0 (some (.cells [.d (.val (.pointer none))]))) 0 (some (.cells [.d (fptr op nm n)]))) (nx' := 1) (r := vb true) rfl rfl rfl Tryz.underlying99 rfl (by kernel_rfl) (by simp (maxSteps := 2000000) (disch := omega) only [RUN, RUNB, Nat.reduceBEq, Nat.reduceLT]) (by simp (maxSteps := 2000000) (disch := omega) only [RUN, RUNB, Nat.reduceLT]) (fun F K0 g a w b hr hb hev => ?_) ?_ ?_
  · exact As_box (old := .d (.val (.pointer none))) (e := .tmp 14) (u := .tmp 15) hr hb hev (by simp (maxSteps := 2000000) (disch := omega) only [RUN]) (by simp (maxSteps := 2000000) (disch := omega) only [RUN, RUNB, Nat.reduceBEq])
  · intro i hi; cases hi
  (refine GRun.done (fun K hK => ?_); simp (maxSteps := 2000000) (disch := omega) only [RUN, TY, RUNB, aop, ofV, aLd, CV.exact, Nat.reduceBEq, Nat.reduceAdd, Nat.reduceLT, fptr_nil]; refine hK _ ?_; clear hK K)
  (repeat (first | apply Wp.skip | apply Wp.exit | apply Wp.ret | apply Wp.block | apply Wp.label | ((first | refine Wp.sreg (fun K hK => ?_) | refine Wp.reg (fun K hK => ?_) | refine Wp.sdrw mixed (fun K hK => ?_) | refine Wp.drw mixed (fun K hK => ?_) | refine Wp.condG (fun K hK hF => ?_)); (repeat (revert hK; intro hK; simp (maxSteps := 2000000) (disch := omega) only [RUN, TY, RUNB, aop, ofV, SV.ofD, aLd, aFd, aIf, CV.exact, CV.toD0, oWn, pLk, Nat.reduceBEq, Nat.reduceAdd, Nat.reduceLT, Nat.reduceLeDiff, sbin_add h1, sbin_add h2, sbin_add h3, faultS, List.append_assoc]; (first | (refine hK _ ?_; clear hK K) | (refine ⟨by kernel_rfl, hK _ ?_⟩; clear hK K) | (refine hK ?_; clear hK hF K) | (refine hF ?_; clear hK hF K) | refine bcf (by assumption) ?_ | refine bca (by assumption) ?_))); fail_if_success (revert hK; intro hK)) | apply Wp.seq))
  simp (maxSteps := 2000000) (disch := omega) only [RUN, RUNB, rD0, bQ0]
end Go.Proofs.YtepcpdionlfkhaaGreatDoor
