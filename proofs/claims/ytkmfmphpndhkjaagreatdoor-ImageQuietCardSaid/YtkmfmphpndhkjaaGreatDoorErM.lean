/- The abstract machine (ErA, ErB, ErC, ErD). -/
import Derived.Test.YtkmfmphpndhkjaaGreatDoorProg
import Derived.Test.YtkmfmphpndhkjaaGreatDoorMem
import Derived.WalkKit
import Derived.WalkSpells
import Derived.WalkLawsBesides
import Derived.LaidEql
import Derived.Stop.Asserts
import Derived.RowKitTokens
import Derived.Test.YtkmfmphpndhkjaaGreatDoorMacB
namespace Go.Proofs.YtkmfmphpndhkjaaGreatDoor
open Go.RowKit Go.Extern.Stop Go.Stop Go.Extern
set_option maxRecDepth 100000
set_option linter.unusedVariables false
set_option linter.unusedSimpArgs false
/- P: *Errno 104,E: Errno 41,R: the refusal's pointer type -/
theorem aRf (t:Addr) (w:World):(ReflectliteValue.unpack (.iface 104 (.pointer (some t)))).run Tryz.prog w
  = .ok (.agg #[.pointer (some ⟨1,104,none⟩),.pointer (some ⟨w.heap.size,0,none⟩),.int .u64 150]) (w.alloc (.cells #[.pointer (some t)] 104)):=by kernel_rfl
theorem aY3 (a : Addr) (w : World) : (ReflectliteValue.methodAny (ReflectliteValue.valueError "reflectlite.Value.Type" 0) (fun t _ _ _ => ReflectliteType.toType t) #[.agg #[.pointer (some ⟨1, 104, none⟩), .pointer (some a), .int .u64 150]]).run Tryz.prog w
  = .ok (.iface 190 (.agg #[.pointer (some ⟨1,104,none⟩)])) w:=by kernel_rfl
theorem aKg (h : Value) (w : World) : (Go.method 406 190 (.agg #[h]) "Kind").run Tryz.prog w = .ok (218, h) w := by kernel_rfl
theorem aW0 (w:World):((ReflectliteType.abiMethod fun t=>(fun a:Nat=>Value.int IntKind.u8 (a:Int)) <$> Rtype.kind t) #[.pointer (some ⟨1,104,none⟩)]).run Tryz.prog w = .ok (.int .u8 22) w:=by kernel_rfl
theorem aVz (w:World):((ReflectliteType.abiMethod fun t=>(fun a:Nat=>Value.int IntKind.u8 (a:Int)) <$> Rtype.kind t) #[.pointer (some ⟨1,41,none⟩)]).run Tryz.prog w = .ok (.int .u8 2) w:=by kernel_rfl
theorem rlm (z:Sem Value) (f:TypeId→Addr→Nat→Nat→Sem Value) (v:Value) :
  ReflectliteValue.method z f #[v]=(do match ← ReflectliteValue.parts v with|none=>z|some (t,a,fl)=>f t a fl (fl % 32)):=rfl
theorem aQa (a:Addr) (w:World):(ReflectliteValue.parts (.agg #[.pointer (some ⟨1,104,none⟩),.pointer (some a),.int .u64 150])).run Tryz.prog w = .ok (some (104,a,150)) w:=by kernel_rfl
theorem aUj (a p:Addr) (W:World) (ha:W.cell? a=some (.pointer (some p))) :
  (ReflectliteValue.method (ReflectliteValue.valueError "reflectlite.Value.IsNil" 0) ReflectliteValue.isNil #[.agg #[.pointer (some ⟨1, 104, none⟩), .pointer (some a), .int .u64 150]]).run Tryz.prog W = .ok (.bool false) W := by
 rw[rlm]
 simp only[Sem.run_bind,aQa,Result.andThen]
 simp[ReflectliteValue.isNil,loadVar,isAgg,underlying,Tryz.underlying104,ha,Result.andThen]
theorem aKf (h : Value) (w : World) : (Go.method 406 190 (.agg #[h]) "Elem").run Tryz.prog w = .ok (230, .agg #[h]) w := by kernel_rfl
theorem xC (h : Value) (w : World) : (Go.method 406 190 (.agg #[h]) "Implements").run Tryz.prog w = .ok (231, .agg #[h]) w := by kernel_rfl
theorem tT (h : Value) (w : World) : (Go.method 406 190 (.agg #[h]) "AssignableTo").run Tryz.prog w = .ok (228, .agg #[h]) w := by kernel_rfl
theorem aVq (w:World):(ReflectliteType.method ReflectliteType.elem #[.agg #[.pointer (some ⟨1,104,none⟩)]]).run Tryz.prog w = .ok (.iface 190 (.agg #[.pointer (some ⟨1,41,none⟩)])) w:=by kernel_rfl
theorem aHk (w : World) : (ReflectliteType.relation "Implements" ReflectliteType.implements_ #[.agg #[.pointer (some ⟨1, 41, none⟩)], .iface 190 (.agg #[.pointer (some ⟨1, 77, none⟩)])]).run Tryz.prog w = .ok (.bool true) w := by kernel_rfl
theorem aM3 (v:Value) (w:World):(ReflectliteType.typeOf #[.iface 41 v]).run Tryz.prog w = .ok (.iface 190 (.agg #[.pointer (some ⟨1,41,none⟩)])) w:=by kernel_rfl
theorem aG9 (w : World) : (ReflectliteType.relation "AssignableTo" ReflectliteType.assignableTo #[.agg #[.pointer (some ⟨1, 41, none⟩)], .iface 190 (.agg #[.pointer (some ⟨1, 41, none⟩)])]).run Tryz.prog w = .ok (.bool true) w := by kernel_rfl
theorem aRe (n:Int) (w:World):(ReflectliteValue.unpack (.iface 41 (.int .i64 n))).run Tryz.prog w
  = .ok (.agg #[.pointer (some ⟨1,41,none⟩),.pointer (some ⟨w.heap.size,0,none⟩),.int .u64 130]) (w.alloc (.cells #[.int .i64 n] 41)):=by kernel_rfl
theorem aSa (w:World):(Rtype.elem? 104).run Tryz.prog w = .ok (some 41) w:=by kernel_rfl
theorem mkE (p:Addr) (w:World):(ReflectliteValue.mk 41 p ReflectliteValue.flagAddr).run Tryz.prog w = .ok (.agg #[.pointer (some ⟨1,41,none⟩),.pointer (some p),.int .u64 386]) w:=by kernel_rfl
theorem aUg (a p:Addr) (W:World) (ha:W.cell? a=some (.pointer (some p))) :
  (ReflectliteValue.method (ReflectliteValue.valueError "reflectlite.Value.Elem" 0) ReflectliteValue.elem #[.agg #[.pointer (some ⟨1, 104, none⟩), .pointer (some a), .int .u64 150]]).run Tryz.prog W
   = .ok (.agg #[.pointer (some ⟨1,41,none⟩),.pointer (some p),.int .u64 386]) W:=by
 rw[rlm]
 simp only[Sem.run_bind,aQa,Result.andThen]
 simp[ReflectliteValue.elem,loadVar,isAgg,underlying,Tryz.underlying104,ha,Result.andThen,aSa,mkE]
theorem rls (v x:Value):ReflectliteValue.set #[v,x]=(do
  let (some (dst,a,fl),some (src,b,_)):=(← ReflectliteValue.parts v,← ReflectliteValue.parts x)
   | unsupported (.noEntry "extern/(internal/reflectlite.Value).Set.zeroValue")
  if fl / ReflectliteValue.flagAddr % 2 == 0 then unsupported (.noEntry "extern/(internal/reflectlite.Value).Set.unaddressable")
  let val ← loadVar src b
  if ← Rtype.directlyAssignable dst src then storeVar dst a val
  else if ← Rtype.implements dst src then
   if (← Rtype.kind src) == 20 then
    match val with
    | .nilIface => unsupported (.noEntry "extern/reflectlite: a nil value of one interface type handed on as a value of another")
    | _=>storeVar dst a val
   else storeVar dst a (.iface src val)
  else panicString ("reflectlite.Set: value of type " ++ (← Rtype.spelt src) ++ " is not assignable to type " ++ (← Rtype.spelt dst))
  pure (.tuple #[])):=rfl
theorem aTe (a:Addr) (w:World):(ReflectliteValue.parts (.agg #[.pointer (some ⟨1,41,none⟩),.pointer (some a),.int .u64 386])).run Tryz.prog w = .ok (some (41,a,386)) w:=by kernel_rfl
theorem aV1 (a:Addr) (w:World):(ReflectliteValue.parts (.agg #[.pointer (some ⟨1,41,none⟩),.pointer (some a),.int .u64 130])).run Tryz.prog w = .ok (some (41,a,130)) w:=by kernel_rfl
theorem aS9 (w:World):(Rtype.directlyAssignable 41 41).run Tryz.prog w = .ok true w:=by kernel_rfl
theorem aYr (ta b:Addr) (n:Int) (old:Value) (W:World) (hb:W.cell? b=some (.int .i64 n)) (ht:W.cell? ta=some old) (hf:W.frozen? ta=false) :
  (ReflectliteValue.set #[.agg #[.pointer (some ⟨1,41,none⟩),.pointer (some ta),.int .u64 386],.agg #[.pointer (some ⟨1,41,none⟩),.pointer (some b),.int .u64 130]]).run Tryz.prog W
   = .ok (.tuple #[]) (W.setCell ta (.int .i64 n)):=by
 rw[rls]
 simp only[Sem.run_bind,aTe,aV1,Result.andThen]
 simp[ReflectliteValue.flagAddr,loadVar,isAgg,underlying,Tryz.underlying41,hb,Result.andThen,aS9,storeVar,Value.cells,storeCells,Addr.add]
 rw[run_store Tryz.prog W ta _ _ (by rfl)]
 simp[ht,hf]
structure ErrT (T fU:Nat):Prop where
 tof:∀ (v:Value) (w:World),(ReflectliteType.typeOf #[.iface T v]).run Tryz.prog w = .ok (.iface 190 (.agg #[.pointer (some ⟨1,T,none⟩)])) w
 asg : ∀ (w : World), (ReflectliteType.relation "AssignableTo" ReflectliteType.assignableTo #[.agg #[.pointer (some ⟨1, T, none⟩)], .iface 190 (.agg #[.pointer (some ⟨1, 41, none⟩)])]).run Tryz.prog w = .ok (.bool false) w
 unw:∀ (a:Addr) (n:Int) (w:World),w.cell? ⟨a.block,a.off+1,none⟩=some (.int .i64 n)→a.spot=none →
  Calls Tryz.prog fU #[.pointer (some a)] w fun e w'=>e = .returned (.iface 41 (.int .i64 n))∧w=w'
 taA:∀ (a:Addr) (w:World),(Instr.typeAssert (.iface T (.pointer (some a))) 77 202 true).run Tryz.prog w = .ok (.tuple #[.nilIface,.bool false]) w
 taI:∀ (a:Addr) (w:World),(Instr.typeAssert (.iface T (.pointer (some a))) 77 192 true).run Tryz.prog w = .ok (.tuple #[.nilIface,.bool false]) w
 taU:∀ (a:Addr) (w:World),(Instr.typeAssert (.iface T (.pointer (some a))) 77 195 true).run Tryz.prog w = .ok (.tuple #[.iface T (.pointer (some a)),.bool true]) w
 mU : ∀ (a : Addr) (w : World), (Go.method 406 T (.pointer (some a)) "Unwrap").run Tryz.prog w = .ok (fU, .pointer (some a)) w
 fE:∀ args w,(callFunc fU args).run Tryz.prog w = .ok (.enter fU args) w
 ne:T≠41
end Go.Proofs.YtkmfmphpndhkjaaGreatDoor
namespace Go.Proofs.YtkmfmphpndhkjaaGreatDoor
open Go.RowKit Go.Extern.Stop Go.Stop Go.Extern
set_option maxRecDepth 100000
set_option linter.unusedVariables false
set_option linter.unusedSimpArgs false
theorem aN0 (w:World) (tb:Nat) (n:Int) (o1 o2:Obj):w.grownBy (((w.setCell ⟨tb,0,none⟩ (.int .i64 n)).alloc o1).alloc o2) (some tb) :=
 ⟨rfl,rfl,rfl,by simp[World.setCell];omega,fun k hk hne=>by
  have hz:(w.setCell ⟨tb,0,none⟩ (.int .i64 n)).heap.size=w.heap.size:=by simp[World.setCell]
  rw[Below.heap_alloc _ _ _ (by simp;omega),Below.heap_alloc _ _ _ (by omega),Below.heap_setCell _ _ _ _ (fun e=>hne (by rw[e]))]⟩
theorem aP5 (w:World) (tb:Nat) (n:Int) (o1 o2:Obj) (old:Value) (ht:w.cell? ⟨tb,0,none⟩=some old) (htl:tb<w.heap.size):(((w.setCell ⟨tb,0,none⟩ (.int .i64 n)).alloc o1).alloc o2).cell? ⟨tb,0,none⟩=some (.int .i64 n):=by
 have hz:(w.setCell ⟨tb,0,none⟩ (.int .i64 n)).heap.size=w.heap.size:=by simp[World.setCell]
 rw[World.cell?_alloc_lt _ _ ⟨tb,0,none⟩ (by show tb<_;simp;omega),World.cell?_alloc_lt _ _ ⟨tb,0,none⟩ (by show tb<_;omega)]
 exact World.cell?_setCell_same' _ _ _ (by rw[ht];rfl)
set_option maxHeartbeats 8000000 in
theorem aRr {T fU:Nat} (hT:ErrT T fU) (b o:Nat) (n:Int) (vb:Addr) (tb:Nat) (old:Value) (w:World) (hc:w.cell? ⟨b,o+1,none⟩=some (.int .i64 n)) (hbl:b<w.heap.size)
  (hv:w.cell? vb=some (.pointer (some ⟨tb,0,none⟩))) (hvl:vb.block<w.heap.size) (ht:w.cell? ⟨tb,0,none⟩=some old) (hf:w.frozen? ⟨tb,0,none⟩=false) (htl:tb<w.heap.size) :
  Calls Tryz.prog 84 #[.iface T (.pointer (some ⟨b,o,none⟩)),.iface 104 (.pointer (some ⟨tb,0,none⟩)),.agg #[.pointer (some ⟨1,104,none⟩),.pointer (some vb),.int .u64 150],.iface 190 (.agg #[.pointer (some ⟨1,41,none⟩)])] w
   fun e w'=>e = .returned (.bool true)∧w.grownBy w' (some tb)∧w'.cell? ⟨tb,0,none⟩=some (.int .i64 n):=by
 have h48:=@run_callFunc_extern Tryz.prog 81 _ (fun args=>ReflectliteValue.unpack (args.getD 0 (.tuple #[]))) Tryz.func81 (by kernel_rfl) (by kernel_rfl) (by kernel_rfl) (by kernel_rfl)
 have h52:=@run_callFunc_extern Tryz.prog 79 _ ReflectliteType.typeOf Tryz.func79 (by kernel_rfl) (by kernel_rfl) (by kernel_rfl) (by kernel_rfl)
 have h79 := @run_callFunc_extern Tryz.prog 228 _ (ReflectliteType.relation "AssignableTo" ReflectliteType.assignableTo) Tryz.func228 (by kernel_rfl) (by kernel_rfl) (by kernel_rfl) (by kernel_rfl)
 have h53 := @run_callFunc_extern Tryz.prog 119 _ (ReflectliteValue.method (ReflectliteValue.valueError "reflectlite.Value.Elem" 0) ReflectliteValue.elem) Tryz.func119 (by kernel_rfl) (by kernel_rfl) (by kernel_rfl) (by kernel_rfl)
 have h54:=@run_callFunc_extern Tryz.prog 120 _ ReflectliteValue.set Tryz.func120 (by kernel_rfl) (by kernel_rfl) (by kernel_rfl) (by kernel_rfl)
 have tE:=aM3
 have mA:=tT
 have aR:=hT.asg
 have tR:=hT.tof
 have fE:=hT.fE
 have aE:=aG9
 have vE:=aRe
 have t1:=hT.taA
 have t2:=hT.taU
 have t3:=hT.mU
 go_enter Tryz.func84,Tryz.ntmps84
 go_wp2_with fail
 refine wp_loop_rounds 2 ?_
 rw[rounds_succ]
 go_wp2_with fail
 have hb0:=(Below.refl w.heap.size w).alloc (Nat.le_refl _) (.cells #[.pointer (some ⟨1,104,none⟩),.pointer (some vb),.int .u64 150] 148)
 have el:=aUg vb ⟨tb,0,none⟩ (w.alloc (.cells #[.pointer (some ⟨1,104,none⟩),.pointer (some vb),.int .u64 150] 148)) ((hb0.cell (p:=vb) hvl).trans hv)
 have st:=aYr ⟨tb,0,none⟩ ⟨w.heap.size+1,0,none⟩ n old ((w.alloc (.cells #[.pointer (some ⟨1,104,none⟩),.pointer (some vb),.int .u64 150] 148)).alloc (.cells #[.int .i64 n] 41))
  (by rw[World.cell?_alloc_at _ _ _ _ (by simp)];rfl)
  (((hb0.alloc (by simp) _).cell (p:=⟨tb,0,none⟩) htl).trans ht) (((hb0.alloc (by simp) _).frozen (p:=⟨tb,0,none⟩) htl).trans hf)
 refine (hT.unw ⟨b,o,none⟩ n _ ((hb0.cell (p:=⟨b,o+1,none⟩) hbl).trans hc) rfl).mono ?_
 rintro e w1 ⟨rfl,rfl⟩
 go_wp2_with fail
 rw[rounds_succ]
 go_wp2_with fail
 go_ret
 exact⟨rfl,aN0 w tb n _ _,aP5 w tb n _ _ old ht htl⟩
set_option maxHeartbeats 8000000 in
theorem asR {T fU:Nat} (hT:ErrT T fU) (b o:Nat) (n:Int) (tb:Nat) (old:Value) (w:World) (hc:w.cell? ⟨b,o+1,none⟩=some (.int .i64 n)) (hbl:b<w.heap.size) (hg:w.cell? ⟨0,0,none⟩=some (.iface 190 (.agg #[.pointer (some ⟨1,77,none⟩)])))
  (ht:w.cell? ⟨tb,0,none⟩=some old) (hf:w.frozen? ⟨tb,0,none⟩=false) (htl:tb<w.heap.size) :
  Calls Tryz.prog 47 #[.iface T (.pointer (some ⟨b,o,none⟩)),.iface 104 (.pointer (some ⟨tb,0,none⟩))] w
   fun e w'=>e = .returned (.bool true)∧w.grownBy w' (some tb)∧w'.cell? ⟨tb,0,none⟩=some (.int .i64 n):=by
 have h48:=@run_callFunc_extern Tryz.prog 81 _ (fun args=>ReflectliteValue.unpack (args.getD 0 (.tuple #[]))) Tryz.func81 (by kernel_rfl) (by kernel_rfl) (by kernel_rfl) (by kernel_rfl)
 have h49 := @run_callFunc_extern Tryz.prog 82 _ (ReflectliteValue.methodAny (ReflectliteValue.valueError "reflectlite.Value.Type" 0) (fun t _ _ _ => ReflectliteType.toType t)) Tryz.func82 (by kernel_rfl) (by kernel_rfl) (by kernel_rfl) (by kernel_rfl)
 have h50 := @run_callFunc_extern Tryz.prog 83 _ (ReflectliteValue.method (ReflectliteValue.valueError "reflectlite.Value.IsNil" 0) ReflectliteValue.isNil) Tryz.func83 (by kernel_rfl) (by kernel_rfl) (by kernel_rfl) (by kernel_rfl)
 have hK:=@run_callFunc_extern Tryz.prog 218 _ (ReflectliteType.abiMethod fun t=>do pure (.int .u8 (← Rtype.kind t))) Tryz.func218 (by kernel_rfl) (by kernel_rfl) (by kernel_rfl) (by kernel_rfl)
 have hE:=@run_callFunc_extern Tryz.prog 230 _ (ReflectliteType.method ReflectliteType.elem) Tryz.func230 (by kernel_rfl) (by kernel_rfl) (by kernel_rfl) (by kernel_rfl)
 have hI := @run_callFunc_extern Tryz.prog 231 _ (ReflectliteType.relation "Implements" ReflectliteType.implements_) Tryz.func231 (by kernel_rfl) (by kernel_rfl) (by kernel_rfl) (by kernel_rfl)
 have f6:=aRf
 have f7:=aY3
 have mK:=aKg
 have mE:=aKf
 have mI:=xC
 have k27:=aW0
 have k25:=aVz
 have e27:=aVq
 have i25:=aHk
 have hlt:0<w.heap.size:=World.block_lt_of_cell? w _ hg
 have hb0:=(Below.refl w.heap.size w).alloc (Nat.le_refl _) (.cells #[.pointer (some ⟨tb,0,none⟩)] 104)
 have hb1:=hb0.alloc (by simp) (.cells #[.pointer (some ⟨1,104,none⟩),.pointer (some ⟨w.heap.size,0,none⟩),.int .u64 150] 148)
 have n8:=aUj ⟨w.heap.size,0,none⟩ ⟨tb,0,none⟩ ((w.alloc (.cells #[.pointer (some ⟨tb,0,none⟩)] 104)).alloc (.cells #[.pointer (some ⟨1,104,none⟩),.pointer (some ⟨w.heap.size,0,none⟩),.int .u64 150] 148)) (by simp)
 have hg2:=(hb1.cell (p:=⟨0,0,none⟩) hlt).trans hg
 go_enter Tryz.func47,Tryz.ntmps47
 go_wp2_with fail
 have q1:b<((w.alloc (.cells #[.pointer (some ⟨tb,0,none⟩)] 104)).alloc (.cells #[.pointer (some ⟨1,104,none⟩),.pointer (some ⟨w.heap.size,0,none⟩),.int .u64 150] 148)).heap.size:=by simp;omega
 have q2:((w.alloc (.cells #[.pointer (some ⟨tb,0,none⟩)] 104)).alloc (.cells #[.pointer (some ⟨1,104,none⟩),.pointer (some ⟨w.heap.size,0,none⟩),.int .u64 150] 148)).cell? ⟨w.heap.size,0,none⟩=some (.pointer (some ⟨tb,0,none⟩)):=((dF.new w #[.pointer (some ⟨tb,0,none⟩)] 104).alloc _).cell 0
 have q3:w.heap.size<((w.alloc (.cells #[.pointer (some ⟨tb,0,none⟩)] 104)).alloc (.cells #[.pointer (some ⟨1,104,none⟩),.pointer (some ⟨w.heap.size,0,none⟩),.int .u64 150] 148)).heap.size:=by simp;omega
 have q4:tb<((w.alloc (.cells #[.pointer (some ⟨tb,0,none⟩)] 104)).alloc (.cells #[.pointer (some ⟨1,104,none⟩),.pointer (some ⟨w.heap.size,0,none⟩),.int .u64 150] 148)).heap.size:=by simp;omega
 refine (aRr hT b o n ⟨w.heap.size,0,none⟩ tb old _ ((hb1.cell (p:=⟨b,o+1,none⟩) hbl).trans hc) q1 q2 q3 ((hb1.cell (p:=⟨tb,0,none⟩) htl).trans ht) ((hb1.frozen (p:=⟨tb,0,none⟩) htl).trans hf) q4).mono ?_
 rintro e w' ⟨rfl,hgr,hcell⟩
 have hfin:w.grownBy w' (some tb):=⟨hgr.os,hgr.tape,hgr.output,by have:=hgr.size;simp at this;omega,fun k hk hne=>(hgr.block k (by simp;omega) hne).trans (hb1.block k hk)⟩
 go_wp2_with fail
 go_ret
 exact⟨rfl,hfin,hcell⟩
end Go.Proofs.YtkmfmphpndhkjaaGreatDoor
namespace Go.Proofs.YtkmfmphpndhkjaaGreatDoor
open Go.RowKit Go.Extern.Stop Go.Stop Go.Extern
set_option maxRecDepth 100000
set_option linter.unusedVariables false
set_option linter.unusedSimpArgs false
theorem aSd (d:Nat) (n m:Int) (w:World):(Op.equalIn (d+2) 77 (.iface 41 (.int .i64 n)) (.iface 41 (.int .i64 m))).run Tryz.prog w = .ok (n == m) w:=by
 obtain⟨i,hi,hc⟩:=Option.map_eq_some_iff.1 (show (Tryz.prog.info? 41).map (·.comparable)=some true by kernel_rfl)
 simp[Op.equalIn,run_underlying Tryz.underlying77,run_underlying Tryz.underlying41,typeInfo,hi,hc]
theorem aTz (n m:Int) (w:World):(binOp .eql 77 (.iface 41 (.int .i64 n)) (.iface 41 (.int .i64 m))).run Tryz.prog w = .ok (.bool (n == m)) w:=by
 simp only[binOp]
 simp[Op.equal,Op.maxDepth,aSd 9998]
theorem aSe {T:Nat} (hT:T≠41) (d:Nat) (v:Value) (m:Int) (w:World):(Op.equalIn (d+2) 77 (.iface T v) (.iface 41 (.int .i64 m))).run Tryz.prog w = .ok false w:=by
 simp[Op.equalIn,run_underlying Tryz.underlying77,hT]
theorem aVr {T:Nat} (hT:T≠41) (v:Value) (m:Int) (w:World):(binOp .eql 77 (.iface T v) (.iface 41 (.int .i64 m))).run Tryz.prog w = .ok (.bool false) w:=by
 simp only[binOp]
 simp[Op.equal,Op.maxDepth,aSe hT 9998]
theorem aYt (n:Int) (w:World):(Instr.typeAssert (.iface 41 (.int .i64 n)) 77 192 true).run Tryz.prog w = .ok (.tuple #[.nilIface,.bool false]) w :=
 run_typeAssert_lacksB Tryz.underlying192 (by kernel_rfl) (by kernel_rfl) _ _ w
theorem aYu (n:Int) (w:World):(Instr.typeAssert (.iface 41 (.int .i64 n)) 77 195 true).run Tryz.prog w = .ok (.tuple #[.nilIface,.bool false]) w :=
 run_typeAssert_lacksB Tryz.underlying195 (by kernel_rfl) (by kernel_rfl) _ _ w
theorem aYv (n:Int) (w:World):(Instr.typeAssert (.iface 41 (.int .i64 n)) 77 197 true).run Tryz.prog w = .ok (.tuple #[.nilIface,.bool false]) w :=
 run_typeAssert_lacksB Tryz.underlying197 (by kernel_rfl) (by kernel_rfl) _ _ w
theorem xB (h : Value) (w : World) : (Go.method 406 190 (.agg #[h]) "Comparable").run Tryz.prog w = .ok (229, .agg #[h]) w := by kernel_rfl
set_option maxHeartbeats 8000000 in
theorem aSm {T fU:Nat} (hT:ErrT T fU) (b o:Nat) (n m:Int) (w:World) (hc:w.cell? ⟨b,o+1,none⟩=some (.int .i64 n)) :
  Calls Tryz.prog 80 #[.iface T (.pointer (some ⟨b,o,none⟩)),.iface 41 (.int .i64 m),.bool true] w fun e w'=>e = .returned (.bool (n == m))∧w=w':=by
 have e1:=@aVr T hT.ne
 have e2:=aTz
 have t1:=hT.taI
 have t2:=hT.taU
 have t3:=hT.mU
 have t4:=aYt
 have t5:=aYu
 have t6:=aYv
 have fE:=hT.fE
 go_enter Tryz.func80,Tryz.ntmps80
 go_wp2_with fail
 refine wp_loop_rounds 2 ?_
 rw[rounds_succ]
 go_wp2_with fail
 refine (hT.unw ⟨b,o,none⟩ n _ hc rfl).mono ?_
 rintro e w1 ⟨rfl,rfl⟩
 go_wp2_with fail
 rw[rounds_succ]
 have e3:=fun w=>aTz n m w
 clear e2
 cases hnm:(n == m)<;>rw[hnm] at e3
 ·go_wp2_with fail
  go_ret
  exact⟨by rw[hnm];rfl,rfl⟩
 ·go_wp2_with fail
  go_ret
  exact⟨by rw[hnm];rfl,rfl⟩
theorem aGw (w : World) : (ReflectliteType.method (fun t => do Rtype.noPackHeld "Comparable" t; (fun a : TypeInfo => Value.bool a.comparable) <$> typeInfo t) #[.agg #[.pointer (some ⟨1, 41, none⟩)]]).run Tryz.prog w = .ok (.bool true) w := by kernel_rfl
set_option maxHeartbeats 8000000 in
theorem isR {T fU:Nat} (hT:ErrT T fU) (b o:Nat) (n m:Int) (w:World) (hc:w.cell? ⟨b,o+1,none⟩=some (.int .i64 n)) :
  Calls Tryz.prog 46 #[.iface T (.pointer (some ⟨b,o,none⟩)),.iface 41 (.int .i64 m)] w fun e w'=>e = .returned (.bool (n == m))∧w=w':=by
 have h52:=@run_callFunc_extern Tryz.prog 79 _ ReflectliteType.typeOf Tryz.func79 (by kernel_rfl) (by kernel_rfl) (by kernel_rfl) (by kernel_rfl)
 have h53 := @run_callFunc_extern Tryz.prog 229 _ (ReflectliteType.method (fun t => do Rtype.noPackHeld "Comparable" t; pure (.bool (← typeInfo t).comparable))) Tryz.func229 (by kernel_rfl) (by kernel_rfl) (by kernel_rfl) (by kernel_rfl)
 have tE:=aM3
 have mC:=xB
 have cE:=aGw
 go_enter Tryz.func46,Tryz.ntmps46
 go_wp2_with fail
 refine (aSm hT b o n m w hc).mono ?_
 rintro e w' ⟨rfl,rfl⟩
 go_wp2_with fail
 go_ret
 exact⟨rfl,rfl⟩
end Go.Proofs.YtkmfmphpndhkjaaGreatDoor
namespace Go.Proofs.YtkmfmphpndhkjaaGreatDoor
open Go.RowKit Go.Extern.Stop Go.Stop Go.Extern
set_option maxRecDepth 100000
set_option linter.unusedVariables false
set_option linter.unusedSimpArgs false
def qP (w:World):Prop:=w.cell? ⟨0,0,none⟩=some (.iface 190 (.agg #[.pointer (some ⟨1,77,none⟩)]))
theorem qP.lt {w:World} (h:qP w):0<w.heap.size:=World.block_lt_of_cell? w _ h
theorem qP.below {w w' : World} (h:qP w) (hb:Below w.heap.size w w'):qP w':=(hb.cell (p:=⟨0,0,none⟩) h.lt).trans h
theorem aLu {K:aW} {x:D} {vs:List Value} (h:gK K [x] vs):∃ v,vs=[v]∧Rep K x v:=by
 have hl:=h.1
 match vs,hl with
 | [v],_=>exact⟨v,rfl,h.2 0 x v rfl rfl⟩
theorem aSh {K:aW} {w:World} (hB:jO uJ K) (hk:KW K w):qP w:=hk _ _ _ (hB _ _ _ (by unfold uJ;rw[if_pos ⟨rfl,rfl⟩]))
theorem aHp {K:aW} {w w' : World} (hk:KW K w) (hb:Below w.heap.size w w'):KW K w':=fun b o v h=>by
 rw[← hk b o v h];exact hb.cell (p:=⟨b,o,none⟩) (by
  rcases Nat.lt_or_ge b w.heap.size with h' | h'
  ·exact h'
  ·rw[hk.lt h'] at h;cases h)
theorem oD {f:Nat} (hf:iT Tryz.prog f=true) (h:∀ w,Calls Tryz.prog f #[.nilIface] w fun e w'=>e = .returned (.int .i64 0)∧Below w.heap.size w w'):aJ Tryz.prog f [.val .nilIface] (int 0):=by
 refine⟨hf,fun K w vs hB hk hL=>?_⟩
 obtain⟨v,rfl,hv⟩:=aLu hL
 cases hv
 refine (h w).mono ?_
 rintro e w' ⟨rfl,hb⟩
 exact⟨_,K,rfl,Ext.refl _ _,aHp hk hb,Rep.val _,hb⟩
theorem aPb {T:Nat} {K:aW} {x:D} {n:Int} {v:Value} (h:Rep K (.iface T (.ptr [x,int n] 0)) v):∃ b o,v = .iface T (.pointer (some ⟨b,o,none⟩))∧K b (o+1)=some (.int .i64 n):=by
 cases h with
 | iface hp =>
  cases hp with
  | ptr hl hv h1 hkk =>
   rename_i us b o
   match us,hl with
   | [u1,u2],_ =>
    have h2:=hv 1 (int n) u2 rfl rfl
    cases h2
    exact⟨b,o,rfl,hkk 1 _ rfl⟩
theorem mD {T f:Nat} {n:Int} (hf:iT Tryz.prog f=true) (h:∀ (b o:Nat) (n:Int) (w:World),qP w→w.cell? ⟨b,o+1,none⟩=some (.int .i64 n)→b<w.heap.size →
  Calls Tryz.prog f #[.iface T (.pointer (some ⟨b,o,none⟩))] w fun e w'=>e = .returned (.int .i64 n)∧Below w.heap.size w w') (x:D):aJ Tryz.prog f [.iface T (.ptr [x,int n] 0)] (int n):=by
 refine⟨hf,fun K w vs hB hk hL=>?_⟩
 obtain⟨v,rfl,hv⟩:=aLu hL
 obtain⟨b,o,rfl,hkk⟩:=aPb hv
 have hc:=hk _ _ _ hkk
 refine (h b o n w (aSh hB hk) hc (World.block_lt_of_cell? w _ hc)).mono ?_
 rintro e w' ⟨rfl,hb⟩
 exact⟨_,K,rfl,Ext.refl _ _,aHp hk hb,Rep.val _,hb⟩
end Go.Proofs.YtkmfmphpndhkjaaGreatDoor
