/- The error of package buffer (what it wraps is an error of its own),and its code. -/
import Derived.Test.YtpklhnpchhaccaaGreatDoorErM
namespace Go.Proofs.YtpklhnpchhaccaaGreatDoor
open Go.RowKit Go.Extern.Stop Go.Stop Go.Extern
set_option maxRecDepth 100000
set_option linter.unusedVariables false
set_option linter.unusedSimpArgs false
structure ErrTU (T fU:Nat):Prop where
 tof:∀ (v:Value) (w:World),(ReflectliteType.typeOf #[.iface T v]).run Tryz.prog w = .ok (.iface 260 (.agg #[.pointer (some ⟨4,T,none⟩)])) w
 asg : ∀ (w : World), (ReflectliteType.relation "AssignableTo" ReflectliteType.assignableTo #[.agg #[.pointer (some ⟨4, T, none⟩)], .iface 260 (.agg #[.pointer (some ⟨4, 41, none⟩)])]).run Tryz.prog w = .ok (.bool false) w
 unw:∀ (a:Addr) (n:Int) (w:World),w.cell? ⟨a.block,a.off+1,none⟩=some (.iface 41 (.int .i64 n))→a.spot=none →
  Calls Tryz.prog fU #[.pointer (some a)] w fun e w'=>e = .returned (.iface 41 (.int .i64 n))∧w=w'
 taA:∀ (a:Addr) (w:World),(Instr.typeAssert (.iface T (.pointer (some a))) 103 272 true).run Tryz.prog w = .ok (.tuple #[.nilIface,.bool false]) w
 taI:∀ (a:Addr) (w:World),(Instr.typeAssert (.iface T (.pointer (some a))) 103 262 true).run Tryz.prog w = .ok (.tuple #[.nilIface,.bool false]) w
 taU:∀ (a:Addr) (w:World),(Instr.typeAssert (.iface T (.pointer (some a))) 103 265 true).run Tryz.prog w = .ok (.tuple #[.iface T (.pointer (some a)),.bool true]) w
 mU : ∀ (a : Addr) (w : World), (Go.method 504 T (.pointer (some a)) "Unwrap").run Tryz.prog w = .ok (fU, .pointer (some a)) w
 fE:∀ args w,(callFunc fU args).run Tryz.prog w = .ok (.enter fU args) w
 ne:T≠41

set_option maxHeartbeats 8000000 in
theorem aRk {T fU:Nat} (hT:ErrTU T fU) (b o:Nat) (n m:Int) (w:World) (hc:w.cell? ⟨b,o+1,none⟩=some (.iface 41 (.int .i64 n))) :
  Calls Tryz.prog 139 #[.iface T (.pointer (some ⟨b,o,none⟩)),.iface 41 (.int .i64 m),.bool true] w fun e w'=>e = .returned (.bool (n == m))∧w=w':=by
 have e1:=@aWf T hT.ne
 have e2:=aMy
 have t1:=hT.taI
 have t2:=hT.taU
 have t3:=hT.mU
 have t4:=aYq
 have t5:=aYr
 have t6:=aYs
 have fE:=hT.fE
 go_enter Tryz.func139,Tryz.ntmps139
 go_wp2_with fail
 refine wp_loop_rounds 2 ?_
 rw[rounds_succ]
 go_wp2_with fail
 refine (hT.unw ⟨b,o,none⟩ n _ hc rfl).mono ?_
 rintro e w1 ⟨rfl,rfl⟩
 go_wp2_with fail
 rw[rounds_succ]
 have e3:=fun w=>aMy n m w
 clear e2
 cases hnm:(n == m)<;>rw[hnm] at e3
 ·go_wp2_with fail
  go_ret
  exact⟨by rw[hnm];rfl,rfl⟩
 ·go_wp2_with fail
  go_ret
  exact⟨by rw[hnm];rfl,rfl⟩
set_option maxHeartbeats 8000000 in
theorem bB1 {T fU:Nat} (hT:ErrTU T fU) (b o:Nat) (n m:Int) (w:World) (hc:w.cell? ⟨b,o+1,none⟩=some (.iface 41 (.int .i64 n))) :
  Calls Tryz.prog 85 #[.iface T (.pointer (some ⟨b,o,none⟩)),.iface 41 (.int .i64 m)] w fun e w'=>e = .returned (.bool (n == m))∧w=w':=by
 have h52:=@run_callFunc_extern Tryz.prog 138 _ ReflectliteType.typeOf Tryz.func138 (by kernel_rfl) (by kernel_rfl) (by kernel_rfl) (by kernel_rfl)
 have h53 := @run_callFunc_extern Tryz.prog 354 _ (ReflectliteType.method (fun t => do Rtype.noPackHeld "Comparable" t; pure (.bool (← typeInfo t).comparable))) Tryz.func354 (by kernel_rfl) (by kernel_rfl) (by kernel_rfl) (by kernel_rfl)
 have tE:=aH1
 have mC:=oS
 have cE:=yD
 go_enter Tryz.func85,Tryz.ntmps85
 go_wp2_with fail
 refine (aRk hT b o n m w hc).mono ?_
 rintro e w' ⟨rfl,rfl⟩
 go_wp2_with fail
 go_ret
 exact⟨rfl,rfl⟩
theorem aOz {T:Nat} {K:aQ} {x:D} {n:Int} {v:Value} (h:Rep K (.iface T (.ptr [x,.iface 41 (int n)] 0)) v):∃ b o,v = .iface T (.pointer (some ⟨b,o,none⟩))∧K b (o+1)=some (.iface 41 (.int .i64 n)):=by
 cases h with
 | iface hp =>
  cases hp with
  | ptr hl hv h1 hkk =>
   rename_i us b o
   match us,hl with
   | [u1,u2],_ =>
    have h2:=hv 1 (.iface 41 (int n)) u2 rfl rfl
    cases h2 with
    | iface h3 =>
     cases h3
     exact⟨b,o,rfl,hkk 1 _ rfl⟩
theorem aMl (a:Addr) (n:Int) (w:World) (hc:w.cell? ⟨a.block,a.off+1,none⟩=some (.iface 41 (.int .i64 n))) (ha:a.spot=none) :
  Calls Tryz.prog 349 #[.pointer (some a)] w fun e w'=>e = .returned (.iface 41 (.int .i64 n))∧w=w':=by
 obtain⟨b,o,sp⟩:=a
 cases ha
 go_enter Tryz.func349,Tryz.ntmps349
 go_wp2_with fail
 go_ret
 exact⟨rfl,rfl⟩
theorem aIe:ErrTU 229 349 where
 tof:=fun v w=>by kernel_rfl
 asg:=fun w=>by kernel_rfl
 unw:=aMl
 taA:=fun a w=>run_typeAssert_lacksB Tryz.underlying272 (by kernel_rfl) (by kernel_rfl) _ _ w
 taI:=fun a w=>run_typeAssert_lacksB Tryz.underlying262 (by kernel_rfl) (by kernel_rfl) _ _ w
 taU:=fun a w=>run_typeAssert_hasB Tryz.underlying265 (by kernel_rfl) _ _ w
 mU:=fun a w=>by kernel_rfl
 fE:=fun args w=>by simp[callFunc,Tryz.func349,Tryz.f349]
 ne:=by decide
set_option maxHeartbeats 1000000 in
theorem aFu (b o:Nat) (w:World) (hg:yW w) (hc:w.cell? ⟨b,o+1,none⟩=some (.iface 41 (.int .i64 70))) (hbl:b<w.heap.size) :
  Calls Tryz.prog 54 #[.iface 229 (.pointer (some ⟨b,o,none⟩))] w fun e w'=>e = .returned (.int .i64 70)∧Below w.heap.size w w':=by
 have b0:Below w.heap.size w (w.alloc (.cells #[.int .i64 0] 41)):=(Below.refl _ _).alloc (Nat.le_refl _) _
 go_enter Tryz.func54,Tryz.ntmps54
 go_wp2_with fail
 generalize w.alloc (.cells #[.int .i64 0] 41)=W0 at b0 ⊢
 refine (bB1 aIe b o 70 70 W0 ((b0.cell (p:=⟨b,o+1,none⟩) hbl).trans hc)).mono ?_
 rintro e w' ⟨rfl,rfl⟩
 go_wp2_with fail
 go_ret
 exact⟨rfl,b0⟩
abbrev tN (x:D):D:=.iface 229 (.ptr [x,.iface 41 (int 70)] 0)
theorem zA (x:D):aW Tryz.prog 54 [tN x] (int 70):=by
 refine⟨by kernel_rfl,fun K w vs hB hk hL=>?_⟩
 obtain⟨v,rfl,hv⟩:=vM hL
 obtain⟨b,o,rfl,hkk⟩:=aOz hv
 have hc:=hk _ _ _ hkk
 refine (aFu b o w (aN2 hB hk) hc (World.block_lt_of_cell? w _ hc)).mono ?_
 rintro e w' ⟨rfl,hb⟩
 exact⟨_,K,rfl,Ext.refl _ _,vC hk hb,Rep.val _,hb⟩
end Go.Proofs.YtpklhnpchhaccaaGreatDoor
