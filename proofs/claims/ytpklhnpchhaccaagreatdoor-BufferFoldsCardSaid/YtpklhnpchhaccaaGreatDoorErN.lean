/- The abstract machine (ErSq, ErIn). -/
import Derived.Test.YtpklhnpchhaccaaGreatDoorErM
namespace Go.Proofs.YtpklhnpchhaccaaGreatDoor
open Go.RowKit Go.Extern.Stop Go.Stop Go.Extern
set_option maxRecDepth 100000
set_option linter.unusedVariables false
set_option linter.unusedSimpArgs false
theorem aTk (a:Addr) (n:Int) (w:World) (hc:w.cell? ⟨a.block,a.off+1,none⟩=some (.int .i64 n)) (ha:a.spot=none) :
  Calls Tryz.prog 372 #[.pointer (some a)] w fun e w'=>e = .returned (.iface 41 (.int .i64 n))∧w=w':=by
 obtain⟨b,o,sp⟩:=a
 cases ha
 go_enter Tryz.func372,Tryz.ntmps372
 go_wp2_with fail
 go_ret
 exact⟨rfl,rfl⟩
theorem aP0:ErrT 358 372 where
 tof:=fun v w=>by kernel_rfl
 asg:=fun w=>by kernel_rfl
 unw:=aTk
 taA:=fun a w=>run_typeAssert_lacksB Tryz.underlying272 (by kernel_rfl) (by kernel_rfl) _ _ w
 taI:=fun a w=>run_typeAssert_lacksB Tryz.underlying262 (by kernel_rfl) (by kernel_rfl) _ _ w
 taU:=fun a w=>run_typeAssert_hasB Tryz.underlying265 (by kernel_rfl) _ _ w
 mU:=fun a w=>by kernel_rfl
 fE:=fun args w=>by simp[callFunc,Tryz.func372,Tryz.f372]
 ne:=by decide
theorem aFt (w:World):Calls Tryz.prog 292 #[.nilIface] w fun e w'=>e = .returned (.int .i64 0)∧Below w.heap.size w w':=by
 go_enter Tryz.func292,Tryz.ntmps292
 go_wp2_with fail
 go_ret
 exact⟨rfl,(Below.refl _ _).alloc (Nat.le_refl _) _⟩
set_option maxHeartbeats 1000000 in
theorem aKr (b o:Nat) (n:Int) (w:World) (hg:yW w) (hc:w.cell? ⟨b,o+1,none⟩=some (.int .i64 n)) (hbl:b<w.heap.size) :
  Calls Tryz.prog 292 #[.iface 358 (.pointer (some ⟨b,o,none⟩))] w fun e w'=>e = .returned (.int .i64 n)∧Below w.heap.size w w':=by
 have b0:Below w.heap.size w (w.alloc (.cells #[.int .i64 0] 41)):=(Below.refl _ _).alloc (Nat.le_refl _) _
 have l0:=dH.new w #[.int .i64 0] 41
 have hg0:yW (w.alloc (.cells #[.int .i64 0] 41)):=hg.below b0
 go_enter Tryz.func292,Tryz.ntmps292
 go_wp2_with fail
 generalize w.alloc (.cells #[.int .i64 0] 41)=W0 at b0 l0 hg0 ⊢
 refine (asR aP0 b o n w.heap.size (.int .i64 0) W0 ((b0.cell (p:=⟨b,o+1,none⟩) hbl).trans hc) (by have:=l0.lt;omega) hg0 (l0.cell 0) (l0.frozen 0) l0.lt).mono ?_
 rintro e w' ⟨rfl,hgr,hcell⟩
 have hb1:Below w.heap.size w w':=b0.grown hgr b0.size (fun k e=>by cases e;exact Nat.le_refl _)
 go_wp2_with fail
 go_ret
 exact⟨rfl,hb1⟩
theorem aCx:aW Tryz.prog 292 [.val .nilIface] (int 0):=aI1 (by kernel_rfl) aFt
abbrev aIg (x:D) (n:Int):D:=.iface 358 (.ptr [x,int n] 0)
theorem aCw (x:D) (n:Int):aW Tryz.prog 292 [aIg x n] (int n):=yC (by kernel_rfl) aKr x
end Go.Proofs.YtpklhnpchhaccaaGreatDoor
namespace Go.Proofs.YtpklhnpchhaccaaGreatDoor
open Go.RowKit Go.Extern.Stop Go.Stop Go.Extern
set_option maxRecDepth 100000
set_option linter.unusedVariables false
set_option linter.unusedSimpArgs false
theorem aMm (a:Addr) (n:Int) (w:World) (hc:w.cell? ⟨a.block,a.off+1,none⟩=some (.int .i64 n)) (ha:a.spot=none) :
  Calls Tryz.prog 351 #[.pointer (some a)] w fun e w'=>e = .returned (.iface 41 (.int .i64 n))∧w=w':=by
 obtain⟨b,o,sp⟩:=a
 cases ha
 go_enter Tryz.func351,Tryz.ntmps351
 go_wp2_with fail
 go_ret
 exact⟨rfl,rfl⟩
theorem yF:ErrT 242 351 where
 tof:=fun v w=>by kernel_rfl
 asg:=fun w=>by kernel_rfl
 unw:=aMm
 taA:=fun a w=>run_typeAssert_lacksB Tryz.underlying272 (by kernel_rfl) (by kernel_rfl) _ _ w
 taI:=fun a w=>run_typeAssert_lacksB Tryz.underlying262 (by kernel_rfl) (by kernel_rfl) _ _ w
 taU:=fun a w=>run_typeAssert_hasB Tryz.underlying265 (by kernel_rfl) _ _ w
 mU:=fun a w=>by kernel_rfl
 fE:=fun args w=>by simp[callFunc,Tryz.func351,Tryz.f351]
 ne:=by decide
set_option maxHeartbeats 1000000 in
theorem aFv (b o:Nat) (n:Int) (w:World) (hg:yW w) (hc:w.cell? ⟨b,o+1,none⟩=some (.int .i64 n)) (hbl:b<w.heap.size) :
  Calls Tryz.prog 121 #[.iface 242 (.pointer (some ⟨b,o,none⟩))] w fun e w'=>e = .returned (.int .i64 n)∧Below w.heap.size w w':=by
 have b0:Below w.heap.size w (w.alloc (.cells #[.int .i64 0] 41)):=(Below.refl _ _).alloc (Nat.le_refl _) _
 have l0:=dH.new w #[.int .i64 0] 41
 have hg0:yW (w.alloc (.cells #[.int .i64 0] 41)):=hg.below b0
 go_enter Tryz.func121,Tryz.ntmps121
 go_wp2_with fail
 generalize w.alloc (.cells #[.int .i64 0] 41)=W0 at b0 l0 hg0 ⊢
 refine (isR yF b o n 70 W0 ((b0.cell (p:=⟨b,o+1,none⟩) hbl).trans hc)).mono ?_
 rintro e w' ⟨rfl,rfl⟩
 cases hn:(n == 70)
 ·go_wp2_with fail
  refine (asR yF b o n w.heap.size (.int .i64 0) W0 ((b0.cell (p:=⟨b,o+1,none⟩) hbl).trans hc) (by have:=l0.lt;omega) hg0 (l0.cell 0) (l0.frozen 0) l0.lt).mono ?_
  rintro e w' ⟨rfl,hgr,hcell⟩
  have hb1:Below w.heap.size w w':=b0.grown hgr b0.size (fun k e=>by cases e;exact Nat.le_refl _)
  go_wp2_with fail
  go_ret
  exact⟨rfl,hb1⟩
 ·obtain rfl:n=70:=by simpa using hn
  go_wp2_with fail
  go_ret
  exact⟨rfl,b0⟩
abbrev tO (x:D) (n:Int):D:=.iface 242 (.ptr [x,int n] 0)
theorem zB (x:D) (n:Int):aW Tryz.prog 121 [tO x n] (int n):=yC (by kernel_rfl) aFv x
end Go.Proofs.YtpklhnpchhaccaaGreatDoor
