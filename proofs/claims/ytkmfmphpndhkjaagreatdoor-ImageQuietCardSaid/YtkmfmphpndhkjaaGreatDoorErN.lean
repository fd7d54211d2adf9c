/- The abstract machine (ErR, ErTb, ErEn). -/
import Derived.Test.YtkmfmphpndhkjaaGreatDoorErM
namespace Go.Proofs.YtkmfmphpndhkjaaGreatDoor
open Go.RowKit Go.Extern.Stop Go.Stop Go.Extern
set_option maxRecDepth 100000
set_option linter.unusedVariables false
set_option linter.unusedSimpArgs false
theorem aRc (a:Addr) (n:Int) (w:World) (hc:w.cell? ⟨a.block,a.off+1,none⟩=some (.int .i64 n)) (ha:a.spot=none) :
  Calls Tryz.prog 243 #[.pointer (some a)] w fun e w'=>e = .returned (.iface 41 (.int .i64 n))∧w=w':=by
 obtain⟨b,o,sp⟩:=a
 cases ha
 go_enter Tryz.func243,Tryz.ntmps243
 go_wp2_with fail
 go_ret
 exact⟨rfl,rfl⟩
theorem aD8:ErrT 262 243 where
 tof:=fun v w=>by kernel_rfl
 asg:=fun w=>by kernel_rfl
 unw:=aRc
 taA:=fun a w=>run_typeAssert_lacksB Tryz.underlying202 (by kernel_rfl) (by kernel_rfl) _ _ w
 taI:=fun a w=>run_typeAssert_lacksB Tryz.underlying192 (by kernel_rfl) (by kernel_rfl) _ _ w
 taU:=fun a w=>run_typeAssert_hasB Tryz.underlying195 (by kernel_rfl) _ _ w
 mU:=fun a w=>by kernel_rfl
 fE:=fun args w=>by simp[callFunc,Tryz.func243,Tryz.f243]
 ne:=by decide
theorem aEi (w:World):Calls Tryz.prog 168 #[.nilIface] w fun e w'=>e = .returned (.int .i64 0)∧Below w.heap.size w w':=by
 go_enter Tryz.func168,Tryz.ntmps168
 go_wp2_with fail
 go_ret
 exact⟨rfl,(Below.refl _ _).alloc (Nat.le_refl _) _⟩
set_option maxHeartbeats 1000000 in
theorem aJr (b o:Nat) (n:Int) (w:World) (hg:qP w) (hc:w.cell? ⟨b,o+1,none⟩=some (.int .i64 n)) (hbl:b<w.heap.size) :
  Calls Tryz.prog 168 #[.iface 262 (.pointer (some ⟨b,o,none⟩))] w fun e w'=>e = .returned (.int .i64 n)∧Below w.heap.size w w':=by
 have b0:Below w.heap.size w (w.alloc (.cells #[.int .i64 0] 41)):=(Below.refl _ _).alloc (Nat.le_refl _) _
 have l0:=dF.new w #[.int .i64 0] 41
 have hg0:qP (w.alloc (.cells #[.int .i64 0] 41)):=hg.below b0
 go_enter Tryz.func168,Tryz.ntmps168
 go_wp2_with fail
 generalize w.alloc (.cells #[.int .i64 0] 41)=W0 at b0 l0 hg0 ⊢
 refine (isR aD8 b o n 130 W0 ((b0.cell (p:=⟨b,o+1,none⟩) hbl).trans hc)).mono ?_
 rintro e w' ⟨rfl,rfl⟩
 cases hn:(n == 130)
 ·go_wp2_with fail
  refine (asR aD8 b o n w.heap.size (.int .i64 0) W0 ((b0.cell (p:=⟨b,o+1,none⟩) hbl).trans hc) (by have:=l0.lt;omega) hg0 (l0.cell 0) (l0.frozen 0) l0.lt).mono ?_
  rintro e w' ⟨rfl,hgr,hcell⟩
  have hb1:Below w.heap.size w w':=b0.grown hgr b0.size (fun k e=>by cases e;exact Nat.le_refl _)
  go_wp2_with fail
  go_ret
  exact⟨rfl,hb1⟩
 ·obtain rfl:n=130:=by simpa using hn
  go_wp2_with fail
  go_ret
  exact⟨rfl,b0⟩
theorem aC9:aJ Tryz.prog 168 [.val .nilIface] (int 0):=oD (by kernel_rfl) aEi
abbrev nK (x:D) (n:Int):D:=.iface 262 (.ptr [x,int n] 0)
theorem aC8 (x:D) (n:Int):aJ Tryz.prog 168 [nK x n] (int n):=mD (by kernel_rfl) aJr x
end Go.Proofs.YtkmfmphpndhkjaaGreatDoor
namespace Go.Proofs.YtkmfmphpndhkjaaGreatDoor
open Go.RowKit Go.Extern.Stop Go.Stop Go.Extern
set_option maxRecDepth 100000
set_option linter.unusedVariables false
set_option linter.unusedSimpArgs false
theorem aOg (a:Addr) (n:Int) (w:World) (hc:w.cell? ⟨a.block,a.off+1,none⟩=some (.int .i64 n)) (ha:a.spot=none) :
  Calls Tryz.prog 239 #[.pointer (some a)] w fun e w'=>e = .returned (.iface 41 (.int .i64 n))∧w=w':=by
 obtain⟨b,o,sp⟩:=a
 cases ha
 go_enter Tryz.func239,Tryz.ntmps239
 go_wp2_with fail
 go_ret
 exact⟨rfl,rfl⟩
theorem aA5:ErrT 207 239 where
 tof:=fun v w=>by kernel_rfl
 asg:=fun w=>by kernel_rfl
 unw:=aOg
 taA:=fun a w=>run_typeAssert_lacksB Tryz.underlying202 (by kernel_rfl) (by kernel_rfl) _ _ w
 taI:=fun a w=>run_typeAssert_lacksB Tryz.underlying192 (by kernel_rfl) (by kernel_rfl) _ _ w
 taU:=fun a w=>run_typeAssert_hasB Tryz.underlying195 (by kernel_rfl) _ _ w
 mU:=fun a w=>by kernel_rfl
 fE:=fun args w=>by simp[callFunc,Tryz.func239,Tryz.f239]
 ne:=by decide
theorem aC6 (w:World):Calls Tryz.prog 87 #[.nilIface] w fun e w'=>e = .returned (.int .i64 0)∧Below w.heap.size w w':=by
 go_enter Tryz.func87,Tryz.ntmps87
 go_wp2_with fail
 go_ret
 exact⟨rfl,(Below.refl _ _).alloc (Nat.le_refl _) _⟩
set_option maxHeartbeats 1000000 in
theorem aGu (b o:Nat) (n:Int) (w:World) (hg:qP w) (hc:w.cell? ⟨b,o+1,none⟩=some (.int .i64 n)) (hbl:b<w.heap.size) :
  Calls Tryz.prog 87 #[.iface 207 (.pointer (some ⟨b,o,none⟩))] w fun e w'=>e = .returned (.int .i64 n)∧Below w.heap.size w w':=by
 have b0:Below w.heap.size w (w.alloc (.cells #[.int .i64 0] 41)):=(Below.refl _ _).alloc (Nat.le_refl _) _
 have l0:=dF.new w #[.int .i64 0] 41
 have hg0:qP (w.alloc (.cells #[.int .i64 0] 41)):=hg.below b0
 go_enter Tryz.func87,Tryz.ntmps87
 go_wp2_with fail
 generalize w.alloc (.cells #[.int .i64 0] 41)=W0 at b0 l0 hg0 ⊢
 refine (isR aA5 b o n 2 W0 ((b0.cell (p:=⟨b,o+1,none⟩) hbl).trans hc)).mono ?_
 rintro e w' ⟨rfl,rfl⟩
 cases hn:(n == 2)
 ·go_wp2_with fail
  refine (asR aA5 b o n w.heap.size (.int .i64 0) W0 ((b0.cell (p:=⟨b,o+1,none⟩) hbl).trans hc) (by have:=l0.lt;omega) hg0 (l0.cell 0) (l0.frozen 0) l0.lt).mono ?_
  rintro e w' ⟨rfl,hgr,hcell⟩
  have hb1:Below w.heap.size w w':=b0.grown hgr b0.size (fun k e=>by cases e;exact Nat.le_refl _)
  go_wp2_with fail
  go_ret
  exact⟨rfl,hb1⟩
 ·obtain rfl:n=2:=by simpa using hn
  go_wp2_with fail
  go_ret
  exact⟨rfl,b0⟩
theorem zW:aJ Tryz.prog 87 [.val .nilIface] (int 0):=oD (by kernel_rfl) aC6
abbrev cZ (x:D) (n:Int):D:=.iface 207 (.ptr [x,int n] 0)
theorem qZ (x:D) (n:Int):aJ Tryz.prog 87 [cZ x n] (int n):=mD (by kernel_rfl) aGu x
end Go.Proofs.YtkmfmphpndhkjaaGreatDoor
namespace Go.Proofs.YtkmfmphpndhkjaaGreatDoor
open Go.RowKit Go.Extern.Stop Go.Stop Go.Extern
set_option maxRecDepth 100000
set_option linter.unusedVariables false
set_option linter.unusedSimpArgs false
theorem aL5 (a:Addr) (n:Int) (w:World) (hc:w.cell? ⟨a.block,a.off+1,none⟩=some (.int .i64 n)) (ha:a.spot=none) :
  Calls Tryz.prog 241 #[.pointer (some a)] w fun e w'=>e = .returned (.iface 41 (.int .i64 n))∧w=w':=by
 obtain⟨b,o,sp⟩:=a
 cases ha
 go_enter Tryz.func241,Tryz.ntmps241
 go_wp2_with fail
 go_ret
 exact⟨rfl,rfl⟩
theorem yA:ErrT 230 241 where
 tof:=fun v w=>by kernel_rfl
 asg:=fun w=>by kernel_rfl
 unw:=aL5
 taA:=fun a w=>run_typeAssert_lacksB Tryz.underlying202 (by kernel_rfl) (by kernel_rfl) _ _ w
 taI:=fun a w=>run_typeAssert_lacksB Tryz.underlying192 (by kernel_rfl) (by kernel_rfl) _ _ w
 taU:=fun a w=>run_typeAssert_hasB Tryz.underlying195 (by kernel_rfl) _ _ w
 mU:=fun a w=>by kernel_rfl
 fE:=fun args w=>by simp[callFunc,Tryz.func241,Tryz.f241]
 ne:=by decide
theorem zU (w:World):Calls Tryz.prog 116 #[.nilIface] w fun e w'=>e = .returned (.int .i64 0)∧Below w.heap.size w w':=by
 go_enter Tryz.func116,Tryz.ntmps116
 go_wp2_with fail
 go_ret
 exact⟨rfl,(Below.refl _ _).alloc (Nat.le_refl _) _⟩
set_option maxHeartbeats 1000000 in
theorem aEj (b o:Nat) (n:Int) (w:World) (hg:qP w) (hc:w.cell? ⟨b,o+1,none⟩=some (.int .i64 n)) (hbl:b<w.heap.size) :
  Calls Tryz.prog 116 #[.iface 230 (.pointer (some ⟨b,o,none⟩))] w fun e w'=>e = .returned (.int .i64 n)∧Below w.heap.size w w':=by
 have b0:Below w.heap.size w (w.alloc (.cells #[.int .i64 0] 41)):=(Below.refl _ _).alloc (Nat.le_refl _) _
 have l0:=dF.new w #[.int .i64 0] 41
 have hg0:qP (w.alloc (.cells #[.int .i64 0] 41)):=hg.below b0
 go_enter Tryz.func116,Tryz.ntmps116
 go_wp2_with fail
 generalize w.alloc (.cells #[.int .i64 0] 41)=W0 at b0 l0 hg0 ⊢
 refine (isR yA b o n 2 W0 ((b0.cell (p:=⟨b,o+1,none⟩) hbl).trans hc)).mono ?_
 rintro e w' ⟨rfl,rfl⟩
 cases hn:(n == 2)
 ·go_wp2_with fail
  refine (asR yA b o n w.heap.size (.int .i64 0) W0 ((b0.cell (p:=⟨b,o+1,none⟩) hbl).trans hc) (by have:=l0.lt;omega) hg0 (l0.cell 0) (l0.frozen 0) l0.lt).mono ?_
  rintro e w' ⟨rfl,hgr,hcell⟩
  have hb1:Below w.heap.size w w':=b0.grown hgr b0.size (fun k e=>by cases e;exact Nat.le_refl _)
  go_wp2_with fail
  go_ret
  exact⟨rfl,hb1⟩
 ·obtain rfl:n=2:=by simpa using hn
  go_wp2_with fail
  go_ret
  exact⟨rfl,b0⟩
theorem yM:aJ Tryz.prog 116 [.val .nilIface] (int 0):=oD (by kernel_rfl) zU
abbrev fM (x:D) (n:Int):D:=.iface 230 (.ptr [x,int n] 0)
theorem yL (x:D) (n:Int):aJ Tryz.prog 116 [fM x n] (int n):=mD (by kernel_rfl) aEj x
theorem aOf (a:Addr) (n:Int) (w:World) (hc:w.cell? ⟨a.block,a.off+1,none⟩=some (.int .i64 n)) (ha:a.spot=none) :
  Calls Tryz.prog 223 #[.pointer (some a)] w fun e w'=>e = .returned (.iface 41 (.int .i64 n))∧w=w':=by
 obtain⟨b,o,sp⟩:=a
 cases ha
 go_enter Tryz.func223,Tryz.ntmps223
 go_wp2_with fail
 go_ret
 exact⟨rfl,rfl⟩
theorem aA4:ErrT 73 223 where
 tof:=fun v w=>by kernel_rfl
 asg:=fun w=>by kernel_rfl
 unw:=aOf
 taA:=fun a w=>run_typeAssert_lacksB Tryz.underlying202 (by kernel_rfl) (by kernel_rfl) _ _ w
 taI:=fun a w=>run_typeAssert_lacksB Tryz.underlying192 (by kernel_rfl) (by kernel_rfl) _ _ w
 taU:=fun a w=>run_typeAssert_hasB Tryz.underlying195 (by kernel_rfl) _ _ w
 mU:=fun a w=>by kernel_rfl
 fE:=fun args w=>by simp[callFunc,Tryz.func223,Tryz.f223]
 ne:=by decide
theorem aC5 (w:World):Calls Tryz.prog 25 #[.nilIface] w fun e w'=>e = .returned (.int .i64 0)∧Below w.heap.size w w':=by
 go_enter Tryz.func25,Tryz.ntmps25
 go_wp2_with fail
 go_ret
 exact⟨rfl,(Below.refl _ _).alloc (Nat.le_refl _) _⟩
set_option maxHeartbeats 1000000 in
theorem aGt (b o:Nat) (n:Int) (w:World) (hg:qP w) (hc:w.cell? ⟨b,o+1,none⟩=some (.int .i64 n)) (hbl:b<w.heap.size) :
  Calls Tryz.prog 25 #[.iface 73 (.pointer (some ⟨b,o,none⟩))] w fun e w'=>e = .returned (.int .i64 n)∧Below w.heap.size w w':=by
 have b0:Below w.heap.size w (w.alloc (.cells #[.int .i64 0] 41)):=(Below.refl _ _).alloc (Nat.le_refl _) _
 have l0:=dF.new w #[.int .i64 0] 41
 have hg0:qP (w.alloc (.cells #[.int .i64 0] 41)):=hg.below b0
 go_enter Tryz.func25,Tryz.ntmps25
 go_wp2_with fail
 generalize w.alloc (.cells #[.int .i64 0] 41)=W0 at b0 l0 hg0 ⊢
 refine (isR aA4 b o n 2 W0 ((b0.cell (p:=⟨b,o+1,none⟩) hbl).trans hc)).mono ?_
 rintro e w' ⟨rfl,rfl⟩
 cases hn:(n == 2)
 ·go_wp2_with fail
  refine (asR aA4 b o n w.heap.size (.int .i64 0) W0 ((b0.cell (p:=⟨b,o+1,none⟩) hbl).trans hc) (by have:=l0.lt;omega) hg0 (l0.cell 0) (l0.frozen 0) l0.lt).mono ?_
  rintro e w' ⟨rfl,hgr,hcell⟩
  have hb1:Below w.heap.size w w':=b0.grown hgr b0.size (fun k e=>by cases e;exact Nat.le_refl _)
  go_wp2_with fail
  go_ret
  exact⟨rfl,hb1⟩
 ·obtain rfl:n=2:=by simpa using hn
  go_wp2_with fail
  go_ret
  exact⟨rfl,b0⟩
theorem zV:aJ Tryz.prog 25 [.val .nilIface] (int 0):=oD (by kernel_rfl) aC5
abbrev kL (x:D) (n:Int):D:=.iface 73 (.ptr [x,int n] 0)
theorem qY (x:D) (n:Int):aJ Tryz.prog 25 [kL x n] (int n):=mD (by kernel_rfl) aGt x
end Go.Proofs.YtkmfmphpndhkjaaGreatDoor
