/- The abstract machine (ErR, ErTb, ErEn). -/
import Derived.Test.YtkmfmphpndhkjaaGreatDoorErM
namespace Go.Proofs.YtkmfmphpndhkjaaGreatDoor
open Go.RowKit Go.Extern.Stop Go.Stop Go.Extern
set_option maxRecDepth 100000
set_option linter.unusedVariables false
set_option linter.unusedSimpArgs false
theorem aMo (a:Addr) (n:Int) (w:World) (hc:w.cell? ⟨a.block,a.off+1,none⟩=some (.int .i64 n)) (ha:a.spot=none) :
  Calls Tryz.prog 243 #[.pointer (some a)] w fun e w'=>e = .returned (.iface 41 (.int .i64 n))∧w=w':=by
 obtain⟨b,o,sp⟩:=a
 cases ha
 go_enter Tryz.func243,Tryz.ntmps243
 go_wp2_with fail
 go_ret
 exact⟨rfl,rfl⟩
theorem aA8:ErrT 262 243 where
 tof:=fun v w=>by kernel_rfl
 asg:=fun w=>by kernel_rfl
 unw:=aMo
 taA:=fun a w=>run_typeAssert_lacksB Tryz.underlying202 (by kernel_rfl) (by kernel_rfl) _ _ w
 taI:=fun a w=>run_typeAssert_lacksB Tryz.underlying192 (by kernel_rfl) (by kernel_rfl) _ _ w
 taU:=fun a w=>run_typeAssert_hasB Tryz.underlying195 (by kernel_rfl) _ _ w
 mU:=fun a w=>by kernel_rfl
 fE:=fun args w=>by simp[callFunc,Tryz.func243,Tryz.f243]
 ne:=by decide
theorem aB9 (w:World):Calls Tryz.prog 168 #[.nilIface] w fun e w'=>e = .returned (.int .i64 0)∧Below w.heap.size w w':=by
 go_enter Tryz.func168,Tryz.ntmps168
 go_wp2_with fail
 go_ret
 exact⟨rfl,(Below.refl _ _).alloc (Nat.le_refl _) _⟩
set_option maxHeartbeats 1000000 in
theorem aFt (b o:Nat) (n:Int) (w:World) (hg:oS w) (hc:w.cell? ⟨b,o+1,none⟩=some (.int .i64 n)) (hbl:b<w.heap.size) :
  Calls Tryz.prog 168 #[.iface 262 (.pointer (some ⟨b,o,none⟩))] w fun e w'=>e = .returned (.int .i64 n)∧Below w.heap.size w w':=by
 have b0:Below w.heap.size w (w.alloc (.cells #[.int .i64 0] 41)):=(Below.refl _ _).alloc (Nat.le_refl _) _
 have l0:=dE.new w #[.int .i64 0] 41
 have hg0:oS (w.alloc (.cells #[.int .i64 0] 41)):=hg.below b0
 go_enter Tryz.func168,Tryz.ntmps168
 go_wp2_with fail
 generalize w.alloc (.cells #[.int .i64 0] 41)=W0 at b0 l0 hg0 ⊢
 refine (isR aA8 b o n 130 W0 ((b0.cell (p:=⟨b,o+1,none⟩) hbl).trans hc)).mono ?_
 rintro e w' ⟨rfl,rfl⟩
 cases hn:(n == 130)
 ·go_wp2_with fail
  refine (asR aA8 b o n w.heap.size (.int .i64 0) W0 ((b0.cell (p:=⟨b,o+1,none⟩) hbl).trans hc) (by have:=l0.lt;omega) hg0 (l0.cell 0) (l0.frozen 0) l0.lt).mono ?_
  rintro e w' ⟨rfl,hgr,hcell⟩
  have hb1:Below w.heap.size w w':=b0.grown hgr b0.size (fun k e=>by cases e;exact Nat.le_refl _)
  go_wp2_with fail
  go_ret
  exact⟨rfl,hb1⟩
 ·obtain rfl:n=130:=by simpa using hn
  go_wp2_with fail
  go_ret
  exact⟨rfl,b0⟩
theorem zD:aJ Tryz.prog 168 [.val .nilIface] (int 0):=mR (by kernel_rfl) aB9
abbrev lX (x:D) (n:Int):D:=.iface 262 (.ptr [x,int n] 0)
theorem zC (x:D) (n:Int):aJ Tryz.prog 168 [lX x n] (int n):=kZ (by kernel_rfl) aFt x
end Go.Proofs.YtkmfmphpndhkjaaGreatDoor
namespace Go.Proofs.YtkmfmphpndhkjaaGreatDoor
open Go.RowKit Go.Extern.Stop Go.Stop Go.Extern
set_option maxRecDepth 100000
set_option linter.unusedVariables false
set_option linter.unusedSimpArgs false
theorem aJy (a:Addr) (n:Int) (w:World) (hc:w.cell? ⟨a.block,a.off+1,none⟩=some (.int .i64 n)) (ha:a.spot=none) :
  Calls Tryz.prog 239 #[.pointer (some a)] w fun e w'=>e = .returned (.iface 41 (.int .i64 n))∧w=w':=by
 obtain⟨b,o,sp⟩:=a
 cases ha
 go_enter Tryz.func239,Tryz.ntmps239
 go_wp2_with fail
 go_ret
 exact⟨rfl,rfl⟩
theorem wN:ErrT 207 239 where
 tof:=fun v w=>by kernel_rfl
 asg:=fun w=>by kernel_rfl
 unw:=aJy
 taA:=fun a w=>run_typeAssert_lacksB Tryz.underlying202 (by kernel_rfl) (by kernel_rfl) _ _ w
 taI:=fun a w=>run_typeAssert_lacksB Tryz.underlying192 (by kernel_rfl) (by kernel_rfl) _ _ w
 taU:=fun a w=>run_typeAssert_hasB Tryz.underlying195 (by kernel_rfl) _ _ w
 mU:=fun a w=>by kernel_rfl
 fE:=fun args w=>by simp[callFunc,Tryz.func239,Tryz.f239]
 ne:=by decide
theorem zA (w:World):Calls Tryz.prog 87 #[.nilIface] w fun e w'=>e = .returned (.int .i64 0)∧Below w.heap.size w w':=by
 go_enter Tryz.func87,Tryz.ntmps87
 go_wp2_with fail
 go_ret
 exact⟨rfl,(Below.refl _ _).alloc (Nat.le_refl _) _⟩
set_option maxHeartbeats 1000000 in
theorem aDb (b o:Nat) (n:Int) (w:World) (hg:oS w) (hc:w.cell? ⟨b,o+1,none⟩=some (.int .i64 n)) (hbl:b<w.heap.size) :
  Calls Tryz.prog 87 #[.iface 207 (.pointer (some ⟨b,o,none⟩))] w fun e w'=>e = .returned (.int .i64 n)∧Below w.heap.size w w':=by
 have b0:Below w.heap.size w (w.alloc (.cells #[.int .i64 0] 41)):=(Below.refl _ _).alloc (Nat.le_refl _) _
 have l0:=dE.new w #[.int .i64 0] 41
 have hg0:oS (w.alloc (.cells #[.int .i64 0] 41)):=hg.below b0
 go_enter Tryz.func87,Tryz.ntmps87
 go_wp2_with fail
 generalize w.alloc (.cells #[.int .i64 0] 41)=W0 at b0 l0 hg0 ⊢
 refine (isR wN b o n 2 W0 ((b0.cell (p:=⟨b,o+1,none⟩) hbl).trans hc)).mono ?_
 rintro e w' ⟨rfl,rfl⟩
 cases hn:(n == 2)
 ·go_wp2_with fail
  refine (asR wN b o n w.heap.size (.int .i64 0) W0 ((b0.cell (p:=⟨b,o+1,none⟩) hbl).trans hc) (by have:=l0.lt;omega) hg0 (l0.cell 0) (l0.frozen 0) l0.lt).mono ?_
  rintro e w' ⟨rfl,hgr,hcell⟩
  have hb1:Below w.heap.size w w':=b0.grown hgr b0.size (fun k e=>by cases e;exact Nat.le_refl _)
  go_wp2_with fail
  go_ret
  exact⟨rfl,hb1⟩
 ·obtain rfl:n=2:=by simpa using hn
  go_wp2_with fail
  go_ret
  exact⟨rfl,b0⟩
theorem wF:aJ Tryz.prog 87 [.val .nilIface] (int 0):=mR (by kernel_rfl) zA
abbrev cZ (x:D) (n:Int):D:=.iface 207 (.ptr [x,int n] 0)
theorem pB (x:D) (n:Int):aJ Tryz.prog 87 [cZ x n] (int n):=kZ (by kernel_rfl) aDb x
end Go.Proofs.YtkmfmphpndhkjaaGreatDoor
namespace Go.Proofs.YtkmfmphpndhkjaaGreatDoor
open Go.RowKit Go.Extern.Stop Go.Stop Go.Extern
set_option maxRecDepth 100000
set_option linter.unusedVariables false
set_option linter.unusedSimpArgs false
theorem aGz (a:Addr) (n:Int) (w:World) (hc:w.cell? ⟨a.block,a.off+1,none⟩=some (.int .i64 n)) (ha:a.spot=none) :
  Calls Tryz.prog 241 #[.pointer (some a)] w fun e w'=>e = .returned (.iface 41 (.int .i64 n))∧w=w':=by
 obtain⟨b,o,sp⟩:=a
 cases ha
 go_enter Tryz.func241,Tryz.ntmps241
 go_wp2_with fail
 go_ret
 exact⟨rfl,rfl⟩
theorem uO:ErrT 230 241 where
 tof:=fun v w=>by kernel_rfl
 asg:=fun w=>by kernel_rfl
 unw:=aGz
 taA:=fun a w=>run_typeAssert_lacksB Tryz.underlying202 (by kernel_rfl) (by kernel_rfl) _ _ w
 taI:=fun a w=>run_typeAssert_lacksB Tryz.underlying192 (by kernel_rfl) (by kernel_rfl) _ _ w
 taU:=fun a w=>run_typeAssert_hasB Tryz.underlying195 (by kernel_rfl) _ _ w
 mU:=fun a w=>by kernel_rfl
 fE:=fun args w=>by simp[callFunc,Tryz.func241,Tryz.f241]
 ne:=by decide
theorem wD (w:World):Calls Tryz.prog 116 #[.nilIface] w fun e w'=>e = .returned (.int .i64 0)∧Below w.heap.size w w':=by
 go_enter Tryz.func116,Tryz.ntmps116
 go_wp2_with fail
 go_ret
 exact⟨rfl,(Below.refl _ _).alloc (Nat.le_refl _) _⟩
set_option maxHeartbeats 1000000 in
theorem aBa (b o:Nat) (n:Int) (w:World) (hg:oS w) (hc:w.cell? ⟨b,o+1,none⟩=some (.int .i64 n)) (hbl:b<w.heap.size) :
  Calls Tryz.prog 116 #[.iface 230 (.pointer (some ⟨b,o,none⟩))] w fun e w'=>e = .returned (.int .i64 n)∧Below w.heap.size w w':=by
 have b0:Below w.heap.size w (w.alloc (.cells #[.int .i64 0] 41)):=(Below.refl _ _).alloc (Nat.le_refl _) _
 have l0:=dE.new w #[.int .i64 0] 41
 have hg0:oS (w.alloc (.cells #[.int .i64 0] 41)):=hg.below b0
 go_enter Tryz.func116,Tryz.ntmps116
 go_wp2_with fail
 generalize w.alloc (.cells #[.int .i64 0] 41)=W0 at b0 l0 hg0 ⊢
 refine (isR uO b o n 2 W0 ((b0.cell (p:=⟨b,o+1,none⟩) hbl).trans hc)).mono ?_
 rintro e w' ⟨rfl,rfl⟩
 cases hn:(n == 2)
 ·go_wp2_with fail
  refine (asR uO b o n w.heap.size (.int .i64 0) W0 ((b0.cell (p:=⟨b,o+1,none⟩) hbl).trans hc) (by have:=l0.lt;omega) hg0 (l0.cell 0) (l0.frozen 0) l0.lt).mono ?_
  rintro e w' ⟨rfl,hgr,hcell⟩
  have hb1:Below w.heap.size w w':=b0.grown hgr b0.size (fun k e=>by cases e;exact Nat.le_refl _)
  go_wp2_with fail
  go_ret
  exact⟨rfl,hb1⟩
 ·obtain rfl:n=2:=by simpa using hn
  go_wp2_with fail
  go_ret
  exact⟨rfl,b0⟩
theorem uY:aJ Tryz.prog 116 [.val .nilIface] (int 0):=mR (by kernel_rfl) wD
abbrev eM (x:D) (n:Int):D:=.iface 230 (.ptr [x,int n] 0)
theorem uX (x:D) (n:Int):aJ Tryz.prog 116 [eM x n] (int n):=kZ (by kernel_rfl) aBa x
theorem aJx (a:Addr) (n:Int) (w:World) (hc:w.cell? ⟨a.block,a.off+1,none⟩=some (.int .i64 n)) (ha:a.spot=none) :
  Calls Tryz.prog 223 #[.pointer (some a)] w fun e w'=>e = .returned (.iface 41 (.int .i64 n))∧w=w':=by
 obtain⟨b,o,sp⟩:=a
 cases ha
 go_enter Tryz.func223,Tryz.ntmps223
 go_wp2_with fail
 go_ret
 exact⟨rfl,rfl⟩
theorem wM:ErrT 73 223 where
 tof:=fun v w=>by kernel_rfl
 asg:=fun w=>by kernel_rfl
 unw:=aJx
 taA:=fun a w=>run_typeAssert_lacksB Tryz.underlying202 (by kernel_rfl) (by kernel_rfl) _ _ w
 taI:=fun a w=>run_typeAssert_lacksB Tryz.underlying192 (by kernel_rfl) (by kernel_rfl) _ _ w
 taU:=fun a w=>run_typeAssert_hasB Tryz.underlying195 (by kernel_rfl) _ _ w
 mU:=fun a w=>by kernel_rfl
 fE:=fun args w=>by simp[callFunc,Tryz.func223,Tryz.f223]
 ne:=by decide
theorem yZ (w:World):Calls Tryz.prog 25 #[.nilIface] w fun e w'=>e = .returned (.int .i64 0)∧Below w.heap.size w w':=by
 go_enter Tryz.func25,Tryz.ntmps25
 go_wp2_with fail
 go_ret
 exact⟨rfl,(Below.refl _ _).alloc (Nat.le_refl _) _⟩
set_option maxHeartbeats 1000000 in
theorem aDa (b o:Nat) (n:Int) (w:World) (hg:oS w) (hc:w.cell? ⟨b,o+1,none⟩=some (.int .i64 n)) (hbl:b<w.heap.size) :
  Calls Tryz.prog 25 #[.iface 73 (.pointer (some ⟨b,o,none⟩))] w fun e w'=>e = .returned (.int .i64 n)∧Below w.heap.size w w':=by
 have b0:Below w.heap.size w (w.alloc (.cells #[.int .i64 0] 41)):=(Below.refl _ _).alloc (Nat.le_refl _) _
 have l0:=dE.new w #[.int .i64 0] 41
 have hg0:oS (w.alloc (.cells #[.int .i64 0] 41)):=hg.below b0
 go_enter Tryz.func25,Tryz.ntmps25
 go_wp2_with fail
 generalize w.alloc (.cells #[.int .i64 0] 41)=W0 at b0 l0 hg0 ⊢
 refine (isR wM b o n 2 W0 ((b0.cell (p:=⟨b,o+1,none⟩) hbl).trans hc)).mono ?_
 rintro e w' ⟨rfl,rfl⟩
 cases hn:(n == 2)
 ·go_wp2_with fail
  refine (asR wM b o n w.heap.size (.int .i64 0) W0 ((b0.cell (p:=⟨b,o+1,none⟩) hbl).trans hc) (by have:=l0.lt;omega) hg0 (l0.cell 0) (l0.frozen 0) l0.lt).mono ?_
  rintro e w' ⟨rfl,hgr,hcell⟩
  have hb1:Below w.heap.size w w':=b0.grown hgr b0.size (fun k e=>by cases e;exact Nat.le_refl _)
  go_wp2_with fail
  go_ret
  exact⟨rfl,hb1⟩
 ·obtain rfl:n=2:=by simpa using hn
  go_wp2_with fail
  go_ret
  exact⟨rfl,b0⟩
theorem wE:aJ Tryz.prog 25 [.val .nilIface] (int 0):=mR (by kernel_rfl) yZ
abbrev jQ (x:D) (n:Int):D:=.iface 73 (.ptr [x,int n] 0)
theorem pA (x:D) (n:Int):aJ Tryz.prog 25 [jQ x n] (int n):=kZ (by kernel_rfl) aDa x
end Go.Proofs.YtkmfmphpndhkjaaGreatDoor
