/- The abstract machine (ErR, ErTb, ErEn, ErIn). -/
import Derived.Test.YtpklhnpchhaccaaGreatDoorErM
namespace Go.Proofs.YtpklhnpchhaccaaGreatDoor
open Go.RowKit Go.Extern.Stop Go.Stop Go.Extern
set_option maxRecDepth 100000
set_option linter.unusedVariables false
set_option linter.unusedSimpArgs false
theorem aMo (a:Addr) (n:Int) (w:World) (hc:w.cell? ⟨a.block,a.off+1,none⟩=some (.int .i64 n)) (ha:a.spot=none) :
  Calls Tryz.prog 368 #[.pointer (some a)] w fun e w'=>e = .returned (.iface 41 (.int .i64 n))∧w=w':=by
 obtain⟨b,o,sp⟩:=a
 cases ha
 go_enter Tryz.func368,Tryz.ntmps368
 go_wp2_with fail
 go_ret
 exact⟨rfl,rfl⟩
theorem aA8:ErrT 346 368 where
 tof:=fun v w=>by kernel_rfl
 asg:=fun w=>by kernel_rfl
 unw:=aMo
 taA:=fun a w=>run_typeAssert_lacksB Tryz.underlying272 (by kernel_rfl) (by kernel_rfl) _ _ w
 taI:=fun a w=>run_typeAssert_lacksB Tryz.underlying262 (by kernel_rfl) (by kernel_rfl) _ _ w
 taU:=fun a w=>run_typeAssert_hasB Tryz.underlying265 (by kernel_rfl) _ _ w
 mU:=fun a w=>by kernel_rfl
 fE:=fun args w=>by simp[callFunc,Tryz.func368,Tryz.f368]
 ne:=by decide
theorem aB9 (w:World):Calls Tryz.prog 262 #[.nilIface] w fun e w'=>e = .returned (.int .i64 0)∧Below w.heap.size w w':=by
 go_enter Tryz.func262,Tryz.ntmps262
 go_wp2_with fail
 go_ret
 exact⟨rfl,(Below.refl _ _).alloc (Nat.le_refl _) _⟩
set_option maxHeartbeats 1000000 in
theorem aFt (b o:Nat) (n:Int) (w:World) (hg:oS w) (hc:w.cell? ⟨b,o+1,none⟩=some (.int .i64 n)) (hbl:b<w.heap.size) :
  Calls Tryz.prog 262 #[.iface 346 (.pointer (some ⟨b,o,none⟩))] w fun e w'=>e = .returned (.int .i64 n)∧Below w.heap.size w w':=by
 have b0:Below w.heap.size w (w.alloc (.cells #[.int .i64 0] 41)):=(Below.refl _ _).alloc (Nat.le_refl _) _
 have l0:=dI.new w #[.int .i64 0] 41
 have hg0:oS (w.alloc (.cells #[.int .i64 0] 41)):=hg.below b0
 go_enter Tryz.func262,Tryz.ntmps262
 go_wp2_with fail
 generalize w.alloc (.cells #[.int .i64 0] 41)=W0 at b0 l0 hg0 ⊢
 refine (isR aA8 b o n 130 W0 ((b0.cell (p:=⟨b,o+1,none⟩) hbl).trans hc)).mono ?_
 rintro e w' ⟨rfl,rfl⟩
 cases hn:(n == 130)
 ·go_wp2_with fail
  refine (asR aA8 b o n w.heap.size (.int .i64 0) W0 ((b0.cell (p:=⟨b,o+1,none⟩) hbl).trans hc) (by have:=l0.lt;omega) hg0 (l0.cell 0) (l0.frozen 0) l0.lt).mono ?_
  rintro e w' ⟨rfl,hgr,hcell⟩
  have hb1:Below w.heap.size w w':=b0.grown hgr b0.size (fun k e=>by cases e;exact Nat.le_refl _)
  go_wp2_with fail
  go_ret
  exact⟨rfl,hb1⟩
 ·obtain rfl:n=130:=by simpa using hn
  go_wp2_with fail
  go_ret
  exact⟨rfl,b0⟩
theorem zD:aJ Tryz.prog 262 [.val .nilIface] (int 0):=mR (by kernel_rfl) aB9
abbrev lX (x:D) (n:Int):D:=.iface 346 (.ptr [x,int n] 0)
theorem zC (x:D) (n:Int):aJ Tryz.prog 262 [lX x n] (int n):=kZ (by kernel_rfl) aFt x
end Go.Proofs.YtpklhnpchhaccaaGreatDoor
namespace Go.Proofs.YtpklhnpchhaccaaGreatDoor
open Go.RowKit Go.Extern.Stop Go.Stop Go.Extern
set_option maxRecDepth 100000
set_option linter.unusedVariables false
set_option linter.unusedSimpArgs false
theorem aJy (a:Addr) (n:Int) (w:World) (hc:w.cell? ⟨a.block,a.off+1,none⟩=some (.int .i64 n)) (ha:a.spot=none) :
  Calls Tryz.prog 364 #[.pointer (some a)] w fun e w'=>e = .returned (.iface 41 (.int .i64 n))∧w=w':=by
 obtain⟨b,o,sp⟩:=a
 cases ha
 go_enter Tryz.func364,Tryz.ntmps364
 go_wp2_with fail
 go_ret
 exact⟨rfl,rfl⟩
theorem wN:ErrT 277 364 where
 tof:=fun v w=>by kernel_rfl
 asg:=fun w=>by kernel_rfl
 unw:=aJy
 taA:=fun a w=>run_typeAssert_lacksB Tryz.underlying272 (by kernel_rfl) (by kernel_rfl) _ _ w
 taI:=fun a w=>run_typeAssert_lacksB Tryz.underlying262 (by kernel_rfl) (by kernel_rfl) _ _ w
 taU:=fun a w=>run_typeAssert_hasB Tryz.underlying265 (by kernel_rfl) _ _ w
 mU:=fun a w=>by kernel_rfl
 fE:=fun args w=>by simp[callFunc,Tryz.func364,Tryz.f364]
 ne:=by decide
theorem zA (w:World):Calls Tryz.prog 146 #[.nilIface] w fun e w'=>e = .returned (.int .i64 0)∧Below w.heap.size w w':=by
 go_enter Tryz.func146,Tryz.ntmps146
 go_wp2_with fail
 go_ret
 exact⟨rfl,(Below.refl _ _).alloc (Nat.le_refl _) _⟩
set_option maxHeartbeats 1000000 in
theorem aDb (b o:Nat) (n:Int) (w:World) (hg:oS w) (hc:w.cell? ⟨b,o+1,none⟩=some (.int .i64 n)) (hbl:b<w.heap.size) :
  Calls Tryz.prog 146 #[.iface 277 (.pointer (some ⟨b,o,none⟩))] w fun e w'=>e = .returned (.int .i64 n)∧Below w.heap.size w w':=by
 have b0:Below w.heap.size w (w.alloc (.cells #[.int .i64 0] 41)):=(Below.refl _ _).alloc (Nat.le_refl _) _
 have l0:=dI.new w #[.int .i64 0] 41
 have hg0:oS (w.alloc (.cells #[.int .i64 0] 41)):=hg.below b0
 go_enter Tryz.func146,Tryz.ntmps146
 go_wp2_with fail
 generalize w.alloc (.cells #[.int .i64 0] 41)=W0 at b0 l0 hg0 ⊢
 refine (isR wN b o n 2 W0 ((b0.cell (p:=⟨b,o+1,none⟩) hbl).trans hc)).mono ?_
 rintro e w' ⟨rfl,rfl⟩
 cases hn:(n == 2)
 ·go_wp2_with fail
  refine (asR wN b o n w.heap.size (.int .i64 0) W0 ((b0.cell (p:=⟨b,o+1,none⟩) hbl).trans hc) (by have:=l0.lt;omega) hg0 (l0.cell 0) (l0.frozen 0) l0.lt).mono ?_
  rintro e w' ⟨rfl,hgr,hcell⟩
  have hb1:Below w.heap.size w w':=b0.grown hgr b0.size (fun k e=>by cases e;exact Nat.le_refl _)
  go_wp2_with fail
  go_ret
  exact⟨rfl,hb1⟩
 ·obtain rfl:n=2:=by simpa using hn
  go_wp2_with fail
  go_ret
  exact⟨rfl,b0⟩
theorem wF:aJ Tryz.prog 146 [.val .nilIface] (int 0):=mR (by kernel_rfl) zA
abbrev dB (x:D) (n:Int):D:=.iface 277 (.ptr [x,int n] 0)
theorem pB (x:D) (n:Int):aJ Tryz.prog 146 [dB x n] (int n):=kZ (by kernel_rfl) aDb x
end Go.Proofs.YtpklhnpchhaccaaGreatDoor
namespace Go.Proofs.YtpklhnpchhaccaaGreatDoor
open Go.RowKit Go.Extern.Stop Go.Stop Go.Extern
set_option maxRecDepth 100000
set_option linter.unusedVariables false
set_option linter.unusedSimpArgs false
theorem aGz (a:Addr) (n:Int) (w:World) (hc:w.cell? ⟨a.block,a.off+1,none⟩=some (.int .i64 n)) (ha:a.spot=none) :
  Calls Tryz.prog 366 #[.pointer (some a)] w fun e w'=>e = .returned (.iface 41 (.int .i64 n))∧w=w':=by
 obtain⟨b,o,sp⟩:=a
 cases ha
 go_enter Tryz.func366,Tryz.ntmps366
 go_wp2_with fail
 go_ret
 exact⟨rfl,rfl⟩
theorem uO:ErrT 307 366 where
 tof:=fun v w=>by kernel_rfl
 asg:=fun w=>by kernel_rfl
 unw:=aGz
 taA:=fun a w=>run_typeAssert_lacksB Tryz.underlying272 (by kernel_rfl) (by kernel_rfl) _ _ w
 taI:=fun a w=>run_typeAssert_lacksB Tryz.underlying262 (by kernel_rfl) (by kernel_rfl) _ _ w
 taU:=fun a w=>run_typeAssert_hasB Tryz.underlying265 (by kernel_rfl) _ _ w
 mU:=fun a w=>by kernel_rfl
 fE:=fun args w=>by simp[callFunc,Tryz.func366,Tryz.f366]
 ne:=by decide
theorem wD (w:World):Calls Tryz.prog 188 #[.nilIface] w fun e w'=>e = .returned (.int .i64 0)∧Below w.heap.size w w':=by
 go_enter Tryz.func188,Tryz.ntmps188
 go_wp2_with fail
 go_ret
 exact⟨rfl,(Below.refl _ _).alloc (Nat.le_refl _) _⟩
set_option maxHeartbeats 1000000 in
theorem aBa (b o:Nat) (n:Int) (w:World) (hg:oS w) (hc:w.cell? ⟨b,o+1,none⟩=some (.int .i64 n)) (hbl:b<w.heap.size) :
  Calls Tryz.prog 188 #[.iface 307 (.pointer (some ⟨b,o,none⟩))] w fun e w'=>e = .returned (.int .i64 n)∧Below w.heap.size w w':=by
 have b0:Below w.heap.size w (w.alloc (.cells #[.int .i64 0] 41)):=(Below.refl _ _).alloc (Nat.le_refl _) _
 have l0:=dI.new w #[.int .i64 0] 41
 have hg0:oS (w.alloc (.cells #[.int .i64 0] 41)):=hg.below b0
 go_enter Tryz.func188,Tryz.ntmps188
 go_wp2_with fail
 generalize w.alloc (.cells #[.int .i64 0] 41)=W0 at b0 l0 hg0 ⊢
 refine (isR uO b o n 2 W0 ((b0.cell (p:=⟨b,o+1,none⟩) hbl).trans hc)).mono ?_
 rintro e w' ⟨rfl,rfl⟩
 cases hn:(n == 2)
 ·go_wp2_with fail
  refine (asR uO b o n w.heap.size (.int .i64 0) W0 ((b0.cell (p:=⟨b,o+1,none⟩) hbl).trans hc) (by have:=l0.lt;omega) hg0 (l0.cell 0) (l0.frozen 0) l0.lt).mono ?_
  rintro e w' ⟨rfl,hgr,hcell⟩
  have hb1:Below w.heap.size w w':=b0.grown hgr b0.size (fun k e=>by cases e;exact Nat.le_refl _)
  go_wp2_with fail
  go_ret
  exact⟨rfl,hb1⟩
 ·obtain rfl:n=2:=by simpa using hn
  go_wp2_with fail
  go_ret
  exact⟨rfl,b0⟩
theorem uY:aJ Tryz.prog 188 [.val .nilIface] (int 0):=mR (by kernel_rfl) wD
abbrev eN (x:D) (n:Int):D:=.iface 307 (.ptr [x,int n] 0)
theorem uX (x:D) (n:Int):aJ Tryz.prog 188 [eN x n] (int n):=kZ (by kernel_rfl) aBa x
theorem aJx (a:Addr) (n:Int) (w:World) (hc:w.cell? ⟨a.block,a.off+1,none⟩=some (.int .i64 n)) (ha:a.spot=none) :
  Calls Tryz.prog 344 #[.pointer (some a)] w fun e w'=>e = .returned (.iface 41 (.int .i64 n))∧w=w':=by
 obtain⟨b,o,sp⟩:=a
 cases ha
 go_enter Tryz.func344,Tryz.ntmps344
 go_wp2_with fail
 go_ret
 exact⟨rfl,rfl⟩
theorem wM:ErrT 99 344 where
 tof:=fun v w=>by kernel_rfl
 asg:=fun w=>by kernel_rfl
 unw:=aJx
 taA:=fun a w=>run_typeAssert_lacksB Tryz.underlying272 (by kernel_rfl) (by kernel_rfl) _ _ w
 taI:=fun a w=>run_typeAssert_lacksB Tryz.underlying262 (by kernel_rfl) (by kernel_rfl) _ _ w
 taU:=fun a w=>run_typeAssert_hasB Tryz.underlying265 (by kernel_rfl) _ _ w
 mU:=fun a w=>by kernel_rfl
 fE:=fun args w=>by simp[callFunc,Tryz.func344,Tryz.f344]
 ne:=by decide
theorem yZ (w:World):Calls Tryz.prog 46 #[.nilIface] w fun e w'=>e = .returned (.int .i64 0)∧Below w.heap.size w w':=by
 go_enter Tryz.func46,Tryz.ntmps46
 go_wp2_with fail
 go_ret
 exact⟨rfl,(Below.refl _ _).alloc (Nat.le_refl _) _⟩
set_option maxHeartbeats 1000000 in
theorem aDa (b o:Nat) (n:Int) (w:World) (hg:oS w) (hc:w.cell? ⟨b,o+1,none⟩=some (.int .i64 n)) (hbl:b<w.heap.size) :
  Calls Tryz.prog 46 #[.iface 99 (.pointer (some ⟨b,o,none⟩))] w fun e w'=>e = .returned (.int .i64 n)∧Below w.heap.size w w':=by
 have b0:Below w.heap.size w (w.alloc (.cells #[.int .i64 0] 41)):=(Below.refl _ _).alloc (Nat.le_refl _) _
 have l0:=dI.new w #[.int .i64 0] 41
 have hg0:oS (w.alloc (.cells #[.int .i64 0] 41)):=hg.below b0
 go_enter Tryz.func46,Tryz.ntmps46
 go_wp2_with fail
 generalize w.alloc (.cells #[.int .i64 0] 41)=W0 at b0 l0 hg0 ⊢
 refine (isR wM b o n 2 W0 ((b0.cell (p:=⟨b,o+1,none⟩) hbl).trans hc)).mono ?_
 rintro e w' ⟨rfl,rfl⟩
 cases hn:(n == 2)
 ·go_wp2_with fail
  refine (asR wM b o n w.heap.size (.int .i64 0) W0 ((b0.cell (p:=⟨b,o+1,none⟩) hbl).trans hc) (by have:=l0.lt;omega) hg0 (l0.cell 0) (l0.frozen 0) l0.lt).mono ?_
  rintro e w' ⟨rfl,hgr,hcell⟩
  have hb1:Below w.heap.size w w':=b0.grown hgr b0.size (fun k e=>by cases e;exact Nat.le_refl _)
  go_wp2_with fail
  go_ret
  exact⟨rfl,hb1⟩
 ·obtain rfl:n=2:=by simpa using hn
  go_wp2_with fail
  go_ret
  exact⟨rfl,b0⟩
theorem wE:aJ Tryz.prog 46 [.val .nilIface] (int 0):=mR (by kernel_rfl) yZ
abbrev jQ (x:D) (n:Int):D:=.iface 99 (.ptr [x,int n] 0)
theorem pA (x:D) (n:Int):aJ Tryz.prog 46 [jQ x n] (int n):=kZ (by kernel_rfl) aDa x
end Go.Proofs.YtpklhnpchhaccaaGreatDoor
namespace Go.Proofs.YtpklhnpchhaccaaGreatDoor
open Go.RowKit Go.Extern.Stop Go.Stop Go.Extern
set_option maxRecDepth 100000
set_option linter.unusedVariables false
set_option linter.unusedSimpArgs false
end Go.Proofs.YtpklhnpchhaccaaGreatDoor
