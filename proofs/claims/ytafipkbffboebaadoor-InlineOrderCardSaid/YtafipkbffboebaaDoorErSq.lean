/- The error of package seqs, and its code. -/
import Derived.Test.YtafipkbffboebaaDoorErM
namespace Go.Proofs.YtafipkbffboebaaDoor
open Go.RowKit Go.Extern.Stop Go.Stop Go.Extern
set_option maxRecDepth 100000
set_option linter.unusedVariables false
set_option linter.unusedSimpArgs false
theorem unw_seqs (a : Addr) (n : Int) (w : World) (hc : w.cell? ⟨a.block, a.off + 1, none⟩ = some (.int .i64 n)) (ha : a.spot = none) :
    Calls Tryd.prog 166 #[.pointer (some a)] w fun e w' => e = .returned (.iface 31 (.int .i64 n)) ∧ w = w' := by
  obtain ⟨b, o, sp⟩ := a
  cases ha
  go_enter Tryd.func166, Tryd.ntmps166
  go_wp2_with fail
  go_ret
  exact ⟨rfl, rfl⟩
theorem errT_seqs : ErrT 182 166 where
  tof := fun v w => by kernel_rfl
  asg := fun w => by kernel_rfl
  unw := unw_seqs
  taA := fun a w => run_typeAssert_lacksB Tryd.underlying166 (by kernel_rfl) (by kernel_rfl) _ _ w
  taI := fun a w => run_typeAssert_lacksB Tryd.underlying156 (by kernel_rfl) (by kernel_rfl) _ _ w
  taU := fun a w => run_typeAssert_hasB Tryd.underlying159 (by kernel_rfl) _ _ w
  mU := fun a w => by kernel_rfl
  fE := fun args w => by simp [callFunc, Tryd.func166, Tryd.f166]
  ne := by decide
theorem codeNil_seqs (w : World) : Calls Tryd.prog 104 #[.nilIface] w fun e w' => e = .returned (.int .i64 0) ∧ Below w.heap.size w w' := by
  go_enter Tryd.func104, Tryd.ntmps104
  go_wp2_with fail
  go_ret
  exact ⟨rfl, (Below.refl _ _).alloc (Nat.le_refl _) _⟩
set_option maxHeartbeats 1000000 in
theorem codeR_seqs (b o : Nat) (n : Int) (w : World) (hg : Glob w) (hc : w.cell? ⟨b, o + 1, none⟩ = some (.int .i64 n)) (hbl : b < w.heap.size) :
    Calls Tryd.prog 104 #[.iface 182 (.pointer (some ⟨b, o, none⟩))] w fun e w' => e = .returned (.int .i64 n) ∧ Below w.heap.size w w' := by
  have b0 : Below w.heap.size w (w.alloc (.cells #[.int .i64 0] 31)) := (Below.refl _ _).alloc (Nat.le_refl _) _
  have l0 := LiesAt.new w #[.int .i64 0] 31
  have hg0 : Glob (w.alloc (.cells #[.int .i64 0] 31)) := hg.below b0
  go_enter Tryd.func104, Tryd.ntmps104
  go_wp2_with fail
  generalize w.alloc (.cells #[.int .i64 0] 31) = W0 at b0 l0 hg0 ⊢
  refine (asR errT_seqs b o n w.heap.size (.int .i64 0) W0 ((b0.cell (p := ⟨b, o + 1, none⟩) hbl).trans hc) (by have := l0.lt; omega) hg0 (l0.cell 0) (l0.frozen 0) l0.lt).mono ?_
  rintro e w' ⟨rfl, hgr, hcell⟩
  have hb1 : Below w.heap.size w w' := b0.grown hgr b0.size (fun k e => by cases e; exact Nat.le_refl _)
  go_wp2_with fail
  go_ret
  exact ⟨rfl, hb1⟩
theorem code_nil_seqs : Fun Tryd.prog 104 [.val .nilIface] (int 0) := code_nil_of (by kernel_rfl) codeNil_seqs
abbrev err_seqs (x : D) (n : Int) : D := .iface 182 (.ptr [x, int n] 0)
theorem code_err_seqs (x : D) (n : Int) : Fun Tryd.prog 104 [err_seqs x n] (int n) := code_err_of (by kernel_rfl) codeR_seqs x
end Go.Proofs.YtafipkbffboebaaDoor
