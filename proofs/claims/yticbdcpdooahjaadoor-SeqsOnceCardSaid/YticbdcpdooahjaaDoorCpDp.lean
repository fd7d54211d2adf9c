/- The reference of layer 7: the same producers? -/
import Derived.Test.YticbdcpdooahjaaDoorEnt
import Derived.Test.YticbdcpdooahjaaDoorEqA
namespace Go.Proofs.YticbdcpdooahjaaDoor
open Go Go.RowKit
set_option maxHeartbeats 8000000
set_option maxRecDepth 100000
set_option linter.unusedVariables false
set_option linter.unusedSimpArgs false
theorem SeenD_fs (f g : SeenD) : ∃ fs, Tryd.prog.underlying 108 = some (.struct fs) ∧ eqFs Tryd.prog 9999 #[.int .i64 f.seq, .int .i64 f.count, .int .i64 f.base] #[.int .i64 g.seq, .int .i64 g.count, .int .i64 g.base] fs.toList = some (decide (f = g)) := by
  refine ⟨_, Tryd.underlying108, ?_⟩
  have ii : pureRun Tryd.prog (isAgg 3) = some false := by kernel_rfl
  have si := fun x y => eqIn_int (d := 9998) Tryd.underlying3 .i64 x y
  simp only [Nat.reduceAdd] at si
  obtain ⟨a1, a2, a3⟩ := f
  obtain ⟨b1, b2, b3⟩ := g
  have e : decide (SeenD.mk a1 a2 a3 = SeenD.mk b1 b2 b3) = (a1 == b1 && (a2 == b2 && (a3 == b3))) := by rw [Bool.eq_iff_iff]; simp only [SeenD.mk.injEq, Bool.and_eq_true, beq_iff_eq, decide_eq_true_eq]
  rw [e]
  cases h1 : (a1 == b1) <;> cases h2 : (a2 == b2) <;> cases h3 : (a3 == b3) <;> simp [eqFs, ii, si, bs_beq, h1, h2, h3]
theorem SeenD_bin (x y : Operand) (f g : SeenD) : aBin Tryd.prog .eql 108 x y (.agg [.d (int f.seq), .d (int f.count), .d (int f.base)]) (.agg [.d (int g.seq), .d (int g.count), .d (int g.base)]) = some (Res.pure (vb (decide (f = g)))) ∧ aBin Tryd.prog .neq 108 x y (.agg [.d (int f.seq), .d (int f.count), .d (int f.base)]) (.agg [.d (int g.seq), .d (int g.count), .d (int g.base)]) = some (Res.pure (vb (!decide (f = g)))) := by
  obtain ⟨fs, hu, he⟩ := SeenD_fs f g
  exact agg_eql hu (by kernel_rfl) (by kernel_rfl) he
def prodNe (a b : ProdD) : Bool := a.pid != b.pid || a.epoch != b.epoch || a.next != b.next || (a.seen.length : Int) != (b.seen.length : Int)
end Go.Proofs.YticbdcpdooahjaaDoor
