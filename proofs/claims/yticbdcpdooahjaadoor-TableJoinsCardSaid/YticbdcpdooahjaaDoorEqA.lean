/- Equality of rows. -/
import Derived.Test.YticbdcpdooahjaaDoorApi
namespace Go.Proofs.YticbdcpdooahjaaDoor
open Go Go.RowKit
set_option maxHeartbeats 4000000
set_option maxRecDepth 100000
set_option linter.unusedVariables false
set_option linter.unusedSimpArgs false
theorem RowD_fs (f g : RowD) : ∃ fs, Tryd.prog.underlying 76 = some (.struct fs) ∧ eqFs Tryd.prog 9999 #[.int .i64 f.off, .int .i64 f.pid, .int .i64 f.seq, .string ⟨List.toArray f.key⟩, .string ⟨List.toArray f.value⟩] #[.int .i64 g.off, .int .i64 g.pid, .int .i64 g.seq, .string ⟨List.toArray g.key⟩, .string ⟨List.toArray g.value⟩] fs.toList = some (decide (f = g)) := by
  refine ⟨_, Tryd.underlying76, ?_⟩
  have ii : pureRun Tryd.prog (isAgg 3) = some false := by kernel_rfl
  have si := fun x y => eqIn_int (d := 9998) Tryd.underlying3 .i64 x y
  simp only [Nat.reduceAdd] at si
  have is : pureRun Tryd.prog (isAgg 9) = some false := by kernel_rfl
  have ss := fun x y => eqIn_str (d := 9998) Tryd.underlying9 x y
  simp only [Nat.reduceAdd] at ss
  obtain ⟨a1, a2, a3, a4, a5⟩ := f
  obtain ⟨b1, b2, b3, b4, b5⟩ := g
  have e : decide (RowD.mk a1 a2 a3 a4 a5 = RowD.mk b1 b2 b3 b4 b5) = (a1 == b1 && (a2 == b2 && (a3 == b3 && (a4 == b4 && (a5 == b5))))) := by rw [Bool.eq_iff_iff]; simp only [RowD.mk.injEq, Bool.and_eq_true, beq_iff_eq, decide_eq_true_eq]
  rw [e]
  cases h1 : (a1 == b1) <;> cases h2 : (a2 == b2) <;> cases h3 : (a3 == b3) <;> cases h4 : (a4 == b4) <;> cases h5 : (a5 == b5) <;> simp [eqFs, ii, si, is, ss, bs_beq, h1, h2, h3, h4, h5]
theorem RowD_bin (x y : Operand) (f g : RowD) : aBin Tryd.prog .eql 76 x y (.agg [.d (int f.off), .d (int f.pid), .d (int f.seq), .d (str f.key), .d (str f.value)]) (.agg [.d (int g.off), .d (int g.pid), .d (int g.seq), .d (str g.key), .d (str g.value)]) = some (Res.pure (vb (decide (f = g)))) ∧ aBin Tryd.prog .neq 76 x y (.agg [.d (int f.off), .d (int f.pid), .d (int f.seq), .d (str f.key), .d (str f.value)]) (.agg [.d (int g.off), .d (int g.pid), .d (int g.seq), .d (str g.key), .d (str g.value)]) = some (Res.pure (vb (!decide (f = g)))) := by
  obtain ⟨fs, hu, he⟩ := RowD_fs f g
  exact agg_eql hu (by kernel_rfl) (by kernel_rfl) he
theorem bin_eqlB {x y : Operand} {a b : Bool} : aBin Tryd.prog .eql 4 x y (vb a) (vb b) = some (Res.pure (vb (a == b))) := by cases a <;> cases b <;> kernel_rfl
theorem bin_neqB {x y : Operand} {a b : Bool} : aBin Tryd.prog .neq 4 x y (vb a) (vb b) = some (Res.pure (vb (a != b))) := by cases a <;> cases b <;> kernel_rfl
end Go.Proofs.YticbdcpdooahjaaDoor
