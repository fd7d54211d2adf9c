/- The reference of layer 7: the same entries? too great ones? -/
import Derived.Test.YtafipkbffboebaaDoorCpD0
import Derived.Test.YtafipkbffboebaaDoorSqM
namespace Go.Proofs.YtafipkbffboebaaDoor
open Go Go.RowKit
set_option maxHeartbeats 8000000
set_option maxRecDepth 100000
set_option linter.unusedVariables false
set_option linter.unusedSimpArgs false
theorem RecD_fs (f g : RecD) : ∃ fs, Tryd.prog.underlying 70 = some (.struct fs) ∧ eqFs Tryd.prog 9999 #[.string ⟨List.toArray f.key⟩, .string ⟨List.toArray f.value⟩] #[.string ⟨List.toArray g.key⟩, .string ⟨List.toArray g.value⟩] fs.toList = some (decide (f = g)) := by
  refine ⟨_, Tryd.underlying70, ?_⟩
  have is : pureRun Tryd.prog (isAgg 9) = some false := by kernel_rfl
  have ss := fun x y => eqIn_str (d := 9998) Tryd.underlying9 x y
  simp only [Nat.reduceAdd] at ss
  obtain ⟨a1, a2⟩ := f
  obtain ⟨b1, b2⟩ := g
  have e : decide (RecD.mk a1 a2 = RecD.mk b1 b2) = (a1 == b1 && (a2 == b2)) := by rw [Bool.eq_iff_iff]; simp only [RecD.mk.injEq, Bool.and_eq_true, beq_iff_eq, decide_eq_true_eq]
  rw [e]
  cases h1 : (a1 == b1) <;> cases h2 : (a2 == b2) <;> simp [eqFs, is, ss, bs_beq, h1, h2]
theorem RecD_bin (x y : Operand) (f g : RecD) : aBin Tryd.prog .eql 70 x y (.agg [.d (str f.key), .d (str f.value)]) (.agg [.d (str g.key), .d (str g.value)]) = some (Res.pure (vb (decide (f = g)))) ∧ aBin Tryd.prog .neq 70 x y (.agg [.d (str f.key), .d (str f.value)]) (.agg [.d (str g.key), .d (str g.value)]) = some (Res.pure (vb (!decide (f = g)))) := by
  obtain ⟨fs, hu, he⟩ := RecD_fs f g
  exact agg_eql hu (by kernel_rfl) (by kernel_rfl) he
end Go.Proofs.YtafipkbffboebaaDoor
