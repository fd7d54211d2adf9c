/- The abstract machine (CpD, CpR6). -/
import Derived.Test.YtpklhnpchhaccaaGreatDoorCpM0
import Derived.Test.YtpklhnpchhaccaaGreatDoorSqM
namespace Go.Proofs.YtpklhnpchhaccaaGreatDoor
open Go Go.RowKit
set_option maxHeartbeats 8000000
set_option maxRecDepth 100000
set_option linter.unusedVariables false
set_option linter.unusedSimpArgs false
theorem aQw (f g : RecD) : ∃ fs, Tryz.prog.underlying 112 = some (.struct fs) ∧ xJ Tryz.prog 9999 #[.string ⟨List.toArray f.key⟩, .string ⟨List.toArray f.value⟩] #[.string ⟨List.toArray g.key⟩, .string ⟨List.toArray g.value⟩] fs.toList = some (decide (f = g)) := by
 refine ⟨_, Tryz.underlying112, ?_⟩
 have is : aP Tryz.prog (isAgg 9) = some false := by kernel_rfl
 have ss := fun x y => aFw (d := 9998) Tryz.underlying9 x y
 simp only [Nat.reduceAdd] at ss
 obtain ⟨a1, a2⟩ := f
 obtain ⟨b1, b2⟩ := g
 have e : decide (RecD.mk a1 a2 = RecD.mk b1 b2) = (a1 == b1 && (a2 == b2)) := by rw [Bool.eq_iff_iff]; simp only [RecD.mk.injEq, Bool.and_eq_true, beq_iff_eq, decide_eq_true_eq]
 rw [e]
 cases h1 : (a1 == b1) <;> cases h2 : (a2 == b2) <;> simp [xJ, is, ss, aI0, h1, h2]
theorem aNi (x y : Operand) (f g : RecD) : dY Tryz.prog .eql 112 x y (.agg [.d (str f.key), .d (str f.value)]) (.agg [.d (str g.key), .d (str g.value)]) = some (Res.pure (vb (decide (f = g)))) ∧ dY Tryz.prog .neq 112 x y (.agg [.d (str f.key), .d (str f.value)]) (.agg [.d (str g.key), .d (str g.value)]) = some (Res.pure (vb (!decide (f = g)))) := by
 obtain ⟨fs, hu, he⟩ := aQw f g
 exact aD8 hu (by kernel_rfl) (by kernel_rfl) he

end Go.Proofs.YtpklhnpchhaccaaGreatDoor
