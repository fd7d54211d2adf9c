/- Disks: equality of files; slices.Equal, Same. -/
import Derived.Test.YtepcpdionlfkhaaGreatDoorDkQ
namespace Go.Proofs.YtepcpdionlfkhaaGreatDoor
open Go Go.RowKit
set_option maxHeartbeats 4000000
set_option maxRecDepth 100000
set_option linter.unusedVariables false
set_option linter.unusedSimpArgs false
theorem file_fs (a b : List UInt8) (c : Int) (a' b' : List UInt8) (c' : Int) : ∃ fs, Tryz.prog.underlying 85 = some (.struct fs) ∧ eqFs Tryz.prog 9999 #[.string ⟨a.toArray⟩, .string ⟨b.toArray⟩, .int .i64 c] #[.string ⟨a'.toArray⟩, .string ⟨b'.toArray⟩, .int .i64 c'] fs.toList = some (a == a' && (b == b' && c == c')) := by
  refine ⟨_, Tryz.underlying85, ?_⟩
  have i9 : pureRun Tryz.prog (isAgg 9) = some false := by kernel_rfl
  have i3 : pureRun Tryz.prog (isAgg 3) = some false := by kernel_rfl
  have s9 := fun x y => eqIn_str (d := 9998) Tryz.underlying9 x y
  have s3 := fun x y => eqIn_int (d := 9998) Tryz.underlying3 .i64 x y
  simp only [Nat.reduceAdd] at s9 s3
  cases h1 : (a == a') <;> cases h2 : (b == b') <;> cases h3 : (c == c') <;> simp [eqFs, i9, i3, s9, s3, bs_beq, h1, h2, h3]
theorem file_bin (x y : Operand) (a b : List UInt8) (c : Int) (a' b' : List UInt8) (c' : Int) :
    aBin Tryz.prog .eql 85 x y (.agg [.d (str a), .d (str b), .d (int c)]) (.agg [.d (str a'), .d (str b'), .d (int c')]) = some (Res.pure (vb (a == a' && (b == b' && c == c')))) ∧
    aBin Tryz.prog .neq 85 x y (.agg [.d (str a), .d (str b), .d (int c)]) (.agg [.d (str a'), .d (str b'), .d (int c')]) = some (Res.pure (vb (!(a == a' && (b == b' && c == c'))))) := by
  obtain ⟨fs, hu, he⟩ := file_fs a b c a' b' c'
  exact agg_eql hu (by kernel_rfl) (by kernel_rfl) he
instance : DecidableEq FileD := fun a b => decidable_of_iff (a.name = b.name ∧ a.b = b.b ∧ a.sure = b.sure) (by cases a; cases b; simp)
theorem file_same (f g : FileD) : (f.name == g.name && (f.b == g.b && f.sure == g.sure)) = decide (f = g) := by
  cases f; cases g
  rw [Bool.eq_iff_iff]; simp only [FileD.mk.injEq, Bool.and_eq_true, beq_iff_eq, decide_eq_true_eq]
def sameB (s o : DiskS) : Bool := s.cap == o.cap && s.left == o.left && s.down == o.down && decide (s.fs = o.fs)
end Go.Proofs.YtepcpdionlfkhaaGreatDoor
