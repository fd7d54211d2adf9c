/- The machine's facts, continued: conversions between integers, shifts. -/
import Derived.Test.YticbdcpdooahjaaDoorAbsT
namespace Go.Proofs.YticbdcpdooahjaaDoor
open Go Go.RowKit
set_option linter.unusedVariables false
set_option linter.unusedSimpArgs false
def scX (P : Program) (s d : TypeId) (k : IntKind) (n : Int) : Option Res := sc P (convert s d (.int k n))
theorem sc_conv (P : Program) (s d : TypeId) (k : IntKind) (n : Int) : sc P (convert s d (.int k n)) = match P.underlying s, P.underlying d with
    | some _, some (.int k') => some (Res.pure (vi k' (k'.wrap n)))
    | _, _ => scX P s d k n := by
  split
  · rename_i u k' hs hd
    have : pureRun P (convert s d (.int k n)) = some (.int k' (k'.wrap n)) := by
      unfold convert
      rw [pureRun_bind, pureRun_und hs]
      simp only
      rw [pureRun_bind, pureRun_und hd]
      rfl
    unfold sc
    rw [this]; rfl
  · rfl
theorem bin_shr {P : Program} {t : TypeId} {x y : Operand} {k k' : IntKind} {a b : Int} (hb : 0 ≤ b) : aBin P .shr t x y (vi k a) (vi k' b) = some (Res.pure (vi k (a.fdiv (2 ^ (min b.toNat k.bits))))) := by
  have : ¬ b < 0 := by omega
  unfold aBin
  simp only [SV.exact, CV.exact, sc]
  have h1 : pureRun P (do eqGuard .shr t x y (.int k a) (.int k' b); binOp .shr t (.int k a) (.int k' b)) = some (.int k (a.fdiv (2 ^ (min b.toNat k.bits)))) := by
    rw [pureRun_bind]
    show (match pureRun P (pure ()) with | some _ => pureRun P (Op.shift .shr k a k' b) | none => none) = _
    rw [pureRun_pure]
    simp only [Op.shift, this, if_false]
    rfl
  rw [h1]; rfl
theorem bin_shl {P : Program} {t : TypeId} {x y : Operand} {k k' : IntKind} {a b : Int} (hb : 0 ≤ b) : aBin P .shl t x y (vi k a) (vi k' b) = some (Res.pure (vi k (k.wrap (a * 2 ^ (min b.toNat k.bits))))) := by
  have : ¬ b < 0 := by omega
  unfold aBin
  simp only [SV.exact, CV.exact, sc]
  have h1 : pureRun P (do eqGuard .shl t x y (.int k a) (.int k' b); binOp .shl t (.int k a) (.int k' b)) = some (.int k (k.wrap (a * 2 ^ (min b.toNat k.bits)))) := by
    rw [pureRun_bind]
    show (match pureRun P (pure ()) with | some _ => pureRun P (Op.shift .shl k a k' b) | none => none) = _
    rw [pureRun_pure]
    simp only [Op.shift, this, if_false]
    rfl
  rw [h1]; rfl
theorem wrap_u64 {n : Int} (h : 0 ≤ n ∧ n ≤ 18446744073709551615) : IntKind.u64.wrap n = n := by
  have : n % 18446744073709551616 = n := Int.emod_eq_of_lt h.1 (by omega)
  simpa [IntKind.wrap, IntKind.signed, IntKind.bits] using this
end Go.Proofs.YticbdcpdooahjaaDoor
