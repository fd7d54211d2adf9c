/- Numbers as bytes: the plain law. -/
import Derived.Test.YtepcpdionlfkhaaGreatDoorMacC
namespace Go.Proofs.YtepcpdionlfkhaaGreatDoor
open Go Go.RowKit
set_option maxHeartbeats 1000000
set_option maxRecDepth 100000
set_option linter.unusedVariables false
set_option linter.unusedSimpArgs false
/-! bits -/
theorem bin_bits {P : Program} {t : TypeId} {x y : Operand} {k : IntKind} {a b : Int} : aBin P .and t x y (vi k a) (vi k b) = some (Res.pure (vi k (k.wrap ((BitVec.ofInt k.bits a &&& BitVec.ofInt k.bits b).toNat : Int)))) ∧ aBin P .or t x y (vi k a) (vi k b) = some (Res.pure (vi k (k.wrap ((BitVec.ofInt k.bits a ||| BitVec.ofInt k.bits b).toNat : Int)))) := by
  constructor <;> cases k <;> rfl
theorem ofInt_nat (w n : Nat) (h : n < 2 ^ w) : (BitVec.ofInt w (n : Int)).toNat = n := by
  rw [BitVec.ofInt_natCast, BitVec.toNat_ofNat, Nat.mod_eq_of_lt h]
theorem wrap_nat64 (n : Nat) (h : n ≤ 9223372036854775807) : IntKind.i64.wrap (n : Int) = n := wrap_i64 (by omega)
theorem wrap_nat8 (n : Nat) (h : n < 256) : IntKind.u8.wrap (n : Int) = n := by
  have : (n : Int) % 256 = n := Int.emod_eq_of_lt (by omega) (by omega)
  simpa [IntKind.wrap, IntKind.signed, IntKind.bits] using this
theorem and64 {P : Program} {t : TypeId} {x y : Operand} (a b : Nat) (ha : a < 2 ^ 62) (hb : b < 2 ^ 62) : aBin P .and t x y (vi .i64 a) (vi .i64 b) = some (Res.pure (vi .i64 ((a &&& b : Nat) : Int))) := by
  rw [bin_bits.1]
  have h1 : (BitVec.ofInt IntKind.i64.bits (a : Int) &&& BitVec.ofInt IntKind.i64.bits (b : Int)).toNat = a &&& b := by
    rw [BitVec.toNat_and, ofInt_nat IntKind.i64.bits a (by show a < 2 ^ 64; omega), ofInt_nat IntKind.i64.bits b (by show b < 2 ^ 64; omega)]
  have h2 : a &&& b ≤ a := Nat.and_le_left
  rw [h1, wrap_nat64 _ (by omega)]
theorem or64 {P : Program} {t : TypeId} {x y : Operand} (a b : Nat) (ha : a < 2 ^ 62) (hb : b < 2 ^ 62) : aBin P .or t x y (vi .i64 a) (vi .i64 b) = some (Res.pure (vi .i64 ((a ||| b : Nat) : Int))) := by
  rw [bin_bits.2]
  have h1 : (BitVec.ofInt IntKind.i64.bits (a : Int) ||| BitVec.ofInt IntKind.i64.bits (b : Int)).toNat = a ||| b := by
    rw [BitVec.toNat_or, ofInt_nat IntKind.i64.bits a (by show a < 2 ^ 64; omega), ofInt_nat IntKind.i64.bits b (by show b < 2 ^ 64; omega)]
  have h2 : a ||| b < 2 ^ 62 := Nat.or_lt_two_pow ha hb
  rw [h1, wrap_nat64 _ (by omega)]
/-! the bytes of a number -/
end Go.Proofs.YtepcpdionlfkhaaGreatDoor
