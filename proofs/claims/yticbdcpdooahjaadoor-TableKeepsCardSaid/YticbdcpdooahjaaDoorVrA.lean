/- Numbers as bytes: the plain law. -/
import Derived.Test.YticbdcpdooahjaaDoorMacC
namespace Go.Proofs.YticbdcpdooahjaaDoor
open Go Go.RowKit
set_option maxHeartbeats 1000000
set_option maxRecDepth 100000
set_option linter.unusedVariables false
set_option linter.unusedSimpArgs false
/-! bits -/
theorem bin_bits {P : Program} {t : TypeId} {x y : Operand} {k : IntKind} {a b : Int} : aBin P .and t x y (vi k a) (vi k b) = some (Res.pure (vi k (k.wrap ((BitVec.ofInt k.bits a &&& BitVec.ofInt k.bits b).toNat : Int)))) ∧ aBin P .or t x y (vi k a) (vi k b) = some (Res.pure (vi k (k.wrap ((BitVec.ofInt k.bits a ||| BitVec.ofInt k.bits b).toNat : Int)))) := by
  constructor <;> cases k <;> rfl
theorem ofInt_nat (w n : Nat) (h : n < 2 ^ w) : (BitVec.ofInt w (n : Int)).toNat = n := by
  rw [BitVec.ofInt_natCast, BitVec.toNat_ofNat, Nat.mod_eq_of_lt h]
theorem wrap_nat64 (n : Nat) (h : n ≤ 9223372036854775807) : IntKind.i64.wrap (n : Int) = n := wrap_i64 (by omega)
theorem wrap_nat8 (n : Nat) (h : n < 256) : IntKind.u8.wrap (n : Int) = n := by
  have : (n : Int) % 256 = n := Int.emod_eq_of_lt (by omega) (by omega)
  simpa [IntKind.wrap, IntKind.signed, IntKind.bits] using this
theorem and64 {P : Program} {t : TypeId} {x y : Operand} (a b : Nat) (ha : a < 2 ^ 62) (hb : b < 2 ^ 62) : aBin P .and t x y (vi .i64 a) (vi .i64 b) = some (Res.pure (vi .i64 ((a &&& b : Nat) : Int))) := by
  rw [bin_bits.1]
  have h1 : (BitVec.ofInt IntKind.i64.bits (a : Int) &&& BitVec.ofInt IntKind.i64.bits (b : Int)).toNat = a &&& b := by
    rw [BitVec.toNat_and, ofInt_nat IntKind.i64.bits a (by show a < 2 ^ 64; omega), ofInt_nat IntKind.i64.bits b (by show b < 2 ^ 64; omega)]
  have h2 : a &&& b ≤ a := Nat.and_le_left
  rw [h1, wrap_nat64 _ (by omega)]
theorem or64 {P : Program} {t : TypeId} {x y : Operand} (a b : Nat) (ha : a < 2 ^ 62) (hb : b < 2 ^ 62) : aBin P .or t x y (vi .i64 a) (vi .i64 b) = some (Res.pure (vi .i64 ((a ||| b : Nat) : Int))) := by
  rw [bin_bits.2]
  have h1 : (BitVec.ofInt IntKind.i64.bits (a : Int) ||| BitVec.ofInt IntKind.i64.bits (b : Int)).toNat = a ||| b := by
    rw [BitVec.toNat_or, ofInt_nat IntKind.i64.bits a (by show a < 2 ^ 64; omega), ofInt_nat IntKind.i64.bits b (by show b < 2 ^ 64; omega)]
  have h2 : a ||| b < 2 ^ 62 := Nat.or_lt_two_pow ha hb
  rw [h1, wrap_nat64 _ (by omega)]
theorem and8 {P : Program} {t : TypeId} {x y : Operand} (a b : Nat) (ha : a < 256) (hb : b < 256) : aBin P .and t x y (vi .u8 a) (vi .u8 b) = some (Res.pure (vi .u8 ((a &&& b : Nat) : Int))) := by
  rw [bin_bits.1]
  have h1 : (BitVec.ofInt IntKind.u8.bits (a : Int) &&& BitVec.ofInt IntKind.u8.bits (b : Int)).toNat = a &&& b := by
    rw [BitVec.toNat_and, ofInt_nat IntKind.u8.bits a (by show a < 2 ^ 8; omega), ofInt_nat IntKind.u8.bits b (by show b < 2 ^ 8; omega)]
  have h2 : a &&& b ≤ a := Nat.and_le_left
  rw [h1, wrap_nat8 _ (by omega)]
theorem and127 (a : Nat) : a &&& 127 = a % 128 := Nat.and_two_pow_sub_one_eq_mod a 7
theorem and128 (a : Nat) (h : a < 256) : a &&& 128 = if 128 ≤ a then 128 else 0 := by
  have : ∀ b : Fin 256, b.val &&& 128 = if 128 ≤ b.val then 128 else 0 := by decide
  exact this ⟨a, h⟩
theorem or128 (a : Nat) (h : a < 128) : a ||| 128 = 128 + a := by
  have : ∀ b : Fin 128, b.val ||| 128 = 128 + b.val := by decide
  exact this ⟨a, h⟩
theorem or_shift (n m i : Nat) (h : n < 128 ^ i) : n ||| (m * 128 ^ i) = n + m * 128 ^ i := by
  have e : (128 : Nat) ^ i = 2 ^ (7 * i) := by rw [Nat.pow_mul]
  rw [e] at h ⊢
  have h1 := Nat.shiftLeft_add_eq_or_of_lt h m
  rw [Nat.shiftLeft_eq] at h1
  rw [Nat.or_comm, ← h1]; omega
/-! the bytes of a number -/
def putN : Nat → Nat → List UInt8
  | 0, n => [UInt8.ofNat n]
  | f + 1, n => if n < 128 then [UInt8.ofNat n] else UInt8.ofNat (128 + n % 128) :: putN f (n / 128)
def putF (n : Nat) : List UInt8 := putN 5 n
theorem putN_lt (f n : Nat) (h : n < 128) : putN f n = [UInt8.ofNat n] := by
  cases f with
  | zero => rfl
  | succ f => simp only [putN, if_pos h]
theorem putN_ge (f n : Nat) (h : ¬ n < 128) : putN (f + 1) n = UInt8.ofNat (128 + n % 128) :: putN f (n / 128) := by simp only [putN, if_neg h]
theorem putN_len : ∀ (f n : Nat), 1 ≤ (putN f n).length ∧ (putN f n).length ≤ f + 1
  | 0, n => by simp [putN]
  | f + 1, n => by
    simp only [putN]
    split
    · simp
    · have := putN_len f (n / 128)
      simp only [List.length_cons]; omega
def badNum (n : Int) : Bool := decide (n < 0) || decide (1099511627776 < n)
/-- The number with which bytes begin, and how many bytes it has. -/
def getN : Nat → Nat → Nat → List UInt8 → Option (Nat × Nat)
  | 0, _, _, _ => none
  | _ + 1, _, _, [] => none
  | f + 1, i, n, c :: l => if 128 ≤ c.toNat then getN f (i + 1) (n + c.toNat % 128 * 128 ^ i) l
    else if (c.toNat = 0 ∧ 0 < i) ∨ 1099511627776 < n + c.toNat % 128 * 128 ^ i then none else some (n + c.toNat % 128 * 128 ^ i, i + 1)
def getF (l : List UInt8) (a : Int) : Option (Nat × Nat) := if a < 0 ∨ (l.length : Int) < a then none else getN 6 0 0 (l.drop a.toNat)
theorem getN_le : ∀ (f i n : Nat) (l : List UInt8) (m k : Nat), getN f i n l = some (m, k) → m ≤ 1099511627776 ∧ i < k ∧ k ≤ i + l.length ∧ k ≤ i + f
  | 0, _, _, _, m, k, h => by cases h
  | _ + 1, _, _, [], m, k, h => by cases h
  | f + 1, i, n, c :: l, m, k, h => by
    simp only [getN] at h
    split at h
    · have := getN_le f _ _ l m k h
      simp only [List.length_cons]; omega
    · split at h
      · cases h
      · rename_i hn
        cases h
        simp only [List.length_cons]; omega
theorem getF_le {l : List UInt8} {a : Int} {m k : Nat} (h : getF l a = some (m, k)) : 0 ≤ a ∧ m ≤ 1099511627776 ∧ 0 < k ∧ a + k ≤ l.length ∧ k ≤ 6 := by
  unfold getF at h
  split at h
  · cases h
  · have := getN_le _ _ _ _ _ _ h
    rw [List.length_drop] at this
    omega
/-- What was put is got. -/
theorem get_put : ∀ (f i n m : Nat) (l : List UInt8), f ≤ 5 → i + f = 5 → m < 128 ^ (f + 1) → n + m * 128 ^ i ≤ 1099511627776 → (m = 0 → i = 0) → getN (f + 1) i n (putN f m ++ l) = some (n + m * 128 ^ i, i + (putN f m).length)
  | f, i, n, m, l, hf, hif, hm, hle, h0 => by
    by_cases h : m < 128
    · have ht : (UInt8.ofNat m).toNat = m := by rw [UInt8.toNat_ofNat']; omega
      rw [putN_lt f m h]
      simp only [List.cons_append, List.nil_append, getN, ht]
      rw [if_neg (by omega), Nat.mod_eq_of_lt h, if_neg (by
        intro hc
        rcases hc with ⟨h1, h2⟩ | h1
        · have := h0 h1; omega
        · omega)]
      simp
    · cases f with
      | zero => rw [show (0 : Nat) + 1 = 1 from rfl, Nat.pow_one] at hm; exact absurd hm h
      | succ f =>
        have ht : (UInt8.ofNat (128 + m % 128)).toNat = 128 + m % 128 := by rw [UInt8.toNat_ofNat']; omega
        rw [putN_ge f m h]
        simp only [List.cons_append, List.length_cons]
        have hstep : getN (f + 1 + 1) i n (UInt8.ofNat (128 + m % 128) :: (putN f (m / 128) ++ l)) = getN (f + 1) (i + 1) (n + m % 128 * 128 ^ i) (putN f (m / 128) ++ l) := by
          simp only [getN, ht]
          rw [if_pos (by omega), show (128 + m % 128) % 128 = m % 128 by omega]
        have hd : m / 128 * 128 ^ (i + 1) + m % 128 * 128 ^ i = m * 128 ^ i := by
          rw [Nat.pow_succ]
          calc m / 128 * (128 ^ i * 128) + m % 128 * 128 ^ i = (128 * (m / 128) + m % 128) * 128 ^ i := by
                rw [Nat.add_mul]; congr 1; rw [Nat.mul_comm 128, Nat.mul_assoc, Nat.mul_comm 128]
            _ = m * 128 ^ i := by rw [Nat.div_add_mod]
        have ih := get_put f (i + 1) (n + m % 128 * 128 ^ i) (m / 128) l (by omega) (by omega) (by
          rw [Nat.pow_succ] at hm; exact Nat.div_lt_of_lt_mul (by rw [Nat.mul_comm]; exact hm)) (by omega) (by omega)
        rw [hstep, ih]
        have e1 : n + m % 128 * 128 ^ i + m / 128 * 128 ^ (i + 1) = n + m * 128 ^ i := by omega
        have e2 : i + 1 + (putN f (m / 128)).length = i + ((putN f (m / 128)).length + 1) := by omega
        rw [e1, e2]
end Go.Proofs.YticbdcpdooahjaaDoor
