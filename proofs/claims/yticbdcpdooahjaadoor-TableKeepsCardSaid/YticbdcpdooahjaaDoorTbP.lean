/- The reference of package table: Bytes, Read. -/
import Derived.Test.YticbdcpdooahjaaDoorTbO
import Derived.Test.YticbdcpdooahjaaDoorTbG
import Derived.Test.YticbdcpdooahjaaDoorVrD
namespace Go.Proofs.YticbdcpdooahjaaDoor
open Go Go.RowKit
set_option maxHeartbeats 4000000
set_option maxRecDepth 100000
set_option linter.unusedVariables false
set_option linter.unusedSimpArgs false
/-! the reference's reading, in plain data -/
def rN : Nat → Int → List UInt8 → Int → Bool → List Int × Int × Bool
  | 0, _, _, a, b => ([], a, b)
  | c + 1, last, l, a, b => ((last + (numR l a b 0 1048576).1) :: (rN c (last + (numR l a b 0 1048576).1) l (numR l a b 0 1048576).2.1 (numR l a b 0 1048576).2.2).1, (rN c (last + (numR l a b 0 1048576).1) l (numR l a b 0 1048576).2.1 (numR l a b 0 1048576).2.2).2)
def over20 (ns : List Int) : Bool := ns.any fun n => decide (1048576 < n)
theorem numR_bad (l : List UInt8) (a : Int) (lo hi : Int) : numR l a true lo hi = (0, a, true) := rfl
theorem rN_bad : ∀ (c : Nat) (last : Int) (l : List UInt8) (a : Int), (rN c last l a true).2 = (a, true)
  | 0, last, l, a => rfl
  | c + 1, last, l, a => by simp only [rN, numR_bad]; exact rN_bad c _ l a
theorem rN_len : ∀ (c : Nat) (last : Int) (l : List UInt8) (a : Int) (b : Bool), (rN c last l a b).1.length = c
  | 0, _, _, _, _ => rfl
  | c + 1, last, l, a, b => by simp only [rN, List.length_cons, rN_len c]
theorem numR_cases (l : List UInt8) (a : Nat) (hi : Int) : (getF l a = none ∧ numR l a false 0 hi = ((0 : Int), (a : Int), true)) ∨ ∃ n k, getF l a = some (n, k) ∧ ((hi < n ∧ numR l a false 0 hi = ((0 : Int), (a : Int), true)) ∨ ((n : Int) ≤ hi ∧ numR l a false 0 hi = ((n : Int), ((a + k : Nat) : Int), false))) := by
  unfold numR
  rw [if_neg (by simp)]
  cases hg : getF l (a : Int) with
  | none => exact .inl ⟨rfl, rfl⟩
  | some q =>
    obtain ⟨n, k⟩ := q
    refine .inr ⟨n, k, rfl, ?_⟩
    have d1 : decide ((n : Int) < 0) = false := by simp <;> omega
    simp only [d1, Bool.false_or, decide_eq_true_eq]
    by_cases h : hi < (n : Int)
    · exact .inl ⟨h, by rw [if_pos h]⟩
    · exact .inr ⟨by omega, by rw [if_neg h]; simp⟩
/-- A row of numbers: the reference reads what the program reads, or is bad, or comes to too great a number. -/
theorem rN_nums : ∀ (c bf : Nat) (l : List UInt8) (a : Nat), numsF c bf l a = bif (rN c bf l a false).2.2 || over20 (rN c bf l a false).1 then none else some ((rN c bf l a false).1, (rN c bf l a false).2.1.toNat)
  | 0, bf, l, a => by simp [numsF, rN, over20]
  | c + 1, bf, l, a => by
    simp only [numsF, rN]
    rcases numR_cases l a 1048576 with ⟨h1, h2⟩ | ⟨n, k, h1, ⟨h2, h3⟩ | ⟨h2, h3⟩⟩
    · rw [h1, h2]
      simp only [rN_bad, Bool.true_or, cond_true]
    · rw [h1, h3]
      simp only [rN_bad, Bool.true_or, cond_true]
      rw [if_pos (by omega)]
    · rw [h1, h3]
      simp only
      have ih := rN_nums c (bf + n) l (a + k)
      rw [show ((bf + n : Nat) : Int) = (bf : Int) + n by omega] at ih
      by_cases h4 : 1048576 < bf + n
      · rw [if_pos h4]
        have : over20 (((bf : Int) + n) :: (rN c ((bf : Int) + n) l ((a + k : Nat) : Int) false).1) = true := by
          simp only [over20, List.any_cons, Bool.or_eq_true, decide_eq_true_eq]; left; omega
        rw [this, Bool.or_true, cond_true]
      · rw [if_neg h4, ih]
        have : decide ((1048576 : Int) < (bf : Int) + n) = false := by simp; omega
        have hcons : ∀ m : List Int, over20 (((bf : Int) + n) :: m) = over20 m := fun m => by simp only [over20, List.any_cons, this, Bool.false_or]
        rw [hcons]
        cases ((rN c ((bf : Int) + n) l ((a + k : Nat) : Int) false).2.2 || over20 (rN c ((bf : Int) + n) l ((a + k : Nat) : Int) false).1) <;> rfl
theorem rN_up : ∀ (c bf : Nat) (l : List UInt8) (a : Nat) (b : Bool), bf ≤ 1048576 → upB bf (rN c bf l a b).1 = !over20 (rN c bf l a b).1
  | 0, bf, l, a, b, hb => by simp [rN, upB, over20]
  | c + 1, bf, l, a, b, hb => by
    have key : ∀ (n : Nat) (a2 : Nat) (b2 : Bool), upB bf (((bf : Int) + n) :: (rN c ((bf : Int) + n) l a2 b2).1) = !over20 (((bf : Int) + n) :: (rN c ((bf : Int) + n) l a2 b2).1) := by
      intro n a2 b2
      by_cases h : 1048576 < bf + n
      · have d1 : decide ((1048576 : Int) < (bf : Int) + n) = true := by simp; omega
        simp [upB, over20, d1]
      · have d1 : decide ((1048576 : Int) < (bf : Int) + n) = false := by simp; omega
        have d2 : decide ((bf : Int) + n < (bf : Int)) = false := by simp <;> omega
        have ih := rN_up c (bf + n) l a2 b2 (by omega)
        rw [show ((bf + n : Nat) : Int) = (bf : Int) + n by omega] at ih
        simp only [upB, d1, d2, Bool.or_self, Bool.not_false, Bool.true_and, ih, over20, List.any_cons, Bool.false_or]
    simp only [rN]
    cases b with
    | true =>
      rw [numR_bad]
      have := key 0 a true
      simpa using this
    | false =>
      rcases numR_cases l a 1048576 with ⟨h1, h2⟩ | ⟨n, k, h1, ⟨h2, h3⟩ | ⟨h2, h3⟩⟩
      · rw [h2]; have := key 0 a true; simpa using this
      · rw [h3]; have := key 0 a true; simpa using this
      · rw [h3]; exact key n (a + k) false
/-- What one round of the reference's Read comes to: the table, the reader behind it. -/
def refS (l : List UInt8) (p : Nat) : Int × Int × Bool := numR l p false 0 1048576
def refC (l : List UInt8) (p : Nat) : Int × Int × Bool := numR l (refS l p).2.1 (refS l p).2.2 1 (if (l.length : Int) < 1048577 then (l.length : Int) else 1048577)
def refN (l : List UInt8) (p : Nat) : List Int × Int × Bool := rN (refC l p).1.toNat 0 l (refC l p).2.1 (refC l p).2.2
def refT (l : List UInt8) (p : Nat) : TabD := ⟨(refS l p).1, (refS l p).1 + (refC l p).1 - 1, (refN l p).1⟩
def refBad (l : List UInt8) (p : Nat) : Bool := (refN l p).2.2 || !tabB (refT l p)
theorem ref_one (l : List UInt8) (p : Nat) (hp : p ≤ l.length) : (refBad l p = true ∧ oneF (l.drop p) = none) ∨ (refBad l p = false ∧ ∃ e, oneF (l.drop p) = some (refT l p, e) ∧ (refN l p).2 = (((p + e : Nat) : Int), false)) := by
  have hd : ∀ q : Nat, getF (l.drop p) q = getF l ((p + q : Nat) : Int) := fun q => getF_drop hp
  have hd0 := hd 0
  rw [Nat.add_zero] at hd0
  have hc0 : ((0 : Nat) : Int) = 0 := rfl
  rcases numR_cases l p 1048576 with ⟨h1, h2⟩ | ⟨s, k, h1, ⟨h2, h3⟩ | ⟨h2, h3⟩⟩
  · left
    have hs : refS l p = ((0 : Int), (p : Int), true) := h2
    have hc : refC l p = ((0 : Int), (p : Int), true) := by unfold refC; rw [hs]; rfl
    refine ⟨by unfold refBad refN; rw [hc, rN_bad]; rfl, by unfold oneF; rw [← hc0, hd0, h1]⟩
  · left
    have hs : refS l p = ((0 : Int), (p : Int), true) := h3
    have hc : refC l p = ((0 : Int), (p : Int), true) := by unfold refC; rw [hs]; rfl
    refine ⟨by unfold refBad refN; rw [hc, rN_bad]; rfl, ?_⟩
    unfold oneF; rw [← hc0, hd0, h1]; simp only; rw [if_pos (by omega)]
  · have hs : refS l p = ((s : Int), ((p + k : Nat) : Int), false) := h3
    have hs0 : ¬ 1048576 < s := by omega
    have hk := getF_lt h1
    have hd1 := hd k
    have hc : refC l p = numR l ((p + k : Nat) : Int) false 1 (if (l.length : Int) < 1048577 then (l.length : Int) else 1048577) := by unfold refC; rw [hs]
    have hone : oneF (l.drop p) = match getF l ((p + k : Nat) : Int) with
        | none => none
        | some (c, k2) => if c < 1 ∨ 1048577 < s + c ∨ (l.drop p).length < k + k2 + c then none else match numsF c 0 (l.drop p) (k + k2) with
          | none => none
          | some (ns, e) => some (⟨s, s + c - 1, ns⟩, e) := by
      unfold oneF; rw [← hc0, hd0, h1]; simp only; rw [if_neg hs0, hd1]
      rfl
    obtain ⟨hi, hhi⟩ : ∃ hi : Int, hi = if (l.length : Int) < 1048577 then (l.length : Int) else 1048577 := ⟨_, rfl⟩
    rw [← hhi] at hc
    have hbadC : refC l p = ((0 : Int), ((p + k : Nat) : Int), true) → refBad l p = true := fun h => by unfold refBad refN; rw [h, rN_bad]; rfl
    cases hg2 : getF l ((p + k : Nat) : Int) with
    | none =>
      left
      rw [hg2] at hone
      refine ⟨hbadC (by rw [hc]; unfold numR; rw [if_neg (by simp), hg2]), hone⟩
    | some q =>
      obtain ⟨c, k2⟩ := q
      rw [hg2] at hone
      simp only at hone
      have hk2 := getF_lt hg2
      by_cases hcb : (c : Int) < 1 ∨ hi < (c : Int)
      · left
        refine ⟨hbadC (by rw [hc]; unfold numR; rw [if_neg (by simp), hg2]; simp only; rw [if_pos (by simpa using hcb)]), ?_⟩
        rw [hone, if_pos ?_]
        rw [List.length_drop]
        split at hhi <;> omega
      · have hcv : refC l p = ((c : Int), ((p + k + k2 : Nat) : Int), false) := by
          rw [hc]; unfold numR; rw [if_neg (by simp), hg2]; simp only; rw [if_neg (by simpa using hcb)]
          simp
        have hN : refN l p = rN c 0 l ((p + k + k2 : Nat) : Int) false := by unfold refN; rw [hcv]; simp
        have hnums := rN_nums c 0 l (p + k + k2)
        have hup := rN_up c 0 l (p + k + k2) false (by decide)
        have hlen := rN_len c 0 l ((p + k + k2 : Nat) : Int) false
        rw [Int.natCast_zero] at hnums hup
        rw [← hN] at hnums hup hlen
        have hT : refT l p = ⟨s, (s : Int) + c - 1, (refN l p).1⟩ := by unfold refT; rw [hs, hcv]
        have hdrop := numsF_drop c 0 l p (k + k2) hp
        rw [show p + (k + k2) = p + k + k2 by omega] at hdrop
        have hcb' : 1 ≤ c := by omega
        have htl : tabLen (refT l p) = true := by
          rw [hT]; show (((refN l p).1.length : Int) == (s : Int) + c - 1 - s + 1) = true
          rw [hlen]; simp; omega
        by_cases hmx : 1048577 < s + c
        · left
          have htb : tabBad (refT l p) = true := by
            rw [hT]; show (decide ((s : Int) < 0) || decide ((s : Int) + c - 1 < s) || decide (1048576 < (s : Int) + c - 1)) = true
            simp only [Bool.or_eq_true, decide_eq_true_eq]; right; omega
          refine ⟨by unfold refBad tabB; rw [htb]; simp, by rw [hone, if_pos (.inr (.inl hmx))]⟩
        · have htb : tabBad (refT l p) = false := by
            rw [hT]; show (decide ((s : Int) < 0) || decide ((s : Int) + c - 1 < s) || decide (1048576 < (s : Int) + c - 1)) = false
            simp only [Bool.or_eq_false_iff, decide_eq_false_iff_not]; omega
          have hBad : refBad l p = ((refN l p).2.2 || over20 (refN l p).1) := by
            unfold refBad tabB
            have : upB 0 (refT l p).news = !over20 (refN l p).1 := by rw [hT]; exact hup
            rw [htb, htl, this]; simp
          rw [← hBad] at hnums
          cases hbd : refBad l p with
          | true =>
            left
            rw [hbd, cond_true] at hnums
            refine ⟨rfl, ?_⟩
            rw [hone]
            split
            · rfl
            · rw [hnums] at hdrop
              cases hz : numsF c 0 (l.drop p) (k + k2) with
              | none => rfl
              | some q => rw [hz] at hdrop; cases hdrop
          | false =>
            right
            rw [hbd, cond_false] at hnums
            rw [hnums] at hdrop
            cases hz : numsF c 0 (l.drop p) (k + k2) with
            | none => rw [hz] at hdrop; cases hdrop
            | some q =>
              obtain ⟨ns, e⟩ := q
              rw [hz] at hdrop
              simp only [Option.map_some, Option.some.injEq, Prod.mk.injEq] at hdrop
              obtain ⟨d1, d2⟩ := hdrop
              have hnl := numsF_len _ _ _ _ _ _ hz
              rw [List.length_drop] at hnl
              refine ⟨rfl, e, ?_, ?_⟩
              · rw [hone, if_neg (by rw [List.length_drop]; omega), hz]
                simp only
                rw [hT, d1]
              · have hb2 : (refN l p).2.2 = false := by
                  cases hq : (refN l p).2.2 with
                  | false => rfl
                  | true => rw [hBad, hq] at hbd; cases hbd
                have hpos : 0 ≤ (refN l p).2.1 := by
                  rw [hN]
                  have : ∀ (c : Nat) (last : Int) (a : Nat) (b : Bool), 0 ≤ (rN c last l a b).2.1 := by
                    intro c
                    induction c with
                    | zero => intro last a b; exact Int.natCast_nonneg _
                    | succ c ih =>
                      intro last a b
                      simp only [rN]
                      cases b with
                      | true => rw [numR_bad]; exact ih _ a true
                      | false =>
                        rcases numR_cases l a 1048576 with ⟨h1, h2⟩ | ⟨n, k, h1, ⟨h2, h3⟩ | ⟨h2, h3⟩⟩
                        · rw [h2]; exact ih _ a true
                        · rw [h3]; exact ih _ a true
                        · rw [h3]; exact ih _ (a + k) false
                  exact this _ _ _ _
                apply Prod.ext
                · simp only; omega
                · exact hb2
end Go.Proofs.YticbdcpdooahjaaDoor
