/- Tables as bytes: the plain law. -/
import Derived.Test.YticbdcpdooahjaaDoorTbA
import Derived.Test.YticbdcpdooahjaaDoorVrA
namespace Go.Proofs.YticbdcpdooahjaaDoor
open Go Go.RowKit
set_option maxHeartbeats 1000000
set_option maxRecDepth 100000
set_option linter.unusedVariables false
set_option linter.unusedSimpArgs false
def numsF : Nat → Nat → List UInt8 → Nat → Option (List Int × Nat)
  | 0, _, _, a => some ([], a)
  | c + 1, bf, l, a => match getF l a with
    | none => none
    | some (n, k) => if 1048576 < bf + n then none else match numsF c (bf + n) l (a + k) with
      | none => none
      | some (ns, e) => some (((bf + n : Nat) : Int) :: ns, e)
/-- The table with which bytes begin, and the index behind it. -/
def oneF (l : List UInt8) : Option (TabD × Nat) := match getF l 0 with
  | none => none
  | some (s, k) => if 1048576 < s then none else match getF l k with
    | none => none
    | some (c, k2) => if c < 1 ∨ 1048577 < s + c ∨ l.length < k + k2 + c then none else match numsF c 0 l (k + k2) with
      | none => none
      | some (ns, e) => some (⟨s, s + c - 1, ns⟩, e)
def readF : Nat → List UInt8 → Option (List TabD × List UInt8)
  | 0, l => some ([], l)
  | i + 1, l => match oneF l with
    | none => none
    | some (t, e) => match readF i (l.drop e) with
      | none => none
      | some (ts, r) => some (t :: ts, r)
def ReadF (l : List UInt8) : List TabD × Int := match readF 3 l with
  | some (ts, []) => (ts, 0)
  | _ => ([], 70)
def diffF : Int → List Int → List UInt8
  | _, [] => []
  | b, n :: l => putF (n - b).toNat ++ diffF n l
def bytesT (t : TabD) : List UInt8 := putF t.start.toNat ++ (putF t.news.length ++ diffF 0 t.news)
def BytesF (l : List TabD) : List UInt8 × Int := if l.length ≠ 3 then ([], 2) else if l.all tabB then (l.flatMap bytesT, 0) else ([], 2)
theorem getF_drop {l : List UInt8} {p q : Nat} (hp : p ≤ l.length) : getF (l.drop p) q = getF l ((p + q : Nat) : Int) := by
  unfold getF
  by_cases h : l.length < p + q
  · rw [if_pos (by rw [List.length_drop]; omega), if_pos (by omega)]
  · rw [if_neg (by rw [List.length_drop]; omega), if_neg (by omega), List.drop_drop, Int.toNat_natCast, Int.toNat_natCast]
theorem getF_lt {l : List UInt8} {a m k : Nat} (h : getF l (a : Int) = some (m, k)) : m ≤ 1099511627776 ∧ 0 < k ∧ a + k ≤ l.length := by
  have := getF_le h; omega
theorem numsF_len : ∀ (c bf : Nat) (l : List UInt8) (a : Nat) (ns : List Int) (e : Nat), numsF c bf l a = some (ns, e) → ns.length = c ∧ a + c ≤ e ∧ (a ≤ l.length → e ≤ l.length)
  | 0, bf, l, a, ns, e, h => by
    simp only [numsF, Option.some.injEq, Prod.mk.injEq] at h
    obtain ⟨rfl, rfl⟩ := h
    exact ⟨rfl, by omega, fun h => h⟩
  | c + 1, bf, l, a, ns, e, h => by
    simp only [numsF] at h
    cases hg : getF l a with
    | none => rw [hg] at h; cases h
    | some q =>
      obtain ⟨n, k⟩ := q
      rw [hg] at h
      simp only at h
      split at h
      · cases h
      · have hk := getF_lt hg
        cases hr : numsF c (bf + n) l (a + k) with
        | none => rw [hr] at h; cases h
        | some q2 =>
          obtain ⟨ns2, e2⟩ := q2
          rw [hr] at h
          simp only [Option.some.injEq, Prod.mk.injEq] at h
          obtain ⟨rfl, rfl⟩ := h
          have ih := numsF_len c _ l _ _ _ hr
          refine ⟨by simp [ih.1], by omega, fun _ => ih.2.2 (by omega)⟩
theorem numsF_up : ∀ (c bf : Nat) (l : List UInt8) (a : Nat) (ns : List Int) (e : Nat), numsF c bf l a = some (ns, e) → upB bf ns = true
  | 0, bf, l, a, ns, e, h => by
    simp only [numsF, Option.some.injEq, Prod.mk.injEq] at h
    obtain ⟨rfl, rfl⟩ := h
    rfl
  | c + 1, bf, l, a, ns, e, h => by
    simp only [numsF] at h
    cases hg : getF l a with
    | none => rw [hg] at h; cases h
    | some q =>
      obtain ⟨n, k⟩ := q
      rw [hg] at h
      simp only at h
      split at h
      · cases h
      · cases hr : numsF c (bf + n) l (a + k) with
        | none => rw [hr] at h; cases h
        | some q2 =>
          obtain ⟨ns2, e2⟩ := q2
          rw [hr] at h
          simp only [Option.some.injEq, Prod.mk.injEq] at h
          obtain ⟨rfl, rfl⟩ := h
          have ih := numsF_up c _ l _ _ _ hr
          simp only [upB, ih, Bool.and_true, Bool.not_eq_true', Bool.or_eq_false_iff, decide_eq_false_iff_not]
          omega
theorem numsF_drop : ∀ (c bf : Nat) (l : List UInt8) (p a : Nat), p ≤ l.length → numsF c bf l (p + a) = (numsF c bf (l.drop p) a).map fun x => (x.1, p + x.2)
  | 0, bf, l, p, a, hp => rfl
  | c + 1, bf, l, p, a, hp => by
    simp only [numsF]
    rw [getF_drop hp]
    cases hg : getF l ((p + a : Nat) : Int) with
    | none => rfl
    | some q =>
      obtain ⟨n, k⟩ := q
      simp only
      split
      · rfl
      · rw [show p + a + k = p + (a + k) by omega, numsF_drop c (bf + n) l p (a + k) hp]
        cases numsF c (bf + n) (l.drop p) (a + k) <;> rfl
theorem oneF_ok {l : List UInt8} {t : TabD} {e : Nat} (h : oneF l = some (t, e)) : tabB t = true ∧ e ≤ l.length := by
  unfold oneF at h
  split at h
  · cases h
  · rename_i s k hg
    split at h
    · cases h
    · split at h
      · cases h
      · rename_i c k2 hg2
        split at h
        · cases h
        · split at h
          · cases h
          · rename_i ns e2 hn
            simp only [Option.some.injEq, Prod.mk.injEq] at h
            obtain ⟨rfl, rfl⟩ := h
            obtain ⟨h1, h2, h3⟩ := numsF_len _ _ _ _ _ _ hn
            have h4 := numsF_up _ _ _ _ _ _ hn
            refine ⟨?_, by omega⟩
            have hb : tabBad ⟨s, s + c - 1, ns⟩ = false := by
              show (decide ((s : Int) < 0) || decide ((s : Int) + c - 1 < s) || decide (1048576 < (s : Int) + c - 1)) = false
              simp only [Bool.or_eq_false_iff, decide_eq_false_iff_not]; omega
            have hl : tabLen ⟨s, s + c - 1, ns⟩ = true := by
              show ((ns.length : Int) == (s : Int) + c - 1 - s + 1) = true
              simp only [beq_iff_eq]; omega
            have h5 : upB 0 ns = true := h4
            simp only [tabB, hb, hl, h5, Bool.not_false, Bool.and_self]
theorem readF_len : ∀ (i : Nat) (l : List UInt8) (ts : List TabD) (r : List UInt8), readF i l = some (ts, r) → ts.length = i ∧ (∀ t ∈ ts, tabB t = true) ∧ r.length ≤ l.length
  | 0, l, ts, r, h => by
    simp only [readF, Option.some.injEq, Prod.mk.injEq] at h
    obtain ⟨rfl, rfl⟩ := h
    exact ⟨rfl, by simp, Nat.le_refl _⟩
  | i + 1, l, ts, r, h => by
    simp only [readF] at h
    cases h1 : oneF l with
    | none => rw [h1] at h; cases h
    | some q =>
      obtain ⟨t, e⟩ := q
      rw [h1] at h
      simp only at h
      cases h2 : readF i (l.drop e) with
      | none => rw [h2] at h; cases h
      | some q2 =>
        obtain ⟨ts2, r2⟩ := q2
        rw [h2] at h
        simp only [Option.some.injEq, Prod.mk.injEq] at h
        obtain ⟨rfl, rfl⟩ := h
        obtain ⟨i1, i2, i3⟩ := readF_len i _ _ _ h2
        have h3 := oneF_ok h1
        refine ⟨by simp [i1], fun t ht => ?_, ?_⟩
        · rcases List.mem_cons.1 ht with rfl | ht
          · exact h3.1
          · exact i2 t ht
        · rw [List.length_drop] at i3; omega
/-! there and back -/
theorem putF_len (n : Nat) : 1 ≤ (putF n).length ∧ (putF n).length ≤ 6 := putN_len 5 n
theorem getF_put (a : List UInt8) (m : Nat) (l : List UInt8) (hm : m ≤ 1099511627776) : getF (a ++ (putF m ++ l)) (a.length : Int) = some (m, (putF m).length) := by
  unfold getF
  rw [if_neg (by rw [List.length_append]; omega), Int.toNat_natCast, List.drop_left]
  have := get_put 5 0 0 m l (by omega) rfl (by omega) (by simpa using hm) (fun _ => rfl)
  simpa [putF] using this
theorem nums_diff : ∀ (ns : List Int) (bf : Nat) (a l : List UInt8), upB bf ns = true → numsF ns.length bf (a ++ (diffF bf ns ++ l)) a.length = some (ns, a.length + (diffF bf ns).length)
  | [], bf, a, l, _ => rfl
  | n :: ns, bf, a, l, h => by
    simp only [upB, Bool.and_eq_true, Bool.not_eq_true', Bool.or_eq_false_iff, decide_eq_false_iff_not] at h
    obtain ⟨⟨h1, h2⟩, h3⟩ := h
    obtain ⟨m, rfl⟩ : ∃ m : Nat, n = m := ⟨n.toNat, by omega⟩
    obtain ⟨d, hd⟩ : ∃ d, d = m - bf := ⟨_, rfl⟩
    have hdd : ((m : Int) - (bf : Int)).toNat = d := by omega
    simp only [diffF, hdd, List.length_cons, numsF, List.append_assoc]
    rw [getF_put a d _ (by omega)]
    simp only
    rw [if_neg (by omega), show bf + d = m by omega]
    have ih := nums_diff ns m (a ++ putF d) l h3
    rw [List.length_append, List.append_assoc] at ih
    rw [ih]
    simp only [List.length_append]
    rw [Nat.add_assoc]
theorem one_bytes {t : TabD} (h : tabB t = true) (l : List UInt8) : oneF (bytesT t ++ l) = some (t, (bytesT t).length) := by
  obtain ⟨g1, g2, g3, g4, g5⟩ := tab_range h
  obtain ⟨start, fin, ns⟩ := t
  simp only at g1 g2 g3 g4 g5
  obtain ⟨s, rfl⟩ : ∃ s : Nat, start = s := ⟨start.toNat, by omega⟩
  have e0 : bytesT ⟨s, fin, ns⟩ = putF s ++ (putF ns.length ++ diffF 0 ns) := rfl
  rw [e0]
  simp only [List.append_assoc]
  have q1 := getF_put [] s (putF ns.length ++ (diffF 0 ns ++ l)) (by omega)
  have q2 := getF_put (putF s) ns.length (diffF 0 ns ++ l) (by omega)
  have q3 := nums_diff ns 0 (putF s ++ putF ns.length) l g5
  simp only [List.nil_append, List.length_nil, Int.natCast_zero] at q1
  simp only [List.append_assoc, List.length_append] at q3
  have p1 := putF_len s
  have hdl : ∀ (ns : List Int) (b : Int), ns.length ≤ (diffF b ns).length := by
    intro ns
    induction ns with
    | nil => intro b; simp [diffF]
    | cons n ns ih => intro b; have := putF_len (n - b).toNat; have := ih n; simp only [diffF, List.length_append, List.length_cons]; omega
  have hd0 := hdl ns 0
  unfold oneF
  rw [q1]
  simp only
  rw [if_neg (by omega), q2]
  simp only
  rw [if_neg (by simp only [List.length_append]; omega)]
  have q3' : numsF ns.length 0 (putF s ++ (putF ns.length ++ (diffF 0 ns ++ l))) ((putF s).length + (putF ns.length).length) = some (ns, (putF s).length + (putF ns.length).length + (diffF 0 ns).length) := q3
  rw [q3']
  simp only [Option.some.injEq, Prod.mk.injEq, TabD.mk.injEq, List.length_append, true_and, and_true]
  exact ⟨by omega, by omega⟩
theorem read_bytes : ∀ (ts : List TabD) (l : List UInt8), (∀ t ∈ ts, tabB t = true) → readF ts.length (ts.flatMap bytesT ++ l) = some (ts, l)
  | [], l, _ => rfl
  | t :: ts, l, h => by
    have h1 := one_bytes (h t (by simp)) (ts.flatMap bytesT ++ l)
    simp only [List.flatMap_cons, List.append_assoc, List.length_cons, readF]
    rw [h1]
    simp only
    rw [List.drop_left, read_bytes ts l (fun t ht => h t (by simp [ht]))]
/-- What reads as a number is written so. -/
theorem put_get : ∀ (f i n : Nat) (l : List UInt8) (m k : Nat), f ≤ 5 → getN (f + 1) i n l = some (m, k) → ∃ (q : Nat) (r : List UInt8), m = n + q * 128 ^ i ∧ l = putN f q ++ r ∧ k = i + (putN f q).length ∧ (q = 0 → i = 0)
  | f, i, n, [], m, k, _, h => by simp [getN] at h
  | f, i, n, c :: l, m, k, hf, h => by
    have hc : c.toNat < 256 := c.toNat_lt
    simp only [getN] at h
    split at h
    · rename_i hge
      cases f with
      | zero => simp [getN] at h
      | succ f =>
        obtain ⟨q, r, h1, h2, h3, h4⟩ := put_get f (i + 1) _ l m k (by omega) h
        have hq0 : q ≠ 0 := fun e => by have := h4 e; omega
        refine ⟨c.toNat % 128 + q * 128, r, ?_, ?_, ?_, fun e => by omega⟩
        · rw [h1, Nat.pow_succ, Nat.add_mul, Nat.mul_assoc q 128, Nat.mul_comm 128, Nat.add_assoc]
        · rw [putN_ge f _ (by omega), show (c.toNat % 128 + q * 128) / 128 = q by omega, show 128 + (c.toNat % 128 + q * 128) % 128 = c.toNat by omega, h2, UInt8.ofNat_toNat]; rfl
        · rw [putN_ge f _ (by omega), show (c.toNat % 128 + q * 128) / 128 = q by omega, List.length_cons]; omega
    · rename_i hlt
      split at h
      · cases h
      · rename_i hn
        simp only [Option.some.injEq, Prod.mk.injEq] at h
        obtain ⟨rfl, rfl⟩ := h
        have hm : c.toNat % 128 = c.toNat := Nat.mod_eq_of_lt (by omega)
        refine ⟨c.toNat, l, by rw [hm], ?_, ?_, fun e => ?_⟩
        · rw [putN_lt f _ (by omega), UInt8.ofNat_toNat]; rfl
        · rw [putN_lt f _ (by omega)]; rfl
        · rcases Nat.eq_zero_or_pos i with h0 | h0
          · exact h0
          · exact absurd (.inl ⟨e, h0⟩) hn
theorem getF_inv {l : List UInt8} {a n k : Nat} (h : getF l (a : Int) = some (n, k)) : l = l.take a ++ (putF n ++ l.drop (a + k)) ∧ k = (putF n).length := by
  unfold getF at h
  split at h
  · cases h
  · rw [Int.toNat_natCast] at h
    obtain ⟨q, r, h1, h2, h3, h4⟩ := put_get 5 0 0 _ n k (by omega) h
    simp only [Nat.pow_zero, Nat.mul_one, Nat.zero_add] at h1 h3
    subst h1
    have e : l.drop (a + k) = r := by
      rw [← List.drop_drop, h2, h3, List.drop_left]
    refine ⟨?_, h3⟩
    rw [e]
    conv => lhs; rw [← List.take_append_drop a l, h2]
    rfl
theorem nums_inv : ∀ (c bf : Nat) (l : List UInt8) (a : Nat) (ns : List Int) (e : Nat), a ≤ l.length → numsF c bf l a = some (ns, e) → l.drop a = diffF bf ns ++ l.drop e
  | 0, bf, l, a, ns, e, ha, h => by
    simp only [numsF, Option.some.injEq, Prod.mk.injEq] at h
    obtain ⟨rfl, rfl⟩ := h
    rfl
  | c + 1, bf, l, a, ns, e, ha, h => by
    simp only [numsF] at h
    cases hg : getF l a with
    | none => rw [hg] at h; cases h
    | some q =>
      obtain ⟨n, k⟩ := q
      rw [hg] at h
      simp only at h
      split at h
      · cases h
      · cases hr : numsF c (bf + n) l (a + k) with
        | none => rw [hr] at h; cases h
        | some q2 =>
          obtain ⟨ns2, e2⟩ := q2
          rw [hr] at h
          simp only [Option.some.injEq, Prod.mk.injEq] at h
          obtain ⟨rfl, rfl⟩ := h
          have hk := getF_lt hg
          have ih := nums_inv c _ l _ _ _ (by omega) hr
          obtain ⟨h1, h2⟩ := getF_inv hg
          have hta : (l.take a).length = a := by rw [List.length_take]; omega
          have h3 : l.drop a = putF n ++ l.drop (a + k) := by
            conv => lhs; rw [h1]
            rw [List.drop_left' hta]
          rw [h3, ih]
          simp only [diffF, List.append_assoc]
          rw [show (((bf + n : Nat) : Int) - (bf : Int)).toNat = n by omega]
theorem one_inv {l : List UInt8} {t : TabD} {e : Nat} (h : oneF l = some (t, e)) : l = bytesT t ++ l.drop e := by
  have hok := oneF_ok h
  unfold oneF at h
  split at h
  · cases h
  · rename_i s k hg
    split at h
    · cases h
    · split at h
      · cases h
      · rename_i c k2 hg2
        split at h
        · cases h
        · split at h
          · cases h
          · rename_i ns e2 hn
            simp only [Option.some.injEq, Prod.mk.injEq] at h
            obtain ⟨rfl, rfl⟩ := h
            have hg' : getF l ((0 : Nat) : Int) = some (s, k) := hg
            obtain ⟨a1, a2⟩ := getF_inv hg'
            obtain ⟨b1, b2⟩ := getF_inv hg2
            have hk := getF_lt hg'
            have hk2 := getF_lt hg2
            have hn1 := nums_inv _ _ _ _ _ _ (by omega) hn
            have hnl := (numsF_len _ _ _ _ _ _ hn).1
            simp only [List.take_zero, List.nil_append, Nat.zero_add] at a1
            have htk : (l.take k).length = k := by rw [List.length_take]; omega
            have b3 : l.drop k = putF c ++ l.drop (k + k2) := by
              conv => lhs; rw [b1]
              rw [List.drop_left' htk]
            have e0 : bytesT ⟨s, s + c - 1, ns⟩ = putF s ++ (putF c ++ diffF 0 ns) := by
              show putF (s : Int).toNat ++ (putF ns.length ++ diffF 0 ns) = _
              rw [Int.toNat_natCast, hnl]
            rw [e0]
            conv => lhs; rw [a1, b3, hn1]
            simp only [List.append_assoc]
            rfl
theorem read_inv : ∀ (i : Nat) (l : List UInt8) (ts : List TabD) (r : List UInt8), readF i l = some (ts, r) → l = ts.flatMap bytesT ++ r
  | 0, l, ts, r, h => by
    simp only [readF, Option.some.injEq, Prod.mk.injEq] at h
    obtain ⟨rfl, rfl⟩ := h
    rfl
  | i + 1, l, ts, r, h => by
    simp only [readF] at h
    cases h1 : oneF l with
    | none => rw [h1] at h; cases h
    | some q =>
      obtain ⟨t, e⟩ := q
      rw [h1] at h
      simp only at h
      cases h2 : readF i (l.drop e) with
      | none => rw [h2] at h; cases h
      | some q2 =>
        obtain ⟨ts2, r2⟩ := q2
        rw [h2] at h
        simp only [Option.some.injEq, Prod.mk.injEq] at h
        obtain ⟨rfl, rfl⟩ := h
        have i1 := read_inv i _ _ _ h2
        have i2 := one_inv h1
        rw [List.flatMap_cons, List.append_assoc, ← i1]
        exact i2
end Go.Proofs.YticbdcpdooahjaaDoor
