/- The abstract machine (FrA, FrC, FrB, FrD, FrE). -/
import Derived.Test.YtepcpdionlfkhaaGreatDoorVrA
import Derived.Test.YtepcpdionlfkhaaGreatDoorMacD
import Derived.Test.YtepcpdionlfkhaaGreatDoorApi
import Derived.Test.YtepcpdionlfkhaaGreatDoorErE
import Derived.Test.YtepcpdionlfkhaaGreatDoorMem
import Derived.Laws.Cover3
namespace Go.Proofs.YtepcpdionlfkhaaGreatDoor
open Go Go.RowKit
set_option maxHeartbeats 8000000
set_option maxRecDepth 100000
set_option linter.unusedVariables false
set_option linter.unusedSimpArgs false
abbrev u8D (n : Int) : D := .val (.int .u8 n)
def sizeF (n : Int) : Int := if n < 0 ∨ 1024 < n then 0 else 4 + n
theorem Size_fun (n : Int) : Fun Tryz.prog 181 [int n] (int (sizeF n)) := by
  (refine Fun.of_body Tryz.func181 rfl rfl Tryz.ntmps181 Tryz.results181 (by simp) ?_)
  rcases (by omega : n < 0 ∨ 1024 < n ∨ (0 ≤ n ∧ n ≤ 1024)) with h1 | h1 | h1
  · have d1 : decide (n < 0) = true := decide_eq_true h1
    have e : sizeF n = 0 := if_pos (.inl h1)
    (repeat (first | apply Wp.skip | apply Wp.exit | apply Wp.ret | apply Wp.block | apply Wp.label | ((first | refine Wp.sreg (fun K hK => ?_) | refine Wp.reg (fun K hK => ?_) | refine Wp.sdrw mixed (fun K hK => ?_) | refine Wp.drw mixed (fun K hK => ?_) | refine Wp.condG (fun K hK hF => ?_)); (repeat (revert hK; intro hK; simp (maxSteps := 2000000) (disch := omega) only [RUN, RUNB, aop, ofV, SV.ofD, Nat.reduceBEq, Nat.reduceLT, d1]; (first | (refine hK _ ?_; clear hK K) | (refine ⟨by kernel_rfl, hK _ ?_⟩; clear hK K) | (refine hK ?_; clear hK hF K) | (refine hF ?_; clear hK hF K) | refine bcf (by assumption) ?_ | refine bca (by assumption) ?_))); fail_if_success (revert hK; intro hK)) | apply Wp.seq))
    simp (maxSteps := 2000000) (disch := omega) only [RUN, RUNB, rD0, bQ0, tQ0, kQ0, e]
  · have d1 : decide (n < 0) = false := decide_eq_false (by omega)
    have d2 : decide (1024 < n) = true := decide_eq_true h1
    have e : sizeF n = 0 := if_pos (.inr h1)
    (repeat (first | apply Wp.skip | apply Wp.exit | apply Wp.ret | apply Wp.block | apply Wp.label | ((first | refine Wp.sreg (fun K hK => ?_) | refine Wp.reg (fun K hK => ?_) | refine Wp.sdrw mixed (fun K hK => ?_) | refine Wp.drw mixed (fun K hK => ?_) | refine Wp.condG (fun K hK hF => ?_)); (repeat (revert hK; intro hK; simp (maxSteps := 2000000) (disch := omega) only [RUN, RUNB, aop, ofV, SV.ofD, Nat.reduceBEq, Nat.reduceLT, d1, d2]; (first | (refine hK _ ?_; clear hK K) | (refine ⟨by kernel_rfl, hK _ ?_⟩; clear hK K) | (refine hK ?_; clear hK hF K) | (refine hF ?_; clear hK hF K) | refine bcf (by assumption) ?_ | refine bca (by assumption) ?_))); fail_if_success (revert hK; intro hK)) | apply Wp.seq))
    simp (maxSteps := 2000000) (disch := omega) only [RUN, RUNB, rD0, bQ0, tQ0, kQ0, e]
  · have d1 : decide (n < 0) = false := decide_eq_false (by omega)
    have d2 : decide (1024 < n) = false := decide_eq_false (by omega)
    have e : sizeF n = 4 + n := if_neg (by omega)
    (repeat (first | apply Wp.skip | apply Wp.exit | apply Wp.ret | apply Wp.block | apply Wp.label | ((first | refine Wp.sreg (fun K hK => ?_) | refine Wp.reg (fun K hK => ?_) | refine Wp.sdrw mixed (fun K hK => ?_) | refine Wp.drw mixed (fun K hK => ?_) | refine Wp.condG (fun K hK hF => ?_)); (repeat (revert hK; intro hK; simp (maxSteps := 2000000) (disch := omega) only [RUN, RUNB, aop, ofV, SV.ofD, Nat.reduceBEq, Nat.reduceLT, d1, d2]; (first | (refine hK _ ?_; clear hK K) | (refine ⟨by kernel_rfl, hK _ ?_⟩; clear hK K) | (refine hK ?_; clear hK hF K) | (refine hF ?_; clear hK hF K) | refine bcf (by assumption) ?_ | refine bca (by assumption) ?_))); fail_if_success (revert hK; intro hK)) | apply Wp.seq))
    simp (maxSteps := 2000000) (disch := omega) only [RUN, RUNB, rD0, bQ0, e]
/-- The bytes of a length, the first i of them. -/
def hdC (n : Nat) (i : Nat) : List CV := match i with
  | 0 => [.d (u8D 0), .d (u8D 0), .d (u8D 0), .d (u8D 0)]
  | 1 => [.d (u8D (n % 256 : Nat)), .d (u8D 0), .d (u8D 0), .d (u8D 0)]
  | 2 => [.d (u8D (n % 256 : Nat)), .d (u8D (n / 256 % 256 : Nat)), .d (u8D 0), .d (u8D 0)]
  | 3 => [.d (u8D (n % 256 : Nat)), .d (u8D (n / 256 % 256 : Nat)), .d (u8D (n / 65536 % 256 : Nat)), .d (u8D 0)]
  | _ => [.d (u8D (n % 256 : Nat)), .d (u8D (n / 256 % 256 : Nat)), .d (u8D (n / 65536 % 256 : Nat)), .d (u8D (n / 16777216 % 256 : Nat))]
abbrev hdD (n : Nat) : D := .agg [u8D (n % 256 : Nat), u8D (n / 256 % 256 : Nat), u8D (n / 65536 % 256 : Nat), u8D (n / 16777216 % 256 : Nat)]
theorem len_ty : Tryz.prog.underlying 250 = some (.array 4 5) := by kernel_rfl
theorem u8_info : ∃ j, Tryz.prog.info? 5 = some j ∧ j.size = 1 := by
  obtain ⟨j, h1, h2⟩ := Option.map_eq_some_iff.1 (show (Tryz.prog.info? 5).map (·.size) = some 1 by kernel_rfl)
  exact ⟨j, h1, h2⟩
theorem shr_nat (n k : Nat) (hk : k ≤ 64) : (n : Int).fdiv (2 ^ min k IntKind.i64.bits) = ((n / 2 ^ k : Nat) : Int) := by
  rw [show min k IntKind.i64.bits = k from Nat.min_eq_left hk, Int.fdiv_eq_ediv_of_nonneg _ (Int.le_of_lt (Int.pow_pos (by decide)))]
  rw [Int.natCast_ediv]; push_cast; rfl
theorem wrap_u8 (n : Nat) : IntKind.u8.wrap (n : Int) = ((n % 256 : Nat) : Int) := by
  simp [IntKind.wrap, IntKind.signed, IntKind.bits]
theorem head_fun (n : Nat) (hn : n ≤ 1000000) : Fun Tryz.prog 200 [int n] (hdD n) := by
  obtain ⟨ji, ji1, ji2⟩ := u8_info
  (refine Fun.of_body Tryz.func200 rfl rfl Tryz.ntmps200 Tryz.results200 (by simp) ?_)
  (repeat (first | apply Wp.skip | apply Wp.exit | apply Wp.ret | apply Wp.block | apply Wp.label | ((first | refine Wp.sreg (fun K hK => ?_) | refine Wp.reg (fun K hK => ?_) | refine Wp.sdrw mixed (fun K hK => ?_) | refine Wp.drw mixed (fun K hK => ?_) | refine Wp.condG (fun K hK hF => ?_)); (repeat (revert hK; intro hK; simp (maxSteps := 2000000) (disch := omega) only [RUN, TY, RUNB, aop, ofV, Value.oneCell', Nat.reduceBEq, Nat.reduceAdd, Nat.reduceLT]; (first | (refine hK _ ?_; clear hK K) | (refine ⟨by kernel_rfl, hK _ ?_⟩; clear hK K) | (refine hK ?_; clear hK hF K) | (refine hF ?_; clear hK hF K) | refine bcf (by assumption) ?_ | refine bca (by assumption) ?_))); fail_if_success (revert hK; intro hK)) | apply Wp.seq))
  refine Wp.loop (fun i : Nat => ⟨ofL [(0, vi .i64 n), (2, .c (.own 0 0)), (3, .c (.own 1 0)), (5, vi .i64 i)], ofH [(0, .cells (hdC n 0)), (1, .cells (hdC n i))], 2, 17, 0⟩) (fun i => i ≤ 4) (fun i => 4 - i) 0 (by omega) ?_ ?_
  · refine Weak.keep rfl rfl ?_
    simp (maxSteps := 2000000) (disch := omega) only [RUN, RUNB, SV.ofD, Nat.reduceBEq, hdC]
  intro i hi
  have s0 := shr_nat n 0 (by omega)
  have s1 := shr_nat n 8 (by omega)
  have s2 := shr_nat n 16 (by omega)
  have s3 := shr_nat n 24 (by omega)
  simp only [Nat.pow_zero, Nat.div_one] at s0
  have w0 := wrap_u8 n
  have w1 := wrap_u8 (n / 2 ^ 8)
  have w2 := wrap_u8 (n / 2 ^ 16)
  have w3 := wrap_u8 (n / 2 ^ 24)
  (repeat (first | apply Wp.skip | apply Wp.exit | apply Wp.ret | apply Wp.block | apply Wp.label | ((first | refine Wp.sreg (fun K hK => ?_) | refine Wp.reg (fun K hK => ?_) | refine Wp.sdrw mixed (fun K hK => ?_) | refine Wp.drw mixed (fun K hK => ?_) | refine Wp.condG (fun K hK hF => ?_)); (repeat (revert hK; intro hK; simp (maxSteps := 2000000) (disch := omega) only [RUN, RUNB, aop, ofV, Nat.reduceBEq, Nat.reduceAdd, Nat.reduceLT]; (first | (refine hK _ ?_; clear hK K) | (refine ⟨by kernel_rfl, hK _ ?_⟩; clear hK K) | (refine hK ?_; clear hK hF K) | (refine hF ?_; clear hK hF K) | refine bcf (by assumption) ?_ | refine bca (by assumption) ?_))); fail_if_success (revert hK; intro hK)) | apply Wp.seq))
  refine Wp.cond (by simp (maxSteps := 2000000) (disch := omega) only [RUN, RUNB]; rfl) (fun h => ?_) (fun h => ?_)
  · have hlt : i < 4 := by simp only [decide_eq_true_eq] at h; omega
    (repeat (first | apply Wp.skip | apply Wp.exit | apply Wp.ret | apply Wp.block | apply Wp.label | ((first | refine Wp.sreg (fun K hK => ?_) | refine Wp.reg (fun K hK => ?_) | refine Wp.sdrw mixed (fun K hK => ?_) | refine Wp.drw mixed (fun K hK => ?_) | refine Wp.condG (fun K hK hF => ?_)); (repeat (revert hK; intro hK; simp (maxSteps := 2000000) (disch := omega) only [RUN, RUNB, aop, ofV, Nat.reduceBEq, Nat.reduceAdd, Nat.reduceLT]; (first | (refine hK _ ?_; clear hK K) | (refine ⟨by kernel_rfl, hK _ ?_⟩; clear hK K) | (refine hK ?_; clear hK hF K) | (refine hF ?_; clear hK hF K) | refine bcf (by assumption) ?_ | refine bca (by assumption) ?_))); fail_if_success (revert hK; intro hK)) | apply Wp.seq))
    obtain ⟨m, hm⟩ : ∃ m, i = m := ⟨_, rfl⟩
    obtain ⟨k, hk⟩ : ∃ k, i + 1 = k := ⟨_, rfl⟩
    (rcases (by omega : i = 0 ∨ i = 1 ∨ i = 2 ∨ i = 3) with rfl | rfl | rfl | rfl) <;>
    · (first | refine Wp.sregG ?_ | refine Wp.regG ?_ | (refine Wp.seq ?_; first | refine Wp.sregG ?_ | refine Wp.regG ?_))
      (refine GRun.at 6 (fun K hK => ?_); simp (maxSteps := 2000000) (disch := omega) only [RUN, TY, RUNB, aop, ofV, aCX, CV.exact, Nat.reduceBEq, Nat.reduceAdd, Nat.reduceLT, Int.reduceLT, bin_shr, sc_conv]; refine hK _ ?_; clear hK K)
      refine GRun.arrAt rfl 1 0 m len_ty ji1 ji2 (by omega) ⟨by kernel_rfl, by kernel_rfl, ?_, ?_⟩ ?_
      · simp (maxSteps := 2000000) (disch := omega) only [RUN, RUNB, Nat.reduceBEq]
      · simp (maxSteps := 2000000) (disch := omega) only [RUN, RUNB, CV.exact, Nat.reduceBEq, Int.reduceLE, Int.reduceToNat, ← hm]
      subst hm
      (refine GRun.done (fun K hK => ?_); simp (maxSteps := 2000000) (disch := omega) only [RUN, TY, RUNB, aop, aSt, CV.one, D.one, Value.oneCell', Nat.reduceBEq, Nat.reduceAdd, Nat.reduceMul, Nat.reduceLeDiff, hdC]; refine hK _ ?_; clear hK K)
      (repeat (first | apply Wp.skip | apply Wp.exit | apply Wp.ret | apply Wp.block | apply Wp.label | ((first | refine Wp.sreg (fun K hK => ?_) | refine Wp.reg (fun K hK => ?_) | refine Wp.sdrw mixed (fun K hK => ?_) | refine Wp.drw mixed (fun K hK => ?_) | refine Wp.condG (fun K hK hF => ?_)); (repeat (revert hK; intro hK; simp (maxSteps := 2000000) (disch := omega) only [RUN, RUNB, aop, ofV, Nat.reduceBEq, Nat.reduceAdd, Nat.reduceLT, Int.reduceAdd]; (first | (refine hK _ ?_; clear hK K) | (refine ⟨by kernel_rfl, hK _ ?_⟩; clear hK K) | (refine hK ?_; clear hK hF K) | (refine hF ?_; clear hK hF K) | refine bcf (by assumption) ?_ | refine bca (by assumption) ?_))); fail_if_success (revert hK; intro hK)) | apply Wp.seq))
      refine ⟨k, by omega, by omega, ?_⟩
      subst hk
      refine Weak.keep rfl rfl ?_
      simp (maxSteps := 2000000) (disch := omega) only [RUN, RUNB, Nat.reduceBEq, Nat.reduceAdd, Int.reduceToNat, hdC, Int.reduceMul, s0, s1, s2, s3, w0, w1, w2, w3]
  · obtain rfl : i = 4 := by simp only [decide_eq_false_iff_not] at h; omega
    (repeat (first | apply Wp.skip | apply Wp.exit | apply Wp.ret | apply Wp.block | apply Wp.label | ((first | refine Wp.sreg (fun K hK => ?_) | refine Wp.reg (fun K hK => ?_) | refine Wp.sdrw mixed (fun K hK => ?_) | refine Wp.drw mixed (fun K hK => ?_) | refine Wp.condG (fun K hK hF => ?_)); (repeat (revert hK; intro hK; simp (maxSteps := 2000000) (disch := omega) only [RUN, TY, RUNB, aop, aLd, aSt, Nat.reduceBEq, Nat.reduceAdd, Int.reduceLT, hdC]; (first | (refine hK _ ?_; clear hK K) | (refine ⟨by kernel_rfl, hK _ ?_⟩; clear hK K) | (refine hK ?_; clear hK hF K) | (refine hF ?_; clear hK hF K) | refine bcf (by assumption) ?_ | refine bca (by assumption) ?_))); fail_if_success (revert hK; intro hK)) | apply Wp.seq))
    simp (maxSteps := 2000000) (disch := omega) only [RUN, TY, RUNB, aLd, CV.toD0, rD0, bQ0, Nat.reduceBEq, Nat.reduceAdd]

abbrev un4 (a b c d : UInt8) : Nat := a.toNat + b.toNat * 256 + c.toNat * 65536 + d.toNat * 16777216
abbrev u8V (a : UInt8) : D := u8D (a.toNat : Nat)
abbrev ld4 (a b c d : UInt8) : D := .agg [u8V a, u8V b, u8V c, u8V d]
def unN (a b c d : UInt8) : Nat → Nat
  | 0 => 0
  | 1 => a.toNat
  | 2 => a.toNat + b.toNat * 256
  | 3 => a.toNat + b.toNat * 256 + c.toNat * 65536
  | _ => a.toNat + b.toNat * 256 + c.toNat * 65536 + d.toNat * 16777216
theorem or_pow (n m i : Nat) (h : n < 2 ^ i) : n ||| (m * 2 ^ i) = n + m * 2 ^ i := by
  rw [Nat.or_comm, Nat.mul_comm m, ← Nat.two_pow_add_eq_or_of_lt h]; omega
theorem shl_nat (b : UInt8) (k : Nat) (hk : k ≤ 24) : IntKind.i64.wrap ((b.toNat : Int) * 2 ^ min k IntKind.i64.bits) = ((b.toNat * 2 ^ k : Nat) : Int) := by
  rw [show min k IntKind.i64.bits = k from Nat.min_eq_left (by show k ≤ 64; omega)]
  have h1 : ((b.toNat : Int) * 2 ^ k) = ((b.toNat * 2 ^ k : Nat) : Int) := by push_cast; rfl
  have h2 : b.toNat < 256 := b.toNat_lt
  have h3 : 2 ^ k ≤ 2 ^ 24 := Nat.pow_le_pow_right (by decide) hk
  have h4 : b.toNat * 2 ^ k ≤ 255 * 2 ^ 24 := Nat.mul_le_mul (by omega) h3
  rw [h1]
  exact wrap_i64 (by omega)
theorem wrapB (b : UInt8) : IntKind.i64.wrap (b.toNat : Int) = b.toNat := wrap_i64 (by have : b.toNat < 256 := b.toNat_lt; omega)
def OrStep (a b c d : UInt8) (i : Nat) (x : UInt8) (y m0 m1 : Nat) : Prop :=
  ([.d (u8V a), .d (u8V b), .d (u8V c), .d (u8V d)] : List CV)[i]? = some (.d (u8V x)) ∧ x.toNat * 2 ^ (8 * i) = y ∧ IntKind.i64.wrap ((x.toNat : Int) * 2 ^ min (8 * i) IntKind.i64.bits) = (y : Int) ∧ unN a b c d i = m0 ∧ unN a b c d (i + 1) = m1 ∧ ∀ x w, aBin Tryz.prog .or 3 x w (vi .i64 m0) (vi .i64 y) = some (Res.pure (vi .i64 m1))
theorem or_step (a b c d : UInt8) (i : Nat) (hi : i < 4) : ∃ x y m0 m1, OrStep a b c d i x y m0 m1 := by
  have ba : a.toNat < 256 := a.toNat_lt
  have bb : b.toNat < 256 := b.toNat_lt
  have bc : c.toNat < 256 := c.toNat_lt
  have bd : d.toNat < 256 := d.toNat_lt
  have key : ∀ x : UInt8, ([.d (u8V a), .d (u8V b), .d (u8V c), .d (u8V d)] : List CV)[i]? = some (.d (u8V x)) → unN a b c d i < 2 ^ (8 * i) → unN a b c d i < 2 ^ 62 → x.toNat * 2 ^ (8 * i) < 2 ^ 62 → unN a b c d i + x.toNat * 2 ^ (8 * i) = unN a b c d (i + 1) → ∃ x y m0 m1, OrStep a b c d i x y m0 m1 := fun x hx hlt h1 h2 h3 => ⟨x, _, _, _, hx, rfl, shl_nat x (8 * i) (by omega), rfl, rfl, fun x w => by rw [or64 _ _ h1 h2, or_pow _ _ _ hlt, h3]⟩
  rcases (by omega : i = 0 ∨ i = 1 ∨ i = 2 ∨ i = 3) with rfl | rfl | rfl | rfl
  · exact key a rfl (by simp only [unN]; omega) (by simp only [unN]; omega) (by omega) (by simp only [unN] <;> omega)
  · exact key b rfl (by simp only [unN]; omega) (by simp only [unN]; omega) (by omega) (by simp only [unN] <;> omega)
  · exact key c rfl (by simp only [unN]; omega) (by simp only [unN]; omega) (by omega) (by simp only [unN] <;> omega)
  · exact key d rfl (by simp only [unN]; omega) (by simp only [unN]; omega) (by omega) (by simp only [unN] <;> omega)
theorem load_fun (a b c d : UInt8) : Fun Tryz.prog 180 [ld4 a b c d] (int (un4 a b c d : Nat)) := by
  obtain ⟨ji, ji1, ji2⟩ := u8_info
  have ba : a.toNat < 256 := a.toNat_lt
  have bb : b.toNat < 256 := b.toNat_lt
  have bc : c.toNat < 256 := c.toNat_lt
  have bd : d.toNat < 256 := d.toNat_lt
  (refine Fun.of_body Tryz.func180 rfl rfl Tryz.ntmps180 Tryz.results180 (by simp) ?_)
  (repeat (first | apply Wp.skip | apply Wp.exit | apply Wp.ret | apply Wp.block | apply Wp.label | ((first | refine Wp.sreg (fun K hK => ?_) | refine Wp.reg (fun K hK => ?_) | refine Wp.sdrw mixed (fun K hK => ?_) | refine Wp.drw mixed (fun K hK => ?_) | refine Wp.condG (fun K hK hF => ?_)); (repeat (revert hK; intro hK; simp (maxSteps := 2000000) (disch := omega) only [RUN, RUNB, aop, ofV, SV.ofD, Nat.reduceAdd, Nat.reduceLT]; (first | (refine hK _ ?_; clear hK K) | (refine ⟨by kernel_rfl, hK _ ?_⟩; clear hK K) | (refine hK ?_; clear hK hF K) | (refine hF ?_; clear hK hF K) | refine bcf (by assumption) ?_ | refine bca (by assumption) ?_))); fail_if_success (revert hK; intro hK)) | apply Wp.seq))
  refine Wp.loop (fun i : Nat => ⟨ofL [(1, .c (.own 0 0)), (3, vi .i64 (unN a b c d i : Nat)), (5, vi .i64 i)], ofH [(0, .cells [.d (u8V a), .d (u8V b), .d (u8V c), .d (u8V d)])], 1, 19, 0⟩) (fun i => i ≤ 4) (fun i => 4 - i) 0 (by omega) ?_ ?_
  · refine Weak.keep rfl rfl ?_
    simp (maxSteps := 2000000) (disch := omega) only [RUN, RUNB, Nat.reduceBEq, unN]
  intro i hi
  (repeat (first | apply Wp.skip | apply Wp.exit | apply Wp.ret | apply Wp.block | apply Wp.label | ((first | refine Wp.sreg (fun K hK => ?_) | refine Wp.reg (fun K hK => ?_) | refine Wp.sdrw mixed (fun K hK => ?_) | refine Wp.drw mixed (fun K hK => ?_) | refine Wp.condG (fun K hK hF => ?_)); (repeat (revert hK; intro hK; simp (maxSteps := 2000000) (disch := omega) only [RUN, RUNB, aop, ofV, Nat.reduceBEq, Nat.reduceAdd, Nat.reduceLT]; (first | (refine hK _ ?_; clear hK K) | (refine ⟨by kernel_rfl, hK _ ?_⟩; clear hK K) | (refine hK ?_; clear hK hF K) | (refine hF ?_; clear hK hF K) | refine bcf (by assumption) ?_ | refine bca (by assumption) ?_))); fail_if_success (revert hK; intro hK)) | apply Wp.seq))
  refine Wp.cond (by simp (maxSteps := 2000000) (disch := omega) only [RUN, RUNB]; rfl) (fun h => ?_) (fun h => ?_)
  · have hlt : i < 4 := by simp only [decide_eq_true_eq] at h; omega
    (repeat (first | apply Wp.skip | apply Wp.exit | apply Wp.ret | apply Wp.block | apply Wp.label | ((first | refine Wp.sreg (fun K hK => ?_) | refine Wp.reg (fun K hK => ?_) | refine Wp.sdrw mixed (fun K hK => ?_) | refine Wp.drw mixed (fun K hK => ?_) | refine Wp.condG (fun K hK hF => ?_)); (repeat (revert hK; intro hK; simp (maxSteps := 2000000) (disch := omega) only [RUN, RUNB, aop, CV.exact, CV.lstOf, Nat.reduceBEq, Nat.reduceAdd, Nat.reduceLT]; (first | (refine hK _ ?_; clear hK K) | (refine ⟨by kernel_rfl, hK _ ?_⟩; clear hK K) | (refine hK ?_; clear hK hF K) | (refine hF ?_; clear hK hF K) | refine bcf (by assumption) ?_ | refine bca (by assumption) ?_))); fail_if_success (revert hK; intro hK)) | apply Wp.seq))
    obtain ⟨m, hm⟩ : ∃ m, i = m := ⟨_, rfl⟩
    obtain ⟨k, hk⟩ : ∃ k, i + 1 = k := ⟨_, rfl⟩
    obtain ⟨x, y, m0, m1, hx, hy, ws, h0, h1, o1⟩ := or_step a b c d i hlt
    (first | refine Wp.sregG ?_ | refine Wp.regG ?_ | (refine Wp.seq ?_; first | refine Wp.sregG ?_ | refine Wp.regG ?_))
    (refine GRun.at 2 (fun K hK => ?_); simp (maxSteps := 2000000) (disch := omega) only [RUN, RUNB, aop, Nat.reduceBEq, Nat.reduceAdd, Nat.reduceLT, h0]; refine hK _ ?_; clear hK K)
    refine GRun.arrAt rfl 0 0 i len_ty ji1 ji2 hlt ⟨by kernel_rfl, by kernel_rfl, ?_, ?_⟩ ?_
    · simp (maxSteps := 2000000) (disch := omega) only [RUN, RUNB, Nat.reduceBEq]
    · simp (maxSteps := 2000000) (disch := omega) only [RUN, RUNB, CV.exact]
    (rcases (by omega : i = 0 ∨ i = 1 ∨ i = 2 ∨ i = 3) with rfl | rfl | rfl | rfl) <;>
    · simp only [List.getElem?_cons_zero, List.getElem?_cons_succ, Option.some.injEq, CV.d.injEq] at hx
      (refine GRun.done (fun K hK => ?_); simp (maxSteps := 2000000) (disch := omega) only [RUN, TY, RUNB, aop, ofV, aLd, aCX, CV.exact, Nat.reduceBEq, Nat.reduceAdd, Nat.reduceMul, Nat.reduceLT, Nat.reduceLeDiff, Int.reduceLT, Int.reduceToNat, bin_shl, sc_conv, wrapB, Int.reduceMul, hx, ws, o1]; refine hK _ ?_; clear hK K)
      (repeat (first | apply Wp.skip | apply Wp.exit | apply Wp.ret | apply Wp.block | apply Wp.label | ((first | refine Wp.sreg (fun K hK => ?_) | refine Wp.reg (fun K hK => ?_) | refine Wp.sdrw mixed (fun K hK => ?_) | refine Wp.drw mixed (fun K hK => ?_) | refine Wp.condG (fun K hK hF => ?_)); (repeat (revert hK; intro hK; simp (maxSteps := 2000000) (disch := omega) only [RUN, RUNB, aop, ofV, Nat.reduceBEq, Nat.reduceAdd, Nat.reduceLT, Int.reduceAdd]; (first | (refine hK _ ?_; clear hK K) | (refine ⟨by kernel_rfl, hK _ ?_⟩; clear hK K) | (refine hK ?_; clear hK hF K) | (refine hF ?_; clear hK hF K) | refine bcf (by assumption) ?_ | refine bca (by assumption) ?_))); fail_if_success (revert hK; intro hK)) | apply Wp.seq))
      refine ⟨k, by omega, by omega, ?_⟩
      subst hk
      refine Weak.keep rfl rfl ?_
      simp (maxSteps := 2000000) (disch := omega) only [RUN, RUNB, Nat.reduceBEq, Nat.reduceAdd, h1, hx]
  · obtain rfl : i = 4 := by simp only [decide_eq_false_iff_not] at h; omega
    (repeat (first | apply Wp.skip | apply Wp.exit | apply Wp.ret | apply Wp.block | apply Wp.label | ((first | refine Wp.sreg (fun K hK => ?_) | refine Wp.reg (fun K hK => ?_) | refine Wp.sdrw mixed (fun K hK => ?_) | refine Wp.drw mixed (fun K hK => ?_) | refine Wp.condG (fun K hK hF => ?_)); (repeat (revert hK; intro hK; simp (maxSteps := 2000000) (disch := omega) only [RUN, RUNB, aop, Nat.reduceBEq, Nat.reduceAdd, Nat.reduceLT, Int.reduceLT, unN]; (first | (refine hK _ ?_; clear hK K) | (refine ⟨by kernel_rfl, hK _ ?_⟩; clear hK K) | (refine hK ?_; clear hK hF K) | (refine hF ?_; clear hK hF K) | refine bcf (by assumption) ?_ | refine bca (by assumption) ?_))); fail_if_success (revert hK; intro hK)) | apply Wp.seq))
    simp (maxSteps := 2000000) (disch := omega) only [RUN, RUNB, rD0, bQ0]
end Go.Proofs.YtepcpdionlfkhaaGreatDoor
namespace Go.Proofs.YtepcpdionlfkhaaGreatDoor
open Go.RowKit Go.Extern.Stop Go.Stop Go.Extern
set_option maxRecDepth 100000
set_option linter.unusedVariables false
set_option linter.unusedSimpArgs false
theorem unwX (a : Addr) (n : Int) (w : World) (hc : w.cell? ⟨a.block, a.off, none⟩ = some (.int .i64 n)) (ha : a.spot = none) :
    Calls Tryz.prog 252 #[.pointer (some a)] w fun e w' => e = .returned (.iface 41 (.int .i64 n)) ∧ w = w' := by
  obtain ⟨b, o, sp⟩ := a
  cases ha
  go_enter Tryz.func252, Tryz.ntmps252
  go_wp2_with fail
  go_ret
  exact ⟨rfl, rfl⟩
theorem taUX (a : Addr) (w : World) : (Instr.typeAssert (.iface 279 (.pointer (some a))) 53 216 true).run Tryz.prog w = .ok (.tuple #[.iface 279 (.pointer (some a)), .bool true]) w :=
  run_typeAssert_hasB Tryz.underlying216 (by kernel_rfl) _ _ w
theorem mUX (a : Addr) (w : World) : (Go.method 419 279 (.pointer (some a)) "Unwrap").run Tryz.prog w = .ok (252, .pointer (some a)) w := by kernel_rfl
set_option maxHeartbeats 8000000 in
theorem isX_walk (b o : Nat) (n m : Int) (w : World) (hc : w.cell? ⟨b, o, none⟩ = some (.int .i64 n)) :
    Calls Tryz.prog 83 #[.iface 279 (.pointer (some ⟨b, o, none⟩)), .iface 41 (.int .i64 m), .bool true] w fun e w' => e = .returned (.bool (n == m)) ∧ w = w' := by
  have e1 := @eqlTE 279 (by decide)
  have e2 := eqlEE
  have t1 : ∀ (a : Addr) (w : World), (Instr.typeAssert (.iface 279 (.pointer (some a))) 53 213 true).run Tryz.prog w = .ok (.tuple #[.nilIface, .bool false]) w := fun a w => run_typeAssert_lacksB Tryz.underlying213 (by kernel_rfl) (by kernel_rfl) _ _ w
  have t2 := taUX
  have t3 := mUX
  have t4 := taIE
  have t5 := taUE
  have t6 := taVE
  go_enter Tryz.func83, Tryz.ntmps83
  go_wp2_with fail
  refine wp_loop_rounds 2 ?_
  rw [rounds_succ]
  go_wp2_with fail
  refine (unwX ⟨b, o, none⟩ n _ hc rfl).mono ?_
  rintro e w1 ⟨rfl, rfl⟩
  go_wp2_with fail
  rw [rounds_succ]
  have e3 := fun w => eqlEE n m w
  clear e2
  cases hnm : (n == m) <;> rw [hnm] at e3
  · go_wp2_with fail
    go_ret
    exact ⟨by rw [hnm]; rfl, rfl⟩
  · go_wp2_with fail
    go_ret
    exact ⟨by rw [hnm]; rfl, rfl⟩
set_option maxHeartbeats 8000000 in
theorem isX (b o : Nat) (n m : Int) (w : World) (hc : w.cell? ⟨b, o, none⟩ = some (.int .i64 n)) :
    Calls Tryz.prog 42 #[.iface 279 (.pointer (some ⟨b, o, none⟩)), .iface 41 (.int .i64 m)] w fun e w' => e = .returned (.bool (n == m)) ∧ w = w' := by
  have h52 := @run_callFunc_extern Tryz.prog 82 _ ReflectliteType.typeOf Tryz.func82 (by kernel_rfl) (by kernel_rfl) (by kernel_rfl) (by kernel_rfl)
  have h53 := @run_callFunc_extern Tryz.prog 236 _ (ReflectliteType.method (fun t => do Rtype.noPackHeld "Comparable" t; pure (.bool (← typeInfo t).comparable))) Tryz.func236 (by kernel_rfl) (by kernel_rfl) (by kernel_rfl) (by kernel_rfl)
  have tE := typeOfE
  have mC := methodComparable
  have cE := comparableE
  go_enter Tryz.func42, Tryz.ntmps42
  go_wp2_with fail
  refine (isX_walk b o n m w hc).mono ?_
  rintro e w' ⟨rfl, rfl⟩
  go_wp2_with fail
  go_ret
  exact ⟨rfl, rfl⟩
abbrev frErr (n : Int) : D := .iface 279 (.ptr [int n] 0)
theorem frErr_inv {K : Know} {n : Int} {v : Value} (h : Rep K (frErr n) v) : ∃ b o, v = .iface 279 (.pointer (some ⟨b, o, none⟩)) ∧ K b o = some (.int .i64 n) := by
  cases h with
  | iface h =>
    cases h with
    | ptr hl hv h1 hk =>
      rename_i vs b o
      match vs, hl with
      | [u0], _ =>
        have h2 := hv 0 (int n) u0 rfl rfl
        cases h2
        exact ⟨b, o + 0, rfl, by simpa using hk 0 _ rfl⟩
theorem is_frame (n m : Int) : Fun Tryz.prog 42 [frErr n, .iface 41 (int m)] (boo (n == m)) := by
  refine ⟨by kernel_rfl, fun K w vs hB hk hL => ?_⟩
  obtain ⟨v, u, rfl, hv, hu⟩ := two_args hL
  obtain ⟨b, o, rfl, hkk⟩ := frErr_inv hv
  cases hu with
  | iface hu =>
    cases hu
    refine (isX b o n m w (hk _ _ _ hkk)).mono ?_
    rintro e w' ⟨rfl, rfl⟩
    exact ⟨_, K, rfl, Ext.refl _ _, hk, Rep.val _, Below.refl _ _⟩
theorem eqlInNE (d : Nat) (m : Int) (w : World) : (Op.equalIn (d + 2) 53 .nilIface (.iface 41 (.int .i64 m))).run Tryz.prog w = .ok false w := by
  simp [Op.equalIn, run_underlying Tryz.underlying53]
theorem eqlNE (m : Int) (w : World) : (binOp .eql 53 .nilIface (.iface 41 (.int .i64 m))).run Tryz.prog w = .ok (.bool false) w := by
  simp only [binOp]
  simp [Op.equal, Op.maxDepth, eqlInNE 9998]
theorem isNilE (m : Int) (w : World) : Calls Tryz.prog 42 #[.nilIface, .iface 41 (.int .i64 m)] w fun e w' => e = .returned (.bool false) ∧ w = w' := by
  have e1 := eqlNE m
  go_enter Tryz.func42, Tryz.ntmps42
  go_wp2_with fail
  go_ret
  exact ⟨rfl, rfl⟩
theorem is_nil (m : Int) : Fun Tryz.prog 42 [.val .nilIface, .iface 41 (int m)] (boo false) := by
  refine ⟨by kernel_rfl, fun K w vs hB hk hL => ?_⟩
  obtain ⟨v, u, rfl, hv, hu⟩ := two_args hL
  cases hv
  cases hu with
  | iface hu =>
    cases hu
    refine (isNilE m w).mono ?_
    rintro e w' ⟨rfl, rfl⟩
    exact ⟨_, K, rfl, Ext.refl _ _, hk, Rep.val _, Below.refl _ _⟩
end Go.Proofs.YtepcpdionlfkhaaGreatDoor
namespace Go.Proofs.YtepcpdionlfkhaaGreatDoor
open Go Go.RowKit
set_option maxHeartbeats 8000000
set_option maxRecDepth 100000
set_option linter.unusedVariables false
set_option linter.unusedSimpArgs false
/-- A pointer to an array that is written no more, sliced whole. -/
theorem GRun.arrSlice {P : Program} {all : List Oper} {o : Oper} {os : List Oper} {σ : St} {k : St → Prop} {t e n : Nat} {x : Operand} {j : TypeInfo} (id : Nat) (ds : List D) (xs : List (List D)) (hxs : xs = ds.map fun d => [d]) (hop : o.op = .slice t x none none none)
    (hu : P.underlying t = some (.array n e)) (hj : P.info? e = some j) (hs : j.size = 1) (hn : 0 < n) (hl : ds.length = n)
    (hc : guardB all σ.env o = some true ∧ bdst σ o = true ∧ evalS σ.env x = .c (.own id 0) ∧ σ.H id = some (.froz ds))
    (h : GRun P all os ⟨putE σ.env o.dst (.c (.d (.lst 1 xs))), σ.H, σ.nx, σ.sz, σ.fx⟩ k) : GRun P all (o :: os) σ k := by
  obtain ⟨hg, hd, hx, hH⟩ := hc
  refine GRun.opr hg hd (by rw [hop]; intro c hc; cases hc) fun F K0 g a w hr => ?_
  have hxv := evalS_rep hr x
  rw [hx] at hxv
  obtain ⟨b, hb, hev, hnr⟩ := hxv
  obtain ⟨b', vs, hb', hrl, h1, hk⟩ := hr.mem.holds id _ hH
  rw [hb] at hb'; cases hb'
  refine ⟨_, .slice (some ⟨b, 0, none⟩) n n, w, g, σ.H, .c (.d (.lst 1 xs)), σ.nx, ?_, .inl rfl, hr.mem, GLe.refl _ _, ?_, fun _ _ => rfl, h⟩
  · unfold execOp; rw [hop]
    have hn0 : ¬ n = 0 := by omega
    simp only [hev]
    simp [Instr.sliceAt, run_underlying hu, Instr.sureAddr, Instr.sliceBounds, run_sizeOf hj, hs, hn0, Addr.add_lit, Result.andThen]
  · show Rep g.K _ _
    subst hxs
    have hfl : (ds.map fun d => [d]).flatten = ds := by
      clear hl hH h hrl
      induction ds with
      | nil => rfl
      | cons d ds ih => simp only [List.map_cons, List.flatten_cons, ih]; rfl
    have := Rep.lst (K := g.K) (sz := 1) (xs := ds.map fun d => [d]) (vs := vs) (a := some ⟨b, 0, none⟩) (c := n) (fun x hx => by obtain ⟨d, _, rfl⟩ := List.mem_map.1 hx; rfl) (by simp [hl]) (by rw [hfl]; exact hrl.1) (by rw [hfl]; exact hrl.2) h1
      (fun _ => ⟨b, 0, rfl, fun j v hj => by rw [Nat.zero_add]; exact hk j v hj⟩)
    simp only [List.length_map, hl] at this
    exact this
/-- A slice that is long enough, as a pointer to an array. -/
theorem GRun.arrOf {P : Program} {all : List Oper} {o : Oper} {os : List Oper} {σ : St} {k : St → Prop} {t e n : Nat} {x : Operand} (ds : List D) (cv : CV) (xs : List (List D)) (hop : o.op = .sliceToArrayPointer t x)
    (hu : P.underlying t = some (.array n e)) (hn : 0 < n) (hl : xs.length = n) (hds : xs.flatten = ds)
    (hc : guardB all σ.env o = some true ∧ bdst σ o = true ∧ evalS σ.env x = .c cv ∧ cv.lstOf 1 = some xs)
    (h : GRun P all os ⟨putE σ.env o.dst (.c (.d (.ptr ds 0))), σ.H, σ.nx, σ.sz, σ.fx⟩ k) : GRun P all (o :: os) σ k := by
  obtain ⟨hg, hd, hx, hls⟩ := hc
  subst hds
  refine GRun.opr hg hd (by rw [hop]; intro c hc; cases hc) fun F K0 g a w hr => ?_
  have hxv := evalS_rep hr x
  rw [hx] at hxv
  have hxv := CV.lstOf_rep hxv hls
  generalize hev : a.eval x = v at hxv
  cases hxv with
  | lst hs2 hc2 hl2 hv h1 hk =>
    rename_i vs ad c
    have hne : xs ≠ [] := by intro e; rw [e] at hl; simp at hl; omega
    obtain ⟨b, off, rfl, hkk⟩ := hk hne
    refine ⟨_, .pointer (some ⟨b, off, none⟩), w, g, σ.H, .c (.d (.ptr xs.flatten 0)), σ.nx, ?_, .inl rfl, hr.mem, GLe.refl _ _, ?_, fun _ _ => rfl, h⟩
    · unfold execOp; rw [hop]
      simp only [hev]
      simp [Instr.arrayAt, run_underlying hu, hl, Result.andThen]
    · show Rep g.K _ _
      exact Rep.ptr (K := g.K) (o := off) (off := 0) hl2 hv h1 hkk
def le4 (n : Nat) : List UInt8 := [UInt8.ofNat (n % 256), UInt8.ofNat (n / 256 % 256), UInt8.ofNat (n / 65536 % 256), UInt8.ofNat (n / 16777216 % 256)]
theorem byteV (c : Nat) (h : c < 256) : ((UInt8.ofNat c).toNat : Int) = c := by
  have : (UInt8.ofNat c).toNat = c := by rw [UInt8.toNat_ofNat']; omega
  rw [this]
theorem le4_D (n : Nat) : (le4 n).map byteD = [u8D (n % 256 : Nat), u8D (n / 256 % 256 : Nat), u8D (n / 65536 % 256 : Nat), u8D (n / 16777216 % 256 : Nat)].map fun d => [d] := by
  have h := fun c : Nat => byteV (c % 256) (by omega)
  simp only [le4, List.map_cons, List.map_nil, byteD, h]
def frF (l : List UInt8) : List UInt8 := le4 l.length ++ l
theorem framed_fun (l : List UInt8) (hl : l.length ≤ 1000000) : Fun Tryz.prog 183 [str l] (if l.length ≤ 1024 then .tup [str (frF l), .val .nilIface] else .tup [str [], frErr 2]) := by
  obtain ⟨ji, ji1, ji2⟩ := u8_info
  have c1 := Size_fun l.length
  have c2 := head_fun l.length hl
  (refine Fun.of_body Tryz.func183 rfl rfl Tryz.ntmps183 Tryz.results183 (by simp) ?_)
  by_cases h : l.length ≤ 1024
  · have e1 : sizeF l.length = 4 + l.length := if_neg (by omega)
    rw [e1] at c1
    have e2 : ((4 : Int) + (l.length : Int) == 0) = false := by simp; omega
    rw [if_pos h]
    (repeat (first | apply Wp.skip | apply Wp.exit | apply Wp.ret | apply Wp.block | apply Wp.label | ((first | refine Wp.sreg (fun K hK => ?_) | refine Wp.reg (fun K hK => ?_) | refine Wp.sdrw mixed (fun K hK => ?_) | refine Wp.drw mixed (fun K hK => ?_) | refine Wp.condG (fun K hK hF => ?_)); (repeat (revert hK; intro hK; simp (maxSteps := 2000000) (disch := omega) only [RUN, TY, RUNB, aop, ofV, SV.ofD, aSt, aLen, aSl, aBu, CV.lstOf, Value.oneCell', oWn, Nat.reduceBEq, Nat.reduceAdd, Nat.reduceLT, e2]; (first | (refine hK _ ?_; clear hK K) | (refine ⟨by kernel_rfl, hK _ ?_⟩; clear hK K) | (refine hK ?_; clear hK hF K) | (refine hF ?_; clear hK hF K) | refine bcf (by assumption) ?_ | refine bca (by assumption) ?_))); fail_if_success (revert hK; intro hK)) | apply Wp.seq))
    (refine Wp.weak (Weak.freeze (id := 0) (by simp (maxSteps := 2000000) (disch := omega) only [RUN]; rfl) (by simp (maxSteps := 2000000) (disch := omega) only [RUNB, CV.toD0]; rfl)) ?_)
    (first | refine Wp.sregG ?_ | refine Wp.regG ?_ | (refine Wp.seq ?_; first | refine Wp.sregG ?_ | refine Wp.regG ?_))
    refine GRun.arrSlice 0 [u8D (l.length % 256 : Nat), u8D (l.length / 256 % 256 : Nat), u8D (l.length / 65536 % 256 : Nat), u8D (l.length / 16777216 % 256 : Nat)] ((le4 l.length).map byteD) (le4_D l.length) rfl len_ty ji1 ji2 (by omega) rfl ⟨by kernel_rfl, by kernel_rfl, ?_, ?_⟩ ?_
    · simp (maxSteps := 2000000) (disch := omega) only [RUN, RUNB]
    · simp (maxSteps := 2000000) (disch := omega) only [RUN]
    have hlb : (le4 l.length).length + l.length ≤ 9223372036854775807 := by simp [le4]; omega
    (refine GRun.done (fun K hK => ?_); simp (maxSteps := 2000000) (disch := omega) only [RUN, TY, RUNB, aop, ofV, SV.ofD, aCL, CV.exact, CV.lstOf, Nat.reduceBEq, Nat.reduceAdd, Nat.reduceLT, sbin_add hlb]; refine hK _ ?_; clear hK K)
    (repeat (first | apply Wp.skip | apply Wp.exit | apply Wp.ret | apply Wp.block | apply Wp.label | ((first | refine Wp.sreg (fun K hK => ?_) | refine Wp.reg (fun K hK => ?_) | refine Wp.sdrw mixed (fun K hK => ?_) | refine Wp.drw mixed (fun K hK => ?_) | refine Wp.condG (fun K hK hF => ?_)); (repeat (revert hK; intro hK; simp (maxSteps := 2000000) (disch := omega) only [RUN, TY, RUNB, aop, ofV, SV.ofD, aLd, aSt, aFd, aPt, aLen, aSl, aIf, aMF, aXt, aBu, aCX, aCL, aCy, CV.exact, CV.lstOf, CV.lenOf, CV.one, D.one, Value.oneCell', CV.toD0, iFl, oWn, pLk, nD0, rD0, bQ0, tQ0, kQ0, reduceCtorEq, reduceIte, Nat.reduceBEq, Nat.reduceEqDiff, Nat.reduceAdd, Nat.reduceMul, Nat.reduceSub, Nat.reduceLT, Nat.reduceLeDiff, Nat.reduceBNe, Int.reduceLE, Int.reduceLT, Int.reduceBEq, Int.reduceBNe, Int.reduceEq, Int.reduceNeg, Int.reduceAdd, Int.reduceSub, Int.reduceToNat, forall_const]; (first | (refine hK _ ?_; clear hK K) | (refine ⟨by kernel_rfl, hK _ ?_⟩; clear hK K) | (refine hK ?_; clear hK hF K) | (refine hF ?_; clear hK hF K) | refine bcf (by assumption) ?_ | refine bca (by assumption) ?_))); fail_if_success (revert hK; intro hK)) | apply Wp.seq))
    simp (maxSteps := 2000000) (disch := omega) only [RUN, RUNB, rD0, bQ0, Nat.reduceBEq, frF]
  · have e1 : sizeF l.length = 0 := if_pos (by omega)
    rw [e1] at c1
    rw [if_neg h]
    (repeat (first | apply Wp.skip | apply Wp.exit | apply Wp.ret | apply Wp.block | apply Wp.label | ((first | refine Wp.sreg (fun K hK => ?_) | refine Wp.reg (fun K hK => ?_) | refine Wp.sdrw mixed (fun K hK => ?_) | refine Wp.drw mixed (fun K hK => ?_) | refine Wp.condG (fun K hK hF => ?_)); (repeat (revert hK; intro hK; simp (maxSteps := 2000000) (disch := omega) only [RUN, TY, RUNB, aop, ofV, SV.ofD, aLen, aIf, aBu, CV.one, D.one, Value.oneCell', CV.toD0, oWn, reduceCtorEq, Nat.reduceBEq, Nat.reduceAdd, Nat.reduceLT]; (first | (refine hK _ ?_; clear hK K) | (refine ⟨by kernel_rfl, hK _ ?_⟩; clear hK K) | (refine hK ?_; clear hK hF K) | (refine hF ?_; clear hK hF K) | refine bcf (by assumption) ?_ | refine bca (by assumption) ?_))); fail_if_success (revert hK; intro hK)) | apply Wp.seq))
    simp (maxSteps := 2000000) (disch := omega) only [RUN, RUNB, rD0, bQ0, tQ0, Nat.reduceBEq]
theorem Bytes1_fun (l : List UInt8) (hl : l.length ≤ 1000000) : Fun Tryz.prog 152 [str l] (if l.length ≤ 1024 then .tup [str (frF l), int 0] else .tup [str [], int 2]) := by
  have c1 := framed_fun l hl
  (refine Fun.of_body Tryz.func152 rfl rfl Tryz.ntmps152 Tryz.results152 (by simp) ?_)
  by_cases h : l.length ≤ 1024
  · rw [if_pos h] at c1 ⊢
    have c2 := is_nil 2
    (repeat (first | apply Wp.skip | apply Wp.exit | apply Wp.ret | apply Wp.block | apply Wp.label | ((first | refine Wp.sreg (fun K hK => ?_) | refine Wp.reg (fun K hK => ?_) | refine Wp.sdrw mixed (fun K hK => ?_) | refine Wp.drw mixed (fun K hK => ?_) | refine Wp.condG (fun K hK hF => ?_)); (repeat (revert hK; intro hK; simp (maxSteps := 2000000) (disch := omega) only [RUN, TY, RUNB, aop, ofV, SV.ofD, aIf, aXt, CV.toD0, oWn, Nat.reduceBEq, Nat.reduceLT]; (first | (refine hK _ ?_; clear hK K) | (refine ⟨by kernel_rfl, hK _ ?_⟩; clear hK K) | (refine hK ?_; clear hK hF K) | (refine hF ?_; clear hK hF K) | refine bcf (by assumption) ?_ | refine bca (by assumption) ?_))); fail_if_success (revert hK; intro hK)) | apply Wp.seq))
    simp (maxSteps := 2000000) (disch := omega) only [RUN, RUNB, rD0, bQ0, Nat.reduceBEq]
  · rw [if_neg h] at c1 ⊢
    have c2 := is_frame 2 2
    rw [show ((2 : Int) == 2) = true from rfl] at c2
    (repeat (first | apply Wp.skip | apply Wp.exit | apply Wp.ret | apply Wp.block | apply Wp.label | ((first | refine Wp.sreg (fun K hK => ?_) | refine Wp.reg (fun K hK => ?_) | refine Wp.sdrw mixed (fun K hK => ?_) | refine Wp.drw mixed (fun K hK => ?_) | refine Wp.condG (fun K hK hF => ?_)); (repeat (revert hK; intro hK; simp (maxSteps := 2000000) (disch := omega) only [RUN, TY, RUNB, aop, ofV, SV.ofD, aIf, aXt, CV.toD0, oWn, Nat.reduceBEq, Nat.reduceLT]; (first | (refine hK _ ?_; clear hK K) | (refine ⟨by kernel_rfl, hK _ ?_⟩; clear hK K) | (refine hK ?_; clear hK hF K) | (refine hF ?_; clear hK hF K) | refine bcf (by assumption) ?_ | refine bca (by assumption) ?_))); fail_if_success (revert hK; intro hK)) | apply Wp.seq))
    simp (maxSteps := 2000000) (disch := omega) only [RUN, RUNB, rD0, bQ0, tQ0, Nat.reduceBEq]
end Go.Proofs.YtepcpdionlfkhaaGreatDoor
namespace Go.Proofs.YtepcpdionlfkhaaGreatDoor
open Go Go.RowKit
set_option maxHeartbeats 8000000
set_option maxRecDepth 100000
set_option linter.unusedVariables false
set_option linter.unusedSimpArgs false
/-- The load's length of the frame with which bytes begin. -/
def frOne (r : List UInt8) : Option Nat := match r with
  | a :: b :: c :: d :: t => if un4 a b c d ≤ 1024 ∧ un4 a b c d ≤ t.length then some (un4 a b c d) else none
  | _ => none
theorem frOne_le {r : List UInt8} {n : Nat} (h : frOne r = some n) : 4 + n ≤ r.length ∧ n ≤ 1024 := by
  unfold frOne at h
  split at h
  · split at h
    · rename_i hh; cases h; simp only [List.length_cons]; omega
    · cases h
  · cases h
/-- The loads and where they end. -/
def ysF (at_ : Nat) (r : List UInt8) : List (List UInt8 × Nat) :=
  match h : frOne r with
  | none => []
  | some n => ((r.drop 4).take n, at_ + 4 + n) :: ysF (at_ + 4 + n) (r.drop (4 + n))
termination_by r.length
decreasing_by have := frOne_le h; simp only [List.length_drop]; omega
theorem ysF_none {r : List UInt8} (at_ : Nat) (h : frOne r = none) : ysF at_ r = [] := by
  rw [ysF]; split
  · rfl
  · rename_i h2; rw [h] at h2; cases h2
theorem ysF_some {r : List UInt8} {n : Nat} (at_ : Nat) (h : frOne r = some n) : ysF at_ r = ((r.drop 4).take n, at_ + 4 + n) :: ysF (at_ + 4 + n) (r.drop (4 + n)) := by
  rw [ysF]; split
  · rename_i h2; rw [h] at h2; cases h2
  · rename_i m h2; rw [h] at h2; cases h2; rfl
abbrev bytD (l : List UInt8) : D := .lst 1 (l.map byteD)
theorem frames_fun (b : List UInt8) : Fun Tryz.prog 144 [bytD b] (.fn (.func 179) [.ptr [bytD b] 0]) := by
  (refine Fun.of_body Tryz.func144 rfl rfl Tryz.ntmps144 Tryz.results144 (by simp) ?_)
  (repeat (first | apply Wp.skip | apply Wp.exit | apply Wp.ret | apply Wp.block | apply Wp.label | ((first | refine Wp.sreg (fun K hK => ?_) | refine Wp.reg (fun K hK => ?_) | refine Wp.sdrw mixed (fun K hK => ?_) | refine Wp.drw mixed (fun K hK => ?_) | refine Wp.condG (fun K hK hF => ?_)); (repeat (revert hK; intro hK; simp (maxSteps := 2000000) (disch := omega) only [RUN, RUNB, aop, ofV, SV.ofD, aMF, CV.one, D.one, oWn, Nat.reduceBEq, Nat.reduceAdd, Nat.reduceLT]; (first | (refine hK _ ?_; clear hK K) | (refine ⟨by kernel_rfl, hK _ ?_⟩; clear hK K) | (refine hK ?_; clear hK hF K) | (refine hF ?_; clear hK hF K) | refine bcf (by assumption) ?_ | refine bca (by assumption) ?_))); fail_if_success (revert hK; intro hK)) | apply Wp.seq))
  (refine Wp.weak (Weak.freeze (id := 0) (by simp (maxSteps := 2000000) (disch := omega) only [RUN]; rfl) (by simp (maxSteps := 2000000) (disch := omega) only [RUNB, CV.toD0]; rfl)) ?_)
  (repeat (first | apply Wp.skip | apply Wp.exit | apply Wp.ret | apply Wp.block | apply Wp.label | ((first | refine Wp.sreg (fun K hK => ?_) | refine Wp.reg (fun K hK => ?_) | refine Wp.sdrw mixed (fun K hK => ?_) | refine Wp.drw mixed (fun K hK => ?_) | refine Wp.condG (fun K hK hF => ?_)); (repeat (revert hK; intro hK; simp (maxSteps := 2000000) (disch := omega) only [RUN, RUNB, aop, aMF, oWn, Nat.reduceBEq, Nat.reduceAdd, Nat.reduceLT]; (first | (refine hK _ ?_; clear hK K) | (refine ⟨by kernel_rfl, hK _ ?_⟩; clear hK K) | (refine hK ?_; clear hK hF K) | (refine hF ?_; clear hK hF K) | refine bcf (by assumption) ?_ | refine bca (by assumption) ?_))); fail_if_success (revert hK; intro hK)) | apply Wp.seq))
  simp (maxSteps := 2000000) (disch := omega) only [RUN, RUNB, rD0, bQ0]
abbrev yld2 (p : List UInt8 × Nat) : List D := [bytD p.1, int (p.2 : Nat)]
theorem frames_seq (b : List UInt8) (hb : b.length ≤ 1000000) : SeqF Tryz.prog 179 [.ptr [bytD b] 0] ((ysF 0 b).map yld2) := by
  (refine SeqF.of_body Tryz.func179 rfl rfl Tryz.ntmps179 Tryz.results179 (by simp) (fun ks A cont q hL hY => ?_))
  (repeat (first | apply Wp.skip | apply Wp.exit | apply Wp.ret | apply Wp.block | apply Wp.label | ((first | refine Wp.sreg (fun K hK => ?_) | refine Wp.reg (fun K hK => ?_) | refine Wp.sdrw mixed (fun K hK => ?_) | refine Wp.drw mixed (fun K hK => ?_) | refine Wp.condG (fun K hK hF => ?_)); (repeat (revert hK; intro hK; simp (maxSteps := 2000000) (disch := omega) only [RUN, RUNB, aop, ofV, SV.ofD, Nat.reduceAdd, Nat.reduceLT]; (first | (refine hK _ ?_; clear hK K) | (refine ⟨by kernel_rfl, hK _ ?_⟩; clear hK K) | (refine hK ?_; clear hK hF K) | (refine hF ?_; clear hK hF K) | refine bcf (by assumption) ?_ | refine bca (by assumption) ?_))); fail_if_success (revert hK; intro hK)) | apply Wp.seq))
  refine Wp.loop (fun p : Nat × Nat => ⟨ofL [(0, .c (.yld 999)), (1, .c (.d (.ptr [bytD b] 0))), (3, vi .i64 p.2), (4, vi .i64 4)], ofHB (A p.1) [], 1000, 52, ⟨ks, [], false, some q⟩⟩) (fun p => p.1 ≤ (ysF 0 b).length ∧ p.2 ≤ b.length ∧ (ysF 0 b).drop p.1 = ysF p.2 (b.drop p.2) ∧ ∀ j, j < p.1 → cont j = true) (fun p => b.length - p.2) (0, 0) ⟨Nat.zero_le _, Nat.zero_le _, rfl, fun j hj => by omega⟩ ?_ ?_
  · refine Weak.keepB (A := A) hL 0 rfl rfl (baseIs_refl _) rfl ?_
    simp (maxSteps := 2000000) (disch := omega) only [RUN, RUNB, Nat.reduceBEq]
  rintro ⟨y, p⟩ ⟨hy, hp, hys, hc⟩
  simp only at hy hp hys hc
  (repeat (first | apply Wp.skip | apply Wp.exit | apply Wp.ret | apply Wp.block | apply Wp.label | ((first | refine Wp.sreg (fun K hK => ?_) | refine Wp.reg (fun K hK => ?_) | refine Wp.sdrw mixed (fun K hK => ?_) | refine Wp.drw mixed (fun K hK => ?_) | refine Wp.condG (fun K hK hF => ?_)); (repeat (revert hK; intro hK; simp (maxSteps := 2000000) (disch := omega) only [RUN, TY, RUNB, aop, aLd, aLen, aBu, CV.lenOf, Nat.reduceBEq, Nat.reduceAdd, Nat.reduceLT]; (first | (refine hK _ ?_; clear hK K) | (refine ⟨by kernel_rfl, hK _ ?_⟩; clear hK K) | (refine hK ?_; clear hK hF K) | (refine hF ?_; clear hK hF K) | refine bcf (by assumption) ?_ | refine bca (by assumption) ?_))); fail_if_success (revert hK; intro hK)) | apply Wp.seq))
  refine Wp.cond (by simp (maxSteps := 2000000) (disch := omega) only [RUN, RUNB]; rfl) (fun h => ?_) (fun h => ?_)
  · have hlt : 4 ≤ b.length - p := by simp only [decide_eq_true_eq] at h; omega
    obtain ⟨c0, c1, c2, c3, t, hr⟩ : ∃ c0 c1 c2 c3 t, b.drop p = c0 :: c1 :: c2 :: c3 :: t := by
      have : (b.drop p).length = b.length - p := by simp
      match hd : b.drop p with
      | [] => rw [hd] at this; simp at this; omega
      | [_] => rw [hd] at this; simp at this; omega
      | [_, _] => rw [hd] at this; simp at this; omega
      | [_, _, _] => rw [hd] at this; simp at this; omega
      | a :: b :: c :: d :: t => exact ⟨a, b, c, d, t, rfl⟩
    have k1 := load_fun c0 c1 c2 c3
    obtain ⟨m, hm⟩ : ∃ m, un4 c0 c1 c2 c3 = m := ⟨_, rfl⟩
    rw [hm] at k1
    (repeat (first | apply Wp.skip | apply Wp.exit | apply Wp.ret | apply Wp.block | apply Wp.label | ((first | refine Wp.sreg (fun K hK => ?_) | refine Wp.reg (fun K hK => ?_) | refine Wp.sdrw mixed (fun K hK => ?_) | refine Wp.drw mixed (fun K hK => ?_) | refine Wp.condG (fun K hK hF => ?_)); (repeat (revert hK; intro hK; simp (maxSteps := 2000000) (disch := omega) only [RUN, TY, RUNB, aop, aLd, aSl, CV.exact, CV.lstOf, Nat.reduceBEq, Nat.reduceAdd, Nat.reduceLT]; (first | (refine hK _ ?_; clear hK K) | (refine ⟨by kernel_rfl, hK _ ?_⟩; clear hK K) | (refine hK ?_; clear hK hF K) | (refine hF ?_; clear hK hF K) | refine bcf (by assumption) ?_ | refine bca (by assumption) ?_))); fail_if_success (revert hK; intro hK)) | apply Wp.seq))
    have hp4 : p + 4 ≤ b.length := by omega
    have f1 : ((0 : Int) ≤ (p : Int) + 4) = True := by simp; omega
    have f2 : ((p : Int) + 4).toNat = p + 4 := by omega
    have f3 : (p ≤ p + 4 ∧ p + 4 ≤ b.length) = True := by simp; omega
    have f4 : List.take (p + 4 - p) (List.drop p (List.map byteD b)) = [byteD c0, byteD c1, byteD c2, byteD c3] := by
      rw [← List.map_drop, hr, show p + 4 - p = 4 by omega]; rfl
    (first | refine Wp.sregG ?_ | refine Wp.regG ?_ | (refine Wp.seq ?_; first | refine Wp.sregG ?_ | refine Wp.regG ?_))
    (refine GRun.at 9 (fun K hK => ?_); simp (maxSteps := 2000000) (disch := omega) only [RUN, TY, RUNB, aop, aLd, aSl, CV.exact, CV.lstOf, Nat.reduceBEq, Nat.reduceAdd, Nat.reduceLT, f1, f2, f3, f4]; refine hK _ ?_; clear hK K)
    refine GRun.arrOf [u8V c0, u8V c1, u8V c2, u8V c3] (.full 1 [byteD c0, byteD c1, byteD c2, byteD c3]) [byteD c0, byteD c1, byteD c2, byteD c3] rfl len_ty (by omega) rfl rfl ⟨by kernel_rfl, by kernel_rfl, ?_, rfl⟩ ?_
    · simp (maxSteps := 2000000) (disch := omega) only [RUN, RUNB]
    (refine GRun.at 1 (fun K hK => ?_); simp (maxSteps := 2000000) (disch := omega) only [RUN, TY, RUNB, aop, aLd, Nat.reduceAdd, Nat.reduceLT]; refine hK _ ?_; clear hK K)
    refine GRun.done (fun K hK => ?_); simp (maxSteps := 2000000) (disch := omega) only [RUN, RUNB, CV.toD0, oWn]; refine bcf k1 ?_; simp (maxSteps := 2000000) (disch := omega) only [RUN, RUNB, aop, SV.ofD, Nat.reduceAdd, Nat.reduceLT]; refine hK _ ?_; clear hK K
    clear k1 f1 f2 f3 f4
    have k2 := Size_fun (m : Int)
    have hstop : frOne (b.drop p) = none → stopsAt cont ((ysF 0 b).map yld2).length y := fun h => by
      rw [ysF_none p h] at hys
      have : (ysF 0 b).length ≤ y := by simpa using hys
      exact ⟨by simp; omega, fun j hj => hc j (by omega), .inl ⟨by simp; omega, hc⟩⟩
    have hlen4 : b.length - p = t.length + 4 := by have := congrArg List.length hr; simpa using this
    have hfr : frOne (b.drop p) = if m ≤ 1024 ∧ m ≤ t.length then some m else none := by rw [hr]; simp only [frOne, hm]
    clear hlt
    by_cases h1 : m ≤ 1024
    · have e1 : sizeF m = 4 + m := if_neg (by omega)
      have e2 : ((4 : Int) + (m : Int) == 0) = false := by simp; omega
      rw [e1] at k2
      by_cases h2 : m ≤ t.length
      · rw [if_pos ⟨h1, h2⟩] at hfr
        have d1 : decide ((b.length : Int) - (p : Int) < 4 + (m : Int)) = false := decide_eq_false (by omega)
        rw [ysF_some p hfr] at hys
        have hyl : y < (ysF 0 b).length := by
          rcases Nat.lt_or_ge y (ysF 0 b).length with h | h
          · exact h
          · rw [List.drop_eq_nil_of_le h] at hys; cases hys
        have hgy : (ysF 0 b)[y] = (((b.drop p).drop 4).take m, p + 4 + m) := by
          rw [List.drop_eq_getElem_cons hyl] at hys
          exact (List.cons.inj hys).1
        have hnext : (ysF 0 b).drop (y + 1) = ysF (p + 4 + m) (b.drop (p + 4 + m)) := by
          rw [List.drop_eq_getElem_cons hyl] at hys
          rw [(List.cons.inj hys).2, List.drop_drop, show p + (4 + m) = p + 4 + m by omega]
        have hYy := hY y (by simpa using hyl) hc
        simp only [List.getElem_map, hgy] at hYy
        have f7 : ((p + 4 + m : Nat) : Int) = (p : Int) + 4 + (m : Int) := by omega
        rw [show yld2 (((b.drop p).drop 4).take m, p + 4 + m) = [D.lst 1 ((((b.drop p).drop 4).take m).map byteD), int ((p : Int) + 4 + (m : Int))] by rw [← f7]] at hYy
        have hp5 : p + 4 + m ≤ b.length := by omega
        have f1 : ((0 : Int) ≤ (p : Int) + 4) = True := by simp; omega
        have f2 : ((p : Int) + 4).toNat = p + 4 := by omega
        have f3 : (p + 4 ≤ p + 4 + m ∧ p + 4 + m ≤ b.length) = True := by simp; omega
        have f4 : ((0 : Int) ≤ (p : Int) + 4 + (m : Int)) = True := by simp; omega
        have f5 : ((p : Int) + 4 + (m : Int)).toNat = p + 4 + m := by omega
        have f6 : List.take (p + 4 + m - (p + 4)) (List.drop (p + 4) (List.map byteD b)) = (((b.drop p).drop 4).take m).map byteD := by
          rw [List.drop_drop, ← List.map_drop, ← List.map_take, show p + 4 + m - (p + 4) = m by omega]
        (repeat (first | apply Wp.skip | apply Wp.exit | apply Wp.ret | apply Wp.block | apply Wp.label | ((first | refine Wp.sreg (fun K hK => ?_) | refine Wp.reg (fun K hK => ?_) | refine Wp.sdrw mixed (fun K hK => ?_) | refine Wp.drw mixed (fun K hK => ?_) | refine Wp.condG (fun K hK hF => ?_)); (repeat (revert hK; intro hK; simp (maxSteps := 2000000) (disch := omega) only [RUN, TY, RUNB, aop, ofV, SV.ofD, aLd, aLen, aSl, aBu, CV.exact, CV.lstOf, CV.lenOf, oWn, Nat.reduceBEq, Nat.reduceAdd, Nat.reduceLT, e2, d1]; (first | (refine hK _ ?_; clear hK K) | (refine ⟨by kernel_rfl, hK _ ?_⟩; clear hK K) | (refine hK ?_; clear hK hF K) | (refine hF ?_; clear hK hF K) | refine bcf (by assumption) ?_ | refine bca (by assumption) ?_))); fail_if_success (revert hK; intro hK)) | apply Wp.seq))
        ((first | refine Wp.regY 7 rfl (fun K hK => ?_) | (refine Wp.seq ?_; refine Wp.regY 7 rfl (fun K hK => ?_))); simp (maxSteps := 2000000) (disch := omega) only [RUN, TY, RUNB, aop, aLd, aSl, CV.exact, CV.lstOf, Nat.reduceBEq, Nat.reduceAdd, Nat.reduceLT, f1, f2, f3, f4, f5, f6]; refine hK _ ?_; clear hK K; refine YAt.of hL rfl rfl rfl rfl hYy (by ((repeat refine (baseIs_upd (by omega)).2 ?_); first | exact baseIs_refl _ | exact baseIs_ofHB rfl)) (by simp (maxSteps := 2000000) (disch := omega) only [Nat.reduceLT]) (by simp (maxSteps := 2000000) (disch := omega) only [RUN, RUNB, Nat.reduceBEq]) (by simp (maxSteps := 2000000) (disch := omega) only [RUN, RUNB, Nat.reduceBEq]) ?_; simp (maxSteps := 2000000) (disch := omega) only [RUN, RUNB, aop, CV.exact, tQ0, Nat.reduceAdd, hL.rb])
        refine Wp.cond (by simp (maxSteps := 2000000) (disch := omega) only [RUN, RUNB]; rfl) (fun h => ?_) (fun h => ?_)
        · have hcy : cont y = false := by simpa using h
          (repeat (first | apply Wp.skip | apply Wp.exit | apply Wp.ret | apply Wp.block | apply Wp.label | ((first | refine Wp.sreg (fun K hK => ?_) | refine Wp.reg (fun K hK => ?_) | refine Wp.sdrw mixed (fun K hK => ?_) | refine Wp.drw mixed (fun K hK => ?_) | refine Wp.condG (fun K hK hF => ?_)); (repeat (revert hK; intro hK; simp (maxSteps := 2000000) (disch := omega) only [RUN, TY, RUNB, aop, ofV, SV.ofD, aLd, aSt, aFd, aPt, aLen, aSl, aIf, aMF, aXt, aBu, aCX, aCL, aCy, CV.exact, CV.lstOf, CV.lenOf, CV.one, D.one, Value.oneCell', CV.toD0, iFl, oWn, pLk, nD0, rD0, bQ0, tQ0, kQ0, reduceCtorEq, reduceIte, Nat.reduceBEq, Nat.reduceEqDiff, Nat.reduceAdd, Nat.reduceMul, Nat.reduceSub, Nat.reduceLT, Nat.reduceLeDiff, Nat.reduceBNe, Int.reduceLE, Int.reduceLT, Int.reduceBEq, Int.reduceBNe, Int.reduceEq, Int.reduceNeg, Int.reduceAdd, Int.reduceSub, Int.reduceToNat, forall_const]; (first | (refine hK _ ?_; clear hK K) | (refine ⟨by kernel_rfl, hK _ ?_⟩; clear hK K) | (refine hK ?_; clear hK hF K) | (refine hF ?_; clear hK hF K) | refine bcf (by assumption) ?_ | refine bca (by assumption) ?_))); fail_if_success (revert hK; intro hK)) | apply Wp.seq))
          refine ⟨rfl, y + 1, ⟨by omega, fun j hj => hc j (by omega), .inr ⟨by omega, hcy⟩⟩, ?_⟩
          simp (maxSteps := 2000000) (disch := omega) only []
          exact baseIs_refl _
        · have hcy : cont y = true := by simpa using h
          (repeat (first | apply Wp.skip | apply Wp.exit | apply Wp.ret | apply Wp.block | apply Wp.label | ((first | refine Wp.sreg (fun K hK => ?_) | refine Wp.reg (fun K hK => ?_) | refine Wp.sdrw mixed (fun K hK => ?_) | refine Wp.drw mixed (fun K hK => ?_) | refine Wp.condG (fun K hK hF => ?_)); (repeat (revert hK; intro hK; simp (maxSteps := 2000000) (disch := omega) only [RUN, TY, RUNB, aop, ofV, SV.ofD, aLd, aSt, aFd, aPt, aLen, aSl, aIf, aMF, aXt, aBu, aCX, aCL, aCy, CV.exact, CV.lstOf, CV.lenOf, CV.one, D.one, Value.oneCell', CV.toD0, iFl, oWn, pLk, nD0, rD0, bQ0, tQ0, kQ0, reduceCtorEq, reduceIte, Nat.reduceBEq, Nat.reduceEqDiff, Nat.reduceAdd, Nat.reduceMul, Nat.reduceSub, Nat.reduceLT, Nat.reduceLeDiff, Nat.reduceBNe, Int.reduceLE, Int.reduceLT, Int.reduceBEq, Int.reduceBNe, Int.reduceEq, Int.reduceNeg, Int.reduceAdd, Int.reduceSub, Int.reduceToNat, forall_const]; (first | (refine hK _ ?_; clear hK K) | (refine ⟨by kernel_rfl, hK _ ?_⟩; clear hK K) | (refine hK ?_; clear hK hF K) | (refine hF ?_; clear hK hF K) | refine bcf (by assumption) ?_ | refine bca (by assumption) ?_))); fail_if_success (revert hK; intro hK)) | apply Wp.seq))
          refine ⟨(y + 1, p + 4 + m), ⟨hyl, hp5, hnext, fun j hj => ?_⟩, (show b.length - (p + 4 + m) < b.length - p by omega), ?_⟩
          · rcases Nat.lt_or_ge j y with h1 | h1
            · exact hc j h1
            · obtain rfl : j = y := by omega
              exact hcy
          refine Weak.keepB (A := A) (L := [(0, .c (.yld 999)), (1, .c (.d (.ptr [bytD b] 0))), (3, vi .i64 (p + 4 + m : Nat)), (4, vi .i64 4)]) (M := []) (fx := ⟨ks, [], false, some q⟩) hL (y + 1) rfl rfl (baseIs_refl _) rfl ?_
          simp (maxSteps := 2000000) (disch := omega) only [RUN, RUNB, Nat.reduceBEq, f7]
      · rw [if_neg (by omega)] at hfr
        have d1 : decide ((b.length : Int) - (p : Int) < 4 + (m : Int)) = true := decide_eq_true (by omega)
        (repeat (first | apply Wp.skip | apply Wp.exit | apply Wp.ret | apply Wp.block | apply Wp.label | ((first | refine Wp.sreg (fun K hK => ?_) | refine Wp.reg (fun K hK => ?_) | refine Wp.sdrw mixed (fun K hK => ?_) | refine Wp.drw mixed (fun K hK => ?_) | refine Wp.condG (fun K hK hF => ?_)); (repeat (revert hK; intro hK; simp (maxSteps := 2000000) (disch := omega) only [RUN, TY, RUNB, aop, ofV, SV.ofD, aLd, aLen, aBu, CV.exact, CV.lenOf, oWn, Nat.reduceBEq, Nat.reduceAdd, Nat.reduceLT, e2, d1]; (first | (refine hK _ ?_; clear hK K) | (refine ⟨by kernel_rfl, hK _ ?_⟩; clear hK K) | (refine hK ?_; clear hK hF K) | (refine hF ?_; clear hK hF K) | refine bcf (by assumption) ?_ | refine bca (by assumption) ?_))); fail_if_success (revert hK; intro hK)) | apply Wp.seq))
        refine ⟨rfl, y, hstop hfr, ?_⟩
        simp (maxSteps := 2000000) (disch := omega) only []
        exact baseIs_refl _
    · have e1 : sizeF m = 0 := if_pos (by omega)
      rw [e1] at k2
      rw [if_neg (by omega)] at hfr
      (repeat (first | apply Wp.skip | apply Wp.exit | apply Wp.ret | apply Wp.block | apply Wp.label | ((first | refine Wp.sreg (fun K hK => ?_) | refine Wp.reg (fun K hK => ?_) | refine Wp.sdrw mixed (fun K hK => ?_) | refine Wp.drw mixed (fun K hK => ?_) | refine Wp.condG (fun K hK hF => ?_)); (repeat (revert hK; intro hK; simp (maxSteps := 2000000) (disch := omega) only [RUN, RUNB, aop, ofV, SV.ofD, CV.exact, oWn, Nat.reduceBEq, Nat.reduceAdd, Nat.reduceLT]; (first | (refine hK _ ?_; clear hK K) | (refine ⟨by kernel_rfl, hK _ ?_⟩; clear hK K) | (refine hK ?_; clear hK hF K) | (refine hF ?_; clear hK hF K) | refine bcf (by assumption) ?_ | refine bca (by assumption) ?_))); fail_if_success (revert hK; intro hK)) | apply Wp.seq))
      refine ⟨rfl, y, hstop hfr, ?_⟩
      simp (maxSteps := 2000000) (disch := omega) only []
      exact baseIs_refl _
  · have hge : ¬ 4 ≤ b.length - p := by simp only [decide_eq_false_iff_not] at h; omega
    have hno : frOne (b.drop p) = none := by
      have hl : (b.drop p).length < 4 := by simp; omega
      cases hf : frOne (b.drop p) with
      | none => rfl
      | some n => have := frOne_le hf; omega
    rw [ysF_none p hno] at hys
    have : (ysF 0 b).length ≤ y := by simpa using hys
    (repeat (first | apply Wp.skip | apply Wp.exit | apply Wp.ret | apply Wp.block | apply Wp.label | ((first | refine Wp.sreg (fun K hK => ?_) | refine Wp.reg (fun K hK => ?_) | refine Wp.sdrw mixed (fun K hK => ?_) | refine Wp.drw mixed (fun K hK => ?_) | refine Wp.condG (fun K hK hF => ?_)); (repeat (revert hK; intro hK; simp (maxSteps := 2000000) (disch := omega) only [RUN, TY, RUNB, aop, ofV, SV.ofD, aLd, aSt, aFd, aPt, aLen, aSl, aIf, aMF, aXt, aBu, aCX, aCL, aCy, CV.exact, CV.lstOf, CV.lenOf, CV.one, D.one, Value.oneCell', CV.toD0, iFl, oWn, pLk, nD0, rD0, bQ0, tQ0, kQ0, reduceCtorEq, reduceIte, Nat.reduceBEq, Nat.reduceEqDiff, Nat.reduceAdd, Nat.reduceMul, Nat.reduceSub, Nat.reduceLT, Nat.reduceLeDiff, Nat.reduceBNe, Int.reduceLE, Int.reduceLT, Int.reduceBEq, Int.reduceBNe, Int.reduceEq, Int.reduceNeg, Int.reduceAdd, Int.reduceSub, Int.reduceToNat, forall_const]; (first | (refine hK _ ?_; clear hK K) | (refine ⟨by kernel_rfl, hK _ ?_⟩; clear hK K) | (refine hK ?_; clear hK hF K) | (refine hF ?_; clear hK hF K) | refine bcf (by assumption) ?_ | refine bca (by assumption) ?_))); fail_if_success (revert hK; intro hK)) | apply Wp.seq))
    refine ⟨rfl, y, ⟨by simp; omega, fun j hj => hc j (by omega), .inl ⟨by simp; omega, hc⟩⟩, ?_⟩
    simp (maxSteps := 2000000) (disch := omega) only []
    exact baseIs_refl _
end Go.Proofs.YtepcpdionlfkhaaGreatDoor
namespace Go.Proofs.YtepcpdionlfkhaaGreatDoor
open Go Go.RowKit
set_option maxHeartbeats 8000000
set_option maxRecDepth 100000
set_option linter.unusedVariables false
set_option linter.unusedSimpArgs false
theorem ysF_len (at_ : Nat) (r : List UInt8) : (ysF at_ r).length ≤ r.length := by
  cases h : frOne r with
  | none => rw [ysF_none at_ h]; simp
  | some n =>
    have h1 := frOne_le h
    rw [ysF_some at_ h]
    have := ysF_len (at_ + 4 + n) (r.drop (4 + n))
    simp only [List.length_cons, List.length_drop] at this ⊢
    omega
termination_by r.length
decreasing_by simp only [List.length_drop]; omega
theorem ysF_end (at_ : Nat) (r : List UInt8) : ∀ p ∈ ysF at_ r, p.2 ≤ at_ + r.length ∧ p.1.length ≤ 1024 := by
  cases h : frOne r with
  | none => rw [ysF_none at_ h]; simp
  | some n =>
    have h1 := frOne_le h
    rw [ysF_some at_ h]
    have ih := ysF_end (at_ + 4 + n) (r.drop (4 + n))
    intro p hp
    rcases List.mem_cons.1 hp with rfl | hp
    · simp only [List.length_take, List.length_drop]; omega
    · have := ih p hp
      simp only [List.length_drop] at this
      omega
termination_by r.length
decreasing_by simp only [List.length_drop]; omega
/-- What is torn behind the first frames. -/
def tornY (b : List UInt8) (ys : List (List UInt8 × Nat)) : Int := match ys.getLast? with
  | none => b.length
  | some p => (b.length : Int) - (p.2 : Int)
theorem tornY_last (b : List UInt8) (l : List (List UInt8 × Nat)) (r : List UInt8 × Nat) : tornY b (l ++ [r]) = (b.length : Int) - (r.2 : Int) := by simp [tornY]
def lodF (b : List UInt8) : List (List UInt8) := (ysF 0 b).map (·.1)
def tornF (b : List UInt8) : Int := tornY b (ysF 0 b)
abbrev strsD (l : List (List UInt8)) : D := .lst 1 (l.map fun x => [str x])
abbrev alS (b : List UInt8) (ys : List (List UInt8 × Nat)) : List (Nat × HE) := [(0, .cells [.d (str b)]), (1, .cells [.app 3 1 ((ys.map (·.1)).map fun x => [str x])]), (2, .cells [.d (int (tornY b ys))]), (3, .row 9 1 ys.length)]
theorem All_fun (b : List UInt8) (hb : b.length ≤ 1000000) : Fun Tryz.prog 81 [str b] (.tup [strsD (lodF b), int (tornF b)]) := by
  have hs := frames_seq b hb
  have c1 := frames_fun b
  have hyl := ysF_len 0 b
  have hye := ysF_end 0 b
  (refine Fun.of_body Tryz.func81 rfl rfl Tryz.ntmps81 Tryz.results81 (by simp) ?_)
  (repeat (first | apply Wp.skip | apply Wp.exit | apply Wp.ret | apply Wp.block | apply Wp.label | ((first | refine Wp.sreg (fun K hK => ?_) | refine Wp.reg (fun K hK => ?_) | refine Wp.sdrw mixed (fun K hK => ?_) | refine Wp.drw mixed (fun K hK => ?_) | refine Wp.condG (fun K hK hF => ?_)); (repeat (revert hK; intro hK; simp (maxSteps := 2000000) (disch := omega) only [RUN, TY, RUNB, aop, SV.ofD, aLd, aSt, aLen, aBu, aCX, CV.exact, CV.one, D.one, Value.oneCell', oWn, Nat.reduceBEq, Nat.reduceAdd, Nat.reduceLT, bs_toList]; (first | (refine hK _ ?_; clear hK K) | (refine ⟨by kernel_rfl, hK _ ?_⟩; clear hK K) | (refine hK ?_; clear hK hF K) | (refine hF ?_; clear hK hF K) | refine bcf (by assumption) ?_ | refine bca (by assumption) ?_))); fail_if_success (revert hK; intro hK)) | apply Wp.seq))
  refine Wp.weak (show Weak _ (⟨ofL [(1, .c (.own 0 0)), (2, .c (.own 1 0)), (3, .c (.own 2 0)), (10, .c (.d (.fn (.func 179) [.ptr [bytD b] 0])))], ofH (alS b []), 4, 24, 0⟩ : St) from ?_) ?_
  · refine Weak.trans (Weak.nilAppCell (id := 1) (k := 0) (τ := 3) 9 1 (by decide) (by simp (maxSteps := 2000000) (disch := omega) only [RUN, Nat.reduceBEq]) (by simp (maxSteps := 2000000) (disch := omega) only [RUN, Nat.reduceBEq]; rfl) (by simp (maxSteps := 2000000) (disch := omega) only [RUN])) (Weak.keep rfl rfl ?_)
    simp (maxSteps := 2000000) (disch := omega) only [RUN, RUNB, Nat.reduceBEq, tornY, List.getLast?_nil, List.set_cons_zero]
  obtain ⟨ys, hys⟩ : ∃ ys, ys = ysF 0 b := ⟨_, rfl⟩
  rw [← hys] at hs hyl hye
  have hys2 : lodF b = ys.map (·.1) := by rw [hys]; rfl
  have hys3 : tornF b = tornY b ys := by rw [hys]; rfl
  rw [hys2, hys3]
  clear hys hys2 hys3
  refine Wp.rangeFunc (xs := ys.map yld2) rfl rfl hs 500 (fun i => alS b (ys.take i)) [0, 1, 2, 3] (fun i => true) (fun _ => .exit 0) rfl (fun _ => rfl) rfl (fun _ => rfl) rfl (fun i id h => by cases h) rfl (fun x hx => by obtain ⟨r, _, rfl⟩ := List.mem_map.1 hx; rfl) ?_ ?_ ?_
  · intro i hi hc o1
    have hi' : i < ys.length := by simpa using hi
    have hg : ys[i]? = some ys[i] := List.getElem?_eq_getElem hi'
    have htk := take_succ_get ys i hi'
    simp only [List.getElem_map]
    have hlast := tornY_last b (ys.take i) ys[i]
    have hre := (hye _ (List.getElem_mem hi')).1
    generalize ys[i] = r at *
    have hlt : (ys.take i).length = i := by rw [List.length_take]; omega
    have hbb : (i + 1) * 16 ≤ 140737488355328 := by omega
    (repeat (first | apply Wp.skip | apply Wp.exit | apply Wp.ret | apply Wp.block | apply Wp.label | ((first | refine Wp.sreg (fun K hK => ?_) | refine Wp.reg (fun K hK => ?_) | refine Wp.sdrw mixed (fun K hK => ?_) | refine Wp.drw mixed (fun K hK => ?_) | refine Wp.condG (fun K hK hF => ?_)); (repeat (revert hK; intro hK; simp (maxSteps := 2000000) (disch := omega) only [RUN, RUNB, aop, SV.ofD, Nat.reduceBEq, Nat.reduceAdd, Nat.reduceLT, alS, hlt]; (first | (refine hK _ ?_; clear hK K) | (refine ⟨by kernel_rfl, hK _ ?_⟩; clear hK K) | (refine hK ?_; clear hK hF K) | (refine hF ?_; clear hK hF K) | refine bcf (by assumption) ?_ | refine bca (by assumption) ?_))); fail_if_success (revert hK; intro hK)) | apply Wp.seq))
    refine ⟨rfl, by simp (maxSteps := 2000000) (disch := omega) only [RUN, Nat.reduceBEq], rfl, fun o2 => ?_⟩
    (repeat (first | apply Wp.skip | apply Wp.exit | apply Wp.ret | apply Wp.block | apply Wp.label | ((first | refine Wp.sreg (fun K hK => ?_) | refine Wp.reg (fun K hK => ?_) | refine Wp.sdrw mixed (fun K hK => ?_) | refine Wp.drw mixed (fun K hK => ?_) | refine Wp.condG (fun K hK hF => ?_)); (repeat (revert hK; intro hK; simp (maxSteps := 2000000) (disch := omega) only [RUN, TY, RUNB, aop, aLd, aSt, aLen, aBu, aCL, CV.exact, CV.lstOf, CV.one, D.one, Value.oneCell', CV.toD0, Nat.reduceBEq, Nat.reduceAdd, Nat.reduceMul, Nat.reduceLT, Nat.reduceLeDiff, hlt, hbb]; (first | (refine hK _ ?_; clear hK K) | (refine ⟨by kernel_rfl, hK _ ?_⟩; clear hK K) | (refine hK ?_; clear hK hF K) | (refine hF ?_; clear hK hF K) | refine bcf (by assumption) ?_ | refine bca (by assumption) ?_))); fail_if_success (revert hK; intro hK)) | apply Wp.seq))
    refine ⟨Weak.keep rfl rfl ?_, .inl ⟨rfl, rfl⟩⟩
    simp (maxSteps := 2000000) (disch := omega) only [RUN, RUNB, Nat.reduceBEq, alS, htk, hlast, hlt, List.map_append, List.length_append]
  · intro i hi hc hn; cases hn
  · intro hc
    (repeat (first | apply Wp.skip | apply Wp.exit | apply Wp.ret | apply Wp.block | apply Wp.label | ((first | refine Wp.sreg (fun K hK => ?_) | refine Wp.reg (fun K hK => ?_) | refine Wp.sdrw mixed (fun K hK => ?_) | refine Wp.drw mixed (fun K hK => ?_) | refine Wp.condG (fun K hK hF => ?_)); (repeat (revert hK; intro hK; simp (maxSteps := 2000000) (disch := omega) only [RUN, TY, RUNB, aop, aLd, aSt, CV.one, D.one, Value.oneCell', Nat.reduceBEq, Nat.reduceAdd, Nat.reduceLT, alS]; (first | (refine hK _ ?_; clear hK K) | (refine ⟨by kernel_rfl, hK _ ?_⟩; clear hK K) | (refine hK ?_; clear hK hF K) | (refine hF ?_; clear hK hF K) | refine bcf (by assumption) ?_ | refine bca (by assumption) ?_))); fail_if_success (revert hK; intro hK)) | apply Wp.seq))
    simp (maxSteps := 2000000) (disch := omega) only [RUN, TY, RUNB, aLd, rD0, bQ0, Nat.reduceBEq, List.take_of_length_le (Nat.le_refl _)]
end Go.Proofs.YtepcpdionlfkhaaGreatDoor
