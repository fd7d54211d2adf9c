/- The document's frames: First, All, Bytes. -/
import Derived.Test.YtepcpdionlfkhaaGreatDoorFlI
import Derived.Test.YtepcpdionlfkhaaGreatDoorDkU
namespace Go.Proofs.YtepcpdionlfkhaaGreatDoor
open Go Go.RowKit
set_option maxHeartbeats 8000000
set_option maxRecDepth 100000
set_option linter.unusedVariables false
set_option linter.unusedSimpArgs false
theorem shlB (b : UInt8) (k : Nat) (hk : k ≤ 24) : IntKind.i64.wrap ((b.toNat : Int) * 2 ^ min k IntKind.i64.bits) = ((b.toNat * 2 ^ k : Nat) : Int) := shl_nat b k hk
def firstV (r : List UInt8) : D := match frOne r with
  | some n => .tup [str ((r.drop 4).take n), int (4 + n : Nat), boo true]
  | none => .tup [str [], int 0, boo false]
theorem refFirst_fun (r : List UInt8) (hl : r.length ≤ 1000000) : Fun Tryz.prog 154 [str r] (firstV r) := by
  (refine Fun.of_body Tryz.func154 rfl rfl Tryz.ntmps154 Tryz.results154 (by simp) ?_)
  by_cases h4 : r.length < 4
  · have d0 : decide ((r.length : Int) < 4) = true := decide_eq_true (by omega)
    have hno : frOne r = none := by
      cases hf : frOne r with
      | none => rfl
      | some n => have := frOne_le hf; omega
    (repeat (first | apply Wp.skip | apply Wp.exit | apply Wp.ret | apply Wp.block | apply Wp.label | ((first | refine Wp.sreg (fun K hK => ?_) | refine Wp.reg (fun K hK => ?_) | refine Wp.sdrw mixed (fun K hK => ?_) | refine Wp.drw mixed (fun K hK => ?_) | refine Wp.condG (fun K hK hF => ?_)); (repeat (revert hK; intro hK; simp (maxSteps := 2000000) (disch := omega) only [RUN, TY, RUNB, aop, ofV, SV.ofD, aLen, aBu, Nat.reduceBEq, Nat.reduceLT, d0]; (first | (refine hK _ ?_; clear hK K) | (refine ⟨by kernel_rfl, hK _ ?_⟩; clear hK K) | (refine hK ?_; clear hK hF K) | (refine hF ?_; clear hK hF K) | refine bcf (by assumption) ?_ | refine bca (by assumption) ?_))); fail_if_success (revert hK; intro hK)) | apply Wp.seq))
    simp (maxSteps := 2000000) (disch := omega) only [RUN, RUNB, rD0, bQ0, tQ0, Nat.reduceBEq, firstV, hno]
  · obtain ⟨a, b, c, d, t, hr⟩ : ∃ a b c d t, r = a :: b :: c :: d :: t := by
      match r, h4 with
      | [], h => exact absurd (by simp) h
      | [_], h => exact absurd (by simp) h
      | [_, _], h => exact absurd (by simp) h
      | [_, _, _], h => exact absurd (by simp) h
      | a :: b :: c :: d :: t, _ => exact ⟨a, b, c, d, t, rfl⟩
    have ba : a.toNat < 256 := a.toNat_lt
    have bb : b.toNat < 256 := b.toNat_lt
    have bc : c.toNat < 256 := c.toNat_lt
    have bd : d.toNat < 256 := d.toNat_lt
    have wa := wrapB a
    have wb := wrapB b
    have wc := wrapB c
    have wd := wrapB d
    have w1 := shlB b 8 (by omega)
    have w2 := shlB c 16 (by omega)
    have w3 := shlB d 24 (by omega)
    obtain ⟨n, hn⟩ : ∃ n, un4 a b c d = n := ⟨_, rfl⟩
    have d0 : decide ((r.length : Int) < 4) = false := decide_eq_false (by omega)
    have i0 : sc Tryz.prog (Instr.index 9 (.string ⟨r.toArray⟩) (.int .i64 0)) = some (Res.pure (vi .u8 a.toNat)) := by subst hr; exact idx_str (ix := 0) Tryz.underlying9 (by simp)
    have i1 : sc Tryz.prog (Instr.index 9 (.string ⟨r.toArray⟩) (.int .i64 1)) = some (Res.pure (vi .u8 b.toNat)) := by subst hr; exact idx_str (ix := 1) Tryz.underlying9 (by simp)
    have i2 : sc Tryz.prog (Instr.index 9 (.string ⟨r.toArray⟩) (.int .i64 2)) = some (Res.pure (vi .u8 c.toNat)) := by subst hr; exact idx_str (ix := 2) Tryz.underlying9 (by simp)
    have i3 : sc Tryz.prog (Instr.index 9 (.string ⟨r.toArray⟩) (.int .i64 3)) = some (Res.pure (vi .u8 d.toNat)) := by subst hr; exact idx_str (ix := 3) Tryz.underlying9 (by simp)
    (repeat (first | apply Wp.skip | apply Wp.exit | apply Wp.ret | apply Wp.block | apply Wp.label | ((first | refine Wp.sreg (fun K hK => ?_) | refine Wp.reg (fun K hK => ?_) | refine Wp.sdrw mixed (fun K hK => ?_) | refine Wp.drw mixed (fun K hK => ?_) | refine Wp.condG (fun K hK hF => ?_)); (repeat (revert hK; intro hK; simp (maxSteps := 2000000) (disch := omega) only [RUN, TY, RUNB, aop, ofV, SV.ofD, aLen, aBu, CV.exact, Nat.reduceBEq, Nat.reduceLT, d0]; (first | (refine hK _ ?_; clear hK K) | (refine ⟨by kernel_rfl, hK _ ?_⟩; clear hK K) | (refine hK ?_; clear hK hF K) | (refine hF ?_; clear hK hF K) | refine bcf (by assumption) ?_ | refine bca (by assumption) ?_))); fail_if_success (revert hK; intro hK)) | apply Wp.seq))
    (first | refine Wp.stoD 5 (vi .i64 (n : Nat)) mixed ?_ ?_ | refine Wp.rtoDS 5 (vi .i64 (n : Nat)) mixed ?_ ?_ | (refine Wp.seq ?_; first | refine Wp.stoD 5 (vi .i64 (n : Nat)) mixed ?_ ?_ | refine Wp.rtoDS 5 (vi .i64 (n : Nat)) mixed ?_ ?_))
    · simp (maxSteps := 2000000) (disch := omega) only [RUN, TY, RUNB, aop, ofV, SV.ofD, aCX, CV.exact, Nat.reduceBEq, Nat.reduceLT, Int.reduceToNat, bin_shl, sc_conv, wa, wb, wc, wd, w1, w2, w3, i0, i1, i2, i3]
      have e : (a.toNat : Int) + ((b.toNat * 2 ^ 8 : Nat) : Int) + ((c.toNat * 2 ^ 16 : Nat) : Int) + ((d.toNat * 2 ^ 24 : Nat) : Int) = (n : Int) := by rw [← hn]; simp only [un4]; omega
      rw [e]
      exact ⟨by kernel_rfl, rfl⟩
    clear i0 i1 i2 i3 w1 w2 w3 wa wb wc wd
    have hlr : r.length = t.length + 4 := by rw [hr]; simp
    have hfr : frOne r = if n ≤ 1024 ∧ n ≤ t.length then some n else none := by rw [hr]; simp only [frOne, hn]
    clear hr hn
    by_cases h1 : n ≤ 1024
    · have d1 : decide ((1024 : Int) < (n : Int)) = false := decide_eq_false (by omega)
      by_cases h2 : n ≤ t.length
      · have d2 : decide ((r.length : Int) - 4 < (n : Int)) = false := decide_eq_false (by omega)
        rw [if_pos ⟨h1, h2⟩] at hfr
        have f1 : ((0 : Int) ≤ 4 + (n : Int)) = True := by simp; omega
        have f2 : ((4 : Int) + (n : Int)).toNat = 4 + n := by omega
        have f3 : (4 ≤ 4 + n ∧ 4 + n ≤ r.length) = True := by simp; omega
        have f4 : 4 + n - 4 = n := by omega
        (repeat (first | apply Wp.skip | apply Wp.exit | apply Wp.ret | apply Wp.block | apply Wp.label | ((first | refine Wp.sreg (fun K hK => ?_) | refine Wp.reg (fun K hK => ?_) | refine Wp.sdrw mixed (fun K hK => ?_) | refine Wp.drw mixed (fun K hK => ?_) | refine Wp.condG (fun K hK hF => ?_)); (repeat (revert hK; intro hK; simp (maxSteps := 2000000) (disch := omega) only [RUN, TY, RUNB, aop, ofV, SV.ofD, aLen, aSl, aBu, CV.exact, Nat.reduceBEq, Nat.reduceLT, Int.reduceLE, Int.reduceToNat, d1, d2, f1, f2, f3, f4]; (first | (refine hK _ ?_; clear hK K) | (refine ⟨by kernel_rfl, hK _ ?_⟩; clear hK K) | (refine hK ?_; clear hK hF K) | (refine hF ?_; clear hK hF K) | refine bcf (by assumption) ?_ | refine bca (by assumption) ?_))); fail_if_success (revert hK; intro hK)) | apply Wp.seq))
        simp (maxSteps := 2000000) (disch := omega) only [RUN, RUNB, rD0, bQ0, Nat.reduceBEq, firstV, hfr]
      · have d2 : decide ((r.length : Int) - 4 < (n : Int)) = true := decide_eq_true (by omega)
        rw [if_neg (by omega)] at hfr
        (repeat (first | apply Wp.skip | apply Wp.exit | apply Wp.ret | apply Wp.block | apply Wp.label | ((first | refine Wp.sreg (fun K hK => ?_) | refine Wp.reg (fun K hK => ?_) | refine Wp.sdrw mixed (fun K hK => ?_) | refine Wp.drw mixed (fun K hK => ?_) | refine Wp.condG (fun K hK hF => ?_)); (repeat (revert hK; intro hK; simp (maxSteps := 2000000) (disch := omega) only [RUN, TY, RUNB, aop, ofV, SV.ofD, aLen, aBu, CV.exact, Nat.reduceBEq, Nat.reduceLT, d1, d2]; (first | (refine hK _ ?_; clear hK K) | (refine ⟨by kernel_rfl, hK _ ?_⟩; clear hK K) | (refine hK ?_; clear hK hF K) | (refine hF ?_; clear hK hF K) | refine bcf (by assumption) ?_ | refine bca (by assumption) ?_))); fail_if_success (revert hK; intro hK)) | apply Wp.seq))
        simp (maxSteps := 2000000) (disch := omega) only [RUN, RUNB, rD0, bQ0, tQ0, Nat.reduceBEq, firstV, hfr]
    · have d1 : decide ((1024 : Int) < (n : Int)) = true := decide_eq_true (by omega)
      rw [if_neg (by omega)] at hfr
      (repeat (first | apply Wp.skip | apply Wp.exit | apply Wp.ret | apply Wp.block | apply Wp.label | ((first | refine Wp.sreg (fun K hK => ?_) | refine Wp.reg (fun K hK => ?_) | refine Wp.sdrw mixed (fun K hK => ?_) | refine Wp.drw mixed (fun K hK => ?_) | refine Wp.condG (fun K hK hF => ?_)); (repeat (revert hK; intro hK; simp (maxSteps := 2000000) (disch := omega) only [RUN, RUNB, aop, ofV, CV.exact, Nat.reduceBEq, Nat.reduceLT, d1]; (first | (refine hK _ ?_; clear hK K) | (refine ⟨by kernel_rfl, hK _ ?_⟩; clear hK K) | (refine hK ?_; clear hK hF K) | (refine hF ?_; clear hK hF K) | refine bcf (by assumption) ?_ | refine bca (by assumption) ?_))); fail_if_success (revert hK; intro hK)) | apply Wp.seq))
      simp (maxSteps := 2000000) (disch := omega) only [RUN, RUNB, rD0, bQ0, tQ0, Nat.reduceBEq, firstV, hfr]
/-- Where the first y frames end. -/
def endY (ys : List (List UInt8 × Nat)) : Nat := match ys.getLast? with
  | none => 0
  | some p => p.2
theorem tornY_end (b : List UInt8) (ys : List (List UInt8 × Nat)) : tornY b ys = (b.length : Int) - (endY ys : Int) := by
  unfold tornY endY; cases ys.getLast? <;> simp
theorem refAll_fun (b : List UInt8) (hb : b.length ≤ 1000000) : Fun Tryz.prog 100 [str b] (.tup [strsD (lodF b), int (tornF b)]) := by
  (refine Fun.of_body Tryz.func100 rfl rfl Tryz.ntmps100 Tryz.results100 (by simp) ?_)
  (repeat (first | apply Wp.skip | apply Wp.exit | apply Wp.ret | apply Wp.block | apply Wp.label | ((first | refine Wp.sreg (fun K hK => ?_) | refine Wp.reg (fun K hK => ?_) | refine Wp.sdrw mixed (fun K hK => ?_) | refine Wp.drw mixed (fun K hK => ?_) | refine Wp.condG (fun K hK hF => ?_)); (repeat (revert hK; intro hK; simp (maxSteps := 2000000) (disch := omega) only [RUN, RUNB, aop, ofV, Nat.reduceLT]; (first | (refine hK _ ?_; clear hK K) | (refine ⟨by kernel_rfl, hK _ ?_⟩; clear hK K) | (refine hK ?_; clear hK hF K) | (refine hF ?_; clear hK hF K) | refine bcf (by assumption) ?_ | refine bca (by assumption) ?_))); fail_if_success (revert hK; intro hK)) | apply Wp.seq))
  have htn : tornF b = (b.length : Int) - (endY (ysF 0 b) : Int) := tornY_end b _
  refine Wp.loop (fun p : Nat × Nat => ⟨ofL [(0, .c (.d (str b))), (4, .c (.app 0 1 ((((ysF 0 b).take p.1).map (·.1)).map fun x => [str x]))), (5, vi .i64 p.2)], ofH [(0, .row 9 1 p.1)], 1, 35, 0⟩) (fun p => p.1 ≤ (ysF 0 b).length ∧ p.2 ≤ b.length ∧ (ysF 0 b).drop p.1 = ysF p.2 (b.drop p.2) ∧ p.2 = endY ((ysF 0 b).take p.1)) (fun p => b.length - p.2) (0, 0) ⟨Nat.zero_le _, Nat.zero_le _, rfl, rfl⟩ ?_ ?_
  · refine Weak.trans (Weak.nilApp (t := 4) (τ := 0) 9 1 (by simp (maxSteps := 2000000) (disch := omega) only [RUN]) (by simp (maxSteps := 2000000) (disch := omega) only [RUN, Nat.reduceBEq])) (Weak.keep rfl rfl ?_)
    simp (maxSteps := 2000000) (disch := omega) only [RUN, RUNB, SV.ofD, Nat.reduceBEq]
  rintro ⟨y, p⟩ ⟨hy, hp, hys, hpe⟩
  simp only at hy hp hys hpe
  have hyb := ysF_len 0 b
  have htl : ((ysF 0 b).take y).length = y := by rw [List.length_take]; omega
  (repeat (first | apply Wp.skip | apply Wp.exit | apply Wp.ret | apply Wp.block | apply Wp.label | ((first | refine Wp.sreg (fun K hK => ?_) | refine Wp.reg (fun K hK => ?_) | refine Wp.sdrw mixed (fun K hK => ?_) | refine Wp.drw mixed (fun K hK => ?_) | refine Wp.condG (fun K hK hF => ?_)); (repeat (revert hK; intro hK; simp (maxSteps := 2000000) (disch := omega) only [RUN, TY, RUNB, aop, aLen, aBu, Nat.reduceBEq, Nat.reduceAdd, Nat.reduceLT]; (first | (refine hK _ ?_; clear hK K) | (refine ⟨by kernel_rfl, hK _ ?_⟩; clear hK K) | (refine hK ?_; clear hK hF K) | (refine hF ?_; clear hK hF K) | refine bcf (by assumption) ?_ | refine bca (by assumption) ?_))); fail_if_success (revert hK; intro hK)) | apply Wp.seq))
  refine Wp.cond (by simp (maxSteps := 2000000) (disch := omega) only [RUN, RUNB]; rfl) (fun h => ?_) (fun h => ?_)
  · have hlt : p < b.length := by simpa using h
    have c1 := refFirst_fun (b.drop p) (by simp; omega)
    have f1 : (p ≤ b.length) = True := by simp; omega
    have f2 : List.take (b.length - p) (List.drop p b) = b.drop p := List.take_of_length_le (by simp)
    have hfin : frOne (b.drop p) = none → lodF b = ((ysF 0 b).take y).map (·.1) ∧ tornF b = (b.length : Int) - (p : Int) := fun h => by
      rw [ysF_none p h] at hys
      have h5 : (ysF 0 b).take y = ysF 0 b := List.take_of_length_le (by simpa using hys)
      rw [h5, htn, hpe, h5]
      exact ⟨rfl, rfl⟩
    cases hf : frOne (b.drop p) with
    | none =>
      obtain ⟨g1, g2⟩ := hfin hf
      simp only [firstV, hf] at c1
      (repeat (first | apply Wp.skip | apply Wp.exit | apply Wp.ret | apply Wp.block | apply Wp.label | ((first | refine Wp.sreg (fun K hK => ?_) | refine Wp.reg (fun K hK => ?_) | refine Wp.sdrw mixed (fun K hK => ?_) | refine Wp.drw mixed (fun K hK => ?_) | refine Wp.condG (fun K hK hF => ?_)); (repeat (revert hK; intro hK; simp (maxSteps := 2000000) (disch := omega) only [RUN, TY, RUNB, aop, SV.ofD, aLen, aSl, aXt, aBu, CV.exact, oWn, Nat.reduceBEq, Nat.reduceAdd, Nat.reduceLT, f1, f2]; (first | (refine hK _ ?_; clear hK K) | (refine ⟨by kernel_rfl, hK _ ?_⟩; clear hK K) | (refine hK ?_; clear hK hF K) | (refine hF ?_; clear hK hF K) | refine bcf (by assumption) ?_ | refine bca (by assumption) ?_))); fail_if_success (revert hK; intro hK)) | apply Wp.seq))
      simp (maxSteps := 2000000) (disch := omega) only [RUN, RUNB, rD0, bQ0, Nat.reduceBEq, g1, g2]
    | some n =>
      have hle := frOne_le hf
      rw [List.length_drop] at hle
      simp only [firstV, hf] at c1
      rw [ysF_some p hf] at hys
      have hyl : y < (ysF 0 b).length := by
        rcases Nat.lt_or_ge y (ysF 0 b).length with h | h
        · exact h
        · rw [List.drop_eq_nil_of_le h] at hys; cases hys
      have htk := take_succ_get (ysF 0 b) y hyl
      have hgy : (ysF 0 b)[y] = (((b.drop p).drop 4).take n, p + 4 + n) := by
        rw [List.drop_eq_getElem_cons hyl] at hys
        exact (List.cons.inj hys).1
      have hnext : (ysF 0 b).drop (y + 1) = ysF (p + 4 + n) (b.drop (p + 4 + n)) := by
        rw [List.drop_eq_getElem_cons hyl] at hys
        rw [(List.cons.inj hys).2, List.drop_drop, show p + (4 + n) = p + 4 + n by omega]
      rw [hgy] at htk
      have hb2 : (y + 1) * 16 ≤ 140737488355328 := by omega
      have f5 : (p : Int) + ((4 + n : Nat) : Int) = ((p + 4 + n : Nat) : Int) := by omega
      (repeat (first | apply Wp.skip | apply Wp.exit | apply Wp.ret | apply Wp.block | apply Wp.label | ((first | refine Wp.sreg (fun K hK => ?_) | refine Wp.reg (fun K hK => ?_) | refine Wp.sdrw mixed (fun K hK => ?_) | refine Wp.drw mixed (fun K hK => ?_) | refine Wp.condG (fun K hK hF => ?_)); (repeat (revert hK; intro hK; simp (maxSteps := 2000000) (disch := omega) only [RUN, TY, RUNB, aop, SV.ofD, aSl, aXt, aBu, CV.exact, CV.lstOf, CV.one, D.one, Value.oneCell', CV.toD0, oWn, Nat.reduceBEq, Nat.reduceAdd, Nat.reduceMul, Nat.reduceLT, Nat.reduceLeDiff, f1, f2, htl, hb2]; (first | (refine hK _ ?_; clear hK K) | (refine ⟨by kernel_rfl, hK _ ?_⟩; clear hK K) | (refine hK ?_; clear hK hF K) | (refine hF ?_; clear hK hF K) | refine bcf (by assumption) ?_ | refine bca (by assumption) ?_))); fail_if_success (revert hK; intro hK)) | apply Wp.seq))
      refine ⟨(y + 1, p + 4 + n), ⟨hyl, (by simp only; omega), hnext, (by simp only [htk, endY]; simp)⟩, (by simp only; omega), Weak.keep rfl rfl ?_⟩
      simp (maxSteps := 2000000) (disch := omega) only [RUN, RUNB, Nat.reduceBEq, htk, List.map_append, Int.add_assoc]
  · have hpl : p = b.length := by simp only [decide_eq_false_iff_not] at h; omega
    have hno : frOne (b.drop p) = none := by
      have hl : (b.drop p).length = 0 := by simp; omega
      cases hf : frOne (b.drop p) with
      | none => rfl
      | some n => have := frOne_le hf; omega
    rw [ysF_none p hno] at hys
    have h5 : (ysF 0 b).take y = ysF 0 b := List.take_of_length_le (by simpa using hys)
    have g1 : lodF b = ((ysF 0 b).take y).map (·.1) := by rw [h5]; rfl
    have g2 : tornF b = (b.length : Int) - (p : Int) := by rw [htn, hpe, h5]
    (repeat (first | apply Wp.skip | apply Wp.exit | apply Wp.ret | apply Wp.block | apply Wp.label | ((first | refine Wp.sreg (fun K hK => ?_) | refine Wp.reg (fun K hK => ?_) | refine Wp.sdrw mixed (fun K hK => ?_) | refine Wp.drw mixed (fun K hK => ?_) | refine Wp.condG (fun K hK hF => ?_)); (repeat (revert hK; intro hK; simp (maxSteps := 2000000) (disch := omega) only [RUN, TY, RUNB, aop, aLen, aBu, Nat.reduceBEq, Nat.reduceAdd, Nat.reduceLT]; (first | (refine hK _ ?_; clear hK K) | (refine ⟨by kernel_rfl, hK _ ?_⟩; clear hK K) | (refine hK ?_; clear hK hF K) | (refine hF ?_; clear hK hF K) | refine bcf (by assumption) ?_ | refine bca (by assumption) ?_))); fail_if_success (revert hK; intro hK)) | apply Wp.seq))
    simp (maxSteps := 2000000) (disch := omega) only [RUN, RUNB, rD0, bQ0, Nat.reduceBEq, g1, g2]
theorem bits255 (n : Nat) : n &&& 255 = n % 256 := Nat.and_two_pow_sub_one_eq_mod n 8
theorem refB1_fun (l : List UInt8) (hl : l.length ≤ 1000000) : Fun Tryz.prog 98 [str l] (if l.length ≤ 1024 then .tup [str (frF l), int 0] else .tup [str [], int 2]) := by
  by_cases h : l.length ≤ 1024
  · rw [if_pos h]
    have d1 : decide ((1024 : Int) < (l.length : Int)) = false := decide_eq_false (by omega)
    obtain ⟨n, hn⟩ : ∃ n, l.length = n := ⟨_, rfl⟩
    have s1 := shr_nat n 8 (by omega)
    have a1 : ∀ x z, aBin Tryz.prog .and 3 x z (vi .i64 n) (vi .i64 255) = some (Res.pure (vi .i64 ((n % 256 : Nat) : Int))) := fun x z => by
      rw [← bits255]; exact and64 n 255 (by omega) (by decide)
    have a2 : ∀ x z, aBin Tryz.prog .and 3 x z (vi .i64 ((n / 2 ^ 8 : Nat) : Int)) (vi .i64 255) = some (Res.pure (vi .i64 ((n / 2 ^ 8 % 256 : Nat) : Int))) := fun x z => by
      rw [← bits255]; exact and64 (n / 2 ^ 8) 255 (by omega) (by decide)
    have w1 := wrap_nat8 (n % 256) (by omega)
    have w2 := wrap_nat8 (n / 2 ^ 8 % 256) (by omega)
    have hby : mapO byteOf [[D.val (.int .u8 ((n % 256 : Nat) : Int))], [D.val (.int .u8 ((n / 2 ^ 8 % 256 : Nat) : Int))], [D.val (.int .u8 0)], [D.val (.int .u8 0)]] = some (le4 n) := by
      have h1 : ([[D.val (.int .u8 ((n % 256 : Nat) : Int))], [D.val (.int .u8 ((n / 2 ^ 8 % 256 : Nat) : Int))], [D.val (.int .u8 0)], [D.val (.int .u8 0)]] : List (List D)) = (le4 n).map byteD := by
        rw [le4_D]
        have h3 : n / 65536 % 256 = 0 := by omega
        have h4 : n / 16777216 % 256 = 0 := by omega
        simp [h3, h4]
      rw [h1, bytesOf_map]
    (refine Fun.of_body Tryz.func98 rfl rfl Tryz.ntmps98 Tryz.results98 (by simp) ?_)
    rw [hn] at d1
    have hlb : (le4 n).length + l.length ≤ 9223372036854775807 := by simp [le4]; omega
    (repeat (first | apply Wp.skip | apply Wp.exit | apply Wp.ret | apply Wp.block | apply Wp.label | ((first | refine Wp.sreg (fun K hK => ?_) | refine Wp.reg (fun K hK => ?_) | refine Wp.sdrw mixed (fun K hK => ?_) | refine Wp.drw mixed (fun K hK => ?_) | refine Wp.condG (fun K hK hF => ?_)); (repeat (revert hK; intro hK; simp (maxSteps := 2000000) (disch := omega) only [RUN, TY, RUNB, aop, ofV, SV.ofD, aLen, aBu, aCX, aCL, CV.exact, CV.lstOf, CV.one, D.one, Value.oneCell', CV.toD0, reduceCtorEq, Nat.reduceBEq, Nat.reduceAdd, Nat.reduceMul, Nat.reduceLT, Nat.reduceLeDiff, Int.reduceToNat, hn, d1, a1, a2, w1, w2, s1, bin_shr, sc_conv, hby, sbin_add hlb]; (first | (refine hK _ ?_; clear hK K) | (refine ⟨by kernel_rfl, hK _ ?_⟩; clear hK K) | (refine hK ?_; clear hK hF K) | (refine hF ?_; clear hK hF K) | refine bcf (by assumption) ?_ | refine bca (by assumption) ?_))); fail_if_success (revert hK; intro hK)) | apply Wp.seq))
    simp (maxSteps := 2000000) (disch := omega) only [RUN, RUNB, rD0, bQ0, Nat.reduceBEq, frF, hn]
  · rw [if_neg h]
    have d1 : decide ((1024 : Int) < (l.length : Int)) = true := decide_eq_true (by omega)
    (refine Fun.of_body Tryz.func98 rfl rfl Tryz.ntmps98 Tryz.results98 (by simp) ?_)
    (repeat (first | apply Wp.skip | apply Wp.exit | apply Wp.ret | apply Wp.block | apply Wp.label | ((first | refine Wp.sreg (fun K hK => ?_) | refine Wp.reg (fun K hK => ?_) | refine Wp.sdrw mixed (fun K hK => ?_) | refine Wp.drw mixed (fun K hK => ?_) | refine Wp.condG (fun K hK hF => ?_)); (repeat (revert hK; intro hK; simp (maxSteps := 2000000) (disch := omega) only [RUN, TY, RUNB, aop, ofV, SV.ofD, aLen, aBu, Nat.reduceBEq, Nat.reduceLT, d1]; (first | (refine hK _ ?_; clear hK K) | (refine ⟨by kernel_rfl, hK _ ?_⟩; clear hK K) | (refine hK ?_; clear hK hF K) | (refine hF ?_; clear hK hF K) | refine bcf (by assumption) ?_ | refine bca (by assumption) ?_))); fail_if_success (revert hK; intro hK)) | apply Wp.seq))
    simp (maxSteps := 2000000) (disch := omega) only [RUN, RUNB, rD0, bQ0, tQ0, Nat.reduceBEq]
theorem refB1_fun' (l : List UInt8) (hl : l.length ≤ 1000000) : Fun Tryz.prog 98 [str l] (.tup [str (b1 l), int (e1F l)]) := by
  have h := refB1_fun l hl
  unfold b1 e1F
  by_cases c : l.length ≤ 1024
  · rw [if_pos c] at h; rw [if_pos c, if_pos c]; exact h
  · rw [if_neg c] at h; rw [if_neg c, if_neg c]; exact h
theorem refB_fun (ls : List (List UInt8)) (hn : ls.length ≤ 100000) (hl : ∀ l ∈ ls, l.length ≤ 1000000) : Fun Tryz.prog 51 [strsD ls] (.tup [str (bytesF ls), int (bytesE ls)]) := by
  have hk := goodN_le ls
  have hgl := goodN_lt ls
  have hga := goodN_at ls
  have hfin : (if goodN ls = ls.length then (.tup [str (joinF ls), int 0] : D) else .tup [str [], int 2]) = .tup [str (bytesF ls), int (bytesE ls)] := by
    unfold bytesF bytesE; split <;> rfl
  rw [← hfin]
  clear hfin
  (refine Fun.of_body Tryz.func51 rfl rfl Tryz.ntmps51 Tryz.results51 (by simp) ?_)
  (repeat (first | apply Wp.skip | apply Wp.exit | apply Wp.ret | apply Wp.block | apply Wp.label | ((first | refine Wp.sreg (fun K hK => ?_) | refine Wp.reg (fun K hK => ?_) | refine Wp.sdrw mixed (fun K hK => ?_) | refine Wp.drw mixed (fun K hK => ?_) | refine Wp.condG (fun K hK hF => ?_)); (repeat (revert hK; intro hK; simp (maxSteps := 2000000) (disch := omega) only [RUN, RUNB, aop, ofV, Nat.reduceLT]; (first | (refine hK _ ?_; clear hK K) | (refine ⟨by kernel_rfl, hK _ ?_⟩; clear hK K) | (refine hK ?_; clear hK hF K) | (refine hF ?_; clear hK hF K) | refine bcf (by assumption) ?_ | refine bca (by assumption) ?_))); fail_if_success (revert hK; intro hK)) | apply Wp.seq))
  refine Wp.loop (fun i : Nat => ⟨ofL [(0, .c (.d (strsD ls))), (4, .c (.d (str (joinF (ls.take i))))), (5, vi .i64 i)], ofH [], 0, 28, 0⟩) (fun i => i ≤ goodN ls) (fun i => ls.length - i) 0 (Nat.zero_le _) ?_ ?_
  · refine Weak.keep rfl rfl ?_
    simp (maxSteps := 2000000) (disch := omega) only [RUN, RUNB, SV.ofD, Nat.reduceBEq]
  intro i hi
  (repeat (first | apply Wp.skip | apply Wp.exit | apply Wp.ret | apply Wp.block | apply Wp.label | ((first | refine Wp.sreg (fun K hK => ?_) | refine Wp.reg (fun K hK => ?_) | refine Wp.sdrw mixed (fun K hK => ?_) | refine Wp.drw mixed (fun K hK => ?_) | refine Wp.condG (fun K hK hF => ?_)); (repeat (revert hK; intro hK; simp (maxSteps := 2000000) (disch := omega) only [RUN, TY, RUNB, aop, aLen, aBu, CV.lenOf, Nat.reduceBEq, Nat.reduceLT]; (first | (refine hK _ ?_; clear hK K) | (refine ⟨by kernel_rfl, hK _ ?_⟩; clear hK K) | (refine hK ?_; clear hK hF K) | (refine hF ?_; clear hK hF K) | refine bcf (by assumption) ?_ | refine bca (by assumption) ?_))); fail_if_success (revert hK; intro hK)) | apply Wp.seq))
  refine Wp.cond (by simp (maxSteps := 2000000) (disch := omega) only [RUN, RUNB]; rfl) (fun h => ?_) (fun h => ?_)
  · have hlt : i < ls.length := by simpa using h
    have hg : ls[i]? = some ls[i] := List.getElem?_eq_getElem hlt
    have htk := take_succ_get ls i hlt
    have hlen := hl _ (List.getElem_mem hlt)
    have hjl := joinF_len (ls.take i) (good_take hi)
    rw [List.length_take] at hjl
    generalize ls[i] = l at *
    have c1 := refB1_fun' l hlen
    by_cases hik : i < goodN ls
    · have hll := hgl i l hg hik
      have b1e : b1 l = frF l := if_pos hll
      have e1e : e1F l = 0 := if_pos hll
      rw [b1e, e1e] at c1
      have hfl := frF_len l
      have hlb : (joinF (ls.take i)).length + (frF l).length ≤ 9223372036854775807 := by omega
      have hjn : joinF (ls.take (i + 1)) = joinF (ls.take i) ++ frF l := by rw [htk]; simp [joinF]
      (repeat (first | apply Wp.skip | apply Wp.exit | apply Wp.ret | apply Wp.block | apply Wp.label | ((first | refine Wp.sreg (fun K hK => ?_) | refine Wp.reg (fun K hK => ?_) | refine Wp.sdrw mixed (fun K hK => ?_) | refine Wp.drw mixed (fun K hK => ?_) | refine Wp.condG (fun K hK hF => ?_)); (repeat (revert hK; intro hK; simp (maxSteps := 2000000) (disch := omega) only [RUN, TY, RUNB, aop, ofV, SV.ofD, aLd, aXt, CV.exact, CV.lstOf, oWn, Nat.reduceBEq, Nat.reduceLT, Int.reduceBNe, hg, sbin_add hlb]; (first | (refine hK _ ?_; clear hK K) | (refine ⟨by kernel_rfl, hK _ ?_⟩; clear hK K) | (refine hK ?_; clear hK hF K) | (refine hF ?_; clear hK hF K) | refine bcf (by assumption) ?_ | refine bca (by assumption) ?_))); fail_if_success (revert hK; intro hK)) | apply Wp.seq))
      refine ⟨i + 1, hik, by omega, Weak.keep rfl rfl ?_⟩
      simp (maxSteps := 2000000) (disch := omega) only [RUN, RUNB, Nat.reduceBEq, hjn]
    · obtain rfl : i = goodN ls := by omega
      have hll := hga l hg
      have b1e : b1 l = [] := if_neg hll
      have e1e : e1F l = 2 := if_neg hll
      rw [b1e, e1e] at c1
      rw [if_neg (by omega)]
      (repeat (first | apply Wp.skip | apply Wp.exit | apply Wp.ret | apply Wp.block | apply Wp.label | ((first | refine Wp.sreg (fun K hK => ?_) | refine Wp.reg (fun K hK => ?_) | refine Wp.sdrw mixed (fun K hK => ?_) | refine Wp.drw mixed (fun K hK => ?_) | refine Wp.condG (fun K hK hF => ?_)); (repeat (revert hK; intro hK; simp (maxSteps := 2000000) (disch := omega) only [RUN, TY, RUNB, aop, ofV, SV.ofD, aLd, aXt, CV.exact, CV.lstOf, oWn, Nat.reduceBEq, Nat.reduceLT, Int.reduceBNe, hg]; (first | (refine hK _ ?_; clear hK K) | (refine ⟨by kernel_rfl, hK _ ?_⟩; clear hK K) | (refine hK ?_; clear hK hF K) | (refine hF ?_; clear hK hF K) | refine bcf (by assumption) ?_ | refine bca (by assumption) ?_))); fail_if_success (revert hK; intro hK)) | apply Wp.seq))
      simp (maxSteps := 2000000) (disch := omega) only [RUN, RUNB, rD0, bQ0, tQ0, kQ0, Nat.reduceBEq]
  · have hil : i = ls.length := by simp only [decide_eq_false_iff_not] at h; omega
    have htk2 : ls.take i = ls := List.take_of_length_le (by omega)
    rw [if_pos (by omega)]
    (repeat (first | apply Wp.skip | apply Wp.exit | apply Wp.ret | apply Wp.block | apply Wp.label | ((first | refine Wp.sreg (fun K hK => ?_) | refine Wp.reg (fun K hK => ?_) | refine Wp.sdrw mixed (fun K hK => ?_) | refine Wp.drw mixed (fun K hK => ?_) | refine Wp.condG (fun K hK hF => ?_)); (repeat (revert hK; intro hK; simp (maxSteps := 2000000) (disch := omega) only [RUN, RUNB, aop, ofV, Nat.reduceBEq, Nat.reduceLT, htk2]; (first | (refine hK _ ?_; clear hK K) | (refine ⟨by kernel_rfl, hK _ ?_⟩; clear hK K) | (refine hK ?_; clear hK hF K) | (refine hF ?_; clear hK hF K) | refine bcf (by assumption) ?_ | refine bca (by assumption) ?_))); fail_if_success (revert hK; intro hK)) | apply Wp.seq))
    simp (maxSteps := 2000000) (disch := omega) only [RUN, RUNB, rD0, bQ0, Nat.reduceBEq]
end Go.Proofs.YtepcpdionlfkhaaGreatDoor
