/- The abstract machine (EqA, SqA, SqB, CpDp, SqC). -/
import Derived.Test.YtafipkbffboebaaDoorApi
import Derived.Test.YtafipkbffboebaaDoorAuto
import Derived.Test.YtafipkbffboebaaDoorEnt
import Derived.Test.YtafipkbffboebaaDoorErM
namespace Go.Proofs.YtafipkbffboebaaDoor
open Go Go.RowKit
set_option maxHeartbeats 4000000
set_option maxRecDepth 100000
set_option linter.unusedVariables false
set_option linter.unusedSimpArgs false
theorem RowD_fs (f g : RowD) : ∃ fs, Tryd.prog.underlying 36 = some (.struct fs) ∧ eqFs Tryd.prog 9999 #[.int .i64 f.off, .int .i64 f.pid, .int .i64 f.seq, .string ⟨List.toArray f.key⟩, .string ⟨List.toArray f.value⟩] #[.int .i64 g.off, .int .i64 g.pid, .int .i64 g.seq, .string ⟨List.toArray g.key⟩, .string ⟨List.toArray g.value⟩] fs.toList = some (decide (f = g)) := by
  refine ⟨_, Tryd.underlying36, ?_⟩
  have ii : pureRun Tryd.prog (isAgg 3) = some false := by kernel_rfl
  have si := fun x y => eqIn_int (d := 9998) Tryd.underlying3 .i64 x y
  simp only [Nat.reduceAdd] at si
  have is : pureRun Tryd.prog (isAgg 9) = some false := by kernel_rfl
  have ss := fun x y => eqIn_str (d := 9998) Tryd.underlying9 x y
  simp only [Nat.reduceAdd] at ss
  obtain ⟨a1, a2, a3, a4, a5⟩ := f
  obtain ⟨b1, b2, b3, b4, b5⟩ := g
  have e : decide (RowD.mk a1 a2 a3 a4 a5 = RowD.mk b1 b2 b3 b4 b5) = (a1 == b1 && (a2 == b2 && (a3 == b3 && (a4 == b4 && (a5 == b5))))) := by rw [Bool.eq_iff_iff]; simp only [RowD.mk.injEq, Bool.and_eq_true, beq_iff_eq, decide_eq_true_eq]
  rw [e]
  cases h1 : (a1 == b1) <;> cases h2 : (a2 == b2) <;> cases h3 : (a3 == b3) <;> cases h4 : (a4 == b4) <;> cases h5 : (a5 == b5) <;> simp [eqFs, ii, si, is, ss, bs_beq, h1, h2, h3, h4, h5]
theorem RowD_bin (x y : Operand) (f g : RowD) : aBin Tryd.prog .eql 36 x y (.agg [.d (int f.off), .d (int f.pid), .d (int f.seq), .d (str f.key), .d (str f.value)]) (.agg [.d (int g.off), .d (int g.pid), .d (int g.seq), .d (str g.key), .d (str g.value)]) = some (Res.pure (vb (decide (f = g)))) ∧ aBin Tryd.prog .neq 36 x y (.agg [.d (int f.off), .d (int f.pid), .d (int f.seq), .d (str f.key), .d (str f.value)]) (.agg [.d (int g.off), .d (int g.pid), .d (int g.seq), .d (str g.key), .d (str g.value)]) = some (Res.pure (vb (!decide (f = g)))) := by
  obtain ⟨fs, hu, he⟩ := RowD_fs f g
  exact agg_eql hu (by kernel_rfl) (by kernel_rfl) he
end Go.Proofs.YtafipkbffboebaaDoor
namespace Go.Proofs.YtafipkbffboebaaDoor
open Go Go.RowKit
set_option maxHeartbeats 8000000
set_option maxRecDepth 100000
set_option linter.unusedVariables false
set_option linter.unusedSimpArgs false
def prodB (pid epoch : Int) : Bool := decide (1 ≤ pid) && decide (pid ≤ 8) && decide (0 ≤ epoch) && decide (epoch ≤ 100)
theorem producer7_fun (pid epoch : Int) : Fun Tryd.prog 41 [int pid, int epoch] (boo (prodB pid epoch)) := by
  (refine Fun.of_body Tryd.func41 rfl rfl Tryd.ntmps41 Tryd.results41 (by simp) ?_)
  (refine gO0 ?_; try (with_reducible exact True.intro))
  (first | refine Wp.sto 4 (vb (prodB pid epoch)) ?_ ?_ | refine Wp.rtoS 4 (vb (prodB pid epoch)) ?_ ?_ | (refine Wp.seq ?_; first | refine Wp.sto 4 (vb (prodB pid epoch)) ?_ ?_ | refine Wp.rtoS 4 (vb (prodB pid epoch)) ?_ ?_))
  · unfold prodB; ((rcases Bool.eq_false_or_eq_true (decide (1 ≤ pid)) with hL1 | hL1) <;> (rcases Bool.eq_false_or_eq_true (decide (pid ≤ 8)) with hL2 | hL2) <;> (rcases Bool.eq_false_or_eq_true (decide (0 ≤ epoch)) with hL3 | hL3) <;> (rcases Bool.eq_false_or_eq_true (decide (epoch ≤ 100)) with hL4 | hL4) <;> (((refine rO (And.intro hL1 (And.intro hL2 (And.intro hL3 (hL4)))) ?_; try (with_reducible exact True.intro)); (repeat (refine bcf (by assumption) ?_; (refine rO (And.intro hL1 (And.intro hL2 (And.intro hL3 (hL4)))) ?_; try (with_reducible exact True.intro))))); all_goals (exact (show okTr _ _ = true by kernel_rfl))))
  (refine gO0 ?_; try (with_reducible exact True.intro))
  (refine rO0 ?_; try (with_reducible exact True.intro))
def withB (n a b : Int) : Bool := decide (a ≤ n) && decide (n ≤ b)
theorem within_fun (n a b : Int) : Fun Tryd.prog 42 [int n, int a, int b] (boo (withB n a b)) := by
  (refine Fun.of_body Tryd.func42 rfl rfl Tryd.ntmps42 Tryd.results42 (by simp) ?_)
  (refine gO0 ?_; try (with_reducible exact True.intro))
  (first | refine Wp.sto 6 (vb (withB n a b)) ?_ ?_ | refine Wp.rtoS 6 (vb (withB n a b)) ?_ ?_ | (refine Wp.seq ?_; first | refine Wp.sto 6 (vb (withB n a b)) ?_ ?_ | refine Wp.rtoS 6 (vb (withB n a b)) ?_ ?_))
  · unfold withB; ((rcases Bool.eq_false_or_eq_true (decide (a ≤ n)) with hL1 | hL1) <;> (rcases Bool.eq_false_or_eq_true (decide (n ≤ b)) with hL2 | hL2) <;> (((refine rO (And.intro hL1 (hL2)) ?_; try (with_reducible exact True.intro)); (repeat (refine bcf (by assumption) ?_; (refine rO (And.intro hL1 (hL2)) ?_; try (with_reducible exact True.intro))))); all_goals (exact (show okTr _ _ = true by kernel_rfl))))
  (refine gO0 ?_; try (with_reducible exact True.intro))
  (refine rO0 ?_; try (with_reducible exact True.intro))
def headBad (p : ProdD) : Bool := !prodB p.pid p.epoch || !withB p.next 0 1048576 || decide (3 < (p.seen.length : Int))
def bad1 (s : SeenD) : Bool := decide (s.count < 1) || decide (4 < s.count) || decide (s.base < -1) || decide (1048576 < s.base)
def bad2 (s : SeenD) (b : Int) : Bool := decide (s.seq < 0) || decide (b - s.count < s.seq)
def badS (s : SeenD) (b : Int) : Bool := bad1 s || bad2 s b
/-- Backwards. -/
def chkR : List SeenD → Int → Bool
  | [], _ => true
  | s :: l, b => !badS s b && chkR l s.seq
theorem badS_rng {s : SeenD} {b : Int} (h : badS s b = false) : 0 ≤ s.seq ∧ s.seq ≤ b ∧ 1 ≤ s.count ∧ s.count ≤ 4 := by
  simp only [badS, bad1, bad2, Bool.or_eq_false_iff, decide_eq_false_iff_not] at h
  omega
def knownB (p : ProdD) : Bool := !headBad p && chkR p.seen.reverse p.next
/-! forwards -/
def headSeq (l : List SeenD) (next : Int) : Int := match l with
  | [] => next
  | t :: _ => t.seq
def badF (s : SeenD) (b : Int) : Bool := decide (s.seq < 0) || !withB s.count 1 4 || !withB s.base (-1) 1048576 || decide (IntKind.i64.wrap (b - s.count) < s.seq)
def chkF : List SeenD → Int → Bool
  | [], _ => true
  | s :: l, next => !badF s (headSeq l next) && chkF l next
theorem chkR_snoc : ∀ (l : List SeenD) (b : Int) (s : SeenD), chkR (l ++ [s]) b = (chkR l b && !badS s (match l.getLast? with | some t => t.seq | none => b))
  | [], b, s => by simp [chkR]
  | [t], b, s => by simp [chkR, Bool.and_assoc]
  | t :: u :: l, b, s => by
    have ih := chkR_snoc (u :: l) t.seq s
    show (!badS t b && chkR ((u :: l) ++ [s]) t.seq) = ((!badS t b && chkR (u :: l) t.seq) && _)
    rw [ih, Bool.and_assoc, List.getLast?_cons_cons]
    cases hq : (u :: l).getLast? with
    | none => simp at hq
    | some x => rfl
theorem chkR_rev (s : SeenD) (l : List SeenD) (next : Int) : chkR (s :: l).reverse next = (chkR l.reverse next && !badS s (headSeq l next)) := by
  rw [List.reverse_cons, chkR_snoc, List.getLast?_reverse]
  cases l <;> rfl
theorem chkR_rng : ∀ (l : List SeenD) (next : Int), 0 ≤ next → next ≤ 1048576 → chkR l.reverse next = true → 0 ≤ headSeq l next ∧ headSeq l next ≤ 1048576
  | [], next, h1, h2, _ => ⟨h1, h2⟩
  | s :: l, next, h1, h2, h => by
    rw [chkR_rev, Bool.and_eq_true] at h
    have h3 := chkR_rng l next h1 h2 h.1
    have h4 := badS_rng (s := s) (b := headSeq l next) (by simpa using h.2)
    show 0 ≤ s.seq ∧ s.seq ≤ 1048576
    omega
theorem badF_eq {s : SeenD} {b : Int} (h1 : 0 ≤ b) (h2 : b ≤ 1048576) : badF s b = badS s b := by
  rw [Bool.eq_iff_iff]
  simp only [badF, badS, bad1, bad2, withB, Bool.or_eq_true, Bool.not_eq_true', Bool.and_eq_false_iff, decide_eq_true_eq, decide_eq_false_iff_not]
  by_cases hc : 1 ≤ s.count ∧ s.count ≤ 4
  · rw [wrap_i64 (n := b - s.count) ⟨by omega, by omega⟩]; omega
  · constructor <;> intro h
    · left; omega
    · left; left; right; omega
theorem chkF_eq : ∀ (l : List SeenD) (next : Int), 0 ≤ next → next ≤ 1048576 → chkF l next = chkR l.reverse next
  | [], _, _, _ => rfl
  | s :: l, next, h1, h2 => by
    rw [chkR_rev, chkF, chkF_eq l next h1 h2]
    cases hq : chkR l.reverse next with
    | false => simp
    | true =>
      have := chkR_rng l next h1 h2 hq
      rw [badF_eq this.1 this.2, Bool.and_true, Bool.true_and]
def behF7 (p : ProdD) (i : Nat) : Int := match p.seen[i + 1]? with
  | some t => t.seq
  | none => p.next
theorem chkF_all : ∀ (l : List SeenD) (next : Int), chkF l next = true ↔ ∀ i s, l[i]? = some s → badF s (match l[i + 1]? with | some t => t.seq | none => next) = false
  | [], next => by simp [chkF]
  | s :: l, next => by
    rw [chkF, Bool.and_eq_true, chkF_all l next]
    constructor
    · rintro ⟨h1, h2⟩ i x hx
      cases i with
      | zero =>
        simp at hx; subst hx
        have h1 : badF s (headSeq l next) = false := by simpa using h1
        cases l with
        | nil => exact h1
        | cons t l => exact h1
      | succ i => exact h2 i x (by simpa using hx)
    · intro h
      refine ⟨?_, fun i x hx => h (i + 1) x (by simpa using hx)⟩
      have := h 0 s rfl
      cases l with
      | nil => simpa [headSeq] using this
      | cons t l => simpa [headSeq] using this
abbrev k7S (p : ProdD) (k : Nat) : St := ⟨ofL [(1, .c (.own 0 0)), (3, vi .i64 k)], ofH [(0, .cells (p.dv.map .d))], 1, 75, 0⟩
theorem known7_fun (p : ProdD) (hl : p.seen.length ≤ 100000) : Fun Tryd.prog 44 [.agg p.dv] (boo (knownB p)) := by
  have c1 := producer7_fun p.pid p.epoch
  have c2 := within_fun p.next 0 1048576
  (refine Fun.of_body Tryd.func44 rfl rfl Tryd.ntmps44 Tryd.results44 (by simp) ?_)
  (refine gO (@ProdD.dv.eq_1) ?_; try (with_reducible exact True.intro))
  (first | refine Wp.sto 23 (vb (headBad p)) ?_ ?_ | refine Wp.rtoS 23 (vb (headBad p)) ?_ ?_ | (refine Wp.seq ?_; first | refine Wp.sto 23 (vb (headBad p)) ?_ ?_ | refine Wp.rtoS 23 (vb (headBad p)) ?_ ?_))
  · unfold headBad; ((rcases Bool.eq_false_or_eq_true (!prodB p.pid p.epoch) with hL1 | hL1) <;> (rcases Bool.eq_false_or_eq_true (!withB p.next 0 1048576) with hL2 | hL2) <;> (rcases Bool.eq_false_or_eq_true (decide (3 < (p.seen.length : Int))) with hL3 | hL3) <;> (((refine rO (And.intro hL1 (And.intro hL2 (And.intro hL3 (@ProdD.dv.eq_1)))) ?_; try (with_reducible exact True.intro)); (repeat (refine bcf (by assumption) ?_; (refine rO (And.intro hL1 (And.intro hL2 (And.intro hL3 (@ProdD.dv.eq_1)))) ?_; try (with_reducible exact True.intro))))); all_goals (exact (show okTr _ _ = true by kernel_rfl))))
  refine Wp.cond (by (refine rO0 ?_; try (with_reducible exact True.intro)); rfl) (fun h => ?_) (fun h => ?_)
  · have hf : knownB p = false := by simp only [knownB, h, Bool.not_true, Bool.false_and]
    (refine gO0 ?_; try (with_reducible exact True.intro))
    (refine rO (hf) ?_; try (with_reducible exact True.intro))
  have h1 : headBad p = false := h
  have hnx : 0 ≤ p.next ∧ p.next ≤ 1048576 := by
    simp only [headBad, withB, Bool.or_eq_false_iff, Bool.not_eq_false', Bool.and_eq_true, decide_eq_true_eq] at h1
    exact ⟨h1.1.2.1, h1.1.2.2⟩
  have hkn : knownB p = chkF p.seen p.next := by rw [chkF_eq _ _ hnx.1 hnx.2]; simp only [knownB, h1, Bool.not_false, Bool.true_and]
  (refine gO (@ProdD.dv.eq_1) ?_; try (with_reducible exact True.intro))
  refine Wp.loop (k7S p) (fun k => k ≤ p.seen.length ∧ ∀ j s, j < k → p.seen[j]? = some s → badF s (behF7 p j) = false) (fun k => p.seen.length - k) 0 ⟨Nat.zero_le _, fun j s hj => by omega⟩ ?_ ?_
  · refine Weak.keep rfl rfl ?_
    (refine rO (@ProdD.dv.eq_1) ?_; try (with_reducible exact True.intro))
  rintro k ⟨hk, hall⟩
  (refine gO (@ProdD.dv.eq_1) ?_; try (with_reducible exact True.intro))
  refine Wp.cond (by (refine rO0 ?_; try (with_reducible exact True.intro)); rfl) (fun h => ?_) (fun h => ?_)
  · have hlt : k < p.seen.length := by simpa using h
    have hge : p.seen[k]? = some p.seen[k] := List.getElem?_eq_getElem hlt
    generalize p.seen[k] = s at *
    have c3 := within_fun s.count 1 4
    have c4 := within_fun s.base (-1) 1048576
    refine Wp.skip ?_
    refine Wp.seq ?_
    refine Wp.block ?_
    (refine gO (And.intro hge (And.intro @SeenD.dv.eq_1 (@ProdD.dv.eq_1))) ?_; try (with_reducible exact True.intro))
    have hbad : badF s (behF7 p k) = true → knownB p = false := fun hb => by
      rw [hkn]
      cases hq : chkF p.seen p.next with
      | false => rfl
      | true =>
        have := (chkF_all _ _).1 hq k s hge
        unfold behF7 at hb
        rw [this] at hb; cases hb
    have hgood : badF s (behF7 p k) = false → ∀ j x, j < k + 1 → p.seen[j]? = some x → badF x (behF7 p j) = false := fun hb j x hj hx => by
      rcases Nat.lt_or_ge j k with h2 | h2
      · exact hall j x h2 hx
      · obtain rfl : j = k := by omega
        rw [hge] at hx; cases hx; exact hb
    rcases Nat.lt_or_ge (k + 1) p.seen.length with hk1 | hk1
    · have hd : decide ((k : Int) + 1 < (p.seen.length : Int)) = true := decide_eq_true (by omega)
      have hge2 : p.seen[k + 1]? = some p.seen[k + 1] := List.getElem?_eq_getElem hk1
      have hb7 : behF7 p k = p.seen[k + 1].seq := by simp only [behF7, hge2]
      rw [hb7] at hbad hgood
      generalize p.seen[k + 1] = u at *
      have hnn : ((0 : Int) ≤ (k : Int) + 1) = True := by simp; omega
      have htn : ((k : Int) + 1).toNat = k + 1 := by omega
      (refine gO (And.intro hd (And.intro hge2 (And.intro hnn (And.intro htn (And.intro @SeenD.dv.eq_1 (@ProdD.dv.eq_1)))))) ?_; try (with_reducible exact True.intro))
      (first | refine Wp.sto 74 (vb (badF s u.seq)) ?_ ?_ | refine Wp.rtoS 74 (vb (badF s u.seq)) ?_ ?_ | (refine Wp.seq ?_; first | refine Wp.sto 74 (vb (badF s u.seq)) ?_ ?_ | refine Wp.rtoS 74 (vb (badF s u.seq)) ?_ ?_))
      · unfold badF; ((rcases Bool.eq_false_or_eq_true (decide (s.seq < 0)) with hL1 | hL1) <;> (rcases Bool.eq_false_or_eq_true (!withB s.count 1 4) with hL2 | hL2) <;> (rcases Bool.eq_false_or_eq_true (!withB s.base (-1) 1048576) with hL3 | hL3) <;> (rcases Bool.eq_false_or_eq_true (decide (IntKind.i64.wrap (u.seq - s.count) < s.seq)) with hL4 | hL4) <;> (((refine rO (And.intro hL1 (And.intro hL2 (And.intro hL3 (And.intro hL4 (And.intro @SeenD.dv.eq_1 (@ProdD.dv.eq_1)))))) ?_; try (with_reducible exact True.intro)); (repeat (refine bcf (by assumption) ?_; (refine rO (And.intro hL1 (And.intro hL2 (And.intro hL3 (And.intro hL4 (And.intro @SeenD.dv.eq_1 (@ProdD.dv.eq_1)))))) ?_; try (with_reducible exact True.intro))))); all_goals (exact (show okTr _ _ = true by kernel_rfl))))
      refine Wp.cond (by (refine rO0 ?_; try (with_reducible exact True.intro)); rfl) (fun h => ?_) (fun h => ?_)
      · have hf := hbad h
        (refine gO0 ?_; try (with_reducible exact True.intro))
        (refine rO (hf) ?_; try (with_reducible exact True.intro))
      · have hf := hgood h
        (refine gO0 ?_; try (with_reducible exact True.intro))
        refine ⟨k + 1, ⟨by omega, hf⟩, by omega, Weak.keep rfl rfl ?_⟩
        (refine rO (@ProdD.dv.eq_1) ?_; try (with_reducible exact True.intro))
    · have hd : decide ((k : Int) + 1 < (p.seen.length : Int)) = false := decide_eq_false (by omega)
      have hge2 : p.seen[k + 1]? = none := List.getElem?_eq_none hk1
      have hb7 : behF7 p k = p.next := by simp only [behF7, hge2]
      rw [hb7] at hbad hgood
      (refine gO (And.intro hd (And.intro @SeenD.dv.eq_1 (@ProdD.dv.eq_1))) ?_; try (with_reducible exact True.intro))
      (first | refine Wp.sto 74 (vb (badF s p.next)) ?_ ?_ | refine Wp.rtoS 74 (vb (badF s p.next)) ?_ ?_ | (refine Wp.seq ?_; first | refine Wp.sto 74 (vb (badF s p.next)) ?_ ?_ | refine Wp.rtoS 74 (vb (badF s p.next)) ?_ ?_))
      · unfold badF; ((rcases Bool.eq_false_or_eq_true (decide (s.seq < 0)) with hL1 | hL1) <;> (rcases Bool.eq_false_or_eq_true (!withB s.count 1 4) with hL2 | hL2) <;> (rcases Bool.eq_false_or_eq_true (!withB s.base (-1) 1048576) with hL3 | hL3) <;> (rcases Bool.eq_false_or_eq_true (decide (IntKind.i64.wrap (p.next - s.count) < s.seq)) with hL4 | hL4) <;> (((refine rO (And.intro hL1 (And.intro hL2 (And.intro hL3 (And.intro hL4 (And.intro @SeenD.dv.eq_1 (@ProdD.dv.eq_1)))))) ?_; try (with_reducible exact True.intro)); (repeat (refine bcf (by assumption) ?_; (refine rO (And.intro hL1 (And.intro hL2 (And.intro hL3 (And.intro hL4 (And.intro @SeenD.dv.eq_1 (@ProdD.dv.eq_1)))))) ?_; try (with_reducible exact True.intro))))); all_goals (exact (show okTr _ _ = true by kernel_rfl))))
      refine Wp.cond (by (refine rO0 ?_; try (with_reducible exact True.intro)); rfl) (fun h => ?_) (fun h => ?_)
      · have hf := hbad h
        (refine gO0 ?_; try (with_reducible exact True.intro))
        (refine rO (hf) ?_; try (with_reducible exact True.intro))
      · have hf := hgood h
        (refine gO0 ?_; try (with_reducible exact True.intro))
        refine ⟨k + 1, ⟨by omega, hf⟩, by omega, Weak.keep rfl rfl ?_⟩
        (refine rO (@ProdD.dv.eq_1) ?_; try (with_reducible exact True.intro))
  · have hk2 : k = p.seen.length := by simp only [decide_eq_false_iff_not] at h; omega
    have hf : chkF p.seen p.next = true := (chkF_all _ _).2 (fun i s hs => hall i s (by have := (List.getElem?_eq_some_iff.1 hs).1; omega) hs)
    (refine gO0 ?_; try (with_reducible exact True.intro))
    (refine rO (And.intro hkn (hf)) ?_; try (with_reducible exact True.intro))
end Go.Proofs.YtafipkbffboebaaDoor
namespace Go.Proofs.YtafipkbffboebaaDoor
open Go Go.RowKit
set_option maxHeartbeats 8000000
set_option maxRecDepth 100000
set_option linter.unusedVariables false
set_option linter.unusedSimpArgs false
structure SmallL (l : List ProdD) : Prop where
  len : l.length ≤ 100000
  seen : ∀ p ∈ l, p.seen.length ≤ 100000
def mayR : List ProdD → Int → Bool
  | [], _ => true
  | p :: l, last => !(decide (p.pid ≤ last) || !knownB p) && mayR l p.pid
def mayL (l : List ProdD) : Bool := mayR l 0
def lastL (l : List ProdD) : Nat → Int
  | 0 => 0
  | k + 1 => match l[k]? with
    | some p => p.pid
    | none => 0
theorem mayR_all : ∀ (l : List ProdD) (b : Int), mayR l b = true ↔ ∀ k p, l[k]? = some p → (decide (p.pid ≤ match k with | 0 => b | k + 1 => match l[k]? with | some q => q.pid | none => 0) || !knownB p) = false
  | [], b => by simp [mayR]
  | p :: l, b => by
    rw [mayR, Bool.and_eq_true, mayR_all l p.pid]
    constructor
    · rintro ⟨h1, h2⟩ k q hq
      cases k with
      | zero => simp at hq; subst hq; simpa using h1
      | succ k =>
        have := h2 k q (by simpa using hq)
        cases k with
        | zero => exact this
        | succ k => exact this
    · intro h
      refine ⟨by have := h 0 p rfl; simpa using this, fun k q hq => ?_⟩
      have := h (k + 1) q (by simpa using hq)
      cases k with
      | zero => exact this
      | succ k => exact this
theorem mayL_all (l : List ProdD) : mayL l = true ↔ ∀ k p, l[k]? = some p → (decide (p.pid ≤ lastL l k) || !knownB p) = false := by
  rw [mayL, mayR_all]
  constructor <;> intro h k p hp <;> have := h k p hp <;> cases k <;> exact this
abbrev pzD : ProdD := ⟨0, 0, 0, []⟩
theorem pz_le : DLe (.agg [int 0, int 0, int 0, nilV]) (.agg pzD.dv) := DLe.agg (.cons (.refl _) (.cons (.refl _) (.cons (.refl _) (.cons (.nil 3) .nil))))
def findF (l : List ProdD) (pid : Int) : ProdD × Bool := match l.find? (fun p => p.pid == pid) with
  | some p => (p, true)
  | none => (pzD, false)
end Go.Proofs.YtafipkbffboebaaDoor
namespace Go.Proofs.YtafipkbffboebaaDoor
open Go Go.RowKit
set_option maxHeartbeats 8000000
set_option maxRecDepth 100000
set_option linter.unusedVariables false
set_option linter.unusedSimpArgs false
theorem SeenD_fs (f g : SeenD) : ∃ fs, Tryd.prog.underlying 135 = some (.struct fs) ∧ eqFs Tryd.prog 9999 #[.int .i64 f.seq, .int .i64 f.count, .int .i64 f.base] #[.int .i64 g.seq, .int .i64 g.count, .int .i64 g.base] fs.toList = some (decide (f = g)) := by
  refine ⟨_, Tryd.underlying135, ?_⟩
  have ii : pureRun Tryd.prog (isAgg 3) = some false := by kernel_rfl
  have si := fun x y => eqIn_int (d := 9998) Tryd.underlying3 .i64 x y
  simp only [Nat.reduceAdd] at si
  obtain ⟨a1, a2, a3⟩ := f
  obtain ⟨b1, b2, b3⟩ := g
  have e : decide (SeenD.mk a1 a2 a3 = SeenD.mk b1 b2 b3) = (a1 == b1 && (a2 == b2 && (a3 == b3))) := by rw [Bool.eq_iff_iff]; simp only [SeenD.mk.injEq, Bool.and_eq_true, beq_iff_eq, decide_eq_true_eq]
  rw [e]
  cases h1 : (a1 == b1) <;> cases h2 : (a2 == b2) <;> cases h3 : (a3 == b3) <;> simp [eqFs, ii, si, bs_beq, h1, h2, h3]
theorem SeenD_bin (x y : Operand) (f g : SeenD) : aBin Tryd.prog .eql 135 x y (.agg [.d (int f.seq), .d (int f.count), .d (int f.base)]) (.agg [.d (int g.seq), .d (int g.count), .d (int g.base)]) = some (Res.pure (vb (decide (f = g)))) ∧ aBin Tryd.prog .neq 135 x y (.agg [.d (int f.seq), .d (int f.count), .d (int f.base)]) (.agg [.d (int g.seq), .d (int g.count), .d (int g.base)]) = some (Res.pure (vb (!decide (f = g)))) := by
  obtain ⟨fs, hu, he⟩ := SeenD_fs f g
  exact agg_eql hu (by kernel_rfl) (by kernel_rfl) he
def prodNe (a b : ProdD) : Bool := a.pid != b.pid || a.epoch != b.epoch || a.next != b.next || (a.seen.length : Int) != (b.seen.length : Int)
theorem sameProd_fun (a b : ProdD) (hl : a.seen.length < 2 ^ 40) : Fun Tryd.prog 72 [.agg a.dv, .agg b.dv] (boo (decide (a = b))) := by
  (refine Fun.of_body Tryd.func72 rfl rfl Tryd.ntmps72 Tryd.results72 (by simp) ?_)
  (refine gO (@ProdD.dv.eq_1) ?_; try (with_reducible exact True.intro))
  (first | refine Wp.sto 33 (vb (prodNe a b)) ?_ ?_ | refine Wp.rtoS 33 (vb (prodNe a b)) ?_ ?_ | (refine Wp.seq ?_; first | refine Wp.sto 33 (vb (prodNe a b)) ?_ ?_ | refine Wp.rtoS 33 (vb (prodNe a b)) ?_ ?_))
  · unfold prodNe; ((rcases Bool.eq_false_or_eq_true (a.pid != b.pid) with hL1 | hL1) <;> (rcases Bool.eq_false_or_eq_true (a.epoch != b.epoch) with hL2 | hL2) <;> (rcases Bool.eq_false_or_eq_true (a.next != b.next) with hL3 | hL3) <;> (rcases Bool.eq_false_or_eq_true ((a.seen.length : Int) != (b.seen.length : Int)) with hL4 | hL4) <;> (((refine rO (And.intro hL1 (And.intro hL2 (And.intro hL3 (And.intro hL4 (@ProdD.dv.eq_1))))) ?_; try (with_reducible exact True.intro)); (repeat (refine bcf (by assumption) ?_; (refine rO (And.intro hL1 (And.intro hL2 (And.intro hL3 (And.intro hL4 (@ProdD.dv.eq_1))))) ?_; try (with_reducible exact True.intro))))); all_goals (exact (show okTr _ _ = true by kernel_rfl))))
  refine Wp.cond (by (refine rO0 ?_; try (with_reducible exact True.intro)); rfl) (fun h => ?_) (fun h => ?_)
  · have hf : decide (a = b) = false := by
      refine decide_eq_false (fun e => ?_)
      subst e
      simp [prodNe] at h
    (refine gO0 ?_; try (with_reducible exact True.intro))
    (refine rO (hf) ?_; try (with_reducible exact True.intro))
  simp only [prodNe, Bool.or_eq_false_iff, bne_eq_false_iff_eq] at h
  obtain ⟨⟨⟨h1, h2⟩, h3⟩, h5⟩ := h
  have hlen : a.seen.length = b.seen.length := by omega
  (refine gO (@ProdD.dv.eq_1) ?_; try (with_reducible exact True.intro))
  refine Wp.loop (fun k : Nat => ⟨ofL [(2, .c (.own 0 0)), (3, .c (.own 1 0)), (5, vi .i64 k)], ofH [(0, .cells (a.dv.map .d)), (1, .cells (b.dv.map .d))], 2, 52, 0⟩) (fun k => k ≤ a.seen.length ∧ a.seen.take k = b.seen.take k) (fun k => a.seen.length - k) 0 ⟨Nat.zero_le _, rfl⟩ ?_ ?_
  · refine Weak.keep rfl rfl ?_
    (refine rO (@ProdD.dv.eq_1) ?_; try (with_reducible exact True.intro))
  rintro k ⟨hk, hall⟩
  (refine gO (@ProdD.dv.eq_1) ?_; try (with_reducible exact True.intro))
  refine Wp.cond (by (refine rO0 ?_; try (with_reducible exact True.intro)); rfl) (fun h => ?_) (fun h => ?_)
  · have hlt : k < a.seen.length := by simpa using h
    have hlt2 : k < b.seen.length := by omega
    have g1 : a.seen[k]? = some a.seen[k] := List.getElem?_eq_getElem hlt
    have g2 : b.seen[k]? = some b.seen[k] := List.getElem?_eq_getElem hlt2
    have t1 := take_succ_get a.seen k hlt
    have t2 := take_succ_get b.seen k hlt2
    have hne : a.seen[k] ≠ b.seen[k] → ¬ a = b := fun hx e => by subst e; exact hx rfl
    generalize a.seen[k] = x at *
    generalize b.seen[k] = y at *
    (refine gO (And.intro g1 (And.intro g2 (And.intro @SeenD.dv.eq_1 (@SeenD_bin)))) ?_; try (with_reducible exact True.intro))
    refine Wp.cond (by (refine rO0 ?_; try (with_reducible exact True.intro)); rfl) (fun h => ?_) (fun h => ?_)
    · have hf : decide (a = b) = false := decide_eq_false (hne (by simpa using h))
      (refine gO0 ?_; try (with_reducible exact True.intro))
      (refine rO (hf) ?_; try (with_reducible exact True.intro))
    · simp only [Bool.not_eq_false', decide_eq_true_eq] at h
      (refine gO0 ?_; try (with_reducible exact True.intro))
      refine ⟨k + 1, ⟨by omega, by rw [t1, t2, hall, h]⟩, by omega, Weak.keep rfl rfl ?_⟩
      (refine rO (@ProdD.dv.eq_1) ?_; try (with_reducible exact True.intro))
  · have hk : k = a.seen.length := by simp only [decide_eq_false_iff_not] at h; omega
    have hf : decide (a = b) = true := by
      rw [List.take_of_length_le (by omega), List.take_of_length_le (by omega)] at hall
      obtain ⟨a1, a2, a3, a4⟩ := a
      obtain ⟨b1, b2, b3, b4⟩ := b
      simp only at h1 h2 h3 hall
      subst h1 h2 h3 hall
      simp
    (refine gO0 ?_; try (with_reducible exact True.intro))
    (refine rO (hf) ?_; try (with_reducible exact True.intro))
end Go.Proofs.YtafipkbffboebaaDoor
namespace Go.Proofs.YtafipkbffboebaaDoor
open Go Go.RowKit
set_option maxHeartbeats 8000000
set_option maxRecDepth 100000
set_option linter.unusedVariables false
set_option linter.unusedSimpArgs false
/-- Where a producer stands, or would. -/
def placeI (l : List ProdD) (pid : Int) : Nat := l.findIdx (fun x => decide (pid ≤ x.pid))
def thereB (l : List ProdD) (pid : Int) : Bool := match l[placeI l pid]? with
  | some x => x.pid == pid
  | none => false
def setF (l : List ProdD) (p : ProdD) : List ProdD := l.take (placeI l p.pid) ++ [p] ++ l.drop (if thereB l p.pid then placeI l p.pid + 1 else placeI l p.pid)
theorem placeI_le (l : List ProdD) (pid : Int) : placeI l pid ≤ l.length := List.findIdx_le_length
theorem thereB_lt {l : List ProdD} {pid : Int} (h : thereB l pid = true) : placeI l pid < l.length := by
  unfold thereB at h
  cases hq : l[placeI l pid]? with
  | none => rw [hq] at h; cases h
  | some x => exact (List.getElem?_eq_some_iff.1 hq).1
end Go.Proofs.YtafipkbffboebaaDoor
